/- A reckoner of calls, part 11: every order of a region that draws. Proved over any program. No condition of its own. -/
import Derived.Test.YtcpbbgkeigbndaaGreatGr05
namespace Go.Proofs.YtcpbbgkeigbndaaGreat
open Go Go.RowKit Go.Lib Go.Sort

namespace Ax
/-- One more operation has come up. -/
def more (L : Nat → Bool) (i : Nat) (k : Nat) : Bool := L k || decide (k = i)
theorem more_ne {L : Nat → Bool} {i k : Nat} (h : k ≠ i) : more L i k = L k := by unfold more; simp [h]
theorem more_self {L : Nat → Bool} {i : Nat} : more L i i = true := by unfold more; simp
/-- What the text's order has come to, as a function of its length. -/
def ltB (k j : Nat) : Bool := decide (j < k)
theorem ltB_succ (k : Nat) : ltB (k + 1) = more (ltB k) k := by
  funext j
  unfold ltB more
  rw [Bool.eq_iff_iff]
  simp
  omega
theorem ltB_zero : ltB 0 = fun _ => false := by funext j; simp [ltB]
theorem gAt_wr {g : Eff} {i m : Nat} {r : Row} (h : isWr i ⟨g, m⟩ = true) : gAt g i r = gAt g i .d := by
  unfold gAt
  split
  · rfl
  · rename_i hk
    split
    · rfl
    · rename_i hu
      rcases isWr_iff.1 h with h | h
      · exact absurd h (findU_none hu)
      · rw [memN_iff.2 h] at hk; cases hk
theorem gAt_not {g : Eff} {i m : Nat} {r : Row} (h : isWr i ⟨g, m⟩ = false) : gAt g i r = r := by
  have hn : ¬ (i ∈ g.upd.map (·.1) ∨ i ∈ g.kill) := fun hh => by rw [isWr_iff.2 hh] at h; cases h
  unfold gAt
  split
  · rename_i hk; exact absurd (.inr (memN_iff.1 hk)) hn
  · split
    · rename_i r' hr'
      exact absurd (.inl (List.mem_map.2 ⟨_, findU_some hr', rfl⟩)) hn
    · rfl
theorem gAt_fresh {g : Eff} {i m : Nat} (_h : isWr i ⟨g, m⟩ = true) : gAt g i .d = .d ∨ (i, gAt g i .d) ∈ g.upd := by
  unfold gAt
  split
  · exact .inl rfl
  · rename_i hk
    split
    · rename_i r' hr'; exact .inr (findU_some hr')
    · exact .inl rfl
section
variable {P : Program} {T : Tab P} {b : Base} {H : List (Nat × Hint)} {n : Nat} {ds : Dr} {l : List Oper} {es : List Ent} {st : St}
theorem dst_at {t k : Nat} (h : idxOf (isDst t) l = some k) : ∃ o, l[k]? = some o ∧ o.dst = some t := by
  obtain ⟨o, ho, hp⟩ := idxOf_some h
  exact ⟨o, ho, isDst_iff.1 hp⟩
theorem fLook_congr {L L' : Nat → Bool} {t : Nat} (h : ∀ k, idxOf (isDst t) l = some k → L k = L' k) : fLook l es st L t = fLook l es st L' t := by
  unfold fLook
  cases hi : idxOf (isDst t) l with
  | none => rfl
  | some k => simp only [h k hi]
theorem fBase_congr {L L' : Nat → Bool} {i : Nat} (h1 : ∀ k, idxOf (isNew i) es = some k → L k = L' k) : fBase es st L i = fBase es st L' i := by
  unfold fBase
  cases hi : idxOf (isNew i) es with
  | none => rfl
  | some k => simp only [h1 k hi]
theorem fRow_congr {L L' : Nat → Bool} {i : Nat} (h1 : ∀ k, idxOf (isNew i) es = some k → L k = L' k) (h2 : ∀ k, idxOf (isWr i) es = some k → L k = L' k) : fRow es st L i = fRow es st L' i := by
  unfold fRow
  cases hi : idxOf (isWr i) es with
  | none => exact fBase_congr h1
  | some k => simp only [h2 k hi, fBase_congr h1]
theorem fLook_more {ops : Array Oper} {L : Nat → Bool} {i t : Nat} {o : Oper} {en : Ent} (ho : l[i]? = some o) (he : es[i]? = some en) (hB : Okb ops l es n i o en) : fLook l es st (more L i) t = if o.dst = some t then en.g.ret.known else fLook l es st L t := by
  split
  · rename_i hd
    have := (hB.dst t hd).2
    unfold fLook
    simp only [this, more_self, if_true, he, Option.bind_some]
  · rename_i hd
    refine fLook_congr fun k hk => more_ne ?_
    rintro rfl
    obtain ⟨o', ho', hd'⟩ := dst_at hk
    rw [ho] at ho'
    cases ho'
    exact hd hd'
theorem fRow_more_other {L : Nat → Bool} {i c : Nat} {en : Ent} (he : es[i]? = some en) (h1 : isNew c en = false) (h2 : isWr c en = false) : fRow es st (more L i) c = fRow es st L c := by
  refine fRow_congr (fun k hk => more_ne ?_) (fun k hk => more_ne ?_)
  · rintro rfl
    obtain ⟨en', he', hr⟩ := idxOf_some hk
    rw [he] at he'
    cases he'
    rw [h1] at hr
    cases hr
  · rintro rfl
    obtain ⟨en', he', hr⟩ := idxOf_some hk
    rw [he] at he'
    cases he'
    rw [h2] at hr
    cases hr
theorem fRow_more_new {ops : Array Oper} {L : Nat → Bool} {i c : Nat} {o : Oper} {en : Ent} (he : es[i]? = some en) (hB : Okb ops l es n i o en) (hn : isNew c en = true) (hs : ∀ s, idxOf (isWr c) es = some s → L s = false) : fRow es st (more L i) c = en.g.new[c - en.m]? := by
  have hi := (hB.nw c hn).1
  have hb : fBase es st (more L i) c = en.g.new[c - en.m]? := by
    unfold fBase
    simp only [hi, more_self, if_true, he, Option.bind_some]
  unfold fRow
  cases hw : idxOf (isWr c) es with
  | none => exact hb
  | some s =>
    have hlt := (hB.nw c hn).2 s hw
    simp only [more_ne (show s ≠ i by omega), hs s hw, Bool.false_eq_true, if_false, hb]
theorem fRow_more_wr {ops : Array Oper} {L : Nat → Bool} {i c : Nat} {o : Oper} {en : Ent} (he : es[i]? = some en) (hB : Okb ops l es n i o en) (hn : isWr c en = true) : fRow es st (more L i) c = some (gAt en.g c .d) := by
  have hi := (hB.wr c hn).1
  unfold fRow
  simp only [hi, more_self, if_true, he, Option.map_some]
theorem fLook_none {t : Nat} : fLook l es st (fun _ => false) t = look st.fr t := by
  unfold fLook
  split <;> rfl
theorem fRow_none {i : Nat} (h : ∀ k, idxOf (isNew i) es = some k → st.mem[i]? = none) : fRow es st (fun _ => false) i = st.mem[i]? := by
  have hb : fBase es st (fun _ => false) i = st.mem[i]? := by
    unfold fBase
    split
    · rfl
    · rename_i k hk
      rw [h k hk]
      rfl
  unfold fRow
  split
  · exact hb
  · exact hb
theorem applyE_mem {s : St} {o : Oper} {g : Eff} : (applyE n s o g).mem = gMem s.mem g := put_mem
theorem entOk_m {ops : Array Oper} {s : St} {o : Oper} {en : Ent} (h : EntOk P T b H ops s o en) : en.m = s.mem.length := by
  rcases h with ⟨_, rfl⟩ | ⟨_, h, _⟩
  · rfl
  · exact h
/-- What an entry must say of its place. -/
def EntS (s : St) (en : Ent) : Prop := en.m = s.mem.length ∧ ∀ i, isWr i en = true → i ∈ en.g.see ∧ i < s.mem.length
theorem entOk_wr {ops : Array Oper} {s : St} {o : Oper} {en : Ent} (h : EntOk P T b H ops s o en) {i : Nat} (hi : isWr i en = true) : i ∈ en.g.see ∧ i < s.mem.length := by
  rcases h with ⟨_, rfl⟩ | ⟨_, _, h, _⟩
  · cases hi
  · unfold gOk at h
    simp only [Bool.and_eq_true] at h
    obtain ⟨hu, hk, _⟩ := h
    rcases isWr_iff.1 hi with hi | hi
    · obtain ⟨q, hq, rfl⟩ := List.mem_map.1 hi
      have := allB_spec hu q hq
      simp only [Bool.and_eq_true] at this
      exact ⟨memN_iff.1 this.2.1, Nat.le_of_ble_eq_true this.1⟩
    · have := allB_spec hk i hi
      simp only [Bool.and_eq_true] at this
      exact ⟨memN_iff.1 this.2, Nat.le_of_ble_eq_true this.1⟩
theorem entOk_s {ops : Array Oper} {s : St} {o : Oper} {en : Ent} (h : EntOk P T b H ops s o en) : EntS s en := ⟨entOk_m h, fun _ hi => entOk_wr h hi⟩
variable {ops : Array Oper} (hlen : es.length = l.length) (hB : ∀ k o en, l[k]? = some o → es[k]? = some en → Okb ops l es n k o en) (hE : ∀ k o en, l[k]? = some o → es[k]? = some en → EntS (runE n st l es k) en)
include hlen hB hE
omit hB hE in
theorem mem_len : ∀ k, k ≤ l.length → st.mem.length ≤ (runE n st l es k).mem.length := by
  intro k
  induction k with
  | zero => intro _; rw [runE_zero]; exact Nat.le_refl _
  | succ k ih =>
    intro hk
    obtain ⟨o, ho⟩ : ∃ o, l[k]? = some o := ⟨_, List.getElem?_eq_getElem (by omega)⟩
    obtain ⟨en, he⟩ : ∃ en, es[k]? = some en := ⟨_, List.getElem?_eq_getElem (by omega)⟩
    rw [runE_succ ho he, applyE_mem, gMem_length]
    have := ih (by omega)
    omega
omit hE in
theorem look_at : ∀ k, k ≤ l.length → ∀ t, look (runE n st l es k).fr t = fLook l es st (ltB k) t := by
  intro k
  induction k with
  | zero => intro _ t; rw [runE_zero, ltB_zero, fLook_none]
  | succ k ih =>
    intro hk t
    obtain ⟨o, ho⟩ : ∃ o, l[k]? = some o := ⟨_, List.getElem?_eq_getElem (by omega)⟩
    obtain ⟨en, he⟩ : ∃ en, es[k]? = some en := ⟨_, List.getElem?_eq_getElem (by omega)⟩
    rw [runE_succ ho he, ltB_succ, fLook_more ho he (hB k o en ho he), ← ih (by omega) t]
    unfold applyE St.put
    cases hd : o.dst with
    | none => simp
    | some d =>
      have : Nat.blt d n = true := Nat.ble_eq_true_of_le ((hB k o en ho he).dst d hd).1
      simp only [this, look_put, Option.some.injEq]
omit hB in
theorem new_fresh {i k : Nat} (hk : idxOf (isNew i) es = some k) : st.mem[i]? = none := by
  obtain ⟨en, he, hr⟩ := idxOf_some hk
  have hkl : k < l.length := by rw [← hlen]; exact (List.getElem?_eq_some_iff.1 he).1
  have hm := (hE k _ en (List.getElem?_eq_getElem hkl) he).1
  have := mem_len (n := n) (st := st) hlen k (by omega)
  have := (isNew_iff.1 hr).1
  exact List.getElem?_eq_none (by omega)
theorem row_at : ∀ k, k ≤ l.length → ∀ i : Nat, (runE n st l es k).mem[i]? = fRow es st (ltB k) i := by
  intro k
  induction k with
  | zero => intro _ i; rw [runE_zero, ltB_zero, fRow_none fun k hk => new_fresh hlen hE hk]
  | succ k ih =>
    intro hk i
    obtain ⟨o, ho⟩ : ∃ o, l[k]? = some o := ⟨_, List.getElem?_eq_getElem (by omega)⟩
    obtain ⟨en, he⟩ : ∃ en, es[k]? = some en := ⟨_, List.getElem?_eq_getElem (by omega)⟩
    have ih := ih (by omega)
    have hbk := hB k o en ho he
    have hek := hE k o en ho he
    have hm := hek.1
    rw [runE_succ ho he, ltB_succ, applyE_mem, gMem_eq]
    cases hw : isWr i en with
    | true =>
      obtain ⟨_, hlt⟩ := hek.2 i hw
      rw [fRow_more_wr he hbk hw, List.getElem?_append_left (by rw [gUpd_length]; exact hlt), gUpd_get, Nat.zero_add, List.getElem?_eq_getElem hlt, Option.map_some, gAt_wr (m := en.m) hw]
    | false =>
      cases hn : isNew i en with
      | true =>
        obtain ⟨h1, h2⟩ := isNew_iff.1 hn
        rw [fRow_more_new he hbk hn (fun s hs => by have := (hbk.nw i hn).2 s hs; simp [ltB]; omega), List.getElem?_append_right (by rw [gUpd_length]; omega), gUpd_length, hm]
      | false =>
        rw [fRow_more_other he hn hw, ← ih i]
        by_cases hlt : i < (runE n st l es k).mem.length
        · rw [List.getElem?_append_left (by rw [gUpd_length]; exact hlt), gUpd_get, Nat.zero_add]
          cases (runE n st l es k).mem[i]? with
          | none => rfl
          | some r => rw [Option.map_some, gAt_not (m := en.m) hw]
        · rw [List.getElem?_append_right (by rw [gUpd_length]; omega), gUpd_length]
          have : ¬ (en.m ≤ i ∧ i < en.m + en.g.new.length) := fun h => by rw [isNew_iff.2 h] at hn; cases hn
          rw [List.getElem?_eq_none (show (runE n st l es k).mem.length ≤ i by omega), List.getElem?_eq_none (by omega)]
end
/-- What holds when some operations have come up, in whatever order. -/
structure OInv (ds : Dr) (b : Base) (n : Nat) (l : List Oper) (es : List Ent) (st : St) (L : Nat → Bool) (β : Env) (a : Act) (w : World) : Prop where
  size : a.tmps.size = n
  dn : a.defers = ds.l
  get : ∀ t sv, fLook l es st L t = some sv → a.tmps[t]? = some (sv.den β)
  held : ∀ (i : Nat) (r : Row), fRow es st L i = some r → Held b β w i r
  new : ∀ (i : Nat) (r : Row) (k : Nat), fRow es st L i = some r → foot β i r k → b.S k ∨ b.w.heap.size ≤ k
  inj : ∀ (i j : Nat) (r r' : Row) (k : Nat), fRow es st L i = some r → fRow es st L j = some r' → foot β i r k → foot β j r' k → i = j
  cg : Cg b.S b.w w
  wfS : ∀ t sv, fLook l es st L t = some sv → ∀ i ∈ sv.idx, ∃ r, fRow es st L i = some r
  wfR : ∀ (i : Nat) (r : Row), fRow es st L i = some r → ∀ j ∈ r.idx, ∃ r', fRow es st L j = some r'
  keep : ∀ i, i < ds.m → ds.e.at β i ∧ ∃ r, fRow es st L i = some r
  down : ∀ k o, l[k]? = some o → L k = true → ∀ e ∈ o.after, Region.binds .any e = true → L e.on = true
section
variable {P : Program} {T : Tab P} {b : Base} {H : List (Nat × Hint)} {n : Nat} {ds : Dr} {l : List Oper} {es : List Ent} {st : St} {L : Nat → Bool} {β β' : Env} {a : Act} {w w' : World} {i : Nat} {o : Oper} {en : Ent} {Q : Exit → Act → World → Prop}
theorem waits_one {d j k : Nat} {oj : Oper} (h : waitsF l (d + 1) j k = true) (hoj : l[j]? = some oj) : ∃ e ∈ oj.after, Region.binds .any e = true ∧ (e.on = k ∨ waitsF l d e.on k = true) := by
  unfold waitsF at h
  rw [hoj] at h
  obtain ⟨e, he, hb⟩ := List.any_eq_true.1 h
  simp only [Bool.and_eq_true, Bool.or_eq_true] at hb
  exact ⟨e, by simpa using he, hb.1, hb.2.imp Nat.eq_of_beq_eq_true (·.2)⟩
theorem waits_at {d j k : Nat} (h : waitsF l d j k = true) : ∃ oj, l[j]? = some oj := by
  cases d with
  | zero => cases h
  | succ d =>
    unfold waitsF at h
    split at h
    · exact ⟨_, ‹_›⟩
    · cases h
theorem waits_down (hD : ∀ k o, l[k]? = some o → L k = true → ∀ e ∈ o.after, Region.binds .any e = true → L e.on = true) {k : Nat} : ∀ {d j : Nat}, waitsF l d j k = true → L j = true → L k = true
  | 0, _, h, _ => by cases h
  | d + 1, j, h, hj => by
    obtain ⟨oj, hoj⟩ := waits_at h
    obtain ⟨e, he, hb, hon⟩ := waits_one h hoj
    have := hD j oj hoj hj e he hb
    rcases hon with hon | hon
    · rwa [hon] at this
    · exact waits_down hD hon this
theorem waits_ready (hD : ∀ k o, l[k]? = some o → L k = true → ∀ e ∈ o.after, Region.binds .any e = true → L e.on = true) {j k : Nat} {oj : Oper} (hoj : l[j]? = some oj) (hr : ∀ e ∈ oj.after, Region.binds .any e = true → L e.on = true) (h : waitsB l j k = true) : L k = true := by
  unfold waitsB at h
  cases hl : l.length with
  | zero => rw [hl] at h; cases h
  | succ d =>
    rw [hl] at h
    obtain ⟨e, he, hb, hon⟩ := waits_one h hoj
    have := hr e he hb
    rcases hon with hon | hon
    · rwa [hon] at this
    · exact waits_down hD hon this
theorem settled_spec (hI : OInv ds b n l es st L β a w) (ho : l[i]? = some o) (hL : L i = false) (hr : ∀ e ∈ o.after, Region.binds .any e = true → L e.on = true) {k : Nat} (hs : settledB l i k = true) : L k = ltB i k := by
  unfold settledB at hs
  unfold ltB
  split at hs
  · rename_i hlt
    have hlt : k < i := Nat.le_of_ble_eq_true hlt
    rw [waits_ready hI.down ho hr hs]; simp [hlt]
  · rename_i hlt
    have hlt : ¬ k < i := fun h => by rw [show Nat.blt k i = true from Nat.ble_eq_true_of_le h] at hlt; cases hlt
    split at hs
    · rename_i heq
      rw [Nat.eq_of_beq_eq_true heq, hL]; simp
    · cases hLk : L k with
      | false => simp [hlt]
      | true =>
        have := waits_down hI.down hs hLk
        rw [hL] at this
        cases this
theorem OInv.next {ops : Array Oper} {row : Nat → Option Row} (hI : OInv ds b n l es st L β a w) (ho : l[i]? = some o) (he : es[i]? = some en) (hB : Okb ops l es n i o en) (hr : ∀ e ∈ o.after, Region.binds .any e = true → L e.on = true) (hL : L i = false)
    (hs : ∀ c s, isNew c en = true → idxOf (isWr c) es = some s → L s = false) (hrow : ∀ c r, c ∈ en.g.see → row c = some r → fRow es st L c = some r) (hwr : ∀ c, isWr c en = true → c ∈ en.g.see)
    (hm : ∀ c ∈ ment en.g, isNew c en = true ∨ ∃ r, fRow es st L c = some r) (hp : Post b β w row en.m en.g w' β') : OInv ds b n l es st (more L i) β' (a.put o.dst (en.g.ret.den β')) w' := by
  have dead : ∀ c, isNew c en = true → fRow es st L c = none := fun c hc => by
    have hi := (hB.nw c hc).1
    have hb : fBase es st L c = none := by unfold fBase; simp only [hi, hL, Bool.false_eq_true, if_false]
    unfold fRow
    cases hw : idxOf (isWr c) es with
    | none => exact hb
    | some s => simp only [hs c s hc hw, Bool.false_eq_true, if_false, hb]
  have live : ∀ c r, fRow es st L c = some r → isNew c en = false := fun c r h => by
    cases hn : isNew c en with
    | false => rfl
    | true => rw [dead c hn] at h; cases h
  have out : ∀ c, isNew c en = false → c < en.m ∨ en.m + en.g.new.length ≤ c := fun c hc => by
    rcases Nat.lt_or_ge c en.m with h | h
    · exact .inl h
    · rcases Nat.lt_or_ge c (en.m + en.g.new.length) with h' | h'
      · rw [isNew_iff.2 ⟨h, h'⟩] at hc; cases hc
      · exact .inr h'
  have kind : ∀ c r, fRow es st (more L i) c = some r → r = .d ∨ en.g.fresh en.m (c, r) ∨ (fRow es st L c = some r ∧ isWr c en = false ∧ isNew c en = false) := by
    intro c r h
    cases hw : isWr c en with
    | true =>
      rw [fRow_more_wr he hB hw] at h
      cases h
      rcases gAt_fresh (m := en.m) hw with h | h
      · exact .inl h
      · exact .inr (.inl (.inl h))
    | false =>
      cases hn : isNew c en with
      | true =>
        rw [fRow_more_new he hB hn (fun s h => hs c s hn h)] at h
        have := (isNew_iff.1 hn).1
        exact .inr (.inl (.inr ⟨c - en.m, h, by show c = _; omega⟩))
      | false =>
        rw [fRow_more_other he hn hw] at h
        exact .inr (.inr ⟨h, rfl, rfl⟩)
  have nwr : ∀ c, isWr c en = false → c ∉ en.g.upd.map (·.1) ∧ c ∉ en.g.kill := fun c hc => ⟨fun h => (by rw [isWr_iff.2 (.inl h)] at hc; cases hc), fun h => (by rw [isWr_iff.2 (.inr h)] at hc; cases hc)⟩
  have at_ : ∀ c, isNew c en = false → β.at β' c := fun c hc => hp.same c (out c hc)
  have oldFoot : ∀ c r, isNew c en = false → isWr c en = false → foot β c r = foot β' c r := fun c r hn hw => foot_congr (at_ c hn) (hp.sameF c (out c hn) (nwr c hw).1)
  have turned : ∀ k, Turned β row en.g k → ∃ c r, isWr c en = true ∧ fRow es st L c = some r ∧ foot β c r k := by
    rintro k ⟨c, r, hc, h1, h2⟩
    have hw : isWr c en = true := isWr_iff.2 hc
    exact ⟨c, r, hw, hrow c r (hwr c hw) h1, h2⟩
  have off : ∀ c r k, fRow es st L c = some r → isWr c en = false → foot β c r k → ¬ Turned β row en.g k := by
    intro c r k h hw hf ht
    obtain ⟨c', r', hw', h', hf'⟩ := turned k ht
    have := hI.inj c c' r r' k h h' hf hf'
    subst this
    rw [hw] at hw'
    cases hw'
  have mixed : ∀ c r (q : Nat × Row) k, fRow es st L c = some r → isWr c en = false → isNew c en = false → en.g.fresh en.m q → foot β' c r k → foot β' q.1 q.2 k → False := by
    intro c r q k h hw hn hq hf hf'
    rw [← oldFoot c r hn hw] at hf
    rcases hp.from_ q hq k hf' with hx | hx
    · exact off c r k h hw hf hx
    · have := (hI.held c r h).lt hf
      omega
  -- what is there stays there
  have up : ∀ c, (∃ r, fRow es st L c = some r) → ∃ r, fRow es st (more L i) c = some r := by
    rintro c ⟨r, h⟩
    cases hw : isWr c en with
    | true => exact ⟨_, fRow_more_wr he hB hw⟩
    | false => exact ⟨r, by rw [fRow_more_other he (live c r h) hw]; exact h⟩
  have upN : ∀ c, isNew c en = true → ∃ r, fRow es st (more L i) c = some r := by
    intro c hn
    obtain ⟨h1, h2⟩ := isNew_iff.1 hn
    exact ⟨_, by rw [fRow_more_new he hB hn (fun s h => hs c s hn h)]; exact List.getElem?_eq_getElem (by omega)⟩
  have upM : ∀ c ∈ ment en.g, ∃ r, fRow es st (more L i) c = some r := fun c hc => by
    rcases hm c hc with h | h
    · exact upN c h
    · exact up c h
  refine ⟨?_, ?_, fun t sv ht => ?_, fun c r hc => ?_, fun c r k hc hk => ?_, fun c c' r r' k hc hc' hk hk' => ?_, hI.cg.seq hp.cg fun k hk => ?_, fun t sv ht => ?_, fun c r hc => ?_, fun c hc => ?_, fun k ok hok hk e hee hb => ?_⟩
  · cases o.dst <;> simp [Act.put, hI.size]
  · cases o.dst <;> simp [Act.put, hI.dn]
  · rw [fLook_more ho he hB] at ht
    split at ht
    · rename_i hd
      rw [hd, get_put (by rw [hI.size]; exact (hB.dst t hd).1), if_pos rfl, known_some ht]
    · rename_i hd
      rw [← den_congr (β := β) sv fun j hj => by obtain ⟨r, h⟩ := hI.wfS t sv ht j hj; exact at_ j (live j r h)]
      cases hd' : o.dst with
      | none => exact hI.get t sv ht
      | some d =>
        rw [get_put (by rw [hI.size]; exact (hB.dst d hd').1), if_neg (fun h => hd (by rw [hd', h]))]
        exact hI.get t sv ht
  · rcases kind c r hc with rfl | hq | ⟨h, hw, hn⟩
    · trivial
    · exact hp.held _ hq
    · exact Held.congr (at_ c hn) (hp.sameF c (out c hn) (nwr c hw).1) (fun j hj => by obtain ⟨r', h'⟩ := hI.wfR c r h j hj; exact at_ j (live j r' h')) ((hI.held c r h).cg hp.cg fun k hk => off c r k h hw hk)
  · rcases kind c r hc with rfl | hq | ⟨h, hw, hn⟩
    · exact hk.elim
    · rcases hp.from_ _ hq k hk with hx | hx
      · obtain ⟨c', r', _, h', hf'⟩ := turned k hx
        exact hI.new c' r' k h' hf'
      · exact .inr (Nat.le_trans hI.cg.size hx)
    · rw [← oldFoot c r hn hw] at hk
      exact hI.new c r k h hk
  · rcases kind c r hc with rfl | hq | ⟨h, hw, hn⟩
    · exact hk.elim
    · rcases kind c' r' hc' with rfl | hq' | ⟨h', hw', hn'⟩
      · exact hk'.elim
      · exact hp.apart _ _ k hq hq' hk hk'
      · exact (mixed c' r' _ k h' hw' hn' hq hk' hk).elim
    · rcases kind c' r' hc' with rfl | hq' | ⟨h', hw', hn'⟩
      · exact hk'.elim
      · exact (mixed c r _ k h hw hn hq' hk hk').elim
      · rw [← oldFoot c r hn hw] at hk
        rw [← oldFoot c' r' hn' hw'] at hk'
        exact hI.inj c c' r r' k h h' hk hk'
  · obtain ⟨c', r', _, h', hf'⟩ := turned k hk
    exact hI.new c' r' k h' hf'
  · intro j hj
    rw [fLook_more ho he hB] at ht
    split at ht
    · rw [known_some ht] at hj
      exact upM j (List.mem_append_left _ hj)
    · exact up j (hI.wfS t sv ht j hj)
  · intro j hj
    rcases kind c r hc with rfl | hq | ⟨h, hw, hn⟩
    · cases hj
    · refine upM j (List.mem_append_right _ ?_)
      rcases hq with hq | ⟨k, hq, _⟩
      · exact List.mem_append_left _ (List.mem_flatMap.2 ⟨_, hq, hj⟩)
      · exact List.mem_append_right _ (List.mem_flatMap.2 ⟨_, List.mem_of_getElem? hq, hj⟩)
    · exact up j (hI.wfR c r h j hj)
  · obtain ⟨h1, r, h2⟩ := hI.keep c hc
    have h3 := at_ c (live c r h2)
    exact ⟨⟨h1.1.trans h3.1, h1.2.trans h3.2⟩, up c ⟨r, h2⟩⟩
  · by_cases hki : k = i
    · subst hki
      rw [ho] at hok
      cases hok
      have := hr e hee hb
      unfold more; rw [this]; rfl
    · rw [more_ne hki] at hk
      have := hI.down k ok hok hk e hee hb
      unfold more; rw [this]; rfl
theorem any_step {ops : Array Oper} (hops : ∀ (i : Nat) o, l[i]? = some o → ops[i]? = some o) (hI : OInv ds b n l es st L β a w) (ho : l[i]? = some o) (he : es[i]? = some en) (hB : ∀ k o en, l[k]? = some o → es[k]? = some en → Okb ops l es n k o en) (hlen : es.length = l.length)
    (hE : ∀ k o en, l[k]? = some o → es[k]? = some en → EntS (runE n st l es k) en) (hent : EntOk P T b H ops (runE n st l es i) o en) (hM : Okm l es i en) (hL : L i = false) (hr : ∀ e ∈ o.after, Region.binds .any e = true → L e.on = true) {K : Act → World → Prop}
    (hK : ∀ β' a' w', OInv ds b n l es st (more L i) β' a' w' → K a' w') : wpOp P ops Q i K a w := by
  have hil : i < l.length := (List.getElem?_eq_some_iff.1 ho).1
  have hb := hB i o en ho he
  have hlook := look_at (st := st) hlen hB i (by omega)
  have hrows := row_at (ops := ops) (st := st) hlen hB hE i (by omega)
  have hlk : ∀ t ∈ o.looksAt ops, look (runE n st l es i).fr t = fLook l es st L t := fun t ht => by
    rw [hlook]
    refine fLook_congr fun k hk => (settled_spec hI ho hL hr ?_).symm
    have := hb.looks t ht
    rw [hk] at this
    exact this
  have htmp : ∀ t, Operand.tmp t ∈ o.op.operands → t ∈ o.looksAt ops := fun t ht => by
    unfold Oper.looksAt
    exact List.mem_append_left _ (List.mem_filterMap.2 ⟨.tmp t, by simpa using ht, rfl⟩)
  have hag : Agree o a (ev (runE n st l es i).fr) β := by
    intro x hx sv hsv
    cases x with
    | tmp t =>
      have h1 : fLook l es st L t = some sv := by rw [← hlk t (htmp t hx)]; exact hsv
      have := hI.get t sv h1
      simp [Act.eval, this]
    | const v => simp only [ev, Option.some.injEq] at hsv; subst hsv; rfl
    | global g => simp only [ev, Option.some.injEq] at hsv; subst hsv; rfl
    | func f => simp only [ev, Option.some.injEq] at hsv; subst hsv; rfl
  have hw : ∀ {c}, guardOf ops (ev (runE n st l es i).fr) o = some c → Region.wanted o (yielded ops a.tmps) = c := fun hg =>
    guard_at (β := β) (fun t ht sv hsv => hI.get t sv (by rw [← hlk t ht]; exact hsv)) hg
  have hwaits : ∀ c s, isNew c en = true → idxOf (isWr c) es = some s → L s = false := by
    intro c s hc hs
    obtain ⟨ens, hes, hws⟩ := idxOf_some hs
    have hsl : s < l.length := by rw [← hlen]; exact (List.getElem?_eq_some_iff.1 hes).1
    obtain ⟨os, hos⟩ : ∃ os, l[s]? = some os := ⟨_, List.getElem?_eq_getElem hsl⟩
    have hsee := ((hE s os ens hos hes).2 _ hws).1
    have hset := ((hB s os ens hos hes).see c hsee).1
    have hidx := (hb.nw c hc).1
    have hlt := (hb.nw c hc).2 s hs
    rw [hidx] at hset
    cases hLs : L s with
    | false => rfl
    | true =>
      have hset : settledB l s i = true := hset
      unfold settledB at hset
      rw [show Nat.blt i s = true from Nat.ble_eq_true_of_le hlt] at hset
      have := waits_down hI.down hset hLs
      rw [hL] at this
      cases this
  have hrow' : ∀ c r, c ∈ en.g.see → rowAt (runE n st l es i).mem c = some r → fRow es st L c = some r := by
    intro c r hc hrb
    have hset := hb.see c hc
    have : (runE n st l es i).mem[c]? = some r := hrb
    rw [hrows] at this
    rw [← this]
    refine fRow_congr (fun k hk => settled_spec hI ho hL hr ?_) (fun k hk => settled_spec hI ho hL hr ?_)
    · have := hset.1
      rw [hk] at this
      exact this
    · have := hset.2
      rw [hk] at this
      exact this
  have hment : gOk (runE n st l es i).mem en.g = true → en.m = (runE n st l es i).mem.length → ∀ c ∈ ment en.g, isNew c en = true ∨ ∃ r, fRow es st L c = some r := by
    intro hok hm c hc
    rcases hM c hc with h | h
    · exact .inl h
    · cases hn : isNew c en with
      | true => exact .inl rfl
      | false =>
        right
        have hlt : c < (runE n st l es i).mem.length + en.g.new.length := by
          unfold gOk at hok
          simp only [Bool.and_eq_true] at hok
          obtain ⟨hu, _, hnw, hret⟩ := hok
          unfold ment at hc
          rcases List.mem_append.1 hc with hc | hc
          · exact ltAll_spec hret c hc
          · rcases List.mem_append.1 hc with hc | hc
            · obtain ⟨q, hq, hc⟩ := List.mem_flatMap.1 hc
              have := allB_spec hu q hq
              simp only [Bool.and_eq_true] at this
              exact ltAll_spec this.2.2 c hc
            · obtain ⟨q, hq, hc⟩ := List.mem_flatMap.1 hc
              exact ltAll_spec (allB_spec hnw q hq) c hc
        have hlt : c < (runE n st l es i).mem.length := by
          rcases Nat.lt_or_ge c (runE n st l es i).mem.length with h | h
          · exact h
          · rw [isNew_iff.2 ⟨by omega, by omega⟩] at hn; cases hn
        have hx : fRow es st (ltB i) c = some ((runE n st l es i).mem[c]'hlt) := by rw [← hrows]; exact List.getElem?_eq_getElem hlt
        have hbase : fBase es st L c = fBase es st (ltB i) c := fBase_congr fun k hk => settled_spec hI ho hL hr (by rw [hk] at h; exact h)
        unfold fRow at hx ⊢
        cases hwi : idxOf (isWr c) es with
        | none => rw [hwi] at hx; exact ⟨_, by rw [hbase]; exact hx⟩
        | some s =>
          rw [hwi] at hx
          simp only at hx ⊢
          obtain ⟨ens, hes, _⟩ := idxOf_some hwi
          by_cases hLs : L s = true
          · rw [if_pos hLs, hes]; exact ⟨_, rfl⟩
          · rw [if_neg hLs, hbase]
            -- the row is there ahead of its writer
            by_cases hsi : ltB i s = true
            · rw [if_pos hsi] at hx
              obtain ⟨ens', hes', hws⟩ := idxOf_some hwi
              have hsl : s < l.length := by rw [← hlen]; exact (List.getElem?_eq_some_iff.1 hes').1
              obtain ⟨os, hos⟩ : ∃ os, l[s]? = some os := ⟨_, List.getElem?_eq_getElem hsl⟩
              have hlt2 := ((hE s os ens' hos hes').2 _ hws).2
              have hrs := row_at (ops := ops) (st := st) hlen hB hE s (by omega) c
              have hbs : fBase es st (ltB s) c = fBase es st (ltB i) c := fBase_congr fun k hk => by
                have h1 := ((hB s os ens' hos hes').wr c hws).2 k hk
                have h2 : s < i := by simpa [ltB] using hsi
                simp [ltB, h1, Nat.lt_trans h1 h2]
              rw [List.getElem?_eq_getElem hlt2] at hrs
              unfold fRow at hrs
              rw [hwi] at hrs
              simp only [show ltB s s = false by simp [ltB], Bool.false_eq_true, if_false] at hrs
              exact ⟨_, by rw [← hbs]; exact hrs.symm⟩
            · rw [if_neg hsi] at hx
              exact ⟨_, hx⟩
  unfold wpOp
  have hio : ops[i]? = some o := hops i o ho
  simp only [hio]
  rcases hent with ⟨hg, hen⟩ | ⟨hg, hm, hok, hcomes⟩
  · rw [hw hg, if_neg (by decide)]
    have hg0 : en.g = .pure [] (.v undef) := by rw [hen]; rfl
    refine hK β _ _ ?_
    have := hI.next (row := fun _ => none) ho he hb hr hL hwaits (fun c r hc h => by cases h) (fun c hc => by rw [hen] at hc; cases hc) (fun c hc => by rw [hg0] at hc; cases hc) (β' := β) (w' := w) (by rw [hg0]; exact post_pure (Cg.refl _ _))
    rw [hg0] at this
    exact this
  · rw [hw hg, if_pos rfl]
    have hsee : See b β w (rowAt (runE n st l es i).mem) en.g.see :=
      ⟨hI.cg, fun c hc r h => hI.held c r (hrow' c r hc h), fun c hc r k h hk => hI.new c r k (hrow' c r hc h) hk, fun c hc c' hc' r r' k h h' hk hk' => hI.inj c c' r r' k (hrow' c r hc h) (hrow' c' r' hc' h') hk hk'⟩
    refine .inl (runs_wp (hcomes _ _ _ hag hsee) fun v w' hp => ?_)
    obtain ⟨β', rfl, hpost⟩ := hp
    exact hK β' _ _ (hI.next ho he hb hr hL hwaits hrow' (fun c hc => ((hE i o en ho he).2 _ hc).1) (hment hok hm) (by rw [hm]; exact hpost))
theorem more_listed {listed : Array Bool} (h : i < listed.size) : more (fun k => listed.getD k false) i = fun k => (listed.setIfInBounds i true).getD k false := by
  funext k
  by_cases hk : k = i
  · subst hk
    rw [more_self]
    simp [h]
  · rw [more_ne hk, getD_set_ne false (Ne.symm hk)]
/-- An operation waits for another one, as its text says. -/
def waits1 (o : Oper) (k : Nat) : Bool := o.after.toList.any fun e => Region.binds .any e && Nat.beq e.on k
theorem waits1_spec {o : Oper} {k : Nat} (h : waits1 o k = true) : ∃ e ∈ o.after, Region.binds .any e = true ∧ e.on = k := by
  unfold waits1 at h
  obtain ⟨e, he, hb⟩ := List.any_eq_true.1 h
  rw [Bool.and_eq_true] at hb
  exact ⟨e, by simpa using he, hb.1, Nat.eq_of_beq_eq_true hb.2⟩
/-- Operations that come up one behind the other, and behind so many others. -/
structure Tail (ops : Array Oper) (p : Nat) : Prop where
  le : p ≤ ops.size
  first : ∀ o, ops[p]? = some o → ∀ k, k < p → ∃ e ∈ o.after, Region.binds .any e = true ∧ e.on = k
  next : ∀ j o, p < j → ops[j]? = some o → ∃ e ∈ o.after, Region.binds .any e = true ∧ e.on = j - 1
  down : ∀ j o, p ≤ j → ops[j]? = some o → ∀ e ∈ o.after, Region.binds .any e = true → e.on < j
theorem getD_listed {listed : Array Bool} {k : Nat} : listed.getD k false = true ↔ listed[k]? = some true := by
  rw [Array.getD_eq_getD_getElem?]
  cases h : listed[k]? with
  | none => simp
  | some b => cases b <;> simp
/-- Behind the others: one operation behind the other. -/
theorem tail_any {ops : Array Oper} {p : Nat} (hT : Tail ops p) : ∀ (l2 : List Oper) (j : Nat) (listed : Array Bool) (a : Act) (w : World), p ≤ j → ops.toList.drop j = l2 → listed.size = ops.size → (∀ k, k < j → listed.getD k false = true) → (∀ k, j ≤ k → listed.getD k false = false) → wpList P ops Q l2 a w → wpAny P .any ops Q l2.length listed a w
  | [], j, listed, a, w, hpj, hd, hsz, h1, h0, hx => by
    have hj : ops.size ≤ j := by
      have := congrArg List.length hd
      simp at this
      omega
    refine ⟨?_, hx⟩
    cases hr : Region.ready .any ops listed with
    | nil => rfl
    | cons x r =>
      exfalso
      have hx : x ∈ Region.ready .any ops listed := by rw [hr]; simp
      obtain ⟨hu, o, ho, _⟩ := mem_ready.1 hx
      have hxl : x < ops.size := (Array.getElem?_eq_some_iff.1 ho).1
      have := h1 x (by omega)
      rw [getD_listed] at this
      simp [this] at hu
  | o :: l2, j, listed, a, w, hpj, hd, hsz, h1, h0, hx => by
    have ho : ops[j]? = some o := by
      have : (ops.toList.drop j)[0]? = some o := by rw [hd]; rfl
      rw [List.getElem?_drop, Nat.add_zero] at this
      simpa using this
    have hjl : j < ops.size := (Array.getElem?_eq_some_iff.1 ho).1
    have hrd : j ∈ Region.ready .any ops listed := by
      rw [mem_ready]
      refine ⟨?_, o, ho, fun e he hb => h1 e.on (hT.down j o hpj ho e he hb)⟩
      have := h0 j (Nat.le_refl _)
      have hk' : j < listed.size := by omega
      simp only [Array.getD_eq_getD_getElem?, Array.getElem?_eq_getElem hk', Option.getD_some] at this ⊢
      exact this
    refine ⟨fun hnil => (by rw [hnil] at hrd; cases hrd), fun i hi => ?_⟩
    have hij : i = j := by
      obtain ⟨hu, oi, hoi, hall⟩ := mem_ready.1 hi
      have hil : i < ops.size := (Array.getElem?_eq_some_iff.1 hoi).1
      rcases Nat.lt_trichotomy i j with h | h | h
      · have := h1 i h
        rw [getD_listed] at this
        simp [this] at hu
      · exact h
      · obtain ⟨e, he, hb, hon⟩ := hT.next i oi (by omega) hoi
        have := hall e he hb
        rw [hon, h0 (i - 1) (by omega)] at this
        cases this
    subst hij
    have hx' : wpOp P ops Q i (wpList P ops Q l2) a w := by
      unfold wpOp
      rw [ho]
      exact hx
    have mono : ∀ {K K' : Act → World → Prop}, (∀ a w, K a w → K' a w) → wpOp P ops Q i K a w → wpOp P ops Q i K' a w := by
      intro K K' hk h
      unfold wpOp at h ⊢
      rw [ho] at h ⊢
      simp only at h ⊢
      split at h
      · rename_i hw
        rw [if_pos hw]
        exact h.imp (Oper.wp_mono hk) id
      · rename_i hw
        rw [if_neg hw]
        exact hk _ _ h
    refine mono (fun a' w' hk => tail_any hT l2 (i + 1) _ a' w' (by omega) ?_ (by simpa using hsz) (fun k hk => ?_) (fun k hk => ?_) hk) hx'
    · rw [show ops.toList.drop (i + 1) = (ops.toList.drop i).drop 1 by rw [List.drop_drop], hd]; rfl
    · rw [getD_listed, Array.getElem?_setIfInBounds]
      split
      · rename_i hh; subst hh; simp [hsz, hjl]
      · rw [← getD_listed]; exact h1 k (by omega)
    · have : i ≠ k := by omega
      rw [Array.getD_eq_getD_getElem?, Array.getElem?_setIfInBounds, if_neg this, ← Array.getD_eq_getD_getElem?]
      exact h0 k (by omega)
theorem any_inv {ops : Array Oper} {I : (Nat → Bool) → Env → Act → World → Prop} (hops : ∀ (i : Nat) o, l[i]? = some o → ops[i]? = some o) (hT : Tail ops l.length) (hdown : ∀ (k : Nat) o, l[k]? = some o → ∀ e ∈ o.after, Region.binds .any e = true → e.on < k)
    (hstep : ∀ (L : Nat → Bool) (β : Env) (a : Act) (w : World) (i : Nat) (o : Oper), I L β a w → l[i]? = some o → L i = false → (∀ e ∈ o.after, Region.binds .any e = true → L e.on = true) → ∀ K : Act → World → Prop, (∀ β' a' w', I (more L i) β' a' w' → K a' w') → wpOp P ops Q i K a w)
    (hQ : ∀ L β a w, I L β a w → (∀ k, k < l.length → L k = true) → wpList P ops Q (ops.toList.drop l.length) a w) :
    ∀ (f : Nat) (listed : Array Bool) (β : Env) (a : Act) (w : World), listed.size = ops.size → listed.toList.count true + f = l.length → (∀ k, l.length ≤ k → listed.getD k false = false) → I (fun k => listed.getD k false) β a w → wpAny P .any ops Q (f + (ops.toList.drop l.length).length) listed a w := by
  intro f
  induction f with
  | zero =>
    intro listed β a w hsz hcnt h0 hI
    have hall : ∀ k, k < l.length → listed.getD k false = true := by
      have hle := hT.le
      have hsplit : listed.toList = listed.toList.take l.length ++ listed.toList.drop l.length := (List.take_append_drop _ _).symm
      have hz : (listed.toList.drop l.length).count true = 0 := by
        rw [List.count_eq_zero]
        intro hm
        obtain ⟨k, hk⟩ := List.mem_iff_getElem?.1 hm
        rw [List.getElem?_drop] at hk
        have := h0 (l.length + k) (by omega)
        rw [Array.getD_eq_getD_getElem?, show listed[l.length + k]? = some true by simpa using hk] at this
        cases this
      have hc : (listed.toList.take l.length).count true = (listed.toList.take l.length).length := by
        have h1 : listed.toList.count true = (listed.toList.take l.length).count true + (listed.toList.drop l.length).count true := by
          rw [← List.count_append, List.take_append_drop]
        rw [List.length_take]
        simp at hcnt h1 ⊢
        omega
      have := List.count_eq_length.1 hc
      intro k hk
      have hk' : k < listed.size := by omega
      have hm : listed.toList[k]? = some listed[k] := by simp [hk']
      have h1 := this listed[k] (List.mem_iff_getElem?.2 ⟨k, by rw [List.getElem?_take, if_pos hk]; exact hm⟩)
      simp [hk', ← h1]
    rw [Nat.zero_add]
    exact tail_any hT _ l.length listed a w (Nat.le_refl _) rfl hsz hall h0 (hQ _ β a w hI hall)
  | succ f ih =>
    intro listed β a w hsz hcnt h0 hI
    rw [show f + 1 + (ops.toList.drop l.length).length = (f + (ops.toList.drop l.length).length) + 1 by omega]
    have hle := hT.le
    -- one of the first is not there yet
    have hex : ∃ k, k < l.length ∧ listed.getD k false = false := by
      refine Classical.byContradiction fun hn => ?_
      have hall : ∀ k, k < l.length → listed.getD k false = true := fun k hk => by
        cases h : listed.getD k false with
        | true => rfl
        | false => exact absurd ⟨k, hk, h⟩ hn
      have h1 : listed.toList.count true ≥ (listed.toList.take l.length).count true := by
        conv => lhs; rw [← List.take_append_drop l.length listed.toList]
        rw [List.count_append]
        omega
      have h2 : (listed.toList.take l.length).count true = l.length := by
        have hlt : (listed.toList.take l.length).length = l.length := by rw [List.length_take]; simp; omega
        rw [← hlt, hlt]
        conv => rhs; rw [← hlt]
        refine List.count_eq_length.2 fun x hx => ?_
        obtain ⟨k, hk⟩ := List.mem_iff_getElem?.1 hx
        rw [List.getElem?_take] at hk
        split at hk
        · rename_i hkl
          have := hall k hkl
          rw [getD_listed] at this
          rw [show listed.toList[k]? = some true by simpa using this] at hk
          exact Option.some.inj hk
        · cases hk
      omega
    have hnotdone : Region.ready .any ops listed ≠ [] := by
      -- the first that is not there yet is ready
      obtain ⟨k, hk, hkf⟩ := hex
      have : ∀ k, k < l.length → listed.getD k false = false → ∃ j, j ∈ Region.ready .any ops listed := by
        intro k
        induction k using Nat.strongRecOn with
        | _ k ihk =>
          intro hk hkf
          obtain ⟨o, ho⟩ : ∃ o, l[k]? = some o := ⟨_, List.getElem?_eq_getElem hk⟩
          by_cases hall : ∀ e ∈ o.after, Region.binds .any e = true → listed.getD e.on false = true
          · refine ⟨k, mem_ready.2 ⟨?_, o, hops k o ho, hall⟩⟩
            have hk' : k < listed.size := by omega
            simp only [Array.getD_eq_getD_getElem?, Array.getElem?_eq_getElem hk', Option.getD_some] at hkf ⊢
            exact hkf
          · simp only [Classical.not_forall] at hall
            obtain ⟨e, hee, hb, hf⟩ := hall
            have hlt := hdown k o ho e hee hb
            exact ihk e.on hlt (by omega) (by
              cases h : listed.getD e.on false with
              | true => exact absurd h hf
              | false => rfl)
      obtain ⟨j, hj⟩ := this k hk hkf
      intro hnil
      rw [hnil] at hj
      cases hj
    refine ⟨fun hnil => absurd hnil hnotdone, fun i hi => ?_⟩
    obtain ⟨hu, o, ho, hall⟩ := mem_ready.1 hi
    have hio : i < ops.size := (Array.getElem?_eq_some_iff.1 ho).1
    have hil : i < l.length := by
      refine Classical.byContradiction fun hn => ?_
      obtain ⟨k, hk, hkf⟩ := hex
      rcases Nat.lt_or_ge l.length i with h | h
      · obtain ⟨e, he, hb, hon⟩ := hT.next i o h ho
        have := hall e he hb
        rw [hon, h0 (i - 1) (by omega)] at this
        cases this
      · have : i = l.length := by omega
        subst this
        obtain ⟨e, he, hb, hon⟩ := hT.first o ho k hk
        have := hall e he hb
        rw [hon, hkf] at this
        cases this
    obtain ⟨o', ho'⟩ : ∃ o', l[i]? = some o' := ⟨_, List.getElem?_eq_getElem hil⟩
    have : o' = o := Option.some.inj ((hops i o' ho').symm.trans ho)
    subst this
    have hk' : i < listed.size := by omega
    have hLi : listed[i] = false := by simpa [hk'] using hu
    refine hstep _ β a w i o' hI ho' (by simp [hk', hLi]) (fun e hee hb => hall e (by simpa using hee) hb) _ fun β' a' w' hI' => ?_
    rw [more_listed hk'] at hI'
    refine ih _ β' a' w' (by simpa using hsz) ?_ (fun k hk => ?_) hI'
    · have hcs : (listed.setIfInBounds i true).toList.count true = listed.toList.count true + 1 := by
        rw [Array.toList_setIfInBounds, List.count_set (by simpa using hk')]
        have : listed.toList[i]'(by simpa using hk') = false := by simpa using hLi
        simp [this]
      omega
    · have : i ≠ k := by omega
      rw [Array.getD_eq_getD_getElem?, Array.getElem?_setIfInBounds, if_neg this, ← Array.getD_eq_getD_getElem?]
      exact h0 k hk
theorem any_ok {ops : Array Oper} (hops : ∀ (i : Nat) o, l[i]? = some o → ops[i]? = some o) (hT : Tail ops l.length) (hB : ∀ k o en, l[k]? = some o → es[k]? = some en → Okb ops l es n k o en) (hM : ∀ k o en, l[k]? = some o → es[k]? = some en → Okm l es k en) (hlen : es.length = l.length)
    (hE : ∀ k o en, l[k]? = some o → es[k]? = some en → EntOk P T b H ops (runE n st l es k) o en)
    (hQ : ∀ L β a w, OInv ds b n l es st L β a w → (∀ k, k < l.length → L k = true) → wpList P ops Q (ops.toList.drop l.length) a w) :
    ∀ (f : Nat) (listed : Array Bool) (β : Env) (a : Act) (w : World), listed.size = ops.size → listed.toList.count true + f = l.length → (∀ k, l.length ≤ k → listed.getD k false = false) → OInv ds b n l es st (fun k => listed.getD k false) β a w → wpAny P .any ops Q (f + (ops.toList.drop l.length).length) listed a w := by
  have en_ : ∀ (k : Nat) o, l[k]? = some o → ∃ en, es[k]? = some en := fun k o ho => ⟨_, List.getElem?_eq_getElem (by rw [hlen]; exact (List.getElem?_eq_some_iff.1 ho).1)⟩
  refine any_inv (I := OInv ds b n l es st) hops hT (fun k o ho => ?_) (fun L β a w i o hI ho hL hr K hK => ?_) hQ
  · obtain ⟨en, he⟩ := en_ k o ho
    exact (hB k o en ho he).down
  · obtain ⟨en, he⟩ := en_ i o ho
    exact any_step hops hI ho he hB hlen (fun k o en ho he => entOk_s (hE k o en ho he)) (hE i o en ho he) (hM i o en ho he) hL hr hK
theorem OInv.start (h : Hd ds b n β st a w) (hfresh : ∀ i k : Nat, idxOf (isNew i) es = some k → st.mem[i]? = none) : OInv ds b n l es st (fun _ => false) β a w := by
  have row : ∀ i, fRow es st (fun _ => false) i = st.mem[i]? := fun i => fRow_none (hfresh i)
  have lt : ∀ i, i < st.mem.length → ∃ r, fRow es st (fun _ => false) i = some r := fun i hi => ⟨_, by rw [row]; exact List.getElem?_eq_getElem hi⟩
  refine ⟨h.size, h.dn, fun t sv ht => h.get t sv (by rw [← ht, fLook_none]), fun i r hi => h.held i r (by rw [← hi, row]), fun i r k hi hk => h.new i r k (by rw [← hi, row]) hk, fun i c r r' k hi hc hk hk' => h.inj i c r r' k (by rw [← hi, row]) (by rw [← hc, row]) hk hk', h.cg, fun t sv ht => ?_, fun i r hi => ?_, fun i hi => ⟨(h.keep i hi).1, lt i (h.keep i hi).2⟩, fun k o ho hk => by cases hk⟩
  · rw [fLook_none] at ht; exact fun j hj => lt j (h.wfS t sv ht j hj)
  · rw [row] at hi; exact fun j hj => lt j (h.wfR i r hi j hj)
theorem OInv.fin {ops : Array Oper} (hI : OInv ds b n l es st L β a w) (hL : ∀ k, k < l.length → L k = true) (hB : ∀ k o en, l[k]? = some o → es[k]? = some en → Okb ops l es n k o en) (hlen : es.length = l.length)
    (hE : ∀ k o en, l[k]? = some o → es[k]? = some en → EntS (runE n st l es k) en) : Hd ds b n β (runE n st l es l.length) a w := by
  have hL : ∀ k, k < l.length → L k = ltB l.length k := fun k hk => by rw [hL k hk]; simp [ltB, hk]
  have hlook : ∀ t, look (runE n st l es l.length).fr t = fLook l es st L t := fun t => by
    rw [look_at (st := st) hlen hB l.length (Nat.le_refl _)]
    refine fLook_congr fun k hk => ?_
    obtain ⟨o, ho, _⟩ := idxOf_some hk
    rw [hL k (List.getElem?_eq_some_iff.1 ho).1]
  have hrow : ∀ i : Nat, (runE n st l es l.length).mem[i]? = fRow es st L i := fun i => by
    rw [row_at (ops := ops) (st := st) hlen hB hE l.length (Nat.le_refl _)]
    refine fRow_congr (fun k hk => ?_) (fun k hk => ?_)
    · obtain ⟨o, ho, _⟩ := idxOf_some hk
      have hkl := (List.getElem?_eq_some_iff.1 ho).1
      rw [hlen] at hkl
      rw [hL k hkl]
    · obtain ⟨o, ho, _⟩ := idxOf_some hk
      have hkl := (List.getElem?_eq_some_iff.1 ho).1
      rw [hlen] at hkl
      rw [hL k hkl]
  have back : ∀ i : Nat, (∃ r, fRow es st L i = some r) → i < (runE n st l es l.length).mem.length := fun i ⟨r, h⟩ => by rw [← hrow] at h; exact (List.getElem?_eq_some_iff.1 h).1
  refine ⟨hI.size, hI.dn, fun t sv ht => hI.get t sv (by rw [← hlook]; exact ht), fun i r hi => hI.held i r (by rw [← hrow]; exact hi), fun i r k hi hk => hI.new i r k (by rw [← hrow]; exact hi) hk, fun i c r r' k hi hc hk hk' => hI.inj i c r r' k (by rw [← hrow]; exact hi) (by rw [← hrow]; exact hc) hk hk', hI.cg, fun t sv ht => ?_, fun i r hi => ?_, fun i hi => ⟨(hI.keep i hi).1, back i (hI.keep i hi).2⟩⟩
  · rw [hlook] at ht; exact fun j hj => back j (hI.wfS t sv ht j hj)
  · rw [hrow] at hi; exact fun j hj => back j (hI.wfR i r hi j hj)
/-- How many operations of a region that draws come up in an order of their own; those behind them come up one behind the other. -/
def allW (o : Oper) : Nat → Bool
  | 0 => true
  | k + 1 => waits1 o k && allW o k
def allDown (o : Oper) (j : Nat) : Bool := o.after.toList.all fun e => !Region.binds .any e || Nat.blt e.on j
/-- From the j-th on, backwards: one behind the other? -/
def chainAt : List Oper → Nat → Option Nat → Option Nat
  | [], _, r => r
  | o :: l, j, r => match allDown o j with
    | false => chainAt l (j + 1) none
    | true => match r with
      | none => match allW o j with
        | true => chainAt l (j + 1) (some j)
        | false => chainAt l (j + 1) none
      | some p => match waits1 o (j - 1) with
        | true => chainAt l (j + 1) (some p)
        | false => match allW o j with
          | true => chainAt l (j + 1) (some j)
          | false => chainAt l (j + 1) none
def headLen (l : List Oper) : Nat := match chainAt l 0 none with
  | some p => p
  | none => l.length
theorem allW_spec {o : Oper} : ∀ {j : Nat}, allW o j = true → ∀ k, k < j → ∃ e ∈ o.after, Region.binds .any e = true ∧ e.on = k
  | 0, _, k, hk => absurd hk (Nat.not_lt_zero k)
  | j + 1, h, k, hk => by
    unfold allW at h
    rw [Bool.and_eq_true] at h
    by_cases hkj : k = j
    · subst hkj; exact waits1_spec h.1
    · exact allW_spec h.2 k (by omega)
theorem allDown_spec {o : Oper} {j : Nat} (h : allDown o j = true) : ∀ e ∈ o.after, Region.binds .any e = true → e.on < j := by
  intro e he hb
  unfold allDown at h
  have := List.all_eq_true.1 h e (by simpa using he)
  rw [hb] at this
  have h2 : Nat.blt e.on j = true := by
    cases hh : Nat.blt e.on j with
    | true => rfl
    | false => rw [hh] at this; cases this
  exact Nat.le_of_ble_eq_true h2
/-- From the p-th on: one behind the other? -/
def tailC (p : Nat) : Nat → List Oper → Bool
  | _, [] => true
  | j, o :: l => match allDown o j && (match Nat.beq j p with
      | true => allW o p
      | false => waits1 o (j - 1)) with
    | true => tailC p (j + 1) l
    | false => false
theorem tailC_spec {p : Nat} : ∀ {l : List Oper} {j : Nat}, tailC p j l = true → ∀ (i : Nat) o, l[i]? = some o → allDown o (j + i) = true ∧ (j + i = p → allW o p = true) ∧ (j + i ≠ p → waits1 o (j + i - 1) = true)
  | [], _, _, _, _, ho => by simp at ho
  | o :: l, j, h, i, o', ho => by
    unfold tailC at h
    split at h
    · rename_i hb
      rw [Bool.and_eq_true] at hb
      cases i with
      | zero =>
        cases (Option.some.inj ho)
        refine ⟨hb.1, fun hj => ?_, fun hj => ?_⟩
        · have h2 := hb.2
          rw [show Nat.beq j p = true from by rw [show j = p from hj]; exact Nat.beq_refl p] at h2
          exact h2
        · have h2 := hb.2
          rw [show Nat.beq j p = false from by
            cases hh : Nat.beq j p with
            | true => exact absurd (Nat.eq_of_beq_eq_true hh) hj
            | false => rfl] at h2
          exact h2
      | succ i =>
        have := tailC_spec h i o' ho
        rw [show j + 1 + i = j + (i + 1) by omega] at this
        exact this
    · cases h
theorem tail_of {l : List Oper} {p : Nat} (hp : p ≤ l.length) (h : tailC p p (l.drop p) = true) : Tail l.toArray p := by
  have at_ : ∀ j o, p ≤ j → l.toArray[j]? = some o → (l.drop p)[j - p]? = some o := fun j o hj ho => by
    rw [List.getElem?_drop, show p + (j - p) = j by omega]
    simpa using ho
  refine ⟨by simpa using hp, fun o ho k hk => ?_, fun j o hj ho => ?_, fun j o hj ho => ?_⟩
  · have := tailC_spec h (p - p) o (at_ p o (Nat.le_refl _) ho)
    exact allW_spec (this.2.1 (by omega)) k hk
  · have := tailC_spec h (j - p) o (at_ j o (by omega) ho)
    have h2 := this.2.2 (by omega)
    rw [show p + (j - p) - 1 = j - 1 by omega] at h2
    exact waits1_spec h2
  · have := tailC_spec h (j - p) o (at_ j o hj ho)
    have h2 := this.1
    rw [show p + (j - p) = j by omega] at h2
    exact allDown_spec h2
theorem tail_none {l : List Oper} : Tail l.toArray l.length :=
  ⟨by simp, fun o ho => by simp at ho, fun j o hj ho => by have := (Array.getElem?_eq_some_iff.1 ho).1; simp at this; omega, fun j o hj ho => by have := (Array.getElem?_eq_some_iff.1 ho).1; simp at this; omega⟩
/-- Where a region's tail begins. -/
def tailAt (l : List Oper) : Nat := match Nat.ble (headLen l) l.length && tailC (headLen l) (headLen l) (l.drop (headLen l)) with
  | true => headLen l
  | false => l.length
theorem tailAt_ok (l : List Oper) : Tail l.toArray (tailAt l) ∧ tailAt l ≤ l.length := by
  unfold tailAt
  split
  · rename_i h
    rw [Bool.and_eq_true] at h
    exact ⟨tail_of (Nat.le_of_ble_eq_true h.1) h.2, Nat.le_of_ble_eq_true h.1⟩
  · exact ⟨tail_none, Nat.le_refl _⟩
/-- A region that draws its order, reckoned once; its tail, one operation behind the other. -/
def exDraw (P : Program) (T : Tab P) (b : Base) (X : Gone) (H : List (Nat × Hint)) (n : Nat) (l : List Oper) (st : St) (K : St → Prop) : Prop :=
  exLex P T b H n l.toArray (l.take (tailAt l)) st [] fun es st' => match allBe l.toArray (l.take (tailAt l)) es n 0 (l.take (tailAt l)) es with
    | true => exOps P T b X H n l.toArray (l.drop (tailAt l)) st' K
    | false => Stuck l
/-- Every order of a region that draws, where its head has been reckoned. -/
theorem draw_lex {id : Nat} {es : List Ent} {st' : St} (hm : P.follows .mixedOrders = true) (h : Hd ds b n β st a w) (hlex : Lex P T b H n l.toArray (l.take (tailAt l)) st es st') (hb : allBe l.toArray (l.take (tailAt l)) es n 0 (l.take (tailAt l)) es = true) (hK : ∀ β' a' w', Hd ds b n β' st' a' w' → wpList P l.toArray Q (l.drop (tailAt l)) a' w') : (Code.region id l.toArray true).wp P Q a w := by
  obtain ⟨hT, hle⟩ := tailAt_ok l
  obtain ⟨hlen, hE, hst⟩ := lex_spec hlex
  have hops : ∀ (i : Nat) o, (l.take (tailAt l))[i]? = some o → l.toArray[i]? = some o := fun i o ho => by
    rw [List.getElem?_take] at ho
    split at ho
    · simpa using ho
    · cases ho
  have hll : (l.take (tailAt l)).length = tailAt l := by rw [List.length_take]; omega
  have hB : ∀ k o en, (l.take (tailAt l))[k]? = some o → es[k]? = some en → Okb l.toArray (l.take (tailAt l)) es n k o en := fun k o en ho he => by
    have := allBe_spec hb k o en ho he
    rw [Nat.zero_add] at this
    exact opB_spec this
  have hM : ∀ k o en, (l.take (tailAt l))[k]? = some o → es[k]? = some en → Okm (l.take (tailAt l)) es k en := fun k o en ho he => by
    have := allBe_spec hb k o en ho he
    rw [Nat.zero_add] at this
    exact opB_ment this
  have hS : ∀ k o en, (l.take (tailAt l))[k]? = some o → es[k]? = some en → EntS (runE n st (l.take (tailAt l)) es k) en := fun k o en ho he => entOk_s (hE k o en ho he)
  refine wp_region_any hm ?_
  have hI : OInv ds b n (l.take (tailAt l)) es st (fun _ => false) β a { w with drawn := w.drawn + 1 } := OInv.start (h.later (Cg.refl No w).drew) fun i k hk' => new_fresh hlen hS hk'
  have hrep : (fun k => (Array.replicate l.toArray.size false).getD k false) = fun _ : Nat => false := by
    funext k
    simp only [Array.getD_eq_getD_getElem?, Array.getElem?_replicate]
    split <;> rfl
  have := any_ok (P := P) (T := T) (H := H) (b := b) (n := n) (st := st) (Q := Q) hops (by rw [hll]; exact hT) hB hM hlen hE (fun L β' a' w' hI' hL => by
      rw [hll]
      have := hK β' a' w' ((hI'.fin hL hB hlen hS).eqS hst)
      simpa using this) (tailAt l) (Array.replicate l.toArray.size false) β a { w with drawn := w.drawn + 1 } (by simp) (by simp [List.count_replicate]; omega) (fun k _ => congrFun hrep k) (by rw [hrep]; exact hI)
  rw [hll] at this
  have e : tailAt l + (l.toArray.toList.drop (tailAt l)).length = l.toArray.size := by simp; omega
  rw [e] at this
  exact this
theorem draw_ok {id : Nat} {K : St → Prop} {K2 : List Ent → St → Prop} (hm : P.follows .mixedOrders = true) (h : Hd ds b n β st a w) (hx : exLex P T b H n l.toArray (l.take (tailAt l)) st [] K2) (hK2 : ∀ es st', K2 es st' → allBe l.toArray (l.take (tailAt l)) es n 0 (l.take (tailAt l)) es = true ∧ K st') (hK : ∀ β' st' a' w', K st' → Hd ds b n β' st' a' w' → wpList P l.toArray Q (l.drop (tailAt l)) a' w') : (Code.region id l.toArray true).wp P Q a w := by
  obtain ⟨es, st', hlex, hk2⟩ := lex_of _ _ _ _ _ (EqS.refl st) hx
  rw [List.nil_append] at hk2
  obtain ⟨hb, hk⟩ := hK2 es st' hk2
  exact draw_lex hm h hlex hb fun β' a' w' h' => hK β' st' a' w' hk h'
theorem exDraw_ok {id : Nat} {X : Gone} {K : St → Prop} (hX : GoneOk P b X) (hm : P.follows .mixedOrders = true) (h : Hd ds b n β st a w) (hx : exDraw P T b X H n l st K) (hK : ∀ β' st' a' w', K st' → Hd ds b n β' st' a' w' → Q .normal a' w') : (Code.region id l.toArray true).wp P Q a w := by
  refine draw_ok (T := T) (H := H) (K := fun st' => exOps P T b X H n l.toArray (l.drop (tailAt l)) st' K) hm h hx (fun es st' hk => ?_) fun β' st' a' w' hk h' => exOps_ok hX _ st' K β' a' w' h' hk hK
  split at hk
  · rename_i hb
    exact ⟨hb, hk⟩
  · exact nomatch hk
end
end Ax
end Go.Proofs.YtcpbbgkeigbndaaGreat
