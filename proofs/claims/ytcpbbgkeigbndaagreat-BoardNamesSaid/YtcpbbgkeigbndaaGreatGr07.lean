/- A reckoner of calls, part 12: code, loops, whole functions. Proved over any program. No condition of its own. -/
import Derived.Test.YtcpbbgkeigbndaaGreatGr06
namespace Go.Proofs.YtcpbbgkeigbndaaGreat
open Go Go.RowKit Go.Lib Go.Sort

namespace Ax
def ren : List (Nat × Nat) → Nat → Nat
  | [], i => i
  | p :: r, i => match Nat.beq p.1 i with
    | true => p.2
    | false => ren r i
mutual
def SV.ren (f : Nat → Nat) : SV → SV
  | .v x => .v x
  | .p i off => .p (f i) off
  | .o i => .o (f i)
  | .sl i off len cap => .sl (f i) off len cap
  | .sub i off len cut => .sub (f i) off len cut
  | .e i off => .e (f i) off
  | .mp i => .mp (f i)
  | .ag l => .ag (SV.rens f l)
  | .tp l => .tp (SV.rens f l)
  | .clo c q l => .clo c (SV.rens f q) (SV.rens f l)
  | .ifc t x => .ifc t (SV.ren f x)
  | .gone => .gone
def SV.rens (f : Nat → Nat) : List SV → List SV
  | [] => []
  | x :: l => SV.ren f x :: SV.rens f l
end
def Cs.ren (f : Nat → Nat) : Cs → Cs
  | .vs l => .vs l
  | .ss l => .ss (SV.rens f l)
def renE (f : Nat → Nat) : List (SV × SV) → List (SV × SV)
  | [] => []
  | q :: r => (q.1.ren f, q.2.ren f) :: renE f r
def Row.ren (f : Nat → Nat) : Row → Row
  | .c g ty cs => .c g ty (cs.ren f)
  | .k ty cs => .k ty (cs.ren f)
  | .sw ty size n l => .sw ty size n (SV.rens f l)
  | .sr size n l => .sr size n (SV.rens f l)
  | .mo es => .mo (renE f es)
  | .mr es => .mr (renE f es)
  | .mu es => .mu (renE f es)
  | .mv es => .mv (renE f es)
  | .mi cur es => .mi (renE f cur) (renE f es)
  | y => y
def Env.ren (f : Nat → Nat) (β : Env) : Env := ⟨fun i => β.b (f i), fun i => β.v (f i), fun i => β.F (f i)⟩
mutual
theorem ren_den {f : Nat → Nat} {β : Env} : ∀ s : SV, (s.ren f).den β = s.den (β.ren f)
  | .v _ => rfl
  | .p _ _ => rfl
  | .o _ => rfl
  | .sl _ _ _ _ => rfl
  | .sub _ _ _ _ => rfl
  | .e _ _ => rfl
  | .mp _ => rfl
  | .ag l => by rw [SV.ren, SV.den, SV.den, rens_dens l]
  | .tp l => by rw [SV.ren, SV.den, SV.den, rens_dens l]
  | .clo _ q l => by rw [SV.ren, SV.den, SV.den, rens_dens q, rens_dens l]
  | .ifc _ x => by rw [SV.ren, SV.den, SV.den, ren_den x]
  | .gone => rfl
theorem rens_dens {f : Nat → Nat} {β : Env} : ∀ l : List SV, SV.dens β (SV.rens f l) = SV.dens (β.ren f) l
  | [] => rfl
  | x :: l => by rw [SV.rens, SV.dens, SV.dens, ren_den x, rens_dens l]
end
theorem ren_cs {f : Nat → Nat} {β : Env} {cs : Cs} : (cs.ren f).den β = cs.den (β.ren f) := by
  cases cs with
  | vs l => rfl
  | ss l => exact rens_dens l
theorem renE_dens {f : Nat → Nat} {β : Env} : ∀ l : List (SV × SV), densE β (renE f l) = densE (β.ren f) l
  | [] => rfl
  | q :: r => by rw [renE, densE, densE, ren_den, ren_den, renE_dens r]
theorem ren_held {b : Base} {f : Nat → Nat} {β : Env} {w : World} {i : Nat} {r : Row} (h : Held b β w (f i) (r.ren f)) : Held b (β.ren f) w i r := by
  cases r with
  | c g ty cs => exact ⟨h.1, by rw [← ren_cs]; exact h.2⟩
  | k ty cs => exact fun W hW => by rw [← ren_cs]; exact h W hW
  | s ty size n xs => exact h
  | r size n xs => exact h
  | o t x => exact h
  | q t x => exact h
  | sw ty size n l => have := h; simp only [Row.ren, Held, rens_dens] at this; exact this
  | sr size n l => have := h; simp only [Row.ren, Held, rens_dens] at this; exact this
  | mo es => have := h; simp only [Row.ren, Held, renE_dens] at this; exact this
  | mr es => have := h; simp only [Row.ren, Held, renE_dens] at this; exact this
  | mu es => have := h; simp only [Row.ren, Held, renE_dens] at this; exact this
  | mv es => have := h; simp only [Row.ren, Held, renE_dens] at this; exact this
  | ho x => exact h
  | hr x => exact h
  | mi cur es => have := h; simp only [Row.ren, Held, renE_dens] at this; exact this
  | z => exact h
  | d => trivial
theorem ren_foot {f : Nat → Nat} {β : Env} {i : Nat} {r : Row} : foot (β.ren f) i r = foot β (f i) (r.ren f) := by
  cases r <;> rfl
def zipN : List Nat → List Nat → List (Nat × Nat)
  | a :: r, b :: q => (a, b) :: zipN r q
  | _, _ => []
/-- Which row of the state a row of the head is. -/
def sigOf (fr : List (Nat × SV)) : List (Nat × SV) → List (Nat × Nat)
  | [] => []
  | p :: r => match look fr p.1 with
    | some u => zipN p.2.idx u.idx ++ sigOf fr r
    | none => sigOf fr r
def sigRows (σ : List (Nat × Nat)) (smem : List Row) : Nat → List Row → List (Nat × Nat)
  | _, [] => []
  | k, r :: l => match smem[ren σ k]? with
    | some q => zipN r.idx q.idx ++ sigRows σ smem (k + 1) l
    | none => sigRows σ smem (k + 1) l
def sigAll (st : St) (fr : List (Nat × SV)) (mem : List Row) : List (Nat × Nat) := sigOf st.fr fr ++ sigRows (sigOf st.fr fr) st.mem 0 mem
def notIn (σ : List (Nat × Nat)) (x : Nat) : Nat → Bool
  | 0 => true
  | n + 1 => match Nat.beq (ren σ n) x with
    | true => false
    | false => notIn σ x n
def okSig (σ : List (Nat × Nat)) (N : Nat) : Nat → Bool
  | 0 => true
  | n + 1 => match Nat.blt (ren σ n) N && notIn σ (ren σ n) n with
    | true => okSig σ N n
    | false => false
theorem notIn_spec {σ : List (Nat × Nat)} {x : Nat} : ∀ {n : Nat}, notIn σ x n = true → ∀ j, j < n → ren σ j ≠ x
  | 0, _, j, hj => absurd hj (Nat.not_lt_zero j)
  | n + 1, h, j, hj => by
    unfold notIn at h
    split at h
    · cases h
    · rename_i hn
      rcases Nat.lt_or_ge j n with h1 | h1
      · exact notIn_spec h j h1
      · have : j = n := by omega
        subst this
        exact fun hh => by rw [hh, Nat.beq_refl] at hn; cases hn
theorem okSig_spec {σ : List (Nat × Nat)} {N : Nat} : ∀ {n : Nat}, okSig σ N n = true → (∀ j, j < n → ren σ j < N) ∧ ∀ i j, i < n → j < n → ren σ i = ren σ j → i = j
  | 0, _ => ⟨fun j hj => absurd hj (Nat.not_lt_zero j), fun i j hi => absurd hi (Nat.not_lt_zero i)⟩
  | n + 1, h => by
    unfold okSig at h
    split at h
    · rename_i hb
      rw [Bool.and_eq_true] at hb
      obtain ⟨h1, h2⟩ := okSig_spec h
      have hn := notIn_spec hb.2
      have hlt : ren σ n < N := Nat.le_of_ble_eq_true hb.1
      refine ⟨fun j hj => ?_, fun i j hi hj hij => ?_⟩
      · rcases Nat.lt_or_ge j n with h3 | h3
        · exact h1 j h3
        · rw [show j = n by omega]; exact hlt
      · rcases Nat.lt_or_ge i n with h3 | h3
        · rcases Nat.lt_or_ge j n with h4 | h4
          · exact h2 i j h3 h4 hij
          · rw [show j = n by omega] at hij; exact absurd hij (hn i h3)
        · rcases Nat.lt_or_ge j n with h4 | h4
          · rw [show i = n by omega] at hij; exact absurd hij.symm (hn j h4)
          · omega
    · cases h
def hasLook (fr : List (Nat × SV)) (t : Nat) : Bool := match look fr t with
  | some _ => true
  | none => false
def picks (fr : List (Nat × SV)) : List (Nat × SV) → List (Nat × SV)
  | [] => []
  | p :: r => (p.1, (look fr p.1).getD (.v undef)) :: picks fr r
def renFr (σ : List (Nat × Nat)) : List (Nat × SV) → List (Nat × SV)
  | [] => []
  | p :: r => (p.1, p.2.ren (ren σ)) :: renFr σ r
def renRows (σ : List (Nat × Nat)) : List Row → List Row
  | [] => []
  | p :: r => p.ren (ren σ) :: renRows σ r
def rowsAt (mem : List Row) (σ : List (Nat × Nat)) : Nat → List Row → List Row
  | _, [] => []
  | k, _ :: r => (mem[ren σ k]?).getD .d :: rowsAt mem σ (k + 1) r
theorem rowsAt_get {mem : List Row} {σ : List (Nat × Nat)} : ∀ {l l' : List Row} {k : Nat}, rowsAt mem σ k l = l' → (∀ j, j < l.length → ren σ (k + j) < mem.length) → ∀ (i : Nat) (r : Row), l'[i]? = some r → mem[ren σ (k + i)]? = some r
  | [], l', k, h, _, i, r, hr => by subst h; simp [rowsAt] at hr
  | x :: l, l', k, h, hl, i, r, hr => by
    subst h
    cases i with
    | zero =>
      have h0 := hl 0 (by simp)
      rw [rowsAt, List.getElem?_cons_zero, Nat.add_zero] at *
      rw [List.getElem?_eq_getElem h0] at hr ⊢
      exact hr
    | succ i =>
      rw [rowsAt, List.getElem?_cons_succ] at hr
      have := rowsAt_get (l := l) (k := k + 1) rfl (fun j hj => by rw [show k + 1 + j = k + (j + 1) by omega]; exact hl (j + 1) (by simp; omega)) i r hr
      rwa [show k + 1 + i = k + (i + 1) by omega] at this
theorem renRows_get {σ : List (Nat × Nat)} : ∀ {l : List Row} {i : Nat} {r : Row}, l[i]? = some r → (renRows σ l)[i]? = some (r.ren (ren σ))
  | x :: l, 0, r, h => by
    have : x = r := by simpa using h
    subst this
    rfl
  | x :: l, i + 1, r, h => by
    rw [renRows, List.getElem?_cons_succ]
    exact renRows_get (by simpa using h)
theorem ren_known {σ : List (Nat × Nat)} {s : SV} : (s.ren (ren σ)).known = s.known.map (SV.ren (ren σ)) := by cases s <;> rfl
theorem look_renFr {σ : List (Nat × Nat)} : ∀ {l : List (Nat × SV)} {t : Nat} {sv : SV}, look l t = some sv → look (renFr σ l) t = some (sv.ren (ren σ))
  | (d, v) :: r, t, sv, h => by
    rw [look_put] at h
    rw [renFr, look_put]
    split at h
    · rename_i he; rw [if_pos he, ren_known, h]; rfl
    · rename_i he; rw [if_neg he]; exact look_renFr h
theorem look_known {fr : List (Nat × SV)} {t : Nat} {sv : SV} : look fr t = some sv → sv.known = some sv := by
  induction fr with
  | nil => intro h; cases h
  | cons p r ih =>
    intro h
    rw [look_put] at h
    split at h
    · have := known_some h
      subst this
      exact h
    · exact ih h
theorem look_picks {fr : List (Nat × SV)} : ∀ {l l' : List (Nat × SV)} {t : Nat} {sv : SV}, picks fr l = l' → (∀ p ∈ l, hasLook fr p.1 = true) → look l' t = some sv → look fr t = some sv
  | [], l', t, sv, h, _, hl => by subst h; cases hl
  | p :: l, l', t, sv, h, hh, hl => by
    subst h
    rw [picks, look_put] at hl
    split at hl
    · rename_i he
      have := hh p (by simp)
      unfold hasLook at this
      split at this
      · rename_i u hu
        rw [hu, Option.getD_some, look_known hu] at hl
        rw [← he, hu, hl]
      · cases this
    · exact look_picks rfl (fun q hq => hh q (List.mem_cons_of_mem _ hq)) hl
theorem look_mem : ∀ {l : List (Nat × SV)} {t : Nat} {sv : SV}, look l t = some sv → (t, sv) ∈ l
  | (d, v) :: r, t, sv, h => by
    rw [look_put] at h
    split at h
    · rename_i he
      rw [known_some h, he]
      simp
    · exact List.mem_cons_of_mem _ (look_mem h)
/-- The state gives what the slots fr and the rows mem say. -/
def keepSig (σ : List (Nat × Nat)) : Nat → Bool
  | 0 => true
  | j + 1 => match Nat.beq (ren σ j) j with
    | true => keepSig σ j
    | false => false
theorem keepSig_spec {σ : List (Nat × Nat)} : ∀ {m : Nat}, keepSig σ m = true → ∀ j, j < m → ren σ j = j
  | 0, _, j, hj => by omega
  | m + 1, h, j, hj => by
    unfold keepSig at h
    split at h
    · rename_i hb
      by_cases hjm : j = m
      · subst hjm; exact Nat.eq_of_beq_eq_true hb
      · exact keepSig_spec h j (by omega)
    · cases h
def Same (m : Nat) (st : St) (fr : List (Nat × SV)) (mem : List Row) : Prop :=
  match (keepSig (sigAll st fr mem) m && Nat.ble m mem.length) && (allB (fun p => hasLook st.fr p.1 && ltAll mem.length p.2.idx) fr && (allB (fun r => ltAll mem.length r.idx) mem && okSig (sigAll st fr mem) st.mem.length mem.length)) with
  | true => picks st.fr fr = renFr (sigAll st fr mem) fr ∧ rowsAt st.mem (sigAll st fr mem) 0 mem = renRows (sigAll st fr mem) mem
  | false => Stuck (st, fr)
section
variable {P : Program} {T : Tab P} {b : Base} {n : Nat} {ds : Dr}
theorem Hd.same {β : Env} {st : St} {a : Act} {w : World} {fr : List (Nat × SV)} {mem : List Row} (h : Hd ds b n β st a w) {m : Nat} (hd : ds.m = m) (hs : Same m st fr mem) : ∃ β', Hd ds b n β' ⟨fr, mem⟩ a w := by
  unfold Same at hs
  split at hs
  · rename_i hb
    simp only [Bool.and_eq_true] at hb
    obtain ⟨⟨hk1, hk2⟩, hb1, hb2, hb3⟩ := hb
    have hk1 := keepSig_spec hk1
    have hk2 : m ≤ mem.length := Nat.le_of_ble_eq_true hk2
    have h1 := allB_spec hb1
    have h2 := allB_spec hb2
    obtain ⟨h3, h4⟩ := okSig_spec hb3
    have hl : ∀ t sv, look fr t = some sv → look st.fr t = some (sv.ren (ren (sigAll st fr mem))) := fun t sv ht => look_picks hs.1 (fun p hp => by have := h1 p hp; rw [Bool.and_eq_true] at this; exact this.1) (look_renFr ht)
    have hm : ∀ (i : Nat) (r : Row), mem[i]? = some r → st.mem[ren (sigAll st fr mem) i]? = some (r.ren (ren (sigAll st fr mem))) := by
      intro i r hi
      have := rowsAt_get hs.2 (fun j hj => by rw [Nat.zero_add]; exact h3 j hj) i _ (renRows_get hi)
      rwa [Nat.zero_add] at this
    have hlt : ∀ (i : Nat) (r : Row), mem[i]? = some r → i < mem.length := fun i r hi => (List.getElem?_eq_some_iff.1 hi).1
    refine ⟨β.ren (ren (sigAll st fr mem)), h.size, h.dn, fun t sv ht => ?_, fun i r hi => ren_held (h.held _ _ (hm i r hi)), fun i r k hi hk => h.new _ _ k (hm i r hi) (by rw [← ren_foot]; exact hk), fun i j r r' k hi hj hk hk' => ?_, h.cg, fun t sv ht => ?_, fun i r hi => ?_, fun i hi => ?_⟩
    · rw [h.get t _ (hl t sv ht), ren_den]
    · exact h4 i j (hlt i r hi) (hlt j r' hj) (h.inj _ _ _ _ k (hm i r hi) (hm j r' hj) (by rw [← ren_foot]; exact hk) (by rw [← ren_foot]; exact hk'))
    · have := h1 _ (look_mem ht)
      rw [Bool.and_eq_true] at this
      exact ltAll_spec this.2
    · exact ltAll_spec (h2 r (List.mem_of_getElem? hi))
    · obtain ⟨h5, _⟩ := h.keep i hi
      rw [hd] at hi
      refine ⟨⟨?_, ?_⟩, by show i < mem.length; omega⟩
      · show _ = β.b _
        rw [hk1 i hi]; exact h5.1
      · show _ = β.v _
        rw [hk1 i hi]; exact h5.2
  · exact nomatch hs
end
/-- A loop: from k to next k while R holds, the measure falling; what it leaves. -/
inductive Lp : Type 1 where
  | mk (κ : Type) (k0 : κ) (R : κ → Prop) (fr : κ → List (Nat × SV)) (mem : κ → List Row) (next : κ → κ) (μ : κ → Nat)
    (ι : Type) (Ro : ι → Prop) (fro : ι → List (Nat × SV)) (memo : ι → List Row) (which : κ → ι)
  /-- A loop that is left by a return alone. -/
  | fin (κ : Type) (k0 : κ) (R : κ → Prop) (fr : κ → List (Nat × SV)) (mem : κ → List Row) (next : κ → κ) (μ : κ → Nat)
  /-- A loop of so many rounds at most: the hints of each. -/
  | times (l : List (List (Nat × Hint)))
  /-- The same, with the loops within, and the calls that are gone through. -/
  | tm (l : List (List (Nat × Hint) × List Lp × List Lp))
  /-- A call that is gone through: its hints, its loops, its own such calls. -/
  | inl (H : List (Nat × Hint)) (L N : List Lp)
def loopK {κ ι : Type} (m : Nat) (R : κ → Prop) (fr : κ → List (Nat × SV)) (mem : κ → List Row) (next : κ → κ) (μ : κ → Nat) (Ro : ι → Prop) (fro : ι → List (Nat × SV)) (memo : ι → List Row) (which : κ → ι) (id : Nat) (Kr : St → Prop) (k : κ) : Exit → St → Prop
  | .normal, st => R (next k) ∧ μ (next k) < μ k ∧ Same m st (fr (next k)) (mem (next k))
  | .exit i, st => match Nat.beq i id with
    | true => Ro (which k) ∧ Same m st (fro (which k)) (memo (which k))
    | false => Stuck st
  | .ret, st => Kr st
  | _, _ => False
/-- The block that a loop's own end leaves. -/
def outId : Code → Nat
  | .seq x y => match outId x with
    | 0 => outId y
    | k => k
  | .cond _ x y => match outId x with
    | 0 => outId y
    | k => k
  | .exit i => i + 1
  | _ => 0
def nloops : Code → Nat
  | .seq x y => nloops x + nloops y
  | .cond _ x y => nloops x + nloops y
  | .block _ c => nloops c
  | .scope c => nloops c
  | .loop _ => 1
  | _ => 0
def timesB (body : List (Nat × Hint) → St → (Exit → St → Prop) → Prop) (K : Exit → St → Prop) : List (List (Nat × Hint)) → St → Prop
  | [], st => Stuck st
  | h :: r, st => body h st fun e st' => match e with
    | .normal => timesB body K r st'
    | .exit i => K (.exit i) st'
    | .ret => K .ret st'
    | _ => False
def tmB (body : List (Nat × Hint) × List Lp × List Lp → St → (Exit → St → Prop) → Prop) (K : Exit → St → Prop) : List (List (Nat × Hint) × List Lp × List Lp) → St → Prop
  | [], st => Stuck st
  | h :: r, st => body h st fun e st' => match e with
    | .normal => tmB body K r st'
    | .exit i => K (.exit i) st'
    | .ret => K .ret st'
    | _ => False
def joinOf (H : List (Nat × Hint)) : Operand → Option (List (Nat × SV) × List Row)
  | .tmp t => match hint H (some (500000 + t)) with
    | some (.join fr mem) => some (fr, mem)
    | _ => none
  | _ => none
def joinK (m : Nat) (fr : List (Nat × SV)) (mem : List Row) (K : Exit → St → Prop) : Exit → St → Prop
  | .normal, st => Same m st fr mem
  | e, st => K e st
def cutsOf (H : List (Nat × Hint)) (id : Nat) : List (Nat × List (Nat × SV) × List Row) := match hint H (some (700000 + id)) with
  | some (.cuts l) => l
  | _ => []
abbrev Inl := List (Nat × Hint) → List Lp → List Lp → FuncId → List SV → List Row → (SV → List Row → Prop) → Prop
def goneOf (IN : Inl) (N : List Lp) : Gone := fun k f args mem R => match N[k]? with
  | some (.inl H L N') => IN H L N' f args mem R
  | _ => Stuck k
section
variable (P : Program) (T : Tab P) (n : Nat) (b : Base) (IN : Inl) (m : Nat)
def exCut (N : List Lp) (H : List (Nat × Hint)) (ops : Array Oper) : List (Nat × List (Nat × SV) × List Row) → List Oper → St → (St → Prop) → Prop
  | [], l, st, K => exOps P T b (goneOf IN N) H n ops l st K
  | (q, fr, mem) :: cs, l, st, K => exOps P T b (goneOf IN N) H n ops (l.take q) st (fun st' => Same m st' fr mem) ∧ exCut N H ops cs (l.drop q) ⟨fr, mem⟩ K
def condB (c : Operand) (st : St) (X Y : St → Prop) : Prop := match ev st.fr c with
  | some (.v (.bool d)) => match c with
    | .tmp t => Bif d (X (st.lit t true)) (Y (st.lit t false))
    | _ => Bif d (X st) (Y st)
  | _ => Stuck c
def exB : Code → List (Nat × Hint) → List Lp → List Lp → St → (Exit → St → Prop) → Prop
  | .skip, _, _, _, st, K => K .normal st
  | .region id ops draw, H, _, N, st, K => match draw with
    | false => exCut P T n b IN m N H ops (cutsOf H id) ops.toList st (K .normal)
    | true => exDraw P T b (goneOf IN N) H n ops.toList st (K .normal)
  | .seq x y, H, L, N, st, K => exB x H L N st fun e st' => match e with
    | .normal => exB y H (L.drop (nloops x)) N st' K
    | e => K e st'
  | .cond c x y, H, L, N, st, K => match joinOf H c with
    | none => condB c st (fun st => exB x H L N st K) (fun st => exB y H (L.drop (nloops x)) N st K)
    | some q => condB c st (fun st => exB x H L N st (joinK m q.1 q.2 K)) (fun st => exB y H (L.drop (nloops x)) N st (joinK m q.1 q.2 K)) ∧ K .normal ⟨q.1, q.2⟩
  | .block id c, H, L, N, st, K => exB c H L N st fun e st' => match e with
    | .exit i => match Nat.beq i id with
      | true => K .normal st'
      | false => K (.exit i) st'
    | e => K e st'
  | .scope c, H, L, N, st, K => exB c H L N st fun e st' => match e with
    | .goto _ => False
    | e => K e st'
  | .loop c, _, L, N, st, K => match L with
    | .mk _ k0 R fr mem next μ _ Ro fro memo which :: _ => R k0 ∧ Same m st (fr k0) (mem k0) ∧ (∀ k, R k → ∃ H' L' N', exB c H' L' N' ⟨fr k, mem k⟩ (loopK m R fr mem next μ Ro fro memo which (outId c - 1) (K .ret) k)) ∧ ∀ x, Ro x → K (.exit (outId c - 1)) ⟨fro x, memo x⟩
    | .fin _ k0 R fr mem next μ :: _ => R k0 ∧ Same m st (fr k0) (mem k0) ∧ (∀ k, R k → ∃ H' L' N', exB c H' L' N' ⟨fr k, mem k⟩ (loopK m R fr mem next μ (fun (_ : Unit) => False) (fun _ => []) (fun _ => []) (fun _ => ()) (outId c - 1) (K .ret) k)) ∧ True
    | .times hs :: _ => timesB (fun H' st' K' => exB c H' [] N st' K') K hs st
    | .tm hs :: _ => tmB (fun h st' K' => exB c h.1 h.2.1 h.2.2 st' K') K hs st
    | _ => Stuck c
  | .exit id, _, _, _, st, K => K (.exit id) st
  | .label _, _, _, _, st, K => K .normal st
  | .goto l, _, _, _, st, K => K (.goto l) st
  | .ret, _, _, _, st, K => K .ret st
  | c, _, _, _, _, _ => Stuck c
end
def bodies : Code → List Code
  | .seq x y => bodies x ++ bodies y
  | .cond _ x y => bodies x ++ bodies y
  | .block _ c => bodies c
  | .scope c => bodies c
  | .loop c => [c]
  | _ => []
def bodyOf (fn : Func) (i : Nat) : Code := match fn.body with
  | some c => (bodies c).getD i .skip
  | none => .skip
def inBody (c : Code) (i : Nat) : Code := (bodies c).getD i .skip
def lift (ds : Dr) (b : Base) (n : Nat) (K : Exit → St → Prop) (e : Exit) (a : Act) (w : World) : Prop := match e with
  | .panic _ => False
  | e => ∃ β st, K e st ∧ Hd ds b n β st a w
section
variable {P : Program} {T : Tab P} {b : Base} {n : Nat} {ds : Dr}
theorem join_ok {m : Nat} (hd : ds.m = m) {fr : List (Nat × SV)} {mem : List Row} {K : Exit → St → Prop} (hk : K .normal ⟨fr, mem⟩) {e : Exit} {a : Act} {w : World} (hq : lift ds b n (joinK m fr mem K) e a w) : lift ds b n K e a w := by
  cases e with
  | normal =>
    obtain ⟨β', st', hs, h'⟩ := hq
    obtain ⟨β3, h3⟩ := h'.same hd hs
    exact ⟨β3, _, hk, h3⟩
  | _ => exact hq
theorem exCut_ok {IN : Inl} {m : Nat} {N : List Lp} (hX : GoneOk P b (goneOf IN N)) (hd : ds.m = m) {H : List (Nat × Hint)} {ops : Array Oper} {Q : Exit → Act → World → Prop} : ∀ (cs : List (Nat × List (Nat × SV) × List Row)) (l : List Oper) (st : St) (K : St → Prop) (β : Env) (a : Act) (w : World), Hd ds b n β st a w → exCut P T n b IN m N H ops cs l st K → (∀ β' st' a' w', K st' → Hd ds b n β' st' a' w' → Q .normal a' w') → wpList P ops Q l a w
  | [], l, st, K, β, a, w, h, hx, hK => exOps_ok hX l st K β a w h hx hK
  | (q, fr, mem) :: cs, l, st, K, β, a, w, h, hx, hK => by
    have := exOps_app (ops := ops) (Q := Q) hX (l.drop q) (l.take q) st _ β a w h hx.1 fun β' st' a' w' hs h' => by
      obtain ⟨β3, h3⟩ := h'.same hd hs
      exact exCut_ok hX hd cs (l.drop q) ⟨fr, mem⟩ K β3 a' w' h3 hx.2 hK
    rwa [List.take_append_drop] at this
theorem condB_ok {c : Operand} {st : St} {X Y : St → Prop} {β : Env} {a : Act} {w : World} (h : Hd ds b n β st a w) (hx : condB c st X Y) : ∃ d st', a.eval c = .bool d ∧ Hd ds b n β st' a w ∧ (match d with
    | true => X st'
    | false => Y st') := by
  unfold condB at hx
  split at hx
  · rename_i d hd
    have hc : a.eval c = .bool d := h.eval hd
    split at hx
    · rename_i t
      have hl : ∀ d', d = d' → Hd ds b n β (st.lit t d') a w := fun d' hd' => h.eqS ⟨fun x => by
        unfold St.lit
        rw [look_put]
        split
        · rename_i he
          have hd : look st.fr t = some (.v (.bool d)) := hd
          rw [← he, hd, hd']; rfl
        · rfl, rfl⟩
      cases d with
      | true => exact ⟨true, _, hc, hl true rfl, hx⟩
      | false => exact ⟨false, _, hc, hl false rfl, hx⟩
    · cases d with
      | true => exact ⟨true, _, hc, h, hx⟩
      | false => exact ⟨false, _, hc, h, hx⟩
  · exact nomatch hx
/-- Calls that are gone through are gone through rightly. -/
def InOk (P : Program) (b : Base) (IN : Inl) : Prop := ∀ N, GoneOk P b (goneOf IN N)
theorem ex_ok {IN : Inl} {m : Nat} (hm : P.follows .mixedOrders = true) (hI : InOk P b IN) (hd : ds.m = m) : ∀ (c : Code) (H : List (Nat × Hint)) (L N : List Lp) (st : St) (K : Exit → St → Prop) (β : Env) (a : Act) (w : World), Hd ds b n β st a w → exB P T n b IN m c H L N st K → c.wp P (lift ds b n K) a w
  | .skip, H, L, N, st, K, β, a, w, h, hx => wp_skip ⟨β, st, hx, h⟩
  | .region id ops draw, H, L, N, st, K, β, a, w, h, hx => by
    unfold exB at hx
    cases draw with
    | false => exact wp_region_list (exCut_ok (hI N) hd _ ops.toList st (K .normal) β a w h hx fun β' st' a' w' hk h' => ⟨β', st', hk, h'⟩)
    | true =>
      have := exDraw_ok (id := id) (Q := lift ds b n K) (hI N) hm h hx fun β' st' a' w' hk h' => ⟨β', st', hk, h'⟩
      simpa using this
  | .seq x y, H, L, N, st, K, β, a, w, h, hx => by
    unfold exB at hx
    refine wp_seq (Code.wp_mono (fun e a' w' hq => ?_) (ex_ok hm hI hd x H L N st _ β a w h hx))
    cases e with
    | normal =>
      obtain ⟨β', st', hk, h'⟩ := hq
      exact ex_ok hm hI hd y H _ N st' K β' a' w' h' hk
    | panic c => exact hq
    | _ =>
      obtain ⟨β', st', hk, h'⟩ := hq
      exact ⟨β', st', hk, h'⟩
  | .cond c x y, H, L, N, st, K, β, a, w, h, hx => by
    unfold exB at hx
    split at hx
    · obtain ⟨d, st', hc, h', hx⟩ := condB_ok h hx
      cases d with
      | true => exact wp_cond_true hc (ex_ok hm hI hd x H L N st' K β a w h' hx)
      | false => exact wp_cond_false hc (ex_ok hm hI hd y H _ N st' K β a w h' hx)
    · obtain ⟨hx, hk⟩ := hx
      obtain ⟨d, st', hc, h', hx⟩ := condB_ok h hx
      cases d with
      | true => exact wp_cond_true hc (Code.wp_mono (fun e a' w' hq => join_ok hd hk hq) (ex_ok hm hI hd x H L N st' _ β a w h' hx))
      | false => exact wp_cond_false hc (Code.wp_mono (fun e a' w' hq => join_ok hd hk hq) (ex_ok hm hI hd y H _ N st' _ β a w h' hx))
  | .block id c, H, L, N, st, K, β, a, w, h, hx => by
    unfold exB at hx
    refine wp_block (Code.wp_mono (fun e a' w' hq => ?_) (ex_ok hm hI hd c H L N st _ β a w h hx))
    cases e with
    | exit i =>
      obtain ⟨β', st', hk, h'⟩ := hq
      simp only at hk
      split at hk
      · rename_i hb
        simp only [Exit.inBlock, Nat.eq_of_beq_eq_true hb, if_true]
        exact ⟨β', st', hk, h'⟩
      · rename_i hb
        have : i ≠ id := fun h => by rw [h, Nat.beq_refl] at hb; cases hb
        simp only [Exit.inBlock, this, if_false]
        exact ⟨β', st', hk, h'⟩
    | panic c => exact hq
    | _ =>
      obtain ⟨β', st', hk, h'⟩ := hq
      exact ⟨β', st', hk, h'⟩
  | .scope c, H, L, N, st, K, β, a, w, h, hx => by
    unfold exB at hx
    refine wp_scope_straight (Code.wp_mono (fun e a' w' hq => ?_) (ex_ok hm hI hd c H L N st _ β a w h hx))
    cases e with
    | goto l =>
      obtain ⟨β', st', hk, h'⟩ := hq
      exact hk
    | panic c => exact hq
    | _ =>
      obtain ⟨β', st', hk, h'⟩ := hq
      exact ⟨β', st', hk, h'⟩
  | .loop c, H, L, N, st, K, β, a, w, h, hx => by
    have round : ∀ {κ ι : Type} (R : κ → Prop) (fr : κ → List (Nat × SV)) (mem : κ → List Row) (next : κ → κ) (μ : κ → Nat) (Ro : ι → Prop) (fro : ι → List (Nat × SV)) (memo : ι → List Row) (which : κ → ι) (k0 : κ), R k0 → Same m st (fr k0) (mem k0) → (∀ k, R k → ∃ H' L' N', exB P T n b IN m c H' L' N' ⟨fr k, mem k⟩ (loopK m R fr mem next μ Ro fro memo which (outId c - 1) (K .ret) k)) → (∀ x, Ro x → K (.exit (outId c - 1)) ⟨fro x, memo x⟩) → (Code.loop c).wp P (lift ds b n K) a w := by
      intro κ ι R fr mem next μ Ro fro memo which k0 h0 hs hround hout
      obtain ⟨β0, h00⟩ := h.same hd hs
      refine wp_loop_ghost (fun q a w => ∃ β k, μ k = q ∧ R k ∧ Hd ds b n β ⟨fr k, mem k⟩ a w) (μ k0) ⟨β0, k0, rfl, h0, h00⟩ ?_
      rintro q a' w' ⟨β', k, rfl, hR, h'⟩
      obtain ⟨H', L', N', hround⟩ := hround k hR
      refine Code.wp_mono (fun e a2 w2 hq => ?_) (ex_ok hm hI hd c _ _ _ _ _ β' a' w' h' hround)
      cases e with
      | normal =>
        obtain ⟨β2, st2, hk, h2⟩ := hq
        obtain ⟨β3, h3⟩ := h2.same hd hk.2.2
        exact ⟨μ (next k), hk.2.1, β3, next k, rfl, hk.1, h3⟩
      | exit id =>
        obtain ⟨β2, st2, hk, h2⟩ := hq
        simp only [loopK] at hk
        split at hk
        · rename_i hb
          rw [Nat.eq_of_beq_eq_true hb]
          obtain ⟨β3, h3⟩ := h2.same hd hk.2
          exact ⟨β3, _, hout _ hk.1, h3⟩
        · exact nomatch hk
      | goto l =>
        obtain ⟨β2, st2, hk, h2⟩ := hq
        exact hk.elim
      | ret =>
        obtain ⟨β2, st2, hk, h2⟩ := hq
        exact ⟨β2, st2, hk, h2⟩
      | panic c => exact hq
      | outgrown =>
        obtain ⟨β2, st2, hk, h2⟩ := hq
        exact hk.elim
    unfold exB at hx
    split at hx
    · obtain ⟨h0, hs, hround, hout⟩ := hx
      exact round _ _ _ _ _ _ _ _ _ _ h0 hs hround hout
    · obtain ⟨h0, hs, hround, _⟩ := hx
      exact round _ _ _ _ _ _ _ _ _ _ h0 hs hround fun x hx => hx.elim
    · rename_i hs rest
      refine wp_loop_ghost (fun q a w => ∃ (β : Env) (st : St) (r : List (List (Nat × Hint))), r.length = q ∧ (timesB (fun H' st' K' => exB P T n b IN m c H' [] N st' K') K r st) ∧ Hd ds b n β st a w) hs.length ⟨β, st, hs, rfl, hx, h⟩ ?_
      rintro q a' w' ⟨β', st', r, rfl, hx', h'⟩
      cases r with
      | nil => unfold timesB at hx'; exact nomatch hx'
      | cons hh r =>
        unfold timesB at hx'
        refine Code.wp_mono (fun e a2 w2 hq => ?_) (ex_ok hm hI hd c _ _ _ _ _ β' a' w' h' hx')
        cases e with
        | normal =>
          obtain ⟨β2, st2, hk, h2⟩ := hq
          exact ⟨r.length, by simp, β2, st2, r, rfl, hk, h2⟩
        | exit id =>
          obtain ⟨β2, st2, hk, h2⟩ := hq
          exact ⟨β2, st2, hk, h2⟩
        | goto l =>
          obtain ⟨β2, st2, hk, h2⟩ := hq
          exact hk.elim
        | ret =>
          obtain ⟨β2, st2, hk, h2⟩ := hq
          exact ⟨β2, st2, hk, h2⟩
        | panic c => exact hq
        | outgrown =>
          obtain ⟨β2, st2, hk, h2⟩ := hq
          exact hk.elim
    · rename_i hs rest
      refine wp_loop_ghost (fun q a w => ∃ (β : Env) (st : St) (r : List (List (Nat × Hint) × List Lp × List Lp)), r.length = q ∧ (tmB (fun h st' K' => exB P T n b IN m c h.1 h.2.1 h.2.2 st' K') K r st) ∧ Hd ds b n β st a w) hs.length ⟨β, st, hs, rfl, hx, h⟩ ?_
      rintro q a' w' ⟨β', st', r, rfl, hx', h'⟩
      cases r with
      | nil => unfold tmB at hx'; exact nomatch hx'
      | cons hh r =>
        unfold tmB at hx'
        refine Code.wp_mono (fun e a2 w2 hq => ?_) (ex_ok hm hI hd c _ _ _ _ _ β' a' w' h' hx')
        cases e with
        | normal =>
          obtain ⟨β2, st2, hk, h2⟩ := hq
          exact ⟨r.length, by simp, β2, st2, r, rfl, hk, h2⟩
        | exit id =>
          obtain ⟨β2, st2, hk, h2⟩ := hq
          exact ⟨β2, st2, hk, h2⟩
        | goto l =>
          obtain ⟨β2, st2, hk, h2⟩ := hq
          exact hk.elim
        | ret =>
          obtain ⟨β2, st2, hk, h2⟩ := hq
          exact ⟨β2, st2, hk, h2⟩
        | panic c => exact hq
        | outgrown =>
          obtain ⟨β2, st2, hk, h2⟩ := hq
          exact hk.elim
    · exact nomatch hx
  | .exit id, H, L, N, st, K, β, a, w, h, hx => wp_exit ⟨β, st, hx, h⟩
  | .label l, H, L, N, st, K, β, a, w, h, hx => wp_label ⟨β, st, hx, h⟩
  | .ret, H, L, N, st, K, β, a, w, h, hx => wp_ret ⟨β, st, hx, h⟩
  | .rangeFunc .., _, _, _, _, _, _, _, _, _, hx => by unfold exB at hx; exact nomatch hx
  | .goto l, H, L, N, st, K, β, a, w, h, hx => wp_goto ⟨β, st, hx, h⟩
  | .refuse _, _, _, _, _, _, _, _, _, _, hx => by unfold exB at hx; exact nomatch hx
end
def resCell (P : Program) (row : Option Row) (t : TypeId) (off : Nat) : Option SV := match shapeOf P t with
  | none => none
  | some (rw, size) => match row with
    | some (.c _ _ cs) => readCs rw size off cs.svs
    | some (.k _ cs) => readCs rw size off cs.svs
    | _ => none
def resSV (P : Program) (st : St) : List ResultVar → Option (List SV)
  | [] => some []
  | .tmp t :: r => match look st.fr t with
    | some sv => match resSV P st r with
      | some l => some (sv :: l)
      | none => none
    | none => none
  | .cell b t :: r => match look st.fr b with
    | some (.p i off) => match resCell P st.mem[i]? t off with
      | some sv => match resSV P st r with
        | some l => some (sv :: l)
        | none => none
      | none => none
    | _ => none
def wrapUp : List Value → Value
  | [v] => v
  | l => .tuple l.toArray
def wrapS : List SV → SV
  | [s] => s
  | l => .tp l
theorem wrap_den {β : Env} : ∀ l : List SV, wrapUp (SV.dens β l) = (wrapS l).den β
  | [] => rfl
  | [s] => rfl
  | s :: u :: l => by rw [SV.dens, SV.dens]; rfl
section
variable {P : Program} {T : Tab P} {b : Base} {n : Nat}
theorem loadVar_ld {W : World} {t : TypeId} {g off : Nat} {rw : Bool} {size : Nat} {v : Value} (hs : shapeOf P t = some (rw, size)) (hv : LdAt W g off rw size v) : (loadVar t ⟨g, off, none⟩).run P W = .ok v W := by
  have ho := exec_load (P := P) (a := ⟨#[], []⟩) (o := ⟨none, .load t (.const (.pointer (some ⟨g, off, none⟩))), 0, "", #[], none⟩) (x := .const (.pointer (some ⟨g, off, none⟩))) rfl rfl hs hv
  simp only [execOp, Act.eval, Sem.run_bind, run_sure] at ho
  cases hr : (loadVar t ⟨g, off, none⟩).run P W with
  | ok u w' =>
    rw [hr] at ho
    simp only [Result.andThen_ok, Sem.run_pure] at ho
    injection ho with h1 h2
    injection h1 with h1
    rw [h1, h2]
  | halt x w' => rw [hr] at ho; cases ho
theorem resSV_ok {ds : Dr} {st : St} {β : Env} {a : Act} {w : World} (h : Hd ds b n β st a w) {F : ResultVar → Sem Value} (hF : ∀ t, F (.tmp t) = pure (a.tmps.getD t undef)) (hG : ∀ b t, F (.cell b t) = do loadVar t (← asAddr (a.tmps.getD b undef))) : ∀ {l : List ResultVar} {vs : List SV}, resSV P st l = some vs → (l.mapM F).run P w = .ok (SV.dens β vs) w
  | [], vs, hr => by
    have : vs = [] := by simpa [resSV] using hr.symm
    subst this
    rfl
  | .tmp t :: r, vs, hr => by
    rw [resSV] at hr
    split at hr
    · rename_i v hv
      split at hr
      · rename_i us hu
        cases hr
        have h1 := h.get t _ hv
        have ih := resSV_ok h hF hG hu
        rw [List.mapM_cons, hF]
        simp only [Sem.run_bind, Sem.run_pure, Result.andThen_ok, ih, SV.dens]
        simp [h1]
      · cases hr
    · cases hr
  | .cell c t :: r, vs, hr => by
    rw [resSV] at hr
    split at hr
    · rename_i i off hv
      split at hr
      · rename_i sv hsv
        split at hr
        · rename_i us hu
          cases hr
          have h1 := h.get c _ hv
          have ih := resSV_ok h hF hG hu
          have h2 : (loadVar t ⟨β.b i, off, none⟩).run P w = .ok (sv.den β) w := by
            unfold resCell at hsv
            split at hsv
            · cases hsv
            · rename_i rw size hsh
              split at hsv
              · rename_i g ty cs hrow
                have hh := h.held i _ hrow
                exact loadVar_ld hsh (readCs_ok hsv fun j u hu => hh.2.cell_of (by rw [← svs_den]; exact hu))
              · rename_i ty cs hrow
                have hh := h.held i _ hrow w h.cg
                exact loadVar_ld hsh (readCs_ok hsv fun j u hu => hh.cell_of (by rw [← svs_den]; exact hu))
              · cases hsv
          have h3 : a.tmps.getD c undef = .pointer (some ⟨β.b i, off, none⟩) := by simp [h1, SV.den]
          rw [List.mapM_cons, hG, h3]
          simp only [Sem.run_bind, asAddr, Sem.run_pure, Result.andThen_ok, h2, ih, SV.dens]
        · cases hr
      · cases hr
    · cases hr
/-- What is asked at the end of a function, of what it gives back and its rows. -/
def atEnd (P : Program) (fn : Func) (R : SV → List Row → Prop) : Exit → St → Prop
  | .normal, st => match resSV P st fn.results.toList with
    | some l => R (wrapS l) st.mem
    | none => Stuck st
  | .ret, st => match resSV P st fn.results.toList with
    | some l => R (wrapS l) st.mem
    | none => Stuck st
  | _, _ => False
def anyPost (b : Base) (R : SV → List Row → Prop) (e : Ending) (w' : World) : Prop := ∃ β s mem, R s mem ∧ e = .returned (s.den β) ∧ RowsOk b β w' mem
def anyPostM (ds : Dr) (b : Base) (R : SV → List Row → Prop) (e : Ending) (w' : World) : Prop := ∃ β s mem, R s mem ∧ e = .returned (s.den β) ∧ RowsOk b β w' mem ∧ (∀ (i : Nat) (r : Row), mem[i]? = some r → ∀ j ∈ r.idx, j < mem.length) ∧ ∀ i, i < ds.m → ds.e.at β i ∧ i < mem.length
theorem atEnd_ok {ds : Dr} {fn : Func} {R : SV → List Row → Prop} {e : Exit} {a : Act} {w : World} (hl : ds.l = []) (h : lift ds b n (atEnd P fn R) e a w) : bodyPost P fn (anyPostM ds b R) e a w := by
  have main : ∀ {β st}, Hd ds b n β st a w → (match resSV P st fn.results.toList with | some l => R (wrapS l) st.mem | none => Stuck st : Prop) → a.defers = [] ∧ ∃ v, (results fn a.tmps).run P w = .ok v w ∧ anyPostM ds b R (.returned v) w := by
    intro β st h hk
    split at hk
    · rename_i l hl'
      refine ⟨h.dn.trans hl, wrapUp (SV.dens β l), ?_, β, wrapS l, st.mem, hk, by rw [wrap_den], ⟨h.held, h.new, h.inj, h.cg⟩, h.wfR, h.keep⟩
      unfold results
      rw [Array.mapM_eq_mapM_toList]
      simp only [Sem.run_bind, map_eq_pure_bind, Sem.run_pure]
      rw [resSV_ok (P := P) h (fun _ => rfl) (fun _ _ => rfl) hl']
      simp only [Result.andThen_ok]
      congr 1
      generalize SV.dens β l = vs
      match vs with
      | [] => rfl
      | [v] => rfl
      | v :: u :: r => simp [wrapUp]
    · exact nomatch hk
  cases e with
  | normal => obtain ⟨β, st, hk, h⟩ := h; exact main h hk
  | ret => obtain ⟨β, st, hk, h⟩ := h; exact main h hk
  | panic chain => exact h.elim
  | _ => obtain ⟨_, _, hk, _⟩ := h; exact hk.elim
def argsG : Nat → List SV → List (Nat × SV)
  | _, [] => []
  | k, v :: r => (k, v) :: argsG (k + 1) r
theorem look_argsG : ∀ {vs : List SV} {k t : Nat} {sv : SV}, look (argsG k vs) t = some sv → k ≤ t ∧ vs[t - k]? = some sv
  | v :: r, k, t, sv, h => by
    rw [argsG, look_put] at h
    split at h
    · rename_i hk
      rw [known_some h]
      exact ⟨by omega, by rw [show t - k = 0 by omega]; rfl⟩
    · obtain ⟨h2, h3⟩ := look_argsG h
      refine ⟨by omega, ?_⟩
      rw [show t - k = (t - (k + 1)) + 1 by omega, List.getElem?_cons_succ]
      exact h3
theorem hd_door {ds : Dr} {w : World} {fn : Func} {β : Env} {mem : List Row} {args : List SV} (hl : ds.l = []) (hk : ∀ i, i < ds.m → ds.e.at β i ∧ i < mem.length) (hF : RowsOk b β w mem) (hn : args.length ≤ fn.ntmps) (hw1 : ∀ (i : Nat) (r : Row), mem[i]? = some r → ∀ j ∈ r.idx, j < mem.length) (hw2 : ∀ s ∈ args, ∀ j ∈ s.idx, j < mem.length) : Hd ds b fn.ntmps β ⟨argsG 0 args, mem⟩ ⟨(SV.dens β args).toArray ++ Array.replicate (fn.ntmps - (SV.dens β args).toArray.size) undef, []⟩ w := by
  have hlen : (SV.dens β args).length = args.length := dens_length args
  refine ⟨by simp; omega, hl.symm, fun t sv ht => ?_, hF.held, hF.new, hF.inj, hF.cg, fun t sv ht => ?_, fun i r hi => hw1 i r hi, hk⟩
  · obtain ⟨_, hv⟩ := look_argsG ht
    have hlt : t < args.length := (List.getElem?_eq_some_iff.1 hv).1
    rw [Array.getElem?_append_left (by simpa [hlen] using hlt)]
    simp only [Nat.sub_zero] at hv
    rw [List.getElem?_toArray, dens_get, hv]
    rfl
  · obtain ⟨_, hv⟩ := look_argsG ht
    exact hw2 sv (List.mem_of_getElem? hv)
/-- Calls that are gone through, so deep. -/
def inD (P : Program) (T : Tab P) (b : Base) : Nat → Inl
  | 0 => fun _ _ _ f _ _ _ => Stuck f
  | d + 1 => fun H L N f args mem R => match P.funcs[f]? with
    | some fn => match fn.body with
      | some c => match okFn P f && Nat.ble args.length fn.ntmps with
        | true => exB P T fn.ntmps b (inD P T b d) mem.length c H L N ⟨argsG 0 args, mem⟩ (atEnd P fn R)
        | false => Stuck f
      | none => Stuck f
    | none => Stuck f
theorem inD_ok (hm : P.follows .mixedOrders = true) : ∀ d, InOk P b (inD P T b d)
  | 0, N, k, f, args, mem, R, hx => by
    unfold goneOf at hx
    split at hx
    · exact nomatch hx
    · exact nomatch hx
  | d + 1, N, k, f, args, mem, R, hx => by
    unfold goneOf at hx
    split at hx
    · rename_i H L N' hN
      unfold inD at hx
      split at hx
      · rename_i fn hf
        split at hx
        · rename_i c hb
          split at hx
          · rename_i hok
            rw [Bool.and_eq_true] at hok
            refine ⟨hok.1, fun β w hF hw1 hw2 => ?_⟩
            refine calls_of_wp hf hb (Code.wp_mono (fun e a w hq => ?_) (ex_ok (ds := ⟨[], mem.length, β⟩) (b := b) (n := fn.ntmps) hm (inD_ok hm d) rfl c H L N' _ _ β _ w (hd_door rfl (fun i hi => ⟨⟨rfl, rfl⟩, hi⟩) hF (Nat.le_of_ble_eq_true hok.2) hw1 hw2) hx))
            exact atEnd_ok (ds := ⟨[], mem.length, β⟩) rfl hq
          · exact nomatch hx
        · exact nomatch hx
      · exact nomatch hx
    · exact nomatch hx
/-- **A function's contract by reckoning**: it is handed what the rows tell. -/
theorem calls_fn {w : World} {f : FuncId} {fn : Func} {c : Code} {S : Nat → Prop} {β : Env} {mem : List Row} {args : List SV} {R : SV → List Row → Prop} (hF : RowsOk ⟨w, S⟩ β w mem)
    (H : List (Nat × Hint)) (L N : List Lp) (hm : P.follows .mixedOrders = true) (hf : P.funcs[f]? = some fn) (hb : fn.body = some c) (hn : args.length ≤ fn.ntmps) (hw : (allB (fun r => ltAll mem.length r.idx) mem && allB (fun s => ltAll mem.length s.idx) args) = true)
    (hx : exB P T fn.ntmps ⟨w, S⟩ (inD P T ⟨w, S⟩ 4) 0 c H L N ⟨argsG 0 args, mem⟩ (atEnd P fn R)) : Calls P f (SV.dens β args).toArray w (anyPost ⟨w, S⟩ R) := by
  rw [Bool.and_eq_true] at hw
  have h0 := hd_door (ds := ⟨[], 0, β⟩) (fn := fn) rfl (fun i hi => absurd hi (Nat.not_lt_zero i)) hF hn (fun i r hi => ltAll_spec (allB_spec hw.1 r (List.mem_of_getElem? hi))) (fun s hs => ltAll_spec (allB_spec hw.2 s hs))
  refine (calls_of_wp hf hb (Code.wp_mono (fun e a w hq => ?_) (ex_ok (ds := ⟨[], 0, β⟩) (b := ⟨w, S⟩) (n := fn.ntmps) hm (inD_ok hm 4) rfl c H L N _ _ β _ w h0 hx)) : Calls P f (SV.dens β args).toArray w (anyPostM ⟨[], 0, β⟩ ⟨w, S⟩ R)).mono fun e w' hp => ?_
  · exact atEnd_ok (ds := ⟨[], 0, β⟩) rfl hq
  · obtain ⟨β', s, mem', h1, h2, h3, _⟩ := hp
    exact ⟨β', s, mem', h1, h2, h3⟩
/-- A loop's rounds, where so many calls deep may be gone through, and so many rows stay as they stood. -/
def RoundsI (P : Program) (T : Tab P) (d m : Nat) (n : Nat) (b : Base) (c : Code) (Kr : St → Prop) : Lp → Prop
  | .mk _ _ R fr mem next μ _ Ro fro memo which => ∀ k, R k → ∃ H' L' N', exB P T n b (inD P T b d) m c H' L' N' ⟨fr k, mem k⟩ (loopK m R fr mem next μ Ro fro memo which (outId c - 1) Kr k)
  | .fin _ _ R fr mem next μ => ∀ k, R k → ∃ H' L' N', exB P T n b (inD P T b d) m c H' L' N' ⟨fr k, mem k⟩ (loopK m R fr mem next μ (fun (_ : Unit) => False) (fun _ => []) (fun _ => []) (fun _ => ()) (outId c - 1) Kr k)
  | _ => True
/-- A loop's rounds. -/
abbrev Rounds (P : Program) (T : Tab P) (n : Nat) (b : Base) (c : Code) (Kr : St → Prop) (l : Lp) : Prop := RoundsI P T 4 0 n b c Kr l
end
end Ax
end Go.Proofs.YtcpbbgkeigbndaaGreat

/- A reckoner of calls, part 13: what is known of a function becomes what its calls come to. Proved over any program. No condition of its own. -/
namespace Go.Proofs.YtcpbbgkeigbndaaGreat
open Go Go.RowKit Go.Lib Go.Sort

namespace Ax
/-- What an argument is: a value, a slice to be read (its elements' cells), a pointer to a block that is read, an object that is read, a slice of slices, a struct of so many cells (which are slices). -/
inductive Kd where
  | v
  | s (size : Nat)
  | k (ty : TypeId)
  | q (t : Nat)
  | ps (size : Nat)
  | st (n : Nat) (pl : List (Nat × Nat))
inductive Vw where
  | v (x : Value)
  | s (n : Nat) (xs : List Value)
  | c (cs : List Value)
  | q (t : Nat) (x : D t)
  | ps (l : List (Nat × List Value))
  | st (cs : List Value) (l : List (Nat × List Value))
def psView (b : Base) (row : Nat → Option Row) (size : Nat) : List SV → Option (List (Nat × List Value) × Option Prop × List Nat)
  | [] => some ([], none, [])
  | sv :: r => match srcOf b row size sv with
    | some (n, xs, ob, see) => match psView b row size r with
      | some p => some ((n, xs) :: p.1, andO ob p.2.1, see ++ p.2.2)
      | none => none
    | none => none
def sizeAt (k : Nat) : List (Nat × Nat) → Option Nat
  | [] => none
  | q :: r => match Nat.beq q.1 k with
    | true => some q.2
    | false => sizeAt k r
def stView (b : Base) (row : Nat → Option Row) (pl : List (Nat × Nat)) : Nat → List SV → Option (List Value × List (Nat × List Value) × Option Prop × List Nat)
  | _, [] => some ([], [], none, [])
  | k, sv :: r => match sizeAt k pl with
    | none => match sv with
      | .v x => match stView b row pl (k + 1) r with
        | some p => some (x :: p.1, p.2.1, p.2.2.1, p.2.2.2)
        | none => none
      | _ => none
    | some size => match srcOf b row size sv with
      | some (n, xs, ob, see) => match stView b row pl (k + 1) r with
        | some p => some (.slice none 0 0 :: p.1, (n, xs) :: p.2.1, andO ob p.2.2.1, see ++ p.2.2.2)
        | none => none
      | none => none
def cellsAt (row : Nat → Option Row) (i m : Nat) : Option Cs := match row i with
  | some (.c _ _ cs) => match Nat.beq cs.svs.length m with
    | true => some cs
    | false => none
  | some (.k _ cs) => match Nat.beq cs.svs.length m with
    | true => some cs
    | false => none
  | _ => none
def viewOf (b : Base) (row : Nat → Option Row) : Kd → SV → Option (Vw × Option Prop × List Nat)
  | .v, sv => match sv with
    | .v x => some (.v x, none, [])
    | _ => none
  | .s size, sv => match srcOf b row size sv with
    | some (n, xs, ob, see) => some (.s n xs, ob, see)
    | none => none
  | .k ty, sv => match sv with
    | .p i 0 => match row i with
      | some (.c _ t cs) => match Nat.beq t ty with
        | true => match allV cs.svs with
          | some l => some (.c l, none, [i])
          | none => none
        | false => none
      | some (.k t cs) => match Nat.beq t ty with
        | true => match allV cs.svs with
          | some l => some (.c l, none, [i])
          | none => none
        | false => none
      | _ => none
    | _ => none
  | .q t, sv => match sv with
    | .o i => match row i with
      | some (.o t' x) => match Nat.beq t' t with
        | true => some (.q t' x, none, [i])
        | false => none
      | some (.q t' x) => match Nat.beq t' t with
        | true => some (.q t' x, none, [i])
        | false => none
      | _ => none
    | _ => none
  | .ps size, sv => match sv with
    | .sl i 0 m cap => match cellsAt row i m with
      | some cs => match Nat.ble m cap with
        | true => match psView b row size cs.svs with
          | some p => some (.ps p.1, p.2.1, i :: p.2.2)
          | none => none
        | false => none
      | none => none
    | _ => none
  | .st n pl, sv => match isAg sv with
    | true => match svCells sv with
      | some cells => match Nat.beq cells.length n with
        | true => match stView b row pl 0 cells with
          | some p => some (.st p.1 p.2.1, p.2.2.1, p.2.2.2)
          | none => none
        | false => none
      | none => none
    | false => none
def views (b : Base) (row : Nat → Option Row) : List Kd → List SV → Option (List Vw × Option Prop × List Nat)
  | [], [] => some ([], none, [])
  | k :: ks, s :: l => match viewOf b row k s with
    | some (v, ob, see) => match views b row ks l with
      | some (vs, ob', see') => some (v :: vs, andO ob ob', see ++ see')
      | none => none
    | none => none
  | _, _ => none
def PsOk (W : World) (size : Nat) : List Value → List (Nat × List Value) → Prop
  | [], [] => True
  | p :: ps, q :: l => Rd W size p q.1 q.2 ∧ PsOk W size ps l
  | _, _ => False
def StOk (W : World) (pl : List (Nat × Nat)) : Nat → List Value → List (Nat × List Value) → List Value → Prop
  | _, [], [], [] => True
  | k, c :: cs, l, y :: full => match sizeAt k pl with
    | none => y = c ∧ StOk W pl (k + 1) cs l full
    | some size => match l with
      | q :: l' => c = .slice none 0 0 ∧ Rd W size y q.1 q.2 ∧ StOk W pl (k + 1) cs l' full
      | [] => False
  | _, _, _, _ => False
/-- An argument is what its view says. -/
def ArgOk (W : World) : Kd → Vw → Value → Prop
  | .v, .v x, y => y = x
  | .s size, .s n xs, y => Rd W size y n xs
  | .k ty, .c cs, y => ∃ g, y = .pointer (some ⟨g, 0, none⟩) ∧ Blk W g ty cs
  | .q t, .q t' x, y => t' = t ∧ ∃ F, (pred t' x).on W y F
  | .ps size, .ps l, y => ∃ ps, Rd W 1 y l.length ps ∧ PsOk W size ps l
  | .st n pl, .st cs l, y => ∃ full : List Value, y = .agg full.toArray ∧ full.length = n ∧ StOk W pl 0 cs l full
  | _, _, _ => False
def ArgsOk (W : World) : List Kd → List Vw → List Value → Prop
  | [], [], [] => True
  | k :: ks, v :: vs, y :: l => ArgOk W k v y ∧ ArgsOk W ks vs l
  | _, _, _ => False
/-- What a call gives: the rows that are new, the value. -/
structure Rt where
  new : List Row
  ret : SV
def Rt.v (x : Value) : Rt := ⟨[], .v x⟩
def RtPost (W : World) (rt : Rt) (e : Ending) (W' : World) : Prop := ∃ β, e = .returned (rt.ret.den β) ∧ RowsOk ⟨W, No⟩ β W' rt.new
def ownRow : Row → Bool
  | .c none _ _ => true
  | .s _ _ _ _ => true
  | .o _ _ => true
  | .sw _ _ _ _ => true
  | .mo _ => true
  | .mu _ => true
  | .ho _ => true
  | .mi _ _ => true
  | .z => true
  | .d => true
  | _ => false
def rtOk (rt : Rt) : Bool := ltAll rt.new.length rt.ret.idx && allB (fun r => ownRow r && ltAll rt.new.length r.idx) rt.new
def shift (m : Nat) (i : Nat) : Nat := m + i
def rtEff (m : Nat) (see : List Nat) (rt : Rt) : Eff := match rt.new with
  | [] => .pure see rt.ret
  | _ => ⟨see, [], [], rt.new.map (Row.ren (shift m)), rt.ret.ren (shift m)⟩
section
variable {P : Program} {b : Base} {β : Env} {W W' : World} {row : Nat → Option Row} {m : Nat}
theorem one_oneV {v : Value} (h : v.oneCell' = true) : oneV v = v := by
  cases v <;> first | rfl | cases h
theorem Rd.one {size n : Nat} {y : Value} {xs : List Value} (h : Rd W size y n xs) : y.oneCell' = true := by
  obtain ⟨_, _, A, c, rfl, _⟩ := h
  rfl
theorem psView_ok {size : Nat} : ∀ {l : List SV} {p : List (Nat × List Value) × Option Prop × List Nat} {see' : List Nat}, psView b row size l = some p → (∀ q, p.2.1 = some q → q) → See b β W row see' → (∀ i ∈ p.2.2, i ∈ see') → PsOk W size (SV.dens β l) p.1 ∧ p.1.length = l.length
  | [], p, see', h, _, _, _ => by cases h; exact ⟨trivial, rfl⟩
  | sv :: r, p, see', h, hob, hs, hsub => by
    unfold psView at h
    split at h
    · rename_i n xs ob see h1
      split at h
      · rename_i p' hp
        cases h
        obtain ⟨h2, h3⟩ := psView_ok hp (andO_r hob) hs fun i hi => hsub i (List.mem_append_right _ hi)
        exact ⟨⟨src_ok h1 (andO_l hob) hs fun i hi => hsub i (List.mem_append_left _ hi), h2⟩, by simp [h3]⟩
      · cases h
    · cases h
theorem PsOk.one {size : Nat} : ∀ {ps : List Value} {l : List (Nat × List Value)}, PsOk W size ps l → ∀ u ∈ ps, u.oneCell' = true
  | [], _, _, u, hu => by cases hu
  | p :: ps, [], h, _, _ => h.elim
  | p :: ps, q :: l, h, u, hu => by
    rcases List.mem_cons.1 hu with rfl | hu
    · exact h.1.one
    · exact PsOk.one h.2 u hu
theorem stView_ok {pl : List (Nat × Nat)} : ∀ {l : List SV} {k : Nat} {p : List Value × List (Nat × List Value) × Option Prop × List Nat} {see' : List Nat}, stView b row pl k l = some p → (∀ q, p.2.2.1 = some q → q) → See b β W row see' → (∀ i ∈ p.2.2.2, i ∈ see') → StOk W pl k p.1 p.2.1 (SV.dens β l)
  | [], k, p, see', h, _, _, _ => by cases h; trivial
  | sv :: r, k, p, see', h, hob, hs, hsub => by
    unfold stView at h
    split at h
    · rename_i hsz
      split at h
      · rename_i x
        split at h
        · rename_i p' hp
          cases h
          show StOk W pl k (x :: p'.1) p'.2.1 (x :: SV.dens β r)
          unfold StOk
          rw [hsz]
          exact ⟨rfl, stView_ok hp hob hs hsub⟩
        · cases h
      · cases h
    · rename_i size hsz
      split at h
      · rename_i n xs ob see h1
        split at h
        · rename_i p' hp
          cases h
          show StOk W pl k (_ :: p'.1) ((n, xs) :: p'.2.1) (sv.den β :: SV.dens β r)
          unfold StOk
          rw [hsz]
          exact ⟨rfl, src_ok h1 (andO_l hob) hs fun i hi => hsub i (List.mem_append_left _ hi), stView_ok hp (andO_r hob) hs fun i hi => hsub i (List.mem_append_right _ hi)⟩
        · cases h
      · cases h
theorem cellsAt_ok {i m : Nat} {cs : Cs} {see : List Nat} (h : cellsAt row i m = some cs) (hs : See b β W row see) (hi : i ∈ see) : cs.svs.length = m ∧ ∃ ty, Blk W (β.b i) ty (cs.den β) := by
  unfold cellsAt at h
  split at h
  · rename_i g ty cs' hrow
    split at h
    · rename_i hb
      cases h
      exact ⟨Nat.eq_of_beq_eq_true hb, ty, (hs.held i hi _ hrow).2⟩
    · cases h
  · rename_i ty cs' hrow
    split at h
    · rename_i hb
      cases h
      exact ⟨Nat.eq_of_beq_eq_true hb, ty, hs.held i hi _ hrow W hs.cg⟩
    · cases h
  · cases h
theorem viewOf_ok {k : Kd} {sv : SV} {v : Vw} {ob : Option Prop} {see see' : List Nat} (h : viewOf b row k sv = some (v, ob, see)) (hob : ∀ p, ob = some p → p) (hs : See b β W row see') (hsub : ∀ i ∈ see, i ∈ see') : ArgOk W k v (sv.den β) := by
  unfold viewOf at h
  split at h
  · split at h
    · cases h; rfl
    · cases h
  · split at h
    · rename_i n xs ob' see0 hsrc
      cases h
      exact src_ok hsrc hob hs hsub
    · cases h
  · split at h
    · rename_i i
      split at h
      · rename_i g t cs hrow
        split at h
        · rename_i ht
          have ht := Nat.eq_of_beq_eq_true ht
          subst ht
          split at h
          · rename_i l hl
            cases h
            have hh := hs.held i (hsub i (by simp)) _ hrow
            exact ⟨β.b i, rfl, by have := hh.2; rw [← svs_den, allV_den hl] at this; exact this⟩
          · cases h
        · cases h
      · rename_i t cs hrow
        split at h
        · rename_i ht
          have ht := Nat.eq_of_beq_eq_true ht
          subst ht
          split at h
          · rename_i l hl
            cases h
            have hh := hs.held i (hsub i (by simp)) _ hrow W hs.cg
            exact ⟨β.b i, rfl, by rw [← svs_den, allV_den hl] at hh; exact hh⟩
          · cases h
        · cases h
      · cases h
    · cases h
  · split at h
    · rename_i i
      split at h
      · rename_i t' x hrow
        split at h
        · rename_i hb
          cases h
          have hh := hs.held i (hsub i (by simp)) _ hrow
          exact ⟨Nat.eq_of_beq_eq_true hb, _, by show (pred t' x).on W (oneV (β.v i)) _; rw [one_oneV ((pred t' x).one hh)]; exact hh⟩
        · cases h
      · rename_i t' x hrow
        split at h
        · rename_i hb
          cases h
          obtain ⟨F, hh⟩ := hs.held i (hsub i (by simp)) _ hrow W hs.cg
          exact ⟨Nat.eq_of_beq_eq_true hb, F, by show (pred t' x).on W (oneV (β.v i)) _; rw [one_oneV ((pred t' x).one hh)]; exact hh⟩
        · cases h
      · cases h
    · cases h
  · split at h
    · rename_i i m cap
      split at h
      · rename_i cs hcs
        split at h
        · rename_i hle
          split at h
          · rename_i p hp
            cases h
            obtain ⟨h1, ty, h2⟩ := cellsAt_ok hcs hs (hsub i (by simp))
            obtain ⟨h3, h4⟩ := psView_ok hp hob hs fun j hj => hsub j (by simp [hj])
            have hlen : (SV.dens β cs.svs).length = m := by rw [dens_length, h1]
            refine ⟨SV.dens β cs.svs, ⟨by rw [hlen, h4, h1, Nat.mul_one], h3.one, some ⟨β.b i, 0, none⟩, cap, by rw [h4, h1]; rfl, by rw [h4, h1]; exact Nat.le_of_ble_eq_true hle, fun _ => ⟨_, _, rfl, h2.lt, fun j u hu => ?_⟩⟩, h3⟩
            rw [svs_den] at hu
            rw [Nat.zero_add]
            exact h2.cell_of hu
          · cases h
        · cases h
      · cases h
    · cases h
  · split at h
    · rename_i hag
      split at h
      · rename_i cells hc
        split at h
        · rename_i hb
          split at h
          · rename_i p hp
            cases h
            have hcd := svCells_den (β := β) hc
            refine ⟨SV.dens β cells, ?_, by rw [dens_length]; exact Nat.eq_of_beq_eq_true hb, stView_ok hp hob hs hsub⟩
            rw [← hcd, Array.toArray_toList]
            cases sv with
            | v x => cases x with
              | agg arr => rfl
              | _ => cases hag
            | ag l => rfl
            | _ => cases hag
          · cases h
        · cases h
      · cases h
    · cases h
theorem views_ok : ∀ {ks : List Kd} {l : List SV} {vs : List Vw} {ob : Option Prop} {see see' : List Nat}, views b row ks l = some (vs, ob, see) → (∀ p, ob = some p → p) → See b β W row see' → (∀ i ∈ see, i ∈ see') → ArgsOk W ks vs (SV.dens β l)
  | [], [], vs, ob, see, see', h, _, _, _ => by cases h; trivial
  | [], _ :: _, _, _, _, _, h, _, _, _ => by cases h
  | _ :: _, [], _, _, _, _, h, _, _, _ => by cases h
  | k :: ks, s :: l, vs, ob, see, see', h, hob, hs, hsub => by
    unfold views at h
    split at h
    · rename_i v ob1 see1 h1
      split at h
      · rename_i vs2 ob2 see2 h2
        cases h
        exact ⟨viewOf_ok h1 (andO_l hob) hs fun i hi => hsub i (List.mem_append_left _ hi), views_ok h2 (andO_r hob) hs fun i hi => hsub i (List.mem_append_right _ hi)⟩
      · cases h
    · cases h
theorem held_own {b' : Base} {w : World} {i : Nat} {r : Row} (h : Held b β w i r) (hr : ownRow r = true) : Held b' β w i r := by
  cases r with
  | k _ _ => cases hr
  | r _ _ _ => cases hr
  | q _ _ => cases hr
  | sr _ _ _ => cases hr
  | mr _ => cases hr
  | mv _ => cases hr
  | hr _ => cases hr
  | _ => exact h
theorem ren_own {f : Nat → Nat} {r : Row} (hr : ownRow r = true) : ownRow (r.ren f) = true := by
  cases r with
  | c g ty cs => cases g with
    | none => rfl
    | some _ => cases hr
  | _ => exact hr
mutual
theorem ren_idx {f : Nat → Nat} : ∀ s : SV, (s.ren f).idx = s.idx.map f
  | .v _ => rfl
  | .p _ _ => rfl
  | .o _ => rfl
  | .sl _ _ _ _ => rfl
  | .sub _ _ _ _ => rfl
  | .e _ _ => rfl
  | .mp _ => rfl
  | .ag l => by rw [SV.ren, SV.idx, SV.idx, rens_idx l]
  | .tp l => by rw [SV.ren, SV.idx, SV.idx, rens_idx l]
  | .clo _ q l => by rw [SV.ren, SV.idx, SV.idx, List.map_append, rens_idx q, rens_idx l]
  | .ifc _ x => by rw [SV.ren, SV.idx, SV.idx, ren_idx x]
  | .gone => rfl
theorem rens_idx {f : Nat → Nat} : ∀ l : List SV, SV.idxs (SV.rens f l) = (SV.idxs l).map f
  | [] => rfl
  | x :: l => by rw [SV.rens, SV.idxs, SV.idxs, List.map_append, ren_idx x, rens_idx l]
end
theorem env_ren_held {f : Nat → Nat} {w : World} {i : Nat} {r : Row} (h : Held b (β.ren f) w i r) : Held b β w (f i) (r.ren f) := by
  cases r with
  | c g ty cs => exact ⟨h.1, by have := h.2; rw [← ren_cs] at this; exact this⟩
  | k ty cs => exact fun W hW => by have := h W hW; rw [← ren_cs] at this; exact this
  | sw ty size n l => simp only [Row.ren, Held, rens_dens]; exact h
  | sr size n l => simp only [Row.ren, Held, rens_dens]; exact h
  | mo es => simp only [Row.ren, Held, renE_dens]; exact h
  | mr es => simp only [Row.ren, Held, renE_dens]; exact h
  | mu es => simp only [Row.ren, Held, renE_dens]; exact h
  | mv es => simp only [Row.ren, Held, renE_dens]; exact h
  | mi cur es => simp only [Row.ren, Held, renE_dens]; exact h
  | _ => exact h
/-- New rows, laid behind those that there are. -/
theorem rt_epost {rt : Rt} {see : List Nat} {e : Ending} (h : RtPost W rt e W') (hok : rtOk rt = true) : ∃ v, e = .returned v ∧ EPost b β W row m (rtEff m see rt) v W' := by
  obtain ⟨β1, rfl, hr⟩ := h
  refine ⟨_, rfl, ?_⟩
  unfold rtOk at hok
  rw [Bool.and_eq_true] at hok
  have hret := ltAll_spec hok.1
  have hrows := allB_spec hok.2
  unfold rtEff
  split
  · rename_i hn
    rw [hn] at hret
    have : rt.ret.den β1 = rt.ret.den β := den_congr _ fun i hi => by have := hret i hi; simp at this
    rw [this]
    exact epost_pure hr.cg
  · rename_i hn
    obtain ⟨β', hβ'⟩ : ∃ β' : Env, β' = ⟨fun i => if m ≤ i ∧ i < m + rt.new.length then β1.b (i - m) else β.b i, fun i => if m ≤ i ∧ i < m + rt.new.length then β1.v (i - m) else β.v i, fun i => if m ≤ i ∧ i < m + rt.new.length then β1.F (i - m) else β.F i⟩ := ⟨_, rfl⟩
    have hin : ∀ j, j < rt.new.length → (β'.ren (shift m)).b j = β1.b j ∧ (β'.ren (shift m)).v j = β1.v j ∧ (β'.ren (shift m)).F j = β1.F j := fun j hj => by
      subst hβ'
      have hc : m ≤ shift m j ∧ shift m j < m + rt.new.length := by unfold shift; omega
      have he : shift m j - m = j := by unfold shift; omega
      simp only [Env.ren]
      rw [if_pos hc, if_pos hc, if_pos hc, he]
      exact ⟨rfl, rfl, rfl⟩
    have hat : ∀ j, j < rt.new.length → β1.at (β'.ren (shift m)) j := fun j hj => ⟨(hin j hj).1.symm, (hin j hj).2.1.symm⟩
    have hout : ∀ i, (i < m ∨ m + rt.new.length ≤ i) → β.at β' i ∧ β.F i = β'.F i := fun i hi => by
      subst hβ'
      refine ⟨⟨?_, ?_⟩, ?_⟩ <;> simp only <;> rw [if_neg (by omega)]
    have hlen : (rt.new.map (Row.ren (shift m))).length = rt.new.length := List.length_map _
    have kind : ∀ q, Eff.fresh ⟨see, [], [], rt.new.map (Row.ren (shift m)), rt.ret.ren (shift m)⟩ m q → ∃ j r, rt.new[j]? = some r ∧ q = (m + j, r.ren (shift m)) := by
      rintro ⟨i, r⟩ (h | ⟨j, h, hi⟩)
      · cases h
      · simp only [List.getElem?_map] at h hi
        obtain ⟨r', hr', he⟩ := Option.map_eq_some_iff.1 h
        exact ⟨j, r', hr', by rw [hi, ← he]⟩
    have held : ∀ j r, rt.new[j]? = some r → Held b β' W' (m + j) (r.ren (shift m)) := fun j r hj => by
      have hlt := (List.getElem?_eq_some_iff.1 hj).1
      have hrw := hrows r (List.mem_of_getElem? hj)
      rw [Bool.and_eq_true] at hrw
      have h1 := hr.held j r hj
      have h2 : Held ⟨W, No⟩ (β'.ren (shift m)) W' j r := Held.congr (hat j hlt) ((hin j hlt).2.2.symm) (fun k hk => hat k (ltAll_spec hrw.2 k hk)) h1
      exact held_own (env_ren_held h2) (ren_own hrw.1)
    have ft : ∀ j r, rt.new[j]? = some r → foot β' (m + j) (r.ren (shift m)) = foot β1 j r := fun j r hj => by
      have hlt := (List.getElem?_eq_some_iff.1 hj).1
      show foot β' (shift m j) _ = _
      rw [← ren_foot (f := shift m) (β := β') (i := j) (r := r)]
      exact (foot_congr (hat j hlt) (hin j hlt).2.2.symm).symm
    refine ⟨β', ?_, ⟨fun i hi => ?_, fun i hi _ => ?_, fun q hq => ?_, fun q hq x hx => ?_, fun q q' x hq hq' hx hx' => ?_, hr.cg.mono fun k hk => hk.elim⟩⟩
    · rw [ren_den]
      exact den_congr _ fun j hj => hat j (hret j hj)
    · rw [hlen] at hi; exact (hout i hi).1
    · rw [hlen] at hi; exact (hout i hi).2
    · obtain ⟨j, r, hj, rfl⟩ := kind q hq
      exact held j r hj
    · obtain ⟨j, r, hj, rfl⟩ := kind q hq
      rw [ft j r hj] at hx
      rcases hr.new j r x hj hx with h | h
      · exact h.elim
      · exact .inr h
    · obtain ⟨j, r, hj, rfl⟩ := kind q hq
      obtain ⟨j', r', hj', rfl⟩ := kind q' hq'
      rw [ft j r hj] at hx
      rw [ft j' r' hj'] at hx'
      rw [hr.inj j j' r r' x hj hj' hx hx']
end
/-- What is known of a function that turns nothing: its arguments' kinds, what it comes to. -/
structure Ent1 (P : Program) where
  f : FuncId
  ks : List Kd
  spec : List Vw → Option (Rt × Option Prop)
  okf : okFn P f = true
  ok : ∀ vs rt ob, spec vs = some (rt, ob) → (∀ p, ob = some p → p) → ∀ W l, ArgsOk W ks vs l → Calls P f l.toArray W (RtPost W rt)
def Ent1.run {P : Program} (e : Ent1 P) (b : Base) (row : Nat → Option Row) (m : Nat) (args : List SV) : OR := match views b row e.ks args with
  | some (vs, ob, see) => match e.spec vs with
    | some (rt, ob') => match rtOk rt with
      | true => some (rtEff m see rt, andO ob ob')
      | false => none
    | none => none
  | none => none
theorem rtEff_see {m : Nat} {see : List Nat} {rt : Rt} : (rtEff m see rt).see = see := by
  unfold rtEff
  split <;> rfl
theorem Ent1.run_ok {P : Program} (e : Ent1 P) {b : Base} {row : Nat → Option Row} {m : Nat} {args : List SV} {g : Eff} {ob : Option Prop} (h : e.run b row m args = some (g, ob)) (hob : ∀ p, ob = some p → p) {β : Env} {W : World} (hs : See b β W row g.see) : Calls P e.f (SV.dens β args).toArray W fun en W' => ∃ v, en = .returned v ∧ EPost b β W row m g v W' := by
  unfold Ent1.run at h
  split at h
  · rename_i vs ob1 see hv
    split at h
    · rename_i rt ob2 hsp
      split at h
      · rename_i hok
        cases h
        rw [rtEff_see] at hs
        exact (e.ok vs rt ob2 hsp (andO_r hob) W _ (views_ok hv (andO_l hob) hs fun i hi => hi)).mono fun en W' hp => rt_epost hp hok
      · cases h
    · cases h
  · cases h
def Tab.nil (P : Program) : Tab P := ⟨fun _ _ _ _ _ => none, fun _ _ _ _ _ _ _ h => by cases h⟩
/-- One function more. -/
def Tab.add {P : Program} (T : Tab P) (e : Ent1 P) : Tab P where
  t := fun b row m f args => match Nat.beq f e.f with
    | true => e.run b row m args
    | false => T.t b row m f args
  ok := fun b row m f args g ob h hob β W hs => by
    cases hb : Nat.beq f e.f with
    | true =>
      rw [hb] at h
      have hf := Nat.eq_of_beq_eq_true hb
      subst hf
      exact ⟨e.okf, e.run_ok h hob hs⟩
    | false =>
      rw [hb] at h
      exact T.ok b row m f args g ob h hob β W hs
/-- A value alone. -/
theorem rt_val {W W' : World} {x : Value} {e : Ending} (h : e = .returned x) (hc : Cg No W W') : RtPost W (.v x) e W' := ⟨⟨fun _ => 0, fun _ => undef, fun _ => No⟩, h, ⟨fun i r h => (by simp [Rt.v] at h), fun i r k h => (by simp [Rt.v] at h), fun i j r r' k h => (by simp [Rt.v] at h), hc⟩⟩
def stDoor (pl : List (Nat × Nat)) : Nat → List Value → List (Nat × List Value) → Nat → List Row × List SV
  | _, [], _, _ => ([], [])
  | k, c :: cs, l, i => match sizeAt k pl with
    | none => ((stDoor pl (k + 1) cs l i).1, .v c :: (stDoor pl (k + 1) cs l i).2)
    | some size => match l with
      | q :: l' => (.r size q.1 q.2 :: (stDoor pl (k + 1) cs l' (i + 1)).1, .o i :: (stDoor pl (k + 1) cs l' (i + 1)).2)
      | [] => ([], [])
/-- Rows of a door: the arguments' own. -/
def doorRows : List Kd → List Vw → Nat → List Row × List SV
  | k :: ks, v :: vs, i => match k, v with
    | .s size, .s n xs => match doorRows ks vs (i + 1) with
      | (rs, l) => (.r size n xs :: rs, .o i :: l)
    | .k ty, .c cs => match doorRows ks vs (i + 1) with
      | (rs, l) => (.k ty (.vs cs) :: rs, .p i 0 :: l)
    | .q _, .q t x => match doorRows ks vs (i + 1) with
      | (rs, l) => (.q t x :: rs, .o i :: l)
    | .st _ pl, .st cs l => match stDoor pl 0 cs l i with
      | (rs, s) => match doorRows ks vs (i + rs.length) with
        | (rs', l') => (rs ++ rs', .ag s :: l')
    | _, .v x => match doorRows ks vs i with
      | (rs, l) => (rs, .v x :: l)
    | _, _ => ([], [])
  | _, _, _ => ([], [])
def okKs : List Kd → Bool
  | [] => true
  | k :: r => match k with
    | .ps _ => false
    | _ => okKs r
/-- What is asked at the end: these rows of the state are the new ones. -/
def EndR (keep : List Nat) (rt : Rt) (s : SV) (mem : List Row) : Prop := s = rt.ret.ren (fun j => keep.getD j 0) ∧ keep.map (fun i => mem[i]?) = rt.new.map (fun r => some (r.ren fun j => keep.getD j 0))
end Ax
end Go.Proofs.YtcpbbgkeigbndaaGreat

/- A reckoner of calls, part 14: a function's contract out of its arguments' views. Proved over any program. No condition of its own. -/
namespace Go.Proofs.YtcpbbgkeigbndaaGreat
open Go Go.RowKit Go.Lib Go.Sort

namespace Ax
theorem Rd.no {W W' : World} {size n : Nat} {s : Value} {xs : List Value} (h : Rd W size s n xs) (hc : Cg No W W') : Rd W' size s n xs := by
  obtain ⟨h1, h2, A, c, h3, h4, h5⟩ := h
  refine ⟨h1, h2, A, c, h3, h4, fun h0 => ?_⟩
  obtain ⟨g, o, ha, hg, hr⟩ := h5 h0
  exact ⟨g, o, ha, Nat.lt_of_lt_of_le hg hc.size, fun j u hu => (hc.cell (p := ⟨g, o + j, none⟩) hg (fun h => h)).trans (hr j u hu)⟩
def stVals (pl : List (Nat × Nat)) : Nat → List Value → List Value
  | _, [] => []
  | k, y :: full => match sizeAt k pl with
    | none => stVals pl (k + 1) full
    | some _ => y :: stVals pl (k + 1) full
def partsV : Value → List Value
  | .agg arr => arr.toList
  | _ => []
def doorVals : List Kd → List Vw → List Value → List Value
  | k :: ks, v :: vs, y :: l => match k, v with
    | .s _, .s _ _ => y :: doorVals ks vs l
    | .k _, .c _ => y :: doorVals ks vs l
    | .q _, .q _ _ => y :: doorVals ks vs l
    | .st _ pl, .st _ _ => stVals pl 0 (partsV y) ++ doorVals ks vs l
    | _, _ => doorVals ks vs l
  | _, _, _ => []
def blkV : Value → Nat
  | .pointer (some a) => a.block
  | _ => 0
/-- What a door's rows are to say. -/
def DoorOk (W : World) (β : Env) (i : Nat) (rs : List Row) : Prop := ∀ (j : Nat) r, rs[j]? = some r → Held ⟨W, No⟩ β W (i + j) r ∧ ∀ x, ¬ foot β (i + j) r x
theorem DoorOk.cons {W : World} {β : Env} {i : Nat} {r : Row} {rs : List Row} (h1 : Held ⟨W, No⟩ β W i r ∧ ∀ x, ¬ foot β i r x) (h2 : DoorOk W β (i + 1) rs) : DoorOk W β i (r :: rs) := by
  intro j r' hj
  cases j with
  | zero =>
    rw [List.getElem?_cons_zero] at hj
    cases hj
    exact h1
  | succ j =>
    rw [List.getElem?_cons_succ] at hj
    rw [show i + (j + 1) = i + 1 + j by omega]
    exact h2 j r' hj
theorem DoorOk.app {W : World} {β : Env} {i : Nat} {rs rs' : List Row} (h1 : DoorOk W β i rs) (h2 : DoorOk W β (i + rs.length) rs') : DoorOk W β i (rs ++ rs') := by
  intro j r hj
  rcases Nat.lt_or_ge j rs.length with hlt | hge
  · rw [List.getElem?_append_left hlt] at hj
    exact h1 j r hj
  · rw [List.getElem?_append_right hge] at hj
    have := h2 _ r hj
    rwa [show i + rs.length + (j - rs.length) = i + j by omega] at this
theorem stDoor_ok {W : World} {β : Env} {pl : List (Nat × Nat)} : ∀ {cs : List Value} {k : Nat} {l : List (Nat × List Value)} {full : List Value} {i : Nat}, StOk W pl k cs l full → (∀ j y, (stVals pl k full)[j]? = some y → β.v (i + j) = y) →
    SV.dens β (stDoor pl k cs l i).2 = full ∧ DoorOk W β i (stDoor pl k cs l i).1 ∧ (stDoor pl k cs l i).1.length = (stVals pl k full).length
  | [], k, l, full, i, h, hd => by
    cases l with
    | nil => cases full with
      | nil => exact ⟨rfl, fun j r hj => by simp [stDoor] at hj, rfl⟩
      | cons _ _ => exact h.elim
    | cons _ _ => exact h.elim
  | c :: cs, k, l, full, i, h, hd => by
    cases full with
    | nil => exact h.elim
    | cons y full =>
      unfold StOk at h
      unfold stVals at hd ⊢
      unfold stDoor
      cases hsz : sizeAt k pl with
      | none =>
        rw [hsz] at h hd
        simp only at h hd ⊢
        obtain ⟨rfl, h2⟩ := h
        obtain ⟨r1, r2, r3⟩ := stDoor_ok h2 hd
        exact ⟨by rw [SV.dens, r1]; rfl, r2, r3⟩
      | some size =>
        rw [hsz] at h hd
        simp only at h hd ⊢
        cases l with
        | nil => exact h.elim
        | cons q l =>
          obtain ⟨_, h1, h2⟩ := h
          have h0 := hd 0 y rfl
          rw [Nat.add_zero] at h0
          obtain ⟨r1, r2, r3⟩ := stDoor_ok (i := i + 1) h2 fun j z hz => by rw [show i + 1 + j = i + (j + 1) by omega]; exact hd (j + 1) z (by rw [List.getElem?_cons_succ]; exact hz)
          refine ⟨?_, DoorOk.cons ⟨fun W' hW => ?_, fun x hx => hx⟩ r2, by simp [r3]⟩
          · rw [SV.dens, r1]
            simp only [SV.den, h0, one_oneV h1.one]
          · rw [h0]
            exact h1.no hW
theorem door_ok {W : World} {β : Env} : ∀ {ks : List Kd} {vs : List Vw} {l : List Value} {i : Nat}, okKs ks = true → ArgsOk W ks vs l → (∀ j y, (doorVals ks vs l)[j]? = some y → β.v (i + j) = y ∧ β.b (i + j) = blkV y) →
    SV.dens β (doorRows ks vs i).2 = l ∧ DoorOk W β i (doorRows ks vs i).1
  | [], [], [], i, _, _, _ => ⟨rfl, fun j r h => by simp [doorRows] at h⟩
  | k :: ks, v :: vs, y :: l, i, hk, h, hd => by
    obtain ⟨h1, h2⟩ := h
    have hk' : okKs ks = true := by cases k <;> first | exact hk | cases hk
    have nx : (∀ j z, (y :: doorVals ks vs l)[j]? = some z → β.v (i + j) = z ∧ β.b (i + j) = blkV z) → SV.dens β (doorRows ks vs (i + 1)).2 = l ∧ DoorOk W β (i + 1) (doorRows ks vs (i + 1)).1 := fun hd => door_ok (i := i + 1) hk' h2 fun j z hz => by rw [show i + 1 + j = i + (j + 1) by omega]; exact hd (j + 1) z (by rw [List.getElem?_cons_succ]; exact hz)
    cases k with
    | ps _ => cases hk
    | v =>
      cases v with
      | v x =>
        have hy : y = x := h1
        subst hy
        obtain ⟨r1, r2⟩ := door_ok (i := i) hk' h2 hd
        refine ⟨?_, r2⟩
        show SV.dens β (.v y :: (doorRows ks vs i).2) = _
        rw [SV.dens, r1]; rfl
      | _ => exact h1.elim
    | s size =>
      cases v with
      | s n xs =>
        have h1 : Rd W size y n xs := h1
        have h0 := (hd 0 y rfl).1
        rw [Nat.add_zero] at h0
        obtain ⟨r1, r2⟩ := nx hd
        refine ⟨?_, DoorOk.cons ⟨fun W' hW => ?_, fun x hx => hx⟩ r2⟩
        · show SV.dens β (.o i :: (doorRows ks vs (i + 1)).2) = _
          rw [SV.dens, r1]
          simp only [SV.den, h0, one_oneV h1.one]
        · rw [h0]
          exact h1.no hW
      | _ => exact h1.elim
    | k ty =>
      cases v with
      | c cs =>
        obtain ⟨g, hg, hb⟩ : ∃ g, y = .pointer (some ⟨g, 0, none⟩) ∧ Blk W g ty cs := h1
        have h0 := (hd 0 y rfl).2
        rw [Nat.add_zero, hg] at h0
        have h0 : β.b i = g := h0
        obtain ⟨r1, r2⟩ := nx hd
        refine ⟨?_, DoorOk.cons ⟨fun W' hW => ?_, fun x hx => hx⟩ r2⟩
        · show SV.dens β (.p i 0 :: (doorRows ks vs (i + 1)).2) = _
          rw [SV.dens, r1]
          simp only [SV.den, h0, hg]
        · rw [h0]
          exact hW.blk hb fun h => h
      | _ => exact h1.elim
    | q t =>
      cases v with
      | q t' x =>
        obtain ⟨rfl, F, hF⟩ : t' = t ∧ ∃ F, (pred t' x).on W y F := h1
        have h0 := (hd 0 y rfl).1
        rw [Nat.add_zero] at h0
        obtain ⟨r1, r2⟩ := nx hd
        refine ⟨?_, DoorOk.cons ⟨fun W' hW => ?_, fun x hx => hx⟩ r2⟩
        · show SV.dens β (.o i :: (doorRows ks vs (i + 1)).2) = _
          rw [SV.dens, r1]
          simp only [SV.den, h0, one_oneV ((pred t' x).one hF)]
        · rw [h0]
          exact ⟨F, (pred t' x).cg hF hW fun _ _ h => h⟩
      | _ => exact h1.elim
    | st n pl =>
      cases v with
      | st cs q =>
        obtain ⟨full, rfl, _, hst⟩ : ∃ full : List Value, y = .agg full.toArray ∧ full.length = n ∧ StOk W pl 0 cs q full := h1
        have hd : ∀ j z, (stVals pl 0 full ++ doorVals ks vs l)[j]? = some z → β.v (i + j) = z ∧ β.b (i + j) = blkV z := hd
        obtain ⟨r1, r2, r3⟩ := stDoor_ok (β := β) (i := i) hst fun j z hz => (hd j z (by rw [List.getElem?_append_left (List.getElem?_eq_some_iff.1 hz).1]; exact hz)).1
        obtain ⟨s1, s2⟩ := door_ok (i := i + (stDoor pl 0 cs q i).1.length) hk' h2 fun j z hz => by
          rw [r3, show i + (stVals pl 0 full).length + j = i + ((stVals pl 0 full).length + j) by omega]
          exact hd _ z (by rw [List.getElem?_append_right (by omega), show (stVals pl 0 full).length + j - (stVals pl 0 full).length = j by omega]; exact hz)
        refine ⟨?_, r2.app s2⟩
        show SV.dens β (.ag (stDoor pl 0 cs q i).2 :: (doorRows ks vs (i + (stDoor pl 0 cs q i).1.length)).2) = _
        rw [SV.dens, s1, SV.den, r1]
      | _ => exact h1.elim
  | [], [], _ :: _, _, _, h, _ => h.elim
  | [], _ :: _, _, _, _, h, _ => by cases ‹List Value› <;> exact h.elim
  | _ :: _, [], _, _, _, h, _ => by cases ‹List Value› <;> exact h.elim
  | _ :: _, _ :: _, [], _, _, h, _ => h.elim
def nodupN : List Nat → Bool
  | [] => true
  | x :: r => match memN x r with
    | true => false
    | false => nodupN r
theorem nodupN_spec : ∀ {l : List Nat}, nodupN l = true → l.Nodup
  | [], _ => List.nodup_nil
  | x :: r, h => by
    unfold nodupN at h
    split at h
    · cases h
    · rename_i hx
      exact List.nodup_cons.2 ⟨fun hh => (by rw [memN_iff.2 hh] at hx; cases hx), nodupN_spec h⟩
/-- The tests of a function's contract. -/
def rtTest (fn : Func) (ks : List Kd) (vs : List Vw) (keep : List Nat) : Bool :=
  (okKs ks && Nat.ble (doorRows ks vs 0).2.length fn.ntmps) && (nodupN keep && (allB (fun r => ltAll (doorRows ks vs 0).1.length r.idx) (doorRows ks vs 0).1 && allB (fun s => ltAll (doorRows ks vs 0).1.length s.idx) (doorRows ks vs 0).2))
/-- An end as it should be. -/
theorem finR (keep : List Nat) (rt : Rt) : (rt.ret.ren (fun j => keep.getD j 0) = rt.ret.ren (fun j => keep.getD j 0)) ∧ (rt.new.map (fun r => some (r.ren fun j => keep.getD j 0)) = rt.new.map (fun r => some (r.ren fun j => keep.getD j 0))) := ⟨rfl, rfl⟩
theorem finV {x y : Value} (h : y = x) : SV.v y = SV.v x ∧ ([] : List (Option Row)) = [] := ⟨by rw [h], rfl⟩
section
variable {P : Program} {T : Tab P}
theorem calls_rtI {f : FuncId} {fn : Func} {c : Code} {W : World} {ks : List Kd} {vs : List Vw} {l : List Value} {rt : Rt} (ha : ArgsOk W ks vs l) (keep : List Nat) (H : List (Nat × Hint)) (L N : List Lp) (hm : P.follows .mixedOrders = true) (hf : P.funcs[f]? = some fn) (hb : fn.body = some c) (ht : rtTest fn ks vs keep = true)
    (hx : exB P T fn.ntmps ⟨W, No⟩ (inD P T ⟨W, No⟩ 4) 0 c H L N ⟨argsG 0 (doorRows ks vs 0).2, (doorRows ks vs 0).1⟩ (atEnd P fn (EndR keep rt))) : Calls P f l.toArray W (RtPost W rt) := by
  unfold rtTest at ht
  rw [Bool.and_eq_true, Bool.and_eq_true, Bool.and_eq_true] at ht
  obtain ⟨⟨ht0, ht1⟩, ht2, ht3⟩ := ht
  obtain ⟨β, hβ⟩ : ∃ β : Env, β = ⟨fun i => blkV ((doorVals ks vs l).getD i undef), fun i => (doorVals ks vs l).getD i undef, fun _ => No⟩ := ⟨_, rfl⟩
  obtain ⟨h1, h2⟩ := door_ok (β := β) (i := 0) ht0 ha fun j y hj => by
    subst hβ
    simp only [Nat.zero_add]
    rw [List.getD_eq_getElem?_getD, hj]
    exact ⟨rfl, rfl⟩
  have hF : RowsOk ⟨W, No⟩ β W (doorRows ks vs 0).1 := ⟨fun i r hi => by have := (h2 i r hi).1; rwa [Nat.zero_add] at this, fun i r k hi hk => by have := (h2 i r hi).2 k; rw [Nat.zero_add] at this; exact absurd hk this, fun i j r r' k hi _ hk => by have := (h2 i r hi).2 k; rw [Nat.zero_add] at this; exact absurd hk this, Cg.refl _ _⟩
  have := calls_fn (T := T) hF H L N hm hf hb (Nat.le_of_ble_eq_true ht1) ht3 hx
  rw [h1] at this
  refine this.mono fun e W' hp => ?_
  obtain ⟨β', s, mem, ⟨hs, hk⟩, rfl, hr⟩ := hp
  have at_ : ∀ j r, rt.new[j]? = some r → ∃ i, keep[j]? = some i ∧ keep.getD j 0 = i ∧ mem[i]? = some (r.ren fun j => keep.getD j 0) := by
    intro j r hj
    have := congrArg (fun l => l[j]?) hk
    simp only [List.getElem?_map, hj, Option.map_some] at this
    cases hkj : keep[j]? with
    | none => rw [hkj] at this; cases this
    | some i =>
      rw [hkj, Option.map_some, Option.some.injEq] at this
      exact ⟨i, rfl, by rw [List.getD_eq_getElem?_getD, hkj]; rfl, this⟩
  refine ⟨β'.ren (fun j => keep.getD j 0), by rw [hs, ren_den], fun j r hj => ?_, fun j r k hj hk => ?_, fun j j' r r' k hj hj' hk hk' => ?_, hr.cg⟩
  · obtain ⟨i, _, h2, h3⟩ := at_ j r hj
    exact ren_held (f := fun j => keep.getD j 0) (by rw [h2]; exact hr.held i _ h3)
  · obtain ⟨i, _, h2, h3⟩ := at_ j r hj
    rw [ren_foot, h2] at hk
    exact hr.new i _ k h3 hk
  · obtain ⟨i, h1, h2, h3⟩ := at_ j r hj
    obtain ⟨i', h1', h2', h3'⟩ := at_ j' r' hj'
    rw [ren_foot, h2] at hk
    rw [ren_foot, h2'] at hk'
    have := hr.inj i i' _ _ k h3 h3' hk hk'
    subst this
    have hnd := nodupN_spec ht2
    obtain ⟨l1, e1⟩ := List.getElem?_eq_some_iff.1 h1
    obtain ⟨l2, e2⟩ := List.getElem?_eq_some_iff.1 h1'
    exact (List.getElem_inj hnd).1 (e1.trans e2.symm)
/-- **A contract**: of a function that turns nothing. -/
theorem calls_rt {f : FuncId} {fn : Func} {c : Code} {W : World} {ks : List Kd} {vs : List Vw} {l : List Value} {rt : Rt} (ha : ArgsOk W ks vs l) (keep : List Nat) (H : List (Nat × Hint)) (L : List Lp) (hm : P.follows .mixedOrders = true) (hf : P.funcs[f]? = some fn) (hb : fn.body = some c) (ht : rtTest fn ks vs keep = true)
    (hx : exB P T fn.ntmps ⟨W, No⟩ (inD P T ⟨W, No⟩ 4) 0 c H L [] ⟨argsG 0 (doorRows ks vs 0).2, (doorRows ks vs 0).1⟩ (atEnd P fn (EndR keep rt))) : Calls P f l.toArray W (RtPost W rt) := calls_rtI ha keep H L [] hm hf hb ht hx
end
end Ax
end Go.Proofs.YtcpbbgkeigbndaaGreat
