/- A reckoner of calls, part 17d: a region that draws and makes a map, wholly. Proved over any program. No condition of its own. -/
import Derived.Test.YtcpbbgkeigbndaaGreatGr08
namespace Go.Proofs.YtcpbbgkeigbndaaGreat
open Go Go.RowKit Go.Lib Go.Sort
namespace Ax
section
variable {P : Program} {b : Base} {n t0 : Nat} {ds : Dr} {l : List Oper} {er : List Ent} {st : St} {L : Nat → Bool} {β β' : Env} {a : Act} {w w' : World} {ops : Array Oper} {kv E E' : Kv} {Q : Exit → Act → World → Prop}
theorem MapReg.look (R : MapReg P b n t0 ops l er st kv) (hI : OInv ds b n l (mkE st.mem.length E :: er) st L β a w) {i : Nat} {o : Oper} (ho : l[i]? = some o) (hL : L i = false) (hr : ∀ e ∈ o.after, Region.binds .any e = true → L e.on = true) : ∀ t ∈ o.looksAt ops, look (runE n st l (mkE st.mem.length [] :: er) i).fr t = fLook l (mkE st.mem.length E :: er) st L t := fun t ht => by
  have hil : i < l.length := (List.getElem?_eq_some_iff.1 ho).1
  obtain ⟨en, he⟩ : ∃ en, (mkE st.mem.length [] :: er)[i]? = some en := ⟨_, List.getElem?_eq_getElem (by rw [R.hlen]; exact hil)⟩
  rw [look_at (st := st) R.hlen R.hB i (by omega), fLook_w (E' := E)]
  refine fLook_congr fun k hk => (settled_spec hI ho hL hr ?_).symm
  have := (R.hB i o en ho he).looks t ht
  rw [hk] at this
  exact this
theorem MapReg.ins_step (R : MapReg P b n t0 ops l er st kv) (hE : E.Nodup) (hmem : ∀ q, q ∈ E ↔ q ∈ kv ∧ L q.1 = true) (hI : OInv ds b n l (mkE st.mem.length E :: er) st L β a w) {q : Nat × ByteArray × SV} (hq : q ∈ kv) (hL : L q.1 = false) {o : Oper} (ho : l[q.1]? = some o) (hr : ∀ e ∈ o.after, Region.binds .any e = true → L e.on = true) {K : Act → World → Prop} (hK : ∀ β' a' w', MInv ds b n l er st kv (more L q.1) β' a' w' → K a' w') : wpOp P ops Q q.1 K a w := by
  obtain ⟨o', ho', he0, hg, hi, hne⟩ := R.ins hq
  rw [ho] at ho'
  cases ho'
  obtain ⟨k, s, v⟩ := q
  have hne : k ≠ 0 := hne
  have hlk := R.look hI ho hL hr
  obtain ⟨t, ix, y, kt, et, hop, hu, hkt, hix, hy⟩ := insOf_ok (s := s) (v := v) hi
  have hag : Agree o a (ev (runE n st l (mkE st.mem.length [] :: er) k).fr) β := by
    intro x hx sv hsv
    cases x with
    | tmp t =>
      have h1 : fLook l (mkE st.mem.length E :: er) st L t = some sv := by rw [← hlk t (tmp_looks hx)]; exact hsv
      have := hI.get t sv h1
      simp [Act.eval, this]
    | const v => simp only [ev, Option.some.injEq] at hsv; subst hsv; rfl
    | global g => simp only [ev, Option.some.injEq] at hsv; subst hsv; rfl
    | func f => simp only [ev, Option.some.injEq] at hsv; subst hsv; rfl
  have hw : Region.wanted o (yielded ops a.tmps) = true := guard_at (β := β) (fun t ht sv hsv => hI.get t sv (by rw [← hlk t ht]; exact hsv)) hg
  -- the map is there
  have hlk0 : t0 ∈ o.looksAt ops := tmp_looks (by simp [hop, Op.operands])
  have hset := (R.hB _ o _ ho he0).looks t0 hlk0
  rw [R.dst0] at hset
  have h0 : L 0 = true := by
    rw [settled_spec hI ho hL hr hset]
    simp [ltB]
    omega
  have hm : fLook l (mkE st.mem.length E :: er) st L t0 = some (.mp st.mem.length) := by
    unfold fLook
    rw [R.dst0]
    simp only [h0, if_true]
    rfl
  have hrm : fRow (mkE st.mem.length E :: er) st L st.mem.length = some (.mo (entK E)) := R.row_m h0
  have hx : a.eval (.tmp t0) = .map (some (β.b st.mem.length)) := by
    have := hI.get t0 _ hm
    simp [Act.eval, this, SV.den]
  have hixv : a.eval ix = .string s := hag ix (by simp [hop, Op.operands]) _ hix
  have hyv : a.eval y = v.den β := hag y (by simp [hop, Op.operands]) _ hy
  have hvrow : ∀ j ∈ v.idx, ∃ r, fRow (mkE st.mem.length E :: er) st L j = some r := by
    cases y with
    | tmp ty =>
      have : fLook l (mkE st.mem.length E :: er) st L ty = some v := by rw [← hlk ty (tmp_looks (by simp [hop, Op.operands]))]; exact hy
      exact hI.wfS ty v this
    | const u => simp only [ev, Option.some.injEq] at hy; subst hy; exact fun j hj => by cases hj
    | global u => simp only [ev, Option.some.injEq] at hy; subst hy; exact fun j hj => by cases hj
    | func u => simp only [ev, Option.some.injEq] at hy; subst hy; exact fun j hj => by simp [SV.idx] at hj
  obtain ⟨entries, clock, hh, hkv, hborn⟩ := hI.held _ _ hrm
  have hoff : ∀ e ∈ entries.toList, ∃ s', e.key = .string s' ∧ (s == s') = false := by
    intro e he
    have : (e.key, e.val) ∈ densE β (entK E) := by rw [← hkv]; exact List.mem_map.2 ⟨e, he, rfl⟩
    rw [densE_entK] at this
    obtain ⟨p, hp, hpe⟩ := List.mem_map.1 this
    obtain ⟨hp1, hp2⟩ := (hmem p).1 hp
    refine ⟨p.2.1, (Prod.mk.inj hpe).1.symm, ?_⟩
    refine apart_two R.hap R.hkv hq hp1 (fun hh => ?_)
    have hh : k = p.1 := hh
    rw [← hh] at hp2
    rw [show L k = false from hL] at hp2
    cases hp2
  have hrun := ins_run (P := P) (W := w) hop hu hkt hx hixv hyv hh hoff
  have hnew : b.S (β.b st.mem.length) ∨ b.w.heap.size ≤ β.b st.mem.length := hI.new _ _ _ hrm rfl
  let W' : World := { w with heap := w.heap.setIfInBounds (β.b st.mem.length) (.map (entries.push { key := .string s, val := v.den β, born := clock }) (clock + 1)) }
  have hcg : Cg (· = β.b st.mem.length) w W' := ⟨rfl, rfl, rfl, by simp [W'], fun k _ hk => by
    show (w.heap.setIfInBounds _ _)[k]? = _
    rw [Array.getElem?_setIfInBounds, if_neg fun hh => hk hh.symm]⟩
  have hW : W'.heap[β.b st.mem.length]? = some (.map (entries.push { key := .string s, val := v.den β, born := clock }) (clock + 1)) := by
    show (w.heap.setIfInBounds _ _)[_]? = _
    rw [Array.getElem?_setIfInBounds, if_pos rfl, if_pos (ObIs.lt hh)]
  have hBE := okb_w (E' := E ++ [(k, s, v)]) R.hB
  have heE : (mkE st.mem.length (E ++ [(k, s, v)]) :: er)[k]? = some (skipE (runE n st l (mkE st.mem.length [] :: er) k).mem.length) := by
    cases k with
    | zero => exact absurd rfl hne
    | succ k => exact he0
  have hm1 : more L k 0 = true := by unfold more; rw [h0]; rfl
  have fm : fRow (mkE st.mem.length (E ++ [(k, s, v)]) :: er) st (more L k) st.mem.length = some (.mo (entK (E ++ [(k, s, v)]))) := R.row_m hm1
  have fne : ∀ c, c ≠ st.mem.length → fRow (mkE st.mem.length (E ++ [(k, s, v)]) :: er) st (more L k) c = fRow (mkE st.mem.length E :: er) st L c := fun c hc => by
    rw [fRow_more_other heE (by cases hb : isNew c (skipE (runE n st l (mkE st.mem.length [] :: er) k).mem.length) with
      | false => rfl
      | true => have := isNew_iff.1 hb; have h2 : (skipE (runE n st l (mkE st.mem.length [] :: er) k).mem.length).g.new.length = 0 := rfl; omega) rfl]
    exact fRow_w hc
  have fl : ∀ t' sv, fLook l (mkE st.mem.length (E ++ [(k, s, v)]) :: er) st (more L k) t' = some sv → (o.dst = some t' ∧ sv = .v undef) ∨ (o.dst ≠ some t' ∧ fLook l (mkE st.mem.length E :: er) st L t' = some sv) := fun t' sv h => by
    rw [fLook_more ho heE (hBE k o _ ho heE)] at h
    split at h
    · rename_i hd
      exact .inl ⟨hd, (Option.some.inj h).symm⟩
    · rename_i hd
      exact .inr ⟨hd, by rw [← h]; exact fLook_w⟩
  have up : ∀ c, (∃ r, fRow (mkE st.mem.length E :: er) st L c = some r) → ∃ r, fRow (mkE st.mem.length (E ++ [(k, s, v)]) :: er) st (more L k) c = some r := fun c h => by
    by_cases hc : c = st.mem.length
    · exact ⟨_, by rw [hc]; exact fm⟩
    · rw [fne c hc]; exact h
  have old : ∀ c r, fRow (mkE st.mem.length (E ++ [(k, s, v)]) :: er) st (more L k) c = some r → (c = st.mem.length ∧ r = .mo (entK (E ++ [(k, s, v)]))) ∨ (c ≠ st.mem.length ∧ fRow (mkE st.mem.length E :: er) st L c = some r) := fun c r h => by
    by_cases hc : c = st.mem.length
    · rw [hc, fm] at h
      exact .inl ⟨hc, (Option.some.inj h).symm⟩
    · rw [fne c hc] at h
      exact .inr ⟨hc, h⟩
  have oldF : ∀ c r x, fRow (mkE st.mem.length (E ++ [(k, s, v)]) :: er) st (more L k) c = some r → foot β c r x → ∃ r0, fRow (mkE st.mem.length E :: er) st L c = some r0 ∧ foot β c r0 x := fun c r x h hx => by
    rcases old c r h with ⟨rfl, rfl⟩ | ⟨_, h⟩
    · exact ⟨_, hrm, hx⟩
    · exact ⟨r, h, hx⟩
  have hnext : OInv ds b n l (mkE st.mem.length (E ++ [(k, s, v)]) :: er) st (more L k) β (a.put o.dst undef) W' := by
    refine ⟨?_, ?_, fun t' sv h => ?_, fun c r hc => ?_, fun c r x hc hx => ?_, fun c c' r r' x hc hc' hx hx' => ?_, hI.cg.seq hcg fun x hx => by rw [show x = β.b st.mem.length from hx]; exact hnew, fun t' sv h => ?_, fun c r hc => ?_, fun c hc => ⟨(hI.keep c hc).1, up c (hI.keep c hc).2⟩, fun k' ok hok hk' e hee hb => ?_⟩
    · cases o.dst <;> simp [Act.put, hI.size]
    · cases o.dst <;> simp [Act.put, hI.dn]
    · rcases fl t' sv h with ⟨hd, rfl⟩ | ⟨hd, h⟩
      · rw [hd, get_put (by rw [hI.size]; exact ((hBE k o _ ho heE).dst t' hd).1), if_pos rfl]
        rfl
      · cases hd' : o.dst with
        | none => exact hI.get t' sv h
        | some d =>
          rw [get_put (by rw [hI.size]; exact ((hBE k o _ ho heE).dst d hd').1), if_neg (fun h => hd (by rw [hd', h]))]
          exact hI.get t' sv h
    · rcases old c r hc with ⟨rfl, rfl⟩ | ⟨hc', h⟩
      · refine ⟨_, _, hW, ?_, ?_⟩
        · rw [Array.toList_push, List.map_append, hkv, densE_entK, densE_entK, List.map_append]
          rfl
        · intro e he
          rw [Array.toList_push] at he
          rcases List.mem_append.1 he with he | he
          · have := hborn e he; omega
          · cases List.mem_singleton.1 he
            exact Nat.lt_succ_self clock
      · refine (hI.held c r h).cg hcg fun x hx hxe => hc' ?_
        exact hI.inj c st.mem.length r _ x h hrm hx hxe
    · obtain ⟨r0, h1, h2⟩ := oldF c r x hc hx
      exact hI.new c r0 x h1 h2
    · obtain ⟨r0, h1, h2⟩ := oldF c r x hc hx
      obtain ⟨r1, h3, h4⟩ := oldF c' r' x hc' hx'
      exact hI.inj c c' r0 r1 x h1 h3 h2 h4
    · rcases fl t' sv h with ⟨_, rfl⟩ | ⟨_, h⟩
      · exact fun j hj => by cases hj
      · exact fun j hj => up j (hI.wfS t' sv h j hj)
    · rcases old c r hc with ⟨rfl, rfl⟩ | ⟨_, h⟩
      · intro j hj
        obtain ⟨p, hp, hpj⟩ := entK_idx.1 hj
        rcases List.mem_append.1 hp with hp | hp
        · exact up j (hI.wfR _ _ hrm j (entK_idx.2 ⟨p, hp, hpj⟩))
        · cases List.mem_singleton.1 hp
          exact up j (hvrow j hpj)
      · exact fun j hj => up j (hI.wfR c r h j hj)
    · by_cases hki : k' = k
      · subst hki
        rw [ho] at hok
        cases hok
        have := hr e hee hb
        unfold more; rw [this]; rfl
      · rw [more_ne hki] at hk'
        have := hI.down k' ok hok hk' e hee hb
        unfold more; rw [this]; rfl
  unfold wpOp
  have hio : ops[k]? = some o := R.hops k o ho
  simp only [hio]
  rw [hw, if_pos rfl]
  refine .inl ?_
  unfold Oper.wp
  rw [hrun]
  refine hK β _ _ ⟨E ++ [(k, s, v)], ?_, fun p => ?_, hnext⟩
  · rw [List.nodup_append]
    refine ⟨hE, by simp, fun x hx y hy hxy => ?_⟩
    cases List.mem_singleton.1 hy
    subst hxy
    have := ((hmem _).1 hx).2
    rw [show L k = false from hL] at this
    cases this
  · rw [List.mem_append, hmem p, List.mem_singleton]
    by_cases hp : p.1 = k
    · constructor
      · rintro (⟨h1, h2⟩ | rfl)
        · exact ⟨h1, by rw [hp]; exact more_self⟩
        · exact ⟨hq, more_self⟩
      · rintro ⟨h1, _⟩
        exact .inr (one_at R.hkv h1 hq hp)
    · rw [more_ne hp]
      constructor
      · rintro (h | rfl)
        · exact h
        · exact absurd rfl hp
      · exact .inl
theorem MapReg.step (R : MapReg P b n t0 ops l er st kv) (hI : MInv ds b n l er st kv L β a w) {i : Nat} {o : Oper} (ho : l[i]? = some o) (hL : L i = false) (hr : ∀ e ∈ o.after, Region.binds .any e = true → L e.on = true) {K : Act → World → Prop} (hK : ∀ β' a' w', MInv ds b n l er st kv (more L i) β' a' w' → K a' w') : wpOp P ops Q i K a w := by
  obtain ⟨E, hE, hmem, hI⟩ := hI
  have hil : i < l.length := (List.getElem?_eq_some_iff.1 ho).1
  obtain ⟨en, he⟩ : ∃ en, (mkE st.mem.length [] :: er)[i]? = some en := ⟨_, List.getElem?_eq_getElem (by rw [R.hlen]; exact hil)⟩
  rcases R.hit i o en ho he with ⟨hent, hnot⟩ | ⟨s, v, hkv, _⟩
  · have hmem' : ∀ q, q ∈ E ↔ q ∈ kv ∧ more L i q.1 = true := fun q => by
      rw [hmem q]
      constructor
      · exact fun ⟨h1, h2⟩ => ⟨h1, by rw [more_ne (hnot q h1)]; exact h2⟩
      · exact fun ⟨h1, h2⟩ => ⟨h1, by rw [more_ne (hnot q h1)] at h2; exact h2⟩
    have hBE := okb_w (E' := E) R.hB
    have hSE := entS_w (E' := E) R.hS
    by_cases h0 : i = 0
    · subst h0
      have hnil : E = [] := by
        cases E with
        | nil => rfl
        | cons q r =>
          obtain ⟨h1, h2⟩ := (hmem q).1 (by simp)
          have := R.first hI h1 h2
          rw [hL] at this
          cases this
      subst hnil
      exact any_step R.hops hI ho he R.hB R.hlen R.hS hent (R.hM 0 o en ho he) hL hr fun β' a' w' h => hK β' a' w' ⟨[], hE, hmem', h⟩
    · have heE : (mkE st.mem.length E :: er)[i]? = some en := by
        cases i with
        | zero => exact absurd rfl h0
        | succ i => exact he
      have hlenE : (mkE st.mem.length E :: er).length = l.length := R.hlen
      refine any_step (T := Tab.nil P) (H := []) R.hops hI ho heE hBE hlenE hSE (entOk_w hent (fun t => ?_) runE_len fun j hj => ?_) (R.hM i o en ho he) hL hr fun β' a' w' h => hK β' a' w' ⟨E, hE, hmem', h⟩
      · rw [look_at (st := st) R.hlen R.hB i (by omega), look_at (st := st) hlenE hBE i (by omega)]
        exact fLook_w
      · rw [row_at (ops := ops) (st := st) R.hlen R.hB R.hS i (by omega), row_at (ops := ops) (st := st) hlenE hBE hSE i (by omega)]
        refine fRow_w fun hjm => ?_
        subst hjm
        cases i with
        | zero => exact absurd rfl h0
        | succ i => exact R.hsee en (List.mem_of_getElem? he) hj
  · exact R.ins_step hE hmem hI hkv hL ho hr hK
theorem draw_map {id : Nat} {st' : St} {o0 : Oper} {es : List Ent} {l : List Oper} (hm : P.follows .mixedOrders = true) (h : Hd ds b n β st a w) (hlex : LexM P b n t0 l.toArray (l.take (tailAt l)) 0 st es kv st') (h0 : (l.take (tailAt l))[0]? = some o0) (hd : o0.dst = some t0) (hmap : isMap0 st.mem.length es = true) (hap : apartK kv = true) (hb : allBe l.toArray (l.take (tailAt l)) es n 0 (l.take (tailAt l)) es = true) (hK : ∀ β' a' w', Hd ds b n β' ⟨st'.fr, st'.mem.set st.mem.length (.mu (entK kv))⟩ a' w' → wpList P l.toArray Q (l.drop (tailAt l)) a' w') : (Code.region id l.toArray true).wp P Q a w := by
  obtain ⟨er, rfl, hsee⟩ := isMap0_ok hmap
  obtain ⟨hT, hle⟩ := tailAt_ok l
  obtain ⟨hlen, hit, hst, hin, hkv⟩ := lexM_spec hlex
  have hops : ∀ (i : Nat) o, (l.take (tailAt l))[i]? = some o → l.toArray[i]? = some o := fun i o ho => by
    rw [List.getElem?_take] at ho
    split at ho
    · simpa using ho
    · cases ho
  have hll : (l.take (tailAt l)).length = tailAt l := by rw [List.length_take]; omega
  have R : MapReg P b n t0 l.toArray (l.take (tailAt l)) er st kv := ⟨hops, ⟨o0, h0, hd⟩, hlen, fun k o en ho he => by
    have := allBe_spec hb k o en ho he
    rw [Nat.zero_add] at this
    exact opB_spec this, fun k o en ho he => by
    have := allBe_spec hb k o en ho he
    rw [Nat.zero_add] at this
    exact opB_ment this, fun k o en ho he => by
    have := hit k o en ho he
    rw [Nat.zero_add] at this
    exact this, hkv, hap, hsee, fun q hq => by have := (hin q hq).2; omega⟩
  have hdown : ∀ (k : Nat) o, (l.take (tailAt l))[k]? = some o → ∀ e ∈ o.after, Region.binds .any e = true → e.on < k := fun k o ho => by
    obtain ⟨en, he⟩ : ∃ en, (mkE st.mem.length [] :: er)[k]? = some en := ⟨_, List.getElem?_eq_getElem (by rw [R.hlen]; exact (List.getElem?_eq_some_iff.1 ho).1)⟩
    exact (R.hB k o en ho he).down
  refine wp_region_any hm ?_
  have hrep : (fun k => (Array.replicate l.toArray.size false).getD k false) = fun _ : Nat => false := by
    funext k
    simp only [Array.getD_eq_getD_getElem?, Array.getElem?_replicate]
    split <;> rfl
  have hI : OInv ds b n (l.take (tailAt l)) (mkE st.mem.length [] :: er) st (fun _ => false) β a { w with drawn := w.drawn + 1 } := OInv.start (h.later (Cg.refl No w).drew) fun i k hk' => new_fresh hlen R.hS hk'
  have hM : MInv ds b n (l.take (tailAt l)) er st kv (fun _ => false) β a { w with drawn := w.drawn + 1 } := ⟨[], by simp, fun q => by simp, hI⟩
  have := any_inv (P := P) (Q := Q) (I := fun L β a w => MInv ds b n (l.take (tailAt l)) er st kv L β a w) hops (by rw [hll]; exact hT) hdown (fun L β a w i o hI ho hL hr K hK => R.step hI ho hL hr hK) (fun L β' a' w' hI' hL => by
      rw [hll]
      obtain ⟨E, hE, hmem, hI'⟩ := hI'
      have hlenE : (mkE st.mem.length E :: er).length = (l.take (tailAt l)).length := R.hlen
      have hBE := okb_w (E' := E) R.hB
      have hSE := entS_w (E' := E) R.hS
      have hfin := hI'.fin hL hBE hlenE hSE
      have hperm : E.Perm kv := perm_of hE (kv_nodup hkv) fun q => by
        rw [hmem q]
        exact ⟨fun h => h.1, fun h => ⟨h, hL _ (R.hin q h)⟩⟩
      have hpos : 0 < (l.take (tailAt l)).length := (List.getElem?_eq_some_iff.1 h0).1
      have hrow : ∀ c : Nat, c ≠ st.mem.length → (runE n st (l.take (tailAt l)) (mkE st.mem.length E :: er) (l.take (tailAt l)).length).mem[c]? = st'.mem[c]? := fun c hc => by
        rw [← hst.2, row_at (ops := l.toArray) (st := st) hlenE hBE hSE _ (Nat.le_refl _), row_at (ops := l.toArray) (st := st) hlen R.hB R.hS _ (Nat.le_refl _)]
        exact fRow_w hc
      have hrm : (runE n st (l.take (tailAt l)) (mkE st.mem.length E :: er) (l.take (tailAt l)).length).mem[st.mem.length]? = some (.mo (entK E)) := by
        rw [row_at (ops := l.toArray) (st := st) hlenE hBE hSE _ (Nat.le_refl _)]
        exact R.row_m (decide_eq_true hpos)
      have hlen' : (runE n st (l.take (tailAt l)) (mkE st.mem.length E :: er) (l.take (tailAt l)).length).mem.length = st'.mem.length := by
        rw [← hst.2]
        exact runE_len
      have hms : st.mem.length < st'.mem.length := by rw [← hlen']; exact (List.getElem?_eq_some_iff.1 hrm).1
      have := hK β' a' w' (hfin.wk (fun t => by
        show _ = look st'.fr t
        rw [← hst.1 t, look_at (st := st) hlenE hBE _ (Nat.le_refl _), look_at (st := st) hlen R.hB _ (Nat.le_refl _)]
        exact fLook_w) (by rw [hlen']; simp) fun c r2 hc => by
        have hc2 : (st'.mem.set st.mem.length (.mu (entK kv)))[c]? = some r2 := hc
        clear hc
        rw [List.getElem?_set] at hc2
        split at hc2
        · rename_i hcm
          subst hcm
          cases hc2
          refine ⟨_, hrm, fun hh => ⟨_, ?_, hh⟩, fun k hk => hk, fun j hj => ?_⟩
          · rw [densE_entK, densE_entK]
            exact hperm.map _
          · obtain ⟨p, hp, hpj⟩ := entK_idx.1 hj
            exact entK_idx.2 ⟨p, hperm.mem_iff.2 hp, hpj⟩
        · rename_i hcm
          exact ⟨r2, by rw [hrow c (Ne.symm hcm)]; exact hc2, fun h => h, fun _ h => h, fun _ h => h⟩)
      simpa using this) (tailAt l) (Array.replicate l.toArray.size false) β a { w with drawn := w.drawn + 1 } (by simp) (by simp [List.count_replicate]; omega) (fun k _ => congrFun hrep k) (by rw [hrep]; exact hM)
  rw [hll] at this
  have e : tailAt l + (l.toArray.toList.drop (tailAt l)).length = l.toArray.size := by simp; omega
  rw [e] at this
  exact this
end
end Ax
end Go.Proofs.YtcpbbgkeigbndaaGreat

/- A reckoner of calls, part 17e: a region that draws, in which a call panics. Proved over any program. No condition of its own. -/
namespace Go.Proofs.YtcpbbgkeigbndaaGreat
open Go Go.RowKit Go.Lib Go.Sort
namespace Ax
def LexQ (P : Program) (b : Base) (n : Nat) (ops : Array Oper) (lf : List Oper) (k : Nat) : List Oper → Nat → St → List Ent → Prop
  | [], _, _, es => es = []
  | o :: l, j, st, es => ∃ en er, es = en :: er ∧ (EntOk P (Tab.nil P) b [] ops st o en ∨ (en = goneE st.mem.length ∧ (j = k ∨ waitsB lf j k = true))) ∧ LexQ P b n ops lf k l (j + 1) (applyE n st o en.g) er
section
variable {P : Program} {b : Base} {n : Nat} {ops : Array Oper} {lf : List Oper} {k : Nat}
theorem lexQ_spec : ∀ {l : List Oper} {j0 : Nat} {st : St} {es : List Ent}, LexQ P b n ops lf k l j0 st es → es.length = l.length ∧ ∀ j o en, l[j]? = some o → es[j]? = some en → EntOk P (Tab.nil P) b [] ops (runE n st l es j) o en ∨ (en = goneE (runE n st l es j).mem.length ∧ (j0 + j = k ∨ waitsB lf (j0 + j) k = true))
  | [], j0, st, es, h => by
    cases (show es = [] from h)
    exact ⟨rfl, fun j o en h => by simp at h⟩
  | o :: l, j0, st, es, h => by
    obtain ⟨en, er, rfl, h1, hl⟩ := h
    obtain ⟨h2, h3⟩ := lexQ_spec hl
    refine ⟨by simp [h2], fun j o' en' ho he => ?_⟩
    cases j with
    | zero =>
      have ho : o = o' := by simpa using ho
      have he : en = en' := by simpa using he
      subst ho; subst he
      rw [runE_zero]
      exact h1
    | succ j =>
      rw [runE, show j0 + (j + 1) = j0 + 1 + j by omega]
      exact h3 j o' en' (by simpa using ho) (by simpa using he)
theorem lexA_of {opD : Opf} (hop : OpOk P b opD) : ∀ (l : List Oper) (j0 : Nat) (st s0 : St) (acc : List Ent) (o : Oper) (rest : List Oper) (st' : St) (acc' : List Ent), EqS s0 st → exLexA opD n ops l st acc = some (o, rest, st', acc') → ∃ es2 s1, acc' = acc ++ es2 ∧ EqS s1 st' ∧ guardOf ops (ev st'.fr) o = some true ∧ l[es2.length]? = some o ∧ (∀ er, runE n s0 l (es2 ++ er) es2.length = s1) ∧ ∀ er, LexQ P b n ops lf k (o :: rest) (j0 + es2.length) s1 er → LexQ P b n ops lf k l j0 s0 (es2 ++ er)
  | [], j0, st, s0, acc, o, rest, st', acc', he, hx => by
    unfold exLexA at hx
    cases hx
  | o :: l, j0, st, s0, acc, o', rest, st', acc', he, hx => by
    unfold exLexA at hx
    have he := he.trans (litM_eq (ops := ops) (o := o))
    generalize litG ops o st = st1 at he hx
    have hev := he.ev
    have hmem := he.2
    simp only at hx
    split at hx
    · rename_i hg
      split at hx
      · rename_i g hgo
        split at hx
        · rename_i hok
          obtain ⟨es2, s1, h1, h2, h3, h4, h5, h6⟩ := lexA_of hop l (j0 + 1) _ (applyE n s0 o g) _ o' rest st' acc' (by unfold applyE; rw [hmem]; exact he.put n _ _ _) hx
          refine ⟨⟨g, st1.mem.length⟩ :: es2, s1, by rw [h1]; simp, h2, h3, by simpa using h4, fun er => ?_, fun er hr => ?_⟩
          · rw [List.cons_append, List.length_cons, runE]
            exact h5 er
          · rw [List.length_cons, show j0 + (es2.length + 1) = j0 + 1 + es2.length by omega] at hr
            refine ⟨_, _, rfl, .inl (.inr ⟨?_, ?_, ?_, ?_⟩), h6 er hr⟩
            · rw [hev]; exact hg
            · rw [hmem]
            · rw [hmem]; exact hok
            · rw [hev, hmem]; exact hop _ _ _ _ _ hgo
        · cases hx
      · cases hx
        refine ⟨[], s0, by simp, he, hg, rfl, fun er => by rw [List.length_nil, runE_zero], fun er hr => hr⟩
    · rename_i hg
      obtain ⟨es2, s1, h1, h2, h3, h4, h5, h6⟩ := lexA_of hop l (j0 + 1) _ (applyE n s0 o (.pure [] (.v undef))) _ o' rest st' acc' (by unfold applyE; rw [hmem]; exact he.put n _ _ _) hx
      refine ⟨skipE st1.mem.length :: es2, s1, by rw [h1]; simp, h2, h3, by simpa using h4, fun er => ?_, fun er hr => ?_⟩
      · rw [List.cons_append, List.length_cons, runE]
        exact h5 er
      · rw [List.length_cons, show j0 + (es2.length + 1) = j0 + 1 + es2.length by omega] at hr
        exact ⟨_, _, rfl, .inl (.inl ⟨by rw [hev]; exact hg, by rw [hmem]⟩), h6 er hr⟩
    · cases hx
theorem lexB_of {opD : Opf} (hop : OpOk P b opD) : ∀ (l : List Oper) (j : Nat) (st s0 : St) (acc es : List Ent), EqS s0 st → exLexB opD n ops lf k l j st acc = some es → ∃ es2, es = acc ++ es2 ∧ LexQ P b n ops lf k l j s0 es2
  | [], j, st, s0, acc, es, he, hx => by
    unfold exLexB at hx
    cases hx
    exact ⟨[], by simp, rfl⟩
  | o :: l, j, st, s0, acc, es, he, hx => by
    unfold exLexB at hx
    split at hx
    · rename_i hw
      obtain ⟨es2, rfl, hl⟩ := lexB_of hop l (j + 1) _ (applyE n s0 o (.pure [] .gone)) _ es (by unfold applyE; rw [he.2]; exact he.put n _ _ _) hx
      exact ⟨goneE st.mem.length :: es2, by simp, _, _, rfl, .inr ⟨by rw [he.2], .inr hw⟩, hl⟩
    · have he := he.trans (litM_eq (ops := ops) (o := o))
      generalize litG ops o st = st1 at he hx
      have hev := he.ev
      have hmem := he.2
      simp only at hx
      split at hx
      · rename_i hg
        split at hx
        · rename_i g hgo
          split at hx
          · rename_i hok
            obtain ⟨es2, rfl, hl⟩ := lexB_of hop l (j + 1) _ (applyE n s0 o g) _ es (by unfold applyE; rw [hmem]; exact he.put n _ _ _) hx
            refine ⟨⟨g, st1.mem.length⟩ :: es2, by simp, _, _, rfl, .inl (.inr ⟨?_, ?_, ?_, ?_⟩), hl⟩
            · rw [hev]; exact hg
            · rw [hmem]
            · rw [hmem]; exact hok
            · rw [hev, hmem]; exact hop _ _ _ _ _ hgo
          · cases hx
        · cases hx
      · rename_i hg
        obtain ⟨es2, rfl, hl⟩ := lexB_of hop l (j + 1) _ (applyE n s0 o (.pure [] (.v undef))) _ es (by unfold applyE; rw [hmem]; exact he.put n _ _ _) hx
        exact ⟨skipE st1.mem.length :: es2, by simp, _, _, rfl, .inl (.inl ⟨by rw [hev]; exact hg, by rw [hmem]⟩), hl⟩
      · cases hx
theorem pureG_ok {g : Eff} (h : pureG g = true) : g.upd = [] ∧ g.kill = [] ∧ g.new = [] := by
  unfold pureG at h
  split at h
  · exact ⟨by assumption, by assumption, by assumption⟩
  · cases h
theorem panB_ok : ∀ {es : List Ent} {j : Nat}, panB lf k j es = true → ∀ (i : Nat) (en : Ent), es[i]? = some en → pureG en.g = true ∨ (j + i < k ∧ waitsB lf k (j + i) = true)
  | [], j, _, i, en, h => by simp at h
  | e :: er, j, hp, i, en, h => by
    unfold panB at hp
    split at hp
    · rename_i hb
      cases i with
      | zero =>
        have h : e = en := by simpa using h
        subst h
        rw [Bool.or_eq_true, Bool.and_eq_true] at hb
        exact hb.imp id fun hh => ⟨Nat.le_of_ble_eq_true hh.1, hh.2⟩
      | succ i =>
        rw [show j + (i + 1) = j + 1 + i by omega]
        exact panB_ok hp i en (by simpa using h)
    · cases hp
end
section
variable {P : Program} {b : Base} {n : Nat} {ds : Dr} {l : List Oper} {es : List Ent} {st : St} {L : Nat → Bool} {β β' : Env} {a : Act} {w w' : World} {ops : Array Oper} {Q : Exit → Act → World → Prop}
/-- The call panics, whatever has come up ahead of it. -/
theorem pan_step {rc : Rc} {k : Nat} {o : Oper} {c : Call} {q : FuncId × List SV} {r : Cr} {st' : St} {K : Act → World → Prop} (hops : ∀ (i : Nat) o, l[i]? = some o → ops[i]? = some o) (hlen : es.length = l.length) (hB : ∀ k o en, l[k]? = some o → es[k]? = some en → Okb ops l es n k o en) (hS : ∀ k o en, l[k]? = some o → es[k]? = some en → EntS (runE n st l es k) en) (hI : OInv ds b n l es st L β a w) (ho : l[k]? = some o) (hL : L k = false) (hr : ∀ e ∈ o.after, Region.binds .any e = true → L e.on = true) (hrc : RcOk P b rc)
    (hst : EqS (runE n st l es k) st') (hg : guardOf ops (ev st'.fr) o = some true) (hc : o.op = .call c) (hq : callOf P (ev st'.fr) c = some q) (hcr : rc q.1 q.2 st'.mem = some r) (hpan : r.pan = true) (hargs : ∀ s ∈ q.2, ∀ j ∈ s.idx, j < st'.mem.length) (hpure : ∀ (i : Nat) (en : Ent), es[i]? = some en → pureG en.g = true ∨ (i < k ∧ waitsB l k i = true))
    (hp : ∀ β' w', Hd ds b n β' ⟨[], r.mem⟩ a w' → (∀ i ∈ r.s.idx, i < r.mem.length) → Q (.panic [{ v := r.s.den β', recovered := false }]) a w') : wpOp P ops Q k K a w := by
  have hkl : k < l.length := (List.getElem?_eq_some_iff.1 ho).1
  obtain ⟨en, he⟩ : ∃ en, es[k]? = some en := ⟨_, List.getElem?_eq_getElem (by omega)⟩
  have hb := hB k o en ho he
  have hlk : ∀ t ∈ o.looksAt ops, look st'.fr t = fLook l es st L t := fun t ht => by
    rw [← hst.1 t, look_at (st := st) hlen hB k (by omega)]
    refine fLook_congr fun j hj => (settled_spec hI ho hL hr ?_).symm
    have := hb.looks t ht
    rw [hj] at this
    exact this
  have hag : Agree o a (ev st'.fr) β := by
    intro x hx sv hsv
    cases x with
    | tmp t =>
      have h1 : fLook l es st L t = some sv := by rw [← hlk t (tmp_looks hx)]; exact hsv
      have := hI.get t sv h1
      simp [Act.eval, this]
    | const v => simp only [ev, Option.some.injEq] at hsv; subst hsv; rfl
    | global g => simp only [ev, Option.some.injEq] at hsv; subst hsv; rfl
    | func f => simp only [ev, Option.some.injEq] at hsv; subst hsv; rfl
  have hw : Region.wanted o (yielded ops a.tmps) = true := guard_at (β := β) (fun t ht sv hsv => hI.get t sv (by rw [← hlk t ht]; exact hsv)) hg
  have same : ∀ j, L j = ltB k j ∨ ∃ en, es[j]? = some en ∧ pureG en.g = true ∨ es[j]? = none := fun j => by
    cases hj : es[j]? with
    | none => exact .inr ⟨en, .inr rfl⟩
    | some ej =>
      rcases hpure j ej hj with h | ⟨h1, h2⟩
      · exact .inr ⟨ej, .inl ⟨rfl, h⟩⟩
      · refine .inl ?_
        rw [waits_ready hI.down ho hr h2]
        simp [ltB, h1]
  have hrow : ∀ i : Nat, fRow es st L i = st'.mem[i]? := fun i => by
    rw [← hst.2, row_at (ops := ops) (st := st) hlen hB hS k (by omega)]
    have key : ∀ (p : Ent → Bool) (j : Nat), idxOf p es = some j → (∀ en, pureG en.g = true → p en = false) → L j = ltB k j := fun p j hj hnp => by
      obtain ⟨ej, hej, hpj⟩ := idxOf_some hj
      rcases same j with h | ⟨e2, ⟨h1, h2⟩ | h1⟩
      · exact h
      · rw [hej] at h1
        cases h1
        rw [hnp _ h2] at hpj
        cases hpj
      · rw [hej] at h1; cases h1
    refine fRow_congr (fun j hj => key _ j hj fun en hen => ?_) (fun j hj => key _ j hj fun en hen => ?_)
    · obtain ⟨_, _, h3⟩ := pureG_ok hen
      cases hb : isNew i en with
      | false => rfl
      | true =>
        have := isNew_iff.1 hb
        rw [h3] at this
        simp at this
        omega
    · obtain ⟨h1, h2, _⟩ := pureG_ok hen
      cases hb : isWr i en with
      | false => rfl
      | true =>
        rcases isWr_iff.1 hb with h | h
        · rw [h1] at h; cases h
        · rw [h2] at h; cases h
  have hin : ∀ j, (∃ r, fRow es st L j = some r) → j < st'.mem.length := fun j ⟨r, h⟩ => by
    rw [hrow] at h
    exact (List.getElem?_eq_some_iff.1 h).1
  have hrows : RowsOk b β w st'.mem := ⟨fun i r h => hI.held i r (by rw [hrow]; exact h), fun i r k h hk => hI.new i r k (by rw [hrow]; exact h) hk, fun i j r r' k h h' hk hk' => hI.inj i j r r' k (by rw [hrow]; exact h) (by rw [hrow]; exact h') hk hk', hI.cg⟩
  have hwf : Wf st'.mem := fun i r h j hj => hin j (hI.wfR i r (by rw [hrow]; exact h) j hj)
  obtain ⟨hf, hcall⟩ := hrc _ _ _ _ hcr
  have hcl := hcall β w hrows hwf hargs
  unfold wpOp
  have hio : ops[k]? = some o := hops k o ho
  simp only [hio]
  rw [hw, if_pos rfl]
  refine .inl ?_
  unfold Oper.wp
  rw [callOf_ok hc hq hag hf]
  refine hcl.mono fun e w' he => ?_
  obtain ⟨β', h1, h2, h3, h4, rfl⟩ := he
  rw [show endC β' r = .panicked [{ v := r.s.den β', recovered := false }] from by unfold endC; rw [hpan]]
  refine hp β' w' ⟨hI.size, hI.dn, fun t sv ht => (by cases ht), h1.held, h1.new, h1.inj, h1.cg, fun t sv ht => (by cases ht), h2, fun i hi => ?_⟩ h4
  obtain ⟨k1, k2⟩ := hI.keep i hi
  obtain ⟨k3, k4⟩ := h3 i (hin i k2)
  exact ⟨⟨k1.1.trans k3.1, k1.2.trans k3.2⟩, k4⟩
theorem draw_pan {id k : Nat} {rc : Rc} {o : Oper} {c : Call} {q : FuncId × List SV} {r : Cr} {st' : St} {l : List Oper} {es : List Ent} (hm : P.follows .mixedOrders = true) (h : Hd ds b n β st a w) (hlex : LexQ P b n l.toArray (l.take (tailAt l)) k (l.take (tailAt l)) 0 st es) (ho : (l.take (tailAt l))[k]? = some o) (hrc : RcOk P b rc) (hst : EqS (runE n st (l.take (tailAt l)) es k) st') (hg : guardOf l.toArray (ev st'.fr) o = some true) (hc : o.op = .call c) (hq : callOf P (ev st'.fr) c = some q) (hcr : rc q.1 q.2 st'.mem = some r) (hpan : r.pan = true) (hargs : ∀ s ∈ q.2, ∀ j ∈ s.idx, j < st'.mem.length) (hpure : panB (l.take (tailAt l)) k 0 es = true) (hb : allBe l.toArray (l.take (tailAt l)) es n 0 (l.take (tailAt l)) es = true)
    (hp : ∀ β' a' w', Hd ds b n β' ⟨[], r.mem⟩ a' w' → (∀ i ∈ r.s.idx, i < r.mem.length) → Q (.panic [{ v := r.s.den β', recovered := false }]) a' w') : (Code.region id l.toArray true).wp P Q a w := by
  obtain ⟨hT, hle⟩ := tailAt_ok l
  obtain ⟨hlen, hit⟩ := lexQ_spec hlex
  have hops : ∀ (i : Nat) o, (l.take (tailAt l))[i]? = some o → l.toArray[i]? = some o := fun i o ho => by
    rw [List.getElem?_take] at ho
    split at ho
    · simpa using ho
    · cases ho
  have hll : (l.take (tailAt l)).length = tailAt l := by rw [List.length_take]; omega
  have hB : ∀ k o en, (l.take (tailAt l))[k]? = some o → es[k]? = some en → Okb l.toArray (l.take (tailAt l)) es n k o en := fun k o en ho he => by
    have := allBe_spec hb k o en ho he
    rw [Nat.zero_add] at this
    exact opB_spec this
  have hM : ∀ k o en, (l.take (tailAt l))[k]? = some o → es[k]? = some en → Okm (l.take (tailAt l)) es k en := fun k o en ho he => by
    have := allBe_spec hb k o en ho he
    rw [Nat.zero_add] at this
    exact opB_ment this
  have hS : ∀ k o en, (l.take (tailAt l))[k]? = some o → es[k]? = some en → EntS (runE n st (l.take (tailAt l)) es k) en := fun k o en ho he => by
    rcases hit k o en ho he with h | ⟨rfl, _⟩
    · exact entOk_s h
    · exact ⟨rfl, fun i hi => by cases hi⟩
  have en_ : ∀ (k : Nat) o, (l.take (tailAt l))[k]? = some o → ∃ en, es[k]? = some en := fun k o ho => ⟨_, List.getElem?_eq_getElem (by rw [hlen]; exact (List.getElem?_eq_some_iff.1 ho).1)⟩
  have hkl : k < (l.take (tailAt l)).length := (List.getElem?_eq_some_iff.1 ho).1
  refine wp_region_any hm ?_
  have hI : OInv ds b n (l.take (tailAt l)) es st (fun _ => false) β a { w with drawn := w.drawn + 1 } := OInv.start (h.later (Cg.refl No w).drew) fun i k hk' => new_fresh hlen hS hk'
  have hrep : (fun k => (Array.replicate l.toArray.size false).getD k false) = fun _ : Nat => false := by
    funext k
    simp only [Array.getD_eq_getD_getElem?, Array.getElem?_replicate]
    split <;> rfl
  have := any_inv (P := P) (Q := Q) (I := fun L β a w => OInv ds b n (l.take (tailAt l)) es st L β a w ∧ L k = false) hops (by rw [hll]; exact hT) (fun j o ho => by
      obtain ⟨en, he⟩ := en_ j o ho
      exact (hB j o en ho he).down) (fun L β a w i o' hI ho' hL hr K hK => by
      obtain ⟨hI, hk⟩ := hI
      by_cases hik : i = k
      · subst hik
        rw [ho] at ho'
        cases ho'
        exact pan_step hops hlen hB hS hI ho hL hr hrc hst hg hc hq hcr hpan hargs (fun i en hi => by
          have := panB_ok hpure i en hi
          rwa [Nat.zero_add] at this) fun β' w' h1 h2 => hp β' a w' h1 h2
      · obtain ⟨en, he⟩ := en_ i o' ho'
        rcases hit i o' en ho' he with hent | ⟨_, hw⟩
        · exact any_step hops hI ho' he hB hlen hS hent (hM i o' en ho' he) hL hr fun β' a' w' h' => hK β' a' w' ⟨h', by rw [more_ne (Ne.symm hik)]; exact hk⟩
        · rw [Nat.zero_add] at hw
          rcases hw with hw | hw
          · exact absurd hw hik
          · have := waits_ready hI.down ho' hr hw
            rw [hk] at this
            cases this) (fun L β a w hI hall => by
      have := hall k hkl
      rw [hI.2] at this
      cases this) (tailAt l) (Array.replicate l.toArray.size false) β a { w with drawn := w.drawn + 1 } (by simp) (by simp [List.count_replicate]; omega) (fun k _ => congrFun hrep k) (by rw [hrep]; exact ⟨hI, rfl⟩)
  rw [hll] at this
  have e : tailAt l + (l.toArray.toList.drop (tailAt l)).length = l.toArray.size := by simp; omega
  rw [e] at this
  exact this
end
end Ax
end Go.Proofs.YtcpbbgkeigbndaaGreat

/- A reckoner of calls, part 18: runs whose values are all known are runs of the program: regions that draw, loops, functions. Proved over any program. No condition of its own. -/
namespace Go.Proofs.YtcpbbgkeigbndaaGreat
open Go Go.RowKit Go.Lib Go.Sort
namespace Ax
section
variable {P : Program} {T0 T : Tab P} {rc : Rc} {b : Base} {n : Nat} {β β' : Env} {s s' : Cst} {a a' : Act} {w w' : World} {ops : Array Oper} {Q : Exit → Act → World → Prop}
theorem litG_eq {o : Oper} {st : St} : EqS st (litG ops o st) := by
  unfold litG
  split
  · exact EqS.refl st
  · rename_i q hg
    refine ⟨fun x => ?_, rfl⟩
    have := guardBool_look hg
    show look st.fr x = look ((q.1, .v (.bool q.2)) :: st.fr) x
    rw [look_put]
    split
    · rename_i hx; subst hx; exact this
    · rfl
theorem lexC_of {opD : Opf} (hop : OpOk P b opD) : ∀ (l : List Oper) (st s0 : St) (acc es : List Ent) (st' : St), EqS s0 st → exLexC opD n ops l st acc = some (es, st') → ∃ es2, es = acc ++ es2 ∧ Lex P T b [] n ops l s0 es2 st'
  | [], st, s0, acc, es, st', he, hx => by
    unfold exLexC at hx
    cases hx
    exact ⟨[], by simp, rfl, he⟩
  | o :: l, st, s0, acc, es, st', he, hx => by
    unfold exLexC at hx
    have he := he.trans (litG_eq (ops := ops) (o := o))
    generalize litG ops o st = st1 at he hx
    have hev := he.ev
    have hmem := he.2
    simp only at hx
    split at hx
    · rename_i hg
      split at hx
      · rename_i g hgo
        split at hx
        · rename_i hok
          obtain ⟨es2, rfl, hl⟩ := lexC_of hop l _ (applyE n s0 o g) _ es st' (by unfold applyE; rw [hmem]; exact he.put n _ _ _) hx
          refine ⟨⟨g, st1.mem.length⟩ :: es2, by simp, _, _, rfl, .inr ⟨?_, ?_, ?_, ?_⟩, hl⟩
          · rw [hev]; exact hg
          · rw [hmem]
          · rw [hmem]; exact hok
          · rw [hev, hmem]; exact hop _ _ _ _ _ hgo
        · cases hx
      · cases hx
    · rename_i hg
      obtain ⟨es2, rfl, hl⟩ := lexC_of hop l _ (applyE n s0 o (.pure [] (.v undef))) _ es st' (by unfold applyE; rw [hmem]; exact he.put n _ _ _) hx
      exact ⟨skipE st1.mem.length :: es2, by simp, _, _, rfl, .inl ⟨by rw [hev]; exact hg, by rw [hmem]⟩, hl⟩
    · cases hx
theorem exDrawC_ok {op opD : Opf} (hop : OpOk P b op) (hopD : OpOk P b opD) {id : Nat} {l : List Oper} {oe : Oe} (hm : P.follows .mixedOrders = true) (hrc : RcOk P b rc) (hx : exDrawC P op opD rc n l s = some oe) (h : Hq b n β s a w) (hn : ∀ s' β' a' w', oe = .n s' → Hq b n β' s' a' w' → Ext β β' s.mem.length s'.mem.length → Q .normal a' w')
    (hp : ∀ v s' β' a' w', oe = .p v s' → Hq b n β' s' a' w' → Ext β β' s.mem.length s'.mem.length → (∀ i ∈ v.idx, i < s'.mem.length) → Q (.panic [{ v := v.den β', recovered := false }]) a' w') : (Code.region id l.toArray true).wp P Q a w := by
  unfold exDrawC at hx
  split at hx
  · rename_i es st' hlex
    split at hx
    · rename_i hall
      obtain ⟨es2, he2, hl⟩ := lexC_of (T := Tab.nil P) hopD _ _ _ _ _ _ (EqS.refl _) hlex
      rw [List.nil_append] at he2
      subst he2
      refine draw_lex (T := Tab.nil P) (H := []) hm h.hd hl hall fun β' a' w' h' => ?_
      obtain ⟨h1, h2⟩ := h.next h'
      exact exOpsC_ok hop hrc _ _ oe β' a' w' hx h1 (fun s' β2 a2 w2 e hq hE => hn s' β2 a2 w2 e hq (h2.trans hE)) (fun v s' β2 a2 w2 e hq hE hv => hp v s' β2 a2 w2 e hq (h2.trans hE) hv)
    · split at hx
      · rename_i st2 hmap
        unfold exDrawM at hmap
        split at hmap
        · cases hmap
        · rename_i o0 rest hl0
          split at hmap
          · cases hmap
          · rename_i t0 hd0
            split at hmap
            · rename_i es3 st3 kv hlm
              split at hmap
              · rename_i hb
                cases hmap
                simp only [Bool.and_eq_true] at hb
                obtain ⟨es2, kv2, he2, hk2, hl⟩ := lexM_of hopD _ _ _ _ _ _ _ _ _ (EqS.refl _) hlm
                rw [List.nil_append] at he2 hk2
                subst he2
                subst hk2
                refine draw_map (o0 := o0) (st' := st3) hm h.hd hl (by rw [hl0]; rfl) hd0 hb.1 hb.2.1 hb.2.2 fun β' a' w' h' => ?_
                obtain ⟨h1, h2⟩ := h.next h'
                exact exOpsC_ok hop hrc _ _ oe β' a' w' hx h1 (fun s' β2 a2 w2 e hq hE => hn s' β2 a2 w2 e hq (h2.trans hE)) (fun v s' β2 a2 w2 e hq hE hv => hp v s' β2 a2 w2 e hq (h2.trans hE) hv)
              · cases hmap
            · cases hmap
      · cases hx
  · unfold exDrawP at hx
    split at hx
    · rename_i o rest st acc hA
      split at hx
      · rename_i c hcall
        have hc : o.op = .call c := by
          unfold isCall at hcall
          split at hcall
          · rename_i hh; cases hcall; exact hh
          · cases hcall
        split at hx
        · rename_i q hq
          split at hx
          · rename_i r hr
            split at hx
            · rename_i hpan
              split at hx
              · rename_i es hB
                split at hx
                · rename_i hb
                  cases hx
                  simp only [Bool.and_eq_true] at hb
                  obtain ⟨es2, s1, hacc, hs1, hg, hlk, hrun, hlq⟩ := lexA_of (P := P) (b := b) (lf := l.take (tailAt l)) (k := acc.length) hopD _ 0 _ _ _ _ _ _ _ (EqS.refl _) hA
                  rw [List.nil_append] at hacc
                  subst hacc
                  obtain ⟨er, rfl, hl⟩ := lexB_of (P := P) (b := b) hopD _ _ _ (applyE n s1 o (.pure [] .gone)) _ _ (by unfold applyE; rw [hs1.2]; exact hs1.put n _ _ _) hB
                  rw [List.append_assoc] at hb
                  rw [List.append_assoc] at hB
                  refine draw_pan (es := acc ++ ([goneE st.mem.length] ++ er)) (k := acc.length) hm h.hd (hlq _ ⟨goneE st.mem.length, er, rfl, .inr ⟨by rw [hs1.2], .inl (Nat.zero_add _)⟩, by rw [Nat.zero_add]; exact hl⟩) hlk hrc (by rw [hrun]; exact hs1) hg hc hq hr hpan (fun x hx' j hj => ltAll_spec (allB_spec hb.1 x hx') j hj) hb.2.1 hb.2.2 fun β' a' w' h' hidx => ?_
                  obtain ⟨h1, h2⟩ := h.next h'
                  exact hp r.s _ β' a' w' rfl h1 h2 hidx
                · cases hx
              · cases hx
            · cases hx
          · cases hx
        · cases hx
      · cases hx
    · cases hx
theorem look_setFr {d t : Nat} {v : SV} : ∀ {l : List (Nat × SV)}, look (setFr d v l) t = if d = t then v.known else look l t
  | [] => by rw [setFr, look_put]
  | q :: r => by
    unfold setFr
    split
    · rename_i hb
      have hb := Nat.eq_of_beq_eq_true hb
      rw [look_put, look_put]
      by_cases hd : d = t
      · rw [if_pos hd, if_pos hd]
      · rw [if_neg hd, if_neg hd, if_neg (by rw [hb]; exact hd)]
    · rename_i hb
      have hb : q.1 ≠ d := fun hh => by rw [hh, Nat.beq_refl] at hb; cases hb
      obtain ⟨k, v'⟩ := q
      rw [look_put, look_put, look_setFr]
      by_cases hd : d = t
      · subst hd
        rw [if_neg hb, if_pos rfl, if_pos rfl]
      · rw [if_neg hd, if_neg hd]
theorem hasBit_eq {m d : Nat} : hasBit m d = m.testBit d := by
  unfold hasBit
  rw [Bool.eq_iff_iff, Nat.beq_eq, Nat.testBit_eq_decide_div_mod_eq, decide_eq_true_iff]
  show (m >>> d) &&& 1 = 1 ↔ _
  rw [Nat.and_one_is_mod, Nat.shiftRight_eq_div_pow]
theorem look_nubFr {t : Nat} : ∀ {k : Nat} {seen : Nat} {l : List (Nat × SV)}, hasBit seen t = false → look (nubFr k seen l) t = look l t
  | 0, _, l, _ => by cases l <;> rfl
  | k + 1, _, [], _ => rfl
  | k + 1, seen, q :: r, h => by
    obtain ⟨d, v⟩ := q
    unfold nubFr
    split
    · rename_i hb
      have hb : hasBit seen d = true := hb
      have hne : d ≠ t := fun hh => by rw [hh, h] at hb; cases hb
      rw [look_nubFr h, look_put, if_neg hne]
    · rw [look_put, look_put]
      by_cases hd : d = t
      · rw [if_pos hd, if_pos hd]
      · rw [if_neg hd, if_neg hd]
        refine look_nubFr ?_
        rw [hasBit_eq] at h ⊢
        show (seen ||| 2 ^ d).testBit t = false
        rw [Nat.testBit_or, h, Nat.testBit_two_pow_of_ne hd]
        rfl
theorem look_mergeFr {t : Nat} {k : Nat} {l : List (Nat × SV)} : look (mergeFr k l) t = look l t := by
  unfold mergeFr
  split
  · rfl
  · exact look_nubFr (by rw [hasBit_eq]; exact Nat.zero_testBit t)
theorem Hq.eqFr (h : Hq b n β s a w) {fr : List (Nat × SV)} (he : ∀ t, look s.fr t = look fr t) : Hq b n β ⟨fr, s.mem, s.df⟩ a w :=
  ⟨h.hd.eqS ⟨he, rfl⟩, h.df, h.wd⟩
/-- How code ends, as the model has it. -/
def ExIs (β : Env) (m : Nat) : Ed → Exit → Prop
  | .n, x => x = .normal
  | .x i, x => x = .exit i
  | .g l, x => x = .goto l
  | .r, x => x = .ret
  | .p v, x => x = .panic [{ v := v.den β, recovered := false }] ∧ ∀ i ∈ v.idx, i < m
def Rz (b : Base) (n : Nat) (β : Env) (m : Nat) (e : Ed) (s' : Cst) (x : Exit) (a' : Act) (w' : World) : Prop := ∃ β', Hq b n β' s' a' w' ∧ Ext β β' m s'.mem.length ∧ ExIs β' s'.mem.length e x
theorem Rz.trans {m m' : Nat} {e : Ed} {x : Exit} (h : Rz b n β' m' e s' x a' w') (k : Ext β β' m m') : Rz b n β m e s' x a' w' := by
  obtain ⟨β2, h1, h2, h3⟩ := h
  exact ⟨β2, h1, k.trans h2, h3⟩
/-- The ways out of a scope, of which each jump to a label of its own is gone on from. -/
def ScQ (P : Program) (c : Code) (Q : Exit → Act → World → Prop) : Nat → Exit → Act → World → Prop
  | 0, e, a, w => Exit.noGoto Q e a w
  | k + 1, e, a, w => match e with
    | .goto l => match findLabel c l with
      | some rest => rest.wp P (ScQ P c Q k) a w
      | none => Q (.goto l) a w
    | e => Q e a w
theorem scope_all {c : Code} {b : Frame} {k : List Item} {cs : List Frame} {cfg : Machine} : ∀ (q : Nat) (e : Exit) (a1 : Act) (w1 : World), ScQ P c Q q e a1 w1 → Arrives P cfg b (.inScope c :: k) cs e a1 w1 → ∃ e a' w', Q e a' w' ∧ Arrives P cfg b k cs e a' w' := by
  intro q
  induction q with
  | zero =>
    intro e a1 w1 hq harr
    cases e with
    | normal => exact ⟨.normal, a1, w1, hq, Steps.trans harr (.one step_inScope)⟩
    | exit id => exact ⟨.exit id, a1, w1, hq, fun k' hk => harr k' (by simp [exitTo, hk])⟩
    | goto l => exact hq.elim
    | ret => exact ⟨_, a1, w1, hq, harr⟩
    | panic ch => exact ⟨_, a1, w1, hq, harr⟩
    | outgrown => exact ⟨_, a1, w1, hq, harr⟩
  | succ q ih =>
    intro e a1 w1 hq harr
    cases e with
    | normal => exact ⟨.normal, a1, w1, hq, Steps.trans harr (.one step_inScope)⟩
    | exit id => exact ⟨.exit id, a1, w1, hq, fun k' hk => harr k' (by simp [exitTo, hk])⟩
    | goto l =>
      unfold ScQ at hq
      simp only at hq
      split at hq
      · rename_i rest hf
        obtain ⟨e2, a2, w2, hq2, harr2⟩ := hq b (.inScope c :: k) cs
        exact ih e2 a2 w2 hq2 (.of_steps (harr _ (by simp [gotoIn, hf])) harr2)
      · rename_i hf
        exact ⟨.goto l, a1, w1, hq, fun k' hk => harr k' (by simp [gotoIn, hf, hk])⟩
    | ret => exact ⟨_, a1, w1, hq, harr⟩
    | panic ch => exact ⟨_, a1, w1, hq, harr⟩
    | outgrown => exact ⟨_, a1, w1, hq, harr⟩
theorem wp_scope_all {c : Code} (q : Nat) (h : c.wp P (ScQ P c Q q) a w) : (Code.scope c).wp P Q a w := by
  intro b k cs
  obtain ⟨e, a1, w1, hq, harr⟩ := h b (.inScope c :: k) cs
  obtain ⟨e2, a2, w2, hq2, harr2⟩ := scope_all q e a1 w1 hq harr
  exact ⟨e2, a2, w2, hq2, .of_steps (.one step_scope) harr2⟩
def JumpOk (P : Program) (b : Base) (n : Nat) (jump : Code → Cst → Option (Ed × Cst)) : Prop := ∀ (c : Code) (s : Cst) (e : Ed) (s' : Cst) (β : Env) (a : Act) (w : World), jump c s = some (e, s') → Hq b n β s a w → c.wp P (Rz b n β s.mem.length e s') a w
theorem scopeC_none {jump : Code → Cst → Option (Ed × Cst)} {c : Code} {m k : Nat} : scopeC jump c m k none = none := by
  cases k <;> rfl
theorem scopeC_ok {jump : Code → Cst → Option (Ed × Cst)} (hj : JumpOk P b n jump) {c : Code} {m M : Nat} {e : Ed} {s' : Cst} {β : Env} : ∀ (k : Nat) (e1 : Ed) (s1 : Cst) (x : Exit) (a : Act) (w : World), scopeC jump c m k (some (e1, s1)) = some (e, s') → Rz b n β M e1 s1 x a w → ScQ P c (Rz b n β M e s') k x a w := by
  intro k
  induction k with
  | zero =>
    intro e1 s1 x a w hx h
    cases hx
  | succ k ih =>
    intro e1 s1 x a w hx h
    have same : (∀ l, e1 ≠ .g l) → ScQ P c (Rz b n β M e s') (k + 1) x a w := fun hne => by
      have he : (e1, s1) = (e, s') := by
        cases e1 with
        | g l => exact absurd rfl (hne l)
        | _ => exact Option.some.inj hx
      cases he
      cases x with
      | goto l =>
        obtain ⟨β', h2, h3, h4⟩ := h
        cases e with
        | g l' => exact absurd rfl (hne l')
        | p v => exact nomatch h4.1
        | _ => cases h4
      | _ => exact h
    cases e1 with
    | g l =>
      obtain ⟨β', h2, h3, h4⟩ := h
      cases (show x = .goto l from h4)
      unfold ScQ
      simp only
      unfold scopeC at hx
      simp only at hx
      split at hx
      · rename_i rest hf
        cases hjr : jump rest ⟨mergeFr (s1.fr.length - m) s1.fr, s1.mem, s1.df⟩ with
        | none => rw [hjr, scopeC_none] at hx; cases hx
        | some q =>
          obtain ⟨e2, s2⟩ := q
          rw [hjr] at hx
          have := hj rest _ e2 s2 β' a w hjr (h2.eqFr (fun t => look_mergeFr.symm))
          rw [hf]
          simp only
          exact Code.wp_mono (fun x' a' w' hz => ih e2 s2 x' a' w' hx (hz.trans h3)) this
      · rename_i hf
        cases hx
        rw [hf]
        exact ⟨β', h2, h3, rfl⟩
    | _ => exact same (fun l hl => nomatch hl)
theorem exC_ok {op opD : Opf} {jump : Code → Cst → Option (Ed × Cst)} (hj : JumpOk P b n jump) (hop : OpOk P b op) (hopD : OpOk P b opD) (hm : P.follows .mixedOrders = true) (hrc : RcOk P b rc) : ∀ (c : Code) (s : Cst) (e : Ed) (s' : Cst) (β : Env) (a : Act) (w : World), exC P op opD rc n jump c s = some (e, s') → Hq b n β s a w → c.wp P (Rz b n β s.mem.length e s') a w
  | .skip, s, e, s', β, a, w, hx, h => by
    unfold exC at hx
    cases hx
    exact wp_skip ⟨β, h, Ext.refl, rfl⟩
  | .region id ops draw, s, e, s', β, a, w, hx, h => by
    unfold exC at hx
    cases draw with
    | false =>
      simp only at hx
      split at hx
      · rename_i s1 ho
        cases hx
        exact wp_region_list (exOpsC_ok hop hrc _ _ _ β a w ho h (fun s2 β' a' w' e hq hE => by cases e; exact ⟨β', hq, hE, rfl⟩) (fun v s2 β' a' w' e _ _ _ => by cases e))
      · rename_i v s1 ho
        cases hx
        exact wp_region_list (exOpsC_ok hop hrc _ _ _ β a w ho h (fun s2 β' a' w' e _ _ => by cases e) (fun v s2 β' a' w' e hq hE hv => by cases e; exact ⟨β', hq, hE, rfl, hv⟩))
      · cases hx
    | true =>
      simp only at hx
      split at hx
      · rename_i s1 ho
        cases hx
        have := exDrawC_ok (id := id) (Q := Rz b n β s.mem.length .n s') hop hopD hm hrc ho h (fun s2 β' a' w' e hq hE => by cases e; exact ⟨β', hq, hE, rfl⟩) (fun v s2 β' a' w' e _ _ _ => by cases e)
        simpa using this
      · rename_i v s1 ho
        cases hx
        have := exDrawC_ok (id := id) (Q := Rz b n β s.mem.length (.p v) s') hop hopD hm hrc ho h (fun s2 β' a' w' e _ _ => by cases e) (fun v s2 β' a' w' e hq hE hv => by cases e; exact ⟨β', hq, hE, rfl, hv⟩)
        simpa using this
      · cases hx
  | .seq x y, s, e, s', β, a, w, hx, h => by
    unfold exC at hx
    split at hx
    · rename_i s1 h1
      refine wp_seq (Code.wp_mono (fun x' a' w' hq => ?_) (exC_ok hj hop hopD hm hrc x s _ _ β a w h1 h))
      obtain ⟨β', h2, h3, h4⟩ := hq
      cases (show x' = .normal from h4)
      exact Code.wp_mono (fun _ _ _ hz => hz.trans h3) (exC_ok hj hop hopD hm hrc y s1 e s' β' a' w' hx h2)
    · rename_i r hne
      refine wp_seq (Code.wp_mono (fun x' a' w' hq => ?_) (exC_ok hj hop hopD hm hrc x s e s' β a w hx h))
      cases x' with
      | normal =>
        obtain ⟨β', h2, h3, h4⟩ := hq
        cases e with
        | n => exact absurd hx (hne s')
        | x i => cases h4
        | g l => cases h4
        | r => cases h4
        | p v => exact nomatch h4.1
      | _ => exact hq
  | .cond c x y, s, e, s', β, a, w, hx, h => by
    unfold exC at hx
    split at hx
    · rename_i d hc
      have hv : a.eval c = .bool d := h.hd.eval hc
      cases d with
      | true => exact wp_cond_true hv (exC_ok hj hop hopD hm hrc x s e s' β a w hx h)
      | false => exact wp_cond_false hv (exC_ok hj hop hopD hm hrc y s e s' β a w hx h)
    · cases hx
  | .block id c, s, e, s', β, a, w, hx, h => by
    unfold exC at hx
    split at hx
    · rename_i i s1 h1
      refine wp_block (Code.wp_mono (fun x' a' w' hq => ?_) (exC_ok hj hop hopD hm hrc c s _ _ β a w h1 h))
      obtain ⟨β', h2, h3, h4⟩ := hq
      cases (show x' = .exit i from h4)
      split at hx
      · rename_i hb
        cases hx
        simp only [Exit.inBlock, Nat.eq_of_beq_eq_true hb, if_true]
        exact ⟨β', h2, h3, rfl⟩
      · rename_i hb
        cases hx
        have : i ≠ id := fun h => by rw [h, Nat.beq_refl] at hb; cases hb
        simp only [Exit.inBlock, this, if_false]
        exact ⟨β', h2, h3, rfl⟩
    · rename_i r hne
      refine wp_block (Code.wp_mono (fun x' a' w' hq => ?_) (exC_ok hj hop hopD hm hrc c s e s' β a w hx h))
      cases x' with
      | exit i =>
        obtain ⟨β', h2, h3, h4⟩ := hq
        cases e with
        | n => cases h4
        | x j => exact absurd hx (hne j s')
        | g l => cases h4
        | r => cases h4
        | p v => exact nomatch h4.1
      | _ => exact hq
  | .scope c, s, e, s', β, a, w, hx, h => by
    unfold exC at hx
    cases hc : exC P op opD rc n jump c s with
    | none => rw [hc, scopeC_none] at hx; cases hx
    | some q =>
      obtain ⟨e1, s1⟩ := q
      rw [hc] at hx
      exact wp_scope_all 100000 (Code.wp_mono (fun x' a' w' hz => scopeC_ok hj _ e1 s1 x' a' w' hx hz) (exC_ok hj hop hopD hm hrc c s e1 s1 β a w hc h))
  | .loop c, s, e, s', β, a, w, hx, h => by
    unfold exC at hx
    refine wp_loop_ghost (fun q a w => ∃ β1 s1, loopC (fun s => exC P op opD rc n jump c s) s.fr.length q s1 = some (e, s') ∧ Hq b n β1 s1 a w ∧ Ext β β1 s.mem.length s1.mem.length) 100000 ⟨β, s, hx, h, Ext.refl⟩ ?_
    rintro q a' w' ⟨β1, s1, hl, h1, hE⟩
    cases q with
    | zero => unfold loopC at hl; cases hl
    | succ q =>
      unfold loopC at hl
      split at hl
      · rename_i s2 h2
        refine Code.wp_mono (fun x' a2 w2 hq => ?_) (exC_ok hj hop hopD hm hrc c s1 _ _ β1 a' w' h2 h1)
        obtain ⟨β2, h3, h4, h5⟩ := hq
        cases (show x' = .normal from h5)
        exact ⟨q, Nat.lt_succ_self q, β2, _, hl, h3.eqFr (fun t => look_mergeFr.symm), hE.trans h4⟩
      · rename_i r hne
        refine Code.wp_mono (fun x' a2 w2 hq => ?_) (exC_ok hj hop hopD hm hrc c s1 e s' β1 a' w' hl h1)
        cases x' with
        | normal =>
          obtain ⟨β', h2, h3, h4⟩ := hq
          cases e with
          | n => exact absurd hl (hne s')
          | x i => cases h4
          | g l => cases h4
          | r => cases h4
          | p v => exact nomatch h4.1
        | _ => exact hq.trans hE
  | .exit id, s, e, s', β, a, w, hx, h => by
    unfold exC at hx
    cases hx
    exact wp_exit ⟨β, h, Ext.refl, rfl⟩
  | .label _, s, e, s', β, a, w, hx, h => by
    unfold exC at hx
    cases hx
    exact wp_label ⟨β, h, Ext.refl, rfl⟩
  | .goto l, s, e, s', β, a, w, hx, h => by
    unfold exC at hx
    cases hx
    exact wp_goto ⟨β, h, Ext.refl, rfl⟩
  | .ret, s, e, s', β, a, w, hx, h => by
    unfold exC at hx
    cases hx
    exact wp_ret ⟨β, h, Ext.refl, rfl⟩
  | .rangeFunc .., s, e, s', β, a, w, hx, h => by unfold exC at hx; cases hx
  | .refuse _, s, e, s', β, a, w, hx, h => by unfold exC at hx; cases hx
theorem exF_ok {op opD : Opf} (hop : OpOk P b op) (hopD : OpOk P b opD) (hm : P.follows .mixedOrders = true) (hrc : RcOk P b rc) : ∀ k, JumpOk P b n (exF P op opD rc n k)
  | 0 => exC_ok (jump := fun _ _ => none) (fun _ _ _ _ _ _ _ hx _ => nomatch hx) hop hopD hm hrc
  | k + 1 => exC_ok (exF_ok hop hopD hm hrc k) hop hopD hm hrc
theorem results_run {fn : Func} {l : List SV} (h : Hq b n β s a w) (hl' : resSV P s.st fn.results.toList = some l) : (results fn a.tmps).run P w = .ok ((wrapS l).den β) w := by
  unfold results
  rw [Array.mapM_eq_mapM_toList]
  simp only [Sem.run_bind, map_eq_pure_bind, Sem.run_pure]
  rw [resSV_ok (P := P) h.hd (fun _ => rfl) (fun _ _ => rfl) hl']
  simp only [Result.andThen_ok]
  congr 1
  rw [← wrap_den]
  generalize SV.dens β l = vs
  match vs with
  | [] => rfl
  | [v] => rfl
  | v :: u :: r => simp [wrapUp]
theorem Wf.take {m : Nat} {mem : List Row} (h : allB (fun q => ltAll m q.idx) (mem.take m) = true) (hm : m ≤ mem.length) : Wf (mem.take m) := by
  intro i r hi j hj
  have := ltAll_spec (allB_spec h r (List.mem_of_getElem? hi)) j hj
  rw [List.length_take]
  omega
theorem RowsOk.take {m : Nat} {mem : List Row} (h : RowsOk b β w mem) : RowsOk b β w (mem.take m) := by
  have at_ : ∀ {i : Nat} {r : Row}, (mem.take m)[i]? = some r → mem[i]? = some r := fun {i r} hi => by
    rw [List.getElem?_take] at hi
    split at hi
    · exact hi
    · cases hi
  exact ⟨fun i r hi => h.held i r (at_ hi), fun i r k hi hk => h.new i r k (at_ hi) hk, fun i j r r' k hi hj hk hk' => h.inj i j r r' k (at_ hi) (at_ hj) hk hk', h.cg⟩
/-- What a call leaves, its own rows dropped where nothing names them. -/
theorem cutC_ok {m : Nat} {r : Cr} {e : Ending} (h1 : RowsOk b β' w r.mem) (h2 : Wf r.mem) (h3 : Ext β β' m r.mem.length) (h4 : ∀ i ∈ r.s.idx, i < r.mem.length) (h5 : e = endC β' r) : ∃ β', RowsOk b β' w (cutC m r).mem ∧ Wf (cutC m r).mem ∧ Ext β β' m (cutC m r).mem.length ∧ (∀ i ∈ (cutC m r).s.idx, i < (cutC m r).mem.length) ∧ e = endC β' (cutC m r) := by
  unfold cutC
  split
  · exact ⟨β', h1, h2, h3, h4, h5⟩
  · split
    · rename_i hb
      rw [Bool.and_eq_true] at hb
      have hm := h3.le
      have hlen : (r.mem.take m).length = m := by rw [List.length_take]; omega
      refine ⟨β', h1.take, Wf.take hb.2 hm, ?_, ?_, ?_⟩
      · show Ext β β' m (r.mem.take m).length
        rw [hlen]
        exact fun i hi => ⟨(h3 i hi).1, hi⟩
      · show ∀ i ∈ r.s.idx, i < (r.mem.take m).length
        rw [hlen]
        exact ltAll_spec hb.1
      · rw [h5]; unfold endC; rfl
    · exact ⟨β', h1, h2, h3, h4, h5⟩
end
end Ax
end Go.Proofs.YtcpbbgkeigbndaaGreat
