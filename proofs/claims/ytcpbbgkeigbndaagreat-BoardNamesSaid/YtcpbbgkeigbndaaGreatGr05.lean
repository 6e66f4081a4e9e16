/- A reckoner of calls, part 9: all operations hold. Proved over any program. No condition of its own. -/
import Derived.Test.YtcpbbgkeigbndaaGreatGr04
namespace Go.Proofs.YtcpbbgkeigbndaaGreat
open Go Go.RowKit Go.Lib Go.Sort

namespace Ax
/-- A block that is new, and k nil slices. -/
def Env.news (β : Env) (m k g : Nat) : Env := ⟨fun i => if i = m then g else β.b i, fun i => if m < i ∧ i < m + 1 + k then .slice none 0 0 else β.v i, fun i => if m ≤ i ∧ i < m + 1 + k then No else β.F i⟩
section
variable {P : Program} {T : Tab P} {b : Base} {H : List (Nat × Hint)} {h : Option Hint} {β : Env} {W : World} {a : Act} {o : Oper} {e : Operand → Option SV} {row : Nat → Option Row} {m : Nat} {g : Eff} {ob : Option Prop}
theorem nilsAt_den {β' : Env} : ∀ {q : List (Nat × TypeId × Nat)} {k : Nat} {l l' : List SV}, nilsAt m k q l = some l' → (∀ j, j < q.length → β'.v (m + (k + j)) = .slice none 0 0) → SV.dens β' l' = SV.dens β' l
  | [], k, l, l', h, _ => by cases h; rfl
  | q :: r, k, l, l', h, hv => by
    unfold nilsAt at h
    split at h
    · rename_i hl
      rw [nilsAt_den h fun j hj => by rw [show k + 1 + j = k + (j + 1) by omega]; exact hv (j + 1) (by simp; omega)]
      rw [dens_map, dens_map, List.map_set]
      have h0 : (SV.o (m + k)).den β' = .slice none 0 0 := by
        have := hv 0 (by simp)
        rw [Nat.add_zero] at this
        simp only [SV.den, this]
        rfl
      rw [h0]
      have : (l.map (SV.den β'))[q.1]? = some (.slice none 0 0) := by rw [List.getElem?_map, hl]; rfl
      obtain ⟨hlt, hg⟩ := List.getElem?_eq_some_iff.1 this
      rw [← hg, List.set_getElem_self]
    · cases h
theorem opVar_ok {t : TypeId} {l : List SV} (hex : (execOp a.eval o).run P W = .ok (.value (.pointer (some ⟨W.heap.size, 0, none⟩))) (W.alloc (.cells (SV.dens β l).toArray t))) (hr : opVar P h m t l = some (g, ob)) : Runs P o a W (EPost b β W row m g) := by
  unfold opVar at hr
  split at hr
  · rename_i q
    split at hr
    · rename_i hlt
      split at hr
      · rename_i l' hl'
        cases hr
        have hlt := ltAll_spec hlt
        have hv : ∀ j, j < q.length → (β.news m q.length W.heap.size).v (m + (1 + j)) = .slice none 0 0 := fun j hj => by
          simp only [Env.news]
          rw [if_pos (by omega)]
        have hat : ∀ i, (i < m ∨ m + (q.length + 1) ≤ i) → β.at (β.news m q.length W.heap.size) i := fun i hi => by
          refine ⟨?_, ?_⟩ <;> simp only [Env.news]
          · rw [if_neg (by omega)]
          · rw [if_neg (by omega)]
        have hd : SV.dens (β.news m q.length W.heap.size) l' = SV.dens β l := by
          rw [nilsAt_den hl' hv]
          exact (dens_congr l fun i hi => hat i (.inl (hlt i hi))).symm
        have hb : (β.news m q.length W.heap.size).b m = W.heap.size := by simp [Env.news]
        have kind : ∀ x : Nat × Row, Eff.fresh ⟨[], [], [], .c none t (mkCs l') :: q.map (fun x => .s x.2.1 x.2.2 0 []), .p m 0⟩ m x → x = (m, .c none t (mkCs l')) ∨ ∃ k y, q[k]? = some y ∧ x = (m + (k + 1), .s y.2.1 y.2.2 0 []) := by
          rintro ⟨i, r⟩ (h | ⟨k, h, hi⟩)
          · cases h
          · simp only at h hi
            cases k with
            | zero => rw [List.getElem?_cons_zero] at h; cases h; exact .inl (by rw [hi]; rfl)
            | succ k =>
              rw [List.getElem?_cons_succ, List.getElem?_map] at h
              obtain ⟨y, hy, he⟩ := Option.map_eq_some_iff.1 h
              exact .inr ⟨k, y, hy, by rw [hi, ← he]⟩
        have foot0 : ∀ k y, q[k]? = some y → ∀ x, ¬ foot (β.news m q.length W.heap.size) (m + (k + 1)) (.s y.2.1 y.2.2 0 []) x := by
          intro k y hy x hx
          have hk := (List.getElem?_eq_some_iff.1 hy).1
          have hx : (β.news m q.length W.heap.size).F (m + (k + 1)) x := hx
          simp only [Env.news] at hx
          rw [if_pos (by omega)] at hx
          exact hx
        refine .inl ⟨_, _, hex, β.news m q.length W.heap.size, by simp only [SV.den, hb], ⟨fun i hi => hat i (by simpa using hi), fun i hi _ => ?_, fun x hx => ?_, fun x hx y hy => ?_, fun x x' y hx hx' hy hy' => ?_, Cg.of ((Chg.refl [] W).alloc _) (by simp)⟩⟩
        · simp only [Env.news]
          simp only [List.length_cons, List.length_map] at hi
          rw [if_neg (by omega)]
        · rcases kind x hx with rfl | ⟨k, y, hy, rfl⟩
          · refine ⟨fun k hk => (by cases hk), ?_⟩
            rw [mkCs_den, hd, hb]
            exact Blk.new W t (SV.dens β l).toArray
          · have hk := (List.getElem?_eq_some_iff.1 hy).1
            have hv' : (β.news m q.length W.heap.size).v (m + (k + 1)) = .slice none 0 0 := by rw [Nat.add_comm k 1]; exact hv k hk
            refine ⟨by rw [hv']; exact Own.nil _ _ _, fun x => ⟨fun hx => (foot0 k y hy x hx).elim, fun hx => ?_⟩, by simp⟩
            rw [hv'] at hx
            cases hx
        · rcases kind x hx with rfl | ⟨k, z, hz, rfl⟩
          · rw [show y = _ from hy, hb]
            exact .inr (Nat.le_refl _)
          · exact (foot0 k z hz y hy).elim
        · rcases kind x hx with rfl | ⟨k, z, hz, rfl⟩
          · rcases kind x' hx' with rfl | ⟨k, z, hz, rfl⟩
            · rfl
            · exact (foot0 k z hz y hy').elim
          · exact (foot0 k z hz y hy).elim
      · cases hr
    · cases hr
  · split at hr
    · rename_i hlt
      cases hr
      refine .inl ⟨_, _, hex, β.upd m W.heap.size undef No, by simp only [SV.den, upd_b], post_newC fun β' hβ => ?_⟩
      rw [mkCs_den]
      exact (dens_congr l fun i hi => hβ i (idx_ne hlt i hi)).symm
    · cases hr
theorem opConvert_ok {s d : TypeId} {x : Operand} {sv : SV} (ho : o.op = .convert s d x) (he : Agree o a e β) (hx : a.eval x = sv.den β) (hr : opConvert P b h e row o s d sv = some (g, ob)) (hob : ∀ p, ob = some p → p) (hs : See b β W row g.see) : Runs P o a W (EPost b β W row m g) := by
  unfold opConvert at hr
  split at hr
  · rename_i c
    split at hr
    · rename_i hb
      split at hr
      · rename_i k news ob' see hsrc
        cases hr
        have hrd := src_ok (β := β) (W := W) hsrc (andO_l hob) hs fun i hi => hi
        obtain ⟨h1, h2⟩ := andO_r hob _ rfl
        obtain ⟨A, cp, hd, _⟩ := hrd.form
        rw [hd] at hrd
        refine runs_pure ?_
        unfold execOp
        simp only [ho, hx, hd, Sem.run_bind, run_bytes hb c A cp k news h1 h2 hrd.add, Result.andThen_ok, Sem.run_pure]
        rfl
      · cases hr
    · exact pureRes_ok he hr hob hs.cg
  · exact pureRes_ok he hr hob hs.cg
theorem orElse_cases {x y : OR} {r : Eff × Option Prop} (h : orElseR x y = some r) : x = some r ∨ y = some r := by
  cases x with
  | none => exact .inr h
  | some z => exact .inl h
theorem opCall_ok {c : Call} (ho : o.op = .call c) (he : Agree o a e β) (hr : opCall P T b h e row m o c = some (g, ob)) (hob : ∀ p, ob = some p → p) (hs : See b β W row g.see) : Runs P o a W (EPost b β W row m g) := by
  unfold opCall at hr
  split at hr
  · rename_i t x y hap
    have hc := appArgs_eq hap
    split at hr
    · rename_i sx hx
      split at hr
      · rename_i sy hy
        exact opAppend_ok ho hc (he x (by simp [ho, Op.operands, Call.operands, hc]) _ hx) (he y (by simp [ho, Op.operands, Call.operands, hc]) _ hy) hr hob hs
      · cases hr
    · cases hr
  · split at hr
    · rename_i t u x y hap
      have hc := copyArgs_eq hap
      split at hr
      · rename_i sx hx
        split at hr
        · rename_i sy hy
          exact opCopy_ok ho hc (he x (by simp [ho, Op.operands, Call.operands, hc]) _ hx) (he y (by simp [ho, Op.operands, Call.operands, hc]) _ hy) hr hob hs
        · cases hr
      · cases hr
    · split at hr
      · rename_i t x hla
        have hc := lenArg_eq hla
        split at hr
        · rename_i sx hx
          rcases orElse_cases hr with hr | hr
          · exact opLen_ok ho hc (he x (by simp [ho, Op.operands, Call.operands, hc]) _ hx) hr hs
          · exact pureRes_ok he hr hob hs.cg
        · cases hr
      · split at hr
        · rename_i p hp
          obtain ⟨hf, hcl⟩ := T.ok _ _ _ _ _ _ _ hr hob β W hs
          exact .inr (.inr ⟨_, _, callOf_ok ho hp he hf, hcl⟩)
        · exact pureRes_ok he hr hob hs.cg
theorem move_ok {x : Operand} (ho : o.op = .move x ∨ o.op = .assign x) (he : Agree o a e β) (hr : (match e x with
      | some sv => match h with
        | some (.own t size) => match sv with
          | .v (.slice none 0 0) => (some (⟨[], [], [], [.s t size 0 []], .o m⟩, none) : OR)
          | sv => pureR sv none
        | none => pureR sv none
        | _ => pureRes P b h e o
      | none => none) = some (g, ob)) (hob : ∀ p, ob = some p → p) (hw : Cg b.S b.w W) : Runs P o a W (EPost b β W row m g) := by
  split at hr
  · rename_i sv hsv
    have hx := he x (by rcases ho with ho | ho <;> simp [ho, Op.operands]) _ hsv
    have mv : (execOp a.eval o).run P W = .ok (.value (sv.den β)) W := by
      unfold execOp
      rcases ho with ho | ho <;> simp only [ho, hx] <;> rfl
    split at hr
    · rename_i t size
      split at hr
      · cases hr
        refine .inl ⟨_, _, mv, β.upd m 0 (.slice none 0 0) fun k => (Value.slice none 0 0).ownBlock = some k, ?_, post_newS (Own.nil W _ _) (by simp) (fun k hk => (by cases hk)) (Cg.refl _ _)⟩
        simp only [SV.den, upd_v]
        rfl
      · cases hr
        exact runs_pure mv
    · cases hr
      exact runs_pure mv
    · exact pureRes_ok he hr hob hw
  · cases hr
theorem op_okB (he : Agree o a e β) (hr : opEffB P T b H h e row m o = some (g, ob)) (hob : ∀ p, ob = some p → p) (hs : See b β W row g.see) : Runs P o a W (EPost b β W row m g) := by
  unfold opEffB at hr
  split at hr
  · exact effRes_ok he hr hob hs
  · split at hr
    · rename_i x ho
      exact move_ok (.inl ho) he hr hob hs.cg
    · rename_i x ho
      exact move_ok (.inr ho) he hr hob hs.cg
    · rename_i x ho
      split at hr
      · rename_i i off hx
        cases hr
        refine runs_pure ?_
        have hx := he x (by simp [ho, Op.operands]) _ hx
        unfold execOp
        simp [ho, hx, SV.den]
      · rename_i f l hx
        cases hr
        refine runs_pure ?_
        have hx := he x (by simp [ho, Op.operands]) _ hx
        unfold execOp
        simp [ho, hx, SV.den]
      · rename_i i hx
        split at hr
        · rename_i hp
          cases hr
          obtain ⟨ad, hv⟩ := isPtr_ok hp hs (by simp [Eff.pure])
          refine runs_pure ?_
          have hx := he x (by simp [ho, Op.operands]) _ hx
          unfold execOp
          simp [ho, hx, SV.den, hv, oneV]
        · cases hr
      · exact pureRes_ok he hr hob hs.cg
    · rename_i t ho
      split at hr
      · rename_i inf hi
        split at hr
        · rename_i z hz
          refine opVar_ok ?_ hr
          rw [dens_v]
          unfold execOp
          simp [ho, Instr.alloc, zeroValue, typeInfo, hi, hz, newVar, newRow]
        · cases hr
      · cases hr
    · rename_i t x ho
      split at hr
      · rename_i sv hsv
        split at hr
        · rename_i l hl
          refine opVar_ok ?_ hr
          have hx := he x (by simp [ho, Op.operands]) _ hsv
          rw [← svCells_den hl]
          unfold execOp
          simp [ho, hx, Instr.box, newVar, newRow]
        · cases hr
      · cases hr
    · rename_i t x ho
      split at hr
      · rename_i i off hx
        split at hr
        · rename_i r hrow
          split at hr
          · rename_i hc
            exact loadRow_ok (pt := .p i off) ho (he x (by simp [ho, Op.operands]) _ hx) (.inl ⟨rfl, hc⟩) hrow hr hob hs
          · cases hr
        · cases hr
      · rename_i i off hx
        split at hr
        · rename_i r hrow
          split at hr
          · cases hr
          · rename_i hc
            exact loadRow_ok (pt := .e i off) ho (he x (by simp [ho, Op.operands]) _ hx) (.inr ⟨rfl, hc⟩) hrow hr hob hs
        · cases hr
      · split at hr
        · exact pureRes_ok he hr hob hs.cg
        · cases hr
    · rename_i t x y ho
      split at hr
      · rename_i i off hx
        split at hr
        · rename_i sv hy
          split at hr
          · rename_i r hrow
            split at hr
            · rename_i hc
              exact storeRow_ok (pt := .p i off) ho (he x (by simp [ho, Op.operands]) _ hx) (he y (by simp [ho, Op.operands]) _ hy) (.inl ⟨rfl, hc⟩) hrow hr hob hs
            · cases hr
          · cases hr
        · cases hr
      · rename_i i off hx
        split at hr
        · rename_i sv hy
          split at hr
          · rename_i r hrow
            split at hr
            · cases hr
            · rename_i hc
              exact storeRow_ok (pt := .e i off) ho (he x (by simp [ho, Op.operands]) _ hx) (he y (by simp [ho, Op.operands]) _ hy) (.inr ⟨rfl, hc⟩) hrow hr hob hs
          · cases hr
        · cases hr
      · cases hr
    · rename_i x k ho
      split at hr
      · rename_i l hx
        split at hr
        · rename_i sv hsv
          cases hr
          refine runs_pure ?_
          have hx := he x (by simp [ho, Op.operands]) _ hx
          have : (SV.dens β l).toArray[k]? = some (sv.den β) := by rw [List.getElem?_toArray, dens_get, hsv]; rfl
          unfold execOp
          simp [ho, hx, SV.den, Instr.extract, this]
        · cases hr
      · exact pureRes_ok he hr hob hs.cg
    · rename_i t x f ho
      split at hr
      · rename_i l hx
        exact opField_ok ho (he x (by simp [ho, Op.operands]) _ hx) hr
      · exact pureRes_ok he hr hob hs.cg
    · rename_i s x f ho
      split at hr
      · rename_i sv hx
        rcases orElse_cases hr with hr | hr
        · exact opFieldAddr_ok ho (he x (by simp [ho, Op.operands]) _ hx) hr hob hs
        · exact pureRes_ok he hr hob hs.cg
      · cases hr
    · rename_i t x ix ho
      split at hr
      · rename_i sv hx
        split at hr
        · rename_i iv hi
          rcases orElse_cases hr with hr | hr
          · exact opIndexAddr_ok ho (he x (by simp [ho, Op.operands]) _ hx) (he ix (by simp [ho, Op.operands]) _ hi) hr hob hs
          · exact pureRes_ok he hr hob hs.cg
        · cases hr
      · cases hr
    · rename_i arr x ho
      split at hr
      · rename_i sv hx
        exact opArr_ok ho (he x (by simp [ho, Op.operands]) _ hx) hr hob hs
      · cases hr
    · rename_i t x lo hi mx ho
      split at hr
      · split at hr
        · rename_i sv hx
          rcases orElse_cases hr with hr | hr
          · exact opSlice_ok ho he (he x (by simp [ho, Op.operands]) _ hx) hr hob hs
          · exact pureRes_ok he hr hob hs.cg
        · cases hr
      · exact pureRes_ok he hr hob hs.cg
    · rename_i t parts ho
      split at hr
      · exact pureRes_ok he hr hob hs.cg
      · exact opBuild_ok ho he hr
    · rename_i t len parts ho
      exact opBuildSlice_ok ho he hr
    · rename_i fn first captured ho
      split at hr
      · rename_i f
        split at hr
        · rename_i q hq
          split at hr
          · rename_i l hl
            split at hr
            · exact pureRes_ok he hr hob hs.cg
            · cases hr
              have hmq := svArgs_ok (β := β) (a := a) hq (fun x hx sv hsv => he x (by
                have hx : x ∈ first := Array.mem_toList_iff.1 hx
                simp [ho, Op.operands, hx]) sv hsv)
              have hm := svArgs_ok (β := β) (a := a) hl (fun x hx sv hsv => he x (by
                have hx : x ∈ captured := Array.mem_toList_iff.1 hx
                simp [ho, Op.operands, hx]) sv hsv)
              refine runs_pure ?_
              unfold execOp
              simp only [ho, Instr.makeFunc, Sem.run_bind, Sem.run_pure, Result.andThen_ok, SV.den]
              rw [← hm, ← hmq, ← Array.toList_map, ← Array.toList_map, Array.toArray_toList, Array.toArray_toList]
          · cases hr
        · cases hr
      · cases hr
    · rename_i t x ho
      split at hr
      · exact pureRes_ok he hr hob hs.cg
      · rename_i sv _ hx
        split at hr
        · rename_i hc
          cases hr
          refine runs_pure ?_
          have hx := he x (by simp [ho, Op.operands]) _ hx
          unfold execOp
          simp only [ho, hx, SV.den, Sem.run_bind, run_makeInterface W t _ hc, Result.andThen_ok, Sem.run_pure]
        · cases hr
      · cases hr
    · rename_i t l c ho
      exact opMake_ok ho (fun sv hsv => he l (by simp [ho, Op.operands]) _ hsv) (fun sv hsv => he c (by simp [ho, Op.operands]) _ hsv) hr hob
    · rename_i op t x y yt ho
      split at hr
      · rename_i s hx
        split at hr
        · rename_i v hy
          rcases orElse_cases hr with hr | hr
          · exact nilRes_ok ho (he x (by simp [ho, Op.operands]) _ hx) (he y (by simp [ho, Op.operands]) _ hy) hr hs
          · exact pureRes_ok he hr hob hs.cg
        · cases hr
      · cases hr
    · rename_i s d x ho
      split at hr
      · rename_i sv hx
        exact opConvert_ok ho he (he x (by simp [ho, Op.operands]) _ hx) hr hob hs
      · cases hr
    · rename_i c ho
      exact opCall_ok ho he hr hob hs
    · exact pureRes_ok he hr hob hs.cg
theorem Runs.mono {Φ Ψ : Value → World → Prop} (h : Runs P o a W Φ) (hi : ∀ v W', Φ v W' → Ψ v W') : Runs P o a W Ψ := by
  rcases h with ⟨v, W', h1, h2⟩ | ⟨W', h1, h2⟩ | ⟨f, args, h1, h2⟩
  · exact .inl ⟨v, W', h1, hi _ _ h2⟩
  · exact .inr (.inl ⟨W', h1, hi _ _ h2⟩)
  · exact .inr (.inr ⟨f, args, h1, h2.mono fun e W' ⟨v, hv, hq⟩ => ⟨v, hv, hi _ _ hq⟩⟩)
theorem opnAt_ok {β β' : Env} {m : Nat} : ∀ {q : List (Nat × Nat × Nat × List Value)} {k : Nat} {l l' : List SV} {ss : List Value}, opnAt m k q l = some (l', ss) → ss.length = q.length ∧ ((∀ j s, ss[j]? = some s → oneV s = s ∧ β'.v (m + k + j) = s) → SV.dens β l = SV.dens β' l → SV.dens β' l' = SV.dens β l)
  | [], k, l, l', ss, h => by cases h; exact ⟨rfl, fun _ h => h.symm⟩
  | q :: r, k, l, l', ss, h => by
    unfold opnAt at h
    split at h
    · rename_i s hs
      split at h
      · rename_i p hp
        cases h
        obtain ⟨h1, h2⟩ := opnAt_ok (β := β) (β' := β') hp
        refine ⟨by simp [h1], fun hv hd => ?_⟩
        have h0 := hv 0 s rfl
        rw [Nat.add_zero] at h0
        have hset : SV.dens β' (l.set q.1 (.o (m + k))) = SV.dens β l := by
          rw [hd, dens_map, dens_map, List.map_set]
          refine List.ext_getElem? fun i => ?_
          rw [List.getElem?_set]
          split
          · rename_i hi
            subst hi
            have hlt := (List.getElem?_eq_some_iff.1 hs).1
            rw [if_pos (by simpa using hlt), List.getElem?_map, hs]
            simp only [SV.den, h0.2, h0.1, Option.map_some]
          · rfl
        have hset' : SV.dens β (l.set q.1 (.v s)) = SV.dens β l := by
          rw [dens_map, dens_map, List.map_set]
          refine List.ext_getElem? fun i => ?_
          rw [List.getElem?_set]
          split
          · rename_i hi
            subst hi
            have hlt := (List.getElem?_eq_some_iff.1 hs).1
            rw [if_pos (by simpa using hlt), List.getElem?_map, hs]
            rfl
          · rfl
        obtain ⟨h1', h2'⟩ := opnAt_ok (β := β') (β' := β') hp
        rw [h2' (fun j s' hj => by
          have := hv (j + 1) s' (by rw [List.getElem?_cons_succ]; exact hj)
          rw [show m + k + (j + 1) = m + (k + 1) + j by omega] at this
          exact this) rfl, hset]
      · cases h
    · cases h
theorem opnOb_ok {b : Base} : ∀ {q : List (Nat × Nat × Nat × List Value)} {ss : List Value}, ss.length = q.length → (∀ p, opnOb b q ss = some p → p) → ∀ (j : Nat) x s, q[j]? = some x → ss[j]? = some s → GivenX b x.2.1 s x.2.2.1 x.2.2.2
  | [], _, _, _, j, x, s, h, _ => by simp at h
  | q :: r, [], h, _, _, _, _, _, _ => by cases h
  | q :: r, s :: ss, hl, h, j, x, s', hj, hs => by
    unfold opnOb at h
    cases j with
    | zero =>
      rw [List.getElem?_cons_zero] at hj hs
      cases hj; cases hs
      exact andO_l h _ rfl
    | succ j =>
      rw [List.getElem?_cons_succ] at hj hs
      exact opnOb_ok (by simpa using hl) (andO_r h) j x s' hj hs
theorem opnRet_one {sv ret : SV} {l : List SV} (h : opnRet sv l = some ret) (ha : isAg sv = false) : l = [ret] := by
  unfold opnRet at h
  rw [ha] at h
  match l, h with
  | [c], h => cases h; rfl
  | [], h => cases h
  | _ :: _ :: _, h => cases h
theorem opnRet_ok {β β' : Env} {sv ret : SV} {l cells : List SV} (h : opnRet sv l = some ret) (hc : svCells sv = some cells) (hd : SV.dens β' l = SV.dens β cells) : ret.den β' = sv.den β := by
  have hcd := svCells_den (β := β) hc
  cases ha : isAg sv with
  | true =>
    unfold opnRet at h
    rw [ha] at h
    cases h
    show Value.agg (SV.dens β' l).toArray = _
    rw [hd, ← hcd, Array.toArray_toList]
    cases sv with
    | v x => cases x with
      | agg arr => rfl
      | _ => cases ha
    | ag l => rfl
    | _ => cases ha
  | false =>
    have := opnRet_one h ha
    subst this
    rw [← hcd] at hd
    simp only [SV.dens] at hd
    cases sv with
    | v x => cases x with
      | agg arr => cases ha
      | _ => exact (List.cons.inj hd).1
    | ag l => cases ha
    | tp _ => cases hc
    | gone => cases hc
    | p i off => exact (List.cons.inj hd).1
    | mp i => exact (List.cons.inj hd).1
    | sl i off n c => exact (List.cons.inj hd).1
    | clo f q l => exact (List.cons.inj hd).1
    | ifc t x => exact (List.cons.inj hd).1
    | o i => rw [(oneB_cells (β := β) (s := .o i) (by rfl)).1] at hd; exact (List.cons.inj hd).1
    | sub i off n c => rw [(oneB_cells (β := β) (s := .sub i off n c) (by rfl)).1] at hd; exact (List.cons.inj hd).1
    | e i off => rw [(oneB_cells (β := β) (s := .e i off) (by rfl)).1] at hd; exact (List.cons.inj hd).1
theorem open_ok {q : List (Nat × Nat × Nat × List Value)} {r : OR} (hr : openR b m q r = some (g, ob)) (hob : ∀ p, ob = some p → p) (hs : Cg b.S b.w W) : ∃ see sv ob0, r = some (⟨see, [], [], [], sv⟩, ob0) ∧ g.see = see ∧ (∀ p, ob0 = some p → p) ∧ ∀ v W', EPost b β W row m ⟨see, [], [], [], sv⟩ v W' → EPost b β W row m g v W' := by
  unfold openR at hr
  split at hr
  · rename_i see sv ob0
    split at hr
    · rename_i hlt
      have hlt := ltAll_spec hlt
      split at hr
      · rename_i cells hc
        split at hr
        · rename_i p hp
          obtain ⟨l', ss⟩ := p
          split at hr
          · rename_i ret hret
            cases hr
            refine ⟨see, sv, ob0, rfl, rfl, andO_l hob, fun v W' hv => ?_⟩
            obtain ⟨β1, rfl, hpost⟩ := hv
            have hv1 : sv.den β1 = sv.den β := (den_congr sv fun i hi => hpost.same i (.inl (hlt i hi))).symm
            have hcg : Cg b.S b.w W' := hs.seq hpost.cg fun x hx => by
              obtain ⟨i, r, hi, _⟩ := hx
              rcases hi with hi | hi <;> cases hi
            have hno : Cg No W W' := hpost.cg.mono fun x hx => by
              obtain ⟨i, r, hi, _⟩ := hx
              rcases hi with hi | hi <;> cases hi
            have hlen : ss.length = q.length := (opnAt_ok (β := β) (β' := β) hp).1
            have hx := opnOb_ok hlen (andO_r hob)
            have hone : ∀ j s, ss[j]? = some s → oneV s = s := fun j s hj => by
              have hlt := (List.getElem?_eq_some_iff.1 hj).1
              obtain ⟨A, c, hf, _⟩ := (hx j _ s (List.getElem?_eq_getElem (hlen ▸ hlt)) hj W' hcg).form
              rw [hf]; rfl
            obtain ⟨β', hβ'⟩ : ∃ β' : Env, β' = ⟨β.b, fun i => if m ≤ i ∧ i < m + q.length then ss.getD (i - m) undef else β.v i, β.F⟩ := ⟨_, rfl⟩
            have hin : ∀ j s, ss[j]? = some s → β'.v (m + j) = s := fun j s hj => by
              have hlt := (List.getElem?_eq_some_iff.1 hj).1
              subst hβ'
              simp only
              rw [if_pos (by omega), show m + j - m = j by omega, List.getD_eq_getElem?_getD, hj]
              rfl
            have hout : ∀ i, (i < m ∨ m + q.length ≤ i) → β.at β' i := fun i hi => by
              subst hβ'
              refine ⟨rfl, ?_⟩
              simp only
              rw [if_neg (by omega)]
            have hcells : SV.dens β cells = SV.dens β' cells := dens_congr _ fun i hi => hout i (.inl (hlt i (by
              cases sv with
              | v x => cases hc; rw [idxs_v] at hi; cases hi
              | ag l => cases hc; exact hi
              | tp _ => cases hc
              | gone => cases hc
              | _ => cases hc; simpa [SV.idxs] using hi)))
            have hd : SV.dens β' l' = SV.dens β cells := (opnAt_ok (β := β) (β' := β') hp).2 (fun j s hj => ⟨hone j s hj, by rw [Nat.add_zero]; exact hin j s hj⟩) hcells
            refine ⟨β', ?_, fun i hi => hout i (by simpa using hi), fun i hi _ => by subst hβ'; rfl, fun x hx' => ?_, fun x hx' y hy => ?_, fun x x' y hx' hx'' hy hy' => ?_, hno.mono fun k hk => hk.elim⟩
            · rw [hv1]
              exact (opnRet_ok hret hc hd).symm
            all_goals
              have row_ : ∀ y : Nat × Row, Eff.fresh ⟨see, [], [], q.map (fun x => Row.r x.2.1 x.2.2.1 x.2.2.2), ret⟩ m y → ∃ j z s, q[j]? = some z ∧ ss[j]? = some s ∧ y = (m + j, .r z.2.1 z.2.2.1 z.2.2.2) := by
                rintro ⟨i, r⟩ (h | ⟨j, h, hi⟩)
                · cases h
                · simp only [List.getElem?_map] at h hi
                  obtain ⟨z, hz, he⟩ := Option.map_eq_some_iff.1 h
                  have hjl := (List.getElem?_eq_some_iff.1 hz).1
                  exact ⟨j, z, _, hz, List.getElem?_eq_getElem (hlen ▸ hjl), by rw [hi, ← he]⟩
            · obtain ⟨j, z, s, hz, hsj, rfl⟩ := row_ x hx'
              show ∀ W1, Cg b.S b.w W1 → Rd W1 z.2.1 (β'.v (m + j)) z.2.2.1 z.2.2.2
              rw [hin j s hsj]
              exact hx j z s hz hsj
            · obtain ⟨j, z, s, hz, hsj, rfl⟩ := row_ x hx'
              exact hy.elim
            · obtain ⟨j, z, s, hz, hsj, rfl⟩ := row_ x hx'
              exact hy.elim
          · cases hr
        · cases hr
      · cases hr
    · cases hr
  · cases hr
theorem one_oneV' {size n : Nat} {x : Value} {xs : List Value} (h : Rd W size x n xs) : oneV x = x := by
  obtain ⟨A, c, rfl, _⟩ := h.form
  rfl
theorem open1_ok {size n : Nat} {xs : List Value} {r : OR} (hr : open1 b m size n xs r = some (g, ob)) (hob : ∀ p, ob = some p → p) (hs : Cg b.S b.w W) : ∃ see sv ob0, r = some (⟨see, [], [], [], sv⟩, ob0) ∧ g.see = see ∧ (∀ p, ob0 = some p → p) ∧ ∀ v W', EPost b β W row m ⟨see, [], [], [], sv⟩ v W' → EPost b β W row m g v W' := by
  unfold open1 at hr
  split at hr
  · rename_i see x ob0
    cases hr
    refine ⟨see, _, ob0, rfl, rfl, andO_l hob, fun v W' hv => ?_⟩
    obtain ⟨β1, rfl, hpost⟩ := hv
    have hx := andO_r hob _ rfl
    have hno : Cg No W W' := hpost.cg.mono fun x hx => by
      obtain ⟨i, r, hi, _⟩ := hx
      rcases hi with hi | hi <;> cases hi
    have hcg : Cg b.S b.w W' := hs.seq hno fun k hk => hk.elim
    refine ⟨β.upd m 0 v No, ?_, post_new ?_ (fun y hy => hy.elim) (hno.mono fun k hk => hk.elim)⟩
    · show v = oneV _
      rw [upd_v, one_oneV' (hx W' hcg)]
    · show ∀ W1, Cg b.S b.w W1 → Rd W1 size ((β.upd m 0 v No).v m) n xs
      rw [upd_v]
      exact hx
  · cases hr
theorem say_ok {v : Value} {r : OR} (hr : sayR v r = some (g, ob)) (hob : ∀ p, ob = some p → p) : ∃ ob0, r = some (g, ob0) ∧ ∀ p, ob0 = some p → p := by
  unfold sayR at hr
  split at hr
  · rename_i see upd kill new u ob0
    cases hr
    have : u = v := andO_r hob _ rfl
    subst this
    exact ⟨ob0, rfl, andO_l hob⟩
  · cases hr
theorem nilsAt_dens {β' : Env} {m : Nat} : ∀ {q : List (Nat × TypeId × Nat)} {k : Nat} {l l' : List SV}, nilsAt m k q l = some l' → (∀ j, j < q.length → β'.v (m + k + j) = .slice none 0 0) → SV.dens β' l' = SV.dens β' l
  | [], k, l, l', h, _ => by cases h; rfl
  | q :: r, k, l, l', h, hv => by
    unfold nilsAt at h
    split at h
    · rename_i hs
      have h0 := hv 0 (by simp)
      rw [Nat.add_zero] at h0
      rw [nilsAt_dens h fun j hj => by
        have := hv (j + 1) (by simp; omega)
        rwa [show m + k + (j + 1) = m + (k + 1) + j by omega] at this]
      rw [dens_map, dens_map, List.map_set]
      refine List.ext_getElem? fun i => ?_
      rw [List.getElem?_set]
      split
      · rename_i hi
        subst hi
        have hlt := (List.getElem?_eq_some_iff.1 hs).1
        rw [if_pos (by simpa using hlt), List.getElem?_map, hs]
        simp only [SV.den, h0, Option.map_some]
        rfl
      · rfl
    · cases h
theorem own_ok {q : List (Nat × TypeId × Nat)} {r : OR} (hr : ownR m q r = some (g, ob)) : ∃ see sv, r = some (⟨see, [], [], [], sv⟩, ob) ∧ g.see = see ∧ ∀ v W', EPost b β W row m ⟨see, [], [], [], sv⟩ v W' → EPost b β W row m g v W' := by
  unfold ownR at hr
  split at hr
  · rename_i see sv ob0
    split at hr
    · rename_i hlt
      rw [Bool.and_eq_true] at hlt
      obtain ⟨hlt, hag⟩ := hlt
      have hlt := ltAll_spec hlt
      split at hr
      · rename_i cells hc
        split at hr
        · rename_i l hl
          cases hr
          refine ⟨see, sv, rfl, rfl, fun v W' hv => ?_⟩
          obtain ⟨β1, rfl, hpost⟩ := hv
          have hv1 : sv.den β1 = sv.den β := (den_congr sv fun i hi => hpost.same i (.inl (hlt i hi))).symm
          have hno : Cg No W W' := hpost.cg.mono fun x hx => by
            obtain ⟨i, r, hi, _⟩ := hx
            rcases hi with hi | hi <;> cases hi
          obtain ⟨β', hβ'⟩ : ∃ β' : Env, β' = ⟨β.b, fun i => if m ≤ i ∧ i < m + q.length then .slice none 0 0 else β.v i, fun i => if m ≤ i ∧ i < m + q.length then No else β.F i⟩ := ⟨_, rfl⟩
          have hin : ∀ j, j < q.length → β'.v (m + j) = .slice none 0 0 ∧ β'.F (m + j) = No := fun j hj => by
            subst hβ'
            simp only
            rw [if_pos (by omega), if_pos (by omega)]
            exact ⟨rfl, rfl⟩
          have hout : ∀ i, (i < m ∨ m + q.length ≤ i) → β.at β' i ∧ β.F i = β'.F i := fun i hi => by
            subst hβ'
            refine ⟨⟨rfl, ?_⟩, ?_⟩ <;> simp only <;> rw [if_neg (by omega)]
          have hcells : SV.dens β cells = SV.dens β' cells := dens_congr _ fun i hi => (hout i (.inl (hlt i (by
            cases sv with
            | v x => cases hc; rw [idxs_v] at hi; cases hi
            | ag l => cases hc; exact hi
            | _ => cases hag)))).1
          have hd : SV.dens β' l = SV.dens β cells := by
            rw [nilsAt_dens hl fun j hj => by rw [Nat.add_zero]; exact (hin j hj).1, hcells]
          have row_ : ∀ y : Nat × Row, Eff.fresh ⟨see, [], [], q.map (fun x => Row.s x.2.1 x.2.2 0 []), .ag l⟩ m y → ∃ (j : Nat) (z : TypeId × Nat), j < q.length ∧ y = (m + j, .s z.1 z.2 0 []) := by
            rintro ⟨i, r⟩ (h | ⟨j, h, hi⟩)
            · cases h
            · simp only [List.getElem?_map] at h hi
              obtain ⟨z, hz, he⟩ := Option.map_eq_some_iff.1 h
              exact ⟨j, z.2, (List.getElem?_eq_some_iff.1 hz).1, by rw [hi, ← he]⟩
          refine ⟨β', ?_, fun i hi => (hout i (by simpa using hi)).1, fun i hi _ => (hout i (by simpa using hi)).2, fun x hx' => ?_, fun x hx' y hy => ?_, fun x x' y hx' hx'' hy hy' => ?_, hno.mono fun k hk => hk.elim⟩
          · rw [hv1]
            exact (opnRet_ok (show opnRet sv l = some (.ag l) by unfold opnRet; rw [hag]) hc hd).symm
          · obtain ⟨j, z, hj, rfl⟩ := row_ x hx'
            obtain ⟨h1, h2⟩ := hin j hj
            refine ⟨by rw [h1]; exact Own.nil W' _ _, fun k => ?_, fun u hu => by cases hu⟩
            rw [h1, h2]
            exact ⟨fun h => h.elim, fun h => by cases h⟩
          · obtain ⟨j, z, hj, rfl⟩ := row_ x hx'
            have hy : β'.F (m + j) y := hy
            rw [(hin j hj).2] at hy
            exact hy.elim
          · obtain ⟨j, z, hj, rfl⟩ := row_ x hx'
            have hy : β'.F (m + j) y := hy
            rw [(hin j hj).2] at hy
            exact hy.elim
        · cases hr
      · cases hr
    · cases hr
  · cases hr
/-- EVERY OPERATION: what it is said to come to holds. -/
theorem op_ok (he : Agree o a e β) (hr : opEff P T b H e row m o = some (g, ob)) (hob : ∀ p, ob = some p → p) (hs : See b β W row g.see) : Runs P o a W (EPost b β W row m g) := by
  unfold opEff at hr
  split at hr
  · obtain ⟨see, sv, ob0, h1, h2, h3, h4⟩ := open_ok (β := β) (row := row) hr hob hs.cg
    rw [h2] at hs
    exact (op_okB he h1 h3 hs).mono h4
  · split at hr
    · exact op_okB he hr hob hs
    · obtain ⟨see, sv, h1, h2, h4⟩ := own_ok (β := β) (row := row) (b := b) (W := W) hr
      rw [h2] at hs
      exact (op_okB he h1 hob hs).mono h4
  · obtain ⟨ob0, h1, h2⟩ := say_ok hr hob
    exact op_okB he h1 h2 hs
  · obtain ⟨see, sv, ob0, h1, h2, h3, h4⟩ := open1_ok (β := β) (row := row) hr hob hs.cg
    rw [h2] at hs
    exact (op_okB he h1 h3 hs).mono h4
  · exact op_okB he hr hob hs
end
end Ax
end Go.Proofs.YtcpbbgkeigbndaaGreat

/- A reckoner of calls, part 10: operations one behind another, and in whatever order a region draws. Proved over any program. No condition of its own. -/
namespace Go.Proofs.YtcpbbgkeigbndaaGreat
open Go Go.RowKit Go.Lib Go.Sort

namespace Ax
inductive Stuck {α : Type} (_ : α) : Prop
/-- What is asked, with the slot of the operation that asks it. -/
def Tag (_ : Nat) (p : Prop) : Prop := p
def keyOf (o : Oper) : Nat := match o.dst with
  | some d => d
  | none => match o.op with
    | .store _ (.tmp x) _ => 100000 + x
    | _ => 0
def obAnd (k : Nat) (ob : Option Prop) (K : Prop) : Prop := match ob with
  | none => K
  | some p => Tag k p ∧ K
theorem obAnd_ob {k : Nat} {ob : Option Prop} {K : Prop} (h : obAnd k ob K) : ∀ p, ob = some p → p := by
  intro p hp
  subst hp
  exact h.1
theorem obAnd_k {k : Nat} {ob : Option Prop} {K : Prop} (h : obAnd k ob K) : K := by
  cases ob with
  | none => exact h
  | some p => exact h.2
/-- Two ways, by a letter. -/
def Bif (b : Bool) (X Y : Prop) : Prop := match b with
  | true => X
  | false => Y
theorem Bif.mk {b : Bool} {X Y : Prop} (hx : b = true → X) (hy : b = false → Y) : Bif b X Y := by
  cases b
  · exact hy rfl
  · exact hx rfl
def stepE (P : Program) (T : Tab P) (b : Base) (H : List (Nat × Hint)) (n : Nat) (o : Oper) (st : St) (K : St → Prop) : Prop := match opEff P T b H (ev st.fr) (rowAt st.mem) st.mem.length o with
  | some (g, ob) => match gOk st.mem g with
    | true => obAnd (keyOf o) ob (K ((⟨st.fr, gMem st.mem g⟩ : St).put n o.dst g.ret))
    | false => Stuck o
  | none => Stuck o
/-- Is the operation wanted? -/
def guardOf (ops : Array Oper) (e : Operand → Option SV) (o : Oper) : Option Bool :=
  match o.guard with
  | none => some true
  | some (j, w) => match ops[j]? with
    | none => none
    | some oj => match oj.dst with
      | none => none
      | some t => match e (.tmp t) with
        | some (.v v) => match v with
          | .bool c => some (c == w)
          | _ => some false
        | _ => none
/-- The slot that a guard looks at, its value. -/
def guardBool (ops : Array Oper) (fr : List (Nat × SV)) (o : Oper) : Option (Nat × Bool) := match o.guard with
  | none => none
  | some q => match ops[q.1]? with
    | none => none
    | some oj => match oj.dst with
      | none => none
      | some t => match look fr t with
        | some (.v v) => match v with
          | .bool c => some (t, c)
          | _ => none
        | _ => none
def St.lit (st : St) (t : Nat) (c : Bool) : St := ⟨(t, .v (.bool c)) :: st.fr, st.mem⟩
def splitG (ops : Array Oper) (o : Oper) (st : St) (K : St → Prop) : Prop := match guardBool ops st.fr o with
  | none => K st
  | some q => Bif q.2 (K (st.lit q.1 true)) (K (st.lit q.1 false))
structure RowsOk (b : Base) (β : Env) (w : World) (mem : List Row) : Prop where
  held : ∀ (i : Nat) (r : Row), mem[i]? = some r → Held b β w i r
  new : ∀ (i : Nat) (r : Row) (k : Nat), mem[i]? = some r → foot β i r k → b.S k ∨ b.w.heap.size ≤ k
  inj : ∀ (i j : Nat) (r r' : Row) (k : Nat), mem[i]? = some r → mem[j]? = some r' → foot β i r k → foot β j r' k → i = j
  cg : Cg b.S b.w w
/-- A call that is gone through: its hints' number, the function, what it is handed. -/
def inlOf (P : Program) (H : List (Nat × Hint)) (e : Operand → Option SV) (o : Oper) : Option (Nat × FuncId × List SV) := match hint H o.dst with
  | some (.inl k) => match o.op with
    | .call c => match callOf P e c with
      | some p => some (k, p.1, p.2)
      | none => none
    | _ => none
  | _ => none
/-- How calls are gone through: what is asked so that this holds of what the call gives and of the rows behind it. -/
abbrev Gone := Nat → FuncId → List SV → List Row → (SV → List Row → Prop) → Prop
def GoneOk (P : Program) (b : Base) (X : Gone) : Prop := ∀ k f args mem R, X k f args mem R → okFn P f = true ∧ ∀ β w, RowsOk b β w mem → (∀ (i : Nat) (r : Row), mem[i]? = some r → ∀ j ∈ r.idx, j < mem.length) → (∀ s ∈ args, ∀ j ∈ s.idx, j < mem.length) →
  Calls P f (SV.dens β args).toArray w fun e w' => ∃ β' s mem', R s mem' ∧ e = .returned (s.den β') ∧ RowsOk b β' w' mem' ∧ (∀ (i : Nat) (r : Row), mem'[i]? = some r → ∀ j ∈ r.idx, j < mem'.length) ∧ ∀ i, i < mem.length → β.at β' i ∧ i < mem'.length
section
variable (P : Program) (T : Tab P) (b : Base) (X : Gone) (H : List (Nat × Hint)) (n : Nat)
def goneK (n : Nat) (o : Oper) (fr : List (Nat × SV)) (K : St → Prop) (s : SV) (mem : List Row) : Prop := match ltAll mem.length s.idx with
  | true => K ((⟨fr, mem⟩ : St).put n o.dst s)
  | false => Stuck o
def exOps (ops : Array Oper) : List Oper → St → (St → Prop) → Prop
  | [], st, K => K st
  | o :: l, st, K => splitG ops o st fun st => match guardOf ops (ev st.fr) o with
    | some true => match inlOf P H (ev st.fr) o with
      | some q => X q.1 q.2.1 q.2.2 st.mem (goneK n o st.fr fun st' => exOps ops l st' K)
      | none => stepE P T b H n o st (fun st' => exOps ops l st' K)
    | some false => exOps ops l (st.put n o.dst (.v undef)) K
    | none => Stuck o
end
/-- States that say the same. -/
def EqS (s t : St) : Prop := (∀ x, look s.fr x = look t.fr x) ∧ s.mem = t.mem
theorem EqS.refl (s : St) : EqS s s := ⟨fun _ => rfl, rfl⟩
theorem EqS.symm {s t : St} (h : EqS s t) : EqS t s := ⟨fun x => (h.1 x).symm, h.2.symm⟩
theorem EqS.trans {s t u : St} (h : EqS s t) (k : EqS t u) : EqS s u := ⟨fun x => (h.1 x).trans (k.1 x), h.2.trans k.2⟩
theorem EqS.ev {s t : St} (h : EqS s t) : ev s.fr = ev t.fr := by
  funext x
  cases x <;> simp only [Ax.ev, h.1]
theorem EqS.put {s t : St} (h : EqS s t) (n : Nat) (mem : List Row) (dst : Option Tmp) (sv : SV) : EqS ((⟨s.fr, mem⟩ : St).put n dst sv) ((⟨t.fr, mem⟩ : St).put n dst sv) := by
  unfold St.put
  split
  · exact ⟨h.1, rfl⟩
  · split
    · exact ⟨fun x => by rw [look_put, look_put, h.1], rfl⟩
    · exact ⟨h.1, rfl⟩
theorem guardBool_look {ops : Array Oper} {fr : List (Nat × SV)} {o : Oper} {q : Nat × Bool} (h : guardBool ops fr o = some q) : look fr q.1 = some (.v (.bool q.2)) := by
  unfold guardBool at h
  repeat' (split at h)
  all_goals first
    | (cases h; done)
    | (cases h; assumption)
theorem split_eq {ops : Array Oper} {o : Oper} {st : St} {K : St → Prop} (h : splitG ops o st K) : ∃ st', EqS st st' ∧ K st' := by
  unfold splitG at h
  split at h
  · exact ⟨st, EqS.refl _, h⟩
  · rename_i q hq
    have hl := guardBool_look hq
    have eq : ∀ c, q.2 = c → EqS st (st.lit q.1 c) := fun c hc => ⟨fun x => by
      unfold St.lit
      rw [look_put]
      split
      · rename_i he; rw [← he, hl, hc]; rfl
      · rfl, rfl⟩
    unfold Bif at h
    split at h
    · rename_i hc; exact ⟨_, eq _ hc, h⟩
    · rename_i hc; exact ⟨_, eq _ hc, h⟩
section
variable {P : Program} {T : Tab P} {b : Base} {H : List (Nat × Hint)} {n : Nat} {X : Gone} {ds : Dr} {w : World} {β : Env} {st st' : St} {a : Act} {ops : Array Oper} {Q : Exit → Act → World → Prop}
theorem Hd.eqS (h : Hd ds b n β st a w) (he : EqS st st') : Hd ds b n β st' a w := by
  obtain ⟨h1, h2⟩ := he
  refine ⟨h.size, h.dn, fun t sv ht => h.get t sv (by rw [h1]; exact ht), fun i r hi => h.held i r (by rw [h2]; exact hi), fun i r k hi hk => h.new i r k (by rw [h2]; exact hi) hk, fun i j r r' k hi hj => h.inj i j r r' k (by rw [h2]; exact hi) (by rw [h2]; exact hj), h.cg, fun t sv ht => ?_, fun i r hi => ?_, fun i hi => by rw [← h2]; exact h.keep i hi⟩
  · rw [← h2]; exact h.wfS t sv (by rw [h1]; exact ht)
  · rw [← h2]; exact h.wfR i r (by rw [h2]; exact hi)
theorem guard_at {o : Oper} {e : Operand → Option SV} {c : Bool} (he : ∀ t ∈ o.looksAt ops, ∀ sv, e (.tmp t) = some sv → a.tmps[t]? = some (sv.den β)) (hg : guardOf ops e o = some c) : Region.wanted o (yielded ops a.tmps) = c := by
  unfold guardOf at hg
  unfold Region.wanted
  split at hg
  · rename_i hn; rw [hn]; simpa using hg
  · rename_i j c' hn
    rw [hn]
    split at hg
    · cases hg
    · rename_i oj hoj
      split at hg
      · cases hg
      · rename_i t ht
        split at hg
        · rename_i v hc
          have := he t (by unfold Oper.looksAt; rw [hn]; simp [hoj, ht]) _ hc
          simp only [yielded, hoj, Option.bind_some, ht, this, SV.den]
          split at hg
          · rename_i d
            have hb : (d == c') = c := Option.some.inj hg
            rw [← hb]
            cases d <;> cases c' <;> rfl
          · rename_i hnb
            have hb : false = c := Option.some.inj hg
            rw [← hb]
            cases v <;> first | rfl | exact absurd rfl (hnb _)
        · cases hg
theorem Hd.guard {o : Oper} {c : Bool} (h : Hd ds b n β st a w) (hg : guardOf ops (ev st.fr) o = some c) : Region.wanted o (yielded ops a.tmps) = c :=
  guard_at (fun t _ sv hsv => h.get t sv hsv) hg
theorem runs_wp {o : Oper} {Φ : Value → World → Prop} {next : Act → World → Prop} (h : Runs P o a w Φ) (hn : ∀ v w', Φ v w' → next (a.put o.dst v) w') : o.wp P a w next Q := by
  unfold Oper.wp
  rcases h with ⟨v, w', hr, hp⟩ | ⟨w', hr, hp⟩ | ⟨f, args, hr, hc⟩
  · rw [hr]; exact hn v w' hp
  · rw [hr]; exact hn undef w' hp
  · rw [hr]
    refine hc.mono fun e w' hp => ?_
    obtain ⟨v, rfl, hp⟩ := hp
    exact hn v w' hp
theorem Hd.agree (h : Hd ds b n β st a w) (o : Oper) : Agree o a (ev st.fr) β := fun _ _ _ hx => h.eval hx
theorem stepE_ok {o : Oper} {K : St → Prop} {next : Act → World → Prop} (h : Hd ds b n β st a w) (hs : stepE P T b H n o st K) (hK : ∀ β' st' a' w', K st' → Hd ds b n β' st' a' w' → next a' w') : o.wp P a w next Q := by
  unfold stepE at hs
  split at hs
  · rename_i g ob heff
    split at hs
    · rename_i hok
      refine runs_wp (op_ok (h.agree o) heff (obAnd_ob hs) (h.see _)) fun v w' hp => ?_
      obtain ⟨β', rfl, hpost⟩ := hp
      obtain ⟨h1, h2⟩ := h.eff hok hpost
      exact hK _ _ _ _ (obAnd_k hs) (h1.put o.dst h2)
    · exact nomatch hs
  · exact nomatch hs
theorem callOf_idx {c : Call} {p : FuncId × List SV} (h : Hd ds b n β st a w) (hp : callOf P (ev st.fr) c = some p) : ∀ s ∈ p.2, ∀ j ∈ s.idx, j < st.mem.length := by
  have ga : ∀ {l : List Operand} {r : List SV}, svArgs (ev st.fr) l = some r → ∀ s ∈ r, ∀ j ∈ s.idx, j < st.mem.length := by
    intro l
    induction l with
    | nil => intro r hr s hs; cases hr; cases hs
    | cons x l ih =>
      intro r hr s hs
      unfold svArgs at hr
      split at hr
      · rename_i sv q hx hq
        cases hr
        rcases List.mem_cons.1 hs with rfl | hs
        · exact h.evOn hx
        · exact ih hq s hs
      · cases hr
  unfold callOf at hp
  split at hp
  · rename_i x hcal
    split at hp
    · rename_i q hq
      split at hp
      · rename_i l hl
        cases hp
        have hq' : (∀ s ∈ q.2.1, ∀ j ∈ s.idx, j < st.mem.length) ∧ ∀ s ∈ q.2.2, ∀ j ∈ s.idx, j < st.mem.length := by
          unfold calleeOf at hq
          split at hq
          · rename_i sv hsv
            split at hq
            · split at hq
              · split at hq
                · cases hq
                  exact ⟨fun s hs j hj => (by obtain ⟨y, _, rfl⟩ := List.mem_map.1 hs; cases hj), fun s hs j hj => (by obtain ⟨y, _, rfl⟩ := List.mem_map.1 hs; cases hj)⟩
                · cases hq
              · cases hq
            · cases hq
              have := h.evOn hsv
              exact ⟨fun s hs j hj => this j (by rw [SV.idx]; exact List.mem_append_left _ (idxs_mem hs hj)), fun s hs j hj => this j (by rw [SV.idx]; exact List.mem_append_right _ (idxs_mem hs hj))⟩
            · cases hq
          · cases hq
        intro s hs
        rcases List.mem_append.1 hs with hs | hs
        · exact hq'.1 s hs
        · rcases List.mem_append.1 hs with hs | hs
          · exact ga hl s hs
          · exact hq'.2 s hs
      · cases hp
    · cases hp
  · rename_i r name hcal
    split at hp
    · rename_i q hq
      split at hp
      · rename_i l hl
        cases hp
        have hq' : ∀ j ∈ q.2.idx, j < st.mem.length := by
          have go : ∀ (t : TypeId) (x : SV), (∀ j ∈ x.idx, j < st.mem.length) → recvOf P t name x = some q → ∀ j ∈ q.2.idx, j < st.mem.length := by
            intro t x hx hr
            unfold recvOf at hr
            split at hr
            · cases hr
            · split at hr
              · split at hr
                · cases hr; exact hx
                · cases hr
              · cases hr
          unfold invOf at hq
          split at hq
          · rename_i t x hx
            exact go t x (show ∀ j ∈ (SV.ifc t x).idx, j < st.mem.length from h.evOn hx) hq
          · rename_i t x hx
            exact go t (.v x) (fun j hj => by cases hj) hq
          · cases hq
        intro s hs
        rcases List.mem_cons.1 hs with rfl | hs
        · exact hq'
        · exact ga hl s hs
      · cases hp
    · cases hp
  · cases hp
theorem Hd.rows (h : Hd ds b n β st a w) : RowsOk b β w st.mem := ⟨h.held, h.new, h.inj, h.cg⟩
/-- Behind a call that was gone through. -/
theorem Hd.gone {β' : Env} {mem' : List Row} {w' : World} (h : Hd ds b n β st a w) (hr : RowsOk b β' w' mem') (hwf : ∀ (i : Nat) (r : Row), mem'[i]? = some r → ∀ j ∈ r.idx, j < mem'.length) (hat : ∀ i, i < st.mem.length → β.at β' i ∧ i < mem'.length) : Hd ds b n β' ⟨st.fr, mem'⟩ a w' :=
  ⟨h.size, h.dn, fun t sv ht => by rw [h.get t sv ht, den_congr sv fun i hi => (hat i (h.wfS t sv ht i hi)).1], hr.held, hr.new, hr.inj, hr.cg, fun t sv ht i hi => (hat i (h.wfS t sv ht i hi)).2, hwf, fun i hi => by
    obtain ⟨h1, h2⟩ := h.keep i hi
    obtain ⟨h3, h4⟩ := hat i h2
    exact ⟨⟨h1.1.trans h3.1, h1.2.trans h3.2⟩, h4⟩⟩
theorem gone_ok {o : Oper} {q : Nat × FuncId × List SV} {K : St → Prop} {next : Act → World → Prop} (hX : GoneOk P b X) (h : Hd ds b n β st a w) (hq : inlOf P H (ev st.fr) o = some q) (hs : X q.1 q.2.1 q.2.2 st.mem (goneK n o st.fr K)) (hK : ∀ β' st' a' w', K st' → Hd ds b n β' st' a' w' → next a' w') : o.wp P a w next Q := by
  unfold inlOf at hq
  split at hq
  · split at hq
    · rename_i k _ c ho
      split at hq
      · rename_i p hp
        cases hq
        obtain ⟨hf, hc⟩ := hX _ _ _ _ _ hs
        have hcl := hc β w h.rows h.wfR (callOf_idx h hp)
        refine runs_wp (Φ := fun v w' => ∃ β' s mem', goneK n o st.fr K s mem' ∧ v = s.den β' ∧ RowsOk b β' w' mem' ∧ (∀ (i : Nat) (r : Row), mem'[i]? = some r → ∀ j ∈ r.idx, j < mem'.length) ∧ ∀ i, i < st.mem.length → β.at β' i ∧ i < mem'.length) (.inr (.inr ⟨_, _, callOf_ok ho hp (h.agree o) hf, hcl.mono fun e w' hp' => ?_⟩)) fun v w' hp' => ?_
        · obtain ⟨β', s, mem', h1, rfl, h2⟩ := hp'
          exact ⟨_, rfl, β', s, mem', h1, rfl, h2⟩
        · obtain ⟨β', s, mem', h1, rfl, h2, h3, h4⟩ := hp'
          unfold goneK at h1
          split at h1
          · rename_i hlt
            exact hK _ _ _ _ h1 ((h.gone h2 h3 h4).put o.dst (ltAll_spec hlt))
          · exact nomatch h1
      · cases hq
    · cases hq
  · cases hq
theorem exOps_app (hX : GoneOk P b X) (r : List Oper) : ∀ (l : List Oper) (st : St) (K : St → Prop) (β : Env) (a : Act) (w : World), Hd ds b n β st a w → exOps P T b X H n ops l st K → (∀ β' st' a' w', K st' → Hd ds b n β' st' a' w' → wpList P ops Q r a' w') → wpList P ops Q (l ++ r) a w
  | [], st, K, β, a, w, h, hx, hK => hK _ _ _ _ hx h
  | o :: l, st, K, β, a, w, h, hx, hK => by
    obtain ⟨st, he, hx⟩ := split_eq hx
    have h := h.eqS he
    split at hx
    · rename_i hg
      show (if Region.wanted o (yielded ops a.tmps) then _ else _)
      rw [h.guard hg, if_pos rfl]
      split at hx
      · rename_i q hq
        exact .inl (gone_ok hX h hq hx fun β' st' a' w' hk h' => exOps_app hX r l st' K β' a' w' h' hk hK)
      · exact .inl (stepE_ok h hx fun β' st' a' w' hk h' => exOps_app hX r l st' K β' a' w' h' hk hK)
    · rename_i hg
      show (if Region.wanted o (yielded ops a.tmps) then _ else _)
      rw [h.guard hg, if_neg (by decide)]
      exact exOps_app hX r l _ K β _ w (h.put o.dst (sv := .v undef) (by simp [SV.idx])) hx hK
    · exact nomatch hx
theorem exOps_ok (hX : GoneOk P b X) (l : List Oper) (st : St) (K : St → Prop) (β : Env) (a : Act) (w : World) (h : Hd ds b n β st a w) (hx : exOps P T b X H n ops l st K) (hK : ∀ β' st' a' w', K st' → Hd ds b n β' st' a' w' → Q .normal a' w') : wpList P ops Q l a w := by
  have := exOps_app (Q := Q) hX [] l st K β a w h hx fun β' st' a' w' hk h' => hK β' st' a' w' hk h'
  rwa [List.append_nil] at this
end

/-- What an operation of a region that draws has come to: its effect, its first new row. -/
structure Ent where
  g : Eff
  m : Nat
def skipE (m : Nat) : Ent := ⟨.pure [] (.v undef), m⟩
def applyE (n : Nat) (st : St) (o : Oper) (g : Eff) : St := (⟨st.fr, gMem st.mem g⟩ : St).put n o.dst g.ret
def exLex (P : Program) (T : Tab P) (b : Base) (H : List (Nat × Hint)) (n : Nat) (ops : Array Oper) : List Oper → St → List Ent → (List Ent → St → Prop) → Prop
  | [], st, acc, K => K acc st
  | o :: l, st, acc, K => splitG ops o st fun st => match guardOf ops (ev st.fr) o with
    | some true => match opEff P T b H (ev st.fr) (rowAt st.mem) st.mem.length o with
      | some (g, ob) => match gOk st.mem g with
        | true => obAnd (keyOf o) ob (exLex P T b H n ops l (applyE n st o g) (acc ++ [⟨g, st.mem.length⟩]) K)
        | false => Stuck o
      | none => Stuck o
    | some false => exLex P T b H n ops l (applyE n st o (.pure [] (.v undef))) (acc ++ [skipE st.mem.length]) K
    | none => Stuck o
/-- What an operation comes to, wherever what it looks at is so. -/
def Comes1 (P : Program) (b : Base) (e : Operand → Option SV) (row : Nat → Option Row) (m : Nat) (o : Oper) (g : Eff) : Prop := ∀ (a : Act) (β : Env) (W : World), Agree o a e β → See b β W row g.see → Runs P o a W (EPost b β W row m g)
def EntOk (P : Program) (_ : Tab P) (b : Base) (_ : List (Nat × Hint)) (ops : Array Oper) (st : St) (o : Oper) (en : Ent) : Prop :=
  (guardOf ops (ev st.fr) o = some false ∧ en = skipE st.mem.length) ∨
  (guardOf ops (ev st.fr) o = some true ∧ en.m = st.mem.length ∧ gOk st.mem en.g = true ∧ Comes1 P b (ev st.fr) (rowAt st.mem) st.mem.length o en.g)
def Lex (P : Program) (T : Tab P) (b : Base) (H : List (Nat × Hint)) (n : Nat) (ops : Array Oper) : List Oper → St → List Ent → St → Prop
  | [], st, es, st' => es = [] ∧ EqS st st'
  | o :: l, st, es, st' => ∃ en er, es = en :: er ∧ EntOk P T b H ops st o en ∧ Lex P T b H n ops l (applyE n st o en.g) er st'
section
variable {P : Program} {T : Tab P} {b : Base} {H : List (Nat × Hint)} {n : Nat} {ops : Array Oper}
theorem lex_of : ∀ (l : List Oper) (st s0 : St) (acc : List Ent) (K : List Ent → St → Prop), EqS s0 st → exLex P T b H n ops l st acc K → ∃ es st', Lex P T b H n ops l s0 es st' ∧ K (acc ++ es) st'
  | [], st, s0, acc, K, he, hx => ⟨[], st, ⟨rfl, he⟩, by rw [List.append_nil]; exact hx⟩
  | o :: l, st, s0, acc, K, he, hx => by
    obtain ⟨st, he', hx⟩ := split_eq hx
    have he := he.trans he'
    have hev := he.ev
    have hmem := he.2
    split at hx
    · rename_i hg
      split at hx
      · rename_i g ob heff
        split at hx
        · rename_i hok
          obtain ⟨es, st', hl, hk⟩ := lex_of l _ (applyE n s0 o g) _ K (by unfold applyE; rw [hmem]; exact he.put n _ _ _) (obAnd_k hx)
          refine ⟨_, st', ⟨⟨g, st.mem.length⟩, es, rfl, .inr ⟨?_, ?_, ?_, ?_⟩, hl⟩, by rw [List.append_assoc] at hk; exact hk⟩
          · rw [hev]; exact hg
          · rw [hmem]
          · rw [hmem]; exact hok
          · rw [hev, hmem]; exact fun a β W hag hsee => op_ok hag heff (obAnd_ob hx) hsee
        · exact nomatch hx
      · exact nomatch hx
    · rename_i hg
      obtain ⟨es, st', hl, hk⟩ := lex_of l _ (applyE n s0 o (.pure [] (.v undef))) _ K (by unfold applyE; rw [hmem]; exact he.put n _ _ _) hx
      refine ⟨_, st', ⟨skipE st.mem.length, es, rfl, .inl ⟨by rw [hev]; exact hg, by rw [hmem]⟩, hl⟩, by rw [List.append_assoc] at hk; exact hk⟩
    · exact nomatch hx
end
/-- The state behind k operations, in the text's order. -/
def runE (n : Nat) : St → List Oper → List Ent → Nat → St
  | st, o :: l, en :: es, k + 1 => runE n (applyE n st o en.g) l es k
  | st, _, _, _ => st
theorem runE_zero {n : Nat} {st : St} {l : List Oper} {es : List Ent} : runE n st l es 0 = st := by
  cases l <;> cases es <;> rfl
theorem runE_succ {n : Nat} : ∀ {l : List Oper} {es : List Ent} {st : St} {k : Nat} {o : Oper} {en : Ent}, l[k]? = some o → es[k]? = some en → runE n st l es (k + 1) = applyE n (runE n st l es k) o en.g
  | o' :: l, en' :: es, st, 0, o, en, h1, h2 => by
    have h1 : o' = o := by simpa using h1
    have h2 : en' = en := by simpa using h2
    subst h1; subst h2
    rw [runE, runE_zero, runE_zero]
  | o' :: l, en' :: es, st, k + 1, o, en, h1, h2 => by
    rw [runE, runE_succ (l := l) (es := es) (by simpa using h1) (by simpa using h2)]
    rfl
  | [], _, _, _, _, _, h1, _ => by simp at h1
  | _ :: _, [], _, _, _, _, _, h2 => by simp at h2
theorem lex_spec {P : Program} {T : Tab P} {b : Base} {H : List (Nat × Hint)} {n : Nat} {ops : Array Oper} : ∀ {l : List Oper} {st : St} {es : List Ent} {st' : St}, Lex P T b H n ops l st es st' → es.length = l.length ∧ (∀ k o en, l[k]? = some o → es[k]? = some en → EntOk P T b H ops (runE n st l es k) o en) ∧ EqS (runE n st l es l.length) st'
  | [], st, es, st', h => by
    obtain ⟨rfl, he⟩ := h
    exact ⟨rfl, fun k o en h => by simp at h, by rw [List.length_nil, runE_zero]; exact he⟩
  | o :: l, st, es, st', h => by
    obtain ⟨en, er, rfl, hen, hl⟩ := h
    obtain ⟨h1, h2, h3⟩ := lex_spec hl
    refine ⟨by simp [h1], fun k o' en' ho he => ?_, by rw [List.length_cons, runE]; exact h3⟩
    cases k with
    | zero =>
      have ho : o = o' := by simpa using ho
      have he : en = en' := by simpa using he
      subst ho; subst he
      rw [runE_zero]; exact hen
    | succ k => rw [runE]; exact h2 k o' en' (by simpa using ho) (by simpa using he)
def idxOf {α : Type} (p : α → Bool) : List α → Option Nat
  | [] => none
  | x :: r => match p x with
    | true => some 0
    | false => match idxOf p r with
      | some k => some (k + 1)
      | none => none
theorem idxOf_some {α : Type} {p : α → Bool} : ∀ {l : List α} {k : Nat}, idxOf p l = some k → ∃ x, l[k]? = some x ∧ p x = true
  | x :: r, k, h => by
    unfold idxOf at h
    split at h
    · rename_i hp
      cases h
      exact ⟨x, rfl, hp⟩
    · split at h
      · rename_i j hr
        cases h
        obtain ⟨y, hy, hp⟩ := idxOf_some hr
        exact ⟨y, by simpa using hy, hp⟩
      · cases h
theorem idxOf_none {α : Type} {p : α → Bool} : ∀ {l : List α}, idxOf p l = none → ∀ x ∈ l, p x = false
  | x :: r, h, y, hy => by
    unfold idxOf at h
    split at h
    · cases h
    · rename_i hp
      split at h
      · cases h
      · rename_i hr
        rcases List.mem_cons.1 hy with rfl | hy
        · exact hp
        · exact idxOf_none hr y hy
def isDst (t : Nat) (o : Oper) : Bool := match o.dst with
  | some d => Nat.beq d t
  | none => false
theorem isDst_iff {t : Nat} {o : Oper} : isDst t o = true ↔ o.dst = some t := by
  unfold isDst
  split
  · rename_i d hd
    rw [hd]
    exact ⟨fun h => by rw [Nat.eq_of_beq_eq_true h], fun h => by injection h with h; rw [h]; exact Nat.beq_refl t⟩
  · rename_i hd
    rw [hd]
    exact ⟨fun h => (by cases h), fun h => (by cases h)⟩
/-- Is row i new by an entry, is it said anew or killed by it? -/
def isNew (i : Nat) (en : Ent) : Bool := Nat.ble en.m i && Nat.blt i (en.m + en.g.new.length)
def keysN (i : Nat) : List (Nat × Row) → Bool
  | [] => false
  | q :: r => match Nat.beq q.1 i with
    | true => true
    | false => keysN i r
def isWr (i : Nat) (en : Ent) : Bool := match keysN i en.g.upd with
  | true => true
  | false => memN i en.g.kill
theorem keysN_iff {i : Nat} : ∀ {l : List (Nat × Row)}, keysN i l = true ↔ i ∈ l.map (·.1)
  | [] => by simp [keysN]
  | q :: r => by
    unfold keysN
    split
    · rename_i h
      rw [← Nat.eq_of_beq_eq_true h]
      simp
    · rename_i h
      have : q.1 ≠ i := fun hh => by rw [hh, Nat.beq_refl] at h; cases h
      rw [keysN_iff, List.map_cons, List.mem_cons]
      exact ⟨.inr, fun hh => hh.resolve_left (Ne.symm this)⟩
theorem isNew_iff {i : Nat} {en : Ent} : isNew i en = true ↔ en.m ≤ i ∧ i < en.m + en.g.new.length := by
  unfold isNew
  rw [Bool.and_eq_true]
  exact ⟨fun h => ⟨Nat.le_of_ble_eq_true h.1, Nat.le_of_ble_eq_true h.2⟩, fun h => ⟨Nat.ble_eq_true_of_le h.1, Nat.ble_eq_true_of_le h.2⟩⟩
theorem isWr_iff {i : Nat} {en : Ent} : isWr i en = true ↔ i ∈ en.g.upd.map (·.1) ∨ i ∈ en.g.kill := by
  unfold isWr
  split
  · rename_i h; exact ⟨fun _ => .inl (keysN_iff.1 h), fun _ => rfl⟩
  · rename_i h
    rw [memN_iff]
    exact ⟨.inr, fun hh => hh.resolve_left fun hu => by rw [keysN_iff.2 hu] at h; cases h⟩
section
variable (l : List Oper) (es : List Ent) (st : St)
def fLook (L : Nat → Bool) (t : Nat) : Option SV := match idxOf (isDst t) l with
  | none => look st.fr t
  | some k => if L k then (es[k]?).bind (·.g.ret.known) else look st.fr t
def fBase (L : Nat → Bool) (i : Nat) : Option Row := match idxOf (isNew i) es with
  | none => st.mem[i]?
  | some k => if L k then (es[k]?).bind (fun en => en.g.new[i - en.m]?) else none
def fRow (L : Nat → Bool) (i : Nat) : Option Row := match idxOf (isWr i) es with
  | none => fBase es st L i
  | some s => if L s then (es[s]?).map (fun en => gAt en.g i .d) else fBase es st L i
end
def waitsF (l : List Oper) : Nat → Nat → Nat → Bool
  | 0, _, _ => false
  | d + 1, i, k => match l[i]? with
    | some o => o.after.toList.any fun e => Region.binds .any e && (Nat.beq e.on k || (Nat.blt k e.on && waitsF l d e.on k))
    | none => false
/-- Operation i waits for k, or for one that waits for it. -/
def waitsB (l : List Oper) (i k : Nat) : Bool := waitsF l l.length i k
/-- Operation i comes behind k (or before it) in every order, as it does in the text. -/
def settledB (l : List Oper) (i k : Nat) : Bool := match Nat.blt k i with
  | true => waitsB l i k
  | false => match Nat.beq k i with
    | true => true
    | false => waitsB l k i
def settledO (l : List Oper) (i : Nat) : Option Nat → Bool
  | none => true
  | some k => settledB l i k
/-- The rows that an effect names. -/
def ment (g : Eff) : List Nat := g.ret.idx ++ (g.upd.flatMap (fun q => q.2.idx) ++ g.new.flatMap Row.idx)
def isIdx (k : Nat) : Option Nat → Bool
  | some j => Nat.beq j k
  | none => false
def opB (ops : Array Oper) (l : List Oper) (es : List Ent) (n : Nat) (k : Nat) (o : Oper) (en : Ent) : Bool :=
  (o.after.toList.all fun e => !Region.binds .any e || Nat.blt e.on k) &&
  ((match o.dst with
    | some t => Nat.blt t n && isIdx k (idxOf (isDst t) l)
    | none => true) &&
  (((o.looksAt ops).all fun t => settledO l k (idxOf (isDst t) l)) &&
  ((en.g.see.all fun i => settledO l k (idxOf (isNew i) es) && settledO l k (idxOf (isWr i) es)) &&
  (((ment en.g).all fun i => isNew i en || settledO l k (idxOf (isNew i) es)) &&
  (((List.range en.g.new.length).all fun j => isIdx k (idxOf (isNew (en.m + j)) es) && (match idxOf (isWr (en.m + j)) es with
      | some s => Nat.blt k s
      | none => true)) &&
  (((en.g.upd.map (·.1) ++ en.g.kill).all fun i => isIdx k (idxOf (isWr i) es) && (match idxOf (isNew i) es with
      | some c => Nat.blt c k
      | none => true)) &&
  (match o.op with
    | .select .. => false
    | _ => true)))))))
def allBe (ops : Array Oper) (l : List Oper) (es : List Ent) (n : Nat) : Nat → List Oper → List Ent → Bool
  | k, o :: r, en :: er => match opB ops l es n k o en with
    | true => allBe ops l es n (k + 1) r er
    | false => false
  | _, [], [] => true
  | _, _, _ => false
theorem allBe_spec {ops : Array Oper} {l : List Oper} {es : List Ent} {n : Nat} : ∀ {r : List Oper} {er : List Ent} {k0 : Nat}, allBe ops l es n k0 r er = true → ∀ k o en, r[k]? = some o → er[k]? = some en → opB ops l es n (k0 + k) o en = true
  | o :: r, en :: er, k0, h, k, o', en', ho, he => by
    unfold allBe at h
    split at h
    · rename_i hb
      cases k with
      | zero =>
        have ho : o = o' := by simpa using ho
        have he : en = en' := by simpa using he
        subst ho; subst he
        exact hb
      | succ k =>
        have := allBe_spec h k o' en' (by simpa using ho) (by simpa using he)
        rwa [show k0 + (k + 1) = k0 + 1 + k by omega]
    · cases h
  | [], _, _, _, _, _, _, ho, _ => by simp at ho
  | _ :: _, [], _, _, _, _, _, _, he => by simp at he
structure Okb (ops : Array Oper) (l : List Oper) (es : List Ent) (n : Nat) (k : Nat) (o : Oper) (en : Ent) : Prop where
  down : ∀ e ∈ o.after, Region.binds .any e = true → e.on < k
  dst : ∀ t, o.dst = some t → t < n ∧ idxOf (isDst t) l = some k
  looks : ∀ t ∈ o.looksAt ops, settledO l k (idxOf (isDst t) l) = true
  see : ∀ i ∈ en.g.see, settledO l k (idxOf (isNew i) es) = true ∧ settledO l k (idxOf (isWr i) es) = true
  nw : ∀ i, isNew i en = true → idxOf (isNew i) es = some k ∧ ∀ s, idxOf (isWr i) es = some s → k < s
  wr : ∀ i, isWr i en = true → idxOf (isWr i) es = some k ∧ ∀ c, idxOf (isNew i) es = some c → c < k
  nosel : ∀ cs c, o.op ≠ .select cs c
theorem isIdx_eq {k : Nat} {x : Option Nat} (h : isIdx k x = true) : x = some k := by
  cases x with
  | none => cases h
  | some j => rw [Nat.eq_of_beq_eq_true h]
theorem opB_spec {ops : Array Oper} {l : List Oper} {es : List Ent} {n k : Nat} {o : Oper} {en : Ent} (h : opB ops l es n k o en = true) : Okb ops l es n k o en := by
  unfold opB at h
  simp only [Bool.and_eq_true] at h
  obtain ⟨h1, h2, h3, h4, _, h5, h6, h7⟩ := h
  refine ⟨fun e he hb => ?_, fun t ht => ?_, fun t ht => ?_, fun i hi => ?_, fun i hi => ?_, fun i hi => ?_, fun cs c hs => ?_⟩
  · have := List.all_eq_true.1 h1 e (by simpa using he)
    rw [hb] at this
    exact Nat.le_of_ble_eq_true (show Nat.blt e.on k = true by simpa only [Bool.not_true, Bool.false_or] using this)
  · rw [ht] at h2
    simp only [Bool.and_eq_true] at h2
    exact ⟨Nat.le_of_ble_eq_true h2.1, isIdx_eq h2.2⟩
  · exact List.all_eq_true.1 h3 t ht
  · simpa only [Bool.and_eq_true] using List.all_eq_true.1 h4 i hi
  · obtain ⟨ha, hb⟩ := isNew_iff.1 hi
    have := List.all_eq_true.1 h5 (i - en.m) (by rw [List.mem_range]; omega)
    rw [show en.m + (i - en.m) = i by omega] at this
    rw [Bool.and_eq_true] at this
    refine ⟨isIdx_eq this.1, fun s hs => ?_⟩
    have := this.2
    rw [hs] at this
    exact Nat.le_of_ble_eq_true this
  · have := List.all_eq_true.1 h6 i (by rw [List.mem_append]; exact isWr_iff.1 hi)
    rw [Bool.and_eq_true] at this
    refine ⟨isIdx_eq this.1, fun s hs => ?_⟩
    have := this.2
    rw [hs] at this
    exact Nat.le_of_ble_eq_true this
  · rw [hs] at h7
    cases h7
/-- The rows that an effect names are new, or stand where they stood. -/
def Okm (l : List Oper) (es : List Ent) (k : Nat) (en : Ent) : Prop := ∀ i ∈ ment en.g, isNew i en = true ∨ settledO l k (idxOf (isNew i) es) = true
theorem opB_ment {ops : Array Oper} {l : List Oper} {es : List Ent} {n k : Nat} {o : Oper} {en : Ent} (h : opB ops l es n k o en = true) : Okm l es k en := by
  unfold opB at h
  simp only [Bool.and_eq_true] at h
  obtain ⟨_, _, _, _, hm, _⟩ := h
  intro i hi
  simpa only [Bool.or_eq_true] using List.all_eq_true.1 hm i hi
end Ax
end Go.Proofs.YtcpbbgkeigbndaaGreat
