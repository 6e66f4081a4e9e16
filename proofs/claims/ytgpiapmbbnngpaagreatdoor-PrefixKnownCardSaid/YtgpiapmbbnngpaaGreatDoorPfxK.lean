/- whole walked. -/
import Derived.Test.YtgpiapmbbnngpaaGreatDoorPfxI
import Derived.Test.YtgpiapmbbnngpaaGreatDoorPfxWa
import Derived.Test.YtgpiapmbbnngpaaGreatDoorPfxPl
namespace Go.Proofs.YtgpiapmbbnngpaaGreatDoor
open Go.RowKit Go.Lib Go.Sort
attribute [local go_sem] guard29 guard24

theorem allH_cons {P : Program} {md : Region.Mode} {ops : Array Oper} {Q : Exit → Act → World → Prop} {S : World → Prop} {fuel : Nat} {listed : Array Bool} {a : Act} {w : World} {i : Nat} {o : Oper} {rs : List Nat} (ho : ops[i]? = some o)
    (h : ∀ K' : Act → World → Prop, (∀ a w, (S w ∧ wpAnyH P md ops Q S fuel (listed.setIfInBounds i true) a w) → K' a w) → if Region.wanted o (yielded ops a.tmps) = true then Oper.wp P o a w K' Q else K' (a.put o.dst undef) w)
    (hs : ∀ j ∈ rs, wpOp P ops Q j (fun a' w' => S w' ∧ wpAnyH P md ops Q S fuel (listed.setIfInBounds j true) a' w') a w) :
    ∀ j ∈ i :: rs, wpOp P ops Q j (fun a' w' => S w' ∧ wpAnyH P md ops Q S fuel (listed.setIfInBounds j true) a' w') a w := fun j hj => by
  rcases List.mem_cons.1 hj with rfl | hj
  · exact wpOp_step ho h
  · exact hs j hj
theorem allH_nil {P : Program} {md : Region.Mode} {ops : Array Oper} {Q : Exit → Act → World → Prop} {S : World → Prop} {fuel : Nat} {listed : Array Bool} {a : Act} {w : World} :
    ∀ j ∈ ([] : List Nat), wpOp P ops Q j (fun a' w' => S w' ∧ wpAnyH P md ops Q S fuel (listed.setIfInBounds j true) a' w') a w := fun _ hj => by cases hj
theorem step_bd29 {ops : Array Oper} {o : Oper} {a : Act} {w : World} {K : Act → World → Prop} {Q : Exit → Act → World → Prop} {E : Prop} (hgd : o.guard = none) (x y : Operand) (ho : o.op = .build 29 #[(0, x), (1, y)]) (v : Bool) (n : Nat) (k : Int)
    (hx : a.eval x = .agg (adr v n).toArray) (hy : a.eval y = .int .i64 k) (h : K (a.put o.dst (.agg (pfx v n k).toArray)) w) :
    if Region.wanted o (yielded ops a.tmps) = true then Oper.wp Tryz.prog o a w K Q else E := by
  have hw : Region.wanted o (yielded ops a.tmps) = true := by simp [Region.wanted, hgd]
  rw [if_pos hw]
  have e : Tryz.prog.built 29 ((#[(0, x), (1, y)] : Array (Nat × Operand)).map fun (i, z) => (i, a.eval z)).toList = some (pfx v n k).toArray := by
    simp only [List.map_toArray, List.map_cons, List.map_nil, hx, hy]
    exact built29 v n k
  refine wp_build 29 _ ho (by rw [e]; rfl) ?_
  rw [e]
  exact h
/-- A whole prefix is stored, where nothing else may come up. -/
theorem anyH_st29 {md : Region.Mode} {ops : Array Oper} {Q : Exit → Act → World → Prop} {S : World → Prop} {fuel : Nat} {listed : Array Bool} {a : Act} {w : World} {i : Nat} {o : Oper} (hr : Region.ready md ops listed = [i]) (ho : ops[i]? = some o) (hgd : o.guard = none) (x y : Operand) (hop : o.op = .store 29 x y)
    (g : Nat) (v : Bool) (n : Nat) (k : Int) (hx : a.eval x = .pointer (some ⟨g, 0, none⟩)) (hy : a.eval y = .agg (pfx v n k).toArray) (t : TypeId) (old : List Value) (hb : Blk w g t old) (hl : old.length = 18) (hS : S (w.setRow g (pfx v n k).toArray))
    (h : wpAnyH Tryz.prog md ops Q S fuel (listed.setIfInBounds i true) (a.put o.dst undef) (w.setRow g (pfx v n k).toArray)) : wpAnyH Tryz.prog md ops Q S (fuel + 1) listed a w :=
  wpAnyH_all hr (by simp) fun j hj => by
    rw [List.mem_singleton] at hj
    subst hj
    exact wpOp_step ho fun K' hK => step_st29 hgd x y hop g v n k hx hy t old hb hl (hK _ _ ⟨hS, h⟩)
/-- The frame behind the making of the whole. -/
def frK (v : Bool) (n : Nat) (K : Int) (v' : Bool) (m : Nat) (j : Int) (s : Nat) (N1 : Nat) (J : Int) (G : Nat) : Act := ⟨#[.agg (pfx v n K).toArray, .agg (pfx v' m j).toArray, .pointer (some ⟨s, 0, none⟩), .pointer (some ⟨s + 1, 0, none⟩), .pointer (some ⟨s + 1 + 1, 0, none⟩), .bool false, .pointer (some ⟨G, 0, none⟩), undef, undef, undef,
  .pointer (some ⟨s, 17, none⟩), .int .i64 K, .bool false, undef, .pointer (some ⟨s, 0, none⟩), .agg (adr v n).toArray, .pointer (some ⟨s, 17, none⟩), .int .i64 K, .int .i64 J, .agg (adr v N1).toArray, .pointer (some ⟨s, 17, none⟩), .int .i64 K, .int .i64 J, .agg (pfx v N1 J).toArray, undef, undef, undef, undef, undef, undef, undef, undef, undef, undef, undef, undef, undef, undef, undef], []⟩
theorem hal_masked (v : Bool) (n J : Nat) (h : J < wid v) : halP v (maskN n J) J = ((v, maskN n J, (J : Int) + 1), (v, highN (maskN n J) J, (J : Int) + 1), 0) := by
  unfold halP
  rw [if_pos (okP_mask v n J (by omega)), if_neg (by omega)]
  rfl
theorem high_lt128 (n J : Nat) (hn : n < 2 ^ 128) : highN n J < 2 ^ 128 := Nat.or_lt_two_pow hn (Nat.pow_lt_pow_right (by omega) (by omega))

set_option maxHeartbeats 4000000 in
set_option maxRecDepth 100000 in
theorem whole_0 (v : Bool) (n : Nat) (v' : Bool) (m : Nat) (j : Int) (w : World) :
    Calls Tryz.prog 52 #[.agg (pfx v n 0).toArray, .agg (pfx v' m j).toArray] w fun e w' => e = .returned (.tuple #[.agg (pfx (whoP v n 0 v' m j).1.1 (whoP v n 0 v' m j).1.2.1 (whoP v n 0 v' m j).1.2.2).toArray, .bool (whoP v n 0 v' m j).2]) ∧ Chg [] w w' := by
  have HPP := hid (show Blk (((w.alloc (.cells (pfx v n 0).toArray 29)).alloc (.cells (pfx v' m j).toArray 29)).alloc (.cells zpfx 29)) w.heap.size 29 (pfx v n 0) from ((Blk.new w 29 (pfx v n 0).toArray).alloc _).alloc _)
  have HR := hid (show Blk (((w.alloc (.cells (pfx v n 0).toArray 29)).alloc (.cells (pfx v' m j).toArray 29)).alloc (.cells zpfx 29)) (w.heap.size + 2) 29 zpfx.toList from Blk.new_at _ 29 zpfx (by simp))
  have HC := hid ((((Chg.refl [] w).alloc (.cells (pfx v n 0).toArray 29)).alloc (.cells (pfx v' m j).toArray 29)).alloc (.cells zpfx 29))
  have HF := hid (show whoP v n 0 v' m j = ((false, 0, 0), false) by unfold whoP; rw [if_pos rfl])
  rw [HF.out]
  have k0 := HPP.out.cell_of (pfx_bits v n 0)
  unfold zpfx at k0
  go_enter Tryz.func52, Tryz.ntmps52
  go_wp2_with (first
    | (refine st29z rfl _ _ rfl (w.heap.size + 2) rfl rfl 29 _ HR.out rfl ?_))
  refine bodyPost_ret (rs29t rfl _ _ (w.heap.size + 2) false 0 0 29 _ rfl rfl (HR.out.row (pfx false 0 0))) rfl ⟨rfl, ?_⟩
  exact HC.out.setRow (.inr (by omega)) _
set_option maxHeartbeats 4000000 in
set_option maxRecDepth 100000 in
theorem whole_N (v : Bool) (n : Nat) (K : Nat) (v' : Bool) (m : Nat) (j : Int) (hn : n < 2 ^ 128) (hm : m < 2 ^ 128) (hP : okP v n K = true) (hj : -9223372036854775808 ≤ j ∧ j ≤ 9223372036854775807) (w : World) :
    Calls Tryz.prog 52 #[.agg (pfx v n K).toArray, .agg (pfx v' m j).toArray] w fun e w' => e = .returned (.tuple #[.agg (pfx (whoP v n K v' m j).1.1 (whoP v n K v' m j).1.2.1 (whoP v n K v' m j).1.2.2).toArray, .bool (whoP v n K v' m j).2]) ∧ Chg [] w w' := by
  have HPP := hid (show Blk (((w.alloc (.cells (pfx v n K).toArray 29)).alloc (.cells (pfx v' m j).toArray 29)).alloc (.cells zpfx 29)) w.heap.size 29 (pfx v n K) from ((Blk.new w 29 (pfx v n K).toArray).alloc _).alloc _)
  have HQ := hid (show Blk (((w.alloc (.cells (pfx v n K).toArray 29)).alloc (.cells (pfx v' m j).toArray 29)).alloc (.cells zpfx 29)) (w.heap.size + 1) 29 (pfx v' m j) from (Blk.new_at (w.alloc (.cells (pfx v n K).toArray 29)) 29 (pfx v' m j).toArray (by simp)).alloc _)
  have HR := hid (show Blk (((w.alloc (.cells (pfx v n K).toArray 29)).alloc (.cells (pfx v' m j).toArray 29)).alloc (.cells zpfx 29)) (w.heap.size + 2) 29 zpfx.toList from Blk.new_at _ 29 zpfx (by simp))
  have HC := hid ((((Chg.refl [] w).alloc (.cells (pfx v n K).toArray 29)).alloc (.cells (pfx v' m j).toArray 29)).alloc (.cells zpfx 29))
  have hb : (K : Int) ≤ wid v := by
    have h := hP
    unfold okP at h
    simp only [Bool.and_eq_true, decide_eq_true_eq] at h
    exact h.1.2
  have hw128 := wid_le v
  by_cases h0 : K = 0
  · subst h0
    exact whole_0 v n v' m j w
  · obtain ⟨J, hJ⟩ : ∃ J, J = K - 1 := ⟨_, rfl⟩
    have eJ : (K : Int) - 1 = (J : Int) := by omega
    have eK : (J : Int) + 1 = (K : Int) := by omega
    have J127 : (J : Int) ≤ 127 := by omega
    have HF := hid (show whoP v n K v' m j = ((v, maskN n J, (J : Int)), decide (maskN n J = n) && decide (v = v' ∧ highN (maskN n J) J = m ∧ (K : Int) = j)) by
      unfold whoP; rw [if_neg (by omega), eJ, Int.toNat_natCast])
    have HAL := hid (fun W => halves_N v (maskN n J) J (mask_lt n J hn) W)
    rw [hal_masked v n J (by omega), eK] at HAL
    have HM := hid (fun W => masked_N v n J (by omega) W)
    have hE1 := eq29 v v (maskN n J) n K K (mask_lt n J hn) hn ⟨by omega, by omega⟩ ⟨by omega, by omega⟩
    have hE2 := eq29 v v' (highN (maskN n J) J) m K j (high_lt128 _ J (mask_lt n J hn)) hm ⟨by omega, by omega⟩ hj
    rw [show decide (v = v ∧ maskN n J = n ∧ (K : Int) = (K : Int)) = decide (maskN n J = n) by simp] at hE1
    rw [HF.out]
    obtain ⟨q1, hq1⟩ : ∃ q, q = decide (maskN n J = n) := ⟨_, rfl⟩
    obtain ⟨q2, hq2⟩ : ∃ q, q = decide (v = v' ∧ highN (maskN n J) J = m ∧ (K : Int) = j) := ⟨_, rfl⟩
    rw [← hq1] at hE1 ⊢
    rw [← hq2] at hE2 ⊢
    obtain ⟨N1, hN1⟩ : ∃ N1, N1 = maskN n J := ⟨_, rfl⟩
    obtain ⟨N2, hN2⟩ : ∃ N2, N2 = highN (maskN n J) J := ⟨_, rfl⟩
    rw [← hN2, ← hN1] at HAL
    rw [← hN2] at hE2
    rw [← hN1] at hE1 HM ⊢
    have HE1 := hid hE1
    have HE2 := hid hE2
    have k0 := HPP.out.cell_of (pfx_bits v n K)
    unfold zpfx at k0
    have h00 : ¬ (K : Int) = 0 := by omega
    clear hq1 hq2 hN1 hN2 hE1 hE2 hJ h0 hj hP
    go_enter Tryz.func52, Tryz.ntmps52
    go_wp2
    obtain ⟨w1, hw1⟩ : ∃ w1, w1 = (((w.alloc (.cells (pfx v n K).toArray 29)).alloc (.cells (pfx v' m j).toArray 29)).alloc (.cells zpfx 29)) := ⟨_, rfl⟩
    have P1 := HPP.out
    have Q1 := HQ.out
    have R1 := HR.out
    have C1 := HC.out
    rw [← hw1] at P1 Q1 R1 C1
    unfold zpfx at hw1
    rw [← hw1] at k0 ⊢
    clear hw1 HPP HQ HR HC
    have wJ : IntKind.i64.wrap (J : Int) = (J : Int) := by rw [IntKind.wrap_i64]; omega
    have S1 := hid (show Blk w1.drew w.heap.size 29 (pfx v n K) ∧ Blk w1.drew (w.heap.size + 1) 29 (pfx v' m j) ∧ Blk w1.drew (w.heap.size + 2) 29 zpfx.toList ∧ Chg [] w w1.drew from ⟨P1, Q1, R1, C1.drew⟩)
    refine Code.wp_mono (Q := fun e a W => e = .normal ∧ ∃ G, a = frK v n K v' m j w.heap.size N1 J G ∧ w.heap.size + 3 ≤ G ∧ Blk W G 29 (pfx v N1 J) ∧ Blk W w.heap.size 29 (pfx v n K) ∧ Blk W (w.heap.size + 1) 29 (pfx v' m j) ∧ Blk W (w.heap.size + 2) 29 zpfx.toList ∧ Chg [] w W) ?_ ?_
    rotate_left
    · refine wp_region_held (S := fun W => Blk W w.heap.size 29 (pfx v n K)) (by kernel_rfl) ?_
      change wpAnyH _ _ _ _ _ _ _ _ (World.drew _)
      refine wpAnyH_take (i := 0) (v := .pointer (some ⟨w.heap.size, 0, none⟩)) rfl (by kernel_rfl) (by kernel_rfl) (by kernel_rfl) (fun _ _ _ h => by cases h.1) (Or.inl ⟨by kernel_rfl, fun W hW => by (have hc := Blk.cell_of hW (pfx_bits v n K)); go_simp⟩) (by exact S1.out.1) ?_
      refine wpAnyH_take (i := 1) (v := .agg (adr v n).toArray) rfl (by kernel_rfl) (by kernel_rfl) (by kernel_rfl) (fun _ _ _ h => by cases h.1) (yieldsIf_load_mid rfl 24 _ rfl w.heap.size 0 rfl (adr v n) _ (fun W (hW : Blk W w.heap.size 29 (pfx v n K)) j x hx => hW.cell_of (by rw [Nat.zero_add]; exact pfx_adr v n K j x hx)) Tryz.underlying24 rfl (size24.trans (by rw [adr_length]))) (by exact S1.out.1) ?_
      refine wpAnyH_take (i := 2) (v := .pointer (some ⟨w.heap.size, 17, none⟩)) rfl (by kernel_rfl) (by kernel_rfl) (by kernel_rfl) (fun _ _ _ h => by cases h.1) (Or.inl ⟨by kernel_rfl, fun W hW => by (have hc := Blk.cell_of hW (pfx_bits v n K)); go_simp⟩) (by exact S1.out.1) ?_
      refine wpAnyH_take (i := 3) (v := .int .i64 K) rfl (by kernel_rfl) (by kernel_rfl) (by kernel_rfl) (fun _ _ _ h => by cases h.1) (Or.inl ⟨by kernel_rfl, fun W hW => by (have hc := Blk.cell_of hW (pfx_bits v n K)); go_simp⟩) (by exact S1.out.1) ?_
      refine wpAnyH_take (i := 4) (v := .int .i64 J) rfl (by kernel_rfl) (by kernel_rfl) (by kernel_rfl) (fun _ _ _ h => by cases h.1) (Or.inl ⟨by kernel_rfl, fun W hW => by (have hc := Blk.cell_of hW (pfx_bits v n K)); go_simp⟩) (by exact S1.out.1) ?_
      refine wpAnyH_take (i := 6) (v := .pointer (some ⟨w.heap.size, 17, none⟩)) rfl (by kernel_rfl) (by kernel_rfl) (by kernel_rfl) (fun _ _ _ h => by cases h.1) (Or.inl ⟨by kernel_rfl, fun W hW => by (have hc := Blk.cell_of hW (pfx_bits v n K)); go_simp⟩) (by exact S1.out.1) ?_
      refine wpAnyH_take (i := 7) (v := .int .i64 K) rfl (by kernel_rfl) (by kernel_rfl) (by kernel_rfl) (fun _ _ _ h => by cases h.1) (Or.inl ⟨by kernel_rfl, fun W hW => by (have hc := Blk.cell_of hW (pfx_bits v n K)); go_simp⟩) (by exact S1.out.1) ?_
      refine wpAnyH_take (i := 8) (v := .int .i64 J) rfl (by kernel_rfl) (by kernel_rfl) (by kernel_rfl) (fun _ _ _ h => by cases h.1) (Or.inl ⟨by kernel_rfl, fun W hW => by (have hc := Blk.cell_of hW (pfx_bits v n K)); go_simp⟩) (by exact S1.out.1) ?_
      refine wpAnyH_all (rs := [5, 10]) (by kernel_rfl) (by simp) ?_
      refine allH_cons rfl (fun KK hK => ?_) ?_
      · go_simp
        go_at_call 56
        refine (HM.out _).mono ?_
        rintro e c1 ⟨rfl, Cc1⟩
        have T1 := hid (show Blk c1 w.heap.size 29 (pfx v n K) ∧ Blk c1 (w.heap.size + 1) 29 (pfx v' m j) ∧ Blk c1 (w.heap.size + 2) 29 zpfx.toList ∧ Chg [] w c1 from ⟨Blk.chg (by exact S1.out.1) Cc1 (by simp), Blk.chg (by exact S1.out.2.1) Cc1 (by simp), Blk.chg (by exact S1.out.2.2.1) Cc1 (by simp), Chg.trans (by exact S1.out.2.2.2) Cc1⟩)
        refine hK _ _ ⟨T1.out.1, ?_⟩
        clear hK KK
        refine wpAnyH_all (rs := [9, 10]) (by kernel_rfl) (by simp) ?_
        refine allH_cons rfl (fun KK hK => ?_) ?_
        · refine step_bd29 rfl _ _ rfl v N1 J rfl rfl ?_
          refine hK _ _ ⟨T1.out.1, ?_⟩
          clear hK KK
          refine wpAnyH_all (rs := [10]) (by kernel_rfl) (by simp) ?_
          refine allH_cons rfl (fun KK hK => ?_) ?_
          · go_simp
            have T3 := hid (show Blk (c1.alloc (.cells zpfx 29)) w.heap.size 29 (pfx v n K) ∧ Blk (c1.alloc (.cells zpfx 29)) (w.heap.size + 1) 29 (pfx v' m j) ∧ Blk (c1.alloc (.cells zpfx 29)) (w.heap.size + 2) 29 zpfx.toList ∧ Chg [] w (c1.alloc (.cells zpfx 29)) from ⟨T1.out.1.alloc _, T1.out.2.1.alloc _, T1.out.2.2.1.alloc _, T1.out.2.2.2.alloc _⟩)
            have U3 := hid (Blk.new c1 29 zpfx)
            have G3 := hid (show w.heap.size + 3 ≤ c1.heap.size from T1.out.2.2.1.lt)
            refine hK _ _ ⟨T3.out.1, ?_⟩
            clear hK KK
            refine wpAnyH_all (rs := [11]) (by kernel_rfl) (by simp) ?_
            refine allH_cons rfl (fun KK hK => ?_) ?_
            · refine step_st29 rfl _ _ rfl (c1.heap.size) v N1 J rfl rfl 29 _ (by exact U3.out) rfl ?_
              have T4 := hid (And.intro (T3.out.1.chg (S := [c1.heap.size]) ((Chg.refl _ _).setRow (g := c1.heap.size) (.inl (by simp)) (pfx v N1 J).toArray) (fun hm => by rw [List.mem_singleton] at hm; have := G3.out; omega)) (And.intro (T3.out.2.1.chg (S := [c1.heap.size]) ((Chg.refl _ _).setRow (g := c1.heap.size) (.inl (by simp)) (pfx v N1 J).toArray) (fun hm => by rw [List.mem_singleton] at hm; have := G3.out; omega)) (And.intro (T3.out.2.2.1.chg (S := [c1.heap.size]) ((Chg.refl _ _).setRow (g := c1.heap.size) (.inl (by simp)) (pfx v N1 J).toArray) (fun hm => by rw [List.mem_singleton] at hm; have := G3.out; omega)) (T3.out.2.2.2.setRow (g := c1.heap.size) (.inr (by have := G3.out; omega)) (pfx v N1 J).toArray))))
              have U4 := hid (U3.out.row (pfx v N1 J))
              refine hK _ _ ⟨T4.out.1, ?_⟩
              clear hK KK
              refine wpAnyH_done (by kernel_rfl) ?_ _
              exact ⟨rfl, c1.heap.size, rfl, G3.out, U4.out, T4.out.1, T4.out.2.1, T4.out.2.2.1, T4.out.2.2.2⟩
            exact allH_nil
          exact allH_nil
        refine allH_cons rfl (fun KK hK => ?_) ?_
        · go_simp
          have T5 := hid (show Blk (c1.alloc (.cells zpfx 29)) w.heap.size 29 (pfx v n K) ∧ Blk (c1.alloc (.cells zpfx 29)) (w.heap.size + 1) 29 (pfx v' m j) ∧ Blk (c1.alloc (.cells zpfx 29)) (w.heap.size + 2) 29 zpfx.toList ∧ Chg [] w (c1.alloc (.cells zpfx 29)) from ⟨T1.out.1.alloc _, T1.out.2.1.alloc _, T1.out.2.2.1.alloc _, T1.out.2.2.2.alloc _⟩)
          have U5 := hid (Blk.new c1 29 zpfx)
          have G5 := hid (show w.heap.size + 3 ≤ c1.heap.size from T1.out.2.2.1.lt)
          refine hK _ _ ⟨T5.out.1, ?_⟩
          clear hK KK
          refine wpAnyH_all (rs := [9]) (by kernel_rfl) (by simp) ?_
          refine allH_cons rfl (fun KK hK => ?_) ?_
          · refine step_bd29 rfl _ _ rfl v N1 J rfl rfl ?_
            refine hK _ _ ⟨T5.out.1, ?_⟩
            clear hK KK
            refine wpAnyH_all (rs := [11]) (by kernel_rfl) (by simp) ?_
            refine allH_cons rfl (fun KK hK => ?_) ?_
            · refine step_st29 rfl _ _ rfl (c1.heap.size) v N1 J rfl rfl 29 _ (by exact U5.out) rfl ?_
              have T7 := hid (And.intro (T5.out.1.chg (S := [c1.heap.size]) ((Chg.refl _ _).setRow (g := c1.heap.size) (.inl (by simp)) (pfx v N1 J).toArray) (fun hm => by rw [List.mem_singleton] at hm; have := G5.out; omega)) (And.intro (T5.out.2.1.chg (S := [c1.heap.size]) ((Chg.refl _ _).setRow (g := c1.heap.size) (.inl (by simp)) (pfx v N1 J).toArray) (fun hm => by rw [List.mem_singleton] at hm; have := G5.out; omega)) (And.intro (T5.out.2.2.1.chg (S := [c1.heap.size]) ((Chg.refl _ _).setRow (g := c1.heap.size) (.inl (by simp)) (pfx v N1 J).toArray) (fun hm => by rw [List.mem_singleton] at hm; have := G5.out; omega)) (T5.out.2.2.2.setRow (g := c1.heap.size) (.inr (by have := G5.out; omega)) (pfx v N1 J).toArray))))
              have U7 := hid (U5.out.row (pfx v N1 J))
              refine hK _ _ ⟨T7.out.1, ?_⟩
              clear hK KK
              refine wpAnyH_done (by kernel_rfl) ?_ _
              exact ⟨rfl, c1.heap.size, rfl, G5.out, U7.out, T7.out.1, T7.out.2.1, T7.out.2.2.1, T7.out.2.2.2⟩
            exact allH_nil
          exact allH_nil
        exact allH_nil
      refine allH_cons rfl (fun KK hK => ?_) ?_
      · go_simp
        have T8 := hid (show Blk (w1.drew.alloc (.cells zpfx 29)) w.heap.size 29 (pfx v n K) ∧ Blk (w1.drew.alloc (.cells zpfx 29)) (w.heap.size + 1) 29 (pfx v' m j) ∧ Blk (w1.drew.alloc (.cells zpfx 29)) (w.heap.size + 2) 29 zpfx.toList ∧ Chg [] w (w1.drew.alloc (.cells zpfx 29)) from ⟨S1.out.1.alloc _, S1.out.2.1.alloc _, S1.out.2.2.1.alloc _, S1.out.2.2.2.alloc _⟩)
        have U8 := hid (Blk.new w1.drew 29 zpfx)
        have G8 := hid (show w.heap.size + 3 ≤ w1.drew.heap.size from S1.out.2.2.1.lt)
        refine hK _ _ ⟨T8.out.1, ?_⟩
        clear hK KK
        refine wpAnyH_all (rs := [5]) (by kernel_rfl) (by simp) ?_
        refine allH_cons rfl (fun KK hK => ?_) ?_
        · go_simp
          go_at_call 56
          refine (HM.out _).mono ?_
          rintro e c9 ⟨rfl, Cc9⟩
          have T9 := hid (show Blk c9 w.heap.size 29 (pfx v n K) ∧ Blk c9 (w.heap.size + 1) 29 (pfx v' m j) ∧ Blk c9 (w.heap.size + 2) 29 zpfx.toList ∧ Chg [] w c9 from ⟨Blk.chg (by exact T8.out.1) Cc9 (by simp), Blk.chg (by exact T8.out.2.1) Cc9 (by simp), Blk.chg (by exact T8.out.2.2.1) Cc9 (by simp), Chg.trans (by exact T8.out.2.2.2) Cc9⟩)
          have U9 := hid (Blk.chg (by exact U8.out) Cc9 (by simp))
          refine hK _ _ ⟨T9.out.1, ?_⟩
          clear hK KK
          refine wpAnyH_all (rs := [9]) (by kernel_rfl) (by simp) ?_
          refine allH_cons rfl (fun KK hK => ?_) ?_
          · refine step_bd29 rfl _ _ rfl v N1 J rfl rfl ?_
            refine hK _ _ ⟨T9.out.1, ?_⟩
            clear hK KK
            refine wpAnyH_all (rs := [11]) (by kernel_rfl) (by simp) ?_
            refine allH_cons rfl (fun KK hK => ?_) ?_
            · refine step_st29 rfl _ _ rfl (w1.drew.heap.size) v N1 J rfl rfl 29 _ (by exact U9.out) rfl ?_
              have T11 := hid (And.intro (T9.out.1.chg (S := [w1.drew.heap.size]) ((Chg.refl _ _).setRow (g := w1.drew.heap.size) (.inl (by simp)) (pfx v N1 J).toArray) (fun hm => by rw [List.mem_singleton] at hm; have := G8.out; omega)) (And.intro (T9.out.2.1.chg (S := [w1.drew.heap.size]) ((Chg.refl _ _).setRow (g := w1.drew.heap.size) (.inl (by simp)) (pfx v N1 J).toArray) (fun hm => by rw [List.mem_singleton] at hm; have := G8.out; omega)) (And.intro (T9.out.2.2.1.chg (S := [w1.drew.heap.size]) ((Chg.refl _ _).setRow (g := w1.drew.heap.size) (.inl (by simp)) (pfx v N1 J).toArray) (fun hm => by rw [List.mem_singleton] at hm; have := G8.out; omega)) (T9.out.2.2.2.setRow (g := w1.drew.heap.size) (.inr (by have := G8.out; omega)) (pfx v N1 J).toArray))))
              have U11 := hid (U9.out.row (pfx v N1 J))
              refine hK _ _ ⟨T11.out.1, ?_⟩
              clear hK KK
              refine wpAnyH_done (by kernel_rfl) ?_ _
              exact ⟨rfl, w1.drew.heap.size, rfl, G8.out, U11.out, T11.out.1, T11.out.2.1, T11.out.2.2.1, T11.out.2.2.2⟩
            exact allH_nil
          exact allH_nil
        exact allH_nil
      exact allH_nil
    · rintro e a W ⟨rfl, G, rfl, hG3, hBG, hP3, hQ3, hR3, hC3⟩
      have BG := hid hBG
      have BP := hid hP3
      have BQ := hid hQ3
      have BR := hid hR3
      have CC := hid hC3
      have HG := hid hG3
      clear hBG hP3 hQ3 hR3 hC3 hG3 S1 P1 Q1 R1 C1
      unfold frK
      go_wp2_with (first
        | (go_at_call 24; refine (HAL.out _).mono ?_; rintro e w3 ⟨rfl, C3⟩)
        | (refine ld29 rfl _ rfl G rfl 29 v N1 J BG.out ?_)
        | (refine st29 rfl _ _ rfl w3.heap.size v N1 K rfl rfl 29 _ ((Blk.new w3 29 zpfx).alloc (.cells zpfx 29)) rfl ?_)
        | (refine st29 rfl _ _ rfl (w3.heap.size + 1) v N2 K rfl rfl 29 _ ((Blk.new_at (w3.alloc (.cells zpfx 29)) 29 zpfx (by simp)).chg (S := [w3.heap.size]) ((Chg.refl _ _).setRow (g := w3.heap.size) (.inl (by simp)) _) (by simp)) rfl ?_))
      have hlt : G < w3.heap.size := Nat.lt_of_lt_of_le BG.out.lt C3.size
      have hs3 : w.heap.size + 3 ≤ w3.heap.size := by have := HG.out; omega
      obtain ⟨w5, hw5⟩ : ∃ w5, w5 = (((w3.alloc (.cells zpfx 29)).alloc (.cells zpfx 29)).setRow w3.heap.size (pfx v N1 K).toArray).setRow (w3.heap.size + 1) (pfx v N2 K).toArray := ⟨_, rfl⟩
      have CH5 : Chg [] w3 w5 := by rw [hw5]; exact ((((Chg.refl [] w3).alloc _).alloc _).setRow (.inr (Nat.le_refl _)) _).setRow (.inr (by omega)) _
      have A5 : Blk w5 w3.heap.size 29 (pfx v N1 K) := by rw [hw5]; exact (((Blk.new w3 29 zpfx).alloc _).row _).chg (S := [w3.heap.size + 1]) ((Chg.refl _ _).setRow (g := w3.heap.size + 1) (.inl (by simp)) _) (by simp)
      have B5 : Blk w5 (w3.heap.size + 1) 29 (pfx v N2 K) := by rw [hw5]; exact ((Blk.new_at (w3.alloc (.cells zpfx 29)) 29 zpfx (by simp)).chg (S := [w3.heap.size]) ((Chg.refl _ _).setRow (g := w3.heap.size) (.inl (by simp)) _) (by simp)).row _
      unfold zpfx at hw5
      rw [← hw5]
      clear hw5
      have G5 := (BG.out.chg C3 (by simp)).chg CH5 (by simp)
      have P5 := (BP.out.chg C3 (by simp)).chg CH5 (by simp)
      have Q5 := (BQ.out.chg C3 (by simp)).chg CH5 (by simp)
      have R5 := hid ((BR.out.chg C3 (by simp)).chg CH5 (by simp))
      have CC5 := hid ((CC.out.trans C3).trans CH5)
      have E1 := HE1.out
      have E2 := HE2.out
      obtain ⟨SS, hSS⟩ : ∃ SS : World → Prop, SS = fun W => Blk W G 29 (pfx v N1 J) ∧ Blk W w3.heap.size 29 (pfx v N1 K) ∧ Blk W w.heap.size 29 (pfx v n K) ∧ Blk W (w3.heap.size + 1) 29 (pfx v N2 K) ∧ Blk W (w.heap.size + 1) 29 (pfx v' m j) := ⟨_, rfl⟩
      have S5 := hid (show SS w5.drew by rw [hSS]; exact ⟨G5, A5, P5, B5, Q5⟩)
      have S6 := hid (show SS (w5.drew.setRow (w.heap.size + 2) (pfx v N1 J).toArray) by
        rw [hSS]
        have hch : Chg [w.heap.size + 2] w5.drew (w5.drew.setRow (w.heap.size + 2) (pfx v N1 J).toArray) := (Chg.refl _ _).setRow (g := w.heap.size + 2) (.inl (by simp)) _
        have hg3 := HG.out
        exact ⟨Blk.chg (by exact G5) hch (fun hm => by rw [List.mem_singleton] at hm; omega), Blk.chg (by exact A5) hch (fun hm => by rw [List.mem_singleton] at hm; omega), Blk.chg (by exact P5) hch (fun hm => by rw [List.mem_singleton] at hm; omega), Blk.chg (by exact B5) hch (fun hm => by rw [List.mem_singleton] at hm; omega), Blk.chg (by exact Q5) hch (fun hm => by rw [List.mem_singleton] at hm; omega)⟩)
      have R6 := hid (show Blk (w5.drew.setRow (w.heap.size + 2) (pfx v N1 J).toArray) (w.heap.size + 2) 29 (pfx v N1 J) from Blk.row (by exact R5.out) _)
      have C6 := hid (show Chg [] w (w5.drew.setRow (w.heap.size + 2) (pfx v N1 J).toArray) from (CC5.out.drew).setRow (g := w.heap.size + 2) (.inr (by omega)) _)
      have HSS : ∀ W, SS W → (fun W => Blk W G 29 (pfx v N1 J) ∧ Blk W w3.heap.size 29 (pfx v N1 K) ∧ Blk W w.heap.size 29 (pfx v n K) ∧ Blk W (w3.heap.size + 1) 29 (pfx v N2 K) ∧ Blk W (w.heap.size + 1) 29 (pfx v' m j)) W := fun W h => by rw [hSS] at h; exact h
      clear hSS G5 A5 B5 P5 Q5 BG BP BQ BR CC CH5 C3
      cases q1 with
      | false =>
        refine wp_region_held (S := SS) (by kernel_rfl) ?_
        change wpAnyH _ _ _ _ _ _ _ _ (World.drew _)
        refine wpAnyH_take (i := 0) (v := .agg (pfx v N1 J).toArray) rfl (by kernel_rfl) (by kernel_rfl) (by kernel_rfl) (fun _ _ _ h => h) (yieldsIf_load_mid (S := SS) (by kernel_rfl) 29 _ rfl (G) 0 (by kernel_rfl) (pfx v N1 J) _ (fun W hW j2 x hx => (show Blk W (G) 29 (pfx v N1 J) from (HSS W hW).1).cell_of (by rw [Nat.zero_add]; exact hx)) Tryz.underlying29 rfl (size29.trans (by rw [pfx_length]))) (by exact S5.out) ?_
        refine wpAnyH_take (i := 1) (v := .agg (pfx v N1 K).toArray) rfl (by kernel_rfl) (by kernel_rfl) (by kernel_rfl) (fun _ _ _ h => h) (yieldsIf_load_mid (S := SS) (by kernel_rfl) 29 _ rfl (w3.heap.size) 0 (by kernel_rfl) (pfx v N1 K) _ (fun W hW j2 x hx => (show Blk W (w3.heap.size) 29 (pfx v N1 K) from (HSS W hW).2.1).cell_of (by rw [Nat.zero_add]; exact hx)) Tryz.underlying29 rfl (size29.trans (by rw [pfx_length]))) (by exact S5.out) ?_
        refine wpAnyH_take (i := 2) (v := .agg (pfx v n K).toArray) rfl (by kernel_rfl) (by kernel_rfl) (by kernel_rfl) (fun _ _ _ h => h) (yieldsIf_load_mid (S := SS) (by kernel_rfl) 29 _ rfl (w.heap.size) 0 (by kernel_rfl) (pfx v n K) _ (fun W hW j2 x hx => (show Blk W (w.heap.size) 29 (pfx v n K) from (HSS W hW).2.2.1).cell_of (by rw [Nat.zero_add]; exact hx)) Tryz.underlying29 rfl (size29.trans (by rw [pfx_length]))) (by exact S5.out) ?_
        refine wpAnyH_take (i := 3) (v := .bool false) rfl (by kernel_rfl) (by kernel_rfl) (by kernel_rfl) (fun _ _ _ h => h) (Or.inl ⟨by kernel_rfl, fun W hW => by go_simp⟩) (by exact S5.out) ?_
        refine wpAnyH_take (i := 4) (v := .bool false) rfl (by kernel_rfl) (by kernel_rfl) (by kernel_rfl) (fun _ _ _ h => h) (Or.inl ⟨by kernel_rfl, fun W hW => by go_simp⟩) (by exact S5.out) ?_
        refine wpAnyH_take (i := 5) (v := undef) rfl (by kernel_rfl) (by kernel_rfl) (by kernel_rfl) (fun _ _ _ h => h) (Or.inr ⟨by kernel_rfl, rfl⟩) (by exact S5.out) ?_
        refine wpAnyH_take (i := 6) (v := undef) rfl (by kernel_rfl) (by kernel_rfl) (by kernel_rfl) (fun _ _ _ h => h) (Or.inr ⟨by kernel_rfl, rfl⟩) (by exact S5.out) ?_
        refine wpAnyH_take (i := 7) (v := undef) rfl (by kernel_rfl) (by kernel_rfl) (by kernel_rfl) (fun _ _ _ h => h) (Or.inr ⟨by kernel_rfl, rfl⟩) (by exact S5.out) ?_
        refine wpAnyH_take (i := 8) (v := .bool false) rfl (by kernel_rfl) (by kernel_rfl) (by kernel_rfl) (fun _ _ _ h => h) (Or.inl ⟨by kernel_rfl, fun W hW => by go_simp⟩) (by exact S5.out) ?_
        refine anyH_st29 (i := 9) (S := SS) (by kernel_rfl) rfl rfl _ _ rfl (w.heap.size + 2) v N1 J (by kernel_rfl) (by kernel_rfl) 29 _ (by exact R5.out) rfl (by exact S6.out) ?_
        refine wpAnyH_take (i := 10) (v := .bool false) rfl (by kernel_rfl) (by kernel_rfl) (by kernel_rfl) (fun _ _ _ h => h) (Or.inl ⟨by kernel_rfl, fun W hW => by go_simp⟩) (by exact S6.out) ?_
        refine wpAnyH_done (by kernel_rfl) ?_ _
        go_wp2
        refine bodyPost_ret (rs29t rfl _ _ (w.heap.size + 2) v N1 J 29 _ rfl rfl (by exact R6.out)) rfl ⟨rfl, ?_⟩
        exact C6.out
      | true =>
        refine wp_region_held (S := SS) (by kernel_rfl) ?_
        change wpAnyH _ _ _ _ _ _ _ _ (World.drew _)
        refine wpAnyH_take (i := 0) (v := .agg (pfx v N1 J).toArray) rfl (by kernel_rfl) (by kernel_rfl) (by kernel_rfl) (fun _ _ _ h => h) (yieldsIf_load_mid (S := SS) (by kernel_rfl) 29 _ rfl (G) 0 (by kernel_rfl) (pfx v N1 J) _ (fun W hW j2 x hx => (show Blk W (G) 29 (pfx v N1 J) from (HSS W hW).1).cell_of (by rw [Nat.zero_add]; exact hx)) Tryz.underlying29 rfl (size29.trans (by rw [pfx_length]))) (by exact S5.out) ?_
        refine wpAnyH_take (i := 1) (v := .agg (pfx v N1 K).toArray) rfl (by kernel_rfl) (by kernel_rfl) (by kernel_rfl) (fun _ _ _ h => h) (yieldsIf_load_mid (S := SS) (by kernel_rfl) 29 _ rfl (w3.heap.size) 0 (by kernel_rfl) (pfx v N1 K) _ (fun W hW j2 x hx => (show Blk W (w3.heap.size) 29 (pfx v N1 K) from (HSS W hW).2.1).cell_of (by rw [Nat.zero_add]; exact hx)) Tryz.underlying29 rfl (size29.trans (by rw [pfx_length]))) (by exact S5.out) ?_
        refine wpAnyH_take (i := 2) (v := .agg (pfx v n K).toArray) rfl (by kernel_rfl) (by kernel_rfl) (by kernel_rfl) (fun _ _ _ h => h) (yieldsIf_load_mid (S := SS) (by kernel_rfl) 29 _ rfl (w.heap.size) 0 (by kernel_rfl) (pfx v n K) _ (fun W hW j2 x hx => (show Blk W (w.heap.size) 29 (pfx v n K) from (HSS W hW).2.2.1).cell_of (by rw [Nat.zero_add]; exact hx)) Tryz.underlying29 rfl (size29.trans (by rw [pfx_length]))) (by exact S5.out) ?_
        refine wpAnyH_take (i := 3) (v := .bool true) rfl (by kernel_rfl) (by kernel_rfl) (by kernel_rfl) (fun _ _ _ h => h) (Or.inl ⟨by kernel_rfl, fun W hW => by go_simp⟩) (by exact S5.out) ?_
        refine wpAnyH_take (i := 4) (v := .bool true) rfl (by kernel_rfl) (by kernel_rfl) (by kernel_rfl) (fun _ _ _ h => h) (Or.inl ⟨by kernel_rfl, fun W hW => by go_simp⟩) (by exact S5.out) ?_
        refine wpAnyH_take (i := 5) (v := .agg (pfx v N2 K).toArray) rfl (by kernel_rfl) (by kernel_rfl) (by kernel_rfl) (fun _ _ _ h => h) (yieldsIf_load_mid (S := SS) (by kernel_rfl) 29 _ rfl (w3.heap.size + 1) 0 (by kernel_rfl) (pfx v N2 K) _ (fun W hW j2 x hx => (show Blk W (w3.heap.size + 1) 29 (pfx v N2 K) from (HSS W hW).2.2.2.1).cell_of (by rw [Nat.zero_add]; exact hx)) Tryz.underlying29 rfl (size29.trans (by rw [pfx_length]))) (by exact S5.out) ?_
        refine wpAnyH_take (i := 6) (v := .agg (pfx v' m j).toArray) rfl (by kernel_rfl) (by kernel_rfl) (by kernel_rfl) (fun _ _ _ h => h) (yieldsIf_load_mid (S := SS) (by kernel_rfl) 29 _ rfl (w.heap.size + 1) 0 (by kernel_rfl) (pfx v' m j) _ (fun W hW j2 x hx => (show Blk W (w.heap.size + 1) 29 (pfx v' m j) from (HSS W hW).2.2.2.2).cell_of (by rw [Nat.zero_add]; exact hx)) Tryz.underlying29 rfl (size29.trans (by rw [pfx_length]))) (by exact S5.out) ?_
        refine wpAnyH_take (i := 7) (v := .bool q2) rfl (by kernel_rfl) (by kernel_rfl) (by kernel_rfl) (fun _ _ _ h => h) (Or.inl ⟨by kernel_rfl, fun W hW => by go_simp⟩) (by exact S5.out) ?_
        refine wpAnyH_take (i := 8) (v := .bool q2) rfl (by kernel_rfl) (by kernel_rfl) (by kernel_rfl) (fun _ _ _ h => h) (Or.inl ⟨by kernel_rfl, fun W hW => by go_simp⟩) (by exact S5.out) ?_
        refine anyH_st29 (i := 9) (S := SS) (by kernel_rfl) rfl rfl _ _ rfl (w.heap.size + 2) v N1 J (by kernel_rfl) (by kernel_rfl) 29 _ (by exact R5.out) rfl (by exact S6.out) ?_
        refine wpAnyH_take (i := 10) (v := .bool q2) rfl (by kernel_rfl) (by kernel_rfl) (by kernel_rfl) (fun _ _ _ h => h) (Or.inl ⟨by kernel_rfl, fun W hW => by go_simp⟩) (by exact S6.out) ?_
        refine wpAnyH_done (by kernel_rfl) ?_ _
        go_wp2
        refine bodyPost_ret (rs29t rfl _ _ (w.heap.size + 2) v N1 J 29 _ rfl rfl (by exact R6.out)) rfl ⟨rfl, ?_⟩
        exact C6.out
end Go.Proofs.YtgpiapmbbnngpaaGreatDoor
