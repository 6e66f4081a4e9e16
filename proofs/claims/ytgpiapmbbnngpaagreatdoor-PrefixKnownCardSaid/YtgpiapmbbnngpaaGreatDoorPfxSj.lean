/- The reference's joined, walked by reckoning. -/
import Derived.Test.YtgpiapmbbnngpaaGreatDoorPfxSa
import Derived.Test.YtgpiapmbbnngpaaGreatDoorSxM
import Derived.Test.YtgpiapmbbnngpaaGreatDoorPfxSd
namespace Go.Proofs.YtgpiapmbbnngpaaGreatDoor
open Go.RowKit Go.Lib Go.Sort

/-- What joining comes to. -/
def joinV (x y : PX) : Value := if x.k = 0 ∨ x.k ≠ y.k then .tuple #[zpfV, .bool false] else .tuple #[.agg (pfx x.v (maskN x.n (x.k - 1)) ((x.k - 1 : Nat) : Int)).toArray, .bool (decide (maskN x.n (x.k - 1) = x.n) && decide (x.v = y.v ∧ highN (maskN x.n (x.k - 1)) (x.k - 1) = y.n))]
set_option maxRecDepth 100000 in
theorem rjoined_N (x y : PX) (w : World) : Calls Tryz.prog 83 #[.agg (pfx x.v x.n x.k).toArray, .agg (pfx y.v y.n y.k).toArray] w fun e w' => e = .returned (joinV x y) ∧ Chg [] w w' := by
  have hx128 := x.k128
  have hy128 := y.k128
  by_cases h0 : x.k = 0
  · have c13 : Value.bool ((x.k : Int) == 0) = .bool true := bzt (by simp; omega)
    have z0 : Value.tuple #[zpfV, .bool false] = joinV x y := by unfold joinV; rw [if_pos (.inl h0)]
    refine Sx.calls_is (args := [.agg (pfx x.v x.n x.k).toArray, .agg (pfx y.v y.n y.k).toArray]) [(13, .is (.bool true))] [] (by kernel_rfl) Tryz.func83 rfl (Nat.le_of_ble_eq_true rfl) ?_
    exact Eq.mp (by kernel_rfl) (And.intro c13 z0)
  · have c13 : Value.bool ((x.k : Int) == 0) = .bool false := bzf (by simp; omega)
    by_cases h1 : x.k = y.k
    · have c19 := ne_iB x.k y.k (r := false) (by simp [h1])
      have hkw := x.k_le
      have hj : joinV x y = .tuple #[.agg (pfx x.v (maskN x.n (x.k - 1)) ((x.k - 1 : Nat) : Int)).toArray, .bool (decide (maskN x.n (x.k - 1) = x.n) && decide (x.v = y.v ∧ highN (maskN x.n (x.k - 1)) (x.k - 1) = y.n))] := by unfold joinV; rw [if_neg (by omega)]
      have hof : ofP x.v x.n ((x.k - 1 : Nat) : Int) = (x.v, maskN x.n (x.k - 1), ((x.k - 1 : Nat) : Int), 0) := by unfold ofP; rw [if_pos x.okA, if_pos (by omega), Int.toNat_natCast]
      have c28 := fun W (_ : Chg [] w W) => rof_N x.v x.n ((x.k - 1 : Nat) : Int) x.lt W
      rw [hof] at c28
      have hok := okP_mask x.v x.n (x.k - 1) (by omega)
      have hm := mask_lt x.n (x.k - 1) x.lt
      generalize hM : maskN x.n (x.k - 1) = M at *
      have hha : halP x.v M ((x.k - 1 : Nat) : Int) = ((x.v, M, (x.k : Int)), (x.v, highN M (x.k - 1), (x.k : Int)), 0) := by
        unfold halP
        rw [if_pos hok, if_neg (by omega), Int.toNat_natCast, show ((x.k - 1 : Nat) : Int) + 1 = (x.k : Int) by omega]
      have c36 := fun W (_ : Chg [] w W) => rhalves_N x.v M ((x.k - 1 : Nat) : Int) hm W
      rw [hha] at c36
      have hh := high_lt128 M (x.k - 1) hm
      have c27 : Value.int .i64 (IntKind.i64.wrap ((x.k : Int) - 1)) = .int .i64 ((x.k - 1 : Nat) : Int) := iw (by rw [w64 (by omega) (by omega)]; omega)
      have c43 := beq29r (.tmp 41) (.tmp 42) x.v x.v M x.n x.k x.k hm x.lt (by omega) (by omega)
      have c47 := beq29r (.tmp 45) (.tmp 46) x.v y.v (highN M (x.k - 1)) y.n x.k y.k hh y.lt (by omega) (by omega)
      by_cases d1 : M = x.n
      · have c43 := fun W => okBin (c43 W) (decide_eq_true (show x.v = x.v ∧ M = x.n ∧ (x.k : Int) = x.k from ⟨rfl, d1, rfl⟩))
        by_cases d2 : x.v = y.v ∧ highN M (x.k - 1) = y.n
        · have c47 := fun W => okBin (c47 W) (decide_eq_true (show x.v = y.v ∧ highN M (x.k - 1) = y.n ∧ (x.k : Int) = y.k from ⟨d2.1, d2.2, by omega⟩))
          have z0 : Value.tuple #[.agg (pfx x.v M ((x.k - 1 : Nat) : Int)).toArray, .bool true] = joinV x y := by rw [hj, decide_eq_true d1, decide_eq_true d2]; rfl
          refine Sx.calls_is (args := [.agg (pfx x.v x.n x.k).toArray, .agg (pfx y.v y.n y.k).toArray]) [(13, .is (.bool false)), (19, .is (.bool false)), (27, .is (.int .i64 ((x.k - 1 : Nat) : Int))), (28, .call (.tuple #[.agg (pfx x.v M ((x.k - 1 : Nat) : Int)).toArray, .int .i64 0])), (36, .call (.tuple #[.agg (pfx x.v M (x.k : Int)).toArray, .agg (pfx x.v (highN M (x.k - 1)) (x.k : Int)).toArray, .int .i64 0])), (43, .bin (.bool true)), (47, .bin (.bool true))] [] (by kernel_rfl) Tryz.func83 rfl (Nat.le_of_ble_eq_true rfl) ?_
          exact Eq.mp (by kernel_rfl) (And.intro c13 (And.intro c19 (And.intro c27 (And.intro c28 (And.intro c36 (And.intro c43 (And.intro c47 z0)))))))
        · have c47 := fun W => okBin (c47 W) (decide_eq_false (show ¬ (x.v = y.v ∧ highN M (x.k - 1) = y.n ∧ (x.k : Int) = y.k) from fun h => d2 ⟨h.1, h.2.1⟩))
          have z0 : Value.tuple #[.agg (pfx x.v M ((x.k - 1 : Nat) : Int)).toArray, .bool false] = joinV x y := by rw [hj, decide_eq_true d1, decide_eq_false d2]; rfl
          refine Sx.calls_is (args := [.agg (pfx x.v x.n x.k).toArray, .agg (pfx y.v y.n y.k).toArray]) [(13, .is (.bool false)), (19, .is (.bool false)), (27, .is (.int .i64 ((x.k - 1 : Nat) : Int))), (28, .call (.tuple #[.agg (pfx x.v M ((x.k - 1 : Nat) : Int)).toArray, .int .i64 0])), (36, .call (.tuple #[.agg (pfx x.v M (x.k : Int)).toArray, .agg (pfx x.v (highN M (x.k - 1)) (x.k : Int)).toArray, .int .i64 0])), (43, .bin (.bool true)), (47, .bin (.bool false))] [] (by kernel_rfl) Tryz.func83 rfl (Nat.le_of_ble_eq_true rfl) ?_
          exact Eq.mp (by kernel_rfl) (And.intro c13 (And.intro c19 (And.intro c27 (And.intro c28 (And.intro c36 (And.intro c43 (And.intro c47 z0)))))))
      · have c43 := fun W => okBin (c43 W) (decide_eq_false (show ¬ (x.v = x.v ∧ M = x.n ∧ (x.k : Int) = x.k) from fun h => d1 h.2.1))
        have z0 : Value.tuple #[.agg (pfx x.v M ((x.k - 1 : Nat) : Int)).toArray, .bool false] = joinV x y := by rw [hj, decide_eq_false d1]; rfl
        refine Sx.calls_is (args := [.agg (pfx x.v x.n x.k).toArray, .agg (pfx y.v y.n y.k).toArray]) [(13, .is (.bool false)), (19, .is (.bool false)), (27, .is (.int .i64 ((x.k - 1 : Nat) : Int))), (28, .call (.tuple #[.agg (pfx x.v M ((x.k - 1 : Nat) : Int)).toArray, .int .i64 0])), (36, .call (.tuple #[.agg (pfx x.v M (x.k : Int)).toArray, .agg (pfx x.v (highN M (x.k - 1)) (x.k : Int)).toArray, .int .i64 0])), (43, .bin (.bool false)), (47, .bin (.bool false))] [] (by kernel_rfl) Tryz.func83 rfl (Nat.le_of_ble_eq_true rfl) ?_
        exact Eq.mp (by kernel_rfl) (And.intro c13 (And.intro c19 (And.intro c27 (And.intro c28 (And.intro c36 (And.intro c43 z0))))))
    · have c19 := ne_iB x.k y.k (r := true) (by simp [h1])
      have z0 : Value.tuple #[zpfV, .bool false] = joinV x y := by unfold joinV; rw [if_pos (.inr h1)]
      refine Sx.calls_is (args := [.agg (pfx x.v x.n x.k).toArray, .agg (pfx y.v y.n y.k).toArray]) [(13, .is (.bool false)), (19, .is (.bool true))] [] (by kernel_rfl) Tryz.func83 rfl (Nat.le_of_ble_eq_true rfl) ?_
      exact Eq.mp (by kernel_rfl) (And.intro c13 (And.intro c19 z0))
theorem join_some {x y z : PX} (h : whoX x y = some z) : joinV x y = .tuple #[.agg (pfx z.v z.n z.k).toArray, .bool true] := by
  unfold whoX at h
  split at h
  · rename_i hc
    cases h
    obtain ⟨h0, h1⟩ := hc
    unfold whoP at h1
    rw [if_neg (by omega)] at h1
    have e : ((x.k : Int) - 1).toNat = x.k - 1 := by omega
    simp only [e, Bool.and_eq_true, decide_eq_true_eq] at h1
    unfold joinV
    rw [if_neg (by omega), decide_eq_true h1.1, decide_eq_true (show x.v = y.v ∧ highN (maskN x.n (x.k - 1)) (x.k - 1) = y.n from ⟨h1.2.1, h1.2.2.1⟩)]
    rfl
  · cases h
theorem join_none {x y : PX} (h : whoX x y = none) : ∃ (v : Bool) (n : Nat) (k : Nat), joinV x y = .tuple #[.agg (pfx v n k).toArray, .bool false] := by
  unfold whoX at h
  split at h
  · cases h
  · rename_i hc
    unfold joinV
    by_cases h0 : x.k = 0 ∨ x.k ≠ y.k
    · rw [if_pos h0]
      exact ⟨false, 0, 0, rfl⟩
    · rw [if_neg h0]
      refine ⟨x.v, maskN x.n (x.k - 1), x.k - 1, ?_⟩
      have e : ((x.k : Int) - 1).toNat = x.k - 1 := by omega
      have : (decide (maskN x.n (x.k - 1) = x.n) && decide (x.v = y.v ∧ highN (maskN x.n (x.k - 1)) (x.k - 1) = y.n)) = false := by
        rw [Bool.eq_false_iff]
        intro hb
        rw [Bool.and_eq_true, decide_eq_true_eq, decide_eq_true_eq] at hb
        refine hc ⟨by omega, ?_⟩
        unfold whoP
        rw [if_neg (by omega)]
        simp only [e, Bool.and_eq_true, decide_eq_true_eq]
        exact ⟨hb.1, hb.2.1, hb.2.2, by omega⟩
      rw [this]
end Go.Proofs.YtgpiapmbbnngpaaGreatDoor
