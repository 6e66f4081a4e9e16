/- The law's small words, walked: same, right, works, tokens. -/
import Derived.Test.YthhddmamlpnjpaaBktP
namespace Go.Proofs.Ythhddmamlpnjpaa
open Go.RowKit Go.Lib Go.Sort

theorem boolv_get (l : List Bool) (k : Nat) (x : Bool) (h : l[k]? = some x) : (boolv l)[k]? = some (.bool x) := by simp [boolv, h]
theorem get_bool (L : List Bool) (k : Nat) (h : k < L.length) : ∃ a, L[k]? = some a := ⟨_, List.getElem?_eq_getElem h⟩

set_option maxHeartbeats 1000000 in
theorem same_any (A B : Option Addr) (n c m d : Nat) (a b : List Bool) (w : World) (hA : Own w 4 1 (.slice A n c) n (boolv a)) (hB : Own w 4 1 (.slice B m d) m (boolv b)) (hn : n ≤ 1048576) :
    Calls Try.prog 13 #[.slice A n c, .slice B m d] w fun e w' => e = .returned (.bool (decide (a = b))) ∧ Chg [] w w' := by
  have la : a.length = n := by have := hA.len; simpa [boolv] using this
  have lb : b.length = m := by have := hB.len; simpa [boolv] using this
  have n1 : (n : Int) ≤ 1048576 := by omega
  by_cases hnm : n = m
  · subst hnm
    have HL := hid (And.intro la lb)
    clear la lb
    go_enter Try.func13, Try.ntmps13
    go_wp2
    go_loopw [5] (fun i wr => ∃ k : Nat, k ≤ n ∧ i = .int .i64 k ∧ Chg [] w wr ∧ Hid (∀ j, j < k → a[j]? = b[j]?)) (fun i _ => n - (intOf i).toNat)
    case atStart => exact ⟨0, Nat.zero_le _, rfl, Chg.refl _ _, hid (fun j hj => absurd hj (Nat.not_lt_zero _))⟩
    case round =>
      obtain ⟨k, hk, rfl, hC, hE⟩ := hrel
      by_cases hlt : k < n
      · have hAr := hA.chg hC (by simp)
        have hBr := hB.chg hC (by simp)
        obtain ⟨g, o, c1, hv, _, _, hg⟩ := hAr.some_ (by omega)
        injection hv with hAA _ hc1
        subst hAA; subst hc1
        obtain ⟨g', o', c1', hv', _, _, hg'⟩ := hBr.some_ (by omega)
        injection hv' with hBB _ hc1'
        subst hBB; subst hc1'
        obtain ⟨x, hx⟩ := get_bool a k (by rw [HL.out.1]; exact hlt)
        obtain ⟨y, hy⟩ := get_bool b k (by rw [HL.out.2]; exact hlt)
        have q0 := (hAr.cell (boolv_get a k x hx)).1
        have q1 := (hBr.cell (boolv_get b k y hy)).1
        dsimp only at q0 q1
        have HX := hid (And.intro hx hy)
        have k0 : (0 : Int) ≤ (k : Int) := by omega
        have k1 : (k : Int) < (n : Int) := by omega
        clear hx hy
        cases x <;> cases y
        all_goals
          go_wp2
          go_quiet (fail)
          go_wp2
        all_goals first
          | (go_roundw
             case measure => simp [intOf]; omega
             case rel =>
              refine ⟨k + 1, by omega, by go_num, hC.drewN _, hid ?_⟩
              intro j hj
              by_cases hjk : j = k
              · subst hjk
                exact HX.out.1.trans HX.out.2.symm
              · exact hE.out j (by omega))
          | (have hv := hid (show decide (a = b) = false by
              rw [decide_eq_false_iff_not]
              rintro rfl
              have h1 := HX.out.1.symm.trans HX.out.2
              injection h1 with h1
              cases h1)
             go_ret
             exact ⟨by rw [hv.out]; rfl, hC.drewN _⟩)
      · obtain rfl : k = n := by omega
        have hv := hid (show decide (a = b) = true by
          rw [decide_eq_true_eq]
          apply List.ext_getElem?
          intro j
          by_cases hj : j < k
          · exact hE.out j hj
          · rw [List.getElem?_eq_none (by rw [HL.out.1]; omega), List.getElem?_eq_none (by rw [HL.out.2]; omega)])
        go_wp2
        go_ret
        exact ⟨by rw [hv.out]; rfl, hC⟩
  · have hv := hid (show decide (a = b) = false by
      rw [decide_eq_false_iff_not]
      rintro rfl
      exact hnm (la.symm.trans lb))
    have hne : ((n : Int) == (m : Int)) = false := beq_eq_false_iff_ne.2 (by omega)
    have hne2 : ((n : Int) != (m : Int)) = true := by rw [bne_iff_ne]; omega
    clear la lb hnm
    go_enter Try.func13, Try.ntmps13
    go_wp2
    go_ret
    exact ⟨by rw [hv.out]; rfl, Chg.refl _ _⟩

set_option maxHeartbeats 1000000 in
theorem right_any (p q r : Nat) (w : World) :
    Calls Try.prog 18 #[.agg #[.int .u64 (p : Int), .int .u64 (q : Int), .int .u64 (r : Int)]] w fun e w' => e = .returned (.agg #[.int .u64 ((p % 65536 + 1 : Nat) : Int), .int .u64 ((q % 65536 + 1 : Nat) : Int), .int .u64 ((r % 1048576 + 1 : Nat) : Int)]) ∧ Chg [] w w' := by
  go_enter Try.func18, Try.ntmps18
  go_wp2
  have e1 : ((p % 65536 + 1 : Nat) : Int) = (p : Int) % 65536 + 1 := by omega
  have e2 : ((q % 65536 + 1 : Nat) : Int) = (q : Int) % 65536 + 1 := by omega
  have e3 : ((r % 1048576 + 1 : Nat) : Int) = (r : Int) % 1048576 + 1 := by omega
  rw [e1, e2, e3]
  exact bodyPost_ret (v := .agg #[.int .u64 ((p : Int) % 65536 + 1), .int .u64 ((q : Int) % 65536 + 1), .int .u64 ((r : Int) % 1048576 + 1)]) (by simp [results, Try.results18, go_sem]) rfl ⟨rfl, ((Chg.refl _ _).alloc _).alloc _⟩

theorem Own.lit40 (w : World) (L : List (Nat × Nat)) (hL : L.length ≤ 1000) : Own (w.alloc (.cells (askv L).toArray 40)) 40 2 (.slice (some ⟨w.heap.size, 0, none⟩) L.length L.length) L.length (askv L) := by
  have h := Own.made w 40 2 L.length L.length (askv L) (Nat.le_refl _) (by unfold maxLen; omega) (askv_len L)
  rw [List.take_of_length_le (by rw [askv_len]; exact Nat.le_refl _)] at h
  exact h

theorem works_run : runV 1 10 3 [(0, 3), (0, 1), (10, 1), (19, 1), (20, 1)] = ([true, false, true, false, true], 0) := by decide
theorem works_fits : fitsV 1 10 3 [(0, 3), (9, 1)] = (1, 0) := by decide
theorem works_most : mostV 1 10 3 25 = (5, 0) := by decide

theorem works_runC (w : World) (A : Addr) (h : Own w 40 2 (.slice (some A) 5 5) 5 (askv [(0, 3), (0, 1), (10, 1), (19, 1), (20, 1)])) :
    Calls Try.prog 11 #[.agg #[.int .u64 1, .int .u64 10, .int .u64 3], .slice (some A) 5 5] w fun e w' => ∃ B n c, e = .returned (.tuple #[.slice B n c, .int .i64 0]) ∧ Own w' 4 1 (.slice B n c) n (boolv [true, false, true, false, true]) ∧ n ≤ 1048576 ∧ Chg [] w w' := by
  refine (run_any 1 10 3 (some A) 5 5 _ w h rfl (by omega) (by simp)).mono ?_
  rintro e w' ⟨B, n, c, he, hA⟩
  rw [works_run] at he hA
  have h1 := hA.own.len
  exact ⟨B, n, c, he, hA.own, by simp [boolv] at h1; omega, hA.chg⟩
theorem works_fitsC (w : World) (A : Addr) (h : Own w 40 2 (.slice (some A) 2 2) 2 (askv [(0, 3), (9, 1)])) :
    Calls Try.prog 15 #[.agg #[.int .u64 1, .int .u64 10, .int .u64 3], .slice (some A) 2 2] w fun e w' => e = .returned (.tuple #[.int .i64 1, .int .i64 0]) ∧ Chg [] w w' := by
  have := fits_any 1 10 3 (some A) 2 2 _ w h rfl (by omega)
  rw [works_fits] at this
  exact this
theorem works_mostC (w : World) : Calls Try.prog 20 #[.agg #[.int .u64 1, .int .u64 10, .int .u64 3], .int .u64 25] w fun e w' => e = .returned (.tuple #[.int .u64 5, .int .i64 0]) ∧ Chg [] w w' := by
  exact most_ok 1 10 3 25 w (by decide)

set_option maxHeartbeats 2000000 in
theorem works_any (w : World) : Calls Try.prog 17 #[] w fun e w' => e = .returned (.bool true) ∧ Chg [] w w' := by
  have B0 : BoxB (w.alloc (.cells #[.int .u64 1, .int .u64 10, .int .u64 3] 24)) w.heap.size 1 10 3 := Blk.new w 24 #[.int .u64 1, .int .u64 10, .int .u64 3]
  have hO1 := Own.lit40 (w.alloc (.cells #[.int .u64 1, .int .u64 10, .int .u64 3] 24)) [(0, 3), (0, 1), (10, 1), (19, 1), (20, 1)] (by simp)
  rw [show (w.alloc (.cells #[.int .u64 1, .int .u64 10, .int .u64 3] 24)).heap.size = w.heap.size + 1 by simp] at hO1
  have HO1 := hid hO1
  have C0 := hid ((Chg.refl [] w).alloc (.cells #[.int .u64 1, .int .u64 10, .int .u64 3] 24))
  clear hO1
  go_enter Try.func17, Try.ntmps17
  go_wp2_with (first
    | (go_at_call 11; refine (works_runC _ _ HO1.out).mono ?_; rintro e w1 ⟨A, n, c, rfl, hO, hn, hC1⟩; have B1 := (BoxB.chg (B0.alloc _) hC1); have b10 := B1.cells.1; have b11 := B1.cells.2.1; have b12 := B1.cells.2.2.1)
    | (go_at_call 20; refine (works_mostC _).mono ?_; rintro e w2 ⟨rfl, hC2⟩; have B2 := BoxB.chg B1 hC2; have b20 := B2.cells.1; have b21 := B2.cells.2.1; have b22 := B2.cells.2.2.1)
    | (go_at_call 15; refine (works_fitsC _ _ (Own.lit40 w2 [(0, 3), (9, 1)] (by simp))).mono ?_; rintro e w3 ⟨rfl, hC3⟩; have hO3 := (hO.chg hC2 (by simp)).chg (((Chg.refl [] w2).alloc _).trans hC3) (by simp)))
  have hO4 := hO3.alloc (.cells #[.bool true, .bool false, .bool true, .bool false, .bool true] 4)
  have hL : Own (w3.alloc (.cells #[.bool true, .bool false, .bool true, .bool false, .bool true] 4)) 4 1 (.slice (some ⟨w3.heap.size, 0, none⟩) 5 5) 5 (boolv [true, false, true, false, true]) := Own.made w3 4 1 5 5 (boolv [true, false, true, false, true]) (Nat.le_refl _) (by unfold maxLen; omega) rfl
  refine (same_any A _ n c 5 5 _ _ _ hO4 hL hn).mono ?_
  rintro e w4 ⟨rfl, hC4⟩
  have hv : decide ([true, false, true, false, true] = [true, false, true, false, true]) = true := by decide
  rw [hv]
  go_wp2
  go_ret
  exact ⟨rfl, ((((((C0.out.alloc _).trans hC1).trans hC2).alloc _).trans hC3).alloc _).trans hC4⟩
end Go.Proofs.Ythhddmamlpnjpaa
