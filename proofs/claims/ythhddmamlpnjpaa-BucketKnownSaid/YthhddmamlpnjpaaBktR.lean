/- BucketTells, walked: of any bucket, state, tick and number the bucket's answers are the document's. -/
import Derived.Test.YthhddmamlpnjpaaBktQ
import Derived.ShutString
namespace Go.Proofs.Ythhddmamlpnjpaa
open Go.RowKit Go.Lib Go.Sort
attribute [local go_sem ↓] Go.wp_at_zero Go.wp_at_succ

theorem level_all (p q r s now : Nat) (w : World) (hs : s < 18446744073709551616) :
    Calls Try.prog 25 #[.agg #[.int .u64 (p : Int), .int .u64 (q : Int), .int .u64 (r : Int)], .int .u64 (s : Int), .int .u64 (now : Int)] w fun e w' => e = .returned (.tuple #[.int .u64 ((levelV p q r s now).1 : Int), .int .i64 (levelV p q r s now).2]) ∧ Chg [] w w' := by
  by_cases hm : mayV p q r [now] = 0
  · rw [show levelV p q r s now = (levelN p q r s now, 0) by unfold levelV; rw [if_pos hm]]
    exact level_ok p q r s now w hm hs
  · rw [show levelV p q r s now = (0, mayV p q r [now]) by unfold levelV; rw [if_neg hm]]
    exact level_no p q r s now w hm
theorem most_all (p q r now : Nat) (w : World) :
    Calls Try.prog 20 #[.agg #[.int .u64 (p : Int), .int .u64 (q : Int), .int .u64 (r : Int)], .int .u64 (now : Int)] w fun e w' => e = .returned (.tuple #[.int .u64 ((mostV p q r now).1 : Int), .int .i64 (mostV p q r now).2]) ∧ Chg [] w w' := by
  by_cases hm : mayV p q r [now] = 0
  · rw [show mostV p q r now = (mostN p q r now, 0) by unfold mostV; rw [if_pos hm]]
    exact most_ok p q r now w hm
  · rw [show mostV p q r now = (0, mayV p q r [now]) by unfold mostV; rw [if_neg hm]]
    exact most_no p q r now w hm
theorem when_all (p q r s now n : Nat) (w : World) (hs : s < 18446744073709551616) (hn : n < 18446744073709551616) :
    Calls Try.prog 27 #[.agg #[.int .u64 (p : Int), .int .u64 (q : Int), .int .u64 (r : Int)], .int .u64 (s : Int), .int .u64 (now : Int), .int .u64 (n : Int)] w fun e w' => e = .returned (.tuple #[.int .u64 ((whenV p q r s now n).1 : Int), .bool (whenV p q r s now n).2.1, .int .i64 (whenV p q r s now n).2.2]) ∧ Chg [] w w' := by
  by_cases hm : mayV p q r [now] = 0
  · rw [show whenV p q r s now n = ((whenN p q r s now n).1, (whenN p q r s now n).2, 0) by unfold whenV; rw [if_pos hm]]
    exact when_ok p q r s now n w hm hs hn
  · rw [show whenV p q r s now n = (0, false, mayV p q r [now]) by unfold whenV; rw [if_neg hm]]
    exact when_no p q r s now n w hm

/-- A bucket and an ask in their boxes. -/
structure TwoB (w : World) (g p q r s now n : Nat) : Prop where
  b : BoxB w g p q r
  x : Blk w (g + 1) 48 [.int .u64 (s : Int), .int .u64 (now : Int), .int .u64 (n : Int)]
theorem TwoB.chg {w w' : World} {g p q r s now n : Nat} (h : TwoB w g p q r s now n) (hc : Chg [] w w') : TwoB w' g p q r s now n := ⟨h.b.chg hc, h.x.chg hc (by simp)⟩
theorem TwoB.cells {w : World} {g p q r s now n : Nat} (h : TwoB w g p q r s now n) :
    w.cell? ⟨g, 0, none⟩ = some (.int .u64 (p : Int)) ∧ w.cell? ⟨g, 1, none⟩ = some (.int .u64 (q : Int)) ∧ w.cell? ⟨g, 2, none⟩ = some (.int .u64 (r : Int)) ∧
    w.cell? ⟨g + 1, 0, none⟩ = some (.int .u64 (s : Int)) ∧ w.cell? ⟨g + 1, 1, none⟩ = some (.int .u64 (now : Int)) ∧ w.cell? ⟨g + 1, 2, none⟩ = some (.int .u64 (n : Int)) :=
  ⟨h.b.cells.1, h.b.cells.2.1, h.b.cells.2.2.1, h.x.cell_of rfl, h.x.cell_of rfl, h.x.cell_of rfl⟩

set_option maxHeartbeats 4000000 in
set_option maxRecDepth 100000 in
theorem tells_any (p q r s now n : Nat) (w : World) (hs : s < 18446744073709551616) (hn : n < 18446744073709551616) :
    Calls Try.prog 7 #[.agg #[.int .u64 (p : Int), .int .u64 (q : Int), .int .u64 (r : Int)], .agg #[.int .u64 (s : Int), .int .u64 (now : Int), .int .u64 (n : Int)]] w fun e w' => e = .returned (.bool true) ∧ Chg [] w w' := by
  have c22 := cls_of (check_any p q r)
  have c23 := cls_of (rCheck_any p q r)
  have h19 := fun W => take_any p q r s now n W hs hn
  have h24 := fun W => rTake_any p q r s now n W hs hn
  have h25 := fun W => level_all p q r s now W hs
  have h26 := fun W => rLevel_any p q r s now W hs
  have h27 := fun W => when_all p q r s now n W hs hn
  have h28 := fun W => rWhen_any p q r s now n W hs hn
  have h20 := fun W => most_all p q r now W
  have h29 := fun W => rMost_any p q r now W
  obtain ⟨v190, hv190⟩ : ∃ x, x = (takeV p q r s now n).1 := ⟨_, rfl⟩
  rw [← hv190] at h19 h24
  clear hv190
  obtain ⟨v191, hv191⟩ : ∃ x, x = (takeV p q r s now n).2.1 := ⟨_, rfl⟩
  rw [← hv191] at h19 h24
  clear hv191
  obtain ⟨v192, hv192⟩ : ∃ x, x = (takeV p q r s now n).2.2 := ⟨_, rfl⟩
  rw [← hv192] at h19 h24
  clear hv192
  obtain ⟨v250, hv250⟩ : ∃ x, x = (levelV p q r s now).1 := ⟨_, rfl⟩
  rw [← hv250] at h25 h26
  clear hv250
  obtain ⟨v251, hv251⟩ : ∃ x, x = (levelV p q r s now).2 := ⟨_, rfl⟩
  rw [← hv251] at h25 h26
  clear hv251
  obtain ⟨v270, hv270⟩ : ∃ x, x = (whenV p q r s now n).1 := ⟨_, rfl⟩
  rw [← hv270] at h27 h28
  clear hv270
  obtain ⟨v271, hv271⟩ : ∃ x, x = (whenV p q r s now n).2.1 := ⟨_, rfl⟩
  rw [← hv271] at h27 h28
  clear hv271
  obtain ⟨v272, hv272⟩ : ∃ x, x = (whenV p q r s now n).2.2 := ⟨_, rfl⟩
  rw [← hv272] at h27 h28
  clear hv272
  obtain ⟨v200, hv200⟩ : ∃ x, x = (mostV p q r now).1 := ⟨_, rfl⟩
  rw [← hv200] at h20 h29
  clear hv200
  obtain ⟨v201, hv201⟩ : ∃ x, x = (mostV p q r now).2 := ⟨_, rfl⟩
  rw [← hv201] at h20 h29
  clear hv201
  have H19 := hid h19
  clear h19
  have H24 := hid h24
  clear h24
  have H25 := hid h25
  clear h25
  have H26 := hid h26
  clear h26
  have H27 := hid h27
  clear h27
  have H28 := hid h28
  clear h28
  have H20 := hid h20
  clear h20
  have H29 := hid h29
  clear h29
  obtain ⟨cv, hcv⟩ : ∃ x, x = checkV p q r := ⟨_, rfl⟩
  rw [← hcv] at c22 c23
  have H22 := hid c22
  have H23 := hid c23
  clear hcv c22 c23
  have T0 : TwoB ((w.alloc (.cells #[.int .u64 (p : Int), .int .u64 (q : Int), .int .u64 (r : Int)] 24)).alloc (.cells #[.int .u64 (s : Int), .int .u64 (now : Int), .int .u64 (n : Int)] 48)) w.heap.size p q r s now n :=
    ⟨(Blk.new w 24 #[.int .u64 (p : Int), .int .u64 (q : Int), .int .u64 (r : Int)]).alloc _, Blk.new_at _ 48 #[.int .u64 (s : Int), .int .u64 (now : Int), .int .u64 (n : Int)] (by simp)⟩
  have C0 := hid (((Chg.refl [] w).alloc (.cells #[.int .u64 (p : Int), .int .u64 (q : Int), .int .u64 (r : Int)] 24)).alloc (.cells #[.int .u64 (s : Int), .int .u64 (now : Int), .int .u64 (n : Int)] 48))
  go_enter Try.func7, Try.ntmps7
  go_wp2
  obtain ⟨w0, hw0⟩ : ∃ w0, w0 = (w.alloc (.cells #[.int .u64 (p : Int), .int .u64 (q : Int), .int .u64 (r : Int)] 24)).alloc (.cells #[.int .u64 (s : Int), .int .u64 (now : Int), .int .u64 (n : Int)] 48) := ⟨_, rfl⟩
  rw [← hw0] at T0 C0
  rw [← hw0]
  clear hw0
  have d0 := cell_regrown T0.cells.1
  have d1 := cell_regrown T0.cells.2.1
  have d2 := cell_regrown T0.cells.2.2.1
  refine wp_region_quiet_below (by kernel_rfl) (by kernel_rfl) ?_
  repeat (first | go_big_quiet_step ((first | (go_at_call 22; with_reducible exact H22.out _ _ _) | (go_at_call 23; with_reducible exact H23.out _ _ _))) | quiet_step ((first | (go_at_call 22; with_reducible exact H22.out _ _ _) | (go_at_call 23; with_reducible exact H23.out _ _ _))))
  refine wpQuiet_nil ?_
  intro w1 hw1
  have C1 := chg_cls hw1
  have K1 := hid (C0.out.trans C1)
  have T1 := T0.chg C1
  clear hw1 C1 d0 d1 d2
  obtain ⟨e10, e11, e12, e13, e14, e15⟩ := T1.cells
  go_wp2_with (first
    | (go_at_call 19; refine (H19.out _).mono ?_; rintro e w2 ⟨rfl, hC⟩; have K2 := hid (K1.out.trans hC); have T2 := T1.chg hC; clear hC; obtain ⟨e20, e21, e22, e23, e24, e25⟩ := T2.cells)
    | (go_at_call 24; refine (H24.out _).mono ?_; rintro e w3 ⟨rfl, hC⟩; have K3 := hid (K2.out.trans hC); have T3 := T2.chg hC; clear hC; obtain ⟨e30, e31, e32, e33, e34, e35⟩ := T3.cells)
    | (go_at_call 25; refine (H25.out _).mono ?_; rintro e w4 ⟨rfl, hC⟩; have K4 := hid (K3.out.trans hC); have T4 := T3.chg hC; clear hC; obtain ⟨e40, e41, e42, e43, e44, e45⟩ := T4.cells)
    | (go_at_call 26; refine (H26.out _).mono ?_; rintro e w5 ⟨rfl, hC⟩; have K5 := hid (K4.out.trans hC); have T5 := T4.chg hC; clear hC; obtain ⟨e50, e51, e52, e53, e54, e55⟩ := T5.cells)
    | (go_at_call 27; refine (H27.out _).mono ?_; rintro e w6 ⟨rfl, hC⟩; have K6 := hid (K5.out.trans hC); have T6 := T5.chg hC; clear hC; obtain ⟨e60, e61, e62, e63, e64, e65⟩ := T6.cells)
    | (go_at_call 28; refine (H28.out _).mono ?_; rintro e w7 ⟨rfl, hC⟩; have K7 := hid (K6.out.trans hC); have T7 := T6.chg hC; clear hC; obtain ⟨e70, e71, e72, e73, e74, e75⟩ := T7.cells)
    | (go_at_call 20; refine (H20.out _).mono ?_; rintro e w8 ⟨rfl, hC⟩; have K8 := hid (K7.out.trans hC); have T8 := T7.chg hC; clear hC; obtain ⟨e80, e81, e82, e83, e84, e85⟩ := T8.cells)
    | (go_at_call 29; refine (H29.out _).mono ?_; rintro e w9 ⟨rfl, hC⟩; have K9 := hid (K8.out.trans hC); have T9 := T8.chg hC; clear hC; obtain ⟨e90, e91, e92, e93, e94, e95⟩ := T9.cells)
    | (go_at_call 17; refine (works_any _).mono ?_; rintro e w10 ⟨rfl, hC⟩; have K10 := hid (K9.out.trans hC); clear hC))
  go_ret
  exact ⟨rfl, K10.out⟩
end Go.Proofs.Ythhddmamlpnjpaa
