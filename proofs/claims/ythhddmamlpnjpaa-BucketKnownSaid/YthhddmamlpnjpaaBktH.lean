/- The reference's Take and Most, walked. -/
import Derived.Test.YthhddmamlpnjpaaBktG
import Derived.Lib.QuietBelow
namespace Go.Proofs.Ythhddmamlpnjpaa
open Go.RowKit Go.Lib Go.Sort

def hiW (A : Nat) : Nat := A / 18446744073709551616
def loW (A : Nat) : Nat := A % 18446744073709551616
theorem two_W (A : Nat) : two (hiW A) (loW A) = A := by unfold two hiW loW; omega
theorem loW_lt (A : Nat) : loW A < 18446744073709551616 := by unfold loW; omega
theorem hiW_lt {A : Nat} (h : A < W2) : hiW A < 18446744073709551616 := by unfold W2 at h; unfold hiW; omega
theorem W_of_two {h l : Nat} (hl : l < 18446744073709551616) : hiW (two h l) = h ∧ loW (two h l) = l := by unfold hiW loW two; omega
theorem loW_of {A : Nat} (h : A < 18446744073709551616) : loW A = A := by unfold loW; omega

theorem field_lo (a b : Value) (w : World) : (Instr.field 71 (.agg #[a, b]) 1).run Try.prog w = .ok b w := by kernel_rfl
theorem field_hi (a b : Value) (w : World) : (Instr.field 71 (.agg #[a, b]) 0).run Try.prog w = .ok a w := by kernel_rfl

/-- A two-word number as a value. -/
def wideVal (A : Nat) : Value := .agg #[.int .u64 (hiW A : Int), .int .u64 (loW A : Int)]
theorem wide_det {A : Nat} {w w' : World} {e : Ending} (h : WidePost A w e w') : e = .returned (.agg #[.int .u64 (hiW A : Int), .int .u64 (loW A : Int)]) ∧ Chg [] w w' := by
  obtain ⟨h, l, he, _, hl, hA, hc⟩ := h
  obtain ⟨e1, e2⟩ := W_of_two (h := h) hl
  rw [hA] at e1 e2
  exact ⟨by rw [e1, e2]; exact he, hc⟩

theorem cls_of {P : Program} {f : FuncId} {args : Array Value} {v : Value} (h : ∀ W, Calls P f args W fun e w' => e = .returned v ∧ Chg [] W w') (w : World) (d : Nat) (os : Array Obj) :
    Calls P f args (grow (redrawn w d) os) fun e w'' => e = .returned v ∧ ∃ p : Regrown, w'' = grow (redrawn w p.d) p.os :=
  Calls.regrown_of ((h _).mono fun _ _ ⟨h1, h2⟩ => ⟨h1, h2.below (by simp) (Nat.le_refl _)⟩)
theorem wide_cls {P : Program} {f : FuncId} {args : Array Value} {A : Nat} (h : ∀ W, Calls P f args W (WidePost A W)) (w : World) (d : Nat) (os : Array Obj) :
    Calls P f args (grow (redrawn w d) os) fun e w'' => e = .returned (.agg #[.int .u64 (hiW A : Int), .int .u64 (loW A : Int)]) ∧ ∃ p : Regrown, w'' = grow (redrawn w p.d) p.os :=
  cls_of (fun W => (h W).mono fun _ _ h => wide_det h) w d os

theorem rPlus_W (A B : Nat) (hA : A < W2) (hB : B < W2) (hAB : A + B < W2) (W : World) :
    Calls Try.prog 44 #[.agg #[.int .u64 (hiW A : Int), .int .u64 (loW A : Int)], .agg #[.int .u64 (hiW B : Int), .int .u64 (loW B : Int)]] W (WidePost (A + B) W) := by
  have h := rPlus_any (hiW A) (loW A) (hiW B) (loW B) W (hiW_lt hA) (loW_lt A) (hiW_lt hB) (loW_lt B)
  rw [two_W, two_W, Nat.mod_eq_of_lt hAB] at h
  exact h
theorem rMinus_W (A B : Nat) (hA : A < W2) (hB : B < W2) (hBA : B ≤ A) (W : World) :
    Calls Try.prog 47 #[.agg #[.int .u64 (hiW A : Int), .int .u64 (loW A : Int)], .agg #[.int .u64 (hiW B : Int), .int .u64 (loW B : Int)]] W (WidePost (A - B) W) := by
  have h := rMinus_any (hiW A) (loW A) (hiW B) (loW B) W (hiW_lt hA) (loW_lt A) (hiW_lt hB) (loW_lt B) (by rw [two_W, two_W]; exact hBA)
  rw [two_W, two_W] at h
  exact h
theorem rAbove_W (A B : Nat) (W : World) :
    Calls Try.prog 43 #[.agg #[.int .u64 (hiW A : Int), .int .u64 (loW A : Int)], .agg #[.int .u64 (hiW B : Int), .int .u64 (loW B : Int)]] W fun e w' => e = .returned (.bool (decide (B < A))) ∧ Chg [] W w' := by
  have h := rAbove_any (hiW A) (loW A) (hiW B) (loW B) W (loW_lt A) (loW_lt B)
  rw [two_W, two_W] at h
  exact h
theorem rAt_W (p q r s now : Nat) (hp : p ≤ 65536) (hn : now ≤ 1099511627776) (hs : s < 18446744073709551616) (W : World) :
    Calls Try.prog 42 #[.agg #[.int .u64 (p : Int), .int .u64 (q : Int), .int .u64 (r : Int)], .int .u64 (s : Int), .int .u64 (now : Int)] W fun e w' =>
      e = .returned (.tuple #[.agg #[.int .u64 (hiW (standV p s now) : Int), .int .u64 (loW (standV p s now) : Int)], .agg #[.int .u64 (hiW (aheadV p s now) : Int), .int .u64 (loW (aheadV p s now) : Int)]]) ∧ Chg [] W w' :=
  (rAt_any p q r s now W hp hn hs).mono fun e w' ⟨h, l, k, m, he, _, hl, _, hm, hA, hB, hc⟩ => by
    obtain ⟨e1, e2⟩ := W_of_two (h := h) hl
    obtain ⟨e3, e4⟩ := W_of_two (h := k) hm
    rw [hA] at e1 e2
    rw [hB] at e3 e4
    exact ⟨by rw [e1, e2, e3, e4]; exact he, hc⟩

set_option maxHeartbeats 1000000 in
theorem rTake_no (p q r s now n : Nat) (w : World) (hm : mayV p q r [now] ≠ 0) :
    Calls Try.prog 24 #[.agg #[.int .u64 (p : Int), .int .u64 (q : Int), .int .u64 (r : Int)], .int .u64 (s : Int), .int .u64 (now : Int), .int .u64 (n : Int)] w fun e w' => e = .returned (.tuple #[.int .u64 0, .bool false, .int .i64 (mayV p q r [now])]) ∧ Chg [] w w' := by
  obtain ⟨m, hmm⟩ : ∃ m, m = mayV p q r [now] := ⟨_, rfl⟩
  have hne : (m == 0) = false := beq_eq_false_iff_ne.2 (by rw [hmm]; exact hm)
  have hne2 : (m != 0) = true := by rw [bne_iff_ne]; rw [hmm]; exact hm
  have HM := hid (fun W => rWrong_any p q r now W)
  rw [← hmm] at HM ⊢
  clear hmm hm
  go_enter Try.func24, Try.ntmps24
  go_wp2_with (go_at_call 41; refine (HM.out _).mono ?_; rintro e w1 ⟨rfl, hC1⟩)
  go_ret3
  exact ⟨rfl, ((Chg.refl [] w).alloc _).trans hC1⟩

set_option maxHeartbeats 2000000 in
set_option maxRecDepth 100000 in
theorem rTake_ok (p q r s now n : Nat) (w : World) (hm : mayV p q r [now] = 0) (hs : s < 18446744073709551616) (hn : n < 18446744073709551616) :
    Calls Try.prog 24 #[.agg #[.int .u64 (p : Int), .int .u64 (q : Int), .int .u64 (r : Int)], .int .u64 (s : Int), .int .u64 (now : Int), .int .u64 (n : Int)] w fun e w' => e = .returned (.tuple #[.int .u64 (takeS p q r s now n : Int), .bool (takeB p q r s now n), .int .i64 0]) ∧ Chg [] w w' := by
  obtain ⟨hok, hnow⟩ := may_one_ok hm
  have HM := hid (fun W => rWrong_any p q r now W)
  rw [hm] at HM
  obtain ⟨sb1, sb2, sb3⟩ := stand_bound hok.2.1 hnow hs
  have hq : q < 18446744073709551616 := by have := hok.2.2.2.1; omega
  have hr : r < 18446744073709551616 := by have := hok.2.2.2.2.2; omega
  have hnq : n * q ≤ 18446744073709551615 * 65536 := Nat.mul_le_mul (by omega) hok.2.2.2.1
  have HA := hid (rAt_W p q r s now hok.2.1 hnow hs)
  have HTN := hid (wide_cls (fun W => rTimes_any n q W hn hq))
  have HTR := hid (wide_cls (fun W => rTimes_any r q W hr hq))
  have HP1 := hid (wide_cls (rPlus_W (aheadV p s now) (n * q) (by unfold W2; omega) (by unfold W2; omega) (by unfold W2; omega)))
  have HP2 := hid (wide_cls (rPlus_W (standV p s now) (n * q) (by unfold W2; omega) (by unfold W2; omega) (by unfold W2; omega)))
  have HAB := hid (cls_of (rAbove_W (aheadV p s now + n * q) (r * q)))
  have HOK := hid hok
  have hrqb : r * q ≤ 68719476736 := Nat.mul_le_mul hok.2.2.2.2.2 hok.2.2.2.1
  have hbd : takeB p q r s now n = true → standV p s now + n * q < 18446744073709551616 := by
    intro h
    have := of_decide_eq_true h
    omega
  have HBD := hid hbd
  clear hm hok sb1 sb2 sb3 hq hr hnq hrqb hbd
  have B0 : Blk (w.alloc (.cells #[.int .u64 (p : Int), .int .u64 (q : Int), .int .u64 (r : Int)] 24)) w.heap.size 24 [.int .u64 (p : Int), .int .u64 (q : Int), .int .u64 (r : Int)] := Blk.new w 24 #[.int .u64 (p : Int), .int .u64 (q : Int), .int .u64 (r : Int)]
  obtain ⟨th, hth⟩ : ∃ x : Nat, x = hiW (standV p s now) := ⟨_, rfl⟩
  obtain ⟨tl, htl⟩ : ∃ x : Nat, x = loW (standV p s now) := ⟨_, rfl⟩
  obtain ⟨ah, hah⟩ : ∃ x : Nat, x = hiW (aheadV p s now) := ⟨_, rfl⟩
  obtain ⟨al, hal⟩ : ∃ x : Nat, x = loW (aheadV p s now) := ⟨_, rfl⟩
  rw [← hth, ← htl, ← hah, ← hal] at HA
  rw [← hth, ← htl] at HP2
  rw [← hah, ← hal] at HP1
  clear hth htl hah hal
  have hab : decide (r * q < aheadV p s now + n * q) = !(takeB p q r s now n) := by
    unfold takeB
    by_cases h : aheadV p s now + n * q ≤ r * q
    · simp [h]
    · simp [h]; omega
  rw [hab] at HAB
  clear hab
  go_enter Try.func24, Try.ntmps24
  go_wp2_with (first
    | (go_at_call 41; refine (HM.out _).mono ?_; rintro e w1 ⟨rfl, hC1⟩; have B1 := B0.chg hC1 (by simp); have b10 := B1.cell_of (i := 0) rfl; have b11 := B1.cell_of (i := 1) rfl; have b12 := B1.cell_of (i := 2) rfl)
    | (go_at_call 42; refine (HA.out _).mono ?_; rintro e w2 ⟨rfl, hC2⟩; have B2 := B1.chg hC2 (by simp); have b20 := B2.cell_of (i := 0) rfl; have b21 := B2.cell_of (i := 1) rfl; have b22 := B2.cell_of (i := 2) rfl))
  obtain ⟨w3, hw3⟩ : ∃ w3, w3 = (w2.alloc (.cells #[.int .u64 (th : Int), .int .u64 (tl : Int)] 71)).alloc (.cells #[.int .u64 (ah : Int), .int .u64 (al : Int)] 71) := ⟨_, rfl⟩
  have T3 : Blk w3 w2.heap.size 71 [.int .u64 (th : Int), .int .u64 (tl : Int)] := by rw [hw3]; exact (Blk.new w2 71 #[.int .u64 (th : Int), .int .u64 (tl : Int)]).alloc _
  have A3 : Blk w3 (w2.heap.size + 1) 71 [.int .u64 (ah : Int), .int .u64 (al : Int)] := by
    have h' := Blk.new (w2.alloc (.cells #[.int .u64 (th : Int), .int .u64 (tl : Int)] 71)) 71 #[.int .u64 (ah : Int), .int .u64 (al : Int)]
    rw [show (w2.alloc (.cells #[.int .u64 (th : Int), .int .u64 (tl : Int)] 71)).heap.size = w2.heap.size + 1 by simp] at h'
    rw [hw3]; exact h'
  have B3 : Blk w3 w.heap.size 24 [.int .u64 (p : Int), .int .u64 (q : Int), .int .u64 (r : Int)] := by rw [hw3]; exact (B2.alloc _).alloc _
  have C3 : Chg [] w w3 := by rw [hw3]; exact (((((Chg.refl [] w).alloc _).trans hC1).trans hC2).alloc _).alloc _
  rw [← hw3]
  clear hw3 b10 b11 b12 b20 b21 b22 B0 B1 B2
  have b31 := cell_regrown (B3.cell_of (i := 1) rfl)
  have b32 := cell_regrown (B3.cell_of (i := 2) rfl)
  have a30 := cell_regrown (A3.cell_of (i := 0) rfl)
  have a31 := cell_regrown (A3.cell_of (i := 1) rfl)
  have HC3 := hid C3
  clear C3 hC1 hC2
  refine wp_region_quiet_below (by kernel_rfl) (by kernel_rfl) ?_
  repeat (quiet_step (first
    | (go_at_call 45; with_reducible exact HTN.out _ _ _)
    | (go_at_call 45; with_reducible exact HTR.out _ _ _)
    | (go_at_call 44; with_reducible exact HP1.out _ _ _)
    | (go_at_call 43; with_reducible exact HAB.out _ _ _)))
  refine wpQuiet_nil ?_
  intro _ hw'
  obtain ⟨⟨dq, osq⟩, hw''⟩ := hw'
  obtain ⟨w5, hw5⟩ : ∃ w5, w5 = grow (redrawn w3 dq) osq := ⟨_, rfl⟩
  have C5 : Chg [] w3 w5 := by rw [hw5]; exact Chg.of_below (below_regrown w3 dq osq)
  rw [← hw5] at hw''
  subst hw''
  clear hw5 b31 b32 a30 a31
  have T5 := T3.chg C5 (by simp)
  have B5 := B3.chg C5 (by simp)
  have HCC := hid (HC3.out.trans C5)
  clear C5
  cases htb : takeB p q r s now n with
  | false =>
    have HTS := hid (show takeS p q r s now n = s by unfold takeS; rw [htb]; rfl)
    go_wp2
    go_ret3
    exact ⟨by rw [HTS.out, htb]; rfl, HCC.out⟩
  | true =>
    have b31 := cell_regrown (B5.cell_of (i := 1) rfl)
    have t30 := cell_regrown (T5.cell_of (i := 0) rfl)
    have t31 := cell_regrown (T5.cell_of (i := 1) rfl)
    have HTS := hid (show takeS p q r s now n = loW (standV p s now + n * q) by unfold takeS; rw [htb, loW_of (HBD.out htb)]; rfl)
    have fl := field_lo
    go_wp2
    refine wp_region_quiet_below (by kernel_rfl) (by kernel_rfl) ?_
    repeat (quiet_step (first
      | (go_at_call 45; with_reducible exact HTN.out _ _ _)
      | (go_at_call 44; with_reducible exact HP2.out _ _ _)))
    refine wpQuiet_nil ?_
    intro _ hw'
    obtain ⟨⟨dr, osr⟩, hw''⟩ := hw'
    subst hw''
    go_wp2
    go_ret3
    exact ⟨by rw [HTS.out, htb]; rfl, HCC.out.trans (Chg.of_below (below_regrown _ _ _))⟩

theorem rTake_any (p q r s now n : Nat) (w : World) (hs : s < 18446744073709551616) (hn : n < 18446744073709551616) :
    Calls Try.prog 24 #[.agg #[.int .u64 (p : Int), .int .u64 (q : Int), .int .u64 (r : Int)], .int .u64 (s : Int), .int .u64 (now : Int), .int .u64 (n : Int)] w fun e w' => e = .returned (.tuple #[.int .u64 ((takeV p q r s now n).1 : Int), .bool (takeV p q r s now n).2.1, .int .i64 (takeV p q r s now n).2.2]) ∧ Chg [] w w' := by
  by_cases hm : mayV p q r [now] = 0
  · rw [show takeV p q r s now n = (takeS p q r s now n, takeB p q r s now n, 0) by unfold takeV; rw [if_pos hm]]
    exact rTake_ok p q r s now n w hm hs hn
  · rw [show takeV p q r s now n = (0, false, mayV p q r [now]) by unfold takeV; rw [if_neg hm]]
    exact rTake_no p q r s now n w hm

set_option maxHeartbeats 1000000 in
theorem rMost_no (p q r now : Nat) (w : World) (hm : mayV p q r [now] ≠ 0) :
    Calls Try.prog 29 #[.agg #[.int .u64 (p : Int), .int .u64 (q : Int), .int .u64 (r : Int)], .int .u64 (now : Int)] w fun e w' => e = .returned (.tuple #[.int .u64 0, .int .i64 (mayV p q r [now])]) ∧ Chg [] w w' := by
  obtain ⟨m, hmm⟩ : ∃ m, m = mayV p q r [now] := ⟨_, rfl⟩
  have hne : (m == 0) = false := beq_eq_false_iff_ne.2 (by rw [hmm]; exact hm)
  have hne2 : (m != 0) = true := by rw [bne_iff_ne]; rw [hmm]; exact hm
  have HM := hid (fun W => rWrong_any p q r now W)
  rw [← hmm] at HM ⊢
  clear hmm hm
  go_enter Try.func29, Try.ntmps29
  go_wp2_with (go_at_call 41; refine (HM.out _).mono ?_; rintro e w1 ⟨rfl, hC1⟩)
  go_ret2
  exact ⟨rfl, ((Chg.refl [] w).alloc _).trans hC1⟩

set_option maxHeartbeats 2000000 in
theorem rMost_ok (p q r now : Nat) (w : World) (hm : mayV p q r [now] = 0) :
    Calls Try.prog 29 #[.agg #[.int .u64 (p : Int), .int .u64 (q : Int), .int .u64 (r : Int)], .int .u64 (now : Int)] w fun e w' => e = .returned (.tuple #[.int .u64 (mostN p q r now : Int), .int .i64 0]) ∧ Chg [] w w' := by
  obtain ⟨hok, hnow⟩ := may_one_ok hm
  have HM := hid (fun W => rWrong_any p q r now W)
  rw [hm] at HM
  obtain ⟨np, hnp⟩ : ∃ x, x = now * p := ⟨_, rfl⟩
  have hnpb : np ≤ 72057594037927936 := by rw [hnp]; exact Nat.mul_le_mul hnow hok.2.1
  have q1 : (now : Int) * (p : Int) = (np : Int) := by rw [hnp]; simp
  have hq1 : 1 ≤ q := hok.2.2.1
  have hq0 : (1 : Int) ≤ (q : Int) := by omega
  obtain ⟨dq, hdq⟩ : ∃ x, x = np / q := ⟨_, rfl⟩
  have q2 : (np : Int) / (q : Int) = (dq : Int) := by rw [hdq]; simp
  have hdb : dq ≤ 72057594037927936 := by rw [hdq]; exact Nat.le_trans (Nat.div_le_self _ _) hnpb
  have hr : r ≤ 1048576 := hok.2.2.2.2.2
  have HV := hid (show ((mostN p q r now : Nat) : Int) = (r : Int) + (dq : Int) by unfold mostN; rw [hdq, hnp]; simp)
  have hwr : IntKind.u64.wrap ((r : Int) + (dq : Int)) = (r : Int) + (dq : Int) := by rw [IntKind.wrap_u64]; omega
  have hwn : IntKind.u64.wrap (np : Int) = (np : Int) := by rw [IntKind.wrap_u64]; omega
  have B0 : Blk (w.alloc (.cells #[.int .u64 (p : Int), .int .u64 (q : Int), .int .u64 (r : Int)] 24)) w.heap.size 24 [.int .u64 (p : Int), .int .u64 (q : Int), .int .u64 (r : Int)] := Blk.new w 24 #[.int .u64 (p : Int), .int .u64 (q : Int), .int .u64 (r : Int)]
  clear hm hok hnp hdq hq1
  go_enter Try.func29, Try.ntmps29
  go_wp2_with (go_at_call 41; refine (HM.out _).mono ?_; rintro e w1 ⟨rfl, hC1⟩; have B1 := B0.chg hC1 (by simp); have b10 := cell_regrown (B1.cell_of (i := 0) rfl); have b11 := cell_regrown (B1.cell_of (i := 1) rfl); have b12 := cell_regrown (B1.cell_of (i := 2) rfl))
  refine wp_region_quiet_below (by kernel_rfl) (by kernel_rfl) ?_
  repeat (first | go_big_quiet_step (fail) | quiet_step (fail))
  refine wpQuiet_nil ?_
  intro _ hw'
  obtain ⟨⟨dr, osr⟩, hw''⟩ := hw'
  subst hw''
  go_wp2
  go_ret2
  exact ⟨by rw [HV.out]; rfl, (((Chg.refl [] w).alloc _).trans hC1).trans (Chg.of_below (below_regrown _ _ _))⟩

theorem rMost_any (p q r now : Nat) (w : World) :
    Calls Try.prog 29 #[.agg #[.int .u64 (p : Int), .int .u64 (q : Int), .int .u64 (r : Int)], .int .u64 (now : Int)] w fun e w' => e = .returned (.tuple #[.int .u64 ((mostV p q r now).1 : Int), .int .i64 (mostV p q r now).2]) ∧ Chg [] w w' := by
  by_cases hm : mayV p q r [now] = 0
  · rw [show mostV p q r now = (mostN p q r now, 0) by unfold mostV; rw [if_pos hm]]
    exact rMost_ok p q r now w hm
  · rw [show mostV p q r now = (0, mayV p q r [now]) by unfold mostV; rw [if_neg hm]]
    exact rMost_no p q r now w hm
end Go.Proofs.Ythhddmamlpnjpaa
