/- The reference's wrong and at, walked. -/
import Derived.Test.YthhddmamlpnjpaaBktF
import Derived.Deep.RegionHeld3
import Derived.Deep.DrawnRows
namespace Go.Proofs.Ythhddmamlpnjpaa
open Go.RowKit Go.Lib

attribute [local go_sem ↓] Go.wp_at_zero Go.wp_at_succ

theorem mayV_one (p q r now : Nat) : mayV p q r [now] = if OkB p q r then (if now ≤ 1099511627776 then 0 else 5) else 2 := by
  unfold mayV; simp

set_option maxHeartbeats 1000000 in
theorem rWrong_any (p q r now : Nat) (w : World) :
    Calls Try.prog 41 #[.agg #[.int .u64 (p : Int), .int .u64 (q : Int), .int .u64 (r : Int)], .int .u64 (now : Int)] w fun e w' => e = .returned (.int .i64 (mayV p q r [now])) ∧ Chg [] w w' := by
  have hv := mayV_one p q r now
  by_cases hok : OkB p q r
  · have hc : checkV p q r = 0 := by unfold checkV; rw [if_pos hok]
    rw [if_pos hok] at hv
    clear hok
    by_cases hn : (1099511627776 : Int) < (now : Int)
    · rw [if_neg (by omega)] at hv
      rw [hv]
      clear hv
      go_enter Try.func41, Try.ntmps41
      go_wp2_with (go_at_call 23; refine (rCheck_any p q r _).mono ?_; rw [hc]; rintro e w1 ⟨rfl, hC1⟩)
      go_ret
      exact ⟨rfl, ((Chg.refl [] w).alloc _).trans hC1⟩
    · rw [if_pos (by omega)] at hv
      rw [hv]
      clear hv
      go_enter Try.func41, Try.ntmps41
      go_wp2_with (go_at_call 23; refine (rCheck_any p q r _).mono ?_; rw [hc]; rintro e w1 ⟨rfl, hC1⟩)
      go_ret
      exact ⟨rfl, ((Chg.refl [] w).alloc _).trans hC1⟩
  · have hc : checkV p q r = 2 := by unfold checkV; rw [if_neg hok]
    rw [if_neg hok] at hv
    rw [hv]
    clear hok hv
    go_enter Try.func41, Try.ntmps41
    go_wp2_with (go_at_call 23; refine (rCheck_any p q r _).mono ?_; rw [hc]; rintro e w1 ⟨rfl, hC1⟩)
    go_ret
    exact ⟨rfl, ((Chg.refl [] w).alloc _).trans hC1⟩

def TwoAt (W : World) (g k : Nat) (a b c d : Value) : Prop := Blk W g 71 [a, b] ∧ Blk W k 71 [c, d]
theorem two_at {W : World} {g k : Nat} {a b c d : Value} (h1 : Blk W g 71 [a, b]) (h2 : Blk W k 71 [c, d]) : W.cell? ⟨g, 0, none⟩ = some a ∧ W.cell? ⟨g, 1, none⟩ = some b ∧ W.cell? ⟨k, 0, none⟩ = some c ∧ W.cell? ⟨k, 1, none⟩ = some d ∧ TwoAt W g k a b c d :=
  ⟨h1.cell_of rfl, h1.cell_of rfl, h2.cell_of rfl, h2.cell_of rfl, h1, h2⟩
def AtPost (A B : Nat) (w : World) (e : Ending) (w' : World) : Prop :=
  ∃ h l k m : Nat, e = .returned (.tuple #[.agg #[.int .u64 (h : Int), .int .u64 (l : Int)], .agg #[.int .u64 (k : Int), .int .u64 (m : Int)]]) ∧ h < 18446744073709551616 ∧ l < 18446744073709551616 ∧ k < 18446744073709551616 ∧ m < 18446744073709551616 ∧ two h l = A ∧ two k m = B ∧ Chg [] w w'

set_option maxHeartbeats 2000000 in
set_option maxRecDepth 100000 in
theorem rAt_any (p q r s now : Nat) (w : World) (hp : p ≤ 65536) (hn : now ≤ 1099511627776) (hs : s < 18446744073709551616) :
    Calls Try.prog 42 #[.agg #[.int .u64 (p : Int), .int .u64 (q : Int), .int .u64 (r : Int)], .int .u64 (s : Int), .int .u64 (now : Int)] w (AtPost (standV p s now) (aheadV p s now) w) := by
  have hT := fun W => rTimes_any now p W (by omega) (by omega)
  have hW := fun W => rWord_any s W hs
  have HT := hid hT
  have HW := hid hW
  clear hT hW
  go_enter Try.func42, Try.ntmps42
  go_wp2_with fail
  obtain ⟨W0, hW0⟩ : ∃ W0, W0 = ((w.alloc (.cells #[.int .u64 (p : Int), .int .u64 (q : Int), .int .u64 (r : Int)] 24)).alloc (.cells #[.int .u64 0, .int .u64 0] 71)).alloc (.cells #[.int .u64 0, .int .u64 0] 71) := ⟨_, rfl⟩
  have R6 : Blk W0 (w.heap.size + 1) 71 [.int .u64 0, .int .u64 0] := by
    have h := (Blk.new (w.alloc (.cells #[.int .u64 (p : Int), .int .u64 (q : Int), .int .u64 (r : Int)] 24)) 71 #[.int .u64 0, .int .u64 0]).alloc (.cells #[.int .u64 0, .int .u64 0] 71)
    rw [show (w.alloc (.cells #[.int .u64 (p : Int), .int .u64 (q : Int), .int .u64 (r : Int)] 24)).heap.size = w.heap.size + 1 by simp] at h
    rw [hW0]; exact h
  have R7 : Blk W0 (w.heap.size + 1 + 1) 71 [.int .u64 0, .int .u64 0] := by
    have h := Blk.new ((w.alloc (.cells #[.int .u64 (p : Int), .int .u64 (q : Int), .int .u64 (r : Int)] 24)).alloc (.cells #[.int .u64 0, .int .u64 0] 71)) 71 #[.int .u64 0, .int .u64 0]
    rw [show ((w.alloc (.cells #[.int .u64 (p : Int), .int .u64 (q : Int), .int .u64 (r : Int)] 24)).alloc (.cells #[.int .u64 0, .int .u64 0] 71)).heap.size = w.heap.size + 1 + 1 by simp] at h
    rw [hW0]; exact h
  have C0 : Chg [] w W0 := by rw [hW0]; exact (((Chg.refl [] w).alloc _).alloc _).alloc _
  rw [← hW0]
  have z0 := R7.lt
  clear hW0
  refine (HT.out _).mono ?_
  rintro e w1 ⟨ch, cl, rfl, hch, hcl, hcv, hC1⟩
  have z1 := hC1.size
  go_wp2_with fail
  refine (HW.out _).mono ?_
  rintro e w2 ⟨th, tl, rfl, hth, htl, htv, hC2⟩
  have K2 : Blk w2 w1.heap.size 71 [.int .u64 (ch : Int), .int .u64 (cl : Int)] := (Blk.new w1 71 #[.int .u64 (ch : Int), .int .u64 (cl : Int)]).chg hC2 (by simp)
  have P6 := ((R6.chg hC1 (by simp)).alloc (.cells #[.int .u64 (ch : Int), .int .u64 (cl : Int)] 71)).chg hC2 (by simp)
  have P7 := ((R7.chg hC1 (by simp)).alloc (.cells #[.int .u64 (ch : Int), .int .u64 (cl : Int)] 71)).chg hC2 (by simp)
  have k20 := K2.cell_of (i := 0) rfl
  have k21 := K2.cell_of (i := 1) rfl
  have z2 := K2.lt
  have C2 : Chg [] w w2 := (((C0.trans hC1).alloc _).trans hC2)
  go_wp2_with fail
  have hab : decide (two th tl < two ch cl) = decide (s < now * p) := by rw [htv, hcv]
  refine (rAbove_any ch cl th tl _ hcl htl).mono ?_
  rw [hab]
  rintro e w3 ⟨rfl, hC3⟩
  have K3 := (K2.alloc (.cells #[.int .u64 (th : Int), .int .u64 (tl : Int)] 71)).chg hC3 (by simp)
  have T3 : Blk w3 w2.heap.size 71 [.int .u64 (th : Int), .int .u64 (tl : Int)] := (Blk.new w2 71 #[.int .u64 (th : Int), .int .u64 (tl : Int)]).chg hC3 (by simp)
  have Q6 := (P6.alloc (.cells #[.int .u64 (th : Int), .int .u64 (tl : Int)] 71)).chg hC3 (by simp)
  have Q7 := (P7.alloc (.cells #[.int .u64 (th : Int), .int .u64 (tl : Int)] 71)).chg hC3 (by simp)
  have k30 := K3.cell_of (i := 0) rfl
  have k31 := K3.cell_of (i := 1) rfl
  have t30 := T3.cell_of (i := 0) rfl
  have t31 := T3.cell_of (i := 1) rfl
  have tf0 := T3.frozen 0
  have tf1 := T3.frozen 1
  have C3 : Chg [] w w3 := (C2.alloc _).trans hC3
  have z3 := T3.lt
  have HTV := hid htv
  have HCV := hid hcv
  clear hab htv hcv
  by_cases hlt : s < now * p
  · have hd : decide (s < now * p) = true := by simpa using hlt
    rw [hd]
    have hle : two ch cl ≤ two ch cl := Nat.le_refl _
    have HLE := hid hle
    have HLT := hid hlt
    have n1 : w2.heap.size ≠ w.heap.size + 1 := by omega
    have n2 : w1.heap.size ≠ w.heap.size + 1 := by omega
    have n3 : w2.heap.size ≠ w.heap.size + 1 + 1 := by omega
    have n4 : w1.heap.size ≠ w.heap.size + 1 + 1 := by omega
    have q60 := Q6.cell_of (i := 0) rfl
    have q61 := Q6.cell_of (i := 1) rfl
    have q70 := Q7.cell_of (i := 0) rfl
    have q71 := Q7.cell_of (i := 1) rfl
    have f60 := Q6.frozen 0
    have f61 := Q6.frozen 1
    have f70 := Q7.frozen 0
    have f71 := Q7.frozen 1
    clear hle hd
    go_wp2
    obtain ⟨w4, hw4⟩ : ∃ w4, w4 = (w3.setCell ⟨w2.heap.size, 0, none⟩ (.int .u64 (ch : Int))).setCell ⟨w2.heap.size, 1, none⟩ (.int .u64 (cl : Int)) := ⟨_, rfl⟩
    rw [← hw4]
    have T4' : Blk w4 w2.heap.size 71 [.int .u64 (ch : Int), .int .u64 (cl : Int)] := by rw [hw4]; exact (T3.set_ 0 _).set_ 1 _
    have K4' : Blk w4 w1.heap.size 71 [.int .u64 (ch : Int), .int .u64 (cl : Int)] := by rw [hw4]; exact (K3.far (by simp; omega) _).far (by simp; omega) _
    have Q7' : Blk w4 (w.heap.size + 1 + 1) 71 [.int .u64 0, .int .u64 0] := by rw [hw4]; exact (Q7.far (by simp; omega) _).far (by simp; omega) _
    have Q6' : Blk w4 (w.heap.size + 1) 71 [.int .u64 0, .int .u64 0] := by rw [hw4]; exact (Q6.far (by simp; omega) _).far (by simp; omega) _
    have C4 : Chg [] w w4 := by rw [hw4]; exact (C3.setCell (.inr (by show w.heap.size ≤ w2.heap.size; omega)) _).setCell (.inr (by show w.heap.size ≤ w2.heap.size; omega)) _
    clear hw4 q60 q61 q70 q71 f60 f61 f70 f71 t30 t31 tf0 tf1 k30 k31 C3
    have C3 := C4
    have T4 : Blk w4.drew w2.heap.size 71 [.int .u64 (ch : Int), .int .u64 (cl : Int)] := T4'
    have K4 : Blk w4.drew w1.heap.size 71 [.int .u64 (ch : Int), .int .u64 (cl : Int)] := K4'
    have t40 := T4'.cell_of (i := 0) rfl
    have t41 := T4'.cell_of (i := 1) rfl
    have k40 := K4'.cell_of (i := 0) rfl
    have k41 := K4'.cell_of (i := 1) rfl
    have q60 := Q6'.cell_of (i := 0) rfl
    have q61 := Q6'.cell_of (i := 1) rfl
    have q70 := Q7'.cell_of (i := 0) rfl
    have q71 := Q7'.cell_of (i := 1) rfl
    have f60 := Q6'.frozen 0
    have f61 := Q6'.frozen 1
    have f70 := Q7'.frozen 0
    have f71 := Q7'.frozen 1
    have HBD := hid (And.intro (And.intro hth htl) (And.intro hch hcl))
    have HN := hid (And.intro (And.intro n1 n2) (And.intro n3 n4))
    clear hth htl hch hcl n1 n2 n3 n4
    have Q7d : Blk w4.drew (w.heap.size + 1 + 1) 71 [.int .u64 0, .int .u64 0] := Q7'
    have Q6d : Blk w4.drew (w.heap.size + 1) 71 [.int .u64 0, .int .u64 0] := Q6'
    have n67 : w.heap.size + 1 + 1 ≠ w.heap.size + 1 := by omega
    have HN67 := hid n67
    clear n67
    have HCC := hid (fun W => rMinus_any ch cl ch cl W HBD.out.2.1 HBD.out.2.2 HBD.out.2.1 HBD.out.2.2 HLE.out)
    have HZ := hid (And.intro (And.intro hs (And.intro z0 z1)) (And.intro (And.intro z2 z3) C3))
    clear HLE hs hp hn K2 P6 P7 k20 k21 R6 R7 C0 hC1 hC2 hC3 z0 z1 z2 z3 C2 C3 C4 hlt
    go_region_with (first | (go_at_call 47; refine (HCC.out _).mono ?_; rintro e w5 ⟨ah, al, rfl, hah, hal, hav, hC5⟩; have S7 : Blk w5 (w.heap.size + 1 + 1) 71 [.int .u64 0, .int .u64 0] := (by first | exact Q7d.chg hC5 (by simp) | exact ((Q7d.far HN67.out _).far HN67.out _).chg hC5 (by simp)); have s70 := S7.cell_of (i := 0) rfl; have s71 := S7.cell_of (i := 1) rfl; have g70 := S7.frozen 0; have g71 := S7.frozen 1; have T5 : Blk w5 w2.heap.size 71 [.int .u64 (ch : Int), .int .u64 (cl : Int)] := (by first | exact T4.chg hC5 (by simp) | exact ((T4.far HN.out.1.1 _).far HN.out.1.1 _).chg hC5 (by simp)); have t50 := T5.cell_of (i := 0) rfl; have t51 := T5.cell_of (i := 1) rfl; have S6 : ∃ a b, Blk w5 (w.heap.size + 1) 71 [a, b] := (by first | exact ⟨_, _, Q6d.chg hC5 (by simp)⟩ | exact ⟨_, _, ((Q6d.set_ 0 _).set_ 1 _).chg hC5 (by simp)⟩); obtain ⟨sa, sb, S6⟩ := S6; have s60 := S6.cell_of (i := 0) rfl; have s61 := S6.cell_of (i := 1) rfl; have g60 := S6.frozen 0; have g61 := S6.frozen 1; have HR5 := hid (And.intro (And.intro hah hal) (And.intro hav hC5)); clear hah hal hav hC5))
    all_goals
      go_wp2

    all_goals
      obtain ⟨W9, hW9⟩ : ∃ W9, W9 = ((((w5.setCell ⟨w.heap.size + 1, 0, none⟩ (.int .u64 (ch : Int))).setCell ⟨w.heap.size + 1, 1, none⟩ (.int .u64 (cl : Int))).setCell ⟨w.heap.size + 1 + 1, 0, none⟩ (.int .u64 (ah : Int))).setCell ⟨w.heap.size + 1 + 1, 1, none⟩ (.int .u64 (al : Int))) := ⟨_, rfl⟩
      rw [← hW9]
      have X6 : Blk W9 (w.heap.size + 1) 71 [.int .u64 (ch : Int), .int .u64 (cl : Int)] := by rw [hW9]; exact (((S6.set_ 0 _).set_ 1 _).far (by simp) _).far (by simp) _
      have X7 : Blk W9 (w.heap.size + 1 + 1) 71 [.int .u64 (ah : Int), .int .u64 (al : Int)] := by rw [hW9]; exact (((S7.far (by simp) _).far (by simp) _).set_ 0 _).set_ 1 _
      have CW : Chg [] w W9 := by
        have a := HZ.out.1.2
        have C5 : Chg [] w w5 := (by first | exact HZ.out.2.2.drew.trans HR5.out.2.2 | exact ((HZ.out.2.2.drew.setCell (.inr (by show w.heap.size ≤ w.heap.size + 1; omega)) _).setCell (.inr (by show w.heap.size ≤ w.heap.size + 1; omega)) _).trans HR5.out.2.2)
        rw [hW9]
        exact (((C5.setCell (.inr (by show w.heap.size ≤ w.heap.size + 1; omega)) _).setCell (.inr (by show w.heap.size ≤ w.heap.size + 1; omega)) _).setCell (.inr (by show w.heap.size ≤ w.heap.size + 1 + 1; omega)) _).setCell (.inr (by show w.heap.size ≤ w.heap.size + 1 + 1; omega)) _
      have x60 := X6.cell_of (i := 0) rfl
      have x61 := X6.cell_of (i := 1) rfl
      have x70 := X7.cell_of (i := 0) rfl
      have x71 := X7.cell_of (i := 1) rfl
      clear hW9
      refine bodyPost_ret (v := .tuple #[.agg #[.int .u64 (ch : Int), .int .u64 (cl : Int)], .agg #[.int .u64 (ah : Int), .int .u64 (al : Int)]]) (by simp [results, Try.results42, go_sem, x60, x61, x70, x71]) rfl ⟨ch, cl, ah, al, rfl, HBD.out.2.1, HBD.out.2.2, HR5.out.1.1, HR5.out.1.2, ?_, ?_, CW⟩
      · have := HLT.out; rw [HCV.out]; unfold standV; omega
      · have := HLT.out; rw [HR5.out.2.1, HCV.out]; unfold aheadV standV; omega
  · have hd : decide (s < now * p) = false := by simpa using hlt
    rw [hd]
    have hle : two ch cl ≤ two th tl := by rw [HTV.out, HCV.out]; omega
    have HLE := hid hle
    have HLT := hid hlt
    have T4 : Blk w3.drew w2.heap.size 71 [.int .u64 (th : Int), .int .u64 (tl : Int)] := T3
    have K4 : Blk w3.drew w1.heap.size 71 [.int .u64 (ch : Int), .int .u64 (cl : Int)] := K3
    have n1 : w2.heap.size ≠ w.heap.size + 1 := by omega
    have n2 : w1.heap.size ≠ w.heap.size + 1 := by omega
    have n3 : w2.heap.size ≠ w.heap.size + 1 + 1 := by omega
    have n4 : w1.heap.size ≠ w.heap.size + 1 + 1 := by omega
    have q60 := Q6.cell_of (i := 0) rfl
    have q61 := Q6.cell_of (i := 1) rfl
    have q70 := Q7.cell_of (i := 0) rfl
    have q71 := Q7.cell_of (i := 1) rfl
    have f60 := Q6.frozen 0
    have f61 := Q6.frozen 1
    have f70 := Q7.frozen 0
    have f71 := Q7.frozen 1
    clear hle hd
    go_wp2
    have HBD := hid (And.intro (And.intro hth htl) (And.intro hch hcl))
    have HN := hid (And.intro (And.intro n1 n2) (And.intro n3 n4))
    clear hth htl hch hcl n1 n2 n3 n4
    have Q7d : Blk w3.drew (w.heap.size + 1 + 1) 71 [.int .u64 0, .int .u64 0] := Q7
    have Q6d : Blk w3.drew (w.heap.size + 1) 71 [.int .u64 0, .int .u64 0] := Q6
    have n67 : w.heap.size + 1 + 1 ≠ w.heap.size + 1 := by omega
    have HN67 := hid n67
    clear n67
    have HCC := hid (fun W => rMinus_any th tl ch cl W HBD.out.1.1 HBD.out.1.2 HBD.out.2.1 HBD.out.2.2 HLE.out)
    have HZ := hid (And.intro (And.intro hs (And.intro z0 z1)) (And.intro (And.intro z2 z3) C3))
    clear HLE hs hp hn K2 P6 P7 k20 k21 R6 R7 C0 hC1 hC2 hC3 z0 z1 z2 z3 C2 C3 hlt
    go_region_with (first | (go_at_call 47; refine (HCC.out _).mono ?_; rintro e w5 ⟨ah, al, rfl, hah, hal, hav, hC5⟩; have S7 : Blk w5 (w.heap.size + 1 + 1) 71 [.int .u64 0, .int .u64 0] := (by first | exact Q7d.chg hC5 (by simp) | exact ((Q7d.far HN67.out _).far HN67.out _).chg hC5 (by simp)); have s70 := S7.cell_of (i := 0) rfl; have s71 := S7.cell_of (i := 1) rfl; have g70 := S7.frozen 0; have g71 := S7.frozen 1; have T5 : Blk w5 w2.heap.size 71 [.int .u64 (th : Int), .int .u64 (tl : Int)] := (by first | exact T4.chg hC5 (by simp) | exact ((T4.far HN.out.1.1 _).far HN.out.1.1 _).chg hC5 (by simp)); have t50 := T5.cell_of (i := 0) rfl; have t51 := T5.cell_of (i := 1) rfl; have S6 : ∃ a b, Blk w5 (w.heap.size + 1) 71 [a, b] := (by first | exact ⟨_, _, Q6d.chg hC5 (by simp)⟩ | exact ⟨_, _, ((Q6d.set_ 0 _).set_ 1 _).chg hC5 (by simp)⟩); obtain ⟨sa, sb, S6⟩ := S6; have s60 := S6.cell_of (i := 0) rfl; have s61 := S6.cell_of (i := 1) rfl; have g60 := S6.frozen 0; have g61 := S6.frozen 1; have HR5 := hid (And.intro (And.intro hah hal) (And.intro hav hC5)); clear hah hal hav hC5))
    all_goals
      go_wp2

    all_goals
      obtain ⟨W9, hW9⟩ : ∃ W9, W9 = ((((w5.setCell ⟨w.heap.size + 1, 0, none⟩ (.int .u64 (th : Int))).setCell ⟨w.heap.size + 1, 1, none⟩ (.int .u64 (tl : Int))).setCell ⟨w.heap.size + 1 + 1, 0, none⟩ (.int .u64 (ah : Int))).setCell ⟨w.heap.size + 1 + 1, 1, none⟩ (.int .u64 (al : Int))) := ⟨_, rfl⟩
      rw [← hW9]
      have X6 : Blk W9 (w.heap.size + 1) 71 [.int .u64 (th : Int), .int .u64 (tl : Int)] := by rw [hW9]; exact (((S6.set_ 0 _).set_ 1 _).far (by simp) _).far (by simp) _
      have X7 : Blk W9 (w.heap.size + 1 + 1) 71 [.int .u64 (ah : Int), .int .u64 (al : Int)] := by rw [hW9]; exact (((S7.far (by simp) _).far (by simp) _).set_ 0 _).set_ 1 _
      have CW : Chg [] w W9 := by
        have a := HZ.out.1.2
        have C5 : Chg [] w w5 := (by first | exact HZ.out.2.2.drew.trans HR5.out.2.2 | exact ((HZ.out.2.2.drew.setCell (.inr (by show w.heap.size ≤ w.heap.size + 1; omega)) _).setCell (.inr (by show w.heap.size ≤ w.heap.size + 1; omega)) _).trans HR5.out.2.2)
        rw [hW9]
        exact (((C5.setCell (.inr (by show w.heap.size ≤ w.heap.size + 1; omega)) _).setCell (.inr (by show w.heap.size ≤ w.heap.size + 1; omega)) _).setCell (.inr (by show w.heap.size ≤ w.heap.size + 1 + 1; omega)) _).setCell (.inr (by show w.heap.size ≤ w.heap.size + 1 + 1; omega)) _
      have x60 := X6.cell_of (i := 0) rfl
      have x61 := X6.cell_of (i := 1) rfl
      have x70 := X7.cell_of (i := 0) rfl
      have x71 := X7.cell_of (i := 1) rfl
      clear hW9
      refine bodyPost_ret (v := .tuple #[.agg #[.int .u64 (th : Int), .int .u64 (tl : Int)], .agg #[.int .u64 (ah : Int), .int .u64 (al : Int)]]) (by simp [results, Try.results42, go_sem, x60, x61, x70, x71]) rfl ⟨th, tl, ah, al, rfl, HBD.out.1.1, HBD.out.1.2, HR5.out.1.1, HR5.out.1.2, ?_, ?_, CW⟩
      · have := HLT.out; rw [HTV.out]; unfold standV; omega
      · rw [HR5.out.2.1, HTV.out, HCV.out]; unfold aheadV standV; omega
end Go.Proofs.Ythhddmamlpnjpaa
