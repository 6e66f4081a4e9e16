/- When of the bucket, walked: what it answers, as a function of numbers. -/
import Derived.Test.YthhddmamlpnjpaaBktE
namespace Go.Proofs.Ythhddmamlpnjpaa
open Go.RowKit Go.Lib

/-- The tick at which the clock has come up to d. -/
def ceilV (d p : Nat) : Nat := d / p + (if d % p = 0 then 0 else 1)
def whenN (p q r s now n : Nat) : Nat × Bool :=
  if r < n then (0, false) else if s + n * q ≤ r * q then (now, true) else
    if 1099511627776 < max (ceilV (s + n * q - r * q) p) now then (0, false) else (max (ceilV (s + n * q - r * q) p) now, true)
def whenV (p q r s now n : Nat) : Nat × Bool × Int := if mayV p q r [now] = 0 then ((whenN p q r s now n).1, (whenN p q r s now n).2, 0) else (0, false, mayV p q r [now])

set_option maxHeartbeats 1000000 in
theorem when_no (p q r s now n : Nat) (w : World) (hm : mayV p q r [now] ≠ 0) :
    Calls Try.prog 27 #[.agg #[.int .u64 (p : Int), .int .u64 (q : Int), .int .u64 (r : Int)], .int .u64 (s : Int), .int .u64 (now : Int), .int .u64 (n : Int)] w fun e w' => e = .returned (.tuple #[.int .u64 0, .bool false, .int .i64 (mayV p q r [now])]) ∧ Chg [] w w' := by
  obtain ⟨m, hmm⟩ : ∃ m, m = mayV p q r [now] := ⟨_, rfl⟩
  have hne : (m == 0) = false := beq_eq_false_iff_ne.2 (by rw [hmm]; exact hm)
  have hne2 : (m != 0) = true := by rw [bne_iff_ne]; rw [hmm]; exact hm
  have hM := may_any p q r (some ⟨w.heap.size + 1, 0, none⟩) 1 1 [now] ((w.alloc (.cells #[.int .u64 (p : Int), .int .u64 (q : Int), .int .u64 (r : Int)] 24)).alloc (.cells #[.int .u64 (now : Int)] 22)) (one_tick w _ now) rfl
  rw [← hmm] at hM ⊢
  have HM := hid hM
  clear hM hmm hm
  go_enter Try.func27, Try.ntmps27
  go_wp2_with (go_at_call 30; refine (HM.out).mono ?_; rintro e w1 ⟨rfl, hC1⟩)
  go_ret3
  exact ⟨rfl, (((Chg.refl [] w).alloc _).alloc _).trans hC1⟩

set_option maxHeartbeats 4000000 in
set_option maxRecDepth 100000 in
theorem when_ok (p q r s now n : Nat) (w : World) (hm : mayV p q r [now] = 0) (hs : s < 18446744073709551616) (hn : n < 18446744073709551616) :
    Calls Try.prog 27 #[.agg #[.int .u64 (p : Int), .int .u64 (q : Int), .int .u64 (r : Int)], .int .u64 (s : Int), .int .u64 (now : Int), .int .u64 (n : Int)] w fun e w' => e = .returned (.tuple #[.int .u64 ((whenN p q r s now n).1 : Int), .bool (whenN p q r s now n).2, .int .i64 0]) ∧ Chg [] w w' := by
  obtain ⟨hok, hnow⟩ := may_one_ok hm
  have hM := may_any p q r (some ⟨w.heap.size + 1, 0, none⟩) 1 1 [now] ((w.alloc (.cells #[.int .u64 (p : Int), .int .u64 (q : Int), .int .u64 (r : Int)] 24)).alloc (.cells #[.int .u64 (now : Int)] 22)) (one_tick w _ now) rfl
  rw [hm] at hM
  have HM := hid hM
  have B0 : Blk ((w.alloc (.cells #[.int .u64 (p : Int), .int .u64 (q : Int), .int .u64 (r : Int)] 24)).alloc (.cells #[.int .u64 (now : Int)] 22)) w.heap.size 24 [.int .u64 (p : Int), .int .u64 (q : Int), .int .u64 (r : Int)] := (Blk.new w 24 #[.int .u64 (p : Int), .int .u64 (q : Int), .int .u64 (r : Int)]).alloc _
  have HOK := hid hok
  clear hM hm hok
  have hq : q < 18446744073709551616 := by have := HOK.out.2.2.2.1; omega
  obtain ⟨rq, hrq⟩ : ∃ rq, rq = r * q := ⟨_, rfl⟩
  have hrqb : rq ≤ 68719476736 := by rw [hrq]; exact Nat.mul_le_mul HOK.out.2.2.2.2.2 HOK.out.2.2.2.1
  have q1 : (r : Int) * (q : Int) = (rq : Int) := by rw [hrq]; simp
  have hgs : w.heap.size < w.heap.size + 1 + 1 := by omega
  by_cases hnr : (r : Int) < (n : Int)
  · have hw := hid (show whenN p q r s now n = (0, false) by unfold whenN; rw [if_pos (by omega)])
    clear hrq
    go_enter Try.func27, Try.ntmps27
    go_wp2_with (go_at_call 30; refine (HM.out).mono ?_; rintro e w1 ⟨rfl, hC1⟩; have B1 := B0.chg hC1 (by simp); have b10 := B1.cell_of (i := 0) rfl; have b11 := B1.cell_of (i := 1) rfl; have b12 := B1.cell_of (i := 2) rfl)
    go_ret3
    exact ⟨by rw [hw.out]; rfl, (((Chg.refl [] w).alloc _).alloc _).trans hC1⟩
  · have hnq : n * q ≤ rq := by rw [hrq]; exact Nat.mul_le_mul_right _ (by omega)
    have hw0 : whenN p q r s now n = if s + n * q ≤ rq then (now, true) else if 1099511627776 < max (ceilV (s + n * q - rq) p) now then (0, false) else (max (ceilV (s + n * q - rq) p) now, true) := by
      unfold whenN; rw [if_neg (by omega), hrq]
    have HW0 := hid hw0
    clear hrq hw0
    go_enter Try.func27, Try.ntmps27
    go_wp2_with (first
      | (go_at_call 30; refine (HM.out).mono ?_; rintro e w1 ⟨rfl, hC1⟩; have B1 := B0.chg hC1 (by simp); have b10 := B1.cell_of (i := 0) rfl; have b11 := B1.cell_of (i := 1) rfl; have b12 := B1.cell_of (i := 2) rfl; have z1 := B1.lt)
      | (go_at_call 38; refine (times_any n q _ hn hq).mono ?_; rintro e w3 ⟨hi, lo, rfl, hhi, hlo, hnq2, hC3⟩))
    have N3 : Blk w3 w1.heap.size 65 [.int .u64 0, .int .u64 (s : Int)] := (Blk.new w1 65 #[.int .u64 0, .int .u64 (s : Int)]).chg hC3 (by simp)
    have B3 := (B1.alloc (.cells #[.int .u64 0, .int .u64 (s : Int)] 65)).chg hC3 (by simp)
    refine (add_any w1.heap.size 0 s hi lo _ N3 (by omega) hs hhi hlo).mono ?_
    rintro e w4 ⟨rfl, ah, al, hB4, hah, hal, hsum, hC4⟩
    have hsum2 : two ah al = s + n * q := by
      rw [hsum, hnq2]
      unfold two
      omega
    have HS := hid hsum2
    have C4 := B3.chg hC4 (by simp; omega)
    have b41 := C4.cell_of (i := 1) rfl
    have b42 := C4.cell_of (i := 2) rfl
    have b40 := C4.cell_of (i := 0) rfl
    have a40 := hB4.cell_of (i := 0) rfl
    have a41 := hB4.cell_of (i := 1) rfl
    have z4 := C4.lt
    have z5 := hB4.lt
    have hcc : Chg [] w w4 := (((((Chg.refl [] w).alloc (.cells #[.int .u64 (p : Int), .int .u64 (q : Int), .int .u64 (r : Int)] 24)).alloc (.cells #[.int .u64 (now : Int)] 22)).trans hC1).alloc (.cells #[.int .u64 0, .int .u64 (s : Int)] 65)).trans hC3 |>.seq hC4 (by
      intro x hx; rw [List.mem_singleton] at hx; subst hx; right
      have h1 := hC1.size; simp at h1; omega)
    have HCC := hid hcc
    clear hsum hsum2 hnq2 hcc
    have hgt : decide (two 0 rq < two ah al) = decide (rq < s + n * q) := by rw [HS.out, show two 0 rq = rq by unfold two; omega]
    by_cases hle : s + n * q ≤ rq
    · have hf : decide (rq < s + n * q) = false := by simp; omega
      have hw := hid (show whenN p q r s now n = (now, true) by rw [HW0.out, if_pos hle])
      rw [hf] at hgt
      clear hle hf
      go_wp2_with (go_at_call 40; refine (above_any ah al 0 rq _ hal (by omega)).mono ?_; rw [hgt]; rintro e w5 ⟨rfl, hC5⟩)
      go_ret3
      exact ⟨by rw [hw.out]; rfl, (HCC.out.alloc _).trans hC5⟩
    · have hf : decide (rq < s + n * q) = true := by simp; omega
      rw [hf] at hgt
      have hw1 : whenN p q r s now n = if 1099511627776 < max (ceilV (s + n * q - rq) p) now then (0, false) else (max (ceilV (s + n * q - rq) p) now, true) := by rw [HW0.out, if_neg hle]
      have HW1 := hid hw1
      have hd : s + n * q - rq ≤ s := by omega
      have HLE := hid hle
      clear hw1 hf hle
      go_wp2_with (go_at_call 40; refine (above_any ah al 0 rq _ hal (by omega)).mono ?_; rw [hgt]; rintro e w5 ⟨rfl, hC5⟩; have D5 := (C4.alloc (.cells #[.int .u64 0, .int .u64 (rq : Int)] 65)).chg hC5 (by simp); have N5 := (hB4.alloc (.cells #[.int .u64 0, .int .u64 (rq : Int)] 65)).chg hC5 (by simp); have W5 : Blk w5 w4.heap.size 65 [.int .u64 0, .int .u64 (rq : Int)] := (Blk.new w4 65 #[.int .u64 0, .int .u64 (rq : Int)]).chg hC5 (by simp); have w50 := W5.cell_of (i := 0) rfl; have w51 := W5.cell_of (i := 1) rfl)
      refine (sub_any w1.heap.size ah al 0 rq _ N5 hah hal (by omega) (by omega) (by have := HS.out; rw [this]; unfold two; have := HLE.out; omega)).mono ?_
      rintro e w6 ⟨rfl, bh, bl, hB6, hbh, hbl, hsub, hC6⟩
      obtain ⟨d, hdd⟩ : ∃ d, d = s + n * q - rq := ⟨_, rfl⟩
      have hbl2 : bl = d := by rw [HS.out] at hsub; unfold two at hsub; omega
      subst hbl2
      have D6 := D5.chg hC6 (by simp; omega)
      have d60 := D6.cell_of (i := 0) rfl
      have n61 := hB6.cell_of (i := 1) rfl
      have HD := hid hdd
      rw [← hdd] at hd
      clear hsub hdd
      have hp0 : (1 : Int) ≤ (p : Int) := by have := HOK.out.1; omega
      have hpz : ((p : Int) == 0) = false := beq_eq_false_iff_ne.2 (by omega)
      obtain ⟨fl, hfl⟩ : ∃ fl, fl = bl / p := ⟨_, rfl⟩
      have hflb : fl ≤ bl := by rw [hfl]; exact Nat.div_le_self _ _
      have q2 : (bl : Int) / (p : Int) = (fl : Int) := by rw [hfl]; simp
      have hfin : Chg [] w w6 := ((HCC.out.alloc _).trans hC5).seq hC6 (by
        intro x hx; rw [List.mem_singleton] at hx; subst hx; right
        have h1 := hC1.size; simp at h1; omega)
      have HF := hid hfin
      clear hfin
      have hbl9 : bl ≤ 18446744073709551615 := by omega
      obtain ⟨rm, hrm⟩ : ∃ rm, rm = bl % p := ⟨_, rfl⟩
      have q3 : (bl : Int) % (p : Int) = (rm : Int) := by rw [hrm]; simp
      have hdm : p * fl + rm = bl := by rw [hfl, hrm]; exact Nat.div_add_mod bl p
      by_cases hr0 : rm = 0
      · have hce : ceilV bl p = fl := by unfold ceilV; rw [← hfl, ← hrm, if_pos hr0]; rfl
        subst hr0
        clear hdm hfl hrm
        by_cases hmx : ((fl : Int) : Int) < (now : Int)
        · have hw := hid (show whenN p q r s now n = (now, true) by rw [HW1.out, ← HD.out, hce]; rw [show max fl now = now by omega, if_neg (by omega)])
          clear hce HW1 HD
          go_wp2
          all_goals (go_ret3; exact ⟨by rw [hw.out]; rfl, HF.out⟩)
        · by_cases hbig : (1099511627776 : Int) < (fl : Int)
          · have hw := hid (show whenN p q r s now n = (0, false) by rw [HW1.out, ← HD.out, hce]; rw [if_pos (by omega)])
            clear hce HW1 HD
            go_wp2
            all_goals (go_ret3; exact ⟨by rw [hw.out]; rfl, HF.out⟩)
          · have hw := hid (show whenN p q r s now n = (fl, true) by rw [HW1.out, ← HD.out, hce]; rw [if_neg (by omega), show max fl now = fl by omega])
            clear hce HW1 HD
            go_wp2
            all_goals (go_ret3; exact ⟨by rw [hw.out]; rfl, HF.out⟩)
      · have hce : ceilV bl p = fl + 1 := by unfold ceilV; rw [← hfl, ← hrm, if_neg hr0]
        have hflb2 : fl + 1 ≤ bl := by
          have h1 : 1 * fl ≤ p * fl := Nat.mul_le_mul_right _ (by have := HOK.out.1; omega)
          omega
        obtain ⟨tk, htk⟩ : ∃ tk, tk = fl + 1 := ⟨_, rfl⟩
        rw [← htk] at hce hflb2
        have q4 : (fl : Int) + 1 = (tk : Int) := by omega
        clear htk
        have hr1 : ((rm : Int) == 0) = false := beq_eq_false_iff_ne.2 (by omega)
        have hr2 : ((rm : Int) != 0) = true := by rw [bne_iff_ne]; omega
        clear hdm hfl hrm hr0
        by_cases hmx : ((tk : Int) : Int) < (now : Int)
        · have hw := hid (show whenN p q r s now n = (now, true) by rw [HW1.out, ← HD.out, hce]; rw [show max tk now = now by omega, if_neg (by omega)])
          clear hce HW1 HD
          go_wp2
          all_goals (go_ret3; exact ⟨by rw [hw.out]; rfl, HF.out⟩)
        · by_cases hbig : (1099511627776 : Int) < (tk : Int)
          · have hw := hid (show whenN p q r s now n = (0, false) by rw [HW1.out, ← HD.out, hce]; rw [if_pos (by omega)])
            clear hce HW1 HD
            go_wp2
            all_goals (go_ret3; exact ⟨by rw [hw.out]; rfl, HF.out⟩)
          · have hw := hid (show whenN p q r s now n = (tk, true) by rw [HW1.out, ← HD.out, hce]; rw [if_neg (by omega), show max tk now = tk by omega])
            clear hce HW1 HD
            go_wp2
            all_goals (go_ret3; exact ⟨by rw [hw.out]; rfl, HF.out⟩)
end Go.Proofs.Ythhddmamlpnjpaa
