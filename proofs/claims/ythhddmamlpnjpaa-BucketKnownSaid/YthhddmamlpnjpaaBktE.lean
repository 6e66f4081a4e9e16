/- Level and Most of the bucket, walked: what they answer, as functions of numbers. -/
import Derived.Test.YthhddmamlpnjpaaBktD
namespace Go.Proofs.Ythhddmamlpnjpaa
open Go.RowKit Go.Lib

/-- What Level answers. -/
def levelN (p q r s now : Nat) : Nat := if r * q < aheadV p s now then 0 else (r * q - aheadV p s now) / q
def levelV (p q r s now : Nat) : Nat × Int := if mayV p q r [now] = 0 then (levelN p q r s now, 0) else (0, mayV p q r [now])

set_option maxHeartbeats 1000000 in
theorem level_no (p q r s now : Nat) (w : World) (hm : mayV p q r [now] ≠ 0) :
    Calls Try.prog 25 #[.agg #[.int .u64 (p : Int), .int .u64 (q : Int), .int .u64 (r : Int)], .int .u64 (s : Int), .int .u64 (now : Int)] w fun e w' => e = .returned (.tuple #[.int .u64 0, .int .i64 (mayV p q r [now])]) ∧ Chg [] w w' := by
  obtain ⟨m, hmm⟩ : ∃ m, m = mayV p q r [now] := ⟨_, rfl⟩
  have hne : (m == 0) = false := beq_eq_false_iff_ne.2 (by rw [hmm]; exact hm)
  have hne2 : (m != 0) = true := by rw [bne_iff_ne]; rw [hmm]; exact hm
  have hM := may_any p q r (some ⟨w.heap.size + 1, 0, none⟩) 1 1 [now] ((w.alloc (.cells #[.int .u64 (p : Int), .int .u64 (q : Int), .int .u64 (r : Int)] 24)).alloc (.cells #[.int .u64 (now : Int)] 22)) (one_tick w _ now) rfl
  rw [← hmm] at hM ⊢
  have HM := hid hM
  clear hM hmm hm
  go_enter Try.func25, Try.ntmps25
  go_wp2_with (go_at_call 30; refine (HM.out).mono ?_; rintro e w1 ⟨rfl, hC1⟩)
  go_ret2
  exact ⟨rfl, (((Chg.refl [] w).alloc _).alloc _).trans hC1⟩

set_option maxHeartbeats 2000000 in
theorem level_ok (p q r s now : Nat) (w : World) (hm : mayV p q r [now] = 0) (hs : s < 18446744073709551616) :
    Calls Try.prog 25 #[.agg #[.int .u64 (p : Int), .int .u64 (q : Int), .int .u64 (r : Int)], .int .u64 (s : Int), .int .u64 (now : Int)] w fun e w' => e = .returned (.tuple #[.int .u64 (levelN p q r s now : Int), .int .i64 0]) ∧ Chg [] w w' := by
  obtain ⟨hok, hnow⟩ := may_one_ok hm
  have hM := may_any p q r (some ⟨w.heap.size + 1, 0, none⟩) 1 1 [now] ((w.alloc (.cells #[.int .u64 (p : Int), .int .u64 (q : Int), .int .u64 (r : Int)] 24)).alloc (.cells #[.int .u64 (now : Int)] 22)) (one_tick w _ now) rfl
  rw [hm] at hM
  have HM := hid hM
  have B0 : Blk ((w.alloc (.cells #[.int .u64 (p : Int), .int .u64 (q : Int), .int .u64 (r : Int)] 24)).alloc (.cells #[.int .u64 (now : Int)] 22)) w.heap.size 24 [.int .u64 (p : Int), .int .u64 (q : Int), .int .u64 (r : Int)] := (Blk.new w 24 #[.int .u64 (p : Int), .int .u64 (q : Int), .int .u64 (r : Int)]).alloc _
  have HOK := hid hok
  clear hM hm hok
  obtain ⟨sb1, sb2, sb3⟩ := stand_bound HOK.out.2.1 hnow hs
  have hq1 : 1 ≤ q := HOK.out.2.2.1
  have hq2 : (1 : Int) ≤ (q : Int) := by omega
  obtain ⟨rq, hrq⟩ : ∃ rq, rq = r * q := ⟨_, rfl⟩
  have hrqb : rq ≤ 68719476736 := by rw [hrq]; exact Nat.mul_le_mul HOK.out.2.2.2.2.2 HOK.out.2.2.2.1
  have q1 : (r : Int) * (q : Int) = (rq : Int) := by rw [hrq]; simp
  have hA := fun W => ahead_any p q r s now W HOK.out.2.1 hnow hs
  obtain ⟨by', hby⟩ : ∃ b, b = aheadV p s now := ⟨_, rfl⟩
  rw [← hby] at hA sb2
  have hl : levelN p q r s now = if rq < by' then 0 else (rq - by') / q := by unfold levelN; rw [hrq, hby]
  have HA := hid hA
  clear hA hby hrq sb1 sb3
  by_cases h : (rq : Int) < (by' : Int)
  · have e1 : ((levelN p q r s now : Nat) : Int) = 0 := by rw [hl, if_pos (by omega)]; rfl
    have E1 := hid e1
    clear e1 hl
    go_enter Try.func25, Try.ntmps25
    go_wp2_with (first
      | (go_at_call 30; refine (HM.out).mono ?_; rintro e w1 ⟨rfl, hC1⟩; have B1 := B0.chg hC1 (by simp); have b10 := B1.cell_of (i := 0) rfl; have b11 := B1.cell_of (i := 1) rfl; have b12 := B1.cell_of (i := 2) rfl)
      | (go_at_call 37; refine (HA.out _).mono ?_; rintro e w2 ⟨rfl, hC2⟩; have B2 := B1.chg hC2 (by simp); have b20 := B2.cell_of (i := 0) rfl; have b21 := B2.cell_of (i := 1) rfl; have b22 := B2.cell_of (i := 2) rfl))
    go_ret2
    exact ⟨by rw [E1.out]; rfl, ((((Chg.refl [] w).alloc _).alloc _).trans hC1).trans hC2⟩
  · have e1 : ((levelN p q r s now : Nat) : Int) = ((rq : Int) - (by' : Int)) / (q : Int) := by rw [hl, if_neg (by omega)]; rw [Int.natCast_ediv, Int.ofNat_sub (by omega)]
    have E1 := hid e1
    have hz : ((q : Int) == 0) = false := beq_eq_false_iff_ne.2 (by omega)
    clear e1 hl
    go_enter Try.func25, Try.ntmps25
    go_wp2_with (first
      | (go_at_call 30; refine (HM.out).mono ?_; rintro e w1 ⟨rfl, hC1⟩; have B1 := B0.chg hC1 (by simp); have b10 := B1.cell_of (i := 0) rfl; have b11 := B1.cell_of (i := 1) rfl; have b12 := B1.cell_of (i := 2) rfl)
      | (go_at_call 37; refine (HA.out _).mono ?_; rintro e w2 ⟨rfl, hC2⟩; have B2 := B1.chg hC2 (by simp); have b20 := B2.cell_of (i := 0) rfl; have b21 := B2.cell_of (i := 1) rfl; have b22 := B2.cell_of (i := 2) rfl))
    go_ret2
    exact ⟨by rw [E1.out]; rfl, ((((Chg.refl [] w).alloc _).alloc _).trans hC1).trans hC2⟩

def mostN (p q r t : Nat) : Nat := r + t * p / q
def mostV (p q r t : Nat) : Nat × Int := if mayV p q r [t] = 0 then (mostN p q r t, 0) else (0, mayV p q r [t])

set_option maxHeartbeats 1000000 in
theorem most_no (p q r now : Nat) (w : World) (hm : mayV p q r [now] ≠ 0) :
    Calls Try.prog 20 #[.agg #[.int .u64 (p : Int), .int .u64 (q : Int), .int .u64 (r : Int)], .int .u64 (now : Int)] w fun e w' => e = .returned (.tuple #[.int .u64 0, .int .i64 (mayV p q r [now])]) ∧ Chg [] w w' := by
  obtain ⟨m, hmm⟩ : ∃ m, m = mayV p q r [now] := ⟨_, rfl⟩
  have hne : (m == 0) = false := beq_eq_false_iff_ne.2 (by rw [hmm]; exact hm)
  have hne2 : (m != 0) = true := by rw [bne_iff_ne]; rw [hmm]; exact hm
  have hM := may_any p q r (some ⟨w.heap.size + 1, 0, none⟩) 1 1 [now] ((w.alloc (.cells #[.int .u64 (p : Int), .int .u64 (q : Int), .int .u64 (r : Int)] 24)).alloc (.cells #[.int .u64 (now : Int)] 22)) (one_tick w _ now) rfl
  rw [← hmm] at hM ⊢
  have HM := hid hM
  clear hM hmm hm
  go_enter Try.func20, Try.ntmps20
  go_wp2_with (go_at_call 30; refine (HM.out).mono ?_; rintro e w1 ⟨rfl, hC1⟩)
  go_ret2
  exact ⟨rfl, (((Chg.refl [] w).alloc _).alloc _).trans hC1⟩

set_option maxHeartbeats 2000000 in
theorem most_ok (p q r now : Nat) (w : World) (hm : mayV p q r [now] = 0) :
    Calls Try.prog 20 #[.agg #[.int .u64 (p : Int), .int .u64 (q : Int), .int .u64 (r : Int)], .int .u64 (now : Int)] w fun e w' => e = .returned (.tuple #[.int .u64 (mostN p q r now : Int), .int .i64 0]) ∧ Chg [] w w' := by
  obtain ⟨hok, hnow⟩ := may_one_ok hm
  have hM := may_any p q r (some ⟨w.heap.size + 1, 0, none⟩) 1 1 [now] ((w.alloc (.cells #[.int .u64 (p : Int), .int .u64 (q : Int), .int .u64 (r : Int)] 24)).alloc (.cells #[.int .u64 (now : Int)] 22)) (one_tick w _ now) rfl
  rw [hm] at hM
  have HM := hid hM
  have B0 : Blk ((w.alloc (.cells #[.int .u64 (p : Int), .int .u64 (q : Int), .int .u64 (r : Int)] 24)).alloc (.cells #[.int .u64 (now : Int)] 22)) w.heap.size 24 [.int .u64 (p : Int), .int .u64 (q : Int), .int .u64 (r : Int)] := (Blk.new w 24 #[.int .u64 (p : Int), .int .u64 (q : Int), .int .u64 (r : Int)]).alloc _
  have HOK := hid hok
  clear hM hm hok
  have hq2 : (1 : Int) ≤ (q : Int) := by have := HOK.out.2.2.1; omega
  obtain ⟨ck, hck⟩ : ∃ ck, ck = now * p := ⟨_, rfl⟩
  have hcb : ck ≤ 72057594037927936 := by rw [hck]; exact Nat.mul_le_mul hnow HOK.out.2.1
  have q1 : (now : Int) * (p : Int) = (ck : Int) := by rw [hck]; simp
  obtain ⟨cq, hcq⟩ : ∃ cq, cq = ck / q := ⟨_, rfl⟩
  have hcqb : cq ≤ ck := by rw [hcq]; exact Nat.div_le_self _ _
  have q2 : (ck : Int) / (q : Int) = (cq : Int) := by rw [hcq]; simp
  have hrb : r ≤ 1048576 := HOK.out.2.2.2.2.2
  have e1 : ((mostN p q r now : Nat) : Int) = (r : Int) + (cq : Int) := by unfold mostN; rw [← hck, ← hcq]; simp
  have E1 := hid e1
  have w1' : IntKind.u64.wrap ((r : Int) + (cq : Int)) = (r : Int) + (cq : Int) := by rw [IntKind.wrap_u64]; omega
  have hz : ((q : Int) == 0) = false := beq_eq_false_iff_ne.2 (by omega)
  clear e1 hck hcq
  go_enter Try.func20, Try.ntmps20
  go_wp2_with (go_at_call 30; refine (HM.out).mono ?_; rintro e w1 ⟨rfl, hC1⟩; have B1 := B0.chg hC1 (by simp); have b10 := B1.cell_of (i := 0) rfl; have b11 := B1.cell_of (i := 1) rfl; have b12 := B1.cell_of (i := 2) rfl)
  go_quiet (fail)
  go_wp2
  go_ret2
  exact ⟨by rw [E1.out]; rfl, ((((Chg.refl [] w).alloc _).alloc _).trans hC1).drewN _⟩
end Go.Proofs.Ythhddmamlpnjpaa
