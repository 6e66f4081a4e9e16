/- Take of the bucket, walked: what it answers, as a function of numbers. -/
import Derived.Test.YthhddmamlpnjpaaBktC
import Derived.Test.YthhddmamlpnjpaaMem3
namespace Go.Proofs.Ythhddmamlpnjpaa
open Go.RowKit Go.Lib

/-- Where a state stands at a tick, and how far it is ahead. -/
def standV (p s now : Nat) : Nat := max s (now * p)
def aheadV (p s now : Nat) : Nat := standV p s now - now * p

set_option maxHeartbeats 1000000 in
theorem ahead_any (p q r s now : Nat) (w : World) (hp : p ≤ 65536) (hn : now ≤ 1099511627776) (hs : s < 18446744073709551616) :
    Calls Try.prog 37 #[.agg #[.int .u64 (p : Int), .int .u64 (q : Int), .int .u64 (r : Int)], .int .u64 (s : Int), .int .u64 (now : Int)] w fun e w' => e = .returned (.tuple #[.int .u64 ((standV p s now : Nat) : Int), .int .u64 ((aheadV p s now : Nat) : Int)]) ∧ Chg [] w w' := by
  obtain ⟨ck, hck⟩ : ∃ ck, ck = now * p := ⟨_, rfl⟩
  have hcb : ck ≤ 72057594037927936 := by rw [hck]; exact Nat.mul_le_mul hn hp
  have q1 : (now : Int) * (p : Int) = (ck : Int) := by rw [hck]; simp
  have hv : standV p s now = max s ck ∧ aheadV p s now = max s ck - ck := by unfold aheadV standV; rw [hck]; exact ⟨rfl, rfl⟩
  clear hck hp hn
  by_cases h : (ck : Int) ≤ (s : Int)
  · have HV := hid (show ((standV p s now : Nat) : Int) = (s : Int) ∧ ((aheadV p s now : Nat) : Int) = (s : Int) - (ck : Int) by
      rw [hv.1, hv.2]; omega)
    clear hv
    go_enter Try.func37, Try.ntmps37
    go_wp2
    go_ret2
    exact ⟨by rw [HV.out.1, HV.out.2]; rfl, (Chg.refl _ _).alloc _⟩
  · have HV := hid (show ((standV p s now : Nat) : Int) = (ck : Int) ∧ ((aheadV p s now : Nat) : Int) = 0 by
      rw [hv.1, hv.2]; omega)
    clear hv
    go_enter Try.func37, Try.ntmps37
    go_wp2
    go_ret2
    exact ⟨by rw [HV.out.1, HV.out.2]; rfl, (Chg.refl _ _).alloc _⟩

theorem stand_bound {p s now : Nat} (hp : p ≤ 65536) (hn : now ≤ 1099511627776) (hs : s < 18446744073709551616) : standV p s now < 18446744073709551616 ∧ aheadV p s now < 18446744073709551616 ∧ standV p s now ≤ aheadV p s now + 72057594037927936 := by
  have h : now * p ≤ 72057594037927936 := Nat.mul_le_mul hn hp
  unfold aheadV standV
  omega

/-- Does a bucket let so many tokens through? -/
def takeB (p q r s now n : Nat) : Bool := decide (aheadV p s now + n * q ≤ r * q)
def takeS (p q r s now n : Nat) : Nat := if takeB p q r s now n then standV p s now + n * q else s

theorem may_one_ok {p q r now : Nat} (h : mayV p q r [now] = 0) : OkB p q r ∧ now ≤ 1099511627776 := by
  unfold mayV at h
  by_cases hok : OkB p q r
  · rw [if_pos hok] at h
    by_cases hn : now ≤ 1099511627776
    · exact ⟨hok, hn⟩
    · simp [hn] at h
  · rw [if_neg hok] at h; cases h
theorem may_vals (p q r : Nat) (ts : List Nat) : mayV p q r ts = 0 ∨ mayV p q r ts = 2 ∨ mayV p q r ts = 5 := by
  unfold mayV
  split
  · split
    · exact .inl rfl
    · exact .inr (.inr rfl)
  · exact .inr (.inl rfl)

theorem one_tick (w : World) (o : Obj) (now : Nat) : Own ((w.alloc o).alloc (.cells #[.int .u64 (now : Int)] 22)) 22 1 (.slice (some ⟨w.heap.size + 1, 0, none⟩) 1 1) 1 (u64n [now]) := by
  have h := Own.made (w.alloc o) 22 1 1 1 [.int .u64 (now : Int)] (Nat.le_refl _) (by unfold maxLen; omega) rfl
  rw [show (w.alloc o).heap.size = w.heap.size + 1 by simp] at h
  exact h

set_option maxHeartbeats 1000000 in
theorem take_no (p q r s now n : Nat) (w : World) (hm : mayV p q r [now] ≠ 0) :
    Calls Try.prog 19 #[.agg #[.int .u64 (p : Int), .int .u64 (q : Int), .int .u64 (r : Int)], .int .u64 (s : Int), .int .u64 (now : Int), .int .u64 (n : Int)] w fun e w' => e = .returned (.tuple #[.int .u64 0, .bool false, .int .i64 (mayV p q r [now])]) ∧ Chg [] w w' := by
  obtain ⟨m, hmm⟩ : ∃ m, m = mayV p q r [now] := ⟨_, rfl⟩
  have hne : (m == 0) = false := beq_eq_false_iff_ne.2 (by rw [hmm]; exact hm)
  have hne2 : (m != 0) = true := by rw [bne_iff_ne]; rw [hmm]; exact hm
  have hM := may_any p q r (some ⟨w.heap.size + 1, 0, none⟩) 1 1 [now] ((w.alloc (.cells #[.int .u64 (p : Int), .int .u64 (q : Int), .int .u64 (r : Int)] 24)).alloc (.cells #[.int .u64 (now : Int)] 22)) (one_tick w _ now) rfl
  rw [← hmm] at hM ⊢
  have HM := hid hM
  clear hM hmm hm
  go_enter Try.func19, Try.ntmps19
  go_wp2_with (go_at_call 30; refine (HM.out).mono ?_; rintro e w1 ⟨rfl, hC1⟩)
  go_ret3
  exact ⟨rfl, (((Chg.refl [] w).alloc _).alloc _).trans hC1⟩

set_option maxHeartbeats 2000000 in
theorem take_ok (p q r s now n : Nat) (w : World) (hm : mayV p q r [now] = 0) (hs : s < 18446744073709551616) (hn : n < 18446744073709551616) :
    Calls Try.prog 19 #[.agg #[.int .u64 (p : Int), .int .u64 (q : Int), .int .u64 (r : Int)], .int .u64 (s : Int), .int .u64 (now : Int), .int .u64 (n : Int)] w fun e w' => e = .returned (.tuple #[.int .u64 (takeS p q r s now n : Int), .bool (takeB p q r s now n), .int .i64 0]) ∧ Chg [] w w' := by
  obtain ⟨hok, hnow⟩ := may_one_ok hm
  have hM := may_any p q r (some ⟨w.heap.size + 1, 0, none⟩) 1 1 [now] ((w.alloc (.cells #[.int .u64 (p : Int), .int .u64 (q : Int), .int .u64 (r : Int)] 24)).alloc (.cells #[.int .u64 (now : Int)] 22)) (one_tick w _ now) rfl
  rw [hm] at hM
  have HM := hid hM
  have B0 : Blk ((w.alloc (.cells #[.int .u64 (p : Int), .int .u64 (q : Int), .int .u64 (r : Int)] 24)).alloc (.cells #[.int .u64 (now : Int)] 22)) w.heap.size 24 [.int .u64 (p : Int), .int .u64 (q : Int), .int .u64 (r : Int)] := (Blk.new w 24 #[.int .u64 (p : Int), .int .u64 (q : Int), .int .u64 (r : Int)]).alloc _
  have HOK := hid hok
  clear hM hm hok
  obtain ⟨sb1, sb2, sb3⟩ := stand_bound HOK.out.2.1 hnow hs
  have hq : q < 18446744073709551616 := by have := HOK.out.2.2.2.1; omega
  obtain ⟨rq, hrq⟩ : ∃ rq, rq = r * q := ⟨_, rfl⟩
  have hrqb : rq ≤ 68719476736 := by rw [hrq]; exact Nat.mul_le_mul HOK.out.2.2.2.2.2 HOK.out.2.2.2.1
  have q1 : (r : Int) * (q : Int) = (rq : Int) := by rw [hrq]; simp
  obtain ⟨st, hst⟩ : ∃ st, st = standV p s now := ⟨_, rfl⟩
  obtain ⟨by', hby⟩ : ∃ b, b = aheadV p s now := ⟨_, rfl⟩
  have hA := fun W => ahead_any p q r s now W HOK.out.2.1 hnow hs
  rw [← hst, ← hby] at hA
  rw [← hst] at sb1 sb3
  rw [← hby] at sb2 sb3
  have HA := hid hA
  have htk : takeB p q r s now n = decide (by' + n * q ≤ rq) := by unfold takeB; rw [hby, hrq]
  have hts : takeS p q r s now n = if takeB p q r s now n then st + n * q else s := by unfold takeS; rw [hst]
  have HTK := hid htk
  have HTS := hid hts
  clear hA hst hby hrq htk hts
  have hgs : w.heap.size < w.heap.size + 1 + 1 := by omega
  go_enter Try.func19, Try.ntmps19
  go_wp2_with (first
    | (go_at_call 30; refine (HM.out).mono ?_; rintro e w1 ⟨rfl, hC1⟩; have B1 := B0.chg hC1 (by simp); have b10 := B1.cell_of (i := 0) rfl; have b11 := B1.cell_of (i := 1) rfl; have b12 := B1.cell_of (i := 2) rfl)
    | (go_at_call 37; refine (HA.out _).mono ?_; rintro e w2 ⟨rfl, hC2⟩; have B2 := B1.chg hC2 (by simp); have b20 := B2.cell_of (i := 0) rfl; have b21 := B2.cell_of (i := 1) rfl; have b22 := B2.cell_of (i := 2) rfl)
    | (go_at_call 38; refine (times_any n q _ hn hq).mono ?_; rintro e w3 ⟨hi, lo, rfl, hhi, hlo, hnq, hC3⟩; have B3 := B2.chg hC3 (by simp); have b30 := B3.cell_of (i := 0) rfl; have b31 := B3.cell_of (i := 1) rfl; have b32 := B3.cell_of (i := 2) rfl; have z3 := B3.lt))
  have BA : Blk ((w3.alloc (.cells #[.int .u64 (hi : Int), .int .u64 (lo : Int)] 65)).alloc (.cells #[.int .u64 (hi : Int), .int .u64 (lo : Int)] 65)) (w3.heap.size + 1) 65 [.int .u64 (hi : Int), .int .u64 (lo : Int)] := by
    have h := Blk.new (w3.alloc (.cells #[.int .u64 (hi : Int), .int .u64 (lo : Int)] 65)) 65 #[.int .u64 (hi : Int), .int .u64 (lo : Int)]
    rw [show (w3.alloc (.cells #[.int .u64 (hi : Int), .int .u64 (lo : Int)] 65)).heap.size = w3.heap.size + 1 by simp] at h
    exact h
  have BN : Blk ((w3.alloc (.cells #[.int .u64 (hi : Int), .int .u64 (lo : Int)] 65)).alloc (.cells #[.int .u64 (hi : Int), .int .u64 (lo : Int)] 65)) w3.heap.size 65 [.int .u64 (hi : Int), .int .u64 (lo : Int)] := (Blk.new w3 65 #[.int .u64 (hi : Int), .int .u64 (lo : Int)]).alloc _
  have BB := (B3.alloc (.cells #[.int .u64 (hi : Int), .int .u64 (lo : Int)] 65)).alloc (.cells #[.int .u64 (hi : Int), .int .u64 (lo : Int)] 65)
  refine (add_any (w3.heap.size + 1) hi lo 0 by' _ BA hhi hlo (by omega) sb2).mono ?_
  rintro e w4 ⟨rfl, ah, al, hB4, hah, hal, hsum, hC4⟩
  have hnqb : n * q ≤ 18446744073709551615 * 65536 := Nat.mul_le_mul (by omega) HOK.out.2.2.2.1
  have hsum2 : two ah al = n * q + by' := by
    rw [hsum, hnq]
    unfold two
    omega
  have HS := hid hsum2
  have HNQ := hid hnq
  have N4 := BN.chg hC4 (by simp)
  have C4 := BB.chg hC4 (by simp; omega)
  have n41 := N4.cell_of (i := 1) rfl
  have b41 := C4.cell_of (i := 1) rfl
  have b42 := C4.cell_of (i := 2) rfl
  have a40 := hB4.cell_of (i := 0) rfl
  have a41 := hB4.cell_of (i := 1) rfl
  have HCC := hid ((((((((Chg.refl [] w).alloc (.cells #[.int .u64 (p : Int), .int .u64 (q : Int), .int .u64 (r : Int)] 24)).alloc (.cells #[.int .u64 (now : Int)] 22)).trans hC1).trans hC2).trans hC3).alloc (.cells #[.int .u64 (hi : Int), .int .u64 (lo : Int)] 65)).alloc (.cells #[.int .u64 (hi : Int), .int .u64 (lo : Int)] 65))
  clear hsum hsum2 hnq hnqb
  go_wp2_with fail
  have hgt : decide (two 0 rq < two ah al) = !(takeB p q r s now n) := by
    rw [HS.out, HTK.out, show two 0 rq = rq by unfold two; omega]
    by_cases h : by' + n * q ≤ rq
    · simp [h]; omega
    · simp [h]; omega
  refine (above_any ah al 0 rq _ hal (by omega)).mono ?_
  rw [hgt]
  rintro e w5 ⟨rfl, hC5⟩
  have n51 := (N4.chg hC5 (by simp)).cell_of (i := 1) rfl
  have hfin : Chg [] w w5 := (HCC.out.seq hC4 (by intro x hx; rw [List.mem_singleton] at hx; subst hx; right; have h1 := HCC.out.size; simp at h1; have h2 := BA.lt; simp at h2; have := B3.lt; omega)).trans hC5
  have HF := hid hfin
  clear hgt hfin
  cases htb : takeB p q r s now n with
  | true =>
    have h1 : by' + n * q ≤ rq := by have := HTK.out; rw [htb] at this; simpa using this.symm
    have h2 := HNQ.out
    unfold two at h2
    have hlo2 : lo = n * q := by omega
    have hlob : lo ≤ 68719476736 := by omega
    have e1 : ((takeS p q r s now n : Nat) : Int) = (st : Int) + (lo : Int) := by rw [HTS.out, htb, if_pos rfl, hlo2]; simp
    have E1 := hid e1
    have hst2 : st + lo ≤ 72057662757404672 := by omega
    clear h1 h2 hlo2 e1
    go_wp2
    go_ret3
    exact ⟨by rw [E1.out]; first | rfl | (rw [htb]; rfl), HF.out⟩
  | false =>
    have e1 : ((takeS p q r s now n : Nat) : Int) = (s : Int) := by rw [HTS.out, htb]; simp
    have E1 := hid e1
    clear e1
    go_wp2
    go_ret3
    exact ⟨by rw [E1.out]; first | rfl | (rw [htb]; rfl), HF.out⟩

/-- What Take answers. -/
def takeV (p q r s now n : Nat) : Nat × Bool × Int := if mayV p q r [now] = 0 then (takeS p q r s now n, takeB p q r s now n, 0) else (0, false, mayV p q r [now])
theorem take_any (p q r s now n : Nat) (w : World) (hs : s < 18446744073709551616) (hn : n < 18446744073709551616) :
    Calls Try.prog 19 #[.agg #[.int .u64 (p : Int), .int .u64 (q : Int), .int .u64 (r : Int)], .int .u64 (s : Int), .int .u64 (now : Int), .int .u64 (n : Int)] w fun e w' => e = .returned (.tuple #[.int .u64 ((takeV p q r s now n).1 : Int), .bool (takeV p q r s now n).2.1, .int .i64 (takeV p q r s now n).2.2]) ∧ Chg [] w w' := by
  by_cases hm : mayV p q r [now] = 0
  · rw [show takeV p q r s now n = (takeS p q r s now n, takeB p q r s now n, 0) by unfold takeV; rw [if_pos hm]]
    exact take_ok p q r s now n w hm hs hn
  · rw [show takeV p q r s now n = (0, false, mayV p q r [now]) by unfold takeV; rw [if_neg hm]]
    exact take_no p q r s now n w hm
end Go.Proofs.Ythhddmamlpnjpaa
