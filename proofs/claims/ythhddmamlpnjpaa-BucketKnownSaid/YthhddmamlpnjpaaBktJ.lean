/- The reference's When, walked. -/
import Derived.Test.YthhddmamlpnjpaaBktI
namespace Go.Proofs.Ythhddmamlpnjpaa
open Go.RowKit Go.Lib Go.Sort

theorem ceil_le {d p t : Nat} (hp : 1 ≤ p) : ceilV d p ≤ t ↔ d ≤ t * p := by
  unfold ceilV
  have h1 := Nat.div_add_mod d p
  have h2 : d % p < p := Nat.mod_lt _ (by omega)
  generalize d / p = a at *
  generalize hm : d % p = m at *
  rw [Nat.mul_comm] at h1
  constructor
  · intro h
    by_cases h0 : m = 0
    · rw [if_pos h0] at h
      have := Nat.mul_le_mul_right p h
      rw [Nat.add_mul] at this
      omega
    · rw [if_neg h0] at h
      have := Nat.mul_le_mul_right p h
      rw [Nat.add_mul] at this
      omega
  · intro h
    by_cases h0 : m = 0
    · rw [if_pos h0]
      rcases Nat.lt_or_ge t a with h3 | h3
      · have := Nat.mul_le_mul_right p (show t + 1 ≤ a by omega)
        rw [Nat.add_mul] at this
        omega
      · omega
    · rw [if_neg h0]
      rcases Nat.lt_or_ge t (a + 1) with h3 | h3
      · have := Nat.mul_le_mul_right p (show t ≤ a by omega)
        omega
      · omega

theorem takeB_iff {p q r s t n : Nat} (hp : 1 ≤ p) (hn : n ≤ r) : takeB p q r s t n = true ↔ ceilV (s + n * q - r * q) p ≤ t := by
  rw [ceil_le hp]
  unfold takeB aheadV standV
  have := Nat.mul_le_mul_right q hn
  rw [decide_eq_true_eq]
  omega
theorem takeB_far {p q r s t n : Nat} (hq : 1 ≤ q) (hn : r < n) : takeB p q r s t n = false := by
  unfold takeB
  have := Nat.mul_le_mul_right q (show r + 1 ≤ n by omega)
  rw [Nat.add_mul] at this
  rw [decide_eq_false_iff_not]
  omega
theorem takeB_mono {p q r s t u n : Nat} (hp : 1 ≤ p) (hq : 1 ≤ q) (htu : t ≤ u) (h : takeB p q r s t n = true) : takeB p q r s u n = true := by
  by_cases hn : n ≤ r
  · rw [takeB_iff hp hn] at h ⊢; omega
  · rw [takeB_far hq (by omega)] at h; cases h

theorem whenN_eq {p q r s now n : Nat} (hp : 1 ≤ p) (hn : n ≤ r) (hnow : now ≤ 1099511627776) : whenN p q r s now n = if 1099511627776 < max (ceilV (s + n * q - r * q) p) now then (0, false) else (max (ceilV (s + n * q - r * q) p) now, true) := by
  unfold whenN
  rw [if_neg (by omega)]
  by_cases h : s + n * q ≤ r * q
  · have h0 : s + n * q - r * q = 0 := by omega
    have hc : ceilV 0 p = 0 := by
      have := (ceil_le (d := 0) (t := 0) hp).2 (by omega)
      omega
    rw [if_pos h, h0, hc, if_neg (by omega), Nat.max_eq_right (Nat.zero_le _)]
  · rw [if_neg h]

/-- The first tick at which Take says true is When's. -/
theorem whenN_first {p q r s now n low : Nat} (hp : 1 ≤ p) (hq : 1 ≤ q) (h1 : now ≤ low) (h2 : low ≤ 1099511627776) (h3 : takeB p q r s low n = true) (h4 : ∀ t, now ≤ t → t < low → takeB p q r s t n = false) : whenN p q r s now n = (low, true) := by
  have hn : n ≤ r := by
    rcases Nat.lt_or_ge r n with h | h
    · rw [takeB_far hq h] at h3; cases h3
    · exact h
  rw [whenN_eq hp hn (by omega)]
  have h5 := (takeB_iff hp hn).1 h3
  have h6 : low ≤ max (ceilV (s + n * q - r * q) p) now := by
    rcases Nat.lt_or_ge (max (ceilV (s + n * q - r * q) p) now) low with h | h
    · have h7 := h4 (max (ceilV (s + n * q - r * q) p) now) (Nat.le_max_right _ _) h
      have h8 := (takeB_iff (q := q) (s := s) (t := max (ceilV (s + n * q - r * q) p) now) hp hn).2 (Nat.le_max_left _ _)
      rw [h7] at h8; cases h8
    · exact h
  have h9 : max (ceilV (s + n * q - r * q) p) now = low := by omega
  rw [h9, if_neg (by omega)]
theorem whenN_never {p q r s now n : Nat} (hp : 1 ≤ p) (hnow : now ≤ 1099511627776) (h : takeB p q r s 1099511627776 n = false) : whenN p q r s now n = (0, false) := by
  rcases Nat.lt_or_ge r n with hn | hn
  · unfold whenN; rw [if_pos hn]
  · rw [whenN_eq hp hn hnow, if_pos]
    have h1 : ¬ (ceilV (s + n * q - r * q) p ≤ 1099511627776) := by
      intro h2
      rw [(takeB_iff hp hn).2 h2] at h; cases h
    omega

set_option maxHeartbeats 1000000 in
theorem rWhen_no (p q r s now n : Nat) (w : World) (hm : mayV p q r [now] ≠ 0) :
    Calls Try.prog 28 #[.agg #[.int .u64 (p : Int), .int .u64 (q : Int), .int .u64 (r : Int)], .int .u64 (s : Int), .int .u64 (now : Int), .int .u64 (n : Int)] w fun e w' => e = .returned (.tuple #[.int .u64 0, .bool false, .int .i64 (mayV p q r [now])]) ∧ Chg [] w w' := by
  obtain ⟨m, hmm⟩ : ∃ m, m = mayV p q r [now] := ⟨_, rfl⟩
  have hne : (m == 0) = false := beq_eq_false_iff_ne.2 (by rw [hmm]; exact hm)
  have hne2 : (m != 0) = true := by rw [bne_iff_ne]; rw [hmm]; exact hm
  have HM := hid (fun W => rWrong_any p q r now W)
  rw [← hmm] at HM ⊢
  clear hmm hm
  go_enter Try.func28, Try.ntmps28
  go_wp2_with (go_at_call 41; refine (HM.out _).mono ?_; rintro e w1 ⟨rfl, hC1⟩)
  go_ret3
  exact ⟨rfl, ((Chg.refl [] w).alloc _).trans hC1⟩

theorem may_le {p q r u : Nat} (h : OkB p q r) (hu : u ≤ 1099511627776) : mayV p q r [u] = 0 := by
  rw [mayV_one, if_pos h, if_pos hu]

/-- What the halving keeps. -/
def Halve (p q r s now n lo hi : Nat) : Prop := now ≤ lo ∧ lo ≤ hi ∧ hi ≤ 1099511627776 ∧ takeB p q r s hi n = true ∧ ∀ t, now ≤ t → t < lo → takeB p q r s t n = false

set_option maxHeartbeats 2000000 in
theorem rWhen_ok (p q r s now n : Nat) (w : World) (hm : mayV p q r [now] = 0) (hs : s < 18446744073709551616) (hn : n < 18446744073709551616) :
    Calls Try.prog 28 #[.agg #[.int .u64 (p : Int), .int .u64 (q : Int), .int .u64 (r : Int)], .int .u64 (s : Int), .int .u64 (now : Int), .int .u64 (n : Int)] w fun e w' => e = .returned (.tuple #[.int .u64 ((whenN p q r s now n).1 : Int), .bool (whenN p q r s now n).2, .int .i64 0]) ∧ Chg [] w w' := by
  obtain ⟨hok, hnow⟩ := may_one_ok hm
  have HM := hid (fun W => rWrong_any p q r now W)
  rw [hm] at HM
  have HT := hid (fun (u : Nat) (hu : u ≤ 1099511627776) W => rTake_ok p q r s u n W (may_le hok hu) hs hn)
  have HT1 := hid (fun W => HT.out 1099511627776 (Nat.le_refl _) W)
  obtain ⟨c, hc⟩ : ∃ c, c = takeB p q r s 1099511627776 n := ⟨_, rfl⟩
  rw [← hc] at HT1
  have HC := hid hc
  have HOK := hid hok
  have HNOW := hid hnow
  clear hm hok hs hn hc hnow
  have B0 : Blk (w.alloc (.cells #[.int .u64 (p : Int), .int .u64 (q : Int), .int .u64 (r : Int)] 24)) w.heap.size 24 [.int .u64 (p : Int), .int .u64 (q : Int), .int .u64 (r : Int)] := Blk.new w 24 #[.int .u64 (p : Int), .int .u64 (q : Int), .int .u64 (r : Int)]
  cases c
  all_goals
    go_enter Try.func28, Try.ntmps28
    go_wp2_with (first
      | (go_at_call 41; refine (HM.out _).mono ?_; rintro e w1 ⟨rfl, hC1⟩; have B1 := B0.chg hC1 (by simp); have b10 := B1.cell_of (i := 0) rfl; have b11 := B1.cell_of (i := 1) rfl; have b12 := B1.cell_of (i := 2) rfl)
      | (go_at_call 24; refine (HT1.out _).mono ?_; rintro e w2 ⟨rfl, hC2⟩; have B2 := B1.chg hC2 (by simp); have HCC := hid ((((Chg.refl [] w).alloc _).trans hC1).trans hC2)))
  · have HV := hid (whenN_never (q := q) (s := s) (n := n) HOK.out.1 HNOW.out HC.out.symm)
    go_ret3
    exact ⟨by rw [HV.out]; rfl, HCC.out⟩
  · go_loopw [15, 16] (fun lo hi wr => ∃ l h : Nat, lo = .int .u64 (l : Int) ∧ hi = .int .u64 (h : Int) ∧ Halve p q r s now n l h ∧ Blk wr w.heap.size 24 [.int .u64 (p : Int), .int .u64 (q : Int), .int .u64 (r : Int)] ∧ Chg [] w wr) (fun lo hi _ => (intOf hi - intOf lo).toNat)
    case atStart => exact ⟨now, 1099511627776, rfl, rfl, ⟨Nat.le_refl _, HNOW.out, Nat.le_refl _, HC.out.symm, fun t h1 h2 => by omega⟩, B2, HCC.out⟩
    case round =>
      obtain ⟨l, h, rfl, rfl, hH, hB, hC⟩ := hrel
      have HH := hid hH
      have k1 : h ≤ 1099511627776 := hH.2.2.1
      by_cases hlt : (l : Int) < (h : Int)
      · obtain ⟨d, hd⟩ : ∃ d, d = h - l := ⟨_, rfl⟩
        obtain ⟨e, he⟩ : ∃ e, e = d / 2 := ⟨_, rfl⟩
        obtain ⟨m, hme⟩ : ∃ m, m = l + e := ⟨_, rfl⟩
        have q1 : (h : Int) - (l : Int) = (d : Int) := by omega
        have q2 : (d : Int) / 2 = (e : Int) := by omega
        have q3 : (l : Int) + (e : Int) = (m : Int) := by omega
        have m1 : m < h := by omega
        have m2 : l ≤ m := by omega
        have HTm := hid (fun W => HT.out m (by omega) W)
        obtain ⟨c, hc⟩ : ∃ c, c = takeB p q r s m n := ⟨_, rfl⟩
        rw [← hc] at HTm
        have HCm := hid hc
        have b0 := hB.cell_of (i := 0) rfl
        have b1 := hB.cell_of (i := 1) rfl
        have b2 := hB.cell_of (i := 2) rfl
        clear hd he hme hH hc
        have l0 : (0 : Int) ≤ (l : Int) := by omega
        have l1 : (l : Int) ≤ 1099511627776 := by omega
        have e0 : (e : Int) ≤ 1099511627776 := by omega
        have m3 : (m : Int) ≤ 1099511627776 := by omega
        cases c
        all_goals
          go_wp2_with (go_at_call 24; refine (HTm.out _).mono ?_; rintro e w2 ⟨rfl, hC2⟩)
          go_roundw
          case measure => simp [intOf] <;> omega
        · refine ⟨m + 1, h, by go_num, rfl, ⟨by have := HH.out.1; omega, by omega, HH.out.2.2.1, HH.out.2.2.2.1, ?_⟩, hB.chg hC2 (by simp), hC.trans hC2⟩
          intro t h1 h2
          cases htt : takeB p q r s t n with
          | false => rfl
          | true =>
            have := takeB_mono (u := m) HOK.out.1 HOK.out.2.2.1 (by omega) htt
            rw [← HCm.out] at this; cases this
        · exact ⟨l, m, rfl, rfl, ⟨HH.out.1, m2, by omega, HCm.out.symm, HH.out.2.2.2.2⟩, hB.chg hC2 (by simp), hC.trans hC2⟩
      · obtain ⟨h1, h2, h3, h4, h5⟩ := HH.out
        obtain rfl : l = h := by omega
        have HV := hid (whenN_first HOK.out.1 HOK.out.2.2.1 h1 h3 h4 h5)
        clear h1 h2 h3 h4 h5 hH
        go_wp2
        go_ret3
        exact ⟨by rw [HV.out]; rfl, hC⟩

theorem rWhen_any (p q r s now n : Nat) (w : World) (hs : s < 18446744073709551616) (hn : n < 18446744073709551616) :
    Calls Try.prog 28 #[.agg #[.int .u64 (p : Int), .int .u64 (q : Int), .int .u64 (r : Int)], .int .u64 (s : Int), .int .u64 (now : Int), .int .u64 (n : Int)] w fun e w' => e = .returned (.tuple #[.int .u64 ((whenV p q r s now n).1 : Int), .bool (whenV p q r s now n).2.1, .int .i64 (whenV p q r s now n).2.2]) ∧ Chg [] w w' := by
  by_cases hm : mayV p q r [now] = 0
  · rw [show whenV p q r s now n = ((whenN p q r s now n).1, (whenN p q r s now n).2, 0) by unfold whenV; rw [if_pos hm]]
    exact rWhen_ok p q r s now n w hm hs hn
  · rw [show whenV p q r s now n = (0, false, mayV p q r [now]) by unfold whenV; rw [if_neg hm]]
    exact rWhen_no p q r s now n w hm
end Go.Proofs.Ythhddmamlpnjpaa
