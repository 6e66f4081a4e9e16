/- BucketWhen's arithmetic, and its walk. -/
import Derived.Test.YthhddmamlpnjpaaBktS
namespace Go.Proofs.Ythhddmamlpnjpaa
open Go.RowKit Go.Lib Go.Sort

theorem level_take {p q r s now n : Nat} (hq : 1 ≤ q) (hn : 0 < n) : takeB p q r s now n = decide (n ≤ levelN p q r s now) := by
  unfold takeB levelN
  by_cases h : r * q < aheadV p s now
  · rw [if_pos h]
    rw [decide_eq_false (by omega), decide_eq_false (by omega)]
  · rw [if_neg h]
    have := Nat.le_div_iff_mul_le (x := n) (y := r * q - aheadV p s now) (k := q) (by omega)
    by_cases h2 : n * q ≤ r * q - aheadV p s now
    · rw [decide_eq_true (by omega), decide_eq_true (this.2 h2)]
    · rw [decide_eq_false (by omega), decide_eq_false (fun h3 => h2 (this.1 h3))]
theorem level_le {p q r s now : Nat} (hq : 1 ≤ q) : levelN p q r s now ≤ r := by
  unfold levelN
  by_cases h : r * q < aheadV p s now
  · rw [if_pos h]; omega
  · rw [if_neg h]
    have h1 : (r * q - aheadV p s now) / q ≤ r * q / q := Nat.div_le_div_right (by omega)
    rw [Nat.mul_div_cancel _ (by omega)] at h1
    exact h1
theorem ahead_eq (p s now : Nat) : aheadV p s now = s - now * p := by unfold aheadV standV; omega
theorem level_later {p q r s now d : Nat} (hq : 1 ≤ q) : levelN p q r s now ≤ levelN p q r s (now + d) ∧ levelN p q r s (now + d) ≤ levelN p q r s now + d * p / q + 1 := by
  have e1 := ahead_eq p s now
  have e2 := ahead_eq p s (now + d)
  rw [Nat.add_mul] at e2
  unfold levelN
  generalize hx : d * p = x at *
  generalize hy : now * p = y at *
  generalize r * q = z at *
  generalize aheadV p s now = a at *
  generalize aheadV p s (now + d) = b at *
  have hba : b ≤ a ∧ a ≤ b + x := by omega
  by_cases h : z < a
  · rw [if_pos h]
    refine ⟨Nat.zero_le _, ?_⟩
    by_cases h2 : z < b
    · rw [if_pos h2]; exact Nat.zero_le _
    · rw [if_neg h2]
      have : (z - b) / q ≤ x / q := Nat.div_le_div_right (by omega)
      rw [Nat.zero_add]
      exact Nat.le_succ_of_le this
  · rw [if_neg h, if_neg (by omega)]
    refine ⟨Nat.div_le_div_right (by omega), ?_⟩
    have h3 : (z - b) / q ≤ (z - a + x) / q := Nat.div_le_div_right (by omega)
    have h4 : (z - a + x) / q ≤ (z - a) / q + x / q + 1 := by
      have a1 := Nat.div_add_mod (z - a) q
      have a2 := Nat.div_add_mod x q
      have a3 := Nat.div_add_mod (z - a + x) q
      have b1 : (z - a) % q < q := Nat.mod_lt _ (by omega)
      have b2 : x % q < q := Nat.mod_lt _ (by omega)
      have : (z - a + x) / q < (z - a) / q + x / q + 2 := by
        apply (Nat.div_lt_iff_lt_mul (by omega)).2
        rw [Nat.mul_comm, Nat.mul_add, Nat.mul_add]
        omega
      exact Nat.le_of_lt_succ this
    exact Nat.le_trans h3 h4

/-- What When says, by cases. -/
theorem when_cases {p q r s now n : Nat} (hok : OkB p q r) (hnow : now ≤ 1099511627776) :
    (whenN p q r s now n = (0, false) ∧ takeB p q r s now n = false) ∨
    (whenN p q r s now n = (now, true) ∧ takeB p q r s now n = true) ∨
    (∃ t, whenN p q r s now n = (t, true) ∧ now < t ∧ t ≤ 1099511627776 ∧ takeB p q r s now n = false ∧ takeB p q r s t n = true ∧ takeB p q r s (t - 1) n = false) := by
  have hp := hok.1
  have hq := hok.2.2.1
  by_cases hn : n ≤ r
  · rw [whenN_eq hp hn hnow]
    generalize hc : ceilV (s + n * q - r * q) p = c
    have key : ∀ t, takeB p q r s t n = decide (c ≤ t) := by
      intro t
      have := takeB_iff (q := q) (s := s) (t := t) hp hn
      rw [hc] at this
      cases h : takeB p q r s t n with
      | true => rw [decide_eq_true (this.1 h)]
      | false => rw [decide_eq_false (fun h2 => by rw [this.2 h2] at h; cases h)]
    by_cases h1 : 1099511627776 < max c now
    · rw [if_pos h1]
      exact .inl ⟨rfl, by rw [key]; exact decide_eq_false (by omega)⟩
    · rw [if_neg h1]
      by_cases h2 : c ≤ now
      · rw [Nat.max_eq_right h2]
        exact .inr (.inl ⟨rfl, by rw [key]; exact decide_eq_true h2⟩)
      · refine .inr (.inr ⟨max c now, rfl, by omega, by omega, ?_, ?_, ?_⟩)
        · rw [key]; exact decide_eq_false h2
        · rw [key]; exact decide_eq_true (by omega)
        · rw [key]; exact decide_eq_false (by omega)
  · refine .inl ⟨by unfold whenN; rw [if_pos (by omega)], takeB_far hq (by omega)⟩

theorem level_C {p q r s now : Nat} (hok : OkB p q r) (hnow : now ≤ 1099511627776) (hs : s < 18446744073709551616) (W : World) :
    Calls Try.prog 25 #[.agg #[.int .u64 (p : Int), .int .u64 (q : Int), .int .u64 (r : Int)], .int .u64 (s : Int), .int .u64 (now : Int)] W fun e w' => e = .returned (.tuple #[.int .u64 (levelN p q r s now : Int), .int .i64 0]) ∧ Chg [] W w' :=
  level_ok p q r s now W (may_le hok hnow) hs
theorem take_C {p q r s now n : Nat} (hok : OkB p q r) (hnow : now ≤ 1099511627776) (hs : s < 18446744073709551616) (hn : n < 18446744073709551616) {b : Bool} (hb : takeB p q r s now n = b) (W : World) :
    Calls Try.prog 19 #[.agg #[.int .u64 (p : Int), .int .u64 (q : Int), .int .u64 (r : Int)], .int .u64 (s : Int), .int .u64 (now : Int), .int .u64 (n : Int)] W fun e w' => ∃ v : Nat, e = .returned (.tuple #[.int .u64 (v : Int), .bool b, .int .i64 0]) ∧ Chg [] W w' := by
  subst hb
  exact (take_ok p q r s now n W (may_le hok hnow) hs hn).mono fun e w' h => ⟨_, h⟩
theorem when_C {p q r s now n : Nat} (hok : OkB p q r) (hnow : now ≤ 1099511627776) (hs : s < 18446744073709551616) (hn : n < 18446744073709551616) {t : Nat} {b : Bool} (hb : whenN p q r s now n = (t, b)) (W : World) :
    Calls Try.prog 27 #[.agg #[.int .u64 (p : Int), .int .u64 (q : Int), .int .u64 (r : Int)], .int .u64 (s : Int), .int .u64 (now : Int), .int .u64 (n : Int)] W fun e w' => e = .returned (.tuple #[.int .u64 (t : Int), .bool b, .int .i64 0]) ∧ Chg [] W w' := by
  have h := when_ok p q r s now n W (may_le hok hnow) hs hn
  rw [hb] at h
  exact h

theorem TwoB.setB {w : World} {g p q r s x n : Nat} (h : TwoB w g p q r s x n) (P Q R : Nat) :
    TwoB (((w.setCell ⟨g, 0, none⟩ (.int .u64 (P : Int))).setCell ⟨g, 1, none⟩ (.int .u64 (Q : Int))).setCell ⟨g, 2, none⟩ (.int .u64 (R : Int))) g P Q R s x n :=
  ⟨((Blk.set_ h.b 0 _).set_ 1 _).set_ 2 _, ((h.x.far (by simp) _).far (by simp) _).far (by simp) _⟩

set_option maxHeartbeats 4000000 in
set_option maxRecDepth 100000 in
theorem when_law (p q r s x n later : Nat) (w : World) (hs : s < 18446744073709551616) (hn : n < 18446744073709551616) :
    Calls Try.prog 8 #[.agg #[.int .u64 (p : Int), .int .u64 (q : Int), .int .u64 (r : Int)], .agg #[.int .u64 (s : Int), .int .u64 (x : Int), .int .u64 (n : Int)], .int .u64 (later : Int)] w fun e w' => e = .returned (.bool true) ∧ Chg [] w w' := by
  obtain ⟨P, hP⟩ : ∃ P, P = p % 65536 + 1 := ⟨_, rfl⟩
  obtain ⟨Q, hQ⟩ : ∃ P, P = q % 65536 + 1 := ⟨_, rfl⟩
  obtain ⟨R, hR⟩ : ∃ P, P = r % 1048576 + 1 := ⟨_, rfl⟩
  have HRI := right_any p q r
  rw [← hP, ← hQ, ← hR] at HRI
  have hok : OkB P Q R := by unfold OkB; omega
  have HRI := hid HRI
  obtain ⟨now, hnw⟩ : ∃ k, k = x % 1099511627777 := ⟨_, rfl⟩
  have q1 : (x : Int) % 1099511627777 = (now : Int) := by omega
  have hnow : now ≤ 1099511627776 := by omega
  obtain ⟨m, hm⟩ : ∃ k, k = later % 1048576 := ⟨_, rfl⟩
  obtain ⟨k, hk⟩ : ∃ k, k = 1099511627776 - now := ⟨_, rfl⟩
  have q6 : (later : Int) % 1048576 = (m : Int) := by omega
  have q7 : (1099511627776 : Int) - (now : Int) = (k : Int) := by omega
  have q8 : (m : Int) ≤ 1048575 := by omega
  have q9 : (now : Int) + (k : Int) ≤ 1099511627776 := by omega
  obtain ⟨L, hL⟩ : ∃ L, L = levelN P Q R s now := ⟨_, rfl⟩
  have hLR : L ≤ R := by rw [hL]; exact level_le hok.2.2.1
  have H25 := level_C hok hnow hs
  rw [← hL] at H25
  have H25 := hid H25
  have hR2 : R ≤ 1048576 := hok.2.2.2.2.2
  have hT1 : 1 ≤ L → takeB P Q R s now L = true := fun h => by
    rw [level_take hok.2.2.1 (by omega), ← hL]; exact decide_eq_true (Nat.le_refl _)
  have hT1b : L < 1 → takeB P Q R s now 1 = false := fun h => by
    rw [level_take hok.2.2.1 (by omega), ← hL]; exact decide_eq_false (by omega)
  have hT2 : takeB P Q R s now (L + 1) = false := by
    rw [level_take hok.2.2.1 (by omega), ← hL]
    exact decide_eq_false (by omega)
  have HNW := hid (And.intro hnow hok)
  have HT1 := hid (fun h => take_C hok hnow hs (by omega) (hT1 h))
  have HT1b : Hid (L < 1 → ∀ W : World, Calls Try.prog 19 #[.agg #[.int .u64 (P : Int), .int .u64 (Q : Int), .int .u64 (R : Int)], .int .u64 (s : Int), .int .u64 (now : Int), .int .u64 1] W fun e w' => ∃ v : Nat, e = .returned (.tuple #[.int .u64 (v : Int), .bool false, .int .i64 0]) ∧ Chg [] W w') := hid (fun h W => take_C hok hnow hs (by omega) (hT1b h) W)
  have HT2 : Hid (∀ W : World, Calls Try.prog 19 #[.agg #[.int .u64 (P : Int), .int .u64 (Q : Int), .int .u64 (R : Int)], .int .u64 (s : Int), .int .u64 (now : Int), .int .u64 ((L : Int) + 1)] W fun e w' => ∃ v : Nat, e = .returned (.tuple #[.int .u64 (v : Int), .bool false, .int .i64 0]) ∧ Chg [] W w') := hid (fun W => take_C hok hnow hs (by omega) hT2 W)
  obtain ⟨Nm, hNm⟩ : ∃ N, N = levelN P Q R s (now + m) := ⟨_, rfl⟩
  have Hm : m ≤ k → ∀ W : World, Calls Try.prog 25 #[.agg #[.int .u64 (P : Int), .int .u64 (Q : Int), .int .u64 (R : Int)], .int .u64 (s : Int), .int .u64 ((now : Int) + (m : Int))] W fun e w' => e = .returned (.tuple #[.int .u64 (Nm : Int), .int .i64 0]) ∧ Chg [] W w' := fun h W => by
    have := level_C (p := P) (q := Q) (r := R) hok (show now + m ≤ 1099511627776 by omega) hs W
    rw [← hNm] at this
    exact this
  have H25m := hid Hm
  have hLNm := level_later (p := P) (q := Q) (r := R) (s := s) (now := now) (d := m) hok.2.2.1
  rw [← hL, ← hNm] at hLNm
  obtain ⟨dpm, hdpm⟩ : ∃ x0, x0 = m * P := ⟨_, rfl⟩
  have q3m : (m : Int) * (P : Int) = (dpm : Int) := by rw [hdpm]; simp
  obtain ⟨dqm, hdqm⟩ : ∃ x0, x0 = dpm / Q := ⟨_, rfl⟩
  have q4m : (dpm : Int) / (Q : Int) = (dqm : Int) := by rw [hdqm]; simp
  have hdqbm : dqm ≤ dpm := by rw [hdqm]; exact Nat.div_le_self _ _
  rw [← hdpm, ← hdqm] at hLNm
  have l1m : (L : Int) ≤ (Nm : Int) := by omega
  have l2m : (Nm : Int) ≤ (L : Int) + (dqm : Int) + 1 := by omega
  have hdpbm : dpm ≤ 1099511627776 * 65536 := by rw [hdpm]; exact Nat.mul_le_mul (by omega) hok.2.1
  have b1m : (dpm : Int) ≤ 72057594037927936 := by omega
  have b2m : (dqm : Int) ≤ 72057594037927936 := by omega
  clear Hm hLNm hdpm hdqm hNm hdqbm hdpbm
  obtain ⟨Nk, hNk⟩ : ∃ N, N = levelN P Q R s (now + k) := ⟨_, rfl⟩
  have Hk : k ≤ 1048575 → ∀ W : World, Calls Try.prog 25 #[.agg #[.int .u64 (P : Int), .int .u64 (Q : Int), .int .u64 (R : Int)], .int .u64 (s : Int), .int .u64 ((now : Int) + (k : Int))] W fun e w' => e = .returned (.tuple #[.int .u64 (Nk : Int), .int .i64 0]) ∧ Chg [] W w' := fun h W => by
    have := level_C (p := P) (q := Q) (r := R) hok (show now + k ≤ 1099511627776 by omega) hs W
    rw [← hNk] at this
    exact this
  have H25k := hid Hk
  have hLNk := level_later (p := P) (q := Q) (r := R) (s := s) (now := now) (d := k) hok.2.2.1
  rw [← hL, ← hNk] at hLNk
  obtain ⟨dpk, hdpk⟩ : ∃ x0, x0 = k * P := ⟨_, rfl⟩
  have q3k : (k : Int) * (P : Int) = (dpk : Int) := by rw [hdpk]; simp
  obtain ⟨dqk, hdqk⟩ : ∃ x0, x0 = dpk / Q := ⟨_, rfl⟩
  have q4k : (dpk : Int) / (Q : Int) = (dqk : Int) := by rw [hdqk]; simp
  have hdqbk : dqk ≤ dpk := by rw [hdqk]; exact Nat.div_le_self _ _
  rw [← hdpk, ← hdqk] at hLNk
  have l1k : (L : Int) ≤ (Nk : Int) := by omega
  have l2k : (Nk : Int) ≤ (L : Int) + (dqk : Int) + 1 := by omega
  have hdpbk : dpk ≤ 1099511627776 * 65536 := by rw [hdpk]; exact Nat.mul_le_mul (by omega) hok.2.1
  have b1k : (dpk : Int) ≤ 72057594037927936 := by omega
  have b2k : (dqk : Int) ≤ 72057594037927936 := by omega
  clear Hk hLNk hdpk hdqk hNk hdqbk hdpbk
  have q0 : (1 : Int) ≤ (Q : Int) := by have := hok.2.2.1; omega
  have hcs := when_cases (s := s) (n := n) hok hnow
  have hlv : 0 < n → takeB P Q R s now n = decide (n ≤ L) := fun h => by rw [level_take hok.2.2.1 h, ← hL]
  have HCS := hid hcs
  have HLV := hid hlv
  have HOK := hid hok
  have b3 : (L : Int) ≤ (R : Int) := by omega
  have b4 : (R : Int) ≤ 1048576 := by omega
  have b5 : (now : Int) ≤ 1099511627776 := by omega
  have HHS := hid hs
  have HHN := hid hn
  clear hP hQ hR hm hk hL hT1 hT1b hT2 hcs hlv hok hnw hs hn
  have T0 : TwoB ((w.alloc (.cells #[.int .u64 (p : Int), .int .u64 (q : Int), .int .u64 (r : Int)] 24)).alloc (.cells #[.int .u64 (s : Int), .int .u64 (x : Int), .int .u64 (n : Int)] 48)) w.heap.size p q r s x n :=
    ⟨(Blk.new w 24 #[.int .u64 (p : Int), .int .u64 (q : Int), .int .u64 (r : Int)]).alloc _, Blk.new_at _ 48 #[.int .u64 (s : Int), .int .u64 (x : Int), .int .u64 (n : Int)] (by simp)⟩
  have C0 := hid (((Chg.refl [] w).alloc (.cells #[.int .u64 (p : Int), .int .u64 (q : Int), .int .u64 (r : Int)] 24)).alloc (.cells #[.int .u64 (s : Int), .int .u64 (x : Int), .int .u64 (n : Int)] 48))
  go_enter Try.func8, Try.ntmps8
  go_wp2_with (go_at_call 18; refine (HRI.out _).mono ?_; rintro e w1 ⟨rfl, hC1⟩; have T1 := T0.chg hC1; have f10 := Blk.frozen T1.b 0; have f11 := Blk.frozen T1.b 1; have f12 := Blk.frozen T1.b 2; have K1 := hid (C0.out.trans hC1); clear hC1; obtain ⟨e10, e11, e12, e13, e14, e15⟩ := T1.cells)
  obtain ⟨w2, hw2⟩ : ∃ w2, w2 = (((w1.setCell ⟨w.heap.size, 0, none⟩ (.int .u64 (P : Int))).setCell ⟨w.heap.size, 1, none⟩ (.int .u64 (Q : Int))).setCell ⟨w.heap.size, 2, none⟩ (.int .u64 (R : Int))) := ⟨_, rfl⟩
  have T2 : TwoB w2 w.heap.size P Q R s x n := by rw [hw2]; exact T1.setB P Q R
  have K2 : Hid (Chg [] w w2) := by rw [hw2]; exact hid (((K1.out.setCell (.inr (Nat.le_refl _)) _).setCell (.inr (Nat.le_refl _)) _).setCell (.inr (Nat.le_refl _)) _)
  rw [← hw2]
  clear hw2 T1 e10 e11 e12 e13 e14 e15 f10 f11 f12
  obtain ⟨e20, e21, e22, e23, e24, e25⟩ := T2.cells
  have tok1 : True := trivial
  have hL1 : (1 : Int) ≤ (L : Int) ∨ (L : Int) < 1 := by omega
  rcases hL1 with hL1 | hL1
  · have HA := hid (HT1.out (by omega))
    clear HT1 HT1b
    go_wp2_with (first
      | (go_at_call 25; (with_reducible refine (H25.out _).mono ?_); rintro e w3 ⟨rfl, hC⟩; have K3 := hid (K2.out.trans hC); have T3 := T2.chg hC; clear hC; obtain ⟨e30, e31, e32, e33, e34, e35⟩ := T3.cells)
      | (go_at_call 19; (with_reducible refine (HA.out _).mono ?_); rintro e w4 ⟨v4, rfl, hC⟩; have K4 := hid (K3.out.trans hC); have T4 := T3.chg hC; clear hC; obtain ⟨e40, e41, e42, e43, e44, e45⟩ := T4.cells)
      | (go_at_call 19; (with_reducible refine (HT2.out _).mono ?_); rintro e w5 ⟨v5, rfl, hC⟩; have K5 := hid (K4.out.trans hC); have T5 := T4.chg hC; clear hC; obtain ⟨e50, e51, e52, e53, e54, e55⟩ := T5.cells))
    all_goals
      rcases HCS.out with ⟨hw, ht⟩ | ⟨hw, ht⟩ | ⟨t, hw, t1, t2, ht, ht2, ht3⟩
      · have HTn := hid (take_C HNW.out.2 HNW.out.1 HHS.out HHN.out ht)
        have HWn := hid (when_C HNW.out.2 HNW.out.1 HHS.out HHN.out hw)
        have hnL : n = 0 ∨ (0 < n ∧ L < n) := by
          by_cases h0 : n = 0
          · exact .inl h0
          · have := HLV.out (by omega)
            rw [ht] at this
            have := of_decide_eq_false this.symm
            omega
        clear hw ht
        have hnI : ((n : Int) ≤ 0) ∨ ((0 : Int) < (n : Int) ∧ (L : Int) < (n : Int)) := by omega
        clear hnL
        rcases hnI with hn0 | ⟨hn0, hn1⟩
        all_goals try (exfalso; omega)
        all_goals
          go_wp2_with (first
          | (go_at_call 19; (with_reducible refine (HTn.out _).mono ?_); rintro e w6 ⟨v6, rfl, hC⟩; have K6 := hid (K5.out.trans hC); have T6 := T5.chg hC; clear hC; obtain ⟨e60, e61, e62, e63, e64, e65⟩ := T6.cells)
          | (go_at_call 27; (with_reducible refine (HWn.out _).mono ?_); rintro e w7 ⟨rfl, hC⟩; have K7 := hid (K6.out.trans hC); have T7 := T6.chg hC; clear hC; obtain ⟨e70, e71, e72, e73, e74, e75⟩ := T7.cells)
          | (go_at_call 25; (with_reducible refine (H25m.out (by omega) _).mono ?_); rintro e w8 ⟨rfl, hC⟩; have K8 := hid (K7.out.trans hC); have T8 := T7.chg hC; clear hC; obtain ⟨e80, e81, e82, e83, e84, e85⟩ := T8.cells)
          | (go_at_call 25; (with_reducible refine (H25k.out (by omega) _).mono ?_); rintro e w8 ⟨rfl, hC⟩; have K8 := hid (K7.out.trans hC); have T8 := T7.chg hC; clear hC; obtain ⟨e80, e81, e82, e83, e84, e85⟩ := T8.cells)
          | (go_at_call 17; (with_reducible refine (works_any _).mono ?_); rintro e w9 ⟨rfl, hC⟩; have K9 := hid (K8.out.trans hC); have T9 := T8.chg hC; clear hC; obtain ⟨e90, e91, e92, e93, e94, e95⟩ := T9.cells))
          all_goals (go_ret; exact ⟨rfl, K9.out⟩)
      · have HTn := hid (take_C HNW.out.2 HNW.out.1 HHS.out HHN.out ht)
        have HWn := hid (when_C HNW.out.2 HNW.out.1 HHS.out HHN.out hw)
        have hnL : n = 0 ∨ (0 < n ∧ n ≤ L) := by
          by_cases h0 : n = 0
          · exact .inl h0
          · have := HLV.out (by omega)
            rw [ht] at this
            have := of_decide_eq_true this.symm
            omega
        clear hw ht
        have hnI : ((n : Int) ≤ 0) ∨ ((0 : Int) < (n : Int) ∧ (n : Int) ≤ (L : Int)) := by omega
        clear hnL
        rcases hnI with hn0 | ⟨hn0, hn1⟩
        all_goals try (exfalso; omega)
        all_goals
          go_wp2_with (first
          | (have _tk := tok1; go_at_call 19; (with_reducible refine (HTn.out _).mono ?_); rintro e w6 ⟨v6, rfl, hC⟩; have K6 := hid (K5.out.trans hC); have T6 := T5.chg hC; clear hC; obtain ⟨e60, e61, e62, e63, e64, e65⟩ := T6.cells; clear tok1)
          | (go_at_call 27; (with_reducible refine (HWn.out _).mono ?_); rintro e w7 ⟨rfl, hC⟩; have K7 := hid (K6.out.trans hC); have T7 := T6.chg hC; clear hC; obtain ⟨e70, e71, e72, e73, e74, e75⟩ := T7.cells)
          | (go_at_call 19; (with_reducible refine (HTn.out _).mono ?_); rintro e w8 ⟨v8, rfl, hC⟩; have K8 := hid (K7.out.trans hC); have T8 := T7.chg hC; clear hC; obtain ⟨e80, e81, e82, e83, e84, e85⟩ := T8.cells)
          | (go_at_call 25; (with_reducible refine (H25m.out (by omega) _).mono ?_); rintro e w9 ⟨rfl, hC⟩; have K9 := hid (K8.out.trans hC); have T9 := T8.chg hC; clear hC; obtain ⟨e90, e91, e92, e93, e94, e95⟩ := T9.cells)
          | (go_at_call 25; (with_reducible refine (H25k.out (by omega) _).mono ?_); rintro e w9 ⟨rfl, hC⟩; have K9 := hid (K8.out.trans hC); have T9 := T8.chg hC; clear hC; obtain ⟨e90, e91, e92, e93, e94, e95⟩ := T9.cells)
          | (go_at_call 17; (with_reducible refine (works_any _).mono ?_); rintro e w10 ⟨rfl, hC⟩; have K10 := hid (K9.out.trans hC); have T10 := T9.chg hC; clear hC; obtain ⟨e100, e101, e102, e103, e104, e105⟩ := T10.cells))
          all_goals (go_ret; exact ⟨rfl, K10.out⟩)
      · obtain ⟨u, hu⟩ : ∃ u, u = t - 1 := ⟨_, rfl⟩
        have HTn := hid (take_C HNW.out.2 HNW.out.1 HHS.out HHN.out ht)
        have HWn := hid (when_C HNW.out.2 HNW.out.1 HHS.out HHN.out hw)
        have HTt := hid (take_C HNW.out.2 t2 HHS.out HHN.out ht2)
        have HTu := hid (take_C HNW.out.2 (by omega) HHS.out HHN.out ht3)
        rw [← hu] at HTu
        have u1 : (now : Int) < (t : Int) := by omega
        have u2 : (t : Int) ≤ 1099511627776 := by omega
        have u3 : ((t : Int) == (now : Int)) = false := beq_eq_false_iff_ne.2 (by omega)
        have u4 : (t : Int) - 1 = (u : Int) := by omega
        have hnL : n = 0 ∨ (0 < n ∧ L < n) := by
          by_cases h0 : n = 0
          · exact .inl h0
          · have := HLV.out (by omega)
            rw [ht] at this
            have := of_decide_eq_false this.symm
            omega
        clear hw ht ht2 ht3 t1 t2 hu
        have hnI : ((n : Int) ≤ 0) ∨ ((0 : Int) < (n : Int) ∧ (L : Int) < (n : Int)) := by omega
        clear hnL
        rcases hnI with hn0 | ⟨hn0, hn1⟩
        all_goals try (exfalso; omega)
        all_goals
          go_wp2_with (first
          | (go_at_call 19; (with_reducible refine (HTn.out _).mono ?_); rintro e w6 ⟨v6, rfl, hC⟩; have K6 := hid (K5.out.trans hC); have T6 := T5.chg hC; clear hC; obtain ⟨e60, e61, e62, e63, e64, e65⟩ := T6.cells)
          | (go_at_call 27; (with_reducible refine (HWn.out _).mono ?_); rintro e w7 ⟨rfl, hC⟩; have K7 := hid (K6.out.trans hC); have T7 := T6.chg hC; clear hC; obtain ⟨e70, e71, e72, e73, e74, e75⟩ := T7.cells)
          | (go_at_call 19; (with_reducible refine (HTt.out _).mono ?_); rintro e w8 ⟨v8, rfl, hC⟩; have K8 := hid (K7.out.trans hC); have T8 := T7.chg hC; clear hC; obtain ⟨e80, e81, e82, e83, e84, e85⟩ := T8.cells)
          | (go_at_call 19; (with_reducible refine (HTu.out _).mono ?_); rintro e w9 ⟨v9, rfl, hC⟩; have K9 := hid (K8.out.trans hC); have T9 := T8.chg hC; clear hC; obtain ⟨e90, e91, e92, e93, e94, e95⟩ := T9.cells)
          | (go_at_call 25; (with_reducible refine (H25m.out (by omega) _).mono ?_); rintro e w10 ⟨rfl, hC⟩; have K10 := hid (K9.out.trans hC); have T10 := T9.chg hC; clear hC; obtain ⟨e100, e101, e102, e103, e104, e105⟩ := T10.cells)
          | (go_at_call 25; (with_reducible refine (H25k.out (by omega) _).mono ?_); rintro e w10 ⟨rfl, hC⟩; have K10 := hid (K9.out.trans hC); have T10 := T9.chg hC; clear hC; obtain ⟨e100, e101, e102, e103, e104, e105⟩ := T10.cells)
          | (go_at_call 17; (with_reducible refine (works_any _).mono ?_); rintro e w11 ⟨rfl, hC⟩; have K11 := hid (K10.out.trans hC); have T11 := T10.chg hC; clear hC; obtain ⟨e110, e111, e112, e113, e114, e115⟩ := T11.cells))
          all_goals (go_ret; exact ⟨rfl, K11.out⟩)
  · have HA := hid (HT1b.out (by omega))
    clear HT1 HT1b
    go_wp2_with (first
      | (go_at_call 25; (with_reducible refine (H25.out _).mono ?_); rintro e w3 ⟨rfl, hC⟩; have K3 := hid (K2.out.trans hC); have T3 := T2.chg hC; clear hC; obtain ⟨e30, e31, e32, e33, e34, e35⟩ := T3.cells)
      | (go_at_call 19; (with_reducible refine (HA.out _).mono ?_); rintro e w4 ⟨v4, rfl, hC⟩; have K4 := hid (K3.out.trans hC); have T4 := T3.chg hC; clear hC; obtain ⟨e40, e41, e42, e43, e44, e45⟩ := T4.cells)
      | (go_at_call 19; (with_reducible refine (HT2.out _).mono ?_); rintro e w5 ⟨v5, rfl, hC⟩; have K5 := hid (K4.out.trans hC); have T5 := T4.chg hC; clear hC; obtain ⟨e50, e51, e52, e53, e54, e55⟩ := T5.cells))
    all_goals
      rcases HCS.out with ⟨hw, ht⟩ | ⟨hw, ht⟩ | ⟨t, hw, t1, t2, ht, ht2, ht3⟩
      · have HTn := hid (take_C HNW.out.2 HNW.out.1 HHS.out HHN.out ht)
        have HWn := hid (when_C HNW.out.2 HNW.out.1 HHS.out HHN.out hw)
        have hnL : n = 0 ∨ (0 < n ∧ L < n) := by
          by_cases h0 : n = 0
          · exact .inl h0
          · have := HLV.out (by omega)
            rw [ht] at this
            have := of_decide_eq_false this.symm
            omega
        clear hw ht
        have hnI : ((n : Int) ≤ 0) ∨ ((0 : Int) < (n : Int) ∧ (L : Int) < (n : Int)) := by omega
        clear hnL
        rcases hnI with hn0 | ⟨hn0, hn1⟩
        all_goals try (exfalso; omega)
        all_goals
          go_wp2_with (first
          | (go_at_call 19; (with_reducible refine (HTn.out _).mono ?_); rintro e w6 ⟨v6, rfl, hC⟩; have K6 := hid (K5.out.trans hC); have T6 := T5.chg hC; clear hC; obtain ⟨e60, e61, e62, e63, e64, e65⟩ := T6.cells)
          | (go_at_call 27; (with_reducible refine (HWn.out _).mono ?_); rintro e w7 ⟨rfl, hC⟩; have K7 := hid (K6.out.trans hC); have T7 := T6.chg hC; clear hC; obtain ⟨e70, e71, e72, e73, e74, e75⟩ := T7.cells)
          | (go_at_call 25; (with_reducible refine (H25m.out (by omega) _).mono ?_); rintro e w8 ⟨rfl, hC⟩; have K8 := hid (K7.out.trans hC); have T8 := T7.chg hC; clear hC; obtain ⟨e80, e81, e82, e83, e84, e85⟩ := T8.cells)
          | (go_at_call 25; (with_reducible refine (H25k.out (by omega) _).mono ?_); rintro e w8 ⟨rfl, hC⟩; have K8 := hid (K7.out.trans hC); have T8 := T7.chg hC; clear hC; obtain ⟨e80, e81, e82, e83, e84, e85⟩ := T8.cells)
          | (go_at_call 17; (with_reducible refine (works_any _).mono ?_); rintro e w9 ⟨rfl, hC⟩; have K9 := hid (K8.out.trans hC); have T9 := T8.chg hC; clear hC; obtain ⟨e90, e91, e92, e93, e94, e95⟩ := T9.cells))
          all_goals (go_ret; exact ⟨rfl, K9.out⟩)
      · have HTn := hid (take_C HNW.out.2 HNW.out.1 HHS.out HHN.out ht)
        have HWn := hid (when_C HNW.out.2 HNW.out.1 HHS.out HHN.out hw)
        have hnL : n = 0 ∨ (0 < n ∧ n ≤ L) := by
          by_cases h0 : n = 0
          · exact .inl h0
          · have := HLV.out (by omega)
            rw [ht] at this
            have := of_decide_eq_true this.symm
            omega
        clear hw ht
        have hnI : ((n : Int) ≤ 0) ∨ ((0 : Int) < (n : Int) ∧ (n : Int) ≤ (L : Int)) := by omega
        clear hnL
        rcases hnI with hn0 | ⟨hn0, hn1⟩
        all_goals try (exfalso; omega)
        all_goals
          go_wp2_with (first
          | (have _tk := tok1; go_at_call 19; (with_reducible refine (HTn.out _).mono ?_); rintro e w6 ⟨v6, rfl, hC⟩; have K6 := hid (K5.out.trans hC); have T6 := T5.chg hC; clear hC; obtain ⟨e60, e61, e62, e63, e64, e65⟩ := T6.cells; clear tok1)
          | (go_at_call 27; (with_reducible refine (HWn.out _).mono ?_); rintro e w7 ⟨rfl, hC⟩; have K7 := hid (K6.out.trans hC); have T7 := T6.chg hC; clear hC; obtain ⟨e70, e71, e72, e73, e74, e75⟩ := T7.cells)
          | (go_at_call 19; (with_reducible refine (HTn.out _).mono ?_); rintro e w8 ⟨v8, rfl, hC⟩; have K8 := hid (K7.out.trans hC); have T8 := T7.chg hC; clear hC; obtain ⟨e80, e81, e82, e83, e84, e85⟩ := T8.cells)
          | (go_at_call 25; (with_reducible refine (H25m.out (by omega) _).mono ?_); rintro e w9 ⟨rfl, hC⟩; have K9 := hid (K8.out.trans hC); have T9 := T8.chg hC; clear hC; obtain ⟨e90, e91, e92, e93, e94, e95⟩ := T9.cells)
          | (go_at_call 25; (with_reducible refine (H25k.out (by omega) _).mono ?_); rintro e w9 ⟨rfl, hC⟩; have K9 := hid (K8.out.trans hC); have T9 := T8.chg hC; clear hC; obtain ⟨e90, e91, e92, e93, e94, e95⟩ := T9.cells)
          | (go_at_call 17; (with_reducible refine (works_any _).mono ?_); rintro e w10 ⟨rfl, hC⟩; have K10 := hid (K9.out.trans hC); have T10 := T9.chg hC; clear hC; obtain ⟨e100, e101, e102, e103, e104, e105⟩ := T10.cells))
          all_goals (go_ret; exact ⟨rfl, K10.out⟩)
      · obtain ⟨u, hu⟩ : ∃ u, u = t - 1 := ⟨_, rfl⟩
        have HTn := hid (take_C HNW.out.2 HNW.out.1 HHS.out HHN.out ht)
        have HWn := hid (when_C HNW.out.2 HNW.out.1 HHS.out HHN.out hw)
        have HTt := hid (take_C HNW.out.2 t2 HHS.out HHN.out ht2)
        have HTu := hid (take_C HNW.out.2 (by omega) HHS.out HHN.out ht3)
        rw [← hu] at HTu
        have u1 : (now : Int) < (t : Int) := by omega
        have u2 : (t : Int) ≤ 1099511627776 := by omega
        have u3 : ((t : Int) == (now : Int)) = false := beq_eq_false_iff_ne.2 (by omega)
        have u4 : (t : Int) - 1 = (u : Int) := by omega
        have hnL : n = 0 ∨ (0 < n ∧ L < n) := by
          by_cases h0 : n = 0
          · exact .inl h0
          · have := HLV.out (by omega)
            rw [ht] at this
            have := of_decide_eq_false this.symm
            omega
        clear hw ht ht2 ht3 t1 t2 hu
        have hnI : ((n : Int) ≤ 0) ∨ ((0 : Int) < (n : Int) ∧ (L : Int) < (n : Int)) := by omega
        clear hnL
        rcases hnI with hn0 | ⟨hn0, hn1⟩
        all_goals try (exfalso; omega)
        all_goals
          go_wp2_with (first
          | (go_at_call 19; (with_reducible refine (HTn.out _).mono ?_); rintro e w6 ⟨v6, rfl, hC⟩; have K6 := hid (K5.out.trans hC); have T6 := T5.chg hC; clear hC; obtain ⟨e60, e61, e62, e63, e64, e65⟩ := T6.cells)
          | (go_at_call 27; (with_reducible refine (HWn.out _).mono ?_); rintro e w7 ⟨rfl, hC⟩; have K7 := hid (K6.out.trans hC); have T7 := T6.chg hC; clear hC; obtain ⟨e70, e71, e72, e73, e74, e75⟩ := T7.cells)
          | (go_at_call 19; (with_reducible refine (HTt.out _).mono ?_); rintro e w8 ⟨v8, rfl, hC⟩; have K8 := hid (K7.out.trans hC); have T8 := T7.chg hC; clear hC; obtain ⟨e80, e81, e82, e83, e84, e85⟩ := T8.cells)
          | (go_at_call 19; (with_reducible refine (HTu.out _).mono ?_); rintro e w9 ⟨v9, rfl, hC⟩; have K9 := hid (K8.out.trans hC); have T9 := T8.chg hC; clear hC; obtain ⟨e90, e91, e92, e93, e94, e95⟩ := T9.cells)
          | (go_at_call 25; (with_reducible refine (H25m.out (by omega) _).mono ?_); rintro e w10 ⟨rfl, hC⟩; have K10 := hid (K9.out.trans hC); have T10 := T9.chg hC; clear hC; obtain ⟨e100, e101, e102, e103, e104, e105⟩ := T10.cells)
          | (go_at_call 25; (with_reducible refine (H25k.out (by omega) _).mono ?_); rintro e w10 ⟨rfl, hC⟩; have K10 := hid (K9.out.trans hC); have T10 := T9.chg hC; clear hC; obtain ⟨e100, e101, e102, e103, e104, e105⟩ := T10.cells)
          | (go_at_call 17; (with_reducible refine (works_any _).mono ?_); rintro e w11 ⟨rfl, hC⟩; have K11 := hid (K10.out.trans hC); have T11 := T10.chg hC; clear hC; obtain ⟨e110, e111, e112, e113, e114, e115⟩ := T11.cells))
          all_goals (go_ret; exact ⟨rfl, K11.out⟩)
end Go.Proofs.Ythhddmamlpnjpaa
