/- slices.BinarySearchFunc at the rows of asks, walked. -/
import Derived.Test.YthhddmamlpnjpaaBktM
namespace Go.Proofs.Ythhddmamlpnjpaa
open Go.RowKit Go.Lib

set_option maxHeartbeats 1000000 in
theorem cmp_any (x y t : Nat) (w : World) :
    Calls Try.prog 33 #[.agg #[.int .u64 (x : Int), .int .u64 (y : Int)], .int .u64 (t : Int)] w fun e w' => e = .returned (.int .i64 (if x ≤ t then -1 else 1)) ∧ Chg [] w w' := by
  by_cases h : x ≤ t
  · rw [if_pos h]
    have h1 : (x : Int) ≤ (t : Int) := by omega
    clear h
    go_enter Try.func33, Try.ntmps33
    go_wp2
    go_ret
    exact ⟨rfl, (Chg.refl _ _).alloc _⟩
  · rw [if_neg h]
    have h1 : (t : Int) < (x : Int) := by omega
    clear h
    go_enter Try.func33, Try.ntmps33
    go_wp2
    go_ret
    exact ⟨rfl, (Chg.refl _ _).alloc _⟩

set_option maxHeartbeats 2000000 in
theorem search_any (A : Option Addr) (n c t : Nat) (L : List (Nat × Nat)) (w : World) (hO : Own w 40 2 (.slice A n c) n (askv L)) (hl : L.length = n) (hn : n ≤ 1048576) (hr : Rise L) :
    Calls Try.prog 32 #[.slice A n c, .int .u64 (t : Int), .func (.func 33) #[] #[]] w fun e w' => e = .returned (.tuple #[.int .i64 (atV t L : Int), .bool false]) ∧ Chg [] w w' := by
  have hlo := atV_below t L
  have hhi := atV_above t L hr
  have hle := atV_le t L
  obtain ⟨K, hK⟩ : ∃ K, K = atV t L := ⟨_, rfl⟩
  rw [← hK] at hlo hhi hle ⊢
  have HLO := hid hlo
  have HHI := hid hhi
  have HLN := hid hl
  have nb : (n : Int) ≤ 1048576 := by omega
  have HK := hid (show K ≤ n by omega)
  clear hlo hhi hK hle hl
  go_enter Try.func32, Try.ntmps32
  go_wp2
  go_loopw [9, 10] (fun i j wr => ∃ lo hi : Nat, i = .int .i64 lo ∧ j = .int .i64 hi ∧ lo ≤ K ∧ K ≤ hi ∧ hi ≤ n ∧ Chg [] w wr) (fun i j _ => (intOf j - intOf i).toNat)
  case atStart => exact ⟨0, n, rfl, rfl, Nat.zero_le _, HK.out, Nat.le_refl _, Chg.refl _ _⟩
  case round =>
    obtain ⟨lo, hi, rfl, rfl, h1, h2, h3, hC⟩ := hrel
    have hOr := hO.chg hC (by simp)
    by_cases hlt : (lo : Int) < (hi : Int)
    · obtain ⟨g, o, c1, hv, _, _, hg⟩ := hOr.some_ (by omega)
      injection hv with hAA _ hc1
      subst hAA; subst hc1
      obtain ⟨h, hh⟩ : ∃ h, h = (lo + hi) / 2 := ⟨_, rfl⟩
      have q1 : ((lo : Int) + (hi : Int)) / 2 = (h : Int) := by omega
      have hh1 : h < hi := by omega
      have hh2 : lo ≤ h := by omega
      obtain ⟨x, y, hxy⟩ := get_ask L h (by rw [HLN.out]; omega)
      obtain ⟨a0, a1⟩ := hOr.ask hxy
      have hcmp := cmp_any x y t
      have HX := hid hxy
      have k0 : (0 : Int) ≤ (h : Int) := by omega
      have k1 : (h : Int) < (n : Int) := by omega
      clear hh hxy
      by_cases hK : h < K
      · have hx : x ≤ t := by
          have := HLO.out h (by rw [HLN.out]; omega) hK
          have e := List.getElem?_eq_getElem (l := L) (i := h) (by rw [HLN.out]; omega)
          rw [HX.out] at e; injection e with e; rw [← e] at this; exact this
        rw [if_pos hx] at hcmp
        have HC := hid hcmp
        clear hcmp hx
        go_wp2_with (go_at_call 33; refine (HC.out _).mono ?_; rintro e w2 ⟨rfl, hC2⟩)
        go_roundw
        case measure => simp [intOf] <;> omega
        case rel => exact ⟨h + 1, hi, by go_num, rfl, by omega, h2, h3, hC.trans hC2⟩
      · have hx : ¬ x ≤ t := by
          have := HHI.out h (by rw [HLN.out]; omega) (by omega)
          have e := List.getElem?_eq_getElem (l := L) (i := h) (by rw [HLN.out]; omega)
          rw [HX.out] at e; injection e with e; rw [← e] at this; exact Nat.not_le.2 this
        rw [if_neg hx] at hcmp
        have HC := hid hcmp
        clear hcmp hx
        go_wp2_with (go_at_call 33; refine (HC.out _).mono ?_; rintro e w2 ⟨rfl, hC2⟩)
        go_roundw
        case measure => simp [intOf] <;> omega
        case rel => exact ⟨lo, h, rfl, rfl, h1, by omega, by omega, hC.trans hC2⟩
    · obtain rfl : lo = K := by omega
      obtain rfl : lo = hi := by omega
      by_cases hkn : lo = n
      · subst hkn
        go_wp2
        go_ret2
        exact ⟨rfl, hC⟩
      · obtain ⟨g, o, c1, hv, _, _, hg⟩ := hOr.some_ (by omega)
        injection hv with hAA _ hc1
        subst hAA; subst hc1
        obtain ⟨x, y, hxy⟩ := get_ask L lo (by rw [HLN.out]; omega)
        obtain ⟨a0, a1⟩ := hOr.ask hxy
        have hcmp := cmp_any x y t
        have hx : ¬ x ≤ t := by
          have := HHI.out lo (by rw [HLN.out]; omega) (Nat.le_refl _)
          have e := List.getElem?_eq_getElem (l := L) (i := lo) (by rw [HLN.out]; omega)
          rw [hxy] at e; injection e with e; rw [← e] at this; exact Nat.not_le.2 this
        rw [if_neg hx] at hcmp
        have HC := hid hcmp
        have k0 : (0 : Int) ≤ (lo : Int) := by omega
        have k1 : (lo : Int) < (n : Int) := by omega
        clear hcmp hx hxy hkn
        go_wp2_with (go_at_call 33; refine (HC.out _).mono ?_; rintro e w2 ⟨rfl, hC2⟩)
        go_ret2
        exact ⟨rfl, hC.trans hC2⟩
end Go.Proofs.Ythhddmamlpnjpaa
