/- The reference's words on two-word numbers, walked. -/
import Derived.Test.YthhddmamlpnjpaaBktA
namespace Go.Proofs.Ythhddmamlpnjpaa
open Go.RowKit Go.Lib

theorem two_times (a b : Nat) (ha : a < 18446744073709551616) (hb : b < 18446744073709551616) :
    a % 4294967296 * (b % 4294967296) ≤ 18446744065119617025 ∧ a / 4294967296 * (b % 4294967296) ≤ 18446744065119617025 ∧ a % 4294967296 * (b / 4294967296) ≤ 18446744065119617025 ∧ a / 4294967296 * (b / 4294967296) ≤ 18446744065119617025 ∧
    a * b = a / 4294967296 * (b / 4294967296) * 18446744073709551616 + (a / 4294967296 * (b % 4294967296) + a % 4294967296 * (b / 4294967296)) * 4294967296 + a % 4294967296 * (b % 4294967296) := by
  have hx : a / 4294967296 ≤ 4294967295 := by omega
  have hy : a % 4294967296 ≤ 4294967295 := by omega
  have hu : b / 4294967296 ≤ 4294967295 := by omega
  have hv : b % 4294967296 ≤ 4294967295 := by omega
  have ea : a = a / 4294967296 * 4294967296 + a % 4294967296 := by omega
  have eb : b = b / 4294967296 * 4294967296 + b % 4294967296 := by omega
  refine ⟨Nat.mul_le_mul hy hv, Nat.mul_le_mul hx hv, Nat.mul_le_mul hy hu, Nat.mul_le_mul hx hu, ?_⟩
  generalize a / 4294967296 = x at *
  generalize a % 4294967296 = y at *
  generalize b / 4294967296 = u at *
  generalize b % 4294967296 = v at *
  subst ea; subst eb
  simp only [Nat.add_mul, Nat.mul_add]
  have e1 : x * 4294967296 * (u * 4294967296) = x * u * 18446744073709551616 := by rw [Nat.mul_mul_mul_comm]
  have e2 : x * 4294967296 * v = x * v * 4294967296 := by rw [Nat.mul_right_comm]
  have e3 : y * (u * 4294967296) = y * u * 4294967296 := by rw [Nat.mul_assoc]
  rw [e1, e2, e3]
  omega

/-- The bound of a two-word number. -/
def W2 : Nat := 18446744073709551616 * 18446744073709551616

set_option maxHeartbeats 1000000 in
theorem rTimes_any (a b : Nat) (w : World) (ha : a < 18446744073709551616) (hb : b < 18446744073709551616) :
    Calls Try.prog 45 #[.int .u64 (a : Int), .int .u64 (b : Int)] w (WidePost (a * b) w) := by
  obtain ⟨z1, z2, z3, z4, z5⟩ := two_times a b ha hb
  obtain ⟨p1, hp1⟩ : ∃ p1, p1 = a % 4294967296 * (b % 4294967296) := ⟨_, rfl⟩
  obtain ⟨p2, hp2⟩ : ∃ p2, p2 = a / 4294967296 * (b % 4294967296) := ⟨_, rfl⟩
  obtain ⟨p3, hp3⟩ : ∃ p3, p3 = a % 4294967296 * (b / 4294967296) := ⟨_, rfl⟩
  obtain ⟨p4, hp4⟩ : ∃ p4, p4 = a / 4294967296 * (b / 4294967296) := ⟨_, rfl⟩
  rw [← hp1] at z1 z5
  rw [← hp2] at z2 z5
  rw [← hp3] at z3 z5
  rw [← hp4] at z4 z5
  have q1 : (a : Int) % 4294967296 * ((b : Int) % 4294967296) = (p1 : Int) := by rw [hp1]; simp
  have q2 : (a : Int) / 4294967296 * ((b : Int) % 4294967296) = (p2 : Int) := by rw [hp2]; simp
  have q3 : (a : Int) % 4294967296 * ((b : Int) / 4294967296) = (p3 : Int) := by rw [hp3]; simp
  have q4 : (a : Int) / 4294967296 * ((b : Int) / 4294967296) = (p4 : Int) := by rw [hp4]; simp
  have hlt : a * b < W2 := by unfold W2; exact Nat.mul_lt_mul'' ha hb
  have HLT := hid hlt
  have Z5 := hid z5
  clear hp1 hp2 hp3 hp4 z5 hlt
  go_enter Try.func45, Try.ntmps45
  go_wp2
  have eh : (p4 : Int) + ((p2 : Int) + (p1 : Int) / 4294967296) / 4294967296 + ((p3 : Int) + ((p2 : Int) + (p1 : Int) / 4294967296) % 4294967296) / 4294967296 = ((p4 + (p2 + p1 / 4294967296) / 4294967296 + (p3 + (p2 + p1 / 4294967296) % 4294967296) / 4294967296 : Nat) : Int) := by omega
  have el : IntKind.u64.wrap (IntKind.u64.wrap (((p3 : Int) + ((p2 : Int) + (p1 : Int) / 4294967296) % 4294967296) * 4294967296) + (p1 : Int) % 4294967296) = ((((p3 + (p2 + p1 / 4294967296) % 4294967296) * 4294967296 + p1 % 4294967296) % 18446744073709551616 : Nat) : Int) := by
    rw [IntKind.wrap_u64, IntKind.wrap_u64]; omega
  have hz := Z5.out
  have hlt := HLT.out
  unfold W2 at hlt
  refine bodyPost_ret (v := .agg #[.int .u64 ((p4 : Int) + ((p2 : Int) + (p1 : Int) / 4294967296) / 4294967296 + ((p3 : Int) + ((p2 : Int) + (p1 : Int) / 4294967296) % 4294967296) / 4294967296), .int .u64 (IntKind.u64.wrap (IntKind.u64.wrap (((p3 : Int) + ((p2 : Int) + (p1 : Int) / 4294967296) % 4294967296) * 4294967296) + (p1 : Int) % 4294967296))]) (by simp [results, Try.results45, go_sem]) rfl ⟨_, _, by rw [eh, el], by omega, by omega, by unfold two; omega, (Chg.refl _ _).alloc _⟩

set_option maxHeartbeats 1000000 in
theorem rPlus_any (h l vh vl : Nat) (w : World) (_h1 : h < 18446744073709551616) (h2 : l < 18446744073709551616) (_h3 : vh < 18446744073709551616) (h4 : vl < 18446744073709551616) :
    Calls Try.prog 44 #[.agg #[.int .u64 (h : Int), .int .u64 (l : Int)], .agg #[.int .u64 (vh : Int), .int .u64 (vl : Int)]] w (WidePost ((two h l + two vh vl) % W2) w) := by
  obtain ⟨sl, hsl⟩ : ∃ sl, sl = (l + vl) % 18446744073709551616 := ⟨_, rfl⟩
  obtain ⟨sh, hsh⟩ : ∃ sh, sh = (h + vh) % 18446744073709551616 := ⟨_, rfl⟩
  have q1 : IntKind.u64.wrap ((l : Int) + (vl : Int)) = (sl : Int) := by rw [IntKind.wrap_u64]; omega
  have q2 : IntKind.u64.wrap ((h : Int) + (vh : Int)) = (sh : Int) := by rw [IntKind.wrap_u64]; omega
  have s1 : sl < 18446744073709551616 := by omega
  have s2 : sh < 18446744073709551616 := by omega
  by_cases hc : l + vl < 18446744073709551616
  · have t1 : ¬ ((sl : Int) < (l : Int)) := by omega
    have fin := hid (show two sh sl = (two h l + two vh vl) % W2 by unfold two W2; omega)
    clear hsl hsh hc
    go_enter Try.func44, Try.ntmps44
    go_wp2
    refine bodyPost_ret (v := .agg #[.int .u64 (sh : Int), .int .u64 (sl : Int)]) (by simp [results, Try.results44, go_sem]) rfl ⟨_, _, rfl, s2, s1, fin.out, (((((Chg.refl _ _).alloc _).alloc _).alloc _).alloc _)⟩
  · have t1 : (sl : Int) < (l : Int) := by omega
    obtain ⟨sp, hsp⟩ : ∃ sp, sp = (sh + 1) % 18446744073709551616 := ⟨_, rfl⟩
    have q3 : IntKind.u64.wrap ((sh : Int) + 1) = (sp : Int) := by rw [IntKind.wrap_u64]; omega
    have s3 : sp < 18446744073709551616 := by omega
    have fin := hid (show two sp sl = (two h l + two vh vl) % W2 by unfold two W2; omega)
    clear hsl hsh hc hsp
    go_enter Try.func44, Try.ntmps44
    go_wp2
    refine bodyPost_ret (v := .agg #[.int .u64 (sp : Int), .int .u64 (sl : Int)]) (by simp [results, Try.results44, go_sem]) rfl ⟨_, _, rfl, s3, s1, fin.out, (((((Chg.refl _ _).alloc _).alloc _).alloc _).alloc _)⟩

set_option maxHeartbeats 1000000 in
theorem rMinus_any (h l vh vl : Nat) (w : World) (h1 : h < 18446744073709551616) (h2 : l < 18446744073709551616) (h3 : vh < 18446744073709551616) (h4 : vl < 18446744073709551616) (hle : two vh vl ≤ two h l) :
    Calls Try.prog 47 #[.agg #[.int .u64 (h : Int), .int .u64 (l : Int)], .agg #[.int .u64 (vh : Int), .int .u64 (vl : Int)]] w (WidePost (two h l - two vh vl) w) := by
  have hle' := hle
  unfold two at hle'
  obtain ⟨sl, hsl⟩ : ∃ sl, sl = (l + 18446744073709551616 - vl) % 18446744073709551616 := ⟨_, rfl⟩
  obtain ⟨sh, hsh⟩ : ∃ sh, sh = h - vh := ⟨_, rfl⟩
  have q1 : IntKind.u64.wrap ((l : Int) - (vl : Int)) = (sl : Int) := by rw [IntKind.wrap_u64]; omega
  have q2 : IntKind.u64.wrap ((h : Int) - (vh : Int)) = (sh : Int) := by rw [IntKind.wrap_u64]; omega
  have s1 : sl < 18446744073709551616 := by omega
  have s2 : sh < 18446744073709551616 := by omega
  by_cases hc : vl ≤ l
  · have t1 : ¬ ((l : Int) < (vl : Int)) := by omega
    have fin := hid (show two sh sl = two h l - two vh vl by unfold two; omega)
    clear hsl hsh hc hle hle'
    go_enter Try.func47, Try.ntmps47
    go_wp2
    refine bodyPost_ret (v := .agg #[.int .u64 (sh : Int), .int .u64 (sl : Int)]) (by simp [results, Try.results47, go_sem]) rfl ⟨_, _, rfl, s2, s1, fin.out, (((((Chg.refl _ _).alloc _).alloc _).alloc _).alloc _)⟩
  · have t1 : (l : Int) < (vl : Int) := by omega
    have t2 : 1 ≤ sh := by omega
    obtain ⟨sp, hsp⟩ : ∃ sp, sp = sh - 1 := ⟨_, rfl⟩
    have q3 : (sh : Int) - 1 = (sp : Int) := by omega
    have q4 : IntKind.u64.wrap ((sp : Int)) = (sp : Int) := by rw [IntKind.wrap_u64]; omega
    have s3 : sp < 18446744073709551616 := by omega
    have fin := hid (show two sp sl = two h l - two vh vl by unfold two; omega)
    clear hsl hsh hc hsp hle hle'
    go_enter Try.func47, Try.ntmps47
    go_wp2
    refine bodyPost_ret (v := .agg #[.int .u64 (sp : Int), .int .u64 (sl : Int)]) (by simp [results, Try.results47, go_sem]) rfl ⟨_, _, rfl, s3, s1, fin.out, (((((Chg.refl _ _).alloc _).alloc _).alloc _).alloc _)⟩

set_option maxHeartbeats 1000000 in
theorem rWord_any (a : Nat) (w : World) (ha : a < 18446744073709551616) :
    Calls Try.prog 51 #[.int .u64 (a : Int)] w (WidePost a w) := by
  have fin := hid (show two 0 a = a by unfold two; omega)
  go_enter Try.func51, Try.ntmps51
  go_wp2
  refine bodyPost_ret (v := .agg #[.int .u64 ((0 : Nat) : Int), .int .u64 (a : Int)]) (by simp [results, Try.results51, go_sem]) rfl ⟨0, a, rfl, by omega, ha, fin.out, (Chg.refl _ _).alloc _⟩

set_option maxHeartbeats 1000000 in
theorem rAbove_any (h l vh vl : Nat) (w : World) (h2 : l < 18446744073709551616) (h4 : vl < 18446744073709551616) :
    Calls Try.prog 43 #[.agg #[.int .u64 (h : Int), .int .u64 (l : Int)], .agg #[.int .u64 (vh : Int), .int .u64 (vl : Int)]] w fun e w' => e = .returned (.bool (decide (two vh vl < two h l))) ∧ Chg [] w w' := by
  by_cases q1 : (vh : Int) < (h : Int)
  · have HR := hid (show decide (two vh vl < two h l) = true by rw [decide_eq_true_eq, two_lt h4 h2]; omega)
    go_enter Try.func43, Try.ntmps43
    go_wp2
    go_ret
    exact ⟨by rw [HR.out]; rfl, ((Chg.refl _ _).alloc _).alloc _⟩
  · by_cases q2 : h = vh
    · subst q2
      by_cases q3 : (vl : Int) < (l : Int)
      · have HR := hid (show decide (two h vl < two h l) = true by rw [decide_eq_true_eq, two_lt h4 h2]; omega)
        go_enter Try.func43, Try.ntmps43
        go_wp2
        go_ret
        exact ⟨by rw [HR.out]; rfl, ((Chg.refl _ _).alloc _).alloc _⟩
      · have HR := hid (show decide (two h vl < two h l) = false by rw [decide_eq_false_iff_not, two_lt h4 h2]; omega)
        go_enter Try.func43, Try.ntmps43
        go_wp2
        go_ret
        exact ⟨by rw [HR.out]; rfl, ((Chg.refl _ _).alloc _).alloc _⟩
    · have HR := hid (show decide (two vh vl < two h l) = false by rw [decide_eq_false_iff_not, two_lt h4 h2]; omega)
      have q4 : ((h : Int) == (vh : Int)) = false := beq_eq_false_iff_ne.2 (by omega)
      clear q2
      go_enter Try.func43, Try.ntmps43
      go_wp2
      go_ret
      exact ⟨by rw [HR.out]; rfl, ((Chg.refl _ _).alloc _).alloc _⟩
end Go.Proofs.Ythhddmamlpnjpaa
