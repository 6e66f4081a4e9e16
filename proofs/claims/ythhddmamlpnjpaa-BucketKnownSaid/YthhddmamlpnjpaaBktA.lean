/- Wide numbers: math/bits.Mul64, Add64, Sub64, and the bucket's own and the reference's words on two-word numbers, walked. -/
import Derived.Test.YthhddmamlpnjpaaRows
import Derived.Test.YthhddmamlpnjpaaMem2
import Derived.Lib.Mul64
import Derived.Laws.Bits64b
import Derived.Shelf.Bits.Mul64
import Derived.Shelf.Spec.BitsCarry
import Derived.Deep.QuietTactic
import Derived.BigQuiet
import Derived.RegionTactic
import Derived.BigRegion
namespace Go.Proofs.Ythhddmamlpnjpaa
open Go.RowKit Go.Lib

/-- One word's bound. -/
def W64 : Nat := 18446744073709551616

set_option maxHeartbeats 1000000 in
theorem mul64_any (x y : Nat) (hx : x < 18446744073709551616) (hy : y < 18446744073709551616) (w : World) :
    Calls Try.prog 52 #[.int .u64 x, .int .u64 y] w fun e w' => e = .returned (.tuple #[.int .u64 ((x * y / 18446744073709551616 : Nat) : Int), .int .u64 ((x * y % 18446744073709551616 : Nat) : Int)]) ∧ w = w' := by
  obtain ⟨bd, bt, bw, hhi⟩ := Lib.mul64_hi x y hx hy
  have ba := Lib.half_mul_le (a := x / 4294967296) (b := y / 4294967296) (by omega) (by omega)
  have bb := Lib.half_mul_le (a := x / 4294967296) (b := y % 4294967296) (by omega) (by omega)
  have bc := Lib.half_mul_le (a := x % 4294967296) (b := y / 4294967296) (by omega) (by omega)
  have ba' : x / 4294967296 * (y / 4294967296) < 18446744073709551616 := by omega
  have bb' : x / 4294967296 * (y % 4294967296) < 18446744073709551616 := by omega
  have bc' : x % 4294967296 * (y / 4294967296) < 18446744073709551616 := by omega
  have bh : x / 4294967296 * (y / 4294967296) + (x / 4294967296 * (y % 4294967296) + x % 4294967296 * (y % 4294967296) / 4294967296) / 4294967296 + ((x / 4294967296 * (y % 4294967296) + x % 4294967296 * (y % 4294967296) / 4294967296) % 4294967296 + x % 4294967296 * (y / 4294967296)) / 4294967296 < 18446744073709551616 := by
    rw [hhi]
    have := Nat.mul_lt_mul'' hx hy
    omega
  have bh1 : x / 4294967296 * (y / 4294967296) + (x / 4294967296 * (y % 4294967296) + x % 4294967296 * (y % 4294967296) / 4294967296) / 4294967296 < 18446744073709551616 := by omega
  go_enter Try.func52, Try.ntmps52
  go_wp2
  simp only [Mul64.maskN x hx, Mul64.maskN y hy, Mul64.divN, Mul64.mulN, Mul64.addN, Mul64.wrapN _ bd, Mul64.wrapN _ bb', Mul64.wrapN _ bt, Mul64.maskN _ bt, Mul64.wrapN _ bc', Mul64.wrapN _ bw, Mul64.wrapN _ ba', Mul64.wrapN _ bh1, Mul64.wrapN _ bh, Mul64.wrapM (x * y)]
  rw [hhi]
  go_ret2
  exact ⟨rfl, rfl⟩

theorem add64_run (x y : Nat) (w : World) : (callFunc 53 #[.int .u64 x, .int .u64 y, .int .u64 0]).run Try.prog w =
    .ok (.value (.tuple #[.int .u64 (((x + y) % 18446744073709551616 : Nat) : Int), .int .u64 (((x + y) / 18446744073709551616 : Nat) : Int)])) w := by
  rw [run_callFunc_extern Try.func53 (by kernel_rfl) (by kernel_rfl) (by kernel_rfl) (e := add64Entry) (by kernel_rfl)]
  rfl
theorem sub64_run (x y : Nat) (w : World) : (callFunc 54 #[.int .u64 x, .int .u64 y, .int .u64 0]).run Try.prog w =
    .ok (.value (.tuple #[.int .u64 (((x + 18446744073709551616 - y) % 18446744073709551616 : Nat) : Int), .int .u64 ((if x < y then 1 else 0 : Nat) : Int)])) w := by
  rw [run_callFunc_extern Try.func54 (by kernel_rfl) (by kernel_rfl) (by kernel_rfl) (e := sub64Entry) (by kernel_rfl)]
  rfl

/-- The number that two words tell. -/
def two (h l : Nat) : Nat := h * 18446744073709551616 + l
theorem two_lt {h l h' l' : Nat} (hl : l < 18446744073709551616) (hl' : l' < 18446744073709551616) : two h l < two h' l' ↔ h < h' ∨ (h = h' ∧ l < l') := by
  unfold two; omega

def AddPost (g : Nat) (A : Nat) (w : World) (e : Ending) (w' : World) : Prop :=
  e = .returned (.tuple #[]) ∧ ∃ h l : Nat, Blk w' g 65 [.int .u64 (h : Int), .int .u64 (l : Int)] ∧ h < 18446744073709551616 ∧ l < 18446744073709551616 ∧ two h l = A % (18446744073709551616 * 18446744073709551616) ∧ Chg [g] w w'

set_option maxHeartbeats 1000000 in
theorem add_any (g h l vh vl : Nat) (w : World) (hb : Blk w g 65 [.int .u64 (h : Int), .int .u64 (l : Int)]) (_h1 : h < 18446744073709551616) (_h2 : l < 18446744073709551616) (_h3 : vh < 18446744073709551616) (_h4 : vl < 18446744073709551616) :
    Calls Try.prog 39 #[.pointer (some ⟨g, 0, none⟩), .agg #[.int .u64 (vh : Int), .int .u64 (vl : Int)]] w (AddPost g (two h l + two vh vl) w) := by
  have c0 := hb.cell_of (i := 0) rfl
  have c1 := hb.cell_of (i := 1) rfl
  have f0 := hb.frozen 0
  have f1 := hb.frozen 1
  have hg := hb.lt
  have hadd := fun w => add64_run l vl w
  go_enter Try.func39, Try.ntmps39
  go_wp2
  go_region
  go_wp2
  go_region
  go_wp2
  go_end0
  refine ⟨rfl, (h + vh + (l + vl) / 18446744073709551616) % 18446744073709551616, (l + vl) % 18446744073709551616, ?_, by omega, by omega, by unfold two; omega, ?_⟩
  · have e1 : IntKind.u64.wrap (IntKind.u64.wrap ((h : Int) + (vh : Int)) + ((l : Int) + (vl : Int)) / 18446744073709551616) = (((h + vh + (l + vl) / 18446744073709551616) % 18446744073709551616 : Nat) : Int) := by
      rw [IntKind.wrap_u64, IntKind.wrap_u64]; omega
    have e2 : ((l : Int) + (vl : Int)) % 18446744073709551616 = (((l + vl) % 18446744073709551616 : Nat) : Int) := by omega
    rw [← e1, ← e2]
    exact (((hb.set_ 1 _).set_ 0 _).set_ 0 _).alloc _
  · exact ((((((Chg.refl [g] w).setCell (.inl (by simp)) _).setCell (.inl (by simp)) _).setCell (.inl (by simp)) _).alloc _).drew).drew

def SubPost (g : Nat) (A : Nat) (w : World) (e : Ending) (w' : World) : Prop :=
  e = .returned (.tuple #[]) ∧ ∃ h l : Nat, Blk w' g 65 [.int .u64 (h : Int), .int .u64 (l : Int)] ∧ h < 18446744073709551616 ∧ l < 18446744073709551616 ∧ two h l = A ∧ Chg [g] w w'

set_option maxHeartbeats 1000000 in
theorem sub_any (g h l vh vl : Nat) (w : World) (hb : Blk w g 65 [.int .u64 (h : Int), .int .u64 (l : Int)]) (h1 : h < 18446744073709551616) (h2 : l < 18446744073709551616) (h3 : vh < 18446744073709551616) (h4 : vl < 18446744073709551616) (hle : two vh vl ≤ two h l) :
    Calls Try.prog 48 #[.pointer (some ⟨g, 0, none⟩), .agg #[.int .u64 (vh : Int), .int .u64 (vl : Int)]] w (SubPost g (two h l - two vh vl) w) := by
  have c0 := hb.cell_of (i := 0) rfl
  have c1 := hb.cell_of (i := 1) rfl
  have f0 := hb.frozen 0
  have f1 := hb.frozen 1
  have hg := hb.lt
  have hsub := fun w => sub64_run l vl w
  obtain ⟨dl, hdl⟩ : ∃ dl, dl = (l + 18446744073709551616 - vl) % 18446744073709551616 := ⟨_, rfl⟩
  obtain ⟨bo, hbo⟩ : ∃ bo : Nat, bo = if l < vl then 1 else 0 := ⟨_, rfl⟩
  rw [← hdl, ← hbo] at hsub
  have HDL := hid hdl
  have HBO := hid hbo
  clear hdl hbo
  have HLE := hid hle
  clear hle
  go_enter Try.func48, Try.ntmps48
  go_wp2
  go_region
  go_wp2
  go_region
  go_wp2
  go_end0
  have hle := HLE.out
  have hdl := HDL.out
  have hbo := HBO.out
  unfold two at hle
  have hbv : (l < vl ∧ bo = 1) ∨ (vl ≤ l ∧ bo = 0) := by
    by_cases h : l < vl
    · rw [if_pos h] at hbo; exact .inl ⟨h, hbo⟩
    · rw [if_neg h] at hbo; exact .inr ⟨by omega, hbo⟩
  clear hbo
  refine ⟨rfl, h - vh - bo, dl, ?_, by omega, by omega, by unfold two; omega, ?_⟩
  · have e1 : IntKind.u64.wrap (IntKind.u64.wrap ((h : Int) - (vh : Int)) - (bo : Int)) = ((h - vh - bo : Nat) : Int) := by
      rw [IntKind.wrap_u64, IntKind.wrap_u64]; omega
    rw [← e1]
    exact (((hb.set_ 1 _).set_ 0 _).set_ 0 _).alloc _
  · exact ((((((Chg.refl [g] w).setCell (.inl (by simp)) _).setCell (.inl (by simp)) _).setCell (.inl (by simp)) _).alloc _).drew).drew

/-- A function that returns a two-word number, in new memory alone. -/
def WidePost (A : Nat) (w : World) (e : Ending) (w' : World) : Prop :=
  ∃ h l : Nat, e = .returned (.agg #[.int .u64 (h : Int), .int .u64 (l : Int)]) ∧ h < 18446744073709551616 ∧ l < 18446744073709551616 ∧ two h l = A ∧ Chg [] w w'

set_option maxHeartbeats 1000000 in
theorem times_any (a b : Nat) (w : World) (ha : a < 18446744073709551616) (hb : b < 18446744073709551616) :
    Calls Try.prog 38 #[.int .u64 (a : Int), .int .u64 (b : Int)] w (WidePost (a * b) w) := by
  obtain ⟨hi, hhi⟩ : ∃ hi, hi = a * b / 18446744073709551616 := ⟨_, rfl⟩
  obtain ⟨lo, hlo⟩ : ∃ lo, lo = a * b % 18446744073709551616 := ⟨_, rfl⟩
  have hm := fun w => mul64_any a b ha hb w
  rw [← hhi, ← hlo] at hm
  have h1 : hi < 18446744073709551616 := by
    rw [hhi]; have := Nat.mul_lt_mul'' ha hb; omega
  have h2 : lo < 18446744073709551616 := by rw [hlo]; omega
  have h3 : two hi lo = a * b := by unfold two; rw [hhi, hlo]; omega
  have HM := hid hm
  have H3 := hid h3
  clear hm hhi hlo h3
  go_enter Try.func38, Try.ntmps38
  go_wp2_with (go_at_call 52; refine (HM.out _).mono ?_; rintro e w' ⟨rfl, rfl⟩)
  exact bodyPost_ret (v := .agg #[.int .u64 (hi : Int), .int .u64 (lo : Int)]) (by simp [results, Try.results38, go_sem]) rfl ⟨hi, lo, rfl, h1, h2, H3.out, (Chg.refl _ _).alloc _⟩

set_option maxHeartbeats 1000000 in
theorem above_any (h l vh vl : Nat) (w : World) (h2 : l < 18446744073709551616) (h4 : vl < 18446744073709551616) :
    Calls Try.prog 40 #[.agg #[.int .u64 (h : Int), .int .u64 (l : Int)], .agg #[.int .u64 (vh : Int), .int .u64 (vl : Int)]] w fun e w' => e = .returned (.bool (decide (two vh vl < two h l))) ∧ Chg [] w w' := by
  by_cases q1 : (vh : Int) < (h : Int)
  · have HR := hid (show decide (two vh vl < two h l) = true by rw [decide_eq_true_eq, two_lt h4 h2]; omega)
    go_enter Try.func40, Try.ntmps40
    go_wp2
    go_ret
    exact ⟨by rw [HR.out]; rfl, ((Chg.refl _ _).alloc _).alloc _⟩
  · by_cases q2 : h = vh
    · subst q2
      by_cases q3 : (vl : Int) < (l : Int)
      · have HR := hid (show decide (two h vl < two h l) = true by rw [decide_eq_true_eq, two_lt h4 h2]; omega)
        go_enter Try.func40, Try.ntmps40
        go_wp2
        go_ret
        exact ⟨by rw [HR.out]; rfl, ((Chg.refl _ _).alloc _).alloc _⟩
      · have HR := hid (show decide (two h vl < two h l) = false by rw [decide_eq_false_iff_not, two_lt h4 h2]; omega)
        go_enter Try.func40, Try.ntmps40
        go_wp2
        go_ret
        exact ⟨by rw [HR.out]; rfl, ((Chg.refl _ _).alloc _).alloc _⟩
    · have HR := hid (show decide (two vh vl < two h l) = false by rw [decide_eq_false_iff_not, two_lt h4 h2]; omega)
      have q4 : ((h : Int) == (vh : Int)) = false := beq_eq_false_iff_ne.2 (by omega)
      clear q2
      go_enter Try.func40, Try.ntmps40
      go_wp2
      go_ret
      exact ⟨by rw [HR.out]; rfl, ((Chg.refl _ _).alloc _).alloc _⟩
end Go.Proofs.Ythhddmamlpnjpaa
