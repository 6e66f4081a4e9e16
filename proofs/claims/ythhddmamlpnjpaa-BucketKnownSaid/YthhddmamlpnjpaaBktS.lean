/- The statements' arguments, opened. -/
import Derived.Test.YthhddmamlpnjpaaBktR
import Derived.ProofKit
import Derived.OpenShut
import Derived.Deep.Slices
import Derived.Deep.Strs
import Derived.Lib.SmallJoins
namespace Go.Proofs.Ythhddmamlpnjpaa
open Go.ChangeShapes Go.WideShapes Go.ChangeAt Go.RowKit Go.Deep Go.Joins

theorem own : ownKnob Try.prog.godebug = none := by kernel_rfl
theorem laidOut : laidOutB Try.prog = true := by kernel_rfl
theorem Try.cells22 : Try.prog.cellsOf 22 = 1 := by kernel_rfl
theorem Try.cells24 : Try.prog.cellsOf 24 = 3 := by kernel_rfl
theorem Try.cells40 : Try.prog.cellsOf 40 = 2 := by kernel_rfl
theorem Try.cells48 : Try.prog.cellsOf 48 = 3 := by kernel_rfl

theorem u64_wf {n : Int} (h : (Lit.int .u64 n).wf = true) : ∃ k : Nat, n = (k : Int) ∧ k < 18446744073709551616 := by
  have h1 : IntKind.u64.min = 0 := rfl
  have h2 : IntKind.u64.max = 18446744073709551615 := rfl
  simp only [Lit.wf, Bool.and_eq_true, decide_eq_true_eq] at h
  exact ⟨n.toNat, by omega, by omega⟩

section
variable {H : Type} {enc : TypeId × Value → H} {w : World} {base : Nat} {spare : Nat → Bool} {held : Bool}

theorem open_u64 {r : Reach} {b0 : Nat} {v : Value} {d : DataW H} {p : List MemPlace} (hv : Value.okWide Try.prog w r b0 22 v) (h : DataW.Trod enc Try.prog w base spare held 22 v d p) :
    ∃ k : Nat, v = .int .u64 (k : Int) ∧ d = .lit (.int .u64 (k : Int)) ∧ p = [] ∧ k < 18446744073709551616 ∧ ∀ W' sp, DataW.Trod enc Try.prog W' base sp held 22 (.int .u64 (k : Int)) (.lit (.int .u64 (k : Int))) [] := by
  obtain ⟨a, rfl, rfl, rfl, wa⟩ := open_int Try.underlying22 hv h
  obtain ⟨k, rfl, hk⟩ := u64_wf wa
  exact ⟨k, rfl, rfl, rfl, hk, fun _ _ => shut_int Try.underlying22 wa⟩

theorem open_three {t : TypeId} {f0 f1 f2 : Field} (hs : Try.prog.underlying t = some (.struct #[f0, f1, f2])) (hone : oneCellFields Try.prog #[f0, f1, f2] = true) (hC : Try.prog.cellsOf t = 3)
    (h0 : f0.type = 22) (h1 : f1.type = 22) (h2 : f2.type = 22) {r : Reach} {b0 : Nat} {v : Value} {d : DataW H} {p : List MemPlace} (hv : Value.okWide Try.prog w r b0 t v) (h : DataW.Trod enc Try.prog w base spare held t v d p) :
    ∃ a b c : Nat, v = .agg #[.int .u64 (a : Int), .int .u64 (b : Int), .int .u64 (c : Int)] ∧ p = [] ∧ a < 18446744073709551616 ∧ b < 18446744073709551616 ∧ c < 18446744073709551616 ∧
      ∀ W' sp, DataW.Trod enc Try.prog W' base sp held t (.agg #[.int .u64 (a : Int), .int .u64 (b : Int), .int .u64 (c : Int)]) d [] := by
  obtain ⟨c0, c1, c2, y0, y1, y2, m, rfl, rfl, rfl, hy0, hy1, hy2⟩ := open_agg3 hs hone hC hv h
  rw [h0] at hy0
  rw [h1] at hy1
  rw [h2] at hy2
  obtain ⟨a, e0, rfl, wa⟩ := DataW.trod_int Try.underlying22 hy0
  obtain ⟨b, e1, rfl, wb⟩ := DataW.trod_int Try.underlying22 hy1
  obtain ⟨c, e2, rfl, wc⟩ := DataW.trod_int Try.underlying22 hy2
  simp at e0 e1 e2
  subst e0 e1 e2
  obtain ⟨a, rfl, ha⟩ := u64_wf wa
  obtain ⟨b, rfl, hb⟩ := u64_wf wb
  obtain ⟨c, rfl, hc⟩ := u64_wf wc
  refine ⟨a, b, c, rfl, rfl, ha, hb, hc, fun W' sp => ?_⟩
  exact shut_agg3 (y0 := (.lit (.int .u64 (a : Int)), [])) (y1 := (.lit (.int .u64 (b : Int)), [])) (y2 := (.lit (.int .u64 (c : Int)), [])) hs hone hC
    ⟨1, by simp [h0, DataW.trod, Try.underlying22, wa]⟩ ⟨1, by simp [h1, DataW.trod, Try.underlying22, wb]⟩ ⟨1, by simp [h2, DataW.trod, Try.underlying22, wc]⟩
end
end Go.Proofs.Ythhddmamlpnjpaa
