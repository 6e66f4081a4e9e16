/- BucketWhen: Take says true up to Level, When is the first tick at which it does, Level rises by what flows in. No condition. -/
import Derived.Test.YthhddmamlpnjpaaBktW
namespace Go.Proofs.Ythhddmamlpnjpaa
open Go.ChangeShapes Go.WideShapes Go.ChangeAt Go.RowKit

set_option maxRecDepth 100000 in
theorem bucketWhen_lifted (os : Os) (started : os.Started) (H : Type) (enc : TypeId × Value → H) :
    ReturnsInHanded {} Try.checked os 8 .any (Rows.bucketWhenSpec.pre6 enc Try.prog Try.f8 Rows.bucketWhenRow.domain false) (Rows.bucketWhenSpec.post enc Try.prog Try.f8 false true false false) := by
  refine returnsInHanded_of_change (C := Try.checked) own started (by kernel_rfl) Try.func8
    (ChangeSpec.witness6 (enc := enc) (C := Try.checked) false ⟨#[], #[.agg #[.int .u64 0, .int .u64 0, .int .u64 0], .agg #[.int .u64 0, .int .u64 0, .int .u64 0], .int .u64 0], []⟩ 8 (by kernel_rfl) (by kernel_rfl) (by kernel_rfl) (by kernel_rfl)) ?_
  intro W base args ds gs before hval0 hW hcnd _
  have hval : ∀ (j : Nat) t v, Try.f8.params[j]? = some t → args[j]? = some v → Value.okWide Try.prog W .any base t v := hval0
  have hW' := hW
  obtain ⟨p, q, hA0, hV, rfl, hfz, hnd⟩ := hW
  have hA : DataW.TrodAll enc Try.prog W 0 (fun _ => true) true Try.f8.params.toList args.toList ds p := hA0
  rw [Try.params8] at hA hval
  obtain ⟨v0, v1, v2, d0, d1, d2, p0, p1, p2, rfl, rfl, rfl, h0, h1, h2⟩ := trodAll_three hA
  obtain ⟨rfl, rfl⟩ := trodVars_none hV
  obtain ⟨a0, b0, c0, rfl, rfl, ha0, hb0, hc0, s0⟩ := open_three Try.underlying24 (by kernel_rfl) Try.cells24 rfl rfl rfl (hval 0 24 v0 rfl rfl) h0
  obtain ⟨a1, b1, c1, rfl, rfl, ha1, hb1, hc1, s1⟩ := open_three Try.underlying48 (by kernel_rfl) Try.cells48 rfl rfl rfl (hval 1 48 v1 rfl rfl) h1
  obtain ⟨u2, rfl, rfl, rfl, hu2, s2⟩ := open_u64 (hval 2 22 v2 rfl rfl) h2
  clear hA0 hval0
  refine (when_law a0 b0 c0 a1 b1 c1 u2 W ha1 hc1).mono fun e W' ⟨he, hC⟩ => ?_
  subst he
  have bel : Below W.heap.size W W' := hC.below (by simp) (Nat.le_refl _)
  exact ⟨_, rfl, _, _, _, [], _, [], hW', trodAll_mk1 (shut_bool Try.underlying4 _), (trodAll_cons_mk (s0 _ _) (trodAll_cons_mk (s1 _ _) (trodAll_cons_mk (s2 _ _) trodAll_mk0))), rfl, bel.frame _, fun h => by cases h⟩

theorem BucketWhen_holds : Rows.BucketWhenSaid :=
  OpenClaim.holds_of_wide 8 Try.f8 rfl rfl rfl rfl rfl rfl rfl ⟨rfl, rfl, rfl, rfl, rfl⟩ rfl rfl rfl rfl rfl (by kernel_rfl) Try.func8 (by kernel_rfl)
    (of_decide_eq_true (by kernel_rfl)) (by unfold Func.isWrapper; rw [if_neg (by decide +kernel)]; exact ⟨rfl, rfl⟩)
    (fun os started H enc _ => bucketWhen_lifted os started H enc)
end Go.Proofs.Ythhddmamlpnjpaa
