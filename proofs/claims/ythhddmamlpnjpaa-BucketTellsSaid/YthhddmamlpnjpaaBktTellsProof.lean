/- BucketTells: of any bucket, state, tick and number of tokens Check, Take, Level, When and Most answer as the document says. No condition. -/
import Derived.Test.YthhddmamlpnjpaaBktS
namespace Go.Proofs.Ythhddmamlpnjpaa
open Go.ChangeShapes Go.WideShapes Go.ChangeAt Go.RowKit

set_option maxRecDepth 100000 in
theorem tells_lifted (os : Os) (started : os.Started) (H : Type) (enc : TypeId × Value → H) :
    ReturnsInHanded {} Try.checked os 7 .any (Rows.bucketTellsSpec.pre6 enc Try.prog Try.f7 Rows.bucketTellsRow.domain false) (Rows.bucketTellsSpec.post enc Try.prog Try.f7 false true false false) := by
  refine returnsInHanded_of_change (C := Try.checked) own started (by kernel_rfl) Try.func7
    (ChangeSpec.witness6 (enc := enc) (C := Try.checked) false ⟨#[], #[.agg #[.int .u64 0, .int .u64 0, .int .u64 0], .agg #[.int .u64 0, .int .u64 0, .int .u64 0]], []⟩ 8 (by kernel_rfl) (by kernel_rfl) (by kernel_rfl) (by kernel_rfl)) ?_
  intro W base args ds gs before hval0 hW hcnd _
  have hval : ∀ (j : Nat) t v, Try.f7.params[j]? = some t → args[j]? = some v → Value.okWide Try.prog W .any base t v := hval0
  have hW' := hW
  obtain ⟨p, q, hA0, hV, rfl, hfz, hnd⟩ := hW
  have hA : DataW.TrodAll enc Try.prog W 0 (fun _ => true) true Try.f7.params.toList args.toList ds p := hA0
  rw [Try.params7] at hA hval
  obtain ⟨v0, v1, d0, d1, p0, p1, rfl, rfl, rfl, h0, h1⟩ := trodAll_two hA
  obtain ⟨rfl, rfl⟩ := trodVars_none hV
  obtain ⟨a, b, c, rfl, rfl, ha, hb, hc, s0⟩ := open_three Try.underlying24 (by kernel_rfl) Try.cells24 rfl rfl rfl (hval 0 24 v0 rfl rfl) h0
  obtain ⟨s, now, n, rfl, rfl, hs, hnow, hn, s1⟩ := open_three Try.underlying48 (by kernel_rfl) Try.cells48 rfl rfl rfl (hval 1 48 v1 rfl rfl) h1
  clear hA0 hval0
  refine (tells_any a b c s now n W hs hn).mono fun e W' ⟨he, hC⟩ => ?_
  subst he
  have bel : Below W.heap.size W W' := hC.below (by simp) (Nat.le_refl _)
  exact ⟨_, rfl, _, _, _, [], _, [], hW', trodAll_mk1 (shut_bool Try.underlying4 _), (trodAll_cons_mk (s0 _ _) (trodAll_cons_mk (s1 _ _) trodAll_mk0)), rfl, bel.frame _, fun h => by cases h⟩

theorem BucketTells_holds : Rows.BucketTellsSaid :=
  OpenClaim.holds_of_wide 7 Try.f7 rfl rfl rfl rfl rfl rfl rfl ⟨rfl, rfl, rfl, rfl, rfl⟩ rfl rfl rfl rfl rfl (by kernel_rfl) Try.func7 (by kernel_rfl)
    (of_decide_eq_true (by kernel_rfl)) (by unfold Func.isWrapper; rw [if_neg (by decide +kernel)]; exact ⟨rfl, rfl⟩)
    (fun os started H enc _ => tells_lifted os started H enc)
end Go.Proofs.Ythhddmamlpnjpaa
