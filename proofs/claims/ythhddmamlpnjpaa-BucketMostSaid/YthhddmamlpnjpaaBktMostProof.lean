/- BucketMost: of what was let through between any two of its ticks there is never more than Most of their distance. No condition. -/
import Derived.Test.YthhddmamlpnjpaaBktT
namespace Go.Proofs.Ythhddmamlpnjpaa
open Go.ChangeShapes Go.WideShapes Go.ChangeAt Go.RowKit

set_option maxRecDepth 100000 in
theorem bucketMost_lifted (os : Os) (started : os.Started) (H : Type) (enc : TypeId × Value → H) :
    ReturnsInHanded {} Try.checked os 5 .any (Rows.bucketMostSpec.pre6 enc Try.prog Try.f5 Rows.bucketMostRow.domain false) (Rows.bucketMostSpec.post enc Try.prog Try.f5 false true false false) := by
  refine returnsInHanded_of_change (C := Try.checked) own started (by kernel_rfl) Try.func5
    (ChangeSpec.witness6 (enc := enc) (C := Try.checked) false ⟨#[], #[.agg #[.int .u64 0, .int .u64 0, .int .u64 0], .int .u64 0, .slice none 0 0], []⟩ 8 (by kernel_rfl) (by kernel_rfl) (by kernel_rfl) (by kernel_rfl)) ?_
  intro W base args ds gs before hval0 hW hcnd _
  have hval : ∀ (j : Nat) t v, Try.f5.params[j]? = some t → args[j]? = some v → Value.okWide Try.prog W .any base t v := hval0
  have hW' := hW
  obtain ⟨p, q, hA0, hV, rfl, hfz, hnd⟩ := hW
  have hA : DataW.TrodAll enc Try.prog W 0 (fun _ => true) true Try.f5.params.toList args.toList ds p := hA0
  rw [Try.params5] at hA hval
  obtain ⟨v0, v1, v2, d0, d1, d2, p0, p1, p2, rfl, rfl, rfl, h0, h1, h2⟩ := trodAll_three hA
  obtain ⟨rfl, rfl⟩ := trodVars_none hV
  obtain ⟨a0, b0, c0, rfl, rfl, ha0, hb0, hc0, s0⟩ := open_three Try.underlying24 (by kernel_rfl) Try.cells24 rfl rfl rfl (hval 0 24 v0 rfl rfl) h0
  obtain ⟨u1, rfl, rfl, rfl, hu1, s1⟩ := open_u64 (hval 1 22 v1 rfl rfl) h1
  obtain ⟨A2, len2, cap2, rfl⟩ := okWide_slice Try.underlying25 (hval 2 25 v2 rfl rfl)
  have k2 := h2
  have lt2 : ∀ x ∈ p2, x.block < W.heap.size := by obtain ⟨m, hm⟩ := k2; exact DataW.trod_lt m _ _ _ hm
  obtain ⟨L2, hl2, hlm2, hst2⟩ : ∃ L : List (Nat × Nat), L.length = len2 ∧ len2 ≤ 9223372036854775807 ∧ AskAt W A2 L := by
    obtain ⟨fuel, hf⟩ := h2
    exact open_asks (by simpa [Value.cells] using hf)
  clear hA0 hval0
  refine (most_law a0 b0 c0 u1 A2 len2 cap2 L2 W hu1 hst2 hl2 hlm2).mono fun e W' ⟨he, hC⟩ => ?_
  subst he
  have bel : Below W.heap.size W W' := hC.below (by simp) (Nat.le_refl _)
  exact ⟨_, rfl, _, _, _, [], _, [], hW', trodAll_mk1 (shut_bool Try.underlying4 _), (trodAll_cons_mk (s0 _ _) (trodAll_cons_mk (s1 _ _) (trodAll_cons_mk (Below.trod laidOut (by kernel_rfl) (of_decide_eq_true (by kernel_rfl)) k2 bel lt2) trodAll_mk0))), rfl, bel.frame _, fun h => by cases h⟩

theorem BucketMost_holds : Rows.BucketMostSaid :=
  OpenClaim.holds_of_wide 5 Try.f5 rfl rfl rfl rfl rfl rfl rfl ⟨rfl, rfl, rfl, rfl, rfl⟩ rfl rfl rfl rfl rfl (by kernel_rfl) Try.func5 (by kernel_rfl)
    (of_decide_eq_true (by kernel_rfl)) (by unfold Func.isWrapper; rw [if_neg (by decide +kernel)]; exact ⟨rfl, rfl⟩)
    (fun os started H enc _ => bucketMost_lifted os started H enc)
end Go.Proofs.Ythhddmamlpnjpaa
