/- LinkPlays: of every delay, every room and every row of steps the link's answers are the document's. No condition. -/
import Derived.Test.YtendgfbkbeapoaaLinkM
namespace Go.Proofs.Ytendgfbkbeapoaa
open Go.ChangeShapes Go.WideShapes Go.ChangeAt Go.RowKit

theorem plays_any (d room : Int) (A : Option Addr) (n c : Nat) (xs : List (Bool × Int × Int)) (w : World) (hd0 : 0 ≤ d) (hs : StepsAt w A xs) (hn : xs.length = n) (hnm : n ≤ 9223372036854775807) :
    Calls Try.prog 3 #[.int .u64 d, .int .i64 room, .slice A n c] w (AllTrue w) := by
  by_cases h1 : d ≤ 1024
  · by_cases h2 : 1 ≤ room
    · by_cases h3 : room ≤ 1024
      · exact plays_ok d room A n c xs w hd0 h1 h2 h3 hs hn hnm
      · exact plays_high d room _ w h1 (by omega)
    · exact plays_low d room _ w h1 (by omega)
  · exact plays_big d room _ w (by omega)

set_option maxRecDepth 100000 in
theorem plays_lifted (os : Os) (started : os.Started) (H : Type) (enc : TypeId × Value → H) :
    ReturnsInHanded {} Try.checked os 3 .any (Rows.linkPlaysSpec.pre6 enc Try.prog Try.f3 Rows.linkPlaysRow.domain false) (Rows.linkPlaysSpec.post enc Try.prog Try.f3 false true false false) := by
  refine returnsInHanded_of_change (C := Try.checked) own started (by kernel_rfl) Try.func3
    (ChangeSpec.witness6 (enc := enc) (C := Try.checked) false ⟨#[], #[.int .u64 0, .int .i64 0, .slice none 0 0], []⟩ 8 (by kernel_rfl) (by kernel_rfl) (by kernel_rfl) (by kernel_rfl)) ?_
  intro W base args ds gs before hval0 hW hcnd _
  have hval : ∀ (j : Nat) t v, Try.f3.params[j]? = some t → args[j]? = some v → Value.okWide Try.prog W .any base t v := hval0
  have hW' := hW
  obtain ⟨p, q, hA0, hV, rfl, hfz, hnd⟩ := hW
  have hA : DataW.TrodAll enc Try.prog W 0 (fun _ => true) true Try.f3.params.toList args.toList ds p := hA0
  rw [Try.params3] at hA hval
  obtain ⟨v0, v1, v2, d0, d1, d2, p0, p1, p2, rfl, rfl, rfl, h0, h1, h2⟩ := trodAll_three hA
  obtain ⟨rfl, rfl⟩ := trodVars_none hV
  obtain ⟨a, rfl, rfl, rfl, wa⟩ := open_int Try.underlying22 (hval 0 22 v0 rfl rfl) h0
  obtain ⟨b, rfl, rfl, rfl, wb⟩ := open_int Try.underlying3 (hval 1 3 v1 rfl rfl) h1
  obtain ⟨a2, len, cap, rfl⟩ := okWide_slice Try.underlying23 (hval 2 23 v2 rfl rfl)
  have k2 := h2
  have lt2 : ∀ x ∈ p2, x.block < W.heap.size := by obtain ⟨m, hm⟩ := k2; exact DataW.trod_lt m _ _ _ hm
  obtain ⟨xs, hxl, hlm, hst⟩ : ∃ xs : List (Bool × Int × Int), xs.length = len ∧ len ≤ 9223372036854775807 ∧ StepsAt W a2 xs := by
    obtain ⟨fuel, hf⟩ := h2
    exact open_steps (by simpa [Value.cells] using hf)
  clear hA0 hval0
  refine (plays_any a b a2 len cap xs W (u64_wf wa).1 hst hxl hlm).mono fun e W' ⟨he, bel⟩ => ?_
  subst he
  exact ⟨_, rfl, _, _, _, [], _, [], hW', trodAll_mk1 (shut_bool Try.underlying4 _), (trodAll_cons_mk (shut_int Try.underlying22 wa) (trodAll_cons_mk (shut_int Try.underlying3 wb) (trodAll_cons_mk (Below.trod laidOut (by kernel_rfl) (of_decide_eq_true (by kernel_rfl)) k2 bel lt2) trodAll_mk0))), rfl, bel.frame _, fun h => by cases h⟩

theorem LinkPlays_holds : Rows.LinkPlaysSaid :=
  OpenClaim.holds_of_wide 3 Try.f3 rfl rfl rfl rfl rfl rfl rfl ⟨rfl, rfl, rfl, rfl, rfl⟩ rfl rfl rfl rfl rfl (by kernel_rfl) Try.func3 (by kernel_rfl)
    (of_decide_eq_true (by kernel_rfl)) (by unfold Func.isWrapper; rw [if_neg (by decide +kernel)]; exact ⟨rfl, rfl⟩)
    (fun os started H enc _ => plays_lifted os started H enc)
end Go.Proofs.Ytendgfbkbeapoaa
