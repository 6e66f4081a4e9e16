/- BoardNames: chapter 24's numbers; boards that are not there; what is refused, and what is told then (closed): it returns true. No condition. -/
import Derived.Test.YtcpbbgkeigbndaaGreatGr23
import Derived.Test.YtcpbbgkeigbndaaGreatRows
import Derived.ProofKit
import Derived.OpenShut
import Derived.Deep.DeepHandedRow
import Derived.Carry
namespace Go.Proofs.YtcpbbgkeigbndaaGreat
open Go.ChangeShapes Go.WideShapes Go.ChangeAt Go.RowKit Ax
set_option maxRecDepth 100000
theorem own_ : ownKnob Tryz.prog.godebug = none := by kernel_rfl
theorem cg_below {W W' : World} (h : Cg No W W') : Below W.heap.size W W' := ⟨h.os, h.tape, h.output, h.size, fun k hk => h.block k hk fun h => h⟩
theorem boardNames_lifted (os : Os) (started : os.Started) (H : Type) (enc : TypeId × Value → H) :
    ReturnsInHanded {} Tryz.checked os 3 .any (Rows.boardNamesSpec.pre6 enc Tryz.prog Tryz.f3 Rows.boardNamesRow.domain false) (Rows.boardNamesSpec.post enc Tryz.prog Tryz.f3 false true false false) := by
  refine returnsInHanded_of_change (C := Tryz.checked) own_ started (by kernel_rfl) Tryz.func3
    (ChangeSpec.witness6 (enc := enc) (C := Tryz.checked) false ⟨#[], #[], []⟩ 8 (by kernel_rfl) (by kernel_rfl) (by kernel_rfl) (by kernel_rfl)) ?_
  intro W base args ds gs before hval0 hW hcnd _
  have hW' := hW
  obtain ⟨p, q, hA0, hV, rfl, hfz, hnd⟩ := hW
  have hA : DataW.TrodAll enc Tryz.prog W 0 (fun _ => true) true Tryz.f3.params.toList args.toList ds p := hA0
  rw [Tryz.params3] at hA
  obtain ⟨hargs, rfl, rfl⟩ := trodAll_nil hA
  obtain rfl : args = #[] := by simpa using hargs
  obtain ⟨rfl, rfl⟩ := trodVars_none hV
  clear hA0 hval0
  refine (callsB W).mono fun e W' ⟨he, hC⟩ => ?_
  subst he
  exact ⟨_, rfl, _, _, _, [], _, [], hW', trodAll_mk1 (shut_bool Tryz.underlying4 _), trodAll_mk0, rfl, (cg_below hC).frame _, fun h => by cases h⟩
theorem boardNames_unf : Tryz.prog.unfollowed 3 = true := by kernel_rfl
theorem boardNames_inp : Tryz.prog.inPlace 3 = Rows.boardNamesRow.inPlace := by kernel_rfl
theorem boardNames_nmd : Tryz.prog.varsNamed 3 = Rows.boardNamesRow.named := by kernel_rfl
theorem boardNames_rec : Tryz.prog.recurses 3 = true := by unfold Program.recurses; rw [boardNames_unf]; rfl
theorem boardNames_joined : joinedFacts Tryz.prog 3 Tryz.f3 Rows.boardNamesSpec Rows.boardNamesRow = true := by
  unfold joinedFacts
  rw [boardNames_unf, boardNames_inp, boardNames_nmd, boardNames_rec]
  kernel_rfl
theorem BoardNames_holds : Rows.BoardNamesSaid :=
  OpenClaim.holds_of_wide 3 Tryz.f3 rfl rfl rfl rfl rfl rfl rfl ⟨rfl, rfl, rfl, rfl, rfl⟩ rfl rfl rfl rfl rfl (by kernel_rfl) Tryz.func3 boardNames_joined
    (of_decide_eq_true (by kernel_rfl)) (by unfold Func.isWrapper; first | (rw [if_pos (by decide +kernel)]; kernel_rfl) | (rw [if_neg (by decide +kernel)]; exact ⟨rfl, rfl⟩))
    (fun os started H enc _ => boardNames_lifted os started H enc)
end Go.Proofs.YtcpbbgkeigbndaaGreat
