/- LangNames: the numbers, and some texts (closed): it returns true. No condition beside the statement's own. -/
import Derived.Test.YtmjmnigiegadiaaGreatDoorGr33
import Derived.Test.YtmjmnigiegadiaaGreatDoorCards
import Derived.Test.YtmjmnigiegadiaaGreatDoorTie
import Derived.ProofKit
import Derived.OpenShut
import Derived.Deep.DeepHandedRow
import Derived.Carry
namespace Go.Proofs.YtmjmnigiegadiaaGreatDoor
open Go.ChangeShapes Go.WideShapes Go.ChangeAt Go.RowKit Ax
set_option maxRecDepth 100000
theorem own_ : ownKnob Tryz.prog.godebug = none := by kernel_rfl
theorem cg_below {W W' : World} (h : Cg No W W') : Below W.heap.size W W' := ⟨h.os, h.tape, h.output, h.size, fun k hk => h.block k hk fun h => h⟩
theorem langNames_contract (H : Type) (enc : TypeId × Value → H) (W : World) (args : Array Value) (ds gs : List (DataW H)) (before : List MemPlace)
    (hW : DataW.Whole enc Tryz.prog Tryz.f3.params.toList Rows.langNamesSpec.vars false W args.toList ds gs before) (hL : laidMetH Tryz.prog laidL W) (hS : W.ShapedOpen Tryz.prog) :
    Calls Tryz.prog 3 args W fun e W' => ∃ v, e = .returned v ∧ Rows.langNamesSpec.post enc Tryz.prog Tryz.f3 false true false false W args v W' := by
  have hW' := hW
  obtain ⟨v7, v8, m, hG, h1, h1c⟩ := lay_of hL hS
  obtain ⟨p, q, hA0, hV, rfl, hfz, hnd⟩ := hW
  have hA : DataW.TrodAll enc Tryz.prog W 0 (fun _ => true) true Tryz.f3.params.toList args.toList ds p := hA0
  rw [Tryz.params3] at hA
  obtain ⟨ha, rfl, rfl⟩ := trodAll_nil hA
  obtain rfl : args = #[] := by simpa using ha
  obtain ⟨rfl, rfl⟩ := trodVars_none hV
  clear hA0
  refine (names_calls v7 v8 W m hG h1 h1c).mono fun e W' ⟨he, hC⟩ => ?_
  subst he
  exact ⟨_, rfl, _, _, _, [], _, [], hW', trodAll_mk1 (shut_bool Tryz.underlying4 _), trodAll_mk0, rfl, (cg_below hC).frame _, fun h => by cases h⟩
theorem langNames_reads (os : Os) {H : Type} (enc : TypeId × Value → H) : ∃ places, DataW.whole enc Tryz.prog ((laidWorld os).forCall (fun _ _ => 0) ⟨#[], #[], []⟩).memory Tryz.f3.params.toList Rows.langNamesSpec.vars false (#[] : Array Value).toList 8 = some ([], [], places) :=
  ⟨[], by kernel_rfl⟩
theorem langNames_lifted (os : Os) (started : os.Started) (H : Type) (enc : TypeId × Value → H) (F : Stop.Interp) :
    ReturnsInHanded {} Tryz.checked os 3 .any ((OpenSpec.ofChange Rows.langNamesSpec).preRow enc Tryz.prog Tryz.f3 Rows.langNamesRow.domain false Rows.langNamesRow.laid) (((OpenSpec.ofChange Rows.langNamesSpec).at F).post enc Tryz.prog Tryz.f3 false true false false) := by
  obtain ⟨places, hx⟩ := langNames_reads os enc
  refine returnsInHanded_of_row (C := Tryz.checked) (s := OpenSpec.ofChange Rows.langNamesSpec) own_ started (by kernel_rfl) Tryz.func3
    (witness_row_at (enc := enc) (C := Tryz.checked) false (laidWorld os) #[] rfl (by kernel_rfl) (by kernel_rfl) (by kernel_rfl)
      (OpenSpec.preRow_of_cond 8 hx (by kernel_rfl) (fun k hk => by cases hk) (by kernel_rfl) (laid_met os _))) ?_
  intro W base args ds gs before hval hW _ hcond _ hL hS _
  exact langNames_contract H enc W args ds gs before hW hL hS
theorem langNames_unf : Tryz.prog.unfollowed 3 = true := by kernel_rfl
theorem langNames_inp : Tryz.prog.inPlace 3 = Rows.langNamesRow.inPlace := by kernel_rfl
theorem langNames_nmd : Tryz.prog.varsNamed 3 = Rows.langNamesRow.named := by kernel_rfl
theorem langNames_rec : Tryz.prog.recurses 3 = true := by unfold Program.recurses; rw [langNames_unf]; rfl
theorem langNames_joined : joinedFacts Tryz.prog 3 Tryz.f3 (OpenSpec.ofChange Rows.langNamesSpec).bare Rows.langNamesRow = true := by
  unfold joinedFacts
  rw [langNames_unf, langNames_inp, langNames_nmd, langNames_rec]
  kernel_rfl
theorem langNames_said : Rows.LangNamesSaid :=
  OpenClaim.holds_of_cond 3 Tryz.f3 rfl rfl rfl rfl rfl rfl rfl ⟨rfl, rfl, rfl, rfl, rfl⟩ rfl rfl rfl rfl rfl (by kernel_rfl) Tryz.func3 langNames_joined
    (of_decide_eq_true (by kernel_rfl)) (by unfold Func.isWrapper; first | (rw [if_pos (by decide +kernel)]; kernel_rfl) | (rw [if_neg (by decide +kernel)]; exact ⟨rfl, rfl⟩))
    (fun os started H enc _ F => by rw [OpenClaim.pre_eq_preRow]; exact langNames_lifted os started H enc F)
theorem langNames_plain (f : FuncId) (fn : Func) (hf : Tryz.pinned.checked.prog.funcNamed "patchbay/patchbaylaw20.LangNames" = some f) (hfn : Tryz.pinned.checked.prog.funcs[f]? = some fn) :
    true = Tryz.pinned.checked.prog.looks [] ∧ ∀ (j : Nat) t, fn.params[j]? = some t → Tryz.pinned.checked.prog.wantsStandIn t = false := by
  obtain rfl : f = 3 := Option.some.inj ((show Tryz.prog.funcNamed "patchbay/patchbaylaw20.LangNames" = some 3 by kernel_rfl).symm.trans hf) |>.symm
  obtain rfl : fn = Tryz.f3 := (Option.some.inj (Tryz.func3.symm.trans hfn)).symm
  refine ⟨by kernel_rfl, fun j t ht => ?_⟩
  rw [Tryz.params3] at ht
  simp at ht
theorem LangNames_holds : Rows.LangNamesCardSaid :=
  Claim7.holds_tied_plain_at .later [] _ _ _ _ langNames_said (fun _ h => by cases h) (by kernel_rfl) (fun _ h => by cases h) langNames_row_tie rfl ⟨rfl, rfl⟩ (by kernel_rfl) rfl langNames_plain (by kernel_rfl)
end Go.Proofs.YtmjmnigiegadiaaGreatDoor
