/- BoardNames' awake, by reckoning. -/
import Derived.Test.YtcpbbgkeigbndaaGreatGr17
import Derived.Test.YtcpbbgkeigbndaaGreatGr18
namespace Go.Proofs.YtcpbbgkeigbndaaGreat
open Go Go.RowKit Go.Lib Ax
set_option maxRecDepth 100000
theorem allA : endBd XM 122 Tryz.f19 cA ⟨[], [], []⟩ = some (false, .v (.bool true)) := by
  refine endBd_on (c := cA) dA3 ?_
  refine endBd_on (c := sndC 3 cA) dA5 ?_
  rw [sndC_add]
  refine endBd_on (c := sndC 5 cA) dA6 ?_
  rw [sndC_add]
  refine endBd_on (c := sndC 6 cA) dA7 ?_
  rw [sndC_add]
  refine endBd_on (c := sndC 7 cA) dA8 ?_
  rw [sndC_add]
  exact eA
theorem bodyA : Tryz.f19.body = some cA := by kernel_rfl
theorem ntA : Tryz.f19.ntmps = 122 := by kernel_rfl
theorem callsA (w : World) : Calls Tryz.prog 19 #[] w fun e w' => e = .returned (.bool true) ∧ Cg No w w' := calls_end (X := XM) Tryz.func19 bodyA (by rw [ntA]; exact allA) w
end Go.Proofs.YtcpbbgkeigbndaaGreat

/- BoardNames: awake is known. -/
namespace Go.Proofs.YtcpbbgkeigbndaaGreat
open Go Go.RowKit Go.Lib Ax
set_option maxRecDepth 100000
def awX : List SV → (Nat → Option Row) → Nat → Option Eff
  | [], _, _ => some (.pure [] (.v (.bool true)))
  | _, _, _ => none
theorem awX_ok : CallOk Tryz.prog (LayOk []) 19 awX := by
  intro b hb args row m g h β W hs
  unfold awX at h
  split at h
  · cases h
    exact (callsA W).mono fun e w' ⟨he, hw⟩ => ⟨_, he, epost_pure (sv := .v (.bool true)) hw⟩
  · cases h
noncomputable def XN : Xop Tryz.prog (LayOk []) := XB (.or (.call 19 awX (by kernel_rfl) awX_ok) (.or (.memo GD ML) (Xop.atms AL)))
end Go.Proofs.YtcpbbgkeigbndaaGreat
