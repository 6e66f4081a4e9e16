/- BoardNames, by reckoning. -/
import Derived.Test.YtcpbbgkeigbndaaGreatGr21
import Derived.Test.YtcpbbgkeigbndaaGreatGr22
namespace Go.Proofs.YtcpbbgkeigbndaaGreat
open Go Go.RowKit Go.Lib Ax
set_option maxRecDepth 100000
theorem allB : endBd XN 318 Tryz.f3 cB ⟨[], [], []⟩ = some (false, .v (.bool true)) := by
  refine endBd_on (c := cB) dB4 ?_
  refine endBd_on (c := sndC 4 cB) dB9 ?_
  rw [sndC_add]
  exact eB
theorem bodyB : Tryz.f3.body = some cB := by kernel_rfl
theorem ntB : Tryz.f3.ntmps = 318 := by kernel_rfl
theorem callsB (w : World) : Calls Tryz.prog 3 #[] w fun e w' => e = .returned (.bool true) ∧ Cg No w w' := calls_end (X := XN) Tryz.func3 bodyB (by rw [ntB]; exact allB) w
end Go.Proofs.YtcpbbgkeigbndaaGreat
