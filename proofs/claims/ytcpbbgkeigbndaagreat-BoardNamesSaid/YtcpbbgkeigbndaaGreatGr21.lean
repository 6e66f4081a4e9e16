/- BoardNames, by reckoning. -/
import Derived.Test.YtcpbbgkeigbndaaGreatGr20
namespace Go.Proofs.YtcpbbgkeigbndaaGreat
open Go Go.RowKit Go.Lib Ax
set_option maxRecDepth 100000
theorem dB4 : exBd XN 318 (preC 4 (sndC 0 cB)) ⟨[], [], []⟩ = some (.n, sB4) := by kernel_rfl
theorem dB9 : exBd XN 318 (preC 5 (sndC 4 cB)) sB4 = some (.n, sB9) := by kernel_rfl
end Go.Proofs.YtcpbbgkeigbndaaGreat
