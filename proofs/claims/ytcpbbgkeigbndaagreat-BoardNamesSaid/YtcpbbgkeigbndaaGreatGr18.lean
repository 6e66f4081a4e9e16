/- BoardNames' awake, by reckoning. -/
import Derived.Test.YtcpbbgkeigbndaaGreatGr16
namespace Go.Proofs.YtcpbbgkeigbndaaGreat
open Go Go.RowKit Go.Lib Ax
set_option maxRecDepth 100000
theorem dA7 : exBd XM 122 (preC 1 (sndC 6 cA)) sA6 = some (.n, sA7) := by kernel_rfl
theorem dA8 : exBd XM 122 (preC 1 (sndC 7 cA)) sA7 = some (.n, sA8) := by kernel_rfl
theorem eA : endBd XM 122 Tryz.f19 (sndC 8 cA) sA8 = some (false, .v (.bool true)) := by kernel_rfl
end Go.Proofs.YtcpbbgkeigbndaaGreat
