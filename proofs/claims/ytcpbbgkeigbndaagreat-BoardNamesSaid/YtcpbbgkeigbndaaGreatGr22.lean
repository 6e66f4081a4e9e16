/- BoardNames, by reckoning. -/
import Derived.Test.YtcpbbgkeigbndaaGreatGr20
namespace Go.Proofs.YtcpbbgkeigbndaaGreat
open Go Go.RowKit Go.Lib Ax
set_option maxRecDepth 100000
theorem eB : endBd XN 318 Tryz.f3 (sndC 9 cB) sB9 = some (false, .v (.bool true)) := by kernel_rfl
end Go.Proofs.YtcpbbgkeigbndaaGreat
