/- BoardNames' awake, by reckoning. -/
import Derived.Test.YtcpbbgkeigbndaaGreatGr16
namespace Go.Proofs.YtcpbbgkeigbndaaGreat
open Go Go.RowKit Go.Lib Ax
set_option maxRecDepth 100000
theorem dA3 : exBd XM 122 (preC 3 (sndC 0 cA)) ⟨[], [], []⟩ = some (.n, sA3) := by kernel_rfl
theorem dA5 : exBd XM 122 (preC 2 (sndC 3 cA)) sA3 = some (.n, sA5) := by kernel_rfl
theorem dA6 : exBd XM 122 (preC 1 (sndC 5 cA)) sA5 = some (.n, sA6) := by kernel_rfl
end Go.Proofs.YtcpbbgkeigbndaaGreat
