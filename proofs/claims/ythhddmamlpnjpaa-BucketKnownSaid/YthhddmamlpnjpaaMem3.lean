/- A slice that was just made, owned. -/
import Derived.Test.YthhddmamlpnjpaaMem2
namespace Go.Proofs.Ythhddmamlpnjpaa
open Go Go.RowKit
theorem Own.made (w : World) (T : TypeId) (size n c : Nat) (cs : List Value) (hn : n ≤ c) (hm : c ≤ maxLen) (hl : cs.length = c * size) : Own (w.alloc (.cells cs.toArray T)) T size (.slice (some ⟨w.heap.size, 0, none⟩) n c) n (cs.take (n * size)) := by
  have hle : n * size ≤ c * size := Nat.mul_le_mul_right _ hn
  exact ⟨by rw [List.length_take]; omega, .inr ⟨_, 0, c, cs, rfl, by simpa using Blk.new w T cs.toArray, hn, hm, by omega, by simp⟩⟩
end Go.Proofs.Ythhddmamlpnjpaa
