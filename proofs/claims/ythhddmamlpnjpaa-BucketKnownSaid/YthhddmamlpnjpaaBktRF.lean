/- A row of asks that came in, opened with its capacity. -/
import Derived.Test.YthhddmamlpnjpaaBktRE
namespace Go.Proofs.Ythhddmamlpnjpaa
open Go.ChangeShapes Go.WideShapes Go.ChangeAt Go.RowKit Go.Deep Go.Joins

theorem open_asks2 {H : Type} {enc : TypeId × Value → H} {w : World} {base : Nat} {spare : Nat → Bool} {held : Bool} {fuel : Nat} {a0 : Option Addr} {len cap : Nat} {x : DataW H × List MemPlace}
    (h : DataW.trod enc Try.prog w base spare held fuel 25 [.slice a0 len cap] = some x) : ∃ L : List (Nat × Nat), L.length = len ∧ len ≤ cap ∧ cap ≤ 9223372036854775807 ∧ AskAt w a0 L ∧ (a0 = none → len = 0 ∧ cap = 0) := by
  obtain ⟨L, h1, h2, h3⟩ := open_asks h
  rcases open_slice Try.underlying25 h with ⟨hcs, _⟩ | ⟨a, len', cap', m, n, D, Pl, hcs, _, hl, hm, hmm, _, hcell⟩
  · simp at hcs
    obtain ⟨rfl, rfl, rfl⟩ := hcs
    exact ⟨L, h1, Nat.le_refl _, by omega, h3, fun _ => ⟨rfl, rfl⟩⟩
  · simp at hcs
    obtain ⟨rfl, rfl, rfl⟩ := hcs
    exact ⟨L, h1, hl, by unfold maxLen at hm; omega, h3, fun h => by cases h⟩
end Go.Proofs.Ythhddmamlpnjpaa
