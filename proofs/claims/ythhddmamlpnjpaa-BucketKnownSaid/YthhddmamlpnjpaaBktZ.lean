/- A row of asks that came in, opened. -/
import Derived.Test.YthhddmamlpnjpaaBktY
namespace Go.Proofs.Ythhddmamlpnjpaa
open Go.ChangeShapes Go.WideShapes Go.ChangeAt Go.RowKit Go.Deep Go.Joins

theorem open_asks {H : Type} {enc : TypeId × Value → H} {w : World} {base : Nat} {spare : Nat → Bool} {held : Bool} {fuel : Nat} {a0 : Option Addr} {len cap : Nat} {x : DataW H × List MemPlace}
    (h : DataW.trod enc Try.prog w base spare held fuel 25 [.slice a0 len cap] = some x) : ∃ L : List (Nat × Nat), L.length = len ∧ len ≤ 9223372036854775807 ∧ AskAt w a0 L := by
  rcases open_slice Try.underlying25 h with ⟨hcs, _⟩ | ⟨a, len', cap', m, n, D, Pl, hcs, _, hl, hm, hmm, _, hcell⟩
  · simp at hcs
    obtain ⟨rfl, rfl, rfl⟩ := hcs
    exact ⟨[], rfl, by omega, fun i x y hx => by simp at hx⟩
  · simp at hcs
    obtain ⟨rfl, rfl, rfl⟩ := hcs
    have hle : len ≤ m := by rw [hmm]; split <;> omega
    have one : ∀ i, i < len → ∃ x : Nat × Nat, x.1 < 18446744073709551616 ∧ x.2 < 18446744073709551616 ∧ ∃ b o, (some a : Option Addr) = some ⟨b, o, none⟩ ∧ b < w.heap.size ∧ w.cell? ⟨b, o + i * 2, none⟩ = some (.int .u64 (x.1 : Int)) ∧ w.cell? ⟨b, o + i * 2 + 1, none⟩ = some (.int .u64 (x.2 : Int)) := by
      intro i hi
      obtain ⟨cs', hc, ht⟩ := hcell i (by omega)
      rw [Try.cells40] at hc
      obtain ⟨_, hlen, hat⟩ := World.cells?_some hc
      obtain ⟨ys, n', _, _, _, hyl, hy⟩ := DataW.trod_array Try.underlying40 ht
      match cs', hlen with
      | [c0, c1], _ =>
        have t0 := hy 0 (by omega)
        have t1 := hy 1 (by omega)
        simp only [Try.cells22] at t0 t1
        rw [List.getElem?_eq_getElem (by omega)] at t0 t1
        simp at t0 t1
        obtain ⟨s, e0, _, w0⟩ := DataW.trod_int Try.underlying22 t0
        obtain ⟨t, e1, _, w1⟩ := DataW.trod_int Try.underlying22 t1
        simp at e0 e1
        subst e0; subst e1
        obtain ⟨s, rfl, hs⟩ := u64_wf w0
        obtain ⟨t, rfl, ht'⟩ := u64_wf w1
        have g0 := hat 0 (by omega)
        have g1 := hat 1 (by omega)
        simp at g0 g1
        obtain ⟨b, o, spot⟩ := a
        have hspot : spot = none := by
          by_cases hi0 : i = 0
          · subst hi0
            simpa [Addr.add] using World.cell?_spot g0
          · obtain ⟨cs9, hc9, ht9⟩ := hcell 0 (by omega)
            rw [Try.cells40] at hc9
            obtain ⟨_, hlen9, hat9⟩ := World.cells?_some hc9
            have g9 := hat9 0 (by omega)
            rw [List.getElem?_eq_getElem (by omega)] at g9
            simpa [Addr.add] using World.cell?_spot g9
        subst hspot
        have hb := World.block_lt_of_cell? _ _ g1
        rw [Addr.add_lit, Addr.add_lit] at g1
        rw [Addr.add_lit] at g0
        refine ⟨(s, t), hs, ht', b, o, rfl, ?_, ?_, ?_⟩
        · simpa [Addr.add_lit] using hb
        · simpa [Addr.add_lit] using g0
        · simpa [Nat.add_assoc] using g1
    obtain ⟨F, hF⟩ := Classical.axiomOfChoice (r := fun (i : Nat) (x : Nat × Nat) => i < len → x.1 < 18446744073709551616 ∧ x.2 < 18446744073709551616 ∧ ∃ b o, (some a : Option Addr) = some ⟨b, o, none⟩ ∧ b < w.heap.size ∧ w.cell? ⟨b, o + i * 2, none⟩ = some (.int .u64 (x.1 : Int)) ∧ w.cell? ⟨b, o + i * 2 + 1, none⟩ = some (.int .u64 (x.2 : Int)))
      (fun i => by
        by_cases hi : i < len
        · obtain ⟨x, hx⟩ := one i hi
          exact ⟨x, fun _ => hx⟩
        · exact ⟨(0, 0), fun h => absurd h hi⟩)
    refine ⟨(List.range len).map F, by simp, by unfold maxLen at hm; omega, fun i x y hx => ?_⟩
    have hi : i < len := by
      obtain ⟨hil, _⟩ := List.getElem?_eq_some_iff.1 hx
      simpa using hil
    rw [List.getElem?_map, List.getElem?_range hi] at hx
    simp at hx
    have := hF i hi
    rw [hx] at this
    exact this
end Go.Proofs.Ythhddmamlpnjpaa
