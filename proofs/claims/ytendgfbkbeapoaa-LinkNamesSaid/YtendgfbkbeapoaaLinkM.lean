/- The statements' arguments, opened: how a row of steps that came in lies in memory. -/
import Derived.Test.YtendgfbkbeapoaaLinkL
import Derived.ProofKit
import Derived.OpenShut
import Derived.Deep.Slices
import Derived.Deep.Strs
namespace Go.Proofs.Ytendgfbkbeapoaa
open Go.ChangeShapes Go.WideShapes Go.ChangeAt Go.RowKit Go.Deep

theorem own : ownKnob Try.prog.godebug = none := by kernel_rfl
theorem laidOut : laidOutB Try.prog = true := by kernel_rfl
theorem Try.cells35 : Try.prog.cellsOf 35 = 3 := by kernel_rfl
theorem Try.cells3 : Try.prog.cellsOf 3 = 1 := by kernel_rfl
theorem Try.cells4 : Try.prog.cellsOf 4 = 1 := by kernel_rfl
theorem Try.cells22 : Try.prog.cellsOf 22 = 1 := by kernel_rfl

theorem u64_wf {n : Int} (h : (Lit.int .u64 n).wf = true) : 0 ≤ n ∧ n ≤ 18446744073709551615 := by
  have h1 : IntKind.u64.min = 0 := rfl
  have h2 : IntKind.u64.max = 18446744073709551615 := rfl
  simp only [Lit.wf, Bool.and_eq_true, decide_eq_true_eq] at h
  omega

theorem open_steps {H : Type} {enc : TypeId × Value → H} {w : World} {base : Nat} {spare : Nat → Bool} {held : Bool} {fuel : Nat} {a0 : Option Addr} {len cap : Nat} {x : DataW H × List MemPlace}
    (h : DataW.trod enc Try.prog w base spare held fuel 23 [.slice a0 len cap] = some x) : ∃ xs : List (Bool × Int × Int), xs.length = len ∧ len ≤ 9223372036854775807 ∧ StepsAt w a0 xs := by
  rcases open_slice Try.underlying23 h with ⟨hcs, _⟩ | ⟨a, len', cap', m, n, D, Pl, hcs, _, hl, hm, hmm, _, hcell⟩
  · simp at hcs
    obtain ⟨rfl, rfl, rfl⟩ := hcs
    exact ⟨[], rfl, by omega, fun i x hx => by simp at hx⟩
  · simp at hcs
    obtain ⟨rfl, rfl, rfl⟩ := hcs
    have hle : len ≤ m := by rw [hmm]; split <;> omega
    have one : ∀ i, i < len → ∃ x : Bool × Int × Int, ∃ b o, (some a : Option Addr) = some ⟨b, o, none⟩ ∧ b < w.heap.size ∧ w.cell? ⟨b, o + i * 3, none⟩ = some (.bool x.1) ∧ w.cell? ⟨b, o + i * 3 + 1, none⟩ = some (.int .u64 x.2.1) ∧ w.cell? ⟨b, o + i * 3 + 2, none⟩ = some (.int .i64 x.2.2) ∧ 0 ≤ x.2.1 := by
      intro i hi
      obtain ⟨cs', hc, ht⟩ := hcell i (by omega)
      rw [Try.cells35] at hc
      obtain ⟨_, hlen, hat⟩ := World.cells?_some hc
      obtain ⟨y0, y1, y2, n', _, hcl, t0, t1, t2⟩ := trod_struct3 Try.underlying35 ht
      match cs', hlen with
      | [c0, c1, c2], _ =>
        simp only [Try.cells3, Try.cells4, Try.cells22] at t0 t1 t2
        obtain ⟨s, e0, _⟩ := DataW.trod_bool Try.underlying4 t0
        obtain ⟨t, e1, _, w1⟩ := DataW.trod_int Try.underlying22 t1
        obtain ⟨u, e2, _, _⟩ := DataW.trod_int Try.underlying3 t2
        simp at e0 e1 e2
        subst e0; subst e1; subst e2
        have g0 := hat 0 (by omega)
        have g1 := hat 1 (by omega)
        have g2 := hat 2 (by omega)
        simp at g0 g1 g2
        obtain ⟨b, o, spot⟩ := a
        have hspot : spot = none := by
          by_cases hi0 : i = 0
          · subst hi0
            simpa [Addr.add] using World.cell?_spot g0
          · have hgl := hat 0 (by omega)
            have h9 := hcell 0 (by omega)
            obtain ⟨cs9, hc9, ht9⟩ := h9
            rw [Try.cells35] at hc9
            obtain ⟨_, hlen9, hat9⟩ := World.cells?_some hc9
            have g9 := hat9 0 (by omega)
            rw [List.getElem?_eq_getElem (by omega)] at g9
            simpa [Addr.add] using World.cell?_spot g9
        subst hspot
        have hb := World.block_lt_of_cell? _ _ g1
        rw [Addr.add_lit, Addr.add_lit] at g1 g2
        rw [Addr.add_lit] at g0
        refine ⟨(s, t, u), b, o, rfl, ?_, ?_, ?_, ?_, (u64_wf w1).1⟩
        · simpa [Addr.add_lit] using hb
        · simpa [Addr.add_lit] using g0
        · simpa [Nat.add_assoc] using g1
        · simpa [Nat.add_assoc] using g2
    obtain ⟨F, hF⟩ := Classical.axiomOfChoice (r := fun (i : Nat) (x : Bool × Int × Int) => i < len → ∃ b o, (some a : Option Addr) = some ⟨b, o, none⟩ ∧ b < w.heap.size ∧ w.cell? ⟨b, o + i * 3, none⟩ = some (.bool x.1) ∧ w.cell? ⟨b, o + i * 3 + 1, none⟩ = some (.int .u64 x.2.1) ∧ w.cell? ⟨b, o + i * 3 + 2, none⟩ = some (.int .i64 x.2.2) ∧ 0 ≤ x.2.1)
      (fun i => by
        by_cases hi : i < len
        · obtain ⟨x, hx⟩ := one i hi
          exact ⟨x, fun _ => hx⟩
        · exact ⟨(false, 0, 0), fun h => absurd h hi⟩)
    refine ⟨(List.range len).map F, by simp, by unfold maxLen at hm; omega, fun i x hx => ?_⟩
    have hi : i < len := by
      obtain ⟨hil, _⟩ := List.getElem?_eq_some_iff.1 hx
      simpa using hil
    rw [List.getElem?_map, List.getElem?_range hi] at hx
    simp at hx
    subst hx
    exact hF i hi
end Go.Proofs.Ytendgfbkbeapoaa
