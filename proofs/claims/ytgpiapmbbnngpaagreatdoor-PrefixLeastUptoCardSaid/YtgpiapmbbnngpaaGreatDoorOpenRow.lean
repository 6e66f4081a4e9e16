/- A slice that comes in, opened: its elements, its cells. Over any program. No condition of its own. -/
import Derived.Test.YtgpiapmbbnngpaaGreatDoorLibM
import Derived.OpenShut
import Derived.ChangeMaps5
import Derived.Deep.Slices
namespace Go.Proofs.YtgpiapmbbnngpaaGreatDoor
open Go.RowKit Go.Lib Go.ChangeShapes Go.WideShapes Go.Deep

theorem flat_at {α : Type} {f : α → List Value} {S : Nat} (hS : ∀ x, (f x).length = S) : ∀ {L : List α} {i c : Nat} {x : α}, L[i]? = some x → c < S → (L.flatMap f)[i * S + c]? = (f x)[c]?
  | [], i, c, x, h, _ => by simp at h
  | y :: r, 0, c, x, h, hc => by
    have h : y = x := by simpa using h
    subst h
    rw [List.flatMap_cons, List.getElem?_append_left (by rw [hS]; omega)]
    simp
  | y :: r, i + 1, c, x, h, hc => by
    have e : (i + 1) * S + c - S = i * S + c := by rw [Nat.add_mul]; omega
    rw [List.flatMap_cons, List.getElem?_append_right (by rw [hS, Nat.add_mul]; omega), hS, e]
    exact flat_at hS (by simpa using h) hc
theorem flat_len {α : Type} {f : α → List Value} {S : Nat} (hS : ∀ x, (f x).length = S) : ∀ L : List α, (L.flatMap f).length = L.length * S
  | [] => by simp
  | y :: r => by rw [List.flatMap_cons, List.length_append, hS, flat_len hS r, List.length_cons, Nat.add_mul]; omega
theorem open_row {P : Program} {H : Type} {enc : TypeId × Value → H} {w : World} {base : Nat} {spare : Nat → Bool} {held : Bool} {fuel : Nat} {a0 : Option Addr} {len cap : Nat} {y : DataW H × List MemPlace}
    {α : Type} {t e S : Nat} (hu : P.underlying t = some (.slice e)) (hc : P.cellsOf e = S) (hS : 0 < S) {f : α → List Value} (hf : ∀ x, (f x).length = S) {good : α → Prop}
    (dec : ∀ fuel cs y, DataW.trod enc P w base spare held fuel e cs = some y → ∃ x, good x ∧ cs = f x)
    (h : DataW.trod enc P w base spare held fuel t [.slice a0 len cap] = some y) :
    ∃ L : List α, L.length = len ∧ len ≤ cap ∧ cap ≤ 9223372036854775807 ∧ (∀ x ∈ L, good x) ∧ (0 < len → ∃ g o, a0 = some ⟨g, o, none⟩ ∧ g < w.heap.size ∧ ∀ (j : Nat) (u : Value), (L.flatMap f)[j]? = some u → w.cell? ⟨g, o + j, none⟩ = some u) := by
  rcases open_slice hu h with ⟨hcs, _⟩ | ⟨a, len', cap', m, n, D, Pl, hcs, _, hl, hm, hmm, _, hcell⟩
  · simp at hcs
    obtain ⟨rfl, rfl, rfl⟩ := hcs
    exact ⟨[], rfl, Nat.le_refl _, by omega, by simp, fun h => absurd h (Nat.lt_irrefl _)⟩
  · simp at hcs
    obtain ⟨rfl, rfl, rfl⟩ := hcs
    have hle : len ≤ m := by rw [hmm]; split <;> omega
    have one : ∀ i : Fin len, ∃ x : α, good x ∧ ∀ c, c < S → w.cell? ((a.add (i.1 * S)).add c) = (f x)[c]? := by
      intro i
      obtain ⟨cs', hcs', ht⟩ := hcell i.1 (by have := i.2; omega)
      rw [hc] at hcs'
      obtain ⟨_, _, hat⟩ := World.cells?_some hcs'
      obtain ⟨x, hx, rfl⟩ := dec _ _ _ ht
      exact ⟨x, hx, hat⟩
    refine ⟨List.ofFn fun i => (one i).choose, by simp, hl, by unfold maxLen at hm; omega, fun x hx => ?_, fun h0 => ?_⟩
    · rw [List.mem_ofFn] at hx
      obtain ⟨i, rfl⟩ := hx
      exact (one i).choose_spec.1
    · obtain ⟨b, o, spot⟩ := a
      have hat0 := (one ⟨0, h0⟩).choose_spec.2 0 hS
      rw [List.getElem?_eq_getElem (by rw [hf]; exact hS)] at hat0
      have hspot : spot = none := by simpa [Addr.add] using World.cell?_spot hat0
      subst hspot
      have hb := World.block_lt_of_cell? _ _ hat0
      refine ⟨b, o, rfl, by simpa [Addr.add] using hb, fun j u hu => ?_⟩
      have hjl := (List.getElem?_eq_some_iff.1 hu).1
      rw [flat_len hf, List.length_ofFn] at hjl
      have hi : j / S < len := Nat.div_lt_of_lt_mul (by rw [Nat.mul_comm]; exact hjl)
      have hj : j / S * S + j % S = j := by rw [Nat.mul_comm]; exact Nat.div_add_mod j S
      have hc2 : j % S < S := Nat.mod_lt _ hS
      have hat := (one ⟨j / S, hi⟩).choose_spec.2 (j % S) hc2
      have hget : (List.ofFn fun i => (one i).choose)[j / S]? = some (one ⟨j / S, hi⟩).choose := by rw [List.getElem?_ofFn]; simp [hi]
      have := flat_at hf hget hc2
      rw [hj] at this
      rw [this, ← hat] at hu
      rw [Addr.add_lit, Addr.add_lit] at hu
      rw [show o + j = o + j / S * S + j % S by omega]
      exact hu
end Go.Proofs.YtgpiapmbbnngpaaGreatDoor
