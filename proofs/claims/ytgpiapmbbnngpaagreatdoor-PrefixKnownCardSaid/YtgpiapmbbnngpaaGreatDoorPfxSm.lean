/- Rows that are handed in: what is read of them. -/
import Derived.Test.YtgpiapmbbnngpaaGreatDoorPfxMx
import Derived.Test.YtgpiapmbbnngpaaGreatDoorSxM
namespace Go.Proofs.YtgpiapmbbnngpaaGreatDoor
open Go.RowKit Go.Lib Go.Sort

/-- A slice whose cells are there to be read. -/
def Rd (w : World) (size : Nat) (s : Value) (n : Nat) (xs : List Value) : Prop :=
  xs.length = n * size ∧ ∃ A c, s = .slice A n c ∧ (0 < n → ∃ g o, A = some ⟨g, o, none⟩ ∧ RowAt w g o xs)
theorem Rd.of_own {w : World} {T size n : Nat} {s : Value} {xs : List Value} (h : Own w T size s n xs) : Rd w size s n xs := by
  refine ⟨h.len, ?_⟩
  obtain ⟨A, c, rfl, _, _⟩ := h.form
  refine ⟨A, c, rfl, fun h0 => ?_⟩
  obtain ⟨g, o, c', hv, _, _, hg⟩ := h.some_ h0
  injection hv with h1 _ _
  subst h1
  exact ⟨g, o, rfl, hg, fun j u hu => (Own.cell h hu).1⟩
theorem Rd.chg {w w' : World} {size n : Nat} {s : Value} {xs : List Value} (h : Rd w size s n xs) (hc : Chg [] w w') : Rd w' size s n xs := by
  obtain ⟨h1, A, c, h2, h3⟩ := h
  refine ⟨h1, A, c, h2, fun h0 => ?_⟩
  obtain ⟨g, o, ha, hr⟩ := h3 h0
  exact ⟨g, o, ha, hr.chg hc (by simp)⟩
set_option maxRecDepth 100000 in
/-- An element of such a row: where it lies, what is read there. -/
theorem Rd.at {w : World} {s : Value} {n : Nat} {L : List PX} (h : Rd w 18 s n (rowX L)) {i : Nat} {x : PX} (hx : L[i]? = some x) (hn : L.length = n) :
    ∃ p, (∀ W, Chg [] w W → (Instr.indexAt 34 s (.int .i64 (i : Int))).run Tryz.prog W = .ok p W) ∧ ∀ W, Chg [] w W → (Instr.loadAt 29 p).run Tryz.prog W = .ok (.agg (pfx x.v x.n x.k).toArray) W := by
  obtain ⟨_, A, c, rfl, h3⟩ := h
  have hi : i < n := by rw [← hn]; exact (List.getElem?_eq_some_iff.1 hx).1
  obtain ⟨g, o, rfl, hr⟩ := h3 (by omega)
  refine ⟨.pointer (some ⟨g, o + i * 18, none⟩), fun W hW => ?_, fun W hW => ?_⟩
  · have hb : (0 : Int) ≤ (i : Int) ∧ (i : Int) < (n : Int) := by omega
    have hs : (Tryz.prog.info? 29).map (·.size) = some 18 := size29
    cases hq : Tryz.prog.info? 29 with
    | none => rw [hq] at hs; cases hs
    | some inf =>
      rw [hq] at hs
      have hs : inf.size = 18 := by simpa using hs
      simp [Instr.indexAt, run_underlying Tryz.underlying34, asIntOf, hi, sizeOf, typeInfo, hq, hs, Addr.add_lit]
  · have hr' := hr.chg hW (by simp)
    have := hr'.atX hx
    have hrow : (Tryz.prog.info? 29).map (·.size) = some (pfx x.v x.n x.k).length := size29.trans (by rw [pfx_length])
    exact run_loadAt_mid (P := Tryz.prog) W g (o + i * 18) 29 (pfx x.v x.n x.k) _ this Tryz.underlying29 rfl hrow
set_option maxRecDepth 100000 in
/-- The same, of raw prefixes: where it lies, what is read there. -/
theorem Rd.atP {w : World} {s : Value} {n : Nat} {L : List RP} (h : Rd w 18 s n (rowP L)) {i : Nat} {x : RP} (hx : L[i]? = some x) (hn : L.length = n) :
    ∃ p, (∀ W, Chg [] w W → (Instr.indexAt 34 s (.int .i64 (i : Int))).run Tryz.prog W = .ok p W) ∧ ∀ W, Chg [] w W → (Instr.loadAt 29 p).run Tryz.prog W = .ok (.agg (pfx x.1 x.2.1 x.2.2).toArray) W := by
  obtain ⟨_, A, c, rfl, h3⟩ := h
  have hi : i < n := by rw [← hn]; exact (List.getElem?_eq_some_iff.1 hx).1
  obtain ⟨g, o, rfl, hr⟩ := h3 (by omega)
  refine ⟨.pointer (some ⟨g, o + i * 18, none⟩), fun W hW => ?_, fun W hW => ?_⟩
  · have hb : (0 : Int) ≤ (i : Int) ∧ (i : Int) < (n : Int) := by omega
    have hs : (Tryz.prog.info? 29).map (·.size) = some 18 := size29
    cases hq : Tryz.prog.info? 29 with
    | none => rw [hq] at hs; cases hs
    | some inf =>
      rw [hq] at hs
      have hs : inf.size = 18 := by simpa using hs
      simp [Instr.indexAt, run_underlying Tryz.underlying34, asIntOf, hi, sizeOf, typeInfo, hq, hs, Addr.add_lit]
  · have hr' := hr.chg hW (by simp)
    have := hr'.at hx
    have hrow : (Tryz.prog.info? 29).map (·.size) = some (pfx x.1 x.2.1 x.2.2).length := size29.trans (by rw [pfx_length])
    exact run_loadAt_mid (P := Tryz.prog) W g (o + i * 18) 29 (pfx x.1 x.2.1 x.2.2) _ this Tryz.underlying29 rfl hrow
end Go.Proofs.YtgpiapmbbnngpaaGreatDoor
