/- Rows of prefixes, of addresses that come in, opened. -/
import Derived.Test.YtgpiapmbbnngpaaGreatDoorOpenRow
import Derived.Test.YtgpiapmbbnngpaaGreatDoorPfxOp
import Derived.Test.YtgpiapmbbnngpaaGreatDoorPfxSm
namespace Go.Proofs.YtgpiapmbbnngpaaGreatDoor
open Go.RowKit Go.Lib Go.ChangeShapes Go.WideShapes

section
variable {H : Type} {enc : TypeId × Value → H} {w : World} {base : Nat} {spare : Nat → Bool} {held : Bool}
/-- A prefix's numbers. -/
def goodP (p : RP) : Prop := p.2.1 < 2 ^ 128 ∧ -9223372036854775808 ≤ p.2.2 ∧ p.2.2 ≤ 9223372036854775807
set_option maxRecDepth 20000 in
theorem open_pfxs {v : Value} {d : DataW H} {p : List MemPlace} {b0 : Nat} (hv : Value.okWide Tryz.prog w .any b0 34 v) (h : DataW.Trod enc Tryz.prog w base spare held 34 v d p) :
    ∃ (A : Option Addr) (n c : Nat) (L : List RP), v = .slice A n c ∧ L.length = n ∧ n ≤ c ∧ n ≤ 9223372036854775807 ∧ (∀ q ∈ L, goodP q) ∧ Rd w 18 (.slice A n c) n (rowP L) := by
  obtain ⟨A, n, c, rfl⟩ := okWide_slice Tryz.underlying34 hv
  obtain ⟨fuel, hf⟩ := h
  obtain ⟨L, hl, hnc, hc, hg, hr⟩ := open_row (S := 18) Tryz.underlying34 cell29 (by decide) (f := RP.enc) (fun x => pfx_length _ _ _) (good := goodP) (fun fuel cs y hy => by
    obtain ⟨va, m, k, h1, h2, h3⟩ := trod_pfx hy
    exact ⟨(va, m, k), ⟨h1, h2.1, h2.2⟩, h3⟩) (by simpa [Value.cells] using hf)
  refine ⟨A, n, c, L, rfl, hl, hnc, by omega, hg, ?_, A, c, rfl, fun h0 => ?_⟩
  · show (L.flatMap RP.enc).length = _
    rw [flat_len (f := RP.enc) (S := 18) (fun x => pfx_length _ _ _), hl]
  · obtain ⟨g, o, ha, hlt, hx⟩ := hr h0
    exact ⟨g, o, ha, hlt, hx⟩
def goodA (p : Bool × Nat) : Prop := p.2 < 2 ^ 128
def encA (p : Bool × Nat) : List Value := adr p.1 p.2
set_option maxRecDepth 20000 in
theorem open_adrs {v : Value} {d : DataW H} {p : List MemPlace} {b0 : Nat} (hv : Value.okWide Tryz.prog w .any b0 51 v) (h : DataW.Trod enc Tryz.prog w base spare held 51 v d p) :
    ∃ (A : Option Addr) (n c : Nat) (L : List (Bool × Nat)), v = .slice A n c ∧ L.length = n ∧ n ≤ c ∧ n ≤ 9223372036854775807 ∧ (∀ q ∈ L, goodA q) ∧ Rd w 17 (.slice A n c) n (L.flatMap encA) := by
  obtain ⟨A, n, c, rfl⟩ := okWide_slice Tryz.underlying51 hv
  obtain ⟨fuel, hf⟩ := h
  obtain ⟨L, hl, hnc, hc, hg, hr⟩ := open_row (S := 17) Tryz.underlying51 cell24 (by decide) (f := encA) (fun x => adr_length _ _) (good := goodA) (fun fuel cs y hy => by
    obtain ⟨va, m, h1, h2⟩ := trod_adr hy
    exact ⟨(va, m), h1, h2⟩) (by simpa [Value.cells] using hf)
  refine ⟨A, n, c, L, rfl, hl, hnc, by omega, hg, ?_, A, c, rfl, fun h0 => ?_⟩
  · rw [flat_len (f := encA) (S := 17) (fun x => adr_length _ _), hl]
  · obtain ⟨g, o, ha, hlt, hx⟩ := hr h0
    exact ⟨g, o, ha, hlt, hx⟩
end
end Go.Proofs.YtgpiapmbbnngpaaGreatDoor
