/- The package variables: from what a row lists to what the walks ask (Lan); a world for a witness. -/
import Derived.Test.YtgpiapmbbnngpaaGreatDoorPfxWb
import Derived.Test.YtgpiapmbbnngpaaGreatDoorRows
import Derived.Shelf.Vars
import Derived.Stop.LaidErr
import Derived.Lib.LaidTab
import Derived.LaidMore
import Derived.Lay
import Derived.LaidByTextLater
namespace Go.Proofs.YtgpiapmbbnngpaaGreatDoor
open Go.RowKit Go.Lib Go.Sort Go.ChangeShapes Go.WideShapes

theorem iface_head {P : Program} {W : World} {n nm : String} {d : DataW Unit} {r : List (String × DataW Unit)} {g ti : Nat} {ms : Array (String × TypeId)} (h : laidMet P ((n, .iface nm d) :: r) W) (hg : P.globalNamed n = some g) (ht : (P.globals[g]?).map (·.type) = some ti) (hi : P.underlying ti = some (.interface ms)) :
    ∃ te pe, W.cell? ⟨g, 0, none⟩ = some (.iface te pe) := by
  obtain ⟨ps, ⟨g0, t0, cs0, f0, p0, q0, hg0, ht0, hv0, hd0, _, e0⟩, _, hrows⟩ := h
  obtain rfl := Option.some.inj (hg.symm.trans hg0)
  obtain rfl := Option.some.inj (ht.symm.trans ht0)
  obtain ⟨l0⟩ := cs0
  obtain ⟨f1, u, v, e, _, _⟩ := iface_of_trod hi hd0
  refine ⟨u, v, ?_⟩
  simp only at e
  subst e
  simpa using World.var?_cell hg0 hv0 0

def laidL : List (String × DataW Unit) := Rows.prefixTreeRow.laid
def tab64 : List Int := [0, 1, 56, 2, 57, 49, 28, 3, 61, 58, 42, 50, 38, 29, 17, 4, 62, 47, 59, 36, 45, 43, 51, 22, 53, 39, 33, 30, 24, 18, 12, 5, 63, 55, 48, 27, 60, 41, 37, 16, 46, 35, 44, 21, 52, 32, 23, 11, 54, 26, 40, 15, 34, 20, 31, 10, 25, 14, 19, 9, 13, 8, 7, 6]
theorem g0_size : 0 < Tryz.prog.globals.size := of_decide_eq_true (by kernel_rfl)
theorem g7_size : 7 < Tryz.prog.globals.size := of_decide_eq_true (by kernel_rfl)
theorem zero7 : (((begin Tryz.prog (fun _ _ => 0) default).world.heap[7]?).bind Obj.row?).isSome = true := by kernel_rfl
theorem plain_laid : ∀ W : World, laidMetH Tryz.prog laidL W = laidMet Tryz.prog laidL W := fun W => MakeChecks.laidMetH_plain _ _ _ (by kernel_rfl)

set_option maxRecDepth 100000 in
theorem lan_of {W : World} (hL : laidMetH Tryz.prog laidL W) (hS : W.ShapedOpen Tryz.prog) : Lan W := by
  rw [plain_laid] at hL
  have t0 : laidMet Tryz.prog (("math/bits.deBruijn32tab", Rows.laid_math_bits_deBruijn32tab) :: ("math/bits.deBruijn64tab", Rows.laid_math_bits_deBruijn64tab) :: ("internal/strconv.uint64pow10", Rows.laid_internal_strconv_uint64pow10) :: ("unicode/utf8.acceptRanges", Rows.laid_unicode_utf8_acceptRanges) :: ("strconv.ErrRange", Rows.laid_strconv_ErrRange) :: ("strconv.ErrSyntax", Rows.laid_strconv_ErrSyntax) :: [("unicode/utf8.first", Rows.laid_unicode_utf8_first)]) W := hL
  have t1 := laidMet.tail t0
  have t2 := laidMet.tail t1
  have t3 := laidMet.tail t2
  have t4 := laidMet.tail t3
  have t5 := laidMet.tail t4
  have h7 : Lib.TabIs Tryz.prog W "math/bits.deBruijn64tab" .u8 tab64 :=
    Lib.tabIs_of_head (show Tryz.prog.globalNamed "math/bits.deBruijn64tab" = some 7 by kernel_rfl) (show (Tryz.prog.globals[7]?).map (·.type) = some 188 by kernel_rfl) Tryz.underlying188 Tryz.underlying5 (by kernel_rfl) (by kernel_rfl) t1
  have h3 : Lib.TabIs Tryz.prog W "internal/strconv.uint64pow10" .u64 Lib.pow10Tab :=
    Lib.tabIs_of_head (show Tryz.prog.globalNamed "internal/strconv.uint64pow10" = some 3 by kernel_rfl) (show (Tryz.prog.globals[3]?).map (·.type) = some 176 by kernel_rfl) Tryz.underlying176 Tryz.underlying71 (by kernel_rfl) (by kernel_rfl) t2
  obtain ⟨te2, pe2, h2⟩ := iface_head t4 (show Tryz.prog.globalNamed "strconv.ErrRange" = some 2 by kernel_rfl) (show (Tryz.prog.globals[2]?).map (·.type) = some 109 by kernel_rfl) Tryz.underlying109
  obtain ⟨te1, pe1, h1⟩ := iface_head t5 (show Tryz.prog.globalNamed "strconv.ErrSyntax" = some 1 by kernel_rfl) (show (Tryz.prog.globals[1]?).map (·.type) = some 109 by kernel_rfl) Tryz.underlying109
  have h0 := cell_of_shapedOpen_int (P := Tryz.prog) (g := 0) (t := 3) (zero := #[.int .i64 0]) hS g0_size (by kernel_rfl) rfl (by kernel_rfl) (by kernel_rfl) Tryz.underlying3
  have hlow : 8 ≤ W.heap.size := by
    obtain ⟨⟨z, t⟩, hz⟩ := Option.isSome_iff_exists.1 zero7
    obtain ⟨cs, hh, _⟩ := hS.1 7 z t g7_size hz
    have : 7 < W.heap.size := by
      rcases Nat.lt_or_ge 7 W.heap.size with h | h
      · exact h
      · rw [Array.getElem?_eq_none h] at hh; cases hh
    omega
  exact ⟨h0, ⟨_, h1, .inr ⟨_, _, rfl⟩⟩, ⟨_, h2, .inr ⟨_, _, rfl⟩⟩, h3, h7.cell (by kernel_rfl) 15 (by decide), hlow⟩

/-- A world for a witness: every listed variable as the row lists it. -/
noncomputable def laidWorld (os : Os) : World := World.laidAll Tryz.prog os laidL
theorem laid_met (os : Os) (args : Array Value) : laidMet Tryz.prog laidL ((laidWorld os).forCall (fun _ _ => 0) ⟨#[], args, []⟩).memory := laidMet_laidAll _ (by kernel_rfl) (by kernel_rfl)
end Go.Proofs.YtgpiapmbbnngpaaGreatDoor
