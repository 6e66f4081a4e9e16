/- What works() asks, in plain words. -/
import Derived.Test.YtgpiapmbbnngpaaGreatDoorPfxWe
import Derived.Test.YtgpiapmbbnngpaaGreatDoorPfxPl
namespace Go.Proofs.YtgpiapmbbnngpaaGreatDoor

theorem digs_16 {u : Nat} (h : u < 16) : digs 16 u = [sig u] := digs_small h
def nA : Nat := 13371593262715796496893050085393563648
theorem testA : okP false (10 * 2 ^ 120 + 128 * 2 ^ 112) 9 = true := by decide +kernel
theorem testB : okP false (10 * 2 ^ 120) 9 = true := by decide +kernel
def wA : PX := ⟨false, 10 * 2 ^ 120 + 128 * 2 ^ 112, 9, testA, by decide +kernel⟩
def wB : PX := ⟨false, 10 * 2 ^ 120, 9, testB, by decide +kernel⟩
def wC : PX := ⟨false, 10 * 2 ^ 120, 8, by decide +kernel, by decide +kernel⟩
theorem works_merge : mergeR [wA, wB] = [wC] := by decide +kernel


theorem digs_10a {u : Nat} (h : u < 10) : digs 10 u = [sig u] := digs_small h
theorem digs_128 : digs 10 128 = [49, 50, 56] := by
  rw [digs_big (by omega) (by omega), digs_big (by omega) (by omega), digs_10a (by omega)]; rfl
theorem digs_tenX : digs 10 10 = [49, 48] := by
  rw [digs_big (by omega) (by omega), digs_10a (by omega)]; rfl
theorem isP_A : IsP [49, 48, 46, 49, 50, 56, 46, 48, 46, 48, 47, 57] false wA.n wA.k := by
  refine ⟨wA.lt, wA.ok, ?_⟩
  have e0 : byteAt wA.n 0 = 10 := by decide +kernel
  have e1 : byteAt wA.n 1 = 128 := by decide +kernel
  have e2 : byteAt wA.n 2 = 0 := by decide +kernel
  have e3 : byteAt wA.n 3 = 0 := by decide +kernel
  unfold textP textA text4
  rw [e0, e1, e2, e3, digs_tenX, digs_128, digs_10a (u := 0) (by omega), show ((wA.k : Int)).toNat = 9 from rfl, digs_10a (u := 9) (by omega)]
  rfl
theorem isP_B : IsP [49, 48, 46, 48, 46, 48, 46, 48, 47, 57] false wB.n wB.k := by
  refine ⟨wB.lt, wB.ok, ?_⟩
  have e0 : byteAt wB.n 0 = 10 := by decide +kernel
  have e1 : byteAt wB.n 1 = 0 := by decide +kernel
  have e2 : byteAt wB.n 2 = 0 := by decide +kernel
  have e3 : byteAt wB.n 3 = 0 := by decide +kernel
  unfold textP textA text4
  rw [e0, e1, e2, e3, digs_tenX, digs_10a (u := 0) (by omega), show ((wB.k : Int)).toNat = 9 from rfl, digs_10a (u := 9) (by omega)]
  rfl
def wX : Nat := 2 ^ 112 + 2 * 2 ^ 64 + 3 * 2 ^ 16 + 4
def wS : List UInt8 := [49, 58, 58, 50, 58, 48, 58, 48, 58, 51, 58, 52]
theorem okA_X : okA true wX = true := by decide +kernel
theorem text_X : textA true wX = wS := by
  have e : grps wX = [1, 0, 0, 2, 0, 0, 3, 4] := by decide +kernel
  unfold textA
  rw [if_pos rfl, e]
  have g : gapN (zs [1, 0, 0, 2, 0, 0, 3, 4]) = (1, 3) := by decide +kernel
  unfold text6
  rw [g]
  unfold joinD
  simp only [List.take, List.drop, List.map]
  rw [digs_16 (u := 1) (by omega), digs_16 (u := 2) (by omega), digs_16 (u := 0) (by omega), digs_16 (u := 3) (by omega), digs_16 (u := 4) (by omega)]
  rfl
theorem isA_X : IsA wS true wX := ⟨by decide +kernel, okA_X, text_X⟩
end Go.Proofs.YtgpiapmbbnngpaaGreatDoor
