/- Rows of prefixes that may be, and their order. -/
import Derived.Test.YtgpiapmbbnngpaaGreatDoorPfxWg
import Derived.Test.YtgpiapmbbnngpaaGreatDoorPfxK
import Derived.Test.YtgpiapmbbnngpaaGreatDoorLibM
import Derived.Test.YtgpiapmbbnngpaaGreatDoorShelf2
namespace Go.Proofs.YtgpiapmbbnngpaaGreatDoor
open Go.RowKit Go.Lib Go.Sort

def PX.enc (x : PX) : List Value := pfx x.v x.n x.k
theorem PX.enc_len (x : PX) : x.enc.length = 18 := pfx_length _ _ _
theorem PX.enc_one (x : PX) : ∀ v ∈ x.enc, v.oneCell' = true := fun v hv => by
  unfold PX.enc pfx adr adrV at hv
  simp only [List.mem_append, List.mem_cons, List.mem_map, List.not_mem_nil, or_false] at hv
  rcases hv with (rfl | ⟨j, _, rfl⟩) | rfl <;> rfl
theorem swoX : SWO (ltOf cmpX) where
  irrefl x := by unfold ltOf; simp only [cmpX_lt, decide_eq_false_iff_not]; unfold ltX; simp
  trans x y z h1 h2 := by
    unfold ltOf at *; simp only [cmpX_lt, decide_eq_true_eq] at *; unfold ltX at *
    rcases h1 with ⟨a, b⟩ | ⟨a, b⟩ <;> rcases h2 with ⟨c, d⟩ | ⟨c, d⟩
    · rw [b] at c; cases c
    · left; exact ⟨a, by rw [← c]; exact b⟩
    · left; exact ⟨by rw [a]; exact c, d⟩
    · right; exact ⟨a.trans c, by omega⟩
  ntrans x y z h1 h2 := by
    unfold ltOf at *; simp only [cmpX_lt, decide_eq_false_iff_not] at *; unfold ltX at *
    cases hx : x.v <;> cases hy : y.v <;> cases hz : z.v <;> simp [hx, hy, hz] at * <;> omega

/-- The cells of a row of prefixes. -/
def rowX (xs : List PX) : List Value := xs.flatMap PX.enc
theorem rowX_nil : rowX [] = [] := rfl
theorem rowX_cons (x : PX) (xs : List PX) : rowX (x :: xs) = x.enc ++ rowX xs := rfl
theorem rowX_append (xs ys : List PX) : rowX (xs ++ ys) = rowX xs ++ rowX ys := by simp [rowX]
theorem rowX_len : ∀ xs : List PX, (rowX xs).length = xs.length * 18
  | [] => rfl
  | x :: xs => by rw [rowX_cons, List.length_append, PX.enc_len, rowX_len xs, List.length_cons]; omega
theorem rowX_get : ∀ (xs : List PX) (i : Nat) (x : PX) (c : Nat), xs[i]? = some x → c < 18 → (rowX xs)[i * 18 + c]? = x.enc[c]?
  | [], i, x, c, h, _ => by simp at h
  | y :: ys, 0, x, c, h, hc => by
    injection h with h
    subst h
    rw [rowX_cons, List.getElem?_append_left (by rw [PX.enc_len]; omega)]
    simp
  | y :: ys, i + 1, x, c, h, hc => by
    rw [rowX_cons, List.getElem?_append_right (by rw [PX.enc_len]; omega), PX.enc_len, show (i + 1) * 18 + c - 18 = i * 18 + c by omega]
    exact rowX_get ys i x c (by simpa using h) hc
theorem rowX_ones (xs : List PX) : ∀ v ∈ rowX xs, v.oneCell' = true := fun v hv => by
  unfold rowX at hv
  rw [List.mem_flatMap] at hv
  obtain ⟨x, _, hx⟩ := hv
  exact x.enc_one v hx
theorem flat_rowX (d : Array PX) : flatK PX.enc 18 d = (rowX d.toList).toArray := by
  apply Array.ext
  · simp [rowX_len]
  · intro t h1 h2
    have ht : t < d.size * 18 := by simpa using h1
    have hi : t / 18 < d.size := by omega
    have hg := rowX_get d.toList (t / 18) d[t / 18] (t % 18) (by simp [hi]) (by omega)
    rw [show t / 18 * 18 + t % 18 = t by omega] at hg
    have e1 := get_flatK PX.enc 18 d t ht
    rw [getElem!_pos _ t h1, getElem!_pos d _ hi] at e1
    rw [e1]
    have h2' : t < (rowX d.toList).length := by simpa using h2
    rw [List.getElem?_eq_getElem h2', List.getElem?_eq_getElem (by rw [PX.enc_len]; omega)] at hg
    injection hg with hg
    show _ = (rowX d.toList)[t]
    rw [hg]
    rw [getElem!_pos _ _ (by rw [PX.enc_len]; omega)]
theorem Own.holdsX {w : World} {g o n c : Nat} {xs : List PX} (h : Own w 29 18 (.slice (some ⟨g, o, none⟩) n c) n (rowX xs)) : HoldsK PX.enc 18 w g o xs.toArray := by
  intro j hj
  rw [flat_rowX] at hj ⊢
  have hj' : j < (rowX xs).length := by simpa using hj
  have hc := h.cell (a := ⟨g, o, none⟩) (List.getElem?_eq_getElem hj')
  rw [getElem!_pos _ j hj]
  exact ⟨by simpa using hc.1, hc.2.1⟩
theorem drop_putCells (L : List Value) (o : Nat) (F : Array Value) (h : o + F.size ≤ L.length) : (((putCells id o F L.toArray).toList).drop o).take F.size = F.toList := by
  apply List.ext_getElem?
  intro j
  by_cases hj : j < F.size
  · rw [List.getElem?_take_of_lt hj, List.getElem?_drop, Array.getElem?_toList]
    have : o + j < L.length := by omega
    simp [putCells, hj, this]
  · rw [List.getElem?_take_eq_none (by omega), List.getElem?_eq_none (by simp; omega)]
theorem Own.sortedX {w : World} {g o n c m : Nat} {os : Array Obj} {xs ys : List PX} (h : Own w 29 18 (.slice (some ⟨g, o, none⟩) n c) n (rowX xs)) (hl : ys.length = n) :
    Own (sortWorldK PX.enc 18 w g o m ys.toArray os) 29 18 (.slice (some ⟨g, o, none⟩) n c) n (rowX ys) := by
  rcases h.2 with ⟨h0, _⟩ | ⟨g', o', c', L, hv, hg, hn, hc, hL, _⟩
  · cases h0
  · injection hv with ha _ hcc
    injection ha with ha
    injection ha with h1 h2
    subst h1 h2 hcc
    have hb : w.heap[g]? = some (.cells L.toArray 29 (0, 0)) := hg
    have hlt : g < w.heap.size := hg.lt
    have hn18 : n * 18 ≤ c * 18 := Nat.mul_le_mul_right _ hn
    refine ⟨by rw [rowX_len, hl], .inr ⟨g, o, c, (putCells id o (flatK PX.enc 18 ys.toArray) L.toArray).toList, rfl, ?_, hn, hc, ?_, ?_⟩⟩
    · unfold Blk sortWorldK putRowK
      rw [heap_grow_old _ _ (by simp [putRow, mapBlock, Sort.ahead]; exact hlt)]
      simp [putRow, mapBlock, Sort.ahead, Array.getElem?_modify, hb, onCells]
    · simpa [putCells] using hL
    · have := drop_putCells L o (flatK PX.enc 18 ys.toArray) (by simp [hl]; omega)
      rw [size_flatK] at this
      simp only [List.size_toArray, hl] at this
      rw [this, flat_rowX]
theorem chg_sortedX {w : World} {g o m : Nat} {os : Array Obj} (d : Array PX) : Chg [g] w (sortWorldK PX.enc 18 w g o m d os) := by
  refine ⟨rfl, rfl, rfl, by simp [sortWorldK, putRowK, putRow, mapBlock, Sort.ahead, grow], fun k hk hne => ?_⟩
  unfold sortWorldK putRowK
  rw [heap_grow_old _ _ (by simp [putRow, mapBlock, Sort.ahead]; exact hk)]
  have : g ≠ k := fun e => hne (by rw [e]; simp)
  simp [putRow, mapBlock, Sort.ahead, Array.getElem?_modify, this]
end Go.Proofs.YtgpiapmbbnngpaaGreatDoor
