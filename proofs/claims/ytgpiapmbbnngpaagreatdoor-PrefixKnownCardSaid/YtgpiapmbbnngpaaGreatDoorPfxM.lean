/- Merge: what it does, in plain words; its state in memory. -/
import Derived.Test.YtgpiapmbbnngpaaGreatDoorPfxL3
import Derived.Test.YtgpiapmbbnngpaaGreatDoorPfxPl
namespace Go.Proofs.YtgpiapmbbnngpaaGreatDoor
open Go.RowKit Go.Lib Go.Sort

theorem whoX_some (x y : PX) : (whoP x.v x.n x.k y.v y.n y.k).2 = (whoX x y).isSome := by
  unfold whoX
  by_cases h0 : x.k = 0
  · rw [dif_neg (by omega)]
    unfold whoP
    rw [if_pos (by omega)]
    rfl
  · split
    · rename_i h; rw [h.2]; rfl
    · rename_i h
      have : ¬ (whoP x.v x.n x.k y.v y.n y.k).2 = true := fun hh => h ⟨by omega, hh⟩
      simpa using this
/-- Merge's memory: the sorted row, and the list that it makes (the stack's top is the list's last). -/
structure MS (w0 w : World) (gi oi : Nat) (ys : List PX) (A : Option Go.Addr) (c : Nat) (st : List PX) : Prop where
  inr : RowAt w gi oi (rowX ys)
  out : Acc w0 w 29 18 (.slice A st.length c) st.length (rowX st.reverse)
  ne : (Value.slice A st.length c).ownBlock ≠ some gi
theorem MS.later {w0 w w' : World} {gi oi : Nat} {ys : List PX} {A : Option Go.Addr} {c : Nat} {st : List PX} (h : MS w0 w gi oi ys A c st) (hc : Chg [] w w') : MS w0 w' gi oi ys A c st :=
  ⟨h.inr.chg hc (by simp), h.out.later hc, h.ne⟩
theorem MS.lt {w0 w : World} {gi oi : Nat} {ys : List PX} {A : Option Go.Addr} {c : Nat} {st : List PX} (h : MS w0 w gi oi ys A c st) : ∀ g, (Value.slice A st.length c).ownBlock = some g → g < w.heap.size := h.out.own.lt
/-- Behind an append. -/
theorem MS.append {w0 w w' : World} {gi oi : Nat} {ys : List PX} {A A' : Option Go.Addr} {c c' : Nat} {st : List PX} {p : PX} (h : MS w0 w gi oi ys A c st)
    (ho : Own w' 29 18 (.slice A' (st.length + 1) c') (st.length + 1) (rowX st.reverse ++ p.enc)) (hc : Chg (Value.slice A st.length c).ownBlock.toList w w')
    (hb : (Value.slice A' (st.length + 1) c').ownBlock = (Value.slice A st.length c).ownBlock ∨ ∃ k, (Value.slice A' (st.length + 1) c').ownBlock = some k ∧ w.heap.size ≤ k) : MS w0 w' gi oi ys A' c' (p :: st) := by
  refine ⟨h.inr.chg hc ?_, ?_, ?_⟩
  · intro hm
    exact h.ne (by simpa using hm)
  · have := h.out.append ho hc hb
    simpa [rowX_append, rowX] using this
  · rw [List.length_cons]
    rcases hb with hb | ⟨k, hk, hk2⟩
    · rw [hb]; exact h.ne
    · rw [hk]
      intro he
      injection he with he
      have := h.inr.1
      omega
/-- A shorter list. -/
theorem Own.takeX {w : World} {A : Option Go.Addr} {n c m : Nat} {xs ys : List PX} (h : Own w 29 18 (.slice A n c) n (rowX (xs ++ ys))) (hm : xs.length = m) (hp : 0 < m) : Own w 29 18 (.slice A m c) m (rowX xs) := by
  rcases h.2 with ⟨h0, hn⟩ | ⟨g, o, c', L, hv, hg, hn, hc, hL, hx⟩
  · have := h.len
    rw [rowX_len, List.length_append] at this
    omega
  · have hlen := h.len
    rw [rowX_len, List.length_append] at hlen
    injection hv with hA _ hcc
    subst hA hcc
    refine ⟨by rw [rowX_len, hm], .inr ⟨g, o, c, L, rfl, hg, by omega, hc, hL, ?_⟩⟩
    have hx2 := congrArg (List.take (m * 18)) hx
    rw [List.take_take, Nat.min_eq_left (by omega)] at hx2
    exact hx2.trans (by rw [rowX_append, List.take_append_of_le_length (by rw [rowX_len]; omega), List.take_of_length_le (by rw [rowX_len]; omega)])
end Go.Proofs.YtgpiapmbbnngpaaGreatDoor
