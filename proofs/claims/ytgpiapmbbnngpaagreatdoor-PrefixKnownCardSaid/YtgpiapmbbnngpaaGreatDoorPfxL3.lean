/- slices.Clone at prefixes. -/
import Derived.Test.YtgpiapmbbnngpaaGreatDoorPfxL2
namespace Go.Proofs.YtgpiapmbbnngpaaGreatDoor
open Go.RowKit Go.Lib Go.Sort

/-- A row that came in. -/
def RowAt (w : World) (g o : Nat) (xs : List Value) : Prop := g < w.heap.size ∧ ∀ j u, xs[j]? = some u → w.cell? ⟨g, o + j, none⟩ = some u
theorem RowAt.chg {w w' : World} {S : List Nat} {g o : Nat} {xs : List Value} (h : RowAt w g o xs) (hc : Chg S w w') (hS : g ∉ S) : RowAt w' g o xs :=
  ⟨Nat.lt_of_lt_of_le h.1 hc.size, fun j u hu => (hc.cell (p := ⟨g, o + j, none⟩) h.1 hS).trans (h.2 j u hu)⟩
theorem Own.rowAt {w : World} {T : TypeId} {size n g o c : Nat} {xs : List Value} (h : Own w T size (.slice (some ⟨g, o, none⟩) n c) n xs) : RowAt w g o xs :=
  ⟨h.lt g rfl, fun _ _ hu => (h.cell hu).1⟩
theorem Tryz.info29 : (Tryz.prog.info? 29).map (fun i => (i.zero, i.size, i.bytes)) = some (some (.agg zpfx), 18, 32) := by kernel_rfl

theorem nil34 (A : Option Go.Addr) (n c : Nat) (w : World) : (binOp .eql 34 (.slice A n c) (.slice none 0 0)).run Tryz.prog w = .ok (.bool A.isNone) w := by
  cases A <;> kernel_rfl
attribute [local go_sem] nil34
set_option maxHeartbeats 4000000 in
set_option maxRecDepth 100000 in
theorem clone_X (xs : List PX) (g o n c : Nat) (w : World) (h : RowAt w g o (rowX xs)) (hl : xs.length = n) (hn : n ≤ 1000000000) :
    Calls Tryz.prog 50 #[.slice (some ⟨g, o, none⟩) n c] w fun e w' => ∃ g' o' c', e = .returned (.slice (some ⟨g', o', none⟩) n c') ∧ Acc w w' 29 18 (.slice (some ⟨g', o', none⟩) n c') n (rowX xs) := by
  obtain ⟨i0, hi, hz0, hz1, hz2⟩ := info_parts Tryz.info29
  have HR := hid h
  clear h
  have HN := hid (show (rowX xs).length = n * 18 by rw [rowX_len, hl])
  have HO := hid (show Own (w.alloc (.cells #[] 29)) 29 18 (.slice (some ⟨w.heap.size, 0, none⟩) 0 0) 0 [] from Own.made w 29 18 0 0 [] (Nat.le_refl _) (by unfold maxLen; omega) rfl)
  have HA := hid (show ∀ j u, (rowX xs)[j]? = some u → (w.alloc (.cells #[] 29)).cell? ((⟨g, o, none⟩ : Go.Addr).add j) = some u from fun j u hu => by
    rw [Lib.add_plain]
    exact (((Chg.refl [] w).alloc (.cells #[] 29)).cell (p := ⟨g, o + j, none⟩) HR.out.1 (by simp)).trans (HR.out.2 j u hu))
  have HF := hid (show ∀ A' c' w3, Own w3 29 18 (.slice A' (0 + n) c') (0 + n) ([] ++ rowX xs) → Chg (Value.slice (some ⟨w.heap.size, 0, none⟩) 0 0).ownBlock.toList (w.alloc (.cells #[] 29)) w3 →
      ((Value.slice A' (0 + n) c').ownBlock = (Value.slice (some ⟨w.heap.size, 0, none⟩) 0 0).ownBlock ∨ ∃ k, (Value.slice A' (0 + n) c').ownBlock = some k ∧ (w.alloc (.cells #[] 29)).heap.size ≤ k) →
      ∃ g' o' c'', Ending.returned (.slice A' (0 + n) c') = .returned (.slice (some ⟨g', o', none⟩) n c'') ∧ Acc w w3 29 18 (.slice (some ⟨g', o', none⟩) n c'') n (rowX xs) from fun A' c' w3 hO hC hb => by
    rw [Nat.zero_add, List.nil_append] at hO
    rw [Nat.zero_add] at hb ⊢
    have hA0 : Acc w (w.alloc (.cells #[] 29)) 29 18 (.slice (some ⟨w.heap.size, 0, none⟩) 0 0) 0 [] := ⟨HO.out, fun k hk => by simp [Value.ownBlock] at hk; omega, (Chg.refl [] w).alloc _⟩
    have hA1 := hA0.append hO hC hb
    rcases hO.2 with ⟨hv, hn0⟩ | ⟨g', o', c'', L, hv, _⟩
    · rcases hb with hb | ⟨k, hk, _⟩
      · rw [hv] at hb; simp [Value.ownBlock] at hb
      · rw [hv] at hk; simp [Value.ownBlock] at hk
    · rw [hv] at hA1 ⊢
      exact ⟨g', o', c'', rfl, hA1⟩)
  clear hl
  go_enter Tryz.func50, Tryz.ntmps50
  go_wp2_with ((with_reducible refine at_append_ ?_); (refine wpList_append_any _ rfl (.tmp 5) (.tmp 6) 34 rfl 29 i0 _ 18 32 Tryz.underlying34 hi hz0 hz1 hz2 rfl (by omega) (.slice (some ⟨w.heap.size, 0, none⟩) 0 0) 0 [] rfl HO.out ⟨g, o, none⟩ n c (rowX xs) rfl HN.out HA.out (rowX_ones xs) (by unfold maxLen; omega) (by omega) ?_); intro A' c' w3 hO3 hC3 hb3)
  go_ret
  have hfin := HF.out _ _ _ hO3 hC3 hb3
  rw [Nat.zero_add] at hfin
  exact hfin
theorem clone_nil (w : World) : Calls Tryz.prog 50 #[.slice none 0 0] w fun e w' => e = .returned (.slice none 0 0) ∧ w' = w := by
  go_enter Tryz.func50, Tryz.ntmps50
  go_wp2
  go_ret
  exact ⟨rfl, rfl⟩
end Go.Proofs.YtgpiapmbbnngpaaGreatDoor
