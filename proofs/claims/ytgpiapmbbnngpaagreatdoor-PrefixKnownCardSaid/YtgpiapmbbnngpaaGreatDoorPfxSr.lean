/- The reference's ReadAddr, walked by reckoning. -/
import Derived.Test.YtgpiapmbbnngpaaGreatDoorPfxSx
import Derived.Test.YtgpiapmbbnngpaaGreatDoorSxM
import Derived.Test.YtgpiapmbbnngpaaGreatDoorPfxWe
namespace Go.Proofs.YtgpiapmbbnngpaaGreatDoor
open Go.RowKit Go.Lib Go.Sort

theorem four_bd : ∀ (s : List UInt8) (k n : Nat) (b : Bool) (f : Nat → Nat), (∀ j, f j < 256) → ∀ j, (fourF s k n b f).1 j < 256 := by
  have hu : ∀ (f : Nat → Nat) (k n : Nat), (∀ j, f j < 256) → n < 256 → ∀ j, upd f k n j < 256 := fun f k n hf hn j => by
    unfold upd; split
    · exact hn
    · exact hf j
  intro s
  induction s with
  | nil =>
    intro k n b f hf j
    rw [fourF]
    split
    · exact hf j
    · exact hu f k n hf (by omega) j
  | cons c l ih =>
    intro k n b f hf j
    rw [fourF]
    split
    · split
      · exact hf j
      · exact ih _ _ _ _ (hu f k n hf (by omega)) j
    · split
      · exact hf j
      · exact ih _ _ _ _ hf j
theorem six_bd (s : List UInt8) (j : Nat) : (sixF s).1 j < 256 := by
  have hl : ∀ (l : List Nat) (f : Nat → Nat) (k : Nat), (∀ u ∈ l, u < 65536) → (∀ j, f j < 256) → ∀ j, layF f k l j < 256 := by
    intro l f k hl hf j
    rw [layF_at]
    split
    · rename_i u hu
      have := hl u (List.mem_of_getElem? hu)
      split
      · split
        · exact Nat.div_lt_of_lt_mul (by omega)
        · exact Nat.mod_lt _ (by decide)
      · exact hf j
    · exact hf j
  unfold sixF sixG
  split
  · rename_i a b ha hb
    split
    · show 0 < 256; omega
    · exact hl _ _ _ (numsF_bd hb).1 (hl _ _ _ (numsF_bd ha).1 fun _ => by show 0 < 256; omega) j
  · show 0 < 256; omega
theorem err_ne (v : Bool) (n : Nat) : Value.bool (errA v n != 0) = .bool (!okA v n) := by
  unfold errA
  cases okA v n <;> rfl
def zadV : Value := .agg (adr false 0).toArray
set_option maxRecDepth 100000 in
/-- What ReadAddr comes to, by what the readers come to. -/
theorem rra_gen (s : List UInt8) (w : World) (v : Bool) (n : Nat) (hn : n < 2 ^ 128) (R : Value)
    (H : (v = false ∧ ∀ W, Calls Tryz.prog 45 #[.string ⟨s.toArray⟩] W fun e w' => e = .returned (.tuple #[.agg (adr v n).toArray, .bool true]) ∧ Chg [] W w') ∨
      (v = true ∧ ∃ f b, (∀ W, Calls Tryz.prog 45 #[.string ⟨s.toArray⟩] W fun e w' => e = .returned (.tuple #[.agg (adrV false f).toArray, .bool false]) ∧ Chg [] W w') ∧ (∀ W, Calls Tryz.prog 46 #[.string ⟨s.toArray⟩] W fun e w' => e = .returned (.tuple #[.agg (adr v n).toArray, .bool b]) ∧ Chg [] W w') ∧ (b = false → R = .tuple #[zadV, .int .i64 150])))
    (h1 : IsA s v n → R = .tuple #[.agg (adr v n).toArray, .int .i64 0]) (h2 : ¬ IsA s v n → R = .tuple #[zadV, .int .i64 150]) :
    Calls Tryz.prog 11 #[.string ⟨s.toArray⟩] w fun e w' => e = .returned R ∧ Chg [] w w' := by
  have c22 := fun W (_ : Chg [] w W) => raddrText_N v n hn W
  rcases H with ⟨_, H⟩ | ⟨_, f, b, H4, H6, hb⟩
  · have c10 := fun W (_ : Chg [] w W) => H W
    cases hok : okA v n with
    | false =>
      have c29 : Value.bool (errA v n != 0) = .bool true := by rw [err_ne, hok]; rfl
      have z0 : Value.tuple #[zadV, .int .i64 150] = R := (h2 fun h => by rw [h.2.1] at hok; cases hok).symm
      refine Sx.calls_is (args := [.string ⟨s.toArray⟩]) [(10, .call (.tuple #[.agg (adr v n).toArray, .bool true])), (22, .call (.tuple #[.string ⟨(atxt v n).toArray⟩, .int .i64 (errA v n)])), (29, .is (.bool true))] [] (by kernel_rfl) Tryz.func11 rfl (Nat.le_of_ble_eq_true rfl) ?_
      exact Eq.mp (by kernel_rfl) (And.intro c10 (And.intro c22 (And.intro c29 z0)))
    | true =>
      have c29 : Value.bool (errA v n != 0) = .bool false := by rw [err_ne, hok]; rfl
      have hat : atxt v n = textA v n := by unfold atxt; rw [hok]; rfl
      by_cases he : atxt v n = s
      · have c34 := strNeq (.tmp 32) (.tmp 33) (atxt v n) s (r := false) (by simpa using he)
        have z0 : Value.tuple #[.agg (adr v n).toArray, .int .i64 0] = R := (h1 ⟨hn, hok, by rw [← hat]; exact he⟩).symm
        refine Sx.calls_is (args := [.string ⟨s.toArray⟩]) [(10, .call (.tuple #[.agg (adr v n).toArray, .bool true])), (22, .call (.tuple #[.string ⟨(atxt v n).toArray⟩, .int .i64 (errA v n)])), (29, .is (.bool false)), (34, .bin (.bool false))] [] (by kernel_rfl) Tryz.func11 rfl (Nat.le_of_ble_eq_true rfl) ?_
        exact Eq.mp (by kernel_rfl) (And.intro c10 (And.intro c22 (And.intro c29 (And.intro c34 z0))))
      · have c34 := strNeq (.tmp 32) (.tmp 33) (atxt v n) s (r := true) (by simpa using he)
        have z0 : Value.tuple #[zadV, .int .i64 150] = R := (h2 fun h => he (by rw [hat]; exact h.2.2)).symm
        refine Sx.calls_is (args := [.string ⟨s.toArray⟩]) [(10, .call (.tuple #[.agg (adr v n).toArray, .bool true])), (22, .call (.tuple #[.string ⟨(atxt v n).toArray⟩, .int .i64 (errA v n)])), (29, .is (.bool false)), (34, .bin (.bool true))] [] (by kernel_rfl) Tryz.func11 rfl (Nat.le_of_ble_eq_true rfl) ?_
        exact Eq.mp (by kernel_rfl) (And.intro c10 (And.intro c22 (And.intro c29 (And.intro c34 z0))))
  · have c10 := fun W (_ : Chg [] w W) => H4 W
    have c17 := fun W (_ : Chg [] w W) => H6 W
    cases b with
    | false =>
      have z0 : Value.tuple #[zadV, .int .i64 150] = R := (hb rfl).symm
      refine Sx.calls_is (args := [.string ⟨s.toArray⟩]) [(10, .call (.tuple #[.agg (adrV false f).toArray, .bool false])), (17, .call (.tuple #[.agg (adr v n).toArray, .bool false])), (22, .call (.tuple #[.string ⟨(atxt v n).toArray⟩, .int .i64 (errA v n)]))] [] (by kernel_rfl) Tryz.func11 rfl (Nat.le_of_ble_eq_true rfl) ?_
      exact Eq.mp (by kernel_rfl) (And.intro c10 (And.intro c17 (And.intro c22 z0)))
    | true =>
      cases hok : okA v n with
      | false =>
        have c29 : Value.bool (errA v n != 0) = .bool true := by rw [err_ne, hok]; rfl
        have z0 : Value.tuple #[zadV, .int .i64 150] = R := (h2 fun h => by rw [h.2.1] at hok; cases hok).symm
        refine Sx.calls_is (args := [.string ⟨s.toArray⟩]) [(10, .call (.tuple #[.agg (adrV false f).toArray, .bool false])), (17, .call (.tuple #[.agg (adr v n).toArray, .bool true])), (22, .call (.tuple #[.string ⟨(atxt v n).toArray⟩, .int .i64 (errA v n)])), (29, .is (.bool true))] [] (by kernel_rfl) Tryz.func11 rfl (Nat.le_of_ble_eq_true rfl) ?_
        exact Eq.mp (by kernel_rfl) (And.intro c10 (And.intro c17 (And.intro c22 (And.intro c29 z0))))
      | true =>
        have c29 : Value.bool (errA v n != 0) = .bool false := by rw [err_ne, hok]; rfl
        have hat : atxt v n = textA v n := by unfold atxt; rw [hok]; rfl
        by_cases he : atxt v n = s
        · have c34 := strNeq (.tmp 32) (.tmp 33) (atxt v n) s (r := false) (by simpa using he)
          have z0 : Value.tuple #[.agg (adr v n).toArray, .int .i64 0] = R := (h1 ⟨hn, hok, by rw [← hat]; exact he⟩).symm
          refine Sx.calls_is (args := [.string ⟨s.toArray⟩]) [(10, .call (.tuple #[.agg (adrV false f).toArray, .bool false])), (17, .call (.tuple #[.agg (adr v n).toArray, .bool true])), (22, .call (.tuple #[.string ⟨(atxt v n).toArray⟩, .int .i64 (errA v n)])), (29, .is (.bool false)), (34, .bin (.bool false))] [] (by kernel_rfl) Tryz.func11 rfl (Nat.le_of_ble_eq_true rfl) ?_
          exact Eq.mp (by kernel_rfl) (And.intro c10 (And.intro c17 (And.intro c22 (And.intro c29 (And.intro c34 z0)))))
        · have c34 := strNeq (.tmp 32) (.tmp 33) (atxt v n) s (r := true) (by simpa using he)
          have z0 : Value.tuple #[zadV, .int .i64 150] = R := (h2 fun h => he (by rw [hat]; exact h.2.2)).symm
          refine Sx.calls_is (args := [.string ⟨s.toArray⟩]) [(10, .call (.tuple #[.agg (adrV false f).toArray, .bool false])), (17, .call (.tuple #[.agg (adr v n).toArray, .bool true])), (22, .call (.tuple #[.string ⟨(atxt v n).toArray⟩, .int .i64 (errA v n)])), (29, .is (.bool false)), (34, .bin (.bool true))] [] (by kernel_rfl) Tryz.func11 rfl (Nat.le_of_ble_eq_true rfl) ?_
          exact Eq.mp (by kernel_rfl) (And.intro c10 (And.intro c17 (And.intro c22 (And.intro c29 (And.intro c34 z0)))))
/-- ReadAddr of a text: the address whose text it is, or the refusal. -/
theorem rreadAddr_is {s : List UInt8} {v : Bool} {n : Nat} (h : IsA s v n) (hs : s.length ≤ 100000000) (w : World) : Calls Tryz.prog 11 #[.string ⟨s.toArray⟩] w fun e w' => e = .returned (.tuple #[.agg (adr v n).toArray, .int .i64 0]) ∧ Chg [] w w' := by
  refine rra_gen s w v n h.1 _ ?_ (fun _ => rfl) (fun h' => absurd h h')
  cases v with
  | false =>
    refine .inl ⟨rfl, fun W => ?_⟩
    have := four_N s hs W
    have ht : s = text4 n := h.2.2.symm
    rw [ht, four_text] at this
    rw [ht]
    have e : adrV false (four4 n) = adr false n := adrV_ext false fun j hj => by
      have h0 := (okA4 h.1).1 h.2.1 j
      unfold four4 upd
      split
      · rename_i hh; rw [hh]
      · split
        · rename_i hh; rw [hh]
        · split
          · rename_i hh; rw [hh]
          · split
            · rename_i hh; rw [hh]
            · exact (h0 (by omega) hj).symm
    unfold fourV at this
    simp only at this
    rwa [e] at this
  | true =>
    have ht : s = text6 (grps n) := h.2.2.symm
    have h4 : (fourF s 0 0 false fun _ => 0).2 = false := four_colon s 0 0 false _ (by rw [ht]; exact colon_grps n)
    obtain ⟨h6, h7⟩ := six_text n
    refine .inr ⟨rfl, (fourF s 0 0 false fun _ => 0).1, true, fun W => ?_, fun W => ?_, by intro h; cases h⟩
    · have := four_N s hs W
      unfold fourV at this
      rwa [h4] at this
    · have := six_N s hs W
      unfold sixV at this
      rw [ht, h6, adrV_ext true h7] at this
      rw [ht]
      exact this
theorem rreadAddr_no {s : List UInt8} (h : ∀ v n, ¬ IsA s v n) (hs : s.length ≤ 100000000) (w : World) : Calls Tryz.prog 11 #[.string ⟨s.toArray⟩] w fun e w' => e = .returned (.tuple #[zadV, .int .i64 150]) ∧ Chg [] w w' := by
  cases h4 : (fourF s 0 0 false fun _ => 0).2 with
  | true =>
    obtain ⟨n, hn, ha, _⟩ := adr_of false _ (four_bd s 0 0 false (fun _ => 0) fun _ => by show 0 < 256; omega)
    refine rra_gen s w false n hn _ (.inl ⟨rfl, fun W => ?_⟩) (fun h' => absurd h' (h _ _)) (fun _ => rfl)
    have := four_N s hs W
    unfold fourV at this
    rwa [h4, ha] at this
  | false =>
    obtain ⟨n, hn, ha, _⟩ := adr_of true _ (six_bd s)
    refine rra_gen s w true n hn _ (.inr ⟨rfl, (fourF s 0 0 false fun _ => 0).1, (sixF s).2, fun W => ?_, fun W => ?_, fun _ => rfl⟩) (fun h' => absurd h' (h _ _)) (fun _ => rfl)
    · have := four_N s hs W
      unfold fourV at this
      rwa [h4] at this
    · have := six_N s hs W
      unfold sixV at this
      rwa [ha] at this
end Go.Proofs.YtgpiapmbbnngpaaGreatDoor
