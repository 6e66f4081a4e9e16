/- Arguments opened: an address, a prefix, two numbers, rows of them. -/
import Derived.Test.YtgpiapmbbnngpaaGreatDoorPfxWa
import Derived.OpenShut
import Derived.ChangeMaps5
namespace Go.Proofs.YtgpiapmbbnngpaaGreatDoor
open Go.RowKit Go.Lib Go.ChangeShapes Go.WideShapes

section
variable {H : Type} {enc : TypeId × Value → H} {w : World} {base : Nat} {spare : Nat → Bool} {held : Bool} {fuel : Nat} {cs : List Value} {y : DataW H × List MemPlace}

theorem cell5 : Tryz.prog.cellsOf 5 = 1 := by kernel_rfl
theorem cell4 : Tryz.prog.cellsOf 4 = 1 := by kernel_rfl
theorem cell3 : Tryz.prog.cellsOf 3 = 1 := by kernel_rfl
theorem cell22 : Tryz.prog.cellsOf 22 = 16 := by kernel_rfl
theorem cell24 : Tryz.prog.cellsOf 24 = 17 := by kernel_rfl
theorem cell29 : Tryz.prog.cellsOf 29 = 18 := by kernel_rfl
theorem cell40 : Tryz.prog.cellsOf 40 = 2 := by kernel_rfl
theorem wf_i64 {k : Int} (h : (Lit.int .i64 k).wf = true) : -9223372036854775808 ≤ k ∧ k ≤ 9223372036854775807 := by
  simpa [Lit.wf, IntKind.min, IntKind.max, IntKind.signed, IntKind.bits] using h
theorem wf_u8 {k : Int} (h : (Lit.int .u8 k).wf = true) : ∃ m : Nat, k = m ∧ m < 256 := by
  have : 0 ≤ k ∧ k ≤ 255 := by simpa [Lit.wf, IntKind.min, IntKind.max, IntKind.signed, IntKind.bits] using h
  exact ⟨k.toNat, by omega, by omega⟩

theorem trod_i64 (h : DataW.trod enc Tryz.prog w base spare held fuel 3 cs = some y) : ∃ k, cs = [.int .i64 k] ∧ -9223372036854775808 ≤ k ∧ k ≤ 9223372036854775807 := by
  obtain ⟨k, e, _, hw⟩ := DataW.trod_int Tryz.underlying3 h
  exact ⟨k, e, wf_i64 hw⟩
/-- The bytes of an address. -/
theorem trod_bytes (h : DataW.trod enc Tryz.prog w base spare held fuel 22 cs = some y) : ∃ f : Nat → Nat, (∀ i, f i < 256) ∧ cs = (List.range 16).map fun j => .int .u8 (f j : Int) := by
  obtain ⟨xs, m, _, _, hl, hx, hf⟩ := DataW.trod_array Tryz.underlying22 h
  rw [cell22] at hl
  rw [cell5] at hf
  have hc : ∀ i, i < 16 → ∃ m : Nat, m < 256 ∧ cs[i]? = some (.int .u8 (m : Int)) := fun i hi => by
    have hfi := hf i hi
    obtain ⟨z, hz⟩ : ∃ z, xs[i]? = some z := ⟨_, List.getElem?_eq_getElem (by omega)⟩
    rw [hz] at hfi
    obtain ⟨k, e, _, hw⟩ := DataW.trod_int Tryz.underlying5 hfi
    obtain ⟨m, rfl, hm⟩ := wf_u8 hw
    refine ⟨m, hm, ?_⟩
    have := congrArg (fun l => l[0]?) e
    simpa [List.getElem?_take, List.getElem?_drop] using this
  refine ⟨fun i => if h : i < 16 then (hc i h).choose else 0, fun i => ?_, ?_⟩
  · by_cases h : i < 16
    · simp only [dif_pos h]; exact (hc i h).choose_spec.1
    · simp only [dif_neg h]; omega
  · apply List.ext_getElem?
    intro i
    by_cases h : i < 16
    · rw [(hc i h).choose_spec.2]
      simp [h]
    · rw [List.getElem?_eq_none (by omega), List.getElem?_eq_none (by simp; omega)]
set_option maxRecDepth 20000 in
theorem trod_adr (h : DataW.trod enc Tryz.prog w base spare held fuel 24 cs = some y) : ∃ v n, n < 2 ^ 128 ∧ cs = adr v n := by
  obtain ⟨xs, m, _, _, hl, hx, hf⟩ := DataW.trod_struct Tryz.underlying24 h
  rw [cell24] at hl
  have h0 : DataW.trod enc Tryz.prog w base spare held m 4 ((cs.drop 0).take (Tryz.prog.cellsOf 4)) = xs[0]? := hf 0 _ rfl
  have h1 : DataW.trod enc Tryz.prog w base spare held m 22 ((cs.drop 1).take (Tryz.prog.cellsOf 22)) = xs[1]? := hf 1 _ rfl
  rw [cell4] at h0
  rw [cell22] at h1
  obtain ⟨z0, hz0⟩ : ∃ z, xs[0]? = some z := ⟨_, List.getElem?_eq_getElem (by rw [hx]; decide)⟩
  obtain ⟨z1, hz1⟩ : ∃ z, xs[1]? = some z := ⟨_, List.getElem?_eq_getElem (by rw [hx]; decide)⟩
  rw [hz0] at h0
  rw [hz1] at h1
  obtain ⟨v, e0, _⟩ := DataW.trod_bool Tryz.underlying4 h0
  obtain ⟨f, hf256, e1⟩ := trod_bytes h1
  obtain ⟨n, hn, hb⟩ := bytes_num f hf256
  refine ⟨v, n, hn, ?_⟩
  match cs, hl with
  | c :: r, hl =>
    simp at e0 hl
    subst e0
    rw [List.drop_one, List.tail_cons, List.take_of_length_le (by omega)] at e1
    rw [e1]
    unfold adr adrV
    congr 1
    apply List.map_congr_left
    intro j hj
    rw [hb j (by simpa using hj)]
set_option maxRecDepth 20000 in
theorem trod_pfx (h : DataW.trod enc Tryz.prog w base spare held fuel 29 cs = some y) : ∃ v n k, n < 2 ^ 128 ∧ (-9223372036854775808 ≤ k ∧ k ≤ 9223372036854775807) ∧ cs = pfx v n k := by
  obtain ⟨xs, m, _, _, hl, hx, hf⟩ := DataW.trod_struct Tryz.underlying29 h
  rw [cell29] at hl
  have h0 : DataW.trod enc Tryz.prog w base spare held m 24 ((cs.drop 0).take (Tryz.prog.cellsOf 24)) = xs[0]? := hf 0 _ rfl
  have h1 : DataW.trod enc Tryz.prog w base spare held m 3 ((cs.drop 17).take (Tryz.prog.cellsOf 3)) = xs[1]? := hf 1 _ rfl
  rw [cell24] at h0
  rw [cell3] at h1
  obtain ⟨z0, hz0⟩ : ∃ z, xs[0]? = some z := ⟨_, List.getElem?_eq_getElem (by rw [hx]; decide)⟩
  obtain ⟨z1, hz1⟩ : ∃ z, xs[1]? = some z := ⟨_, List.getElem?_eq_getElem (by rw [hx]; decide)⟩
  rw [hz0] at h0
  rw [hz1] at h1
  obtain ⟨v, n, hn, e0⟩ := trod_adr h0
  obtain ⟨k, e1, hk⟩ := trod_i64 h1
  refine ⟨v, n, k, hn, hk, ?_⟩
  rw [List.drop_zero] at e0
  rw [List.take_of_length_le (by simp; omega)] at e1
  rw [← List.take_append_drop 17 cs, e0, e1]
  rfl
theorem trod_two (h : DataW.trod enc Tryz.prog w base spare held fuel 40 cs = some y) : ∃ i j, (-9223372036854775808 ≤ i ∧ i ≤ 9223372036854775807) ∧ (-9223372036854775808 ≤ j ∧ j ≤ 9223372036854775807) ∧ cs = [.int .i64 i, .int .i64 j] := by
  obtain ⟨xs, m, _, _, hl, hx, hf⟩ := DataW.trod_array Tryz.underlying40 h
  rw [cell40] at hl
  rw [cell3] at hf
  have h0 := hf 0 (by omega)
  have h1 := hf 1 (by omega)
  obtain ⟨z0, hz0⟩ : ∃ z, xs[0]? = some z := ⟨_, List.getElem?_eq_getElem (by omega)⟩
  obtain ⟨z1, hz1⟩ : ∃ z, xs[1]? = some z := ⟨_, List.getElem?_eq_getElem (by omega)⟩
  rw [hz0] at h0
  rw [hz1] at h1
  obtain ⟨i, e0, hi⟩ := trod_i64 h0
  obtain ⟨j, e1, hj⟩ := trod_i64 h1
  refine ⟨i, j, hi, hj, ?_⟩
  match cs, hl with
  | [c, d], _ => simp at e0 e1; rw [e0, e1]

set_option maxRecDepth 20000 in
theorem agg_of {t : TypeId} {v : Value} {b0 : Nat} (ht : (∃ fs, Tryz.prog.underlying t = some (.struct fs)) ∨ ∃ n e, Tryz.prog.underlying t = some (.array n e)) (hv : Value.okWide Tryz.prog w .any b0 t v) : ∃ cs : Array Value, v = .agg cs := by
  rcases ht with ⟨fs, ht⟩ | ⟨n, e, ht⟩
  · obtain ⟨cs, h, _⟩ := okWide_struct ht hv
    exact ⟨cs, h⟩
  · simp only [Value.okWide, ht] at hv
    obtain ⟨cs, h, _⟩ := hv
    exact ⟨cs, h⟩
set_option maxRecDepth 20000 in
theorem open_adr {v : Value} {d : DataW H} {p : List MemPlace} {b0 : Nat} (hv : Value.okWide Tryz.prog w .any b0 24 v) (h : DataW.Trod enc Tryz.prog w base spare held 24 v d p) : ∃ va n, n < 2 ^ 128 ∧ v = .agg (adr va n).toArray := by
  obtain ⟨cs, rfl⟩ := agg_of (.inl ⟨_, Tryz.underlying24⟩) hv
  obtain ⟨fuel, hf⟩ := h
  obtain ⟨va, n, hn, e⟩ := trod_adr hf
  exact ⟨va, n, hn, by rw [← e]; simp [Value.cells]⟩
set_option maxRecDepth 20000 in
theorem open_pfx {v : Value} {d : DataW H} {p : List MemPlace} {b0 : Nat} (hv : Value.okWide Tryz.prog w .any b0 29 v) (h : DataW.Trod enc Tryz.prog w base spare held 29 v d p) : ∃ va n k, n < 2 ^ 128 ∧ (-9223372036854775808 ≤ k ∧ k ≤ 9223372036854775807) ∧ v = .agg (pfx va n k).toArray := by
  obtain ⟨cs, rfl⟩ := agg_of (.inl ⟨_, Tryz.underlying29⟩) hv
  obtain ⟨fuel, hf⟩ := h
  obtain ⟨va, n, k, hn, hk, e⟩ := trod_pfx hf
  exact ⟨va, n, k, hn, hk, by rw [← e]; simp [Value.cells]⟩
set_option maxRecDepth 20000 in
theorem open_two {v : Value} {d : DataW H} {p : List MemPlace} {b0 : Nat} (hv : Value.okWide Tryz.prog w .any b0 40 v) (h : DataW.Trod enc Tryz.prog w base spare held 40 v d p) : ∃ i j, (-9223372036854775808 ≤ i ∧ i ≤ 9223372036854775807) ∧ (-9223372036854775808 ≤ j ∧ j ≤ 9223372036854775807) ∧ v = .agg #[.int .i64 i, .int .i64 j] := by
  obtain ⟨cs, rfl⟩ := agg_of (.inr ⟨_, _, Tryz.underlying40⟩) hv
  obtain ⟨fuel, hf⟩ := h
  obtain ⟨i, j, hi, hj, e⟩ := trod_two hf
  refine ⟨i, j, hi, hj, ?_⟩
  have : cs = #[.int .i64 i, .int .i64 j] := by
    have e2 : cs.toList = [.int .i64 i, .int .i64 j] := by simpa [Value.cells] using e
    rw [← Array.toList_inj, e2]
  rw [this]
end
end Go.Proofs.YtgpiapmbbnngpaaGreatDoor
