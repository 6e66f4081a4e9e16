/- slices.Delete at the link's rows, walked: what it returns and what it does to memory. -/
import Derived.Test.YtendgfbkbeapoaaLinkC
namespace Go.Proofs.Ytendgfbkbeapoaa
open Go.RowKit

/-- What Delete of the first k elements leaves. -/
def DelPost (xs : List Value) (k n : Nat) (v : Value) (w : World) (e : Ending) (w' : World) : Prop :=
  ∃ A' c', e = .returned (.slice A' (n - k) c') ∧ Own w' 52 2 (.slice A' (n - k) c') (n - k) (xs.drop (k * 2)) ∧ Chg v.ownBlock.toList w w' ∧ (Value.slice A' (n - k) c').ownBlock = v.ownBlock

set_option maxHeartbeats 400000 in
theorem delete_none (A : Option Addr) (n c : Nat) (xs : List Value) (w : World) (hown : Own w 52 2 (.slice A n c) n xs) :
    Calls Try.prog 20 #[.slice A n c, .int .i64 0, .int .i64 0] w (DelPost xs 0 n (.slice A n c) w) := by
  obtain ⟨_, _, hv, hnc, hcm⟩ := hown.form
  injection hv with e1 e2 e3
  subst e1; subst e3
  unfold maxLen at hcm
  by_cases hc0 : c = 0
  · subst hc0
    have hn0 : n = 0 := by omega
    subst hn0
    go_enter Try.func20, Try.ntmps20
    go_wp2
    go_ret
    exact ⟨A, 0, rfl, by simpa using hown, Chg.refl _ _, rfl⟩
  · go_enter Try.func20, Try.ntmps20
    go_wp2
    go_ret
    exact ⟨A, c, rfl, by simpa using hown, Chg.refl _ _, rfl⟩

theorem del_row {α : Type} (L xs Z : List α) (o k n : Nat) (hl : xs.length = n * 2) (hk : k ≤ n) (hL : o + n * 2 ≤ L.length) :
    ((splice (splice L (o + 0 * 2) (xs.drop (k * 2))) (o + (n - k) * 2) Z).drop o).take ((n - k) * 2) = xs.drop (k * 2) := by
  have hd : (xs.drop (k * 2)).length = (n - k) * 2 := by rw [List.length_drop]; omega
  have e1 : (splice (splice L (o + 0 * 2) (xs.drop (k * 2))) (o + (n - k) * 2) Z).take (o + (n - k) * 2) = L.take o ++ xs.drop (k * 2) := by
    unfold splice
    rw [List.take_append_of_le_length (by simp only [List.length_take, List.length_append, List.length_drop]; omega), List.take_take, Nat.min_self]
    rw [← List.append_assoc, List.take_append_of_le_length (by simp only [List.length_append, List.length_take, hd]; omega), List.take_of_length_le (by simp only [List.length_append, List.length_take, hd]; omega)]
    simp
  rw [List.take_drop, e1, List.drop_left' (by rw [List.length_take]; omega)]

set_option maxHeartbeats 400000 in
theorem delete_some (A : Option Addr) (n c k : Nat) (xs : List Value) (w : World) (hown : Own w 52 2 (.slice A n c) n xs) (h1 : ∀ v ∈ xs, v.oneCell' = true) (hk : 0 < k) (hkn : k ≤ n) :
    Calls Try.prog 20 #[.slice A n c, .int .i64 0, .int .i64 k] w (DelPost xs k n (.slice A n c) w) := by
  obtain ⟨i0, hi, hz0, hz1, hz2⟩ := info_parts Try.info52
  have H1 := hid h1
  clear h1
  rcases hown.2 with ⟨e0, rfl⟩ | ⟨g, o, c', L, e0, hg, hnc, hcm, hcL, hxs⟩
  · omega
  injection e0 with e1 e2 e3
  subst e1; subst e3
  have HL := hid hown.len
  have HX := hid hxs
  have HS := hid (show (Try.prog.info? 52).map (·.size) = some 2 by rw [hi]; simp [hz1])
  have HD := hid (show (xs.drop (k * 2)).length = (n - k) * 2 by rw [List.length_drop, HL.out]; omega)
  have HP := hid (show ∀ (v : Value), v ∈ (Value.agg #[Value.int .u64 0, Value.int .i64 0]).cells.toList → v.oneCell' = true by simp [Value.cells, Value.oneCell'])
  have b0 : ((0 : Int) == (k : Int)) = false := beq_eq_false_iff_ne.2 (by omega)
  have b1 : (k : Int) ≤ (n : Int) := by omega
  have b2 : (n : Int) ≤ (c : Int) := by omega
  have b3 : (0 : Int) ≤ (k : Int) := by omega
  have b4 : ¬ c = n - k := by omega
  have b5 : ¬ c = 0 := by omega
  have hcm' := hcm
  clear hxs
  unfold maxLen at hcm
  by_cases hck : c = k
  · have hn : n = k := by omega
    subst hn
    subst hck
    go_enter Try.func20, Try.ntmps20
    go_wp2
    go_region_law (refine step_append_room_blk _ rfl (.tmp 22) (.tmp 25) 47 rfl 52 2 Try.underlying47 HS.out g o 0 c (some ⟨g, o, none⟩) 0 0 (by simp [Act.eval, Act.put]) (by simp [Act.eval, Act.put]) L 52 hg (xs.drop (c * 2)) (by rw [HD.out]; omega) (fun h => by rw [HD.out] at h; omega) (fun v hv => H1.out v (List.mem_of_mem_drop hv)) (by omega) (by rw [HD.out]; omega) ?_; intro w1 hB1 hC1)
    go_wp2_with ((with_reducible refine at_clear_ ?_); (refine wpList_clear_blk _ rfl (.tmp 31) 47 rfl 52 i0 _ 2 Try.underlying47 hi hz0 rfl HP.out (by omega) g (o + 0 * 2) c c (by rfl) _ 52 hB1.out hk (by rw [splice_length _ _ _ (by rw [HD.out]; omega)]; omega) ?_; intro Z w2 hZ hB2 hC2))
    go_ret
    have z : c - c = 0 := Nat.sub_self c
    refine ⟨some ⟨g, o, none⟩, c, (by rw [z]; rfl), ⟨HD.out, .inr ⟨_, _, _, _, rfl, hB2.out, by omega, by unfold maxLen; exact hcm, ?_, ?_⟩⟩, ?_, rfl⟩
    · rw [splice_length _ _ _ (by rw [splice_length _ _ _ (by rw [HD.out]; omega), hZ]; omega), splice_length _ _ _ (by rw [HD.out]; omega)]
      exact hcL
    · have := del_row L xs Z o c c HL.out hkn (by omega)
      rw [z] at this ⊢
      exact this
    · exact (⟨hC1.os, hC1.tape, hC1.output, hC1.size, hC1.block⟩ : Chg [g] w w1).trans hC2
  · go_enter Try.func20, Try.ntmps20
    go_wp2
    go_region_law (refine step_append_room_blk _ rfl (.tmp 22) (.tmp 25) 47 rfl 52 2 Try.underlying47 HS.out g o 0 c (some ⟨g, o + k * 2, none⟩) (n - k) (c - k) (by simp [Act.eval, Act.put]) (by simp [Act.eval, Act.put]) L 52 hg (xs.drop (k * 2)) (by rw [HD.out]) (fun _ => ⟨_, rfl, hown.addsDrop (k * 2)⟩) (fun v hv => H1.out v (List.mem_of_mem_drop hv)) (by omega) (by rw [HD.out]; omega) ?_; intro w1 hB1 hC1)
    go_wp2_with ((with_reducible refine at_clear_ ?_); (refine wpList_clear_blk _ rfl (.tmp 31) 47 rfl 52 i0 _ 2 Try.underlying47 hi hz0 rfl HP.out (by omega) g (o + (n - k) * 2) k (c - (n - k)) (by simp [Act.eval]; omega) _ 52 hB1.out hk (by rw [splice_length _ _ _ (by rw [HD.out]; omega)]; omega) ?_; intro Z w2 hZ hB2 hC2))
    go_ret
    refine ⟨_, _, rfl, ⟨HD.out, .inr ⟨_, _, _, _, rfl, hB2.out, by omega, by unfold maxLen; exact hcm, ?_, ?_⟩⟩, ?_, rfl⟩
    · rw [splice_length _ _ _ (by rw [splice_length _ _ _ (by rw [HD.out]; omega), hZ]; omega), splice_length _ _ _ (by rw [HD.out]; omega)]
      exact hcL
    · exact del_row L xs Z o k n HL.out hkn (by omega)
    · exact (⟨hC1.os, hC1.tape, hC1.output, hC1.size, hC1.block⟩ : Chg [g] w w1).trans hC2

theorem delete_any (A : Option Addr) (n c k : Nat) (xs : List Value) (w : World) (hown : Own w 52 2 (.slice A n c) n xs) (h1 : ∀ v ∈ xs, v.oneCell' = true) (hkn : k ≤ n) :
    Calls Try.prog 20 #[.slice A n c, .int .i64 0, .int .i64 k] w (DelPost xs k n (.slice A n c) w) := by
  rcases Nat.eq_zero_or_pos k with rfl | h
  · exact delete_none A n c xs w hown
  · exact delete_some A n c k xs w hown h1 h hkn

theorem sc_one (ps : List (Int × Int)) : ∀ v ∈ sc ps, v.oneCell' = true := by
  intro v hv
  simp only [sc, List.mem_flatMap] at hv
  obtain ⟨p, _, hp⟩ := hv
  simp only [List.mem_cons, List.not_mem_nil, or_false] at hp
  rcases hp with rfl | rfl <;> rfl
theorem sc_append (ps qs : List (Int × Int)) : sc (ps ++ qs) = sc ps ++ sc qs := by simp [sc]
theorem sc_take (ps : List (Int × Int)) (k : Nat) : (sc ps).take (k * 2) = sc (ps.take k) := by
  induction ps generalizing k with
  | nil => simp [sc]
  | cons p r ih =>
    cases k with
    | zero => simp [sc]
    | succ k => rw [show (k + 1) * 2 = k * 2 + 2 by omega]; simp only [sc, List.flatMap_cons, List.take_succ_cons] at ih ⊢; simp [ih]
theorem sc_drop (ps : List (Int × Int)) (k : Nat) : (sc ps).drop (k * 2) = sc (ps.drop k) := by
  induction ps generalizing k with
  | nil => simp [sc]
  | cons p r ih =>
    cases k with
    | zero => simp [sc]
    | succ k => rw [show (k + 1) * 2 = k * 2 + 2 by omega]; simp only [sc, List.flatMap_cons, List.drop_succ_cons] at ih ⊢; simp [ih]
end Go.Proofs.Ytendgfbkbeapoaa
