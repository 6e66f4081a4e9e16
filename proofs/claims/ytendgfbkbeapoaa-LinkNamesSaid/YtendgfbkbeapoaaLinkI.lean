/- sameInts, walked; and the plain law: the program's order and the reference's belong together behind each Send and each Come. -/
import Derived.Test.YtendgfbkbeapoaaLinkH
namespace Go.Proofs.Ytendgfbkbeapoaa
open Go.RowKit

theorem ints_get (xs : List Int) (i : Nat) (x : Int) (h : xs[i]? = some x) : (ints xs)[i]? = some (.int .i64 x) := by simp [ints, h]

set_option maxHeartbeats 400000 in
theorem same_eq (A B : Option Addr) (c d : Nat) (xs : List Int) (w : World) (ha : Own w 3 1 (.slice A xs.length c) xs.length (ints xs)) (hb : Own w 3 1 (.slice B xs.length d) xs.length (ints xs)) (hl : xs.length ≤ 1000000) :
    Calls Try.prog 13 #[.slice A xs.length c, .slice B xs.length d] w fun e w' => e = .returned (.bool true) ∧ Drawn w w' := by
  go_enter Try.func13, Try.ntmps13
  go_wp2
  go_loopw [5] (fun i wr => ∃ k : Nat, k ≤ xs.length ∧ i = .int .i64 k ∧ Drawn w wr) (fun i _ => xs.length - (intOf i).toNat)
  case atStart => exact ⟨0, Nat.zero_le _, rfl, 0, rfl⟩
  case round =>
    obtain ⟨k, hk, rfl, hd⟩ := hrel
    by_cases hlt : k < xs.length
    · obtain ⟨m, rfl⟩ := hd
      obtain ⟨g1, o1, c1, hv, _, _, _⟩ := ha.some_ (by omega)
      injection hv with hA1 _ hc1
      subst hA1; subst hc1
      obtain ⟨g2, o2, c2, hv, _, _, _⟩ := hb.some_ (by omega)
      injection hv with hA2 _ hc2
      subst hA2; subst hc2
      have hp : xs[k]? = some xs[k] := List.getElem?_eq_getElem hlt
      obtain ⟨p, hpp⟩ : ∃ p, p = xs[k] := ⟨_, rfl⟩
      rw [← hpp] at hp
      clear hpp
      have q1 : (w.drewN m).cell? ⟨g1, o1 + k, none⟩ = some (.int .i64 p) := (ha.cell (ints_get xs k p hp)).1
      have q2 : (w.drewN m).cell? ⟨g2, o2 + k, none⟩ = some (.int .i64 p) := (hb.cell (ints_get xs k p hp)).1
      obtain ⟨W, hW⟩ : ∃ W, W = w.drewN m := ⟨_, rfl⟩
      rw [← hW] at q1 q2 ⊢
      have HW := hid hW
      clear hW hp
      have k0 : (0 : Int) ≤ (k : Int) := by omega
      have k1 : (k : Int) < (xs.length : Int) := by omega
      go_wp2
      go_quiet (fail)
      go_wp2
      go_roundw
      case rel => exact ⟨k + 1, by omega, by go_num, m + nq, by rw [HW.out, World.drewN_drewN]⟩
      case measure => simp [intOf]; omega
    · obtain rfl : k = xs.length := by omega
      go_wp2
      go_ret
      exact ⟨rfl, hd⟩

theorem tickIs_iff (t : Int) (q : Int × Int) : tickIs t q = true ↔ q.1 = t := by simp [tickIs]
theorem tickIs_not (t : Int) (q : Int × Int) : tickIs t q = false ↔ q.1 ≠ t := by simp [tickIs]

/-- The program's order ps and the order of sending qs belong together: ps rises, and of each tick both hold the same, in the same order. -/
structure Rel (ps qs : List (Int × Int)) : Prop where
  rise : Rise ps
  same : ∀ t, ps.filter (tickIs t) = qs.filter (tickIs t)
  len : ps.length = qs.length

theorem Rel.nil : Rel [] [] := ⟨fun i j p q _ h => by simp at h, fun _ => rfl, rfl⟩

theorem mem_get {α : Type} {l : List α} {x : α} (h : x ∈ l) : ∃ i : Nat, l[i]? = some x := List.mem_iff_getElem?.1 h

theorem rise_mem {p : Int × Int} {r : List (Int × Int)} (h : Rise (p :: r)) {x : Int × Int} (hx : x ∈ p :: r) : p.1 ≤ x.1 := by
  obtain ⟨i, hi⟩ := mem_get hx
  exact h 0 i p x (Nat.zero_le _) rfl hi

theorem rise_tail {p : Int × Int} {r : List (Int × Int)} (h : Rise (p :: r)) : Rise r := fun i j x y hij hx hy => h (i + 1) (j + 1) x y (by omega) (by simpa using hx) (by simpa using hy)

theorem rel_mem {ps qs : List (Int × Int)} (h : Rel ps qs) (x : Int × Int) : x ∈ ps ↔ x ∈ qs := by
  have e := h.same x.1
  constructor
  · intro hx
    have : x ∈ ps.filter (tickIs x.1) := List.mem_filter.2 ⟨hx, (tickIs_iff _ _).2 rfl⟩
    rw [e] at this
    exact (List.mem_filter.1 this).1
  · intro hx
    have : x ∈ qs.filter (tickIs x.1) := List.mem_filter.2 ⟨hx, (tickIs_iff _ _).2 rfl⟩
    rw [← e] at this
    exact (List.mem_filter.1 this).1

theorem fold_le (r : List (Int × Int)) : ∀ m : Int, r.foldl (fun m x => if x.1 < m then x.1 else m) m ≤ m ∧ ∀ x ∈ r, r.foldl (fun m x => if x.1 < m then x.1 else m) m ≤ x.1 := by
  induction r with
  | nil => intro m; exact ⟨Int.le_refl _, by simp⟩
  | cons a r ih =>
    intro m
    simp only [List.foldl_cons]
    by_cases h : a.1 < m
    · rw [if_pos h]
      obtain ⟨h1, h2⟩ := ih a.1
      refine ⟨by omega, fun x hx => ?_⟩
      rcases List.mem_cons.1 hx with rfl | hx
      · exact h1
      · exact h2 x hx
    · rw [if_neg h]
      obtain ⟨h1, h2⟩ := ih m
      refine ⟨h1, fun x hx => ?_⟩
      rcases List.mem_cons.1 hx with rfl | hx
      · omega
      · exact h2 x hx
theorem least_le (qs : List (Int × Int)) : ∀ x ∈ qs, least qs ≤ x.1 := by
  cases qs with
  | nil => simp
  | cons q r =>
    intro x hx
    obtain ⟨h1, h2⟩ := fold_le r q.1
    rcases List.mem_cons.1 hx with rfl | hx
    · exact h1
    · exact h2 x hx

theorem rel_least {p : Int × Int} {r qs : List (Int × Int)} (h : Rel (p :: r) qs) : least qs = p.1 := by
  have h1 : least qs ≤ p.1 := least_le qs p ((rel_mem h p).1 (by simp))
  cases qs with
  | nil => have := h.len; simp at this
  | cons q s =>
    obtain ⟨x, hx, he⟩ := least_mem q s
    have := rise_mem h.rise ((rel_mem h x).2 hx)
    omega

theorem filter_none {t : Int} {l : List (Int × Int)} (h : ∀ x ∈ l, x.1 ≠ t) : l.filter (tickIs t) = [] := by
  rw [List.filter_eq_nil_iff]
  intro x hx
  simpa [tickIs] using h x hx

theorem rise_ins {ps : List (Int × Int)} {t n : Int} {k : Nat} (h : Rise ps) (hk : CntLe ps t k) : Rise (ps.take k ++ (t, n) :: ps.drop k) := by
  obtain ⟨hk0, hk1, hk2⟩ := hk
  have hl : (ps.take k).length = k := by rw [List.length_take]; omega
  have get : ∀ i x, (ps.take k ++ (t, n) :: ps.drop k)[i]? = some x → (i < k ∧ ps[i]? = some x) ∨ (i = k ∧ x = (t, n)) ∨ (k < i ∧ ps[i - 1]? = some x) := by
    intro i x hx
    rcases Nat.lt_trichotomy i k with h1 | h1 | h1
    · rw [List.getElem?_append_left (by omega), List.getElem?_take, if_pos h1] at hx
      exact .inl ⟨h1, hx⟩
    · subst h1
      rw [List.getElem?_append_right (by omega), hl, Nat.sub_self] at hx
      simp at hx
      exact .inr (.inl ⟨rfl, hx.symm⟩)
    · rw [List.getElem?_append_right (by omega), hl, show i - k = (i - k - 1) + 1 by omega, List.getElem?_cons_succ, List.getElem?_drop] at hx
      exact .inr (.inr ⟨h1, by rw [← hx]; congr 1; omega⟩)
  intro i j p q hij hp hq
  rcases get i p hp with ⟨h1, e1⟩ | ⟨h1, rfl⟩ | ⟨h1, e1⟩ <;> rcases get j q hq with ⟨h2, e2⟩ | ⟨h2, rfl⟩ | ⟨h2, e2⟩
  · exact h i j p q hij e1 e2
  · exact hk1 i p h1 e1
  · exact h i (j - 1) p q (by omega) e1 e2
  · omega
  · exact Int.le_refl _
  · have := hk2 (j - 1) q (by omega) e2
    show t ≤ q.1
    omega
  · omega
  · omega
  · exact h (i - 1) (j - 1) p q (by omega) e1 e2

theorem rel_send {ps qs : List (Int × Int)} {t n : Int} {k : Nat} (h : Rel ps qs) (hk : CntLe ps t k) : Rel (ps.take k ++ (t, n) :: ps.drop k) (qs ++ [(t, n)]) := by
  refine ⟨rise_ins h.rise hk, fun s => ?_, ?_⟩
  · have e := h.same s
    rw [List.filter_append, List.filter_append, List.filter_cons, ← e]
    have e2 : ps.filter (tickIs s) = (ps.take k).filter (tickIs s) ++ (ps.drop k).filter (tickIs s) := by rw [← List.filter_append, List.take_append_drop]
    by_cases hs : t = s
    · subst hs
      have e3 : (ps.drop k).filter (tickIs t) = [] := by
        apply filter_none
        intro x hx
        obtain ⟨i, hi⟩ := mem_get hx
        rw [List.getElem?_drop] at hi
        have := hk.2.2 (k + i) x (by omega) hi
        omega
      have ht : tickIs t (t, n) = true := (tickIs_iff _ _).2 rfl
      rw [if_pos ht, e2, e3]
      simp [ht]
    · have hf : tickIs s (t, n) = false := (tickIs_not _ _).2 hs
      rw [if_neg (by rw [hf]; simp), e2]
      simp [hf]
  · have := hk.1
    have := h.len
    simp only [List.length_append, List.length_take, List.length_cons, List.length_drop, List.length_nil]
    omega

theorem filter_erase_same (t : Int) : ∀ l : List (Int × Int), (l.eraseP (tickIs t)).filter (tickIs t) = (l.filter (tickIs t)).tail
  | [] => rfl
  | q :: r => by
    by_cases h : tickIs t q = true
    · rw [List.eraseP_cons_of_pos h, List.filter_cons_of_pos h]; rfl
    · rw [List.eraseP_cons_of_neg h, List.filter_cons_of_neg h, List.filter_cons_of_neg h, filter_erase_same t r]
theorem filter_erase_other (t s : Int) (hs : s ≠ t) : ∀ l : List (Int × Int), (l.eraseP (tickIs t)).filter (tickIs s) = l.filter (tickIs s)
  | [] => rfl
  | q :: r => by
    by_cases h : tickIs t q = true
    · rw [List.eraseP_cons_of_pos h, List.filter_cons_of_neg]
      rw [tickIs_iff] at h
      simp [tickIs]; omega
    · rw [List.eraseP_cons_of_neg h, List.filter_cons, List.filter_cons, filter_erase_other t s hs r]
theorem find_filter (t : Int) : ∀ l : List (Int × Int), l.find? (tickIs t) = (l.filter (tickIs t)).head?
  | [] => rfl
  | q :: r => by
    by_cases h : tickIs t q = true
    · rw [List.find?_cons_of_pos h, List.filter_cons_of_pos h]; rfl
    · rw [List.find?_cons_of_neg h, List.filter_cons_of_neg h, find_filter t r]

theorem rel_pop {p : Int × Int} {r qs : List (Int × Int)} (h : Rel (p :: r) qs) : firstNum (least qs) qs = [p.2] ∧ Rel r (leftOf (least qs) qs) := by
  have hl := rel_least h
  have hq : 0 < qs.length := by have := h.len; simp at this; omega
  have e := h.same p.1
  rw [List.filter_cons_of_pos ((tickIs_iff _ _).2 rfl)] at e
  rw [hl]
  refine ⟨?_, rise_tail h.rise, fun s => ?_, ?_⟩
  · unfold firstNum
    rw [find_filter, ← e]
    rfl
  · unfold leftOf
    by_cases hs : s = p.1
    · subst hs
      rw [filter_erase_same, ← e]
      rfl
    · rw [filter_erase_other _ _ hs, ← h.same s, List.filter_cons_of_neg]
      simp [tickIs]; omega
  · have := left_len hq
    rw [hl] at this
    have h2 := h.len
    simp at h2
    omega

theorem cnt_tail {p : Int × Int} {r : List (Int × Int)} {now : Int} {k : Nat} (h : CntLe (p :: r) now (k + 1)) : CntLe r now k :=
  ⟨by have := h.1; simp at this; omega, fun i x hi hx => h.2.1 (i + 1) x (by omega) (by simpa using hx), fun i x hi hx => h.2.2 (i + 1) x (by omega) (by simpa using hx)⟩

theorem rel_come (now : Int) : ∀ (ps qs : List (Int × Int)) (k : Nat), Rel ps qs → CntLe ps now k → (comeR qs.length now qs).1 = (ps.take k).map (·.2) ∧ Rel (ps.drop k) (comeR qs.length now qs).2
  | [], qs, k, h, _ => by
    have : qs = [] := List.eq_nil_of_length_eq_zero h.len.symm
    subst this
    simp [comeR, Rel.nil]
  | p :: r, qs, k, h, hk => by
    have hl := rel_least h
    have hq : qs.length = r.length + 1 := by have := h.len; simp at this; omega
    cases k with
    | zero =>
      have hn : now < p.1 := hk.2.2 0 p (Nat.le_refl _) rfl
      rw [hq, comeR, if_neg (by rw [hl]; omega)]
      exact ⟨rfl, h⟩
    | succ k =>
      have hn : p.1 ≤ now := hk.2.1 0 p (by omega) rfl
      obtain ⟨e1, e2⟩ := rel_pop h
      have ih := rel_come now r (leftOf (least qs) qs) k e2 (cnt_tail hk)
      have hll := left_len (qs := qs) (by omega)
      rw [show (leftOf (least qs) qs).length = r.length by omega] at ih
      rw [hq, comeR, if_pos ⟨by omega, by rw [hl]; exact hn⟩, e1]
      simp only [List.take_succ_cons, List.map_cons, List.drop_succ_cons]
      exact ⟨by rw [ih.1]; rfl, ih.2⟩
end Go.Proofs.Ytendgfbkbeapoaa
