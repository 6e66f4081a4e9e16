/- The statement's own check that the link does something, walked. -/
import Derived.Test.YtendgfbkbeapoaaLinkJ
namespace Go.Proofs.Ytendgfbkbeapoaa
open Go.RowKit

/-- A slice that was just made. -/
theorem Own.made (w : World) (T : TypeId) (size n c : Nat) (cs : List Value) (hn : n ≤ c) (hm : c ≤ maxLen) (hl : cs.length = c * size) : Own (w.alloc (.cells cs.toArray T)) T size (.slice (some ⟨w.heap.size, 0, none⟩) n c) n (cs.take (n * size)) := by
  have hle : n * size ≤ c * size := Nat.mul_le_mul_right _ hn
  exact ⟨by rw [List.length_take]; omega, .inr ⟨_, 0, c, cs, rfl, by simpa using Blk.new w T cs.toArray, hn, hm, by omega, by simp⟩⟩

theorem cnt_unique {ps : List (Int × Int)} {t : Int} {k k' : Nat} (h : CntLe ps t k) (h' : CntLe ps t k') : k = k' := by
  have key : ∀ {a b : Nat}, CntLe ps t a → CntLe ps t b → ¬ a < b := by
    intro a b ha hb hlt
    have hb1 := hb.1
    have hp : ps[a]? = some (ps[a]'(by omega)) := List.getElem?_eq_getElem (by omega)
    have h1 := ha.2.2 a _ (Nat.le_refl _) hp
    have h2 := hb.2.1 a _ hlt hp
    omega
  have := key h h'
  have := key h' h
  omega
theorem cnt_tw (t : Int) : ∀ ps : List (Int × Int), Rise ps → CntLe ps t (ps.takeWhile (fun p => decide (p.1 ≤ t))).length
  | [], _ => ⟨by simp, fun i p hi _ => by simp at hi, fun i p _ hp => by simp at hp⟩
  | p :: r, h => by
    have ih := cnt_tw t r (rise_tail h)
    by_cases hp : p.1 ≤ t
    · rw [List.takeWhile_cons_of_pos (by simpa using hp), List.length_cons]
      refine ⟨by have := ih.1; simp; omega, fun i x hi hx => ?_, fun i x hi hx => ?_⟩
      · cases i with
        | zero => simp at hx; subst hx; exact hp
        | succ i => exact ih.2.1 i x (by omega) (by simpa using hx)
      · cases i with
        | zero => omega
        | succ i => exact ih.2.2 i x (by omega) (by simpa using hx)
    · rw [List.takeWhile_cons_of_neg (by simpa using hp)]
      refine ⟨by simp, fun i x hi _ => by simp at hi, fun i x _ hx => ?_⟩
      have := h 0 i p x (Nat.zero_le _) rfl hx
      omega
theorem cnt_eq {ps : List (Int × Int)} {t : Int} {k : Nat} (hr : Rise ps) (h : CntLe ps t k) : k = (ps.takeWhile (fun p => decide (p.1 ≤ t))).length := cnt_unique h (cnt_tw t ps hr)

theorem rise_nil : Rise [] := fun i j p q _ h => by simp at h
theorem rise_one (a : Int × Int) : Rise [a] := by
  intro i j p q hij hp hq
  have hi : i = 0 := by
    cases i with
    | zero => rfl
    | succ i => simp at hp
  have hj : j = 0 := by
    cases j with
    | zero => rfl
    | succ j => simp at hq
  subst hi; subst hj
  simp at hp hq
  subst hp; subst hq
  exact Int.le_refl _
theorem rise_two (a b : Int × Int) (h : a.1 ≤ b.1) : Rise [a, b] := by
  have := rise_ins (ps := [a]) (t := b.1) (n := b.2) (k := 1) (rise_one a) ⟨by simp, fun i p hi hp => by
    obtain rfl : i = 0 := by omega
    simp at hp; subst hp; exact h, fun i p hi hp => by
    cases i with
    | zero => omega
    | succ i => simp at hp⟩
  simpa using this

set_option maxHeartbeats 1000000 in
theorem awake_any (w : World) : Calls Try.prog 8 #[] w fun e w' => e = .returned (.bool true) ∧ Below w.heap.size w w' := by
  go_enter Try.func8, Try.ntmps8
  go_wp2_with fail
  refine (newS (d := 5) (room := 2) (w := w) (by omega) (by omega) (by omega)).mono ?_
  rintro e w1 ⟨rfl, hL1, hD1, hs1⟩
  have hB1 := hid hs1
  clear hs1
  go_wp2_with fail
  refine (sendS_ok (B := w.heap.size) hL1 hD1.below.size (by omega) (by omega) (by omega) (by omega) (by omega) (by simp) rise_nil).mono ?_
  rintro e w2 ⟨rfl, k, hk, hL2, hD2⟩
  have ek := cnt_eq rise_nil hk
  simp at ek
  subst ek
  simp only [List.take_nil, List.drop_nil, List.nil_append] at hL2
  go_wp2_with fail
  refine (sendS_ok (B := w.heap.size) hL2 (Nat.le_trans hD1.below.size hD2.below.size) (by omega) (by omega) (by omega) (by omega) (by omega) (by simp) (rise_one _)).mono ?_
  rintro e w3 ⟨rfl, k, hk3, hL3, hD3⟩
  have ek := cnt_eq (rise_one _) hk3
  simp at ek
  subst ek
  simp at hL3
  go_wp2_with fail
  refine (sendS_full (B := w.heap.size) hL3 (by omega) (by omega) (by simp)).mono ?_
  rintro e w4 ⟨rfl, hD4⟩
  have hL4 := hL3.did hD4 (by simp) (by simp)
  go_wp2_with fail
  refine (nextS hL4 (by omega)).mono ?_
  rintro e w4' ⟨rfl, rfl⟩
  go_wp2_with fail
  have hr2 : Rise [((15 : Int), (7 : Int)), (16, 8)] := rise_two _ _ (by simp)
  have HR2 := hid hr2
  clear hr2
  have z4 : w.heap.size ≤ w4.heap.size := Nat.le_trans (Nat.le_trans (Nat.le_trans hD1.below.size hD2.below.size) hD3.below.size) hD4.below.size
  refine (comeS (B := w.heap.size) hL4 z4 (by omega) (by simp) (by omega) HR2.out).mono ?_
  rintro e w5 ⟨k, A5, c5, hk5, rfl, hO5, hF5, hL5, hD5⟩
  have ek := cnt_eq HR2.out hk5
  simp at ek
  subst ek
  simp at hL5
  go_wp2_with fail
  refine (comeS (B := w.heap.size) hL5 (Nat.le_trans z4 hD5.below.size) (by omega) (by simp) (by omega) HR2.out).mono ?_
  rintro e w6 ⟨k, A6, c6, hk6, rfl, hO6, hF6, hL6, hD6⟩
  have ek := cnt_eq HR2.out hk6
  simp at ek
  subst ek
  simp at hL6 hO6
  go_wp2_with fail
  have hlit : Own (w6.alloc (.cells #[.int .i64 7] 3)) 3 1 (.slice (some ⟨w6.heap.size, 0, none⟩) 1 1) 1 [.int .i64 7] := Own.made w6 3 1 1 1 [.int .i64 7] (Nat.le_refl _) (by unfold maxLen; omega) rfl
  refine (same_eq A6 (some ⟨w6.heap.size, 0, none⟩) c6 1 [7] _ (by exact hO6.alloc _) (by exact hlit) (by simp)).mono ?_
  rintro e w7 ⟨rfl, hdr⟩
  have hD7 : Did w.heap.size [] w6 w7 := ((Did.refl w.heap.size [] w6).alloc (Nat.le_trans (Nat.le_trans z4 hD5.below.size) hD6.below.size) _).trans (Did.drawn hdr)
  have hL7 := hL6.did hD7 (by simp) (by simp)
  have hfin := hid (((((((hD1.below).trans hD2.below).trans hD3.below).trans hD4.below).trans hD5.below).trans hD6.below).trans hD7.below)
  go_wp2_with fail
  refine (lenS hL7 (by omega)).mono ?_
  rintro e w8 ⟨rfl, rfl⟩
  go_wp2
  go_ret
  exact ⟨rfl, hfin.out⟩
end Go.Proofs.Ytendgfbkbeapoaa
