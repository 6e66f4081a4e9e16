/- Eight numbers laid down as bytes; the reader of the long texts. Plain numbers; no program here. -/
import Derived.Test.YtgpiapmbbnngpaaGreatDoorPfxPl
import Derived.Test.YtgpiapmbbnngpaaGreatDoorPfxWd
namespace Go.Proofs.YtgpiapmbbnngpaaGreatDoor

def setG (f : Nat → Nat) (k u : Nat) : Nat → Nat := upd (upd f (2 * k) (u / 256)) (2 * k + 1) (u % 256)
def layF (f : Nat → Nat) : Nat → List Nat → (Nat → Nat)
  | _, [] => f
  | k, u :: l => layF (setG f k u) (k + 1) l
theorem layF_at : ∀ (l : List Nat) (f : Nat → Nat) (k j : Nat), layF f k l j = match l[j / 2 - k]? with
    | some u => if k ≤ j / 2 then (if j % 2 = 0 then u / 256 else u % 256) else f j
    | none => f j
  | [], f, k, j => by simp [layF]
  | u :: l, f, k, j => by
    rw [layF, layF_at l]
    have hs : setG f k u j = if j / 2 = k then (if j % 2 = 0 then u / 256 else u % 256) else f j := by
      unfold setG upd
      by_cases h1 : j = 2 * k + 1
      · rw [if_pos h1, if_pos (by omega), if_neg (by omega)]
      · rw [if_neg h1]
        by_cases h2 : j = 2 * k
        · rw [if_pos h2, if_pos (by omega), if_pos (by omega)]
        · rw [if_neg h2, if_neg (by omega)]
    rw [hs]
    rcases Nat.lt_trichotomy (j / 2) k with h | h | h
    · rw [show j / 2 - (k + 1) = 0 by omega, show j / 2 - k = 0 by omega]
      rw [if_neg (by omega : ¬ j / 2 = k)]
      simp only [List.getElem?_cons_zero]
      rw [if_neg (by omega : ¬ k ≤ j / 2)]
      split
      · rw [if_neg (by omega)]
      · rfl
    · rw [if_pos h, show j / 2 - (k + 1) = 0 by omega, show j / 2 - k = 0 by omega]
      simp only [List.getElem?_cons_zero]
      rw [if_pos (by omega : k ≤ j / 2)]
      split
      · rw [if_neg (by omega)]
      · rfl
    · rw [if_neg (by omega : ¬ j / 2 = k), show j / 2 - k = (j / 2 - (k + 1)) + 1 by omega, List.getElem?_cons_succ]
      split
      · rw [if_pos (show k + 1 ≤ j / 2 by omega), if_pos (show k ≤ j / 2 by omega)]
      · rfl
def sixB (a b : List Nat) : Nat → Nat := layF (layF (fun _ => 0) 0 a) (8 - b.length) b
def sixG (l r : List UInt8) (fnd : Bool) : (Nat → Nat) × Bool := match numsF l, numsF r with
  | some a, some b => if (fnd = false ∧ a.length ≠ 8) ∨ 8 < a.length + b.length then (fun _ => 0, false) else (sixB a b, true)
  | _, _ => (fun _ => 0, false)
def sixF (s : List UInt8) : (Nat → Nat) × Bool := sixG (Lib.cut s [58, 58]).1 (Lib.cut s [58, 58]).2.1 (Lib.cut s [58, 58]).2.2
theorem sixB_at (a b : List Nat) (h : a.length + b.length ≤ 8) (j u : Nat) (hu : (a ++ List.replicate (8 - a.length - b.length) 0 ++ b)[j / 2]? = some u) : sixB a b j = if j % 2 = 0 then u / 256 else u % 256 := by
  unfold sixB
  rw [layF_at, layF_at]
  by_cases h1 : j / 2 < a.length
  · rw [List.append_assoc, List.getElem?_append_left h1] at hu
    rw [Nat.sub_zero, hu]
    simp only [Nat.zero_le, if_true]
    split
    · rw [if_neg (by omega)]
    · rfl
  · have ha : a[j / 2 - 0]? = none := List.getElem?_eq_none (by omega)
    rw [ha]
    simp only
    by_cases h2 : j / 2 < 8 - b.length
    · rw [List.append_assoc, List.getElem?_append_right (by omega), List.getElem?_append_left (by simp; omega), List.getElem?_replicate] at hu
      split at hu
      · cases hu
        split
        · rw [if_neg (by omega)]; simp
        · simp
      · cases hu
    · rw [List.getElem?_append_right (by simp; omega)] at hu
      have e : j / 2 - (a ++ List.replicate (8 - a.length - b.length) 0).length = j / 2 - (8 - b.length) := by simp; omega
      rw [e] at hu
      rw [hu]
      simp only
      rw [if_pos (by omega)]
theorem numF_bd : ∀ (s : List UInt8) (n m : Nat) (out l : List Nat), numF s n m out = some l → n < 16 ^ m → (∀ u ∈ out, u < 65536) → (∀ u ∈ l, u < 65536) ∧ l.length ≤ 8 ∨ 8 < out.length
  | [], n, m, out, l, h, hn, ho => by
    rw [numF] at h
    split at h
    · cases h
    · rename_i hc
      cases h
      by_cases h8 : 8 < out.length
      · exact .inr h8
      · have : (16 : Nat) ^ m ≤ 16 ^ 4 := Nat.pow_le_pow_right (by omega) (by omega)
        refine .inl ⟨fun u hu => ?_, by simp; omega⟩
        rcases List.mem_append.1 hu with hu | hu
        · exact ho u hu
        · rw [List.mem_singleton.1 hu]; omega
  | c :: s, n, m, out, l, h, hn, ho => by
    rw [numF] at h
    split at h
    · split at h
      · cases h
      · rename_i hc
        by_cases h8 : 8 < out.length
        · exact .inr h8
        · have : (16 : Nat) ^ m ≤ 16 ^ 4 := Nat.pow_le_pow_right (by omega) (by omega)
          rcases numF_bd s 0 0 (out ++ [n]) l h (by decide) (fun u hu => by
            rcases List.mem_append.1 hu with hu | hu
            · exact ho u hu
            · rw [List.mem_singleton.1 hu]; omega) with h' | h'
          · exact .inl h'
          · simp at h'; omega
    · split at h
      · cases h
      · refine numF_bd s _ _ out l h ?_ ho
        have : hexI c < 16 := by
          have := c.toNat_lt
          unfold hexI; split
          · omega
          · split <;> omega
        rw [Nat.pow_succ]; omega
theorem numsF_bd {s : List UInt8} {l : List Nat} (h : numsF s = some l) : (∀ u ∈ l, u < 65536) ∧ l.length ≤ 8 := by
  unfold numsF at h
  split at h
  · cases h; simp
  · rcases numF_bd s 0 0 [] l h (by decide) (by simp) with h | h
    · exact h
    · simp at h
theorem numsF_nil : numsF [] = some [] := rfl
theorem six_text (n : Nat) : (sixF (text6 (grps n))).2 = true ∧ ∀ j, j < 16 → (sixF (text6 (grps n))).1 j = byteAt n j := by
  have hl := grps_len n
  obtain ⟨h1, h2, h3⟩ := fill_gap (grps n) hl
  have main : ∀ (a b : List Nat), a ++ List.replicate (8 - a.length - b.length) 0 ++ b = grps n → a.length + b.length ≤ 8 → ∀ j, j < 16 → sixB a b j = byteAt n j := by
    intro a b hab hlen j hj
    have hg := grps_get n (j / 2) (by omega)
    rw [← hab] at hg
    rw [sixB_at a b hlen j _ hg]
    have hb := byteAt_lt n (2 * (j / 2) + 1)
    split
    · rename_i he
      rw [show grp n (j / 2) / 256 = byteAt n (2 * (j / 2)) by unfold grp; omega, show 2 * (j / 2) = j by omega]
    · rename_i he
      rw [show grp n (j / 2) % 256 = byteAt n (2 * (j / 2) + 1) by unfold grp; omega, show 2 * (j / 2) + 1 = j by omega]
  have hb : ∀ u ∈ grps n, u < 65536 := fun u hu => grps_lt hu
  unfold sixF
  rw [cut_text6]
  by_cases hg : (gapN (zs (grps n))).1 = (gapN (zs (grps n))).2
  · rw [if_pos hg]
    unfold sixG
    simp only [numsF_join (grps n) hb (by rw [hl]; omega), numsF_nil]
    rw [if_neg (by rw [hl]; simp)]
    exact ⟨rfl, main _ _ (by rw [hl]; simp) (by rw [hl]; simp)⟩
  · rw [if_neg hg]
    unfold sixG
    simp only [numsF_join ((grps n).take (gapN (zs (grps n))).1) (fun u hu => hb u (List.mem_of_mem_take hu)) (by rw [List.length_take, hl]; omega), numsF_join ((grps n).drop (gapN (zs (grps n))).2) (fun u hu => hb u (List.mem_of_mem_drop hu)) (by rw [List.length_drop, hl]; omega)]
    have hlen : ((grps n).take (gapN (zs (grps n))).1).length + ((grps n).drop (gapN (zs (grps n))).2).length ≤ 8 := by
      rw [List.length_take, List.length_drop, hl]; omega
    rw [if_neg (by simp only [Bool.true_eq_false, false_and, false_or]; omega)]
    exact ⟨rfl, main _ _ h3 hlen⟩
end Go.Proofs.YtgpiapmbbnngpaaGreatDoor
