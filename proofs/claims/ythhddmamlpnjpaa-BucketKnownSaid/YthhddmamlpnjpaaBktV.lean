/- What is let through, in plain numbers: never more than flows in and the burst; and over rising ticks no less. No walk here. -/
import Derived.Test.YthhddmamlpnjpaaBktP
namespace Go.Proofs.Ythhddmamlpnjpaa

/-- The asks that are let through, from a state on. -/
def passedV (p q r : Nat) : Nat → List (Nat × Nat) → List (Nat × Nat)
  | _, [] => []
  | s, x :: l => if takeB p q r s x.1 x.2 then x :: passedV p q r (takeS p q r s x.1 x.2) l else passedV p q r (takeS p q r s x.1 x.2) l
theorem passedV_snoc (p q r : Nat) (x : Nat × Nat) : ∀ (l : List (Nat × Nat)) (s : Nat), passedV p q r s (l ++ [x]) = passedV p q r s l ++ (if takeB p q r (runS p q r s l) x.1 x.2 then [x] else [])
  | [], s => by
    unfold runS
    simp only [List.nil_append, passedV]
  | y :: l, s => by
    simp only [List.cons_append, passedV, runS]
    split
    · rw [passedV_snoc p q r x l]; rfl
    · rw [passedV_snoc p q r x l]; rfl
theorem takeS_ge {p q r s t n : Nat} : s ≤ takeS p q r s t n := by
  unfold takeS
  by_cases h : takeB p q r s t n = true
  · rw [if_pos h]; unfold standV; omega
  · rw [if_neg h]; exact Nat.le_refl _
theorem takeS_true {p q r s t n : Nat} (h : takeB p q r s t n = true) : takeS p q r s t n = standV p s t + n * q ∧ takeS p q r s t n ≤ t * p + r * q := by
  unfold takeS
  rw [if_pos h]
  have := of_decide_eq_true h
  unfold aheadV standV at *
  exact ⟨rfl, by omega⟩
theorem takeS_false {p q r s t n : Nat} (h : takeB p q r s t n = false) : takeS p q r s t n = s := by
  unfold takeS
  rw [h, if_neg (by simp)]
theorem takeB_small {p q r s t n : Nat} (hq : 1 ≤ q) (h : takeB p q r s t n = true) : n ≤ r := by
  rcases Nat.lt_or_ge r n with h1 | h1
  · rw [takeB_far hq h1] at h; cases h
  · exact h1

/-- What was let through so far, and the state. -/
def NeverInv (p q r : Nat) (pre : List (Nat × Nat)) (s : Nat) : Prop :=
  ∀ a b, a ≤ b → strV pre a b = 0 ∨ (a * p + strV pre a b * q ≤ s ∧ a * p + strV pre a b * q ≤ b * p + r * q)
theorem NeverInv.nil (p q r s : Nat) : NeverInv p q r [] s := fun _ _ _ => .inl rfl
theorem NeverInv.step {p q r s : Nat} {pre : List (Nat × Nat)} (h : NeverInv p q r pre s) (x : Nat × Nat) : NeverInv p q r (pre ++ (if takeB p q r s x.1 x.2 then [x] else [])) (takeS p q r s x.1 x.2) := by
  cases hb : takeB p q r s x.1 x.2 with
  | false =>
    rw [takeS_false hb]
    simpa using h
  | true =>
    obtain ⟨e1, e2⟩ := takeS_true hb
    have e3 : s ≤ standV p s x.1 ∧ x.1 * p ≤ standV p s x.1 := by unfold standV; omega
    intro a b hab
    rw [if_pos rfl, strV_append, strV_cons, strV_nil]
    have h1 := h a b hab
    by_cases hin : a ≤ x.1 ∧ x.1 ≤ b
    · right
      rw [if_pos hin, Nat.add_zero, Nat.add_mul]
      have m1 := Nat.mul_le_mul_right p hin.1
      have m2 := Nat.mul_le_mul_right p hin.2
      rcases h1 with h1 | h1
      · rw [h1, Nat.zero_mul]; omega
      · omega
    · simp only [if_neg hin, Nat.add_zero]
      rcases h1 with h1 | h1
      · exact .inl h1
      · right; omega
theorem NeverInv.all {p q r : Nat} (l : List (Nat × Nat)) : ∀ {pre : List (Nat × Nat)} {s : Nat}, NeverInv p q r pre s → NeverInv p q r (pre ++ passedV p q r s l) (runS p q r s l) := by
  induction l with
  | nil => intro pre s h; simpa [passedV, runS] using h
  | cons x l ih =>
    intro pre s h
    have := ih (h.step x)
    unfold passedV runS
    cases hb : takeB p q r s x.1 x.2 with
    | false => rw [hb] at this; simpa using this
    | true => rw [hb] at this; simpa using this

theorem passedV_mem {p q r : Nat} (hq : 1 ≤ q) : ∀ (l : List (Nat × Nat)) (s : Nat), ∀ y ∈ passedV p q r s l, y ∈ l ∧ y.2 ≤ r
  | [], s, y, h => by simp [passedV] at h
  | x :: l, s, y, h => by
    unfold passedV at h
    cases hb : takeB p q r s x.1 x.2 with
    | false =>
      rw [hb] at h
      have := passedV_mem hq l _ y h
      exact ⟨List.mem_cons_of_mem _ this.1, this.2⟩
    | true =>
      rw [hb, if_pos rfl] at h
      rcases List.mem_cons.1 h with rfl | h
      · exact ⟨by simp, takeB_small hq hb⟩
      · have := passedV_mem hq l _ y h
        exact ⟨List.mem_cons_of_mem _ this.1, this.2⟩
theorem passedV_len (p q r : Nat) : ∀ (l : List (Nat × Nat)) (s : Nat), (passedV p q r s l).length ≤ l.length
  | [], s => Nat.le_refl _
  | x :: l, s => by
    unfold passedV
    split
    · have := passedV_len p q r l (takeS p q r s x.1 x.2); simp; omega
    · have := passedV_len p q r l (takeS p q r s x.1 x.2); simp; omega

/-- P12.7: of what was let through no stretch holds more than Most of its length. -/
theorem never_more (p q r s : Nat) (l : List (Nat × Nat)) (a b : Nat) (hab : a ≤ b) : strV (passedV p q r s l) a b * q ≤ r * q + (b - a) * p := by
  have h := NeverInv.all l (NeverInv.nil p q r s) a b hab
  rw [List.nil_append] at h
  have e : b * p = (b - a) * p + a * p := by rw [← Nat.add_mul]; congr 1; omega
  rcases h with h | h
  · rw [h]; omega
  · omega

theorem never_fits {p q r s : Nat} (hq : 1 ≤ q) (hr : r ≤ 1048576) (l : List (Nat × Nat)) : fitsGo p q r 0 [] (passedV p q r s l) = (passedV p q r s l).length := by
  rw [fitsGo_all _ _ _ List.Pairwise.nil (fun a b hab => by rw [List.nil_append]; exact never_more p q r s l a b hab) (fun x hx => by
    have := (passedV_mem hq l s x hx).2
    unfold bigV; omega)]
  simp

/-- By counting. -/
theorem never_count {p q r s : Nat} (hq : 1 ≤ q) (l : List (Nat × Nat)) (a b : Nat) (hab : a ≤ b) : strV (passedV p q r s l) a b ≤ mostN p q r (b - a) := by
  have h := never_more p q r s l a b hab
  unfold mostN
  rcases Nat.lt_or_ge (strV (passedV p q r s l) a b) r with h1 | h1
  · exact Nat.le_trans (Nat.le_of_lt h1) (Nat.le_add_right _ _)
  · obtain ⟨d, hd⟩ : ∃ d, strV (passedV p q r s l) a b = d + r := ⟨_, (Nat.sub_add_cancel h1).symm⟩
    rw [hd, Nat.add_mul] at h
    rw [hd]
    have := (Nat.le_div_iff_mul_le (x := d) (y := (b - a) * p) (k := q) (by omega)).2 (by omega)
    rw [Nat.add_comm d r]
    exact Nat.add_le_add_left this r

/-- Over rising ticks, from the state 0: the greatest stretch is how far the state is ahead. -/
structure AllInv (p q r : Nat) (P : List (Nat × Nat)) (s m last : Nat) : Prop where
  full : ∀ l, fullGo p q r 0 0 (P ++ l) = fullGo p q r m last l
  eq : s = last * p + m
  le : m ≤ r * q
  ticks : ∀ y ∈ P, y.1 ≤ last
theorem AllInv.start (p q r : Nat) : AllInv p q r [] 0 0 0 := ⟨fun l => rfl, by omega, by omega, by simp⟩
theorem all_ahead {p s m last t : Nat} (h : s = last * p + m) (ht : last ≤ t) : aheadV p s t = m - (t - last) * p := by
  have e : t * p = (t - last) * p + last * p := by rw [← Nat.add_mul]; congr 1; omega
  unfold aheadV standV
  omega
theorem AllInv.pass {p q r s m last : Nat} {P : List (Nat × Nat)} (h : AllInv p q r P s m last) (x : Nat × Nat) (hx : last ≤ x.1) (hb : takeB p q r s x.1 x.2 = true) : AllInv p q r (P ++ [x]) (takeS p q r s x.1 x.2) (m - (x.1 - last) * p + x.2 * q) x.1 := by
  have ha := all_ahead h.eq hx
  have h1 := of_decide_eq_true hb
  rw [ha] at h1
  refine ⟨?_, ?_, h1, ?_⟩
  · intro l
    rw [List.append_assoc, h.full]
    conv => lhs; rw [List.singleton_append]; unfold fullGo
    rw [if_neg (by omega)]
  · rw [(takeS_true hb).1]
    have : standV p s x.1 = x.1 * p + aheadV p s x.1 := by unfold aheadV standV; omega
    rw [this, ha]; omega
  · intro y hy
    rcases List.mem_append.1 hy with h2 | h2
    · have := h.ticks y h2; omega
    · rw [List.mem_singleton.1 h2]; exact Nat.le_refl _
theorem AllInv.full_iff {p q r s m last : Nat} {P : List (Nat × Nat)} (h : AllInv p q r P s m last) (x : Nat × Nat) (hx : last ≤ x.1) : fullV p q r (P ++ [x]) = !(takeB p q r s x.1 x.2) := by
  unfold fullV
  rw [h.full]
  unfold fullGo takeB
  rw [all_ahead h.eq hx]
  by_cases h1 : r * q < m - (x.1 - last) * p + x.2 * q
  · rw [if_pos h1, decide_eq_false (by omega)]; rfl
  · rw [if_neg h1, decide_eq_true (by omega)]; rfl
theorem insV_last (x : Nat × Nat) : ∀ (l : List (Nat × Nat)), (∀ y ∈ l, y.1 ≤ x.1) → insV x l = l ++ [x]
  | [], _ => rfl
  | y :: l, h => by
    unfold insV
    rw [if_pos (h y (by simp)), insV_last x l (fun z hz => h z (by simp [hz]))]
    rfl

/-- What Fits goes through over rising ticks: nothing is full so far. -/
def AllFits (p q r : Nat) (P : List (Nat × Nat)) : Prop := ∀ l, fitsGo p q r 0 [] (P ++ l) = fitsGo p q r P.length P l
theorem AllFits.nil (p q r : Nat) : AllFits p q r [] := fun _ => rfl
theorem AllFits.step {p q r s m last : Nat} {P : List (Nat × Nat)} (h : AllFits p q r P) (hi : AllInv p q r P s m last) (hq : 1 ≤ q) (hr : r ≤ 1048576) (x : Nat × Nat) (hx : last ≤ x.1) :
    (takeB p q r s x.1 x.2 = true → AllFits p q r (P ++ [x]) ∧ fitsGo p q r 0 [] (P ++ [x]) = P.length + 1) ∧ (takeB p q r s x.1 x.2 = false → fitsGo p q r 0 [] (P ++ [x]) = P.length) := by
  have hins := insV_last x P (fun y hy => Nat.le_trans (hi.ticks y hy) hx)
  have hfi := hi.full_iff x hx
  have one : ∀ l, fitsGo p q r P.length P (x :: l) = if bigV < x.2 then P.length else if fullV p q r (P ++ [x]) then P.length else fitsGo p q r (P.length + 1) (P ++ [x]) l := by
    intro l
    conv => lhs; unfold fitsGo
    rw [hins]
  constructor
  · intro hb
    rw [hb] at hfi
    have hsm : ¬ bigV < x.2 := by have := takeB_small hq hb; unfold bigV; omega
    have hall : AllFits p q r (P ++ [x]) := by
      intro l
      rw [List.append_assoc, List.singleton_append, h, one, if_neg hsm, hfi]
      simp
    refine ⟨hall, ?_⟩
    have := hall []
    rw [List.append_nil] at this
    rw [this]
    simp [fitsGo]
  · intro hb
    rw [hb] at hfi
    rw [h, one]
    by_cases hbig : bigV < x.2
    · rw [if_pos hbig]
    · rw [if_neg hbig, hfi]; rfl
end Go.Proofs.Ythhddmamlpnjpaa
