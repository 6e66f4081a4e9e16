/- The bucket's arithmetic in plain numbers: stretches, the greatest stretch, the insertion by rising ticks. No program here. -/
namespace Go.Proofs.Ythhddmamlpnjpaa

/-- Tokens of the asks whose ticks lie from a to b. -/
def strV (l : List (Nat × Nat)) (a b : Nat) : Nat := ((l.filter fun y => decide (a ≤ y.1) && decide (y.1 ≤ b)).map (·.2)).sum

theorem strV_nil (a b : Nat) : strV [] a b = 0 := rfl
theorem strV_cons (x : Nat × Nat) (l : List (Nat × Nat)) (a b : Nat) : strV (x :: l) a b = (if a ≤ x.1 ∧ x.1 ≤ b then x.2 else 0) + strV l a b := by
  unfold strV
  by_cases h1 : a ≤ x.1 <;> by_cases h2 : x.1 ≤ b <;> simp [h1, h2]
theorem strV_append (l m : List (Nat × Nat)) (a b : Nat) : strV (l ++ m) a b = strV l a b + strV m a b := by
  induction l with
  | nil => simp [strV_nil]
  | cons x l ih => simp only [List.cons_append, strV_cons, ih]; omega
theorem strV_perm {l m : List (Nat × Nat)} (h : l.Perm m) (a b : Nat) : strV l a b = strV m a b := by
  induction h with
  | nil => rfl
  | cons x _ ih => simp only [strV_cons, ih]
  | swap x y l => simp only [strV_cons]; omega
  | trans _ _ ih1 ih2 => exact ih1.trans ih2

/-- Is a stretch too full? Over rising ticks: the greatest of the stretches that end at the tick ahead, and that tick. -/
def fullGo (p q r : Nat) : Nat → Nat → List (Nat × Nat) → Bool
  | _, _, [] => false
  | m, last, x :: l => if r * q < m - (x.1 - last) * p + x.2 * q then true else fullGo p q r (m - (x.1 - last) * p + x.2 * q) x.1 l
def fullV (p q r : Nat) (l : List (Nat × Nat)) : Bool := fullGo p q r 0 0 l

/-- Ticks that rise. -/
def Rise (l : List (Nat × Nat)) : Prop := l.Pairwise fun x y => x.1 ≤ y.1

/-- What the greatest stretch tells of the asks so far. -/
structure KadInv (p q r : Nat) (pre : List (Nat × Nat)) (m last : Nat) : Prop where
  le : ∀ y ∈ pre, y.1 ≤ last
  sound : m = 0 ∨ ∃ a, a ≤ last ∧ (∃ y ∈ pre, y.1 = a) ∧ (∃ y ∈ pre, y.1 = last) ∧ m + (last - a) * p ≤ strV pre a last * q
  whole : ∀ a, a ≤ last → strV pre a last * q ≤ m + (last - a) * p
  small : ∀ a b, a ≤ b → strV pre a b * q ≤ r * q + (b - a) * p

theorem strV_above {l : List (Nat × Nat)} {a b last : Nat} (h : ∀ y ∈ l, y.1 ≤ last) (hb : last ≤ b) : strV l a b = strV l a last := by
  induction l with
  | nil => rfl
  | cons x l ih =>
    have hx := h x (by simp)
    rw [strV_cons, strV_cons, ih (fun y hy => h y (by simp [hy]))]
    congr 1
    by_cases h1 : a ≤ x.1
    · rw [if_pos ⟨h1, by omega⟩, if_pos ⟨h1, hx⟩]
    · rw [if_neg (by omega), if_neg (by omega)]
theorem strV_none {l : List (Nat × Nat)} {a b : Nat} (h : ∀ y ∈ l, ¬ (a ≤ y.1 ∧ y.1 ≤ b)) : strV l a b = 0 := by
  induction l with
  | nil => rfl
  | cons x l ih => rw [strV_cons, if_neg (h x (by simp)), ih (fun y hy => h y (by simp [hy]))]

theorem split_mul (a b c p : Nat) (h1 : a ≤ b) (h2 : b ≤ c) : (c - a) * p = (c - b) * p + (b - a) * p := by
  rw [← Nat.add_mul]; congr 1; omega

theorem KadInv.start (p q r : Nat) : KadInv p q r [] 0 0 :=
  ⟨by simp, .inl rfl, by simp [strV_nil], by simp [strV_nil]⟩

theorem KadInv.step_sound {p q r : Nat} {pre : List (Nat × Nat)} {m last : Nat} (h : KadInv p q r pre m last) (x : Nat × Nat) (hx : last ≤ x.1) :
    m - (x.1 - last) * p + x.2 * q = 0 ∨ ∃ a, a ≤ x.1 ∧ (∃ y ∈ pre ++ [x], y.1 = a) ∧ (∃ y ∈ pre ++ [x], y.1 = x.1) ∧ m - (x.1 - last) * p + x.2 * q + (x.1 - a) * p ≤ strV (pre ++ [x]) a x.1 * q := by
  right
  by_cases hm : m ≤ (x.1 - last) * p
  · refine ⟨x.1, Nat.le_refl _, ⟨x, by simp, rfl⟩, ⟨x, by simp, rfl⟩, ?_⟩
    have e : strV (pre ++ [x]) x.1 x.1 = strV pre x.1 x.1 + x.2 := by
      rw [strV_append, strV_cons, if_pos ⟨Nat.le_refl _, Nat.le_refl _⟩, strV_nil, Nat.add_zero]
    rw [e, Nat.sub_self, Nat.zero_mul, Nat.add_mul]
    omega
  · rcases h.sound with h0 | ⟨a, ha, ⟨y, hy, hya⟩, _, hs⟩
    · omega
    · refine ⟨a, by omega, ⟨y, by simp [hy], hya⟩, ⟨x, by simp, rfl⟩, ?_⟩
      rw [strV_append, strV_cons, if_pos ⟨by omega, Nat.le_refl _⟩, strV_nil, strV_above h.le hx, split_mul a last x.1 p ha hx, Nat.add_zero, Nat.add_mul]
      omega

theorem KadInv.step_whole {p q r : Nat} {pre : List (Nat × Nat)} {m last : Nat} (h : KadInv p q r pre m last) (x : Nat × Nat) (hx : last ≤ x.1) (a : Nat) (ha : a ≤ x.1) :
    strV (pre ++ [x]) a x.1 * q ≤ m - (x.1 - last) * p + x.2 * q + (x.1 - a) * p := by
  rw [strV_append, strV_cons, if_pos ⟨ha, Nat.le_refl _⟩, strV_nil, Nat.add_zero, Nat.add_mul]
  by_cases hl : a ≤ last
  · have := h.whole a hl
    rw [strV_above h.le hx, split_mul a last x.1 p hl hx]
    omega
  · rw [strV_none (fun y hy => by have := h.le y hy; omega), Nat.zero_mul]
    omega

theorem KadInv.step {p q r : Nat} {pre : List (Nat × Nat)} {m last : Nat} (h : KadInv p q r pre m last) (x : Nat × Nat) (hx : last ≤ x.1)
    (hs : m - (x.1 - last) * p + x.2 * q ≤ r * q) : KadInv p q r (pre ++ [x]) (m - (x.1 - last) * p + x.2 * q) x.1 := by
  have hle : ∀ y ∈ pre ++ [x], y.1 ≤ x.1 := by
    intro y hy
    rcases List.mem_append.1 hy with h1 | h1
    · have := h.le y h1; omega
    · rw [List.mem_singleton.1 h1]; exact Nat.le_refl _
  refine ⟨hle, h.step_sound x hx, h.step_whole x hx, ?_⟩
  intro a b hab
  by_cases hb : x.1 ≤ b
  · by_cases ha : a ≤ x.1
    · have := h.step_whole x hx a ha
      rw [strV_above hle hb, split_mul a x.1 b p ha hb]
      omega
    · rw [strV_none (fun y hy => by have := hle y hy; omega)]; omega
  · rw [strV_append, strV_cons, if_neg (by omega), strV_nil]
    exact h.small a b hab

/-- Over rising ticks: no stretch is too full just if the greatest never is; and one that is has its ends among the ticks. -/
theorem fullGo_false {p q r : Nat} : ∀ (l pre : List (Nat × Nat)) (m last : Nat), KadInv p q r pre m last → Rise l → (∀ y ∈ l, last ≤ y.1) → fullGo p q r m last l = false →
    ∀ a b, a ≤ b → strV (pre ++ l) a b * q ≤ r * q + (b - a) * p
  | [], pre, m, last, h, _, _, _ => by simpa using h.small
  | x :: l, pre, m, last, h, hr, hl, hf => by
    have hr' := List.pairwise_cons.1 hr
    unfold fullGo at hf
    by_cases hx : r * q < m - (x.1 - last) * p + x.2 * q
    · rw [if_pos hx] at hf; cases hf
    · rw [if_neg hx] at hf
      have := fullGo_false l (pre ++ [x]) _ _ (h.step x (hl x (by simp)) (by omega)) hr'.2 hr'.1 hf
      simpa using this

theorem strV_le_append (l m : List (Nat × Nat)) (a b : Nat) : strV l a b ≤ strV (l ++ m) a b := by rw [strV_append]; omega

theorem fullGo_true {p q r : Nat} : ∀ (l pre : List (Nat × Nat)) (m last : Nat), KadInv p q r pre m last → Rise l → (∀ y ∈ l, last ≤ y.1) → fullGo p q r m last l = true →
    ∃ x ∈ pre ++ l, ∃ y ∈ pre ++ l, x.1 ≤ y.1 ∧ r * q + (y.1 - x.1) * p < strV (pre ++ l) x.1 y.1 * q
  | [], pre, m, last, h, _, _, hf => by cases hf
  | x :: l, pre, m, last, h, hr, hl, hf => by
    have hr' := List.pairwise_cons.1 hr
    unfold fullGo at hf
    by_cases hx : r * q < m - (x.1 - last) * p + x.2 * q
    · rcases h.step_sound x (hl x (by simp)) with h0 | ⟨a, ha, ⟨y, hy, hya⟩, _, hs⟩
      · omega
      · subst hya
        refine ⟨y, ?_, x, by simp, ha, ?_⟩
        · rcases List.mem_append.1 hy with h1 | h1
          · simp [h1]
          · rw [List.mem_singleton.1 h1]; simp
        · have h2 : strV (pre ++ [x]) y.1 x.1 ≤ strV (pre ++ x :: l) y.1 x.1 := by
            have := strV_le_append (pre ++ [x]) l y.1 x.1
            simpa using this
          have := Nat.mul_le_mul_right q h2
          omega
    · rw [if_neg hx] at hf
      have := fullGo_true l (pre ++ [x]) _ _ (h.step x (hl x (by simp)) (by omega)) hr'.2 hr'.1 hf
      simpa using this

theorem fullV_false {p q r : Nat} {l : List (Nat × Nat)} (hr : Rise l) (h : fullV p q r l = false) : ∀ a b, a ≤ b → strV l a b * q ≤ r * q + (b - a) * p := by
  have := fullGo_false l [] 0 0 (KadInv.start p q r) hr (fun _ _ => Nat.zero_le _) h
  simpa using this
theorem fullV_true {p q r : Nat} {l : List (Nat × Nat)} (hr : Rise l) (h : fullV p q r l = true) : ∃ x ∈ l, ∃ y ∈ l, x.1 ≤ y.1 ∧ r * q + (y.1 - x.1) * p < strV l x.1 y.1 * q := by
  have := fullGo_true l [] 0 0 (KadInv.start p q r) hr (fun _ _ => Nat.zero_le _) h
  simpa using this

/-- One more, by rising ticks, behind all that are not above it. -/
def insV (x : Nat × Nat) : List (Nat × Nat) → List (Nat × Nat)
  | [] => [x]
  | y :: l => if y.1 ≤ x.1 then y :: insV x l else x :: y :: l
def atV (t : Nat) : List (Nat × Nat) → Nat
  | [] => 0
  | y :: l => if y.1 ≤ t then atV t l + 1 else 0
theorem insV_perm (x : Nat × Nat) : ∀ l, (insV x l).Perm (x :: l)
  | [] => List.Perm.refl _
  | y :: l => by
    unfold insV
    split
    · exact ((insV_perm x l).cons y).trans (List.Perm.swap x y l)
    · exact List.Perm.refl _
theorem insV_rise (x : Nat × Nat) : ∀ l, Rise l → Rise (insV x l)
  | [], _ => by simp [insV, Rise]
  | y :: l, h => by
    have h' := List.pairwise_cons.1 h
    unfold insV
    split
    · refine List.pairwise_cons.2 ⟨fun z hz => ?_, insV_rise x l h'.2⟩
      rcases List.mem_cons.1 ((insV_perm x l).mem_iff.1 hz) with rfl | h1
      · assumption
      · exact h'.1 z h1
    · refine List.pairwise_cons.2 ⟨fun z hz => ?_, h⟩
      rcases List.mem_cons.1 hz with rfl | h1
      · omega
      · have := h'.1 z h1; omega
theorem insV_at (x : Nat × Nat) : ∀ l, insV x l = l.take (atV x.1 l) ++ x :: l.drop (atV x.1 l)
  | [] => rfl
  | y :: l => by
    unfold insV atV
    split
    · simp [insV_at x l]
    · simp
theorem atV_le (t : Nat) : ∀ l, atV t l ≤ l.length
  | [] => Nat.le_refl _
  | y :: l => by
    unfold atV
    split
    · have := atV_le t l; simp; omega
    · omega
theorem atV_below (t : Nat) : ∀ l : List (Nat × Nat), ∀ i (hi : i < l.length), i < atV t l → (l[i]'hi).1 ≤ t
  | [], i, hi, _ => by simp at hi
  | y :: l, i, hi, h => by
    unfold atV at h
    split at h
    · cases i with
      | zero => simpa
      | succ i => simpa using atV_below t l i (by simpa using hi) (by omega)
    · omega
theorem atV_above (t : Nat) : ∀ l : List (Nat × Nat), Rise l → ∀ i (hi : i < l.length), atV t l ≤ i → t < (l[i]'hi).1
  | [], _, i, hi, _ => by simp at hi
  | y :: l, hr, i, hi, h => by
    have h' := List.pairwise_cons.1 hr
    unfold atV at h
    split at h
    · cases i with
      | zero => omega
      | succ i => simpa using atV_above t l h'.2 i (by simpa using hi) (by omega)
    · cases i with
      | zero => simp; omega
      | succ i =>
        have := h'.1 (l[i]'(by simpa using hi)) (List.getElem_mem _)
        simp; omega

def bigV : Nat := 72057594038976512
/-- The place of the first with which a stretch is too full. -/
def fitsGo (p q r : Nat) : Nat → List (Nat × Nat) → List (Nat × Nat) → Nat
  | i, _, [] => i
  | i, sofar, x :: l => if bigV < x.2 then i else if fullV p q r (insV x sofar) then i else fitsGo p q r (i + 1) (insV x sofar) l

theorem fullV_of {p q r : Nat} {l : List (Nat × Nat)} (hr : Rise l) (h : ∀ a b, a ≤ b → strV l a b * q ≤ r * q + (b - a) * p) : fullV p q r l = false := by
  cases hf : fullV p q r l with
  | false => rfl
  | true =>
    obtain ⟨x, _, y, _, h1, h2⟩ := fullV_true hr hf
    have := h x.1 y.1 h1
    omega

theorem fitsGo_all {p q r : Nat} : ∀ (l sofar : List (Nat × Nat)) (i : Nat), Rise sofar → (∀ a b, a ≤ b → strV (sofar ++ l) a b * q ≤ r * q + (b - a) * p) → (∀ x ∈ l, x.2 ≤ bigV) → fitsGo p q r i sofar l = i + l.length
  | [], _, i, _, _, _ => rfl
  | x :: l, sofar, i, hr, hs, hb => by
    have hx := hb x (by simp)
    have hp : ∀ a b, strV (insV x sofar) a b = strV (sofar ++ [x]) a b := fun a b => by
      rw [strV_perm (insV_perm x sofar), strV_append, strV_cons, strV_cons, strV_nil]; omega
    have hf : fullV p q r (insV x sofar) = false := fullV_of (insV_rise x sofar hr) (fun a b hab => by
      have h1 := hs a b hab
      have h2 := strV_le_append (sofar ++ [x]) l a b
      rw [List.append_assoc, List.singleton_append] at h2
      rw [hp]
      have := Nat.mul_le_mul_right q h2
      omega)
    unfold fitsGo
    rw [if_neg (by omega), hf, if_neg (by simp), fitsGo_all l (insV x sofar) (i + 1) (insV_rise x sofar hr) ?_ (fun y hy => hb y (by simp [hy]))]
    · simp; omega
    · intro a b hab
      rw [strV_append, hp, ← strV_append, List.append_assoc, List.singleton_append]
      exact hs a b hab

theorem fitsGo_ge {p q r : Nat} : ∀ (l sofar : List (Nat × Nat)) (i : Nat), i ≤ fitsGo p q r i sofar l
  | [], _, i => Nat.le_refl _
  | x :: l, sofar, i => by
    unfold fitsGo
    split
    · exact Nat.le_refl _
    · split
      · exact Nat.le_refl _
      · have := fitsGo_ge (p := p) (q := q) (r := r) l (insV x sofar) (i + 1); omega

theorem fitsGo_le {p q r : Nat} : ∀ (l sofar : List (Nat × Nat)) (i : Nat), fitsGo p q r i sofar l ≤ i + l.length
  | [], _, i => Nat.le_refl _
  | x :: l, sofar, i => by
    unfold fitsGo
    split
    · simp
    · split
      · simp
      · have := fitsGo_le (p := p) (q := q) (r := r) l (insV x sofar) (i + 1); simp; omega
end Go.Proofs.Ythhddmamlpnjpaa
