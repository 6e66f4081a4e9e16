/- Addresses as numbers below 2^128: bytes, masks, first bits. Plain numbers; no program here. -/
import Derived.Lib.BitFns
import Derived.Lib.ItoaNum
import Derived.Lib.Join
import Derived.Lib.SplitLaws
namespace Go.Proofs.YtgpiapmbbnngpaaGreatDoor

/-- The i-th byte of an address. -/
def byteAt (n i : Nat) : Nat := n / 2 ^ (120 - 8 * i) % 256
/-- The first k bits, the others 0. -/
def maskN (n k : Nat) : Nat := n / 2 ^ (128 - k) * 2 ^ (128 - k)
/-- What becomes of the i-th byte. -/
def maskB (k i x : Nat) : Nat := if k ≤ 8 * i then 0 else if k < 8 * i + 8 then x / 2 ^ (8 * i + 8 - k) * 2 ^ (8 * i + 8 - k) else x

theorem byteAt_lt (n i : Nat) : byteAt n i < 256 := Nat.mod_lt _ (by omega)
theorem byteAt_bit (n i j : Nat) : (byteAt n i).testBit j = (decide (j < 8) && n.testBit (120 - 8 * i + j)) := by
  unfold byteAt
  rw [show (256 : Nat) = 2 ^ 8 by rfl, Nat.testBit_mod_two_pow, Nat.testBit_div_two_pow, Nat.add_comm]
theorem maskN_bit (n k j : Nat) : (maskN n k).testBit j = (decide (128 - k ≤ j) && n.testBit j) := by
  unfold maskN
  rw [Nat.testBit_mul_two_pow, Nat.testBit_div_two_pow]
  by_cases h : 128 - k ≤ j
  · rw [show j - (128 - k) + (128 - k) = j by omega]
  · simp [h]

theorem mask_byte (n k i : Nat) (hi : i < 16) (hk : k ≤ 128) : byteAt (maskN n k) i = maskB k i (byteAt n i) := by
  apply Nat.eq_of_testBit_eq
  intro j
  rw [byteAt_bit, maskN_bit]
  unfold maskB
  by_cases h1 : k ≤ 8 * i
  · rw [if_pos h1, Nat.zero_testBit]
    by_cases h : j < 8
    · have : ¬ (128 - k ≤ 120 - 8 * i + j) := by omega
      simp [this]
    · simp [h]
  · rw [if_neg h1]
    by_cases h2 : k < 8 * i + 8
    · rw [if_pos h2, Nat.testBit_mul_two_pow, Nat.testBit_div_two_pow]
      by_cases h3 : 8 * i + 8 - k ≤ j
      · rw [show j - (8 * i + 8 - k) + (8 * i + 8 - k) = j by omega, byteAt_bit]
        have : 128 - k ≤ 120 - 8 * i + j := by omega
        simp [h3, this]
      · have : ¬ (128 - k ≤ 120 - 8 * i + j) := by omega
        simp [h3, this]
    · rw [if_neg h2, byteAt_bit]
      by_cases h : j < 8
      · have : 128 - k ≤ 120 - 8 * i + j := by omega
        simp [this]
      · simp [h]

/-- An address is its bytes. -/
theorem byteAt_inj {n m : Nat} (hn : n < 2 ^ 128) (hm : m < 2 ^ 128) (h : ∀ i, i < 16 → byteAt n i = byteAt m i) : n = m := by
  apply Nat.eq_of_testBit_eq
  intro j
  by_cases hj : j < 128
  · have h1 := h (15 - j / 8) (by omega)
    have h2 : (byteAt n (15 - j / 8)).testBit (j % 8) = (byteAt m (15 - j / 8)).testBit (j % 8) := by rw [h1]
    rw [byteAt_bit, byteAt_bit] at h2
    have e : 120 - 8 * (15 - j / 8) + j % 8 = j := by omega
    have l : j % 8 < 8 := by omega
    rw [e] at h2
    simpa [l] using h2
  · rw [Nat.testBit_lt_two_pow (Nat.lt_of_lt_of_le hn (Nat.pow_le_pow_right (by omega) (by omega))), Nat.testBit_lt_two_pow (Nat.lt_of_lt_of_le hm (Nat.pow_le_pow_right (by omega) (by omega)))]

theorem maskN_le (n k : Nat) : maskN n k ≤ n := Nat.div_mul_le_self _ _
theorem maskN_all (n : Nat) : maskN n 128 = n := by simp [maskN]
theorem maskN_mask (n a b : Nat) : maskN (maskN n a) b = maskN n (min a b) := by
  apply Nat.eq_of_testBit_eq
  intro j
  rw [maskN_bit, maskN_bit, maskN_bit, ← Bool.and_assoc]
  congr 1
  by_cases h1 : 128 - a ≤ j <;> by_cases h2 : 128 - b ≤ j <;> simp [h1, h2] <;> omega
/-- The first k bits are the same. -/
def sameK (n m k : Nat) : Bool := decide (n / 2 ^ (128 - k) = m / 2 ^ (128 - k))
theorem sameK_mask (n m k : Nat) : sameK n m k = decide (maskN n k = maskN m k) := by
  unfold sameK maskN
  have hp : 0 < 2 ^ (128 - k) := Nat.pos_of_ne_zero (by simp)
  by_cases h : n / 2 ^ (128 - k) = m / 2 ^ (128 - k)
  · rw [decide_eq_true h, decide_eq_true (by rw [h])]
  · rw [decide_eq_false h, decide_eq_false (fun h2 => h (Nat.eq_of_mul_eq_mul_right hp h2))]
theorem sameK_bits (n m k : Nat) (hn : n < 2 ^ 128) (hm : m < 2 ^ 128) : sameK n m k = true ↔ ∀ j, 128 - k ≤ j → j < 128 → n.testBit j = m.testBit j := by
  rw [sameK_mask, decide_eq_true_eq]
  constructor
  · intro h j h1 h2
    have h3 : (maskN n k).testBit j = (maskN m k).testBit j := by rw [h]
    rw [maskN_bit, maskN_bit] at h3
    simpa [h1] using h3
  · intro h
    apply Nat.eq_of_testBit_eq
    intro j
    rw [maskN_bit, maskN_bit]
    by_cases h1 : 128 - k ≤ j
    · by_cases h2 : j < 128
      · rw [h j h1 h2]
      · rw [Nat.testBit_lt_two_pow (Nat.lt_of_lt_of_le hn (Nat.pow_le_pow_right (by omega) (by omega))), Nat.testBit_lt_two_pow (Nat.lt_of_lt_of_le hm (Nat.pow_le_pow_right (by omega) (by omega)))]
    · simp [h1]
theorem sameK_le {n m a b : Nat} (h : sameK n m b = true) (hab : a ≤ b) : sameK n m a = true := by
  rw [sameK_mask, decide_eq_true_eq] at h ⊢
  have e : ∀ x, maskN x a = maskN (maskN x b) a := fun x => by rw [maskN_mask, Nat.min_eq_right hab]
  rw [e n, e m, h]
end Go.Proofs.YtgpiapmbbnngpaaGreatDoor

/- Addresses and prefixes as numbers: what is checked, had, covered, compared, halved; the tree's laws. Plain numbers; no program here. -/
namespace Go.Proofs.YtgpiapmbbnngpaaGreatDoor

def wid (v : Bool) : Nat := if v then 128 else 32
theorem wid_le (v : Bool) : wid v ≤ 128 := by cases v <;> decide
def okA (v : Bool) (n : Nat) : Bool := decide (maskN n (wid v) = n)
def okP (v : Bool) (n : Nat) (k : Int) : Bool := decide (0 ≤ k) && decide (k ≤ wid v) && decide (maskN n k.toNat = n)
def hasP (v : Bool) (n : Nat) (k : Int) (v' : Bool) (m : Nat) : Bool := okP v n k && okA v' m && (v' == v) && sameK m n k.toNat
def covP (v : Bool) (n : Nat) (k : Int) (v' : Bool) (m : Nat) (j : Int) : Bool := okP v' m j && decide (k ≤ j) && hasP v n k v' m
def cmpP (v : Bool) (n : Nat) (k : Int) (v' : Bool) (m : Nat) (j : Int) : Int :=
  if v ≠ v' then (if v then 1 else -1) else if n < m then -1 else if m < n then 1 else if k < j then -1 else if j < k then 1 else 0
/-- The second half's address. -/
def highN (n k : Nat) : Nat := n ||| 2 ^ (127 - k)

theorem sameK_refl (n k : Nat) : sameK n n k = true := by simp [sameK]
theorem sameK_comm (n m k : Nat) : sameK n m k = sameK m n k := by unfold sameK; congr 1; exact propext ⟨Eq.symm, Eq.symm⟩
theorem sameK_tr {n m r k : Nat} (h : sameK n m k = true) : sameK n r k = sameK m r k := by
  unfold sameK at *; rw [decide_eq_true_eq] at h; rw [h]
theorem sameK_maskR (n a k : Nat) (h : k ≤ a) : sameK n (maskN n a) k = true := by
  rw [sameK_mask, decide_eq_true_eq, maskN_mask, Nat.min_eq_right h]
theorem sameK_maskL {n m a k : Nat} (h : k ≤ a) : sameK (maskN n a) m k = sameK n m k :=
  (sameK_tr (sameK_maskR n a k h)).symm
theorem sameK_maskL' {n m a k : Nat} (h : k ≤ a) : sameK m (maskN n a) k = sameK m n k := by
  rw [sameK_comm, sameK_maskL h, sameK_comm]

section Tree
variable {va vb : Bool} {a b ka kb : Nat}

theorem okA_mask (v : Bool) (n : Nat) (k : Nat) (h : k ≤ wid v) : okA v (maskN n k) = true := by
  unfold okA; rw [decide_eq_true_eq, maskN_mask, Nat.min_eq_left h]
theorem okA_right (v : Bool) (n : Nat) : okA v (maskN n (wid v)) = true := okA_mask v n _ (Nat.le_refl _)
theorem okP_mask (v : Bool) (n : Nat) (k : Nat) (h : k ≤ wid v) : okP v (maskN n k) k = true := by
  unfold okP; simp only [Bool.and_eq_true, decide_eq_true_eq]
  exact ⟨⟨by omega, by omega⟩, by rw [Int.toNat_natCast, maskN_mask, Nat.min_self]⟩

/-- What it is to have an address, of a prefix that was made. -/
theorem has_made (v : Bool) (n k : Nat) (v' : Bool) (m : Nat) (hk : k ≤ wid v) (hm : okA v' m = true) : hasP v (maskN n k) k v' m = (v' == v && sameK m n k) := by
  unfold hasP
  rw [okP_mask v n k hk, hm, Int.toNat_natCast, sameK_maskL' (Nat.le_refl _)]
  simp
theorem cov_made (v : Bool) (n k : Nat) (v' : Bool) (m j : Nat) (hk : k ≤ wid v) (hj : j ≤ wid v') : covP v (maskN n k) k v' (maskN m j) j = (decide (k ≤ j) && (v' == v) && sameK m n k) := by
  unfold covP
  rw [okP_mask v' m j hj, has_made v n k v' _ hk (okA_mask v' m j hj)]
  by_cases h : k ≤ j
  · rw [sameK_maskL h]; simp [h]
  · simp [h]

theorem tree_has (v : Bool) (n k : Nat) (hk : k ≤ wid v) (hn : okA v n = true) : hasP v (maskN n k) k v n = true := by
  rw [has_made v n k v n hk hn, sameK_refl]; simp
theorem tree_cov (v : Bool) (n k : Nat) (hk : k ≤ wid v) : covP v (maskN n k) k v (maskN n k) k = true := by
  rw [cov_made v n k v n k hk hk, sameK_refl]; simp
theorem tree_both (hka : ka ≤ wid va) (hkb : kb ≤ wid vb) : (covP va (maskN a ka) ka vb (maskN b kb) kb && covP vb (maskN b kb) kb va (maskN a ka) ka) = decide (va = vb ∧ maskN a ka = maskN b kb ∧ ka = kb) := by
  rw [cov_made va a ka vb b kb hka hkb, cov_made vb b kb va a ka hkb hka]
  by_cases h : ka = kb
  · subst h
    rw [sameK_comm b a ka, sameK_mask a b ka]
    cases va <;> cases vb <;> simp
  · have : (decide (ka ≤ kb) && decide (kb ≤ ka)) = false := by
      simp only [Bool.and_eq_false_iff, decide_eq_false_iff_not]; omega
    have e : decide (va = vb ∧ maskN a ka = maskN b kb ∧ ka = kb) = false := decide_eq_false (fun q => h q.2.2)
    rw [e]
    by_cases h1 : ka ≤ kb
    · have h2 : ¬ kb ≤ ka := by omega
      simp [h2]
    · simp [h1]
theorem tree_in (hka : ka ≤ wid va) (hkb : kb ≤ wid vb) (hb : okA vb b = true) : hasP va (maskN a ka) ka vb b = (covP va (maskN a ka) ka vb (maskN b kb) kb || covP vb (maskN b kb) kb va (maskN a ka) ka && hasP va (maskN a ka) ka vb b) := by
  rw [cov_made va a ka vb b kb hka hkb, cov_made vb b kb va a ka hkb hka, has_made va a ka vb b hka hb]
  by_cases h1 : ka ≤ kb
  · simp only [h1, decide_true, Bool.true_and]
    generalize sameK b a ka = x
    cases va <;> cases vb <;> cases x <;> simp
  · have h2 : kb ≤ ka := by omega
    simp only [h1, h2, decide_true, decide_false, Bool.true_and, Bool.false_and, Bool.false_or]
    by_cases h3 : sameK b a ka = true
    · have := sameK_le h3 h2
      rw [sameK_comm a b kb, this, h3]
      cases va <;> cases vb <;> simp
    · simp [h3]
theorem tree_share (hka : ka ≤ wid va) (hkb : kb ≤ wid vb) : (hasP va (maskN a ka) ka vb (maskN b kb) || hasP vb (maskN b kb) kb va (maskN a ka)) = (covP va (maskN a ka) ka vb (maskN b kb) kb || covP vb (maskN b kb) kb va (maskN a ka) ka) := by
  rw [cov_made va a ka vb b kb hka hkb, cov_made vb b kb va a ka hkb hka, has_made va a ka vb _ hka (okA_mask vb b kb hkb), has_made vb b kb va _ hkb (okA_mask va a ka hka)]
  by_cases h1 : ka ≤ kb
  · by_cases h2 : kb ≤ ka
    · have h3 : ka = kb := by omega
      subst h3
      rw [sameK_maskL (Nat.le_refl _), sameK_maskL (Nat.le_refl _)]; simp
    · rw [sameK_maskL h1]
      simp only [h1, h2, decide_true, decide_false, Bool.true_and, Bool.false_and, Bool.or_false]
      by_cases h3 : sameK (maskN a ka) b kb = true
      · have h4 := sameK_le h3 h1
        rw [sameK_maskL (Nat.le_refl _), sameK_comm] at h4
        rw [h3, h4]; cases va <;> cases vb <;> simp
      · simp [h3]
  · have h2 : kb ≤ ka := by omega
    rw [sameK_maskL h2]
    simp only [h1, h2, decide_true, decide_false, Bool.true_and, Bool.false_and, Bool.false_or]
    by_cases h3 : sameK (maskN b kb) a ka = true
    · have h4 := sameK_le h3 h2
      rw [sameK_maskL (Nat.le_refl _), sameK_comm] at h4
      rw [h3, h4]; cases va <;> cases vb <;> simp
    · simp [h3]
/-- A whole address has itself alone. -/
theorem tree_one (ha : okA va a = true) (hb : okA vb b = true) : hasP va (maskN a (wid va)) (wid va : Nat) vb b = decide (va = vb ∧ a = b) := by
  rw [has_made va a _ vb b (Nat.le_refl _) hb, sameK_mask]
  unfold okA at ha hb
  rw [decide_eq_true_eq] at ha hb
  by_cases h : va = vb
  · subst h
    rw [ha, hb]
    have e : decide (b = a) = decide (a = b) := by congr 1; exact propext ⟨Eq.symm, Eq.symm⟩
    simp [e]
  · have e : decide (va = vb ∧ a = b) = false := decide_eq_false (fun q => h q.1)
    rw [e]
    have : (vb == va) = false := by cases va <;> cases vb <;> simp_all
    simp [this]

/-- The half above: the mask's next bit set. -/
theorem high_div (n k : Nat) (hk : k < 128) : highN (maskN n k) k / 2 ^ (127 - k) = 2 * (n / 2 ^ (128 - k)) + 1 := by
  have e2 : 2 ^ (128 - k) = 2 ^ (127 - k) * 2 := by rw [← Nat.pow_succ]; congr 1; omega
  have hp : 0 < 2 ^ (127 - k) := Nat.pos_of_ne_zero (by simp)
  have e : highN (maskN n k) k = maskN n k + 2 ^ (127 - k) := by
    unfold highN
    apply Nat.eq_of_testBit_eq
    intro j
    have e3 : maskN n k + 2 ^ (127 - k) = 2 ^ (128 - k) * (n / 2 ^ (128 - k)) + 2 ^ (127 - k) := by unfold maskN; rw [Nat.mul_comm]
    rw [e3, Nat.testBit_two_pow_mul_add _ (by rw [e2]; omega), Nat.testBit_or, maskN_bit, Nat.testBit_two_pow]
    by_cases h : j < 128 - k
    · have h2 : ¬ (128 - k ≤ j) := by omega
      simp [h, h2]
    · have h2 : 128 - k ≤ j := by omega
      have h3 : ¬ (127 - k = j) := by omega
      rw [if_neg h]
      simp [h2, h3, Nat.testBit_div_two_pow]
  rw [e]
  unfold maskN
  generalize n / 2 ^ (128 - k) = c
  rw [e2, show c * (2 ^ (127 - k) * 2) + 2 ^ (127 - k) = (2 * c + 1) * 2 ^ (127 - k) by
    rw [Nat.add_mul, Nat.one_mul, Nat.mul_comm 2 c, Nat.mul_assoc, Nat.mul_comm 2]]
  exact Nat.mul_div_cancel _ hp
theorem half_div (n k : Nat) (hk : k < 128) : n / 2 ^ (127 - k) / 2 = n / 2 ^ (128 - k) := by
  rw [Nat.div_div_eq_div_mul, ← Nat.pow_succ]; congr 2; omega
theorem low_div (n k : Nat) (hk : k < 128) : maskN n k / 2 ^ (127 - k) = 2 * (n / 2 ^ (128 - k)) := by
  have e2 : 2 ^ (128 - k) = 2 ^ (127 - k) * 2 := by rw [← Nat.pow_succ]; congr 1; omega
  have hp : 0 < 2 ^ (127 - k) := Nat.pos_of_ne_zero (by simp)
  unfold maskN
  generalize n / 2 ^ (128 - k) = c
  rw [e2, show c * (2 ^ (127 - k) * 2) = (2 * c) * 2 ^ (127 - k) by rw [Nat.mul_comm 2 c, Nat.mul_assoc, Nat.mul_comm 2]]
  exact Nat.mul_div_cancel _ hp
theorem high_mask (n k : Nat) (hk : k < 128) : maskN (highN (maskN n k) k) (k + 1) = highN (maskN n k) k := by
  apply Nat.eq_of_testBit_eq
  intro j
  rw [maskN_bit]
  unfold highN
  rw [Nat.testBit_or, maskN_bit, Nat.testBit_two_pow]
  by_cases h : 128 - (k + 1) ≤ j
  · rw [decide_eq_true h, Bool.true_and]
  · have h2 : ¬ (128 - k ≤ j) := by omega
    have h3 : ¬ (127 - k = j) := by omega
    simp only [h2, h3, decide_false, Bool.false_and, Bool.false_or, Bool.and_false]
theorem low_mask (n k : Nat) : maskN (maskN n k) (k + 1) = maskN n k := by
  rw [maskN_mask, Nat.min_eq_left (by omega)]

variable (n k m : Nat)
theorem has_low (v v' : Bool) (hk : k < wid v) (hm : okA v' m = true) : hasP v (maskN n k) ((k : Int) + 1) v' m = (v' == v && decide (m / 2 ^ (127 - k) = 2 * (n / 2 ^ (128 - k)))) := by
  have hw := wid_le v
  have h := has_made v (maskN n k) (k + 1) v' m (by omega) hm
  rw [low_mask] at h
  rw [show ((k : Int) + 1) = ((k + 1 : Nat) : Int) by omega, h]
  unfold sameK
  rw [show 128 - (k + 1) = 127 - k by omega, low_div n k (by omega)]
theorem has_high (v v' : Bool) (hk : k < wid v) (hm : okA v' m = true) : hasP v (highN (maskN n k) k) ((k : Int) + 1) v' m = (v' == v && decide (m / 2 ^ (127 - k) = 2 * (n / 2 ^ (128 - k)) + 1)) := by
  have hw := wid_le v
  have h := has_made v (highN (maskN n k) k) (k + 1) v' m (by omega) hm
  rw [high_mask n k (by omega)] at h
  rw [show ((k : Int) + 1) = ((k + 1 : Nat) : Int) by omega, h]
  unfold sameK
  rw [show 128 - (k + 1) = 127 - k by omega, high_div n k (by omega)]
theorem tree_part (v v' : Bool) (hk : k < wid v) (hm : okA v' m = true) : hasP v (maskN n k) k v' m = (hasP v (maskN n k) ((k : Int) + 1) v' m || hasP v (highN (maskN n k) k) ((k : Int) + 1) v' m) := by
  have hw := wid_le v
  rw [has_low n k m v v' hk hm, has_high n k m v v' hk hm, has_made v n k v' m (by omega) hm]
  unfold sameK
  rw [← half_div m k (by omega)]
  generalize m / 2 ^ (127 - k) = x
  generalize n / 2 ^ (128 - k) = y
  by_cases h1 : x = 2 * y
  · have h3 : x / 2 = y := by omega
    have h4 : ¬ (x = 2 * y + 1) := by omega
    rw [decide_eq_true h3, decide_eq_true h1, decide_eq_false h4]; simp
  · by_cases h2 : x = 2 * y + 1
    · have h3 : x / 2 = y := by omega
      rw [decide_eq_true h3, decide_eq_true h2, decide_eq_false h1]; simp
    · have h3 : ¬ (x / 2 = y) := by omega
      rw [decide_eq_false h3, decide_eq_false h2, decide_eq_false h1]; simp
theorem tree_apart (v v' : Bool) (hk : k < wid v) (hm : okA v' m = true) : (hasP v (maskN n k) ((k : Int) + 1) v' m && hasP v (highN (maskN n k) k) ((k : Int) + 1) v' m) = false := by
  rw [has_low n k m v v' hk hm, has_high n k m v v' hk hm]
  by_cases h : m / 2 ^ (127 - k) = 2 * (n / 2 ^ (128 - k))
  · have : ¬ (m / 2 ^ (127 - k) = 2 * (n / 2 ^ (128 - k)) + 1) := by omega
    simp [this]
  · simp [h]
theorem tree_either (v : Bool) (hk : k < wid v) (hm : okA v n = true) : hasP v (highN (maskN n k) k) ((k : Int) + 1) v n = !hasP v (maskN n k) ((k : Int) + 1) v n := by
  have h1 := tree_part n k n v v hk hm
  have h2 := tree_apart n k n v v hk hm
  rw [tree_has v n k (by omega) hm] at h1
  revert h1 h2
  generalize hasP v (maskN n k) ((k : Int) + 1) v n = x
  generalize hasP v (highN (maskN n k) k) ((k : Int) + 1) v n = y
  cases x <;> cases y <;> simp
theorem okP_low (v : Bool) (hk : k < wid v) : okP v (maskN n k) ((k : Int) + 1) = true := by
  have := okP_mask v (maskN n k) (k + 1) (by omega)
  rwa [low_mask] at this
theorem okP_high (v : Bool) (hk : k < wid v) : okP v (highN (maskN n k) k) ((k : Int) + 1) = true := by
  have hw := wid_le v
  have := okP_mask v (highN (maskN n k) k) (k + 1) (by omega)
  rwa [high_mask n k (by omega)] at this
theorem okA_high (v : Bool) (hk : k < wid v) : okA v (highN (maskN n k) k) = true := by
  have hw := wid_le v
  have := okA_mask v (highN (maskN n k) k) (k + 1) (by omega)
  rwa [high_mask n k (by omega)] at this
theorem high_lt (hk : k < 128) : maskN n k < highN (maskN n k) k := by
  have h1 := low_div n k hk
  have h2 := high_div n k hk
  refine Nat.lt_of_not_le fun h => ?_
  have := Nat.div_le_div_right (c := 2 ^ (127 - k)) h
  omega
theorem tree_rise (v : Bool) (hk : k < wid v) : cmpP v (maskN n k) ((k : Int) + 1) v (highN (maskN n k) k) ((k : Int) + 1) = -1 := by
  have hw := wid_le v
  unfold cmpP
  rw [if_neg (by simp), if_pos (high_lt n k (by omega))]
theorem tree_first (v : Bool) : cmpP v (maskN n k) k v (maskN n k) ((k : Int) + 1) = -1 := by
  unfold cmpP
  rw [if_neg (by simp), if_neg (by omega), if_neg (by omega), if_pos (by omega)]
theorem tree_low (v : Bool) (hk : k < wid v) : covP v (maskN n k) k v (maskN n k) ((k : Int) + 1) = true := by
  unfold covP
  rw [okP_low n k v hk, tree_part n k (maskN n k) v v hk (okA_mask v n k (by omega)), has_low n k (maskN n k) v v hk (okA_mask v n k (by omega)), low_div n k (by have := wid_le v; omega)]
  simp; omega
theorem tree_high (v : Bool) (hk : k < wid v) : covP v (maskN n k) k v (highN (maskN n k) k) ((k : Int) + 1) = true := by
  unfold covP
  rw [okP_high n k v hk, tree_part n k (highN (maskN n k) k) v v hk (okA_high n k v hk), has_high n k (highN (maskN n k) k) v v hk (okA_high n k v hk), high_div n k (by have := wid_le v; omega)]
  simp; omega
theorem tree_off1 (v : Bool) (hk : k < wid v) : covP v (maskN n k) ((k : Int) + 1) v (highN (maskN n k) k) ((k : Int) + 1) = false := by
  unfold covP
  rw [has_low n k (highN (maskN n k) k) v v hk (okA_high n k v hk), high_div n k (by have := wid_le v; omega)]
  simp
theorem tree_off2 (v : Bool) (hk : k < wid v) : covP v (highN (maskN n k) k) ((k : Int) + 1) v (maskN n k) ((k : Int) + 1) = false := by
  unfold covP
  rw [has_high n k (maskN n k) v v hk (okA_mask v n k (by omega)), low_div n k (by have := wid_le v; omega)]
  simp
end Tree
end Go.Proofs.YtgpiapmbbnngpaaGreatDoor

/- How many first bits two rows of bytes have in common; which row is less. Plain numbers; no program here. -/
namespace Go.Proofs.YtgpiapmbbnngpaaGreatDoor

def commonB : List Nat → List Nat → Nat
  | x :: xs, y :: ys => if x = y then 8 + commonB xs ys else 8 - Lib.bitLen (x ^^^ y)
  | _, _ => 0

theorem bitLen_iff (z j : Nat) (hz : z < 256) (hj : j ≤ 64) : Lib.bitLen z ≤ j ↔ z < 2 ^ j := by
  constructor
  · intro h
    by_cases h0 : z = 0
    · subst h0; exact Nat.pos_of_ne_zero (by simp)
    · have := (Lib.bitLenAux_bounds 64 z (Nat.lt_of_lt_of_le hz (by decide)) h0).2.2
      exact Nat.lt_of_lt_of_le this (Nat.pow_le_pow_right (by omega) h)
  · intro h
    exact Lib.bitLen_le z j hj h
theorem xor_small (x y j : Nat) : x ^^^ y < 2 ^ j ↔ x / 2 ^ j = y / 2 ^ j := by
  constructor
  · intro h
    apply Nat.eq_of_testBit_eq
    intro i
    rw [Nat.testBit_div_two_pow, Nat.testBit_div_two_pow]
    have := Nat.testBit_lt_two_pow (Nat.lt_of_lt_of_le h (Nat.pow_le_pow_right (by omega) (Nat.le_add_left j i)))
    rw [Nat.testBit_xor] at this
    revert this
    cases x.testBit (i + j) <;> cases y.testBit (i + j) <;> simp
  · intro h
    apply Nat.lt_pow_two_of_testBit
    intro i hi
    have : (x / 2 ^ j).testBit (i - j) = (y / 2 ^ j).testBit (i - j) := by rw [h]
    rw [Nat.testBit_div_two_pow, Nat.testBit_div_two_pow, Nat.sub_add_cancel hi] at this
    rw [Nat.testBit_xor, this]
    cases y.testBit i <;> rfl
theorem common_byte (x y k : Nat) (hx : x < 256) (hy : y < 256) (hk : k ≤ 8) : k ≤ 8 - Lib.bitLen (x ^^^ y) ↔ x / 2 ^ (8 - k) = y / 2 ^ (8 - k) := by
  have hz : x ^^^ y < 256 := Nat.xor_lt_two_pow (n := 8) hx hy
  have h8 : Lib.bitLen (x ^^^ y) ≤ 8 := (bitLen_iff _ 8 hz (by omega)).2 hz
  rw [← xor_small, ← bitLen_iff _ (8 - k) hz (by omega)]
  omega
theorem maskB_up (k i x : Nat) : maskB (k + 8) (i + 1) x = maskB k i x := by
  unfold maskB
  rw [show 8 * (i + 1) + 8 - (k + 8) = 8 * i + 8 - k by omega]
  by_cases h1 : k ≤ 8 * i
  · rw [if_pos h1, if_pos (by omega)]
  · rw [if_neg h1, if_neg (by omega)]
    by_cases h2 : k < 8 * i + 8
    · rw [if_pos h2, if_pos (by omega)]
    · rw [if_neg h2, if_neg (by omega)]
/-- A first byte, of which bits stay. -/
theorem maskB_one (k x y : Nat) (hk : k ≤ 8) (hx : x < 256) (hy : y < 256) : maskB k 0 x = maskB k 0 y ↔ x / 2 ^ (8 - k) = y / 2 ^ (8 - k) := by
  unfold maskB
  simp only [Nat.mul_zero, Nat.zero_add]
  by_cases h1 : k ≤ 0
  · rw [if_pos h1, if_pos h1]
    have : k = 0 := by omega
    subst this
    simp; omega
  · rw [if_neg h1, if_neg h1]
    by_cases h2 : k < 8
    · rw [if_pos h2, if_pos h2]
      have hp : 0 < 2 ^ (8 - k) := Nat.pos_of_ne_zero (by simp)
      exact ⟨fun h => Nat.eq_of_mul_eq_mul_right hp h, fun h => by rw [h]⟩
    · rw [if_neg h2, if_neg h2]
      have : k = 8 := by omega
      subst this
      simp

theorem common_ge : ∀ (xs ys : List Nat) (k : Nat), xs.length = ys.length → (∀ x ∈ xs, x < 256) → (∀ y ∈ ys, y < 256) → k ≤ 8 * xs.length →
    (k ≤ commonB xs ys ↔ ∀ i x y, xs[i]? = some x → ys[i]? = some y → maskB k i x = maskB k i y)
  | [], ys, k, _, _, _, hk => by
    simp at hk; subst hk; simp
  | x :: xs, [], k, hl, _, _, _ => by simp at hl
  | x :: xs, y :: ys, k, hl, hx, hy, hk => by
    have hx0 : x < 256 := hx x (by simp)
    have hy0 : y < 256 := hy y (by simp)
    have hl2 : xs.length = ys.length := by simpa using hl
    have h0 : ∀ j a b, k ≤ 8 → maskB k (j + 1) a = maskB k (j + 1) b := by
      intro j a b h; unfold maskB; rw [if_pos (by omega), if_pos (by omega)]
    unfold commonB
    by_cases h : x = y
    · subst h
      rw [if_pos rfl]
      by_cases h8 : k ≤ 8
      · refine ⟨fun _ i a b ha hb => ?_, fun _ => by omega⟩
        cases i with
        | zero => simp at ha hb; rw [← ha, ← hb]
        | succ j => exact h0 j a b h8
      · obtain ⟨k', rfl⟩ : ∃ k', k = k' + 8 := ⟨k - 8, by omega⟩
        have ih := common_ge xs ys k' hl2 (fun z hz => hx z (by simp [hz])) (fun z hz => hy z (by simp [hz])) (by simp at hk; omega)
        rw [show k' + 8 ≤ 8 + commonB xs ys ↔ k' ≤ commonB xs ys by omega, ih]
        constructor
        · intro hh i a b ha hb
          cases i with
          | zero => simp at ha hb; rw [← ha, ← hb]
          | succ j => rw [maskB_up, maskB_up]; exact hh j a b (by simpa using ha) (by simpa using hb)
        · intro hh i a b ha hb
          have := hh (i + 1) a b (by simpa using ha) (by simpa using hb)
          rwa [maskB_up, maskB_up] at this
    · rw [if_neg h]
      by_cases h8 : k ≤ 8
      · rw [common_byte x y k hx0 hy0 h8, ← maskB_one k x y h8 hx0 hy0]
        constructor
        · intro hh i a b ha hb
          cases i with
          | zero => simp at ha hb; rw [← ha, ← hb]; exact hh
          | succ j => exact h0 j a b h8
        · intro hh
          exact hh 0 x y (by simp) (by simp)
      · constructor
        · intro hh; omega
        · intro hh
          have := hh 0 x y (by simp) (by simp)
          unfold maskB at this
          rw [if_neg (by omega), if_neg (by omega), if_neg (by omega), if_neg (by omega)] at this
          exact absurd this h

/-- An address's bytes. -/
def bytesN (n : Nat) : List Nat := (List.range 16).map (byteAt n)
theorem bytesN_length (n : Nat) : (bytesN n).length = 16 := by simp [bytesN]
theorem bytesN_get (n i : Nat) (hi : i < 16) : (bytesN n)[i]? = some (byteAt n i) := by simp [bytesN, hi]
theorem bytesN_lt (n x : Nat) (h : x ∈ bytesN n) : x < 256 := by
  unfold bytesN at h
  rw [List.mem_map] at h
  obtain ⟨i, _, rfl⟩ := h
  exact byteAt_lt n i
theorem common_same (n m k : Nat) (hn : n < 2 ^ 128) (hm : m < 2 ^ 128) (hk : k ≤ 128) : decide (k ≤ commonB (bytesN n) (bytesN m)) = sameK n m k := by
  rw [sameK_mask]
  congr 1
  apply propext
  rw [common_ge _ _ k (by rw [bytesN_length, bytesN_length]) (bytesN_lt n) (bytesN_lt m) (by rw [bytesN_length]; omega)]
  constructor
  · intro h
    refine byteAt_inj (Nat.lt_of_le_of_lt (maskN_le n k) hn) (Nat.lt_of_le_of_lt (maskN_le m k) hm) fun i hi => ?_
    rw [mask_byte n k i hi hk, mask_byte m k i hi hk]
    exact h i _ _ (bytesN_get n i hi) (bytesN_get m i hi)
  · intro h i x y hx hy
    by_cases hi : i < 16
    · rw [bytesN_get _ i hi] at hx hy
      cases hx; cases hy
      rw [← mask_byte n k i hi hk, ← mask_byte m k i hi hk, h]
    · rw [List.getElem?_eq_none (by rw [bytesN_length]; omega)] at hx
      cases hx

/-- Rows of bytes as numbers: the first byte counts most. -/
def numB : List Nat → Nat := List.foldl (fun a x => 256 * a + x) 0
def cmpB : List Nat → List Nat → Int
  | [], [] => 0
  | [], _ :: _ => -1
  | _ :: _, [] => 1
  | x :: xs, y :: ys => if x < y then -1 else if y < x then 1 else cmpB xs ys
def cmpN (n m : Nat) : Int := if n < m then -1 else if m < n then 1 else 0
theorem div_byte (n i : Nat) (hi : i < 16) : n / 2 ^ (120 - 8 * i) = 256 * (n / 2 ^ (128 - 8 * i)) + byteAt n i := by
  unfold byteAt
  have : n / 2 ^ (128 - 8 * i) = n / 2 ^ (120 - 8 * i) / 256 := by
    rw [Nat.div_div_eq_div_mul]; congr 1; rw [show (256 : Nat) = 2 ^ 8 by rfl, ← Nat.pow_add]; congr 1; omega
  rw [this]
  omega
theorem cmp_rest (n m : Nat) : ∀ j, j ≤ 16 → n / 2 ^ (8 * j) = m / 2 ^ (8 * j) → cmpB ((List.range' (16 - j) j).map (byteAt n)) ((List.range' (16 - j) j).map (byteAt m)) = cmpN n m
  | 0, _, h => by
    simp at h; subst h; simp [cmpB, cmpN]
  | j + 1, hj, h => by
    have en := div_byte n (15 - j) (by omega)
    have em := div_byte m (15 - j) (by omega)
    rw [show 120 - 8 * (15 - j) = 8 * j by omega, show 128 - 8 * (15 - j) = 8 * (j + 1) by omega] at en em
    rw [List.range'_succ, List.map_cons, List.map_cons, show 16 - (j + 1) = 15 - j by omega, show 15 - j + 1 = 16 - j by omega]
    unfold cmpB
    by_cases h1 : byteAt n (15 - j) < byteAt m (15 - j)
    · rw [if_pos h1]
      have : n < m := by
        refine Nat.lt_of_not_le fun q => ?_
        have := Nat.div_le_div_right (c := 2 ^ (8 * j)) q
        omega
      unfold cmpN; rw [if_pos this]
    · rw [if_neg h1]
      by_cases h2 : byteAt m (15 - j) < byteAt n (15 - j)
      · rw [if_pos h2]
        have : m < n := by
          refine Nat.lt_of_not_le fun q => ?_
          have := Nat.div_le_div_right (c := 2 ^ (8 * j)) q
          omega
        unfold cmpN; rw [if_neg (by omega), if_pos this]
      · rw [if_neg h2]
        exact cmp_rest n m j (by omega) (by omega)
theorem cmp_bytes (n m : Nat) (hn : n < 2 ^ 128) (hm : m < 2 ^ 128) : cmpB (bytesN n) (bytesN m) = cmpN n m := by
  have := cmp_rest n m 16 (by omega) (by rw [Nat.div_eq_of_lt hn, Nat.div_eq_of_lt hm])
  unfold bytesN
  rwa [List.range_eq_range']
/-- Every row of 16 bytes is an address. -/
theorem bytes_num (f : Nat → Nat) (hf : ∀ i, f i < 256) : ∃ n, n < 2 ^ 128 ∧ ∀ i, i < 16 → byteAt n i = f i := by
  have key : ∀ j, j ≤ 16 → ∃ n, n < 2 ^ (8 * j) ∧ ∀ i, i < j → n / 2 ^ (8 * (j - 1 - i)) % 256 = f i := by
    intro j
    induction j with
    | zero => intro _; exact ⟨0, by decide, fun i hi => by omega⟩
    | succ j ih =>
      intro hj
      obtain ⟨n, hn, hb⟩ := ih (by omega)
      refine ⟨256 * n + f j, ?_, fun i hi => ?_⟩
      · have e : 2 ^ (8 * (j + 1)) = 256 * 2 ^ (8 * j) := by rw [show 8 * (j + 1) = 8 * j + 8 by omega, Nat.pow_add]; omega
        have := hf j
        omega
      · by_cases h : i = j
        · subst h
          have := hf i
          simp; omega
        · have h2 := hb i (by omega)
          rw [show 8 * (j + 1 - 1 - i) = 8 + 8 * (j - 1 - i) by omega, Nat.pow_add, ← Nat.div_div_eq_div_mul]
          rw [show (256 * n + f j) / 2 ^ 8 = n by have := hf j; omega]
          exact h2
  obtain ⟨n, hn, hb⟩ := key 16 (Nat.le_refl _)
  refine ⟨n, hn, fun i hi => ?_⟩
  have := hb i hi
  unfold byteAt
  rw [show 120 - 8 * i = 8 * (16 - 1 - i) by omega]
  exact this
end Go.Proofs.YtgpiapmbbnngpaaGreatDoor

/- Where two rows of bytes part. Plain numbers; no program here. -/
namespace Go.Proofs.YtgpiapmbbnngpaaGreatDoor

theorem common_from (f g : Nat → Nat) : ∀ (l a : Nat), (∀ j, j < l → f (a + j) = g (a + j)) → commonB ((List.range' a l).map f) ((List.range' a l).map g) = 8 * l
  | 0, _, _ => rfl
  | l + 1, a, h => by
    rw [List.range'_succ, List.map_cons, List.map_cons]
    unfold commonB
    rw [if_pos (by simpa using h 0 (by omega)), common_from f g l (a + 1) (fun j hj => by have := h (j + 1) (by omega); rwa [show a + 1 + j = a + (j + 1) by omega])]
    omega
theorem common_part (f g : Nat → Nat) : ∀ (i l a : Nat), i < l → (∀ j, j < i → f (a + j) = g (a + j)) → f (a + i) ≠ g (a + i) → commonB ((List.range' a l).map f) ((List.range' a l).map g) = 8 * i + (8 - Lib.bitLen (f (a + i) ^^^ g (a + i)))
  | 0, 0, _, h, _, _ => by omega
  | 0, l + 1, a, _, _, hn => by
    rw [List.range'_succ, List.map_cons, List.map_cons]
    unfold commonB
    rw [if_neg (by simpa using hn)]
    simp
  | i + 1, 0, _, h, _, _ => by omega
  | i + 1, l + 1, a, h, he, hn => by
    rw [List.range'_succ, List.map_cons, List.map_cons]
    unfold commonB
    rw [if_pos (by simpa using he 0 (by omega)), common_part f g i l (a + 1) (by omega) (fun j hj => by have := he (j + 1) (by omega); rwa [show a + 1 + j = a + (j + 1) by omega]) (by rwa [show a + 1 + i = a + (i + 1) by omega]), show a + 1 + i = a + (i + 1) by omega]
    omega
/-- All bytes alike: 128; the i-th is the first that is not. -/
theorem common_all (n m : Nat) (h : ∀ j, j < 16 → byteAt n j = byteAt m j) : commonB (bytesN n) (bytesN m) = 128 := by
  unfold bytesN
  rw [List.range_eq_range']
  exact common_from _ _ 16 0 fun j hj => by rw [Nat.zero_add]; exact h j hj
theorem common_at (n m i : Nat) (hi : i < 16) (h : ∀ j, j < i → byteAt n j = byteAt m j) (hn : byteAt n i ≠ byteAt m i) : commonB (bytesN n) (bytesN m) = 8 * i + (8 - Lib.bitLen (byteAt n i ^^^ byteAt m i)) := by
  unfold bytesN
  rw [List.range_eq_range']
  have := common_part (byteAt n) (byteAt m) i 16 0 hi (fun j hj => by rw [Nat.zero_add]; exact h j hj) (by rw [Nat.zero_add]; exact hn)
  rwa [Nat.zero_add] at this
end Go.Proofs.YtgpiapmbbnngpaaGreatDoor

/- Numbers as texts, to a base. Plain numbers; no program here. -/
namespace Go.Proofs.YtgpiapmbbnngpaaGreatDoor

/-- A digit's sign. -/
def sig (d : Nat) : UInt8 := UInt8.ofNat (if d < 10 then 48 + d else 87 + d)
/-- What a sign counts. -/
def dig (c : UInt8) : Nat := if c.toNat < 58 then c.toNat - 48 else c.toNat - 87
/-- A number's digits to a base, no noughts ahead. -/
def digs (b u : Nat) : List UInt8 := if _h : u < b ∨ b < 2 then [sig u] else digs b (u / b) ++ [sig (u % b)]
termination_by u
decreasing_by exact Nat.div_lt_self (by omega) (by omega)
theorem digs_small {b u : Nat} (h : u < b) : digs b u = [sig u] := by rw [digs, dif_pos (.inl h)]
theorem digs_big {b u : Nat} (hb : 2 ≤ b) (h : ¬ u < b) : digs b u = digs b (u / b) ++ [sig (u % b)] := by rw [digs, dif_neg (by omega)]
theorem dig_sig_all : ∀ d : Fin 16, dig (sig d.val) = d.val := by decide
theorem dig_sig {d : Nat} (h : d < 16) : dig (sig d) = d := dig_sig_all ⟨d, h⟩
theorem sig_num_all : ∀ d : Fin 16, (sig d.val).toNat = if d.val < 10 then 48 + d.val else 87 + d.val := by decide
theorem sig_num {d : Nat} (h : d < 16) : (sig d).toNat = if d < 10 then 48 + d else 87 + d := sig_num_all ⟨d, h⟩
theorem digs_ten (u : Nat) : digs 10 u = Lib.decDigits u := by
  induction u using Nat.strongRecOn with
  | _ u ih =>
    by_cases h : u < 10
    · rw [digs_small h, Lib.decDigits, dif_pos h]; unfold sig; rw [if_pos h]
    · rw [digs_big (by omega) h, Lib.decDigits, dif_neg h, ih (u / 10) (by omega)]; unfold sig; rw [if_pos (by omega)]
theorem digs_mem {b : Nat} (h2 : 2 ≤ b) : ∀ (u : Nat) (c : UInt8), c ∈ digs b u → ∃ d, d < b ∧ c = sig d := by
  intro u
  induction u using Nat.strongRecOn with
  | _ u ih =>
    intro c hc
    by_cases h : u < b
    · rw [digs_small h, List.mem_singleton] at hc; exact ⟨u, h, hc⟩
    · rw [digs_big h2 h, List.mem_append, List.mem_singleton] at hc
      rcases hc with hc | hc
      · exact ih (u / b) (Nat.div_lt_self (by omega) (by omega)) c hc
      · exact ⟨u % b, Nat.mod_lt _ (by omega), hc⟩
theorem digs_ne {b : Nat} (u : Nat) : digs b u ≠ [] := by
  rw [digs]; split <;> simp
/-- What a row of signs counts. -/
def valB (b : Nat) (l : List UInt8) : Nat := l.foldl (fun a c => b * a + dig c) 0
theorem valB_snoc (b : Nat) (l : List UInt8) (c : UInt8) : valB b (l ++ [c]) = b * valB b l + dig c := by simp [valB]
theorem val_digs {b : Nat} (h2 : 2 ≤ b) (h16 : b ≤ 16) (u : Nat) : valB b (digs b u) = u := by
  induction u using Nat.strongRecOn with
  | _ u ih =>
    by_cases h : u < b
    · rw [digs_small h]; simp [valB, dig_sig (by omega : u < 16)]
    · rw [digs_big h2 h, valB_snoc, ih (u / b) (Nat.div_lt_self (by omega) (by omega)), dig_sig (Nat.lt_of_lt_of_le (Nat.mod_lt _ (by omega)) h16)]
      exact Nat.div_add_mod u b
theorem digs_inj {b u v : Nat} (h2 : 2 ≤ b) (h16 : b ≤ 16) (h : digs b u = digs b v) : u = v := by
  rw [← val_digs h2 h16 u, h, val_digs h2 h16]
theorem fold_ge {b : Nat} (hb : 1 ≤ b) (l : List UInt8) : ∀ a, a ≤ l.foldl (fun a c => b * a + dig c) a := by
  induction l with
  | nil => intro a; exact Nat.le_refl _
  | cons c l ih =>
    intro a
    rw [List.foldl_cons]
    refine Nat.le_trans ?_ (ih _)
    have : 1 * a ≤ b * a := Nat.mul_le_mul_right a hb
    omega
theorem val_take {b : Nat} (hb : 1 ≤ b) (l : List UInt8) (k : Nat) : valB b (l.take k) ≤ valB b l := by
  have h : valB b l = (l.drop k).foldl (fun a c => b * a + dig c) (valB b (l.take k)) := by
    conv => lhs; rw [← List.take_append_drop k l]
    simp only [valB, List.foldl_append]
  rw [h]
  exact fold_ge hb _ _
theorem val_next {b : Nat} (l : List UInt8) (k : Nat) (c : UInt8) (hc : l[k]? = some c) : valB b (l.take (k + 1)) = b * valB b (l.take k) + dig c := by
  rw [List.take_add_one, hc]
  exact valB_snoc b _ c
theorem digs16_len {u : Nat} (h : u < 65536) : (digs 16 u).length ≤ 4 := by
  by_cases h1 : u < 16
  · rw [digs_small h1]; simp
  · rw [digs_big (by omega) h1]
    by_cases h2 : u / 16 < 16
    · rw [digs_small h2]; simp
    · rw [digs_big (by omega) h2]
      by_cases h3 : u / 16 / 16 < 16
      · rw [digs_small h3]; simp
      · rw [digs_big (by omega) h3, digs_small (by omega)]; simp
theorem digs10_len {u : Nat} (h : u < 1000) : (digs 10 u).length ≤ 3 := by
  by_cases h1 : u < 10
  · rw [digs_small h1]; simp
  · rw [digs_big (by omega) h1]
    by_cases h2 : u / 10 < 10
    · rw [digs_small h2]; simp
    · rw [digs_big (by omega) h2, digs_small (by omega)]; simp
/-- A sign that is no digit. -/
def NoSig (c : UInt8) : Prop := c.toNat < 48 ∨ c.toNat = 58
theorem digs_none {b u : Nat} (h2 : 2 ≤ b) (h16 : b ≤ 16) {c : UInt8} (hc : NoSig c) : c ∉ digs b u := by
  intro h
  obtain ⟨d, hd, rfl⟩ := digs_mem h2 u c h
  unfold NoSig at hc
  rw [sig_num (by omega)] at hc
  split at hc <;> omega

/-! Rows of texts between signs. -/
/-- Between single signs. -/
def joinC (c : UInt8) : List (List UInt8) → List UInt8
  | [] => []
  | [x] => x
  | x :: y :: r => x ++ c :: joinC c (y :: r)
theorem joinC_eq (c : UInt8) : ∀ xs, Lib.join xs [c] = joinC c xs
  | [] => rfl
  | [x] => Lib.join_one x [c]
  | x :: y :: r => by
    rw [joinC, ← joinC_eq c (y :: r), Lib.join_cons, Lib.join_cons]
    simp [Lib.joinTail]
/-- Cut at each sign. -/
def splitC (c : UInt8) : List UInt8 → List (List UInt8)
  | [] => [[]]
  | x :: l => if x = c then [] :: splitC c l else
    match splitC c l with
    | [] => [[x]]
    | p :: ps => (x :: p) :: ps
theorem splitC_ne (c : UInt8) (l : List UInt8) : splitC c l ≠ [] := by
  cases l with
  | nil => simp [splitC]
  | cons x l =>
    unfold splitC
    split
    · simp
    · split <;> simp
theorem splitC_none (c : UInt8) : ∀ l, c ∉ l → splitC c l = [l]
  | [], _ => rfl
  | x :: l, h => by
    simp at h
    unfold splitC
    rw [if_neg (fun e => h.1 e.symm), splitC_none c l h.2]
theorem splitC_app (c : UInt8) : ∀ (l m : List UInt8), c ∉ l → splitC c (l ++ c :: m) = l :: splitC c m
  | [], m, _ => by rw [List.nil_append, splitC, if_pos rfl]
  | x :: l, m, h => by
    simp at h
    rw [List.cons_append, splitC, if_neg (fun e => h.1 e.symm), splitC_app c l m h.2]
theorem join_splitC (c : UInt8) : ∀ l, joinC c (splitC c l) = l
  | [] => rfl
  | x :: l => by
    have ih := join_splitC c l
    unfold splitC
    split
    · rename_i h
      subst h
      obtain ⟨p, ps, hp⟩ := List.exists_cons_of_ne_nil (splitC_ne x l)
      rw [hp] at ih ⊢
      rw [joinC, ih]; rfl
    · split
      · rename_i h; exact absurd h (splitC_ne c l)
      · rename_i p ps hp
        rw [hp] at ih
        cases ps with
        | nil => simp only [joinC] at ih ⊢; rw [ih]
        | cons q qs => simp only [joinC] at ih ⊢; rw [← ih]; rfl
theorem split_joinC (c : UInt8) : ∀ xs : List (List UInt8), xs ≠ [] → (∀ x ∈ xs, c ∉ x) → splitC c (joinC c xs) = xs
  | [x], _, h => splitC_none c x (h x (by simp))
  | x :: y :: r, _, h => by
    rw [joinC, splitC_app c x _ (h x (by simp)), split_joinC c (y :: r) (by simp) (fun z hz => h z (by simp at hz ⊢; exact .inr hz))]
/-- The library's cut is this one. -/
theorem splitK_none (c : UInt8) (l : List UInt8) (k : Nat) (h : c ∉ l) : Lib.splitK [c] 0 k l = [l] := by
  cases k with
  | zero => rfl
  | succ k =>
    unfold Lib.splitK
    have : Lib.index l [c] = -1 := by
      rcases Lib.index_spec l [c] with ⟨h1, _⟩ | ⟨i, _, _, h3, _⟩
      · exact h1
      · exfalso
        unfold Lib.occAt at h3
        rw [List.isPrefixOf_iff_prefix] at h3
        obtain ⟨t, ht⟩ := h3
        exact h (List.mem_of_mem_drop (i := i) (by rw [← ht]; simp))
    rw [this]; rfl
theorem index_sign (c : UInt8) (l m : List UInt8) (h : c ∉ l) : Lib.index (l ++ c :: m) [c] = l.length := by
  refine Lib.index_first (by simp) (by simp [Lib.occAt]) fun j hj => ?_
  rw [← Bool.not_eq_true]
  intro h3
  unfold Lib.occAt at h3
  rw [List.isPrefixOf_iff_prefix] at h3
  obtain ⟨t, ht⟩ := h3
  rw [List.drop_append_of_le_length (by omega)] at ht
  cases hd : l.drop j with
  | nil => rw [List.drop_eq_nil_iff] at hd; omega
  | cons y ys =>
    rw [hd] at ht
    simp at ht
    exact h (List.mem_of_mem_drop (i := j) (by rw [hd, ht.1]; simp))
theorem first_of (c : UInt8) : ∀ l : List UInt8, c ∈ l → ∃ a b, l = a ++ c :: b ∧ c ∉ a
  | x :: l, h => by
    by_cases hx : x = c
    · subst hx; exact ⟨[], l, rfl, by simp⟩
    · simp only [List.mem_cons] at h
      rcases h with h | h
      · exact absurd h.symm hx
      · obtain ⟨a, b, rfl, ha⟩ := first_of c l h
        exact ⟨x :: a, b, rfl, by simp [ha]; exact fun e => hx e.symm⟩
theorem split_sign : ∀ (n : Nat) (c : UInt8) (l : List UInt8), l.length ≤ n → Lib.split l [c] = splitC c l
  | 0, c, l, h => by
    have : l = [] := List.eq_nil_of_length_eq_zero (by omega)
    subst this
    rfl
  | n + 1, c, l, h => by
    by_cases hc : c ∈ l
    · obtain ⟨a, b, rfl, ha⟩ := first_of c l hc
      rw [splitC_app c a b ha]
      have h1 := index_sign c a b ha
      have h2 : Lib.count (a ++ c :: b) [c] = 1 + Lib.count b [c] := by
        rw [Lib.count_hit (by simp) h1]
        congr 2
        rw [show a ++ c :: b = (a ++ [c]) ++ b by simp]
        exact List.drop_left' (by simp)
      unfold Lib.split
      rw [h2, Nat.add_comm, Lib.splitK, h1]
      have h3 : ((a.length : Int) == -1) = false := by rw [beq_eq_false_iff_ne]; omega
      rw [h3]
      simp only [Bool.false_eq_true, if_false, Int.toNat_natCast, Nat.add_zero]
      rw [List.take_left' rfl, show a ++ c :: b = (a ++ [c]) ++ b by simp, List.drop_left' (by simp)]
      congr 1
      exact split_sign n c b (by simp at h; omega)
    · rw [splitC_none c l hc]
      exact splitK_none c l _ hc
end Go.Proofs.YtgpiapmbbnngpaaGreatDoor

/- Addresses as texts: written; written otherwise, the same. Plain numbers; no program here. -/
namespace Go.Proofs.YtgpiapmbbnngpaaGreatDoor

/-- The eight numbers of an address of IPv6. -/
def grp (n i : Nat) : Nat := byteAt n (2 * i) * 256 + byteAt n (2 * i + 1)
def grps (n : Nat) : List Nat := [grp n 0, grp n 1, grp n 2, grp n 3, grp n 4, grp n 5, grp n 6, grp n 7]
theorem grp_lt (n i : Nat) : grp n i < 65536 := by
  have h1 := byteAt_lt n (2 * i)
  have h2 := byteAt_lt n (2 * i + 1)
  unfold grp; omega
/-- How many are set from the first on. -/
def runZ : List Bool → Nat
  | true :: l => runZ l + 1
  | _ => 0
theorem runZ_le : ∀ l, runZ l ≤ l.length
  | [] => Nat.le_refl _
  | true :: l => by have := runZ_le l; simp [runZ]; exact this
  | false :: l => by simp [runZ]
/-- The longest row, from a place on, behind what was found. -/
def gapF (z : List Bool) : Nat → Nat → Nat → Nat → Nat × Nat
  | 0, _, f, t => (f, t)
  | u + 1, i, f, t => if i < 8 then
      (if i + runZ (z.drop i) - i > max (t - f) 1 then gapF z u (max i (i + runZ (z.drop i) - 1) + 1) i (i + runZ (z.drop i)) else gapF z u (max i (i + runZ (z.drop i) - 1) + 1) f t)
    else (f, t)
def gapN (z : List Bool) : Nat × Nat := gapF z 8 0 0 0
def rowF (z : List Bool) : Nat → Nat → Nat → Nat → Nat × Nat
  | 0, _, a, l => (a, l)
  | u + 1, i, a, l => if runZ (z.drop i) > l then rowF z u (i + 1) i (runZ (z.drop i)) else rowF z u (i + 1) a l
def rowN (z : List Bool) : Nat × Nat := rowF z 8 0 0 0

theorem gap_all : ∀ z0 z1 z2 z3 z4 z5 z6 z7 : Bool,
    gapN [z0, z1, z2, z3, z4, z5, z6, z7] = (if 1 < (rowN [z0, z1, z2, z3, z4, z5, z6, z7]).2 then ((rowN [z0, z1, z2, z3, z4, z5, z6, z7]).1, (rowN [z0, z1, z2, z3, z4, z5, z6, z7]).1 + (rowN [z0, z1, z2, z3, z4, z5, z6, z7]).2) else (0, 0)) ∧
    (rowN [z0, z1, z2, z3, z4, z5, z6, z7]).1 + (rowN [z0, z1, z2, z3, z4, z5, z6, z7]).2 ≤ 8 ∧
    ((([z0, z1, z2, z3, z4, z5, z6, z7].take (gapN [z0, z1, z2, z3, z4, z5, z6, z7]).2).drop (gapN [z0, z1, z2, z3, z4, z5, z6, z7]).1).all id) = true := by decide +kernel

def zs (l : List Nat) : List Bool := l.map (· == 0)
/-- Numbers to the base 16 between colons. -/
def joinD (l : List Nat) : List UInt8 := joinC 58 (l.map (digs 16))
def text6 (l : List Nat) : List UInt8 :=
  if (gapN (zs l)).1 = (gapN (zs l)).2 then joinD l else joinD (l.take (gapN (zs l)).1) ++ (58 :: 58 :: joinD (l.drop (gapN (zs l)).2))
/-- Four bytes between points. -/
def text4 (n : Nat) : List UInt8 := joinC 46 [digs 10 (byteAt n 0), digs 10 (byteAt n 1), digs 10 (byteAt n 2), digs 10 (byteAt n 3)]
def textA (v : Bool) (n : Nat) : List UInt8 := if v then text6 (grps n) else text4 n

/-- The text, number for number. -/
def bitR (a k i : Nat) (d : List UInt8) : List UInt8 :=
  (if 1 < k ∧ i = a then [58, 58] else []) ++ (if 1 < k ∧ a ≤ i ∧ i < a + k then [] else (if 0 < i ∧ ¬ (1 < k ∧ i = a + k) then [58] else []) ++ d)
def textR (a k : Nat) : List Nat → Nat → List UInt8
  | [], _ => []
  | x :: l, i => bitR a k i (digs 16 x) ++ textR a k l (i + 1)
theorem textR_some (x0 x1 x2 x3 x4 x5 x6 x7 : Nat) : ∀ (a k : Nat), 1 < k → a + k ≤ 8 → textR a k [x0, x1, x2, x3, x4, x5, x6, x7] 0 = joinD ([x0, x1, x2, x3, x4, x5, x6, x7].take a) ++ (58 :: 58 :: joinD ([x0, x1, x2, x3, x4, x5, x6, x7].drop (a + k)))
  | 0, 2, _, _ => by simp [textR, bitR, joinD, joinC]
  | 0, 3, _, _ => by simp [textR, bitR, joinD, joinC]
  | 0, 4, _, _ => by simp [textR, bitR, joinD, joinC]
  | 0, 5, _, _ => by simp [textR, bitR, joinD, joinC]
  | 0, 6, _, _ => by simp [textR, bitR, joinD, joinC]
  | 0, 7, _, _ => by simp [textR, bitR, joinD, joinC]
  | 0, 8, _, _ => by simp [textR, bitR, joinD, joinC]
  | 1, 2, _, _ => by simp [textR, bitR, joinD, joinC]
  | 1, 3, _, _ => by simp [textR, bitR, joinD, joinC]
  | 1, 4, _, _ => by simp [textR, bitR, joinD, joinC]
  | 1, 5, _, _ => by simp [textR, bitR, joinD, joinC]
  | 1, 6, _, _ => by simp [textR, bitR, joinD, joinC]
  | 1, 7, _, _ => by simp [textR, bitR, joinD, joinC]
  | 2, 2, _, _ => by simp [textR, bitR, joinD, joinC]
  | 2, 3, _, _ => by simp [textR, bitR, joinD, joinC]
  | 2, 4, _, _ => by simp [textR, bitR, joinD, joinC]
  | 2, 5, _, _ => by simp [textR, bitR, joinD, joinC]
  | 2, 6, _, _ => by simp [textR, bitR, joinD, joinC]
  | 3, 2, _, _ => by simp [textR, bitR, joinD, joinC]
  | 3, 3, _, _ => by simp [textR, bitR, joinD, joinC]
  | 3, 4, _, _ => by simp [textR, bitR, joinD, joinC]
  | 3, 5, _, _ => by simp [textR, bitR, joinD, joinC]
  | 4, 2, _, _ => by simp [textR, bitR, joinD, joinC]
  | 4, 3, _, _ => by simp [textR, bitR, joinD, joinC]
  | 4, 4, _, _ => by simp [textR, bitR, joinD, joinC]
  | 5, 2, _, _ => by simp [textR, bitR, joinD, joinC]
  | 5, 3, _, _ => by simp [textR, bitR, joinD, joinC]
  | 6, 2, _, _ => by simp [textR, bitR, joinD, joinC]
  | 0, k + 9, _, h => by omega
  | 0, 0, h, _ => by omega
  | 0, 1, h, _ => by omega
  | 1, 0, h, _ => by omega
  | 1, 1, h, _ => by omega
  | 1, k + 8, _, h => by omega
  | 2, 0, h, _ => by omega
  | 2, 1, h, _ => by omega
  | 2, k + 7, _, h => by omega
  | 3, 0, h, _ => by omega
  | 3, 1, h, _ => by omega
  | 3, k + 6, _, h => by omega
  | 4, 0, h, _ => by omega
  | 4, 1, h, _ => by omega
  | 4, k + 5, _, h => by omega
  | 5, 0, h, _ => by omega
  | 5, 1, h, _ => by omega
  | 5, k + 4, _, h => by omega
  | 6, 0, h, _ => by omega
  | 6, 1, h, _ => by omega
  | 6, k + 3, _, h => by omega
  | a + 7, k, h1, h2 => by omega
theorem textR_none (x0 x1 x2 x3 x4 x5 x6 x7 : Nat) (a k : Nat) (h : ¬ 1 < k) : textR a k [x0, x1, x2, x3, x4, x5, x6, x7] 0 = joinD [x0, x1, x2, x3, x4, x5, x6, x7] := by
  simp [textR, bitR, joinD, joinC, h]
theorem textR_eq (x0 x1 x2 x3 x4 x5 x6 x7 : Nat) : textR (rowN (zs [x0, x1, x2, x3, x4, x5, x6, x7])).1 (rowN (zs [x0, x1, x2, x3, x4, x5, x6, x7])).2 [x0, x1, x2, x3, x4, x5, x6, x7] 0 = text6 [x0, x1, x2, x3, x4, x5, x6, x7] := by
  obtain ⟨h1, h2, _⟩ := gap_all (x0 == 0) (x1 == 0) (x2 == 0) (x3 == 0) (x4 == 0) (x5 == 0) (x6 == 0) (x7 == 0)
  have hz : zs [x0, x1, x2, x3, x4, x5, x6, x7] = [x0 == 0, x1 == 0, x2 == 0, x3 == 0, x4 == 0, x5 == 0, x6 == 0, x7 == 0] := rfl
  unfold text6
  rw [hz, h1]
  by_cases h : 1 < (rowN [x0 == 0, x1 == 0, x2 == 0, x3 == 0, x4 == 0, x5 == 0, x6 == 0, x7 == 0]).2
  · rw [if_pos h, textR_some _ _ _ _ _ _ _ _ _ _ h h2, if_neg (by simp only; omega)]
  · rw [if_neg h, textR_none _ _ _ _ _ _ _ _ _ _ h]; rfl
theorem textR_grps (n : Nat) : textR (rowN (zs (grps n))).1 (rowN (zs (grps n))).2 (grps n) 0 = text6 (grps n) := textR_eq _ _ _ _ _ _ _ _
end Go.Proofs.YtgpiapmbbnngpaaGreatDoor

/- Addresses as texts: read. Plain numbers; no program here. -/
namespace Go.Proofs.YtgpiapmbbnngpaaGreatDoor

theorem digs_colon (u : Nat) : (58 : UInt8) ∉ digs 16 u := digs_none (by omega) (by omega) (.inr (by decide))
theorem digs_point (u : Nat) : (46 : UInt8) ∉ digs 10 u := digs_none (by omega) (by omega) (.inl (by decide))
theorem digs_colon10 (u : Nat) : (58 : UInt8) ∉ digs 10 u := digs_none (by omega) (by omega) (.inr (by decide))

/-- Each sign of this kind has another one behind it. -/
def NP (l : List UInt8) : Prop := ∀ j : Nat, l[j]? = some 58 → ∃ c, l[j + 1]? = some c ∧ c ≠ 58
theorem joinC_first (xs : List (List UInt8)) (hn : xs ≠ []) (h : ∀ x ∈ xs, x ≠ [] ∧ (58 : UInt8) ∉ x) : ∃ c, (joinC 58 xs)[0]? = some c ∧ c ≠ 58 := by
  obtain ⟨x, r, rfl⟩ := List.exists_cons_of_ne_nil hn
  obtain ⟨h1, h2⟩ := h x (by simp)
  obtain ⟨c, l, rfl⟩ := List.exists_cons_of_ne_nil h1
  refine ⟨c, ?_, fun e => h2 (by simp [e])⟩
  cases r with
  | nil => simp [joinC]
  | cons y r => simp [joinC]
theorem joinC_np : ∀ xs : List (List UInt8), (∀ x ∈ xs, x ≠ [] ∧ (58 : UInt8) ∉ x) → NP (joinC 58 xs)
  | [], _ => by intro j hj; simp [joinC] at hj
  | [x], h => by
    intro j hj
    exact absurd (List.mem_of_getElem? hj) (h x (by simp)).2
  | x :: y :: r, h => by
    intro j hj
    rw [joinC] at hj ⊢
    have hr : ∀ z ∈ y :: r, z ≠ [] ∧ (58 : UInt8) ∉ z := fun z hz => h z (by simp at hz ⊢; exact .inr hz)
    by_cases h1 : j < x.length
    · rw [List.getElem?_append_left h1] at hj
      exact absurd (List.mem_of_getElem? hj) (h x (by simp)).2
    · rw [List.getElem?_append_right (by omega)] at hj
      rw [List.getElem?_append_right (by omega)]
      by_cases h2 : j = x.length
      · rw [show j + 1 - x.length = 1 by omega]
        exact joinC_first (y :: r) (by simp) hr
      · obtain ⟨i, hi⟩ : ∃ i, j - x.length = i + 1 := ⟨j - x.length - 1, by omega⟩
        rw [hi, List.getElem?_cons_succ] at hj
        rw [show j + 1 - x.length = i + 1 + 1 by omega, List.getElem?_cons_succ]
        exact joinC_np (y :: r) hr i hj
theorem occ_pair (s : List UInt8) (j : Nat) : Lib.occAt s [58, 58] j = true ↔ s[j]? = some 58 ∧ s[j + 1]? = some 58 := by
  unfold Lib.occAt
  rw [List.isPrefixOf_iff_prefix]
  constructor
  · rintro ⟨t, ht⟩
    have h0 : (s.drop j)[0]? = some 58 := by rw [← ht]; rfl
    have h1 : (s.drop j)[1]? = some 58 := by rw [← ht]; rfl
    rw [List.getElem?_drop] at h0 h1
    exact ⟨h0, h1⟩
  · rintro ⟨h0, h1⟩
    refine ⟨s.drop (j + 2), ?_⟩
    have e0 := (List.getElem?_eq_some_iff.1 h0)
    have e1 := (List.getElem?_eq_some_iff.1 h1)
    obtain ⟨l0, e0⟩ := e0
    obtain ⟨l1, e1⟩ := e1
    rw [List.drop_eq_getElem_cons l0, e0, List.drop_eq_getElem_cons l1, e1]
    rfl
theorem index_pair (l m : List UInt8) (h : NP l) : Lib.index (l ++ 58 :: 58 :: m) [58, 58] = l.length := by
  refine Lib.index_first (by simp) ((occ_pair _ _).2 ?_) fun j hj => ?_
  · rw [List.getElem?_append_right (by omega), List.getElem?_append_right (by omega)]
    rw [show l.length - l.length = 0 by omega, show l.length + 1 - l.length = 1 by omega]
    exact ⟨rfl, rfl⟩
  · rw [← Bool.not_eq_true, occ_pair]
    rintro ⟨h0, h1⟩
    rw [List.getElem?_append_left hj] at h0
    obtain ⟨c, hc, hn⟩ := h j h0
    have : j + 1 < l.length := (List.getElem?_eq_some_iff.1 hc).1
    rw [List.getElem?_append_left this, hc] at h1
    exact hn (by simpa using h1)
theorem index_nopair (l : List UInt8) (h : NP l) : Lib.index l [58, 58] = -1 := by
  refine Lib.index_none fun j _ => ?_
  rw [← Bool.not_eq_true, occ_pair]
  rintro ⟨h0, h1⟩
  obtain ⟨c, hc, hn⟩ := h j h0
  rw [hc] at h1
  exact hn (by simpa using h1)
theorem parts_ok (l : List Nat) : ∀ x ∈ l.map (digs 16), x ≠ [] ∧ (58 : UInt8) ∉ x := by
  intro x hx
  rw [List.mem_map] at hx
  obtain ⟨u, _, rfl⟩ := hx
  exact ⟨digs_ne u, digs_colon u⟩
theorem joinD_np (l : List Nat) : NP (joinD l) := joinC_np _ (parts_ok l)
theorem joinD_split (l : List Nat) (h : l ≠ []) : splitC 58 (joinD l) = l.map (digs 16) := split_joinC 58 _ (by simpa using h) fun x hx => (parts_ok l x hx).2
theorem joinD_nil (l : List Nat) : joinD l = [] ↔ l = [] := by
  constructor
  · intro h
    by_cases hl : l = []
    · exact hl
    · obtain ⟨c, hc, _⟩ := joinC_first (l.map (digs 16)) (by simpa using hl) (parts_ok l)
      unfold joinD at h
      rw [h] at hc; simp at hc
  · intro h; subst h; rfl
theorem digs16_inj {u v : Nat} (h : digs 16 u = digs 16 v) : u = v := digs_inj (by omega) (by omega) h
theorem joinD_inj {l m : List Nat} (h : joinD l = joinD m) : l = m := by
  by_cases hl : l = []
  · rw [(joinD_nil l).2 hl] at h
    rw [hl, (joinD_nil m).1 h.symm]
  · have hm : m ≠ [] := fun e => hl ((joinD_nil l).1 (by rw [h, e]; rfl))
    have := joinD_split l hl
    rw [h, joinD_split m hm] at this
    exact ((List.map_inj_right fun x y hxy => digs16_inj hxy).1 this).symm

/-- The text of eight numbers, cut. -/
theorem cut_text6 (l : List Nat) : Lib.cut (text6 l) [58, 58] = if (gapN (zs l)).1 = (gapN (zs l)).2 then (joinD l, [], false) else (joinD (l.take (gapN (zs l)).1), joinD (l.drop (gapN (zs l)).2), true) := by
  unfold text6
  by_cases h : (gapN (zs l)).1 = (gapN (zs l)).2
  · rw [if_pos h, if_pos h]
    unfold Lib.cut
    rw [index_nopair _ (joinD_np l)]
    rfl
  · rw [if_neg h, if_neg h]
    unfold Lib.cut
    rw [index_pair _ _ (joinD_np _), if_pos (by omega)]
    simp only [Int.toNat_natCast]
    rw [List.take_left' rfl]
    congr 2
    rw [show ∀ a b : List UInt8, a ++ 58 :: 58 :: b = (a ++ [58, 58]) ++ b by simp]
    exact List.drop_left' (by simp)
theorem mem_joinC (c : UInt8) (x y : List UInt8) (r : List (List UInt8)) : c ∈ joinC c (x :: y :: r) := by simp [joinC]
theorem colon_text6 (x0 x1 x2 x3 x4 x5 x6 x7 : Nat) : (58 : UInt8) ∈ text6 [x0, x1, x2, x3, x4, x5, x6, x7] := by
  unfold text6
  split
  · exact mem_joinC _ _ _ _
  · simp
theorem colon_grps (n : Nat) : (58 : UInt8) ∈ text6 (grps n) := colon_text6 _ _ _ _ _ _ _ _
theorem mem_of_joinC {c d : UInt8} : ∀ {xs : List (List UInt8)}, d ∈ joinC c xs → d = c ∨ ∃ x ∈ xs, d ∈ x
  | [], h => by simp [joinC] at h
  | [x], h => .inr ⟨x, by simp, h⟩
  | x :: y :: r, h => by
    rw [joinC, List.mem_append, List.mem_cons] at h
    rcases h with h | h | h
    · exact .inr ⟨x, by simp, h⟩
    · exact .inl h
    · rcases mem_of_joinC h with h | ⟨z, hz, h⟩
      · exact .inl h
      · exact .inr ⟨z, by simp at hz ⊢; exact .inr hz, h⟩
theorem colon_text4 (n : Nat) : (58 : UInt8) ∉ text4 n := by
  intro h
  rcases mem_of_joinC h with h | ⟨x, hx, h⟩
  · exact absurd h (by decide)
  · simp at hx
    rcases hx with rfl | rfl | rfl | rfl <;> exact digs_colon10 _ h
theorem split_text4 (n : Nat) : splitC 46 (text4 n) = [digs 10 (byteAt n 0), digs 10 (byteAt n 1), digs 10 (byteAt n 2), digs 10 (byteAt n 3)] := by
  refine split_joinC 46 _ (by simp) fun x hx => ?_
  simp at hx
  rcases hx with rfl | rfl | rfl | rfl <;> exact digs_point _
theorem occ_one (s : List UInt8) (c : UInt8) (j : Nat) : Lib.occAt s [c] j = true ↔ s[j]? = some c := by
  unfold Lib.occAt
  rw [List.isPrefixOf_iff_prefix]
  constructor
  · rintro ⟨t, ht⟩
    have h0 : (s.drop j)[0]? = some c := by rw [← ht]; rfl
    rwa [List.getElem?_drop] at h0
  · intro h0
    obtain ⟨l0, e0⟩ := List.getElem?_eq_some_iff.1 h0
    exact ⟨s.drop (j + 1), by rw [List.drop_eq_getElem_cons l0, e0]; rfl⟩
theorem contains_one (s : List UInt8) (c : UInt8) : Lib.contains s [c] = decide (c ∈ s) := by
  unfold Lib.contains
  congr 1
  apply propext
  rcases Lib.index_spec s [c] with ⟨h1, h2⟩ | ⟨i, h1, _, h3, _⟩
  · rw [h1]
    refine ⟨fun h => by omega, fun h => ?_⟩
    obtain ⟨j, hj⟩ := List.getElem?_of_mem h
    have := h2 j (by have := (List.getElem?_eq_some_iff.1 hj).1; omega)
    rw [(occ_one s c j).2 hj] at this
    cases this
  · rw [h1]
    exact ⟨fun _ => List.mem_of_getElem? ((occ_one s c i).1 h3), fun _ => by omega⟩
/-- Of eight numbers the row between is of noughts. -/
theorem fill_gap (l : List Nat) (hl : l.length = 8) : (gapN (zs l)).1 ≤ (gapN (zs l)).2 ∧ (gapN (zs l)).2 ≤ 8 ∧ l.take (gapN (zs l)).1 ++ List.replicate (8 - (l.take (gapN (zs l)).1).length - (l.drop (gapN (zs l)).2).length) 0 ++ l.drop (gapN (zs l)).2 = l := by
  obtain ⟨x0, x1, x2, x3, x4, x5, x6, x7, rfl⟩ : ∃ x0 x1 x2 x3 x4 x5 x6 x7, l = [x0, x1, x2, x3, x4, x5, x6, x7] := by
    match l, hl with
    | [x0, x1, x2, x3, x4, x5, x6, x7], _ => exact ⟨_, _, _, _, _, _, _, _, rfl⟩
  obtain ⟨h1, h2, h3⟩ := gap_all (x0 == 0) (x1 == 0) (x2 == 0) (x3 == 0) (x4 == 0) (x5 == 0) (x6 == 0) (x7 == 0)
  have hz : zs [x0, x1, x2, x3, x4, x5, x6, x7] = [x0 == 0, x1 == 0, x2 == 0, x3 == 0, x4 == 0, x5 == 0, x6 == 0, x7 == 0] := rfl
  rw [← hz] at h1 h2 h3
  generalize hG : gapN (zs [x0, x1, x2, x3, x4, x5, x6, x7]) = G at *
  obtain ⟨f, t⟩ := G
  have hft : f ≤ t ∧ t ≤ 8 := by
    split at h1 <;> simp only [Prod.mk.injEq] at h1 <;> omega
  refine ⟨hft.1, hft.2, ?_⟩
  simp only at h3 ⊢
  have hmid : ([x0, x1, x2, x3, x4, x5, x6, x7].take t).drop f = List.replicate (t - f) 0 := by
    apply List.eq_replicate_iff.2
    refine ⟨by simp; omega, fun b hb => ?_⟩
    have h4 : (b == 0) = true := by
      rw [List.all_eq_true] at h3
      refine h3 (b == 0) ?_
      unfold zs
      rw [← List.map_take, ← List.map_drop]
      exact List.mem_map.2 ⟨b, hb, rfl⟩
    simpa using h4
  have e : [x0, x1, x2, x3, x4, x5, x6, x7] = ([x0, x1, x2, x3, x4, x5, x6, x7].take t).take f ++ ([x0, x1, x2, x3, x4, x5, x6, x7].take t).drop f ++ [x0, x1, x2, x3, x4, x5, x6, x7].drop t := by
    rw [List.take_append_drop, List.take_append_drop]
  conv => rhs; rw [e]
  rw [hmid, List.take_take, Nat.min_eq_left hft.1]
  congr 3
  simp; omega
end Go.Proofs.YtgpiapmbbnngpaaGreatDoor

/- The plain readers of texts. Plain numbers; no program here. -/
namespace Go.Proofs.YtgpiapmbbnngpaaGreatDoor

def upd (f : Nat → Nat) (k n : Nat) : Nat → Nat := fun j => if j = k then n else f j
/-- Four bytes between points, whatever noughts stand ahead. -/
def fourF : List UInt8 → Nat → Nat → Bool → (Nat → Nat) → (Nat → Nat) × Bool
  | [], k, n, b, f => if b = false ∨ 255 < n ∨ 3 < k then (f, false) else (upd f k n, decide (k + 1 = 4))
  | c :: l, k, n, b, f =>
    if c = 46 then (if b = false ∨ 255 < n ∨ 3 < k then (f, false) else fourF l (k + 1) 0 false (upd f k n))
    else if c.toNat < 48 ∨ 57 < c.toNat ∨ 255 < n then (f, false) else fourF l k (10 * n + (c.toNat - 48)) true f
theorem four_digs (r : List UInt8) (k : Nat) (f : Nat → Nat) : ∀ (l : List UInt8) (n : Nat) (b : Bool), (∀ c ∈ l, ∃ d, d < 10 ∧ c = sig d) → l.foldl (fun a c => 10 * a + dig c) n ≤ 255 →
    fourF (l ++ r) k n b f = fourF r k (l.foldl (fun a c => 10 * a + dig c) n) (b || !l.isEmpty) f
  | [], n, b, _, _ => by simp
  | c :: l, n, b, h, hn => by
    obtain ⟨d, hd, rfl⟩ := h c (by simp)
    have hs := sig_num (d := d) (by omega)
    rw [if_pos hd] at hs
    have e46 : sig d ≠ 46 := fun e => by rw [e] at hs; have : (46 : UInt8).toNat = 46 := by decide
                                         omega
    rw [List.foldl_cons] at hn
    have h1 := fold_ge (b := 10) (by omega) l (10 * n + dig (sig d))
    rw [List.cons_append, fourF, if_neg e46, if_neg (by omega)]
    have hd2 : (sig d).toNat - 48 = dig (sig d) := by rw [dig_sig (by omega)]; omega
    rw [hd2, four_digs r k f l _ true (fun c hc => h c (by simp [hc])) hn]
    simp
theorem four_num (r : List UInt8) (k : Nat) (f : Nat → Nat) (u : Nat) (hu : u ≤ 255) : fourF (digs 10 u ++ r) k 0 false f = fourF r k u true f := by
  have hv : (digs 10 u).foldl (fun a c => 10 * a + dig c) 0 = u := val_digs (b := 10) (by omega) (by omega) u
  rw [four_digs r k f (digs 10 u) 0 false (digs_mem (by omega) u) (by rw [hv]; exact hu), hv]
  cases h : digs 10 u with
  | nil => exact absurd h (digs_ne u)
  | cons c l => rfl
def four4 (n : Nat) : Nat → Nat := upd (upd (upd (upd (fun _ => 0) 0 (byteAt n 0)) 1 (byteAt n 1)) 2 (byteAt n 2)) 3 (byteAt n 3)
theorem four_text (n : Nat) : fourF (text4 n) 0 0 false (fun _ => 0) = (four4 n, true) := by
  have hb : ∀ i, byteAt n i ≤ 255 := fun i => by have := byteAt_lt n i; omega
  have hp : ∀ (l : List UInt8) (k u : Nat) (f : Nat → Nat), u ≤ 255 → k ≤ 3 → fourF (46 :: l) k u true f = fourF l (k + 1) 0 false (upd f k u) := by
    intro l k u f h1 h2
    rw [fourF, if_pos rfl, if_neg (by simp; omega)]
  unfold text4
  simp only [joinC]
  rw [four_num _ _ _ _ (hb 0), hp _ _ _ _ (hb 0) (by omega), four_num _ _ _ _ (hb 1), hp _ _ _ _ (hb 1) (by omega), four_num _ _ _ _ (hb 2), hp _ _ _ _ (hb 2) (by omega),
    ← List.append_nil (digs 10 (byteAt n 3)), four_num _ _ _ _ (hb 3)]
  rw [fourF, if_neg (by have := hb 3; simp; omega)]
  rfl
theorem four_colon : ∀ (l : List UInt8) (k n : Nat) (b : Bool) (f : Nat → Nat), (58 : UInt8) ∈ l → (fourF l k n b f).2 = false
  | c :: l, k, n, b, f, h => by
    unfold fourF
    have h58 : (58 : UInt8).toNat = 58 := by decide
    split
    · rename_i hc
      split
      · rfl
      · refine four_colon l _ _ _ _ ?_
        rw [hc] at h
        simpa using h
    · split
      · rfl
      · rename_i h1 h2
        refine four_colon l _ _ _ _ ?_
        rw [List.mem_cons] at h
        rcases h with h | h
        · subst h; omega
        · exact h

/-- The value of a digit to the base 16. -/
def hexI (c : UInt8) : Int := if 48 ≤ c.toNat ∧ c.toNat ≤ 57 then (c.toNat : Int) - 48 else if 97 ≤ c.toNat ∧ c.toNat ≤ 102 then (c.toNat : Int) - 97 + 10 else -1
theorem hexI_sig {d : Nat} (h : d < 16) : hexI (sig d) = d := by
  have := sig_num h
  unfold hexI
  by_cases h1 : d < 10
  · rw [if_pos h1] at this; rw [if_pos (by omega)]; omega
  · rw [if_neg h1] at this; rw [if_neg (by omega), if_pos (by omega)]; omega
/-- Numbers between colons. -/
def numF : List UInt8 → Nat → Nat → List Nat → Option (List Nat)
  | [], n, m, out => if m = 0 ∨ 4 < m ∨ out.length = 8 then none else some (out ++ [n])
  | c :: l, n, m, out =>
    if c = 58 then (if m = 0 ∨ 4 < m ∨ out.length = 8 then none else numF l 0 0 (out ++ [n]))
    else if hexI c < 0 ∨ 4 < m then none else numF l (16 * n + (hexI c).toNat) (m + 1) out
theorem numF_digs (r : List UInt8) (out : List Nat) : ∀ (l : List UInt8) (n m : Nat), (∀ c ∈ l, ∃ d, d < 16 ∧ c = sig d) → m + l.length ≤ 4 →
    numF (l ++ r) n m out = numF r (l.foldl (fun a c => 16 * a + dig c) n) (m + l.length) out
  | [], n, m, _, _ => by simp
  | c :: l, n, m, h, hm => by
    obtain ⟨d, hd, rfl⟩ := h c (by simp)
    have h58 : sig d ≠ 58 := fun e => by
      have h1 := hexI_sig hd
      rw [e] at h1
      have : hexI 58 = -1 := by decide
      omega
    rw [List.length_cons] at hm
    rw [List.cons_append, numF, if_neg h58, hexI_sig hd, if_neg (by omega), numF_digs r out l _ _ (fun c hc => h c (by simp [hc])) (by omega), List.foldl_cons, dig_sig hd, List.length_cons]
    rw [show m + 1 + l.length = m + (l.length + 1) by omega]
    rfl
theorem numF_num (r : List UInt8) (out : List Nat) (u : Nat) (hu : u < 65536) : ∃ m, 0 < m ∧ m ≤ 4 ∧ numF (digs 16 u ++ r) 0 0 out = numF r u m out := by
  have hv : (digs 16 u).foldl (fun a c => 16 * a + dig c) 0 = u := val_digs (b := 16) (by omega) (by omega) u
  refine ⟨(digs 16 u).length, ?_, digs16_len hu, ?_⟩
  · exact List.length_pos_iff.2 (digs_ne u)
  · rw [numF_digs r out (digs 16 u) 0 0 (digs_mem (by omega) u) (by have := digs16_len hu; omega), hv, Nat.zero_add]
theorem numF_join : ∀ (l out : List Nat), l ≠ [] → (∀ u ∈ l, u < 65536) → out.length + l.length ≤ 8 → numF (joinD l) 0 0 out = some (out ++ l)
  | [u], out, _, h, hl => by
    obtain ⟨m, h1, h2, h3⟩ := numF_num [] out u (h u (by simp))
    rw [List.append_nil] at h3
    unfold joinD
    simp only [List.map_cons, List.map_nil, joinC]
    rw [h3, numF, if_neg (by simp at hl; omega)]
  | u :: v :: l, out, _, h, hl => by
    obtain ⟨m, h1, h2, h3⟩ := numF_num (58 :: joinD (v :: l)) out u (h u (by simp))
    have e : joinD (u :: v :: l) = digs 16 u ++ 58 :: joinD (v :: l) := rfl
    rw [e, h3, numF, if_pos rfl, if_neg (by simp at hl; omega), numF_join (v :: l) (out ++ [u]) (by simp) (fun x hx => h x (by simp at hx ⊢; exact .inr hx)) (by simp at hl ⊢; omega)]
    simp
/-- Numbers, or none at all. -/
def numsF (s : List UInt8) : Option (List Nat) := if s = [] then some [] else numF s 0 0 []
theorem numsF_join (l : List Nat) (h : ∀ u ∈ l, u < 65536) (hl : l.length ≤ 8) : numsF (joinD l) = some l := by
  unfold numsF
  by_cases h0 : l = []
  · rw [if_pos ((joinD_nil l).2 h0), h0]
  · rw [if_neg (fun e => h0 ((joinD_nil l).1 e)), numF_join l [] h0 h (by simpa using hl)]
    simp
end Go.Proofs.YtgpiapmbbnngpaaGreatDoor

/- Prefixes that may be, as stretches of addresses: nested or apart. Plain numbers; no program here. -/
namespace Go.Proofs.YtgpiapmbbnngpaaGreatDoor

theorem mask_lt (n J : Nat) (hn : n < 2 ^ 128) : maskN n J < 2 ^ 128 := Nat.lt_of_le_of_lt (maskN_le n J) hn
/-- Of which two are the halves, if of any. -/
def whoP (v : Bool) (n : Nat) (k : Int) (v' : Bool) (m : Nat) (j : Int) : (Bool × Nat × Int) × Bool :=
  if k = 0 then ((false, 0, 0), false) else ((v, maskN n (k - 1).toNat, k - 1), decide (maskN n (k - 1).toNat = n) && decide (v = v' ∧ highN (maskN n (k - 1).toNat) (k - 1).toNat = m ∧ k = j))
/-- A prefix that may be. -/
structure PX where
  v : Bool
  n : Nat
  k : Nat
  ok : okP v n k = true
  lt : n < 2 ^ 128
theorem PX.ext' {x y : PX} (h1 : x.v = y.v) (h2 : x.n = y.n) (h3 : x.k = y.k) : x = y := by
  cases x; cases y; simp only at h1 h2 h3; subst h1 h2 h3; rfl
instance : Inhabited PX := ⟨⟨false, 0, 0, by decide, by decide⟩⟩
instance : DecidableEq PX := fun x y => decidable_of_iff (x.v = y.v ∧ x.n = y.n ∧ x.k = y.k) ⟨fun h => PX.ext' h.1 h.2.1 h.2.2, fun h => by subst h; exact ⟨rfl, rfl, rfl⟩⟩
theorem PX.mask (x : PX) : maskN x.n x.k = x.n := by
  have h := x.ok
  unfold okP at h
  simp only [Bool.and_eq_true, decide_eq_true_eq, Int.toNat_natCast] at h
  exact h.2
theorem PX.k_le (x : PX) : x.k ≤ wid x.v := by
  have h := x.ok
  unfold okP at h
  simp only [Bool.and_eq_true, decide_eq_true_eq] at h
  omega
theorem PX.k128 (x : PX) : x.k ≤ 128 := Nat.le_trans x.k_le (wid_le _)
theorem PX.okA (x : PX) : okA x.v x.n = true := by
  have := okA_mask x.v x.n x.k x.k_le
  rwa [x.mask] at this
def cmpX (x y : PX) : Int := cmpP x.v x.n x.k y.v y.n y.k
def ltX (x y : PX) : Prop := (x.v = false ∧ y.v = true) ∨ (x.v = y.v ∧ (x.n < y.n ∨ x.n = y.n ∧ x.k < y.k))
theorem cmpX_lt (x y : PX) : cmpX x y < 0 ↔ ltX x y := by
  unfold cmpX cmpP ltX
  cases hx : x.v <;> cases hy : y.v <;> simp
  all_goals (repeat' split) <;> omega
def covX (x y : PX) : Bool := covP x.v x.n x.k y.v y.n y.k
/-- The whole of which two are the halves. -/
def whoX (x y : PX) : Option PX :=
  if h : 0 < x.k ∧ (whoP x.v x.n x.k y.v y.n y.k).2 = true then
    some ⟨x.v, maskN x.n (x.k - 1), x.k - 1, okP_mask x.v x.n (x.k - 1) (by have := x.k_le; omega), mask_lt _ _ x.lt⟩
  else none

/-- Where a prefix begins and ends, among all addresses of both families. -/
def PX.len (x : PX) : Nat := 2 ^ (128 - x.k)
def fam (v : Bool) : Nat := if v then 2 ^ 128 else 0
def PX.lo (x : PX) : Nat := fam x.v + x.n
def PX.hi (x : PX) : Nat := x.lo + x.len
theorem PX.len_pos (x : PX) : 0 < x.len := Nat.pos_of_ne_zero (by simp [PX.len])
theorem PX.lo_hi (x : PX) : x.lo < x.hi := Nat.lt_add_of_pos_right x.len_pos
theorem PX.mult (x : PX) : x.n = x.n / x.len * x.len := x.mask.symm
theorem PX.fit (x : PX) : x.n + x.len ≤ 2 ^ 128 := by
  have e : 2 ^ 128 = 2 ^ x.k * x.len := by
    unfold PX.len; rw [← Nat.pow_add]; congr 1; have := x.k128; omega
  have h1 := x.lt
  have h2 := x.mult
  rw [e] at h1 ⊢
  generalize x.n / x.len = c at h2
  rw [h2] at h1 ⊢
  have : c < 2 ^ x.k := Nat.lt_of_mul_lt_mul_right h1
  calc c * x.len + x.len = (c + 1) * x.len := by rw [Nat.add_mul, Nat.one_mul]
    _ ≤ 2 ^ x.k * x.len := Nat.mul_le_mul_right _ this
theorem len_mul {x y : PX} (h : x.k ≤ y.k) : x.len = 2 ^ (y.k - x.k) * y.len := by
  unfold PX.len; rw [← Nat.pow_add]; congr 1; have := y.k128; omega
theorem covX_iff (x y : PX) : covX x y = true ↔ x.k ≤ y.k ∧ x.v = y.v ∧ x.n / x.len = y.n / x.len := by
  unfold covX covP hasP sameK
  rw [x.ok, y.ok, y.okA]
  simp only [Bool.true_and, Bool.and_eq_true, decide_eq_true_eq, beq_iff_eq, Int.toNat_natCast]
  unfold PX.len
  constructor
  · rintro ⟨h1, h2, h3⟩; exact ⟨by omega, h2.symm, h3.symm⟩
  · rintro ⟨h1, h2, h3⟩; exact ⟨by omega, h2.symm, h3.symm⟩
theorem div_span (a b s : Nat) (hs : 0 < s) (hb : b = b / s * s) : b / s = a / s ↔ b ≤ a ∧ a < b + s := by
  constructor
  · intro h
    have h1 := Nat.div_add_mod a s
    have h2 := Nat.mod_lt a hs
    rw [Nat.mul_comm] at h1
    rw [h] at hb
    omega
  · rintro ⟨h1, h2⟩
    have := Nat.div_le_div_right (c := s) h1
    have h3 : a / s < b / s + 1 := by
      rw [Nat.div_lt_iff_lt_mul hs, Nat.add_mul, Nat.one_mul, ← hb]; exact h2
    omega
/-- What covers encloses. -/
theorem covX_span (x y : PX) : covX x y = true ↔ x.lo ≤ y.lo ∧ y.hi ≤ x.hi := by
  rw [covX_iff]
  have fx := x.fit
  have fy := y.fit
  have px := x.len_pos
  have py := y.len_pos
  constructor
  · rintro ⟨h1, h2, h3⟩
    rw [div_span y.n x.n x.len px x.mult] at h3
    unfold PX.hi PX.lo
    rw [h2]
    have e := len_mul h1
    have my := y.mult
    have mx := x.mult
    generalize y.n / y.len = c at my
    generalize x.n / x.len = d at mx
    have : y.n + y.len ≤ x.n + x.len := by
      have h4 := h3.2
      rw [my, mx, e, ← Nat.mul_assoc, ← Nat.add_mul] at h4 ⊢
      rw [show c * y.len + y.len = (c + 1) * y.len by rw [Nat.add_mul, Nat.one_mul]]
      exact Nat.mul_le_mul_right _ (Nat.lt_of_mul_lt_mul_right h4)
    omega
  · rintro ⟨h1, h2⟩
    have hv : x.v = y.v := by
      unfold PX.hi PX.lo fam at *
      cases hx : x.v <;> cases hy : y.v <;> simp [hx, hy] at * <;> omega
    unfold PX.hi PX.lo at *
    rw [hv] at h1 h2
    have hk : x.k ≤ y.k := by
      refine Nat.le_of_not_lt fun h => ?_
      have e := len_mul (Nat.le_of_lt h)
      have : 2 ≤ 2 ^ (x.k - y.k) := by
        have : 2 ^ 1 ≤ 2 ^ (x.k - y.k) := Nat.pow_le_pow_right (by omega) (by omega)
        simpa using this
      have := Nat.mul_le_mul_right x.len this
      omega
    exact ⟨hk, hv, (div_span y.n x.n x.len px x.mult).2 (by omega)⟩
/-- Of two, the first begins no later: it ends before the second, or covers it, or lies in it (and begins there). -/
theorem apart_or (x y : PX) (h : x.lo ≤ y.lo) : x.hi ≤ y.lo ∨ covX x y = true ∨ (covX y x = true ∧ x.lo = y.lo) := by
  have fx := x.fit
  have fy := y.fit
  have px := x.len_pos
  have py := y.len_pos
  by_cases hv : x.v = y.v
  · rw [covX_iff, covX_iff]
    have mx := x.mult
    have my := y.mult
    unfold PX.hi PX.lo at *
    rw [hv] at h ⊢
    by_cases hk : x.k ≤ y.k
    · by_cases hs : x.n / x.len = y.n / x.len
      · exact .inr (.inl ⟨hk, rfl, hs⟩)
      · rw [div_span y.n x.n x.len px x.mult] at hs
        left; omega
    · have e := len_mul (x := y) (y := x) (by omega)
      by_cases he : x.n = y.n
      · refine .inr (.inr ⟨⟨by omega, rfl, by rw [he]⟩, by omega⟩)
      · left
        have : x.n < y.n := by omega
        generalize x.n / x.len = c at mx
        generalize y.n / y.len = d at my
        rw [mx, my, e, ← Nat.mul_assoc] at this
        have := Nat.mul_le_mul_right x.len (Nat.succ_le_of_lt (Nat.lt_of_mul_lt_mul_right this))
        rw [Nat.succ_mul, ← mx, Nat.mul_assoc, ← e, ← my] at this
        omega
  · left
    unfold PX.hi PX.lo fam at *
    cases hx : x.v <;> cases hy : y.v <;> simp [hx, hy] at * <;> omega
theorem covX_refl (x : PX) : covX x x = true := (covX_span x x).2 ⟨Nat.le_refl _, Nat.le_refl _⟩
theorem covX_trans {x y z : PX} (h1 : covX x y = true) (h2 : covX y z = true) : covX x z = true := by
  rw [covX_span] at *; omega
theorem covX_anti {x y : PX} (h1 : covX x y = true) (h2 : covX y x = true) : x = y := by
  have a := (covX_iff x y).1 h1
  have b := (covX_iff y x).1 h2
  have c := (covX_span x y).1 h1
  have d := (covX_span y x).1 h2
  refine PX.ext' a.2.1 ?_ (by omega)
  have e : x.lo = y.lo := by omega
  unfold PX.lo at e
  rw [a.2.1] at e
  omega
theorem ltX_lo (x y : PX) : ltX x y ↔ x.lo < y.lo ∨ (x.lo = y.lo ∧ x.k < y.k) := by
  have fx := x.fit
  have fy := y.fit
  have px := x.len_pos
  have py := y.len_pos
  unfold ltX PX.lo fam
  cases hx : x.v <;> cases hy : y.v <;> simp <;> omega
theorem lo_inj {x y : PX} (h1 : x.lo = y.lo) (h2 : x.k = y.k) : x = y := by
  have e : x.len = y.len := by unfold PX.len; rw [h2]
  exact covX_anti ((covX_span x y).2 (by unfold PX.hi; omega)) ((covX_span y x).2 (by unfold PX.hi; omega))
theorem ltX_tri (x y : PX) : ltX x y ∨ x = y ∨ ltX y x := by
  rw [ltX_lo, ltX_lo]
  by_cases h1 : x.lo = y.lo
  · by_cases h2 : x.k = y.k
    · exact .inr (.inl (lo_inj h1 h2))
    · omega
  · omega
theorem ltX_irr (x : PX) : ¬ ltX x x := by rw [ltX_lo]; omega
theorem ltX_tr {x y z : PX} (h1 : ltX x y) (h2 : ltX y z) : ltX x z := by rw [ltX_lo] at *; omega
theorem cov_le {x y : PX} (h : covX x y = true) : ¬ ltX y x := by
  have a := (covX_iff x y).1 h
  have b := (covX_span x y).1 h
  rw [ltX_lo]; omega
end Go.Proofs.YtgpiapmbbnngpaaGreatDoor

/- Rows of prefixes of which none covers another and no two are halves of one: what they have tells them. Plain numbers; no program here. -/
namespace Go.Proofs.YtgpiapmbbnngpaaGreatDoor

def hasX (x : PX) (v : Bool) (m : Nat) : Bool := hasP x.v x.n x.k v m
def hasL (L : List PX) (v : Bool) (m : Nat) : Bool := L.any fun x => hasX x v m
theorem hasX_span (x : PX) (v : Bool) (m : Nat) (hm : m < 2 ^ 128) : hasX x v m = true ↔ okA v m = true ∧ x.lo ≤ fam v + m ∧ fam v + m < x.hi := by
  unfold hasX hasP sameK
  rw [x.ok]
  simp only [Bool.true_and, Bool.and_eq_true, decide_eq_true_eq, beq_iff_eq, Int.toNat_natCast]
  have fx := x.fit
  have px := x.len_pos
  have hs : m / 2 ^ (128 - x.k) = x.n / 2 ^ (128 - x.k) ↔ x.n ≤ m ∧ m < x.n + x.len := by
    rw [← div_span m x.n x.len px x.mult]; exact ⟨Eq.symm, Eq.symm⟩
  rw [hs, and_assoc]
  refine and_congr_right fun _ => ?_
  unfold PX.hi PX.lo fam
  cases hx : x.v <;> cases hy : v <;> simp <;> omega
theorem hasL_iff (L : List PX) (v : Bool) (m : Nat) : hasL L v m = true ↔ ∃ x ∈ L, hasX x v m = true := by simp [hasL, List.any_eq_true]
theorem hasX_own (x : PX) : hasX x x.v x.n = true := by
  rw [hasX_span x _ _ x.lt]
  exact ⟨x.okA, Nat.le_refl _, x.lo_hi⟩
theorem hasX_cov {x y : PX} (h : covX x y = true) {v : Bool} {m : Nat} (hm : m < 2 ^ 128) (hy : hasX y v m = true) : hasX x v m = true := by
  rw [hasX_span _ _ _ hm] at *
  rw [covX_span] at h
  exact ⟨hy.1, by omega, by omega⟩

/-- The two halves. -/
def lowX (w : PX) (h : w.k < wid w.v) : PX := ⟨w.v, w.n, w.k + 1, by have := okP_low w.n w.k w.v h; rwa [w.mask] at this, w.lt⟩
theorem highX_lt (w : PX) (_h : w.k < wid w.v) : highN w.n w.k < 2 ^ 128 :=
  Nat.or_lt_two_pow w.lt (Nat.pow_lt_pow_right (by omega) (by omega))
def highX (w : PX) (h : w.k < wid w.v) : PX := ⟨w.v, highN w.n w.k, w.k + 1, by have := okP_high w.n w.k w.v h; rwa [w.mask] at this, highX_lt w h⟩
theorem high_add (w : PX) (h : w.k < wid w.v) : highN w.n w.k = w.n + 2 ^ (127 - w.k) := by
  have hw := wid_le w.v
  have h1 := high_div w.n w.k (by omega)
  have h2 := high_mask w.n w.k (by omega)
  rw [w.mask] at h1 h2
  unfold maskN at h2
  rw [show 128 - (w.k + 1) = 127 - w.k by omega, h1] at h2
  have hm := w.mask
  unfold maskN at hm
  have e2 : 2 ^ (128 - w.k) = 2 * 2 ^ (127 - w.k) := by rw [Nat.mul_comm, ← Nat.pow_succ]; congr 1; omega
  generalize w.n / 2 ^ (128 - w.k) = c at *
  rw [← h2, Nat.add_mul, Nat.one_mul, Nat.mul_comm 2 c, Nat.mul_assoc, ← e2, hm]
theorem half_len (w : PX) (h : w.k < wid w.v) : w.len = 2 ^ (127 - w.k) + 2 ^ (127 - w.k) := by
  have hw := wid_le w.v
  unfold PX.len
  rw [← Nat.two_mul, Nat.mul_comm, ← Nat.pow_succ]; congr 1; omega
theorem lowX_lo (w : PX) (h : w.k < wid w.v) : (lowX w h).lo = w.lo := rfl
theorem lowX_hi (w : PX) (h : w.k < wid w.v) : (lowX w h).hi = (highX w h).lo := by
  have := high_add w h
  unfold PX.hi PX.lo PX.len lowX highX
  simp only
  rw [this, show 128 - (w.k + 1) = 127 - w.k by omega]
  omega
theorem highX_hi (w : PX) (h : w.k < wid w.v) : (highX w h).hi = w.hi := by
  have h1 := high_add w h
  have h2 := half_len w h
  unfold PX.hi
  rw [h2]
  unfold PX.lo PX.len highX
  simp only
  rw [h1, show 128 - (w.k + 1) = 127 - w.k by omega]
  omega
theorem who_iff (x y w : PX) : whoX x y = some w ↔ ∃ h, x = lowX w h ∧ y = highX w h := by
  unfold whoX
  constructor
  · intro hh
    split at hh
    · rename_i hc
      injection hh with hh
      have kx := x.k_le
      obtain ⟨h0, h2⟩ := hc
      unfold whoP at h2
      rw [if_neg (by omega), show ((x.k : Int) - 1).toNat = x.k - 1 by omega] at h2
      simp only [Bool.and_eq_true, decide_eq_true_eq] at h2
      obtain ⟨e1, e2, e3, e4⟩ := h2
      subst hh
      refine ⟨by simp only; omega, PX.ext' rfl e1.symm (by simp [lowX]; omega), PX.ext' e2.symm ?_ (by simp [highX]; omega)⟩
      simp only [highX]
      rw [e3]
    · cases hh
  · rintro ⟨h, rfl, rfl⟩
    have hm := w.mask
    rw [dif_pos]
    · congr 1
      exact PX.ext' rfl (by simp [lowX, hm]) (by simp [lowX])
    · refine ⟨Nat.succ_pos _, ?_⟩
      unfold whoP lowX highX
      simp only
      rw [if_neg (by omega), show (((w.k + 1 : Nat) : Int) - 1).toNat = w.k by omega]
      simp [hm]
theorem who_span {x y w : PX} (h : whoX x y = some w) : w.lo = x.lo ∧ x.hi = y.lo ∧ y.hi = w.hi ∧ x.k = w.k + 1 ∧ y.k = w.k + 1 := by
  obtain ⟨hk, rfl, rfl⟩ := (who_iff x y w).1 h
  exact ⟨rfl, lowX_hi w hk, highX_hi w hk, rfl, rfl⟩
/-- What lies under a whole with one bit more is one of its halves. -/
theorem half_of {w x : PX} (h : covX w x = true) (hk : x.k = w.k + 1) : ∃ hw, x = lowX w hw ∨ x = highX w hw := by
  have h1 := (covX_iff w x).1 h
  have kx := x.k_le
  have hw : w.k < wid w.v := by rw [h1.2.1]; omega
  refine ⟨hw, ?_⟩
  have hs := (covX_span w x).1 h
  have e : x.len = 2 ^ (127 - w.k) := by unfold PX.len; rw [hk, show 128 - (w.k + 1) = 127 - w.k by omega]
  rcases apart_or (lowX w hw) x (by rw [lowX_lo]; exact hs.1) with h2 | h2 | h2
  · right
    rw [lowX_hi] at h2
    have h3 := highX_hi w hw
    refine lo_inj (y := highX w hw) ?_ hk
    have e2 : (highX w hw).len = 2 ^ (127 - w.k) := by unfold PX.len highX; simp only; rw [show 128 - (w.k + 1) = 127 - w.k by omega]
    unfold PX.hi at *
    omega
  · left
    have h3 := (covX_iff _ _).1 h2
    have h4 := (covX_span _ _).1 h2
    exact (covX_anti h2 ((covX_iff _ _).2 ⟨by rw [hk]; exact Nat.le_refl _, h3.2.1.symm, by
      have : x.len = (lowX w hw).len := by rw [e]; unfold PX.len lowX; simp only; rw [show 128 - (w.k + 1) = 127 - w.k by omega]
      rw [this]; exact h3.2.2.symm⟩)).symm
  · left
    exact (lo_inj h2.2 hk.symm).symm

/-- No prefix of the row covers another, no two are halves of one. -/
structure Red (L : List PX) : Prop where
  cov : ∀ x ∈ L, ∀ y ∈ L, covX x y = true → x = y
  who : ∀ x ∈ L, ∀ y ∈ L, whoX x y = none
/-- What is wholly had lies under one. -/
theorem full_cov {L : List PX} (hL : Red L) : ∀ (d : Nat) (x : PX), wid x.v - x.k = d → (∀ v m, m < 2 ^ 128 → hasX x v m = true → hasL L v m = true) → ∃ y ∈ L, covX y x = true
  | 0, x, hd, h => by
    obtain ⟨y, hy, hh⟩ := (hasL_iff L _ _).1 (h x.v x.n x.lt (hasX_own x))
    refine ⟨y, hy, ?_⟩
    have h1 := (hasX_span y _ _ x.lt).1 hh
    have kx := x.k_le
    have ky := y.k_le
    have fx := x.fit
    have fy := y.fit
    have px := x.len_pos
    have py := y.len_pos
    have hv : y.v = x.v := by
      unfold PX.hi PX.lo fam at *
      cases hx : x.v <;> cases hy : y.v <;> simp [hx, hy] at * <;> omega
    rw [covX_iff]
    refine ⟨by rw [hv] at ky; omega, hv, ?_⟩
    rw [div_span x.n y.n y.len py y.mult]
    unfold PX.hi PX.lo at h1
    rw [hv] at h1
    omega
  | d + 1, x, hd, h => by
    have hk : x.k < wid x.v := by omega
    obtain ⟨y0, h0, c0⟩ := full_cov hL d (lowX x hk) (by simp only [lowX]; omega) fun v m hm hh => h v m hm (hasX_cov (x := x) (y := lowX x hk) ((covX_span _ _).2 ⟨Nat.le_refl _, by have := lowX_hi x hk; have := highX_hi x hk; have := (highX x hk).lo_hi; omega⟩) hm hh)
    obtain ⟨y1, h1, c1⟩ := full_cov hL d (highX x hk) (by simp only [highX]; omega) fun v m hm hh => h v m hm (hasX_cov (x := x) (y := highX x hk) ((covX_span _ _).2 ⟨by have := lowX_hi x hk; have := lowX_lo x hk; have := (lowX x hk).lo_hi; omega, by have := highX_hi x hk; omega⟩) hm hh)
    have a0 := (covX_span _ _).1 c0
    have a1 := (covX_span _ _).1 c1
    have b0 := (covX_iff _ _).1 c0
    have b1 := (covX_iff _ _).1 c1
    have l0 := lowX_lo x hk
    have l1 := lowX_hi x hk
    have l2 := highX_hi x hk
    by_cases e0 : y0.k ≤ x.k
    · refine ⟨y0, h0, ?_⟩
      rcases apart_or y0 x (by omega) with q | q | q
      · have := (lowX x hk).lo_hi; omega
      · exact q
      · have := (covX_iff _ _).1 q.1
        rw [lo_inj q.2 (by omega)]
        exact covX_refl _
    · by_cases e1 : y1.k ≤ x.k
      · refine ⟨y1, h1, ?_⟩
        by_cases q0 : y1.lo ≤ x.lo
        · rcases apart_or y1 x q0 with q | q | q
          · have := (highX x hk).lo_hi; have := x.lo_hi; have := (lowX x hk).lo_hi; omega
          · exact q
          · have := (covX_iff _ _).1 q.1
            rw [lo_inj q.2 (by omega)]
            exact covX_refl _
        · rcases apart_or x y1 (by omega) with q | q | q
          · have := (highX x hk).lo_hi; omega
          · have := (covX_iff _ _).1 q
            have hke : x.k = y1.k := by omega
            have hle : x.len = y1.len := by unfold PX.len; rw [hke]
            rw [covX_span] at q ⊢
            unfold PX.hi at *
            omega
          · exact q.1
      · have q0 : y0 = lowX x hk := by
          have hk2 : y0.k = (lowX x hk).k := by have := b0.1; simp only [lowX] at this ⊢; omega
          have hle : y0.len = (lowX x hk).len := by unfold PX.len; rw [hk2]
          exact lo_inj (by unfold PX.hi at *; omega) hk2
        have q1 : y1 = highX x hk := by
          have hk2 : y1.k = (highX x hk).k := by have := b1.1; simp only [highX] at this ⊢; omega
          have hle : y1.len = (highX x hk).len := by unfold PX.len; rw [hk2]
          exact lo_inj (by unfold PX.hi at *; omega) hk2
        have := hL.who y0 h0 y1 h1
        rw [(who_iff y0 y1 x).2 ⟨hk, q0, q1⟩] at this
        cases this
theorem red_sub {L L' : List PX} (h : Red L) (h' : Red L') (hs : ∀ v m, m < 2 ^ 128 → hasL L v m = hasL L' v m) {x : PX} (hx : x ∈ L) : x ∈ L' := by
  obtain ⟨y, hy, cy⟩ := full_cov h' _ x rfl fun v m hm hh => by rw [← hs v m hm]; exact (hasL_iff L v m).2 ⟨x, hx, hh⟩
  obtain ⟨z, hz, cz⟩ := full_cov h _ y rfl fun v m hm hh => by rw [hs v m hm]; exact (hasL_iff L' v m).2 ⟨y, hy, hh⟩
  have e := h.cov z hz x hx (covX_trans cz cy)
  subst e
  rw [covX_anti cz cy]; exact hy
theorem sorted_ext : ∀ (L L' : List PX), L.Pairwise ltX → L'.Pairwise ltX → (∀ x, x ∈ L ↔ x ∈ L') → L = L'
  | [], [], _, _, _ => rfl
  | [], y :: L', _, _, h => absurd ((h y).2 (by simp)) (by simp)
  | x :: L, [], _, _, h => absurd ((h x).1 (by simp)) (by simp)
  | x :: L, y :: L', h1, h2, h => by
    rw [List.pairwise_cons] at h1 h2
    have e : x = y := by
      rcases ltX_tri x y with q | q | q
      · rcases List.mem_cons.1 ((h x).1 (by simp)) with r | r
        · exact r
        · exact absurd (ltX_tr q (h2.1 x r)) (ltX_irr x)
      · exact q
      · rcases List.mem_cons.1 ((h y).2 (by simp)) with r | r
        · exact r.symm
        · exact absurd (ltX_tr q (h1.1 y r)) (ltX_irr y)
    subst e
    congr 1
    refine sorted_ext L L' h1.2 h2.2 fun z => ⟨fun hz => ?_, fun hz => ?_⟩
    · rcases List.mem_cons.1 ((h z).1 (by simp [hz])) with r | r
      · subst r; exact absurd (h1.1 z hz) (ltX_irr z)
      · exact r
    · rcases List.mem_cons.1 ((h z).2 (by simp [hz])) with r | r
      · subst r; exact absurd (h2.1 z hz) (ltX_irr z)
      · exact r
/-- The one row that has what is had. -/
structure CanonX (L : List PX) : Prop where
  rise : L.Pairwise ltX
  red : Red L
theorem canon_ext {L L' : List PX} (h : CanonX L) (h' : CanonX L') (hs : ∀ v m, m < 2 ^ 128 → hasL L v m = hasL L' v m) : L = L' :=
  sorted_ext L L' h.rise h'.rise fun _ => ⟨red_sub h.red h'.red hs, red_sub h'.red h.red fun v m hm => (hs v m hm).symm⟩
end Go.Proofs.YtgpiapmbbnngpaaGreatDoor

/- Merging by a stack: its row is the one that has what was had. Plain numbers; no program here. -/
namespace Go.Proofs.YtgpiapmbbnngpaaGreatDoor

/-- The stack (its top first) with its top halves joined. -/
def squash : List PX → List PX
  | q :: p :: r => match whoX p q with
    | some w => squash (w :: r)
    | none => q :: p :: r
  | s => s
termination_by l => l.length
def putX (st : List PX) (p : PX) : List PX := match st with
  | t :: r => if covX t p then t :: r else squash (p :: t :: r)
  | [] => [p]
def mergeX (l : List PX) : List PX := (l.foldl putX []).reverse
theorem squash_one (p : PX) : squash [p] = [p] := by unfold squash; rfl
theorem squash_some {q p w : PX} {r : List PX} (h : whoX p q = some w) : squash (q :: p :: r) = squash (w :: r) := by rw [squash, h]
theorem squash_none {q p : PX} {r : List PX} (h : whoX p q = none) : squash (q :: p :: r) = q :: p :: r := by rw [squash, h]
theorem squash_short {s : List PX} (h : s.length ≤ 1) : squash s = s := by
  match s, h with
  | [], _ => unfold squash; rfl
  | [p], _ => exact squash_one p
theorem squash_len : ∀ (n : Nat) (s : List PX), s.length ≤ n → (squash s).length ≤ s.length
  | 0, s, h => by rw [squash_short (by omega)]; exact Nat.le_refl _
  | n + 1, s, h => by
    match s, h with
    | [], _ => rw [squash_short (by simp)]; exact Nat.le_refl _
    | [p], _ => rw [squash_one]; exact Nat.le_refl _
    | q :: p :: r, h =>
      cases hw : whoX p q with
      | none => rw [squash_none hw]; exact Nat.le_refl _
      | some w =>
        rw [squash_some hw]
        have := squash_len n (w :: r) (by simp at h ⊢; omega)
        simp at this ⊢; omega
theorem putX_len (st : List PX) (p : PX) : (putX st p).length ≤ st.length + 1 := by
  unfold putX
  split
  · split
    · simp
    · exact squash_len _ _ (Nat.le_refl _)
  · simp
theorem merge_len : ∀ (l st : List PX), (l.foldl putX st).length ≤ st.length + l.length
  | [], st => by simp
  | p :: l, st => by
    have h1 := putX_len st p
    have h2 := merge_len l (putX st p)
    rw [List.foldl_cons, List.length_cons]
    omega

theorem hasL_cons (x : PX) (L : List PX) (v : Bool) (m : Nat) : hasL (x :: L) v m = (hasX x v m || hasL L v m) := by simp [hasL]
/-- The whole has what its halves have. -/
theorem who_has {x y w : PX} (h : whoX x y = some w) (v : Bool) (m : Nat) (hm : m < 2 ^ 128) : hasX w v m = (hasX x v m || hasX y v m) := by
  have hs := who_span h
  have h1 := hasX_span w v m hm
  have h2 := hasX_span x v m hm
  have h3 := hasX_span y v m hm
  have hx := x.lo_hi
  have hy := y.lo_hi
  rw [Bool.eq_iff_iff, Bool.or_eq_true, h1, h2, h3]
  constructor
  · rintro ⟨a, b, c⟩
    by_cases q : fam v + m < x.hi
    · exact .inl ⟨a, by omega, q⟩
    · exact .inr ⟨a, by omega, by omega⟩
  · rintro (⟨a, b, c⟩ | ⟨a, b, c⟩)
    · exact ⟨a, by omega, by omega⟩
    · exact ⟨a, by omega, by omega⟩
/-- No two neighbours are halves. -/
def adjX : List PX → Prop
  | a :: b :: r => whoX b a = none ∧ adjX (b :: r)
  | _ => True
def Apart (st : List PX) : Prop := st.Pairwise fun a b => b.hi ≤ a.lo
theorem squash_spec : ∀ (n : Nat) (p : PX) (r : List PX), r.length ≤ n → Apart (p :: r) → adjX r →
    Apart (squash (p :: r)) ∧ adjX (squash (p :: r)) ∧ (∀ v m, m < 2 ^ 128 → hasL (squash (p :: r)) v m = hasL (p :: r) v m) ∧ ∀ q, (∀ x ∈ p :: r, ¬ ltX q x) → ∀ x ∈ squash (p :: r), ¬ ltX q x
  | n, p, [], _, h, _ => by
    rw [squash_one]
    exact ⟨h, trivial, fun _ _ _ => rfl, fun _ hq => hq⟩
  | 0, p, t :: r, hn, _, _ => by simp at hn
  | n + 1, p, t :: r, hn, h, ha => by
    cases hw : whoX t p with
    | none =>
      rw [squash_none hw]
      exact ⟨h, ⟨hw, ha⟩, fun _ _ _ => rfl, fun _ hq => hq⟩
    | some w =>
      rw [squash_some hw]
      have hs := who_span hw
      unfold Apart at h
      rw [List.pairwise_cons, List.pairwise_cons] at h
      obtain ⟨h1, h2, h3⟩ := h
      have ha2 : adjX r := by
        cases r with
        | nil => trivial
        | cons a r => exact ha.2
      obtain ⟨i1, i2, i3, i4⟩ := squash_spec n w r (by simp at hn; omega) (by
        unfold Apart
        rw [List.pairwise_cons]
        exact ⟨fun x hx => by have := h2 x hx; omega, h3⟩) ha2
      refine ⟨i1, i2, fun v m hm => ?_, fun q hq => i4 q fun x hx => ?_⟩
      · rw [i3 v m hm, hasL_cons, hasL_cons, hasL_cons, who_has hw v m hm]
        cases hasX t v m <;> cases hasX p v m <;> rfl
      · rcases List.mem_cons.1 hx with rfl | hx
        · have := hq t (by simp)
          rw [ltX_lo] at this ⊢
          omega
        · exact hq x (by simp [hx])
/-- The stack, while prefixes come in order. -/
structure StX (st : List PX) : Prop where
  apart : Apart st
  adj : adjX st
theorem putX_spec {st : List PX} (h : StX st) (p : PX) (hp : ∀ x ∈ st, ¬ ltX p x) :
    StX (putX st p) ∧ (∀ v m, m < 2 ^ 128 → hasL (putX st p) v m = (hasX p v m || hasL st v m)) ∧ ∀ q, ¬ ltX q p → (∀ x ∈ st, ¬ ltX q x) → ∀ x ∈ putX st p, ¬ ltX q x := by
  cases st with
  | nil =>
    refine ⟨⟨by simp [putX, Apart], trivial⟩, fun v m _ => by simp [putX, hasL_cons], fun q hq _ x hx => ?_⟩
    simp [putX] at hx; subst hx; exact hq
  | cons t r =>
    unfold putX
    by_cases hc : covX t p = true
    · simp only [hc, if_true]
      refine ⟨h, fun v m hm => ?_, fun q _ hq => hq⟩
      rw [hasL_cons]
      have := hasX_cov hc (v := v) hm
      revert this
      cases hasX p v m <;> cases hasX t v m <;> simp
    · rw [Bool.not_eq_true] at hc
      simp only [hc, Bool.false_eq_true, if_false]
      have ht := hp t (by simp)
      rw [ltX_lo] at ht
      have hap : t.hi ≤ p.lo := by
        rcases apart_or t p (by omega) with q | q | q
        · exact q
        · rw [hc] at q; cases q
        · have := (covX_iff _ _).1 q.1
          have hk : t.k = p.k := by omega
          rw [lo_inj q.2 hk] at hc
          rw [covX_refl] at hc; cases hc
      have h1 := h.apart
      unfold Apart at h1
      have h1' := h1
      rw [List.pairwise_cons] at h1
      obtain ⟨i1, i2, i3, i4⟩ := squash_spec _ p (t :: r) (Nat.le_refl _) (by
        unfold Apart
        rw [List.pairwise_cons]
        refine ⟨fun x hx => ?_, h1'⟩
        rcases List.mem_cons.1 hx with rfl | hx
        · exact hap
        · have := h1.1 x hx
          have := t.lo_hi
          omega) h.adj
      refine ⟨⟨i1, i2⟩, fun v m hm => by rw [i3 v m hm, hasL_cons p], fun q hq hst => i4 q fun x hx => ?_⟩
      rcases List.mem_cons.1 hx with rfl | hx
      · exact hq
      · exact hst x hx
theorem fold_spec : ∀ (l st : List PX), StX st → l.Pairwise (fun a b => ¬ ltX b a) → (∀ p ∈ l, ∀ x ∈ st, ¬ ltX p x) →
    StX (l.foldl putX st) ∧ ∀ v m, m < 2 ^ 128 → hasL (l.foldl putX st) v m = (hasL l v m || hasL st v m)
  | [], st, h, _, _ => ⟨h, fun v m _ => by simp [hasL]⟩
  | p :: l, st, h, hl, hp => by
    rw [List.pairwise_cons] at hl
    obtain ⟨i1, i2, i3⟩ := putX_spec h p (hp p (by simp))
    obtain ⟨j1, j2⟩ := fold_spec l (putX st p) i1 hl.2 fun q hq => i3 q (hl.1 q hq) (hp q (by simp [hq]))
    refine ⟨j1, fun v m hm => ?_⟩
    rw [List.foldl_cons, j2 v m hm, i2 v m hm, hasL_cons]
    cases hasX p v m <;> cases hasL l v m <;> rfl
/-- A stack's row is the one that has what it has. -/
theorem StX.who {st : List PX} (h : StX st) : ∀ x ∈ st, ∀ y ∈ st, whoX x y = none := by
  induction st with
  | nil => intro x hx; cases hx
  | cons a r ih =>
    have h1 := h.apart
    unfold Apart at h1
    rw [List.pairwise_cons] at h1
    have hr : StX r := ⟨h1.2, by
      cases r with
      | nil => trivial
      | cons b r => exact h.adj.2⟩
    intro x hx y hy
    cases hw : whoX x y with
    | none => rfl
    | some w =>
      exfalso
      have hs := who_span hw
      have lx := x.lo_hi
      have ly := y.lo_hi
      rcases List.mem_cons.1 hx with rfl | hx'
      · rcases List.mem_cons.1 hy with rfl | hy'
        · omega
        · have := h1.1 y hy'; omega
      · rcases List.mem_cons.1 hy with rfl | hy'
        · cases r with
          | nil => cases hx'
          | cons b r =>
            rcases List.mem_cons.1 hx' with rfl | hx''
            · have := h.adj.1; rw [hw] at this; cases this
            · have h2 := h1.1 b (by simp)
              have h3 := (List.pairwise_cons.1 h1.2).1 x hx''
              have := b.lo_hi
              omega
        · have := ih hr x hx' y hy'; rw [hw] at this; cases this
theorem StX.canon {st : List PX} (h : StX st) : CanonX st.reverse := by
  have h1 := h.apart
  have h2 : st.reverse.Pairwise fun a b => a.hi ≤ b.lo := List.pairwise_reverse.2 h1
  refine ⟨h2.imp fun {a b} hab => ?_, ⟨?_, ?_⟩⟩
  · rw [ltX_lo]
    have := a.lo_hi; omega
  · intro x hx y hy hc
    have hs := (covX_span _ _).1 hc
    have lx := x.lo_hi
    have ly := y.lo_hi
    by_cases e : x = y
    · exact e
    · exfalso
      rw [List.pairwise_iff_getElem] at h2
      obtain ⟨i, hi, rfl⟩ := List.getElem_of_mem hx
      obtain ⟨j, hj, rfl⟩ := List.getElem_of_mem hy
      rcases Nat.lt_trichotomy i j with q | q | q
      · have := h2 i j hi hj q; omega
      · subst q; exact e rfl
      · have := h2 j i hj hi q; omega
  · intro x hx y hy
    exact h.who x (by simpa using hx) y (by simpa using hy)
theorem merge_canon {l : List PX} (hl : l.Pairwise fun a b => ¬ ltX b a) : CanonX (mergeX l) :=
  (fold_spec l [] ⟨List.Pairwise.nil, trivial⟩ hl (fun _ _ _ hx => by cases hx)).1.canon
theorem merge_has {l : List PX} (hl : l.Pairwise fun a b => ¬ ltX b a) (v : Bool) (m : Nat) (hm : m < 2 ^ 128) : hasL (mergeX l) v m = hasL l v m := by
  have := (fold_spec l [] ⟨List.Pairwise.nil, trivial⟩ hl (fun _ _ _ hx => by cases hx)).2 v m hm
  unfold mergeX
  rw [show hasL (l.foldl putX []).reverse v m = hasL (l.foldl putX []) v m by simp [hasL], this]
  simp [hasL]
theorem hasL_perm {l l' : List PX} (h : l.Perm l') (v : Bool) (m : Nat) : hasL l v m = hasL l' v m := by
  rw [Bool.eq_iff_iff, hasL_iff, hasL_iff]
  exact ⟨fun ⟨x, hx, q⟩ => ⟨x, h.mem_iff.1 hx, q⟩, fun ⟨x, hx, q⟩ => ⟨x, h.mem_iff.2 hx, q⟩⟩
end Go.Proofs.YtgpiapmbbnngpaaGreatDoor

/- The reference's merging: pair by pair until none is left; it comes to the same row. Plain numbers; no program here. -/
namespace Go.Proofs.YtgpiapmbbnngpaaGreatDoor

def insR : List PX → PX → List PX
  | [], p => [p]
  | x :: r, p => if cmpX x p < 0 then x :: insR r p else if cmpX x p = 0 then x :: r else p :: x :: r
def sortR (l : List PX) : List PX := l.foldl insR []
theorem cmpX_eq (x y : PX) (h : cmpX x y = 0) : x = y := by
  unfold cmpX cmpP at h
  cases x with | mk v n k ok lt => cases y with | mk v' m j ok' lt' =>
  simp only at h
  cases v <;> cases v' <;> simp at h
  all_goals (repeat' split at h) <;> first | (exfalso; omega) | skip
  all_goals exact PX.ext' rfl (by simp only; omega) (by simp only; omega)
theorem cmpX_refl (x : PX) : cmpX x x = 0 := by
  unfold cmpX cmpP
  simp
theorem insR_mem : ∀ (l : List PX) (p x : PX), x ∈ insR l p ↔ x = p ∨ x ∈ l
  | [], p, x => by simp [insR]
  | y :: r, p, x => by
    unfold insR
    by_cases h1 : cmpX y p < 0
    · rw [if_pos h1, List.mem_cons, insR_mem r p x, List.mem_cons]
      constructor
      · rintro (a | a | a) <;> simp [a]
      · rintro (a | a | a) <;> simp [a]
    · rw [if_neg h1]
      by_cases h2 : cmpX y p = 0
      · rw [if_pos h2, cmpX_eq y p h2]; simp
      · rw [if_neg h2]; simp
theorem insR_rise : ∀ (l : List PX) (p : PX), l.Pairwise ltX → (insR l p).Pairwise ltX
  | [], p, _ => by simp [insR]
  | y :: r, p, h => by
    unfold insR
    have h0 := h
    rw [List.pairwise_cons] at h
    by_cases h1 : cmpX y p < 0
    · rw [if_pos h1, List.pairwise_cons]
      refine ⟨fun x hx => ?_, insR_rise r p h.2⟩
      rcases (insR_mem r p x).1 hx with rfl | hx
      · exact (cmpX_lt _ _).1 h1
      · exact h.1 x hx
    · rw [if_neg h1]
      by_cases h2 : cmpX y p = 0
      · rw [if_pos h2]; exact h0
      · rw [if_neg h2, List.pairwise_cons]
        have hpy : ltX p y := by
          rcases ltX_tri p y with q | q | q
          · exact q
          · exact absurd (q ▸ cmpX_refl p) h2
          · exact absurd ((cmpX_lt y p).2 q) h1
        refine ⟨fun x hx => ?_, h0⟩
        rcases List.mem_cons.1 hx with rfl | hx
        · exact hpy
        · exact ltX_tr hpy (h.1 x hx)
theorem sort_fold : ∀ (l st : List PX), st.Pairwise ltX → (l.foldl insR st).Pairwise ltX ∧ ∀ x, x ∈ l.foldl insR st ↔ x ∈ l ∨ x ∈ st
  | [], st, h => ⟨h, fun x => by simp⟩
  | p :: l, st, h => by
    obtain ⟨a, b⟩ := sort_fold l (insR st p) (insR_rise st p h)
    refine ⟨a, fun x => ?_⟩
    rw [List.foldl_cons, b x, insR_mem, List.mem_cons]
    constructor
    · rintro (a | a | a) <;> simp [a]
    · rintro ((a | a) | a) <;> simp [a]
theorem sortR_rise (l : List PX) : (sortR l).Pairwise ltX := (sort_fold l [] List.Pairwise.nil).1
theorem sortR_mem (l : List PX) (x : PX) : x ∈ sortR l ↔ x ∈ l := by rw [sortR, (sort_fold l [] List.Pairwise.nil).2 x]; simp
theorem hasL_mem {l l' : List PX} (h : ∀ x, x ∈ l ↔ x ∈ l') (v : Bool) (m : Nat) : hasL l v m = hasL l' v m := by
  rw [Bool.eq_iff_iff, hasL_iff, hasL_iff]
  exact ⟨fun ⟨x, hx, q⟩ => ⟨x, (h x).1 hx, q⟩, fun ⟨x, hx, q⟩ => ⟨x, (h x).2 hx, q⟩⟩
theorem insR_len : ∀ (l : List PX) (p : PX), (insR l p).length ≤ l.length + 1
  | [], p => by simp [insR]
  | y :: r, p => by
    unfold insR
    have := insR_len r p
    split
    · simp; omega
    · split <;> simp
theorem sort_len : ∀ (l st : List PX), (l.foldl insR st).length ≤ st.length + l.length
  | [], st => by simp
  | p :: l, st => by
    have h1 := insR_len st p
    have h2 := sort_len l (insR st p)
    rw [List.foldl_cons, List.length_cons]
    omega
theorem sortR_len (l : List PX) : (sortR l).length ≤ l.length := by have := sort_len l []; simpa [sortR] using this

/-- A row without the elements at two places; the first stands at n. -/
def woR (i k : Nat) : List PX → Nat → List PX
  | [], _ => []
  | x :: r, n => if n ≠ i ∧ n ≠ k then x :: woR i k r (n + 1) else woR i k r (n + 1)
def pairR (L : List PX) (i k : Nat) (x y : PX) : Option (List PX) :=
  if i ≠ k ∧ covX x y = true then some (woR k k L 0) else match whoX x y with
    | some w => some (woR i k L 0 ++ [w])
    | none => none
def innerR (L : List PX) (i : Nat) (x : PX) : Nat → List PX → Option (List PX)
  | _, [] => none
  | k, y :: r => match pairR L i k x y with
    | some l => some l
    | none => innerR L i x (k + 1) r
def outerR (L : List PX) : Nat → List PX → Option (List PX)
  | _, [] => none
  | i, x :: r => match innerR L i x 0 L with
    | some l => some l
    | none => outerR L (i + 1) r
def onceR (L : List PX) : Option (List PX) := outerR L 0 L
def reduceR : Nat → List PX → List PX
  | 0, L => L
  | f + 1, L => match onceR L with
    | some L' => reduceR f L'
    | none => L
def mergeR (l : List PX) : List PX := sortR (reduceR (sortR l).length (sortR l))

theorem woR_sub (i k : Nat) : ∀ (L : List PX) (n : Nat) (x : PX), x ∈ woR i k L n → x ∈ L
  | [], _, _, h => h
  | y :: r, n, x, h => by
    unfold woR at h
    split at h
    · rcases List.mem_cons.1 h with rfl | h
      · simp
      · exact List.mem_cons_of_mem _ (woR_sub i k r (n + 1) x h)
    · exact List.mem_cons_of_mem _ (woR_sub i k r (n + 1) x h)
theorem woR_get (i k : Nat) : ∀ (L : List PX) (n j : Nat) (x : PX), L[j]? = some x → n + j ≠ i → n + j ≠ k → x ∈ woR i k L n
  | [], _, _, _, h, _, _ => by simp at h
  | y :: r, n, 0, x, h, h1, h2 => by
    simp at h; subst h
    unfold woR
    rw [if_pos ⟨by simpa using h1, by simpa using h2⟩]; simp
  | y :: r, n, j + 1, x, h, h1, h2 => by
    have := woR_get i k r (n + 1) j x (by simpa using h) (by omega) (by omega)
    unfold woR
    split
    · simp [this]
    · exact this
theorem woR_off (i k : Nat) : ∀ (L : List PX) (n : Nat), (i < n) → (k < n) → woR i k L n = L
  | [], _, _, _ => rfl
  | y :: r, n, h1, h2 => by unfold woR; rw [if_pos ⟨by omega, by omega⟩, woR_off i k r (n + 1) (by omega) (by omega)]
theorem woR_one (k : Nat) : ∀ (L : List PX) (n : Nat), n ≤ k → k < n + L.length → (woR k k L n).length + 1 = L.length
  | [], _, _, h => by simp at h; omega
  | y :: r, n, h1, h2 => by
    unfold woR
    by_cases h : n = k
    · rw [if_neg (by omega), woR_off k k r (n + 1) (by omega) (by omega), List.length_cons]
    · rw [if_pos ⟨h, h⟩, List.length_cons, List.length_cons, woR_one k r (n + 1) (by omega) (by simp at h2; omega)]
theorem woR_half (i k : Nat) : ∀ (L : List PX) (n : Nat), i < n → n ≤ k → k < n + L.length → (woR i k L n).length + 1 = L.length ∧ (woR k i L n).length + 1 = L.length
  | [], _, _, _, h => by simp at h; omega
  | y :: r, n, h1, h2, h3 => by
    unfold woR
    by_cases h : n = k
    · rw [if_neg (by omega), if_neg (by omega), woR_off i k r (n + 1) (by omega) (by omega), woR_off k i r (n + 1) (by omega) (by omega), List.length_cons]
      exact ⟨rfl, rfl⟩
    · rw [if_pos ⟨by omega, h⟩, if_pos ⟨h, by omega⟩, List.length_cons, List.length_cons, List.length_cons]
      have := woR_half i k r (n + 1) (by omega) (by omega) (by simp at h3; omega)
      omega
theorem woR_two (i k : Nat) : ∀ (L : List PX) (n : Nat), n ≤ i → n ≤ k → i ≠ k → i < n + L.length → k < n + L.length → (woR i k L n).length + 2 = L.length
  | [], _, _, _, _, h, _ => by simp at h; omega
  | y :: r, n, h1, h2, h0, h3, h4 => by
    simp at h3 h4
    unfold woR
    by_cases hi : n = i
    · rw [if_neg (by omega), List.length_cons]
      have := woR_half i k r (n + 1) (by omega) (by omega) (by omega)
      omega
    · by_cases hk : n = k
      · rw [if_neg (by omega), List.length_cons]
        have := woR_half k i r (n + 1) (by omega) (by omega) (by omega)
        omega
      · rw [if_pos ⟨hi, hk⟩, List.length_cons, List.length_cons]
        have := woR_two i k r (n + 1) (by omega) (by omega) h0 (by omega) (by omega)
        omega
theorem pairR_some {L : List PX} {i k : Nat} {x y : PX} (hi : L[i]? = some x) (hk : L[k]? = some y) {L' : List PX} (h : pairR L i k x y = some L') :
    L'.length + 1 = L.length ∧ ∀ v m, m < 2 ^ 128 → hasL L' v m = hasL L v m := by
  have li := (List.getElem?_eq_some_iff.1 hi).1
  have lk := (List.getElem?_eq_some_iff.1 hk).1
  unfold pairR at h
  split at h
  · rename_i hc
    injection h with h
    subst h
    refine ⟨woR_one k L 0 (Nat.zero_le _) (by omega), fun v m hm => ?_⟩
    rw [Bool.eq_iff_iff, hasL_iff, hasL_iff]
    constructor
    · rintro ⟨z, hz, q⟩; exact ⟨z, woR_sub _ _ _ _ _ hz, q⟩
    · rintro ⟨z, hz, q⟩
      obtain ⟨j, hj, rfl⟩ := List.getElem_of_mem hz
      by_cases e : j = k
      · subst e
        rw [List.getElem?_eq_getElem hj] at hk
        injection hk with hk
        rw [hk] at q
        exact ⟨x, woR_get _ _ L 0 i x hi (by omega) (by omega), hasX_cov hc.2 hm q⟩
      · exact ⟨_, woR_get _ _ L 0 j _ (List.getElem?_eq_getElem hj) (by omega) (by omega), q⟩
  · split at h
    · rename_i w hw
      injection h with h
      subst h
      have hik : i ≠ k := by
        intro e
        subst e
        rw [hi] at hk
        injection hk with hk
        subst hk
        have := who_span hw
        have := x.lo_hi
        omega
      have h2 := woR_two i k L 0 (Nat.zero_le _) (Nat.zero_le _) hik (by omega) (by omega)
      refine ⟨by rw [List.length_append]; simp; omega, fun v m hm => ?_⟩
      have hwh := who_has hw v m hm
      rw [Bool.eq_iff_iff, hasL_iff, hasL_iff]
      constructor
      · rintro ⟨z, hz, q⟩
        rcases List.mem_append.1 hz with hz | hz
        · exact ⟨z, woR_sub _ _ _ _ _ hz, q⟩
        · simp at hz
          subst hz
          rw [hwh, Bool.or_eq_true] at q
          rcases q with q | q
          · exact ⟨x, List.mem_of_getElem? hi, q⟩
          · exact ⟨y, List.mem_of_getElem? hk, q⟩
      · rintro ⟨z, hz, q⟩
        obtain ⟨j, hj, rfl⟩ := List.getElem_of_mem hz
        have hj' := List.getElem?_eq_getElem hj
        by_cases e1 : j = i
        · subst e1
          rw [hj'] at hi
          injection hi with hi
          rw [hi] at q
          exact ⟨w, by simp, by rw [hwh, q]; rfl⟩
        · by_cases e2 : j = k
          · subst e2
            rw [hj'] at hk
            injection hk with hk
            rw [hk] at q
            exact ⟨w, by simp, by rw [hwh, q]; simp⟩
          · exact ⟨_, List.mem_append_left _ (woR_get _ _ L 0 j _ hj' (by omega) (by omega)), q⟩
    · cases h
theorem pairR_none {L : List PX} {i k : Nat} {x y : PX} (h : pairR L i k x y = none) : (i ≠ k → covX x y = false) ∧ whoX x y = none := by
  unfold pairR at h
  split at h
  · cases h
  · rename_i hc
    split at h
    · cases h
    · rename_i hw
      refine ⟨fun hik => ?_, hw⟩
      simpa [hik] using hc
theorem innerR_some {L : List PX} {i : Nat} {x : PX} (hi : L[i]? = some x) {L' : List PX} : ∀ (r : List PX) (k : Nat), (∀ j y, r[j]? = some y → L[k + j]? = some y) → innerR L i x k r = some L' →
    L'.length + 1 = L.length ∧ ∀ v m, m < 2 ^ 128 → hasL L' v m = hasL L v m
  | [], _, _, h => by cases h
  | y :: r, k, hr, h => by
    unfold innerR at h
    split at h
    · rename_i l hp
      injection h with h
      subst h
      exact pairR_some hi (hr 0 y rfl) hp
    · exact innerR_some hi r (k + 1) (fun j y hy => by rw [show k + 1 + j = k + (j + 1) by omega]; exact hr (j + 1) y (by simpa using hy)) h
theorem innerR_none {L : List PX} {i : Nat} {x : PX} : ∀ (r : List PX) (k : Nat), innerR L i x k r = none → ∀ j y, r[j]? = some y → (i ≠ k + j → covX x y = false) ∧ whoX x y = none
  | [], _, _, j, y, hy => by simp at hy
  | z :: r, k, h, j, y, hy => by
    unfold innerR at h
    split at h
    · cases h
    · rename_i hp
      cases j with
      | zero => simp at hy; subst hy; exact pairR_none hp
      | succ j =>
        have := innerR_none r (k + 1) h j y (by simpa using hy)
        rwa [show k + 1 + j = k + (j + 1) by omega] at this
theorem outerR_some {L L' : List PX} : ∀ (r : List PX) (i : Nat), (∀ j y, r[j]? = some y → L[i + j]? = some y) → outerR L i r = some L' →
    L'.length + 1 = L.length ∧ ∀ v m, m < 2 ^ 128 → hasL L' v m = hasL L v m
  | [], _, _, h => by cases h
  | x :: r, i, hr, h => by
    unfold outerR at h
    split at h
    · rename_i l hp
      injection h with h
      subst h
      exact innerR_some (hr 0 x rfl) L 0 (fun j y hy => by rwa [Nat.zero_add]) hp
    · exact outerR_some r (i + 1) (fun j y hy => by rw [show i + 1 + j = i + (j + 1) by omega]; exact hr (j + 1) y (by simpa using hy)) h
theorem outerR_none {L : List PX} : ∀ (r : List PX) (i : Nat), outerR L i r = none → ∀ j x, r[j]? = some x → ∀ k y, L[k]? = some y → (i + j ≠ k → covX x y = false) ∧ whoX x y = none
  | [], _, _, j, x, hx => by simp at hx
  | z :: r, i, h, j, x, hx => by
    unfold outerR at h
    split at h
    · cases h
    · rename_i hp
      cases j with
      | zero =>
        simp at hx; subst hx
        intro k y hy
        have := innerR_none L 0 hp k y hy
        rwa [Nat.zero_add] at this
      | succ j =>
        have := outerR_none r (i + 1) h j x (by simpa using hx)
        rwa [show i + 1 + j = i + (j + 1) by omega] at this
theorem onceR_some {L L' : List PX} (h : onceR L = some L') : L'.length + 1 = L.length ∧ ∀ v m, m < 2 ^ 128 → hasL L' v m = hasL L v m :=
  outerR_some L 0 (fun j y hy => by rwa [Nat.zero_add]) h
theorem onceR_none {L : List PX} (h : onceR L = none) : Red L := by
  have hh := outerR_none L 0 h
  refine ⟨fun x hx y hy hc => ?_, fun x hx y hy => ?_⟩
  · obtain ⟨i, hi, rfl⟩ := List.getElem_of_mem hx
    obtain ⟨k, hk, rfl⟩ := List.getElem_of_mem hy
    by_cases e : i = k
    · subst e; rfl
    · have := (hh i _ (List.getElem?_eq_getElem hi) k _ (List.getElem?_eq_getElem hk)).1 (by omega)
      rw [this] at hc; cases hc
  · obtain ⟨i, hi, rfl⟩ := List.getElem_of_mem hx
    obtain ⟨k, hk, rfl⟩ := List.getElem_of_mem hy
    exact (hh i _ (List.getElem?_eq_getElem hi) k _ (List.getElem?_eq_getElem hk)).2
theorem reduceR_spec : ∀ (f : Nat) (L : List PX), L.length ≤ f → Red (reduceR f L) ∧ (∀ v m, m < 2 ^ 128 → hasL (reduceR f L) v m = hasL L v m)
  | 0, L, h => by
    have : L = [] := List.length_eq_zero_iff.1 (by omega)
    subst this
    exact ⟨⟨fun x hx => by simp [reduceR] at hx, fun x hx => by simp [reduceR] at hx⟩, fun _ _ _ => rfl⟩
  | f + 1, L, h => by
    unfold reduceR
    cases ho : onceR L with
    | none => exact ⟨onceR_none ho, fun _ _ _ => rfl⟩
    | some L' =>
      have h1 := onceR_some ho
      have h2 := reduceR_spec f L' (by omega)
      exact ⟨h2.1, fun v m hm => (h2.2 v m hm).trans (h1.2 v m hm)⟩
theorem mergeR_canon (l : List PX) : CanonX (mergeR l) := by
  have h := (reduceR_spec _ (sortR l) (Nat.le_refl _)).1
  refine ⟨sortR_rise _, ⟨fun x hx y hy => h.cov x ((sortR_mem _ _).1 hx) y ((sortR_mem _ _).1 hy), fun x hx y hy => h.who x ((sortR_mem _ _).1 hx) y ((sortR_mem _ _).1 hy)⟩⟩
theorem mergeR_has (l : List PX) (v : Bool) (m : Nat) (hm : m < 2 ^ 128) : hasL (mergeR l) v m = hasL l v m :=
  ((hasL_mem (sortR_mem _) v m).trans ((reduceR_spec _ (sortR l) (Nat.le_refl _)).2 v m hm)).trans (hasL_mem (sortR_mem _) v m)
/-- Both ways of merging come to one row. -/
theorem merge_both {l ys : List PX} (hp : ys.Perm l) (hs : ys.Pairwise fun a b => ¬ ltX b a) : mergeX ys = mergeR l :=
  canon_ext (merge_canon hs) (mergeR_canon l) fun v m hm => by rw [merge_has hs v m hm, mergeR_has l v m hm, hasL_perm hp]
end Go.Proofs.YtgpiapmbbnngpaaGreatDoor

/- The reference's bits in plain numbers. -/
namespace Go.Proofs.YtgpiapmbbnngpaaGreatDoor

/-- The i-th bit, the first first. -/
def bitN (n i : Nat) : Bool := n.testBit (127 - i)
theorem bit_byte (n i : Nat) (hi : i < 128) : decide (byteAt n (i / 8) / 2 ^ (7 - i % 8) % 2 = 1) = bitN n i := by
  have h : (byteAt n (i / 8)).testBit (7 - i % 8) = bitN n i := by
    rw [byteAt_bit, decide_eq_true (by omega), Bool.true_and]
    unfold bitN
    congr 1
    omega
  rw [← h, Nat.testBit_eq_decide_div_mod_eq]
theorem okA_bytes (v : Bool) (n : Nat) (hn : n < 2 ^ 128) : okA v n = true ↔ ∀ i, wid v / 8 ≤ i → i < 16 → byteAt n i = 0 := by
  have hw := wid_le v
  have hd : wid v = 8 * (wid v / 8) := by cases v <;> rfl
  unfold okA
  rw [decide_eq_true_eq]
  constructor
  · intro h i h1 h2
    have := mask_byte n (wid v) i h2 hw
    rw [h] at this
    rw [this]
    unfold maskB
    rw [if_pos (by omega)]
  · intro h
    refine byteAt_inj (Nat.lt_of_le_of_lt (maskN_le _ _) hn) hn fun i hi => ?_
    rw [mask_byte n (wid v) i hi hw]
    unfold maskB
    by_cases h1 : wid v ≤ 8 * i
    · rw [if_pos h1, h i (by omega) hi]
    · rw [if_neg h1, if_neg (by omega)]
theorem mask_bits (n k : Nat) : maskN n k = n ↔ ∀ j, j < 128 - k → n.testBit j = false := by
  constructor
  · intro h j hj
    have := maskN_bit n k j
    rw [h, decide_eq_false (by omega), Bool.false_and] at this
    exact this
  · intro h
    apply Nat.eq_of_testBit_eq
    intro j
    rw [maskN_bit]
    by_cases hj : 128 - k ≤ j
    · rw [decide_eq_true hj, Bool.true_and]
    · rw [decide_eq_false hj, Bool.false_and, h j (by omega)]
theorem okP_bitsN (v : Bool) (n k : Nat) (hA : okA v n = true) (hk : k ≤ wid v) : okP v n k = true ↔ ∀ i, k ≤ i → i < wid v → bitN n i = false := by
  have hw := wid_le v
  unfold okP
  rw [decide_eq_true (by omega), decide_eq_true (by omega), Bool.true_and, Bool.true_and, decide_eq_true_eq, Int.toNat_natCast, mask_bits]
  unfold okA at hA
  rw [decide_eq_true_eq, mask_bits] at hA
  constructor
  · intro h i h1 h2
    exact h (127 - i) (by omega)
  · intro h j hj
    by_cases hj2 : j < 128 - wid v
    · exact hA j hj2
    · have := h (127 - j) (by omega) (by omega)
      unfold bitN at this
      rwa [show 127 - (127 - j) = j by omega] at this
/-- With a bit taken off. -/
def clrN (n i : Nat) : Nat := n ^^^ (if bitN n i then 2 ^ (127 - i) else 0)
theorem clrN_bit (n i j : Nat) : (clrN n i).testBit j = (n.testBit j && !decide (j = 127 - i)) := by
  unfold clrN bitN
  rw [Nat.testBit_xor]
  by_cases h : j = 127 - i
  · subst h
    cases hb : n.testBit (127 - i) <;> simp [Nat.testBit_two_pow_self]
  · rw [decide_eq_false h]
    split
    · rw [Nat.testBit_two_pow_of_ne (fun e => h e.symm)]; simp
    · simp
theorem clrN_lt (n i : Nat) (hn : n < 2 ^ 128) : clrN n i < 2 ^ 128 := by
  unfold clrN
  refine Nat.xor_lt_two_pow hn ?_
  split
  · exact Nat.pow_lt_pow_right (by decide) (by omega)
  · exact Nat.pos_of_ne_zero (by decide)
theorem sub_bit_all : ∀ (x : Fin 256) (s : Fin 8), x.val.testBit s.val = true → x.val ^^^ 2 ^ s.val = x.val - 2 ^ s.val := by decide +kernel
theorem clr_byte (n i j : Nat) (hi : i < 128) (hj : j < 16) : byteAt (clrN n i) j = if j = i / 8 then byteAt n j - (if bitN n i then 2 ^ (7 - i % 8) else 0) else byteAt n j := by
  have hb : ∀ t, (byteAt (clrN n i) j).testBit t = ((byteAt n j).testBit t && !decide (120 - 8 * j + t = 127 - i)) := fun t => by
    rw [byteAt_bit, byteAt_bit, clrN_bit, Bool.and_assoc]
  by_cases h : j = i / 8
  · rw [if_pos h]
    have hbit : (byteAt n j).testBit (7 - i % 8) = bitN n i := by
      rw [byteAt_bit, decide_eq_true (by omega), Bool.true_and]
      unfold bitN
      congr 1
      omega
    cases hc : bitN n i with
    | true =>
      rw [hc] at hbit
      rw [if_pos rfl, ← sub_bit_all ⟨byteAt n j, byteAt_lt n j⟩ ⟨7 - i % 8, by omega⟩ hbit]
      apply Nat.eq_of_testBit_eq
      intro t
      simp only
      rw [hb t, Nat.testBit_xor]
      by_cases ht : t = 7 - i % 8
      · subst ht
        rw [hbit, Nat.testBit_two_pow_self, decide_eq_true (by omega)]
        rfl
      · rw [Nat.testBit_two_pow_of_ne (fun e => ht e.symm), decide_eq_false (by omega)]
        simp
    | false =>
      rw [hc] at hbit
      rw [if_neg (by simp), Nat.sub_zero]
      apply Nat.eq_of_testBit_eq
      intro t
      rw [hb t]
      by_cases ht : t = 7 - i % 8
      · subst ht
        rw [hbit]; rfl
      · rw [decide_eq_false (by omega)]
        simp
  · rw [if_neg h]
    apply Nat.eq_of_testBit_eq
    intro t
    rw [hb t]
    by_cases ht : t < 8
    · rw [decide_eq_false (by omega)]; simp
    · rw [byteAt_bit, decide_eq_false ht]; simp
/-- Where Of's loop stands: the bits from k to m are gone. -/
def Cut (n k m x : Nat) : Prop := ∀ j, x.testBit j = (n.testBit j && !(decide (128 - m ≤ j) && decide (j < 128 - k)))
theorem Cut.start (n k : Nat) : Cut n k k n := fun j => by
  by_cases h : 128 - k ≤ j
  · rw [decide_eq_false (p := j < 128 - k) (by omega)]; simp
  · rw [decide_eq_false h]; simp
theorem Cut.step {n k m x : Nat} (h : Cut n k m x) (hk : k ≤ m) (hm : m < 128) : Cut n k (m + 1) (clrN x m) := fun j => by
  rw [clrN_bit, h j]
  by_cases h1 : j = 127 - m
  · subst h1
    rw [decide_eq_true rfl, decide_eq_true (p := 128 - (m + 1) ≤ 127 - m) (by omega), decide_eq_true (p := 127 - m < 128 - k) (by omega)]; simp
  · rw [decide_eq_false h1]
    by_cases h2 : 128 - m ≤ j
    · rw [decide_eq_true h2, decide_eq_true (p := 128 - (m + 1) ≤ j) (by omega)]; simp
    · rw [decide_eq_false h2, decide_eq_false (p := 128 - (m + 1) ≤ j) (by omega)]; simp
theorem Cut.fin {v : Bool} {n k x : Nat} (h : Cut n k (wid v) x) (hA : okA v n = true) (_ : k ≤ wid v) : x = maskN n k := by
  have hw := wid_le v
  unfold okA at hA
  rw [decide_eq_true_eq, mask_bits] at hA
  apply Nat.eq_of_testBit_eq
  intro j
  rw [h j, maskN_bit]
  by_cases h1 : j < 128 - wid v
  · rw [hA j h1]; simp
  · rw [decide_eq_true (p := 128 - wid v ≤ j) (by omega), Bool.true_and]
    by_cases h2 : j < 128 - k
    · rw [decide_eq_true h2, decide_eq_false (p := 128 - k ≤ j) (by omega)]; simp
    · rw [decide_eq_false h2, decide_eq_true (p := 128 - k ≤ j) (by omega)]; simp
/-- Where Has's loop stands. -/
def SameTo (n m i : Nat) : Prop := ∀ j, j < i → bitN n j = bitN m j
theorem SameTo.fin {n m k : Nat} (hn : n < 2 ^ 128) (hm : m < 2 ^ 128) (hk : k ≤ 128) (h : SameTo n m k) : sameK n m k = true := by
  rw [sameK_bits n m k hn hm]
  intro j h1 h2
  have := h (127 - j) (by omega)
  unfold bitN at this
  rwa [show 127 - (127 - j) = j by omega] at this
theorem same_off {n m k i : Nat} (hn : n < 2 ^ 128) (hm : m < 2 ^ 128) (_ : k ≤ 128) (hi : i < k) (h : bitN n i ≠ bitN m i) : sameK n m k = false := by
  rw [← Bool.not_eq_true, sameK_bits n m k hn hm]
  intro hs
  exact h (hs (127 - i) (by omega) (by omega))
/-- Where Compare's loop stands. -/
def ByteTo (n m i : Nat) : Prop := ∀ j, j < i → byteAt n j = byteAt m j
theorem ByteTo.div {n m : Nat} (hn : n < 2 ^ 128) (hm : m < 2 ^ 128) : ∀ i, i ≤ 16 → ByteTo n m i → n / 2 ^ (128 - 8 * i) = m / 2 ^ (128 - 8 * i)
  | 0, _, _ => by rw [Nat.div_eq_of_lt (by simpa using hn), Nat.div_eq_of_lt (by simpa using hm)]
  | i + 1, h, hb => by
    have ih := ByteTo.div hn hm i (by omega) (fun j hj => hb j (by omega))
    have e1 := div_byte n i (by omega)
    have e2 := div_byte m i (by omega)
    rw [show 128 - 8 * (i + 1) = 120 - 8 * i by omega, e1, e2, ih, hb i (by omega)]
theorem byte_less {n m i : Nat} (hn : n < 2 ^ 128) (hm : m < 2 ^ 128) (hi : i < 16) (h : ByteTo n m i) (hl : byteAt n i < byteAt m i) : n < m := by
  have ih := ByteTo.div hn hm i (by omega) h
  have e1 := div_byte n i hi
  have e2 := div_byte m i hi
  rw [ih] at e1
  have hlt : n / 2 ^ (120 - 8 * i) < m / 2 ^ (120 - 8 * i) := by omega
  rcases Nat.lt_or_ge n m with h1 | h1
  · exact h1
  · have := Nat.div_le_div_right (c := 2 ^ (120 - 8 * i)) h1; omega
theorem byte_all {n m : Nat} (hn : n < 2 ^ 128) (hm : m < 2 ^ 128) (h : ByteTo n m 16) : n = m := byteAt_inj hn hm h
theorem ByteTo.comm {n m i : Nat} (h : ByteTo n m i) : ByteTo m n i := fun j hj => (h j hj).symm
theorem highN_lt (n k : Nat) (hn : n < 2 ^ 128) (hk : k < 128) : highN n k < 2 ^ 128 := by
  unfold highN
  exact Nat.or_lt_two_pow hn (Nat.pow_lt_pow_right (by decide) (by omega))
theorem highN_byte (n K i : Nat) (hK : K < 128) (hi : i < 16) : byteAt (highN n K) i = if i = K / 8 then byteAt n i ||| 128 / 2 ^ (K % 8) else byteAt n i := by
  apply Nat.eq_of_testBit_eq
  intro j
  rw [byteAt_bit]
  unfold highN
  rw [Nat.testBit_or, Nat.testBit_two_pow]
  by_cases hj : j < 8
  · by_cases h : i = K / 8
    · rw [if_pos h, Nat.testBit_or, byteAt_bit]
      have e : 128 / 2 ^ (K % 8) = 2 ^ (7 - K % 8) := by
        rw [show (128 : Nat) = 2 ^ 7 by rfl, Nat.pow_div (by omega) (by omega)]
      rw [e, Nat.testBit_two_pow]
      have : (127 - K = 120 - 8 * i + j) ↔ (7 - K % 8 = j) := by omega
      simp [hj, this]
    · rw [if_neg h, byteAt_bit]
      have : ¬ (127 - K = 120 - 8 * i + j) := by omega
      simp [hj, this]
  · have hz : (if i = K / 8 then byteAt n i ||| 128 / 2 ^ (K % 8) else byteAt n i) < 2 ^ 8 := by
      split
      · refine Nat.or_lt_two_pow (byteAt_lt n i) ?_
        exact Nat.lt_of_le_of_lt (Nat.div_le_self _ _) (by decide)
      · exact byteAt_lt n i
    rw [Nat.testBit_lt_two_pow (Nat.lt_of_lt_of_le hz (Nat.pow_le_pow_right (by omega) (by omega)))]
    simp [hj]
end Go.Proofs.YtgpiapmbbnngpaaGreatDoor
