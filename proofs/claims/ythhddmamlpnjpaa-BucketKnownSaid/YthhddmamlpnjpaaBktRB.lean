/- The document's Fits and the bucket's are one: in plain numbers. -/
import Derived.Test.YthhddmamlpnjpaaBktP
namespace Go.Proofs.Ythhddmamlpnjpaa

def tkV (L : List (Nat × Nat)) (j : Nat) : Nat := (L[j]?.getD (0, 0)).1
theorem tkV_of {L : List (Nat × Nat)} {j x y : Nat} (h : L[j]? = some (x, y)) : tkV L j = x := by unfold tkV; rw [h]; rfl

/-- From the f-th tick to the t-th: too full, and the i-th lies there. -/
def BadFT (p q r : Nat) (L : List (Nat × Nat)) (i f t : Nat) : Prop :=
  tkV L f ≤ tkV L i ∧ tkV L i ≤ tkV L t ∧ mostN p q r (tkV L t - tkV L f) < strV (L.take (i + 1)) (tkV L f) (tkV L t)
def FullRef (p q r : Nat) (L : List (Nat × Nat)) (i : Nat) : Prop := ∃ f t, f ≤ i ∧ t ≤ i ∧ BadFT p q r L i f t

theorem most_lt {p q r d s : Nat} (hq : 1 ≤ q) : mostN p q r d < s ↔ r * q + d * p < s * q := by
  unfold mostN
  have h := Nat.div_lt_iff_lt_mul (x := d * p) (y := s - r) (k := q) (by omega)
  constructor
  · intro h1
    have h2 : d * p / q < s - r := Nat.lt_sub_of_add_lt (by rw [Nat.add_comm]; exact h1)
    have h3 := h.1 h2
    rw [Nat.sub_mul] at h3
    omega
  · intro h1
    have h2 : d * p < (s - r) * q := by rw [Nat.sub_mul]; omega
    have h3 := h.2 h2
    have h4 : r + d * p / q < r + (s - r) := Nat.add_lt_add_left h3 r
    have h5 : r ≤ s := by
      rcases Nat.lt_or_ge s r with h6 | h6
      · rw [Nat.sub_eq_zero_of_le (Nat.le_of_lt h6), Nat.zero_mul] at h2; omega
      · exact h6
    rwa [Nat.add_sub_cancel' h5] at h4

/-- Where both stand. -/
structure BothAt (p q r : Nat) (L : List (Nat × Nat)) (k : Nat) (S : List (Nat × Nat)) : Prop where
  eq : fitsGo p q r 0 [] L = fitsGo p q r k S (L.drop k)
  rise : Rise S
  perm : S.Perm (L.take k)
  small : ∀ a b, a ≤ b → strV S a b * q ≤ r * q + (b - a) * p
theorem BothAt.start (p q r : Nat) (L : List (Nat × Nat)) : BothAt p q r L 0 [] := ⟨rfl, List.Pairwise.nil, List.Perm.nil, fun a b _ => by simp [strV_nil]⟩

theorem BothAt.ins {p q r k x y : Nat} {L S : List (Nat × Nat)} (h : BothAt p q r L k S) (hx : L[k]? = some (x, y)) : (insV (x, y) S).Perm (L.take (k + 1)) := by
  rw [List.take_add_one, hx]
  refine (insV_perm _ _).trans ((h.perm.cons (x, y)).trans ?_)
  simp only [Option.toList]
  exact (List.perm_append_comm (l₁ := [(x, y)]) (l₂ := L.take k))

theorem mem_take_get {L : List (Nat × Nat)} {k : Nat} {z : Nat × Nat} (h : z ∈ L.take (k + 1)) : ∃ j, j ≤ k ∧ tkV L j = z.1 := by
  obtain ⟨j, hj, hz⟩ := List.mem_iff_getElem.1 h
  rw [List.length_take] at hj
  refine ⟨j, by omega, ?_⟩
  unfold tkV
  rw [List.getElem_take] at hz
  rw [List.getElem?_eq_getElem (by omega), hz]
  rfl

theorem BothAt.iff {p q r k x y : Nat} {L S : List (Nat × Nat)} (h : BothAt p q r L k S) (hq : 1 ≤ q) (hr : r ≤ 1048576) (hx : L[k]? = some (x, y)) : FullRef p q r L k ↔ (bigV < y ∨ fullV p q r (insV (x, y) S) = true) := by
  have hp := h.ins hx
  have htk := tkV_of hx
  constructor
  · rintro ⟨f, t, _, _, h1, h2, h3⟩
    right
    rw [most_lt hq, ← strV_perm hp] at h3
    cases hf : fullV p q r (insV (x, y) S) with
    | true => rfl
    | false =>
      have := fullV_false (insV_rise _ _ h.rise) hf (tkV L f) (tkV L t) (Nat.le_trans h1 h2)
      omega
  · rintro (hb | hf)
    · refine ⟨k, k, Nat.le_refl _, Nat.le_refl _, Nat.le_refl _, Nat.le_refl _, ?_⟩
      rw [htk, ← strV_perm hp, strV_perm (insV_perm _ _), strV_cons, if_pos ⟨Nat.le_refl _, Nat.le_refl _⟩, Nat.sub_self]
      unfold mostN
      rw [Nat.zero_mul, Nat.zero_div]
      unfold bigV at hb
      omega
    · obtain ⟨u, hu, v, hv, huv, hs⟩ := fullV_true (insV_rise _ _ h.rise) hf
      have hux : u.1 ≤ x ∧ x ≤ v.1 := by
        rcases Nat.lt_or_ge x u.1 with h1 | h1
        · exfalso
          rw [strV_perm (insV_perm _ _), strV_cons, if_neg (by simp; omega), Nat.zero_add] at hs
          have := h.small u.1 v.1 huv
          omega
        · rcases Nat.lt_or_ge v.1 x with h2 | h2
          · exfalso
            rw [strV_perm (insV_perm _ _), strV_cons, if_neg (by simp; omega), Nat.zero_add] at hs
            have := h.small u.1 v.1 huv
            omega
          · exact ⟨h1, h2⟩
      obtain ⟨f, hf1, hf2⟩ := mem_take_get (hp.mem_iff.1 hu)
      obtain ⟨t, ht1, ht2⟩ := mem_take_get (hp.mem_iff.1 hv)
      refine ⟨f, t, hf1, ht1, ?_, ?_, ?_⟩
      · rw [hf2, htk]; exact hux.1
      · rw [ht2, htk]; exact hux.2
      · rw [hf2, ht2, most_lt hq, ← strV_perm hp]; exact hs

theorem BothAt.found {p q r k x y : Nat} {L S : List (Nat × Nat)} (h : BothAt p q r L k S) (hq : 1 ≤ q) (hr : r ≤ 1048576) (hx : L[k]? = some (x, y)) (hf : FullRef p q r L k) : fitsGo p q r 0 [] L = k := by
  rw [h.eq, drop_ask hx]
  unfold fitsGo
  rcases (h.iff hq hr hx).1 hf with h1 | h1
  · rw [if_pos h1]
  · by_cases hb : bigV < y
    · rw [if_pos hb]
    · rw [if_neg hb, if_pos h1]
theorem BothAt.step {p q r k x y : Nat} {L S : List (Nat × Nat)} (h : BothAt p q r L k S) (hq : 1 ≤ q) (hr : r ≤ 1048576) (hx : L[k]? = some (x, y)) (hf : ¬ FullRef p q r L k) : BothAt p q r L (k + 1) (insV (x, y) S) := by
  have hn := (not_congr (h.iff hq hr hx)).1 hf
  have hb : ¬ bigV < y := fun h1 => hn (.inl h1)
  have hv : fullV p q r (insV (x, y) S) = false := by
    cases h1 : fullV p q r (insV (x, y) S) with
    | false => rfl
    | true => exact absurd (.inr h1) hn
  refine ⟨?_, insV_rise _ _ h.rise, h.ins hx, fullV_false (insV_rise _ _ h.rise) hv⟩
  rw [h.eq, drop_ask hx]
  conv => lhs; unfold fitsGo
  rw [if_neg hb, hv, if_neg (by simp)]
theorem BothAt.done {p q r k : Nat} {L S : List (Nat × Nat)} (h : BothAt p q r L k S) (hk : L.length = k) : fitsGo p q r 0 [] L = k := by
  rw [h.eq, List.drop_eq_nil_of_le (by omega)]
  rfl
end Go.Proofs.Ythhddmamlpnjpaa
