/- What PrefixLeast asks, in numbers alone. -/
import Derived.Test.YtgpiapmbbnngpaaGreatDoorPfxLs
import Derived.Test.YtgpiapmbbnngpaaGreatDoorPfxNl
import Derived.Test.YtgpiapmbbnngpaaGreatDoorPfxCm
namespace Go.Proofs.YtgpiapmbbnngpaaGreatDoor
open Go.RowKit Go.Lib Go.Sort

/-- The prefix that is made of any one. -/
def lsK (p : RP) : Nat := (withinI p.2.2 (wid p.1)).toNat
theorem lsK_le (p : RP) : lsK p ≤ wid p.1 := by
  have := withinI_le p.2.2 (wid p.1)
  unfold lsK
  omega
def lsX (p : RP) : PX := if h : p.2.1 < 2 ^ 128 then ⟨p.1, maskN (maskN p.2.1 (wid p.1)) (lsK p), lsK p, okP_mask _ _ _ (lsK_le p), mask_lt _ _ (mask_lt _ _ h)⟩ else default
theorem lsX_of (p : RP) (h : p.2.1 < 2 ^ 128) : ofP p.1 (maskN p.2.1 (wid p.1)) (withinI p.2.2 (wid p.1)) = ((lsX p).v, (lsX p).n, ((lsX p).k : Int), 0) := by
  have h1 := withinI_le p.2.2 (wid p.1)
  unfold ofP
  rw [okA_mask _ _ _ (Nat.le_refl _), if_pos rfl, if_pos h1]
  unfold lsX
  rw [dif_pos h]
  simp only
  unfold lsK
  rw [Int.toNat_of_nonneg h1.1]
theorem cmp_neg {x y : PX} (h : ltX x y) : cmpP x.v x.n x.k y.v y.n y.k = -1 := by
  have h1 := (cmpX_lt x y).2 h
  unfold cmpX cmpP at h1
  unfold cmpP
  repeat' split at h1
  all_goals first | omega | skip
  all_goals simp_all
theorem cov_no {Y : List PX} (hY : CanonX Y) {x y : PX} (hx : x ∈ Y) (hy : y ∈ Y) (h : ltX x y) : covP x.v x.n x.k y.v y.n y.k = false := by
  cases hc : covP x.v x.n x.k y.v y.n y.k with
  | false => rfl
  | true =>
    have := hY.red.cov x hx y hy hc
    subst this
    unfold ltX at h
    rcases h with ⟨h1, h2⟩ | ⟨_, h | h⟩
    · rw [h1] at h2; cases h2
    · omega
    · omega
theorem pair_lt {Y : List PX} (hY : Y.Pairwise ltX) {i j : Nat} {x y : PX} (hij : i < j) (hx : Y[i]? = some x) (hy : Y[j]? = some y) : ltX x y := by
  obtain ⟨h1, rfl⟩ := List.getElem?_eq_some_iff.1 hx
  obtain ⟨h2, rfl⟩ := List.getElem?_eq_some_iff.1 hy
  exact List.pairwise_iff_getElem.1 hY i j h1 h2 hij
theorem ltX_irrefl (x : PX) : ¬ ltX x x := by
  unfold ltX
  rintro (⟨h1, h2⟩ | ⟨_, h | h⟩)
  · rw [h1] at h2; cases h2
  · omega
  · omega
theorem apart_ne {Y : List PX} (hY : Y.Pairwise ltX) {i j : Nat} {x y : PX} (hij : i ≠ j) (hx : Y[i]? = some x) (hy : Y[j]? = some y) : x ≠ y := by
  intro h
  subst h
  rcases Nat.lt_or_gt_of_ne hij with h | h
  · exact ltX_irrefl x (pair_lt hY h hx hy)
  · exact ltX_irrefl x (pair_lt hY h hy hx)
/-- No two of the row are halves of one. -/
theorem sib_no {Y : List PX} (hY : CanonX Y) {y z : PX} (hy : y ∈ Y) (hz : z ∈ Y) (hne : y ≠ z) (hk : 1 ≤ y.k) (he : z.k = y.k) : covP y.v (maskN y.n (y.k - 1)) ((y.k - 1 : Nat) : Int) z.v z.n z.k = false := by
  have hkw := y.k_le
  obtain ⟨w, hw⟩ : ∃ w : PX, w = ⟨y.v, maskN y.n (y.k - 1), y.k - 1, okP_mask y.v y.n (y.k - 1) (by omega), mask_lt _ _ y.lt⟩ := ⟨_, rfl⟩
  cases hc : covP y.v (maskN y.n (y.k - 1)) ((y.k - 1 : Nat) : Int) z.v z.n z.k with
  | false => rfl
  | true =>
    exfalso
    have h1 : covX w z = true := by rw [hw]; exact hc
    have h2 : covX w y = true := by
      rw [covX_iff, hw]
      refine ⟨by simp only; omega, rfl, ?_⟩
      simp only [PX.len]
      unfold maskN
      rw [Nat.mul_div_cancel _ (Nat.pow_pos (by decide))]
    have hwk : w.k + 1 = y.k := by rw [hw]; simp only; omega
    obtain ⟨a, ha⟩ := half_of h2 hwk.symm
    obtain ⟨b, hb⟩ := half_of h1 (by omega)
    have hlh : ∀ c, whoX (lowX w c) (highX w c) = some w := fun c => (who_iff _ _ _).2 ⟨c, rfl, rfl⟩
    rcases ha with ha | ha <;> rcases hb with hb | hb
    · exact hne (ha.trans hb.symm)
    · have := hY.red.who y hy z hz
      rw [ha, hb, hlh] at this
      cases this
    · have := hY.red.who z hz y hy
      rw [ha, hb, hlh] at this
      cases this
    · exact hne (ha.trans hb.symm)
/-- The halves in the prefixes' place. -/
def hvS (acc : List PX) (y : PX) : List PX := if h : y.k < wid y.v then [highX y h, lowX y h] ++ acc else acc ++ [y]
def hvN (Y : List PX) (i : Nat) : List PX := (Y.take i).foldl hvS []
theorem hvN_succ {Y : List PX} {i : Nat} {y : PX} (h : Y[i]? = some y) : hvN Y (i + 1) = hvS (hvN Y i) y := by
  unfold hvN
  have hi := (List.getElem?_eq_some_iff.1 h).1
  rw [List.take_succ_eq_append_getElem hi, (List.getElem?_eq_some_iff.1 h).2]
  simp
theorem hvS_len (acc : List PX) (y : PX) : (hvS acc y).length ≤ acc.length + 2 := by
  unfold hvS
  split <;> simp
theorem hv_fold_len : ∀ (Y acc : List PX), (Y.foldl hvS acc).length ≤ acc.length + 2 * Y.length
  | [], acc => by simp
  | y :: r, acc => by
    have h1 := hvS_len acc y
    have h2 := hv_fold_len r (hvS acc y)
    rw [List.foldl_cons, List.length_cons]
    omega
theorem hvN_len (Y : List PX) (i : Nat) : (hvN Y i).length ≤ 2 * i := by
  have := hv_fold_len (Y.take i) []
  unfold hvN
  rw [List.length_take] at this
  simp at this
  omega
theorem hasL_app (a b : List PX) (v : Bool) (m : Nat) : hasL (a ++ b) v m = (hasL a v m || hasL b v m) := by simp [hasL]
theorem hvS_has (acc : List PX) (y : PX) (v : Bool) (m : Nat) (hm : m < 2 ^ 128) : hasL (hvS acc y) v m = (hasL acc v m || hasX y v m) := by
  unfold hvS
  split
  · rename_i h
    have hw := who_has ((who_iff (lowX y h) (highX y h) y).2 ⟨h, rfl, rfl⟩) v m hm
    rw [hasL_app, hasL_cons, hasL_cons, hw]
    simp only [hasL, List.any_nil, Bool.or_false]
    cases hasX (highX y h) v m <;> cases hasX (lowX y h) v m <;> simp
  · rw [hasL_app, hasL_cons]
    simp [hasL]
theorem hv_fold_has : ∀ (Y acc : List PX) (v : Bool) (m : Nat), m < 2 ^ 128 → hasL (Y.foldl hvS acc) v m = (hasL acc v m || hasL Y v m)
  | [], acc, v, m, _ => by simp [hasL]
  | y :: r, acc, v, m, hm => by
    rw [List.foldl_cons, hv_fold_has r (hvS acc y) v m hm, hvS_has acc y v m hm, hasL_cons]
    cases hasL acc v m <;> cases hasX y v m <;> simp
theorem hvN_has (Y : List PX) (v : Bool) (m : Nat) (hm : m < 2 ^ 128) : hasL (hvN Y Y.length) v m = hasL Y v m := by
  unfold hvN
  rw [List.take_length, hv_fold_has Y [] v m hm]
  simp [hasL]
theorem again_same {Y : List PX} (hY : CanonX Y) : mergeR Y = Y := canon_ext (mergeR_canon Y) hY fun v m hm => mergeR_has Y v m hm
theorem other_same {Y : List PX} (hY : CanonX Y) : mergeR (hvN Y Y.length) = Y := canon_ext (mergeR_canon _) hY fun v m hm => (mergeR_has _ v m hm).trans (hvN_has Y v m hm)
theorem mergeR_len (X : List PX) : (mergeR X).length ≤ X.length := by
  have h1 := sortR_len X
  have h2 := reduceR_len (sortR X).length (sortR X)
  have h3 := sortR_len (reduceR (sortR X).length (sortR X))
  unfold mergeR
  omega
/-- Merge of a row of the caller's own. -/
theorem merge_own (X : List PX) (hX : X.length ≤ 1000000) (s : Value) (W : World) (hs : Own W 29 18 s X.length (rowX X)) : Calls Tryz.prog 15 #[s] W (Sx.retPost W (.tup [] 29 18 (mergeR X).length (rowX (mergeR X)) [.int .i64 0])) := by
  rcases hs.2 with ⟨hv, h0⟩ | ⟨g, o, c, L, hv, _⟩
  · have hx : X = [] := List.length_eq_zero_iff.1 h0
    subst hx
    rw [hv]
    refine (merge_nil W).mono fun e w' ⟨he, hc⟩ => ?_
    exact ⟨.slice none 0 0, he, Acc.nil W 29 18 hc⟩
  · subst hv
    refine (merge_X X g o X.length c rfl (by omega) W hs.rowAt).mono fun e w' ⟨ys, A', c2, hp, hs2, he, ha⟩ => ?_
    rw [merge_both hp hs2] at he ha
    exact ⟨_, he, ha⟩
end Go.Proofs.YtgpiapmbbnngpaaGreatDoor
