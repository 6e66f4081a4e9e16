/- PrefixMerges, of every row of prefixes. -/
import Derived.Test.YtgpiapmbbnngpaaGreatDoorPfxSq
namespace Go.Proofs.YtgpiapmbbnngpaaGreatDoor
open Go.RowKit Go.Lib Go.Sort

theorem first_bad : ∀ L : List RP, (∀ p ∈ L, okP p.1 p.2.1 p.2.2 = true) ∨ ∃ (b : Nat) (pb : RP), L[b]? = some pb ∧ okP pb.1 pb.2.1 pb.2.2 = false ∧ ∀ j p, j < b → L[j]? = some p → okP p.1 p.2.1 p.2.2 = true
  | [] => .inl (by simp)
  | x :: r => by
    cases hx : okP x.1 x.2.1 x.2.2 with
    | false => exact .inr ⟨0, x, rfl, hx, fun j p hj => by omega⟩
    | true =>
      rcases first_bad r with h | ⟨b, pb, h1, h2, h3⟩
      · refine .inl fun p hp => ?_
        rcases List.mem_cons.1 hp with rfl | hp
        · exact hx
        · exact h p hp
      · refine .inr ⟨b + 1, pb, by simpa using h1, h2, fun j p hj hp => ?_⟩
        cases j with
        | zero => have : x = p := by simpa using hp
                  rw [← this]; exact hx
        | succ j => exact h3 j p (by omega) (by simpa using hp)
theorem okP_nat {v : Bool} {n : Nat} {k : Int} (h : okP v n k = true) : 0 ≤ k := by
  unfold okP at h
  simp only [Bool.and_eq_true, decide_eq_true_eq] at h
  omega
theorem lift_ok : ∀ L : List RP, (∀ p ∈ L, okP p.1 p.2.1 p.2.2 = true) → (∀ p ∈ L, p.2.1 < 2 ^ 128) → ∃ xs : List PX, xs.map PX.raw = L
  | [], _, _ => ⟨[], rfl⟩
  | (v, n, k) :: r, h, hn => by
    obtain ⟨xs, hx⟩ := lift_ok r (fun p hp => h p (List.mem_cons_of_mem _ hp)) (fun p hp => hn p (List.mem_cons_of_mem _ hp))
    have h0 := h (v, n, k) (by simp)
    have hk : 0 ≤ k := okP_nat h0
    obtain ⟨K, rfl⟩ : ∃ K : Nat, k = (K : Int) := ⟨k.toNat, by omega⟩
    exact ⟨⟨v, n, K, h0, hn (v, n, (K : Int)) (by simp)⟩ :: xs, by rw [List.map_cons, hx]; rfl⟩
theorem merges_B (L0 : List RP) (A : Option Addr) (n c : Nat) (w : World) (HL : Lan w) (hl : L0.length = n) (hnc : n ≤ c) (hn : n ≤ 9223372036854775807)
    (hb : ∀ p ∈ L0, p.2.1 < 2 ^ 128 ∧ -9223372036854775808 ≤ p.2.2 ∧ p.2.2 ≤ 9223372036854775807) (h : Rd w 18 (.slice A n c) n (rowP L0)) :
    Calls Tryz.prog 4 #[.slice A n c] w fun e w' => e = .returned (.bool true) ∧ Chg [] w w' := by
  obtain ⟨L, hL⟩ : ∃ L, L = L0.take (min n 40) := ⟨_, rfl⟩
  have hm : L.length = min n 40 := by rw [hL, List.length_take]; omega
  have hbL : ∀ p ∈ L, p.2.1 < 2 ^ 128 ∧ -9223372036854775808 ≤ p.2.2 ∧ p.2.2 ≤ 9223372036854775807 := fun p hp => hb p (by rw [hL] at hp; exact List.mem_of_mem_take hp)
  have hR : Rd w 18 (.slice A L.length c) L.length (rowP L) := by
    have := h.take (m := min n 40) (by omega)
    rw [← hL] at this
    rw [hm]
    exact this
  have hL1 : L.length ≤ 1000000 := by omega
  rcases first_bad L with hok | ⟨b, pb, hpb, hbad, hjk⟩
  · obtain ⟨xs, hx⟩ := lift_ok L hok fun p hp => (hbL p hp).1
    have hxl : xs.length = L.length := by rw [← hx, List.length_map]
    have hrow : rowX xs = rowP L := by rw [rowX_raw, hx]
    have hml : (mergeR xs).length ≤ L.length := by
      have h1 := sortR_len xs
      have h2 := reduceR_len (sortR xs).length (sortR xs)
      have h3 := sortR_len (reduceR (sortR xs).length (sortR xs))
      unfold mergeR
      omega
    have hMl : ((mergeR xs).map PX.raw).length = (mergeR xs).length := List.length_map _
    have hMr : rowP ((mergeR xs).map PX.raw) = rowX (mergeR xs) := (rowX_raw _).symm
    refine mq_good L ((mergeR xs).map PX.raw) n A c hm hnc hn (by omega) hbL (fun p hp => ?_) w HL hR (fun W s hW hs ⟨g, o, c', hsv⟩ => ?_) (fun W hW => ?_)
    · obtain ⟨x, _, rfl⟩ := List.mem_map.1 hp
      have := x.k128
      exact ⟨x.lt, by simp only [PX.raw]; omega, by simp only [PX.raw]; omega⟩
    · subst hsv
      rw [← hrow] at hs
      refine (merge_X xs g o L.length c' hxl (by omega) W hs.rowAt).mono fun e w' ⟨ys, A', c2, hp, hs2, he, ha⟩ => ?_
      rw [merge_both hp hs2] at he ha
      rw [hMl, hMr]
      exact ⟨_, he, ha⟩
    · have := rmerge_X xs (.slice A L.length c) (by omega) W (by rw [hxl, hrow]; exact hR.chg hW)
      rw [hMl, hMr]
      exact this
  · refine mq_bad L n A c hm hnc hn hbL w HL hR (fun W s hW hs ⟨g, o, c', hsv⟩ => ?_) (fun W hW => ?_)
    · subst hsv
      exact merge_bad L b pb hpb hbad (fun p hp => (hbL p hp).1) hjk g o L.length c' rfl (by omega) W hs.rowAt
    · exact rmerge_bad L b pb hpb hbad (fun p hp => (hbL p hp).1) hjk (.slice A L.length c) hL1 W (hR.chg hW)
end Go.Proofs.YtgpiapmbbnngpaaGreatDoor
