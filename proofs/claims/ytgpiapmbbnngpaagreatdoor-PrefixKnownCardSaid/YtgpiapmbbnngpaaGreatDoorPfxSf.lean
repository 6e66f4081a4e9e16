/- The reference's reader of four bytes between points, walked by reckoning. -/
import Derived.Test.YtgpiapmbbnngpaaGreatDoorPfxPl
import Derived.Test.YtgpiapmbbnngpaaGreatDoorSxM
import Derived.Test.YtgpiapmbbnngpaaGreatDoorPfxSn
namespace Go.Proofs.YtgpiapmbbnngpaaGreatDoor
open Go.RowKit Go.Lib Go.Sort

structure FourS where
  i : Nat
  k : Nat
  n : Nat
  b : Bool
  f : Nat → Nat
def fourNext (s : List UInt8) (q : FourS) : FourS := match s[q.i]? with
  | none => ⟨q.i + 1, q.k + 1, 0, false, upd q.f q.k q.n⟩
  | some c => if c = 46 then ⟨q.i + 1, q.k + 1, 0, false, upd q.f q.k q.n⟩ else ⟨q.i + 1, q.k, 10 * q.n + (c.toNat - 48), true, q.f⟩
def fourR (s : List UInt8) (T : (Nat → Nat) × Bool) (q : FourS) : Prop := q.n ≤ 2567 ∧ q.k ≤ 4 ∧ ((q.i ≤ s.length ∧ fourF (s.drop q.i) q.k q.n q.b q.f = T) ∨ (q.i = s.length + 1 ∧ T = (q.f, decide (q.k = 4))))
def fourFr (s : List UInt8) (q : FourS) : List (Nat × Sx.SV) := [(0, .val (.string ⟨s.toArray⟩)), (2, .ptr 0 0), (4, .ptr 1 0), (5, .val (.int .i64 (q.k : Int))), (6, .val (.int .i64 (q.n : Int))), (7, .val (.bool q.b)), (8, .val (.int .i64 (q.i : Int)))]
def zadL : List Value := adrV false fun _ => 0
def fourMem (q : FourS) : List Sx.Row := [⟨24, .vals zadL⟩, ⟨24, .vals (adrV false q.f)⟩]
def fourV (T : (Nat → Nat) × Bool) : Value := .tuple #[.agg (adrV false T.1).toArray, .bool T.2]
def fourFo (x : (Nat → Nat) × Nat) : List (Nat × Sx.SV) := [(2, .ptr 0 0), (4, .ptr 1 0), (5, .val (.int .i64 (x.2 : Int)))]
def fourMo (x : (Nat → Nat) × Nat) : List Sx.Row := [⟨24, .vals zadL⟩, ⟨24, .vals (adrV false x.1)⟩]
theorem splice_set (L : List Value) (off : Nat) (v : Value) (h : off < L.length) : L.take off ++ ([v] ++ L.drop (off + 1)) = L.set off v := by
  rw [List.set_eq_take_append_cons_drop, if_pos h]
  rfl
theorem adrV_upd (v : Bool) (f : Nat → Nat) (k n : Nat) (hk : k < 16) : (adrV v f).take (1 + k) ++ ([.int .u8 (n : Int)] ++ (adrV v f).drop (1 + k + 1)) = adrV v (upd f k n) := by
  rw [splice_set _ _ _ (by rw [adrV_length]; omega)]
  exact adrV_set v f (upd f k n) k n (by simp [upd]) (fun j _ h => by simp [upd, h])
set_option maxRecDepth 100000 in
theorem four_round (s : List UInt8) (T : (Nat → Nat) × Bool) (w : World) (hs : s.length ≤ 100000000) (q : FourS) (hq : fourR s T q) : ∃ H' L', Sx.ex Tryz.prog 69 w (Sx.bodyOf Tryz.f45 0) H' L' ⟨fourFr s q, fourMem q⟩
    (Sx.loopK (fourR s T) (fourFr s) fourMem (fourNext s) (fun q => s.length + 2 - q.i) (fun (x : (Nat → Nat) × Nat) => T = (x.1, decide (x.2 = 4))) fourFo fourMo (fun q => (q.f, q.k)) (Sx.outId (Sx.bodyOf Tryz.f45 0) - 1) (Sx.atEnd Tryz.prog Tryz.f45 (fun u => u = fourV T) .ret) q) := by
  obtain ⟨i, k, n, b, f⟩ := q
  obtain ⟨hn, hk4, hk⟩ := hq
  simp only at hn hk4 hk
  have c11 := len_i s
  have c17 := len_i s
  rcases hk with ⟨hi, hk⟩ | ⟨hi, hk⟩
  · have c12 : Value.bool (decide ((i : Int) ≤ (s.length : Int))) = .bool true := bzt (decide_eq_true (by omega))
    have c14 : Value.int .i64 (IntKind.i64.wrap ((i : Int) + 1)) = .int .i64 ((i + 1 : Nat) : Int) := iw (w64 (by omega) (by omega))
    have bad : ∀ {g : Nat → Nat}, T = (g, false) → Value.tuple #[.agg (adrV false g).toArray, .bool false] = fourV T := fun h => by rw [h]; rfl
    rcases Nat.lt_or_eq_of_le hi with hlt | he
    · obtain ⟨c, hc⟩ : ∃ c, s[i]? = some c := ⟨_, List.getElem?_eq_getElem hlt⟩
      have hdrop : s.drop i = c :: s.drop (i + 1) := by
        rw [List.drop_eq_getElem_cons hlt]
        have := List.getElem?_eq_getElem hlt
        rw [hc] at this
        rw [Option.some.inj this]
      rw [hdrop, fourF] at hk
      have c18 : Value.bool ((i : Int) == (s.length : Int)) = .bool false := bzf (by simp; omega)
      have c22 := u8_at s i c hc
      by_cases h46 : c = 46
      · rw [if_pos h46] at hk
        have c23 : Value.bool ((c.toNat : Int) == 46) = .bool true := bzt (by rw [h46]; rfl)
        have hnx : fourNext s ⟨i, k, n, b, f⟩ = ⟨i + 1, k + 1, 0, false, upd f k n⟩ := by simp only [fourNext, hc, if_pos h46]
        cases b with
        | false =>
          have z0 := bad (g := f) (by rw [if_pos (.inl rfl)] at hk; exact hk.symm)
          refine ⟨[(11, .is (.int .i64 (s.length : Int))), (12, .is (.bool true)), (17, .is (.int .i64 (s.length : Int))), (18, .is (.bool false)), (22, .bin (u8 c)), (23, .is (.bool true))], [], ?_⟩
          exact Eq.mp (by kernel_rfl) (And.intro c11 (And.intro c12 (And.intro c17 (And.intro c18 (And.intro c22 (And.intro c23 z0))))))
        | true =>
          by_cases h255 : 255 < n
          · have z0 := bad (g := f) (by rw [if_pos (.inr (.inl h255))] at hk; exact hk.symm)
            have c29 : Value.bool (decide ((n : Int) > 255)) = .bool true := bzt (decide_eq_true (by omega))
            refine ⟨[(11, .is (.int .i64 (s.length : Int))), (12, .is (.bool true)), (17, .is (.int .i64 (s.length : Int))), (18, .is (.bool false)), (22, .bin (u8 c)), (23, .is (.bool true)), (29, .is (.bool true))], [], ?_⟩
            exact Eq.mp (by kernel_rfl) (And.intro c11 (And.intro c12 (And.intro c17 (And.intro c18 (And.intro c22 (And.intro c23 (And.intro c29 z0)))))))
          · have c29 : Value.bool (decide ((n : Int) > 255)) = .bool false := bzf (decide_eq_false (by omega))
            by_cases h3 : 3 < k
            · have z0 := bad (g := f) (by rw [if_pos (.inr (.inr h3))] at hk; exact hk.symm)
              have c33 : Value.bool (decide ((k : Int) > 3)) = .bool true := bzt (decide_eq_true (by omega))
              refine ⟨[(11, .is (.int .i64 (s.length : Int))), (12, .is (.bool true)), (17, .is (.int .i64 (s.length : Int))), (18, .is (.bool false)), (22, .bin (u8 c)), (23, .is (.bool true)), (29, .is (.bool false)), (33, .is (.bool true))], [], ?_⟩
              exact Eq.mp (by kernel_rfl) (And.intro c11 (And.intro c12 (And.intro c17 (And.intro c18 (And.intro c22 (And.intro c23 (And.intro c29 (And.intro c33 z0))))))))
            · have c33 : Value.bool (decide ((k : Int) > 3)) = .bool false := bzf (decide_eq_false (by omega))
              rw [if_neg (by simp only [Bool.true_eq_false, false_or]; omega)] at hk
              have c38 : Value.int .u8 (IntKind.u8.wrap (n : Int)) = .int .u8 (n : Int) := iu (wu8 (by omega) (by omega))
              have c40 : (0 : Int) ≤ (k : Int) ∧ (k : Int) < 16 := by omega
              have c100040 : 0 + 1 + ((k : Int).toNat * 1) + 1 ≤ (adrV false f).length ∧ (adrV false f).take (0 + 1 + ((k : Int).toNat * 1)) ++ ([.int .u8 (n : Int)] ++ (adrV false f).drop (0 + 1 + ((k : Int).toNat * 1) + 1)) = adrV false (upd f k n) := by
                rw [Int.toNat_natCast, Nat.mul_one, Nat.zero_add]
                exact ⟨by rw [adrV_length]; omega, adrV_upd false f k n (by omega)⟩
              have c42 : Value.int .i64 (IntKind.i64.wrap ((k : Int) + 1)) = .int .i64 ((k + 1 : Nat) : Int) := iw (w64 (by omega) (by omega))
              have h0 : fourR s T (⟨i + 1, k + 1, 0, false, upd f k n⟩ : FourS) := ⟨Nat.zero_le _, by show k + 1 ≤ 4; omega, .inl ⟨hlt, hk⟩⟩
              have h1 : s.length + 2 - (⟨i + 1, k + 1, 0, false, upd f k n⟩ : FourS).i < s.length + 2 - i := by show s.length + 2 - (i + 1) < _; omega
              have h2 : fourFr s (⟨i + 1, k + 1, 0, false, upd f k n⟩ : FourS) = fourFr s (⟨i + 1, k + 1, 0, false, upd f k n⟩ : FourS) := rfl
              have z3 : fourMem (⟨i + 1, k + 1, 0, false, upd f k n⟩ : FourS) = fourMem (⟨i + 1, k + 1, 0, false, upd f k n⟩ : FourS) := rfl
              refine ⟨[(11, .is (.int .i64 (s.length : Int))), (12, .is (.bool true)), (17, .is (.int .i64 (s.length : Int))), (18, .is (.bool false)), (22, .bin (u8 c)), (23, .is (.bool true)), (29, .is (.bool false)), (33, .is (.bool false)), (38, .is (.int .u8 (n : Int))), (40, .ix), (100040, .st (adrV false (upd f k n))), (42, .is (.int .i64 ((k + 1 : Nat) : Int))), (14, .is (.int .i64 ((i + 1 : Nat) : Int)))], [], ?_⟩
              rw [loop_next hnx]
              exact Eq.mp (by kernel_rfl) (And.intro c11 (And.intro c12 (And.intro c17 (And.intro c18 (And.intro c22 (And.intro c23 (And.intro c29 (And.intro c33 (And.intro c38 (And.intro c40 (And.intro c100040 (And.intro c42 (And.intro c14 (And.intro h0 (And.intro h1 (And.intro h2 z3))))))))))))))))
      · rw [if_neg h46] at hk
        have c23 : Value.bool ((c.toNat : Int) == 46) = .bool false := bzf (by
          have : c.toNat ≠ 46 := fun h => h46 (UInt8.toNat_inj.1 (by rw [h]; rfl))
          simp; omega)
        have hnx : fourNext s ⟨i, k, n, b, f⟩ = ⟨i + 1, k, 10 * n + (c.toNat - 48), true, f⟩ := by simp only [fourNext, hc, if_neg h46]
        have c45 := c22
        have c50 := c22
        have c62 := c22
        have hc255 := u8_lt c
        by_cases h48 : c.toNat < 48
        · have z0 := bad (g := f) (by rw [if_pos (.inl h48)] at hk; exact hk.symm)
          have c46 : Value.bool (decide ((c.toNat : Int) < 48)) = .bool true := bzt (decide_eq_true (by omega))
          refine ⟨[(11, .is (.int .i64 (s.length : Int))), (12, .is (.bool true)), (17, .is (.int .i64 (s.length : Int))), (18, .is (.bool false)), (22, .bin (u8 c)), (23, .is (.bool false)), (45, .bin (u8 c)), (46, .is (.bool true))], [], ?_⟩
          exact Eq.mp (by kernel_rfl) (And.intro c11 (And.intro c12 (And.intro c17 (And.intro c18 (And.intro c22 (And.intro c23 (And.intro c45 (And.intro c46 z0))))))))
        · have c46 : Value.bool (decide ((c.toNat : Int) < 48)) = .bool false := bzf (decide_eq_false (by omega))
          by_cases h57 : 57 < c.toNat
          · have z0 := bad (g := f) (by rw [if_pos (.inr (.inl h57))] at hk; exact hk.symm)
            have c51 : Value.bool (decide ((c.toNat : Int) > 57)) = .bool true := bzt (decide_eq_true (by omega))
            refine ⟨[(11, .is (.int .i64 (s.length : Int))), (12, .is (.bool true)), (17, .is (.int .i64 (s.length : Int))), (18, .is (.bool false)), (22, .bin (u8 c)), (23, .is (.bool false)), (45, .bin (u8 c)), (46, .is (.bool false)), (50, .bin (u8 c)), (51, .is (.bool true))], [], ?_⟩
            exact Eq.mp (by kernel_rfl) (And.intro c11 (And.intro c12 (And.intro c17 (And.intro c18 (And.intro c22 (And.intro c23 (And.intro c45 (And.intro c46 (And.intro c50 (And.intro c51 z0))))))))))
          · have c51 : Value.bool (decide ((c.toNat : Int) > 57)) = .bool false := bzf (decide_eq_false (by omega))
            by_cases h255 : 255 < n
            · have z0 := bad (g := f) (by rw [if_pos (.inr (.inr h255))] at hk; exact hk.symm)
              have c55 : Value.bool (decide ((n : Int) > 255)) = .bool true := bzt (decide_eq_true (by omega))
              refine ⟨[(11, .is (.int .i64 (s.length : Int))), (12, .is (.bool true)), (17, .is (.int .i64 (s.length : Int))), (18, .is (.bool false)), (22, .bin (u8 c)), (23, .is (.bool false)), (45, .bin (u8 c)), (46, .is (.bool false)), (50, .bin (u8 c)), (51, .is (.bool false)), (55, .is (.bool true))], [], ?_⟩
              exact Eq.mp (by kernel_rfl) (And.intro c11 (And.intro c12 (And.intro c17 (And.intro c18 (And.intro c22 (And.intro c23 (And.intro c45 (And.intro c46 (And.intro c50 (And.intro c51 (And.intro c55 z0)))))))))))
            · have c55 : Value.bool (decide ((n : Int) > 255)) = .bool false := bzf (decide_eq_false (by omega))
              rw [if_neg (by omega)] at hk
              have c59 : Value.int .i64 (IntKind.i64.wrap (10 * (n : Int))) = .int .i64 ((10 * n : Nat) : Int) := iw (by rw [w64 (by omega) (by omega)]; omega)
              have c63 : Value.int .u8 (IntKind.u8.wrap ((c.toNat : Int) - 48)) = .int .u8 ((c.toNat - 48 : Nat) : Int) := iu (by rw [wu8 (by omega) (by omega)]; omega)
              have c64 : Value.int .i64 (IntKind.i64.wrap ((c.toNat - 48 : Nat) : Int)) = .int .i64 ((c.toNat - 48 : Nat) : Int) := iw (w64 (by omega) (by omega))
              have c65 : Value.int .i64 (IntKind.i64.wrap (((10 * n : Nat) : Int) + ((c.toNat - 48 : Nat) : Int))) = .int .i64 ((10 * n + (c.toNat - 48) : Nat) : Int) := iw (by rw [w64 (by omega) (by omega)]; omega)
              generalize hd : c.toNat - 48 = d at *
              have h0 : fourR s T ⟨i + 1, k, 10 * n + d, true, f⟩ := ⟨by show 10 * n + d ≤ 2567; omega, hk4, .inl ⟨hlt, hk⟩⟩
              have h1 : s.length + 2 - (⟨i + 1, k, 10 * n + d, true, f⟩ : FourS).i < s.length + 2 - i := by show s.length + 2 - (i + 1) < _; omega
              have h2 : fourFr s ⟨i + 1, k, 10 * n + d, true, f⟩ = fourFr s ⟨i + 1, k, 10 * n + d, true, f⟩ := rfl
              have z3 : fourMem ⟨i + 1, k, 10 * n + d, true, f⟩ = fourMem ⟨i + 1, k, 10 * n + d, true, f⟩ := rfl
              refine ⟨[(11, .is (.int .i64 (s.length : Int))), (12, .is (.bool true)), (17, .is (.int .i64 (s.length : Int))), (18, .is (.bool false)), (22, .bin (u8 c)), (23, .is (.bool false)), (45, .bin (u8 c)), (46, .is (.bool false)), (50, .bin (u8 c)), (51, .is (.bool false)), (55, .is (.bool false)), (59, .is (.int .i64 ((10 * n : Nat) : Int))), (62, .bin (u8 c)), (63, .is (.int .u8 (d : Int))), (64, .is (.int .i64 (d : Int))), (65, .is (.int .i64 ((10 * n + d : Nat) : Int))), (14, .is (.int .i64 ((i + 1 : Nat) : Int)))], [], ?_⟩
              rw [loop_next hnx]
              exact Eq.mp (by kernel_rfl) (And.intro c11 (And.intro c12 (And.intro c17 (And.intro c18 (And.intro c22 (And.intro c23 (And.intro c45 (And.intro c46 (And.intro c50 (And.intro c51 (And.intro c55 (And.intro c59 (And.intro c62 (And.intro c63 (And.intro c64 (And.intro c65 (And.intro c14 (And.intro h0 (And.intro h1 (And.intro h2 z3))))))))))))))))))))
    · have c18 : Value.bool ((i : Int) == (s.length : Int)) = .bool true := bzt (by simp; omega)
      have hdrop : s.drop i = [] := List.drop_of_length_le (by omega)
      rw [hdrop, fourF] at hk
      have hnone : s[i]? = none := List.getElem?_eq_none (by omega)
      have hnx : fourNext s ⟨i, k, n, b, f⟩ = ⟨i + 1, k + 1, 0, false, upd f k n⟩ := by simp only [fourNext, hnone]
      cases b with
      | false =>
        have z0 := bad (g := f) (by rw [if_pos (.inl rfl)] at hk; exact hk.symm)
        refine ⟨[(11, .is (.int .i64 (s.length : Int))), (12, .is (.bool true)), (17, .is (.int .i64 (s.length : Int))), (18, .is (.bool true))], [], ?_⟩
        exact Eq.mp (by kernel_rfl) (And.intro c11 (And.intro c12 (And.intro c17 (And.intro c18 z0))))
      | true =>
        by_cases h255 : 255 < n
        · have z0 := bad (g := f) (by rw [if_pos (.inr (.inl h255))] at hk; exact hk.symm)
          have c29 : Value.bool (decide ((n : Int) > 255)) = .bool true := bzt (decide_eq_true (by omega))
          refine ⟨[(11, .is (.int .i64 (s.length : Int))), (12, .is (.bool true)), (17, .is (.int .i64 (s.length : Int))), (18, .is (.bool true)), (29, .is (.bool true))], [], ?_⟩
          exact Eq.mp (by kernel_rfl) (And.intro c11 (And.intro c12 (And.intro c17 (And.intro c18 (And.intro c29 z0)))))
        · have c29 : Value.bool (decide ((n : Int) > 255)) = .bool false := bzf (decide_eq_false (by omega))
          by_cases h3 : 3 < k
          · have z0 := bad (g := f) (by rw [if_pos (.inr (.inr h3))] at hk; exact hk.symm)
            have c33 : Value.bool (decide ((k : Int) > 3)) = .bool true := bzt (decide_eq_true (by omega))
            refine ⟨[(11, .is (.int .i64 (s.length : Int))), (12, .is (.bool true)), (17, .is (.int .i64 (s.length : Int))), (18, .is (.bool true)), (29, .is (.bool false)), (33, .is (.bool true))], [], ?_⟩
            exact Eq.mp (by kernel_rfl) (And.intro c11 (And.intro c12 (And.intro c17 (And.intro c18 (And.intro c29 (And.intro c33 z0))))))
          · have c33 : Value.bool (decide ((k : Int) > 3)) = .bool false := bzf (decide_eq_false (by omega))
            rw [if_neg (by simp only [Bool.true_eq_false, false_or]; omega)] at hk
            have c38 : Value.int .u8 (IntKind.u8.wrap (n : Int)) = .int .u8 (n : Int) := iu (wu8 (by omega) (by omega))
            have c40 : (0 : Int) ≤ (k : Int) ∧ (k : Int) < 16 := by omega
            have c100040 : 0 + 1 + ((k : Int).toNat * 1) + 1 ≤ (adrV false f).length ∧ (adrV false f).take (0 + 1 + ((k : Int).toNat * 1)) ++ ([.int .u8 (n : Int)] ++ (adrV false f).drop (0 + 1 + ((k : Int).toNat * 1) + 1)) = adrV false (upd f k n) := by
              rw [Int.toNat_natCast, Nat.mul_one, Nat.zero_add]
              exact ⟨by rw [adrV_length]; omega, adrV_upd false f k n (by omega)⟩
            have c42 : Value.int .i64 (IntKind.i64.wrap ((k : Int) + 1)) = .int .i64 ((k + 1 : Nat) : Int) := iw (w64 (by omega) (by omega))
            have h0 : fourR s T (⟨i + 1, k + 1, 0, false, upd f k n⟩ : FourS) := ⟨Nat.zero_le _, by show k + 1 ≤ 4; omega, .inr ⟨by show i + 1 = s.length + 1; omega, hk.symm⟩⟩
            have h1 : s.length + 2 - (⟨i + 1, k + 1, 0, false, upd f k n⟩ : FourS).i < s.length + 2 - i := by show s.length + 2 - (i + 1) < _; omega
            have h2 : fourFr s (⟨i + 1, k + 1, 0, false, upd f k n⟩ : FourS) = fourFr s (⟨i + 1, k + 1, 0, false, upd f k n⟩ : FourS) := rfl
            have z3 : fourMem (⟨i + 1, k + 1, 0, false, upd f k n⟩ : FourS) = fourMem (⟨i + 1, k + 1, 0, false, upd f k n⟩ : FourS) := rfl
            refine ⟨[(11, .is (.int .i64 (s.length : Int))), (12, .is (.bool true)), (17, .is (.int .i64 (s.length : Int))), (18, .is (.bool true)), (29, .is (.bool false)), (33, .is (.bool false)), (38, .is (.int .u8 (n : Int))), (40, .ix), (100040, .st (adrV false (upd f k n))), (42, .is (.int .i64 ((k + 1 : Nat) : Int))), (14, .is (.int .i64 ((i + 1 : Nat) : Int)))], [], ?_⟩
            rw [loop_next hnx]
            exact Eq.mp (by kernel_rfl) (And.intro c11 (And.intro c12 (And.intro c17 (And.intro c18 (And.intro c29 (And.intro c33 (And.intro c38 (And.intro c40 (And.intro c100040 (And.intro c42 (And.intro c14 (And.intro h0 (And.intro h1 (And.intro h2 z3))))))))))))))
  · have c12 : Value.bool (decide ((i : Int) ≤ (s.length : Int))) = .bool false := bzf (decide_eq_false (by omega))
    have h0 : T = (f, decide (k = 4)) := hk
    have h1 : fourFo (f, k) = fourFo (f, k) := rfl
    have z2 : fourMo (f, k) = fourMo (f, k) := rfl
    refine ⟨[(11, .is (.int .i64 (s.length : Int))), (12, .is (.bool false))], [], ?_⟩
    exact Eq.mp (by kernel_rfl) (And.intro c11 (And.intro c12 (And.intro h0 (And.intro h1 z2))))
set_option maxRecDepth 100000 in
theorem four_N (s : List UInt8) (hs : s.length ≤ 100000000) (w : World) : Calls Tryz.prog 45 #[.string ⟨s.toArray⟩] w fun e w' => e = .returned (fourV (fourF s 0 0 false fun _ => 0)) ∧ Chg [] w w' := by
  have hT : fourF (s.drop 0) 0 0 false (fun _ => 0) = fourF s 0 0 false (fun _ => 0) := rfl
  generalize fourF s 0 0 false (fun _ => 0) = T at *
  have h0 : fourR s T ⟨0, 0, 0, false, fun _ => 0⟩ := ⟨Nat.zero_le _, Nat.zero_le _, .inl ⟨Nat.zero_le _, hT⟩⟩
  have e1 : fourFr s ⟨0, 0, 0, false, fun _ => 0⟩ = fourFr s ⟨0, 0, 0, false, fun _ => 0⟩ ∧ fourMem ⟨0, 0, 0, false, fun _ => 0⟩ = fourMem ⟨0, 0, 0, false, fun _ => 0⟩ := ⟨rfl, rfl⟩
  have rd2 := four_round s T w hs
  have c68 : ∀ x : (Nat → Nat) × Nat, Value.bool ((x.2 : Int) == 4) = .bool (decide (x.2 = 4)) := fun x => bz (by rw [Bool.eq_iff_iff]; simp; omega)
  have z5 : ∀ x : (Nat → Nat) × Nat, T = (x.1, decide (x.2 = 4)) → Value.tuple #[.agg (adrV false x.1).toArray, .bool ((x.2 : Int) == 4)] = fourV T := fun x hx => by
    have := c68 x
    injection this with this
    rw [hx, this]; rfl
  refine Sx.calls_is (args := [.string ⟨s.toArray⟩]) [] [.mk FourS ⟨0, 0, 0, false, fun _ => 0⟩ (fourR s T) (fourFr s) fourMem (fourNext s) (fun q => s.length + 2 - q.i) ((Nat → Nat) × Nat) (fun (x : (Nat → Nat) × Nat) => T = (x.1, decide (x.2 = 4))) fourFo fourMo (fun q => (q.f, q.k))] (by kernel_rfl) Tryz.func45 rfl (Nat.le_of_ble_eq_true rfl) ?_
  exact Eq.mp (by kernel_rfl) (And.intro h0 (And.intro e1 (And.intro rd2 (fun (x : (Nat → Nat) × Nat) (hx4 : T = (x.1, decide (x.2 = 4))) => z5 x hx4))))
end Go.Proofs.YtgpiapmbbnngpaaGreatDoor
