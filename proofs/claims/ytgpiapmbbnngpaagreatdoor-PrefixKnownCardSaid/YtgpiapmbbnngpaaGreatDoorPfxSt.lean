/- The reference's 'Sorted', walked by reckoning. -/
import Derived.Test.YtgpiapmbbnngpaaGreatDoorPfxSo
import Derived.Test.YtgpiapmbbnngpaaGreatDoorSxM
import Derived.Test.YtgpiapmbbnngpaaGreatDoorPfxRefA
namespace Go.Proofs.YtgpiapmbbnngpaaGreatDoor
open Go.RowKit Go.Lib Go.Sort

/-- How many stand ahead of a prefix in a row. -/
def posR : List PX → PX → Nat
  | [], _ => 0
  | y :: r, x => if cmpX y x < 0 then posR r x + 1 else 0
theorem posR_le : ∀ (O : List PX) (x : PX), posR O x ≤ O.length
  | [], _ => Nat.le_refl _
  | y :: r, x => by
    unfold posR
    have := posR_le r x
    split <;> simp <;> omega
theorem posR_lt : ∀ (O : List PX) (x : PX) (k : Nat), k < posR O x → ∃ y, O[k]? = some y ∧ cmpX y x < 0
  | [], _, _, h => by simp [posR] at h
  | y :: r, x, k, h => by
    unfold posR at h
    split at h
    · rename_i hc
      cases k with
      | zero => exact ⟨y, rfl, hc⟩
      | succ k => simpa using posR_lt r x k (by omega)
    · omega
theorem posR_at : ∀ (O : List PX) (x y : PX), O[posR O x]? = some y → ¬ cmpX y x < 0
  | [], _, _, h => by simp at h
  | z :: r, x, y, h => by
    unfold posR at h
    split at h
    · exact posR_at r x y (by simpa using h)
    · rename_i hc
      have : z = y := by simpa using h
      rwa [← this]
theorem insR_ne : ∀ (O : List PX) (x : PX), (∀ y, O[posR O x]? = some y → cmpX y x ≠ 0) → insR O x = O.take (posR O x) ++ ([x] ++ O.drop (posR O x))
  | [], x, _ => by simp [insR, posR]
  | z :: r, x, h => by
    unfold posR at h ⊢
    unfold insR
    split
    · rename_i hc
      rw [if_pos hc] at h
      rw [insR_ne r x (fun y hy => h y (by simpa using hy))]
      simp
    · rename_i hc
      rw [if_neg hc] at h
      rw [if_neg (h z (by simp))]
      simp
theorem insR_eq : ∀ (O : List PX) (x y : PX), O[posR O x]? = some y → cmpX y x = 0 → insR O x = O
  | [], x, y, h, _ => by simp at h
  | z :: r, x, y, h, h0 => by
    unfold posR at h
    unfold insR
    split
    · rename_i hc
      rw [if_pos hc] at h
      rw [insR_eq r x y (by simpa using h) h0]
    · rename_i hc
      rw [if_neg hc] at h
      have : z = y := by simpa using h
      rw [this, if_pos h0]
theorem rowX_drop : ∀ (O : List PX) (k : Nat), (rowX O).drop (k * 18) = rowX (O.drop k)
  | [], k => by simp [rowX]
  | y :: r, 0 => by simp
  | y :: r, k + 1 => by
    rw [rowX_cons, List.drop_append, PX.enc_len, List.drop_of_length_le (by rw [PX.enc_len]; omega), List.nil_append, show (k + 1) * 18 - 18 = k * 18 by omega]
    exact rowX_drop r k
theorem rowX_take : ∀ (O : List PX) (k : Nat), (rowX O).take (k * 18) = rowX (O.take k)
  | [], k => by simp [rowX]
  | y :: r, 0 => by simp [rowX]
  | y :: r, k + 1 => by
    rw [rowX_cons, List.take_append, PX.enc_len, List.take_of_length_le (by rw [PX.enc_len]; omega), show (k + 1) * 18 - 18 = k * 18 by omega, rowX_take r k]
    rfl
theorem rowX_at {O : List PX} {k : Nat} {y : PX} (h : O[k]? = some y) : (rowX O |>.drop (k * 18)).take 18 = y.enc := by
  rw [rowX_drop]
  have hk := (List.getElem?_eq_some_iff.1 h).1
  rw [List.drop_eq_getElem_cons hk, rowX_cons, List.take_append, PX.enc_len, List.take_of_length_le (by rw [PX.enc_len]; omega)]
  have := (List.getElem?_eq_some_iff.1 h).2
  rw [this]
  simp
theorem enc_ones (x : PX) : ∀ u ∈ pfx x.v x.n x.k, u.oneCell' = true := fun u hu => by
  have := pfx_ones x.v x.n x.k
  rw [Array.all_eq_true'] at this
  exact this u (by simpa using hu)
/-- The fold so far. -/
def stO (L : List PX) (i : Nat) : List PX := (L.take i).foldl insR []
theorem stO_succ {L : List PX} {i : Nat} {x : PX} (hx : L[i]? = some x) : stO L (i + 1) = insR (stO L i) x := by
  unfold stO
  have hi := (List.getElem?_eq_some_iff.1 hx).1
  rw [List.take_succ_eq_append_getElem hi, (List.getElem?_eq_some_iff.1 hx).2]
  simp
theorem stO_len (L : List PX) (i : Nat) : (stO L i).length ≤ i := by
  have := sort_len (L.take i) []
  unfold stO
  rw [List.length_take] at this
  simp at this
  omega
def sfFr1 (s : Value) (i : Nat) : List (Nat × Sx.SV) := [(0, .val s), (3, .own 0), (4, .val (.int .i64 (i : Int)))]
def sfFr2 (s : Value) (i k : Nat) : List (Nat × Sx.SV) := [(0, .val s), (3, .own 0), (4, .val (.int .i64 (i : Int))), (5, .val (.int .i64 (k : Int)))]
def sfMem (O : List PX) : List Sx.Row := [⟨29, .own 18 O.length (rowX O)⟩]
set_option maxRecDepth 100000 in
theorem sf_inner (L : List PX) (A : Option Addr) (c : Nat) (_hL : L.length ≤ 1000000) (w : World) (h : Rd w 18 (.slice A L.length c) L.length (rowX L)) (O : List PX) (hO : O.length ≤ 1000000) (i : Nat) (x : PX) (hx : L[i]? = some x) (T : Sx.Ret) (k : Nat) (hk : k ≤ posR O x) : ∃ H' L', Sx.ex Tryz.prog 66 w (Sx.inBody (Sx.bodyOf Tryz.f53 0) 0) H' L' ⟨sfFr2 (.slice A L.length c) i k, sfMem O⟩
    (Sx.loopK (fun k => k ≤ posR O x) (sfFr2 (.slice A L.length c) i) (fun _ => sfMem O) (fun k => k + 1) (fun k => O.length + 2 - k) (fun (_ : Unit) => True) (fun _ => sfFr2 (.slice A L.length c) i (posR O x)) (fun _ => sfMem O) (fun _ => ()) (Sx.outId (Sx.inBody (Sx.bodyOf Tryz.f53 0) 0) - 1) (Sx.atEndO Tryz.prog Tryz.f53 (fun u => u = T) .ret) k) := by
  have hp := posR_le O x
  obtain ⟨p, c24, c25⟩ := h.at hx rfl
  by_cases hlt : k < posR O x
  · obtain ⟨y, hy, hc⟩ := posR_lt O x k hlt
    have c16 : Value.bool (decide ((k : Int) < (O.length : Int))) = .bool true := by rw [decide_eq_true (by omega)]
    have c20 : (0 : Int) ≤ (k : Int) ∧ (k : Int) < (O.length : Int) := by omega
    have c21 : (pfx y.v y.n y.k).length = 18 ∧ ((rowX O).drop (k * 18)).take 18 = pfx y.v y.n y.k := ⟨pfx_length _ _ _, rowX_at hy⟩
    have c26 := fun W (_ : Chg [] w W) => rcompare_N y.v y.n y.k x.v x.n x.k y.lt x.lt W
    have c27 : Value.bool (decide (cmpP y.v y.n y.k x.v x.n x.k < 0)) = .bool true := by rw [decide_eq_true (show cmpP y.v y.n y.k x.v x.n x.k < 0 from hc)]
    have c30 : Value.int .i64 (IntKind.i64.wrap ((k : Int) + 1)) = .int .i64 ((k + 1 : Nat) : Int) := iw (w64 (by omega) (by omega))
    have h0 : k + 1 ≤ posR O x := hlt
    have h1 : O.length + 2 - (k + 1) < O.length + 2 - k := by omega
    have h2 : sfFr2 (.slice A L.length c) i (k + 1) = sfFr2 (.slice A L.length c) i (k + 1) := rfl
    have z3 : sfMem O = sfMem O := rfl
    refine ⟨[(16, .is (.bool true)), (20, .ix), (21, .ld (.agg (pfx y.v y.n y.k).toArray)), (24, .any p), (25, .any (.agg (pfx x.v x.n x.k).toArray)), (26, .call (.int .i64 (cmpP y.v y.n y.k x.v x.n x.k))), (27, .is (.bool true)), (30, .is (.int .i64 ((k + 1 : Nat) : Int)))], [], ?_⟩
    exact Eq.mp (by kernel_rfl) (And.intro c16 (And.intro c20 (And.intro c21 (And.intro c24 (And.intro c25 (And.intro c26 (And.intro c27 (And.intro c30 (And.intro h0 (And.intro h1 (And.intro h2 z3)))))))))))
  · obtain rfl : k = posR O x := by omega
    have h0 : True := trivial
    have h1 : sfFr2 (.slice A L.length c) i (posR O x) = sfFr2 (.slice A L.length c) i (posR O x) := rfl
    have z2 : sfMem O = sfMem O := rfl
    by_cases hl : posR O x < O.length
    · obtain ⟨y, hy⟩ : ∃ y, O[posR O x]? = some y := ⟨_, List.getElem?_eq_getElem hl⟩
      have hc := posR_at O x y hy
      have c16 : Value.bool (decide (((posR O x : Nat) : Int) < (O.length : Int))) = .bool true := by rw [decide_eq_true (by omega)]
      have c20 : (0 : Int) ≤ ((posR O x : Nat) : Int) ∧ ((posR O x : Nat) : Int) < (O.length : Int) := by omega
      have c21 : (pfx y.v y.n y.k).length = 18 ∧ ((rowX O).drop (posR O x * 18)).take 18 = pfx y.v y.n y.k := ⟨pfx_length _ _ _, rowX_at hy⟩
      have c26 := fun W (_ : Chg [] w W) => rcompare_N y.v y.n y.k x.v x.n x.k y.lt x.lt W
      have c27 : Value.bool (decide (cmpP y.v y.n y.k x.v x.n x.k < 0)) = .bool false := by rw [decide_eq_false (show ¬ cmpP y.v y.n y.k x.v x.n x.k < 0 from hc)]
      refine ⟨[(16, .is (.bool true)), (20, .ix), (21, .ld (.agg (pfx y.v y.n y.k).toArray)), (24, .any p), (25, .any (.agg (pfx x.v x.n x.k).toArray)), (26, .call (.int .i64 (cmpP y.v y.n y.k x.v x.n x.k))), (27, .is (.bool false))], [], ?_⟩
      exact Eq.mp (by kernel_rfl) (And.intro c16 (And.intro c20 (And.intro c21 (And.intro c24 (And.intro c25 (And.intro c26 (And.intro c27 (And.intro h0 (And.intro h1 z2)))))))))
    · have c16 : Value.bool (decide (((posR O x : Nat) : Int) < (O.length : Int))) = .bool false := by rw [decide_eq_false (by omega)]
      refine ⟨[(16, .is (.bool false))], [], ?_⟩
      exact Eq.mp (by kernel_rfl) (And.intro c16 (And.intro h0 (And.intro h1 z2)))
def sfR (L : List PX) (i : Nat) : Prop := i ≤ L.length
set_option maxRecDepth 100000 in
theorem sf_outer (L : List PX) (A : Option Addr) (c : Nat) (hL : L.length ≤ 1000000) (w : World) (h : Rd w 18 (.slice A L.length c) L.length (rowX L)) (T : Sx.Ret) (_hT : T = .sl 29 18 (sortR L).length (rowX (sortR L))) (i : Nat) (hi : sfR L i) : ∃ H' L', Sx.ex Tryz.prog 66 w (Sx.bodyOf Tryz.f53 0) H' L' ⟨sfFr1 (.slice A L.length c) i, sfMem (stO L i)⟩
    (Sx.loopK (sfR L) (sfFr1 (.slice A L.length c)) (fun i => sfMem (stO L i)) (fun i => i + 1) (fun i => L.length + 2 - i) (fun (_ : Unit) => True) (fun _ => [((3 : Nat), Sx.SV.own 0)]) (fun _ => sfMem (sortR L)) (fun _ => ()) (Sx.outId (Sx.bodyOf Tryz.f53 0) - 1) (Sx.atEndO Tryz.prog Tryz.f53 (fun u => u = T) .ret) i) := by
  have hi : i ≤ L.length := hi
  by_cases hlt : i < L.length
  · obtain ⟨x, hx⟩ : ∃ x, L[i]? = some x := ⟨_, List.getElem?_eq_getElem hlt⟩
    obtain ⟨p, hix, hld⟩ := h.at hx rfl
    have c40 := hix
    have c42 := hix
    have c43 := hld
    have c55 := hix
    have c56 := hld
    have hs := stO_succ hx
    have hol := stO_len L i
    obtain ⟨O, hO⟩ : ∃ O, O = stO L i := ⟨_, rfl⟩
    rw [← hO] at hs hol ⊢
    have c10 : Value.bool (decide ((i : Int) < (L.length : Int))) = .bool true := by rw [decide_eq_true (by omega)]
    have c12 : Value.int .i64 (IntKind.i64.wrap ((i : Int) + 1)) = .int .i64 ((i + 1 : Nat) : Int) := iw (w64 (by omega) (by omega))
    have hp := posR_le O x
    have rdi := sf_inner L A c hL w h O (by omega) i x hx T
    have h0 : 0 ≤ posR O x := Nat.zero_le _
    have e1 : sfFr2 (.slice A L.length c) i 0 = sfFr2 (.slice A L.length c) i 0 ∧ sfMem O = sfMem O := ⟨rfl, rfl⟩
    have rd2 := rdi
    have h5 : sfR L (i + 1) := hlt
    have h6 : L.length + 2 - (i + 1) < L.length + 2 - i := by omega
    have h7 : sfFr1 (.slice A L.length c) (i + 1) = sfFr1 (.slice A L.length c) (i + 1) := rfl
    by_cases hl : posR O x < O.length
    · obtain ⟨y, hy⟩ : ∃ y, O[posR O x]? = some y := ⟨_, List.getElem?_eq_getElem hl⟩
      have hc := posR_at O x y hy
      have c34 : Value.bool (decide (((posR O x : Nat) : Int) < (O.length : Int))) = .bool true := by rw [decide_eq_true (by omega)]
      have c38 : (0 : Int) ≤ ((posR O x : Nat) : Int) ∧ ((posR O x : Nat) : Int) < (O.length : Int) := by omega
      have c39 : (pfx y.v y.n y.k).length = 18 ∧ ((rowX O).drop (posR O x * 18)).take 18 = pfx y.v y.n y.k := ⟨pfx_length _ _ _, rowX_at hy⟩
      have c44 := fun W (_ : Chg [] w W) => rcompare_N y.v y.n y.k x.v x.n x.k y.lt x.lt W
      by_cases hc0 : cmpX y x = 0
      · have c45 : Value.bool (cmpP y.v y.n y.k x.v x.n x.k == 0) = .bool true := by rw [show (cmpP y.v y.n y.k x.v x.n x.k == 0) = true from beq_iff_eq.2 hc0]
        have z8 : sfMem O = sfMem (stO L (i + 1)) := by rw [hs, insR_eq O x y hy hc0]
        refine ⟨[(10, .is (.bool true)), (34, .is (.bool true)), (38, .ix), (39, .ld (.agg (pfx y.v y.n y.k).toArray)), (42, .any p), (43, .any (.agg (pfx x.v x.n x.k).toArray)), (44, .call (.int .i64 (cmpP y.v y.n y.k x.v x.n x.k))), (45, .is (.bool true)), (12, .is (.int .i64 ((i + 1 : Nat) : Int)))], [.mk Nat 0 (fun k => k ≤ posR O x) (sfFr2 (.slice A L.length c) i) (fun _ => sfMem O) (fun k => k + 1) (fun k => O.length + 2 - k) Unit (fun _ => True) (fun _ => sfFr2 (.slice A L.length c) i (posR O x)) (fun _ => sfMem O) (fun _ => ())], ?_⟩
        exact Eq.mp (by kernel_rfl) (And.intro c10 (And.intro h0 (And.intro e1 (And.intro rd2 (fun (x : Unit) (hx4 : True) => (And.intro c34 (And.intro c38 (And.intro c39 (And.intro c42 (And.intro c43 (And.intro c44 (And.intro c45 (And.intro c12 (And.intro h5 (And.intro h6 (And.intro h7 z8))))))))))))))))
      · have c45 : Value.bool (cmpP y.v y.n y.k x.v x.n x.k == 0) = .bool false := by rw [show (cmpP y.v y.n y.k x.v x.n x.k == 0) = false from beq_eq_false_iff_ne.2 hc0]
        have hne : ∀ z, O[posR O x]? = some z → cmpX z x ≠ 0 := fun z hz => by rw [hy] at hz; cases hz; exact hc0
        have hp := posR_le O x
        have c50 : ((0 : Nat) : Int) = ((0 : Nat) : Int) ∧ ((posR O x : Nat) : Int) = ((posR O x : Nat) : Int) ∧ 0 ≤ posR O x ∧ posR O x ≤ O.length := ⟨rfl, rfl, Nat.zero_le _, hp⟩
        have c51 : (0 * 18 = 0 * 18 ∧ 0 + (posR O x - 0) ≤ O.length) ∧ (((rowX O).drop (0 * 18)).take ((posR O x - 0) * 18)).length = (posR O x - 0) * 18 ∧ (∀ u ∈ ((rowX O).drop (0 * 18)).take ((posR O x - 0) * 18), u.oneCell' = true) ∧ 0 + (posR O x - 0) ≤ maxLen ∧ (0 + (posR O x - 0)) * 32 ≤ 140737488355328 := by
          refine ⟨⟨rfl, by omega⟩, ?_, fun u hu => rowX_ones O u (List.mem_of_mem_drop (List.mem_of_mem_take hu)), by unfold maxLen; omega, by omega⟩
          rw [List.length_take, List.length_drop, rowX_len]
          have : (posR O x - 0) * 18 ≤ O.length * 18 := Nat.mul_le_mul_right _ (by omega)
          omega
        have c58 : True ∧ (pfx x.v x.n x.k).length = 1 * 18 ∧ (∀ (u : Value), u ∈ pfx x.v x.n x.k → u.oneCell' = true) ∧ 0 + (posR O x - 0) + 1 ≤ maxLen ∧ (0 + (posR O x - 0) + 1) * 32 ≤ 140737488355328 :=
          ⟨trivial, by rw [pfx_length], enc_ones x, by unfold maxLen; omega, by omega⟩
        have c62 : ((posR O x : Nat) : Int) = ((posR O x : Nat) : Int) ∧ (O.length : Int) = (O.length : Int) ∧ posR O x ≤ O.length ∧ O.length ≤ O.length := ⟨rfl, rfl, hp, Nat.le_refl _⟩
        have c63 : (posR O x * 18 = posR O x * 18 ∧ posR O x + (O.length - posR O x) ≤ O.length) ∧ (((rowX O).drop (posR O x * 18)).take ((O.length - posR O x) * 18)).length = (O.length - posR O x) * 18 ∧ (∀ u ∈ ((rowX O).drop (posR O x * 18)).take ((O.length - posR O x) * 18), u.oneCell' = true) ∧ 0 + (posR O x - 0) + 1 + (O.length - posR O x) ≤ maxLen ∧ (0 + (posR O x - 0) + 1 + (O.length - posR O x)) * 32 ≤ 140737488355328 := by
          refine ⟨⟨rfl, by omega⟩, ?_, fun u hu => rowX_ones O u (List.mem_of_mem_drop (List.mem_of_mem_take hu)), by unfold maxLen; omega, by omega⟩
          rw [List.length_take, List.length_drop, rowX_len]
          have : (O.length - posR O x) * 18 + posR O x * 18 = O.length * 18 := by rw [← Nat.add_mul]; congr 1; omega
          omega
        have h7 : [((0 : Nat), Sx.SV.val (.slice A L.length c)), (3, .own 5), (4, .val (.int .i64 ((i + 1 : Nat) : Int)))] = [((0 : Nat), Sx.SV.val (.slice A L.length c)), (3, .own 5), (4, .val (.int .i64 ((i + 1 : Nat) : Int)))] := rfl
        have z8 : [(⟨29, .own 18 (0 + (posR O x - 0) + 1 + (O.length - posR O x)) ([] ++ ((rowX O).drop (0 * 18)).take ((posR O x - 0) * 18) ++ pfx x.v x.n x.k ++ ((rowX O).drop (posR O x * 18)).take ((O.length - posR O x) * 18))⟩ : Sx.Row)] = sfMem (stO L (i + 1)) := by
          rw [hs]
          unfold sfMem
          rw [insR_ne O x hne]
          have e1 : 0 + (posR O x - 0) + 1 + (O.length - posR O x) = (O.take (posR O x) ++ ([x] ++ O.drop (posR O x))).length := by rw [List.length_append, List.length_append, List.length_take, List.length_drop, List.length_singleton]; omega
          have e2 : ([] : List Value) ++ ((rowX O).drop (0 * 18)).take ((posR O x - 0) * 18) ++ pfx x.v x.n x.k ++ ((rowX O).drop (posR O x * 18)).take ((O.length - posR O x) * 18) = rowX (O.take (posR O x) ++ ([x] ++ O.drop (posR O x))) := by
            rw [rowX_append, rowX_append, show 0 * 18 = 0 from rfl, List.drop_zero, Nat.sub_zero, rowX_drop, rowX_take, rowX_take]
            have : rowX [x] = pfx x.v x.n x.k := by simp [rowX, PX.enc]
            rw [this, List.take_of_length_le (show (O.drop (posR O x)).length ≤ _ by rw [List.length_drop]; omega)]
            simp
          rw [e1, e2]
        refine ⟨[(10, .is (.bool true)), (34, .is (.bool true)), (38, .ix), (39, .ld (.agg (pfx y.v y.n y.k).toArray)), (42, .any p), (43, .any (.agg (pfx x.v x.n x.k).toArray)), (44, .call (.int .i64 (cmpP y.v y.n y.k x.v x.n x.k))), (45, .is (.bool false)), (12, .is (.int .i64 ((i + 1 : Nat) : Int))), (50, .osl 0 (posR O x)), (55, .any p), (56, .any (.agg (pfx x.v x.n x.k).toArray)), (62, .osl (posR O x) O.length), (6, .nils 29 18)], [.mk Nat 0 (fun k => k ≤ posR O x) (sfFr2 (.slice A L.length c) i) (fun _ => sfMem O) (fun k => k + 1) (fun k => O.length + 2 - k) Unit (fun _ => True) (fun _ => sfFr2 (.slice A L.length c) i (posR O x)) (fun _ => sfMem O) (fun _ => ())], ?_⟩
        exact Eq.mp (by kernel_rfl) (And.intro c10 (And.intro h0 (And.intro e1 (And.intro rd2 (fun (x : Unit) (hx4 : True) => (And.intro c34 (And.intro c38 (And.intro c39 (And.intro c42 (And.intro c43 (And.intro c44 (And.intro c45 (And.intro c50 (And.intro c51 (And.intro c55 (And.intro c56 (And.intro c58 (And.intro c62 (And.intro c63 (And.intro c12 (And.intro h5 (And.intro h6 (And.intro h7 z8)))))))))))))))))))))))
    · have c34 : Value.bool (decide (((posR O x : Nat) : Int) < (O.length : Int))) = .bool false := by rw [decide_eq_false (by omega)]
      have hne : ∀ z, O[posR O x]? = some z → cmpX z x ≠ 0 := fun z hz => by have := (List.getElem?_eq_some_iff.1 hz).1; omega
      have hp := posR_le O x
      have c50 : ((0 : Nat) : Int) = ((0 : Nat) : Int) ∧ ((posR O x : Nat) : Int) = ((posR O x : Nat) : Int) ∧ 0 ≤ posR O x ∧ posR O x ≤ O.length := ⟨rfl, rfl, Nat.zero_le _, hp⟩
      have c51 : (0 * 18 = 0 * 18 ∧ 0 + (posR O x - 0) ≤ O.length) ∧ (((rowX O).drop (0 * 18)).take ((posR O x - 0) * 18)).length = (posR O x - 0) * 18 ∧ (∀ u ∈ ((rowX O).drop (0 * 18)).take ((posR O x - 0) * 18), u.oneCell' = true) ∧ 0 + (posR O x - 0) ≤ maxLen ∧ (0 + (posR O x - 0)) * 32 ≤ 140737488355328 := by
        refine ⟨⟨rfl, by omega⟩, ?_, fun u hu => rowX_ones O u (List.mem_of_mem_drop (List.mem_of_mem_take hu)), by unfold maxLen; omega, by omega⟩
        rw [List.length_take, List.length_drop, rowX_len]
        have : (posR O x - 0) * 18 ≤ O.length * 18 := Nat.mul_le_mul_right _ (by omega)
        omega
      have c58 : True ∧ (pfx x.v x.n x.k).length = 1 * 18 ∧ (∀ (u : Value), u ∈ pfx x.v x.n x.k → u.oneCell' = true) ∧ 0 + (posR O x - 0) + 1 ≤ maxLen ∧ (0 + (posR O x - 0) + 1) * 32 ≤ 140737488355328 :=
        ⟨trivial, by rw [pfx_length], enc_ones x, by unfold maxLen; omega, by omega⟩
      have c62 : ((posR O x : Nat) : Int) = ((posR O x : Nat) : Int) ∧ (O.length : Int) = (O.length : Int) ∧ posR O x ≤ O.length ∧ O.length ≤ O.length := ⟨rfl, rfl, hp, Nat.le_refl _⟩
      have c63 : (posR O x * 18 = posR O x * 18 ∧ posR O x + (O.length - posR O x) ≤ O.length) ∧ (((rowX O).drop (posR O x * 18)).take ((O.length - posR O x) * 18)).length = (O.length - posR O x) * 18 ∧ (∀ u ∈ ((rowX O).drop (posR O x * 18)).take ((O.length - posR O x) * 18), u.oneCell' = true) ∧ 0 + (posR O x - 0) + 1 + (O.length - posR O x) ≤ maxLen ∧ (0 + (posR O x - 0) + 1 + (O.length - posR O x)) * 32 ≤ 140737488355328 := by
        refine ⟨⟨rfl, by omega⟩, ?_, fun u hu => rowX_ones O u (List.mem_of_mem_drop (List.mem_of_mem_take hu)), by unfold maxLen; omega, by omega⟩
        rw [List.length_take, List.length_drop, rowX_len]
        have : (O.length - posR O x) * 18 + posR O x * 18 = O.length * 18 := by rw [← Nat.add_mul]; congr 1; omega
        omega
      have h7 : [((0 : Nat), Sx.SV.val (.slice A L.length c)), (3, .own 5), (4, .val (.int .i64 ((i + 1 : Nat) : Int)))] = [((0 : Nat), Sx.SV.val (.slice A L.length c)), (3, .own 5), (4, .val (.int .i64 ((i + 1 : Nat) : Int)))] := rfl
      have z8 : [(⟨29, .own 18 (0 + (posR O x - 0) + 1 + (O.length - posR O x)) ([] ++ ((rowX O).drop (0 * 18)).take ((posR O x - 0) * 18) ++ pfx x.v x.n x.k ++ ((rowX O).drop (posR O x * 18)).take ((O.length - posR O x) * 18))⟩ : Sx.Row)] = sfMem (stO L (i + 1)) := by
        rw [hs]
        unfold sfMem
        rw [insR_ne O x hne]
        have e1 : 0 + (posR O x - 0) + 1 + (O.length - posR O x) = (O.take (posR O x) ++ ([x] ++ O.drop (posR O x))).length := by rw [List.length_append, List.length_append, List.length_take, List.length_drop, List.length_singleton]; omega
        have e2 : ([] : List Value) ++ ((rowX O).drop (0 * 18)).take ((posR O x - 0) * 18) ++ pfx x.v x.n x.k ++ ((rowX O).drop (posR O x * 18)).take ((O.length - posR O x) * 18) = rowX (O.take (posR O x) ++ ([x] ++ O.drop (posR O x))) := by
          rw [rowX_append, rowX_append, show 0 * 18 = 0 from rfl, List.drop_zero, Nat.sub_zero, rowX_drop, rowX_take, rowX_take]
          have : rowX [x] = pfx x.v x.n x.k := by simp [rowX, PX.enc]
          rw [this, List.take_of_length_le (show (O.drop (posR O x)).length ≤ _ by rw [List.length_drop]; omega)]
          simp
        rw [e1, e2]
      refine ⟨[(10, .is (.bool true)), (34, .is (.bool false)), (12, .is (.int .i64 ((i + 1 : Nat) : Int))), (50, .osl 0 (posR O x)), (55, .any p), (56, .any (.agg (pfx x.v x.n x.k).toArray)), (62, .osl (posR O x) O.length), (6, .nils 29 18)], [.mk Nat 0 (fun k => k ≤ posR O x) (sfFr2 (.slice A L.length c) i) (fun _ => sfMem O) (fun k => k + 1) (fun k => O.length + 2 - k) Unit (fun _ => True) (fun _ => sfFr2 (.slice A L.length c) i (posR O x)) (fun _ => sfMem O) (fun _ => ())], ?_⟩
      exact Eq.mp (by kernel_rfl) (And.intro c10 (And.intro h0 (And.intro e1 (And.intro rd2 (fun (x : Unit) (hx4 : True) => (And.intro c34 (And.intro c50 (And.intro c51 (And.intro c55 (And.intro c56 (And.intro c58 (And.intro c62 (And.intro c63 (And.intro c12 (And.intro h5 (And.intro h6 (And.intro h7 z8)))))))))))))))))
  · have c10 : Value.bool (decide ((i : Int) < (L.length : Int))) = .bool false := by rw [decide_eq_false (by omega)]
    have he : i = L.length := by omega
    have h0 : True := trivial
    have h1 : [((3 : Nat), Sx.SV.own 0)] = [((3 : Nat), Sx.SV.own 0)] := rfl
    have z2 : sfMem (stO L i) = sfMem (sortR L) := by rw [he]; unfold stO; rw [List.take_length]; rfl
    refine ⟨[(10, .is (.bool false))], [], ?_⟩
    exact Eq.mp (by kernel_rfl) (And.intro c10 (And.intro h0 (And.intro h1 z2)))
set_option maxRecDepth 100000 in
/-- Sorted: the row in its order, each once. -/
theorem sorted_N (L : List PX) (s : Value) (hL : L.length ≤ 1000000) (w : World) (h : Rd w 18 s L.length (rowX L)) : Calls Tryz.prog 53 #[s] w (Sx.retPost w (.sl 29 18 (sortR L).length (rowX (sortR L)))) := by
  obtain ⟨_, A, c, rfl, _⟩ := id h
  have h0 : sfR L 0 := Nat.zero_le _
  have e1 : sfFr1 (.slice A L.length c) 0 = sfFr1 (.slice A L.length c) 0 ∧ sfMem (stO L 0) = sfMem (stO L 0) := ⟨rfl, rfl⟩
  have rd2 := sf_outer L A c hL w h (.sl 29 18 (sortR L).length (rowX (sortR L))) rfl
  have z5 : Sx.Ret.sl 29 18 (sortR L).length (rowX (sortR L)) = .sl 29 18 (sortR L).length (rowX (sortR L)) := rfl
  refine Sx.calls_own (args := [.slice A L.length c]) [(3, .nils 29 18)] [.mk Nat 0 (sfR L) (sfFr1 (.slice A L.length c)) (fun i => sfMem (stO L i)) (fun i => i + 1) (fun i => L.length + 2 - i) Unit (fun _ => True) (fun _ => [((3 : Nat), Sx.SV.own 0)]) (fun _ => sfMem (sortR L)) (fun _ => ())] (by kernel_rfl) Tryz.func53 rfl (Nat.le_of_ble_eq_true rfl) ?_
  exact Eq.mp (by kernel_rfl) (And.intro h0 (And.intro e1 (And.intro rd2 (fun (x : Unit) (hx4 : True) => z5))))
end Go.Proofs.YtgpiapmbbnngpaaGreatDoor
