/- The reference's Read, walked by reckoning. -/
import Derived.Test.YtgpiapmbbnngpaaGreatDoorPfxSr
import Derived.Test.YtgpiapmbbnngpaaGreatDoorSxM
import Derived.Test.YtgpiapmbbnngpaaGreatDoorPfxBk
namespace Go.Proofs.YtgpiapmbbnngpaaGreatDoor
open Go.RowKit Go.Lib Go.Sort

set_option maxRecDepth 100000 in
theorem rwidth_N (v : Bool) (n : Nat) (w : World) : Calls Tryz.prog 49 #[.agg (adr v n).toArray] w fun e w' => e = .returned (.int .i64 (wid v : Nat)) ∧ Chg [] w w' := by
  cases v with
  | false =>
    have z0 : Value.int .i64 32 = .int .i64 ((wid false : Nat) : Int) := rfl
    refine Sx.calls_is (args := [.agg (adr false n).toArray]) [] [] (by kernel_rfl) Tryz.func49 rfl (Nat.le_of_ble_eq_true rfl) ?_
    exact Eq.mp (by kernel_rfl) z0
  | true =>
    have z0 : Value.int .i64 128 = .int .i64 ((wid true : Nat) : Int) := rfl
    refine Sx.calls_is (args := [.agg (adr true n).toArray]) [] [] (by kernel_rfl) Tryz.func49 rfl (Nat.le_of_ble_eq_true rfl) ?_
    exact Eq.mp (by kernel_rfl) z0
/-- Where the last sign 47 stands among the first i, or the length. -/
def atF (s : List UInt8) : Nat → Nat
  | 0 => s.length
  | i + 1 => if s[i]? = some 47 then i else atF s i
theorem atF_le (s : List UInt8) : ∀ i, i ≤ s.length → atF s i ≤ s.length
  | 0, _ => Nat.le_refl _
  | i + 1, h => by
    rw [atF]; split
    · omega
    · exact atF_le s i (by omega)
theorem atF_last (l m : List UInt8) (h : (47 : UInt8) ∉ m) : atF (l ++ 47 :: m) (l ++ 47 :: m).length = l.length := by
  have key : ∀ i, i ≤ m.length → atF (l ++ 47 :: m) (l.length + 1 + i) = l.length := by
    intro i
    induction i with
    | zero =>
      intro _
      rw [Nat.add_zero, atF, if_pos (by rw [List.getElem?_append_right (Nat.le_refl _)]; simp)]
    | succ i ih =>
      intro hi
      rw [show l.length + 1 + (i + 1) = (l.length + 1 + i) + 1 by omega, atF, if_neg, ih (by omega)]
      rw [List.getElem?_append_right (by omega), show l.length + 1 + i - l.length = i + 1 by omega, List.getElem?_cons_succ]
      intro he
      exact h (List.mem_of_getElem? he)
  have := key m.length (Nat.le_refl _)
  rw [show (l ++ 47 :: m).length = l.length + 1 + m.length by simp; omega]
  exact this
def rdFr1 (s : List UInt8) (i : Nat) : List (Nat × Sx.SV) := [(0, .val (.string ⟨s.toArray⟩)), (2, .ptr 0 0), (4, .val (.int .i64 (atF s i : Nat))), (5, .val (.int .i64 (i : Int)))]
def zpfL : List Value := pfx false 0 0
def rdMem1 : List Sx.Row := [⟨29, .vals zpfL⟩]
def rdFo1 (s : List UInt8) : List (Nat × Sx.SV) := [(0, .val (.string ⟨s.toArray⟩)), (2, .ptr 0 0), (4, .val (.int .i64 (atF s s.length : Nat)))]
set_option maxRecDepth 100000 in
theorem rd_lp1 (s : List UInt8) (T : Value) (w : World) (hs : s.length ≤ 100000000) (i : Nat) (hi : i ≤ s.length) : ∃ H' L', Sx.ex Tryz.prog 58 w (Sx.bodyOf Tryz.f13 0) H' L' ⟨rdFr1 s i, rdMem1⟩
    (Sx.loopK (fun i => i ≤ s.length) (rdFr1 s) (fun _ => rdMem1) (fun i => i + 1) (fun i => s.length + 2 - i) (fun (_ : Unit) => True) (fun _ => rdFo1 s) (fun _ => rdMem1) (fun _ => ()) (Sx.outId (Sx.bodyOf Tryz.f13 0) - 1) (Sx.atEnd Tryz.prog Tryz.f13 (fun u => u = T) .ret) i) := by
  have c16 := len_i s
  by_cases h : i < s.length
  · have c17 : Value.bool (decide ((i : Int) < (s.length : Int))) = .bool true := bzt (decide_eq_true (by omega))
    obtain ⟨c, hc⟩ : ∃ c, s[i]? = some c := ⟨_, List.getElem?_eq_getElem h⟩
    have c22 := u8_at s i c hc
    have c19 : Value.int .i64 (IntKind.i64.wrap ((i : Int) + 1)) = .int .i64 ((i + 1 : Nat) : Int) := iw (w64 (by omega) (by omega))
    have h0 : i + 1 ≤ s.length := h
    have h1 : s.length + 2 - (i + 1) < s.length + 2 - i := by omega
    have z3 : rdMem1 = rdMem1 := rfl
    by_cases h47 : c = 47
    · have c23 : Value.bool ((c.toNat : Int) == 47) = .bool true := bzt (by rw [h47]; rfl)
      have ha : atF s (i + 1) = i := by rw [atF, if_pos (by rw [hc, h47])]
      have h2 : [((0 : Nat), Sx.SV.val (.string ⟨s.toArray⟩)), (2, .ptr 0 0), (4, .val (.int .i64 (i : Int))), (5, .val (.int .i64 ((i + 1 : Nat) : Int)))] = rdFr1 s (i + 1) := by unfold rdFr1; rw [ha]
      refine ⟨[(16, .is (.int .i64 (s.length : Int))), (17, .is (.bool true)), (22, .bin (u8 c)), (23, .is (.bool true)), (19, .is (.int .i64 ((i + 1 : Nat) : Int)))], [], ?_⟩
      exact Eq.mp (by kernel_rfl) (And.intro c16 (And.intro c17 (And.intro c22 (And.intro c23 (And.intro c19 (And.intro h0 (And.intro h1 (And.intro h2 z3))))))))
    · have c23 : Value.bool ((c.toNat : Int) == 47) = .bool false := bzf (by
        have : c.toNat ≠ 47 := fun h => h47 (UInt8.toNat_inj.1 (by rw [h]; rfl))
        simp; omega)
      have ha : atF s (i + 1) = atF s i := by rw [atF, if_neg (by rw [hc]; intro h; exact h47 (Option.some.inj h))]
      have h2 : [((0 : Nat), Sx.SV.val (.string ⟨s.toArray⟩)), (2, .ptr 0 0), (4, .val (.int .i64 (atF s i : Nat))), (5, .val (.int .i64 ((i + 1 : Nat) : Int)))] = rdFr1 s (i + 1) := by unfold rdFr1; rw [ha]
      refine ⟨[(16, .is (.int .i64 (s.length : Int))), (17, .is (.bool true)), (22, .bin (u8 c)), (23, .is (.bool false)), (19, .is (.int .i64 ((i + 1 : Nat) : Int)))], [], ?_⟩
      exact Eq.mp (by kernel_rfl) (And.intro c16 (And.intro c17 (And.intro c22 (And.intro c23 (And.intro c19 (And.intro h0 (And.intro h1 (And.intro h2 z3))))))))
  · have c17 : Value.bool (decide ((i : Int) < (s.length : Int))) = .bool false := bzf (decide_eq_false (by omega))
    have hi' : i = s.length := by omega
    have h0 : True := trivial
    have h1 : [((0 : Nat), Sx.SV.val (.string ⟨s.toArray⟩)), (2, .ptr 0 0), (4, .val (.int .i64 (atF s i : Nat)))] = rdFo1 s := by unfold rdFo1; rw [hi']
    have z2 : rdMem1 = rdMem1 := rfl
    refine ⟨[(16, .is (.int .i64 (s.length : Int))), (17, .is (.bool false))], [], ?_⟩
    exact Eq.mp (by kernel_rfl) (And.intro c16 (And.intro c17 (And.intro h0 (And.intro h1 z2))))
def rdFr2 (s : List UInt8) (i : Nat) : List (Nat × Sx.SV) := [(0, .val (.string ⟨s.toArray⟩)), (2, .ptr 0 0), (6, .ptr 1 0), (8, .val (.int .i64 (i : Int)))]
def rdMem2 (v : Bool) (n : Nat) : List Sx.Row := [⟨29, .vals zpfL⟩, ⟨24, .vals (adr v n)⟩]
def rdR2 (s : List UInt8) (v : Bool) (n : Nat) (i : Nat) : Prop := i ≤ wid v + 1 ∧ ∀ j : Nat, j < i → ¬ IsP s v n j
theorem errp_eq (v : Bool) (n : Nat) (k : Int) : Value.bool (errP v n k == 0) = .bool (okP v n k) := by
  unfold errP
  cases okP v n k <;> rfl
def zpfV : Value := .agg (pfx false 0 0).toArray
set_option maxRecDepth 100000 in
theorem rd_lp2 (s : List UInt8) (v : Bool) (n : Nat) (hn : n < 2 ^ 128) (T : Value) (w : World) (hyes : ∀ j : Nat, IsP s v n j → Value.tuple #[.agg (pfx v n j).toArray, .int .i64 0] = T) (i : Nat) (hi : rdR2 s v n i) : ∃ H' L', Sx.ex Tryz.prog 58 w (Sx.bodyOf Tryz.f13 1) H' L' ⟨rdFr2 s i, rdMem2 v n⟩
    (Sx.loopK (rdR2 s v n) (rdFr2 s) (fun _ => rdMem2 v n) (fun i => i + 1) (fun i => wid v + 2 - i) (fun (_ : Unit) => ∀ j : Nat, j ≤ wid v → ¬ IsP s v n j) (fun _ => [((2 : Nat), Sx.SV.ptr 0 0)]) (fun _ => rdMem2 v n) (fun _ => ()) (Sx.outId (Sx.bodyOf Tryz.f13 1) - 1) (Sx.atEnd Tryz.prog Tryz.f13 (fun u => u = T) .ret) i) := by
  have c37 := fun W (_ : Chg [] w W) => rwidth_N v n W
  have hw := wid_le v
  obtain ⟨h1, h2⟩ := hi
  by_cases h : i ≤ wid v
  · have c38 : Value.bool (decide ((i : Int) ≤ (wid v : Nat))) = .bool true := bzt (decide_eq_true (by omega))
    have c40 : Value.int .i64 (IntKind.i64.wrap ((i : Int) + 1)) = .int .i64 ((i + 1 : Nat) : Int) := iw (w64 (by omega) (by omega))
    have c46 := fun W (_ : Chg [] w W) => rtext_N v n i hn W
    have nx : ¬ IsP s v n i → rdR2 s v n (i + 1) := fun hno => ⟨by omega, fun j hj => by
      by_cases hji : j = i
      · rw [hji]; exact hno
      · exact h2 j (by omega)⟩
    have hm : wid v + 2 - (i + 1) < wid v + 2 - i := by omega
    have hh2 : rdFr2 s (i + 1) = rdFr2 s (i + 1) := rfl
    have hh3 : rdMem2 v n = rdMem2 v n := rfl
    cases hok : okP v n i with
    | false =>
      have c50 : Value.bool (errP v n i == 0) = .bool false := by rw [errp_eq, hok]
      have h0 := nx fun hp => by rw [hp.2.1] at hok; cases hok
      have h1 := hm
      have h2 := hh2
      have z3 := hh3
      refine ⟨[(37, .call (.int .i64 (wid v : Nat))), (38, .is (.bool true)), (46, .call (.tuple #[.string ⟨(ptxt v n i).toArray⟩, .int .i64 (errP v n i)])), (50, .is (.bool false)), (40, .is (.int .i64 ((i + 1 : Nat) : Int)))], [], ?_⟩
      exact Eq.mp (by kernel_rfl) (And.intro c37 (And.intro c38 (And.intro c46 (And.intro c50 (And.intro c40 (And.intro h0 (And.intro h1 (And.intro h2 z3))))))))
    | true =>
      have c50 : Value.bool (errP v n i == 0) = .bool true := by rw [errp_eq, hok]
      have hpt : ptxt v n i = textP v n i := by unfold ptxt; rw [hok]; rfl
      by_cases he : ptxt v n i = s
      · have c54 := strEql (.tmp 52) (.tmp 53) (ptxt v n i) s (r := true) (by simpa using he)
        have z0 := hyes i ⟨hn, hok, by rw [← hpt]; exact he⟩
        refine ⟨[(37, .call (.int .i64 (wid v : Nat))), (38, .is (.bool true)), (46, .call (.tuple #[.string ⟨(ptxt v n i).toArray⟩, .int .i64 (errP v n i)])), (50, .is (.bool true)), (54, .bin (.bool true))], [], ?_⟩
        exact Eq.mp (by kernel_rfl) (And.intro c37 (And.intro c38 (And.intro c46 (And.intro c50 (And.intro c54 z0)))))
      · have c54 := strEql (.tmp 52) (.tmp 53) (ptxt v n i) s (r := false) (by simpa using he)
        have h0 := nx fun hp => he (by rw [hpt]; exact hp.2.2)
        have h1 := hm
        have h2 := hh2
        have z3 := hh3
        refine ⟨[(37, .call (.int .i64 (wid v : Nat))), (38, .is (.bool true)), (46, .call (.tuple #[.string ⟨(ptxt v n i).toArray⟩, .int .i64 (errP v n i)])), (50, .is (.bool true)), (54, .bin (.bool false)), (40, .is (.int .i64 ((i + 1 : Nat) : Int)))], [], ?_⟩
        exact Eq.mp (by kernel_rfl) (And.intro c37 (And.intro c38 (And.intro c46 (And.intro c50 (And.intro c54 (And.intro c40 (And.intro h0 (And.intro h1 (And.intro h2 z3)))))))))
  · have c38 : Value.bool (decide ((i : Int) ≤ (wid v : Nat))) = .bool false := bzf (decide_eq_false (by omega))
    have h0 : ∀ j : Nat, j ≤ wid v → ¬ IsP s v n j := fun j hj => h2 j (by omega)
    have h1 : [((2 : Nat), Sx.SV.ptr 0 0)] = [((2 : Nat), Sx.SV.ptr 0 0)] := rfl
    have z2 : rdMem2 v n = rdMem2 v n := rfl
    refine ⟨[(37, .call (.int .i64 (wid v : Nat))), (38, .is (.bool false))], [], ?_⟩
    exact Eq.mp (by kernel_rfl) (And.intro c37 (And.intro c38 (And.intro h0 (And.intro h1 z2))))
def rdLoops (s : List UInt8) (v : Bool) (n : Nat) : List Sx.Loop :=
  [.mk Nat 0 (fun i => i ≤ s.length) (rdFr1 s) (fun _ => rdMem1) (fun i => i + 1) (fun i => s.length + 2 - i) Unit (fun _ => True) (fun _ => rdFo1 s) (fun _ => rdMem1) (fun _ => ()),
   .mk Nat 0 (rdR2 s v n) (rdFr2 s) (fun _ => rdMem2 v n) (fun i => i + 1) (fun i => wid v + 2 - i) Unit (fun _ => ∀ j : Nat, j ≤ wid v → ¬ IsP s v n j) (fun _ => [((2 : Nat), Sx.SV.ptr 0 0)]) (fun _ => rdMem2 v n) (fun _ => ())]
set_option maxRecDepth 100000 in
theorem rread_gen (s : List UInt8) (hs : s.length ≤ 100000000) (w : World) (v : Bool) (n : Nat) (hn : n < 2 ^ 128) (T : Value)
    (H : (IsA (s.take (atF s s.length)) v n ∧ (∀ j : Nat, IsP s v n j → Value.tuple #[.agg (pfx v n j).toArray, .int .i64 0] = T) ∧ ((∀ j : Nat, j ≤ wid v → ¬ IsP s v n j) → Value.tuple #[zpfV, .int .i64 151] = T)) ∨
      ((∀ v n, ¬ IsA (s.take (atF s s.length)) v n) ∧ Value.tuple #[zpfV, .int .i64 151] = T)) : Calls Tryz.prog 13 #[.string ⟨s.toArray⟩] w fun e w' => e = .returned T ∧ Chg [] w w' := by
  have hat := atF_le s s.length (Nat.le_refl _)
  have c13 := len_i s
  have h0 : 0 ≤ s.length := Nat.zero_le _
  have e1 : rdFr1 s 0 = rdFr1 s 0 ∧ rdMem1 = rdMem1 := ⟨rfl, rfl⟩
  have rd2 := rd_lp1 s T w hs
  have c28 := slice_to s (atF s s.length) hat
  have hl : (s.take (atF s s.length)).length ≤ 100000000 := by rw [List.length_take]; omega
  rcases H with ⟨hA, hy, hno⟩ | ⟨hA, hT⟩
  · have c29 := fun W (_ : Chg [] w W) => rreadAddr_is hA hl W
    have h5 : rdR2 s v n 0 := ⟨Nat.zero_le _, fun j hj => by omega⟩
    have e6 : rdFr2 s 0 = rdFr2 s 0 ∧ rdMem2 v n = rdMem2 v n := ⟨rfl, rfl⟩
    have rd7 := rd_lp2 s v n hn T w hy
    refine Sx.calls_is (args := [.string ⟨s.toArray⟩]) [(13, .is (.int .i64 (s.length : Int))), (28, .bin (.string ⟨(s.take (atF s s.length)).toArray⟩)), (29, .call (.tuple #[.agg (adr v n).toArray, .int .i64 0]))] (rdLoops s v n) (by kernel_rfl) Tryz.func13 rfl (Nat.le_of_ble_eq_true rfl) ?_
    exact Eq.mp (by kernel_rfl) (And.intro c13 (And.intro h0 (And.intro e1 (And.intro rd2 (fun (x : Unit) (hx4 : True) => (And.intro c28 (And.intro c29 (And.intro h5 (And.intro e6 (And.intro rd7 (fun (x : Unit) (hx9 : ∀ j : Nat, j ≤ wid v → ¬ IsP s v n j) => hno hx9)))))))))))
  · have c29 := fun W (_ : Chg [] w W) => rreadAddr_no hA hl W
    have z5 := hT
    refine Sx.calls_is (args := [.string ⟨s.toArray⟩]) [(13, .is (.int .i64 (s.length : Int))), (28, .bin (.string ⟨(s.take (atF s s.length)).toArray⟩)), (29, .call (.tuple #[zadV, .int .i64 150]))] (rdLoops s v n) (by kernel_rfl) Tryz.func13 rfl (Nat.le_of_ble_eq_true rfl) ?_
    exact Eq.mp (by kernel_rfl) (And.intro c13 (And.intro h0 (And.intro e1 (And.intro rd2 (fun (x : Unit) (hx4 : True) => (And.intro c28 (And.intro c29 z5)))))))
theorem isP_A_of {s : List UInt8} {v : Bool} {n j : Nat} (h : IsP s v n j) : IsA (s.take (atF s s.length)) v n := by
  obtain ⟨hn, hok, ht⟩ := h
  have hd : (47 : UInt8) ∉ digs 10 j := digs_none (by omega) (by omega) (.inl (by decide))
  have hs : s = textA v n ++ 47 :: digs 10 j := by rw [← ht]; unfold textP; rw [Int.toNat_natCast]
  have := atF_last (textA v n) (digs 10 j) hd
  rw [← hs] at this
  rw [this]
  refine ⟨hn, okP_okA hok, ?_⟩
  rw [hs]
  exact (List.take_left' rfl).symm
theorem isP_nat {s : List UInt8} {v : Bool} {n : Nat} {k : Int} (h : IsP s v n k) : ∃ j : Nat, k = j ∧ j ≤ wid v := by
  have h2 := h.2.1
  unfold okP at h2
  simp only [Bool.and_eq_true, decide_eq_true_eq] at h2
  exact ⟨k.toNat, by omega, by omega⟩
theorem rread_is {s : List UInt8} {v : Bool} {n : Nat} {k : Int} (h : IsP s v n k) (hs : s.length ≤ 100000000) (w : World) : Calls Tryz.prog 13 #[.string ⟨s.toArray⟩] w fun e w' => e = .returned (.tuple #[.agg (pfx v n k).toArray, .int .i64 0]) ∧ Chg [] w w' := by
  obtain ⟨j, rfl, hj⟩ := isP_nat h
  refine rread_gen s hs w v n h.1 _ (.inl ⟨isP_A_of h, fun i hi => ?_, fun hno => absurd h (hno j hj)⟩)
  have h1 : textP v n i = textP v n j := by rw [hi.2.2, h.2.2]
  unfold textP at h1
  rw [Int.toNat_natCast, Int.toNat_natCast] at h1
  have h2 := List.append_cancel_left h1
  injection h2 with _ h2
  rw [digs_inj (by omega) (by omega) h2]
theorem rread_no {s : List UInt8} (h : ∀ v n k, ¬ IsP s v n k) (hs : s.length ≤ 100000000) (w : World) : Calls Tryz.prog 13 #[.string ⟨s.toArray⟩] w fun e w' => e = .returned (.tuple #[zpfV, .int .i64 151]) ∧ Chg [] w w' := by
  by_cases hA : ∃ v n, IsA (s.take (atF s s.length)) v n
  · obtain ⟨v, n, hA⟩ := hA
    exact rread_gen s hs w v n hA.1 _ (.inl ⟨hA, fun j hj => absurd hj (h _ _ _), fun _ => rfl⟩)
  · exact rread_gen s hs w false 0 (by decide) _ (.inr ⟨fun v n hh => hA ⟨v, n, hh⟩, rfl⟩)

theorem beq24r (x y : Operand) (v v' : Bool) (n m : Nat) (hn : n < 2 ^ 128) (hm : m < 2 ^ 128) (W : World) : (do eqGuard .eql 24 x y (.agg (adr v n).toArray) (.agg (adr v' m).toArray); binOp .eql 24 (.agg (adr v n).toArray) (.agg (adr v' m).toArray) : Sem Value).run Tryz.prog W = .ok (.bool (decide (v = v' ∧ n = m))) W := by
  have h := eq24 v v' n m hn hm W
  rw [Sem.run_bind, guard24, Result.andThen_ok]
  show (do pure (.bool (← Op.equal 24 (.agg (adr v n).toArray) (.agg (adr v' m).toArray))) : Sem Value).run Tryz.prog W = _
  rw [Sem.run_bind, show (Op.equal 24 (.agg (adr v n).toArray) (.agg (adr v' m).toArray)).run Tryz.prog W = _ from h]
  rfl
theorem beq29r (x y : Operand) (v v' : Bool) (n m : Nat) (k j : Int) (hn : n < 2 ^ 128) (hm : m < 2 ^ 128) (hk : -9223372036854775808 ≤ k ∧ k ≤ 9223372036854775807) (hj : -9223372036854775808 ≤ j ∧ j ≤ 9223372036854775807) (W : World) : (do eqGuard .eql 29 x y (.agg (pfx v n k).toArray) (.agg (pfx v' m j).toArray); binOp .eql 29 (.agg (pfx v n k).toArray) (.agg (pfx v' m j).toArray) : Sem Value).run Tryz.prog W = .ok (.bool (decide (v = v' ∧ n = m ∧ k = j))) W := by
  have h := eq29 v v' n m k j hn hm hk hj W
  rw [Sem.run_bind, guard29, Result.andThen_ok]
  show (do pure (.bool (← Op.equal 29 (.agg (pfx v n k).toArray) (.agg (pfx v' m j).toArray))) : Sem Value).run Tryz.prog W = _
  rw [Sem.run_bind, show (Op.equal 29 (.agg (pfx v n k).toArray) (.agg (pfx v' m j).toArray)).run Tryz.prog W = _ from h]
  rfl

theorem eqsame29r (x y : Operand) (v : Bool) (n : Nat) (k : Int) (hn : n < 2 ^ 128) (hk : -9223372036854775808 ≤ k ∧ k ≤ 9223372036854775807) (W : World) : (do eqGuard .eql 29 x y (.agg (pfx v n k).toArray) (.agg (pfx v n k).toArray); binOp .eql 29 (.agg (pfx v n k).toArray) (.agg (pfx v n k).toArray) : Sem Value).run Tryz.prog W = .ok (.bool true) W := okBin (beq29r x y v v n n k k hn hn hk hk W) (by simp)
theorem eq_ir (x : Int) : Value.bool (x == x) = .bool true := bz (by simp)
theorem eqsame24 (x y : Operand) (v : Bool) (n : Nat) (hn : n < 2 ^ 128) (W : World) : (do eqGuard .eql 24 x y (.agg (adr v n).toArray) (.agg (adr v n).toArray); binOp .eql 24 (.agg (adr v n).toArray) (.agg (adr v n).toArray) : Sem Value).run Tryz.prog W = .ok (.bool true) W := okBin (beq24r x y v v n n hn hn W) (by simp)
set_option maxRecDepth 100000 in
/-- PrefixReads, walked: it is true. -/
theorem reads_W (s : List UInt8) (hs : s.length ≤ 100000000) (w : World) (HL : Lan w) : Calls Tryz.prog 3 #[.string ⟨s.toArray⟩] w fun e w' => e = .returned (.bool true) ∧ Chg [] w w' := by
  have L : ∀ W, Chg [] w W → Lan W := fun W h => HL.chg0 h
  have main : ∀ (v : Bool) (n : Nat) (e1 : Int) (v2 : Bool) (n2 : Nat) (k : Int) (e2 : Int), n < 2 ^ 128 → n2 < 2 ^ 128 → (-9223372036854775808 ≤ k ∧ k ≤ 9223372036854775807) →
      (∀ W, Chg [] w W → Calls Tryz.prog 10 #[.string ⟨s.toArray⟩] W fun e w' => e = .returned (.tuple #[.agg (adr v n).toArray, .int .i64 e1]) ∧ Chg [] W w') →
      (∀ W, Chg [] w W → Calls Tryz.prog 11 #[.string ⟨s.toArray⟩] W fun e w' => e = .returned (.tuple #[.agg (adr v n).toArray, .int .i64 e1]) ∧ Chg [] W w') →
      (∀ W, Chg [] w W → Calls Tryz.prog 12 #[.string ⟨s.toArray⟩] W fun e w' => e = .returned (.tuple #[.agg (pfx v2 n2 k).toArray, .int .i64 e2]) ∧ Chg [] W w') →
      (∀ W, Chg [] w W → Calls Tryz.prog 13 #[.string ⟨s.toArray⟩] W fun e w' => e = .returned (.tuple #[.agg (pfx v2 n2 k).toArray, .int .i64 e2]) ∧ Chg [] W w') →
      Calls Tryz.prog 3 #[.string ⟨s.toArray⟩] w fun e w' => e = .returned (.bool true) ∧ Chg [] w w' := by
    intro v n e1 v2 n2 k e2 hn hn2 hk c13 c18 c23 c28
    have c33 := eqsame24 (.tmp 31) (.tmp 32) v n hn
    have c37 := eq_ir e1
    have c42 := eqsame29r (.tmp 40) (.tmp 41) v2 n2 k hn2 hk
    have c47 := eq_ir e2
    have c50 := fun W (h : Chg [] w W) => works_N W (L W h)
    have z0 : Value.bool true = .bool true := rfl
    refine Sx.calls_is (args := [.string ⟨s.toArray⟩]) [(13, .call (.tuple #[.agg (adr v n).toArray, .int .i64 e1])), (18, .call (.tuple #[.agg (adr v n).toArray, .int .i64 e1])), (23, .call (.tuple #[.agg (pfx v2 n2 k).toArray, .int .i64 e2])), (28, .call (.tuple #[.agg (pfx v2 n2 k).toArray, .int .i64 e2])),
      (33, .bin (.bool true)), (37, .is (.bool true)), (42, .bin (.bool true)), (47, .is (.bool true)), (50, .call (.bool true))] [] (by kernel_rfl) Tryz.func3 rfl (Nat.le_of_ble_eq_true rfl) ?_
    exact Eq.mp (by kernel_rfl) (And.intro c13 (And.intro c18 (And.intro c23 (And.intro c28 (And.intro c33 (And.intro c37 (And.intro c42 (And.intro c47 (And.intro c50 z0)))))))))
  have hA : ∃ (v : Bool) (n : Nat) (e1 : Int), n < 2 ^ 128 ∧ (∀ W, Chg [] w W → Calls Tryz.prog 10 #[.string ⟨s.toArray⟩] W fun e w' => e = .returned (.tuple #[.agg (adr v n).toArray, .int .i64 e1]) ∧ Chg [] W w') ∧
      (∀ W, Chg [] w W → Calls Tryz.prog 11 #[.string ⟨s.toArray⟩] W fun e w' => e = .returned (.tuple #[.agg (adr v n).toArray, .int .i64 e1]) ∧ Chg [] W w') := by
    by_cases h : ∃ v n, IsA s v n
    · obtain ⟨v, n, h⟩ := h
      exact ⟨v, n, 0, h.1, fun W hW => readAddr_is h hs W (L W hW), fun W _ => rreadAddr_is h hs W⟩
    · have h : ∀ v n, ¬ IsA s v n := fun v n hh => h ⟨v, n, hh⟩
      exact ⟨false, 0, 150, by decide, fun W hW => readAddr_no h hs W (L W hW), fun W _ => rreadAddr_no h hs W⟩
  have hP : ∃ (v : Bool) (n : Nat) (k e1 : Int), n < 2 ^ 128 ∧ (-9223372036854775808 ≤ k ∧ k ≤ 9223372036854775807) ∧ (∀ W, Chg [] w W → Calls Tryz.prog 12 #[.string ⟨s.toArray⟩] W fun e w' => e = .returned (.tuple #[.agg (pfx v n k).toArray, .int .i64 e1]) ∧ Chg [] W w') ∧
      (∀ W, Chg [] w W → Calls Tryz.prog 13 #[.string ⟨s.toArray⟩] W fun e w' => e = .returned (.tuple #[.agg (pfx v n k).toArray, .int .i64 e1]) ∧ Chg [] W w') := by
    by_cases h : ∃ v n k, IsP s v n k
    · obtain ⟨v, n, k, h⟩ := h
      have hb := okP_bits h.2.1
      exact ⟨v, n, k, 0, h.1, by omega, fun W hW => read_is' h hs W (L W hW), fun W _ => rread_is h hs W⟩
    · have h : ∀ v n k, ¬ IsP s v n k := fun v n k hh => h ⟨v, n, k, hh⟩
      exact ⟨false, 0, 0, 151, by decide, by decide, fun W hW => read_no h hs W (L W hW), fun W _ => rread_no h hs W⟩
  obtain ⟨v, n, e1, hn, a1, a2⟩ := hA
  obtain ⟨v2, n2, k, e2, hn2, hk, b1, b2⟩ := hP
  exact main v n e1 v2 n2 k e2 hn hn2 hk a1 a2 b1 b2
theorem reads_B (s : ByteArray) (w : World) (HL : Lan w) (hs : s.size ≤ 100000000) : Calls Tryz.prog 3 #[.string s] w fun e w' => e = .returned (.bool true) ∧ Chg [] w w' := by
  have h := reads_W s.data.toList (by rw [Array.length_toList]; exact hs) w HL
  rwa [show (⟨s.data.toList.toArray⟩ : ByteArray) = s by cases s; simp] at h
end Go.Proofs.YtgpiapmbbnngpaaGreatDoor
