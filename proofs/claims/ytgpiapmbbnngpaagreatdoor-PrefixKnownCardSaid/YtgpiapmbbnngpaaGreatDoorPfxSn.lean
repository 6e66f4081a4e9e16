/- The reference's readers of numbers, walked by reckoning: hex, numbers. -/
import Derived.Test.YtgpiapmbbnngpaaGreatDoorPfxPl
import Derived.Test.YtgpiapmbbnngpaaGreatDoorSxM
import Derived.Test.YtgpiapmbbnngpaaGreatDoorPfxTn
namespace Go.Proofs.YtgpiapmbbnngpaaGreatDoor
open Go.RowKit Go.Lib Go.Sort

def u8 (c : UInt8) : Value := .int .u8 (c.toNat : Int)
theorem u8_lt (c : UInt8) : c.toNat < 256 := c.toNat_lt
theorem iu {a b : Int} (h : a = b) : Value.int .u8 a = .int .u8 b := by rw [h]
theorem wu8 {a : Int} (h0 : 0 ≤ a) (h1 : a ≤ 255) : IntKind.u8.wrap a = a := IntWalk.u8_in _ ⟨h0, h1⟩
set_option maxRecDepth 100000 in
theorem hex_N (c : UInt8) (w : World) : Calls Tryz.prog 96 #[u8 c] w fun e w' => e = .returned (.int .i64 (hexI c)) ∧ Chg [] w w' := by
  have hc := u8_lt c
  have fin : ∀ (h1 : Bool) (h2 : Bool), h1 = decide ((c.toNat : Int) ≥ 48) → h2 = decide ((c.toNat : Int) ≤ 57) → (h1 && h2) = false → Calls Tryz.prog 96 #[u8 c] w fun e w' => e = .returned (.int .i64 (hexI c)) ∧ Chg [] w w' := by
    intro h1 h2 e1 e2 he
    have c4 : Value.bool (decide ((c.toNat : Int) ≥ 48)) = .bool h1 := by rw [e1]
    have c7 : Value.bool (decide ((c.toNat : Int) ≤ 57)) = .bool h2 := by rw [e2]
    have hno : ¬ (48 ≤ c.toNat ∧ c.toNat ≤ 57) := by
      rintro ⟨a, b⟩
      rw [e1, e2, decide_eq_true (by omega), decide_eq_true (by omega)] at he
      cases he
    clear e1 e2
    by_cases h3 : 97 ≤ c.toNat
    · have c13 : Value.bool (decide ((c.toNat : Int) ≥ 97)) = .bool true := by rw [decide_eq_true (by omega)]
      by_cases h4 : c.toNat ≤ 102
      · have c16 : Value.bool (decide ((c.toNat : Int) ≤ 102)) = .bool true := by rw [decide_eq_true (by omega)]
        have c19 : Value.int .u8 (IntKind.u8.wrap ((c.toNat : Int) - 97)) = .int .u8 ((c.toNat : Int) - 97) := iu (wu8 (by omega) (by omega))
        have c20 : Value.int .i64 (IntKind.i64.wrap ((c.toNat : Int) - 97)) = .int .i64 ((c.toNat : Int) - 97) := iw (w64 (by omega) (by omega))
        have c21 : Value.int .i64 (IntKind.i64.wrap ((c.toNat : Int) - 97 + 10)) = .int .i64 ((c.toNat : Int) - 97 + 10) := iw (w64 (by omega) (by omega))
        have z0 : Value.int .i64 ((c.toNat : Int) - 97 + 10) = .int .i64 (hexI c) := by unfold hexI; rw [if_neg hno, if_pos ⟨h3, h4⟩]
        cases h1 with
        | false =>
          refine Sx.calls_is (args := [u8 c]) [(4, .is (.bool false)), (13, .is (.bool true)), (16, .is (.bool true)), (19, .is (.int .u8 ((c.toNat : Int) - 97))), (20, .is (.int .i64 ((c.toNat : Int) - 97))), (21, .is (.int .i64 ((c.toNat : Int) - 97 + 10)))] [] (by kernel_rfl) Tryz.func96 rfl (Nat.le_of_ble_eq_true rfl) ?_
          exact Eq.mp (by kernel_rfl) (And.intro c4 (And.intro c13 (And.intro c16 (And.intro c19 (And.intro c20 (And.intro c21 z0))))))
        | true => cases h2 with
          | true => cases he
          | false =>
            refine Sx.calls_is (args := [u8 c]) [(4, .is (.bool true)), (7, .is (.bool false)), (13, .is (.bool true)), (16, .is (.bool true)), (19, .is (.int .u8 ((c.toNat : Int) - 97))), (20, .is (.int .i64 ((c.toNat : Int) - 97))), (21, .is (.int .i64 ((c.toNat : Int) - 97 + 10)))] [] (by kernel_rfl) Tryz.func96 rfl (Nat.le_of_ble_eq_true rfl) ?_
            exact Eq.mp (by kernel_rfl) (And.intro c4 (And.intro c7 (And.intro c13 (And.intro c16 (And.intro c19 (And.intro c20 (And.intro c21 z0)))))))
      · have c16 : Value.bool (decide ((c.toNat : Int) ≤ 102)) = .bool false := by rw [decide_eq_false (by omega)]
        have z0 : Value.int .i64 (-1) = .int .i64 (hexI c) := by unfold hexI; rw [if_neg hno, if_neg (by omega)]
        cases h1 with
        | false =>
          refine Sx.calls_is (args := [u8 c]) [(4, .is (.bool false)), (13, .is (.bool true)), (16, .is (.bool false))] [] (by kernel_rfl) Tryz.func96 rfl (Nat.le_of_ble_eq_true rfl) ?_
          exact Eq.mp (by kernel_rfl) (And.intro c4 (And.intro c13 (And.intro c16 z0)))
        | true => cases h2 with
          | true => cases he
          | false =>
            refine Sx.calls_is (args := [u8 c]) [(4, .is (.bool true)), (7, .is (.bool false)), (13, .is (.bool true)), (16, .is (.bool false))] [] (by kernel_rfl) Tryz.func96 rfl (Nat.le_of_ble_eq_true rfl) ?_
            exact Eq.mp (by kernel_rfl) (And.intro c4 (And.intro c7 (And.intro c13 (And.intro c16 z0))))
    · have c13 : Value.bool (decide ((c.toNat : Int) ≥ 97)) = .bool false := by rw [decide_eq_false (by omega)]
      have z0 : Value.int .i64 (-1) = .int .i64 (hexI c) := by unfold hexI; rw [if_neg hno, if_neg (by omega)]
      cases h1 with
      | false =>
        refine Sx.calls_is (args := [u8 c]) [(4, .is (.bool false)), (13, .is (.bool false))] [] (by kernel_rfl) Tryz.func96 rfl (Nat.le_of_ble_eq_true rfl) ?_
        exact Eq.mp (by kernel_rfl) (And.intro c4 (And.intro c13 z0))
      | true => cases h2 with
        | true => cases he
        | false =>
          refine Sx.calls_is (args := [u8 c]) [(4, .is (.bool true)), (7, .is (.bool false)), (13, .is (.bool false))] [] (by kernel_rfl) Tryz.func96 rfl (Nat.le_of_ble_eq_true rfl) ?_
          exact Eq.mp (by kernel_rfl) (And.intro c4 (And.intro c7 (And.intro c13 z0)))
  by_cases h : (decide ((c.toNat : Int) ≥ 48) && decide ((c.toNat : Int) ≤ 57)) = false
  · exact fin _ _ rfl rfl h
  · rw [Bool.not_eq_false, Bool.and_eq_true] at h
    have h1 := of_decide_eq_true h.1
    have h2 := of_decide_eq_true h.2
    have c4 : Value.bool (decide ((c.toNat : Int) ≥ 48)) = .bool true := by rw [decide_eq_true h1]
    have c7 : Value.bool (decide ((c.toNat : Int) ≤ 57)) = .bool true := by rw [decide_eq_true h2]
    have c10 : Value.int .u8 (IntKind.u8.wrap ((c.toNat : Int) - 48)) = .int .u8 ((c.toNat : Int) - 48) := iu (wu8 (by omega) (by omega))
    have c11 : Value.int .i64 (IntKind.i64.wrap ((c.toNat : Int) - 48)) = .int .i64 ((c.toNat : Int) - 48) := iw (w64 (by omega) (by omega))
    have z0 : Value.int .i64 ((c.toNat : Int) - 48) = .int .i64 (hexI c) := by unfold hexI; rw [if_pos (by omega)]
    refine Sx.calls_is (args := [u8 c]) [(4, .is (.bool true)), (7, .is (.bool true)), (10, .is (.int .u8 ((c.toNat : Int) - 48))), (11, .is (.int .i64 ((c.toNat : Int) - 48)))] [] (by kernel_rfl) Tryz.func96 rfl (Nat.le_of_ble_eq_true rfl) ?_
    exact Eq.mp (by kernel_rfl) (And.intro c4 (And.intro c7 (And.intro c10 (And.intro c11 z0))))
/-- What is not yet read of a text, a number, its digits, the numbers ahead of it. -/
structure NumS where
  i : Nat
  n : Nat
  m : Nat
  out : List Nat
def ints (l : List Nat) : List Value := l.map fun (n : Nat) => .int .i64 (n : Int)
def numNext (s : List UInt8) (k : NumS) : NumS := match s[k.i]? with
  | none => ⟨k.i + 1, 0, 0, k.out ++ [k.n]⟩
  | some c => if c = 58 then ⟨k.i + 1, 0, 0, k.out ++ [k.n]⟩ else ⟨k.i + 1, 16 * k.n + (hexI c).toNat, k.m + 1, k.out⟩
def numR (s : List UInt8) (T : Option (List Nat)) (k : NumS) : Prop := k.m ≤ 5 ∧ k.n < 16 ^ k.m ∧ k.out.length ≤ 8 ∧ ((k.i ≤ s.length ∧ numF (s.drop k.i) k.n k.m k.out = T) ∨ (k.i = s.length + 1 ∧ T = some k.out))
def numRet (T : Option (List Nat)) : Sx.Ret := match T with
  | some l => .tup [] 3 1 l.length (ints l) [.bool true]
  | none => .val (.tuple #[.slice none 0 0, .bool false])
def numFr (s : List UInt8) (k : NumS) : List (Nat × Sx.SV) := [(0, .val (.string ⟨s.toArray⟩)), (4, .own 0), (5, .val (.int .i64 (k.n : Int))), (6, .val (.int .i64 (k.m : Int))), (7, .val (.int .i64 (k.i : Int)))]
def numMem (k : NumS) : List Sx.Row := [⟨3, .own 1 k.out.length (ints k.out)⟩]
theorem u8_at (s : List UInt8) (i : Nat) (c : UInt8) (h : s[i]? = some c) (W : World) : (Instr.index 9 (.string ⟨s.toArray⟩) (.int .i64 (i : Int))).run Tryz.prog W = .ok (u8 c) W := by
  obtain ⟨hlt, hc⟩ := List.getElem?_eq_some_iff.1 h
  rw [run_index_string W 9 ⟨s.toArray⟩ .i64 (i : Int) Tryz.underlying9, dif_pos ⟨by omega, by simpa [ByteArray.size] using hlt⟩]
  subst hc
  simp [u8, ByteArray.getElem_eq_getElem_data]
/-- The next letter, written out. -/
theorem loop_next {κ ι : Type} {R : κ → Prop} {fr : κ → List (Nat × Sx.SV)} {mem : κ → List Sx.Row} {next : κ → κ} {μ : κ → Nat} {Ro : ι → Prop} {fro : ι → List (Nat × Sx.SV)} {memo : ι → List Sx.Row} {which : κ → ι} {id : Nat} {Kr : Sx.St → Prop} {k k' : κ} (h : next k = k') :
    Sx.loopK R fr mem next μ Ro fro memo which id Kr k = Sx.loopK R fr mem (fun _ => k') μ Ro fro memo which id Kr k := by
  funext e st
  cases e <;> simp only [Sx.loopK, h]
theorem len_i (s : List UInt8) : Value.int .i64 (((⟨s.toArray⟩ : ByteArray).size : Nat) : Int) = .int .i64 (s.length : Int) := iw (by simp [ByteArray.size])
theorem bzt {b : Bool} (h : b = true) : Value.bool b = .bool true := by rw [h]
theorem bzf {b : Bool} (h : b = false) : Value.bool b = .bool false := by rw [h]
set_option maxRecDepth 100000 in
theorem num_round (s : List UInt8) (T : Option (List Nat)) (w : World) (hs : s.length ≤ 100000000) (k : NumS) (hk : numR s T k) : ∃ H' L', Sx.ex Tryz.prog 61 w (Sx.bodyOf Tryz.f76 0) H' L' ⟨numFr s k, numMem k⟩
    (Sx.loopK (numR s T) (numFr s) numMem (numNext s) (fun k => s.length + 2 - k.i) (fun (out : List Nat) => T = some out) (fun _ => [(4, .own 0)]) (fun out => [⟨3, .own 1 out.length (ints out)⟩]) (fun k => k.out) (Sx.outId (Sx.bodyOf Tryz.f76 0) - 1) (Sx.atEndO Tryz.prog Tryz.f76 (fun u => u = numRet T) .ret) k) := by
  obtain ⟨i, n, m, out⟩ := k
  obtain ⟨hm, hn, ho, hk⟩ := hk
  simp only at hm hn ho hk
  have hn' : n < 16 ^ 5 := Nat.lt_of_lt_of_le hn (Nat.pow_le_pow_right (by omega) hm)
  have hn' : n < 1048576 := hn'
  have c13 := len_i s
  have c19 := len_i s
  rcases hk with ⟨hi, hk⟩ | ⟨hi, hk⟩
  · have c14 : Value.bool (decide ((i : Int) ≤ (s.length : Int))) = .bool true := bzt (decide_eq_true (by omega))
    have c16 : Value.int .i64 (IntKind.i64.wrap ((i : Int) + 1)) = .int .i64 ((i + 1 : Nat) : Int) := iw (w64 (by omega) (by omega))
    have c41 : True ∧ (List.take (1 * 1) (List.drop 0 (Value.int IntKind.i64 (n : Int)).cells.toList)).length = 1 * 1 ∧ (∀ (u : Value), u ∈ List.take (1 * 1) (List.drop 0 (Value.int IntKind.i64 (n : Int)).cells.toList) → u.oneCell' = true) ∧ out.length + 1 ≤ maxLen ∧ (out.length + 1) * 8 ≤ 140737488355328 := by
      refine ⟨trivial, rfl, ?_, by unfold maxLen; omega, by omega⟩
      intro u hu
      have hu : u ∈ [Value.int IntKind.i64 (n : Int)] := hu
      rw [List.mem_singleton.1 hu]
      rfl
    have z3 : [(⟨3, .own 1 (out.length + 1) (ints out ++ [.int .i64 (n : Int)])⟩ : Sx.Row)] = [⟨3, .own 1 (out ++ [n]).length (ints (out ++ [n]))⟩] := by
      simp [ints]
    rcases Nat.lt_or_eq_of_le hi with hlt | he
    · obtain ⟨c, hc⟩ : ∃ c, s[i]? = some c := ⟨_, List.getElem?_eq_getElem hlt⟩
      have hdrop : s.drop i = c :: s.drop (i + 1) := by
        rw [List.drop_eq_getElem_cons hlt]
        have := List.getElem?_eq_getElem hlt
        rw [hc] at this
        rw [Option.some.inj this]
      rw [hdrop, numF] at hk
      have c20 : Value.bool ((i : Int) == (s.length : Int)) = .bool false := bzf (by simp; omega)
      have c24 := u8_at s i c hc
      by_cases h58 : c = 58
      · rw [if_pos h58] at hk
        have c25 : Value.bool ((c.toNat : Int) == 58) = .bool true := bzt (by rw [h58]; rfl)
        have hnx : numNext s ⟨i, n, m, out⟩ = ⟨i + 1, 0, 0, out ++ [n]⟩ := by simp only [numNext, hc, if_pos h58]
        by_cases hm0 : m = 0
        · have hT : T = none := by rw [if_pos (.inl hm0)] at hk; exact hk.symm
          have c28 : Value.bool ((m : Int) == 0) = .bool true := bzt (by simp; omega)
          have z0 : Sx.Ret.val (.tuple #[.slice none 0 0, .bool false]) = numRet T := by rw [hT]; rfl
          refine ⟨[(13, .is (.int .i64 (s.length : Int))), (14, .is (.bool true)), (19, .is (.int .i64 (s.length : Int))), (20, .is (.bool false)), (24, .bin (u8 c)), (25, .is (.bool true)), (28, .is (.bool true))], [], ?_⟩
          exact Eq.mp (by kernel_rfl) (And.intro c13 (And.intro c14 (And.intro c19 (And.intro c20 (And.intro c24 (And.intro c25 (And.intro c28 z0)))))))
        · have c28 : Value.bool ((m : Int) == 0) = .bool false := bzf (by simp; omega)
          by_cases h4 : 4 < m
          · have hT : T = none := by rw [if_pos (.inr (.inl h4))] at hk; exact hk.symm
            have c31 : Value.bool (decide ((m : Int) > 4)) = .bool true := bzt (decide_eq_true (by omega))
            have z0 : Sx.Ret.val (.tuple #[.slice none 0 0, .bool false]) = numRet T := by rw [hT]; rfl
            refine ⟨[(13, .is (.int .i64 (s.length : Int))), (14, .is (.bool true)), (19, .is (.int .i64 (s.length : Int))), (20, .is (.bool false)), (24, .bin (u8 c)), (25, .is (.bool true)), (28, .is (.bool false)), (31, .is (.bool true))], [], ?_⟩
            exact Eq.mp (by kernel_rfl) (And.intro c13 (And.intro c14 (And.intro c19 (And.intro c20 (And.intro c24 (And.intro c25 (And.intro c28 (And.intro c31 z0))))))))
          · have c31 : Value.bool (decide ((m : Int) > 4)) = .bool false := bzf (decide_eq_false (by omega))
            by_cases h8 : out.length = 8
            · have hT : T = none := by rw [if_pos (.inr (.inr h8))] at hk; exact hk.symm
              have c36 : Value.bool ((out.length : Int) == 8) = .bool true := bzt (by simp; omega)
              have z0 : Sx.Ret.val (.tuple #[.slice none 0 0, .bool false]) = numRet T := by rw [hT]; rfl
              refine ⟨[(13, .is (.int .i64 (s.length : Int))), (14, .is (.bool true)), (19, .is (.int .i64 (s.length : Int))), (20, .is (.bool false)), (24, .bin (u8 c)), (25, .is (.bool true)), (28, .is (.bool false)), (31, .is (.bool false)), (36, .is (.bool true))], [], ?_⟩
              exact Eq.mp (by kernel_rfl) (And.intro c13 (And.intro c14 (And.intro c19 (And.intro c20 (And.intro c24 (And.intro c25 (And.intro c28 (And.intro c31 (And.intro c36 z0)))))))))
            · have c36 : Value.bool ((out.length : Int) == 8) = .bool false := bzf (by simp; omega)
              rw [if_neg (by omega)] at hk
              have h0 : numR s T ⟨i + 1, 0, 0, out ++ [n]⟩ := ⟨Nat.zero_le _, by show 0 < 16 ^ 0; decide, by show (out ++ [n]).length ≤ 8; rw [List.length_append, List.length_singleton]; omega, .inl ⟨hlt, hk⟩⟩
              have h1 : s.length + 2 - (⟨i + 1, 0, 0, out ++ [n]⟩ : NumS).i < s.length + 2 - i := by show s.length + 2 - (i + 1) < _; omega
              have h2 : [((0 : Nat), Sx.SV.val (.string ⟨s.toArray⟩)), (4, .own 2), (5, .val (.int .i64 ((0 : Nat) : Int))), (6, .val (.int .i64 ((0 : Nat) : Int))), (7, .val (.int .i64 ((i + 1 : Nat) : Int)))] = [((0 : Nat), Sx.SV.val (.string ⟨s.toArray⟩)), (4, .own 2), (5, .val (.int .i64 ((0 : Nat) : Int))), (6, .val (.int .i64 ((0 : Nat) : Int))), (7, .val (.int .i64 ((i + 1 : Nat) : Int)))] := rfl
              refine ⟨[(13, .is (.int .i64 (s.length : Int))), (14, .is (.bool true)), (19, .is (.int .i64 (s.length : Int))), (20, .is (.bool false)), (24, .bin (u8 c)), (25, .is (.bool true)), (28, .is (.bool false)), (31, .is (.bool false)), (36, .is (.bool false)), (16, .is (.int .i64 ((i + 1 : Nat) : Int)))], [], ?_⟩
              rw [loop_next hnx]
              exact Eq.mp (by kernel_rfl) (And.intro c13 (And.intro c14 (And.intro c19 (And.intro c20 (And.intro c24 (And.intro c25 (And.intro c28 (And.intro c31 (And.intro c36 (And.intro c41 (And.intro c16 (And.intro h0 (And.intro h1 (And.intro h2 z3))))))))))))))
      · rw [if_neg h58] at hk
        have c25 : Value.bool ((c.toNat : Int) == 58) = .bool false := bzf (by
          have : c.toNat ≠ 58 := fun h => h58 (UInt8.toNat_inj.1 (by rw [h]; rfl))
          simp; omega)
        have hnx : numNext s ⟨i, n, m, out⟩ = ⟨i + 1, 16 * n + (hexI c).toNat, m + 1, out⟩ := by simp only [numNext, hc, if_neg h58]
        have c44 := c24
        have c45 := fun W (_ : Chg [] w W) => hex_N c W
        have c55 := c24
        have c56 := c45
        have hx15 : hexI c < 16 := by
          have := u8_lt c
          unfold hexI; split
          · omega
          · split <;> omega
        by_cases hneg : hexI c < 0
        · have hT : T = none := by rw [if_pos (.inl hneg)] at hk; exact hk.symm
          have c46 : Value.bool (decide (hexI c < 0)) = .bool true := bzt (decide_eq_true hneg)
          have z0 : Sx.Ret.val (.tuple #[.slice none 0 0, .bool false]) = numRet T := by rw [hT]; rfl
          refine ⟨[(13, .is (.int .i64 (s.length : Int))), (14, .is (.bool true)), (19, .is (.int .i64 (s.length : Int))), (20, .is (.bool false)), (24, .bin (u8 c)), (25, .is (.bool false)), (44, .bin (u8 c)), (45, .call (.int .i64 (hexI c))), (46, .is (.bool true))], [], ?_⟩
          exact Eq.mp (by kernel_rfl) (And.intro c13 (And.intro c14 (And.intro c19 (And.intro c20 (And.intro c24 (And.intro c25 (And.intro c44 (And.intro c45 (And.intro c46 z0)))))))))
        · have c46 : Value.bool (decide (hexI c < 0)) = .bool false := bzf (decide_eq_false hneg)
          by_cases h4 : 4 < m
          · have hT : T = none := by rw [if_pos (.inr h4)] at hk; exact hk.symm
            have c49 : Value.bool (decide ((m : Int) > 4)) = .bool true := bzt (decide_eq_true (by omega))
            have z0 : Sx.Ret.val (.tuple #[.slice none 0 0, .bool false]) = numRet T := by rw [hT]; rfl
            refine ⟨[(13, .is (.int .i64 (s.length : Int))), (14, .is (.bool true)), (19, .is (.int .i64 (s.length : Int))), (20, .is (.bool false)), (24, .bin (u8 c)), (25, .is (.bool false)), (44, .bin (u8 c)), (45, .call (.int .i64 (hexI c))), (46, .is (.bool false)), (49, .is (.bool true))], [], ?_⟩
            exact Eq.mp (by kernel_rfl) (And.intro c13 (And.intro c14 (And.intro c19 (And.intro c20 (And.intro c24 (And.intro c25 (And.intro c44 (And.intro c45 (And.intro c46 (And.intro c49 z0))))))))))
          · rw [if_neg (by omega)] at hk
            have c49 : Value.bool (decide ((m : Int) > 4)) = .bool false := bzf (decide_eq_false (by omega))
            obtain ⟨d, hd⟩ : ∃ d : Nat, hexI c = d := ⟨(hexI c).toNat, by omega⟩
            have hd' : (hexI c).toNat = d := by omega
            have hd16 : d < 16 := by omega
            rw [hd'] at hk hnx
            have c52 : Value.int .i64 (IntKind.i64.wrap (16 * (n : Int))) = .int .i64 ((16 * n : Nat) : Int) := iw (by rw [w64 (by omega) (by omega)]; omega)
            have c57 : Value.int .i64 (IntKind.i64.wrap (((16 * n : Nat) : Int) + hexI c)) = .int .i64 ((16 * n + d : Nat) : Int) := iw (by rw [hd, w64 (by omega) (by omega)]; omega)
            have c59 : Value.int .i64 (IntKind.i64.wrap ((m : Int) + 1)) = .int .i64 ((m + 1 : Nat) : Int) := iw (w64 (by omega) (by omega))
            have h0 : numR s T (numNext s ⟨i, n, m, out⟩) := by
              rw [hnx]
              refine ⟨by show m + 1 ≤ 5; omega, ?_, ho, .inl ⟨hlt, hk⟩⟩
              show 16 * n + d < 16 ^ (m + 1)
              rw [Nat.pow_succ]; omega
            have h1 : s.length + 2 - (numNext s ⟨i, n, m, out⟩).i < s.length + 2 - i := by rw [hnx]; show s.length + 2 - (i + 1) < _; omega
            rw [hnx] at h0 h1
            have h2 : [((0 : Nat), Sx.SV.val (.string ⟨s.toArray⟩)), (4, .own 0), (5, .val (.int .i64 ((16 * n + d : Nat) : Int))), (6, .val (.int .i64 ((m + 1 : Nat) : Int))), (7, .val (.int .i64 ((i + 1 : Nat) : Int)))] = [((0 : Nat), Sx.SV.val (.string ⟨s.toArray⟩)), (4, .own 0), (5, .val (.int .i64 ((16 * n + d : Nat) : Int))), (6, .val (.int .i64 ((m + 1 : Nat) : Int))), (7, .val (.int .i64 ((i + 1 : Nat) : Int)))] := rfl
            have z3 : [(⟨3, .own 1 out.length (ints out)⟩ : Sx.Row)] = [⟨3, .own 1 out.length (ints out)⟩] := rfl
            refine ⟨[(13, .is (.int .i64 (s.length : Int))), (14, .is (.bool true)), (19, .is (.int .i64 (s.length : Int))), (20, .is (.bool false)), (24, .bin (u8 c)), (25, .is (.bool false)), (44, .bin (u8 c)), (45, .call (.int .i64 (hexI c))), (46, .is (.bool false)), (49, .is (.bool false)), (52, .is (.int .i64 ((16 * n : Nat) : Int))), (55, .bin (u8 c)), (56, .call (.int .i64 (hexI c))), (57, .is (.int .i64 ((16 * n + d : Nat) : Int))), (59, .is (.int .i64 ((m + 1 : Nat) : Int))), (16, .is (.int .i64 ((i + 1 : Nat) : Int)))], [], ?_⟩
            rw [loop_next hnx]
            exact Eq.mp (by kernel_rfl) (And.intro c13 (And.intro c14 (And.intro c19 (And.intro c20 (And.intro c24 (And.intro c25 (And.intro c44 (And.intro c45 (And.intro c46 (And.intro c49 (And.intro c52 (And.intro c55 (And.intro c56 (And.intro c57 (And.intro c59 (And.intro c16 (And.intro h0 (And.intro h1 (And.intro h2 z3)))))))))))))))))))
    · have c20 : Value.bool ((i : Int) == (s.length : Int)) = .bool true := bzt (by simp; omega)
      have hdrop : s.drop i = [] := List.drop_of_length_le (by omega)
      rw [hdrop, numF] at hk
      have hnone : s[i]? = none := List.getElem?_eq_none (by omega)
      have hnx : numNext s ⟨i, n, m, out⟩ = ⟨i + 1, 0, 0, out ++ [n]⟩ := by simp only [numNext, hnone]
      by_cases hm0 : m = 0
      · have hT : T = none := by rw [if_pos (.inl hm0)] at hk; exact hk.symm
        have c28 : Value.bool ((m : Int) == 0) = .bool true := bzt (by simp; omega)
        have z0 : Sx.Ret.val (.tuple #[.slice none 0 0, .bool false]) = numRet T := by rw [hT]; rfl
        refine ⟨[(13, .is (.int .i64 (s.length : Int))), (14, .is (.bool true)), (19, .is (.int .i64 (s.length : Int))), (20, .is (.bool true)), (28, .is (.bool true))], [], ?_⟩
        exact Eq.mp (by kernel_rfl) (And.intro c13 (And.intro c14 (And.intro c19 (And.intro c20 (And.intro c28 z0)))))
      · have c28 : Value.bool ((m : Int) == 0) = .bool false := bzf (by simp; omega)
        by_cases h4 : 4 < m
        · have hT : T = none := by rw [if_pos (.inr (.inl h4))] at hk; exact hk.symm
          have c31 : Value.bool (decide ((m : Int) > 4)) = .bool true := bzt (decide_eq_true (by omega))
          have z0 : Sx.Ret.val (.tuple #[.slice none 0 0, .bool false]) = numRet T := by rw [hT]; rfl
          refine ⟨[(13, .is (.int .i64 (s.length : Int))), (14, .is (.bool true)), (19, .is (.int .i64 (s.length : Int))), (20, .is (.bool true)), (28, .is (.bool false)), (31, .is (.bool true))], [], ?_⟩
          exact Eq.mp (by kernel_rfl) (And.intro c13 (And.intro c14 (And.intro c19 (And.intro c20 (And.intro c28 (And.intro c31 z0))))))
        · have c31 : Value.bool (decide ((m : Int) > 4)) = .bool false := bzf (decide_eq_false (by omega))
          by_cases h8 : out.length = 8
          · have hT : T = none := by rw [if_pos (.inr (.inr h8))] at hk; exact hk.symm
            have c36 : Value.bool ((out.length : Int) == 8) = .bool true := bzt (by simp; omega)
            have z0 : Sx.Ret.val (.tuple #[.slice none 0 0, .bool false]) = numRet T := by rw [hT]; rfl
            refine ⟨[(13, .is (.int .i64 (s.length : Int))), (14, .is (.bool true)), (19, .is (.int .i64 (s.length : Int))), (20, .is (.bool true)), (28, .is (.bool false)), (31, .is (.bool false)), (36, .is (.bool true))], [], ?_⟩
            exact Eq.mp (by kernel_rfl) (And.intro c13 (And.intro c14 (And.intro c19 (And.intro c20 (And.intro c28 (And.intro c31 (And.intro c36 z0)))))))
          · have c36 : Value.bool ((out.length : Int) == 8) = .bool false := bzf (by simp; omega)
            rw [if_neg (by omega)] at hk
            have h0 : numR s T ⟨i + 1, 0, 0, out ++ [n]⟩ := ⟨Nat.zero_le _, by show 0 < 16 ^ 0; decide, by show (out ++ [n]).length ≤ 8; rw [List.length_append, List.length_singleton]; omega, .inr ⟨by show i + 1 = s.length + 1; omega, hk.symm⟩⟩
            have h1 : s.length + 2 - (⟨i + 1, 0, 0, out ++ [n]⟩ : NumS).i < s.length + 2 - i := by show s.length + 2 - (i + 1) < _; omega
            have h2 : [((0 : Nat), Sx.SV.val (.string ⟨s.toArray⟩)), (4, .own 2), (5, .val (.int .i64 ((0 : Nat) : Int))), (6, .val (.int .i64 ((0 : Nat) : Int))), (7, .val (.int .i64 ((i + 1 : Nat) : Int)))] = [((0 : Nat), Sx.SV.val (.string ⟨s.toArray⟩)), (4, .own 2), (5, .val (.int .i64 ((0 : Nat) : Int))), (6, .val (.int .i64 ((0 : Nat) : Int))), (7, .val (.int .i64 ((i + 1 : Nat) : Int)))] := rfl
            refine ⟨[(13, .is (.int .i64 (s.length : Int))), (14, .is (.bool true)), (19, .is (.int .i64 (s.length : Int))), (20, .is (.bool true)), (28, .is (.bool false)), (31, .is (.bool false)), (36, .is (.bool false)), (16, .is (.int .i64 ((i + 1 : Nat) : Int)))], [], ?_⟩
            rw [loop_next hnx]
            exact Eq.mp (by kernel_rfl) (And.intro c13 (And.intro c14 (And.intro c19 (And.intro c20 (And.intro c28 (And.intro c31 (And.intro c36 (And.intro c41 (And.intro c16 (And.intro h0 (And.intro h1 (And.intro h2 z3))))))))))))
  · have c14 : Value.bool (decide ((i : Int) ≤ (s.length : Int))) = .bool false := bzf (decide_eq_false (by omega))
    have h0 : T = some out := hk
    have h1 : [((4 : Nat), Sx.SV.own 0)] = [(4, .own 0)] := rfl
    have z2 : [(⟨3, .own 1 out.length (ints out)⟩ : Sx.Row)] = [⟨3, .own 1 out.length (ints out)⟩] := rfl
    refine ⟨[(13, .is (.int .i64 (s.length : Int))), (14, .is (.bool false))], [], ?_⟩
    exact Eq.mp (by kernel_rfl) (And.intro c13 (And.intro c14 (And.intro h0 (And.intro h1 z2))))
theorem strEql (x y : Operand) (a b : List UInt8) {r : Bool} (h : decide (a = b) = r) (W : World) : (do eqGuard .eql 9 x y (.string ⟨a.toArray⟩) (.string ⟨b.toArray⟩); binOp .eql 9 (.string ⟨a.toArray⟩) (.string ⟨b.toArray⟩) : Sem Value).run Tryz.prog W = .ok (.bool r) W := by
  show Result.ok (Value.bool ((⟨a.toArray⟩ : ByteArray).toList == (⟨b.toArray⟩ : ByteArray).toList)) W = _
  rw [ByteArray.toList_eq, ByteArray.toList_eq, ← h]
  congr 2
  rw [Bool.eq_iff_iff]
  simp
theorem strNeq (x y : Operand) (a b : List UInt8) {r : Bool} (h : decide (a = b) = !r) (W : World) : (do eqGuard .neq 9 x y (.string ⟨a.toArray⟩) (.string ⟨b.toArray⟩); binOp .neq 9 (.string ⟨a.toArray⟩) (.string ⟨b.toArray⟩) : Sem Value).run Tryz.prog W = .ok (.bool r) W := by
  show Result.ok (Value.bool (!((⟨a.toArray⟩ : ByteArray).toList == (⟨b.toArray⟩ : ByteArray).toList))) W = _
  have e : ((⟨a.toArray⟩ : ByteArray).toList == (⟨b.toArray⟩ : ByteArray).toList) = decide (a = b) := by
    rw [ByteArray.toList_eq, ByteArray.toList_eq, Bool.eq_iff_iff]
    simp
  rw [e, h, Bool.not_not]
set_option maxRecDepth 100000 in
/-- numbers, of whatever text. -/
theorem numbers_N (s : List UInt8) (hs : s.length ≤ 100000000) (w : World) : Calls Tryz.prog 76 #[.string ⟨s.toArray⟩] w (Sx.retPost w (numRet (numsF s))) := by
  by_cases h0 : s = []
  · subst h0
    have c9 := strEql (.tmp 8) (.const (.string ⟨#[]⟩)) [] [] (r := true) (by simp)
    have z0 : Sx.Ret.tup [] 3 1 0 [] [.bool true] = numRet (numsF []) := rfl
    refine Sx.calls_own (args := [.string ⟨#[]⟩]) [(4, .nils 3 1), (9, .bin (.bool true))] [] (by kernel_rfl) Tryz.func76 rfl (Nat.le_of_ble_eq_true rfl) ?_
    exact Eq.mp (by kernel_rfl) (And.intro c9 z0)
  · have hT : numsF s = numF s 0 0 [] := by unfold numsF; rw [if_neg h0]
    have c9 := strEql (.tmp 8) (.const (.string ⟨#[]⟩)) s [] (r := false) (by simpa using h0)
    generalize numsF s = T at *
    have h0 : numR s T ⟨0, 0, 0, []⟩ := ⟨Nat.zero_le _, by show 0 < 16 ^ 0; decide, Nat.zero_le _, .inl ⟨Nat.zero_le _, hT.symm⟩⟩
    have e1 : [((0 : Nat), Sx.SV.val (.string ⟨s.toArray⟩)), (4, .own 0), (5, .val (.int .i64 0)), (6, .val (.int .i64 0)), (7, .val (.int .i64 0))] = [((0 : Nat), Sx.SV.val (.string ⟨s.toArray⟩)), (4, .own 0), (5, .val (.int .i64 0)), (6, .val (.int .i64 0)), (7, .val (.int .i64 0))] ∧ [(⟨3, .own 1 0 []⟩ : Sx.Row)] = [⟨3, .own 1 0 []⟩] := ⟨rfl, rfl⟩
    have rd2 := num_round s T w hs
    have z5 : ∀ x, T = some x → Sx.Ret.tup [] 3 1 x.length (ints x) [.bool true] = numRet T := fun x hx => by rw [hx]; rfl
    refine Sx.calls_own (args := [.string ⟨s.toArray⟩]) [(4, .nils 3 1), (9, .bin (.bool false))] [.mk NumS ⟨0, 0, 0, []⟩ (numR s T) (numFr s) numMem (numNext s) (fun k => s.length + 2 - k.i) (List Nat) (fun (out : List Nat) => T = some out) (fun _ => [(4, .own 0)]) (fun out => [⟨3, .own 1 out.length (ints out)⟩]) (fun k => k.out)] (by kernel_rfl) Tryz.func76 rfl (Nat.le_of_ble_eq_true rfl) ?_
    exact Eq.mp (by kernel_rfl) (And.intro c9 (And.intro h0 (And.intro e1 (And.intro rd2 (fun (x : List Nat) (hx4 : T = Option.some x) => z5 x hx4)))))
end Go.Proofs.YtgpiapmbbnngpaaGreatDoor
