/- PrefixKnown's body, walked by reckoning. -/
import Derived.Test.YtgpiapmbbnngpaaGreatDoorPfxSv
import Derived.Test.YtgpiapmbbnngpaaGreatDoorPfxTe
import Derived.Test.YtgpiapmbbnngpaaGreatDoorPfxSd
import Derived.Test.YtgpiapmbbnngpaaGreatDoorPfxBk
import Derived.Test.YtgpiapmbbnngpaaGreatDoorSxM
namespace Go.Proofs.YtgpiapmbbnngpaaGreatDoor
open Go.RowKit Go.Lib Go.Sort

theorem adr_some (v : Bool) (f : Nat → Nat) (hf : ∀ j, f j < 256) : ∃ n, n < 2 ^ 128 ∧ adrV v f = adr v n := by
  obtain ⟨n, hn, hb⟩ := bytes_num f hf
  exact ⟨n, hn, adrV_ext v fun j hj => (hb j hj).symm⟩
def rng8 (f : Nat → Nat) : List Value := (List.range 8).map fun j => .int .i64 (f j : Int)
theorem rng8_len (f : Nat → Nat) : (rng8 f).length = 8 := by simp [rng8]
theorem rng8_at (f : Nat → Nat) (i : Nat) (h : i < 8) : (rng8 f)[i]? = some (.int .i64 (f i : Int)) := by simp [rng8, h]
theorem rng8_upd (f : Nat → Nat) (k n : Nat) (h : k < 8) : (rng8 f).take k ++ ([.int .i64 (n : Int)] ++ (rng8 f).drop (k + 1)) = rng8 (upd f k n) := by
  rw [splice_set _ _ _ (by rw [rng8_len]; exact h)]
  apply List.ext_getElem?
  intro j
  rw [List.getElem?_set, rng8_len]
  by_cases hj : j < 8
  · rw [rng8_at _ j hj, rng8_at _ j hj]
    by_cases hk : k = j
    · subst hk; rw [if_pos rfl, if_pos h, upd_at]
    · rw [if_neg hk, upd_ne _ _ _ _ (fun h => hk h.symm)]
  · rw [if_neg (by omega), List.getElem?_eq_none (by rw [rng8_len]; omega), List.getElem?_eq_none (by rw [rng8_len]; omega)]
def mdF (l : Nat → Nat) : Nat → (Nat → Nat)
  | 0 => fun _ => 0
  | i + 1 => upd (upd (mdF l i) (2 * i) 0) (2 * i + 1) (l i)
theorem mdF_lt (l : Nat → Nat) (hl : ∀ j, l j < 256) : ∀ i j, mdF l i j < 256
  | 0, _ => by show 0 < 256; decide
  | i + 1, j => by
    show upd (upd (mdF l i) (2 * i) 0) (2 * i + 1) (l i) j < 256
    unfold upd
    split
    · exact hl i
    · split
      · decide
      · exact mdF_lt l hl i j
def mdFr (i : Nat) : List (Nat × Sx.SV) := [(1, .ptr 0 0), (2, .ptr 1 0), (3, .ptr 2 0), (4, .val (.int .i64 (i : Int)))]
def mdMem (l : Nat → Nat) (i : Nat) : List Sx.Row := [⟨64, .vals (rng8 l)⟩, ⟨24, .vals (adrV false fun _ => 0)⟩, ⟨24, .vals (adrV true (mdF l i))⟩]
set_option maxRecDepth 100000 in
theorem md_round (l : Nat → Nat) (hl : ∀ j, l j < 256) (R : Value → Prop) (w : World) (i : Nat) (hi : i ≤ 8) : ∃ H' L', Sx.ex Tryz.prog 29 w (Sx.bodyOf Tryz.f41 0) H' L' ⟨mdFr i, mdMem l i⟩
    (Sx.loopK (fun i => i ≤ 8) mdFr (mdMem l) (fun i => i + 1) (fun i => 20 - i) (fun (_ : Unit) => True) (fun _ => [(2, .ptr 1 0), (3, .ptr 2 0)]) (fun _ => mdMem l 8) (fun _ => ()) (Sx.outId (Sx.bodyOf Tryz.f41 0) - 1) (Sx.atEnd Tryz.prog Tryz.f41 R .ret) i) := by
  by_cases hlt : i < 8
  · have c7 : Value.bool (decide ((i : Int) < 8)) = .bool true := by rw [decide_eq_true (by omega)]
    have c11 : Value.int .i64 (IntKind.i64.wrap (2 * (i : Int))) = .int .i64 ((2 * i : Nat) : Int) := by
      rw [show 2 * (i : Int) = ((2 * i : Nat) : Int) by omega]
      exact iw (w64 (by omega) (by omega))
    have c20 := c11
    have c13 : (0 : Int) ≤ (i : Int) ∧ (i : Int) < 8 := by omega
    have c23 := c13
    have c14 : (rng8 l)[0 + (i : Int).toNat * 1]? = some (.int .i64 (l i : Int)) := by
      rw [Int.toNat_natCast, Nat.mul_one, Nat.zero_add]
      exact rng8_at l i hlt
    have c24 := c14
    have hli := hl i
    have c15 : Value.int .i64 ((l i : Int).fdiv (2 ^ min (Int.toNat 8) 64)) = .int .i64 0 := by
      rw [show ((2 : Int) ^ min (Int.toNat 8) 64) = ((256 : Nat) : Int) from rfl, ← Int.ofNat_fdiv, Nat.div_eq_of_lt hli]
      rfl
    have c16 : Value.int .u8 ((0 % 256 : Nat) : Int) = .int .u8 0 := rfl
    have c18 : (0 : Int) ≤ ((2 * i : Nat) : Int) ∧ ((2 * i : Nat) : Int) < 16 := by omega
    have c27 : (0 : Int) ≤ ((2 * i + 1 : Nat) : Int) ∧ ((2 * i + 1 : Nat) : Int) < 16 := by omega
    have c100018 : 0 + 1 + ((2 * i : Nat) : Int).toNat * 1 + 1 ≤ (adrV true (mdF l i)).length ∧ (adrV true (mdF l i)).take (0 + 1 + ((2 * i : Nat) : Int).toNat * 1) ++ ([.int .u8 ((0 : Nat) : Int)] ++ (adrV true (mdF l i)).drop (0 + 1 + ((2 * i : Nat) : Int).toNat * 1 + 1)) = adrV true (upd (mdF l i) (2 * i) 0) := by
      rw [Int.toNat_natCast, Nat.mul_one, Nat.zero_add]
      exact ⟨by rw [adrV_length]; omega, adrV_upd true _ (2 * i) 0 (by omega)⟩
    have c21 : Value.int .i64 (IntKind.i64.wrap (((2 * i : Nat) : Int) + 1)) = .int .i64 ((2 * i + 1 : Nat) : Int) := iw (w64 (by omega) (by omega))
    have c25 : Value.int .u8 ((l i % 256 : Nat) : Int) = .int .u8 (l i : Int) := by rw [Nat.mod_eq_of_lt hli]
    have c100027 : 0 + 1 + ((2 * i + 1 : Nat) : Int).toNat * 1 + 1 ≤ (adrV true (upd (mdF l i) (2 * i) 0)).length ∧ (adrV true (upd (mdF l i) (2 * i) 0)).take (0 + 1 + ((2 * i + 1 : Nat) : Int).toNat * 1) ++ ([.int .u8 ((l i : Nat) : Int)] ++ (adrV true (upd (mdF l i) (2 * i) 0)).drop (0 + 1 + ((2 * i + 1 : Nat) : Int).toNat * 1 + 1)) = adrV true (upd (upd (mdF l i) (2 * i) 0) (2 * i + 1) (l i)) := by
      rw [Int.toNat_natCast, Nat.mul_one, Nat.zero_add]
      exact ⟨by rw [adrV_length]; omega, adrV_upd true _ (2 * i + 1) (l i) (by omega)⟩
    have c9 : Value.int .i64 (IntKind.i64.wrap ((i : Int) + 1)) = .int .i64 ((i + 1 : Nat) : Int) := iw (w64 (by omega) (by omega))
    have h0 : i + 1 ≤ 8 := hlt
    have h1 : 20 - (i + 1) < 20 - i := by omega
    have h2 : mdFr (i + 1) = mdFr (i + 1) := rfl
    have z3 : mdMem l (i + 1) = mdMem l (i + 1) := rfl
    refine ⟨[(7, .is (.bool true)), (11, .is (.int .i64 ((2 * i : Nat) : Int))), (13, .ix), (14, .ld (.int .i64 (l i : Int))), (15, .is (.int .i64 0)), (16, .is (.int .u8 0)), (18, .ix), (100018, .st (adrV true (upd (mdF l i) (2 * i) 0))), (20, .is (.int .i64 ((2 * i : Nat) : Int))), (21, .is (.int .i64 ((2 * i + 1 : Nat) : Int))), (23, .ix), (24, .ld (.int .i64 (l i : Int))), (25, .is (.int .u8 (l i : Int))), (27, .ix), (100027, .st (adrV true (upd (upd (mdF l i) (2 * i) 0) (2 * i + 1) (l i)))), (9, .is (.int .i64 ((i + 1 : Nat) : Int)))], [], ?_⟩
    exact Eq.mp (by kernel_rfl) (And.intro c7 (And.intro c11 (And.intro c13 (And.intro c14 (And.intro c15 (And.intro c16 (And.intro c18 (And.intro c100018 (And.intro c20 (And.intro c21 (And.intro c23 (And.intro c24 (And.intro c25 (And.intro c27 (And.intro c100027 (And.intro c9 (And.intro h0 (And.intro h1 (And.intro h2 z3)))))))))))))))))))
  · have c7 : Value.bool (decide ((i : Int) < 8)) = .bool false := by rw [decide_eq_false (by omega)]
    have he : i = 8 := by omega
    have h0 : True := trivial
    have h1 : [((2 : Nat), Sx.SV.ptr 1 0), (3, .ptr 2 0)] = [((2 : Nat), Sx.SV.ptr 1 0), (3, .ptr 2 0)] := rfl
    have z2 : mdMem l i = mdMem l 8 := by rw [he]
    refine ⟨[(7, .is (.bool false))], [], ?_⟩
    exact Eq.mp (by kernel_rfl) (And.intro c7 (And.intro h0 (And.intro h1 z2)))
set_option maxRecDepth 100000 in
theorem made_N (l : Nat → Nat) (hl : ∀ j, l j < 256) (w : World) : Calls Tryz.prog 41 #[.agg (rng8 l).toArray] w fun e w' => e = .returned (.agg (adrV true (mdF l 8)).toArray) ∧ Chg [] w w' := by
  have h0 : 0 ≤ 8 := by decide
  have e1 : mdFr 0 = mdFr 0 ∧ mdMem l 0 = mdMem l 0 := ⟨rfl, rfl⟩
  have rd2 := md_round l hl (fun u => u = .agg (adrV true (mdF l 8)).toArray) w
  have z5 : Value.agg (adrV true (mdF l 8)).toArray = .agg (adrV true (mdF l 8)).toArray := rfl
  refine Sx.calls_is (args := [.agg (rng8 l).toArray]) [] [.mk Nat 0 (fun i => i ≤ 8) mdFr (mdMem l) (fun i => i + 1) (fun i => 20 - i) Unit (fun _ => True) (fun _ => [(2, .ptr 1 0), (3, .ptr 2 0)]) (fun _ => mdMem l 8) (fun _ => ())] (by kernel_rfl) Tryz.func41 rfl (Nat.le_of_ble_eq_true rfl) ?_
  exact Eq.mp (by kernel_rfl) (And.intro h0 (And.intro e1 (And.intro rd2 (fun (x3 : Unit) (hx4 : True) => z5))))
/-- The numbers of an address of the list. -/
def knL (i : Nat) : Nat → (Nat → Nat)
  | 0 => fun _ => 0
  | k + 1 => if (i >>> k) % 2 = 1 then upd (knL i k) k (k + 10) else knL i k
theorem knL_lt (i : Nat) : ∀ k, k ≤ 8 → ∀ j, knL i k j < 256
  | 0, _, _ => by show 0 < 256; decide
  | k + 1, hk, j => by
    unfold knL
    split
    · unfold upd
      split
      · omega
      · exact knL_lt i k (by omega) j
    · exact knL_lt i k (by omega) j
def knFr2 (i k : Nat) : List (Nat × Sx.SV) := [(3, .val (.int .i64 (i : Int))), (4, .ptr 0 0), (5, .val (.int .i64 (k : Int)))]
def knMem2 (i k : Nat) : List Sx.Row := [⟨64, .vals (rng8 (knL i k))⟩]
set_option maxRecDepth 100000 in
theorem kn_bits (i : Nat) (_hi : i ≤ 256) (w : World) (k : Nat) (hk : k ≤ 8) : ∃ H' L', Sx.ex Tryz.prog 129 w (Sx.inBody (Sx.bodyOf Tryz.f9 1) 0) H' L' ⟨knFr2 i k, knMem2 i k⟩
    (Sx.loopK (fun k => k ≤ 8) (knFr2 i) (knMem2 i) (fun k => k + 1) (fun k => 20 - k) (fun (_ : Unit) => True) (fun _ => [(3, .val (.int .i64 (i : Int))), (4, .ptr 0 0)]) (fun _ => knMem2 i 8) (fun _ => ()) (Sx.outId (Sx.inBody (Sx.bodyOf Tryz.f9 1) 0) - 1) (Sx.atEnd Tryz.prog Tryz.f9 (fun v => v = .bool true) .ret) k) := by
  by_cases hlt : k < 8
  · have c28 : Value.bool (decide ((k : Int) < 8)) = .bool true := by rw [decide_eq_true (by omega)]
    have c30 : Value.int .i64 (IntKind.i64.wrap ((k : Int) + 1)) = .int .i64 ((k + 1 : Nat) : Int) := iw (w64 (by omega) (by omega))
    have h0 : k + 1 ≤ 8 := hlt
    have h1 : 20 - (k + 1) < 20 - k := by omega
    have h2 : knFr2 i (k + 1) = knFr2 i (k + 1) := rfl
    have c33 : Value.int .i64 ((i : Int).fdiv (2 ^ min (k : Int).toNat 64)) = .int .i64 ((i >>> k : Nat) : Int) := by
      rw [Int.toNat_natCast, Nat.min_eq_left (by omega), Nat.shiftRight_eq_div_pow, Int.ofNat_fdiv]
      rfl
    have c34 : Value.int .i64 ((((i >>> k) % 2 : Nat)) : Int) = .int .i64 (((i >>> k) % 2 : Nat) : Int) := rfl
    have c38 : Value.int .i64 (IntKind.i64.wrap ((k : Int) + 10)) = .int .i64 ((k + 10 : Nat) : Int) := iw (w64 (by omega) (by omega))
    have c39 : (0 : Int) ≤ (k : Int) ∧ (k : Int) < 8 := by omega
    have c100039 : 0 + (k : Int).toNat * 1 + 1 ≤ (rng8 (knL i k)).length ∧ (rng8 (knL i k)).take (0 + (k : Int).toNat * 1) ++ ([.int .i64 ((k + 10 : Nat) : Int)] ++ (rng8 (knL i k)).drop (0 + (k : Int).toNat * 1 + 1)) = rng8 (upd (knL i k) k (k + 10)) := by
      rw [Int.toNat_natCast, Nat.mul_one, Nat.zero_add]
      exact ⟨by rw [rng8_len]; omega, rng8_upd _ k _ hlt⟩
    by_cases hb : (i >>> k) % 2 = 1
    · have c35 : Value.bool ((((i >>> k) % 2 : Nat) : Int) == 1) = .bool true := by rw [hb]; rfl
      have z3 : [(⟨64, .vals (rng8 (upd (knL i k) k (k + 10)))⟩ : Sx.Row)] = knMem2 i (k + 1) := by unfold knMem2; rw [knL, if_pos hb]
      refine ⟨[(28, .is (.bool true)), (33, .is (.int .i64 ((i >>> k : Nat) : Int))), (34, .is (.int .i64 (((i >>> k) % 2 : Nat) : Int))), (35, .is (.bool true)), (38, .is (.int .i64 ((k + 10 : Nat) : Int))), (39, .ix), (100039, .st (rng8 (upd (knL i k) k (k + 10)))), (30, .is (.int .i64 ((k + 1 : Nat) : Int)))], [], ?_⟩
      exact Eq.mp (by kernel_rfl) (And.intro c28 (And.intro c33 (And.intro c34 (And.intro c35 (And.intro c38 (And.intro c39 (And.intro c100039 (And.intro c30 (And.intro h0 (And.intro h1 (And.intro h2 z3)))))))))))
    · have c35 : Value.bool ((((i >>> k) % 2 : Nat) : Int) == 1) = .bool false := by rw [show (i >>> k) % 2 = 0 by omega]; rfl
      have z3 : knMem2 i k = knMem2 i (k + 1) := by unfold knMem2; rw [knL, if_neg hb]
      refine ⟨[(28, .is (.bool true)), (33, .is (.int .i64 ((i >>> k : Nat) : Int))), (34, .is (.int .i64 (((i >>> k) % 2 : Nat) : Int))), (35, .is (.bool false)), (30, .is (.int .i64 ((k + 1 : Nat) : Int)))], [], ?_⟩
      exact Eq.mp (by kernel_rfl) (And.intro c28 (And.intro c33 (And.intro c34 (And.intro c35 (And.intro c30 (And.intro h0 (And.intro h1 (And.intro h2 z3))))))))
  · have c28 : Value.bool (decide ((k : Int) < 8)) = .bool false := by rw [decide_eq_false (by omega)]
    have he : k = 8 := by omega
    have h0 : True := trivial
    have h1 : [((3 : Nat), Sx.SV.val (.int .i64 (i : Int))), (4, .ptr 0 0)] = [((3 : Nat), Sx.SV.val (.int .i64 (i : Int))), (4, .ptr 0 0)] := rfl
    have z2 : knMem2 i k = knMem2 i 8 := by rw [he]
    refine ⟨[(28, .is (.bool false))], [], ?_⟩
    exact Eq.mp (by kernel_rfl) (And.intro c28 (And.intro h0 (And.intro h1 z2)))
def knFr1 (i : Nat) : List (Nat × Sx.SV) := [(3, .val (.int .i64 (i : Int)))]
set_option maxRecDepth 100000 in
theorem kn_made (w : World) (HL : Lan w) (i : Nat) (hi : i ≤ 256) : ∃ H' L', Sx.ex Tryz.prog 129 w (Sx.bodyOf Tryz.f9 1) H' L' ⟨knFr1 i, []⟩
    (Sx.loopK (fun i => i ≤ 256) knFr1 (fun _ => []) (fun i => i + 1) (fun i => 300 - i) (fun (_ : Unit) => True) (fun _ => []) (fun _ => []) (fun _ => ()) (Sx.outId (Sx.bodyOf Tryz.f9 1) - 1) (Sx.atEnd Tryz.prog Tryz.f9 (fun v => v = .bool true) .ret) i) := by
  by_cases hlt : i < 256
  · obtain ⟨n, hn, hne⟩ := adr_some true (mdF (knL i 8) 8) (mdF_lt _ (knL_lt i 8 (by decide)) 8)
    have c24 : Value.bool (decide ((i : Int) < 256)) = .bool true := by rw [decide_eq_true (by omega)]
    have c41 := fun W (_ : Chg [] w W) => made_N (knL i 8) (knL_lt i 8 (by decide)) W
    rw [hne] at c41
    have c45 := c41
    have c50 := c41
    have c46 := fun W (hW : Chg [] w W) => tells_N true n 128 false 0 0 true n W (HL.chg0 hW) hn (by decide) hn
    have c52 := fun W (hW : Chg [] w W) => back_W true n i ⟨#[]⟩ W (HL.chg0 hW) hn (by omega) (by decide)
    have c26 : Value.int .i64 (IntKind.i64.wrap ((i : Int) + 1)) = .int .i64 ((i + 1 : Nat) : Int) := iw (w64 (by omega) (by omega))
    have rd2 := kn_bits i hi w
    have h0 : 0 ≤ 8 := by decide
    have e1 : knFr2 i 0 = knFr2 i 0 ∧ knMem2 i 0 = knMem2 i 0 := ⟨rfl, rfl⟩
    have h5 : i + 1 ≤ 256 := hlt
    have h6 : 300 - (i + 1) < 300 - i := by omega
    have h7 : knFr1 (i + 1) = knFr1 (i + 1) := rfl
    have z8 : ([] : List Sx.Row) = [] := rfl
    refine ⟨[(24, .is (.bool true)), (41, .call (.agg (adr true n).toArray)), (45, .call (.agg (adr true n).toArray)), (46, .call (.bool true)), (50, .call (.agg (adr true n).toArray)), (52, .call (.bool true)), (26, .is (.int .i64 ((i + 1 : Nat) : Int)))], [.mk Nat 0 (fun k => k ≤ 8) (knFr2 i) (knMem2 i) (fun k => k + 1) (fun k => 20 - k) Unit (fun _ => True) (fun _ => [(3, .val (.int .i64 (i : Int))), (4, .ptr 0 0)]) (fun _ => knMem2 i 8) (fun _ => ())], ?_⟩
    exact Eq.mp (by kernel_rfl) (And.intro c24 (And.intro h0 (And.intro e1 (And.intro rd2 (fun (x3 : Unit) (hx4 : True) => (And.intro c41 (And.intro c45 (And.intro c46 (And.intro c50 (And.intro c52 (And.intro c26 (And.intro h5 (And.intro h6 (And.intro h7 z8))))))))))))))
  · have c24 : Value.bool (decide ((i : Int) < 256)) = .bool false := by rw [decide_eq_false (by omega)]
    have h0 : True := trivial
    have h1 : ([] : List (Nat × Sx.SV)) = [] := rfl
    have z2 : ([] : List Sx.Row) = [] := rfl
    refine ⟨[(24, .is (.bool false))], [], ?_⟩
    exact Eq.mp (by kernel_rfl) (And.intro c24 (And.intro h0 (And.intro h1 z2)))
/-- The texts that are asked. -/
def litOps : List Oper → List Value
  | [] => []
  | o :: r => match o.op with
    | .buildSlice _ _ parts => parts.toList.map fun p => match p.2 with
      | .const v => v
      | _ => undef
    | _ => litOps r
def litOf : Code → List Value
  | .seq x y => match litOf x with
    | [] => litOf y
    | l => l
  | .region _ ops _ => litOps ops.toList
  | .block _ c => litOf c
  | .scope c => litOf c
  | _ => []
def litFn (fn : Func) : List Value := match fn.body with
  | some c => litOf c
  | none => []
def isTxt (v : Value) : Bool := match v with
  | .string s => Nat.ble s.size 100000000
  | _ => false
theorem knVsLEN : (litFn Tryz.f9).length = 53 := by kernel_rfl
theorem knVsTXT : Sx.allB isTxt (litFn Tryz.f9) = true := by kernel_rfl
theorem knVsAT {i : Nat} (h : i < 53) : ∃ s : ByteArray, (litFn Tryz.f9)[i]? = some (.string s) ∧ s.size ≤ 100000000 := by
  obtain ⟨v, hv⟩ : ∃ v, (litFn Tryz.f9)[i]? = some v := ⟨_, List.getElem?_eq_getElem (by rw [knVsLEN]; exact h)⟩
  have := Sx.allB_spec knVsTXT v (List.mem_of_getElem? hv)
  unfold isTxt at this
  split at this
  · rename_i s
    exact ⟨s, hv, Nat.le_of_ble_eq_true this⟩
  · cases this
def knFrA (i : Nat) : List (Nat × Sx.SV) := [(1, .own 0), (2, .val (.int .i64 (i : Int)))]
set_option maxRecDepth 100000 in
theorem kn_texts (w : World) (HL : Lan w) (i : Nat) (hi : i ≤ 53) : ∃ H' L', Sx.ex Tryz.prog 129 w (Sx.bodyOf Tryz.f9 0) H' L' ⟨knFrA i, [⟨9, .own 1 53 (litFn Tryz.f9)⟩]⟩
    (Sx.loopK (fun i => i ≤ 53) knFrA (fun _ => [⟨9, .own 1 53 (litFn Tryz.f9)⟩]) (fun i => i + 1) (fun i => 100 - i) (fun (_ : Unit) => True) (fun _ => []) (fun _ => []) (fun _ => ()) (Sx.outId (Sx.bodyOf Tryz.f9 0) - 1) (Sx.atEnd Tryz.prog Tryz.f9 (fun v => v = .bool true) .ret) i) := by
  by_cases hlt : i < 53
  · obtain ⟨s, hs, hz⟩ := knVsAT hlt
    have c14 : Value.bool (decide ((i : Int) < 53)) = .bool true := by rw [decide_eq_true (by omega)]
    have c19 : (0 : Int) ≤ (i : Int) ∧ (i : Int) < 53 := by omega
    have c20 : (litFn Tryz.f9)[(i : Int).toNat * 1]? = some (.string s) := by rw [Int.toNat_natCast, Nat.mul_one]; exact hs
    have c21 := fun W (hW : Chg [] w W) => reads_B s W (HL.chg0 hW) hz
    have c16 : Value.int .i64 (IntKind.i64.wrap ((i : Int) + 1)) = .int .i64 ((i + 1 : Nat) : Int) := iw (w64 (by omega) (by omega))
    have h0 : i + 1 ≤ 53 := hlt
    have h1 : 100 - (i + 1) < 100 - i := by omega
    have h2 : knFrA (i + 1) = knFrA (i + 1) := rfl
    have z3 : [(⟨9, .own 1 53 (litFn Tryz.f9)⟩ : Sx.Row)] = [⟨9, .own 1 53 (litFn Tryz.f9)⟩] := rfl
    refine ⟨[(14, .is (.bool true)), (19, .ix), (20, .ld (.string s)), (21, .call (.bool true)), (16, .is (.int .i64 ((i + 1 : Nat) : Int)))], [], ?_⟩
    exact Eq.mp (by kernel_rfl) (And.intro c14 (And.intro c19 (And.intro c20 (And.intro c21 (And.intro c16 (And.intro h0 (And.intro h1 (And.intro h2 z3))))))))
  · have c14 : Value.bool (decide ((i : Int) < 53)) = .bool false := by rw [decide_eq_false (by omega)]
    have h0 : True := trivial
    have h1 : ([] : List (Nat × Sx.SV)) = [] := rfl
    have z2 : ([] : List Sx.Row) = [] := rfl
    refine ⟨[(14, .is (.bool false))], [], ?_⟩
    exact Eq.mp (by kernel_rfl) (And.intro c14 (And.intro h0 (And.intro h1 z2)))
def knA : Nat := 10 * 2 ^ 120 + 1 * 2 ^ 112 + 2 * 2 ^ 104 + 3 * 2 ^ 96
def knO : Nat := knA + 1 * 2 ^ 88
def knFr4 (j : Nat) : List (Nat × Sx.SV) := [(6, .ptr 0 0), (7, .ptr 1 0), (8, .val (.int .i64 ((j : Int) - 1)))]
def knMem4 : List Sx.Row := [⟨24, .vals (adr false knA)⟩, ⟨24, .vals (adr false knO)⟩]
set_option maxRecDepth 100000 in
theorem kn_tells (w : World) (HL : Lan w) (j : Nat) (hj : j ≤ 36) : ∃ H' L', Sx.ex Tryz.prog 129 w (Sx.bodyOf Tryz.f9 2) H' L' ⟨knFr4 j, knMem4⟩
    (Sx.loopK (fun j => j ≤ 36) knFr4 (fun _ => knMem4) (fun j => j + 1) (fun j => 100 - j) (fun (_ : Unit) => True) (fun _ => [(6, .ptr 0 0), (7, .ptr 1 0)]) (fun _ => knMem4) (fun _ => ()) (Sx.outId (Sx.bodyOf Tryz.f9 2) - 1) (Sx.atEnd Tryz.prog Tryz.f9 (fun v => v = .bool true) .ret) j) := by
  have hA : knA < 2 ^ 128 := by decide
  have hO : knO < 2 ^ 128 := by decide
  by_cases hlt : j < 36
  · have c60 : Value.bool (decide (((j : Int) - 1) < 35)) = .bool true := by rw [decide_eq_true (by omega)]
    have c69 := fun W (hW : Chg [] w W) => tells_N false knA ((j : Int) - 1) false knA 32 false knA W (HL.chg0 hW) hA hA hA
    have c78 := fun W (hW : Chg [] w W) => tells_N false knO ((j : Int) - 1) false knO 32 false knO W (HL.chg0 hW) hO hO hO
    have c83 : Value.int .i64 (IntKind.i64.wrap (4 * ((j : Int) - 1))) = .int .i64 (4 * ((j : Int) - 1)) := iw (w64 (by omega) (by omega))
    have c87 := c83
    have c90 := fun W (hW : Chg [] w W) => tells_N false 0 (4 * ((j : Int) - 1)) true 0 (4 * ((j : Int) - 1)) true 0 W (HL.chg0 hW) (by decide) (by decide) (by decide)
    have c62 : Value.int .i64 (IntKind.i64.wrap (((j : Int) - 1) + 1)) = .int .i64 (((j + 1 : Nat) : Int) - 1) := by
      rw [show ((j + 1 : Nat) : Int) - 1 = (j : Int) - 1 + 1 by omega]
      exact iw (w64 (by omega) (by omega))
    have h0 : j + 1 ≤ 36 := hlt
    have h1 : 100 - (j + 1) < 100 - j := by omega
    have h2 : knFr4 (j + 1) = knFr4 (j + 1) := rfl
    have z3 : knMem4 = knMem4 := rfl
    refine ⟨[(60, .is (.bool true)), (69, .call (.bool true)), (78, .call (.bool true)), (83, .is (.int .i64 (4 * ((j : Int) - 1)))), (87, .is (.int .i64 (4 * ((j : Int) - 1)))), (90, .call (.bool true)), (62, .is (.int .i64 (((j + 1 : Nat) : Int) - 1)))], [], ?_⟩
    exact Eq.mp (by kernel_rfl) (And.intro c60 (And.intro c69 (And.intro c78 (And.intro c83 (And.intro c87 (And.intro c90 (And.intro c62 (And.intro h0 (And.intro h1 (And.intro h2 z3))))))))))
  · have c60 : Value.bool (decide (((j : Int) - 1) < 35)) = .bool false := by rw [decide_eq_false (by omega)]
    have h0 : True := trivial
    have h1 : [((6 : Nat), Sx.SV.ptr 0 0), (7, .ptr 1 0)] = [((6 : Nat), Sx.SV.ptr 0 0), (7, .ptr 1 0)] := rfl
    have z2 : knMem4 = knMem4 := rfl
    refine ⟨[(60, .is (.bool false))], [], ?_⟩
    exact Eq.mp (by kernel_rfl) (And.intro c60 (And.intro h0 (And.intro h1 z2)))
theorem merges_O (L : List RP) (hL : L.length ≤ 1000) (s : Value) (hb : ∀ p ∈ L, p.2.1 < 2 ^ 128 ∧ -9223372036854775808 ≤ p.2.2 ∧ p.2.2 ≤ 9223372036854775807) (W : World) (HL : Lan W) (h : Own W 29 18 s L.length (rowP L)) : Calls Tryz.prog 4 #[s] W (Sx.retPost W (.val (.bool true))) := by
  obtain ⟨A, c, rfl, hc, _⟩ := h.form
  exact merges_B L A L.length c W HL rfl hc (by omega) hb (Rd.of_own h)
def kn1 : List RP := [(false, 0, 2), (false, 128 * 2 ^ 120, 2), (false, 224 * 2 ^ 120, 3)]
def kn2 : List RP := [(false, 0, 1099511627776)]
def kn3 : List RP := [(false, 0, 0), (true, 0, 0), (false, knA, 32)]
theorem kn_good {L : List RP} (h : (L.all fun p => decide (p.2.1 < 2 ^ 128 ∧ -9223372036854775808 ≤ p.2.2 ∧ p.2.2 ≤ 9223372036854775807)) = true) : ∀ p ∈ L, p.2.1 < 2 ^ 128 ∧ -9223372036854775808 ≤ p.2.2 ∧ p.2.2 ≤ 9223372036854775807 := fun p hp => of_decide_eq_true (List.all_eq_true.1 h p hp)
set_option maxRecDepth 100000 in
theorem known_B (w : World) (HL : Lan w) : Calls Tryz.prog 9 #[] w fun e w' => e = .returned (.bool true) ∧ Chg [] w w' := by
  have rd2 := kn_texts w HL
  have rd7 := kn_made w HL
  have rd12 := kn_tells w HL
  have h0 : 0 ≤ 53 := by decide
  have h5 : 0 ≤ 256 := by decide
  have h10 : 0 ≤ 36 := by decide
  have c102 : ∀ W, Chg [] w W → ∀ s, Own W 29 18 s 3 (rowP kn1) → Calls Tryz.prog 4 #[s] W (Sx.retPost W (.val (.bool true))) := fun W hW s hs => merges_O kn1 (by decide) s (kn_good (by decide +kernel)) W (HL.chg0 hW) hs
  have c106 : ∀ W, Chg [] w W → ∀ s, Own W 29 18 s 1 (rowP kn2) → Calls Tryz.prog 4 #[s] W (Sx.retPost W (.val (.bool true))) := fun W hW s hs => merges_O kn2 (by decide) s (kn_good (by decide +kernel)) W (HL.chg0 hW) hs
  have c118 : ∀ W, Chg [] w W → ∀ s, Own W 29 18 s 3 (rowP kn3) → Calls Tryz.prog 4 #[s] W (Sx.retPost W (.val (.bool true))) := fun W hW s hs => merges_O kn3 (by decide) s (kn_good (by decide +kernel)) W (HL.chg0 hW) hs
  have c109 : ∀ W, Chg [] w W → Calls Tryz.prog 4 #[.slice none 0 0] W fun e w' => e = .returned (.bool true) ∧ Chg [] W w' := fun W hW => merges_B [] none 0 0 W (HL.chg0 hW) rfl (Nat.le_refl _) (by omega) (by simp) (Rd.of_own (Own.nil W 29 18))
  have c124 := fun W (hW : Chg [] w W) => tells_N false 0 1099511627776 false 0 1099511627776 false knO W (HL.chg0 hW) (by decide) (by decide) (by decide)
  have c127 := fun W (hW : Chg [] w W) => works_N W (HL.chg0 hW)
  have z15 : Value.bool true = .bool true := rfl
  have e1 : knFrA 0 = knFrA 0 ∧ [(⟨9, .own 1 53 (litFn Tryz.f9)⟩ : Sx.Row)] = [⟨9, .own 1 53 (litFn Tryz.f9)⟩] := ⟨rfl, rfl⟩
  have e6 : knFr1 0 = knFr1 0 ∧ ([] : List Sx.Row) = [] := ⟨rfl, rfl⟩
  have e11 : knFr4 0 = knFr4 0 ∧ knMem4 = knMem4 := ⟨rfl, rfl⟩
  refine Sx.calls_is (args := []) [(10, .nils 9 1), (101, .nils 29 18), (102, .callO (.val (.bool true))), (105, .nils 29 18), (106, .callO (.val (.bool true))), (109, .call (.bool true)), (117, .nils 29 18), (118, .callO (.val (.bool true))), (124, .call (.bool true)), (127, .call (.bool true))]
    [.mk Nat 0 (fun i => i ≤ 53) knFrA (fun _ => [⟨9, .own 1 53 (litFn Tryz.f9)⟩]) (fun i => i + 1) (fun i => 100 - i) Unit (fun _ => True) (fun _ => []) (fun _ => []) (fun _ => ()),
     .mk Nat 0 (fun i => i ≤ 256) knFr1 (fun _ => []) (fun i => i + 1) (fun i => 300 - i) Unit (fun _ => True) (fun _ => []) (fun _ => []) (fun _ => ()),
     .mk Nat 0 (fun j => j ≤ 36) knFr4 (fun _ => knMem4) (fun j => j + 1) (fun j => 100 - j) Unit (fun _ => True) (fun _ => [(6, .ptr 0 0), (7, .ptr 1 0)]) (fun _ => knMem4) (fun _ => ())] (by kernel_rfl) Tryz.func9 rfl (Nat.le_of_ble_eq_true rfl) ?_
  exact Eq.mp (by kernel_rfl) (And.intro h0 (And.intro e1 (And.intro rd2 (fun (x3 : Unit) (hx4 : True) => (And.intro h5 (And.intro e6 (And.intro rd7 (fun (x8 : Unit) (hx9 : True) => (And.intro h10 (And.intro e11 (And.intro rd12 (fun (x13 : Unit) (hx14 : True) => (And.intro c102 (And.intro c106 (And.intro c109 (And.intro c118 (And.intro c124 (And.intro c127 z15))))))))))))))))))
end Go.Proofs.YtgpiapmbbnngpaaGreatDoor
