/- PrefixTree walked by reckoning: it is true. -/
import Derived.Test.YtgpiapmbbnngpaaGreatDoorPfxBk
import Derived.Test.YtgpiapmbbnngpaaGreatDoorSxM
namespace Go.Proofs.YtgpiapmbbnngpaaGreatDoor
open Go.RowKit Go.Lib Go.Sort

theorem beq24 (x y : Operand) (v v' : Bool) (n m : Nat) (hn : n < 2 ^ 128) (hm : m < 2 ^ 128) (W : World) : (do eqGuard .eql 24 x y (.agg (adr v n).toArray) (.agg (adr v' m).toArray); binOp .eql 24 (.agg (adr v n).toArray) (.agg (adr v' m).toArray) : Sem Value).run Tryz.prog W = .ok (.bool (decide (v = v' ∧ n = m))) W := by
  have h := eq24 v v' n m hn hm W
  rw [Sem.run_bind, guard24, Result.andThen_ok]
  show (do pure (.bool (← Op.equal 24 (.agg (adr v n).toArray) (.agg (adr v' m).toArray))) : Sem Value).run Tryz.prog W = _
  rw [Sem.run_bind, show (Op.equal 24 (.agg (adr v n).toArray) (.agg (adr v' m).toArray)).run Tryz.prog W = _ from h]
  rfl
theorem beq29 (x y : Operand) (v v' : Bool) (n m : Nat) (k j : Int) (hn : n < 2 ^ 128) (hm : m < 2 ^ 128) (hk : -9223372036854775808 ≤ k ∧ k ≤ 9223372036854775807) (hj : -9223372036854775808 ≤ j ∧ j ≤ 9223372036854775807) (W : World) : (do eqGuard .eql 29 x y (.agg (pfx v n k).toArray) (.agg (pfx v' m j).toArray); binOp .eql 29 (.agg (pfx v n k).toArray) (.agg (pfx v' m j).toArray) : Sem Value).run Tryz.prog W = .ok (.bool (decide (v = v' ∧ n = m ∧ k = j))) W := by
  have h := eq29 v v' n m k j hn hm hk hj W
  rw [Sem.run_bind, guard29, Result.andThen_ok]
  show (do pure (.bool (← Op.equal 29 (.agg (pfx v n k).toArray) (.agg (pfx v' m j).toArray))) : Sem Value).run Tryz.prog W = _
  rw [Sem.run_bind, show (Op.equal 29 (.agg (pfx v n k).toArray) (.agg (pfx v' m j).toArray)).run Tryz.prog W = _ from h]
  rfl

/-- Two prefixes: what the tree's laws say of them. -/
structure TrA (va vb : Bool) (a b : Nat) (i j : Int) (A B P Q ka kb : Nat) (pq qp pb hx hy : Bool) : Prop where
  a_ : A = maskN a (wid va)
  b_ : B = maskN b (wid vb)
  ka_ : (ka : Int) = withinI i (wid va)
  kb_ : (kb : Int) = withinI j (wid vb)
  p_ : P = maskN A ka
  q_ : Q = maskN B kb
  la_ : A < 2 ^ 128
  lb_ : B < 2 ^ 128
  oa_ : okA va A = true
  ob_ : okA vb B = true
  wa_ : ka ≤ wid va
  wb_ : kb ≤ wid vb
  hi_ : -9223372036854775808 ≤ i ∧ i ≤ 9223372036854775807
  hj_ : -9223372036854775808 ≤ j ∧ j ≤ 9223372036854775807
  pq_ : pq = covP va P ka vb Q kb
  qp_ : qp = covP vb Q kb va P ka
  pb_ : pb = hasP va P ka vb B
  hx_ : hx = hasP va P ka vb Q
  hy_ : hy = hasP vb Q kb va P
section
variable {va vb : Bool} {a b : Nat} {i j : Int} {A B P Q ka kb : Nat} {pq qp pb hx hy : Bool} {w : World}
theorem TrA.lp (T : TrA va vb a b i j A B P Q ka kb pq qp pb hx hy) : P < 2 ^ 128 := by rw [T.p_]; exact mask_lt _ _ T.la_
theorem TrA.lq (T : TrA va vb a b i j A B P Q ka kb pq qp pb hx hy) : Q < 2 ^ 128 := by rw [T.q_]; exact mask_lt _ _ T.lb_
theorem TrA.same (T : TrA va vb a b i j A B P Q ka kb pq qp pb hx hy) : decide (va = vb ∧ P = Q ∧ (ka : Int) = kb) = (pq && qp) := by
  have := tree_both (va := va) (vb := vb) (a := A) (b := B) T.wa_ T.wb_
  rw [← T.p_, ← T.q_, ← T.pq_, ← T.qp_] at this
  rw [this]
  congr 1
  apply propext
  constructor <;> (rintro ⟨x, y, z⟩; exact ⟨x, y, by omega⟩)
theorem TrA.inn (T : TrA va vb a b i j A B P Q ka kb pq qp pb hx hy) : pb = (pq || qp && pb) := by
  have := tree_in (va := va) (vb := vb) (a := A) (b := B) T.wa_ T.wb_ T.ob_
  rw [← T.p_, ← T.q_, ← T.pq_, ← T.qp_, ← T.pb_] at this
  exact this
theorem TrA.share (T : TrA va vb a b i j A B P Q ka kb pq qp pb hx hy) : (hx || hy) = (pq || qp) := by
  have := tree_share (va := va) (vb := vb) (a := A) (b := B) T.wa_ T.wb_
  rw [← T.p_, ← T.q_, ← T.pq_, ← T.qp_, ← T.hx_, ← T.hy_] at this
  exact this
theorem neq_self (b : Bool) : Value.bool (!(b == b)) = .bool false := by cases b <;> rfl
theorem eq_not (b : Bool) : Value.bool (b == !b) = .bool false := by cases b <;> rfl
def hints1 (va vb : Bool) (A B P Q ka kb : Nat) (pq qp pb hx hy : Bool) : List (Nat × Sx.Hint) := [(16, .call (.agg (adr va A).toArray)), (18, .call (.agg (adr vb B).toArray)), (24, .call (.int .i64 (wid va : Nat))), (25, .call (.int .i64 ka)), (26, .call (.tuple #[.agg (pfx va P ka).toArray, .int .i64 0])), (34, .call (.int .i64 (wid vb : Nat))), (35, .call (.int .i64 kb)), (36, .call (.tuple #[.agg (pfx vb Q kb).toArray, .int .i64 0])), (48, .call (.bool true)), (54, .call (.bool true)), (60, .call (.bool true)), (65, .call (.bool pq)), (68, .call (.bool qp)), (75, .bin (.bool (pq && qp))), (80, .call (.bool pb)), (87, .call (.bool pb)), (95, .call (.bool hx)), (100, .call (.bool hy)), (109, .call (.tuple #[.agg (pfx false 0 0).toArray, .agg (pfx false 0 0).toArray, .int .i64 5])), (116, .call (.int .i64 (wid va : Nat))), (117, .is (.bool true)), (123, .call (.bool pb)), (126, .bin (.bool pb)), (130, .call (.bool true))]
def hints2 (va vb : Bool) (A B P Q ka kb Y : Nat) (pq qp pb hx hy xb yb : Bool) : List (Nat × Sx.Hint) := [(16, .call (.agg (adr va A).toArray)), (18, .call (.agg (adr vb B).toArray)), (24, .call (.int .i64 (wid va : Nat))), (25, .call (.int .i64 ka)), (26, .call (.tuple #[.agg (pfx va P ka).toArray, .int .i64 0])), (34, .call (.int .i64 (wid vb : Nat))), (35, .call (.int .i64 kb)), (36, .call (.tuple #[.agg (pfx vb Q kb).toArray, .int .i64 0])), (48, .call (.bool true)), (54, .call (.bool true)), (60, .call (.bool true)), (65, .call (.bool pq)), (68, .call (.bool qp)), (75, .bin (.bool (pq && qp))), (80, .call (.bool pb)), (87, .call (.bool pb)), (95, .call (.bool hx)), (100, .call (.bool hy)), (109, .call (.tuple #[.agg (pfx va P ((ka : Int) + 1)).toArray, .agg (pfx va Y ((ka : Int) + 1)).toArray, .int .i64 0])), (116, .call (.int .i64 (wid va : Nat))), (117, .is (.bool false)), (137, .call (.bool (hasP va P ((ka : Int) + 1) va A))), (140, .call (.bool !(hasP va P ((ka : Int) + 1) va A))), (141, .is (.bool false)), (146, .call (.bool pb)), (149, .call (.bool xb)), (153, .call (.bool yb)), (160, .call (.bool xb)), (164, .call (.bool yb)), (170, .call (.int .i64 (-1))), (176, .call (.int .i64 (-1))), (181, .call (.bool true)), (185, .call (.bool true)), (190, .call (.bool false)), (196, .call (.bool false)), (200, .call (.bool true))]
set_option maxRecDepth 100000 in
theorem tree_w0 (T : TrA va vb a b i j A B P Q ka kb true true true true true) (HL : Lan w) (hok : okP va P ka = true) (hw : ka = wid va) :
    Calls Tryz.prog 5 #[.agg (adr va a).toArray, .agg (adr vb b).toArray, .agg #[.int .i64 i, .int .i64 j]] w fun e w' => e = .returned (.bool true) ∧ Chg [] w w' := by
  have L : ∀ W, Chg [] w W → Lan W := fun W h => HL.chg0 h
  have lp := T.lp
  have lq := T.lq
  have bk : -9223372036854775808 ≤ (ka : Int) ∧ (ka : Int) ≤ 9223372036854775807 := ⟨by omega, by have := T.wa_; have := wid_le va; omega⟩
  have bj : -9223372036854775808 ≤ (kb : Int) ∧ (kb : Int) ≤ 9223372036854775807 := ⟨by omega, by have := T.wb_; have := wid_le vb; omega⟩
  have c16 := fun W (_ : Chg [] w W) => right_N va a W
  have c18 := fun W (_ : Chg [] w W) => right_N vb b W
  rw [← T.a_] at c16
  rw [← T.b_] at c18
  have c24 := fun W (_ : Chg [] w W) => width2_N va A W
  have c25 := fun W (_ : Chg [] w W) => to_chg (within_N i (wid va) (wid_le va) T.hi_ W)
  have c26 := fun W (_ : Chg [] w W) => of_is T.la_ T.oa_ (k := (ka : Int)) (by omega) (by have := T.wa_; omega) W
  have c34 := fun W (_ : Chg [] w W) => width2_N vb B W
  have c35 := fun W (_ : Chg [] w W) => to_chg (within_N j (wid vb) (wid_le vb) T.hj_ W)
  have c36 := fun W (_ : Chg [] w W) => of_is T.lb_ T.ob_ (k := (kb : Int)) (by omega) (by have := T.wb_; omega) W
  rw [← T.ka_] at c25
  rw [← T.kb_] at c35
  rw [Int.toNat_natCast, ← T.p_] at c26
  rw [Int.toNat_natCast, ← T.q_] at c36
  have c48 := fun W (_ : Chg [] w W) => has_N va P ka va A lp T.la_ W
  have c54 := fun W (_ : Chg [] w W) => has_N vb Q kb vb B lq T.lb_ W
  have c60 := fun W (_ : Chg [] w W) => covers_N va P ka va P ka lp lp W
  rw [show hasP va P ka va A = true by rw [T.p_]; exact tree_has va A ka T.wa_ T.oa_] at c48
  rw [show hasP vb Q kb vb B = true by rw [T.q_]; exact tree_has vb B kb T.wb_ T.ob_] at c54
  rw [show covP va P ka va P ka = true by rw [T.p_]; exact tree_cov va A ka T.wa_] at c60
  have c65 := fun W (_ : Chg [] w W) => covers_N va P ka vb Q kb lp lq W
  have c68 := fun W (_ : Chg [] w W) => covers_N vb Q kb va P ka lq lp W
  rw [← T.pq_] at c65
  rw [← T.qp_] at c68
  have c75 := fun W => beq29 (.tmp 73) (.tmp 74) va vb P Q ka kb lp lq bk bj W
  rw [T.same] at c75
  have c80 := fun W (_ : Chg [] w W) => has_N va P ka vb B lp T.lb_ W
  rw [← T.pb_] at c80
  have c87 := c80
  have c95 := fun W (_ : Chg [] w W) => has_N va P ka vb Q lp lq W
  have c100 := fun W (_ : Chg [] w W) => has_N vb Q kb va P lq lp W
  rw [← T.hx_] at c95
  rw [← T.hy_] at c100
  have c109 := fun W (_ : Chg [] w W) => halves_N va P ka lp W
  have c116 := fun W (_ : Chg [] w W) => width2_N va A W
  rw [show halP va P ka = ((false, 0, 0), (false, 0, 0), 5) by unfold halP; rw [if_pos hok, if_pos (by rw [hw])]] at c109
  have c117 : Value.bool ((ka : Int) == (wid va : Nat)) = .bool true := by rw [hw]; simp
  have c123 := c80
  have c126 := fun W => beq24 (.tmp 124) (.tmp 125) va vb A B T.la_ T.lb_ W
  rw [show decide (va = vb ∧ A = B) = true from (show hasP va P ka vb B = decide (va = vb ∧ A = B) by rw [T.p_, hw]; exact tree_one T.oa_ T.ob_).symm.trans T.pb_.symm] at c126
  have c130 := fun W (h : Chg [] w W) => works_N W (L W h)
  refine Sx.calls_is (args := [.agg (adr va a).toArray, .agg (adr vb b).toArray, .agg #[.int .i64 i, .int .i64 j]]) (hints1 va vb A B P Q ka kb true true true true true) [] (by kernel_rfl) Tryz.func5 rfl (Nat.le_of_ble_eq_true rfl) ?_
  exact Eq.mp (by kernel_rfl) (And.intro c16 (And.intro c18 (And.intro c24 (And.intro c25 (And.intro c26 (And.intro c34 (And.intro c35 (And.intro c36 (And.intro c48 (And.intro c54 (And.intro c60 (And.intro c65 (And.intro c68 (And.intro c75 (And.intro c80 (And.intro c95 (And.intro c109 (And.intro c116 (And.intro c117 (And.intro c123 (And.intro c126 (And.intro c130 kT))))))))))))))))))))))
set_option maxRecDepth 100000 in
theorem tree_w1 (T : TrA va vb a b i j A B P Q ka kb true true true true false) (HL : Lan w) (hok : okP va P ka = true) (hw : ka = wid va) :
    Calls Tryz.prog 5 #[.agg (adr va a).toArray, .agg (adr vb b).toArray, .agg #[.int .i64 i, .int .i64 j]] w fun e w' => e = .returned (.bool true) ∧ Chg [] w w' := by
  have L : ∀ W, Chg [] w W → Lan W := fun W h => HL.chg0 h
  have lp := T.lp
  have lq := T.lq
  have bk : -9223372036854775808 ≤ (ka : Int) ∧ (ka : Int) ≤ 9223372036854775807 := ⟨by omega, by have := T.wa_; have := wid_le va; omega⟩
  have bj : -9223372036854775808 ≤ (kb : Int) ∧ (kb : Int) ≤ 9223372036854775807 := ⟨by omega, by have := T.wb_; have := wid_le vb; omega⟩
  have c16 := fun W (_ : Chg [] w W) => right_N va a W
  have c18 := fun W (_ : Chg [] w W) => right_N vb b W
  rw [← T.a_] at c16
  rw [← T.b_] at c18
  have c24 := fun W (_ : Chg [] w W) => width2_N va A W
  have c25 := fun W (_ : Chg [] w W) => to_chg (within_N i (wid va) (wid_le va) T.hi_ W)
  have c26 := fun W (_ : Chg [] w W) => of_is T.la_ T.oa_ (k := (ka : Int)) (by omega) (by have := T.wa_; omega) W
  have c34 := fun W (_ : Chg [] w W) => width2_N vb B W
  have c35 := fun W (_ : Chg [] w W) => to_chg (within_N j (wid vb) (wid_le vb) T.hj_ W)
  have c36 := fun W (_ : Chg [] w W) => of_is T.lb_ T.ob_ (k := (kb : Int)) (by omega) (by have := T.wb_; omega) W
  rw [← T.ka_] at c25
  rw [← T.kb_] at c35
  rw [Int.toNat_natCast, ← T.p_] at c26
  rw [Int.toNat_natCast, ← T.q_] at c36
  have c48 := fun W (_ : Chg [] w W) => has_N va P ka va A lp T.la_ W
  have c54 := fun W (_ : Chg [] w W) => has_N vb Q kb vb B lq T.lb_ W
  have c60 := fun W (_ : Chg [] w W) => covers_N va P ka va P ka lp lp W
  rw [show hasP va P ka va A = true by rw [T.p_]; exact tree_has va A ka T.wa_ T.oa_] at c48
  rw [show hasP vb Q kb vb B = true by rw [T.q_]; exact tree_has vb B kb T.wb_ T.ob_] at c54
  rw [show covP va P ka va P ka = true by rw [T.p_]; exact tree_cov va A ka T.wa_] at c60
  have c65 := fun W (_ : Chg [] w W) => covers_N va P ka vb Q kb lp lq W
  have c68 := fun W (_ : Chg [] w W) => covers_N vb Q kb va P ka lq lp W
  rw [← T.pq_] at c65
  rw [← T.qp_] at c68
  have c75 := fun W => beq29 (.tmp 73) (.tmp 74) va vb P Q ka kb lp lq bk bj W
  rw [T.same] at c75
  have c80 := fun W (_ : Chg [] w W) => has_N va P ka vb B lp T.lb_ W
  rw [← T.pb_] at c80
  have c87 := c80
  have c95 := fun W (_ : Chg [] w W) => has_N va P ka vb Q lp lq W
  have c100 := fun W (_ : Chg [] w W) => has_N vb Q kb va P lq lp W
  rw [← T.hx_] at c95
  rw [← T.hy_] at c100
  have c109 := fun W (_ : Chg [] w W) => halves_N va P ka lp W
  have c116 := fun W (_ : Chg [] w W) => width2_N va A W
  rw [show halP va P ka = ((false, 0, 0), (false, 0, 0), 5) by unfold halP; rw [if_pos hok, if_pos (by rw [hw])]] at c109
  have c117 : Value.bool ((ka : Int) == (wid va : Nat)) = .bool true := by rw [hw]; simp
  have c123 := c80
  have c126 := fun W => beq24 (.tmp 124) (.tmp 125) va vb A B T.la_ T.lb_ W
  rw [show decide (va = vb ∧ A = B) = true from (show hasP va P ka vb B = decide (va = vb ∧ A = B) by rw [T.p_, hw]; exact tree_one T.oa_ T.ob_).symm.trans T.pb_.symm] at c126
  have c130 := fun W (h : Chg [] w W) => works_N W (L W h)
  refine Sx.calls_is (args := [.agg (adr va a).toArray, .agg (adr vb b).toArray, .agg #[.int .i64 i, .int .i64 j]]) (hints1 va vb A B P Q ka kb true true true true false) [] (by kernel_rfl) Tryz.func5 rfl (Nat.le_of_ble_eq_true rfl) ?_
  exact Eq.mp (by kernel_rfl) (And.intro c16 (And.intro c18 (And.intro c24 (And.intro c25 (And.intro c26 (And.intro c34 (And.intro c35 (And.intro c36 (And.intro c48 (And.intro c54 (And.intro c60 (And.intro c65 (And.intro c68 (And.intro c75 (And.intro c80 (And.intro c95 (And.intro c109 (And.intro c116 (And.intro c117 (And.intro c123 (And.intro c126 (And.intro c130 kT))))))))))))))))))))))
set_option maxRecDepth 100000 in
theorem tree_w2 (T : TrA va vb a b i j A B P Q ka kb true true true false true) (HL : Lan w) (hok : okP va P ka = true) (hw : ka = wid va) :
    Calls Tryz.prog 5 #[.agg (adr va a).toArray, .agg (adr vb b).toArray, .agg #[.int .i64 i, .int .i64 j]] w fun e w' => e = .returned (.bool true) ∧ Chg [] w w' := by
  have L : ∀ W, Chg [] w W → Lan W := fun W h => HL.chg0 h
  have lp := T.lp
  have lq := T.lq
  have bk : -9223372036854775808 ≤ (ka : Int) ∧ (ka : Int) ≤ 9223372036854775807 := ⟨by omega, by have := T.wa_; have := wid_le va; omega⟩
  have bj : -9223372036854775808 ≤ (kb : Int) ∧ (kb : Int) ≤ 9223372036854775807 := ⟨by omega, by have := T.wb_; have := wid_le vb; omega⟩
  have c16 := fun W (_ : Chg [] w W) => right_N va a W
  have c18 := fun W (_ : Chg [] w W) => right_N vb b W
  rw [← T.a_] at c16
  rw [← T.b_] at c18
  have c24 := fun W (_ : Chg [] w W) => width2_N va A W
  have c25 := fun W (_ : Chg [] w W) => to_chg (within_N i (wid va) (wid_le va) T.hi_ W)
  have c26 := fun W (_ : Chg [] w W) => of_is T.la_ T.oa_ (k := (ka : Int)) (by omega) (by have := T.wa_; omega) W
  have c34 := fun W (_ : Chg [] w W) => width2_N vb B W
  have c35 := fun W (_ : Chg [] w W) => to_chg (within_N j (wid vb) (wid_le vb) T.hj_ W)
  have c36 := fun W (_ : Chg [] w W) => of_is T.lb_ T.ob_ (k := (kb : Int)) (by omega) (by have := T.wb_; omega) W
  rw [← T.ka_] at c25
  rw [← T.kb_] at c35
  rw [Int.toNat_natCast, ← T.p_] at c26
  rw [Int.toNat_natCast, ← T.q_] at c36
  have c48 := fun W (_ : Chg [] w W) => has_N va P ka va A lp T.la_ W
  have c54 := fun W (_ : Chg [] w W) => has_N vb Q kb vb B lq T.lb_ W
  have c60 := fun W (_ : Chg [] w W) => covers_N va P ka va P ka lp lp W
  rw [show hasP va P ka va A = true by rw [T.p_]; exact tree_has va A ka T.wa_ T.oa_] at c48
  rw [show hasP vb Q kb vb B = true by rw [T.q_]; exact tree_has vb B kb T.wb_ T.ob_] at c54
  rw [show covP va P ka va P ka = true by rw [T.p_]; exact tree_cov va A ka T.wa_] at c60
  have c65 := fun W (_ : Chg [] w W) => covers_N va P ka vb Q kb lp lq W
  have c68 := fun W (_ : Chg [] w W) => covers_N vb Q kb va P ka lq lp W
  rw [← T.pq_] at c65
  rw [← T.qp_] at c68
  have c75 := fun W => beq29 (.tmp 73) (.tmp 74) va vb P Q ka kb lp lq bk bj W
  rw [T.same] at c75
  have c80 := fun W (_ : Chg [] w W) => has_N va P ka vb B lp T.lb_ W
  rw [← T.pb_] at c80
  have c87 := c80
  have c95 := fun W (_ : Chg [] w W) => has_N va P ka vb Q lp lq W
  have c100 := fun W (_ : Chg [] w W) => has_N vb Q kb va P lq lp W
  rw [← T.hx_] at c95
  rw [← T.hy_] at c100
  have c109 := fun W (_ : Chg [] w W) => halves_N va P ka lp W
  have c116 := fun W (_ : Chg [] w W) => width2_N va A W
  rw [show halP va P ka = ((false, 0, 0), (false, 0, 0), 5) by unfold halP; rw [if_pos hok, if_pos (by rw [hw])]] at c109
  have c117 : Value.bool ((ka : Int) == (wid va : Nat)) = .bool true := by rw [hw]; simp
  have c123 := c80
  have c126 := fun W => beq24 (.tmp 124) (.tmp 125) va vb A B T.la_ T.lb_ W
  rw [show decide (va = vb ∧ A = B) = true from (show hasP va P ka vb B = decide (va = vb ∧ A = B) by rw [T.p_, hw]; exact tree_one T.oa_ T.ob_).symm.trans T.pb_.symm] at c126
  have c130 := fun W (h : Chg [] w W) => works_N W (L W h)
  refine Sx.calls_is (args := [.agg (adr va a).toArray, .agg (adr vb b).toArray, .agg #[.int .i64 i, .int .i64 j]]) (hints1 va vb A B P Q ka kb true true true false true) [] (by kernel_rfl) Tryz.func5 rfl (Nat.le_of_ble_eq_true rfl) ?_
  exact Eq.mp (by kernel_rfl) (And.intro c16 (And.intro c18 (And.intro c24 (And.intro c25 (And.intro c26 (And.intro c34 (And.intro c35 (And.intro c36 (And.intro c48 (And.intro c54 (And.intro c60 (And.intro c65 (And.intro c68 (And.intro c75 (And.intro c80 (And.intro c95 (And.intro c100 (And.intro c109 (And.intro c116 (And.intro c117 (And.intro c123 (And.intro c126 (And.intro c130 kT)))))))))))))))))))))))
set_option maxRecDepth 100000 in
theorem tree_w3 (T : TrA va vb a b i j A B P Q ka kb true false true true true) (HL : Lan w) (hok : okP va P ka = true) (hw : ka = wid va) :
    Calls Tryz.prog 5 #[.agg (adr va a).toArray, .agg (adr vb b).toArray, .agg #[.int .i64 i, .int .i64 j]] w fun e w' => e = .returned (.bool true) ∧ Chg [] w w' := by
  have L : ∀ W, Chg [] w W → Lan W := fun W h => HL.chg0 h
  have lp := T.lp
  have lq := T.lq
  have bk : -9223372036854775808 ≤ (ka : Int) ∧ (ka : Int) ≤ 9223372036854775807 := ⟨by omega, by have := T.wa_; have := wid_le va; omega⟩
  have bj : -9223372036854775808 ≤ (kb : Int) ∧ (kb : Int) ≤ 9223372036854775807 := ⟨by omega, by have := T.wb_; have := wid_le vb; omega⟩
  have c16 := fun W (_ : Chg [] w W) => right_N va a W
  have c18 := fun W (_ : Chg [] w W) => right_N vb b W
  rw [← T.a_] at c16
  rw [← T.b_] at c18
  have c24 := fun W (_ : Chg [] w W) => width2_N va A W
  have c25 := fun W (_ : Chg [] w W) => to_chg (within_N i (wid va) (wid_le va) T.hi_ W)
  have c26 := fun W (_ : Chg [] w W) => of_is T.la_ T.oa_ (k := (ka : Int)) (by omega) (by have := T.wa_; omega) W
  have c34 := fun W (_ : Chg [] w W) => width2_N vb B W
  have c35 := fun W (_ : Chg [] w W) => to_chg (within_N j (wid vb) (wid_le vb) T.hj_ W)
  have c36 := fun W (_ : Chg [] w W) => of_is T.lb_ T.ob_ (k := (kb : Int)) (by omega) (by have := T.wb_; omega) W
  rw [← T.ka_] at c25
  rw [← T.kb_] at c35
  rw [Int.toNat_natCast, ← T.p_] at c26
  rw [Int.toNat_natCast, ← T.q_] at c36
  have c48 := fun W (_ : Chg [] w W) => has_N va P ka va A lp T.la_ W
  have c54 := fun W (_ : Chg [] w W) => has_N vb Q kb vb B lq T.lb_ W
  have c60 := fun W (_ : Chg [] w W) => covers_N va P ka va P ka lp lp W
  rw [show hasP va P ka va A = true by rw [T.p_]; exact tree_has va A ka T.wa_ T.oa_] at c48
  rw [show hasP vb Q kb vb B = true by rw [T.q_]; exact tree_has vb B kb T.wb_ T.ob_] at c54
  rw [show covP va P ka va P ka = true by rw [T.p_]; exact tree_cov va A ka T.wa_] at c60
  have c65 := fun W (_ : Chg [] w W) => covers_N va P ka vb Q kb lp lq W
  have c68 := fun W (_ : Chg [] w W) => covers_N vb Q kb va P ka lq lp W
  rw [← T.pq_] at c65
  rw [← T.qp_] at c68
  have c75 := fun W => beq29 (.tmp 73) (.tmp 74) va vb P Q ka kb lp lq bk bj W
  rw [T.same] at c75
  have c80 := fun W (_ : Chg [] w W) => has_N va P ka vb B lp T.lb_ W
  rw [← T.pb_] at c80
  have c87 := c80
  have c95 := fun W (_ : Chg [] w W) => has_N va P ka vb Q lp lq W
  have c100 := fun W (_ : Chg [] w W) => has_N vb Q kb va P lq lp W
  rw [← T.hx_] at c95
  rw [← T.hy_] at c100
  have c109 := fun W (_ : Chg [] w W) => halves_N va P ka lp W
  have c116 := fun W (_ : Chg [] w W) => width2_N va A W
  rw [show halP va P ka = ((false, 0, 0), (false, 0, 0), 5) by unfold halP; rw [if_pos hok, if_pos (by rw [hw])]] at c109
  have c117 : Value.bool ((ka : Int) == (wid va : Nat)) = .bool true := by rw [hw]; simp
  have c123 := c80
  have c126 := fun W => beq24 (.tmp 124) (.tmp 125) va vb A B T.la_ T.lb_ W
  rw [show decide (va = vb ∧ A = B) = true from (show hasP va P ka vb B = decide (va = vb ∧ A = B) by rw [T.p_, hw]; exact tree_one T.oa_ T.ob_).symm.trans T.pb_.symm] at c126
  have c130 := fun W (h : Chg [] w W) => works_N W (L W h)
  refine Sx.calls_is (args := [.agg (adr va a).toArray, .agg (adr vb b).toArray, .agg #[.int .i64 i, .int .i64 j]]) (hints1 va vb A B P Q ka kb true false true true true) [] (by kernel_rfl) Tryz.func5 rfl (Nat.le_of_ble_eq_true rfl) ?_
  exact Eq.mp (by kernel_rfl) (And.intro c16 (And.intro c18 (And.intro c24 (And.intro c25 (And.intro c26 (And.intro c34 (And.intro c35 (And.intro c36 (And.intro c48 (And.intro c54 (And.intro c60 (And.intro c65 (And.intro c68 (And.intro c75 (And.intro c80 (And.intro c95 (And.intro c109 (And.intro c116 (And.intro c117 (And.intro c123 (And.intro c126 (And.intro c130 kT))))))))))))))))))))))
set_option maxRecDepth 100000 in
theorem tree_w4 (T : TrA va vb a b i j A B P Q ka kb true false true true false) (HL : Lan w) (hok : okP va P ka = true) (hw : ka = wid va) :
    Calls Tryz.prog 5 #[.agg (adr va a).toArray, .agg (adr vb b).toArray, .agg #[.int .i64 i, .int .i64 j]] w fun e w' => e = .returned (.bool true) ∧ Chg [] w w' := by
  have L : ∀ W, Chg [] w W → Lan W := fun W h => HL.chg0 h
  have lp := T.lp
  have lq := T.lq
  have bk : -9223372036854775808 ≤ (ka : Int) ∧ (ka : Int) ≤ 9223372036854775807 := ⟨by omega, by have := T.wa_; have := wid_le va; omega⟩
  have bj : -9223372036854775808 ≤ (kb : Int) ∧ (kb : Int) ≤ 9223372036854775807 := ⟨by omega, by have := T.wb_; have := wid_le vb; omega⟩
  have c16 := fun W (_ : Chg [] w W) => right_N va a W
  have c18 := fun W (_ : Chg [] w W) => right_N vb b W
  rw [← T.a_] at c16
  rw [← T.b_] at c18
  have c24 := fun W (_ : Chg [] w W) => width2_N va A W
  have c25 := fun W (_ : Chg [] w W) => to_chg (within_N i (wid va) (wid_le va) T.hi_ W)
  have c26 := fun W (_ : Chg [] w W) => of_is T.la_ T.oa_ (k := (ka : Int)) (by omega) (by have := T.wa_; omega) W
  have c34 := fun W (_ : Chg [] w W) => width2_N vb B W
  have c35 := fun W (_ : Chg [] w W) => to_chg (within_N j (wid vb) (wid_le vb) T.hj_ W)
  have c36 := fun W (_ : Chg [] w W) => of_is T.lb_ T.ob_ (k := (kb : Int)) (by omega) (by have := T.wb_; omega) W
  rw [← T.ka_] at c25
  rw [← T.kb_] at c35
  rw [Int.toNat_natCast, ← T.p_] at c26
  rw [Int.toNat_natCast, ← T.q_] at c36
  have c48 := fun W (_ : Chg [] w W) => has_N va P ka va A lp T.la_ W
  have c54 := fun W (_ : Chg [] w W) => has_N vb Q kb vb B lq T.lb_ W
  have c60 := fun W (_ : Chg [] w W) => covers_N va P ka va P ka lp lp W
  rw [show hasP va P ka va A = true by rw [T.p_]; exact tree_has va A ka T.wa_ T.oa_] at c48
  rw [show hasP vb Q kb vb B = true by rw [T.q_]; exact tree_has vb B kb T.wb_ T.ob_] at c54
  rw [show covP va P ka va P ka = true by rw [T.p_]; exact tree_cov va A ka T.wa_] at c60
  have c65 := fun W (_ : Chg [] w W) => covers_N va P ka vb Q kb lp lq W
  have c68 := fun W (_ : Chg [] w W) => covers_N vb Q kb va P ka lq lp W
  rw [← T.pq_] at c65
  rw [← T.qp_] at c68
  have c75 := fun W => beq29 (.tmp 73) (.tmp 74) va vb P Q ka kb lp lq bk bj W
  rw [T.same] at c75
  have c80 := fun W (_ : Chg [] w W) => has_N va P ka vb B lp T.lb_ W
  rw [← T.pb_] at c80
  have c87 := c80
  have c95 := fun W (_ : Chg [] w W) => has_N va P ka vb Q lp lq W
  have c100 := fun W (_ : Chg [] w W) => has_N vb Q kb va P lq lp W
  rw [← T.hx_] at c95
  rw [← T.hy_] at c100
  have c109 := fun W (_ : Chg [] w W) => halves_N va P ka lp W
  have c116 := fun W (_ : Chg [] w W) => width2_N va A W
  rw [show halP va P ka = ((false, 0, 0), (false, 0, 0), 5) by unfold halP; rw [if_pos hok, if_pos (by rw [hw])]] at c109
  have c117 : Value.bool ((ka : Int) == (wid va : Nat)) = .bool true := by rw [hw]; simp
  have c123 := c80
  have c126 := fun W => beq24 (.tmp 124) (.tmp 125) va vb A B T.la_ T.lb_ W
  rw [show decide (va = vb ∧ A = B) = true from (show hasP va P ka vb B = decide (va = vb ∧ A = B) by rw [T.p_, hw]; exact tree_one T.oa_ T.ob_).symm.trans T.pb_.symm] at c126
  have c130 := fun W (h : Chg [] w W) => works_N W (L W h)
  refine Sx.calls_is (args := [.agg (adr va a).toArray, .agg (adr vb b).toArray, .agg #[.int .i64 i, .int .i64 j]]) (hints1 va vb A B P Q ka kb true false true true false) [] (by kernel_rfl) Tryz.func5 rfl (Nat.le_of_ble_eq_true rfl) ?_
  exact Eq.mp (by kernel_rfl) (And.intro c16 (And.intro c18 (And.intro c24 (And.intro c25 (And.intro c26 (And.intro c34 (And.intro c35 (And.intro c36 (And.intro c48 (And.intro c54 (And.intro c60 (And.intro c65 (And.intro c68 (And.intro c75 (And.intro c80 (And.intro c95 (And.intro c109 (And.intro c116 (And.intro c117 (And.intro c123 (And.intro c126 (And.intro c130 kT))))))))))))))))))))))
set_option maxRecDepth 100000 in
theorem tree_w5 (T : TrA va vb a b i j A B P Q ka kb true false true false true) (HL : Lan w) (hok : okP va P ka = true) (hw : ka = wid va) :
    Calls Tryz.prog 5 #[.agg (adr va a).toArray, .agg (adr vb b).toArray, .agg #[.int .i64 i, .int .i64 j]] w fun e w' => e = .returned (.bool true) ∧ Chg [] w w' := by
  have L : ∀ W, Chg [] w W → Lan W := fun W h => HL.chg0 h
  have lp := T.lp
  have lq := T.lq
  have bk : -9223372036854775808 ≤ (ka : Int) ∧ (ka : Int) ≤ 9223372036854775807 := ⟨by omega, by have := T.wa_; have := wid_le va; omega⟩
  have bj : -9223372036854775808 ≤ (kb : Int) ∧ (kb : Int) ≤ 9223372036854775807 := ⟨by omega, by have := T.wb_; have := wid_le vb; omega⟩
  have c16 := fun W (_ : Chg [] w W) => right_N va a W
  have c18 := fun W (_ : Chg [] w W) => right_N vb b W
  rw [← T.a_] at c16
  rw [← T.b_] at c18
  have c24 := fun W (_ : Chg [] w W) => width2_N va A W
  have c25 := fun W (_ : Chg [] w W) => to_chg (within_N i (wid va) (wid_le va) T.hi_ W)
  have c26 := fun W (_ : Chg [] w W) => of_is T.la_ T.oa_ (k := (ka : Int)) (by omega) (by have := T.wa_; omega) W
  have c34 := fun W (_ : Chg [] w W) => width2_N vb B W
  have c35 := fun W (_ : Chg [] w W) => to_chg (within_N j (wid vb) (wid_le vb) T.hj_ W)
  have c36 := fun W (_ : Chg [] w W) => of_is T.lb_ T.ob_ (k := (kb : Int)) (by omega) (by have := T.wb_; omega) W
  rw [← T.ka_] at c25
  rw [← T.kb_] at c35
  rw [Int.toNat_natCast, ← T.p_] at c26
  rw [Int.toNat_natCast, ← T.q_] at c36
  have c48 := fun W (_ : Chg [] w W) => has_N va P ka va A lp T.la_ W
  have c54 := fun W (_ : Chg [] w W) => has_N vb Q kb vb B lq T.lb_ W
  have c60 := fun W (_ : Chg [] w W) => covers_N va P ka va P ka lp lp W
  rw [show hasP va P ka va A = true by rw [T.p_]; exact tree_has va A ka T.wa_ T.oa_] at c48
  rw [show hasP vb Q kb vb B = true by rw [T.q_]; exact tree_has vb B kb T.wb_ T.ob_] at c54
  rw [show covP va P ka va P ka = true by rw [T.p_]; exact tree_cov va A ka T.wa_] at c60
  have c65 := fun W (_ : Chg [] w W) => covers_N va P ka vb Q kb lp lq W
  have c68 := fun W (_ : Chg [] w W) => covers_N vb Q kb va P ka lq lp W
  rw [← T.pq_] at c65
  rw [← T.qp_] at c68
  have c75 := fun W => beq29 (.tmp 73) (.tmp 74) va vb P Q ka kb lp lq bk bj W
  rw [T.same] at c75
  have c80 := fun W (_ : Chg [] w W) => has_N va P ka vb B lp T.lb_ W
  rw [← T.pb_] at c80
  have c87 := c80
  have c95 := fun W (_ : Chg [] w W) => has_N va P ka vb Q lp lq W
  have c100 := fun W (_ : Chg [] w W) => has_N vb Q kb va P lq lp W
  rw [← T.hx_] at c95
  rw [← T.hy_] at c100
  have c109 := fun W (_ : Chg [] w W) => halves_N va P ka lp W
  have c116 := fun W (_ : Chg [] w W) => width2_N va A W
  rw [show halP va P ka = ((false, 0, 0), (false, 0, 0), 5) by unfold halP; rw [if_pos hok, if_pos (by rw [hw])]] at c109
  have c117 : Value.bool ((ka : Int) == (wid va : Nat)) = .bool true := by rw [hw]; simp
  have c123 := c80
  have c126 := fun W => beq24 (.tmp 124) (.tmp 125) va vb A B T.la_ T.lb_ W
  rw [show decide (va = vb ∧ A = B) = true from (show hasP va P ka vb B = decide (va = vb ∧ A = B) by rw [T.p_, hw]; exact tree_one T.oa_ T.ob_).symm.trans T.pb_.symm] at c126
  have c130 := fun W (h : Chg [] w W) => works_N W (L W h)
  refine Sx.calls_is (args := [.agg (adr va a).toArray, .agg (adr vb b).toArray, .agg #[.int .i64 i, .int .i64 j]]) (hints1 va vb A B P Q ka kb true false true false true) [] (by kernel_rfl) Tryz.func5 rfl (Nat.le_of_ble_eq_true rfl) ?_
  exact Eq.mp (by kernel_rfl) (And.intro c16 (And.intro c18 (And.intro c24 (And.intro c25 (And.intro c26 (And.intro c34 (And.intro c35 (And.intro c36 (And.intro c48 (And.intro c54 (And.intro c60 (And.intro c65 (And.intro c68 (And.intro c75 (And.intro c80 (And.intro c95 (And.intro c100 (And.intro c109 (And.intro c116 (And.intro c117 (And.intro c123 (And.intro c126 (And.intro c130 kT)))))))))))))))))))))))
set_option maxRecDepth 100000 in
theorem tree_w6 (T : TrA va vb a b i j A B P Q ka kb false true true true true) (HL : Lan w) (hok : okP va P ka = true) (hw : ka = wid va) :
    Calls Tryz.prog 5 #[.agg (adr va a).toArray, .agg (adr vb b).toArray, .agg #[.int .i64 i, .int .i64 j]] w fun e w' => e = .returned (.bool true) ∧ Chg [] w w' := by
  have L : ∀ W, Chg [] w W → Lan W := fun W h => HL.chg0 h
  have lp := T.lp
  have lq := T.lq
  have bk : -9223372036854775808 ≤ (ka : Int) ∧ (ka : Int) ≤ 9223372036854775807 := ⟨by omega, by have := T.wa_; have := wid_le va; omega⟩
  have bj : -9223372036854775808 ≤ (kb : Int) ∧ (kb : Int) ≤ 9223372036854775807 := ⟨by omega, by have := T.wb_; have := wid_le vb; omega⟩
  have c16 := fun W (_ : Chg [] w W) => right_N va a W
  have c18 := fun W (_ : Chg [] w W) => right_N vb b W
  rw [← T.a_] at c16
  rw [← T.b_] at c18
  have c24 := fun W (_ : Chg [] w W) => width2_N va A W
  have c25 := fun W (_ : Chg [] w W) => to_chg (within_N i (wid va) (wid_le va) T.hi_ W)
  have c26 := fun W (_ : Chg [] w W) => of_is T.la_ T.oa_ (k := (ka : Int)) (by omega) (by have := T.wa_; omega) W
  have c34 := fun W (_ : Chg [] w W) => width2_N vb B W
  have c35 := fun W (_ : Chg [] w W) => to_chg (within_N j (wid vb) (wid_le vb) T.hj_ W)
  have c36 := fun W (_ : Chg [] w W) => of_is T.lb_ T.ob_ (k := (kb : Int)) (by omega) (by have := T.wb_; omega) W
  rw [← T.ka_] at c25
  rw [← T.kb_] at c35
  rw [Int.toNat_natCast, ← T.p_] at c26
  rw [Int.toNat_natCast, ← T.q_] at c36
  have c48 := fun W (_ : Chg [] w W) => has_N va P ka va A lp T.la_ W
  have c54 := fun W (_ : Chg [] w W) => has_N vb Q kb vb B lq T.lb_ W
  have c60 := fun W (_ : Chg [] w W) => covers_N va P ka va P ka lp lp W
  rw [show hasP va P ka va A = true by rw [T.p_]; exact tree_has va A ka T.wa_ T.oa_] at c48
  rw [show hasP vb Q kb vb B = true by rw [T.q_]; exact tree_has vb B kb T.wb_ T.ob_] at c54
  rw [show covP va P ka va P ka = true by rw [T.p_]; exact tree_cov va A ka T.wa_] at c60
  have c65 := fun W (_ : Chg [] w W) => covers_N va P ka vb Q kb lp lq W
  have c68 := fun W (_ : Chg [] w W) => covers_N vb Q kb va P ka lq lp W
  rw [← T.pq_] at c65
  rw [← T.qp_] at c68
  have c75 := fun W => beq29 (.tmp 73) (.tmp 74) va vb P Q ka kb lp lq bk bj W
  rw [T.same] at c75
  have c80 := fun W (_ : Chg [] w W) => has_N va P ka vb B lp T.lb_ W
  rw [← T.pb_] at c80
  have c87 := c80
  have c95 := fun W (_ : Chg [] w W) => has_N va P ka vb Q lp lq W
  have c100 := fun W (_ : Chg [] w W) => has_N vb Q kb va P lq lp W
  rw [← T.hx_] at c95
  rw [← T.hy_] at c100
  have c109 := fun W (_ : Chg [] w W) => halves_N va P ka lp W
  have c116 := fun W (_ : Chg [] w W) => width2_N va A W
  rw [show halP va P ka = ((false, 0, 0), (false, 0, 0), 5) by unfold halP; rw [if_pos hok, if_pos (by rw [hw])]] at c109
  have c117 : Value.bool ((ka : Int) == (wid va : Nat)) = .bool true := by rw [hw]; simp
  have c123 := c80
  have c126 := fun W => beq24 (.tmp 124) (.tmp 125) va vb A B T.la_ T.lb_ W
  rw [show decide (va = vb ∧ A = B) = true from (show hasP va P ka vb B = decide (va = vb ∧ A = B) by rw [T.p_, hw]; exact tree_one T.oa_ T.ob_).symm.trans T.pb_.symm] at c126
  have c130 := fun W (h : Chg [] w W) => works_N W (L W h)
  refine Sx.calls_is (args := [.agg (adr va a).toArray, .agg (adr vb b).toArray, .agg #[.int .i64 i, .int .i64 j]]) (hints1 va vb A B P Q ka kb false true true true true) [] (by kernel_rfl) Tryz.func5 rfl (Nat.le_of_ble_eq_true rfl) ?_
  exact Eq.mp (by kernel_rfl) (And.intro c16 (And.intro c18 (And.intro c24 (And.intro c25 (And.intro c26 (And.intro c34 (And.intro c35 (And.intro c36 (And.intro c48 (And.intro c54 (And.intro c60 (And.intro c65 (And.intro c68 (And.intro c75 (And.intro c80 (And.intro c87 (And.intro c95 (And.intro c109 (And.intro c116 (And.intro c117 (And.intro c123 (And.intro c126 (And.intro c130 kT)))))))))))))))))))))))
set_option maxRecDepth 100000 in
theorem tree_w7 (T : TrA va vb a b i j A B P Q ka kb false true true true false) (HL : Lan w) (hok : okP va P ka = true) (hw : ka = wid va) :
    Calls Tryz.prog 5 #[.agg (adr va a).toArray, .agg (adr vb b).toArray, .agg #[.int .i64 i, .int .i64 j]] w fun e w' => e = .returned (.bool true) ∧ Chg [] w w' := by
  have L : ∀ W, Chg [] w W → Lan W := fun W h => HL.chg0 h
  have lp := T.lp
  have lq := T.lq
  have bk : -9223372036854775808 ≤ (ka : Int) ∧ (ka : Int) ≤ 9223372036854775807 := ⟨by omega, by have := T.wa_; have := wid_le va; omega⟩
  have bj : -9223372036854775808 ≤ (kb : Int) ∧ (kb : Int) ≤ 9223372036854775807 := ⟨by omega, by have := T.wb_; have := wid_le vb; omega⟩
  have c16 := fun W (_ : Chg [] w W) => right_N va a W
  have c18 := fun W (_ : Chg [] w W) => right_N vb b W
  rw [← T.a_] at c16
  rw [← T.b_] at c18
  have c24 := fun W (_ : Chg [] w W) => width2_N va A W
  have c25 := fun W (_ : Chg [] w W) => to_chg (within_N i (wid va) (wid_le va) T.hi_ W)
  have c26 := fun W (_ : Chg [] w W) => of_is T.la_ T.oa_ (k := (ka : Int)) (by omega) (by have := T.wa_; omega) W
  have c34 := fun W (_ : Chg [] w W) => width2_N vb B W
  have c35 := fun W (_ : Chg [] w W) => to_chg (within_N j (wid vb) (wid_le vb) T.hj_ W)
  have c36 := fun W (_ : Chg [] w W) => of_is T.lb_ T.ob_ (k := (kb : Int)) (by omega) (by have := T.wb_; omega) W
  rw [← T.ka_] at c25
  rw [← T.kb_] at c35
  rw [Int.toNat_natCast, ← T.p_] at c26
  rw [Int.toNat_natCast, ← T.q_] at c36
  have c48 := fun W (_ : Chg [] w W) => has_N va P ka va A lp T.la_ W
  have c54 := fun W (_ : Chg [] w W) => has_N vb Q kb vb B lq T.lb_ W
  have c60 := fun W (_ : Chg [] w W) => covers_N va P ka va P ka lp lp W
  rw [show hasP va P ka va A = true by rw [T.p_]; exact tree_has va A ka T.wa_ T.oa_] at c48
  rw [show hasP vb Q kb vb B = true by rw [T.q_]; exact tree_has vb B kb T.wb_ T.ob_] at c54
  rw [show covP va P ka va P ka = true by rw [T.p_]; exact tree_cov va A ka T.wa_] at c60
  have c65 := fun W (_ : Chg [] w W) => covers_N va P ka vb Q kb lp lq W
  have c68 := fun W (_ : Chg [] w W) => covers_N vb Q kb va P ka lq lp W
  rw [← T.pq_] at c65
  rw [← T.qp_] at c68
  have c75 := fun W => beq29 (.tmp 73) (.tmp 74) va vb P Q ka kb lp lq bk bj W
  rw [T.same] at c75
  have c80 := fun W (_ : Chg [] w W) => has_N va P ka vb B lp T.lb_ W
  rw [← T.pb_] at c80
  have c87 := c80
  have c95 := fun W (_ : Chg [] w W) => has_N va P ka vb Q lp lq W
  have c100 := fun W (_ : Chg [] w W) => has_N vb Q kb va P lq lp W
  rw [← T.hx_] at c95
  rw [← T.hy_] at c100
  have c109 := fun W (_ : Chg [] w W) => halves_N va P ka lp W
  have c116 := fun W (_ : Chg [] w W) => width2_N va A W
  rw [show halP va P ka = ((false, 0, 0), (false, 0, 0), 5) by unfold halP; rw [if_pos hok, if_pos (by rw [hw])]] at c109
  have c117 : Value.bool ((ka : Int) == (wid va : Nat)) = .bool true := by rw [hw]; simp
  have c123 := c80
  have c126 := fun W => beq24 (.tmp 124) (.tmp 125) va vb A B T.la_ T.lb_ W
  rw [show decide (va = vb ∧ A = B) = true from (show hasP va P ka vb B = decide (va = vb ∧ A = B) by rw [T.p_, hw]; exact tree_one T.oa_ T.ob_).symm.trans T.pb_.symm] at c126
  have c130 := fun W (h : Chg [] w W) => works_N W (L W h)
  refine Sx.calls_is (args := [.agg (adr va a).toArray, .agg (adr vb b).toArray, .agg #[.int .i64 i, .int .i64 j]]) (hints1 va vb A B P Q ka kb false true true true false) [] (by kernel_rfl) Tryz.func5 rfl (Nat.le_of_ble_eq_true rfl) ?_
  exact Eq.mp (by kernel_rfl) (And.intro c16 (And.intro c18 (And.intro c24 (And.intro c25 (And.intro c26 (And.intro c34 (And.intro c35 (And.intro c36 (And.intro c48 (And.intro c54 (And.intro c60 (And.intro c65 (And.intro c68 (And.intro c75 (And.intro c80 (And.intro c87 (And.intro c95 (And.intro c109 (And.intro c116 (And.intro c117 (And.intro c123 (And.intro c126 (And.intro c130 kT)))))))))))))))))))))))
set_option maxRecDepth 100000 in
theorem tree_w8 (T : TrA va vb a b i j A B P Q ka kb false true true false true) (HL : Lan w) (hok : okP va P ka = true) (hw : ka = wid va) :
    Calls Tryz.prog 5 #[.agg (adr va a).toArray, .agg (adr vb b).toArray, .agg #[.int .i64 i, .int .i64 j]] w fun e w' => e = .returned (.bool true) ∧ Chg [] w w' := by
  have L : ∀ W, Chg [] w W → Lan W := fun W h => HL.chg0 h
  have lp := T.lp
  have lq := T.lq
  have bk : -9223372036854775808 ≤ (ka : Int) ∧ (ka : Int) ≤ 9223372036854775807 := ⟨by omega, by have := T.wa_; have := wid_le va; omega⟩
  have bj : -9223372036854775808 ≤ (kb : Int) ∧ (kb : Int) ≤ 9223372036854775807 := ⟨by omega, by have := T.wb_; have := wid_le vb; omega⟩
  have c16 := fun W (_ : Chg [] w W) => right_N va a W
  have c18 := fun W (_ : Chg [] w W) => right_N vb b W
  rw [← T.a_] at c16
  rw [← T.b_] at c18
  have c24 := fun W (_ : Chg [] w W) => width2_N va A W
  have c25 := fun W (_ : Chg [] w W) => to_chg (within_N i (wid va) (wid_le va) T.hi_ W)
  have c26 := fun W (_ : Chg [] w W) => of_is T.la_ T.oa_ (k := (ka : Int)) (by omega) (by have := T.wa_; omega) W
  have c34 := fun W (_ : Chg [] w W) => width2_N vb B W
  have c35 := fun W (_ : Chg [] w W) => to_chg (within_N j (wid vb) (wid_le vb) T.hj_ W)
  have c36 := fun W (_ : Chg [] w W) => of_is T.lb_ T.ob_ (k := (kb : Int)) (by omega) (by have := T.wb_; omega) W
  rw [← T.ka_] at c25
  rw [← T.kb_] at c35
  rw [Int.toNat_natCast, ← T.p_] at c26
  rw [Int.toNat_natCast, ← T.q_] at c36
  have c48 := fun W (_ : Chg [] w W) => has_N va P ka va A lp T.la_ W
  have c54 := fun W (_ : Chg [] w W) => has_N vb Q kb vb B lq T.lb_ W
  have c60 := fun W (_ : Chg [] w W) => covers_N va P ka va P ka lp lp W
  rw [show hasP va P ka va A = true by rw [T.p_]; exact tree_has va A ka T.wa_ T.oa_] at c48
  rw [show hasP vb Q kb vb B = true by rw [T.q_]; exact tree_has vb B kb T.wb_ T.ob_] at c54
  rw [show covP va P ka va P ka = true by rw [T.p_]; exact tree_cov va A ka T.wa_] at c60
  have c65 := fun W (_ : Chg [] w W) => covers_N va P ka vb Q kb lp lq W
  have c68 := fun W (_ : Chg [] w W) => covers_N vb Q kb va P ka lq lp W
  rw [← T.pq_] at c65
  rw [← T.qp_] at c68
  have c75 := fun W => beq29 (.tmp 73) (.tmp 74) va vb P Q ka kb lp lq bk bj W
  rw [T.same] at c75
  have c80 := fun W (_ : Chg [] w W) => has_N va P ka vb B lp T.lb_ W
  rw [← T.pb_] at c80
  have c87 := c80
  have c95 := fun W (_ : Chg [] w W) => has_N va P ka vb Q lp lq W
  have c100 := fun W (_ : Chg [] w W) => has_N vb Q kb va P lq lp W
  rw [← T.hx_] at c95
  rw [← T.hy_] at c100
  have c109 := fun W (_ : Chg [] w W) => halves_N va P ka lp W
  have c116 := fun W (_ : Chg [] w W) => width2_N va A W
  rw [show halP va P ka = ((false, 0, 0), (false, 0, 0), 5) by unfold halP; rw [if_pos hok, if_pos (by rw [hw])]] at c109
  have c117 : Value.bool ((ka : Int) == (wid va : Nat)) = .bool true := by rw [hw]; simp
  have c123 := c80
  have c126 := fun W => beq24 (.tmp 124) (.tmp 125) va vb A B T.la_ T.lb_ W
  rw [show decide (va = vb ∧ A = B) = true from (show hasP va P ka vb B = decide (va = vb ∧ A = B) by rw [T.p_, hw]; exact tree_one T.oa_ T.ob_).symm.trans T.pb_.symm] at c126
  have c130 := fun W (h : Chg [] w W) => works_N W (L W h)
  refine Sx.calls_is (args := [.agg (adr va a).toArray, .agg (adr vb b).toArray, .agg #[.int .i64 i, .int .i64 j]]) (hints1 va vb A B P Q ka kb false true true false true) [] (by kernel_rfl) Tryz.func5 rfl (Nat.le_of_ble_eq_true rfl) ?_
  exact Eq.mp (by kernel_rfl) (And.intro c16 (And.intro c18 (And.intro c24 (And.intro c25 (And.intro c26 (And.intro c34 (And.intro c35 (And.intro c36 (And.intro c48 (And.intro c54 (And.intro c60 (And.intro c65 (And.intro c68 (And.intro c75 (And.intro c80 (And.intro c87 (And.intro c95 (And.intro c100 (And.intro c109 (And.intro c116 (And.intro c117 (And.intro c123 (And.intro c126 (And.intro c130 kT))))))))))))))))))))))))
set_option maxRecDepth 100000 in
theorem tree_w9 (T : TrA va vb a b i j A B P Q ka kb false true false true true) (HL : Lan w) (hok : okP va P ka = true) (hw : ka = wid va) :
    Calls Tryz.prog 5 #[.agg (adr va a).toArray, .agg (adr vb b).toArray, .agg #[.int .i64 i, .int .i64 j]] w fun e w' => e = .returned (.bool true) ∧ Chg [] w w' := by
  have L : ∀ W, Chg [] w W → Lan W := fun W h => HL.chg0 h
  have lp := T.lp
  have lq := T.lq
  have bk : -9223372036854775808 ≤ (ka : Int) ∧ (ka : Int) ≤ 9223372036854775807 := ⟨by omega, by have := T.wa_; have := wid_le va; omega⟩
  have bj : -9223372036854775808 ≤ (kb : Int) ∧ (kb : Int) ≤ 9223372036854775807 := ⟨by omega, by have := T.wb_; have := wid_le vb; omega⟩
  have c16 := fun W (_ : Chg [] w W) => right_N va a W
  have c18 := fun W (_ : Chg [] w W) => right_N vb b W
  rw [← T.a_] at c16
  rw [← T.b_] at c18
  have c24 := fun W (_ : Chg [] w W) => width2_N va A W
  have c25 := fun W (_ : Chg [] w W) => to_chg (within_N i (wid va) (wid_le va) T.hi_ W)
  have c26 := fun W (_ : Chg [] w W) => of_is T.la_ T.oa_ (k := (ka : Int)) (by omega) (by have := T.wa_; omega) W
  have c34 := fun W (_ : Chg [] w W) => width2_N vb B W
  have c35 := fun W (_ : Chg [] w W) => to_chg (within_N j (wid vb) (wid_le vb) T.hj_ W)
  have c36 := fun W (_ : Chg [] w W) => of_is T.lb_ T.ob_ (k := (kb : Int)) (by omega) (by have := T.wb_; omega) W
  rw [← T.ka_] at c25
  rw [← T.kb_] at c35
  rw [Int.toNat_natCast, ← T.p_] at c26
  rw [Int.toNat_natCast, ← T.q_] at c36
  have c48 := fun W (_ : Chg [] w W) => has_N va P ka va A lp T.la_ W
  have c54 := fun W (_ : Chg [] w W) => has_N vb Q kb vb B lq T.lb_ W
  have c60 := fun W (_ : Chg [] w W) => covers_N va P ka va P ka lp lp W
  rw [show hasP va P ka va A = true by rw [T.p_]; exact tree_has va A ka T.wa_ T.oa_] at c48
  rw [show hasP vb Q kb vb B = true by rw [T.q_]; exact tree_has vb B kb T.wb_ T.ob_] at c54
  rw [show covP va P ka va P ka = true by rw [T.p_]; exact tree_cov va A ka T.wa_] at c60
  have c65 := fun W (_ : Chg [] w W) => covers_N va P ka vb Q kb lp lq W
  have c68 := fun W (_ : Chg [] w W) => covers_N vb Q kb va P ka lq lp W
  rw [← T.pq_] at c65
  rw [← T.qp_] at c68
  have c75 := fun W => beq29 (.tmp 73) (.tmp 74) va vb P Q ka kb lp lq bk bj W
  rw [T.same] at c75
  have c80 := fun W (_ : Chg [] w W) => has_N va P ka vb B lp T.lb_ W
  rw [← T.pb_] at c80
  have c87 := c80
  have c95 := fun W (_ : Chg [] w W) => has_N va P ka vb Q lp lq W
  have c100 := fun W (_ : Chg [] w W) => has_N vb Q kb va P lq lp W
  rw [← T.hx_] at c95
  rw [← T.hy_] at c100
  have c109 := fun W (_ : Chg [] w W) => halves_N va P ka lp W
  have c116 := fun W (_ : Chg [] w W) => width2_N va A W
  rw [show halP va P ka = ((false, 0, 0), (false, 0, 0), 5) by unfold halP; rw [if_pos hok, if_pos (by rw [hw])]] at c109
  have c117 : Value.bool ((ka : Int) == (wid va : Nat)) = .bool true := by rw [hw]; simp
  have c123 := c80
  have c126 := fun W => beq24 (.tmp 124) (.tmp 125) va vb A B T.la_ T.lb_ W
  rw [show decide (va = vb ∧ A = B) = false from (show hasP va P ka vb B = decide (va = vb ∧ A = B) by rw [T.p_, hw]; exact tree_one T.oa_ T.ob_).symm.trans T.pb_.symm] at c126
  have c130 := fun W (h : Chg [] w W) => works_N W (L W h)
  refine Sx.calls_is (args := [.agg (adr va a).toArray, .agg (adr vb b).toArray, .agg #[.int .i64 i, .int .i64 j]]) (hints1 va vb A B P Q ka kb false true false true true) [] (by kernel_rfl) Tryz.func5 rfl (Nat.le_of_ble_eq_true rfl) ?_
  exact Eq.mp (by kernel_rfl) (And.intro c16 (And.intro c18 (And.intro c24 (And.intro c25 (And.intro c26 (And.intro c34 (And.intro c35 (And.intro c36 (And.intro c48 (And.intro c54 (And.intro c60 (And.intro c65 (And.intro c68 (And.intro c75 (And.intro c80 (And.intro c87 (And.intro c95 (And.intro c109 (And.intro c116 (And.intro c117 (And.intro c123 (And.intro c126 (And.intro c130 kT)))))))))))))))))))))))
set_option maxRecDepth 100000 in
theorem tree_w10 (T : TrA va vb a b i j A B P Q ka kb false true false true false) (HL : Lan w) (hok : okP va P ka = true) (hw : ka = wid va) :
    Calls Tryz.prog 5 #[.agg (adr va a).toArray, .agg (adr vb b).toArray, .agg #[.int .i64 i, .int .i64 j]] w fun e w' => e = .returned (.bool true) ∧ Chg [] w w' := by
  have L : ∀ W, Chg [] w W → Lan W := fun W h => HL.chg0 h
  have lp := T.lp
  have lq := T.lq
  have bk : -9223372036854775808 ≤ (ka : Int) ∧ (ka : Int) ≤ 9223372036854775807 := ⟨by omega, by have := T.wa_; have := wid_le va; omega⟩
  have bj : -9223372036854775808 ≤ (kb : Int) ∧ (kb : Int) ≤ 9223372036854775807 := ⟨by omega, by have := T.wb_; have := wid_le vb; omega⟩
  have c16 := fun W (_ : Chg [] w W) => right_N va a W
  have c18 := fun W (_ : Chg [] w W) => right_N vb b W
  rw [← T.a_] at c16
  rw [← T.b_] at c18
  have c24 := fun W (_ : Chg [] w W) => width2_N va A W
  have c25 := fun W (_ : Chg [] w W) => to_chg (within_N i (wid va) (wid_le va) T.hi_ W)
  have c26 := fun W (_ : Chg [] w W) => of_is T.la_ T.oa_ (k := (ka : Int)) (by omega) (by have := T.wa_; omega) W
  have c34 := fun W (_ : Chg [] w W) => width2_N vb B W
  have c35 := fun W (_ : Chg [] w W) => to_chg (within_N j (wid vb) (wid_le vb) T.hj_ W)
  have c36 := fun W (_ : Chg [] w W) => of_is T.lb_ T.ob_ (k := (kb : Int)) (by omega) (by have := T.wb_; omega) W
  rw [← T.ka_] at c25
  rw [← T.kb_] at c35
  rw [Int.toNat_natCast, ← T.p_] at c26
  rw [Int.toNat_natCast, ← T.q_] at c36
  have c48 := fun W (_ : Chg [] w W) => has_N va P ka va A lp T.la_ W
  have c54 := fun W (_ : Chg [] w W) => has_N vb Q kb vb B lq T.lb_ W
  have c60 := fun W (_ : Chg [] w W) => covers_N va P ka va P ka lp lp W
  rw [show hasP va P ka va A = true by rw [T.p_]; exact tree_has va A ka T.wa_ T.oa_] at c48
  rw [show hasP vb Q kb vb B = true by rw [T.q_]; exact tree_has vb B kb T.wb_ T.ob_] at c54
  rw [show covP va P ka va P ka = true by rw [T.p_]; exact tree_cov va A ka T.wa_] at c60
  have c65 := fun W (_ : Chg [] w W) => covers_N va P ka vb Q kb lp lq W
  have c68 := fun W (_ : Chg [] w W) => covers_N vb Q kb va P ka lq lp W
  rw [← T.pq_] at c65
  rw [← T.qp_] at c68
  have c75 := fun W => beq29 (.tmp 73) (.tmp 74) va vb P Q ka kb lp lq bk bj W
  rw [T.same] at c75
  have c80 := fun W (_ : Chg [] w W) => has_N va P ka vb B lp T.lb_ W
  rw [← T.pb_] at c80
  have c87 := c80
  have c95 := fun W (_ : Chg [] w W) => has_N va P ka vb Q lp lq W
  have c100 := fun W (_ : Chg [] w W) => has_N vb Q kb va P lq lp W
  rw [← T.hx_] at c95
  rw [← T.hy_] at c100
  have c109 := fun W (_ : Chg [] w W) => halves_N va P ka lp W
  have c116 := fun W (_ : Chg [] w W) => width2_N va A W
  rw [show halP va P ka = ((false, 0, 0), (false, 0, 0), 5) by unfold halP; rw [if_pos hok, if_pos (by rw [hw])]] at c109
  have c117 : Value.bool ((ka : Int) == (wid va : Nat)) = .bool true := by rw [hw]; simp
  have c123 := c80
  have c126 := fun W => beq24 (.tmp 124) (.tmp 125) va vb A B T.la_ T.lb_ W
  rw [show decide (va = vb ∧ A = B) = false from (show hasP va P ka vb B = decide (va = vb ∧ A = B) by rw [T.p_, hw]; exact tree_one T.oa_ T.ob_).symm.trans T.pb_.symm] at c126
  have c130 := fun W (h : Chg [] w W) => works_N W (L W h)
  refine Sx.calls_is (args := [.agg (adr va a).toArray, .agg (adr vb b).toArray, .agg #[.int .i64 i, .int .i64 j]]) (hints1 va vb A B P Q ka kb false true false true false) [] (by kernel_rfl) Tryz.func5 rfl (Nat.le_of_ble_eq_true rfl) ?_
  exact Eq.mp (by kernel_rfl) (And.intro c16 (And.intro c18 (And.intro c24 (And.intro c25 (And.intro c26 (And.intro c34 (And.intro c35 (And.intro c36 (And.intro c48 (And.intro c54 (And.intro c60 (And.intro c65 (And.intro c68 (And.intro c75 (And.intro c80 (And.intro c87 (And.intro c95 (And.intro c109 (And.intro c116 (And.intro c117 (And.intro c123 (And.intro c126 (And.intro c130 kT)))))))))))))))))))))))
set_option maxRecDepth 100000 in
theorem tree_w11 (T : TrA va vb a b i j A B P Q ka kb false true false false true) (HL : Lan w) (hok : okP va P ka = true) (hw : ka = wid va) :
    Calls Tryz.prog 5 #[.agg (adr va a).toArray, .agg (adr vb b).toArray, .agg #[.int .i64 i, .int .i64 j]] w fun e w' => e = .returned (.bool true) ∧ Chg [] w w' := by
  have L : ∀ W, Chg [] w W → Lan W := fun W h => HL.chg0 h
  have lp := T.lp
  have lq := T.lq
  have bk : -9223372036854775808 ≤ (ka : Int) ∧ (ka : Int) ≤ 9223372036854775807 := ⟨by omega, by have := T.wa_; have := wid_le va; omega⟩
  have bj : -9223372036854775808 ≤ (kb : Int) ∧ (kb : Int) ≤ 9223372036854775807 := ⟨by omega, by have := T.wb_; have := wid_le vb; omega⟩
  have c16 := fun W (_ : Chg [] w W) => right_N va a W
  have c18 := fun W (_ : Chg [] w W) => right_N vb b W
  rw [← T.a_] at c16
  rw [← T.b_] at c18
  have c24 := fun W (_ : Chg [] w W) => width2_N va A W
  have c25 := fun W (_ : Chg [] w W) => to_chg (within_N i (wid va) (wid_le va) T.hi_ W)
  have c26 := fun W (_ : Chg [] w W) => of_is T.la_ T.oa_ (k := (ka : Int)) (by omega) (by have := T.wa_; omega) W
  have c34 := fun W (_ : Chg [] w W) => width2_N vb B W
  have c35 := fun W (_ : Chg [] w W) => to_chg (within_N j (wid vb) (wid_le vb) T.hj_ W)
  have c36 := fun W (_ : Chg [] w W) => of_is T.lb_ T.ob_ (k := (kb : Int)) (by omega) (by have := T.wb_; omega) W
  rw [← T.ka_] at c25
  rw [← T.kb_] at c35
  rw [Int.toNat_natCast, ← T.p_] at c26
  rw [Int.toNat_natCast, ← T.q_] at c36
  have c48 := fun W (_ : Chg [] w W) => has_N va P ka va A lp T.la_ W
  have c54 := fun W (_ : Chg [] w W) => has_N vb Q kb vb B lq T.lb_ W
  have c60 := fun W (_ : Chg [] w W) => covers_N va P ka va P ka lp lp W
  rw [show hasP va P ka va A = true by rw [T.p_]; exact tree_has va A ka T.wa_ T.oa_] at c48
  rw [show hasP vb Q kb vb B = true by rw [T.q_]; exact tree_has vb B kb T.wb_ T.ob_] at c54
  rw [show covP va P ka va P ka = true by rw [T.p_]; exact tree_cov va A ka T.wa_] at c60
  have c65 := fun W (_ : Chg [] w W) => covers_N va P ka vb Q kb lp lq W
  have c68 := fun W (_ : Chg [] w W) => covers_N vb Q kb va P ka lq lp W
  rw [← T.pq_] at c65
  rw [← T.qp_] at c68
  have c75 := fun W => beq29 (.tmp 73) (.tmp 74) va vb P Q ka kb lp lq bk bj W
  rw [T.same] at c75
  have c80 := fun W (_ : Chg [] w W) => has_N va P ka vb B lp T.lb_ W
  rw [← T.pb_] at c80
  have c87 := c80
  have c95 := fun W (_ : Chg [] w W) => has_N va P ka vb Q lp lq W
  have c100 := fun W (_ : Chg [] w W) => has_N vb Q kb va P lq lp W
  rw [← T.hx_] at c95
  rw [← T.hy_] at c100
  have c109 := fun W (_ : Chg [] w W) => halves_N va P ka lp W
  have c116 := fun W (_ : Chg [] w W) => width2_N va A W
  rw [show halP va P ka = ((false, 0, 0), (false, 0, 0), 5) by unfold halP; rw [if_pos hok, if_pos (by rw [hw])]] at c109
  have c117 : Value.bool ((ka : Int) == (wid va : Nat)) = .bool true := by rw [hw]; simp
  have c123 := c80
  have c126 := fun W => beq24 (.tmp 124) (.tmp 125) va vb A B T.la_ T.lb_ W
  rw [show decide (va = vb ∧ A = B) = false from (show hasP va P ka vb B = decide (va = vb ∧ A = B) by rw [T.p_, hw]; exact tree_one T.oa_ T.ob_).symm.trans T.pb_.symm] at c126
  have c130 := fun W (h : Chg [] w W) => works_N W (L W h)
  refine Sx.calls_is (args := [.agg (adr va a).toArray, .agg (adr vb b).toArray, .agg #[.int .i64 i, .int .i64 j]]) (hints1 va vb A B P Q ka kb false true false false true) [] (by kernel_rfl) Tryz.func5 rfl (Nat.le_of_ble_eq_true rfl) ?_
  exact Eq.mp (by kernel_rfl) (And.intro c16 (And.intro c18 (And.intro c24 (And.intro c25 (And.intro c26 (And.intro c34 (And.intro c35 (And.intro c36 (And.intro c48 (And.intro c54 (And.intro c60 (And.intro c65 (And.intro c68 (And.intro c75 (And.intro c80 (And.intro c87 (And.intro c95 (And.intro c100 (And.intro c109 (And.intro c116 (And.intro c117 (And.intro c123 (And.intro c126 (And.intro c130 kT))))))))))))))))))))))))
set_option maxRecDepth 100000 in
theorem tree_w12 (T : TrA va vb a b i j A B P Q ka kb false false false false false) (HL : Lan w) (hok : okP va P ka = true) (hw : ka = wid va) :
    Calls Tryz.prog 5 #[.agg (adr va a).toArray, .agg (adr vb b).toArray, .agg #[.int .i64 i, .int .i64 j]] w fun e w' => e = .returned (.bool true) ∧ Chg [] w w' := by
  have L : ∀ W, Chg [] w W → Lan W := fun W h => HL.chg0 h
  have lp := T.lp
  have lq := T.lq
  have bk : -9223372036854775808 ≤ (ka : Int) ∧ (ka : Int) ≤ 9223372036854775807 := ⟨by omega, by have := T.wa_; have := wid_le va; omega⟩
  have bj : -9223372036854775808 ≤ (kb : Int) ∧ (kb : Int) ≤ 9223372036854775807 := ⟨by omega, by have := T.wb_; have := wid_le vb; omega⟩
  have c16 := fun W (_ : Chg [] w W) => right_N va a W
  have c18 := fun W (_ : Chg [] w W) => right_N vb b W
  rw [← T.a_] at c16
  rw [← T.b_] at c18
  have c24 := fun W (_ : Chg [] w W) => width2_N va A W
  have c25 := fun W (_ : Chg [] w W) => to_chg (within_N i (wid va) (wid_le va) T.hi_ W)
  have c26 := fun W (_ : Chg [] w W) => of_is T.la_ T.oa_ (k := (ka : Int)) (by omega) (by have := T.wa_; omega) W
  have c34 := fun W (_ : Chg [] w W) => width2_N vb B W
  have c35 := fun W (_ : Chg [] w W) => to_chg (within_N j (wid vb) (wid_le vb) T.hj_ W)
  have c36 := fun W (_ : Chg [] w W) => of_is T.lb_ T.ob_ (k := (kb : Int)) (by omega) (by have := T.wb_; omega) W
  rw [← T.ka_] at c25
  rw [← T.kb_] at c35
  rw [Int.toNat_natCast, ← T.p_] at c26
  rw [Int.toNat_natCast, ← T.q_] at c36
  have c48 := fun W (_ : Chg [] w W) => has_N va P ka va A lp T.la_ W
  have c54 := fun W (_ : Chg [] w W) => has_N vb Q kb vb B lq T.lb_ W
  have c60 := fun W (_ : Chg [] w W) => covers_N va P ka va P ka lp lp W
  rw [show hasP va P ka va A = true by rw [T.p_]; exact tree_has va A ka T.wa_ T.oa_] at c48
  rw [show hasP vb Q kb vb B = true by rw [T.q_]; exact tree_has vb B kb T.wb_ T.ob_] at c54
  rw [show covP va P ka va P ka = true by rw [T.p_]; exact tree_cov va A ka T.wa_] at c60
  have c65 := fun W (_ : Chg [] w W) => covers_N va P ka vb Q kb lp lq W
  have c68 := fun W (_ : Chg [] w W) => covers_N vb Q kb va P ka lq lp W
  rw [← T.pq_] at c65
  rw [← T.qp_] at c68
  have c75 := fun W => beq29 (.tmp 73) (.tmp 74) va vb P Q ka kb lp lq bk bj W
  rw [T.same] at c75
  have c80 := fun W (_ : Chg [] w W) => has_N va P ka vb B lp T.lb_ W
  rw [← T.pb_] at c80
  have c87 := c80
  have c95 := fun W (_ : Chg [] w W) => has_N va P ka vb Q lp lq W
  have c100 := fun W (_ : Chg [] w W) => has_N vb Q kb va P lq lp W
  rw [← T.hx_] at c95
  rw [← T.hy_] at c100
  have c109 := fun W (_ : Chg [] w W) => halves_N va P ka lp W
  have c116 := fun W (_ : Chg [] w W) => width2_N va A W
  rw [show halP va P ka = ((false, 0, 0), (false, 0, 0), 5) by unfold halP; rw [if_pos hok, if_pos (by rw [hw])]] at c109
  have c117 : Value.bool ((ka : Int) == (wid va : Nat)) = .bool true := by rw [hw]; simp
  have c123 := c80
  have c126 := fun W => beq24 (.tmp 124) (.tmp 125) va vb A B T.la_ T.lb_ W
  rw [show decide (va = vb ∧ A = B) = false from (show hasP va P ka vb B = decide (va = vb ∧ A = B) by rw [T.p_, hw]; exact tree_one T.oa_ T.ob_).symm.trans T.pb_.symm] at c126
  have c130 := fun W (h : Chg [] w W) => works_N W (L W h)
  refine Sx.calls_is (args := [.agg (adr va a).toArray, .agg (adr vb b).toArray, .agg #[.int .i64 i, .int .i64 j]]) (hints1 va vb A B P Q ka kb false false false false false) [] (by kernel_rfl) Tryz.func5 rfl (Nat.le_of_ble_eq_true rfl) ?_
  exact Eq.mp (by kernel_rfl) (And.intro c16 (And.intro c18 (And.intro c24 (And.intro c25 (And.intro c26 (And.intro c34 (And.intro c35 (And.intro c36 (And.intro c48 (And.intro c54 (And.intro c60 (And.intro c65 (And.intro c68 (And.intro c75 (And.intro c80 (And.intro c95 (And.intro c100 (And.intro c109 (And.intro c116 (And.intro c117 (And.intro c123 (And.intro c126 (And.intro c130 kT)))))))))))))))))))))))
set_option maxRecDepth 100000 in
theorem tree_l0 (T : TrA va vb a b i j A B P Q ka kb true true true true true) (HL : Lan w) (hok : okP va P ka = true) {Y : Nat} (hw : ka < wid va) (hY : Y = highN (maskN A ka) ka) (hYl : Y < 2 ^ 128) (hxb : true = hasP va P ((ka : Int) + 1) vb B) (hyb : false = hasP va Y ((ka : Int) + 1) vb B) :
    Calls Tryz.prog 5 #[.agg (adr va a).toArray, .agg (adr vb b).toArray, .agg #[.int .i64 i, .int .i64 j]] w fun e w' => e = .returned (.bool true) ∧ Chg [] w w' := by
  have L : ∀ W, Chg [] w W → Lan W := fun W h => HL.chg0 h
  have lp := T.lp
  have lq := T.lq
  have bk : -9223372036854775808 ≤ (ka : Int) ∧ (ka : Int) ≤ 9223372036854775807 := ⟨by omega, by have := T.wa_; have := wid_le va; omega⟩
  have bj : -9223372036854775808 ≤ (kb : Int) ∧ (kb : Int) ≤ 9223372036854775807 := ⟨by omega, by have := T.wb_; have := wid_le vb; omega⟩
  have c16 := fun W (_ : Chg [] w W) => right_N va a W
  have c18 := fun W (_ : Chg [] w W) => right_N vb b W
  rw [← T.a_] at c16
  rw [← T.b_] at c18
  have c24 := fun W (_ : Chg [] w W) => width2_N va A W
  have c25 := fun W (_ : Chg [] w W) => to_chg (within_N i (wid va) (wid_le va) T.hi_ W)
  have c26 := fun W (_ : Chg [] w W) => of_is T.la_ T.oa_ (k := (ka : Int)) (by omega) (by have := T.wa_; omega) W
  have c34 := fun W (_ : Chg [] w W) => width2_N vb B W
  have c35 := fun W (_ : Chg [] w W) => to_chg (within_N j (wid vb) (wid_le vb) T.hj_ W)
  have c36 := fun W (_ : Chg [] w W) => of_is T.lb_ T.ob_ (k := (kb : Int)) (by omega) (by have := T.wb_; omega) W
  rw [← T.ka_] at c25
  rw [← T.kb_] at c35
  rw [Int.toNat_natCast, ← T.p_] at c26
  rw [Int.toNat_natCast, ← T.q_] at c36
  have c48 := fun W (_ : Chg [] w W) => has_N va P ka va A lp T.la_ W
  have c54 := fun W (_ : Chg [] w W) => has_N vb Q kb vb B lq T.lb_ W
  have c60 := fun W (_ : Chg [] w W) => covers_N va P ka va P ka lp lp W
  rw [show hasP va P ka va A = true by rw [T.p_]; exact tree_has va A ka T.wa_ T.oa_] at c48
  rw [show hasP vb Q kb vb B = true by rw [T.q_]; exact tree_has vb B kb T.wb_ T.ob_] at c54
  rw [show covP va P ka va P ka = true by rw [T.p_]; exact tree_cov va A ka T.wa_] at c60
  have c65 := fun W (_ : Chg [] w W) => covers_N va P ka vb Q kb lp lq W
  have c68 := fun W (_ : Chg [] w W) => covers_N vb Q kb va P ka lq lp W
  rw [← T.pq_] at c65
  rw [← T.qp_] at c68
  have c75 := fun W => beq29 (.tmp 73) (.tmp 74) va vb P Q ka kb lp lq bk bj W
  rw [T.same] at c75
  have c80 := fun W (_ : Chg [] w W) => has_N va P ka vb B lp T.lb_ W
  rw [← T.pb_] at c80
  have c87 := c80
  have c95 := fun W (_ : Chg [] w W) => has_N va P ka vb Q lp lq W
  have c100 := fun W (_ : Chg [] w W) => has_N vb Q kb va P lq lp W
  rw [← T.hx_] at c95
  rw [← T.hy_] at c100
  have c109 := fun W (_ : Chg [] w W) => halves_N va P ka lp W
  have c116 := fun W (_ : Chg [] w W) => width2_N va A W
  rw [show halP va P ka = ((va, P, (ka : Int) + 1), (va, Y, (ka : Int) + 1), 0) by unfold halP; rw [if_pos hok, if_neg (by omega), hY, T.p_, Int.toNat_natCast]] at c109
  have c117 : Value.bool ((ka : Int) == (wid va : Nat)) = .bool false := by rw [beq_eq_false_iff_ne.2 (by omega)]
  have lY : Y < 2 ^ 128 := hYl
  have c137 := fun W (_ : Chg [] w W) => has_N va P ((ka : Int) + 1) va A lp T.la_ W
  have c140 := fun W (_ : Chg [] w W) => has_N va Y ((ka : Int) + 1) va A lY T.la_ W
  rw [show hasP va Y ((ka : Int) + 1) va A = !hasP va P ((ka : Int) + 1) va A by rw [hY, T.p_]; exact tree_either A ka va hw T.oa_] at c140
  have c141 := eq_not (hasP va P ((ka : Int) + 1) va A)
  have c146 := c80
  have c149 := fun W (_ : Chg [] w W) => has_N va P ((ka : Int) + 1) vb B lp T.lb_ W
  rw [← hxb] at c149
  have c153 := fun W (_ : Chg [] w W) => has_N va Y ((ka : Int) + 1) vb B lY T.lb_ W
  rw [← hyb] at c153
  have c160 := c149
  have c164 := c153
  have c170 := fun W (_ : Chg [] w W) => compare_N va P ((ka : Int) + 1) va Y ((ka : Int) + 1) lp lY W
  rw [show cmpP va P ((ka : Int) + 1) va Y ((ka : Int) + 1) = -1 by rw [hY, T.p_]; exact tree_rise A ka va hw] at c170
  have c176 := fun W (_ : Chg [] w W) => compare_N va P ka va P ((ka : Int) + 1) lp lp W
  rw [show cmpP va P ka va P ((ka : Int) + 1) = -1 by rw [T.p_]; exact tree_first A ka va] at c176
  have c181 := fun W (_ : Chg [] w W) => covers_N va P ka va P ((ka : Int) + 1) lp lp W
  rw [show covP va P ka va P ((ka : Int) + 1) = true by rw [T.p_]; exact tree_low A ka va hw] at c181
  have c185 := fun W (_ : Chg [] w W) => covers_N va P ka va Y ((ka : Int) + 1) lp lY W
  rw [show covP va P ka va Y ((ka : Int) + 1) = true by rw [hY, T.p_]; exact tree_high A ka va hw] at c185
  have c190 := fun W (_ : Chg [] w W) => covers_N va P ((ka : Int) + 1) va Y ((ka : Int) + 1) lp lY W
  rw [show covP va P ((ka : Int) + 1) va Y ((ka : Int) + 1) = false by rw [hY, T.p_]; exact tree_off1 A ka va hw] at c190
  have c196 := fun W (_ : Chg [] w W) => covers_N va Y ((ka : Int) + 1) va P ((ka : Int) + 1) lY lp W
  rw [show covP va Y ((ka : Int) + 1) va P ((ka : Int) + 1) = false by rw [hY, T.p_]; exact tree_off2 A ka va hw] at c196
  have c200 := fun W (h : Chg [] w W) => works_N W (L W h)
  refine Sx.calls_is (args := [.agg (adr va a).toArray, .agg (adr vb b).toArray, .agg #[.int .i64 i, .int .i64 j]]) (hints2 va vb A B P Q ka kb Y true true true true true true false) [] (by kernel_rfl) Tryz.func5 rfl (Nat.le_of_ble_eq_true rfl) ?_
  exact Eq.mp (by kernel_rfl) (And.intro c16 (And.intro c18 (And.intro c24 (And.intro c25 (And.intro c26 (And.intro c34 (And.intro c35 (And.intro c36 (And.intro c48 (And.intro c54 (And.intro c60 (And.intro c65 (And.intro c68 (And.intro c75 (And.intro c80 (And.intro c95 (And.intro c109 (And.intro c116 (And.intro c117 (And.intro c137 (And.intro c140 (And.intro c141 (And.intro c146 (And.intro c149 (And.intro c160 (And.intro c164 (And.intro c170 (And.intro c176 (And.intro c181 (And.intro c185 (And.intro c190 (And.intro c196 (And.intro c200 kT)))))))))))))))))))))))))))))))))
set_option maxRecDepth 100000 in
theorem tree_l1 (T : TrA va vb a b i j A B P Q ka kb true true true true true) (HL : Lan w) (hok : okP va P ka = true) {Y : Nat} (hw : ka < wid va) (hY : Y = highN (maskN A ka) ka) (hYl : Y < 2 ^ 128) (hxb : false = hasP va P ((ka : Int) + 1) vb B) (hyb : true = hasP va Y ((ka : Int) + 1) vb B) :
    Calls Tryz.prog 5 #[.agg (adr va a).toArray, .agg (adr vb b).toArray, .agg #[.int .i64 i, .int .i64 j]] w fun e w' => e = .returned (.bool true) ∧ Chg [] w w' := by
  have L : ∀ W, Chg [] w W → Lan W := fun W h => HL.chg0 h
  have lp := T.lp
  have lq := T.lq
  have bk : -9223372036854775808 ≤ (ka : Int) ∧ (ka : Int) ≤ 9223372036854775807 := ⟨by omega, by have := T.wa_; have := wid_le va; omega⟩
  have bj : -9223372036854775808 ≤ (kb : Int) ∧ (kb : Int) ≤ 9223372036854775807 := ⟨by omega, by have := T.wb_; have := wid_le vb; omega⟩
  have c16 := fun W (_ : Chg [] w W) => right_N va a W
  have c18 := fun W (_ : Chg [] w W) => right_N vb b W
  rw [← T.a_] at c16
  rw [← T.b_] at c18
  have c24 := fun W (_ : Chg [] w W) => width2_N va A W
  have c25 := fun W (_ : Chg [] w W) => to_chg (within_N i (wid va) (wid_le va) T.hi_ W)
  have c26 := fun W (_ : Chg [] w W) => of_is T.la_ T.oa_ (k := (ka : Int)) (by omega) (by have := T.wa_; omega) W
  have c34 := fun W (_ : Chg [] w W) => width2_N vb B W
  have c35 := fun W (_ : Chg [] w W) => to_chg (within_N j (wid vb) (wid_le vb) T.hj_ W)
  have c36 := fun W (_ : Chg [] w W) => of_is T.lb_ T.ob_ (k := (kb : Int)) (by omega) (by have := T.wb_; omega) W
  rw [← T.ka_] at c25
  rw [← T.kb_] at c35
  rw [Int.toNat_natCast, ← T.p_] at c26
  rw [Int.toNat_natCast, ← T.q_] at c36
  have c48 := fun W (_ : Chg [] w W) => has_N va P ka va A lp T.la_ W
  have c54 := fun W (_ : Chg [] w W) => has_N vb Q kb vb B lq T.lb_ W
  have c60 := fun W (_ : Chg [] w W) => covers_N va P ka va P ka lp lp W
  rw [show hasP va P ka va A = true by rw [T.p_]; exact tree_has va A ka T.wa_ T.oa_] at c48
  rw [show hasP vb Q kb vb B = true by rw [T.q_]; exact tree_has vb B kb T.wb_ T.ob_] at c54
  rw [show covP va P ka va P ka = true by rw [T.p_]; exact tree_cov va A ka T.wa_] at c60
  have c65 := fun W (_ : Chg [] w W) => covers_N va P ka vb Q kb lp lq W
  have c68 := fun W (_ : Chg [] w W) => covers_N vb Q kb va P ka lq lp W
  rw [← T.pq_] at c65
  rw [← T.qp_] at c68
  have c75 := fun W => beq29 (.tmp 73) (.tmp 74) va vb P Q ka kb lp lq bk bj W
  rw [T.same] at c75
  have c80 := fun W (_ : Chg [] w W) => has_N va P ka vb B lp T.lb_ W
  rw [← T.pb_] at c80
  have c87 := c80
  have c95 := fun W (_ : Chg [] w W) => has_N va P ka vb Q lp lq W
  have c100 := fun W (_ : Chg [] w W) => has_N vb Q kb va P lq lp W
  rw [← T.hx_] at c95
  rw [← T.hy_] at c100
  have c109 := fun W (_ : Chg [] w W) => halves_N va P ka lp W
  have c116 := fun W (_ : Chg [] w W) => width2_N va A W
  rw [show halP va P ka = ((va, P, (ka : Int) + 1), (va, Y, (ka : Int) + 1), 0) by unfold halP; rw [if_pos hok, if_neg (by omega), hY, T.p_, Int.toNat_natCast]] at c109
  have c117 : Value.bool ((ka : Int) == (wid va : Nat)) = .bool false := by rw [beq_eq_false_iff_ne.2 (by omega)]
  have lY : Y < 2 ^ 128 := hYl
  have c137 := fun W (_ : Chg [] w W) => has_N va P ((ka : Int) + 1) va A lp T.la_ W
  have c140 := fun W (_ : Chg [] w W) => has_N va Y ((ka : Int) + 1) va A lY T.la_ W
  rw [show hasP va Y ((ka : Int) + 1) va A = !hasP va P ((ka : Int) + 1) va A by rw [hY, T.p_]; exact tree_either A ka va hw T.oa_] at c140
  have c141 := eq_not (hasP va P ((ka : Int) + 1) va A)
  have c146 := c80
  have c149 := fun W (_ : Chg [] w W) => has_N va P ((ka : Int) + 1) vb B lp T.lb_ W
  rw [← hxb] at c149
  have c153 := fun W (_ : Chg [] w W) => has_N va Y ((ka : Int) + 1) vb B lY T.lb_ W
  rw [← hyb] at c153
  have c160 := c149
  have c164 := c153
  have c170 := fun W (_ : Chg [] w W) => compare_N va P ((ka : Int) + 1) va Y ((ka : Int) + 1) lp lY W
  rw [show cmpP va P ((ka : Int) + 1) va Y ((ka : Int) + 1) = -1 by rw [hY, T.p_]; exact tree_rise A ka va hw] at c170
  have c176 := fun W (_ : Chg [] w W) => compare_N va P ka va P ((ka : Int) + 1) lp lp W
  rw [show cmpP va P ka va P ((ka : Int) + 1) = -1 by rw [T.p_]; exact tree_first A ka va] at c176
  have c181 := fun W (_ : Chg [] w W) => covers_N va P ka va P ((ka : Int) + 1) lp lp W
  rw [show covP va P ka va P ((ka : Int) + 1) = true by rw [T.p_]; exact tree_low A ka va hw] at c181
  have c185 := fun W (_ : Chg [] w W) => covers_N va P ka va Y ((ka : Int) + 1) lp lY W
  rw [show covP va P ka va Y ((ka : Int) + 1) = true by rw [hY, T.p_]; exact tree_high A ka va hw] at c185
  have c190 := fun W (_ : Chg [] w W) => covers_N va P ((ka : Int) + 1) va Y ((ka : Int) + 1) lp lY W
  rw [show covP va P ((ka : Int) + 1) va Y ((ka : Int) + 1) = false by rw [hY, T.p_]; exact tree_off1 A ka va hw] at c190
  have c196 := fun W (_ : Chg [] w W) => covers_N va Y ((ka : Int) + 1) va P ((ka : Int) + 1) lY lp W
  rw [show covP va Y ((ka : Int) + 1) va P ((ka : Int) + 1) = false by rw [hY, T.p_]; exact tree_off2 A ka va hw] at c196
  have c200 := fun W (h : Chg [] w W) => works_N W (L W h)
  refine Sx.calls_is (args := [.agg (adr va a).toArray, .agg (adr vb b).toArray, .agg #[.int .i64 i, .int .i64 j]]) (hints2 va vb A B P Q ka kb Y true true true true true false true) [] (by kernel_rfl) Tryz.func5 rfl (Nat.le_of_ble_eq_true rfl) ?_
  exact Eq.mp (by kernel_rfl) (And.intro c16 (And.intro c18 (And.intro c24 (And.intro c25 (And.intro c26 (And.intro c34 (And.intro c35 (And.intro c36 (And.intro c48 (And.intro c54 (And.intro c60 (And.intro c65 (And.intro c68 (And.intro c75 (And.intro c80 (And.intro c95 (And.intro c109 (And.intro c116 (And.intro c117 (And.intro c137 (And.intro c140 (And.intro c141 (And.intro c146 (And.intro c149 (And.intro c153 (And.intro c160 (And.intro c170 (And.intro c176 (And.intro c181 (And.intro c185 (And.intro c190 (And.intro c196 (And.intro c200 kT)))))))))))))))))))))))))))))))))
set_option maxRecDepth 100000 in
theorem tree_l2 (T : TrA va vb a b i j A B P Q ka kb true true true true false) (HL : Lan w) (hok : okP va P ka = true) {Y : Nat} (hw : ka < wid va) (hY : Y = highN (maskN A ka) ka) (hYl : Y < 2 ^ 128) (hxb : true = hasP va P ((ka : Int) + 1) vb B) (hyb : false = hasP va Y ((ka : Int) + 1) vb B) :
    Calls Tryz.prog 5 #[.agg (adr va a).toArray, .agg (adr vb b).toArray, .agg #[.int .i64 i, .int .i64 j]] w fun e w' => e = .returned (.bool true) ∧ Chg [] w w' := by
  have L : ∀ W, Chg [] w W → Lan W := fun W h => HL.chg0 h
  have lp := T.lp
  have lq := T.lq
  have bk : -9223372036854775808 ≤ (ka : Int) ∧ (ka : Int) ≤ 9223372036854775807 := ⟨by omega, by have := T.wa_; have := wid_le va; omega⟩
  have bj : -9223372036854775808 ≤ (kb : Int) ∧ (kb : Int) ≤ 9223372036854775807 := ⟨by omega, by have := T.wb_; have := wid_le vb; omega⟩
  have c16 := fun W (_ : Chg [] w W) => right_N va a W
  have c18 := fun W (_ : Chg [] w W) => right_N vb b W
  rw [← T.a_] at c16
  rw [← T.b_] at c18
  have c24 := fun W (_ : Chg [] w W) => width2_N va A W
  have c25 := fun W (_ : Chg [] w W) => to_chg (within_N i (wid va) (wid_le va) T.hi_ W)
  have c26 := fun W (_ : Chg [] w W) => of_is T.la_ T.oa_ (k := (ka : Int)) (by omega) (by have := T.wa_; omega) W
  have c34 := fun W (_ : Chg [] w W) => width2_N vb B W
  have c35 := fun W (_ : Chg [] w W) => to_chg (within_N j (wid vb) (wid_le vb) T.hj_ W)
  have c36 := fun W (_ : Chg [] w W) => of_is T.lb_ T.ob_ (k := (kb : Int)) (by omega) (by have := T.wb_; omega) W
  rw [← T.ka_] at c25
  rw [← T.kb_] at c35
  rw [Int.toNat_natCast, ← T.p_] at c26
  rw [Int.toNat_natCast, ← T.q_] at c36
  have c48 := fun W (_ : Chg [] w W) => has_N va P ka va A lp T.la_ W
  have c54 := fun W (_ : Chg [] w W) => has_N vb Q kb vb B lq T.lb_ W
  have c60 := fun W (_ : Chg [] w W) => covers_N va P ka va P ka lp lp W
  rw [show hasP va P ka va A = true by rw [T.p_]; exact tree_has va A ka T.wa_ T.oa_] at c48
  rw [show hasP vb Q kb vb B = true by rw [T.q_]; exact tree_has vb B kb T.wb_ T.ob_] at c54
  rw [show covP va P ka va P ka = true by rw [T.p_]; exact tree_cov va A ka T.wa_] at c60
  have c65 := fun W (_ : Chg [] w W) => covers_N va P ka vb Q kb lp lq W
  have c68 := fun W (_ : Chg [] w W) => covers_N vb Q kb va P ka lq lp W
  rw [← T.pq_] at c65
  rw [← T.qp_] at c68
  have c75 := fun W => beq29 (.tmp 73) (.tmp 74) va vb P Q ka kb lp lq bk bj W
  rw [T.same] at c75
  have c80 := fun W (_ : Chg [] w W) => has_N va P ka vb B lp T.lb_ W
  rw [← T.pb_] at c80
  have c87 := c80
  have c95 := fun W (_ : Chg [] w W) => has_N va P ka vb Q lp lq W
  have c100 := fun W (_ : Chg [] w W) => has_N vb Q kb va P lq lp W
  rw [← T.hx_] at c95
  rw [← T.hy_] at c100
  have c109 := fun W (_ : Chg [] w W) => halves_N va P ka lp W
  have c116 := fun W (_ : Chg [] w W) => width2_N va A W
  rw [show halP va P ka = ((va, P, (ka : Int) + 1), (va, Y, (ka : Int) + 1), 0) by unfold halP; rw [if_pos hok, if_neg (by omega), hY, T.p_, Int.toNat_natCast]] at c109
  have c117 : Value.bool ((ka : Int) == (wid va : Nat)) = .bool false := by rw [beq_eq_false_iff_ne.2 (by omega)]
  have lY : Y < 2 ^ 128 := hYl
  have c137 := fun W (_ : Chg [] w W) => has_N va P ((ka : Int) + 1) va A lp T.la_ W
  have c140 := fun W (_ : Chg [] w W) => has_N va Y ((ka : Int) + 1) va A lY T.la_ W
  rw [show hasP va Y ((ka : Int) + 1) va A = !hasP va P ((ka : Int) + 1) va A by rw [hY, T.p_]; exact tree_either A ka va hw T.oa_] at c140
  have c141 := eq_not (hasP va P ((ka : Int) + 1) va A)
  have c146 := c80
  have c149 := fun W (_ : Chg [] w W) => has_N va P ((ka : Int) + 1) vb B lp T.lb_ W
  rw [← hxb] at c149
  have c153 := fun W (_ : Chg [] w W) => has_N va Y ((ka : Int) + 1) vb B lY T.lb_ W
  rw [← hyb] at c153
  have c160 := c149
  have c164 := c153
  have c170 := fun W (_ : Chg [] w W) => compare_N va P ((ka : Int) + 1) va Y ((ka : Int) + 1) lp lY W
  rw [show cmpP va P ((ka : Int) + 1) va Y ((ka : Int) + 1) = -1 by rw [hY, T.p_]; exact tree_rise A ka va hw] at c170
  have c176 := fun W (_ : Chg [] w W) => compare_N va P ka va P ((ka : Int) + 1) lp lp W
  rw [show cmpP va P ka va P ((ka : Int) + 1) = -1 by rw [T.p_]; exact tree_first A ka va] at c176
  have c181 := fun W (_ : Chg [] w W) => covers_N va P ka va P ((ka : Int) + 1) lp lp W
  rw [show covP va P ka va P ((ka : Int) + 1) = true by rw [T.p_]; exact tree_low A ka va hw] at c181
  have c185 := fun W (_ : Chg [] w W) => covers_N va P ka va Y ((ka : Int) + 1) lp lY W
  rw [show covP va P ka va Y ((ka : Int) + 1) = true by rw [hY, T.p_]; exact tree_high A ka va hw] at c185
  have c190 := fun W (_ : Chg [] w W) => covers_N va P ((ka : Int) + 1) va Y ((ka : Int) + 1) lp lY W
  rw [show covP va P ((ka : Int) + 1) va Y ((ka : Int) + 1) = false by rw [hY, T.p_]; exact tree_off1 A ka va hw] at c190
  have c196 := fun W (_ : Chg [] w W) => covers_N va Y ((ka : Int) + 1) va P ((ka : Int) + 1) lY lp W
  rw [show covP va Y ((ka : Int) + 1) va P ((ka : Int) + 1) = false by rw [hY, T.p_]; exact tree_off2 A ka va hw] at c196
  have c200 := fun W (h : Chg [] w W) => works_N W (L W h)
  refine Sx.calls_is (args := [.agg (adr va a).toArray, .agg (adr vb b).toArray, .agg #[.int .i64 i, .int .i64 j]]) (hints2 va vb A B P Q ka kb Y true true true true false true false) [] (by kernel_rfl) Tryz.func5 rfl (Nat.le_of_ble_eq_true rfl) ?_
  exact Eq.mp (by kernel_rfl) (And.intro c16 (And.intro c18 (And.intro c24 (And.intro c25 (And.intro c26 (And.intro c34 (And.intro c35 (And.intro c36 (And.intro c48 (And.intro c54 (And.intro c60 (And.intro c65 (And.intro c68 (And.intro c75 (And.intro c80 (And.intro c95 (And.intro c109 (And.intro c116 (And.intro c117 (And.intro c137 (And.intro c140 (And.intro c141 (And.intro c146 (And.intro c149 (And.intro c160 (And.intro c164 (And.intro c170 (And.intro c176 (And.intro c181 (And.intro c185 (And.intro c190 (And.intro c196 (And.intro c200 kT)))))))))))))))))))))))))))))))))
set_option maxRecDepth 100000 in
theorem tree_l3 (T : TrA va vb a b i j A B P Q ka kb true true true true false) (HL : Lan w) (hok : okP va P ka = true) {Y : Nat} (hw : ka < wid va) (hY : Y = highN (maskN A ka) ka) (hYl : Y < 2 ^ 128) (hxb : false = hasP va P ((ka : Int) + 1) vb B) (hyb : true = hasP va Y ((ka : Int) + 1) vb B) :
    Calls Tryz.prog 5 #[.agg (adr va a).toArray, .agg (adr vb b).toArray, .agg #[.int .i64 i, .int .i64 j]] w fun e w' => e = .returned (.bool true) ∧ Chg [] w w' := by
  have L : ∀ W, Chg [] w W → Lan W := fun W h => HL.chg0 h
  have lp := T.lp
  have lq := T.lq
  have bk : -9223372036854775808 ≤ (ka : Int) ∧ (ka : Int) ≤ 9223372036854775807 := ⟨by omega, by have := T.wa_; have := wid_le va; omega⟩
  have bj : -9223372036854775808 ≤ (kb : Int) ∧ (kb : Int) ≤ 9223372036854775807 := ⟨by omega, by have := T.wb_; have := wid_le vb; omega⟩
  have c16 := fun W (_ : Chg [] w W) => right_N va a W
  have c18 := fun W (_ : Chg [] w W) => right_N vb b W
  rw [← T.a_] at c16
  rw [← T.b_] at c18
  have c24 := fun W (_ : Chg [] w W) => width2_N va A W
  have c25 := fun W (_ : Chg [] w W) => to_chg (within_N i (wid va) (wid_le va) T.hi_ W)
  have c26 := fun W (_ : Chg [] w W) => of_is T.la_ T.oa_ (k := (ka : Int)) (by omega) (by have := T.wa_; omega) W
  have c34 := fun W (_ : Chg [] w W) => width2_N vb B W
  have c35 := fun W (_ : Chg [] w W) => to_chg (within_N j (wid vb) (wid_le vb) T.hj_ W)
  have c36 := fun W (_ : Chg [] w W) => of_is T.lb_ T.ob_ (k := (kb : Int)) (by omega) (by have := T.wb_; omega) W
  rw [← T.ka_] at c25
  rw [← T.kb_] at c35
  rw [Int.toNat_natCast, ← T.p_] at c26
  rw [Int.toNat_natCast, ← T.q_] at c36
  have c48 := fun W (_ : Chg [] w W) => has_N va P ka va A lp T.la_ W
  have c54 := fun W (_ : Chg [] w W) => has_N vb Q kb vb B lq T.lb_ W
  have c60 := fun W (_ : Chg [] w W) => covers_N va P ka va P ka lp lp W
  rw [show hasP va P ka va A = true by rw [T.p_]; exact tree_has va A ka T.wa_ T.oa_] at c48
  rw [show hasP vb Q kb vb B = true by rw [T.q_]; exact tree_has vb B kb T.wb_ T.ob_] at c54
  rw [show covP va P ka va P ka = true by rw [T.p_]; exact tree_cov va A ka T.wa_] at c60
  have c65 := fun W (_ : Chg [] w W) => covers_N va P ka vb Q kb lp lq W
  have c68 := fun W (_ : Chg [] w W) => covers_N vb Q kb va P ka lq lp W
  rw [← T.pq_] at c65
  rw [← T.qp_] at c68
  have c75 := fun W => beq29 (.tmp 73) (.tmp 74) va vb P Q ka kb lp lq bk bj W
  rw [T.same] at c75
  have c80 := fun W (_ : Chg [] w W) => has_N va P ka vb B lp T.lb_ W
  rw [← T.pb_] at c80
  have c87 := c80
  have c95 := fun W (_ : Chg [] w W) => has_N va P ka vb Q lp lq W
  have c100 := fun W (_ : Chg [] w W) => has_N vb Q kb va P lq lp W
  rw [← T.hx_] at c95
  rw [← T.hy_] at c100
  have c109 := fun W (_ : Chg [] w W) => halves_N va P ka lp W
  have c116 := fun W (_ : Chg [] w W) => width2_N va A W
  rw [show halP va P ka = ((va, P, (ka : Int) + 1), (va, Y, (ka : Int) + 1), 0) by unfold halP; rw [if_pos hok, if_neg (by omega), hY, T.p_, Int.toNat_natCast]] at c109
  have c117 : Value.bool ((ka : Int) == (wid va : Nat)) = .bool false := by rw [beq_eq_false_iff_ne.2 (by omega)]
  have lY : Y < 2 ^ 128 := hYl
  have c137 := fun W (_ : Chg [] w W) => has_N va P ((ka : Int) + 1) va A lp T.la_ W
  have c140 := fun W (_ : Chg [] w W) => has_N va Y ((ka : Int) + 1) va A lY T.la_ W
  rw [show hasP va Y ((ka : Int) + 1) va A = !hasP va P ((ka : Int) + 1) va A by rw [hY, T.p_]; exact tree_either A ka va hw T.oa_] at c140
  have c141 := eq_not (hasP va P ((ka : Int) + 1) va A)
  have c146 := c80
  have c149 := fun W (_ : Chg [] w W) => has_N va P ((ka : Int) + 1) vb B lp T.lb_ W
  rw [← hxb] at c149
  have c153 := fun W (_ : Chg [] w W) => has_N va Y ((ka : Int) + 1) vb B lY T.lb_ W
  rw [← hyb] at c153
  have c160 := c149
  have c164 := c153
  have c170 := fun W (_ : Chg [] w W) => compare_N va P ((ka : Int) + 1) va Y ((ka : Int) + 1) lp lY W
  rw [show cmpP va P ((ka : Int) + 1) va Y ((ka : Int) + 1) = -1 by rw [hY, T.p_]; exact tree_rise A ka va hw] at c170
  have c176 := fun W (_ : Chg [] w W) => compare_N va P ka va P ((ka : Int) + 1) lp lp W
  rw [show cmpP va P ka va P ((ka : Int) + 1) = -1 by rw [T.p_]; exact tree_first A ka va] at c176
  have c181 := fun W (_ : Chg [] w W) => covers_N va P ka va P ((ka : Int) + 1) lp lp W
  rw [show covP va P ka va P ((ka : Int) + 1) = true by rw [T.p_]; exact tree_low A ka va hw] at c181
  have c185 := fun W (_ : Chg [] w W) => covers_N va P ka va Y ((ka : Int) + 1) lp lY W
  rw [show covP va P ka va Y ((ka : Int) + 1) = true by rw [hY, T.p_]; exact tree_high A ka va hw] at c185
  have c190 := fun W (_ : Chg [] w W) => covers_N va P ((ka : Int) + 1) va Y ((ka : Int) + 1) lp lY W
  rw [show covP va P ((ka : Int) + 1) va Y ((ka : Int) + 1) = false by rw [hY, T.p_]; exact tree_off1 A ka va hw] at c190
  have c196 := fun W (_ : Chg [] w W) => covers_N va Y ((ka : Int) + 1) va P ((ka : Int) + 1) lY lp W
  rw [show covP va Y ((ka : Int) + 1) va P ((ka : Int) + 1) = false by rw [hY, T.p_]; exact tree_off2 A ka va hw] at c196
  have c200 := fun W (h : Chg [] w W) => works_N W (L W h)
  refine Sx.calls_is (args := [.agg (adr va a).toArray, .agg (adr vb b).toArray, .agg #[.int .i64 i, .int .i64 j]]) (hints2 va vb A B P Q ka kb Y true true true true false false true) [] (by kernel_rfl) Tryz.func5 rfl (Nat.le_of_ble_eq_true rfl) ?_
  exact Eq.mp (by kernel_rfl) (And.intro c16 (And.intro c18 (And.intro c24 (And.intro c25 (And.intro c26 (And.intro c34 (And.intro c35 (And.intro c36 (And.intro c48 (And.intro c54 (And.intro c60 (And.intro c65 (And.intro c68 (And.intro c75 (And.intro c80 (And.intro c95 (And.intro c109 (And.intro c116 (And.intro c117 (And.intro c137 (And.intro c140 (And.intro c141 (And.intro c146 (And.intro c149 (And.intro c153 (And.intro c160 (And.intro c170 (And.intro c176 (And.intro c181 (And.intro c185 (And.intro c190 (And.intro c196 (And.intro c200 kT)))))))))))))))))))))))))))))))))
set_option maxRecDepth 100000 in
theorem tree_l4 (T : TrA va vb a b i j A B P Q ka kb true true true false true) (HL : Lan w) (hok : okP va P ka = true) {Y : Nat} (hw : ka < wid va) (hY : Y = highN (maskN A ka) ka) (hYl : Y < 2 ^ 128) (hxb : true = hasP va P ((ka : Int) + 1) vb B) (hyb : false = hasP va Y ((ka : Int) + 1) vb B) :
    Calls Tryz.prog 5 #[.agg (adr va a).toArray, .agg (adr vb b).toArray, .agg #[.int .i64 i, .int .i64 j]] w fun e w' => e = .returned (.bool true) ∧ Chg [] w w' := by
  have L : ∀ W, Chg [] w W → Lan W := fun W h => HL.chg0 h
  have lp := T.lp
  have lq := T.lq
  have bk : -9223372036854775808 ≤ (ka : Int) ∧ (ka : Int) ≤ 9223372036854775807 := ⟨by omega, by have := T.wa_; have := wid_le va; omega⟩
  have bj : -9223372036854775808 ≤ (kb : Int) ∧ (kb : Int) ≤ 9223372036854775807 := ⟨by omega, by have := T.wb_; have := wid_le vb; omega⟩
  have c16 := fun W (_ : Chg [] w W) => right_N va a W
  have c18 := fun W (_ : Chg [] w W) => right_N vb b W
  rw [← T.a_] at c16
  rw [← T.b_] at c18
  have c24 := fun W (_ : Chg [] w W) => width2_N va A W
  have c25 := fun W (_ : Chg [] w W) => to_chg (within_N i (wid va) (wid_le va) T.hi_ W)
  have c26 := fun W (_ : Chg [] w W) => of_is T.la_ T.oa_ (k := (ka : Int)) (by omega) (by have := T.wa_; omega) W
  have c34 := fun W (_ : Chg [] w W) => width2_N vb B W
  have c35 := fun W (_ : Chg [] w W) => to_chg (within_N j (wid vb) (wid_le vb) T.hj_ W)
  have c36 := fun W (_ : Chg [] w W) => of_is T.lb_ T.ob_ (k := (kb : Int)) (by omega) (by have := T.wb_; omega) W
  rw [← T.ka_] at c25
  rw [← T.kb_] at c35
  rw [Int.toNat_natCast, ← T.p_] at c26
  rw [Int.toNat_natCast, ← T.q_] at c36
  have c48 := fun W (_ : Chg [] w W) => has_N va P ka va A lp T.la_ W
  have c54 := fun W (_ : Chg [] w W) => has_N vb Q kb vb B lq T.lb_ W
  have c60 := fun W (_ : Chg [] w W) => covers_N va P ka va P ka lp lp W
  rw [show hasP va P ka va A = true by rw [T.p_]; exact tree_has va A ka T.wa_ T.oa_] at c48
  rw [show hasP vb Q kb vb B = true by rw [T.q_]; exact tree_has vb B kb T.wb_ T.ob_] at c54
  rw [show covP va P ka va P ka = true by rw [T.p_]; exact tree_cov va A ka T.wa_] at c60
  have c65 := fun W (_ : Chg [] w W) => covers_N va P ka vb Q kb lp lq W
  have c68 := fun W (_ : Chg [] w W) => covers_N vb Q kb va P ka lq lp W
  rw [← T.pq_] at c65
  rw [← T.qp_] at c68
  have c75 := fun W => beq29 (.tmp 73) (.tmp 74) va vb P Q ka kb lp lq bk bj W
  rw [T.same] at c75
  have c80 := fun W (_ : Chg [] w W) => has_N va P ka vb B lp T.lb_ W
  rw [← T.pb_] at c80
  have c87 := c80
  have c95 := fun W (_ : Chg [] w W) => has_N va P ka vb Q lp lq W
  have c100 := fun W (_ : Chg [] w W) => has_N vb Q kb va P lq lp W
  rw [← T.hx_] at c95
  rw [← T.hy_] at c100
  have c109 := fun W (_ : Chg [] w W) => halves_N va P ka lp W
  have c116 := fun W (_ : Chg [] w W) => width2_N va A W
  rw [show halP va P ka = ((va, P, (ka : Int) + 1), (va, Y, (ka : Int) + 1), 0) by unfold halP; rw [if_pos hok, if_neg (by omega), hY, T.p_, Int.toNat_natCast]] at c109
  have c117 : Value.bool ((ka : Int) == (wid va : Nat)) = .bool false := by rw [beq_eq_false_iff_ne.2 (by omega)]
  have lY : Y < 2 ^ 128 := hYl
  have c137 := fun W (_ : Chg [] w W) => has_N va P ((ka : Int) + 1) va A lp T.la_ W
  have c140 := fun W (_ : Chg [] w W) => has_N va Y ((ka : Int) + 1) va A lY T.la_ W
  rw [show hasP va Y ((ka : Int) + 1) va A = !hasP va P ((ka : Int) + 1) va A by rw [hY, T.p_]; exact tree_either A ka va hw T.oa_] at c140
  have c141 := eq_not (hasP va P ((ka : Int) + 1) va A)
  have c146 := c80
  have c149 := fun W (_ : Chg [] w W) => has_N va P ((ka : Int) + 1) vb B lp T.lb_ W
  rw [← hxb] at c149
  have c153 := fun W (_ : Chg [] w W) => has_N va Y ((ka : Int) + 1) vb B lY T.lb_ W
  rw [← hyb] at c153
  have c160 := c149
  have c164 := c153
  have c170 := fun W (_ : Chg [] w W) => compare_N va P ((ka : Int) + 1) va Y ((ka : Int) + 1) lp lY W
  rw [show cmpP va P ((ka : Int) + 1) va Y ((ka : Int) + 1) = -1 by rw [hY, T.p_]; exact tree_rise A ka va hw] at c170
  have c176 := fun W (_ : Chg [] w W) => compare_N va P ka va P ((ka : Int) + 1) lp lp W
  rw [show cmpP va P ka va P ((ka : Int) + 1) = -1 by rw [T.p_]; exact tree_first A ka va] at c176
  have c181 := fun W (_ : Chg [] w W) => covers_N va P ka va P ((ka : Int) + 1) lp lp W
  rw [show covP va P ka va P ((ka : Int) + 1) = true by rw [T.p_]; exact tree_low A ka va hw] at c181
  have c185 := fun W (_ : Chg [] w W) => covers_N va P ka va Y ((ka : Int) + 1) lp lY W
  rw [show covP va P ka va Y ((ka : Int) + 1) = true by rw [hY, T.p_]; exact tree_high A ka va hw] at c185
  have c190 := fun W (_ : Chg [] w W) => covers_N va P ((ka : Int) + 1) va Y ((ka : Int) + 1) lp lY W
  rw [show covP va P ((ka : Int) + 1) va Y ((ka : Int) + 1) = false by rw [hY, T.p_]; exact tree_off1 A ka va hw] at c190
  have c196 := fun W (_ : Chg [] w W) => covers_N va Y ((ka : Int) + 1) va P ((ka : Int) + 1) lY lp W
  rw [show covP va Y ((ka : Int) + 1) va P ((ka : Int) + 1) = false by rw [hY, T.p_]; exact tree_off2 A ka va hw] at c196
  have c200 := fun W (h : Chg [] w W) => works_N W (L W h)
  refine Sx.calls_is (args := [.agg (adr va a).toArray, .agg (adr vb b).toArray, .agg #[.int .i64 i, .int .i64 j]]) (hints2 va vb A B P Q ka kb Y true true true false true true false) [] (by kernel_rfl) Tryz.func5 rfl (Nat.le_of_ble_eq_true rfl) ?_
  exact Eq.mp (by kernel_rfl) (And.intro c16 (And.intro c18 (And.intro c24 (And.intro c25 (And.intro c26 (And.intro c34 (And.intro c35 (And.intro c36 (And.intro c48 (And.intro c54 (And.intro c60 (And.intro c65 (And.intro c68 (And.intro c75 (And.intro c80 (And.intro c95 (And.intro c100 (And.intro c109 (And.intro c116 (And.intro c117 (And.intro c137 (And.intro c140 (And.intro c141 (And.intro c146 (And.intro c149 (And.intro c160 (And.intro c164 (And.intro c170 (And.intro c176 (And.intro c181 (And.intro c185 (And.intro c190 (And.intro c196 (And.intro c200 kT))))))))))))))))))))))))))))))))))
set_option maxRecDepth 100000 in
theorem tree_l5 (T : TrA va vb a b i j A B P Q ka kb true true true false true) (HL : Lan w) (hok : okP va P ka = true) {Y : Nat} (hw : ka < wid va) (hY : Y = highN (maskN A ka) ka) (hYl : Y < 2 ^ 128) (hxb : false = hasP va P ((ka : Int) + 1) vb B) (hyb : true = hasP va Y ((ka : Int) + 1) vb B) :
    Calls Tryz.prog 5 #[.agg (adr va a).toArray, .agg (adr vb b).toArray, .agg #[.int .i64 i, .int .i64 j]] w fun e w' => e = .returned (.bool true) ∧ Chg [] w w' := by
  have L : ∀ W, Chg [] w W → Lan W := fun W h => HL.chg0 h
  have lp := T.lp
  have lq := T.lq
  have bk : -9223372036854775808 ≤ (ka : Int) ∧ (ka : Int) ≤ 9223372036854775807 := ⟨by omega, by have := T.wa_; have := wid_le va; omega⟩
  have bj : -9223372036854775808 ≤ (kb : Int) ∧ (kb : Int) ≤ 9223372036854775807 := ⟨by omega, by have := T.wb_; have := wid_le vb; omega⟩
  have c16 := fun W (_ : Chg [] w W) => right_N va a W
  have c18 := fun W (_ : Chg [] w W) => right_N vb b W
  rw [← T.a_] at c16
  rw [← T.b_] at c18
  have c24 := fun W (_ : Chg [] w W) => width2_N va A W
  have c25 := fun W (_ : Chg [] w W) => to_chg (within_N i (wid va) (wid_le va) T.hi_ W)
  have c26 := fun W (_ : Chg [] w W) => of_is T.la_ T.oa_ (k := (ka : Int)) (by omega) (by have := T.wa_; omega) W
  have c34 := fun W (_ : Chg [] w W) => width2_N vb B W
  have c35 := fun W (_ : Chg [] w W) => to_chg (within_N j (wid vb) (wid_le vb) T.hj_ W)
  have c36 := fun W (_ : Chg [] w W) => of_is T.lb_ T.ob_ (k := (kb : Int)) (by omega) (by have := T.wb_; omega) W
  rw [← T.ka_] at c25
  rw [← T.kb_] at c35
  rw [Int.toNat_natCast, ← T.p_] at c26
  rw [Int.toNat_natCast, ← T.q_] at c36
  have c48 := fun W (_ : Chg [] w W) => has_N va P ka va A lp T.la_ W
  have c54 := fun W (_ : Chg [] w W) => has_N vb Q kb vb B lq T.lb_ W
  have c60 := fun W (_ : Chg [] w W) => covers_N va P ka va P ka lp lp W
  rw [show hasP va P ka va A = true by rw [T.p_]; exact tree_has va A ka T.wa_ T.oa_] at c48
  rw [show hasP vb Q kb vb B = true by rw [T.q_]; exact tree_has vb B kb T.wb_ T.ob_] at c54
  rw [show covP va P ka va P ka = true by rw [T.p_]; exact tree_cov va A ka T.wa_] at c60
  have c65 := fun W (_ : Chg [] w W) => covers_N va P ka vb Q kb lp lq W
  have c68 := fun W (_ : Chg [] w W) => covers_N vb Q kb va P ka lq lp W
  rw [← T.pq_] at c65
  rw [← T.qp_] at c68
  have c75 := fun W => beq29 (.tmp 73) (.tmp 74) va vb P Q ka kb lp lq bk bj W
  rw [T.same] at c75
  have c80 := fun W (_ : Chg [] w W) => has_N va P ka vb B lp T.lb_ W
  rw [← T.pb_] at c80
  have c87 := c80
  have c95 := fun W (_ : Chg [] w W) => has_N va P ka vb Q lp lq W
  have c100 := fun W (_ : Chg [] w W) => has_N vb Q kb va P lq lp W
  rw [← T.hx_] at c95
  rw [← T.hy_] at c100
  have c109 := fun W (_ : Chg [] w W) => halves_N va P ka lp W
  have c116 := fun W (_ : Chg [] w W) => width2_N va A W
  rw [show halP va P ka = ((va, P, (ka : Int) + 1), (va, Y, (ka : Int) + 1), 0) by unfold halP; rw [if_pos hok, if_neg (by omega), hY, T.p_, Int.toNat_natCast]] at c109
  have c117 : Value.bool ((ka : Int) == (wid va : Nat)) = .bool false := by rw [beq_eq_false_iff_ne.2 (by omega)]
  have lY : Y < 2 ^ 128 := hYl
  have c137 := fun W (_ : Chg [] w W) => has_N va P ((ka : Int) + 1) va A lp T.la_ W
  have c140 := fun W (_ : Chg [] w W) => has_N va Y ((ka : Int) + 1) va A lY T.la_ W
  rw [show hasP va Y ((ka : Int) + 1) va A = !hasP va P ((ka : Int) + 1) va A by rw [hY, T.p_]; exact tree_either A ka va hw T.oa_] at c140
  have c141 := eq_not (hasP va P ((ka : Int) + 1) va A)
  have c146 := c80
  have c149 := fun W (_ : Chg [] w W) => has_N va P ((ka : Int) + 1) vb B lp T.lb_ W
  rw [← hxb] at c149
  have c153 := fun W (_ : Chg [] w W) => has_N va Y ((ka : Int) + 1) vb B lY T.lb_ W
  rw [← hyb] at c153
  have c160 := c149
  have c164 := c153
  have c170 := fun W (_ : Chg [] w W) => compare_N va P ((ka : Int) + 1) va Y ((ka : Int) + 1) lp lY W
  rw [show cmpP va P ((ka : Int) + 1) va Y ((ka : Int) + 1) = -1 by rw [hY, T.p_]; exact tree_rise A ka va hw] at c170
  have c176 := fun W (_ : Chg [] w W) => compare_N va P ka va P ((ka : Int) + 1) lp lp W
  rw [show cmpP va P ka va P ((ka : Int) + 1) = -1 by rw [T.p_]; exact tree_first A ka va] at c176
  have c181 := fun W (_ : Chg [] w W) => covers_N va P ka va P ((ka : Int) + 1) lp lp W
  rw [show covP va P ka va P ((ka : Int) + 1) = true by rw [T.p_]; exact tree_low A ka va hw] at c181
  have c185 := fun W (_ : Chg [] w W) => covers_N va P ka va Y ((ka : Int) + 1) lp lY W
  rw [show covP va P ka va Y ((ka : Int) + 1) = true by rw [hY, T.p_]; exact tree_high A ka va hw] at c185
  have c190 := fun W (_ : Chg [] w W) => covers_N va P ((ka : Int) + 1) va Y ((ka : Int) + 1) lp lY W
  rw [show covP va P ((ka : Int) + 1) va Y ((ka : Int) + 1) = false by rw [hY, T.p_]; exact tree_off1 A ka va hw] at c190
  have c196 := fun W (_ : Chg [] w W) => covers_N va Y ((ka : Int) + 1) va P ((ka : Int) + 1) lY lp W
  rw [show covP va Y ((ka : Int) + 1) va P ((ka : Int) + 1) = false by rw [hY, T.p_]; exact tree_off2 A ka va hw] at c196
  have c200 := fun W (h : Chg [] w W) => works_N W (L W h)
  refine Sx.calls_is (args := [.agg (adr va a).toArray, .agg (adr vb b).toArray, .agg #[.int .i64 i, .int .i64 j]]) (hints2 va vb A B P Q ka kb Y true true true false true false true) [] (by kernel_rfl) Tryz.func5 rfl (Nat.le_of_ble_eq_true rfl) ?_
  exact Eq.mp (by kernel_rfl) (And.intro c16 (And.intro c18 (And.intro c24 (And.intro c25 (And.intro c26 (And.intro c34 (And.intro c35 (And.intro c36 (And.intro c48 (And.intro c54 (And.intro c60 (And.intro c65 (And.intro c68 (And.intro c75 (And.intro c80 (And.intro c95 (And.intro c100 (And.intro c109 (And.intro c116 (And.intro c117 (And.intro c137 (And.intro c140 (And.intro c141 (And.intro c146 (And.intro c149 (And.intro c153 (And.intro c160 (And.intro c170 (And.intro c176 (And.intro c181 (And.intro c185 (And.intro c190 (And.intro c196 (And.intro c200 kT))))))))))))))))))))))))))))))))))
set_option maxRecDepth 100000 in
theorem tree_l6 (T : TrA va vb a b i j A B P Q ka kb true false true true true) (HL : Lan w) (hok : okP va P ka = true) {Y : Nat} (hw : ka < wid va) (hY : Y = highN (maskN A ka) ka) (hYl : Y < 2 ^ 128) (hxb : true = hasP va P ((ka : Int) + 1) vb B) (hyb : false = hasP va Y ((ka : Int) + 1) vb B) :
    Calls Tryz.prog 5 #[.agg (adr va a).toArray, .agg (adr vb b).toArray, .agg #[.int .i64 i, .int .i64 j]] w fun e w' => e = .returned (.bool true) ∧ Chg [] w w' := by
  have L : ∀ W, Chg [] w W → Lan W := fun W h => HL.chg0 h
  have lp := T.lp
  have lq := T.lq
  have bk : -9223372036854775808 ≤ (ka : Int) ∧ (ka : Int) ≤ 9223372036854775807 := ⟨by omega, by have := T.wa_; have := wid_le va; omega⟩
  have bj : -9223372036854775808 ≤ (kb : Int) ∧ (kb : Int) ≤ 9223372036854775807 := ⟨by omega, by have := T.wb_; have := wid_le vb; omega⟩
  have c16 := fun W (_ : Chg [] w W) => right_N va a W
  have c18 := fun W (_ : Chg [] w W) => right_N vb b W
  rw [← T.a_] at c16
  rw [← T.b_] at c18
  have c24 := fun W (_ : Chg [] w W) => width2_N va A W
  have c25 := fun W (_ : Chg [] w W) => to_chg (within_N i (wid va) (wid_le va) T.hi_ W)
  have c26 := fun W (_ : Chg [] w W) => of_is T.la_ T.oa_ (k := (ka : Int)) (by omega) (by have := T.wa_; omega) W
  have c34 := fun W (_ : Chg [] w W) => width2_N vb B W
  have c35 := fun W (_ : Chg [] w W) => to_chg (within_N j (wid vb) (wid_le vb) T.hj_ W)
  have c36 := fun W (_ : Chg [] w W) => of_is T.lb_ T.ob_ (k := (kb : Int)) (by omega) (by have := T.wb_; omega) W
  rw [← T.ka_] at c25
  rw [← T.kb_] at c35
  rw [Int.toNat_natCast, ← T.p_] at c26
  rw [Int.toNat_natCast, ← T.q_] at c36
  have c48 := fun W (_ : Chg [] w W) => has_N va P ka va A lp T.la_ W
  have c54 := fun W (_ : Chg [] w W) => has_N vb Q kb vb B lq T.lb_ W
  have c60 := fun W (_ : Chg [] w W) => covers_N va P ka va P ka lp lp W
  rw [show hasP va P ka va A = true by rw [T.p_]; exact tree_has va A ka T.wa_ T.oa_] at c48
  rw [show hasP vb Q kb vb B = true by rw [T.q_]; exact tree_has vb B kb T.wb_ T.ob_] at c54
  rw [show covP va P ka va P ka = true by rw [T.p_]; exact tree_cov va A ka T.wa_] at c60
  have c65 := fun W (_ : Chg [] w W) => covers_N va P ka vb Q kb lp lq W
  have c68 := fun W (_ : Chg [] w W) => covers_N vb Q kb va P ka lq lp W
  rw [← T.pq_] at c65
  rw [← T.qp_] at c68
  have c75 := fun W => beq29 (.tmp 73) (.tmp 74) va vb P Q ka kb lp lq bk bj W
  rw [T.same] at c75
  have c80 := fun W (_ : Chg [] w W) => has_N va P ka vb B lp T.lb_ W
  rw [← T.pb_] at c80
  have c87 := c80
  have c95 := fun W (_ : Chg [] w W) => has_N va P ka vb Q lp lq W
  have c100 := fun W (_ : Chg [] w W) => has_N vb Q kb va P lq lp W
  rw [← T.hx_] at c95
  rw [← T.hy_] at c100
  have c109 := fun W (_ : Chg [] w W) => halves_N va P ka lp W
  have c116 := fun W (_ : Chg [] w W) => width2_N va A W
  rw [show halP va P ka = ((va, P, (ka : Int) + 1), (va, Y, (ka : Int) + 1), 0) by unfold halP; rw [if_pos hok, if_neg (by omega), hY, T.p_, Int.toNat_natCast]] at c109
  have c117 : Value.bool ((ka : Int) == (wid va : Nat)) = .bool false := by rw [beq_eq_false_iff_ne.2 (by omega)]
  have lY : Y < 2 ^ 128 := hYl
  have c137 := fun W (_ : Chg [] w W) => has_N va P ((ka : Int) + 1) va A lp T.la_ W
  have c140 := fun W (_ : Chg [] w W) => has_N va Y ((ka : Int) + 1) va A lY T.la_ W
  rw [show hasP va Y ((ka : Int) + 1) va A = !hasP va P ((ka : Int) + 1) va A by rw [hY, T.p_]; exact tree_either A ka va hw T.oa_] at c140
  have c141 := eq_not (hasP va P ((ka : Int) + 1) va A)
  have c146 := c80
  have c149 := fun W (_ : Chg [] w W) => has_N va P ((ka : Int) + 1) vb B lp T.lb_ W
  rw [← hxb] at c149
  have c153 := fun W (_ : Chg [] w W) => has_N va Y ((ka : Int) + 1) vb B lY T.lb_ W
  rw [← hyb] at c153
  have c160 := c149
  have c164 := c153
  have c170 := fun W (_ : Chg [] w W) => compare_N va P ((ka : Int) + 1) va Y ((ka : Int) + 1) lp lY W
  rw [show cmpP va P ((ka : Int) + 1) va Y ((ka : Int) + 1) = -1 by rw [hY, T.p_]; exact tree_rise A ka va hw] at c170
  have c176 := fun W (_ : Chg [] w W) => compare_N va P ka va P ((ka : Int) + 1) lp lp W
  rw [show cmpP va P ka va P ((ka : Int) + 1) = -1 by rw [T.p_]; exact tree_first A ka va] at c176
  have c181 := fun W (_ : Chg [] w W) => covers_N va P ka va P ((ka : Int) + 1) lp lp W
  rw [show covP va P ka va P ((ka : Int) + 1) = true by rw [T.p_]; exact tree_low A ka va hw] at c181
  have c185 := fun W (_ : Chg [] w W) => covers_N va P ka va Y ((ka : Int) + 1) lp lY W
  rw [show covP va P ka va Y ((ka : Int) + 1) = true by rw [hY, T.p_]; exact tree_high A ka va hw] at c185
  have c190 := fun W (_ : Chg [] w W) => covers_N va P ((ka : Int) + 1) va Y ((ka : Int) + 1) lp lY W
  rw [show covP va P ((ka : Int) + 1) va Y ((ka : Int) + 1) = false by rw [hY, T.p_]; exact tree_off1 A ka va hw] at c190
  have c196 := fun W (_ : Chg [] w W) => covers_N va Y ((ka : Int) + 1) va P ((ka : Int) + 1) lY lp W
  rw [show covP va Y ((ka : Int) + 1) va P ((ka : Int) + 1) = false by rw [hY, T.p_]; exact tree_off2 A ka va hw] at c196
  have c200 := fun W (h : Chg [] w W) => works_N W (L W h)
  refine Sx.calls_is (args := [.agg (adr va a).toArray, .agg (adr vb b).toArray, .agg #[.int .i64 i, .int .i64 j]]) (hints2 va vb A B P Q ka kb Y true false true true true true false) [] (by kernel_rfl) Tryz.func5 rfl (Nat.le_of_ble_eq_true rfl) ?_
  exact Eq.mp (by kernel_rfl) (And.intro c16 (And.intro c18 (And.intro c24 (And.intro c25 (And.intro c26 (And.intro c34 (And.intro c35 (And.intro c36 (And.intro c48 (And.intro c54 (And.intro c60 (And.intro c65 (And.intro c68 (And.intro c75 (And.intro c80 (And.intro c95 (And.intro c109 (And.intro c116 (And.intro c117 (And.intro c137 (And.intro c140 (And.intro c141 (And.intro c146 (And.intro c149 (And.intro c160 (And.intro c164 (And.intro c170 (And.intro c176 (And.intro c181 (And.intro c185 (And.intro c190 (And.intro c196 (And.intro c200 kT)))))))))))))))))))))))))))))))))
set_option maxRecDepth 100000 in
theorem tree_l7 (T : TrA va vb a b i j A B P Q ka kb true false true true true) (HL : Lan w) (hok : okP va P ka = true) {Y : Nat} (hw : ka < wid va) (hY : Y = highN (maskN A ka) ka) (hYl : Y < 2 ^ 128) (hxb : false = hasP va P ((ka : Int) + 1) vb B) (hyb : true = hasP va Y ((ka : Int) + 1) vb B) :
    Calls Tryz.prog 5 #[.agg (adr va a).toArray, .agg (adr vb b).toArray, .agg #[.int .i64 i, .int .i64 j]] w fun e w' => e = .returned (.bool true) ∧ Chg [] w w' := by
  have L : ∀ W, Chg [] w W → Lan W := fun W h => HL.chg0 h
  have lp := T.lp
  have lq := T.lq
  have bk : -9223372036854775808 ≤ (ka : Int) ∧ (ka : Int) ≤ 9223372036854775807 := ⟨by omega, by have := T.wa_; have := wid_le va; omega⟩
  have bj : -9223372036854775808 ≤ (kb : Int) ∧ (kb : Int) ≤ 9223372036854775807 := ⟨by omega, by have := T.wb_; have := wid_le vb; omega⟩
  have c16 := fun W (_ : Chg [] w W) => right_N va a W
  have c18 := fun W (_ : Chg [] w W) => right_N vb b W
  rw [← T.a_] at c16
  rw [← T.b_] at c18
  have c24 := fun W (_ : Chg [] w W) => width2_N va A W
  have c25 := fun W (_ : Chg [] w W) => to_chg (within_N i (wid va) (wid_le va) T.hi_ W)
  have c26 := fun W (_ : Chg [] w W) => of_is T.la_ T.oa_ (k := (ka : Int)) (by omega) (by have := T.wa_; omega) W
  have c34 := fun W (_ : Chg [] w W) => width2_N vb B W
  have c35 := fun W (_ : Chg [] w W) => to_chg (within_N j (wid vb) (wid_le vb) T.hj_ W)
  have c36 := fun W (_ : Chg [] w W) => of_is T.lb_ T.ob_ (k := (kb : Int)) (by omega) (by have := T.wb_; omega) W
  rw [← T.ka_] at c25
  rw [← T.kb_] at c35
  rw [Int.toNat_natCast, ← T.p_] at c26
  rw [Int.toNat_natCast, ← T.q_] at c36
  have c48 := fun W (_ : Chg [] w W) => has_N va P ka va A lp T.la_ W
  have c54 := fun W (_ : Chg [] w W) => has_N vb Q kb vb B lq T.lb_ W
  have c60 := fun W (_ : Chg [] w W) => covers_N va P ka va P ka lp lp W
  rw [show hasP va P ka va A = true by rw [T.p_]; exact tree_has va A ka T.wa_ T.oa_] at c48
  rw [show hasP vb Q kb vb B = true by rw [T.q_]; exact tree_has vb B kb T.wb_ T.ob_] at c54
  rw [show covP va P ka va P ka = true by rw [T.p_]; exact tree_cov va A ka T.wa_] at c60
  have c65 := fun W (_ : Chg [] w W) => covers_N va P ka vb Q kb lp lq W
  have c68 := fun W (_ : Chg [] w W) => covers_N vb Q kb va P ka lq lp W
  rw [← T.pq_] at c65
  rw [← T.qp_] at c68
  have c75 := fun W => beq29 (.tmp 73) (.tmp 74) va vb P Q ka kb lp lq bk bj W
  rw [T.same] at c75
  have c80 := fun W (_ : Chg [] w W) => has_N va P ka vb B lp T.lb_ W
  rw [← T.pb_] at c80
  have c87 := c80
  have c95 := fun W (_ : Chg [] w W) => has_N va P ka vb Q lp lq W
  have c100 := fun W (_ : Chg [] w W) => has_N vb Q kb va P lq lp W
  rw [← T.hx_] at c95
  rw [← T.hy_] at c100
  have c109 := fun W (_ : Chg [] w W) => halves_N va P ka lp W
  have c116 := fun W (_ : Chg [] w W) => width2_N va A W
  rw [show halP va P ka = ((va, P, (ka : Int) + 1), (va, Y, (ka : Int) + 1), 0) by unfold halP; rw [if_pos hok, if_neg (by omega), hY, T.p_, Int.toNat_natCast]] at c109
  have c117 : Value.bool ((ka : Int) == (wid va : Nat)) = .bool false := by rw [beq_eq_false_iff_ne.2 (by omega)]
  have lY : Y < 2 ^ 128 := hYl
  have c137 := fun W (_ : Chg [] w W) => has_N va P ((ka : Int) + 1) va A lp T.la_ W
  have c140 := fun W (_ : Chg [] w W) => has_N va Y ((ka : Int) + 1) va A lY T.la_ W
  rw [show hasP va Y ((ka : Int) + 1) va A = !hasP va P ((ka : Int) + 1) va A by rw [hY, T.p_]; exact tree_either A ka va hw T.oa_] at c140
  have c141 := eq_not (hasP va P ((ka : Int) + 1) va A)
  have c146 := c80
  have c149 := fun W (_ : Chg [] w W) => has_N va P ((ka : Int) + 1) vb B lp T.lb_ W
  rw [← hxb] at c149
  have c153 := fun W (_ : Chg [] w W) => has_N va Y ((ka : Int) + 1) vb B lY T.lb_ W
  rw [← hyb] at c153
  have c160 := c149
  have c164 := c153
  have c170 := fun W (_ : Chg [] w W) => compare_N va P ((ka : Int) + 1) va Y ((ka : Int) + 1) lp lY W
  rw [show cmpP va P ((ka : Int) + 1) va Y ((ka : Int) + 1) = -1 by rw [hY, T.p_]; exact tree_rise A ka va hw] at c170
  have c176 := fun W (_ : Chg [] w W) => compare_N va P ka va P ((ka : Int) + 1) lp lp W
  rw [show cmpP va P ka va P ((ka : Int) + 1) = -1 by rw [T.p_]; exact tree_first A ka va] at c176
  have c181 := fun W (_ : Chg [] w W) => covers_N va P ka va P ((ka : Int) + 1) lp lp W
  rw [show covP va P ka va P ((ka : Int) + 1) = true by rw [T.p_]; exact tree_low A ka va hw] at c181
  have c185 := fun W (_ : Chg [] w W) => covers_N va P ka va Y ((ka : Int) + 1) lp lY W
  rw [show covP va P ka va Y ((ka : Int) + 1) = true by rw [hY, T.p_]; exact tree_high A ka va hw] at c185
  have c190 := fun W (_ : Chg [] w W) => covers_N va P ((ka : Int) + 1) va Y ((ka : Int) + 1) lp lY W
  rw [show covP va P ((ka : Int) + 1) va Y ((ka : Int) + 1) = false by rw [hY, T.p_]; exact tree_off1 A ka va hw] at c190
  have c196 := fun W (_ : Chg [] w W) => covers_N va Y ((ka : Int) + 1) va P ((ka : Int) + 1) lY lp W
  rw [show covP va Y ((ka : Int) + 1) va P ((ka : Int) + 1) = false by rw [hY, T.p_]; exact tree_off2 A ka va hw] at c196
  have c200 := fun W (h : Chg [] w W) => works_N W (L W h)
  refine Sx.calls_is (args := [.agg (adr va a).toArray, .agg (adr vb b).toArray, .agg #[.int .i64 i, .int .i64 j]]) (hints2 va vb A B P Q ka kb Y true false true true true false true) [] (by kernel_rfl) Tryz.func5 rfl (Nat.le_of_ble_eq_true rfl) ?_
  exact Eq.mp (by kernel_rfl) (And.intro c16 (And.intro c18 (And.intro c24 (And.intro c25 (And.intro c26 (And.intro c34 (And.intro c35 (And.intro c36 (And.intro c48 (And.intro c54 (And.intro c60 (And.intro c65 (And.intro c68 (And.intro c75 (And.intro c80 (And.intro c95 (And.intro c109 (And.intro c116 (And.intro c117 (And.intro c137 (And.intro c140 (And.intro c141 (And.intro c146 (And.intro c149 (And.intro c153 (And.intro c160 (And.intro c170 (And.intro c176 (And.intro c181 (And.intro c185 (And.intro c190 (And.intro c196 (And.intro c200 kT)))))))))))))))))))))))))))))))))
set_option maxRecDepth 100000 in
theorem tree_l8 (T : TrA va vb a b i j A B P Q ka kb true false true true false) (HL : Lan w) (hok : okP va P ka = true) {Y : Nat} (hw : ka < wid va) (hY : Y = highN (maskN A ka) ka) (hYl : Y < 2 ^ 128) (hxb : true = hasP va P ((ka : Int) + 1) vb B) (hyb : false = hasP va Y ((ka : Int) + 1) vb B) :
    Calls Tryz.prog 5 #[.agg (adr va a).toArray, .agg (adr vb b).toArray, .agg #[.int .i64 i, .int .i64 j]] w fun e w' => e = .returned (.bool true) ∧ Chg [] w w' := by
  have L : ∀ W, Chg [] w W → Lan W := fun W h => HL.chg0 h
  have lp := T.lp
  have lq := T.lq
  have bk : -9223372036854775808 ≤ (ka : Int) ∧ (ka : Int) ≤ 9223372036854775807 := ⟨by omega, by have := T.wa_; have := wid_le va; omega⟩
  have bj : -9223372036854775808 ≤ (kb : Int) ∧ (kb : Int) ≤ 9223372036854775807 := ⟨by omega, by have := T.wb_; have := wid_le vb; omega⟩
  have c16 := fun W (_ : Chg [] w W) => right_N va a W
  have c18 := fun W (_ : Chg [] w W) => right_N vb b W
  rw [← T.a_] at c16
  rw [← T.b_] at c18
  have c24 := fun W (_ : Chg [] w W) => width2_N va A W
  have c25 := fun W (_ : Chg [] w W) => to_chg (within_N i (wid va) (wid_le va) T.hi_ W)
  have c26 := fun W (_ : Chg [] w W) => of_is T.la_ T.oa_ (k := (ka : Int)) (by omega) (by have := T.wa_; omega) W
  have c34 := fun W (_ : Chg [] w W) => width2_N vb B W
  have c35 := fun W (_ : Chg [] w W) => to_chg (within_N j (wid vb) (wid_le vb) T.hj_ W)
  have c36 := fun W (_ : Chg [] w W) => of_is T.lb_ T.ob_ (k := (kb : Int)) (by omega) (by have := T.wb_; omega) W
  rw [← T.ka_] at c25
  rw [← T.kb_] at c35
  rw [Int.toNat_natCast, ← T.p_] at c26
  rw [Int.toNat_natCast, ← T.q_] at c36
  have c48 := fun W (_ : Chg [] w W) => has_N va P ka va A lp T.la_ W
  have c54 := fun W (_ : Chg [] w W) => has_N vb Q kb vb B lq T.lb_ W
  have c60 := fun W (_ : Chg [] w W) => covers_N va P ka va P ka lp lp W
  rw [show hasP va P ka va A = true by rw [T.p_]; exact tree_has va A ka T.wa_ T.oa_] at c48
  rw [show hasP vb Q kb vb B = true by rw [T.q_]; exact tree_has vb B kb T.wb_ T.ob_] at c54
  rw [show covP va P ka va P ka = true by rw [T.p_]; exact tree_cov va A ka T.wa_] at c60
  have c65 := fun W (_ : Chg [] w W) => covers_N va P ka vb Q kb lp lq W
  have c68 := fun W (_ : Chg [] w W) => covers_N vb Q kb va P ka lq lp W
  rw [← T.pq_] at c65
  rw [← T.qp_] at c68
  have c75 := fun W => beq29 (.tmp 73) (.tmp 74) va vb P Q ka kb lp lq bk bj W
  rw [T.same] at c75
  have c80 := fun W (_ : Chg [] w W) => has_N va P ka vb B lp T.lb_ W
  rw [← T.pb_] at c80
  have c87 := c80
  have c95 := fun W (_ : Chg [] w W) => has_N va P ka vb Q lp lq W
  have c100 := fun W (_ : Chg [] w W) => has_N vb Q kb va P lq lp W
  rw [← T.hx_] at c95
  rw [← T.hy_] at c100
  have c109 := fun W (_ : Chg [] w W) => halves_N va P ka lp W
  have c116 := fun W (_ : Chg [] w W) => width2_N va A W
  rw [show halP va P ka = ((va, P, (ka : Int) + 1), (va, Y, (ka : Int) + 1), 0) by unfold halP; rw [if_pos hok, if_neg (by omega), hY, T.p_, Int.toNat_natCast]] at c109
  have c117 : Value.bool ((ka : Int) == (wid va : Nat)) = .bool false := by rw [beq_eq_false_iff_ne.2 (by omega)]
  have lY : Y < 2 ^ 128 := hYl
  have c137 := fun W (_ : Chg [] w W) => has_N va P ((ka : Int) + 1) va A lp T.la_ W
  have c140 := fun W (_ : Chg [] w W) => has_N va Y ((ka : Int) + 1) va A lY T.la_ W
  rw [show hasP va Y ((ka : Int) + 1) va A = !hasP va P ((ka : Int) + 1) va A by rw [hY, T.p_]; exact tree_either A ka va hw T.oa_] at c140
  have c141 := eq_not (hasP va P ((ka : Int) + 1) va A)
  have c146 := c80
  have c149 := fun W (_ : Chg [] w W) => has_N va P ((ka : Int) + 1) vb B lp T.lb_ W
  rw [← hxb] at c149
  have c153 := fun W (_ : Chg [] w W) => has_N va Y ((ka : Int) + 1) vb B lY T.lb_ W
  rw [← hyb] at c153
  have c160 := c149
  have c164 := c153
  have c170 := fun W (_ : Chg [] w W) => compare_N va P ((ka : Int) + 1) va Y ((ka : Int) + 1) lp lY W
  rw [show cmpP va P ((ka : Int) + 1) va Y ((ka : Int) + 1) = -1 by rw [hY, T.p_]; exact tree_rise A ka va hw] at c170
  have c176 := fun W (_ : Chg [] w W) => compare_N va P ka va P ((ka : Int) + 1) lp lp W
  rw [show cmpP va P ka va P ((ka : Int) + 1) = -1 by rw [T.p_]; exact tree_first A ka va] at c176
  have c181 := fun W (_ : Chg [] w W) => covers_N va P ka va P ((ka : Int) + 1) lp lp W
  rw [show covP va P ka va P ((ka : Int) + 1) = true by rw [T.p_]; exact tree_low A ka va hw] at c181
  have c185 := fun W (_ : Chg [] w W) => covers_N va P ka va Y ((ka : Int) + 1) lp lY W
  rw [show covP va P ka va Y ((ka : Int) + 1) = true by rw [hY, T.p_]; exact tree_high A ka va hw] at c185
  have c190 := fun W (_ : Chg [] w W) => covers_N va P ((ka : Int) + 1) va Y ((ka : Int) + 1) lp lY W
  rw [show covP va P ((ka : Int) + 1) va Y ((ka : Int) + 1) = false by rw [hY, T.p_]; exact tree_off1 A ka va hw] at c190
  have c196 := fun W (_ : Chg [] w W) => covers_N va Y ((ka : Int) + 1) va P ((ka : Int) + 1) lY lp W
  rw [show covP va Y ((ka : Int) + 1) va P ((ka : Int) + 1) = false by rw [hY, T.p_]; exact tree_off2 A ka va hw] at c196
  have c200 := fun W (h : Chg [] w W) => works_N W (L W h)
  refine Sx.calls_is (args := [.agg (adr va a).toArray, .agg (adr vb b).toArray, .agg #[.int .i64 i, .int .i64 j]]) (hints2 va vb A B P Q ka kb Y true false true true false true false) [] (by kernel_rfl) Tryz.func5 rfl (Nat.le_of_ble_eq_true rfl) ?_
  exact Eq.mp (by kernel_rfl) (And.intro c16 (And.intro c18 (And.intro c24 (And.intro c25 (And.intro c26 (And.intro c34 (And.intro c35 (And.intro c36 (And.intro c48 (And.intro c54 (And.intro c60 (And.intro c65 (And.intro c68 (And.intro c75 (And.intro c80 (And.intro c95 (And.intro c109 (And.intro c116 (And.intro c117 (And.intro c137 (And.intro c140 (And.intro c141 (And.intro c146 (And.intro c149 (And.intro c160 (And.intro c164 (And.intro c170 (And.intro c176 (And.intro c181 (And.intro c185 (And.intro c190 (And.intro c196 (And.intro c200 kT)))))))))))))))))))))))))))))))))
set_option maxRecDepth 100000 in
theorem tree_l9 (T : TrA va vb a b i j A B P Q ka kb true false true true false) (HL : Lan w) (hok : okP va P ka = true) {Y : Nat} (hw : ka < wid va) (hY : Y = highN (maskN A ka) ka) (hYl : Y < 2 ^ 128) (hxb : false = hasP va P ((ka : Int) + 1) vb B) (hyb : true = hasP va Y ((ka : Int) + 1) vb B) :
    Calls Tryz.prog 5 #[.agg (adr va a).toArray, .agg (adr vb b).toArray, .agg #[.int .i64 i, .int .i64 j]] w fun e w' => e = .returned (.bool true) ∧ Chg [] w w' := by
  have L : ∀ W, Chg [] w W → Lan W := fun W h => HL.chg0 h
  have lp := T.lp
  have lq := T.lq
  have bk : -9223372036854775808 ≤ (ka : Int) ∧ (ka : Int) ≤ 9223372036854775807 := ⟨by omega, by have := T.wa_; have := wid_le va; omega⟩
  have bj : -9223372036854775808 ≤ (kb : Int) ∧ (kb : Int) ≤ 9223372036854775807 := ⟨by omega, by have := T.wb_; have := wid_le vb; omega⟩
  have c16 := fun W (_ : Chg [] w W) => right_N va a W
  have c18 := fun W (_ : Chg [] w W) => right_N vb b W
  rw [← T.a_] at c16
  rw [← T.b_] at c18
  have c24 := fun W (_ : Chg [] w W) => width2_N va A W
  have c25 := fun W (_ : Chg [] w W) => to_chg (within_N i (wid va) (wid_le va) T.hi_ W)
  have c26 := fun W (_ : Chg [] w W) => of_is T.la_ T.oa_ (k := (ka : Int)) (by omega) (by have := T.wa_; omega) W
  have c34 := fun W (_ : Chg [] w W) => width2_N vb B W
  have c35 := fun W (_ : Chg [] w W) => to_chg (within_N j (wid vb) (wid_le vb) T.hj_ W)
  have c36 := fun W (_ : Chg [] w W) => of_is T.lb_ T.ob_ (k := (kb : Int)) (by omega) (by have := T.wb_; omega) W
  rw [← T.ka_] at c25
  rw [← T.kb_] at c35
  rw [Int.toNat_natCast, ← T.p_] at c26
  rw [Int.toNat_natCast, ← T.q_] at c36
  have c48 := fun W (_ : Chg [] w W) => has_N va P ka va A lp T.la_ W
  have c54 := fun W (_ : Chg [] w W) => has_N vb Q kb vb B lq T.lb_ W
  have c60 := fun W (_ : Chg [] w W) => covers_N va P ka va P ka lp lp W
  rw [show hasP va P ka va A = true by rw [T.p_]; exact tree_has va A ka T.wa_ T.oa_] at c48
  rw [show hasP vb Q kb vb B = true by rw [T.q_]; exact tree_has vb B kb T.wb_ T.ob_] at c54
  rw [show covP va P ka va P ka = true by rw [T.p_]; exact tree_cov va A ka T.wa_] at c60
  have c65 := fun W (_ : Chg [] w W) => covers_N va P ka vb Q kb lp lq W
  have c68 := fun W (_ : Chg [] w W) => covers_N vb Q kb va P ka lq lp W
  rw [← T.pq_] at c65
  rw [← T.qp_] at c68
  have c75 := fun W => beq29 (.tmp 73) (.tmp 74) va vb P Q ka kb lp lq bk bj W
  rw [T.same] at c75
  have c80 := fun W (_ : Chg [] w W) => has_N va P ka vb B lp T.lb_ W
  rw [← T.pb_] at c80
  have c87 := c80
  have c95 := fun W (_ : Chg [] w W) => has_N va P ka vb Q lp lq W
  have c100 := fun W (_ : Chg [] w W) => has_N vb Q kb va P lq lp W
  rw [← T.hx_] at c95
  rw [← T.hy_] at c100
  have c109 := fun W (_ : Chg [] w W) => halves_N va P ka lp W
  have c116 := fun W (_ : Chg [] w W) => width2_N va A W
  rw [show halP va P ka = ((va, P, (ka : Int) + 1), (va, Y, (ka : Int) + 1), 0) by unfold halP; rw [if_pos hok, if_neg (by omega), hY, T.p_, Int.toNat_natCast]] at c109
  have c117 : Value.bool ((ka : Int) == (wid va : Nat)) = .bool false := by rw [beq_eq_false_iff_ne.2 (by omega)]
  have lY : Y < 2 ^ 128 := hYl
  have c137 := fun W (_ : Chg [] w W) => has_N va P ((ka : Int) + 1) va A lp T.la_ W
  have c140 := fun W (_ : Chg [] w W) => has_N va Y ((ka : Int) + 1) va A lY T.la_ W
  rw [show hasP va Y ((ka : Int) + 1) va A = !hasP va P ((ka : Int) + 1) va A by rw [hY, T.p_]; exact tree_either A ka va hw T.oa_] at c140
  have c141 := eq_not (hasP va P ((ka : Int) + 1) va A)
  have c146 := c80
  have c149 := fun W (_ : Chg [] w W) => has_N va P ((ka : Int) + 1) vb B lp T.lb_ W
  rw [← hxb] at c149
  have c153 := fun W (_ : Chg [] w W) => has_N va Y ((ka : Int) + 1) vb B lY T.lb_ W
  rw [← hyb] at c153
  have c160 := c149
  have c164 := c153
  have c170 := fun W (_ : Chg [] w W) => compare_N va P ((ka : Int) + 1) va Y ((ka : Int) + 1) lp lY W
  rw [show cmpP va P ((ka : Int) + 1) va Y ((ka : Int) + 1) = -1 by rw [hY, T.p_]; exact tree_rise A ka va hw] at c170
  have c176 := fun W (_ : Chg [] w W) => compare_N va P ka va P ((ka : Int) + 1) lp lp W
  rw [show cmpP va P ka va P ((ka : Int) + 1) = -1 by rw [T.p_]; exact tree_first A ka va] at c176
  have c181 := fun W (_ : Chg [] w W) => covers_N va P ka va P ((ka : Int) + 1) lp lp W
  rw [show covP va P ka va P ((ka : Int) + 1) = true by rw [T.p_]; exact tree_low A ka va hw] at c181
  have c185 := fun W (_ : Chg [] w W) => covers_N va P ka va Y ((ka : Int) + 1) lp lY W
  rw [show covP va P ka va Y ((ka : Int) + 1) = true by rw [hY, T.p_]; exact tree_high A ka va hw] at c185
  have c190 := fun W (_ : Chg [] w W) => covers_N va P ((ka : Int) + 1) va Y ((ka : Int) + 1) lp lY W
  rw [show covP va P ((ka : Int) + 1) va Y ((ka : Int) + 1) = false by rw [hY, T.p_]; exact tree_off1 A ka va hw] at c190
  have c196 := fun W (_ : Chg [] w W) => covers_N va Y ((ka : Int) + 1) va P ((ka : Int) + 1) lY lp W
  rw [show covP va Y ((ka : Int) + 1) va P ((ka : Int) + 1) = false by rw [hY, T.p_]; exact tree_off2 A ka va hw] at c196
  have c200 := fun W (h : Chg [] w W) => works_N W (L W h)
  refine Sx.calls_is (args := [.agg (adr va a).toArray, .agg (adr vb b).toArray, .agg #[.int .i64 i, .int .i64 j]]) (hints2 va vb A B P Q ka kb Y true false true true false false true) [] (by kernel_rfl) Tryz.func5 rfl (Nat.le_of_ble_eq_true rfl) ?_
  exact Eq.mp (by kernel_rfl) (And.intro c16 (And.intro c18 (And.intro c24 (And.intro c25 (And.intro c26 (And.intro c34 (And.intro c35 (And.intro c36 (And.intro c48 (And.intro c54 (And.intro c60 (And.intro c65 (And.intro c68 (And.intro c75 (And.intro c80 (And.intro c95 (And.intro c109 (And.intro c116 (And.intro c117 (And.intro c137 (And.intro c140 (And.intro c141 (And.intro c146 (And.intro c149 (And.intro c153 (And.intro c160 (And.intro c170 (And.intro c176 (And.intro c181 (And.intro c185 (And.intro c190 (And.intro c196 (And.intro c200 kT)))))))))))))))))))))))))))))))))
set_option maxRecDepth 100000 in
theorem tree_l10 (T : TrA va vb a b i j A B P Q ka kb true false true false true) (HL : Lan w) (hok : okP va P ka = true) {Y : Nat} (hw : ka < wid va) (hY : Y = highN (maskN A ka) ka) (hYl : Y < 2 ^ 128) (hxb : true = hasP va P ((ka : Int) + 1) vb B) (hyb : false = hasP va Y ((ka : Int) + 1) vb B) :
    Calls Tryz.prog 5 #[.agg (adr va a).toArray, .agg (adr vb b).toArray, .agg #[.int .i64 i, .int .i64 j]] w fun e w' => e = .returned (.bool true) ∧ Chg [] w w' := by
  have L : ∀ W, Chg [] w W → Lan W := fun W h => HL.chg0 h
  have lp := T.lp
  have lq := T.lq
  have bk : -9223372036854775808 ≤ (ka : Int) ∧ (ka : Int) ≤ 9223372036854775807 := ⟨by omega, by have := T.wa_; have := wid_le va; omega⟩
  have bj : -9223372036854775808 ≤ (kb : Int) ∧ (kb : Int) ≤ 9223372036854775807 := ⟨by omega, by have := T.wb_; have := wid_le vb; omega⟩
  have c16 := fun W (_ : Chg [] w W) => right_N va a W
  have c18 := fun W (_ : Chg [] w W) => right_N vb b W
  rw [← T.a_] at c16
  rw [← T.b_] at c18
  have c24 := fun W (_ : Chg [] w W) => width2_N va A W
  have c25 := fun W (_ : Chg [] w W) => to_chg (within_N i (wid va) (wid_le va) T.hi_ W)
  have c26 := fun W (_ : Chg [] w W) => of_is T.la_ T.oa_ (k := (ka : Int)) (by omega) (by have := T.wa_; omega) W
  have c34 := fun W (_ : Chg [] w W) => width2_N vb B W
  have c35 := fun W (_ : Chg [] w W) => to_chg (within_N j (wid vb) (wid_le vb) T.hj_ W)
  have c36 := fun W (_ : Chg [] w W) => of_is T.lb_ T.ob_ (k := (kb : Int)) (by omega) (by have := T.wb_; omega) W
  rw [← T.ka_] at c25
  rw [← T.kb_] at c35
  rw [Int.toNat_natCast, ← T.p_] at c26
  rw [Int.toNat_natCast, ← T.q_] at c36
  have c48 := fun W (_ : Chg [] w W) => has_N va P ka va A lp T.la_ W
  have c54 := fun W (_ : Chg [] w W) => has_N vb Q kb vb B lq T.lb_ W
  have c60 := fun W (_ : Chg [] w W) => covers_N va P ka va P ka lp lp W
  rw [show hasP va P ka va A = true by rw [T.p_]; exact tree_has va A ka T.wa_ T.oa_] at c48
  rw [show hasP vb Q kb vb B = true by rw [T.q_]; exact tree_has vb B kb T.wb_ T.ob_] at c54
  rw [show covP va P ka va P ka = true by rw [T.p_]; exact tree_cov va A ka T.wa_] at c60
  have c65 := fun W (_ : Chg [] w W) => covers_N va P ka vb Q kb lp lq W
  have c68 := fun W (_ : Chg [] w W) => covers_N vb Q kb va P ka lq lp W
  rw [← T.pq_] at c65
  rw [← T.qp_] at c68
  have c75 := fun W => beq29 (.tmp 73) (.tmp 74) va vb P Q ka kb lp lq bk bj W
  rw [T.same] at c75
  have c80 := fun W (_ : Chg [] w W) => has_N va P ka vb B lp T.lb_ W
  rw [← T.pb_] at c80
  have c87 := c80
  have c95 := fun W (_ : Chg [] w W) => has_N va P ka vb Q lp lq W
  have c100 := fun W (_ : Chg [] w W) => has_N vb Q kb va P lq lp W
  rw [← T.hx_] at c95
  rw [← T.hy_] at c100
  have c109 := fun W (_ : Chg [] w W) => halves_N va P ka lp W
  have c116 := fun W (_ : Chg [] w W) => width2_N va A W
  rw [show halP va P ka = ((va, P, (ka : Int) + 1), (va, Y, (ka : Int) + 1), 0) by unfold halP; rw [if_pos hok, if_neg (by omega), hY, T.p_, Int.toNat_natCast]] at c109
  have c117 : Value.bool ((ka : Int) == (wid va : Nat)) = .bool false := by rw [beq_eq_false_iff_ne.2 (by omega)]
  have lY : Y < 2 ^ 128 := hYl
  have c137 := fun W (_ : Chg [] w W) => has_N va P ((ka : Int) + 1) va A lp T.la_ W
  have c140 := fun W (_ : Chg [] w W) => has_N va Y ((ka : Int) + 1) va A lY T.la_ W
  rw [show hasP va Y ((ka : Int) + 1) va A = !hasP va P ((ka : Int) + 1) va A by rw [hY, T.p_]; exact tree_either A ka va hw T.oa_] at c140
  have c141 := eq_not (hasP va P ((ka : Int) + 1) va A)
  have c146 := c80
  have c149 := fun W (_ : Chg [] w W) => has_N va P ((ka : Int) + 1) vb B lp T.lb_ W
  rw [← hxb] at c149
  have c153 := fun W (_ : Chg [] w W) => has_N va Y ((ka : Int) + 1) vb B lY T.lb_ W
  rw [← hyb] at c153
  have c160 := c149
  have c164 := c153
  have c170 := fun W (_ : Chg [] w W) => compare_N va P ((ka : Int) + 1) va Y ((ka : Int) + 1) lp lY W
  rw [show cmpP va P ((ka : Int) + 1) va Y ((ka : Int) + 1) = -1 by rw [hY, T.p_]; exact tree_rise A ka va hw] at c170
  have c176 := fun W (_ : Chg [] w W) => compare_N va P ka va P ((ka : Int) + 1) lp lp W
  rw [show cmpP va P ka va P ((ka : Int) + 1) = -1 by rw [T.p_]; exact tree_first A ka va] at c176
  have c181 := fun W (_ : Chg [] w W) => covers_N va P ka va P ((ka : Int) + 1) lp lp W
  rw [show covP va P ka va P ((ka : Int) + 1) = true by rw [T.p_]; exact tree_low A ka va hw] at c181
  have c185 := fun W (_ : Chg [] w W) => covers_N va P ka va Y ((ka : Int) + 1) lp lY W
  rw [show covP va P ka va Y ((ka : Int) + 1) = true by rw [hY, T.p_]; exact tree_high A ka va hw] at c185
  have c190 := fun W (_ : Chg [] w W) => covers_N va P ((ka : Int) + 1) va Y ((ka : Int) + 1) lp lY W
  rw [show covP va P ((ka : Int) + 1) va Y ((ka : Int) + 1) = false by rw [hY, T.p_]; exact tree_off1 A ka va hw] at c190
  have c196 := fun W (_ : Chg [] w W) => covers_N va Y ((ka : Int) + 1) va P ((ka : Int) + 1) lY lp W
  rw [show covP va Y ((ka : Int) + 1) va P ((ka : Int) + 1) = false by rw [hY, T.p_]; exact tree_off2 A ka va hw] at c196
  have c200 := fun W (h : Chg [] w W) => works_N W (L W h)
  refine Sx.calls_is (args := [.agg (adr va a).toArray, .agg (adr vb b).toArray, .agg #[.int .i64 i, .int .i64 j]]) (hints2 va vb A B P Q ka kb Y true false true false true true false) [] (by kernel_rfl) Tryz.func5 rfl (Nat.le_of_ble_eq_true rfl) ?_
  exact Eq.mp (by kernel_rfl) (And.intro c16 (And.intro c18 (And.intro c24 (And.intro c25 (And.intro c26 (And.intro c34 (And.intro c35 (And.intro c36 (And.intro c48 (And.intro c54 (And.intro c60 (And.intro c65 (And.intro c68 (And.intro c75 (And.intro c80 (And.intro c95 (And.intro c100 (And.intro c109 (And.intro c116 (And.intro c117 (And.intro c137 (And.intro c140 (And.intro c141 (And.intro c146 (And.intro c149 (And.intro c160 (And.intro c164 (And.intro c170 (And.intro c176 (And.intro c181 (And.intro c185 (And.intro c190 (And.intro c196 (And.intro c200 kT))))))))))))))))))))))))))))))))))
set_option maxRecDepth 100000 in
theorem tree_l11 (T : TrA va vb a b i j A B P Q ka kb true false true false true) (HL : Lan w) (hok : okP va P ka = true) {Y : Nat} (hw : ka < wid va) (hY : Y = highN (maskN A ka) ka) (hYl : Y < 2 ^ 128) (hxb : false = hasP va P ((ka : Int) + 1) vb B) (hyb : true = hasP va Y ((ka : Int) + 1) vb B) :
    Calls Tryz.prog 5 #[.agg (adr va a).toArray, .agg (adr vb b).toArray, .agg #[.int .i64 i, .int .i64 j]] w fun e w' => e = .returned (.bool true) ∧ Chg [] w w' := by
  have L : ∀ W, Chg [] w W → Lan W := fun W h => HL.chg0 h
  have lp := T.lp
  have lq := T.lq
  have bk : -9223372036854775808 ≤ (ka : Int) ∧ (ka : Int) ≤ 9223372036854775807 := ⟨by omega, by have := T.wa_; have := wid_le va; omega⟩
  have bj : -9223372036854775808 ≤ (kb : Int) ∧ (kb : Int) ≤ 9223372036854775807 := ⟨by omega, by have := T.wb_; have := wid_le vb; omega⟩
  have c16 := fun W (_ : Chg [] w W) => right_N va a W
  have c18 := fun W (_ : Chg [] w W) => right_N vb b W
  rw [← T.a_] at c16
  rw [← T.b_] at c18
  have c24 := fun W (_ : Chg [] w W) => width2_N va A W
  have c25 := fun W (_ : Chg [] w W) => to_chg (within_N i (wid va) (wid_le va) T.hi_ W)
  have c26 := fun W (_ : Chg [] w W) => of_is T.la_ T.oa_ (k := (ka : Int)) (by omega) (by have := T.wa_; omega) W
  have c34 := fun W (_ : Chg [] w W) => width2_N vb B W
  have c35 := fun W (_ : Chg [] w W) => to_chg (within_N j (wid vb) (wid_le vb) T.hj_ W)
  have c36 := fun W (_ : Chg [] w W) => of_is T.lb_ T.ob_ (k := (kb : Int)) (by omega) (by have := T.wb_; omega) W
  rw [← T.ka_] at c25
  rw [← T.kb_] at c35
  rw [Int.toNat_natCast, ← T.p_] at c26
  rw [Int.toNat_natCast, ← T.q_] at c36
  have c48 := fun W (_ : Chg [] w W) => has_N va P ka va A lp T.la_ W
  have c54 := fun W (_ : Chg [] w W) => has_N vb Q kb vb B lq T.lb_ W
  have c60 := fun W (_ : Chg [] w W) => covers_N va P ka va P ka lp lp W
  rw [show hasP va P ka va A = true by rw [T.p_]; exact tree_has va A ka T.wa_ T.oa_] at c48
  rw [show hasP vb Q kb vb B = true by rw [T.q_]; exact tree_has vb B kb T.wb_ T.ob_] at c54
  rw [show covP va P ka va P ka = true by rw [T.p_]; exact tree_cov va A ka T.wa_] at c60
  have c65 := fun W (_ : Chg [] w W) => covers_N va P ka vb Q kb lp lq W
  have c68 := fun W (_ : Chg [] w W) => covers_N vb Q kb va P ka lq lp W
  rw [← T.pq_] at c65
  rw [← T.qp_] at c68
  have c75 := fun W => beq29 (.tmp 73) (.tmp 74) va vb P Q ka kb lp lq bk bj W
  rw [T.same] at c75
  have c80 := fun W (_ : Chg [] w W) => has_N va P ka vb B lp T.lb_ W
  rw [← T.pb_] at c80
  have c87 := c80
  have c95 := fun W (_ : Chg [] w W) => has_N va P ka vb Q lp lq W
  have c100 := fun W (_ : Chg [] w W) => has_N vb Q kb va P lq lp W
  rw [← T.hx_] at c95
  rw [← T.hy_] at c100
  have c109 := fun W (_ : Chg [] w W) => halves_N va P ka lp W
  have c116 := fun W (_ : Chg [] w W) => width2_N va A W
  rw [show halP va P ka = ((va, P, (ka : Int) + 1), (va, Y, (ka : Int) + 1), 0) by unfold halP; rw [if_pos hok, if_neg (by omega), hY, T.p_, Int.toNat_natCast]] at c109
  have c117 : Value.bool ((ka : Int) == (wid va : Nat)) = .bool false := by rw [beq_eq_false_iff_ne.2 (by omega)]
  have lY : Y < 2 ^ 128 := hYl
  have c137 := fun W (_ : Chg [] w W) => has_N va P ((ka : Int) + 1) va A lp T.la_ W
  have c140 := fun W (_ : Chg [] w W) => has_N va Y ((ka : Int) + 1) va A lY T.la_ W
  rw [show hasP va Y ((ka : Int) + 1) va A = !hasP va P ((ka : Int) + 1) va A by rw [hY, T.p_]; exact tree_either A ka va hw T.oa_] at c140
  have c141 := eq_not (hasP va P ((ka : Int) + 1) va A)
  have c146 := c80
  have c149 := fun W (_ : Chg [] w W) => has_N va P ((ka : Int) + 1) vb B lp T.lb_ W
  rw [← hxb] at c149
  have c153 := fun W (_ : Chg [] w W) => has_N va Y ((ka : Int) + 1) vb B lY T.lb_ W
  rw [← hyb] at c153
  have c160 := c149
  have c164 := c153
  have c170 := fun W (_ : Chg [] w W) => compare_N va P ((ka : Int) + 1) va Y ((ka : Int) + 1) lp lY W
  rw [show cmpP va P ((ka : Int) + 1) va Y ((ka : Int) + 1) = -1 by rw [hY, T.p_]; exact tree_rise A ka va hw] at c170
  have c176 := fun W (_ : Chg [] w W) => compare_N va P ka va P ((ka : Int) + 1) lp lp W
  rw [show cmpP va P ka va P ((ka : Int) + 1) = -1 by rw [T.p_]; exact tree_first A ka va] at c176
  have c181 := fun W (_ : Chg [] w W) => covers_N va P ka va P ((ka : Int) + 1) lp lp W
  rw [show covP va P ka va P ((ka : Int) + 1) = true by rw [T.p_]; exact tree_low A ka va hw] at c181
  have c185 := fun W (_ : Chg [] w W) => covers_N va P ka va Y ((ka : Int) + 1) lp lY W
  rw [show covP va P ka va Y ((ka : Int) + 1) = true by rw [hY, T.p_]; exact tree_high A ka va hw] at c185
  have c190 := fun W (_ : Chg [] w W) => covers_N va P ((ka : Int) + 1) va Y ((ka : Int) + 1) lp lY W
  rw [show covP va P ((ka : Int) + 1) va Y ((ka : Int) + 1) = false by rw [hY, T.p_]; exact tree_off1 A ka va hw] at c190
  have c196 := fun W (_ : Chg [] w W) => covers_N va Y ((ka : Int) + 1) va P ((ka : Int) + 1) lY lp W
  rw [show covP va Y ((ka : Int) + 1) va P ((ka : Int) + 1) = false by rw [hY, T.p_]; exact tree_off2 A ka va hw] at c196
  have c200 := fun W (h : Chg [] w W) => works_N W (L W h)
  refine Sx.calls_is (args := [.agg (adr va a).toArray, .agg (adr vb b).toArray, .agg #[.int .i64 i, .int .i64 j]]) (hints2 va vb A B P Q ka kb Y true false true false true false true) [] (by kernel_rfl) Tryz.func5 rfl (Nat.le_of_ble_eq_true rfl) ?_
  exact Eq.mp (by kernel_rfl) (And.intro c16 (And.intro c18 (And.intro c24 (And.intro c25 (And.intro c26 (And.intro c34 (And.intro c35 (And.intro c36 (And.intro c48 (And.intro c54 (And.intro c60 (And.intro c65 (And.intro c68 (And.intro c75 (And.intro c80 (And.intro c95 (And.intro c100 (And.intro c109 (And.intro c116 (And.intro c117 (And.intro c137 (And.intro c140 (And.intro c141 (And.intro c146 (And.intro c149 (And.intro c153 (And.intro c160 (And.intro c170 (And.intro c176 (And.intro c181 (And.intro c185 (And.intro c190 (And.intro c196 (And.intro c200 kT))))))))))))))))))))))))))))))))))
set_option maxRecDepth 100000 in
theorem tree_l12 (T : TrA va vb a b i j A B P Q ka kb false true true true true) (HL : Lan w) (hok : okP va P ka = true) {Y : Nat} (hw : ka < wid va) (hY : Y = highN (maskN A ka) ka) (hYl : Y < 2 ^ 128) (hxb : true = hasP va P ((ka : Int) + 1) vb B) (hyb : false = hasP va Y ((ka : Int) + 1) vb B) :
    Calls Tryz.prog 5 #[.agg (adr va a).toArray, .agg (adr vb b).toArray, .agg #[.int .i64 i, .int .i64 j]] w fun e w' => e = .returned (.bool true) ∧ Chg [] w w' := by
  have L : ∀ W, Chg [] w W → Lan W := fun W h => HL.chg0 h
  have lp := T.lp
  have lq := T.lq
  have bk : -9223372036854775808 ≤ (ka : Int) ∧ (ka : Int) ≤ 9223372036854775807 := ⟨by omega, by have := T.wa_; have := wid_le va; omega⟩
  have bj : -9223372036854775808 ≤ (kb : Int) ∧ (kb : Int) ≤ 9223372036854775807 := ⟨by omega, by have := T.wb_; have := wid_le vb; omega⟩
  have c16 := fun W (_ : Chg [] w W) => right_N va a W
  have c18 := fun W (_ : Chg [] w W) => right_N vb b W
  rw [← T.a_] at c16
  rw [← T.b_] at c18
  have c24 := fun W (_ : Chg [] w W) => width2_N va A W
  have c25 := fun W (_ : Chg [] w W) => to_chg (within_N i (wid va) (wid_le va) T.hi_ W)
  have c26 := fun W (_ : Chg [] w W) => of_is T.la_ T.oa_ (k := (ka : Int)) (by omega) (by have := T.wa_; omega) W
  have c34 := fun W (_ : Chg [] w W) => width2_N vb B W
  have c35 := fun W (_ : Chg [] w W) => to_chg (within_N j (wid vb) (wid_le vb) T.hj_ W)
  have c36 := fun W (_ : Chg [] w W) => of_is T.lb_ T.ob_ (k := (kb : Int)) (by omega) (by have := T.wb_; omega) W
  rw [← T.ka_] at c25
  rw [← T.kb_] at c35
  rw [Int.toNat_natCast, ← T.p_] at c26
  rw [Int.toNat_natCast, ← T.q_] at c36
  have c48 := fun W (_ : Chg [] w W) => has_N va P ka va A lp T.la_ W
  have c54 := fun W (_ : Chg [] w W) => has_N vb Q kb vb B lq T.lb_ W
  have c60 := fun W (_ : Chg [] w W) => covers_N va P ka va P ka lp lp W
  rw [show hasP va P ka va A = true by rw [T.p_]; exact tree_has va A ka T.wa_ T.oa_] at c48
  rw [show hasP vb Q kb vb B = true by rw [T.q_]; exact tree_has vb B kb T.wb_ T.ob_] at c54
  rw [show covP va P ka va P ka = true by rw [T.p_]; exact tree_cov va A ka T.wa_] at c60
  have c65 := fun W (_ : Chg [] w W) => covers_N va P ka vb Q kb lp lq W
  have c68 := fun W (_ : Chg [] w W) => covers_N vb Q kb va P ka lq lp W
  rw [← T.pq_] at c65
  rw [← T.qp_] at c68
  have c75 := fun W => beq29 (.tmp 73) (.tmp 74) va vb P Q ka kb lp lq bk bj W
  rw [T.same] at c75
  have c80 := fun W (_ : Chg [] w W) => has_N va P ka vb B lp T.lb_ W
  rw [← T.pb_] at c80
  have c87 := c80
  have c95 := fun W (_ : Chg [] w W) => has_N va P ka vb Q lp lq W
  have c100 := fun W (_ : Chg [] w W) => has_N vb Q kb va P lq lp W
  rw [← T.hx_] at c95
  rw [← T.hy_] at c100
  have c109 := fun W (_ : Chg [] w W) => halves_N va P ka lp W
  have c116 := fun W (_ : Chg [] w W) => width2_N va A W
  rw [show halP va P ka = ((va, P, (ka : Int) + 1), (va, Y, (ka : Int) + 1), 0) by unfold halP; rw [if_pos hok, if_neg (by omega), hY, T.p_, Int.toNat_natCast]] at c109
  have c117 : Value.bool ((ka : Int) == (wid va : Nat)) = .bool false := by rw [beq_eq_false_iff_ne.2 (by omega)]
  have lY : Y < 2 ^ 128 := hYl
  have c137 := fun W (_ : Chg [] w W) => has_N va P ((ka : Int) + 1) va A lp T.la_ W
  have c140 := fun W (_ : Chg [] w W) => has_N va Y ((ka : Int) + 1) va A lY T.la_ W
  rw [show hasP va Y ((ka : Int) + 1) va A = !hasP va P ((ka : Int) + 1) va A by rw [hY, T.p_]; exact tree_either A ka va hw T.oa_] at c140
  have c141 := eq_not (hasP va P ((ka : Int) + 1) va A)
  have c146 := c80
  have c149 := fun W (_ : Chg [] w W) => has_N va P ((ka : Int) + 1) vb B lp T.lb_ W
  rw [← hxb] at c149
  have c153 := fun W (_ : Chg [] w W) => has_N va Y ((ka : Int) + 1) vb B lY T.lb_ W
  rw [← hyb] at c153
  have c160 := c149
  have c164 := c153
  have c170 := fun W (_ : Chg [] w W) => compare_N va P ((ka : Int) + 1) va Y ((ka : Int) + 1) lp lY W
  rw [show cmpP va P ((ka : Int) + 1) va Y ((ka : Int) + 1) = -1 by rw [hY, T.p_]; exact tree_rise A ka va hw] at c170
  have c176 := fun W (_ : Chg [] w W) => compare_N va P ka va P ((ka : Int) + 1) lp lp W
  rw [show cmpP va P ka va P ((ka : Int) + 1) = -1 by rw [T.p_]; exact tree_first A ka va] at c176
  have c181 := fun W (_ : Chg [] w W) => covers_N va P ka va P ((ka : Int) + 1) lp lp W
  rw [show covP va P ka va P ((ka : Int) + 1) = true by rw [T.p_]; exact tree_low A ka va hw] at c181
  have c185 := fun W (_ : Chg [] w W) => covers_N va P ka va Y ((ka : Int) + 1) lp lY W
  rw [show covP va P ka va Y ((ka : Int) + 1) = true by rw [hY, T.p_]; exact tree_high A ka va hw] at c185
  have c190 := fun W (_ : Chg [] w W) => covers_N va P ((ka : Int) + 1) va Y ((ka : Int) + 1) lp lY W
  rw [show covP va P ((ka : Int) + 1) va Y ((ka : Int) + 1) = false by rw [hY, T.p_]; exact tree_off1 A ka va hw] at c190
  have c196 := fun W (_ : Chg [] w W) => covers_N va Y ((ka : Int) + 1) va P ((ka : Int) + 1) lY lp W
  rw [show covP va Y ((ka : Int) + 1) va P ((ka : Int) + 1) = false by rw [hY, T.p_]; exact tree_off2 A ka va hw] at c196
  have c200 := fun W (h : Chg [] w W) => works_N W (L W h)
  refine Sx.calls_is (args := [.agg (adr va a).toArray, .agg (adr vb b).toArray, .agg #[.int .i64 i, .int .i64 j]]) (hints2 va vb A B P Q ka kb Y false true true true true true false) [] (by kernel_rfl) Tryz.func5 rfl (Nat.le_of_ble_eq_true rfl) ?_
  exact Eq.mp (by kernel_rfl) (And.intro c16 (And.intro c18 (And.intro c24 (And.intro c25 (And.intro c26 (And.intro c34 (And.intro c35 (And.intro c36 (And.intro c48 (And.intro c54 (And.intro c60 (And.intro c65 (And.intro c68 (And.intro c75 (And.intro c80 (And.intro c87 (And.intro c95 (And.intro c109 (And.intro c116 (And.intro c117 (And.intro c137 (And.intro c140 (And.intro c141 (And.intro c146 (And.intro c149 (And.intro c160 (And.intro c164 (And.intro c170 (And.intro c176 (And.intro c181 (And.intro c185 (And.intro c190 (And.intro c196 (And.intro c200 kT))))))))))))))))))))))))))))))))))
set_option maxRecDepth 100000 in
theorem tree_l13 (T : TrA va vb a b i j A B P Q ka kb false true true true true) (HL : Lan w) (hok : okP va P ka = true) {Y : Nat} (hw : ka < wid va) (hY : Y = highN (maskN A ka) ka) (hYl : Y < 2 ^ 128) (hxb : false = hasP va P ((ka : Int) + 1) vb B) (hyb : true = hasP va Y ((ka : Int) + 1) vb B) :
    Calls Tryz.prog 5 #[.agg (adr va a).toArray, .agg (adr vb b).toArray, .agg #[.int .i64 i, .int .i64 j]] w fun e w' => e = .returned (.bool true) ∧ Chg [] w w' := by
  have L : ∀ W, Chg [] w W → Lan W := fun W h => HL.chg0 h
  have lp := T.lp
  have lq := T.lq
  have bk : -9223372036854775808 ≤ (ka : Int) ∧ (ka : Int) ≤ 9223372036854775807 := ⟨by omega, by have := T.wa_; have := wid_le va; omega⟩
  have bj : -9223372036854775808 ≤ (kb : Int) ∧ (kb : Int) ≤ 9223372036854775807 := ⟨by omega, by have := T.wb_; have := wid_le vb; omega⟩
  have c16 := fun W (_ : Chg [] w W) => right_N va a W
  have c18 := fun W (_ : Chg [] w W) => right_N vb b W
  rw [← T.a_] at c16
  rw [← T.b_] at c18
  have c24 := fun W (_ : Chg [] w W) => width2_N va A W
  have c25 := fun W (_ : Chg [] w W) => to_chg (within_N i (wid va) (wid_le va) T.hi_ W)
  have c26 := fun W (_ : Chg [] w W) => of_is T.la_ T.oa_ (k := (ka : Int)) (by omega) (by have := T.wa_; omega) W
  have c34 := fun W (_ : Chg [] w W) => width2_N vb B W
  have c35 := fun W (_ : Chg [] w W) => to_chg (within_N j (wid vb) (wid_le vb) T.hj_ W)
  have c36 := fun W (_ : Chg [] w W) => of_is T.lb_ T.ob_ (k := (kb : Int)) (by omega) (by have := T.wb_; omega) W
  rw [← T.ka_] at c25
  rw [← T.kb_] at c35
  rw [Int.toNat_natCast, ← T.p_] at c26
  rw [Int.toNat_natCast, ← T.q_] at c36
  have c48 := fun W (_ : Chg [] w W) => has_N va P ka va A lp T.la_ W
  have c54 := fun W (_ : Chg [] w W) => has_N vb Q kb vb B lq T.lb_ W
  have c60 := fun W (_ : Chg [] w W) => covers_N va P ka va P ka lp lp W
  rw [show hasP va P ka va A = true by rw [T.p_]; exact tree_has va A ka T.wa_ T.oa_] at c48
  rw [show hasP vb Q kb vb B = true by rw [T.q_]; exact tree_has vb B kb T.wb_ T.ob_] at c54
  rw [show covP va P ka va P ka = true by rw [T.p_]; exact tree_cov va A ka T.wa_] at c60
  have c65 := fun W (_ : Chg [] w W) => covers_N va P ka vb Q kb lp lq W
  have c68 := fun W (_ : Chg [] w W) => covers_N vb Q kb va P ka lq lp W
  rw [← T.pq_] at c65
  rw [← T.qp_] at c68
  have c75 := fun W => beq29 (.tmp 73) (.tmp 74) va vb P Q ka kb lp lq bk bj W
  rw [T.same] at c75
  have c80 := fun W (_ : Chg [] w W) => has_N va P ka vb B lp T.lb_ W
  rw [← T.pb_] at c80
  have c87 := c80
  have c95 := fun W (_ : Chg [] w W) => has_N va P ka vb Q lp lq W
  have c100 := fun W (_ : Chg [] w W) => has_N vb Q kb va P lq lp W
  rw [← T.hx_] at c95
  rw [← T.hy_] at c100
  have c109 := fun W (_ : Chg [] w W) => halves_N va P ka lp W
  have c116 := fun W (_ : Chg [] w W) => width2_N va A W
  rw [show halP va P ka = ((va, P, (ka : Int) + 1), (va, Y, (ka : Int) + 1), 0) by unfold halP; rw [if_pos hok, if_neg (by omega), hY, T.p_, Int.toNat_natCast]] at c109
  have c117 : Value.bool ((ka : Int) == (wid va : Nat)) = .bool false := by rw [beq_eq_false_iff_ne.2 (by omega)]
  have lY : Y < 2 ^ 128 := hYl
  have c137 := fun W (_ : Chg [] w W) => has_N va P ((ka : Int) + 1) va A lp T.la_ W
  have c140 := fun W (_ : Chg [] w W) => has_N va Y ((ka : Int) + 1) va A lY T.la_ W
  rw [show hasP va Y ((ka : Int) + 1) va A = !hasP va P ((ka : Int) + 1) va A by rw [hY, T.p_]; exact tree_either A ka va hw T.oa_] at c140
  have c141 := eq_not (hasP va P ((ka : Int) + 1) va A)
  have c146 := c80
  have c149 := fun W (_ : Chg [] w W) => has_N va P ((ka : Int) + 1) vb B lp T.lb_ W
  rw [← hxb] at c149
  have c153 := fun W (_ : Chg [] w W) => has_N va Y ((ka : Int) + 1) vb B lY T.lb_ W
  rw [← hyb] at c153
  have c160 := c149
  have c164 := c153
  have c170 := fun W (_ : Chg [] w W) => compare_N va P ((ka : Int) + 1) va Y ((ka : Int) + 1) lp lY W
  rw [show cmpP va P ((ka : Int) + 1) va Y ((ka : Int) + 1) = -1 by rw [hY, T.p_]; exact tree_rise A ka va hw] at c170
  have c176 := fun W (_ : Chg [] w W) => compare_N va P ka va P ((ka : Int) + 1) lp lp W
  rw [show cmpP va P ka va P ((ka : Int) + 1) = -1 by rw [T.p_]; exact tree_first A ka va] at c176
  have c181 := fun W (_ : Chg [] w W) => covers_N va P ka va P ((ka : Int) + 1) lp lp W
  rw [show covP va P ka va P ((ka : Int) + 1) = true by rw [T.p_]; exact tree_low A ka va hw] at c181
  have c185 := fun W (_ : Chg [] w W) => covers_N va P ka va Y ((ka : Int) + 1) lp lY W
  rw [show covP va P ka va Y ((ka : Int) + 1) = true by rw [hY, T.p_]; exact tree_high A ka va hw] at c185
  have c190 := fun W (_ : Chg [] w W) => covers_N va P ((ka : Int) + 1) va Y ((ka : Int) + 1) lp lY W
  rw [show covP va P ((ka : Int) + 1) va Y ((ka : Int) + 1) = false by rw [hY, T.p_]; exact tree_off1 A ka va hw] at c190
  have c196 := fun W (_ : Chg [] w W) => covers_N va Y ((ka : Int) + 1) va P ((ka : Int) + 1) lY lp W
  rw [show covP va Y ((ka : Int) + 1) va P ((ka : Int) + 1) = false by rw [hY, T.p_]; exact tree_off2 A ka va hw] at c196
  have c200 := fun W (h : Chg [] w W) => works_N W (L W h)
  refine Sx.calls_is (args := [.agg (adr va a).toArray, .agg (adr vb b).toArray, .agg #[.int .i64 i, .int .i64 j]]) (hints2 va vb A B P Q ka kb Y false true true true true false true) [] (by kernel_rfl) Tryz.func5 rfl (Nat.le_of_ble_eq_true rfl) ?_
  exact Eq.mp (by kernel_rfl) (And.intro c16 (And.intro c18 (And.intro c24 (And.intro c25 (And.intro c26 (And.intro c34 (And.intro c35 (And.intro c36 (And.intro c48 (And.intro c54 (And.intro c60 (And.intro c65 (And.intro c68 (And.intro c75 (And.intro c80 (And.intro c87 (And.intro c95 (And.intro c109 (And.intro c116 (And.intro c117 (And.intro c137 (And.intro c140 (And.intro c141 (And.intro c146 (And.intro c149 (And.intro c153 (And.intro c160 (And.intro c170 (And.intro c176 (And.intro c181 (And.intro c185 (And.intro c190 (And.intro c196 (And.intro c200 kT))))))))))))))))))))))))))))))))))
set_option maxRecDepth 100000 in
theorem tree_l14 (T : TrA va vb a b i j A B P Q ka kb false true true true false) (HL : Lan w) (hok : okP va P ka = true) {Y : Nat} (hw : ka < wid va) (hY : Y = highN (maskN A ka) ka) (hYl : Y < 2 ^ 128) (hxb : true = hasP va P ((ka : Int) + 1) vb B) (hyb : false = hasP va Y ((ka : Int) + 1) vb B) :
    Calls Tryz.prog 5 #[.agg (adr va a).toArray, .agg (adr vb b).toArray, .agg #[.int .i64 i, .int .i64 j]] w fun e w' => e = .returned (.bool true) ∧ Chg [] w w' := by
  have L : ∀ W, Chg [] w W → Lan W := fun W h => HL.chg0 h
  have lp := T.lp
  have lq := T.lq
  have bk : -9223372036854775808 ≤ (ka : Int) ∧ (ka : Int) ≤ 9223372036854775807 := ⟨by omega, by have := T.wa_; have := wid_le va; omega⟩
  have bj : -9223372036854775808 ≤ (kb : Int) ∧ (kb : Int) ≤ 9223372036854775807 := ⟨by omega, by have := T.wb_; have := wid_le vb; omega⟩
  have c16 := fun W (_ : Chg [] w W) => right_N va a W
  have c18 := fun W (_ : Chg [] w W) => right_N vb b W
  rw [← T.a_] at c16
  rw [← T.b_] at c18
  have c24 := fun W (_ : Chg [] w W) => width2_N va A W
  have c25 := fun W (_ : Chg [] w W) => to_chg (within_N i (wid va) (wid_le va) T.hi_ W)
  have c26 := fun W (_ : Chg [] w W) => of_is T.la_ T.oa_ (k := (ka : Int)) (by omega) (by have := T.wa_; omega) W
  have c34 := fun W (_ : Chg [] w W) => width2_N vb B W
  have c35 := fun W (_ : Chg [] w W) => to_chg (within_N j (wid vb) (wid_le vb) T.hj_ W)
  have c36 := fun W (_ : Chg [] w W) => of_is T.lb_ T.ob_ (k := (kb : Int)) (by omega) (by have := T.wb_; omega) W
  rw [← T.ka_] at c25
  rw [← T.kb_] at c35
  rw [Int.toNat_natCast, ← T.p_] at c26
  rw [Int.toNat_natCast, ← T.q_] at c36
  have c48 := fun W (_ : Chg [] w W) => has_N va P ka va A lp T.la_ W
  have c54 := fun W (_ : Chg [] w W) => has_N vb Q kb vb B lq T.lb_ W
  have c60 := fun W (_ : Chg [] w W) => covers_N va P ka va P ka lp lp W
  rw [show hasP va P ka va A = true by rw [T.p_]; exact tree_has va A ka T.wa_ T.oa_] at c48
  rw [show hasP vb Q kb vb B = true by rw [T.q_]; exact tree_has vb B kb T.wb_ T.ob_] at c54
  rw [show covP va P ka va P ka = true by rw [T.p_]; exact tree_cov va A ka T.wa_] at c60
  have c65 := fun W (_ : Chg [] w W) => covers_N va P ka vb Q kb lp lq W
  have c68 := fun W (_ : Chg [] w W) => covers_N vb Q kb va P ka lq lp W
  rw [← T.pq_] at c65
  rw [← T.qp_] at c68
  have c75 := fun W => beq29 (.tmp 73) (.tmp 74) va vb P Q ka kb lp lq bk bj W
  rw [T.same] at c75
  have c80 := fun W (_ : Chg [] w W) => has_N va P ka vb B lp T.lb_ W
  rw [← T.pb_] at c80
  have c87 := c80
  have c95 := fun W (_ : Chg [] w W) => has_N va P ka vb Q lp lq W
  have c100 := fun W (_ : Chg [] w W) => has_N vb Q kb va P lq lp W
  rw [← T.hx_] at c95
  rw [← T.hy_] at c100
  have c109 := fun W (_ : Chg [] w W) => halves_N va P ka lp W
  have c116 := fun W (_ : Chg [] w W) => width2_N va A W
  rw [show halP va P ka = ((va, P, (ka : Int) + 1), (va, Y, (ka : Int) + 1), 0) by unfold halP; rw [if_pos hok, if_neg (by omega), hY, T.p_, Int.toNat_natCast]] at c109
  have c117 : Value.bool ((ka : Int) == (wid va : Nat)) = .bool false := by rw [beq_eq_false_iff_ne.2 (by omega)]
  have lY : Y < 2 ^ 128 := hYl
  have c137 := fun W (_ : Chg [] w W) => has_N va P ((ka : Int) + 1) va A lp T.la_ W
  have c140 := fun W (_ : Chg [] w W) => has_N va Y ((ka : Int) + 1) va A lY T.la_ W
  rw [show hasP va Y ((ka : Int) + 1) va A = !hasP va P ((ka : Int) + 1) va A by rw [hY, T.p_]; exact tree_either A ka va hw T.oa_] at c140
  have c141 := eq_not (hasP va P ((ka : Int) + 1) va A)
  have c146 := c80
  have c149 := fun W (_ : Chg [] w W) => has_N va P ((ka : Int) + 1) vb B lp T.lb_ W
  rw [← hxb] at c149
  have c153 := fun W (_ : Chg [] w W) => has_N va Y ((ka : Int) + 1) vb B lY T.lb_ W
  rw [← hyb] at c153
  have c160 := c149
  have c164 := c153
  have c170 := fun W (_ : Chg [] w W) => compare_N va P ((ka : Int) + 1) va Y ((ka : Int) + 1) lp lY W
  rw [show cmpP va P ((ka : Int) + 1) va Y ((ka : Int) + 1) = -1 by rw [hY, T.p_]; exact tree_rise A ka va hw] at c170
  have c176 := fun W (_ : Chg [] w W) => compare_N va P ka va P ((ka : Int) + 1) lp lp W
  rw [show cmpP va P ka va P ((ka : Int) + 1) = -1 by rw [T.p_]; exact tree_first A ka va] at c176
  have c181 := fun W (_ : Chg [] w W) => covers_N va P ka va P ((ka : Int) + 1) lp lp W
  rw [show covP va P ka va P ((ka : Int) + 1) = true by rw [T.p_]; exact tree_low A ka va hw] at c181
  have c185 := fun W (_ : Chg [] w W) => covers_N va P ka va Y ((ka : Int) + 1) lp lY W
  rw [show covP va P ka va Y ((ka : Int) + 1) = true by rw [hY, T.p_]; exact tree_high A ka va hw] at c185
  have c190 := fun W (_ : Chg [] w W) => covers_N va P ((ka : Int) + 1) va Y ((ka : Int) + 1) lp lY W
  rw [show covP va P ((ka : Int) + 1) va Y ((ka : Int) + 1) = false by rw [hY, T.p_]; exact tree_off1 A ka va hw] at c190
  have c196 := fun W (_ : Chg [] w W) => covers_N va Y ((ka : Int) + 1) va P ((ka : Int) + 1) lY lp W
  rw [show covP va Y ((ka : Int) + 1) va P ((ka : Int) + 1) = false by rw [hY, T.p_]; exact tree_off2 A ka va hw] at c196
  have c200 := fun W (h : Chg [] w W) => works_N W (L W h)
  refine Sx.calls_is (args := [.agg (adr va a).toArray, .agg (adr vb b).toArray, .agg #[.int .i64 i, .int .i64 j]]) (hints2 va vb A B P Q ka kb Y false true true true false true false) [] (by kernel_rfl) Tryz.func5 rfl (Nat.le_of_ble_eq_true rfl) ?_
  exact Eq.mp (by kernel_rfl) (And.intro c16 (And.intro c18 (And.intro c24 (And.intro c25 (And.intro c26 (And.intro c34 (And.intro c35 (And.intro c36 (And.intro c48 (And.intro c54 (And.intro c60 (And.intro c65 (And.intro c68 (And.intro c75 (And.intro c80 (And.intro c87 (And.intro c95 (And.intro c109 (And.intro c116 (And.intro c117 (And.intro c137 (And.intro c140 (And.intro c141 (And.intro c146 (And.intro c149 (And.intro c160 (And.intro c164 (And.intro c170 (And.intro c176 (And.intro c181 (And.intro c185 (And.intro c190 (And.intro c196 (And.intro c200 kT))))))))))))))))))))))))))))))))))
set_option maxRecDepth 100000 in
theorem tree_l15 (T : TrA va vb a b i j A B P Q ka kb false true true true false) (HL : Lan w) (hok : okP va P ka = true) {Y : Nat} (hw : ka < wid va) (hY : Y = highN (maskN A ka) ka) (hYl : Y < 2 ^ 128) (hxb : false = hasP va P ((ka : Int) + 1) vb B) (hyb : true = hasP va Y ((ka : Int) + 1) vb B) :
    Calls Tryz.prog 5 #[.agg (adr va a).toArray, .agg (adr vb b).toArray, .agg #[.int .i64 i, .int .i64 j]] w fun e w' => e = .returned (.bool true) ∧ Chg [] w w' := by
  have L : ∀ W, Chg [] w W → Lan W := fun W h => HL.chg0 h
  have lp := T.lp
  have lq := T.lq
  have bk : -9223372036854775808 ≤ (ka : Int) ∧ (ka : Int) ≤ 9223372036854775807 := ⟨by omega, by have := T.wa_; have := wid_le va; omega⟩
  have bj : -9223372036854775808 ≤ (kb : Int) ∧ (kb : Int) ≤ 9223372036854775807 := ⟨by omega, by have := T.wb_; have := wid_le vb; omega⟩
  have c16 := fun W (_ : Chg [] w W) => right_N va a W
  have c18 := fun W (_ : Chg [] w W) => right_N vb b W
  rw [← T.a_] at c16
  rw [← T.b_] at c18
  have c24 := fun W (_ : Chg [] w W) => width2_N va A W
  have c25 := fun W (_ : Chg [] w W) => to_chg (within_N i (wid va) (wid_le va) T.hi_ W)
  have c26 := fun W (_ : Chg [] w W) => of_is T.la_ T.oa_ (k := (ka : Int)) (by omega) (by have := T.wa_; omega) W
  have c34 := fun W (_ : Chg [] w W) => width2_N vb B W
  have c35 := fun W (_ : Chg [] w W) => to_chg (within_N j (wid vb) (wid_le vb) T.hj_ W)
  have c36 := fun W (_ : Chg [] w W) => of_is T.lb_ T.ob_ (k := (kb : Int)) (by omega) (by have := T.wb_; omega) W
  rw [← T.ka_] at c25
  rw [← T.kb_] at c35
  rw [Int.toNat_natCast, ← T.p_] at c26
  rw [Int.toNat_natCast, ← T.q_] at c36
  have c48 := fun W (_ : Chg [] w W) => has_N va P ka va A lp T.la_ W
  have c54 := fun W (_ : Chg [] w W) => has_N vb Q kb vb B lq T.lb_ W
  have c60 := fun W (_ : Chg [] w W) => covers_N va P ka va P ka lp lp W
  rw [show hasP va P ka va A = true by rw [T.p_]; exact tree_has va A ka T.wa_ T.oa_] at c48
  rw [show hasP vb Q kb vb B = true by rw [T.q_]; exact tree_has vb B kb T.wb_ T.ob_] at c54
  rw [show covP va P ka va P ka = true by rw [T.p_]; exact tree_cov va A ka T.wa_] at c60
  have c65 := fun W (_ : Chg [] w W) => covers_N va P ka vb Q kb lp lq W
  have c68 := fun W (_ : Chg [] w W) => covers_N vb Q kb va P ka lq lp W
  rw [← T.pq_] at c65
  rw [← T.qp_] at c68
  have c75 := fun W => beq29 (.tmp 73) (.tmp 74) va vb P Q ka kb lp lq bk bj W
  rw [T.same] at c75
  have c80 := fun W (_ : Chg [] w W) => has_N va P ka vb B lp T.lb_ W
  rw [← T.pb_] at c80
  have c87 := c80
  have c95 := fun W (_ : Chg [] w W) => has_N va P ka vb Q lp lq W
  have c100 := fun W (_ : Chg [] w W) => has_N vb Q kb va P lq lp W
  rw [← T.hx_] at c95
  rw [← T.hy_] at c100
  have c109 := fun W (_ : Chg [] w W) => halves_N va P ka lp W
  have c116 := fun W (_ : Chg [] w W) => width2_N va A W
  rw [show halP va P ka = ((va, P, (ka : Int) + 1), (va, Y, (ka : Int) + 1), 0) by unfold halP; rw [if_pos hok, if_neg (by omega), hY, T.p_, Int.toNat_natCast]] at c109
  have c117 : Value.bool ((ka : Int) == (wid va : Nat)) = .bool false := by rw [beq_eq_false_iff_ne.2 (by omega)]
  have lY : Y < 2 ^ 128 := hYl
  have c137 := fun W (_ : Chg [] w W) => has_N va P ((ka : Int) + 1) va A lp T.la_ W
  have c140 := fun W (_ : Chg [] w W) => has_N va Y ((ka : Int) + 1) va A lY T.la_ W
  rw [show hasP va Y ((ka : Int) + 1) va A = !hasP va P ((ka : Int) + 1) va A by rw [hY, T.p_]; exact tree_either A ka va hw T.oa_] at c140
  have c141 := eq_not (hasP va P ((ka : Int) + 1) va A)
  have c146 := c80
  have c149 := fun W (_ : Chg [] w W) => has_N va P ((ka : Int) + 1) vb B lp T.lb_ W
  rw [← hxb] at c149
  have c153 := fun W (_ : Chg [] w W) => has_N va Y ((ka : Int) + 1) vb B lY T.lb_ W
  rw [← hyb] at c153
  have c160 := c149
  have c164 := c153
  have c170 := fun W (_ : Chg [] w W) => compare_N va P ((ka : Int) + 1) va Y ((ka : Int) + 1) lp lY W
  rw [show cmpP va P ((ka : Int) + 1) va Y ((ka : Int) + 1) = -1 by rw [hY, T.p_]; exact tree_rise A ka va hw] at c170
  have c176 := fun W (_ : Chg [] w W) => compare_N va P ka va P ((ka : Int) + 1) lp lp W
  rw [show cmpP va P ka va P ((ka : Int) + 1) = -1 by rw [T.p_]; exact tree_first A ka va] at c176
  have c181 := fun W (_ : Chg [] w W) => covers_N va P ka va P ((ka : Int) + 1) lp lp W
  rw [show covP va P ka va P ((ka : Int) + 1) = true by rw [T.p_]; exact tree_low A ka va hw] at c181
  have c185 := fun W (_ : Chg [] w W) => covers_N va P ka va Y ((ka : Int) + 1) lp lY W
  rw [show covP va P ka va Y ((ka : Int) + 1) = true by rw [hY, T.p_]; exact tree_high A ka va hw] at c185
  have c190 := fun W (_ : Chg [] w W) => covers_N va P ((ka : Int) + 1) va Y ((ka : Int) + 1) lp lY W
  rw [show covP va P ((ka : Int) + 1) va Y ((ka : Int) + 1) = false by rw [hY, T.p_]; exact tree_off1 A ka va hw] at c190
  have c196 := fun W (_ : Chg [] w W) => covers_N va Y ((ka : Int) + 1) va P ((ka : Int) + 1) lY lp W
  rw [show covP va Y ((ka : Int) + 1) va P ((ka : Int) + 1) = false by rw [hY, T.p_]; exact tree_off2 A ka va hw] at c196
  have c200 := fun W (h : Chg [] w W) => works_N W (L W h)
  refine Sx.calls_is (args := [.agg (adr va a).toArray, .agg (adr vb b).toArray, .agg #[.int .i64 i, .int .i64 j]]) (hints2 va vb A B P Q ka kb Y false true true true false false true) [] (by kernel_rfl) Tryz.func5 rfl (Nat.le_of_ble_eq_true rfl) ?_
  exact Eq.mp (by kernel_rfl) (And.intro c16 (And.intro c18 (And.intro c24 (And.intro c25 (And.intro c26 (And.intro c34 (And.intro c35 (And.intro c36 (And.intro c48 (And.intro c54 (And.intro c60 (And.intro c65 (And.intro c68 (And.intro c75 (And.intro c80 (And.intro c87 (And.intro c95 (And.intro c109 (And.intro c116 (And.intro c117 (And.intro c137 (And.intro c140 (And.intro c141 (And.intro c146 (And.intro c149 (And.intro c153 (And.intro c160 (And.intro c170 (And.intro c176 (And.intro c181 (And.intro c185 (And.intro c190 (And.intro c196 (And.intro c200 kT))))))))))))))))))))))))))))))))))
set_option maxRecDepth 100000 in
theorem tree_l16 (T : TrA va vb a b i j A B P Q ka kb false true true false true) (HL : Lan w) (hok : okP va P ka = true) {Y : Nat} (hw : ka < wid va) (hY : Y = highN (maskN A ka) ka) (hYl : Y < 2 ^ 128) (hxb : true = hasP va P ((ka : Int) + 1) vb B) (hyb : false = hasP va Y ((ka : Int) + 1) vb B) :
    Calls Tryz.prog 5 #[.agg (adr va a).toArray, .agg (adr vb b).toArray, .agg #[.int .i64 i, .int .i64 j]] w fun e w' => e = .returned (.bool true) ∧ Chg [] w w' := by
  have L : ∀ W, Chg [] w W → Lan W := fun W h => HL.chg0 h
  have lp := T.lp
  have lq := T.lq
  have bk : -9223372036854775808 ≤ (ka : Int) ∧ (ka : Int) ≤ 9223372036854775807 := ⟨by omega, by have := T.wa_; have := wid_le va; omega⟩
  have bj : -9223372036854775808 ≤ (kb : Int) ∧ (kb : Int) ≤ 9223372036854775807 := ⟨by omega, by have := T.wb_; have := wid_le vb; omega⟩
  have c16 := fun W (_ : Chg [] w W) => right_N va a W
  have c18 := fun W (_ : Chg [] w W) => right_N vb b W
  rw [← T.a_] at c16
  rw [← T.b_] at c18
  have c24 := fun W (_ : Chg [] w W) => width2_N va A W
  have c25 := fun W (_ : Chg [] w W) => to_chg (within_N i (wid va) (wid_le va) T.hi_ W)
  have c26 := fun W (_ : Chg [] w W) => of_is T.la_ T.oa_ (k := (ka : Int)) (by omega) (by have := T.wa_; omega) W
  have c34 := fun W (_ : Chg [] w W) => width2_N vb B W
  have c35 := fun W (_ : Chg [] w W) => to_chg (within_N j (wid vb) (wid_le vb) T.hj_ W)
  have c36 := fun W (_ : Chg [] w W) => of_is T.lb_ T.ob_ (k := (kb : Int)) (by omega) (by have := T.wb_; omega) W
  rw [← T.ka_] at c25
  rw [← T.kb_] at c35
  rw [Int.toNat_natCast, ← T.p_] at c26
  rw [Int.toNat_natCast, ← T.q_] at c36
  have c48 := fun W (_ : Chg [] w W) => has_N va P ka va A lp T.la_ W
  have c54 := fun W (_ : Chg [] w W) => has_N vb Q kb vb B lq T.lb_ W
  have c60 := fun W (_ : Chg [] w W) => covers_N va P ka va P ka lp lp W
  rw [show hasP va P ka va A = true by rw [T.p_]; exact tree_has va A ka T.wa_ T.oa_] at c48
  rw [show hasP vb Q kb vb B = true by rw [T.q_]; exact tree_has vb B kb T.wb_ T.ob_] at c54
  rw [show covP va P ka va P ka = true by rw [T.p_]; exact tree_cov va A ka T.wa_] at c60
  have c65 := fun W (_ : Chg [] w W) => covers_N va P ka vb Q kb lp lq W
  have c68 := fun W (_ : Chg [] w W) => covers_N vb Q kb va P ka lq lp W
  rw [← T.pq_] at c65
  rw [← T.qp_] at c68
  have c75 := fun W => beq29 (.tmp 73) (.tmp 74) va vb P Q ka kb lp lq bk bj W
  rw [T.same] at c75
  have c80 := fun W (_ : Chg [] w W) => has_N va P ka vb B lp T.lb_ W
  rw [← T.pb_] at c80
  have c87 := c80
  have c95 := fun W (_ : Chg [] w W) => has_N va P ka vb Q lp lq W
  have c100 := fun W (_ : Chg [] w W) => has_N vb Q kb va P lq lp W
  rw [← T.hx_] at c95
  rw [← T.hy_] at c100
  have c109 := fun W (_ : Chg [] w W) => halves_N va P ka lp W
  have c116 := fun W (_ : Chg [] w W) => width2_N va A W
  rw [show halP va P ka = ((va, P, (ka : Int) + 1), (va, Y, (ka : Int) + 1), 0) by unfold halP; rw [if_pos hok, if_neg (by omega), hY, T.p_, Int.toNat_natCast]] at c109
  have c117 : Value.bool ((ka : Int) == (wid va : Nat)) = .bool false := by rw [beq_eq_false_iff_ne.2 (by omega)]
  have lY : Y < 2 ^ 128 := hYl
  have c137 := fun W (_ : Chg [] w W) => has_N va P ((ka : Int) + 1) va A lp T.la_ W
  have c140 := fun W (_ : Chg [] w W) => has_N va Y ((ka : Int) + 1) va A lY T.la_ W
  rw [show hasP va Y ((ka : Int) + 1) va A = !hasP va P ((ka : Int) + 1) va A by rw [hY, T.p_]; exact tree_either A ka va hw T.oa_] at c140
  have c141 := eq_not (hasP va P ((ka : Int) + 1) va A)
  have c146 := c80
  have c149 := fun W (_ : Chg [] w W) => has_N va P ((ka : Int) + 1) vb B lp T.lb_ W
  rw [← hxb] at c149
  have c153 := fun W (_ : Chg [] w W) => has_N va Y ((ka : Int) + 1) vb B lY T.lb_ W
  rw [← hyb] at c153
  have c160 := c149
  have c164 := c153
  have c170 := fun W (_ : Chg [] w W) => compare_N va P ((ka : Int) + 1) va Y ((ka : Int) + 1) lp lY W
  rw [show cmpP va P ((ka : Int) + 1) va Y ((ka : Int) + 1) = -1 by rw [hY, T.p_]; exact tree_rise A ka va hw] at c170
  have c176 := fun W (_ : Chg [] w W) => compare_N va P ka va P ((ka : Int) + 1) lp lp W
  rw [show cmpP va P ka va P ((ka : Int) + 1) = -1 by rw [T.p_]; exact tree_first A ka va] at c176
  have c181 := fun W (_ : Chg [] w W) => covers_N va P ka va P ((ka : Int) + 1) lp lp W
  rw [show covP va P ka va P ((ka : Int) + 1) = true by rw [T.p_]; exact tree_low A ka va hw] at c181
  have c185 := fun W (_ : Chg [] w W) => covers_N va P ka va Y ((ka : Int) + 1) lp lY W
  rw [show covP va P ka va Y ((ka : Int) + 1) = true by rw [hY, T.p_]; exact tree_high A ka va hw] at c185
  have c190 := fun W (_ : Chg [] w W) => covers_N va P ((ka : Int) + 1) va Y ((ka : Int) + 1) lp lY W
  rw [show covP va P ((ka : Int) + 1) va Y ((ka : Int) + 1) = false by rw [hY, T.p_]; exact tree_off1 A ka va hw] at c190
  have c196 := fun W (_ : Chg [] w W) => covers_N va Y ((ka : Int) + 1) va P ((ka : Int) + 1) lY lp W
  rw [show covP va Y ((ka : Int) + 1) va P ((ka : Int) + 1) = false by rw [hY, T.p_]; exact tree_off2 A ka va hw] at c196
  have c200 := fun W (h : Chg [] w W) => works_N W (L W h)
  refine Sx.calls_is (args := [.agg (adr va a).toArray, .agg (adr vb b).toArray, .agg #[.int .i64 i, .int .i64 j]]) (hints2 va vb A B P Q ka kb Y false true true false true true false) [] (by kernel_rfl) Tryz.func5 rfl (Nat.le_of_ble_eq_true rfl) ?_
  exact Eq.mp (by kernel_rfl) (And.intro c16 (And.intro c18 (And.intro c24 (And.intro c25 (And.intro c26 (And.intro c34 (And.intro c35 (And.intro c36 (And.intro c48 (And.intro c54 (And.intro c60 (And.intro c65 (And.intro c68 (And.intro c75 (And.intro c80 (And.intro c87 (And.intro c95 (And.intro c100 (And.intro c109 (And.intro c116 (And.intro c117 (And.intro c137 (And.intro c140 (And.intro c141 (And.intro c146 (And.intro c149 (And.intro c160 (And.intro c164 (And.intro c170 (And.intro c176 (And.intro c181 (And.intro c185 (And.intro c190 (And.intro c196 (And.intro c200 kT)))))))))))))))))))))))))))))))))))
set_option maxRecDepth 100000 in
theorem tree_l17 (T : TrA va vb a b i j A B P Q ka kb false true true false true) (HL : Lan w) (hok : okP va P ka = true) {Y : Nat} (hw : ka < wid va) (hY : Y = highN (maskN A ka) ka) (hYl : Y < 2 ^ 128) (hxb : false = hasP va P ((ka : Int) + 1) vb B) (hyb : true = hasP va Y ((ka : Int) + 1) vb B) :
    Calls Tryz.prog 5 #[.agg (adr va a).toArray, .agg (adr vb b).toArray, .agg #[.int .i64 i, .int .i64 j]] w fun e w' => e = .returned (.bool true) ∧ Chg [] w w' := by
  have L : ∀ W, Chg [] w W → Lan W := fun W h => HL.chg0 h
  have lp := T.lp
  have lq := T.lq
  have bk : -9223372036854775808 ≤ (ka : Int) ∧ (ka : Int) ≤ 9223372036854775807 := ⟨by omega, by have := T.wa_; have := wid_le va; omega⟩
  have bj : -9223372036854775808 ≤ (kb : Int) ∧ (kb : Int) ≤ 9223372036854775807 := ⟨by omega, by have := T.wb_; have := wid_le vb; omega⟩
  have c16 := fun W (_ : Chg [] w W) => right_N va a W
  have c18 := fun W (_ : Chg [] w W) => right_N vb b W
  rw [← T.a_] at c16
  rw [← T.b_] at c18
  have c24 := fun W (_ : Chg [] w W) => width2_N va A W
  have c25 := fun W (_ : Chg [] w W) => to_chg (within_N i (wid va) (wid_le va) T.hi_ W)
  have c26 := fun W (_ : Chg [] w W) => of_is T.la_ T.oa_ (k := (ka : Int)) (by omega) (by have := T.wa_; omega) W
  have c34 := fun W (_ : Chg [] w W) => width2_N vb B W
  have c35 := fun W (_ : Chg [] w W) => to_chg (within_N j (wid vb) (wid_le vb) T.hj_ W)
  have c36 := fun W (_ : Chg [] w W) => of_is T.lb_ T.ob_ (k := (kb : Int)) (by omega) (by have := T.wb_; omega) W
  rw [← T.ka_] at c25
  rw [← T.kb_] at c35
  rw [Int.toNat_natCast, ← T.p_] at c26
  rw [Int.toNat_natCast, ← T.q_] at c36
  have c48 := fun W (_ : Chg [] w W) => has_N va P ka va A lp T.la_ W
  have c54 := fun W (_ : Chg [] w W) => has_N vb Q kb vb B lq T.lb_ W
  have c60 := fun W (_ : Chg [] w W) => covers_N va P ka va P ka lp lp W
  rw [show hasP va P ka va A = true by rw [T.p_]; exact tree_has va A ka T.wa_ T.oa_] at c48
  rw [show hasP vb Q kb vb B = true by rw [T.q_]; exact tree_has vb B kb T.wb_ T.ob_] at c54
  rw [show covP va P ka va P ka = true by rw [T.p_]; exact tree_cov va A ka T.wa_] at c60
  have c65 := fun W (_ : Chg [] w W) => covers_N va P ka vb Q kb lp lq W
  have c68 := fun W (_ : Chg [] w W) => covers_N vb Q kb va P ka lq lp W
  rw [← T.pq_] at c65
  rw [← T.qp_] at c68
  have c75 := fun W => beq29 (.tmp 73) (.tmp 74) va vb P Q ka kb lp lq bk bj W
  rw [T.same] at c75
  have c80 := fun W (_ : Chg [] w W) => has_N va P ka vb B lp T.lb_ W
  rw [← T.pb_] at c80
  have c87 := c80
  have c95 := fun W (_ : Chg [] w W) => has_N va P ka vb Q lp lq W
  have c100 := fun W (_ : Chg [] w W) => has_N vb Q kb va P lq lp W
  rw [← T.hx_] at c95
  rw [← T.hy_] at c100
  have c109 := fun W (_ : Chg [] w W) => halves_N va P ka lp W
  have c116 := fun W (_ : Chg [] w W) => width2_N va A W
  rw [show halP va P ka = ((va, P, (ka : Int) + 1), (va, Y, (ka : Int) + 1), 0) by unfold halP; rw [if_pos hok, if_neg (by omega), hY, T.p_, Int.toNat_natCast]] at c109
  have c117 : Value.bool ((ka : Int) == (wid va : Nat)) = .bool false := by rw [beq_eq_false_iff_ne.2 (by omega)]
  have lY : Y < 2 ^ 128 := hYl
  have c137 := fun W (_ : Chg [] w W) => has_N va P ((ka : Int) + 1) va A lp T.la_ W
  have c140 := fun W (_ : Chg [] w W) => has_N va Y ((ka : Int) + 1) va A lY T.la_ W
  rw [show hasP va Y ((ka : Int) + 1) va A = !hasP va P ((ka : Int) + 1) va A by rw [hY, T.p_]; exact tree_either A ka va hw T.oa_] at c140
  have c141 := eq_not (hasP va P ((ka : Int) + 1) va A)
  have c146 := c80
  have c149 := fun W (_ : Chg [] w W) => has_N va P ((ka : Int) + 1) vb B lp T.lb_ W
  rw [← hxb] at c149
  have c153 := fun W (_ : Chg [] w W) => has_N va Y ((ka : Int) + 1) vb B lY T.lb_ W
  rw [← hyb] at c153
  have c160 := c149
  have c164 := c153
  have c170 := fun W (_ : Chg [] w W) => compare_N va P ((ka : Int) + 1) va Y ((ka : Int) + 1) lp lY W
  rw [show cmpP va P ((ka : Int) + 1) va Y ((ka : Int) + 1) = -1 by rw [hY, T.p_]; exact tree_rise A ka va hw] at c170
  have c176 := fun W (_ : Chg [] w W) => compare_N va P ka va P ((ka : Int) + 1) lp lp W
  rw [show cmpP va P ka va P ((ka : Int) + 1) = -1 by rw [T.p_]; exact tree_first A ka va] at c176
  have c181 := fun W (_ : Chg [] w W) => covers_N va P ka va P ((ka : Int) + 1) lp lp W
  rw [show covP va P ka va P ((ka : Int) + 1) = true by rw [T.p_]; exact tree_low A ka va hw] at c181
  have c185 := fun W (_ : Chg [] w W) => covers_N va P ka va Y ((ka : Int) + 1) lp lY W
  rw [show covP va P ka va Y ((ka : Int) + 1) = true by rw [hY, T.p_]; exact tree_high A ka va hw] at c185
  have c190 := fun W (_ : Chg [] w W) => covers_N va P ((ka : Int) + 1) va Y ((ka : Int) + 1) lp lY W
  rw [show covP va P ((ka : Int) + 1) va Y ((ka : Int) + 1) = false by rw [hY, T.p_]; exact tree_off1 A ka va hw] at c190
  have c196 := fun W (_ : Chg [] w W) => covers_N va Y ((ka : Int) + 1) va P ((ka : Int) + 1) lY lp W
  rw [show covP va Y ((ka : Int) + 1) va P ((ka : Int) + 1) = false by rw [hY, T.p_]; exact tree_off2 A ka va hw] at c196
  have c200 := fun W (h : Chg [] w W) => works_N W (L W h)
  refine Sx.calls_is (args := [.agg (adr va a).toArray, .agg (adr vb b).toArray, .agg #[.int .i64 i, .int .i64 j]]) (hints2 va vb A B P Q ka kb Y false true true false true false true) [] (by kernel_rfl) Tryz.func5 rfl (Nat.le_of_ble_eq_true rfl) ?_
  exact Eq.mp (by kernel_rfl) (And.intro c16 (And.intro c18 (And.intro c24 (And.intro c25 (And.intro c26 (And.intro c34 (And.intro c35 (And.intro c36 (And.intro c48 (And.intro c54 (And.intro c60 (And.intro c65 (And.intro c68 (And.intro c75 (And.intro c80 (And.intro c87 (And.intro c95 (And.intro c100 (And.intro c109 (And.intro c116 (And.intro c117 (And.intro c137 (And.intro c140 (And.intro c141 (And.intro c146 (And.intro c149 (And.intro c153 (And.intro c160 (And.intro c170 (And.intro c176 (And.intro c181 (And.intro c185 (And.intro c190 (And.intro c196 (And.intro c200 kT)))))))))))))))))))))))))))))))))))
set_option maxRecDepth 100000 in
theorem tree_l18 (T : TrA va vb a b i j A B P Q ka kb false true false true true) (HL : Lan w) (hok : okP va P ka = true) {Y : Nat} (hw : ka < wid va) (hY : Y = highN (maskN A ka) ka) (hYl : Y < 2 ^ 128) (hxb : false = hasP va P ((ka : Int) + 1) vb B) (hyb : false = hasP va Y ((ka : Int) + 1) vb B) :
    Calls Tryz.prog 5 #[.agg (adr va a).toArray, .agg (adr vb b).toArray, .agg #[.int .i64 i, .int .i64 j]] w fun e w' => e = .returned (.bool true) ∧ Chg [] w w' := by
  have L : ∀ W, Chg [] w W → Lan W := fun W h => HL.chg0 h
  have lp := T.lp
  have lq := T.lq
  have bk : -9223372036854775808 ≤ (ka : Int) ∧ (ka : Int) ≤ 9223372036854775807 := ⟨by omega, by have := T.wa_; have := wid_le va; omega⟩
  have bj : -9223372036854775808 ≤ (kb : Int) ∧ (kb : Int) ≤ 9223372036854775807 := ⟨by omega, by have := T.wb_; have := wid_le vb; omega⟩
  have c16 := fun W (_ : Chg [] w W) => right_N va a W
  have c18 := fun W (_ : Chg [] w W) => right_N vb b W
  rw [← T.a_] at c16
  rw [← T.b_] at c18
  have c24 := fun W (_ : Chg [] w W) => width2_N va A W
  have c25 := fun W (_ : Chg [] w W) => to_chg (within_N i (wid va) (wid_le va) T.hi_ W)
  have c26 := fun W (_ : Chg [] w W) => of_is T.la_ T.oa_ (k := (ka : Int)) (by omega) (by have := T.wa_; omega) W
  have c34 := fun W (_ : Chg [] w W) => width2_N vb B W
  have c35 := fun W (_ : Chg [] w W) => to_chg (within_N j (wid vb) (wid_le vb) T.hj_ W)
  have c36 := fun W (_ : Chg [] w W) => of_is T.lb_ T.ob_ (k := (kb : Int)) (by omega) (by have := T.wb_; omega) W
  rw [← T.ka_] at c25
  rw [← T.kb_] at c35
  rw [Int.toNat_natCast, ← T.p_] at c26
  rw [Int.toNat_natCast, ← T.q_] at c36
  have c48 := fun W (_ : Chg [] w W) => has_N va P ka va A lp T.la_ W
  have c54 := fun W (_ : Chg [] w W) => has_N vb Q kb vb B lq T.lb_ W
  have c60 := fun W (_ : Chg [] w W) => covers_N va P ka va P ka lp lp W
  rw [show hasP va P ka va A = true by rw [T.p_]; exact tree_has va A ka T.wa_ T.oa_] at c48
  rw [show hasP vb Q kb vb B = true by rw [T.q_]; exact tree_has vb B kb T.wb_ T.ob_] at c54
  rw [show covP va P ka va P ka = true by rw [T.p_]; exact tree_cov va A ka T.wa_] at c60
  have c65 := fun W (_ : Chg [] w W) => covers_N va P ka vb Q kb lp lq W
  have c68 := fun W (_ : Chg [] w W) => covers_N vb Q kb va P ka lq lp W
  rw [← T.pq_] at c65
  rw [← T.qp_] at c68
  have c75 := fun W => beq29 (.tmp 73) (.tmp 74) va vb P Q ka kb lp lq bk bj W
  rw [T.same] at c75
  have c80 := fun W (_ : Chg [] w W) => has_N va P ka vb B lp T.lb_ W
  rw [← T.pb_] at c80
  have c87 := c80
  have c95 := fun W (_ : Chg [] w W) => has_N va P ka vb Q lp lq W
  have c100 := fun W (_ : Chg [] w W) => has_N vb Q kb va P lq lp W
  rw [← T.hx_] at c95
  rw [← T.hy_] at c100
  have c109 := fun W (_ : Chg [] w W) => halves_N va P ka lp W
  have c116 := fun W (_ : Chg [] w W) => width2_N va A W
  rw [show halP va P ka = ((va, P, (ka : Int) + 1), (va, Y, (ka : Int) + 1), 0) by unfold halP; rw [if_pos hok, if_neg (by omega), hY, T.p_, Int.toNat_natCast]] at c109
  have c117 : Value.bool ((ka : Int) == (wid va : Nat)) = .bool false := by rw [beq_eq_false_iff_ne.2 (by omega)]
  have lY : Y < 2 ^ 128 := hYl
  have c137 := fun W (_ : Chg [] w W) => has_N va P ((ka : Int) + 1) va A lp T.la_ W
  have c140 := fun W (_ : Chg [] w W) => has_N va Y ((ka : Int) + 1) va A lY T.la_ W
  rw [show hasP va Y ((ka : Int) + 1) va A = !hasP va P ((ka : Int) + 1) va A by rw [hY, T.p_]; exact tree_either A ka va hw T.oa_] at c140
  have c141 := eq_not (hasP va P ((ka : Int) + 1) va A)
  have c146 := c80
  have c149 := fun W (_ : Chg [] w W) => has_N va P ((ka : Int) + 1) vb B lp T.lb_ W
  rw [← hxb] at c149
  have c153 := fun W (_ : Chg [] w W) => has_N va Y ((ka : Int) + 1) vb B lY T.lb_ W
  rw [← hyb] at c153
  have c160 := c149
  have c164 := c153
  have c170 := fun W (_ : Chg [] w W) => compare_N va P ((ka : Int) + 1) va Y ((ka : Int) + 1) lp lY W
  rw [show cmpP va P ((ka : Int) + 1) va Y ((ka : Int) + 1) = -1 by rw [hY, T.p_]; exact tree_rise A ka va hw] at c170
  have c176 := fun W (_ : Chg [] w W) => compare_N va P ka va P ((ka : Int) + 1) lp lp W
  rw [show cmpP va P ka va P ((ka : Int) + 1) = -1 by rw [T.p_]; exact tree_first A ka va] at c176
  have c181 := fun W (_ : Chg [] w W) => covers_N va P ka va P ((ka : Int) + 1) lp lp W
  rw [show covP va P ka va P ((ka : Int) + 1) = true by rw [T.p_]; exact tree_low A ka va hw] at c181
  have c185 := fun W (_ : Chg [] w W) => covers_N va P ka va Y ((ka : Int) + 1) lp lY W
  rw [show covP va P ka va Y ((ka : Int) + 1) = true by rw [hY, T.p_]; exact tree_high A ka va hw] at c185
  have c190 := fun W (_ : Chg [] w W) => covers_N va P ((ka : Int) + 1) va Y ((ka : Int) + 1) lp lY W
  rw [show covP va P ((ka : Int) + 1) va Y ((ka : Int) + 1) = false by rw [hY, T.p_]; exact tree_off1 A ka va hw] at c190
  have c196 := fun W (_ : Chg [] w W) => covers_N va Y ((ka : Int) + 1) va P ((ka : Int) + 1) lY lp W
  rw [show covP va Y ((ka : Int) + 1) va P ((ka : Int) + 1) = false by rw [hY, T.p_]; exact tree_off2 A ka va hw] at c196
  have c200 := fun W (h : Chg [] w W) => works_N W (L W h)
  refine Sx.calls_is (args := [.agg (adr va a).toArray, .agg (adr vb b).toArray, .agg #[.int .i64 i, .int .i64 j]]) (hints2 va vb A B P Q ka kb Y false true false true true false false) [] (by kernel_rfl) Tryz.func5 rfl (Nat.le_of_ble_eq_true rfl) ?_
  exact Eq.mp (by kernel_rfl) (And.intro c16 (And.intro c18 (And.intro c24 (And.intro c25 (And.intro c26 (And.intro c34 (And.intro c35 (And.intro c36 (And.intro c48 (And.intro c54 (And.intro c60 (And.intro c65 (And.intro c68 (And.intro c75 (And.intro c80 (And.intro c87 (And.intro c95 (And.intro c109 (And.intro c116 (And.intro c117 (And.intro c137 (And.intro c140 (And.intro c141 (And.intro c146 (And.intro c149 (And.intro c153 (And.intro c160 (And.intro c170 (And.intro c176 (And.intro c181 (And.intro c185 (And.intro c190 (And.intro c196 (And.intro c200 kT))))))))))))))))))))))))))))))))))
set_option maxRecDepth 100000 in
theorem tree_l19 (T : TrA va vb a b i j A B P Q ka kb false true false true false) (HL : Lan w) (hok : okP va P ka = true) {Y : Nat} (hw : ka < wid va) (hY : Y = highN (maskN A ka) ka) (hYl : Y < 2 ^ 128) (hxb : false = hasP va P ((ka : Int) + 1) vb B) (hyb : false = hasP va Y ((ka : Int) + 1) vb B) :
    Calls Tryz.prog 5 #[.agg (adr va a).toArray, .agg (adr vb b).toArray, .agg #[.int .i64 i, .int .i64 j]] w fun e w' => e = .returned (.bool true) ∧ Chg [] w w' := by
  have L : ∀ W, Chg [] w W → Lan W := fun W h => HL.chg0 h
  have lp := T.lp
  have lq := T.lq
  have bk : -9223372036854775808 ≤ (ka : Int) ∧ (ka : Int) ≤ 9223372036854775807 := ⟨by omega, by have := T.wa_; have := wid_le va; omega⟩
  have bj : -9223372036854775808 ≤ (kb : Int) ∧ (kb : Int) ≤ 9223372036854775807 := ⟨by omega, by have := T.wb_; have := wid_le vb; omega⟩
  have c16 := fun W (_ : Chg [] w W) => right_N va a W
  have c18 := fun W (_ : Chg [] w W) => right_N vb b W
  rw [← T.a_] at c16
  rw [← T.b_] at c18
  have c24 := fun W (_ : Chg [] w W) => width2_N va A W
  have c25 := fun W (_ : Chg [] w W) => to_chg (within_N i (wid va) (wid_le va) T.hi_ W)
  have c26 := fun W (_ : Chg [] w W) => of_is T.la_ T.oa_ (k := (ka : Int)) (by omega) (by have := T.wa_; omega) W
  have c34 := fun W (_ : Chg [] w W) => width2_N vb B W
  have c35 := fun W (_ : Chg [] w W) => to_chg (within_N j (wid vb) (wid_le vb) T.hj_ W)
  have c36 := fun W (_ : Chg [] w W) => of_is T.lb_ T.ob_ (k := (kb : Int)) (by omega) (by have := T.wb_; omega) W
  rw [← T.ka_] at c25
  rw [← T.kb_] at c35
  rw [Int.toNat_natCast, ← T.p_] at c26
  rw [Int.toNat_natCast, ← T.q_] at c36
  have c48 := fun W (_ : Chg [] w W) => has_N va P ka va A lp T.la_ W
  have c54 := fun W (_ : Chg [] w W) => has_N vb Q kb vb B lq T.lb_ W
  have c60 := fun W (_ : Chg [] w W) => covers_N va P ka va P ka lp lp W
  rw [show hasP va P ka va A = true by rw [T.p_]; exact tree_has va A ka T.wa_ T.oa_] at c48
  rw [show hasP vb Q kb vb B = true by rw [T.q_]; exact tree_has vb B kb T.wb_ T.ob_] at c54
  rw [show covP va P ka va P ka = true by rw [T.p_]; exact tree_cov va A ka T.wa_] at c60
  have c65 := fun W (_ : Chg [] w W) => covers_N va P ka vb Q kb lp lq W
  have c68 := fun W (_ : Chg [] w W) => covers_N vb Q kb va P ka lq lp W
  rw [← T.pq_] at c65
  rw [← T.qp_] at c68
  have c75 := fun W => beq29 (.tmp 73) (.tmp 74) va vb P Q ka kb lp lq bk bj W
  rw [T.same] at c75
  have c80 := fun W (_ : Chg [] w W) => has_N va P ka vb B lp T.lb_ W
  rw [← T.pb_] at c80
  have c87 := c80
  have c95 := fun W (_ : Chg [] w W) => has_N va P ka vb Q lp lq W
  have c100 := fun W (_ : Chg [] w W) => has_N vb Q kb va P lq lp W
  rw [← T.hx_] at c95
  rw [← T.hy_] at c100
  have c109 := fun W (_ : Chg [] w W) => halves_N va P ka lp W
  have c116 := fun W (_ : Chg [] w W) => width2_N va A W
  rw [show halP va P ka = ((va, P, (ka : Int) + 1), (va, Y, (ka : Int) + 1), 0) by unfold halP; rw [if_pos hok, if_neg (by omega), hY, T.p_, Int.toNat_natCast]] at c109
  have c117 : Value.bool ((ka : Int) == (wid va : Nat)) = .bool false := by rw [beq_eq_false_iff_ne.2 (by omega)]
  have lY : Y < 2 ^ 128 := hYl
  have c137 := fun W (_ : Chg [] w W) => has_N va P ((ka : Int) + 1) va A lp T.la_ W
  have c140 := fun W (_ : Chg [] w W) => has_N va Y ((ka : Int) + 1) va A lY T.la_ W
  rw [show hasP va Y ((ka : Int) + 1) va A = !hasP va P ((ka : Int) + 1) va A by rw [hY, T.p_]; exact tree_either A ka va hw T.oa_] at c140
  have c141 := eq_not (hasP va P ((ka : Int) + 1) va A)
  have c146 := c80
  have c149 := fun W (_ : Chg [] w W) => has_N va P ((ka : Int) + 1) vb B lp T.lb_ W
  rw [← hxb] at c149
  have c153 := fun W (_ : Chg [] w W) => has_N va Y ((ka : Int) + 1) vb B lY T.lb_ W
  rw [← hyb] at c153
  have c160 := c149
  have c164 := c153
  have c170 := fun W (_ : Chg [] w W) => compare_N va P ((ka : Int) + 1) va Y ((ka : Int) + 1) lp lY W
  rw [show cmpP va P ((ka : Int) + 1) va Y ((ka : Int) + 1) = -1 by rw [hY, T.p_]; exact tree_rise A ka va hw] at c170
  have c176 := fun W (_ : Chg [] w W) => compare_N va P ka va P ((ka : Int) + 1) lp lp W
  rw [show cmpP va P ka va P ((ka : Int) + 1) = -1 by rw [T.p_]; exact tree_first A ka va] at c176
  have c181 := fun W (_ : Chg [] w W) => covers_N va P ka va P ((ka : Int) + 1) lp lp W
  rw [show covP va P ka va P ((ka : Int) + 1) = true by rw [T.p_]; exact tree_low A ka va hw] at c181
  have c185 := fun W (_ : Chg [] w W) => covers_N va P ka va Y ((ka : Int) + 1) lp lY W
  rw [show covP va P ka va Y ((ka : Int) + 1) = true by rw [hY, T.p_]; exact tree_high A ka va hw] at c185
  have c190 := fun W (_ : Chg [] w W) => covers_N va P ((ka : Int) + 1) va Y ((ka : Int) + 1) lp lY W
  rw [show covP va P ((ka : Int) + 1) va Y ((ka : Int) + 1) = false by rw [hY, T.p_]; exact tree_off1 A ka va hw] at c190
  have c196 := fun W (_ : Chg [] w W) => covers_N va Y ((ka : Int) + 1) va P ((ka : Int) + 1) lY lp W
  rw [show covP va Y ((ka : Int) + 1) va P ((ka : Int) + 1) = false by rw [hY, T.p_]; exact tree_off2 A ka va hw] at c196
  have c200 := fun W (h : Chg [] w W) => works_N W (L W h)
  refine Sx.calls_is (args := [.agg (adr va a).toArray, .agg (adr vb b).toArray, .agg #[.int .i64 i, .int .i64 j]]) (hints2 va vb A B P Q ka kb Y false true false true false false false) [] (by kernel_rfl) Tryz.func5 rfl (Nat.le_of_ble_eq_true rfl) ?_
  exact Eq.mp (by kernel_rfl) (And.intro c16 (And.intro c18 (And.intro c24 (And.intro c25 (And.intro c26 (And.intro c34 (And.intro c35 (And.intro c36 (And.intro c48 (And.intro c54 (And.intro c60 (And.intro c65 (And.intro c68 (And.intro c75 (And.intro c80 (And.intro c87 (And.intro c95 (And.intro c109 (And.intro c116 (And.intro c117 (And.intro c137 (And.intro c140 (And.intro c141 (And.intro c146 (And.intro c149 (And.intro c153 (And.intro c160 (And.intro c170 (And.intro c176 (And.intro c181 (And.intro c185 (And.intro c190 (And.intro c196 (And.intro c200 kT))))))))))))))))))))))))))))))))))
set_option maxRecDepth 100000 in
theorem tree_l20 (T : TrA va vb a b i j A B P Q ka kb false true false false true) (HL : Lan w) (hok : okP va P ka = true) {Y : Nat} (hw : ka < wid va) (hY : Y = highN (maskN A ka) ka) (hYl : Y < 2 ^ 128) (hxb : false = hasP va P ((ka : Int) + 1) vb B) (hyb : false = hasP va Y ((ka : Int) + 1) vb B) :
    Calls Tryz.prog 5 #[.agg (adr va a).toArray, .agg (adr vb b).toArray, .agg #[.int .i64 i, .int .i64 j]] w fun e w' => e = .returned (.bool true) ∧ Chg [] w w' := by
  have L : ∀ W, Chg [] w W → Lan W := fun W h => HL.chg0 h
  have lp := T.lp
  have lq := T.lq
  have bk : -9223372036854775808 ≤ (ka : Int) ∧ (ka : Int) ≤ 9223372036854775807 := ⟨by omega, by have := T.wa_; have := wid_le va; omega⟩
  have bj : -9223372036854775808 ≤ (kb : Int) ∧ (kb : Int) ≤ 9223372036854775807 := ⟨by omega, by have := T.wb_; have := wid_le vb; omega⟩
  have c16 := fun W (_ : Chg [] w W) => right_N va a W
  have c18 := fun W (_ : Chg [] w W) => right_N vb b W
  rw [← T.a_] at c16
  rw [← T.b_] at c18
  have c24 := fun W (_ : Chg [] w W) => width2_N va A W
  have c25 := fun W (_ : Chg [] w W) => to_chg (within_N i (wid va) (wid_le va) T.hi_ W)
  have c26 := fun W (_ : Chg [] w W) => of_is T.la_ T.oa_ (k := (ka : Int)) (by omega) (by have := T.wa_; omega) W
  have c34 := fun W (_ : Chg [] w W) => width2_N vb B W
  have c35 := fun W (_ : Chg [] w W) => to_chg (within_N j (wid vb) (wid_le vb) T.hj_ W)
  have c36 := fun W (_ : Chg [] w W) => of_is T.lb_ T.ob_ (k := (kb : Int)) (by omega) (by have := T.wb_; omega) W
  rw [← T.ka_] at c25
  rw [← T.kb_] at c35
  rw [Int.toNat_natCast, ← T.p_] at c26
  rw [Int.toNat_natCast, ← T.q_] at c36
  have c48 := fun W (_ : Chg [] w W) => has_N va P ka va A lp T.la_ W
  have c54 := fun W (_ : Chg [] w W) => has_N vb Q kb vb B lq T.lb_ W
  have c60 := fun W (_ : Chg [] w W) => covers_N va P ka va P ka lp lp W
  rw [show hasP va P ka va A = true by rw [T.p_]; exact tree_has va A ka T.wa_ T.oa_] at c48
  rw [show hasP vb Q kb vb B = true by rw [T.q_]; exact tree_has vb B kb T.wb_ T.ob_] at c54
  rw [show covP va P ka va P ka = true by rw [T.p_]; exact tree_cov va A ka T.wa_] at c60
  have c65 := fun W (_ : Chg [] w W) => covers_N va P ka vb Q kb lp lq W
  have c68 := fun W (_ : Chg [] w W) => covers_N vb Q kb va P ka lq lp W
  rw [← T.pq_] at c65
  rw [← T.qp_] at c68
  have c75 := fun W => beq29 (.tmp 73) (.tmp 74) va vb P Q ka kb lp lq bk bj W
  rw [T.same] at c75
  have c80 := fun W (_ : Chg [] w W) => has_N va P ka vb B lp T.lb_ W
  rw [← T.pb_] at c80
  have c87 := c80
  have c95 := fun W (_ : Chg [] w W) => has_N va P ka vb Q lp lq W
  have c100 := fun W (_ : Chg [] w W) => has_N vb Q kb va P lq lp W
  rw [← T.hx_] at c95
  rw [← T.hy_] at c100
  have c109 := fun W (_ : Chg [] w W) => halves_N va P ka lp W
  have c116 := fun W (_ : Chg [] w W) => width2_N va A W
  rw [show halP va P ka = ((va, P, (ka : Int) + 1), (va, Y, (ka : Int) + 1), 0) by unfold halP; rw [if_pos hok, if_neg (by omega), hY, T.p_, Int.toNat_natCast]] at c109
  have c117 : Value.bool ((ka : Int) == (wid va : Nat)) = .bool false := by rw [beq_eq_false_iff_ne.2 (by omega)]
  have lY : Y < 2 ^ 128 := hYl
  have c137 := fun W (_ : Chg [] w W) => has_N va P ((ka : Int) + 1) va A lp T.la_ W
  have c140 := fun W (_ : Chg [] w W) => has_N va Y ((ka : Int) + 1) va A lY T.la_ W
  rw [show hasP va Y ((ka : Int) + 1) va A = !hasP va P ((ka : Int) + 1) va A by rw [hY, T.p_]; exact tree_either A ka va hw T.oa_] at c140
  have c141 := eq_not (hasP va P ((ka : Int) + 1) va A)
  have c146 := c80
  have c149 := fun W (_ : Chg [] w W) => has_N va P ((ka : Int) + 1) vb B lp T.lb_ W
  rw [← hxb] at c149
  have c153 := fun W (_ : Chg [] w W) => has_N va Y ((ka : Int) + 1) vb B lY T.lb_ W
  rw [← hyb] at c153
  have c160 := c149
  have c164 := c153
  have c170 := fun W (_ : Chg [] w W) => compare_N va P ((ka : Int) + 1) va Y ((ka : Int) + 1) lp lY W
  rw [show cmpP va P ((ka : Int) + 1) va Y ((ka : Int) + 1) = -1 by rw [hY, T.p_]; exact tree_rise A ka va hw] at c170
  have c176 := fun W (_ : Chg [] w W) => compare_N va P ka va P ((ka : Int) + 1) lp lp W
  rw [show cmpP va P ka va P ((ka : Int) + 1) = -1 by rw [T.p_]; exact tree_first A ka va] at c176
  have c181 := fun W (_ : Chg [] w W) => covers_N va P ka va P ((ka : Int) + 1) lp lp W
  rw [show covP va P ka va P ((ka : Int) + 1) = true by rw [T.p_]; exact tree_low A ka va hw] at c181
  have c185 := fun W (_ : Chg [] w W) => covers_N va P ka va Y ((ka : Int) + 1) lp lY W
  rw [show covP va P ka va Y ((ka : Int) + 1) = true by rw [hY, T.p_]; exact tree_high A ka va hw] at c185
  have c190 := fun W (_ : Chg [] w W) => covers_N va P ((ka : Int) + 1) va Y ((ka : Int) + 1) lp lY W
  rw [show covP va P ((ka : Int) + 1) va Y ((ka : Int) + 1) = false by rw [hY, T.p_]; exact tree_off1 A ka va hw] at c190
  have c196 := fun W (_ : Chg [] w W) => covers_N va Y ((ka : Int) + 1) va P ((ka : Int) + 1) lY lp W
  rw [show covP va Y ((ka : Int) + 1) va P ((ka : Int) + 1) = false by rw [hY, T.p_]; exact tree_off2 A ka va hw] at c196
  have c200 := fun W (h : Chg [] w W) => works_N W (L W h)
  refine Sx.calls_is (args := [.agg (adr va a).toArray, .agg (adr vb b).toArray, .agg #[.int .i64 i, .int .i64 j]]) (hints2 va vb A B P Q ka kb Y false true false false true false false) [] (by kernel_rfl) Tryz.func5 rfl (Nat.le_of_ble_eq_true rfl) ?_
  exact Eq.mp (by kernel_rfl) (And.intro c16 (And.intro c18 (And.intro c24 (And.intro c25 (And.intro c26 (And.intro c34 (And.intro c35 (And.intro c36 (And.intro c48 (And.intro c54 (And.intro c60 (And.intro c65 (And.intro c68 (And.intro c75 (And.intro c80 (And.intro c87 (And.intro c95 (And.intro c100 (And.intro c109 (And.intro c116 (And.intro c117 (And.intro c137 (And.intro c140 (And.intro c141 (And.intro c146 (And.intro c149 (And.intro c153 (And.intro c160 (And.intro c170 (And.intro c176 (And.intro c181 (And.intro c185 (And.intro c190 (And.intro c196 (And.intro c200 kT)))))))))))))))))))))))))))))))))))
set_option maxRecDepth 100000 in
theorem tree_l21 (T : TrA va vb a b i j A B P Q ka kb false false false false false) (HL : Lan w) (hok : okP va P ka = true) {Y : Nat} (hw : ka < wid va) (hY : Y = highN (maskN A ka) ka) (hYl : Y < 2 ^ 128) (hxb : false = hasP va P ((ka : Int) + 1) vb B) (hyb : false = hasP va Y ((ka : Int) + 1) vb B) :
    Calls Tryz.prog 5 #[.agg (adr va a).toArray, .agg (adr vb b).toArray, .agg #[.int .i64 i, .int .i64 j]] w fun e w' => e = .returned (.bool true) ∧ Chg [] w w' := by
  have L : ∀ W, Chg [] w W → Lan W := fun W h => HL.chg0 h
  have lp := T.lp
  have lq := T.lq
  have bk : -9223372036854775808 ≤ (ka : Int) ∧ (ka : Int) ≤ 9223372036854775807 := ⟨by omega, by have := T.wa_; have := wid_le va; omega⟩
  have bj : -9223372036854775808 ≤ (kb : Int) ∧ (kb : Int) ≤ 9223372036854775807 := ⟨by omega, by have := T.wb_; have := wid_le vb; omega⟩
  have c16 := fun W (_ : Chg [] w W) => right_N va a W
  have c18 := fun W (_ : Chg [] w W) => right_N vb b W
  rw [← T.a_] at c16
  rw [← T.b_] at c18
  have c24 := fun W (_ : Chg [] w W) => width2_N va A W
  have c25 := fun W (_ : Chg [] w W) => to_chg (within_N i (wid va) (wid_le va) T.hi_ W)
  have c26 := fun W (_ : Chg [] w W) => of_is T.la_ T.oa_ (k := (ka : Int)) (by omega) (by have := T.wa_; omega) W
  have c34 := fun W (_ : Chg [] w W) => width2_N vb B W
  have c35 := fun W (_ : Chg [] w W) => to_chg (within_N j (wid vb) (wid_le vb) T.hj_ W)
  have c36 := fun W (_ : Chg [] w W) => of_is T.lb_ T.ob_ (k := (kb : Int)) (by omega) (by have := T.wb_; omega) W
  rw [← T.ka_] at c25
  rw [← T.kb_] at c35
  rw [Int.toNat_natCast, ← T.p_] at c26
  rw [Int.toNat_natCast, ← T.q_] at c36
  have c48 := fun W (_ : Chg [] w W) => has_N va P ka va A lp T.la_ W
  have c54 := fun W (_ : Chg [] w W) => has_N vb Q kb vb B lq T.lb_ W
  have c60 := fun W (_ : Chg [] w W) => covers_N va P ka va P ka lp lp W
  rw [show hasP va P ka va A = true by rw [T.p_]; exact tree_has va A ka T.wa_ T.oa_] at c48
  rw [show hasP vb Q kb vb B = true by rw [T.q_]; exact tree_has vb B kb T.wb_ T.ob_] at c54
  rw [show covP va P ka va P ka = true by rw [T.p_]; exact tree_cov va A ka T.wa_] at c60
  have c65 := fun W (_ : Chg [] w W) => covers_N va P ka vb Q kb lp lq W
  have c68 := fun W (_ : Chg [] w W) => covers_N vb Q kb va P ka lq lp W
  rw [← T.pq_] at c65
  rw [← T.qp_] at c68
  have c75 := fun W => beq29 (.tmp 73) (.tmp 74) va vb P Q ka kb lp lq bk bj W
  rw [T.same] at c75
  have c80 := fun W (_ : Chg [] w W) => has_N va P ka vb B lp T.lb_ W
  rw [← T.pb_] at c80
  have c87 := c80
  have c95 := fun W (_ : Chg [] w W) => has_N va P ka vb Q lp lq W
  have c100 := fun W (_ : Chg [] w W) => has_N vb Q kb va P lq lp W
  rw [← T.hx_] at c95
  rw [← T.hy_] at c100
  have c109 := fun W (_ : Chg [] w W) => halves_N va P ka lp W
  have c116 := fun W (_ : Chg [] w W) => width2_N va A W
  rw [show halP va P ka = ((va, P, (ka : Int) + 1), (va, Y, (ka : Int) + 1), 0) by unfold halP; rw [if_pos hok, if_neg (by omega), hY, T.p_, Int.toNat_natCast]] at c109
  have c117 : Value.bool ((ka : Int) == (wid va : Nat)) = .bool false := by rw [beq_eq_false_iff_ne.2 (by omega)]
  have lY : Y < 2 ^ 128 := hYl
  have c137 := fun W (_ : Chg [] w W) => has_N va P ((ka : Int) + 1) va A lp T.la_ W
  have c140 := fun W (_ : Chg [] w W) => has_N va Y ((ka : Int) + 1) va A lY T.la_ W
  rw [show hasP va Y ((ka : Int) + 1) va A = !hasP va P ((ka : Int) + 1) va A by rw [hY, T.p_]; exact tree_either A ka va hw T.oa_] at c140
  have c141 := eq_not (hasP va P ((ka : Int) + 1) va A)
  have c146 := c80
  have c149 := fun W (_ : Chg [] w W) => has_N va P ((ka : Int) + 1) vb B lp T.lb_ W
  rw [← hxb] at c149
  have c153 := fun W (_ : Chg [] w W) => has_N va Y ((ka : Int) + 1) vb B lY T.lb_ W
  rw [← hyb] at c153
  have c160 := c149
  have c164 := c153
  have c170 := fun W (_ : Chg [] w W) => compare_N va P ((ka : Int) + 1) va Y ((ka : Int) + 1) lp lY W
  rw [show cmpP va P ((ka : Int) + 1) va Y ((ka : Int) + 1) = -1 by rw [hY, T.p_]; exact tree_rise A ka va hw] at c170
  have c176 := fun W (_ : Chg [] w W) => compare_N va P ka va P ((ka : Int) + 1) lp lp W
  rw [show cmpP va P ka va P ((ka : Int) + 1) = -1 by rw [T.p_]; exact tree_first A ka va] at c176
  have c181 := fun W (_ : Chg [] w W) => covers_N va P ka va P ((ka : Int) + 1) lp lp W
  rw [show covP va P ka va P ((ka : Int) + 1) = true by rw [T.p_]; exact tree_low A ka va hw] at c181
  have c185 := fun W (_ : Chg [] w W) => covers_N va P ka va Y ((ka : Int) + 1) lp lY W
  rw [show covP va P ka va Y ((ka : Int) + 1) = true by rw [hY, T.p_]; exact tree_high A ka va hw] at c185
  have c190 := fun W (_ : Chg [] w W) => covers_N va P ((ka : Int) + 1) va Y ((ka : Int) + 1) lp lY W
  rw [show covP va P ((ka : Int) + 1) va Y ((ka : Int) + 1) = false by rw [hY, T.p_]; exact tree_off1 A ka va hw] at c190
  have c196 := fun W (_ : Chg [] w W) => covers_N va Y ((ka : Int) + 1) va P ((ka : Int) + 1) lY lp W
  rw [show covP va Y ((ka : Int) + 1) va P ((ka : Int) + 1) = false by rw [hY, T.p_]; exact tree_off2 A ka va hw] at c196
  have c200 := fun W (h : Chg [] w W) => works_N W (L W h)
  refine Sx.calls_is (args := [.agg (adr va a).toArray, .agg (adr vb b).toArray, .agg #[.int .i64 i, .int .i64 j]]) (hints2 va vb A B P Q ka kb Y false false false false false false false) [] (by kernel_rfl) Tryz.func5 rfl (Nat.le_of_ble_eq_true rfl) ?_
  exact Eq.mp (by kernel_rfl) (And.intro c16 (And.intro c18 (And.intro c24 (And.intro c25 (And.intro c26 (And.intro c34 (And.intro c35 (And.intro c36 (And.intro c48 (And.intro c54 (And.intro c60 (And.intro c65 (And.intro c68 (And.intro c75 (And.intro c80 (And.intro c95 (And.intro c100 (And.intro c109 (And.intro c116 (And.intro c117 (And.intro c137 (And.intro c140 (And.intro c141 (And.intro c146 (And.intro c149 (And.intro c153 (And.intro c160 (And.intro c170 (And.intro c176 (And.intro c181 (And.intro c185 (And.intro c190 (And.intro c196 (And.intro c200 kT))))))))))))))))))))))))))))))))))
/-- PrefixTree is true. -/
theorem tree_W (va : Bool) (a : Nat) (vb : Bool) (b : Nat) (i j : Int) (w : World) (HL : Lan w) (ha : a < 2 ^ 128) (hb : b < 2 ^ 128) (hi : -9223372036854775808 ≤ i ∧ i ≤ 9223372036854775807) (hj : -9223372036854775808 ≤ j ∧ j ≤ 9223372036854775807) :
    Calls Tryz.prog 5 #[.agg (adr va a).toArray, .agg (adr vb b).toArray, .agg #[.int .i64 i, .int .i64 j]] w fun e w' => e = .returned (.bool true) ∧ Chg [] w w' := by
  obtain ⟨i0, i1⟩ := withinI_le i (wid va)
  obtain ⟨j0, j1⟩ := withinI_le j (wid vb)
  obtain ⟨ka, hka⟩ : ∃ ka : Nat, (ka : Int) = withinI i (wid va) := ⟨(withinI i (wid va)).toNat, Int.toNat_of_nonneg i0⟩
  obtain ⟨kb, hkb⟩ : ∃ kb : Nat, (kb : Int) = withinI j (wid vb) := ⟨(withinI j (wid vb)).toNat, Int.toNat_of_nonneg j0⟩
  have T : TrA va vb a b i j (maskN a (wid va)) (maskN b (wid vb)) (maskN (maskN a (wid va)) ka) (maskN (maskN b (wid vb)) kb) ka kb _ _ _ _ _ :=
    ⟨rfl, rfl, hka, hkb, rfl, rfl, mask_lt _ _ ha, mask_lt _ _ hb, okA_right va a, okA_right vb b, by omega, by omega, hi, hj, rfl, rfl, rfl, rfl, rfl⟩
  generalize maskN a (wid va) = A at T
  generalize maskN b (wid vb) = B at T
  have hok : okP va (maskN A ka) ka = true := okP_mask va A ka T.wa_
  generalize hP : maskN A ka = P at T hok
  generalize maskN B kb = Q at T
  generalize covP va P ka vb Q kb = pq at T
  generalize covP vb Q kb va P ka = qp at T
  generalize hasP va P ka vb B = pb at T
  generalize hasP va P ka vb Q = hx at T
  generalize hasP vb Q kb va P = hy at T
  have f1 := T.inn
  have f2 := T.share
  by_cases hw : ka = wid va
  · cases pq <;> cases qp <;> cases pb <;> cases hx <;> cases hy <;> first
      | exact absurd f1 (by decide)
      | exact absurd f2 (by decide)
      | exact tree_w0 T HL hok hw
      | exact tree_w1 T HL hok hw
      | exact tree_w2 T HL hok hw
      | exact tree_w3 T HL hok hw
      | exact tree_w4 T HL hok hw
      | exact tree_w5 T HL hok hw
      | exact tree_w6 T HL hok hw
      | exact tree_w7 T HL hok hw
      | exact tree_w8 T HL hok hw
      | exact tree_w9 T HL hok hw
      | exact tree_w10 T HL hok hw
      | exact tree_w11 T HL hok hw
      | exact tree_w12 T HL hok hw
  · have hlt : ka < wid va := by have := T.wa_; omega
    have hYl : highN (maskN A ka) ka < 2 ^ 128 := high_lt128 (maskN A ka) ka (mask_lt A ka T.la_)
    obtain ⟨xb, hxb⟩ : ∃ xb, xb = hasP va P ((ka : Int) + 1) vb B := ⟨_, rfl⟩
    obtain ⟨yb, hyb⟩ : ∃ yb, yb = hasP va (highN (maskN A ka) ka) ((ka : Int) + 1) vb B := ⟨_, rfl⟩
    have f3 := tree_part A ka B va vb hlt T.ob_
    have f4 := tree_apart A ka B va vb hlt T.ob_
    rw [← T.p_, ← T.pb_] at f3
    rw [← T.p_] at f4
    rw [hP] at hyb hYl
    rw [← hxb, ← hyb] at f3 f4
    have hY : highN P ka = highN (maskN A ka) ka := by rw [hP]
    cases pq <;> cases qp <;> cases pb <;> cases hx <;> cases hy <;> cases xb <;> cases yb <;> first
      | exact absurd f1 (by decide)
      | exact absurd f2 (by decide)
      | exact absurd f3 (by decide)
      | exact absurd f4 (by decide)
      | exact tree_l0 T HL hok hlt hY hYl hxb hyb
      | exact tree_l1 T HL hok hlt hY hYl hxb hyb
      | exact tree_l2 T HL hok hlt hY hYl hxb hyb
      | exact tree_l3 T HL hok hlt hY hYl hxb hyb
      | exact tree_l4 T HL hok hlt hY hYl hxb hyb
      | exact tree_l5 T HL hok hlt hY hYl hxb hyb
      | exact tree_l6 T HL hok hlt hY hYl hxb hyb
      | exact tree_l7 T HL hok hlt hY hYl hxb hyb
      | exact tree_l8 T HL hok hlt hY hYl hxb hyb
      | exact tree_l9 T HL hok hlt hY hYl hxb hyb
      | exact tree_l10 T HL hok hlt hY hYl hxb hyb
      | exact tree_l11 T HL hok hlt hY hYl hxb hyb
      | exact tree_l12 T HL hok hlt hY hYl hxb hyb
      | exact tree_l13 T HL hok hlt hY hYl hxb hyb
      | exact tree_l14 T HL hok hlt hY hYl hxb hyb
      | exact tree_l15 T HL hok hlt hY hYl hxb hyb
      | exact tree_l16 T HL hok hlt hY hYl hxb hyb
      | exact tree_l17 T HL hok hlt hY hYl hxb hyb
      | exact tree_l18 T HL hok hlt hY hYl hxb hyb
      | exact tree_l19 T HL hok hlt hY hYl hxb hyb
      | exact tree_l20 T HL hok hlt hY hYl hxb hyb
      | exact tree_l21 T HL hok hlt hY hYl hxb hyb
end
end Go.Proofs.YtgpiapmbbnngpaaGreatDoor
