/- PrefixBack walked: it is true. -/
import Derived.Test.YtgpiapmbbnngpaaGreatDoorPfxWq
import Derived.Test.YtgpiapmbbnngpaaGreatDoorSxM
namespace Go.Proofs.YtgpiapmbbnngpaaGreatDoor
open Go.RowKit Go.Lib Go.Sort

theorem bin24 (x y : Operand) (v v' : Bool) (n m : Nat) (hn : n < 2 ^ 128) (hm : m < 2 ^ 128) (W : World) : (do eqGuard .neq 24 x y (.agg (adr v n).toArray) (.agg (adr v' m).toArray); binOp .neq 24 (.agg (adr v n).toArray) (.agg (adr v' m).toArray) : Sem Value).run Tryz.prog W = .ok (.bool (!decide (v = v' ∧ n = m))) W := by
  have h := eq24 v v' n m hn hm W
  rw [Sem.run_bind, guard24, Result.andThen_ok]
  show (do pure (.bool (!(← Op.equal 24 (.agg (adr v n).toArray) (.agg (adr v' m).toArray)))) : Sem Value).run Tryz.prog W = _
  rw [Sem.run_bind, show (Op.equal 24 (.agg (adr v n).toArray) (.agg (adr v' m).toArray)).run Tryz.prog W = _ from h]
  rfl
theorem bin29 (x y : Operand) (v v' : Bool) (n m : Nat) (k j : Int) (hn : n < 2 ^ 128) (hm : m < 2 ^ 128) (hk : -9223372036854775808 ≤ k ∧ k ≤ 9223372036854775807) (hj : -9223372036854775808 ≤ j ∧ j ≤ 9223372036854775807) (W : World) : (do eqGuard .neq 29 x y (.agg (pfx v n k).toArray) (.agg (pfx v' m j).toArray); binOp .neq 29 (.agg (pfx v n k).toArray) (.agg (pfx v' m j).toArray) : Sem Value).run Tryz.prog W = .ok (.bool (!decide (v = v' ∧ n = m ∧ k = j))) W := by
  have h := eq29 v v' n m k j hn hm hk hj W
  rw [Sem.run_bind, guard29, Result.andThen_ok]
  show (do pure (.bool (!(← Op.equal 29 (.agg (pfx v n k).toArray) (.agg (pfx v' m j).toArray)))) : Sem Value).run Tryz.prog W = _
  rw [Sem.run_bind, show (Op.equal 29 (.agg (pfx v n k).toArray) (.agg (pfx v' m j).toArray)).run Tryz.prog W = _ from h]
  rfl
theorem binStr (x y : Operand) (s t : ByteArray) (W : World) : (do eqGuard .neq 9 x y (.string s) (.string t); binOp .neq 9 (.string s) (.string t) : Sem Value).run Tryz.prog W = .ok (.bool (!(s.toList == t.toList))) W := rfl
theorem to_chg {P : Program} {f : FuncId} {args : Array Value} {W : World} {v : Value} (h : Calls P f args W fun e w' => e = .returned v ∧ w' = W) : Calls P f args W fun e w' => e = .returned v ∧ Chg [] W w' :=
  h.mono fun _ _ ⟨h1, h2⟩ => ⟨h1, by rw [h2]; exact Chg.refl _ _⟩

/-- The hints: what each call comes to (RA, RP: what reading the text gives). -/
def hintsB (va : Bool) (A M : Nat) (κ : Int) (RA CT CC RP PT PC : Value) : List (Nat × Sx.Hint) :=
  [(21, .call (.agg (adr va A).toArray)), (24, .call (.tuple #[.string ⟨(textA va A).toArray⟩, .int .i64 0])), (29, .call (.tuple #[.agg (adr va A).toArray, .int .i64 0])), (36, .call (.int .i64 (wid va : Nat))), (37, .call (.int .i64 κ)),
   (38, .call (.tuple #[.agg (pfx va M κ).toArray, .int .i64 0])), (54, .bin (.bool false)), (58, .call (.tuple #[.string ⟨(textP va M κ).toArray⟩, .int .i64 0])), (63, .call (.tuple #[.agg (pfx va M κ).toArray, .int .i64 0])), (75, .bin (.bool false)),
   (79, .call RA), (86, .call CT), (94, .bin (.bool false)), (98, .call CC), (103, .call RP), (110, .call PT), (118, .bin (.bool false)), (122, .call PC), (125, .call (.bool true))]
theorem bval {a b : Bool} (h : a = b) : Value.bool a = Value.bool b := by rw [h]
theorem okBin {P : Program} {s : Sem Value} {W : World} {a b : Bool} (h : s.run P W = .ok (.bool a) W) (e : a = b) : s.run P W = .ok (.bool b) W := by rw [← e]; exact h
/-- What Of comes to of an address that may be and a number that may be. -/
theorem of_is {v : Bool} {n : Nat} {k : Int} (hn : n < 2 ^ 128) (h : okA v n = true) (h0 : 0 ≤ k) (h1 : k ≤ wid v) (W : World) : Calls Tryz.prog 19 #[.agg (adr v n).toArray, .int .i64 k] W fun e w' => e = .returned (.tuple #[.agg (pfx v (maskN n k.toNat) k).toArray, .int .i64 0]) ∧ Chg [] W w' := by
  have := of_N v n k hn W
  have e : ofP v n k = (v, maskN n k.toNat, k, 0) := by unfold ofP; rw [if_pos h, if_pos ⟨h0, h1⟩]
  rwa [e] at this
theorem text_is {v : Bool} {n : Nat} {k : Int} (hn : n < 2 ^ 128) (h : okP v n k = true) (W : World) (HL : Lan W) : Calls Tryz.prog 38 #[.agg (pfx v n k).toArray] W fun e w' => e = .returned (.tuple #[.string ⟨(textP v n k).toArray⟩, .int .i64 0]) ∧ Chg [] W w' := by
  have := text_N v n k hn W HL
  rwa [show ptxt v n k = textP v n k by unfold ptxt; rw [if_pos h], show errP v n k = 0 by unfold errP; rw [if_pos h]] at this
theorem checkAddr_is {v : Bool} {n : Nat} (hn : n < 2 ^ 128) (h : okA v n = true) (W : World) : Calls Tryz.prog 28 #[.agg (adr v n).toArray] W fun e w' => e = .returned (.int .i64 0) ∧ Chg [] W w' := by
  have := checkAddr_N v n hn W
  rwa [show errA v n = 0 by unfold errA; rw [if_pos h]] at this
theorem check_is {v : Bool} {n : Nat} {k : Int} (hn : n < 2 ^ 128) (h : okP v n k = true) (W : World) : Calls Tryz.prog 30 #[.agg (pfx v n k).toArray] W fun e w' => e = .returned (.int .i64 0) ∧ Chg [] W w' := by
  have := check_N v n k hn W
  rwa [show errP v n k = 0 by unfold errP; rw [if_pos h]] at this
theorem read_is' {s : List UInt8} {v : Bool} {n : Nat} {k : Int} (h : IsP s v n k) (hs : s.length ≤ 100000000) (w : World) (HL : Lan w) : Calls Tryz.prog 12 #[.string ⟨s.toArray⟩] w fun e w' => e = .returned (.tuple #[.agg (pfx v n k).toArray, .int .i64 0]) ∧ Chg [] w w' := by
  refine (read_N s hs w HL).mono ?_
  rintro e w' ⟨v', n', k', er, rfl, hC, hh⟩
  rcases hh with ⟨rfl, _, hu⟩ | ⟨_, _, _, _, hu⟩
  · obtain ⟨rfl, rfl, rfl⟩ := hu _ _ _ h
    exact ⟨rfl, hC⟩
  · exact absurd h (hu _ _ _)
theorem read_no {s : List UInt8} (h : ∀ v n k, ¬ IsP s v n k) (hs : s.length ≤ 100000000) (w : World) (HL : Lan w) : Calls Tryz.prog 12 #[.string ⟨s.toArray⟩] w fun e w' => e = .returned (.tuple #[.agg (pfx false 0 0).toArray, .int .i64 151]) ∧ Chg [] w w' := by
  refine (read_N s hs w HL).mono ?_
  rintro e w' ⟨v', n', k', er, rfl, hC, hh⟩
  rcases hh with ⟨rfl, hp, _⟩ | ⟨rfl, rfl, rfl, rfl, _⟩
  · exact absurd hp (h _ _ _)
  · exact ⟨rfl, hC⟩
theorem readAddr_no {s : List UInt8} (h : ∀ v n, ¬ IsA s v n) (hs : s.length ≤ 100000000) (w : World) (HL : Lan w) : Calls Tryz.prog 10 #[.string ⟨s.toArray⟩] w fun e w' => e = .returned (.tuple #[.agg (adr false 0).toArray, .int .i64 150]) ∧ Chg [] w w' := by
  refine (readAddr_N s hs w HL).mono ?_
  rintro e w' ⟨v', n', er, rfl, hC, hh⟩
  rcases hh with ⟨rfl, hp, _⟩ | ⟨rfl, rfl, rfl, _⟩
  · exact absurd hp (h _ _)
  · exact ⟨rfl, hC⟩
theorem same24 (x y : Operand) (v : Bool) (n : Nat) (hn : n < 2 ^ 128) (W : World) : (do eqGuard .neq 24 x y (.agg (adr v n).toArray) (.agg (adr v n).toArray); binOp .neq 24 (.agg (adr v n).toArray) (.agg (adr v n).toArray) : Sem Value).run Tryz.prog W = .ok (.bool false) W := okBin (bin24 x y v v n n hn hn W) (by simp)
theorem same29 (x y : Operand) (v : Bool) (n : Nat) (k : Int) (hn : n < 2 ^ 128) (hk : -9223372036854775808 ≤ k ∧ k ≤ 9223372036854775807) (W : World) : (do eqGuard .neq 29 x y (.agg (pfx v n k).toArray) (.agg (pfx v n k).toArray); binOp .neq 29 (.agg (pfx v n k).toArray) (.agg (pfx v n k).toArray) : Sem Value).run Tryz.prog W = .ok (.bool false) W := okBin (bin29 x y v v n n k k hn hn hk hk W) (by simp)
theorem sameStr (x y : Operand) (s : List UInt8) (W : World) : (do eqGuard .neq 9 x y (.string ⟨s.toArray⟩) (.string ⟨s.toArray⟩); binOp .neq 9 (.string ⟨s.toArray⟩) (.string ⟨s.toArray⟩) : Sem Value).run Tryz.prog W = .ok (.bool false) W := okBin (binStr x y _ _ W) (by simp)

/-- The first half: what was written is read. -/
structure BkA (va : Bool) (n : Nat) (i : Int) (A M : Nat) (κ : Int) : Prop where
  a : A = maskN n (wid va)
  k : κ = withinI i (wid va)
  m : M = maskN A κ.toNat
  la : A < 2 ^ 128
  lm : M < 2 ^ 128
  oa : okA va A = true
  k0 : 0 ≤ κ
  k1 : κ ≤ wid va
  op : okP va M κ = true
  bd : -9223372036854775808 ≤ κ ∧ κ ≤ 9223372036854775807
  hi : -9223372036854775808 ≤ i ∧ i ≤ 9223372036854775807
theorem kT : (Value.bool true) = .bool true := rfl
theorem textP_len {v : Bool} {n : Nat} {k : Int} (h1 : k ≤ wid v) : (textP v n k).length ≤ 100000000 := by
  have h2 := wid_le v
  have h3 := textA_len v n
  have h4 := digs10_len (u := k.toNat) (by omega)
  unfold textP
  simp only [List.length_append, List.length_cons]
  omega
section
variable {va : Bool} {n : Nat} {i : Int} {A M : Nat} {κ : Int} {w : World}
set_option maxRecDepth 100000 in
theorem back_yy (B : BkA va n i A M κ) (HL : Lan w) {l : List UInt8} (hl : l.length ≤ 100000000) {cv : Bool} {cn : Nat} (hc : IsA l cv cn) {pv : Bool} {pn : Nat} {pk : Int} (hp : IsP l pv pn pk) :
    Calls Tryz.prog 8 #[.agg (adr va n).toArray, .int .i64 i, .string ⟨l.toArray⟩] w fun e w' => ∃ v, e = .returned v ∧ v = .bool true ∧ Chg [] w w' := by
  have L : ∀ W, Chg [] w W → Lan W := fun W h => HL.chg0 h
  have c1 := fun W (_ : Chg [] w W) => right_N va n W
  have c2 := fun W (h : Chg [] w W) => addrText_is B.la B.oa W (L W h)
  have c3 := fun W (h : Chg [] w W) => readAddr_is (s := textA va A) ⟨B.la, B.oa, rfl⟩ (Nat.le_trans (textA_len va A) (by omega)) W (L W h)
  have c4 := fun W (_ : Chg [] w W) => width2_N va A W
  have c5 := fun W (_ : Chg [] w W) => to_chg (within_N i (wid va) (wid_le va) B.hi W)
  have c6 := fun W (_ : Chg [] w W) => of_is B.la B.oa B.k0 B.k1 W
  have c7 := fun W => same24 (.tmp 52) (.tmp 53) va A B.la W
  rw [← B.a] at c1
  rw [← B.k] at c5
  rw [← B.m] at c6
  have c8 := fun W (h : Chg [] w W) => text_is B.lm B.op W (L W h)
  have c9 := fun W (h : Chg [] w W) => read_is' (s := textP va M κ) ⟨B.lm, B.op, rfl⟩ (textP_len B.k1) W (L W h)
  have c10 := fun W => same29 (.tmp 73) (.tmp 74) va M κ B.lm B.bd W
  have c11 := fun W (h : Chg [] w W) => readAddr_is hc hl W (L W h)
  have c12 := fun W (h : Chg [] w W) => addrText_is hc.1 hc.2.1 W (L W h)
  have c13 := fun W => sameStr (.tmp 92) (.tmp 93) l W
  have c14 := fun W (_ : Chg [] w W) => checkAddr_is hc.1 hc.2.1 W
  rw [hc.2.2] at c12
  have c15 := fun W (h : Chg [] w W) => read_is' hp hl W (L W h)
  have c16 := fun W (h : Chg [] w W) => text_is hp.1 hp.2.1 W (L W h)
  have c17 := fun W => sameStr (.tmp 116) (.tmp 117) l W
  have c18 := fun W (_ : Chg [] w W) => check_is hp.1 hp.2.1 W
  rw [hp.2.2] at c16
  have c19 := fun W (h : Chg [] w W) => works_N W (L W h)
  refine Sx.calls_ex (args := [.agg (adr va n).toArray, .int .i64 i, .string ⟨l.toArray⟩]) (hintsB va A M κ (.tuple #[.agg (adr cv cn).toArray, .int .i64 0]) (.tuple #[.string ⟨l.toArray⟩, .int .i64 0]) (.int .i64 0) (.tuple #[.agg (pfx pv pn pk).toArray, .int .i64 0]) (.tuple #[.string ⟨l.toArray⟩, .int .i64 0]) (.int .i64 0)) [] (by kernel_rfl) Tryz.func8 rfl (Nat.le_of_ble_eq_true rfl) ?_
  exact Eq.mp (by kernel_rfl) (And.intro c1 (And.intro c2 (And.intro c3 (And.intro c4 (And.intro c5 (And.intro c6 (And.intro c7 (And.intro c8 (And.intro c9 (And.intro c10 (And.intro c11 (And.intro c12 (And.intro c13 (And.intro c14 (And.intro c15 (And.intro c16 (And.intro c17 (And.intro c18 (And.intro c19 kT)))))))))))))))))))
set_option maxRecDepth 100000 in
theorem back_yn (B : BkA va n i A M κ) (HL : Lan w) {l : List UInt8} (hl : l.length ≤ 100000000) {cv : Bool} {cn : Nat} (hc : IsA l cv cn) (hp : ∀ v n k, ¬ IsP l v n k) :
    Calls Tryz.prog 8 #[.agg (adr va n).toArray, .int .i64 i, .string ⟨l.toArray⟩] w fun e w' => ∃ v, e = .returned v ∧ v = .bool true ∧ Chg [] w w' := by
  have L : ∀ W, Chg [] w W → Lan W := fun W h => HL.chg0 h
  have c1 := fun W (_ : Chg [] w W) => right_N va n W
  have c2 := fun W (h : Chg [] w W) => addrText_is B.la B.oa W (L W h)
  have c3 := fun W (h : Chg [] w W) => readAddr_is (s := textA va A) ⟨B.la, B.oa, rfl⟩ (Nat.le_trans (textA_len va A) (by omega)) W (L W h)
  have c4 := fun W (_ : Chg [] w W) => width2_N va A W
  have c5 := fun W (_ : Chg [] w W) => to_chg (within_N i (wid va) (wid_le va) B.hi W)
  have c6 := fun W (_ : Chg [] w W) => of_is B.la B.oa B.k0 B.k1 W
  have c7 := fun W => same24 (.tmp 52) (.tmp 53) va A B.la W
  rw [← B.a] at c1
  rw [← B.k] at c5
  rw [← B.m] at c6
  have c8 := fun W (h : Chg [] w W) => text_is B.lm B.op W (L W h)
  have c9 := fun W (h : Chg [] w W) => read_is' (s := textP va M κ) ⟨B.lm, B.op, rfl⟩ (textP_len B.k1) W (L W h)
  have c10 := fun W => same29 (.tmp 73) (.tmp 74) va M κ B.lm B.bd W
  have c11 := fun W (h : Chg [] w W) => readAddr_is hc hl W (L W h)
  have c12 := fun W (h : Chg [] w W) => addrText_is hc.1 hc.2.1 W (L W h)
  have c13 := fun W => sameStr (.tmp 92) (.tmp 93) l W
  have c14 := fun W (_ : Chg [] w W) => checkAddr_is hc.1 hc.2.1 W
  rw [hc.2.2] at c12
  have c15 := fun W (h : Chg [] w W) => read_no hp hl W (L W h)
  have c16 := fun W (h : Chg [] w W) => works_N W (L W h)
  refine Sx.calls_ex (args := [.agg (adr va n).toArray, .int .i64 i, .string ⟨l.toArray⟩]) (hintsB va A M κ (.tuple #[.agg (adr cv cn).toArray, .int .i64 0]) (.tuple #[.string ⟨l.toArray⟩, .int .i64 0]) (.int .i64 0) (.tuple #[.agg (pfx false 0 0).toArray, .int .i64 151]) undef undef) [] (by kernel_rfl) Tryz.func8 rfl (Nat.le_of_ble_eq_true rfl) ?_
  exact Eq.mp (by kernel_rfl) (And.intro c1 (And.intro c2 (And.intro c3 (And.intro c4 (And.intro c5 (And.intro c6 (And.intro c7 (And.intro c8 (And.intro c9 (And.intro c10 (And.intro c11 (And.intro c12 (And.intro c13 (And.intro c14 (And.intro c15 (And.intro c16 kT))))))))))))))))
set_option maxRecDepth 100000 in
theorem back_ny (B : BkA va n i A M κ) (HL : Lan w) {l : List UInt8} (hl : l.length ≤ 100000000) (hc : ∀ v n, ¬ IsA l v n) {pv : Bool} {pn : Nat} {pk : Int} (hp : IsP l pv pn pk) :
    Calls Tryz.prog 8 #[.agg (adr va n).toArray, .int .i64 i, .string ⟨l.toArray⟩] w fun e w' => ∃ v, e = .returned v ∧ v = .bool true ∧ Chg [] w w' := by
  have L : ∀ W, Chg [] w W → Lan W := fun W h => HL.chg0 h
  have c1 := fun W (_ : Chg [] w W) => right_N va n W
  have c2 := fun W (h : Chg [] w W) => addrText_is B.la B.oa W (L W h)
  have c3 := fun W (h : Chg [] w W) => readAddr_is (s := textA va A) ⟨B.la, B.oa, rfl⟩ (Nat.le_trans (textA_len va A) (by omega)) W (L W h)
  have c4 := fun W (_ : Chg [] w W) => width2_N va A W
  have c5 := fun W (_ : Chg [] w W) => to_chg (within_N i (wid va) (wid_le va) B.hi W)
  have c6 := fun W (_ : Chg [] w W) => of_is B.la B.oa B.k0 B.k1 W
  have c7 := fun W => same24 (.tmp 52) (.tmp 53) va A B.la W
  rw [← B.a] at c1
  rw [← B.k] at c5
  rw [← B.m] at c6
  have c8 := fun W (h : Chg [] w W) => text_is B.lm B.op W (L W h)
  have c9 := fun W (h : Chg [] w W) => read_is' (s := textP va M κ) ⟨B.lm, B.op, rfl⟩ (textP_len B.k1) W (L W h)
  have c10 := fun W => same29 (.tmp 73) (.tmp 74) va M κ B.lm B.bd W
  have c11 := fun W (h : Chg [] w W) => readAddr_no hc hl W (L W h)
  have c12 := fun W (h : Chg [] w W) => read_is' hp hl W (L W h)
  have c13 := fun W (h : Chg [] w W) => text_is hp.1 hp.2.1 W (L W h)
  have c14 := fun W => sameStr (.tmp 116) (.tmp 117) l W
  have c15 := fun W (_ : Chg [] w W) => check_is hp.1 hp.2.1 W
  rw [hp.2.2] at c13
  have c16 := fun W (h : Chg [] w W) => works_N W (L W h)
  refine Sx.calls_ex (args := [.agg (adr va n).toArray, .int .i64 i, .string ⟨l.toArray⟩]) (hintsB va A M κ (.tuple #[.agg (adr false 0).toArray, .int .i64 150]) undef undef (.tuple #[.agg (pfx pv pn pk).toArray, .int .i64 0]) (.tuple #[.string ⟨l.toArray⟩, .int .i64 0]) (.int .i64 0)) [] (by kernel_rfl) Tryz.func8 rfl (Nat.le_of_ble_eq_true rfl) ?_
  exact Eq.mp (by kernel_rfl) (And.intro c1 (And.intro c2 (And.intro c3 (And.intro c4 (And.intro c5 (And.intro c6 (And.intro c7 (And.intro c8 (And.intro c9 (And.intro c10 (And.intro c11 (And.intro c12 (And.intro c13 (And.intro c14 (And.intro c15 (And.intro c16 kT))))))))))))))))
set_option maxRecDepth 100000 in
theorem back_nn (B : BkA va n i A M κ) (HL : Lan w) {l : List UInt8} (hl : l.length ≤ 100000000) (hc : ∀ v n, ¬ IsA l v n) (hp : ∀ v n k, ¬ IsP l v n k) :
    Calls Tryz.prog 8 #[.agg (adr va n).toArray, .int .i64 i, .string ⟨l.toArray⟩] w fun e w' => ∃ v, e = .returned v ∧ v = .bool true ∧ Chg [] w w' := by
  have L : ∀ W, Chg [] w W → Lan W := fun W h => HL.chg0 h
  have c1 := fun W (_ : Chg [] w W) => right_N va n W
  have c2 := fun W (h : Chg [] w W) => addrText_is B.la B.oa W (L W h)
  have c3 := fun W (h : Chg [] w W) => readAddr_is (s := textA va A) ⟨B.la, B.oa, rfl⟩ (Nat.le_trans (textA_len va A) (by omega)) W (L W h)
  have c4 := fun W (_ : Chg [] w W) => width2_N va A W
  have c5 := fun W (_ : Chg [] w W) => to_chg (within_N i (wid va) (wid_le va) B.hi W)
  have c6 := fun W (_ : Chg [] w W) => of_is B.la B.oa B.k0 B.k1 W
  have c7 := fun W => same24 (.tmp 52) (.tmp 53) va A B.la W
  rw [← B.a] at c1
  rw [← B.k] at c5
  rw [← B.m] at c6
  have c8 := fun W (h : Chg [] w W) => text_is B.lm B.op W (L W h)
  have c9 := fun W (h : Chg [] w W) => read_is' (s := textP va M κ) ⟨B.lm, B.op, rfl⟩ (textP_len B.k1) W (L W h)
  have c10 := fun W => same29 (.tmp 73) (.tmp 74) va M κ B.lm B.bd W
  have c11 := fun W (h : Chg [] w W) => readAddr_no hc hl W (L W h)
  have c12 := fun W (h : Chg [] w W) => read_no hp hl W (L W h)
  have c13 := fun W (h : Chg [] w W) => works_N W (L W h)
  refine Sx.calls_ex (args := [.agg (adr va n).toArray, .int .i64 i, .string ⟨l.toArray⟩]) (hintsB va A M κ (.tuple #[.agg (adr false 0).toArray, .int .i64 150]) undef undef (.tuple #[.agg (pfx false 0 0).toArray, .int .i64 151]) undef undef) [] (by kernel_rfl) Tryz.func8 rfl (Nat.le_of_ble_eq_true rfl) ?_
  exact Eq.mp (by kernel_rfl) (And.intro c1 (And.intro c2 (And.intro c3 (And.intro c4 (And.intro c5 (And.intro c6 (And.intro c7 (And.intro c8 (And.intro c9 (And.intro c10 (And.intro c11 (And.intro c12 (And.intro c13 kT)))))))))))))
end
theorem back_W (va : Bool) (n : Nat) (i : Int) (s : ByteArray) (w : World) (HL : Lan w) (hn : n < 2 ^ 128) (hi : -9223372036854775808 ≤ i ∧ i ≤ 9223372036854775807) (hs : s.size ≤ 100000000) :
    Calls Tryz.prog 8 #[.agg (adr va n).toArray, .int .i64 i, .string s] w fun e w' => e = .returned (.bool true) ∧ Chg [] w w' := by
  obtain ⟨k0, k1⟩ := withinI_le i (wid va)
  have hw := wid_le va
  have hok : okP va (maskN (maskN n (wid va)) (withinI i (wid va)).toNat) (withinI i (wid va)) = true := by
    have := okP_mask va (maskN n (wid va)) (withinI i (wid va)).toNat (by omega)
    rwa [Int.toNat_of_nonneg k0] at this
  have B : BkA va n i (maskN n (wid va)) (maskN (maskN n (wid va)) (withinI i (wid va)).toNat) (withinI i (wid va)) :=
    ⟨rfl, rfl, rfl, mask_lt _ _ hn, mask_lt _ _ (mask_lt _ _ hn), okA_right va n, k0, k1, hok, ⟨by omega, by omega⟩, hi⟩
  obtain ⟨l, hl⟩ : ∃ l : List UInt8, s = ⟨l.toArray⟩ := ⟨s.data.toList, by cases s; simp⟩
  subst hl
  have hl : l.length ≤ 100000000 := by simpa [ByteArray.size] using hs
  have fin : ∀ {R : Ending → World → Prop}, (∀ e w', (∃ v, e = .returned v ∧ v = .bool true ∧ Chg [] w w') → R e w') → Calls Tryz.prog 8 #[.agg (adr va n).toArray, .int .i64 i, .string ⟨l.toArray⟩] w R := by
    intro R h
    by_cases hc : ∃ v n, IsA l v n
    · obtain ⟨cv, cn, hc⟩ := hc
      by_cases hp : ∃ v n k, IsP l v n k
      · obtain ⟨pv, pn, pk, hp⟩ := hp
        exact (back_yy B HL hl hc hp).mono h
      · exact (back_yn B HL hl hc fun v n k hh => hp ⟨v, n, k, hh⟩).mono h
    · have hc' : ∀ v n, ¬ IsA l v n := fun v n hh => hc ⟨v, n, hh⟩
      by_cases hp : ∃ v n k, IsP l v n k
      · obtain ⟨pv, pn, pk, hp⟩ := hp
        exact (back_ny B HL hl hc' hp).mono h
      · exact (back_nn B HL hl hc' fun v n k hh => hp ⟨v, n, k, hh⟩).mono h
  exact fin fun e w' ⟨v, he, hv, hc⟩ => ⟨by rw [he, hv], hc⟩
theorem beq24 (x y : Operand) (v v' : Bool) (n m : Nat) (hn : n < 2 ^ 128) (hm : m < 2 ^ 128) (W : World) : (do eqGuard .eql 24 x y (.agg (adr v n).toArray) (.agg (adr v' m).toArray); binOp .eql 24 (.agg (adr v n).toArray) (.agg (adr v' m).toArray) : Sem Value).run Tryz.prog W = .ok (.bool (decide (v = v' ∧ n = m))) W := by
  have h := eq24 v v' n m hn hm W
  rw [Sem.run_bind, guard24, Result.andThen_ok]
  show (do pure (.bool (← Op.equal 24 (.agg (adr v n).toArray) (.agg (adr v' m).toArray))) : Sem Value).run Tryz.prog W = _
  rw [Sem.run_bind, show (Op.equal 24 (.agg (adr v n).toArray) (.agg (adr v' m).toArray)).run Tryz.prog W = _ from h]
  rfl
theorem beq29 (x y : Operand) (v v' : Bool) (n m : Nat) (k j : Int) (hn : n < 2 ^ 128) (hm : m < 2 ^ 128) (hk : -9223372036854775808 ≤ k ∧ k ≤ 9223372036854775807) (hj : -9223372036854775808 ≤ j ∧ j ≤ 9223372036854775807) (W : World) : (do eqGuard .eql 29 x y (.agg (pfx v n k).toArray) (.agg (pfx v' m j).toArray); binOp .eql 29 (.agg (pfx v n k).toArray) (.agg (pfx v' m j).toArray) : Sem Value).run Tryz.prog W = .ok (.bool (decide (v = v' ∧ n = m ∧ k = j))) W := by
  have h := eq29 v v' n m k j hn hm hk hj W
  rw [Sem.run_bind, guard29, Result.andThen_ok]
  show (do pure (.bool (← Op.equal 29 (.agg (pfx v n k).toArray) (.agg (pfx v' m j).toArray))) : Sem Value).run Tryz.prog W = _
  rw [Sem.run_bind, show (Op.equal 29 (.agg (pfx v n k).toArray) (.agg (pfx v' m j).toArray)).run Tryz.prog W = _ from h]
  rfl
theorem neq_self (b : Bool) : Value.bool (!(b == b)) = .bool false := by cases b <;> rfl
end Go.Proofs.YtgpiapmbbnngpaaGreatDoor
