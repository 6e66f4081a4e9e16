/- PrefixTells walked by reckoning: it is true. -/
import Derived.Test.YtgpiapmbbnngpaaGreatDoorPfxTn
import Derived.Test.YtgpiapmbbnngpaaGreatDoorSxM
import Derived.Test.YtgpiapmbbnngpaaGreatDoorPfxBk
namespace Go.Proofs.YtgpiapmbbnngpaaGreatDoor
open Go.RowKit Go.Lib Go.Sort

theorem eqStr (x y : Operand) (s : List UInt8) (W : World) : (do eqGuard .eql 9 x y (.string ⟨s.toArray⟩) (.string ⟨s.toArray⟩); binOp .eql 9 (.string ⟨s.toArray⟩) (.string ⟨s.toArray⟩) : Sem Value).run Tryz.prog W = .ok (.bool true) W := by
  show Result.ok (Value.bool ((⟨s.toArray⟩ : ByteArray).toList == (⟨s.toArray⟩ : ByteArray).toList)) W = _
  simp
theorem eqsame29 (x y : Operand) (v : Bool) (n : Nat) (k : Int) (hn : n < 2 ^ 128) (hk : -9223372036854775808 ≤ k ∧ k ≤ 9223372036854775807) (W : World) : (do eqGuard .eql 29 x y (.agg (pfx v n k).toArray) (.agg (pfx v n k).toArray); binOp .eql 29 (.agg (pfx v n k).toArray) (.agg (pfx v n k).toArray) : Sem Value).run Tryz.prog W = .ok (.bool true) W := okBin (beq29 x y v v n n k k hn hn hk hk W) (by simp)
theorem ne_i (x : Int) : Value.bool (x != x) = .bool false := bz (by simp)
theorem eq_i (x : Int) : Value.bool (x == x) = .bool true := bz (by simp)
/-- A prefix's cells, of three letters. -/
theorem ofP_bd (v : Bool) (n : Nat) (k : Int) (hn : n < 2 ^ 128) : (ofP v n k).2.1 < 2 ^ 128 ∧ -9223372036854775808 ≤ (ofP v n k).2.2.1 ∧ (ofP v n k).2.2.1 ≤ 9223372036854775807 := by
  have hw := wid_le v
  unfold ofP
  split
  · split
    · exact ⟨mask_lt _ _ hn, by simp only; omega, by simp only; omega⟩
    · exact ⟨by decide, by decide, by decide⟩
  · exact ⟨by decide, by decide, by decide⟩
theorem halP_bd (v : Bool) (n : Nat) (k : Int) (hn : n < 2 ^ 128) : ((halP v n k).1.2.1 < 2 ^ 128 ∧ -9223372036854775808 ≤ (halP v n k).1.2.2 ∧ (halP v n k).1.2.2 ≤ 9223372036854775807) ∧ ((halP v n k).2.1.2.1 < 2 ^ 128 ∧ -9223372036854775808 ≤ (halP v n k).2.1.2.2 ∧ (halP v n k).2.1.2.2 ≤ 9223372036854775807) := by
  unfold halP
  split
  · rename_i h
    have hb := okP_bits h
    split
    · exact ⟨⟨by decide, by decide, by decide⟩, ⟨by decide, by decide, by decide⟩⟩
    · exact ⟨⟨hn, by simp only; omega, by simp only; omega⟩, ⟨high_lt128 _ _ hn, by simp only; omega, by simp only; omega⟩⟩
  · exact ⟨⟨by decide, by decide, by decide⟩, ⟨by decide, by decide, by decide⟩⟩
def hintsT (e1 e2 cm : Int) (h1 h2 c1 c2 : Bool) (o : Bool × Nat × Int) (oe : Int) (t1 t2 : List UInt8) (x y : Bool × Nat × Int) (he : Int) : List (Nat × Sx.Hint) :=
  [(20, .call (.int .i64 e1)), (22, .call (.int .i64 e1)), (23, .is (.bool false)), (26, .call (.int .i64 e2)), (28, .call (.int .i64 e2)), (29, .is (.bool false)), (34, .call (.int .i64 cm)), (37, .call (.int .i64 cm)), (38, .is (.bool false)), (43, .call (.bool h1)), (46, .call (.bool h1)), (47, .is (.bool false)), (53, .call (.bool h2)), (57, .call (.bool h2)), (58, .is (.bool false)), (63, .call (.bool c1)), (66, .call (.bool c1)), (67, .is (.bool false)), (72, .call (.bool c2)), (75, .call (.bool c2)), (76, .is (.bool false)),
   (82, .call (.tuple #[.agg (pfx o.1 o.2.1 o.2.2).toArray, .int .i64 oe])), (89, .call (.tuple #[.agg (pfx o.1 o.2.1 o.2.2).toArray, .int .i64 oe])), (94, .call (.tuple #[.string ⟨t1.toArray⟩, .int .i64 e1])), (99, .call (.tuple #[.string ⟨t1.toArray⟩, .int .i64 e1])), (104, .bin (.bool false)), (108, .is (.bool false)), (113, .bin (.bool false)), (118, .is (.bool false)),
   (122, .call (.tuple #[.string ⟨t2.toArray⟩, .int .i64 e2])), (127, .call (.tuple #[.string ⟨t2.toArray⟩, .int .i64 e2])), (132, .call (.tuple #[.agg (pfx x.1 x.2.1 x.2.2).toArray, .agg (pfx y.1 y.2.1 y.2.2).toArray, .int .i64 he])), (138, .call (.tuple #[.agg (pfx x.1 x.2.1 x.2.2).toArray, .agg (pfx y.1 y.2.1 y.2.2).toArray, .int .i64 he])),
   (144, .bin (.bool true)), (148, .is (.bool true)), (153, .bin (.bool true)), (158, .bin (.bool true)), (163, .is (.bool true)), (166, .call (.bool true))]
set_option maxRecDepth 100000 in
theorem tells_N (pv : Bool) (pn : Nat) (pk : Int) (qv : Bool) (qn : Nat) (qk : Int) (av : Bool) (an : Nat) (w : World) (HL : Lan w) (hp : pn < 2 ^ 128) (hq : qn < 2 ^ 128) (ha : an < 2 ^ 128) :
    Calls Tryz.prog 7 #[.agg (pfx pv pn pk).toArray, .agg (pfx qv qn qk).toArray, .agg (adr av an).toArray] w fun e w' => e = .returned (.bool true) ∧ Chg [] w w' := by
  have L : ∀ W, Chg [] w W → Lan W := fun W h => HL.chg0 h
  have c20 := fun W (_ : Chg [] w W) => checkAddr_N av an ha W
  have c22 := fun W (_ : Chg [] w W) => rcheckAddr_N av an ha W
  have c26 := fun W (_ : Chg [] w W) => check_N pv pn pk hp W
  have c28 := fun W (_ : Chg [] w W) => rcheck_N pv pn pk hp W
  have c34 := fun W (_ : Chg [] w W) => compare_N pv pn pk qv qn qk hp hq W
  have c37 := fun W (_ : Chg [] w W) => rcompare_N pv pn pk qv qn qk hp hq W
  have c43 := fun W (_ : Chg [] w W) => has_N pv pn pk av an hp ha W
  have c46 := fun W (_ : Chg [] w W) => rhas_N pv pn pk av an hp ha W
  have c53 := fun W (_ : Chg [] w W) => has_N pv pn pk qv qn hp hq W
  have c57 := fun W (_ : Chg [] w W) => rhas_N pv pn pk qv qn hp hq W
  have c63 := fun W (_ : Chg [] w W) => covers_N pv pn pk qv qn qk hp hq W
  have c66 := fun W (_ : Chg [] w W) => rcovers_N pv pn pk qv qn qk hp hq W
  have c72 := fun W (_ : Chg [] w W) => covers_N qv qn qk pv pn pk hq hp W
  have c75 := fun W (_ : Chg [] w W) => rcovers_N qv qn qk pv pn pk hq hp W
  have c82 := fun W (_ : Chg [] w W) => of_N av an pk ha W
  have c89 := fun W (_ : Chg [] w W) => rof_N av an pk ha W
  have c94 := fun W (h : Chg [] w W) => addrText_N av an ha W (L W h)
  have c99 := fun W (_ : Chg [] w W) => raddrText_N av an ha W
  have c122 := fun W (h : Chg [] w W) => text_N pv pn pk hp W (L W h)
  have c127 := fun W (_ : Chg [] w W) => rtext_N pv pn pk hp W
  have c132 := fun W (_ : Chg [] w W) => halves_N pv pn pk hp W
  have c138 := fun W (_ : Chg [] w W) => rhalves_N pv pn pk hp W
  have c166 := fun W (h : Chg [] w W) => works_N W (L W h)
  obtain ⟨ob1, ob2⟩ := ofP_bd av an pk ha
  obtain ⟨⟨xb1, xb2⟩, ⟨yb1, yb2⟩⟩ := halP_bd pv pn pk hp
  generalize ofP av an pk = o at *
  generalize halP pv pn pk = x at *
  generalize errA av an = e1 at *
  generalize errP pv pn pk = e2 at *
  generalize cmpP pv pn pk qv qn qk = cm at *
  generalize hasP pv pn pk av an = h1 at *
  generalize hasP pv pn pk qv qn = h2 at *
  generalize covP pv pn pk qv qn qk = d1 at *
  generalize covP qv qn qk pv pn pk = d2 at *
  generalize atxt av an = t1 at *
  generalize ptxt pv pn pk = t2 at *
  obtain ⟨ov, on, ok, oe⟩ := o
  obtain ⟨⟨xv, xn, xk⟩, ⟨yv, yn, yk⟩, he⟩ := x
  have c23 := ne_i e1
  have c29 := ne_i e2
  have c38 := ne_i cm
  have c47 := neq_self h1
  have c58 := neq_self h2
  have c67 := neq_self d1
  have c76 := neq_self d2
  have c104 := same29 (.tmp 102) (.tmp 103) ov on ok ob1 ob2
  have c108 := ne_i oe
  have c113 := sameStr (.tmp 111) (.tmp 112) t1
  have c118 := ne_i e1
  have c144 := eqStr (.tmp 142) (.tmp 143) t2
  have c148 := eq_i e2
  have c153 := eqsame29 (.tmp 151) (.tmp 152) xv xn xk xb1 xb2
  have c158 := eqsame29 (.tmp 156) (.tmp 157) yv yn yk yb1 yb2
  have c163 := eq_i he
  have z0 : Value.bool true = .bool true := rfl
  refine Sx.calls_is (args := [.agg (pfx pv pn pk).toArray, .agg (pfx qv qn qk).toArray, .agg (adr av an).toArray]) (hintsT e1 e2 cm h1 h2 d1 d2 (ov, on, ok) oe t1 t2 (xv, xn, xk) (yv, yn, yk) he) [] (by kernel_rfl) Tryz.func7 rfl (Nat.le_of_ble_eq_true rfl) ?_
  exact Eq.mp (by kernel_rfl) (And.intro c20 (And.intro c22 (And.intro c23 (And.intro c26 (And.intro c28 (And.intro c29 (And.intro c34 (And.intro c37 (And.intro c38 (And.intro c43 (And.intro c46 (And.intro c47 (And.intro c53 (And.intro c57 (And.intro c58 (And.intro c63 (And.intro c66 (And.intro c67 (And.intro c72 (And.intro c75 (And.intro c76 (And.intro c82 (And.intro c89 (And.intro c94 (And.intro c99 (And.intro c104 (And.intro c108 (And.intro c113 (And.intro c118 (And.intro c122 (And.intro c127 (And.intro c132 (And.intro c138 (And.intro c144 (And.intro c148 (And.intro c153 (And.intro c158 (And.intro c163 (And.intro c166 z0)))))))))))))))))))))))))))))))))))))))
theorem tells_W (pv : Bool) (pn : Nat) (pk : Int) (qv : Bool) (qn : Nat) (qk : Int) (av : Bool) (an : Nat) (w : World) (HL : Lan w) (hp : pn < 2 ^ 128) (_ : -9223372036854775808 ≤ pk ∧ pk ≤ 9223372036854775807) (hq : qn < 2 ^ 128) (_ : -9223372036854775808 ≤ qk ∧ qk ≤ 9223372036854775807) (ha : an < 2 ^ 128) :
    Calls Tryz.prog 7 #[.agg (pfx pv pn pk).toArray, .agg (pfx qv qn qk).toArray, .agg (adr av an).toArray] w fun e w' => e = .returned (.bool true) ∧ Chg [] w w' := tells_N pv pn pk qv qn qk av an w HL hp hq ha
end Go.Proofs.YtgpiapmbbnngpaaGreatDoor
