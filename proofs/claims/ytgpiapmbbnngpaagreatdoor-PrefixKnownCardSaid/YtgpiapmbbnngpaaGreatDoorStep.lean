/- One operation at a time, with its value said: laws for a program that prints the steps of straight code. Proved over any program; no condition of its own. -/
import Derived.Test.YtgpiapmbbnngpaaGreatDoorLibM
namespace Go.Proofs.YtgpiapmbbnngpaaGreatDoor
open Go Go.RowKit Go.Lib Go.Sort

section
variable {P : Program} {ops : Array Oper} {Q : Exit → Act → World → Prop} {a : Act} {w : World} {rest : List Oper} {o : Oper} {C : World → Prop}
/-- The operation yields v, in the world that it got. -/
theorem sl_val (v : Value) (hw : Region.wanted o (yielded ops a.tmps) = true) (hv : (execOp a.eval o).run P w = .ok (.value v) w) (h : wpList P ops Q rest (a.put o.dst v) w) : wpList P ops Q (o :: rest) a w := by
  unfold wpList
  rw [if_pos hw]
  refine .inl ?_
  unfold Oper.wp
  rw [hv]
  exact h
theorem sl_skip (hw : Region.wanted o (yielded ops a.tmps) = false) (h : wpList P ops Q rest (a.put o.dst undef) w) : wpList P ops Q (o :: rest) a w := by
  unfold wpList
  rw [if_neg (by rw [hw]; decide)]
  exact h
/-- The operation leaves the world w'. -/
theorem sl_to (v : Value) (w' : World) (hw : Region.wanted o (yielded ops a.tmps) = true) (hv : (execOp a.eval o).run P w = .ok (.value v) w') (h : wpList P ops Q rest (a.put o.dst v) w') : wpList P ops Q (o :: rest) a w := by
  unfold wpList
  rw [if_pos hw]
  refine .inl ?_
  unfold Oper.wp
  rw [hv]
  exact h
/-- A whole struct or array is read. -/
theorem sl_load (cs : List Value) (b off : Nat) (ty : TypeId) (x : Operand) (d : TypeDesc) (hw : Region.wanted o (yielded ops a.tmps) = true) (ho : o.op = .load ty x) (hx : a.eval x = .pointer (some ⟨b, off, none⟩)) (hc : w.rangeAt b off cs)
    (hu : P.underlying ty = some d) (hd : d.isRow = true) (hi : (P.info? ty).map (·.size) = some cs.length) (h : wpList P ops Q rest (a.put o.dst (.agg cs.toArray)) w) : wpList P ops Q (o :: rest) a w := by
  unfold wpList
  rw [if_pos hw]
  exact .inl (wp_load_mid ty x ho b off hx cs d hc hu hd hi h)
/-- A call of a function, under its contract: a value that is known, or one that the contract tells of. -/
theorem sl_call {R : Value → World → Prop} (f : FuncId) (vals : Array Value) (hw : Region.wanted o (yielded ops a.tmps) = true) (he : (execOp a.eval o).run P w = .ok (.enter f vals) w) (hc : Calls P f vals w fun e w' => ∃ v, e = .returned v ∧ R v w')
    (h : ∀ v w', R v w' → wpList P ops Q rest (a.put o.dst v) w') : wpList P ops Q (o :: rest) a w := by
  unfold wpList
  rw [if_pos hw]
  refine .inl ?_
  unfold Oper.wp
  rw [he]
  exact hc.mono fun e w' ⟨v, hv, hR⟩ => by subst hv; exact h v w' hR
theorem sl_call1 {R : World → Prop} (f : FuncId) (vals : Array Value) (v : Value) (hw : Region.wanted o (yielded ops a.tmps) = true) (he : (execOp a.eval o).run P w = .ok (.enter f vals) w) (hc : Calls P f vals w fun e w' => e = .returned v ∧ R w')
    (h : ∀ w', R w' → wpList P ops Q rest (a.put o.dst v) w') : wpList P ops Q (o :: rest) a w :=
  sl_call (R := fun u w' => u = v ∧ R w') f vals hw he (hc.mono fun _ _ ⟨he, hr⟩ => ⟨v, he, rfl, hr⟩) fun u w' ⟨hu, hr⟩ => by subst hu; exact h w' hr

/-- The same in a region that draws its order and only reads or calls. -/
theorem sq_val {Q : Act → Prop} (v : Value) (hw : Region.wanted o (yielded ops a.tmps) = true) (hv : ∀ W, C W → (execOp a.eval o).run P W = .ok (.value v) W) (h : wpQuiet P ops C Q rest (a.put o.dst v)) : wpQuiet P ops C Q (o :: rest) a := by
  refine wpQuiet_step fun K hK => ?_
  rw [if_pos hw]
  refine ⟨v, fun W hW => ?_, hK _ h⟩
  unfold Oper.quietAt
  rw [hv W hW]
  exact ⟨rfl, rfl⟩
theorem sq_skip {Q : Act → Prop} (hw : Region.wanted o (yielded ops a.tmps) = false) (h : wpQuiet P ops C Q rest (a.put o.dst undef)) : wpQuiet P ops C Q (o :: rest) a := by
  refine wpQuiet_step fun K hK => ?_
  rw [if_neg (by rw [hw]; decide)]
  exact hK _ h
theorem sq_call {Q : Act → Prop} (f : FuncId) (vals : Array Value) (v : Value) (hw : Region.wanted o (yielded ops a.tmps) = true) (he : ∀ W, (execOp a.eval o).run P W = .ok (.enter f vals) W) (hc : ∀ W, C W → Calls P f vals W fun e w' => e = .returned v ∧ C w')
    (h : wpQuiet P ops C Q rest (a.put o.dst v)) : wpQuiet P ops C Q (o :: rest) a := by
  refine wpQuiet_step fun K hK => ?_
  rw [if_pos hw]
  refine ⟨v, fun W hW => ?_, hK _ h⟩
  unfold Oper.quietAt
  rw [he W]
  exact ⟨rfl, hc W hW⟩
end
end Go.Proofs.YtgpiapmbbnngpaaGreatDoor
