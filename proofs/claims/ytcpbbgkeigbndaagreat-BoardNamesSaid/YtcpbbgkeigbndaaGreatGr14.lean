/- A reckoner of calls, part 33: a channel that has room: made, sent into by a select with a default (one goroutine). Proved over any program. No condition of its own. -/
import Derived.Test.YtcpbbgkeigbndaaGreatGr13
import Derived.Conc.LoneSelectN
import Derived.Conc.LoneCalls
import Derived.Test.YtcpbbgkeigbndaaGreatProg
namespace Go.Proofs.YtcpbbgkeigbndaaGreat
open Go Go.RowKit Go.Lib Go.Sort
namespace Ax
/-- Code's meaning, where the frame is none of a package's beginning. -/
def wpN (P : Program) (c : Code) (Q : Exit → Act → World → Prop) (a : Act) (w : World) : Prop := ∀ (b : Frame) (k : List Item) (cs : List Frame), b.kind ≠ .early → ∃ e a' w', Q e a' w' ∧ Arrives P (lone (b.at a (.code c :: k)) cs w) b k cs e a' w'
section
variable {P : Program} {Q : Exit → Act → World → Prop} {a : Act} {w : World}
theorem wpN_of {c : Code} (h : c.wp P Q a w) : wpN P c Q a w := fun b k cs _ => h b k cs
theorem wpN_mono {c : Code} {Q' : Exit → Act → World → Prop} (hq : ∀ e a w, Q e a w → Q' e a w) (h : wpN P c Q a w) : wpN P c Q' a w := fun b k cs hb => let ⟨e, a', w', q, r⟩ := h b k cs hb; ⟨e, a', w', hq _ _ _ q, r⟩
theorem wpN_seq {x y : Code} (h : wpN P x (Exit.then (wpN P y Q) Q) a w) : wpN P (.seq x y) Q a w := by
  intro b k cs hb
  obtain ⟨e, a1, w1, hq, harr⟩ := h b (.code y :: k) cs hb
  cases e with
  | normal =>
    obtain ⟨e2, a2, w2, hq2, harr2⟩ := hq b k cs hb
    exact ⟨e2, a2, w2, hq2, .of_steps (.head step_seq harr) harr2⟩
  | _ => exact ⟨_, a1, w1, hq, .of_steps (.one step_seq) (.pass (x := .code y) rfl (fun _ _ => .inl (by simp)) harr)⟩
theorem calls_of_wpN {f : FuncId} {fn : Func} {c : Code} {args : Array Value} {R : Ending → World → Prop} (hf : P.funcs[f]? = some fn) (hb : fn.body = some c) (h : wpN P c (bodyPostD P fn R) { tmps := args ++ Array.replicate (fn.ntmps - args.size) undef, defers := [] } w) : Calls P f args w R := by
  intro cs
  obtain ⟨b, hbe⟩ : ∃ b : Frame, b = { (default : Frame) with fn := f, kind := .normal } := ⟨_, rfl⟩
  have hk : b.kind ≠ .early := by rw [hbe]; simp
  have henter : Frame.enter P f args .normal = b.at { tmps := args ++ Array.replicate (fn.ntmps - args.size) undef, defers := [] } [.code c] := by
    rw [hbe]
    simp [Frame.enter, Frame.at, hf, hb]
  obtain ⟨e, a', w', hq, harr⟩ := h b [] cs hk
  rw [← henter] at harr
  have hfn : ∀ t m, ({ b.at a' t with mode := m } : Frame).fn = f := fun t m => by rw [hbe]; rfl
  have go : ∀ (todo : List Item) (m : FrameMode), Steps P (lone (Frame.enter P f args .normal) cs w) (lone { b.at a' todo with mode := m } cs w') → Leaves P fn a'.tmps R a'.defers m w' → ∃ e w'' fr, R e w'' ∧ Comes P (lone (Frame.enter P f args .normal) cs w) (lone fr cs w'') e ∧ fr.fn = f ∧ fr.leaving P w'' e := fun todo m hs hl => by
    obtain ⟨e', w'', fr', hR, hs', hfn', hl'⟩ := leaves_steps a'.defers m w' { b.at a' todo with mode := m } cs rfl rfl rfl (by rw [hbe]; exact hf) (by rw [hbe]; rfl) hl
    exact ⟨e', w'', fr', hR, Comes.of_steps hs hs', hfn'.trans (by rw [hbe]; rfl), hl'⟩
  cases e with
  | normal => exact go [] .returning (Steps.trans harr (.one step_end)) hq
  | ret =>
    obtain ⟨todo, hs⟩ := harr
    exact go todo .returning hs hq
  | panic chain =>
    obtain ⟨todo, hs⟩ := harr
    exact go todo (.panicking chain) hs hq
  | exit id => exact hq.elim
  | goto l => exact hq.elim
  | outgrown => exact ⟨.outgrown, w', b, hq, harr.resolve_left hk, by rw [hbe], trivial⟩
/-- An operation of a region, as steps. -/
theorem runs_steps {b : Frame} {k : List Item} {cs : List Frame} {ops : Array Oper} {i : Nat} {rest : List Nat} {o : Oper} {Φ : Value → World → Prop} (ho : ops[i]? = some o) (hw : Region.wanted o (yielded ops a.tmps) = true) (h : Runs P o a w Φ) : ∃ v w', Φ v w' ∧ Steps P (lone (b.at a (.inRegion ops (i :: rest) :: k)) cs w) (lone (b.at (a.put o.dst v) (.inRegion ops rest :: k)) cs w') := by
  have hg := stepG_op (P := P) (b := b) (k := k) (cs := cs) (w := w) (rest := rest) ho hw
  have hfin : ∀ v, (b.at a (.inRegion ops (i :: rest) :: k)).finish v = b.at (a.put o.dst v) (.inRegion ops rest :: k) := fun v => by
    rw [Frame.finish_at, ho]; rfl
  rcases h with ⟨v, w', hr, hp⟩ | ⟨w', hr, hp⟩ | ⟨f, args, hr, hc⟩
  · exact ⟨v, w', hp, .one (step_lone_go (by rw [hg, ← hfin]; simp [stepG.apply, hr]))⟩
  · exact ⟨undef, w', hp, .one (step_lone_go (by rw [hg, ← hfin]; simp [stepG.apply, hr]))⟩
  · obtain ⟨e, w2, fr, ⟨v, rfl, hp⟩, hs, _, hl⟩ := hc (b.at a (.inRegion ops (i :: rest) :: k) :: cs)
    have henter : step P (lone (b.at a (.inRegion ops (i :: rest) :: k)) cs w) = .next (lone (Frame.enter P f args .normal) (b.at a (.inRegion ops (i :: rest) :: k) :: cs) w) := step_lone_go (by rw [hg]; simp [stepG.apply, hr, Frame.at])
    exact ⟨v, w2, hp, .head henter (Steps.trans hs (.one (by rw [← hfin]; exact step_leave_returned hl)))⟩
end
/-- A channel that is made. -/
def opChan (P : Program) : Opf := fun e _ m o => match o.op with
  | .makeChan t x => match e x with
    | some (.v (.int _ (.ofNat n))) => match P.underlying t with
      | some (.chan _ el) => match P.info? el with
        | some inf => match Nat.ble n 1000 && Nat.ble inf.bytes 1000 with
          | true => some ⟨[], [], [], [.o 1 (n, 0, 0, [])], .o m⟩
          | false => none
        | none => none
      | _ => none
    | _ => none
  | _ => none
def Xop.chan (P : Program) (G : Base → Prop) : Xop P G := ⟨opChan P, fun b _ e row m o g h a β W hag hs => by
  unfold opChan at h
  split at h
  · rename_i t x ho
    split at h
    · rename_i k n hx
      split at h
      · rename_i dir el hu
        split at h
        · rename_i inf hi
          split at h
          · rename_i hb
            cases h
            rw [Bool.and_eq_true] at hb
            have h1 := Nat.le_of_ble_eq_true hb.1
            have h2 := Nat.le_of_ble_eq_true hb.2
            have hxe : a.eval x = .int k (n : Int) := hag x (by simp [ho, Op.operands]) _ hx
            have h3 : inf.bytes * n ≤ 1000 * 1000 := Nat.mul_le_mul h2 h1
            have hrun := Go.Conc.run_makeChan (P := P) (w := W) hu hi k n (by omega) (by rw [← Int.natCast_mul]; omega)
            refine .inl ⟨.chan (some W.heap.size), W.alloc (.chan n #[] false 0 0 false), ?_, β.upd m 0 (.chan (some W.heap.size)) (· = W.heap.size), ?_, post_new ⟨W.heap.size, by rw [upd_v], ?_, fun k => by rw [upd_Fm]⟩ (fun y hy => .inr ?_) ((Cg.refl _ W).seq (Cg.of ((Chg.refl [] W).alloc _) (by simp)) fun k hk => .inl hk)⟩
            · unfold execOp
              simp only [ho, Sem.run_bind, hxe, hrun, Result.andThen_ok, Sem.run_pure]
            · simp only [SV.den, upd_v]; rfl
            · exact Go.heap_alloc_new W _
            · have hy : (β.upd m 0 (.chan (some W.heap.size)) (· = W.heap.size)).F m y := hy
              rw [upd_Fm] at hy
              omega
          · cases h
        · cases h
      · cases h
    · cases h
  · cases h⟩
/-- An element's address is none that is nil. -/
def opNilE (_P : Program) : Opf := fun e row _ o => match o.op with
  | .nilCheck x => match e x with
    | some (.e i off) => match cellOf row (.e i off) with
      | some (j, _, _) => some (.pure [j] (.e i off))
      | none => none
    | _ => none
  | _ => none
def Xop.nilE (P : Program) (G : Base → Prop) : Xop P G := ⟨opNilE P, fun b _ e row m o g h a β W hag hs => by
  unfold opNilE at h
  split at h
  · rename_i x ho
    split at h
    · rename_i i off hx
      split at h
      · rename_i j r sv hc
        cases h
        obtain ⟨ad, e1, _⟩ := cellOf_ok (m := m) hc hs (List.mem_singleton.2 rfl)
        have hxe : a.eval x = .pointer (some ad) := (hag x (by simp [ho, Op.operands]) _ hx).trans e1
        refine runs_pure (sv := .e i off) ?_
        rw [e1]
        unfold execOp
        simp [ho, hxe]
      · cases h
    · cases h
  · cases h⟩
/-- Nothing of a slice, with no room behind it. -/
def opCutZ (P : Program) : Opf := fun e row m o => match o.op with
  | .slice t x none (some h) (some mx) => match e h with
    | some (.v (.int _ 0)) => match e mx with
      | some (.v (.int _ 0)) => match appTy P t with
        | some _ => match e x with
          | some (.o i) => match rowLen (row i) with
            | some _ => some ⟨[i], [], [], [.z], .o m⟩
            | none => none
          | _ => none
        | none => none
      | _ => none
    | _ => none
  | _ => none
def Xop.cutZ (P : Program) (G : Base → Prop) : Xop P G := ⟨opCutZ P, fun b _ e row m o g h a β W hag hs => by
  unfold opCutZ at h
  split at h
  · rename_i t x y mx ho
    split at h
    · rename_i k1 hy
      split at h
      · rename_i k2 hm
        split at h
        · rename_i q hty
          split at h
          · rename_i i hx
            split at h
            · rename_i N hN
              cases h
              obtain ⟨el, sz, by_⟩ := q
              obtain ⟨inf, z, hu, hi', _, hsz, _, _, _⟩ := appTy_ok hty
              obtain ⟨size, xs, hrd⟩ := rowLen_ok (β := β) (W := W) hN hs (List.mem_singleton.2 rfl)
              obtain ⟨A, c, hv, hle⟩ := hrd.form
              have e1 : a.eval x = .slice A N c := by
                rw [hag x (by simp [ho, Op.operands]) _ hx]
                simp only [SV.den, hv]; rfl
              have e2 : a.eval y = .int k1 0 := hag y (by simp [ho, Op.operands]) _ hy
              have e3 : a.eval mx = .int k2 0 := hag mx (by simp [ho, Op.operands]) _ hm
              refine runs_newZ (A := A) (c := 0) ?_
              unfold execOp
              simp only [ho, e1, Instr.sliceAt, Sem.run_bind, run_underlying hu, Result.andThen_ok, Instr.slice, sizeOf, typeInfo, Option.map_none, Option.map_some, e2, e3]
              simp [Instr.sliceBounds, Instr.sliceBound, asIntOf, hi']
            · cases h
          · cases h
        · cases h
      · cases h
    · cases h
  · cases h⟩
/-- An element of an array's value. -/
def opIdx (P : Program) : Opf := fun e _ _ o => match o.op with
  | .index t x i => match e x with
    | some (.ag l) => match e i with
      | some (.v (.int _ (.ofNat k))) => match P.underlying t with
        | some (.array len el) => match shapeOf P el with
          | some (rw, size) => match P.info? el with
            | some inf => match Nat.blt k len && Nat.beq inf.size size with
              | true => match readCs rw size (k * size) l with
                | some sv => some (.pure [] sv)
                | none => none
              | false => none
            | none => none
          | none => none
        | _ => none
      | _ => none
    | _ => none
  | _ => none
def Xop.idx (P : Program) (G : Base → Prop) : Xop P G := ⟨opIdx P, fun b _ e row m o g h a β W hag hs => by
  unfold opIdx at h
  split at h
  · rename_i t x y ho
    split at h
    · rename_i l hx
      split at h
      · rename_i kk k hy
        split at h
        · rename_i len el hu
          split at h
          · rename_i rw_ size hsh
            split at h
            · rename_i inf hi
              split at h
              · rename_i hb
                split at h
                · rename_i sv hsv
                  cases h
                  rw [Bool.and_eq_true] at hb
                  have h1 : k < len := Nat.le_of_ble_eq_true hb.1
                  have h2 := Nat.eq_of_beq_eq_true hb.2
                  have e1 : a.eval x = (SV.ag l).den β := hag x (by simp [ho, Op.operands]) _ hx
                  have e2 : a.eval y = .int kk (k : Int) := hag y (by simp [ho, Op.operands]) _ hy
                  refine runs_pure ?_
                  unfold execOp
                  simp [ho, e1, e2, SV.den, Instr.index, asIntOf, run_underlying hu, sizeOf, typeInfo, hi, h1, h2, part_run hsh hsv]
                · cases h
              · cases h
            · cases h
          · cases h
        · cases h
      · cases h
    · cases h
  · cases h⟩
/-- A select that sends one value, with a default, into a channel of one's own that has room. -/
def selOf (P : Program) (e : Operand → Option SV) (row : Nat → Option Row) (o : Oper) : Option Eff := match o.op with
  | .select cases blocking => match blocking with
    | true => none
    | false => match cases.toList with
      | [c] => match c.send with
        | none => none
        | some y => match e c.chan with
          | some (.o i) => match e y with
            | some (.v v) => match row i with
              | some (.o 1 (cap, s, r, buf)) => match P.info? c.elem with
                | some inf => match inf.zero with
                  | some _ => match Nat.blt buf.length cap with
                    | true => some ⟨[i], [(i, .o 1 (cap, s + 1, r, buf ++ [v]))], [], [], .v (.tuple #[.int .i64 0, .bool false])⟩
                    | false => none
                  | none => none
                | none => none
              | _ => none
            | _ => none
          | _ => none
      | _ => none
  | _ => none
section
variable {P : Program} {b : Base} {n : Nat} {β : Env} {a : Act} {W : World}
theorem sel_steps {e : Operand → Option SV} {row : Nat → Option Row} {m : Nat} {o : Oper} {g : Eff} {fr : Frame} {k : List Item} {cs : List Frame} {ops : Array Oper} {i : Nat} {rest : List Nat} (h : selOf P e row o = some g) (ho : ops[i]? = some o) (hw : Region.wanted o (yielded ops a.tmps) = true) (hk : fr.kind ≠ .early) (hag : ∀ x sv, e x = some sv → a.eval x = sv.den β) (hs : See b β W row g.see) : ∃ v w', EPost b β W row m g v w' ∧ Steps P (lone (fr.at a (.inRegion ops (i :: rest) :: k)) cs W) (lone (fr.at (a.put o.dst v) (.inRegion ops rest :: k)) cs w') := by
  unfold selOf at h
  split at h
  · rename_i cases_ bl hop
    split at h
    · cases h
    · split at h
      · rename_i c hl
        split at h
        · cases h
        · rename_i y hy
          split at h
          · rename_i j hj
            split at h
            · rename_i v hv
              split at h
              · rename_i cap s r buf hrow
                split at h
                · rename_i inf hi
                  split at h
                  · rename_i z hz
                    split at h
                    · rename_i hroom
                      cases h
                      have hroom : buf.length < cap := Nat.le_of_ble_eq_true hroom
                      obtain ⟨ch, h1, h2, h3⟩ : (pred 1 (cap, s, r, buf)).on W (β.v j) (β.F j) := hs.held j (by simp) _ hrow
                      have hc : cases_ = #[c] := by rw [← Array.toList_inj, hl]
                      have e1 : a.eval c.chan = .chan (some ch) := by
                        rw [hag _ _ hj]
                        simp only [SV.den, h1]; rfl
                      have e2 : a.eval y = v := hag _ _ hv
                      have hr : (execOp a.eval o).run P W = .ok (.comm #[Go.Conc.scase ch v z] false .select) W := by
                        have hzr : (zeroValue c.elem).run P W = .ok z W := by simp [zeroValue, typeInfo, hi, hz]
                        unfold execOp
                        rw [hop, hc]
                        simp [hzr, Result.andThen, e1, hy, e2, Go.Conc.scase]
                      have hst := Go.Conc.step_lone_sel_send_room (P := P) (fr := fr.at a (.inRegion ops (i :: rest) :: k)) (cs := cs) (w := W) (w₁ := W) (k := 0) (v := v) (z := z) (c := ch) (cap := cap) (buf := buf.toArray) (s := s) (r := r) (tm := false) (Go.Conc.stepG_comm ho hw hk hr) rfl (fun q c' hq hc' => by
                        cases q with
                        | zero => exact absurd rfl hq
                        | succ q => simp at hc') h2 (by simpa using hroom)
                      have hfin : (fr.at a (.inRegion ops (i :: rest) :: k)).finish (commResult #[Go.Conc.scase ch v z] .select ((0 : Nat) : Int) undef false) = fr.at (a.put o.dst (.tuple #[.int .i64 0, .bool false])) (.inRegion ops rest :: k) := by
                        rw [Frame.finish_at, ho]
                        simp [commResult, Go.Conc.scase, goInt]
                      rw [hfin] at hst
                      have hlt : ch < W.heap.size := by
                        rcases Nat.lt_or_ge ch W.heap.size with hlt | hge
                        · exact hlt
                        · rw [Array.getElem?_eq_none hge] at h2; cases h2
                      refine ⟨_, _, ⟨β, rfl, post_upd hrow (fun k hk => hk) ⟨ch, h1, ?_, h3⟩ ?_⟩, .one hst⟩
                      · rw [Go.Conc.heap_setChan _ _ _ _ _ _ _ _ hlt]
                        simp
                      · refine ⟨rfl, rfl, rfl, by simp [World.setChan], fun x hx hn => ?_⟩
                        have hne : ch ≠ x := fun he => hn ((h3 x).2 he.symm)
                        simp only [World.setChan]
                        rw [Array.getElem?_setIfInBounds_ne hne]
                    · cases h
                  · cases h
                · cases h
              · cases h
            · cases h
          · cases h
      · cases h
  · cases h
variable (P : Program) (op : Opf) (n : Nat)
/-- A region in which there is such a select. -/
def exSl (ops : Array Oper) : List Oper → Cst → Option Cst
  | [], s => some s
  | o :: l, s => match guardOf ops (ev s.fr) o with
    | some true => match orElseR1 (selOf P (ev s.fr) (rowAt s.mem) o) (op (ev s.fr) (rowAt s.mem) s.mem.length o) with
      | some g => match gOk s.mem g with
        | true => exSl ops l (putC n ⟨s.fr, gMem s.mem g, s.df⟩ o.dst g.ret)
        | false => none
      | none => none
    | _ => none
where orElseR1 : Option Eff → Option Eff → Option Eff
  | some g, _ => some g
  | none, y => y
end
section
variable {P : Program} {op : Opf} {b : Base} {n : Nat}
theorem exSl_ok (hop : OpOk P b op) {ops : Array Oper} {fr : Frame} {k : List Item} {cs : List Frame} (hk : fr.kind ≠ .early) : ∀ (l : List Oper) (j : Nat) (s s' : Cst) (β : Env) (a : Act) (w : World), (∀ q, l[q]? = ops[j + q]?) → exSl P op n ops l s = some s' → Hq b n β s a w → ∃ β' a' w', Hq b n β' s' a' w' ∧ Ext β β' s.mem.length s'.mem.length ∧ Steps P (lone (fr.at a (.inRegion ops (List.range' j l.length) :: k)) cs w) (lone (fr.at a' k) cs w')
  | [], j, s, s', β, a, w, _, hx, h => by
    unfold exSl at hx
    cases hx
    exact ⟨β, a, w, h, Ext.refl, .one step_region_end⟩
  | o :: l, j, s, s', β, a, w, hl, hx, h => by
    unfold exSl at hx
    split at hx
    · rename_i hg
      split at hx
      · rename_i g heff
        split at hx
        · rename_i hok
          have ho : ops[j]? = some o := (hl 0).symm
          have hw := h.hd.guard (ops := ops) hg
          have key : ∃ v w', EPost b β w (rowAt s.mem) s.mem.length g v w' ∧ Steps P (lone (fr.at a (.inRegion ops (j :: List.range' (j + 1) l.length) :: k)) cs w) (lone (fr.at (a.put o.dst v) (.inRegion ops (List.range' (j + 1) l.length) :: k)) cs w') := by
            unfold exSl.orElseR1 at heff
            split at heff
            · rename_i g' hsel
              cases heff
              exact sel_steps hsel ho hw hk (fun x sv hx => h.hd.eval hx) (h.hd.see _)
            · exact runs_steps ho hw (hop _ _ _ _ _ heff a β w (h.agree o) (h.hd.see _))
          obtain ⟨v, w', ⟨β', rfl, hpost⟩, hst⟩ := key
          obtain ⟨h1, h2⟩ := h.hd.eff hok hpost
          obtain ⟨h3, h4⟩ := h.next h1
          have h5 := h3.put o.dst h2
          obtain ⟨β2, a2, w2, k1, k2, k3⟩ := exSl_ok hop hk l (j + 1) _ s' β' _ w' (fun q => by rw [show j + 1 + q = j + (q + 1) by omega, ← hl (q + 1)]; rfl) hx h5
          have hmem : (putC n ⟨s.fr, gMem s.mem g, s.df⟩ o.dst g.ret).mem = gMem s.mem g := putC_st.2.1
          rw [hmem] at k2
          exact ⟨β2, a2, w2, k1, h4.trans k2, by rw [List.length_cons, List.range'_succ]; exact hst.trans k3⟩
        · cases hx
      · cases hx
    · cases hx
end
section
variable (P : Program) (op opD : Opf) (rc : Rc) (n : Nat)
def selIn (l : List Oper) : Bool := l.any fun o => match o.op with
  | .select _ _ => true
  | _ => false
/-- A row of code, of which some parts are such regions. -/
def exN : Code → Cst → Option (Ed × Cst)
  | .region id ops draw, s => match !draw && selIn ops.toList with
    | true => match exSl P op n ops ops.toList s with
      | some s1 => some (.n, s1)
      | none => none
    | false => exF P op opD rc n 3 (.region id ops draw) s
  | .seq x y, s => match exN x s with
    | some (.n, s1) => exN y s1
    | r => r
  | c, s => exF P op opD rc n 3 c s
def selTop : Code → Bool
  | .region _ ops draw => !draw && selIn ops.toList
  | .seq x y => selTop x || selTop y
  | _ => false
def callN (f : FuncId) (args : List SV) (mem : List Row) : Option Cr := match P.funcs[f]? with
  | some fn => match fn.body with
    | some c => match okB P f && (Nat.ble args.length fn.ntmps && selTop c) with
      | true => match exN P op opD rc fn.ntmps c ⟨argsG 0 args, mem, []⟩ with
        | some (e, s) => match leaveC P op opD rc fn e s with
          | some r => some (cutC mem.length r)
          | none => none
        | none => none
      | false => none
    | none => none
  | none => none
end
section
variable {P : Program} {rc : Rc} {b : Base} {n : Nat} {op opD : Opf}
theorem exN_ok (hop : OpOk P b op) (hopD : OpOk P b opD) (hm : P.follows .mixedOrders = true) (hrc : RcOk P b rc) : ∀ (c : Code) (s : Cst) (e : Ed) (s' : Cst) (β : Env) (a : Act) (w : World), exN P op opD rc n c s = some (e, s') → Hq b n β s a w → wpN P c (Rz b n β s.mem.length e s') a w := by
  intro c
  induction c with
  | region id ops draw =>
    intro s e s' β a w hx h
    unfold exN at hx
    split at hx
    · rename_i hd
      rw [Bool.and_eq_true] at hd
      have hd1 : draw = false := by cases draw <;> simp_all
      subst hd1
      split at hx
      · rename_i s1 h1
        cases hx
        intro fr k cs hk
        obtain ⟨β', a', w', k1, k2, k3⟩ := exSl_ok (k := k) (cs := cs) hop hk ops.toList 0 s s' β a w (fun q => by simp) h1 h
        refine ⟨.normal, a', w', ⟨β', k1, k2, rfl⟩, ?_⟩
        refine Steps.head step_region ?_
        rw [List.range_eq_range']
        exact k3
      · cases hx
    · exact wpN_of (exF_ok hop hopD hm hrc 3 _ s e s' β a w hx h)
  | seq x y ihx ihy =>
    intro s e s' β a w hx h
    unfold exN at hx
    split at hx
    · rename_i s1 h1
      refine wpN_seq (wpN_mono (fun x' a' w' hq => ?_) (ihx s _ _ β a w h1 h))
      obtain ⟨β', h2, h3, h4⟩ := hq
      cases (show x' = .normal from h4)
      exact wpN_mono (fun _ _ _ hz => hz.trans h3) (ihy s1 e s' β' a' w' hx h2)
    · rename_i r' hne
      refine wpN_seq (wpN_mono (fun x' a' w' hq => ?_) (ihx s e s' β a w hx h))
      cases x' with
      | normal =>
        obtain ⟨β', h2, h3, h4⟩ := hq
        cases e with
        | n => exact absurd hx (hne s')
        | x i => cases h4
        | g l => cases h4
        | r => cases h4
        | p v => cases h4.1
      | _ => exact hq
  | _ =>
    intro s e s' β a w hx h
    exact wpN_of (exF_ok hop hopD hm hrc 3 _ s e s' β a w hx h)
theorem callN_ok (hN : noNum P = true) (hop : OpOk P b op) (hopD : OpOk P b opD) (hm : P.follows .mixedOrders = true) (hrc : RcOk P b rc) : RcOk P b (callN P op opD rc) := by
  intro f args mem r hx
  unfold callN at hx
  split at hx
  · rename_i fn hf
    split at hx
    · rename_i c hb
      split at hx
      · rename_i hok
        rw [Bool.and_eq_true, Bool.and_eq_true] at hok
        split at hx
        · rename_i e s hc
          split at hx
          · rename_i r' hl
            cases hx
            refine ⟨okB_fn hN hok.1, fun β w hF hw1 hw2 => ?_⟩
            have hdoor := hd_door (ds := ⟨[], mem.length, β⟩) (fn := fn) rfl (fun i hi => ⟨⟨rfl, rfl⟩, hi⟩) hF (Nat.le_of_ble_eq_true hok.2.1) hw1 hw2
            exact calls_of_wpN hf hb (wpN_mono (fun x a w' hq => rz_body hN hop hopD hm hrc hl hq) (exN_ok hop hopD hm hrc c _ e s β _ w hc ⟨hdoor, rfl, fun d hd => nomatch hd⟩))
          · cases hx
        · cases hx
      · cases hx
    · cases hx
  · cases hx
end
section
variable {P : Program}
/-- Runs, so deep, on such doors, with such selects. -/
def MchG.nextS (hm : P.follows .mixedOrders = true) (hN : noNum P = true) (D : Grd) (X : Xop P D.G) (M : MchG P D.G) : MchG P D.G where
  rc := fun f args mem => match (M.next hm hN D X).rc f args mem with
    | some r => some r
    | none => callN P (fun e row m o => orE (X.op e row m o) (opX P (Tab.nil P) bz e row m o)) (fun e row m o => orE (X.op e row m o) (orE (opX P (Tab.nil P) bz e row m o) (opDC P D.rw M.rc e row m o))) M.rc f args mem
  ok := fun b hb => by
    intro f args mem r hx
    dsimp only at hx
    split at hx
    · rename_i r' hr
      cases hx
      exact (M.next hm hN D X).ok b hb f args mem r hr
    · rw [opX_base nil_free.free bz b] at hx
      exact callN_ok hN (orOp_ok (X.ok b hb) opX_holds) (orOp_ok (X.ok b hb) (orOp_ok opX_holds (opDC_ok fun W S' hc hS => M.ok _ (D.cl b hb W S' hc hS)))) hm (M.ok b hb) f args mem r hx
def mchS (hm : P.follows .mixedOrders = true) (hN : noNum P = true) (D : Grd) (X : Xop P D.G) : Nat → MchG P D.G
  | 0 => MchG.zero P D.G
  | d + 1 => (mchS hm hN D X d).nextS hm hN D X
end
end Ax
end Go.Proofs.YtcpbbgkeigbndaaGreat

/- BoardNames: the words that many share, at this program; awake, by reckoning. -/
namespace Go.Proofs.YtcpbbgkeigbndaaGreat
open Go Go.RowKit Go.Lib Ax
set_option maxRecDepth 100000
theorem hmT : Tryz.prog.follows .mixedOrders = true := by kernel_rfl
theorem hNT : noNum Tryz.prog = true := by kernel_rfl
theorem x129 : ExtIs Tryz.prog 129 (Extern.Atomic.loadT .ptr) := ⟨_, Tryz.func129, by kernel_rfl, by kernel_rfl, by kernel_rfl, by kernel_rfl⟩
theorem x160 : ExtIs Tryz.prog 160 (Extern.Atomic.loadT (.int .u64)) := ⟨_, Tryz.func160, by kernel_rfl, by kernel_rfl, by kernel_rfl, by kernel_rfl⟩
theorem x167 : ExtIs Tryz.prog 167 Extern.Atomic.storeT := ⟨_, Tryz.func167, by kernel_rfl, by kernel_rfl, by kernel_rfl, by kernel_rfl⟩
theorem x178 : ExtIs Tryz.prog 178 (Extern.Atomic.casT (.int .u64)) := ⟨_, Tryz.func178, by kernel_rfl, by kernel_rfl, by kernel_rfl, by kernel_rfl⟩
theorem x180 : ExtIs Tryz.prog 180 (fun _ => do mark .disable; pure Extern.Race.none_) := ⟨_, Tryz.func180, by kernel_rfl, by kernel_rfl, by kernel_rfl, by kernel_rfl⟩
theorem x181 : ExtIs Tryz.prog 181 (Extern.Atomic.casT (.int .i32)) := ⟨_, Tryz.func181, by kernel_rfl, by kernel_rfl, by kernel_rfl, by kernel_rfl⟩
theorem x182 : ExtIs Tryz.prog 182 (fun _ => do mark .enable; pure Extern.Race.none_) := ⟨_, Tryz.func182, by kernel_rfl, by kernel_rfl, by kernel_rfl, by kernel_rfl⟩
theorem x183 : ExtIs Tryz.prog 183 (Extern.Race.marked .acquire) := ⟨_, Tryz.func183, by kernel_rfl, by kernel_rfl, by kernel_rfl, by kernel_rfl⟩
theorem x185 : ExtIs Tryz.prog 185 (Extern.Race.marked .releaseMerge) := ⟨_, Tryz.func185, by kernel_rfl, by kernel_rfl, by kernel_rfl, by kernel_rfl⟩
theorem x186 : ExtIs Tryz.prog 186 (Extern.Atomic.update (Op.intArith .add) .i32 true) := ⟨_, Tryz.func186, by kernel_rfl, by kernel_rfl, by kernel_rfl, by kernel_rfl⟩
theorem x205 : ExtIs Tryz.prog 205 (Extern.Atomic.casT .ptr) := ⟨_, Tryz.func205, by kernel_rfl, by kernel_rfl, by kernel_rfl, by kernel_rfl⟩
theorem x217 : ExtIs Tryz.prog 217 Extern.Atomic.storeT := ⟨_, Tryz.func217, by kernel_rfl, by kernel_rfl, by kernel_rfl, by kernel_rfl⟩
theorem x218 : ExtIs Tryz.prog 218 (Extern.Atomic.update (Op.intArith .add) .u64 true) := ⟨_, Tryz.func218, by kernel_rfl, by kernel_rfl, by kernel_rfl, by kernel_rfl⟩
/-- No package variables; these functions turn what they are handed. -/
def GD : Grd := Lay.grdW [] [25, 56, 57, 116, 164, 149]
noncomputable def AL : List (Atm Tryz.prog) := [atLdP 129 x129, atLd 160 .u64 x160, atStP 167 x167, atCa 178 .u64 x178, atMk0 180 .disable x180, atCa 181 .i32 x181, atMk0 182 .enable x182, atMk 183 .acquire x183, atMk 185 .releaseMerge x185, atAd 186 .i32 x186, atCaP 205 x205, atSt 217 x217, atAd 218 .u64 x218]
/-- Operations of some kinds alone. -/
def Xop.selB {P : Program} {G : Base → Prop} (c n s i k : Xop P G) : Xop P G := ⟨fun e row m o => match o.op with
  | .call _ => c.op e row m o
  | .nilCheck _ => n.op e row m o
  | .slice _ _ _ _ _ => s.op e row m o
  | .index _ _ _ => i.op e row m o
  | .makeChan _ _ => k.op e row m o
  | _ => none, fun b hb e row m o g h => by
    simp only at h
    split at h
    · exact c.ok b hb e row m o g h
    · exact n.ok b hb e row m o g h
    · exact s.ok b hb e row m o g h
    · exact i.ok b hb e row m o g h
    · exact k.ok b hb e row m o g h
    · cases h⟩
noncomputable def XB (c : Xop Tryz.prog (LayOk [])) : Xop Tryz.prog (LayOk []) := Xop.selB c (Xop.nilE _ _) (Xop.cutZ _ _) (Xop.idx _ _) (Xop.chan _ _)
noncomputable def X0 : Xop Tryz.prog (LayOk []) := XB (Xop.atms AL)
def sndC : Nat → Code → Code
  | 0, c => c
  | k + 1, .seq _ y => sndC k y
  | _ + 1, c => c
/-- The first parts of a row of code. -/
def preC : Nat → Code → Code
  | 0, _ => .skip
  | k + 1, .seq x y => .seq x (preC k y)
  | _ + 1, _ => .skip
theorem sndC_add : ∀ (b a : Nat) (c : Code), sndC a (sndC b c) = sndC (b + a) c
  | 0, a, c => by rw [Nat.zero_add]; rfl
  | b + 1, a, c => by
    rw [show b + 1 + a = b + a + 1 by omega]
    cases c with
    | seq x y => exact sndC_add b a y
    | _ => cases a <;> rfl
noncomputable abbrev MB (X : Xop Tryz.prog (LayOk [])) := mchS hmT hNT GD X 39
noncomputable abbrev exBd (X : Xop Tryz.prog (LayOk [])) (n : Nat) (c : Code) (s : Cst) := exF Tryz.prog (opRa GD X) (opRd GD X (MB X)) (MB X).rc n 3 c s
/-- What a function's code comes to from a state on. -/
noncomputable def endBd (X : Xop Tryz.prog (LayOk [])) (n : Nat) (fn : Func) (c : Code) (s : Cst) : Option (Bool × SV) := match exBd X n c s with
  | some (e, s') => match leaveC Tryz.prog (opRa GD X) (opRd GD X (MB X)) (MB X).rc fn e s' with
    | some r => some (r.pan, r.s)
    | none => none
  | none => none
section
variable {P : Program} {op opD : Opf} {rc : Rc} {n : Nat} {jump : Code → Cst → Option (Ed × Cst)}
theorem exC_on : ∀ (k : Nat) (c : Code) (s s' : Cst), exC P op opD rc n jump (preC k c) s = some (.n, s') → exC P op opD rc n jump c s = exC P op opD rc n jump (sndC k c) s'
  | 0, c, s, s', h => by
    rw [preC, exC] at h
    cases h
    rfl
  | k + 1, c, s, s', h => by
    cases c with
    | seq x y =>
      have h : exC P op opD rc n jump (.seq x (preC k y)) s = some (.n, s') := h
      rw [exC] at h
      split at h
      · rename_i s1 h1
        exact (exC_seq h1 rfl).trans (exC_on k y s1 s' h)
      · rename_i hne
        exact absurd h (hne s')
    | _ =>
      have h : exC P op opD rc n jump .skip s = some (.n, s') := h
      rw [exC] at h
      cases h
      rfl
end
theorem endBd_on {X : Xop Tryz.prog (LayOk [])} {n k : Nat} {fn : Func} {c : Code} {s s' : Cst} {v : Option (Bool × SV)} (h : exBd X n (preC k c) s = some (.n, s')) (h2 : endBd X n fn (sndC k c) s' = v) : endBd X n fn c s = v := by
  have e : exBd X n c s = exBd X n (sndC k c) s' := exC_on k c s s' h
  unfold endBd at h2 ⊢
  rw [e]
  exact h2
def be : Env := ⟨fun _ => 0, fun _ => undef, fun _ => No⟩
/-- What a call without arguments comes to. -/
theorem calls_end {X : Xop Tryz.prog (LayOk [])} {f : FuncId} {fn : Func} {c : Code} {v : Value} (hf : Tryz.prog.funcs[f]? = some fn) (hb : fn.body = some c) (h : endBd X fn.ntmps fn c ⟨[], [], []⟩ = some (false, .v v)) (w : World) : Calls Tryz.prog f #[] w fun e w' => e = .returned v ∧ Cg No w w' := by
  unfold endBd at h
  split at h
  · rename_i e s' hx
    split at h
    · rename_i r hl
      have hp : r.pan = false := congrArg Prod.fst (Option.some.inj h)
      have hv : r.s = .v v := congrArg Prod.snd (Option.some.inj h)
      have hG : LayOk [] ⟨w, No⟩ := fun q hq => by cases hq
      have hq0 : Hq ⟨w, No⟩ fn.ntmps be ⟨[], [], []⟩ ⟨(SV.dens be []).toArray ++ Array.replicate (fn.ntmps - (SV.dens be []).toArray.size) undef, []⟩ w :=
        ⟨⟨by simp [SV.dens], rfl, fun t sv h => (by cases h), fun i r h => (by simp [Cst.st] at h), fun i r k h => (by simp [Cst.st] at h), fun i j r r' k h => (by simp [Cst.st] at h), Cg.refl _ _, fun t sv h => (by cases h), fun i r h => (by simp [Cst.st] at h), fun i h => absurd h (Nat.not_lt_zero i)⟩, rfl, fun d hd => (by cases hd)⟩
      have hwp := rest_ok GD X (MB X) hmT hG hx hq0
      have := callC_wp (P := Tryz.prog) (b := ⟨w, No⟩) (rc := (MB X).rc) (args := []) (mem := []) (β := be) (w := w) hNT (opRa_ok GD X hG) (opRd_ok GD X (MB X) hG) hmT ((MB X).ok _ hG) hf hb hl hwp
      refine this.mono fun e w' he => ?_
      obtain ⟨β', h1, _, _, _, rfl⟩ := he
      refine ⟨?_, h1.cg⟩
      unfold endC
      rw [cutC_pan, cutC_s, hp, hv]
      rfl
    · cases h
  · cases h
end Go.Proofs.YtcpbbgkeigbndaaGreat
