/- A reckoner of calls, part 27: runs, so deep, with all operations. Proved over any program. No condition of its own. -/
import Derived.Test.YtcpbbgkeigbndaaGreatGr12
import Derived.DeepKeys
import Derived.Test.YtcpbbgkeigbndaaGreatGr01
import Derived.Laws.LoneSync
import Derived.LaidEql
namespace Go.Proofs.YtcpbbgkeigbndaaGreat
open Go Go.RowKit Go.Lib Go.Sort
namespace Ax
theorem orE_cases {x y : Option Eff} {g : Eff} (h : orE x y = some g) : x = some g ∨ y = some g := by
  cases x with
  | some g' => exact .inl h
  | none => exact .inr h
section
variable {P : Program} {b : Base} {β : Env} {W : World} {a : Act} {o : Oper} {e : Operand → Option SV} {row : Nat → Option Row} {m : Nat} {g : Eff}
theorem body_ok {c : Call} (he : Agree o a e β) (h : opBody P e o c = some g) (hs : See b β W row g.see) : Runs P o a W (EPost b β W row m g) := by
  unfold opBody at h
  split at h
  · split at h
    · split at h
      · rename_i g' ob hr
        cases h
        exact pureRes_ok (b := b) (h := none) he hr (fun p hp => by rw [pureRes_none hr] at hp; cases hp) hs.cg
      · cases h
    · cases h
  · cases h
theorem newCall_ok {c : Call} (ho : o.op = .call c) (he : Agree o a e β) (h : newCall P e row m o c = some g) (hs : See b β W row g.see) : Runs P o a W (EPost b β W row m g) := by
  unfold newCall at h
  split at h
  · rename_i t x y ha
    have hc := appArgs_eq ha
    split at h
    · rename_i sx hx
      split at h
      · rename_i sy hy
        exact appS_ok ho hc (he x (by subst hc; simp [ho, Op.operands, Call.operands]) sx hx) (he y (by subst hc; simp [ho, Op.operands, Call.operands]) sy hy) h hs
      · cases h
    · cases h
  · split at h
    · rename_i t x hl
      have hc := lenArg_eq hl
      split at h
      · rename_i j hx
        exact mapLen_ok ho hc (he x (by subst hc; simp [ho, Op.operands, Call.operands]) _ hx) h hs
      · cases h
    · rcases orE_cases h with h | h
      · exact body_ok he h hs
      · rcases orE_cases h with h | h
        · exact esc_ok ho he h
        · rcases orE_cases h with h | h
          · exact noz_ok ho he h
          · rcases orE_cases h with h | h
            · exact appStr_ok ho he h hs
            · exact ustr_ok ho he h hs
theorem fst_ok (he : Agree o a e β) (h : opFst P e row o = some g) (hs : See b β W row g.see) : Runs P o a W (EPost b β W row m g) := by
  unfold opFst at h
  split at h
  · rename_i x xt u ok ho
    split at h
    · rename_i t v hx
      exact assert_ok ho (he x (by simp [ho, Op.operands]) _ hx) h
    · rename_i t v hx
      exact assert_ok (y := .v v) ho (he x (by simp [ho, Op.operands]) _ hx) h
    · cases h
  · rename_i c ho
    split at h
    · rename_i t x y ha
      have hc := appArgs_eq ha
      split at h
      · rename_i sx hx
        split at h
        · rename_i sy hy
          exact app0_ok ho hc (he x (by subst hc; simp [ho, Op.operands, Call.operands]) sx hx) (he y (by subst hc; simp [ho, Op.operands, Call.operands]) sy hy) h hs
        · cases h
      · cases h
    · cases h
  · cases h
theorem new_ok (he : Agree o a e β) (h : opNew P e row m o = some g) (hs : See b β W row g.see) : Runs P o a W (EPost b β W row m g) := by
  have at_ : ∀ {x sv}, x ∈ o.op.operands → e x = some sv → a.eval x = sv.den β := fun hx hsv => he _ hx _ hsv
  unfold opNew at h
  split at h
  · rename_i t l c ho
    exact make0_ok ho he h
  · rename_i t r ho
    split at h
    · exact makeMap_ok ho rfl h
    · cases h
  · rename_i t x i ok ho
    split at h
    · rename_i j hx
      have hx := at_ (by simp [ho, Op.operands]) hx
      split at h
      · rename_i k hi
        rcases orE_cases h with h | h
        · exact lookup_ok ho hx (at_ (sv := .v k) (by simp [ho, Op.operands]) hi) h hs
        · exact lookupU_ok ho hx (at_ (sv := .v k) (by simp [ho, Op.operands]) hi) h hs
      · rename_i i' off hi
        exact lookupP_ok ho hx (at_ (by simp [ho, Op.operands]) hi) h hs
      · cases h
    · cases h
  · rename_i t x i y ho
    split at h
    · rename_i j hx
      have hx := at_ (by simp [ho, Op.operands]) hx
      split at h
      · rename_i v hy
        have hy := at_ (by simp [ho, Op.operands]) hy
        split at h
        · rename_i k hi
          exact mapUpdate_ok (.inl ho) hx (at_ (sv := .v k) (by simp [ho, Op.operands]) hi) hy h hs
        · rename_i i' off hi
          exact updP_ok (.inl ho) hx (at_ (by simp [ho, Op.operands]) hi) hy h hs
        · cases h
      · cases h
    · cases h
  · rename_i t x i y ho
    split at h
    · rename_i j hx
      have hx := at_ (by simp [ho, Op.operands]) hx
      split at h
      · rename_i v hy
        have hy := at_ (by simp [ho, Op.operands]) hy
        split at h
        · rename_i k hi
          exact mapUpdate_ok (.inr ho) hx (at_ (sv := .v k) (by simp [ho, Op.operands]) hi) hy h hs
        · rename_i i' off hi
          exact updP_ok (.inr ho) hx (at_ (by simp [ho, Op.operands]) hi) hy h hs
        · cases h
      · cases h
    · cases h
  · rename_i t x ho
    split at h
    · rename_i s hx
      exact rangeS_ok ho (at_ (sv := .v (.string s)) (by simp [ho, Op.operands]) hx) h
    · rename_i j hx
      exact rangeM_ok ho (at_ (by simp [ho, Op.operands]) hx) h hs
    · cases h
  · rename_i x s ho
    split at h
    · rename_i j hx
      have hx := at_ (by simp [ho, Op.operands]) hx
      split at h
      · exact nextS_ok ho hx h hs
      · exact nextM_ok ho hx h hs
    · cases h
  · rename_i x ho
    split at h
    · rename_i j hx
      exact entry_ok ho (at_ (by simp [ho, Op.operands]) hx) h hs
    · cases h
  · rename_i s d x ho
    split at h
    · rename_i sv hx
      exact conv_ok ho (at_ (by simp [ho, Op.operands]) hx) h hs
    · cases h
  · rename_i x xt u ok ho
    split at h
    · rename_i t v hx
      exact assert_ok ho (at_ (sv := .ifc t v) (by simp [ho, Op.operands]) hx) h
    · cases h
  · rename_i op t x y yt ho
    split at h
    · rename_i sx hx
      split at h
      · rename_i sy hy
        rcases orE_cases h with h | h
        · exact ptrEqOp_ok ho (at_ (by simp [ho, Op.operands]) hx) (at_ (by simp [ho, Op.operands]) hy) h hs
        · exact ifEqOp_ok ho (at_ (by simp [ho, Op.operands]) hx) (at_ (by simp [ho, Op.operands]) hy) h
      · cases h
    · cases h
  · rename_i t n parts ho
    exact build0_ok ho h
  · rename_i arr x ho
    split at h
    · rename_i sv hx
      exact arrC_ok ho (at_ (by simp [ho, Op.operands]) hx) h hs
    · cases h
  · rename_i t x lo hi mx ho
    unfold newSlice at h
    split at h
    · split at h
      · rename_i sv hx
        rcases orE_cases h with h | h
        · exact cutW_ok ho he (at_ (by simp [ho, Op.operands]) hx) h hs
        · rcases orE_cases h with h | h
          · exact cut0_ok ho he (at_ (by simp [ho, Op.operands]) hx) h hs
          · exact wide_ok ho he (at_ (by simp [ho, Op.operands]) hx) h hs
      · cases h
    · cases h
  · rename_i t x ix ho
    split at h
    · rename_i sv hx
      split at h
      · rename_i iv hi
        exact indexE_ok ho (at_ (by simp [ho, Op.operands]) hx) (at_ (by simp [ho, Op.operands]) hi) h hs
      · cases h
    · cases h
  · rename_i t x ho
    split at h
    · rename_i i off hx
      exact loadS_ok ho (at_ (by simp [ho, Op.operands]) hx) h hs
    · cases h
  · rename_i t x y ho
    split at h
    · rename_i i off hx
      split at h
      · rename_i sv hy
        exact storeS_ok ho (at_ (by simp [ho, Op.operands]) hx) (at_ (by simp [ho, Op.operands]) hy) h hs
      · cases h
    · cases h
  · rename_i c ho
    exact newCall_ok ho he h hs
  · cases h
end
/-- All operations. -/
def opX (P : Program) (T : Tab P) (b : Base) : Opf := fun e row m o => orE (opFst P e row o) (orE (opC P T b e row m o) (opNew P e row m o))
theorem opX_holds {P : Program} {T : Tab P} {b : Base} : OpOk P b (opX P T b) := fun e row m o g h a β W hag hs => by
  rcases orE_cases h with h | h
  · exact fst_ok hag h hs
  · rcases orE_cases h with h | h
    · exact opC_holds _ _ _ _ _ h a β W hag hs
    · exact new_ok hag h hs
theorem opX_base {P : Program} {T : Tab P} (hT : T.Free) (b b' : Base) : opX P T b = opX P T b' := by
  unfold opX
  rw [opC_base hT b b']
/-- Runs, so deep. -/
structure Mch (P : Program) where
  rc : Rc
  ok : ∀ b, RcOk P b rc
def Mch.zero (P : Program) : Mch P := ⟨fun _ _ _ => none, fun _ _ _ _ _ h => nomatch h⟩
def Mch.next {P : Program} (hm : P.follows .mixedOrders = true) (hN : noNum P = true) (T0 : Tab P) (h0 : T0.Free2) (M : Mch P) : Mch P where
  rc := callC P (opX P T0 bz) (opX P (autoT T0 M.rc M.ok) bz) M.rc
  ok := fun b => by
    rw [opX_base h0.free bz b, opX_base (autoT_free h0).free bz b]
    exact callC_ok hN opX_holds opX_holds hm (M.ok b)
def mch {P : Program} (hm : P.follows .mixedOrders = true) (hN : noNum P = true) (T0 : Tab P) (h0 : T0.Free2) : Nat → Mch P
  | 0 => Mch.zero P
  | d + 1 => (mch hm hN T0 h0 d).next hm hN T0 h0
/-- What a call without arguments comes to. -/
def runZ {P : Program} (hm : P.follows .mixedOrders = true) (hN : noNum P = true) (T0 : Tab P) (h0 : T0.Free2) (d : Nat) (f : FuncId) (mem : List Row) : Option SV := match (mch hm hN T0 h0 d).rc f [] mem with
  | some r => match r.pan with
    | false => some r.s
    | true => none
  | none => none
/-- **A function without arguments, by reckoning.** -/
theorem calls_run {P : Program} {hm : P.follows .mixedOrders = true} {hN : noNum P = true} {T0 : Tab P} {h0 : T0.Free2} {d : Nat} {f : FuncId} {w : World} {v : Value} (h : runZ hm hN T0 h0 d f [] = some (.v v)) : Calls P f #[] w fun e w' => e = .returned v ∧ Cg No w w' := by
  unfold runZ at h
  split at h
  · rename_i r hr
    split at h
    · rename_i hp
      have := ((mch hm hN T0 h0 d).ok ⟨w, No⟩ f [] [] r hr).2 ⟨fun _ => 0, fun _ => undef, fun _ => No⟩ w ⟨fun i r hi => by simp at hi, fun i r k hi => by simp at hi, fun i j r r' k hi => by simp at hi, Cg.refl _ _⟩ (fun i r hi => by simp at hi) (fun s hs => by cases hs)
      refine this.mono fun e w' he => ?_
      obtain ⟨β', h1, _, _, _, rfl⟩ := he
      have hv : r.s = .v v := Option.some.inj h
      refine ⟨?_, h1.cg⟩
      unfold endC
      rw [hp, hv]
      rfl
    · cases h
  · cases h
end Ax
end Go.Proofs.YtcpbbgkeigbndaaGreat

/- A reckoner of calls, part 28: runs where package variables are laid, and calls that are known ahead. Proved over any program. No condition of its own. -/
namespace Go.Proofs.YtcpbbgkeigbndaaGreat
open Go Go.RowKit Go.Lib Go.Sort
namespace Ax
/-- What is asked of a door, and goes on to hold of the doors behind it. -/
structure Grd where
  G : Base → Prop
  cl : ∀ b, G b → ∀ (W : World) (S' : Nat → Prop), Cg b.S b.w W → (∀ k, S' k → b.S k ∨ b.w.heap.size ≤ k) → G ⟨W, S'⟩
  /-- Functions that turn what they are handed. -/
  rw : List FuncId
/-- Operations that hold on such doors. -/
structure Xop (P : Program) (G : Base → Prop) where
  op : Opf
  ok : ∀ b, G b → OpOk P b op
section
variable {P : Program} {G : Base → Prop}
def Xop.nil : Xop P G := ⟨fun _ _ _ _ => none, fun _ _ _ _ _ _ _ h => nomatch h⟩
theorem orOp_ok {b : Base} {x y : Opf} (hx : OpOk P b x) (hy : OpOk P b y) : OpOk P b (fun e row m o => orE (x e row m o) (y e row m o)) := fun e row m o g h => by
  rcases orE_cases h with h | h
  · exact hx e row m o g h
  · exact hy e row m o g h
def Xop.or (x y : Xop P G) : Xop P G := ⟨fun e row m o => orE (x.op e row m o) (y.op e row m o), fun b hb => orOp_ok (x.ok b hb) (y.ok b hb)⟩
/-- Operations of some kinds alone. -/
def Xop.sel (c l r : Xop P G) : Xop P G := ⟨fun e row m o => match o.op with
  | .call _ => c.op e row m o
  | .load _ _ => l.op e row m o
  | .binOp _ _ _ _ _ => r.op e row m o
  | _ => none, fun b hb e row m o g h => by
    simp only at h
    split at h
    · exact c.ok b hb e row m o g h
    · exact l.ok b hb e row m o g h
    · exact r.ok b hb e row m o g h
    · cases h⟩
/-- A call in a region that draws. -/
def drawX (W : List FuncId) (rc : Rc) (row : Nat → Option Row) (m : Nat) (f : FuncId) (args : List SV) : OR := match memN f W with
  | true => drawRW rc row m f args
  | false => orElseR (drawRO rc row m f args) (drawRW rc row m f args)
theorem drawX_cases {W : List FuncId} {rc : Rc} {row : Nat → Option Row} {m : Nat} {f : FuncId} {args : List SV} {g : Eff × Option Prop} (h : drawX W rc row m f args = some g) : drawRO rc row m f args = some g ∨ drawRW rc row m f args = some g := by
  unfold drawX at h
  split at h
  · exact .inr h
  · exact orElse_cases h
/-- Calls in regions that draw. -/
def opDC (P : Program) (Ws : List FuncId) (rc : Rc) : Opf := fun e row m o => match o.op with
  | .call c => match callOf P e c with
    | some q => match drawX Ws rc row m q.1 q.2 with
      | some (g, none) => some g
      | _ => none
    | none => none
  | _ => none
theorem opDC_ok {Ws : List FuncId} {rc : Rc} {b : Base} (hrc : ∀ (W : World) (S' : Nat → Prop), Cg b.S b.w W → (∀ k, S' k → b.S k ∨ b.w.heap.size ≤ k) → RcOk P ⟨W, S'⟩ rc) : OpOk P b (opDC P Ws rc) := fun e row m o g h a β W hag hs => by
  unfold opDC at h
  split at h
  · rename_i c ho
    split at h
    · rename_i q hq
      split at h
      · rename_i g' hg
        cases h
        have : okFn P q.1 = true ∧ Calls P q.1 (SV.dens β q.2).toArray W fun e W' => ∃ v, e = .returned v ∧ EPost b β W row m g v W' := by
          rcases drawX_cases hg with h | h
          · exact drawRO_ok (fun S' hS => hrc W S' hs.cg hS) h hs
          · exact drawRW_ok (fun S' hS => hrc W S' hs.cg hS) h hs
        exact .inr (.inr ⟨q.1, _, callOf_ok ho hq hag this.1, this.2⟩)
      · cases h
    · cases h
  · cases h
/-- A call that is known ahead. -/
def callX (P : Program) (f : FuncId) (x : List SV → (Nat → Option Row) → Nat → Option Eff) : Opf := fun e row m o => match o.op with
  | .call c => match callOf P e c with
    | some q => match Nat.beq q.1 f with
      | true => x q.2 row m
      | false => none
    | none => none
  | _ => none
def CallOk (P : Program) (G : Base → Prop) (f : FuncId) (x : List SV → (Nat → Option Row) → Nat → Option Eff) : Prop := ∀ b, G b → ∀ args row m g, x args row m = some g → ∀ β W, See b β W row g.see → Calls P f (SV.dens β args).toArray W fun e W' => ∃ v, e = .returned v ∧ EPost b β W row m g v W'
def Xop.call (f : FuncId) (x : List SV → (Nat → Option Row) → Nat → Option Eff) (hf : okFn P f = true) (hx : CallOk P G f x) : Xop P G := ⟨callX P f x, fun b hb e row m o g h a β W hag hs => by
  unfold callX at h
  split at h
  · rename_i c ho
    split at h
    · rename_i q hq
      split at h
      · rename_i hb2
        have hb2 := Nat.eq_of_beq_eq_true hb2
        have hc := hx b hb q.2 row m g h β W hs
        exact .inr (.inr ⟨q.1, _, callOf_ok ho hq hag (by rw [hb2]; exact hf), by rw [hb2]; exact hc⟩)
      · cases h
    · cases h
  · cases h⟩
end
/-- Runs, so deep, on such doors. -/
structure MchG (P : Program) (G : Base → Prop) where
  rc : Rc
  ok : ∀ b, G b → RcOk P b rc
def MchG.zero (P : Program) (G : Base → Prop) : MchG P G := ⟨fun _ _ _ => none, fun _ _ _ _ _ _ h => nomatch h⟩
def MchG.next {P : Program} (hm : P.follows .mixedOrders = true) (hN : noNum P = true) (D : Grd) (X : Xop P D.G) (M : MchG P D.G) : MchG P D.G where
  rc := callC P (fun e row m o => orE (X.op e row m o) (opX P (Tab.nil P) bz e row m o)) (fun e row m o => orE (X.op e row m o) (orE (opX P (Tab.nil P) bz e row m o) (opDC P D.rw M.rc e row m o))) M.rc
  ok := fun b hb => by
    rw [opX_base nil_free.free bz b]
    exact callC_ok hN (orOp_ok (X.ok b hb) opX_holds) (orOp_ok (X.ok b hb) (orOp_ok opX_holds (opDC_ok fun W S' hc hS => M.ok _ (D.cl b hb W S' hc hS)))) hm (M.ok b hb)
def mchG {P : Program} (hm : P.follows .mixedOrders = true) (hN : noNum P = true) (D : Grd) (X : Xop P D.G) : Nat → MchG P D.G
  | 0 => MchG.zero P D.G
  | d + 1 => (mchG hm hN D X d).next hm hN D X
/-- What a call on plain values comes to. -/
def runG {P : Program} (hm : P.follows .mixedOrders = true) (hN : noNum P = true) (D : Grd) (X : Xop P D.G) (d : Nat) (f : FuncId) (args : List Value) : Option SV := match (mchG hm hN D X d).rc f (args.map .v) [] with
  | some r => match r.pan with
    | false => some r.s
    | true => none
  | none => none
/-- **A call on plain values, by reckoning.** -/
theorem calls_runG {P : Program} {hm : P.follows .mixedOrders = true} {hN : noNum P = true} {D : Grd} {X : Xop P D.G} {d : Nat} {f : FuncId} {args : List Value} {w : World} {v : Value} (hw : D.G ⟨w, No⟩) (h : runG hm hN D X d f args = some (.v v)) : Calls P f args.toArray w fun e w' => e = .returned v ∧ Cg No w w' := by
  unfold runG at h
  split at h
  · rename_i r hr
    split at h
    · rename_i hp
      have := ((mchG hm hN D X d).ok ⟨w, No⟩ hw f _ [] r hr).2 ⟨fun _ => 0, fun _ => undef, fun _ => No⟩ w ⟨fun i r hi => by simp at hi, fun i r k hi => by simp at hi, fun i j r r' k hi => by simp at hi, Cg.refl _ _⟩ (fun i r hi => by simp at hi) (fun s hs j hj => by
        obtain ⟨x, _, rfl⟩ := List.mem_map.1 hs
        cases hj)
      rw [dens_v] at this
      refine this.mono fun e w' he => ?_
      obtain ⟨β', h1, _, _, _, rfl⟩ := he
      have hv : r.s = .v v := Option.some.inj h
      refine ⟨?_, h1.cg⟩
      unfold endC
      rw [hp, hv]
      rfl
    · cases h
  · cases h
/-- Package variables that are laid: a block, its cells. -/
abbrev Lay := List (Nat × List Value)
def LayOk (L : Lay) (b : Base) : Prop := ∀ q ∈ L, q.1 < b.w.heap.size ∧ ¬ b.S q.1 ∧ ∀ (j : Nat) (u : Value), q.2[j]? = some u → b.w.cell? ⟨q.1, j, none⟩ = some u
def Lay.grdW (L : Lay) (Ws : List FuncId) : Grd := ⟨LayOk L, fun b hb W S' hc hS q hq => by
  obtain ⟨h1, h2, h3⟩ := hb q hq
  refine ⟨Nat.lt_of_lt_of_le h1 hc.size, fun hk => ?_, fun j u hu => (hc.cell (p := ⟨q.1, j, none⟩) h1 h2).trans (h3 j u hu)⟩
  rcases hS _ hk with h | h
  · exact h2 h
  · omega, Ws⟩
def Lay.grd (L : Lay) : Grd := Lay.grdW L []
def findL (g : Nat) : Lay → Option (List Value)
  | [] => none
  | q :: r => match Nat.beq q.1 g with
    | true => some q.2
    | false => findL g r
theorem findL_ok {g : Nat} {x : List Value} : ∀ {L : Lay}, findL g L = some x → (g, x) ∈ L
  | q :: r, h => by
    unfold findL at h
    split at h
    · rename_i hb
      cases h
      rw [← Nat.eq_of_beq_eq_true hb]
      exact List.mem_cons_self ..
    · exact List.mem_cons_of_mem _ (findL_ok h)
/-- A load out of a package variable. -/
def opLdL (P : Program) (L : Lay) : Opf := fun e _ _ o => match o.op with
  | .load t x => match e x with
    | some (.v (.pointer (some ⟨g, off, none⟩))) => match findL g L with
      | some l => match shapeOf P t with
        | some (rw, size) => match readVs rw size off l with
          | some v => some (.pure [] (.v v))
          | none => none
        | none => none
      | none => none
    | _ => none
  | _ => none
def Lay.op (P : Program) (L : Lay) : Xop P (LayOk L) := ⟨opLdL P L, fun b hb e row m o g h a β W hag hs => by
  unfold opLdL at h
  split at h
  · rename_i t x ho
    split at h
    · rename_i g' off hx
      split at h
      · rename_i l hq
        split at h
        · rename_i rw' size hsh
          split at h
          · rename_i v hv
            cases h
            obtain ⟨h1, h2, h3⟩ := hb _ (findL_ok hq)
            refine runs_pure (exec_load (v := v) ho (hag x (by simp [ho, Op.operands]) _ hx) hsh ?_)
            have := readVs_ok (W := W) (g := g') (o' := 0) hv fun j u hu => by rw [Nat.zero_add]; exact (hs.cg.cell (p := ⟨g', j, none⟩) h1 h2).trans (h3 j u hu)
            rw [Nat.zero_add] at this
            exact this
          · cases h
        · cases h
      · cases h
    · cases h
  · cases h⟩
/-- Equal, of plain values. -/
def eqVal : Nat → Value → Value → Bool
  | _, .bool a, .bool b => a == b
  | _, .int q a, .int r b => decide (q = r) && decide (a = b)
  | _, .string a, .string b => decide (a = b)
  | _, .nilIface, .nilIface => true
  | _, .pointer none, .pointer none => true
  | d + 1, .agg a, .agg b => eqL d a.toList b.toList
  | _, _, _ => false
where
  eqL (d : Nat) : List Value → List Value → Bool
    | [], [] => true
    | x :: l, y :: r => match eqVal d x y with
      | true => eqL d l r
      | false => false
    | _, _ => false
def eqArgs : List SV → List Value → Bool
  | [], [] => true
  | x :: l, v :: r => match x with
    | .v u => match eqVal 4 u v with
      | true => eqArgs l r
      | false => false
    | .ag c => match allV c with
      | some c => match eqVal 4 (.agg c.toArray) v with
        | true => eqArgs l r
        | false => false
      | none => false
    | _ => false
  | _, _ => false
end Ax
end Go.Proofs.YtcpbbgkeigbndaaGreat

/- '==' of structs and arrays of plain cells: whether all cells are the same. Over any program. -/
namespace Go.Proofs.YtcpbbgkeigbndaaGreat
open Go Go.RowKit Go.Lib Go.Sort

/-- A cell's kind. -/
inductive Kq where
  | b
  | i (q : IntKind)
  | s
def flatF (P : Program) (f : TypeId → Option (List Kq)) : Nat → List Field → Option (List Kq)
  | _, [] => some []
  | off, x :: fs => match Nat.beq x.offset off && x.name != "_" with
    | true => match f x.type with
      | some ks => match Nat.beq ks.length (P.cellsOf x.type) with
        | true => match flatF P f (off + ks.length) fs with
          | some r => some (ks ++ r)
          | none => none
        | false => none
      | none => none
    | false => none
def repK : Nat → List Kq → List Kq
  | 0, _ => []
  | n + 1, ks => ks ++ repK n ks
/-- The kinds of a type's cells. -/
def flatT (P : Program) : Nat → TypeId → Option (List Kq)
  | 0, _ => none
  | d + 1, t => match P.underlying t with
    | some .bool => some [.b]
    | some (.int q) => some [.i q]
    | some .string => some [.s]
    | some (.array n e) => match flatT P d e with
      | some ks => match Nat.beq ks.length (P.cellsOf e) && Nat.beq (n * ks.length) (P.cellsOf t) with
        | true => some (repK n ks)
        | false => none
      | none => none
    | some (.struct fs) => match flatF P (flatT P d) 0 fs.toList with
      | some ks => match Nat.beq ks.length (P.cellsOf t) with
        | true => some ks
        | false => none
      | none => none
    | _ => none
def okC : Kq → Value → Prop
  | .b, .bool _ => True
  | .i q, .int q' n => q' = q ∧ (Lit.int q n).wf = true
  | .s, .string s => s.size ≤ maxLen
  | _, _ => False
def litC : Value → Lit
  | .bool b => .bool b
  | .int q n => .int q n
  | .string s => .string s.data.toList
  | _ => .bool false
def AllOk : List Kq → List Value → Prop
  | [], [] => True
  | k :: ks, v :: vs => okC k v ∧ AllOk ks vs
  | _, _ => False
theorem AllOk.len : ∀ {ks : List Kq} {vs : List Value}, AllOk ks vs → vs.length = ks.length
  | [], [], _ => rfl
  | _ :: _, _ :: _, h => by simp only [List.length_cons, h.2.len]
  | [], _ :: _, h => h.elim
  | _ :: _, [], h => h.elim
theorem AllOk.split : ∀ {k1 k2 : List Kq} {vs : List Value}, AllOk (k1 ++ k2) vs → AllOk k1 (vs.take k1.length) ∧ AllOk k2 (vs.drop k1.length)
  | [], _, _, h => ⟨by simp [AllOk], h⟩
  | _ :: _, _, _ :: _, h => by
    have := AllOk.split (k1 := _) (k2 := _) h.2
    exact ⟨⟨h.1, this.1⟩, this.2⟩
  | _ :: _, _, [], h => h.elim
theorem AllOk.app : ∀ {k1 k2 : List Kq} {v1 v2 : List Value}, AllOk k1 v1 → AllOk k2 v2 → AllOk (k1 ++ k2) (v1 ++ v2)
  | [], _, [], _, _, h => h
  | _ :: _, _, _ :: _, _, h, h2 => ⟨h.1, h.2.app h2⟩
  | [], _, _ :: _, _, h, _ => h.elim
  | _ :: _, _, [], _, h, _ => h.elim
theorem okC_inj {k : Kq} {a b : Value} (ha : okC k a) (hb : okC k b) (h : litC a = litC b) : a = b := by
  cases k with
  | b => cases a <;> first | exact ha.elim | (cases b <;> first | exact hb.elim | (injection h with h; subst h; rfl))
  | i q => cases a <;> first | exact ha.elim | (cases b <;> first | exact hb.elim | (injection h with h1 h2; subst h1 h2; rfl))
  | s =>
    cases a <;> first | exact ha.elim | skip
    cases b <;> first | exact hb.elim | skip
    rename_i s t
    injection h with h
    have : s.data = t.data := Array.toList_inj.1 h
    cases s; cases t
    simp only at this
    rw [this]
theorem AllOk.inj : ∀ {ks : List Kq} {al bs : List Value}, AllOk ks al → AllOk ks bs → al.map litC = bs.map litC → al = bs
  | [], [], [], _, _, _ => rfl
  | _ :: _, _ :: _, _ :: _, ha, hb, h => by
    rw [List.map_cons, List.map_cons] at h
    injection h with h1 h2
    rw [okC_inj ha.1 hb.1 h1, ha.2.inj hb.2 h2]
  | [], _ :: _, _, ha, _, _ => ha.elim
  | _ :: _, [], _, ha, _, _ => ha.elim
  | [], [], _ :: _, _, hb, _ => hb.elim
  | _ :: _, _ :: _, [], _, hb, _ => hb.elim
theorem repK_length (ks : List Kq) : ∀ n, (repK n ks).length = n * ks.length
  | 0 => by simp [repK]
  | n + 1 => by rw [repK, List.length_append, repK_length ks n, Nat.succ_mul]; omega
section
variable {P : Program}
theorem fields_flat {d : Nat} (ih : ∀ t ks cs, flatT P d t = some ks → AllOk ks cs → P.keyLits d t cs = some (cs.map litC)) (cs : List Value) : ∀ (fs : List Field) (off : Nat) (ks : List Kq), flatF P (flatT P d) off fs = some ks → AllOk ks (cs.drop off) →
    (∃ l, fs.mapM (fun f => P.keyLits d f.type ((cs.drop f.offset).take (P.cellsOf f.type))) = some l ∧ l.flatten = (cs.drop off).map litC) ∧ fs.all (fun f => f.name != "_") = true
  | [], off, ks, h, ha => by
    simp only [flatF, Option.some.injEq] at h
    subst h
    refine ⟨⟨[], rfl, ?_⟩, rfl⟩
    cases hd : cs.drop off with
    | nil => rfl
    | cons a l => rw [hd] at ha; exact ha.elim
  | x :: fs, off, ks, h, ha => by
    unfold flatF at h
    split at h
    · rename_i hb
      rw [Bool.and_eq_true] at hb
      have ho : x.offset = off := Nat.eq_of_beq_eq_true hb.1
      split at h
      · rename_i kx hx
        split at h
        · rename_i hl
          have hl : kx.length = P.cellsOf x.type := Nat.eq_of_beq_eq_true hl
          split at h
          · rename_i r hr
            injection h with h
            subst h
            obtain ⟨h1, h2⟩ := ha.split
            rw [List.drop_drop] at h2
            obtain ⟨⟨l, e1, e2⟩, e3⟩ := fields_flat ih cs fs (off + kx.length) r hr h2
            have hk := ih _ _ _ hx h1
            refine ⟨⟨((cs.drop off).take kx.length).map litC :: l, ?_, ?_⟩, ?_⟩
            · rw [List.mapM_cons, ho, ← hl, hk]
              show (do let al ← fs.mapM (fun (f : Field) => P.keyLits d f.type ((cs.drop f.offset).take (P.cellsOf f.type))); pure (((cs.drop off).take kx.length).map litC :: al)) = _
              rw [e1]; rfl
            · rw [List.flatten_cons, e2, ← List.drop_drop, ← List.map_append, List.take_append_drop]
            · rw [List.all_cons, e3, hb.2]; rfl
          · cases h
        · cases h
      · cases h
    · cases h
theorem items_flat {d e : Nat} (ih : ∀ cs, ∀ ks, flatT P d e = some ks → AllOk ks cs → P.keyLits d e cs = some (cs.map litC)) {ke : List Kq} (he : flatT P d e = some ke) (hl : ke.length = P.cellsOf e) (cs : List Value) : ∀ (n k : Nat), AllOk (repK n ke) (cs.drop (k * P.cellsOf e)) →
    ∃ l, ((List.range' k n).mapM fun i => P.keyLits d e ((cs.drop (i * P.cellsOf e)).take (P.cellsOf e))) = some l ∧ l.flatten = (cs.drop (k * P.cellsOf e)).map litC
  | 0, k, ha => by
    refine ⟨[], rfl, ?_⟩
    cases hd : cs.drop (k * P.cellsOf e) with
    | nil => rfl
    | cons a l => rw [hd] at ha; exact ha.elim
  | n + 1, k, ha => by
    obtain ⟨h1, h2⟩ := ha.split
    rw [List.drop_drop, hl, show k * P.cellsOf e + P.cellsOf e = (k + 1) * P.cellsOf e by rw [Nat.succ_mul]] at h2
    obtain ⟨l, e1, e2⟩ := items_flat ih he hl cs n (k + 1) h2
    have hk := ih _ _ he h1
    refine ⟨((cs.drop (k * P.cellsOf e)).take ke.length).map litC :: l, ?_, ?_⟩
    · rw [List.range'_succ, List.mapM_cons, ← hl]
      rw [hl] at hk ⊢
      rw [hk]
      show (do let al ← (List.range' (k + 1) n).mapM (fun i => P.keyLits d e ((cs.drop (i * P.cellsOf e)).take (P.cellsOf e))); pure (((cs.drop (k * P.cellsOf e)).take (P.cellsOf e)).map litC :: al)) = _
      rw [e1]; rfl
    · rw [List.flatten_cons, e2, hl, show (k + 1) * P.cellsOf e = k * P.cellsOf e + P.cellsOf e by rw [Nat.succ_mul], ← List.drop_drop, ← List.map_append, List.take_append_drop]
theorem keyLits_flat : ∀ (d : Nat) (t : TypeId) (ks : List Kq) (cs : List Value), flatT P d t = some ks → AllOk ks cs → P.keyLits d t cs = some (cs.map litC)
  | 0, _, _, _, h, _ => by cases h
  | d + 1, t, ks, cs, h, ha => by
    unfold flatT at h
    split at h
    · rename_i hu
      injection h with h
      subst h
      match cs, ha with
      | [.bool b], _ => unfold Program.keyLits; rw [hu]; rfl
    · rename_i q hu
      injection h with h
      subst h
      match cs, ha with
      | [.int q' n], ha =>
        have hq : q' = q ∧ (Lit.int q n).wf = true := ha.1
        unfold Program.keyLits
        rw [hu]
        show (if q' = q ∧ (Lit.int q n).wf = true then some [Lit.int q n] else none) = _
        rw [if_pos hq, hq.1]; rfl
    · rename_i hu
      injection h with h
      subst h
      match cs, ha with
      | [.string s], ha =>
        have hs : s.size ≤ maxLen := ha.1
        unfold Program.keyLits
        rw [hu]
        show (if s.size ≤ maxLen then some [Lit.string s.data.toList] else none) = _
        rw [if_pos hs]; rfl
    · rename_i n e hu
      split at h
      · rename_i ke he
        split at h
        · rename_i hb
          injection h with h
          subst h
          rw [Bool.and_eq_true] at hb
          have hl : ke.length = P.cellsOf e := Nat.eq_of_beq_eq_true hb.1
          have ht : n * ke.length = P.cellsOf t := Nat.eq_of_beq_eq_true hb.2
          have hlen : cs.length = P.cellsOf t := by rw [ha.len, repK_length, ht]
          obtain ⟨l, e1, e2⟩ := items_flat (fun c k hk hc => keyLits_flat d e k c hk hc) he hl cs n 0 (by rw [Nat.zero_mul, List.drop_zero]; exact ha)
          rw [Nat.zero_mul, List.drop_zero] at e2
          unfold Program.keyLits
          rw [hu]
          show (if cs.length = P.cellsOf t then ((List.range n).mapM fun i => P.keyLits d e ((cs.drop (i * P.cellsOf e)).take (P.cellsOf e))).map List.flatten else none) = _
          rw [if_pos hlen, List.range_eq_range', e1, ← e2]; rfl
        · cases h
      · cases h
    · rename_i fs hu
      split at h
      · rename_i kf hf
        split at h
        · rename_i hb
          injection h with h
          subst h
          have ht : kf.length = P.cellsOf t := Nat.eq_of_beq_eq_true hb
          have hlen : cs.length = P.cellsOf t := by rw [ha.len, ht]
          obtain ⟨⟨l, e1, e2⟩, e3⟩ := fields_flat (fun t k c => keyLits_flat d t k c) cs fs.toList 0 kf hf (by rw [List.drop_zero]; exact ha)
          rw [List.drop_zero] at e2
          unfold Program.keyLits
          rw [hu]
          show (if cs.length = P.cellsOf t ∧ fs.all (·.name != "_") = true then (fs.toList.mapM fun f => P.keyLits d f.type ((cs.drop f.offset).take (P.cellsOf f.type))).map List.flatten else none) = _
          rw [if_pos ⟨hlen, by rw [← Array.all_toList]; exact e3⟩, e1, ← e2]; rfl
        · cases h
      · cases h
    · cases h
def aggT (P : Program) (t : TypeId) : Bool := match P.underlying t with
  | some (.struct _) => true
  | some (.array _ _) => true
  | _ => false
theorem flat_len {d : Nat} {t : TypeId} {ks : List Kq} (h : flatT P d t = some ks) (ha : aggT P t = true) : ks.length = P.cellsOf t := by
  cases d with
  | zero => cases h
  | succ d =>
    unfold flatT at h
    unfold aggT at ha
    split at h
    · rename_i hu; rw [hu] at ha; cases ha
    · rename_i hu; rw [hu] at ha; cases ha
    · rename_i hu; rw [hu] at ha; cases ha
    · split at h
      · split at h
        · rename_i hb
          injection h with h
          subst h
          rw [Bool.and_eq_true] at hb
          rw [repK_length]
          exact Nat.eq_of_beq_eq_true hb.2
        · cases h
      · cases h
    · split at h
      · split at h
        · rename_i hb
          injection h with h
          subst h
          exact Nat.eq_of_beq_eq_true hb
        · cases h
      · cases h
    · cases h
theorem formed_agg {t : TypeId} {cs : List Value} (ha : aggT P t = true) (hl : cs.length = P.cellsOf t) : (Value.agg cs.toArray).formed P t = true := by
  unfold aggT at ha
  unfold Value.formed
  split at ha
  · rename_i h; rw [h]; simp [hl]
  · rename_i h; rw [h]; simp [hl]
  · cases ha
theorem eqIn_agg {t : TypeId} {ks : List Kq} {al bs : List Value} (W : World) (hk : P.keyTypeAt 6 t = true) (hf : flatT P 6 t = some ks) (hg : aggT P t = true) (ha : AllOk ks al) (hb : AllOk ks bs) :
    ∃ r, (Op.equalIn 10000 t (.agg al.toArray) (.agg bs.toArray)).run P W = .ok r W ∧ (r = true ↔ al = bs) := by
  have hl := flat_len hf hg
  obtain ⟨r, h1, h2⟩ := run_equalIn_deep (P := P) 9994 6 t hk W 6 6 (.agg al.toArray) (.agg bs.toArray) (al.map litC) (bs.map litC) (formed_agg hg (by rw [ha.len, hl])) (formed_agg hg (by rw [hb.len, hl])) (keyLits_flat 6 t ks al hf ha) (keyLits_flat 6 t ks bs hf hb)
  refine ⟨r, h1, h2.trans ⟨fun h => ha.inj hb h, fun h => by rw [h]⟩⟩
/-- '==' and '!='. -/
theorem eq_agg {t : TypeId} {ks : List Kq} {al bs : List Value} {r : Bool} (x y : Operand) (hk : P.keyTypeAt 6 t = true) (hf : flatT P 6 t = some ks) (hg : aggT P t = true) (hq : P.eqGuardType P.depth t = false) (ha : AllOk ks al) (hb : AllOk ks bs) (hr : r = true ↔ al = bs) (W : World) :
    (do eqGuard .eql t x y (.agg al.toArray) (.agg bs.toArray); binOp .eql t (.agg al.toArray) (.agg bs.toArray) : Sem Value).run P W = .ok (.bool r) W ∧
    (do eqGuard .neq t x y (.agg al.toArray) (.agg bs.toArray); binOp .neq t (.agg al.toArray) (.agg bs.toArray) : Sem Value).run P W = .ok (.bool (!r)) W := by
  obtain ⟨q, h1, h2⟩ := eqIn_agg W hk hf hg ha hb
  have hqr : q = r := by rw [Bool.eq_iff_iff, h2, hr]
  subst hqr
  have h1 : (Op.equal t (.agg al.toArray) (.agg bs.toArray)).run P W = .ok q W := h1
  have g1 : (eqGuard .eql t x y (.agg al.toArray) (.agg bs.toArray)).run P W = .ok () W := by simp [eqGuard, hq]
  have g2 : (eqGuard .neq t x y (.agg al.toArray) (.agg bs.toArray)).run P W = .ok () W := by simp [eqGuard, hq]
  constructor
  · rw [Sem.run_bind, g1, Result.andThen_ok]
    show (do pure (.bool (← Op.equal t (.agg al.toArray) (.agg bs.toArray))) : Sem Value).run P W = _
    rw [Sem.run_bind, h1]; rfl
  · rw [Sem.run_bind, g2, Result.andThen_ok]
    show (do pure (.bool (!(← Op.equal t (.agg al.toArray) (.agg bs.toArray)))) : Sem Value).run P W = _
    rw [Sem.run_bind, h1]; rfl
end
end Go.Proofs.YtcpbbgkeigbndaaGreat

/- A reckoner of calls, part 29: '==' of structs and arrays of plain cells, by their cells. Proved over any program. No condition of its own. -/
namespace Go.Proofs.YtcpbbgkeigbndaaGreat
open Go Go.RowKit Go.Lib Go.Sort
namespace Ax
/-- A type of plain cells. -/
structure StT (P : Program) where
  t : TypeId
  ks : List Kq
  hk : P.keyTypeAt 6 t = true
  hf : flatT P 6 t = some ks
  hg : aggT P t = true
  hq : P.eqGuardType P.depth t = false
def okCB : Kq → Value → Bool
  | .b, .bool _ => true
  | .i q, .int q' n => decide (q' = q) && (Lit.int q n).wf
  | .s, .string s => Nat.ble s.size maxLen
  | _, _ => false
def allOkB : List Kq → List Value → Bool
  | [], [] => true
  | k :: ks, v :: vs => okCB k v && allOkB ks vs
  | _, _ => false
theorem okCB_ok {k : Kq} {v : Value} (h : okCB k v = true) : okC k v := by
  unfold okCB at h
  split at h
  · trivial
  · rw [Bool.and_eq_true] at h
    exact ⟨of_decide_eq_true h.1, h.2⟩
  · exact Nat.le_of_ble_eq_true h
  · cases h
theorem allOkB_ok : ∀ {ks : List Kq} {vs : List Value}, allOkB ks vs = true → AllOk ks vs
  | [], [], _ => trivial
  | k :: ks, v :: vs, h => by
    unfold allOkB at h
    rw [Bool.and_eq_true] at h
    exact ⟨okCB_ok h.1, allOkB_ok h.2⟩
  | [], _ :: _, h => by cases h
  | _ :: _, [], h => by cases h
def eqC : Kq → Value → Value → Bool
  | .b, .bool a, .bool b => a == b
  | .i _, .int _ a, .int _ b => decide (a = b)
  | .s, .string a, .string b => decide (a = b)
  | _, _, _ => false
def eqCs : List Kq → List Value → List Value → Bool
  | [], [], [] => true
  | k :: ks, a :: al, b :: bl => match eqC k a b with
    | true => eqCs ks al bl
    | false => false
  | _, _, _ => false
theorem eqC_iff {k : Kq} {a b : Value} (ha : okC k a) (hb : okC k b) : eqC k a b = true ↔ a = b := by
  cases k with
  | b =>
    cases a <;> first | exact ha.elim | skip
    cases b <;> first | exact hb.elim | skip
    simp [eqC]
  | i q =>
    cases a <;> first | exact ha.elim | skip
    cases b <;> first | exact hb.elim | skip
    obtain ⟨h1, _⟩ := ha
    obtain ⟨h2, _⟩ := hb
    simp [eqC, h1, h2]
  | s =>
    cases a <;> first | exact ha.elim | skip
    cases b <;> first | exact hb.elim | skip
    simp [eqC]
theorem eqCs_iff : ∀ {ks : List Kq} {al bl : List Value}, AllOk ks al → AllOk ks bl → (eqCs ks al bl = true ↔ al = bl)
  | [], [], [], _, _ => by simp [eqCs]
  | k :: ks, a :: al, b :: bl, ha, hb => by
    unfold eqCs
    have h1 := eqC_iff ha.1 hb.1
    have h2 := eqCs_iff ha.2 hb.2
    cases h : eqC k a b with
    | true => simp only [h2, List.cons.injEq, h1.1 h, true_and]
    | false =>
      have : a ≠ b := fun hh => by rw [h1.2 hh] at h; cases h
      simp [this]
  | [], _ :: _, _, ha, _ => ha.elim
  | [], [], _ :: _, _, hb => hb.elim
  | _ :: _, [], _, ha, _ => ha.elim
  | _ :: _, _ :: _, [], _, hb => hb.elim
def findSt {P : Program} (t : TypeId) : List (StT P) → Option (StT P)
  | [] => none
  | s :: r => match Nat.beq s.t t with
    | true => some s
    | false => findSt t r
theorem findSt_ok {P : Program} {t : TypeId} {s : StT P} : ∀ {l : List (StT P)}, findSt t l = some s → s.t = t
  | q :: r, h => by
    unfold findSt at h
    split at h
    · rename_i hb
      cases h
      exact Nat.eq_of_beq_eq_true hb
    · exact findSt_ok h
/-- A struct's cells, where all are plain. -/
def aggC : SV → Option (List Value)
  | .v (.agg a) => some a.toList
  | .ag l => allV l
  | _ => none
theorem aggC_ok {β : Env} {s : SV} {l : List Value} (h : aggC s = some l) : s.den β = .agg l.toArray := by
  unfold aggC at h
  split at h
  · cases h; rfl
  · rename_i l' 
    show Value.agg (SV.dens β l').toArray = _
    rw [allV_den h]
  · cases h
def opSt {P : Program} (L : List (StT P)) : Opf := fun e _ _ o => match o.op with
  | .binOp op t x y _ => match findSt t L with
    | some s => match e x with
      | some sx => match e y with
        | some sy => match aggC sx with
          | some al => match aggC sy with
            | some bl => match allOkB s.ks al && allOkB s.ks bl with
              | true => match op with
                | .eql => some (.pure [] (.v (.bool (eqCs s.ks al bl))))
                | .neq => some (.pure [] (.v (.bool (!eqCs s.ks al bl))))
                | _ => none
              | false => none
            | none => none
          | none => none
        | none => none
      | none => none
    | none => none
  | _ => none
def Xop.st {P : Program} {G : Base → Prop} (L : List (StT P)) : Xop P G := ⟨opSt L, fun b _ e row m o g h a β W hag _ => by
  unfold opSt at h
  split at h
  · rename_i op t x y yt ho
    split at h
    · rename_i s hs
      have hst := findSt_ok hs
      subst hst
      split at h
      · rename_i sx hx
        split at h
        · rename_i sy hy
          split at h
          · rename_i al hal
            split at h
            · rename_i bl hbl
              split at h
              · rename_i hok
                rw [Bool.and_eq_true] at hok
                have ha := allOkB_ok hok.1
                have hb := allOkB_ok hok.2
                have hx := hag x (by simp [ho, Op.operands]) _ hx
                have hy := hag y (by simp [ho, Op.operands]) _ hy
                rw [aggC_ok hal] at hx
                rw [aggC_ok hbl] at hy
                obtain ⟨r, h1, h2⟩ := eqIn_agg W s.hk s.hf s.hg ha hb
                have h1 : (Op.equal s.t (.agg al.toArray) (.agg bl.toArray)).run P W = .ok r W := h1
                have hr : r = eqCs s.ks al bl := by rw [Bool.eq_iff_iff, h2, eqCs_iff ha hb]
                subst hr
                split at h
                · cases h
                  refine runs_pure ?_
                  unfold execOp
                  simp [ho, hx, hy, SV.den, eqGuard, s.hq, binOp, h1]
                · cases h
                  refine runs_pure ?_
                  unfold execOp
                  simp [ho, hx, hy, SV.den, eqGuard, s.hq, binOp, h1]
                · cases h
              · cases h
            · cases h
          · cases h
        · cases h
      · cases h
    · cases h
  · cases h⟩
end Ax
end Go.Proofs.YtcpbbgkeigbndaaGreat

/- A reckoner of calls, part 30: calls on plain values that have been reckoned ahead, with what they give. Proved over any program. No condition of its own. -/
namespace Go.Proofs.YtcpbbgkeigbndaaGreat
open Go Go.RowKit Go.Lib Go.Sort
namespace Ax
mutual
theorem eqVal_ok : ∀ (d : Nat) (a b : Value), eqVal d a b = true → a = b := fun d a b h => by
  unfold eqVal at h
  split at h
  · rw [eq_of_beq h]
  · rw [Bool.and_eq_true] at h
    rw [of_decide_eq_true h.1, of_decide_eq_true h.2]
  · rw [of_decide_eq_true h]
  · rfl
  · rfl
  · rename_i d a b
    have := eqL_ok d a.toList b.toList h
    rw [Array.toList_inj.1 this]
  · cases h
theorem eqL_ok : ∀ (d : Nat) (a b : List Value), eqVal.eqL d a b = true → a = b
  | _, [], [], _ => rfl
  | d, x :: l, y :: r, h => by
    unfold eqVal.eqL at h
    split at h
    · rename_i hb
      rw [eqVal_ok d x y hb, eqL_ok d l r h]
    · cases h
  | _, [], _ :: _, h => by unfold eqVal.eqL at h; cases h
  | _, _ :: _, [], h => by unfold eqVal.eqL at h; cases h
end
theorem eqArgs_ok {β : Env} : ∀ {l : List SV} {r : List Value}, eqArgs l r = true → SV.dens β l = r
  | [], [], _ => rfl
  | x :: l, v :: r, h => by
    unfold eqArgs at h
    split at h
    · rename_i u
      split at h
      · rename_i hb
        rw [SV.dens, eqArgs_ok h]
        show u :: r = _
        rw [eqVal_ok _ _ _ hb]
      · cases h
    · split at h
      · rename_i c hc
        split at h
        · rename_i hb
          rw [SV.dens, eqArgs_ok h, ← eqVal_ok _ _ _ hb]
          show Value.agg _ :: r = _
          rw [allV_den hc]
        · cases h
      · cases h
    · cases h
  | [], _ :: _, h => by unfold eqArgs at h; cases h
  | _ :: _, [], h => by unfold eqArgs at h; cases h
/-- A call on plain values, and what it gives. -/
structure Memo (P : Program) (G : Base → Prop) where
  f : FuncId
  args : List Value
  rt : Rt
  okf : okFn P f = true
  okr : rtOk rt = true
  ok : ∀ w, G ⟨w, No⟩ → Calls P f args.toArray w (RtPost w rt)
def findM {P : Program} {G : Base → Prop} (f : FuncId) (args : List SV) : List (Memo P G) → Option (Memo P G)
  | [] => none
  | x :: r => match Nat.beq x.f f with
    | true => match eqArgs args x.args with
      | true => some x
      | false => findM f args r
    | false => findM f args r
theorem findM_ok {P : Program} {G : Base → Prop} {f : FuncId} {args : List SV} {x : Memo P G} : ∀ {l : List (Memo P G)}, findM f args l = some x → x.f = f ∧ eqArgs args x.args = true
  | y :: r, h => by
    unfold findM at h
    split at h
    · rename_i hb
      split at h
      · rename_i ha
        cases h
        exact ⟨Nat.eq_of_beq_eq_true hb, ha⟩
      · exact findM_ok h
    · exact findM_ok h
def opMemo {P : Program} {G : Base → Prop} (L : List (Memo P G)) : Opf := fun e _ m o => match o.op with
  | .call c => match callOf P e c with
    | some q => match findM q.1 q.2 L with
      | some x => some (rtEff m [] x.rt)
      | none => none
    | none => none
  | _ => none
def Xop.memo {P : Program} (D : Grd) (L : List (Memo P D.G)) : Xop P D.G := ⟨opMemo L, fun b hb e row m o g h a β W hag hs => by
  unfold opMemo at h
  split at h
  · rename_i c ho
    split at h
    · rename_i q hq
      split at h
      · rename_i x hx
        obtain ⟨h1, h2⟩ := findM_ok hx
        cases h
        rw [rtEff_see] at hs
        refine .inr (.inr ⟨q.1, _, callOf_ok ho hq hag (by rw [← h1]; exact x.okf), ?_⟩)
        rw [← h1, eqArgs_ok h2]
        exact (x.ok W (D.cl b hb W No hs.cg fun k hk => hk.elim)).mono fun e W' he => rt_epost he x.okr
      · cases h
    · cases h
  · cases h⟩
def atL (L : List Nat) (j : Nat) : Nat := L.getD j 0
/-- What a call on plain values gives, of the rows that are asked for. -/
def runM {P : Program} (hm : P.follows .mixedOrders = true) (hN : noNum P = true) (D : Grd) (X : Xop P D.G) (d : Nat) (f : FuncId) (args : List Value) (L : List Nat) : Option (List (Option Row) × SV) := match (mchG hm hN D X d).rc f (args.map .v) [] with
  | some r => match r.pan with
    | false => some (L.map fun i => r.mem[i]?, r.s)
    | true => none
  | none => none
/-- **A call on plain values, reckoned.** -/
theorem memo_run {P : Program} {hm : P.follows .mixedOrders = true} {hN : noNum P = true} {D : Grd} {X : Xop P D.G} {d : Nat} {f : FuncId} {args : List Value} {L : List Nat} {rt : Rt} (hL : L.Nodup) (hlen : L.length = rt.new.length) (h : runM hm hN D X d f args L = some (rt.new.map fun q => some (q.ren (atL L)), rt.ret.ren (atL L))) (w : World) (hw : D.G ⟨w, No⟩) : Calls P f args.toArray w (RtPost w rt) := by
  unfold runM at h
  split at h
  · rename_i r hr
    split at h
    · rename_i hp
      have := ((mchG hm hN D X d).ok ⟨w, No⟩ hw f _ [] r hr).2 ⟨fun _ => 0, fun _ => undef, fun _ => No⟩ w ⟨fun i r hi => by simp at hi, fun i r k hi => by simp at hi, fun i j r r' k hi => by simp at hi, Cg.refl _ _⟩ (fun i r hi => by simp at hi) (fun s hs j hj => by
        obtain ⟨x, _, rfl⟩ := List.mem_map.1 hs
        cases hj)
      rw [dens_v] at this
      refine this.mono fun e w' he => ?_
      obtain ⟨β', h1, _, _, _, rfl⟩ := he
      obtain ⟨h2, h3⟩ := Prod.mk.inj (Option.some.inj h)
      have at_ : ∀ (j : Nat) (q : Row), rt.new[j]? = some q → ∃ i, L[j]? = some i ∧ atL L j = i ∧ r.mem[i]? = some (q.ren (atL L)) := fun j q hj => by
        have hjl : j < L.length := by rw [hlen]; exact (List.getElem?_eq_some_iff.1 hj).1
        have e1 : (L.map fun i => r.mem[i]?)[j]? = some (some (q.ren (atL L))) := by rw [h2, List.getElem?_map, hj]; rfl
        rw [List.getElem?_map, List.getElem?_eq_getElem hjl] at e1
        refine ⟨L[j], List.getElem?_eq_getElem hjl, ?_, Option.some.inj e1⟩
        unfold atL
        rw [List.getD_eq_getElem?_getD, List.getElem?_eq_getElem hjl]
        rfl
      refine ⟨β'.ren (atL L), ?_, ⟨fun j q hj => ?_, fun j q k hj hk => ?_, fun i j q q' k hi hj hk hk' => ?_, h1.cg⟩⟩
      · unfold endC
        rw [hp, h3, ren_den]
      · obtain ⟨i, _, h5, h6⟩ := at_ j q hj
        rw [← h5] at h6
        exact ren_held (h1.held _ _ h6)
      · obtain ⟨i, _, h5, h6⟩ := at_ j q hj
        rw [← h5] at h6
        rw [ren_foot] at hk
        exact h1.new _ _ k h6 hk
      · obtain ⟨i1, h4, h5, h6⟩ := at_ i q hi
        obtain ⟨i2, h7, h8, h9⟩ := at_ j q' hj
        rw [← h5] at h6
        rw [← h8] at h9
        rw [ren_foot] at hk hk'
        have := h1.inj _ _ _ _ k h6 h9 hk hk'
        rw [h5, h8] at this
        subst this
        have hil := (List.getElem?_eq_some_iff.1 h4).1
        have hjl := (List.getElem?_eq_some_iff.1 h7).1
        have e2 : L[i] = L[j] := by
          rw [List.getElem?_eq_getElem hil] at h4
          rw [List.getElem?_eq_getElem hjl] at h7
          rw [Option.some.inj h4, Option.some.inj h7]
        have hne := List.pairwise_iff_getElem.1 hL
        rcases Nat.lt_trichotomy i j with hlt | heq | hgt
        · exact absurd e2 (hne i j hil hjl hlt)
        · exact heq
        · exact absurd e2.symm (hne j i hjl hil hgt)
    · cases h
  · cases h
mutual
theorem ren_ren {f g : Nat → Nat} : ∀ s : SV, (∀ i ∈ s.idx, f (g i) = i) → (s.ren g).ren f = s
  | .v _, _ => rfl
  | .p i off, h => by rw [SV.ren, SV.ren, h i (by simp [SV.idx])]
  | .o i, h => by rw [SV.ren, SV.ren, h i (by simp [SV.idx])]
  | .sl i _ _ _, h => by rw [SV.ren, SV.ren, h i (by simp [SV.idx])]
  | .sub i _ _ _, h => by rw [SV.ren, SV.ren, h i (by simp [SV.idx])]
  | .e i _, h => by rw [SV.ren, SV.ren, h i (by simp [SV.idx])]
  | .mp i, h => by rw [SV.ren, SV.ren, h i (by simp [SV.idx])]
  | .ag l, h => by rw [SV.ren, SV.ren, rens_rens l fun i hi => h i (by rw [SV.idx]; exact hi)]
  | .tp l, h => by rw [SV.ren, SV.ren, rens_rens l fun i hi => h i (by rw [SV.idx]; exact hi)]
  | .clo _ q l, h => by rw [SV.ren, SV.ren, rens_rens q fun i hi => h i (by rw [SV.idx]; exact List.mem_append_left _ hi), rens_rens l fun i hi => h i (by rw [SV.idx]; exact List.mem_append_right _ hi)]
  | .ifc _ x, h => by rw [SV.ren, SV.ren, ren_ren x fun i hi => h i (by rw [SV.idx]; exact hi)]
  | .gone, _ => rfl
theorem rens_rens {f g : Nat → Nat} : ∀ l : List SV, (∀ i ∈ SV.idxs l, f (g i) = i) → SV.rens f (SV.rens g l) = l
  | [], _ => rfl
  | x :: l, h => by rw [SV.rens, SV.rens, ren_ren x fun i hi => h i (by rw [SV.idxs]; exact List.mem_append_left _ hi), rens_rens l fun i hi => h i (by rw [SV.idxs]; exact List.mem_append_right _ hi)]
end
theorem renE_renE {f g : Nat → Nat} : ∀ l : List (SV × SV), (∀ i ∈ idxE l, f (g i) = i) → renE f (renE g l) = l
  | [], _ => rfl
  | q :: r, h => by
    obtain ⟨k, v⟩ := q
    rw [renE, renE, ren_ren k fun i hi => h i (by rw [idxE]; exact List.mem_append_left _ (List.mem_append_left _ hi)), ren_ren v fun i hi => h i (by rw [idxE]; exact List.mem_append_left _ (List.mem_append_right _ hi)), renE_renE r fun i hi => h i (by rw [idxE]; exact List.mem_append_right _ hi)]
theorem row_ren_ren {f g : Nat → Nat} {r : Row} (h : ∀ i ∈ r.idx, f (g i) = i) : (r.ren g).ren f = r := by
  cases r with
  | c a ty cs => cases cs with
    | vs l => rfl
    | ss l => simp only [Row.ren, Cs.ren, rens_rens l h]
  | k ty cs => cases cs with
    | vs l => rfl
    | ss l => simp only [Row.ren, Cs.ren, rens_rens l h]
  | sw ty size n l => simp only [Row.ren, rens_rens l h]
  | sr size n l => simp only [Row.ren, rens_rens l h]
  | mo es => simp only [Row.ren, renE_renE es h]
  | mr es => simp only [Row.ren, renE_renE es h]
  | mu es => simp only [Row.ren, renE_renE es h]
  | mv es => simp only [Row.ren, renE_renE es h]
  | mi cur es => simp only [Row.ren, renE_renE cur fun i hi => h i (List.mem_append_left _ hi), renE_renE es fun i hi => h i (List.mem_append_right _ hi)]
  | _ => rfl
/-- A row's place among those that are kept. -/
def posN (i : Nat) : Nat → List Nat → Nat
  | _, [] => 0
  | k, j :: r => match Nat.beq j i with
    | true => k
    | false => posN i (k + 1) r
def rowsOf (mem : List Row) (f : Nat → Nat) : List Nat → Option (List Row)
  | [] => some []
  | i :: l => match mem[i]? with
    | some r => match rowsOf mem f l with
      | some q => some (r.ren f :: q)
      | none => none
    | none => none
def nodupR : List Nat → Bool
  | [] => true
  | i :: r => match memN i r with
    | true => false
    | false => nodupR r
/-- What a call gives, with the rows alone that its value names. -/
def tidyR (r : Cr) : Option Rt := match (reachL 1000 (fun i => r.mem[i]?) r.s.idx []).reverse with
  | L => match rowsOf r.mem (fun i => posN i 0 L) L with
    | some rows => match nodupR L && (allB (fun i => memN i L) r.s.idx && allB (fun i => match r.mem[i]? with
      | some q => allB (fun j => memN j L) q.idx
      | none => false) L) with
      | true => some ⟨rows, r.s.ren fun i => posN i 0 L⟩
      | false => none
    | none => none
def runTd {P : Program} (hm : P.follows .mixedOrders = true) (hN : noNum P = true) (D : Grd) (X : Xop P D.G) (d : Nat) (f : FuncId) (args : List Value) : Option Rt := match (mchG hm hN D X d).rc f (args.map .v) [] with
  | some r => match r.pan with
    | false => tidyR r
    | true => none
  | none => none
theorem posN_at {i : Nat} : ∀ {L : List Nat} {k : Nat}, i ∈ L → k ≤ posN i k L ∧ L[posN i k L - k]? = some i
  | j :: r, k, h => by
    unfold posN
    split
    · rename_i hb
      rw [Nat.sub_self, Nat.eq_of_beq_eq_true hb]
      exact ⟨Nat.le_refl _, rfl⟩
    · rename_i hb
      have hne : j ≠ i := fun hh => by rw [hh, Nat.beq_refl] at hb; cases hb
      have hr : i ∈ r := by
        rcases List.mem_cons.1 h with hh | hh
        · exact absurd hh.symm hne
        · exact hh
      obtain ⟨h1, h2⟩ := posN_at (k := k + 1) hr
      refine ⟨by omega, ?_⟩
      rw [show posN i (k + 1) r - k = (posN i (k + 1) r - (k + 1)) + 1 by omega, List.getElem?_cons_succ]
      exact h2
theorem rowsOf_at {mem : List Row} {f : Nat → Nat} : ∀ {L : List Nat} {rows : List Row}, rowsOf mem f L = some rows → rows.length = L.length ∧ ∀ (j : Nat) (q : Row), rows[j]? = some q → ∃ i r, L[j]? = some i ∧ mem[i]? = some r ∧ q = r.ren f
  | [], rows, h => by
    cases h
    exact ⟨rfl, fun j q hj => by simp at hj⟩
  | i :: L, rows, h => by
    unfold rowsOf at h
    split at h
    · rename_i r hr
      split at h
      · rename_i q hq
        cases h
        obtain ⟨h1, h2⟩ := rowsOf_at hq
        refine ⟨by simp [h1], fun j q' hj => ?_⟩
        cases j with
        | zero =>
          have hj : r.ren f = q' := by simpa using hj
          exact ⟨i, r, rfl, hr, hj.symm⟩
        | succ j => exact h2 j q' (by simpa using hj)
      · cases h
    · cases h
theorem nodupR_ok : ∀ {L : List Nat}, nodupR L = true → L.Nodup
  | [], _ => List.Pairwise.nil
  | i :: r, h => by
    unfold nodupR at h
    split at h
    · cases h
    · rename_i hb
      exact List.nodup_cons.2 ⟨fun hh => (by rw [memN_iff.2 hh] at hb; cases hb), nodupR_ok h⟩
/-- **A call on plain values, reckoned; the rows that its value names.** -/
theorem memo_tidy {P : Program} {hm : P.follows .mixedOrders = true} {hN : noNum P = true} {D : Grd} {X : Xop P D.G} {d : Nat} {f : FuncId} {args : List Value} {rt : Rt} (h : runTd hm hN D X d f args = some rt) (w : World) (hw : D.G ⟨w, No⟩) : Calls P f args.toArray w (RtPost w rt) := by
  unfold runTd at h
  split at h
  · rename_i r hr
    split at h
    · rename_i hp
      unfold tidyR at h
      simp only at h
      generalize (reachL 1000 (fun i => r.mem[i]?) r.s.idx []).reverse = L at h
      split at h
      · rename_i rows hrows
        split at h
        · rename_i hb
          simp only [Bool.and_eq_true] at hb
          cases h
          have hfg : ∀ i, i ∈ L → atL L (posN i 0 L) = i := fun i hi => by
            obtain ⟨_, h2⟩ := posN_at (k := 0) hi
            rw [Nat.sub_zero] at h2
            unfold atL
            rw [List.getD_eq_getElem?_getD, h2]
            rfl
          obtain ⟨hlen, hat⟩ := rowsOf_at hrows
          refine memo_run (hm := hm) (hN := hN) (X := X) (d := d) (L := L) (nodupR_ok hb.1) hlen.symm ?_ w hw
          unfold runM
          rw [hr]
          simp only [hp]
          congr 2
          · apply List.ext_getElem?
            intro j
            rw [List.getElem?_map, List.getElem?_map]
            cases hj : rows[j]? with
            | none =>
              have : L[j]? = none := List.getElem?_eq_none (by rw [← hlen]; exact List.getElem?_eq_none_iff.1 hj)
              rw [this]
              rfl
            | some q =>
              obtain ⟨i, r0, h1, h2, rfl⟩ := hat j q hj
              rw [h1, Option.map_some, Option.map_some, h2]
              have hi := allB_spec hb.2.2 i (List.mem_of_getElem? h1)
              rw [h2] at hi
              rw [row_ren_ren fun k hk => hfg k (memN_iff.1 (allB_spec hi k hk))]
          · exact (ren_ren _ fun i hi => hfg i (memN_iff.1 (allB_spec hb.2.1 i hi))).symm
        · cases h
      · cases h
    · cases h
  · cases h
end Ax
end Go.Proofs.YtcpbbgkeigbndaaGreat

/- A reckoner of calls, part 31: runs in pieces. Proved over any program. No condition of its own. -/
namespace Go.Proofs.YtcpbbgkeigbndaaGreat
open Go Go.RowKit Go.Lib Go.Sort
namespace Ax
section
variable {P : Program} {op opD : Opf} {rc : Rc} {n : Nat} {jump : Code → Cst → Option (Ed × Cst)}
theorem exC_seq {x y : Code} {s s' : Cst} {r : Option (Ed × Cst)} (h1 : exC P op opD rc n jump x s = some (.n, s')) (h2 : exC P op opD rc n jump y s' = r) : exC P op opD rc n jump (.seq x y) s = r := by
  rw [exC, h1]
  exact h2
theorem exC_out {x y : Code} {s s' : Cst} {e : Ed} (h1 : exC P op opD rc n jump x s = some (e, s')) (he : e ≠ .n) : exC P op opD rc n jump (.seq x y) s = some (e, s') := by
  rw [exC, h1]
  cases e with
  | n => exact absurd rfl he
  | _ => rfl
theorem exC_loop {c : Code} {s : Cst} : exC P op opD rc n jump (.loop c) s = loopC (fun s => exC P op opD rc n jump c s) s.fr.length 100000 s := by
  rw [exC]
theorem exC_block {id : Nat} {c : Code} {s s' : Cst} (h : exC P op opD rc n jump c s = some (.x id, s')) : exC P op opD rc n jump (.block id c) s = some (.n, s') := by
  rw [exC, h]
  simp only [Nat.beq_refl]
theorem loopC_on {body : Cst → Option (Ed × Cst)} {n0 k : Nat} {s s' : Cst} {r : Option (Ed × Cst)} (h : body s = some (.n, s')) (h2 : loopC body n0 k ⟨mergeFr (s'.fr.length - n0) s'.fr, s'.mem, s'.df⟩ = r) : loopC body n0 (k + 1) s = r := by
  rw [loopC, h]
  exact h2
theorem loopC_off {body : Cst → Option (Ed × Cst)} {n0 k i : Nat} {s s' : Cst} (h : body s = some (.x i, s')) : loopC body n0 (k + 1) s = some (.x i, s') := by
  rw [loopC, h]
end
section
variable {P : Program} (D : Grd) (X : Xop P D.G) (M : MchG P D.G)
/-- The operations of a run, one behind the other and in a region that draws. -/
def opRa : Opf := fun e row m o => orE (X.op e row m o) (opX P (Tab.nil P) bz e row m o)
def opRd : Opf := fun e row m o => orE (X.op e row m o) (orE (opX P (Tab.nil P) bz e row m o) (opDC P D.rw M.rc e row m o))
theorem opRa_ok {b : Base} (hb : D.G b) : OpOk P b (opRa D X) := by
  unfold opRa
  rw [opX_base nil_free.free bz b]
  exact orOp_ok (X.ok b hb) opX_holds
theorem opRd_ok {b : Base} (hb : D.G b) : OpOk P b (opRd D X M) := by
  unfold opRd
  rw [opX_base nil_free.free bz b]
  exact orOp_ok (X.ok b hb) (orOp_ok opX_holds (opDC_ok fun W S' hc hS => M.ok _ (D.cl b hb W S' hc hS)))
/-- What is left of a function's code, from a state on. -/
theorem rest_ok (hm : P.follows .mixedOrders = true) {n : Nat} {b : Base} {β : Env} {a : Act} {w : World} {c : Code} {s s' : Cst} {e : Ed} (hb : D.G b) (hx : exF P (opRa D X) (opRd D X M) M.rc n 3 c s = some (e, s')) (h : Hq b n β s a w) : c.wp P (Rz b n β s.mem.length e s') a w :=
  exF_ok (opRa_ok D X hb) (opRd_ok D X M hb) hm (M.ok b hb) 3 c s e s' β a w hx h
end
end Ax
end Go.Proofs.YtcpbbgkeigbndaaGreat

/- A reckoner of calls, part 32: words that many share (one goroutine): loads, stores, sums, swaps if equal; marks that do nothing. Proved over any program. No condition of its own. -/
namespace Go.Proofs.YtcpbbgkeigbndaaGreat
open Go Go.RowKit Go.Lib Go.Sort
namespace Ax
/-- A call of a function that is named by a value. -/
def callV (P : Program) (e : Operand → Option SV) (c : Call) : Option (FuncId × List SV) := match c.callee with
  | .value x => match calleeOf P e x with
    | some p => match svArgs e c.args.toList with
      | some l => some (p.1, p.2.1 ++ (l ++ p.2.2))
      | none => none
    | none => none
  | _ => none
theorem callV_run {P : Program} {o : Oper} {a : Act} {β : Env} {W : World} {e : Operand → Option SV} {c : Call} {p : FuncId × List SV} {R : Result Next} (ho : o.op = .call c) (h : callV P e c = some p) (he : Agree o a e β) (hr : (callFunc p.1 (SV.dens β p.2).toArray).run P W = R) : (execOp a.eval o).run P W = R := by
  unfold callV at h
  split at h
  · rename_i x hcal
    split at h
    · rename_i q hp
      split at h
      · rename_i l hl
        cases h
        obtain ⟨callee, args, ats⟩ := c
        simp only at hcal hl
        subst hcal
        obtain ⟨fst, cap, hev, hfst, hcap⟩ := callee_ok (a := a) (β := β) hp (fun sv hsv => he x (by simp [ho, Op.operands, Call.operands]) sv hsv)
        have hm := svArgs_ok (β := β) (a := a) hl (fun x hx sv hsv => he x (by
          have hx : x ∈ args := Array.mem_toList_iff.1 hx
          simp [ho, Op.operands, Call.operands, hx]) sv hsv)
        have hm2 : fst ++ (args.map a.eval ++ cap) = (SV.dens β (q.2.1 ++ (l ++ q.2.2))).toArray := by
          rw [dens_append, dens_append, ← hm, ← hcap, ← hfst, ← Array.toList_map, ← Array.toList_append, ← Array.toList_append, Array.toArray_toList]
        unfold execOp
        simp only [ho, resolve, hev, Deferred.ofValue, invoke, Sem.run_bind, Sem.run_pure, Result.andThen_ok]
        rw [Array.append_assoc, hm2]
        exact hr
      · cases h
    · cases h
  · cases h
/-- A function without a body: what a call of it does. -/
structure Atm (P : Program) where
  f : FuncId
  x : List SV → (Nat → Option Row) → Option Eff
  ok : ∀ (b : Base) (args : List SV) (row : Nat → Option Row) (m : Nat) (g : Eff), x args row = some g → ∀ (β : Env) (W : World), See b β W row g.see → ∃ v W', (callFunc f (SV.dens β args).toArray).run P W = .ok (.value v) W' ∧ EPost b β W row m g v W'
def atmAt {P : Program} (f : FuncId) : List (Atm P) → Option (Atm P)
  | [] => none
  | A :: r => match Nat.beq A.f f with
    | true => some A
    | false => atmAt f r
theorem atmAt_f {P : Program} {f : FuncId} {A : Atm P} : ∀ {L : List (Atm P)}, atmAt f L = some A → A.f = f
  | B :: r, h => by
    unfold atmAt at h
    split at h
    · rename_i hb
      cases h
      exact Nat.eq_of_beq_eq_true hb
    · exact atmAt_f h
def opAtm {P : Program} (L : List (Atm P)) : Opf := fun e row _ o => match o.op with
  | .call c => match callV P e c with
    | some q => match atmAt q.1 L with
      | some A => A.x q.2 row
      | none => none
    | none => none
  | _ => none
def Xop.atms {P : Program} {G : Base → Prop} (L : List (Atm P)) : Xop P G := ⟨opAtm L, fun b _ e row m o g h a β W hag hs => by
  unfold opAtm at h
  split at h
  · rename_i c ho
    split at h
    · rename_i q hq
      split at h
      · rename_i A hA
        obtain ⟨v, W', h1, h2⟩ := A.ok b q.2 row m g h β W hs
        rw [atmAt_f hA] at h1
        exact .inl ⟨v, W', callV_run ho hq hag h1, h2⟩
      · cases h
    · cases h
  · cases h⟩
/-- A function without a body, and what it is in the model. -/
def ExtIs (P : Program) (f : FuncId) (h : Array Value → Sem Value) : Prop := ∃ fn, P.funcs[f]? = some fn ∧ (fn.name == "runtime.NumGoroutine") = false ∧ fn.body.isNone = true ∧ Extern.findNext fn = none ∧ Extern.find fn = some h
/-- One cell of a row of one's own: which row, what it holds. -/
def cellOf (row : Nat → Option Row) : SV → Option (Nat × Row × SV)
  | .p i off => match row i with
    | some (.c g ty cs) => match cs.svs[off]? with
      | some sv => some (i, .c g ty cs, sv)
      | none => none
    | _ => none
  | .e i off => match row i with
    | some (.s ty sz n xs) => match xs[off]? with
      | some v => some (i, .s ty sz n xs, .v v)
      | none => none
    | _ => none
  | _ => none
def cellSet (pt : SV) (r : Row) (u : SV) : Option Row := match SV.oneB u with
  | true => match pt, r with
    | .p _ off, .c g ty cs => some (.c g ty (mkCs (cs.svs.set off u)))
    | .e _ off, .s ty sz n xs => match u with
      | .v x => some (.s ty sz n (xs.set off x))
      | _ => none
    | _, _ => none
  | false => none
section
variable {P : Program} {b : Base} {β : Env} {W : World} {row : Nat → Option Row} {m : Nat}
theorem dens_set {off : Nat} {u : SV} : ∀ (l : List SV), SV.dens β (l.set off u) = (SV.dens β l).set off (u.den β) := fun l => by
  rw [dens_map, dens_map, List.map_set]
theorem own_set {ty sz n : Nat} {v : Value} {xs : List Value} (h : Own W ty sz v n xs) {off : Nat} {x : Value} (hx : xs[off]? = some x) : ∃ ad, elV off v = .pointer (some ad) ∧ W.cell? ad = some x ∧ W.frozen? ad = false ∧ v.ownBlock = some ad.block ∧ ∀ u, Own (W.setCell ad u) ty sz v n (xs.set off u) := by
  obtain ⟨hl, hv⟩ := h
  have hlt : off < xs.length := (List.getElem?_eq_some_iff.1 hx).1
  rcases hv with ⟨rfl, rfl⟩ | ⟨g, o, c, L, rfl, hB, hn, hc, hL, hxs⟩
  · rw [Nat.zero_mul] at hl; omega
  · have hat : L[o + off]? = some x := by
      rw [← hx, ← hxs, List.getElem?_take_of_lt (by omega), List.getElem?_drop]
    refine ⟨⟨g, o + off, none⟩, by rw [elV_slice, Option.map_some, Addr.add_mid], hB.cell_of hat, hB.frozen _, rfl, fun u => ⟨by rw [List.length_set]; exact hl, .inr ⟨g, o, c, L.set (o + off) u, rfl, hB.set_ _ u, hn, hc, by rw [List.length_set]; exact hL, ?_⟩⟩⟩
    rw [List.drop_set, if_neg (by omega), show o + off - o = off by omega, List.take_set, hxs]
/-- What a cell of a row is in the world. -/
theorem cellOf_ok {pt sv : SV} {i : Nat} {r : Row} {see : List Nat} (h : cellOf row pt = some (i, r, sv)) (hs : See b β W row see) (hi : i ∈ see) : ∃ ad, pt.den β = .pointer (some ad) ∧ W.cell? ad = some (sv.den β) ∧ W.frozen? ad = false ∧ ∀ u r' see' ret, cellSet pt r u = some r' → EPost b β W row m ⟨see', [(i, r')], [], [], ret⟩ (ret.den β) (W.setCell ad (u.den β)) := by
  unfold cellOf at h
  split at h
  · rename_i i' off
    split at h
    · rename_i g ty cs hrow
      split at h
      · rename_i sv' hc
        cases h
        have hh := hs.held i hi _ hrow
        have hB := hh.2
        have hcell : (cs.den β)[off]? = some (sv.den β) := by rw [← svs_den, dens_map, List.getElem?_map, hc]; rfl
        refine ⟨⟨β.b i, off, none⟩, rfl, hB.cell_of hcell, hB.frozen _, fun u r' see' ret hset => ⟨β, rfl, ?_⟩⟩
        unfold cellSet at hset
        split at hset
        · cases hset
          refine post_upd hrow (fun k hk => hk) ⟨hh.1, ?_⟩ (Cg.of (L := [β.b i]) ((Chg.refl _ W).setCell (p := ⟨β.b i, off, none⟩) (.inl (by simp)) _) fun k hk => .inl (List.mem_singleton.1 hk))
          have := hB.set_ off (u.den β)
          rw [mkCs_den, dens_set, svs_den]
          exact this
        · cases hset
      · cases h
    · cases h
  · rename_i i' off
    split at h
    · rename_i ty sz n xs hrow
      split at h
      · rename_i v hc
        cases h
        obtain ⟨hown, hF, hone⟩ := hs.held i hi _ hrow
        obtain ⟨ad, h1, h2, h3, h4, h5⟩ := own_set hown hc
        refine ⟨ad, h1, h2, h3, fun u r' see' ret hset => ⟨β, rfl, ?_⟩⟩
        unfold cellSet at hset
        split at hset
        · rename_i hob
          simp only at hset
          split at hset
          · rename_i x
            cases hset
            refine post_upd hrow (fun k hk => hk) ⟨h5 _, hF, fun y hy => ?_⟩ (Cg.of (L := [ad.block]) ((Chg.refl _ W).setCell (p := ad) (.inl (by simp)) _) fun k hk => .inl ?_)
            · rcases List.mem_or_eq_of_mem_set hy with hy | rfl
              · exact hone y hy
              · exact hob
            · rw [List.mem_singleton.1 hk]
              exact (hF _).2 h4
          · cases hset
        · cases hset
      · cases h
    · cases h
  · cases h
end
def noTup : SV := .v (.tuple #[])
/-- A load of a number. -/
def atLd {P : Program} (f : FuncId) (k : IntKind) (hf : ExtIs P f (Extern.Atomic.loadT (.int k))) : Atm P := ⟨f, fun args row => match args with
  | [pt] => match cellOf row pt with
    | some (i, _, .v (.int k' z)) => match decide (k' = k) with
      | true => some (.pure [i] (.v (.int k z)))
      | false => none
    | _ => none
  | _ => none, fun b args row m g h β W hs => by
  obtain ⟨fn, h1, h2, h3, h4, h5⟩ := hf
  split at h
  · rename_i pt
    split at h
    · rename_i i r k' z hc
      split at h
      · rename_i hk
        obtain rfl := of_decide_eq_true hk
        cases h
        obtain ⟨ad, e1, e2, _⟩ := cellOf_ok (m := m) hc hs (List.mem_singleton.2 rfl)
        refine ⟨_, W, ?_, epost_pure (sv := .v (.int k' z)) (Cg.refl _ _)⟩
        show (callFunc f #[pt.den β]).run P W = _
        rw [e1]
        exact run_call_load h1 h2 h3 h4 k' h5 e2
      · cases h
    · cases h
  · cases h⟩
/-- A store of a number. -/
def atSt {P : Program} (f : FuncId) (hf : ExtIs P f Extern.Atomic.storeT) : Atm P := ⟨f, fun args row => match args with
  | [pt, .v (.int k y)] => match cellOf row pt with
    | some (i, r, _) => match cellSet pt r (.v (.int k y)) with
      | some r' => some ⟨[i], [(i, r')], [], [], noTup⟩
      | none => none
    | none => none
  | _ => none, fun b args row m g h β W hs => by
  obtain ⟨fn, h1, h2, h3, h4, h5⟩ := hf
  split at h
  · rename_i pt k y
    split at h
    · rename_i i r sv hc
      split at h
      · rename_i r' hr
        cases h
        obtain ⟨ad, e1, e2, e3, e4⟩ := cellOf_ok (m := m) hc hs (List.mem_singleton.2 rfl)
        refine ⟨_, _, ?_, e4 _ _ _ noTup hr⟩
        show (callFunc f #[pt.den β, .int k y]).run P W = _
        rw [e1]
        exact run_call_store h1 h2 h3 h4 h5 e2 e3
      · cases h
    · cases h
  · cases h⟩
/-- A sum. -/
def atAd {P : Program} (f : FuncId) (k : IntKind) (hf : ExtIs P f (Extern.Atomic.update (Op.intArith .add) k true)) : Atm P := ⟨f, fun args row => match args with
  | [pt, .v (.int k1 y)] => match cellOf row pt with
    | some (i, r, .v (.int k' x)) => match decide (k' = k) && decide (k1 = k) with
      | true => match cellSet pt r (.v (.int k (k.wrap (x + y)))) with
        | some r' => some ⟨[i], [(i, r')], [], [], .v (.int k (k.wrap (x + y)))⟩
        | none => none
      | false => none
    | _ => none
  | _ => none, fun b args row m g h β W hs => by
  obtain ⟨fn, h1, h2, h3, h4, h5⟩ := hf
  split at h
  · rename_i pt k1 y
    split at h
    · rename_i i r k' x hc
      split at h
      · rename_i hk
        rw [Bool.and_eq_true] at hk
        obtain rfl := of_decide_eq_true hk.1
        obtain rfl := of_decide_eq_true hk.2
        split at h
        · rename_i r' hr
          cases h
          obtain ⟨ad, e1, e2, e3, e4⟩ := cellOf_ok (m := m) hc hs (List.mem_singleton.2 rfl)
          refine ⟨_, _, ?_, e4 _ _ _ (.v (.int k1 (k1.wrap (x + y)))) hr⟩
          show (callFunc f #[pt.den β, .int k1 y]).run P W = _
          rw [e1]
          exact run_call_add h1 h2 h3 h4 k1 h5 e2 e3 rfl
        · cases h
      · cases h
    · cases h
  · cases h⟩
/-- Swapped, if it is what it was thought to be. -/
def atCa {P : Program} (f : FuncId) (k : IntKind) (hf : ExtIs P f (Extern.Atomic.casT (.int k))) : Atm P := ⟨f, fun args row => match args with
  | [pt, .v (.int k1 x), .v (.int k2 y)] => match cellOf row pt with
    | some (i, r, .v (.int k' x')) => match decide (k' = k) && (decide (k1 = k) && (decide (k2 = k) && decide (x' = x))) with
      | true => match cellSet pt r (.v (.int k y)) with
        | some r' => some ⟨[i], [(i, r')], [], [], .v (.bool true)⟩
        | none => none
      | false => none
    | _ => none
  | _ => none, fun b args row m g h β W hs => by
  obtain ⟨fn, h1, h2, h3, h4, h5⟩ := hf
  split at h
  · rename_i pt k1 x k2 y
    split at h
    · rename_i i r k' x' hc
      split at h
      · rename_i hk
        rw [Bool.and_eq_true, Bool.and_eq_true, Bool.and_eq_true] at hk
        obtain rfl := of_decide_eq_true hk.1
        obtain rfl := of_decide_eq_true hk.2.1
        obtain rfl := of_decide_eq_true hk.2.2.1
        obtain rfl := of_decide_eq_true hk.2.2.2
        split at h
        · rename_i r' hr
          cases h
          obtain ⟨ad, e1, e2, e3, e4⟩ := cellOf_ok (m := m) hc hs (List.mem_singleton.2 rfl)
          refine ⟨_, _, ?_, e4 _ _ _ (.v (.bool true)) hr⟩
          show (callFunc f #[pt.den β, .int k2 x', .int k2 y]).run P W = _
          rw [e1]
          exact run_call_cas_hit h1 h2 h3 h4 k2 h5 e2 e3
        · cases h
      · cases h
    · cases h
  · cases h⟩
/-- A pointer, as a row knows it. -/
def ptrB : SV → Bool
  | .p _ _ => true
  | .v (.pointer none) => true
  | _ => false
theorem ptrB_den {β : Env} {sv : SV} (h : ptrB sv = true) : ∃ p, sv.den β = .pointer p := by
  unfold ptrB at h
  split at h
  · exact ⟨_, rfl⟩
  · exact ⟨_, rfl⟩
  · cases h
def ptrSame : SV → SV → Bool
  | .p i o, .p j u => Nat.beq i j && Nat.beq o u
  | .v (.pointer none), .v (.pointer none) => true
  | _, _ => false
theorem ptrSame_den {β : Env} {x y : SV} (h : ptrSame x y = true) : ∃ p, x.den β = .pointer p ∧ y.den β = .pointer p := by
  unfold ptrSame at h
  split at h
  · rw [Bool.and_eq_true] at h
    obtain rfl := Nat.eq_of_beq_eq_true h.1
    obtain rfl := Nat.eq_of_beq_eq_true h.2
    exact ⟨_, rfl, rfl⟩
  · exact ⟨_, rfl, rfl⟩
  · cases h
def atLdP {P : Program} (f : FuncId) (hf : ExtIs P f (Extern.Atomic.loadT .ptr)) : Atm P := ⟨f, fun args row => match args with
  | [pt] => match cellOf row pt with
    | some (i, _, sv) => match ptrB sv with
      | true => some (.pure [i] sv)
      | false => none
    | _ => none
  | _ => none, fun b args row m g h β W hs => by
  obtain ⟨fn, h1, h2, h3, h4, h5⟩ := hf
  split at h
  · rename_i pt
    split at h
    · rename_i i r sv hc
      split at h
      · rename_i hk
        cases h
        obtain ⟨ad, e1, e2, _⟩ := cellOf_ok (m := m) hc hs (List.mem_singleton.2 rfl)
        obtain ⟨p, hp⟩ := ptrB_den (β := β) hk
        refine ⟨_, W, ?_, epost_pure (sv := sv) (Cg.refl _ _)⟩
        show (callFunc f #[pt.den β]).run P W = _
        rw [e1, hp]
        rw [hp] at e2
        rw [run_callFunc_extern h1 h2 h3 h4 h5]
        change (Sem.run P (do Extern.Atomic.read .ptr (← asAddr (.pointer (some ad)))) W).andThen _ = _
        simp [Extern.Atomic.read, asAddr, e2, Result.andThen]
      · cases h
    · cases h
  · cases h⟩
def atStP {P : Program} (f : FuncId) (hf : ExtIs P f Extern.Atomic.storeT) : Atm P := ⟨f, fun args row => match args with
  | [pt, u] => match ptrB u with
    | true => match cellOf row pt with
      | some (i, r, _) => match cellSet pt r u with
        | some r' => some ⟨[i], [(i, r')], [], [], noTup⟩
        | none => none
      | none => none
    | false => none
  | _ => none, fun b args row m g h β W hs => by
  obtain ⟨fn, h1, h2, h3, h4, h5⟩ := hf
  split at h
  · rename_i pt u
    split at h
    · rename_i hk
      split at h
      · rename_i i r sv hc
        split at h
        · rename_i r' hr
          cases h
          obtain ⟨ad, e1, e2, e3, e4⟩ := cellOf_ok (m := m) hc hs (List.mem_singleton.2 rfl)
          obtain ⟨p, hp⟩ := ptrB_den (β := β) hk
          have e5 := e4 _ _ [i] noTup hr
          refine ⟨_, _, ?_, e5⟩
          show (callFunc f #[pt.den β, u.den β]).run P W = _
          rw [e1, hp, run_callFunc_extern h1 h2 h3 h4 h5]
          change (Sem.run P (do
            store (← asAddr (.pointer (some ad))) (.pointer p) .atomic
            pure Extern.Atomic.none_) W).andThen _ = _
          simp [asAddr, e2, e3, run_store P W ad (.pointer p) .atomic rfl, Result.andThen, Extern.Atomic.none_, noTup, SV.den]
        · cases h
      · cases h
    · cases h
  · cases h⟩
def atCaP {P : Program} (f : FuncId) (hf : ExtIs P f (Extern.Atomic.casT .ptr)) : Atm P := ⟨f, fun args row => match args with
  | [pt, old, u] => match ptrB u with
    | true => match cellOf row pt with
      | some (i, r, sv) => match ptrSame sv old with
        | true => match cellSet pt r u with
          | some r' => some ⟨[i], [(i, r')], [], [], .v (.bool true)⟩
          | none => none
        | false => none
      | none => none
    | false => none
  | _ => none, fun b args row m g h β W hs => by
  obtain ⟨fn, h1, h2, h3, h4, h5⟩ := hf
  split at h
  · rename_i pt old u
    split at h
    · rename_i hk
      split at h
      · rename_i i r sv hc
        split at h
        · rename_i hq
          split at h
          · rename_i r' hr
            cases h
            obtain ⟨ad, e1, e2, e3, e4⟩ := cellOf_ok (m := m) hc hs (List.mem_singleton.2 rfl)
            obtain ⟨p, hp⟩ := ptrB_den (β := β) hk
            obtain ⟨q, hq1, hq2⟩ := ptrSame_den (β := β) hq
            have e5 := e4 _ _ [i] (.v (.bool true)) hr
            refine ⟨_, _, ?_, e5⟩
            rw [hq1] at e2
            have hsame : (samePointer q q).run P W = .ok true W := by
              cases q with
              | none => rfl
              | some x => exact run_sameAddr_same W x
            show (callFunc f #[pt.den β, old.den β, u.den β]).run P W = _
            rw [e1, hp, hq2, run_callFunc_extern h1 h2 h3 h4 h5]
            change (Sem.run P (do
              let a' ← asAddr (.pointer (some ad))
              if ← Extern.Atomic.touchesFrozen a' then unsupported (.unsafePointer "a write to bytes that a string shares")
              let eq ← match Extern.Atomic.T.ptr, ← Extern.Atomic.read .ptr a', Value.pointer q with
                | _, .int _ x, .int _ y => pure (x == y)
                | .ptr, .pointer x, .pointer y => samePointer x y
                | .int _, .pointer (some _), .int _ 0 | .int _, .int _ 0, .pointer (some _) => pure false
                | .int _, .pointer (some _), _ | .int _, _, .pointer (some _) => unsupported .addressObserved
                | _, _, _ => stuck "atomic.CompareAndSwap: old is no T"
              if eq then store a' (.pointer p) .atomic
              pure (Value.bool eq)) W).andThen _ = _
            simp [Extern.Atomic.touchesFrozen, Extern.Atomic.read, asAddr, viewAt, World.shape?_isSome_of_cell? e2, e2, e3, hsame, run_store P W ad (.pointer p) .atomic rfl, Result.andThen, SV.den]
          · cases h
        · cases h
      · cases h
    · cases h
  · cases h⟩
/-- A mark of a lock; an address. -/
def atMk0 {P : Program} (f : FuncId) (mk : Mark) (hf : ExtIs P f (fun _ => do mark mk; pure Extern.Race.none_)) : Atm P := ⟨f, fun args _ => match args with
  | [] => some (.pure [] noTup)
  | _ => none, fun b args row m g h β W hs => by
  obtain ⟨fn, h1, h2, h3, h4, h5⟩ := hf
  split at h
  · cases h
    exact ⟨_, W, run_call_mark0 h1 h2 h3 h4 mk h5 W, epost_pure (sv := noTup) (Cg.refl _ _)⟩
  · cases h⟩
def atMk {P : Program} (f : FuncId) (mk : Addr → Mark) (hf : ExtIs P f (Extern.Race.marked mk)) : Atm P := ⟨f, fun args _ => match args with
  | [.p _ _] => some (.pure [] noTup)
  | _ => none, fun b args row m g h β W hs => by
  obtain ⟨fn, h1, h2, h3, h4, h5⟩ := hf
  split at h
  · cases h
    exact ⟨_, W, run_call_marked h1 h2 h3 h4 mk h5 _ W, epost_pure (sv := noTup) (Cg.refl _ _)⟩
  · cases h⟩
end Ax
end Go.Proofs.YtcpbbgkeigbndaaGreat
