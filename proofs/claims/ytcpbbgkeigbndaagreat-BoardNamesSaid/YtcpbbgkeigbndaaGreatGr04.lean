/- A reckoner of calls, part 6: all operations. Proved over any program. No condition of its own. -/
import Derived.Test.YtcpbbgkeigbndaaGreatGr03
namespace Go.Proofs.YtcpbbgkeigbndaaGreat
open Go Go.RowKit Go.Lib Go.Sort

namespace Ax
def placesOf (P : Program) : List Field → Option (List (Nat × Nat))
  | [] => some []
  | f :: r => match P.info? f.type with
    | some i => match placesOf P r with
      | some l => some ((f.offset, i.size) :: l)
      | none => none
    | none => none
theorem placesOf_eq {P : Program} : ∀ {fs : List Field} {l : List (Nat × Nat)}, placesOf P fs = some l → fs.mapM (fun f => (P.info? f.type).map fun i => (f.offset, i.size)) = some l
  | [], l, h => by cases h; rfl
  | f :: r, l, h => by
    unfold placesOf at h
    split at h
    · rename_i i hi
      split at h
      · rename_i q hq
        cases h
        rw [List.mapM_cons, hi, placesOf_eq hq]; rfl
      · cases h
    · cases h
theorem foldl_setP (off : Nat) : ∀ (l : List Value) (k : Nat) (cells : Array Value), off + k + l.length ≤ cells.size →
    ((l.zipIdx k).foldl (fun cs (p : Value × Nat) => cs.setIfInBounds (off + p.2) p.1) cells).toList = cells.toList.take (off + k) ++ (l ++ cells.toList.drop (off + k + l.length))
  | [], k, cells, h => by simp
  | v :: l, k, cells, h => by
    simp only [List.length_cons] at h
    rw [List.zipIdx_cons, List.foldl_cons, foldl_setP off l (k + 1) _ (by simp; omega)]
    have hlt : off + k < cells.toList.length := by simp; omega
    obtain ⟨m, hm⟩ : ∃ m, m = off + k := ⟨_, rfl⟩
    simp only [Array.toList_setIfInBounds, List.length_cons]
    rw [show off + (k + 1) = m + 1 by omega, ← hm]
    rw [← hm] at hlt
    have hl : (cells.toList.take m).length = m := by rw [List.length_take]; omega
    have e0 : cells.toList.set m v = cells.toList.take m ++ v :: cells.toList.drop (m + 1) := by rw [List.set_eq_take_append_cons_drop, if_pos hlt]
    have e1 : (cells.toList.set m v).take (m + 1) = cells.toList.take m ++ [v] := by
      rw [e0, show cells.toList.take m ++ v :: cells.toList.drop (m + 1) = (cells.toList.take m ++ [v]) ++ cells.toList.drop (m + 1) by simp]
      exact List.take_left' (by rw [List.length_append, hl]; rfl)
    have e2 : (cells.toList.set m v).drop (m + 1 + l.length) = cells.toList.drop (m + (l.length + 1)) := by
      rw [e0, show cells.toList.take m ++ v :: cells.toList.drop (m + 1) = (cells.toList.take m ++ [v]) ++ cells.toList.drop (m + 1) by simp, List.drop_append, List.drop_of_length_le (by rw [List.length_append, hl]; simp)]
      rw [List.nil_append, List.length_append, hl, List.drop_drop]
      congr 1
      simp only [List.length_cons, List.length_nil]
      omega
    rw [e1, e2]
    simp
def okFn (P : Program) (f : FuncId) : Bool := match P.funcs[f]? with
  | some fn => match fn.name == "runtime.NumGoroutine" || fn.body.isNone with
    | true => false
    | false => true
  | none => false
theorem okFn_spec {P : Program} {W : World} {f : FuncId} (h : okFn P f = true) (args : Array Value) : (callFunc f args).run P W = .ok (.enter f args) W := by
  unfold okFn at h
  split at h
  · rename_i fn hf
    split at h
    · cases h
    · rename_i hb
      rw [Bool.or_eq_false_iff] at hb
      have hb1 : ¬ fn.name = "runtime.NumGoroutine" := by simpa using hb.1
      have hb2 : ¬ fn.body = none := by intro h; rw [h] at hb; exact absurd hb.2 (by decide)
      simp [callFunc, hf, hb1, hb2]
  · cases h
/-- What calls are known to come to. -/
structure Tab (P : Program) where
  t : Base → (Nat → Option Row) → Nat → FuncId → List SV → OR
  ok : ∀ b row m f args g ob, t b row m f args = some (g, ob) → (∀ p, ob = some p → p) → ∀ β W, See b β W row g.see → okFn P f = true ∧ Calls P f (SV.dens β args).toArray W fun e W' => ∃ v, e = .returned v ∧ EPost b β W row m g v W'
def rho (e : Operand → Option SV) (x : Operand) : Value := match e x with
  | some (.v v) => v
  | _ => undef
def isVal (e : Operand → Option SV) (x : Operand) : Bool := match e x with
  | some (.v _) => true
  | _ => false
/-- What an operation that gives a value does. -/
def semOf (ρ : Operand → Value) (o : Oper) : Option (Sem Value) :=
  match o.op with
  | .binOp op t x y _ => some (do eqGuard op t x y (ρ x) (ρ y); binOp op t (ρ x) (ρ y))
  | .unOp op _ x => some (Op.unary op (ρ x))
  | .convert s d x => some (convert s d (ρ x))
  | .slice t x lo hi mx => some (Instr.sliceAt t (ρ x) (lo.map ρ) (hi.map ρ) (mx.map ρ))
  | .index t x i => some (Instr.index t (ρ x) (ρ i))
  | .indexAddr t x i => some (Instr.indexAt t (ρ x) (ρ i))
  | .field t x f => some (Instr.field t (ρ x) f)
  | .load t x => some (Instr.loadAt t (ρ x))
  | .fieldAddr t x f => some (Instr.fieldAt t (ρ x) f)
  | .lookup t x i ok => some (Instr.lookup t (ρ x) (ρ i) ok)
  | .makeMap t r => some (Instr.makeMap t (r.map ρ))
  | .range t x => some (Instr.range t (ρ x))
  | .next x s => some (Instr.next (ρ x) s o.type)
  | .typeAssert x t u ok => some (Instr.typeAssert (ρ x) t u ok)
  | .makeSlice t l c => some (Instr.makeSlice t (ρ l) (ρ c))
  | .mapEntry t x k => some (Instr.mapEntry t (ρ x) (ρ k))
  | .box t x => some (Instr.box t (ρ x))
  | .makeChan t x => some (Instr.makeChan t (ρ x))
  | _ => none
def semUn (ρ : Operand → Value) (o : Oper) : Option (Sem Unit) :=
  match o.op with
  | .store t x y => some (Instr.storeAt t (ρ x) (ρ y))
  | .mapUpdate t x k v => some (Instr.mapUpdate t (ρ x) (ρ k) (ρ v))
  | .insert t x k v => some (Instr.mapUpdate t (ρ x) (ρ k) (ρ v))
  | .entryStore t x s v => some (Instr.entryStore t (ρ x) (ρ s) (ρ v))
  | _ => none
def pureRes (P : Program) (b : Base) (h : Option Hint) (e : Operand → Option SV) (o : Oper) : OR :=
  match allB (isVal e) o.op.operands.toList && Region.noSelect #[o] with
  | false => none
  | true => match h with
    | some (.any v) => match semOf (rho e) o with
      | some s => pureR (.v v) (some (∀ W, Cg b.S b.w W → s.run P W = .ok v W))
      | none => pureR (.v v) (some (∀ W, Cg b.S b.w W → (execOp (rho e) o).run P W = .ok (.value v) W))
    | some (.bin v) => match semOf (rho e) o with
      | some s => pureR (.v v) (some (∀ W, s.run P W = .ok v W))
      | none => none
    | some (.is v) => match pureRun P (execOp (rho e) o) with
      | some (.value u) => pureR (.v v) (some (u = v))
      | _ => none
    | _ => match pureRun P (execOp (rho e) o) with
      | some (.value u) => pureR (.v u) none
      | _ => none
/-- The operands, as they stand in a frame. -/
def rhoB (e : Operand → Option SV) (β : Env) (x : Operand) : Value := match e x with
  | some sv => sv.den β
  | none => undef
def isSV (e : Operand → Option SV) (x : Operand) : Bool := match e x with
  | some _ => true
  | none => false
def RunsV (P : Program) (s : Sem Value) (W : World) (Φ : Value → World → Prop) : Prop := ∃ v W', s.run P W = .ok v W' ∧ Φ v W'
def RunsU (P : Program) (s : Sem Unit) (W : World) (Φ : Value → World → Prop) : Prop := ∃ W', s.run P W = .ok () W' ∧ Φ undef W'
def CallsG (P : Program) (f : FuncId) (args : List Value) (W : World) (Φ : Value → World → Prop) : Prop := Calls P f args.toArray W fun e W' => ∃ v, e = .returned v ∧ Φ v W'
def svArgs (e : Operand → Option SV) : List Operand → Option (List SV)
  | [] => some []
  | x :: r => match e x, svArgs e r with
    | some sv, some l => some (sv :: l)
    | _, _ => none
/-- What a call's callee is, what it has captured. -/
def calleeOf (_P : Program) (e : Operand → Option SV) (x : Operand) : Option (FuncId × List SV × List SV) := match e x with
  | some sv => match sv with
    | .v v => match v with
      | .func fn first cap => match fn with
        | .func f => some (f, first.toList.map .v, cap.toList.map .v)
        | _ => none
      | _ => none
    | .clo f q l => some (f, q, l)
    | _ => none
  | none => none
/-- The method that a dynamic type has by a name, without a path: the function, whether it wants a pointer. -/
def methodOf (P : Program) (t : TypeId) (name : String) : Option (FuncId × Bool) := match P.info? t with
  | some i => match i.methods.find? (·.name == name) with
    | some m => match m.path.isEmpty with
      | true => m.func
      | false => none
    | none => none
  | none => none
def isPtrT (P : Program) (t : TypeId) : Bool := match P.underlying t with
  | some (.pointer _) => true
  | _ => false
def recvOf (P : Program) (t : TypeId) (name : String) (x : SV) : Option (FuncId × SV) := match P.underlying t with
  | none => none
  | some _ => match methodOf P t name with
    | some q => match isPtrT P t == q.2 with
      | true => some (q.1, x)
      | false => none
    | none => none
def invOf (P : Program) (e : Operand → Option SV) (recv : Operand) (name : String) : Option (FuncId × SV) := match e recv with
  | some (.ifc t x) => recvOf P t name x
  | some (.v (.iface t x)) => recvOf P t name (.v x)
  | _ => none
def callOf (P : Program) (e : Operand → Option SV) (c : Call) : Option (FuncId × List SV) := match c.callee with
  | .value x => match calleeOf P e x with
    | some p => match svArgs e c.args.toList with
      | some l => some (p.1, p.2.1 ++ (l ++ p.2.2))
      | none => none
    | none => none
  | .invoke r name => match invOf P e r name with
    | some p => match svArgs e c.args.toList with
      | some l => some (p.1, p.2 :: l)
      | none => none
    | none => none
  | _ => none
/-- An operation whose effect is said. -/
def effRes (P : Program) (b : Base) (e : Operand → Option SV) (row : Nat → Option Row) (m : Nat) (o : Oper) (g : Eff) : OR := match o.op with
  | .call c => match callOf P e c with
    | some p => match okFn P p.1 with
      | true => some (g, some (∀ β W, See b β W row g.see → CallsG P p.1 (SV.dens β p.2) W (EPost b β W row m g)))
      | false => none
    | none => none
  | _ => match allB (isSV e) o.op.operands.toList && Region.noSelect #[o] with
    | false => none
    | true => some (g, some (∀ β W, See b β W row g.see → match semOf (rhoB e β) o with
      | some s => RunsV P s W (EPost b β W row m g)
      | none => match semUn (rhoB e β) o with
        | some s => RunsU P s W (EPost b β W row m g)
        | none => False))
/-- Is a row an object whose value is a pointer that is not nil? -/
def isPtr : Option Row → Bool
  | some (.o t x) => (pred t x).ptr
  | some (.q t x) => (pred t x).ptr
  | _ => false
/-- A slice that has cells. -/
def filled : Option Row → Bool
  | some (.s _ sz n _) => Nat.blt 0 (n * sz)
  | some (.r sz n _) => Nat.blt 0 (n * sz)
  | some (.sw _ sz n _) => Nat.blt 0 (n * sz)
  | some (.sr sz n _) => Nat.blt 0 (n * sz)
  | _ => false
/-- A value that is surely not nil is compared with nil. -/
def notNil (P : Program) (row : Nat → Option Row) (t : TypeId) (s : SV) (v : Value) : Option (List Nat) := match v with
  | .pointer none => match P.underlying t with
    | some (.pointer _) => match s with
      | .p _ _ => some []
      | .o i => match isPtr (row i) with
        | true => some [i]
        | false => none
      | _ => none
    | _ => none
  | .slice none _ _ => match P.underlying t with
    | some (.slice _) => match s with
      | .sl _ _ _ _ => some []
      | .o i => match filled (row i) with
        | true => some [i]
        | false => none
      | _ => none
    | _ => none
  | .map none => match P.underlying t with
    | some (.map _ _) => match s with
      | .mp _ => some []
      | _ => none
    | _ => none
  | .nilIface => match P.underlying t with
    | some (.interface _) => match s with
      | .ifc _ _ => some []
      | _ => none
    | _ => none
  | .nilFunc => match P.underlying t with
    | some (.func _ _ _) => match s with
      | .clo _ _ _ => some []
      | _ => none
    | _ => none
  | _ => none
def nilRes (P : Program) (row : Nat → Option Row) (op : BinOp) (t : TypeId) (s : SV) (v : Value) : OR := match notNil P row t s v with
  | some see => match op with
    | .eql => seeR see (.v (.bool false)) none
    | .neq => seeR see (.v (.bool true)) none
    | _ => none
  | none => none
def offOf (P : Program) (s : TypeId) (f : Nat) : Option Nat := match P.underlying s with
  | some (.struct fields) => match fields[f]? with
    | some fd => match (P.info? fd.type).map (·.size) with
      | some (_ + 1) => some fd.offset
      | _ => none
    | none => none
  | _ => none
def rowLen : Option Row → Option Nat
  | some (.s _ _ n _) => some n
  | some (.r _ n _) => some n
  | some (.sw _ _ n _) => some n
  | some (.sr _ n _) => some n
  | some .z => some 0
  | _ => none
def opFieldAddr (P : Program) (row : Nat → Option Row) (s : TypeId) (f : Nat) (sv : SV) : OR := match offOf P s f with
  | none => none
  | some k => match sv with
    | .p i off => pureR (.p i (off + k)) none
    | .e i off => match rowLen (row i) with
      | some n => seeR [i] (.e i (off + k)) (some (0 < n))
      | none => none
    | _ => none
/-- Within the bounds: shown, or seen. -/
def inB (h : Option Hint) (k : Int) (len : Nat) : Option (Option Prop) := match h with
  | some .ix => some (some (0 ≤ k ∧ k < len))
  | _ => match decide (0 ≤ k ∧ k < len) with
    | true => some none
    | false => none
def opIndexAddr (P : Program) (row : Nat → Option Row) (h : Option Hint) (t : TypeId) (sv ix : SV) : OR := match ix with
  | .v (.int _ k) => match sv with
    | .p i off => match P.underlying t with
      | some (.array len elem) => match P.info? elem with
        | some inf => match inB h k len with
          | some ob => pureR (.p i (off + k.toNat * inf.size)) ob
          | none => none
        | none => none
      | _ => none
    | .sl i off len _ => match P.underlying t with
      | some (.slice elem) => match P.info? elem with
        | some inf => match inB h k len with
          | some ob => pureR (.p i (off + k.toNat * inf.size)) ob
          | none => none
        | none => none
      | _ => none
    | .o i => match rowLen (row i) with
      | some n => match P.underlying t with
        | some (.slice elem) => match P.info? elem with
          | some inf => match inB h k n with
            | some ob => seeR [i] (.e i (k.toNat * inf.size)) ob
            | none => none
          | none => none
        | _ => none
      | none => none
    | .sub i off n cut => match rowLen (row i) with
      | some N => match P.underlying t with
        | some (.slice elem) => match P.info? elem with
          | some inf => match inB h k n with
            | some ob => seeR [i] (.e i (off + k.toNat * inf.size)) (andO ob (some (cut + n ≤ N)))
            | none => none
          | none => none
        | _ => none
      | none => none
    | _ => none
  | _ => none
def opArr (P : Program) (row : Nat → Option Row) (arr : TypeId) (sv : SV) : OR := match P.underlying arr with
  | some (.array n _) => match Nat.blt 0 n with
    | true => match sv with
      | .o i => match rowLen (row i) with
        | some N => seeR [i] (.e i 0) (some (n ≤ N))
        | none => none
      | .sub i off m cut => match rowLen (row i) with
        | some N => seeR [i] (.e i off) (some (n ≤ m ∧ cut + m ≤ N))
        | none => none
      | _ => none
    | false => none
  | _ => none
def opField (P : Program) (t : TypeId) (f : Nat) (l : List SV) : OR := match P.underlying t with
  | some (.struct fields) => match fields[f]? with
    | some fd => match shapeOf P fd.type with
      | some (rw, size) => match readCs rw size fd.offset l with
        | some sv => pureR sv none
        | none => none
      | none => none
    | none => none
  | _ => none
def bnd (e : Operand → Option SV) (d : Nat) : Option Operand → Option Int
  | none => some d
  | some x => match e x with
    | some (.v (.int _ k)) => some k
    | _ => none
/-- The bounds of a slice expression: said, or seen. -/
def cutB (h : Option Hint) (kl kh : Int) (cap : Nat) : Option (Nat × Nat × Nat × Option Prop) := match h with
  | some (.cut l u) => some (l, u, u - l, some (kl = l ∧ kh = u ∧ l ≤ u ∧ u ≤ cap))
  | some (.win l n) => some (l, l + n, n, some (kl = l ∧ kh = (l + n : Nat) ∧ l + n ≤ cap))
  | _ => match decide (0 ≤ kl ∧ kl ≤ kh ∧ kh ≤ cap) with
    | true => some (kl.toNat, kh.toNat, kh.toNat - kl.toNat, none)
    | false => none
def opSlice (P : Program) (h : Option Hint) (e : Operand → Option SV) (row : Nat → Option Row) (t : TypeId) (sv : SV) (lo hi : Option Operand) : OR := match sv with
  | .o i => match rowLen (row i) with
    | some n => match appTy P t with
      | some (_, sz, _) => match bnd e 0 lo with
        | some kl => match bnd e n hi with
          | some kh => match cutB h kl kh n with
            | some (l, _, q, ob) => seeR [i] (.sub i (l * sz) q l) ob
            | none => none
          | none => none
        | none => none
      | none => none
    | none => none
  | .p i off => match P.underlying t with
    | some (.array len elem) => match P.info? elem with
      | some inf => match bnd e 0 lo with
        | some kl => match bnd e len hi with
          | some kh => match cutB h kl kh len with
            | some (l, _, q, ob) => match Nat.blt l len with
              | true => pureR (.sl i (off + l * inf.size) q (len - l)) ob
              | false => none
            | none => none
          | none => none
        | none => none
      | none => none
    | _ => none
  | .sl i off n cap => match appTy P t with
    | some (_, sz, _) => match bnd e 0 lo with
      | some kl => match bnd e n hi with
        | some kh => match cutB h kl kh cap with
          | some (l, _, q, ob) => match Nat.blt l cap with
            | true => pureR (.sl i (off + l * sz) q (cap - l)) ob
            | false => none
          | none => none
        | none => none
      | none => none
    | none => none
  | .sub i off n cut => match rowLen (row i) with
    | some N => match appTy P t with
      | some (_, sz, _) => match bnd e 0 lo with
        | some kl => match bnd e n hi with
          | some kh => match cutB h kl kh n with
            | some (l, _, q, ob) => match Nat.beq l 0 || (Nat.beq off 0 && Nat.beq cut 0) with
              | true => seeR [i] (.sub i (off + l * sz) q (cut + l)) (andO ob (some (cut + n ≤ N)))
              | false => seeR [i] (.sub i (off + l * sz) q (cut + l)) (andO ob (some (0 < q ∧ cut + n ≤ N)))
            | none => none
          | none => none
        | none => none
      | none => none
    | none => none
  | _ => none
def partsC (e : Operand → Option SV) : List (Nat × Operand) → Option (List (Nat × List SV))
  | [] => some []
  | p :: l => match e p.2 with
    | some sv => match svCells sv with
      | some c => match partsC e l with
        | some r => some ((p.1, c) :: r)
        | none => none
      | none => none
    | none => none
def fillL (place : Nat → Option (Nat × Nat)) : List SV → List (Nat × List SV) → Option (List SV)
  | cells, [] => some cells
  | cells, p :: rest => match place p.1 with
    | none => none
    | some q => match Nat.beq p.2.length q.2 && Nat.ble (q.1 + p.2.length) cells.length with
      | true => fillL place (cells.take q.1 ++ (p.2 ++ cells.drop (q.1 + p.2.length))) rest
      | false => none
def opBuild (P : Program) (e : Operand → Option SV) (t : TypeId) (parts : List (Nat × Operand)) : OR := match P.info? t with
  | some it => match it.zero with
    | some z => match partsC e parts with
      | some ps => match P.underlying t with
        | some (.struct fields) => match placesOf P fields.toList with
          | some places => match fillL (fun i => places[i]?) (z.cells.toList.map .v) ps with
            | some l => pureR (mkAg l) none
            | none => none
          | none => none
        | some (.array _ el) => match P.info? el with
          | some inf => match fillL (fun i => some (i * inf.size, inf.size)) (z.cells.toList.map .v) ps with
            | some l => pureR (mkAg l) none
            | none => none
          | none => none
        | _ => none
      | none => none
    | none => none
  | none => none
def opBuildSlice (P : Program) (h : Option Hint) (e : Operand → Option SV) (m : Nat) (t : TypeId) (len : Nat) (parts : List (Nat × Operand)) : OR := match P.underlying t with
  | some (.slice el) => match P.info? el with
    | some inf => match inf.zero with
      | some z => match partsC e parts with
        | some ps => match Nat.ble (len * inf.size) 16777216 && (Nat.blt 0 (len * inf.size) && Nat.beq z.cells.toList.length inf.size) with
          | true => match fillL (fun i => some (i * inf.size, inf.size)) ((zerosL z.cells.toList len).map .v) ps with
            | some l => match h with
              | some (.own _ _) => match allV l with
                | some vs => match Nat.beq vs.length (len * inf.size) && (Nat.ble len 9223372036854775807 && allB (·.oneCell') vs) with
                  | true => some (⟨[], [], [], [.s el inf.size len vs], .o m⟩, none)
                  | false => none
                | none => none
              | _ => match ltAll m (SV.idxs l) with
                | true => some (⟨[], [], [], [.c none el (mkCs l)], .sl m 0 len len⟩, none)
                | false => none
            | none => none
          | false => none
        | none => none
      | none => none
    | none => none
  | _ => none
/-- Which cells, nil slices, become slices of the call's own. -/
def nilsAt (m : Nat) : Nat → List (Nat × TypeId × Nat) → List SV → Option (List SV)
  | _, [], l => some l
  | k, q :: r, l => match l[q.1]? with
    | some (.v (.slice none 0 0)) => nilsAt m (k + 1) r (l.set q.1 (.o (m + k)))
    | _ => none
def opVar (_P : Program) (h : Option Hint) (m : Nat) (t : TypeId) (l : List SV) : OR := match h with
  | some (.nils q) => match ltAll m (SV.idxs l) with
    | true => match nilsAt m 1 q l with
      | some l' => some (⟨[], [], [], .c none t (mkCs l') :: q.map (fun x => .s x.2.1 x.2.2 0 []), .p m 0⟩, none)
      | none => none
    | false => none
  | _ => match ltAll m (SV.idxs l) with
    | true => some (⟨[], [], [], [.c none t (mkCs l)], .p m 0⟩, none)
    | false => none
def orElseR : OR → OR → OR
  | some r, _ => some r
  | none, r => r
def opCall (P : Program) (T : Tab P) (b : Base) (h : Option Hint) (e : Operand → Option SV) (row : Nat → Option Row) (m : Nat) (o : Oper) (c : Call) : OR := match appArgs c with
  | some (t, x, y) => match e x with
    | some sx => match e y with
      | some sy => opAppend P b h row m t sx sy
      | none => none
    | none => none
  | none => match copyArgs c with
    | some (t, _, x, y) => match e x with
      | some sx => match e y with
        | some sy => opCopy P b h row t sx sy
        | none => none
      | none => none
    | none => match lenArg c with
      | some (t, x) => match e x with
        | some sx => orElseR (opLen P row t sx) (pureRes P b h e o)
        | none => none
      | none => match callOf P e c with
        | some p => T.t b row m p.1 p.2
        | none => pureRes P b h e o
def opConvert (P : Program) (b : Base) (h : Option Hint) (e : Operand → Option SV) (row : Nat → Option Row) (o : Oper) (s d : TypeId) (sv : SV) : OR := match h with
  | some (.is (.string c)) => match isBytes P s d with
    | true => match srcOf b row 1 sv with
      | some (m, news, ob, see) => seeR see (.v (.string c)) (andO ob (some (c.size = m ∧ news = c.data.toList.map fun x => .int .u8 (x.toNat : Int))))
      | none => none
    | false => pureRes P b h e o
  | _ => pureRes P b h e o
def opEffB (P : Program) (T : Tab P) (b : Base) (H : List (Nat × Hint)) (h : Option Hint) (e : Operand → Option SV) (row : Nat → Option Row) (m : Nat) (o : Oper) : OR :=
  match h with
  | some (.eff g) => effRes P b e row m o g
  | h => match o.op with
    | .move x => match e x with
      | some sv => match h with
        | some (.own t size) => match sv with
          | .v (.slice none 0 0) => some (⟨[], [], [], [.s t size 0 []], .o m⟩, none)
          | sv => pureR sv none
        | none => pureR sv none
        | _ => pureRes P b h e o
      | none => none
    | .assign x => match e x with
      | some sv => match h with
        | some (.own t size) => match sv with
          | .v (.slice none 0 0) => some (⟨[], [], [], [.s t size 0 []], .o m⟩, none)
          | sv => pureR sv none
        | none => pureR sv none
        | _ => pureRes P b h e o
      | none => none
    | .nilCheck x => match e x with
      | some (.p i off) => pureR (.p i off) none
      | some (.clo f q l) => pureR (.clo f q l) none
      | some (.o i) => match isPtr (row i) with
        | true => seeR [i] (.o i) none
        | false => none
      | _ => pureRes P b h e o
    | .alloc t => match P.info? t with
      | some inf => match inf.zero with
        | some z => opVar P h m t (z.cells.toList.map .v)
        | none => none
      | none => none
    | .box t x => match e x with
      | some sv => match svCells sv with
        | some l => opVar P h m t l
        | none => none
      | none => none
    | .load t x => match e x with
      | some (.p i off) => match row i with
        | some r => match isCells r with
          | true => loadRow P t i r off h
          | false => none
        | none => none
      | some (.e i off) => match row i with
        | some r => match isCells r with
          | true => none
          | false => loadRow P t i r off h
        | none => none
      | _ => match h with
        | some (.any v) => pureRes P b (some (.any v)) e o
        | _ => none
    | .store t x y => match e x with
      | some (.p i off) => match e y with
        | some sv => match row i with
          | some r => match isCells r with
            | true => storeRow P t i r off sv (hint2 H x)
            | false => none
          | none => none
        | none => none
      | some (.e i off) => match e y with
        | some sv => match row i with
          | some r => match isCells r with
            | true => none
            | false => storeRow P t i r off sv (hint2 H x)
          | none => none
        | none => none
      | _ => none
    | .extract x k => match e x with
      | some (.tp l) => match l[k]? with
        | some sv => pureR sv none
        | none => none
      | _ => pureRes P b h e o
    | .field t x f => match e x with
      | some (.ag l) => opField P t f l
      | _ => pureRes P b h e o
    | .fieldAddr s x f => match e x with
      | some sv => orElseR (opFieldAddr P row s f sv) (pureRes P b h e o)
      | none => none
    | .indexAddr t x ix => match e x with
      | some sv => match e ix with
        | some iv => orElseR (opIndexAddr P row h t sv iv) (pureRes P b h e o)
        | none => none
      | none => none
    | .sliceToArrayPointer arr x => match e x with
      | some sv => opArr P row arr sv
      | none => none
    | .slice t x lo hi mx => match mx with
      | none => match e x with
        | some sv => orElseR (opSlice P h e row t sv lo hi) (pureRes P b h e o)
        | none => none
      | some _ => pureRes P b h e o
    | .build t parts => match allB (fun p => isVal e p.2) parts.toList with
      | true => pureRes P b h e o
      | false => opBuild P e t parts.toList
    | .buildSlice t len parts => opBuildSlice P h e m t len parts.toList
    | .makeFunc fn first captured => match fn with
      | .func f => match svArgs e first.toList with
        | some q => match svArgs e captured.toList with
          | some l => match allV (q ++ l) with
            | some _ => pureRes P b h e o
            | none => pureR (.clo f q l) none
          | none => none
        | none => none
      | _ => none
    | .makeInterface t x => match e x with
      | some (.v _) => pureRes P b h e o
      | some sv => match P.concrete t with
        | true => pureR (.ifc t sv) none
        | false => none
      | none => none
    | .makeSlice t l c => opMake P h m t (e l) (e c)
    | .binOp op t x y _ => match e x with
      | some s => match e y with
        | some (.v v) => orElseR (nilRes P row op t s v) (pureRes P b h e o)
        | _ => none
      | none => none
    | .convert s d x => match e x with
      | some sv => opConvert P b h e row o s d sv
      | none => none
    | .call c => opCall P T b h e row m o c
    | _ => pureRes P b h e o
/-- A slice that came in can be read, in whatever the call makes of the world. -/
def GivenX (b : Base) (size : Nat) (s : Value) (n : Nat) (xs : List Value) : Prop := ∀ W, Cg b.S b.w W → Rd W size s n xs
def opnAt (m : Nat) : Nat → List (Nat × Nat × Nat × List Value) → List SV → Option (List SV × List Value)
  | _, [], l => some (l, [])
  | k, q :: r, l => match l[q.1]? with
    | some (.v s) => match opnAt m (k + 1) r (l.set q.1 (.o (m + k))) with
      | some p => some (p.1, s :: p.2)
      | none => none
    | _ => none
def opnOb (b : Base) : List (Nat × Nat × Nat × List Value) → List Value → Option Prop
  | q :: r, s :: ss => andO (some (GivenX b q.2.1 s q.2.2.1 q.2.2.2)) (opnOb b r ss)
  | _, _ => none
def isAg : SV → Bool
  | .v (.agg _) => true
  | .ag _ => true
  | _ => false
def opnRet (sv : SV) (l : List SV) : Option SV := match isAg sv with
  | true => some (.ag l)
  | false => match l with
    | [c] => some c
    | _ => none
def openR (b : Base) (m : Nat) (q : List (Nat × Nat × Nat × List Value)) : OR → OR
  | some (⟨see, [], [], [], sv⟩, ob) => match ltAll m sv.idx with
    | true => match svCells sv with
      | some cells => match opnAt m 0 q cells with
        | some p => match opnRet sv p.1 with
          | some ret => some (⟨see, [], [], q.map (fun x => .r x.2.1 x.2.2.1 x.2.2.2), ret⟩, andO ob (opnOb b q p.2))
          | none => none
        | none => none
      | none => none
    | false => none
  | _ => none
def open1 (b : Base) (m size n : Nat) (xs : List Value) : OR → OR
  | some (⟨see, [], [], [], .v x⟩, ob) => some (⟨see, [], [], [.r size n xs], .o m⟩, andO ob (some (GivenX b size x n xs)))
  | _ => none
def sayR (v : Value) : OR → OR
  | some (⟨see, upd, kill, new, .v u⟩, ob) => some (⟨see, upd, kill, new, .v v⟩, andO ob (some (u = v)))
  | _ => none
/-- Nil slices of a value become slices of the call's own. -/
def ownR (m : Nat) (q : List (Nat × TypeId × Nat)) : OR → OR
  | some (⟨see, [], [], [], sv⟩, ob) => match ltAll m sv.idx && isAg sv with
    | true => match svCells sv with
      | some cells => match nilsAt m 0 q cells with
        | some l => some (⟨see, [], [], q.map (fun x => .s x.2.1 x.2.2 0 []), .ag l⟩, ob)
        | none => none
      | none => none
    | false => none
  | _ => none
def isVarOp (o : Oper) : Bool := match o.op with
  | .alloc _ => true
  | .box _ _ => true
  | _ => false
def opEff (P : Program) (T : Tab P) (b : Base) (H : List (Nat × Hint)) (e : Operand → Option SV) (row : Nat → Option Row) (m : Nat) (o : Oper) : OR :=
  match hint H o.dst with
  | some (.opn q) => openR b m q (opEffB P T b H none e row m o)
  | some (.nils q) => match isVarOp o with
    | true => opEffB P T b H (some (.nils q)) e row m o
    | false => ownR m q (opEffB P T b H none e row m o)
  | some (.eq v) => sayR v (opEffB P T b H none e row m o)
  | some (.op1 size n xs) => open1 b m size n xs (opEffB P T b H none e row m o)
  | h => opEffB P T b H h e row m o
end Ax
end Go.Proofs.YtcpbbgkeigbndaaGreat

/- A reckoner of calls, part 7: what an operation is said to come to is what the model's operation comes to. Proved over any program. No condition of its own. -/
namespace Go.Proofs.YtcpbbgkeigbndaaGreat
open Go Go.RowKit Go.Lib Go.Sort

namespace Ax
section
variable {P : Program} {T : Tab P} {b : Base} {H : List (Nat × Hint)} {h : Option Hint} {β : Env} {W : World} {a : Act} {o : Oper} {e : Operand → Option SV} {row : Nat → Option Row} {m : Nat} {g : Eff} {ob : Option Prop}
/-- The operands are what the frame says. -/
def Agree (o : Oper) (a : Act) (e : Operand → Option SV) (β : Env) : Prop := ∀ x ∈ o.op.operands, ∀ sv, e x = some sv → a.eval x = sv.den β
theorem rho_eq (he : Agree o a e β) (h : allB (isVal e) o.op.operands.toList = true) (hs : Region.noSelect #[o] = true) : execOp a.eval o = execOp (rho e) o := by
  refine execOp_congr o ?_ fun x hx => ?_
  · exact fun cs b => Region.noSelect_spec hs 0 o cs b rfl
  · have := allB_spec h x (by simpa using hx)
    unfold isVal at this
    unfold rho
    split at this
    · rename_i v hv
      rw [he x hx _ hv]
      rfl
    · cases this
theorem rhoB_eq (he : Agree o a e β) (h : allB (isSV e) o.op.operands.toList = true) (hs : Region.noSelect #[o] = true) : execOp a.eval o = execOp (rhoB e β) o := by
  refine execOp_congr o ?_ fun x hx => ?_
  · exact fun cs b => Region.noSelect_spec hs 0 o cs b rfl
  · have := allB_spec h x (by simpa using hx)
    unfold isSV at this
    unfold rhoB
    split at this
    · rename_i v hv
      rw [he x hx _ hv]
    · cases this
theorem semOf_ok {ρ : Operand → Value} {s : Sem Value} (h : semOf ρ o = some s) {v : Value} {W' : World} (hr : s.run P W = .ok v W') : (execOp ρ o).run P W = .ok (.value v) W' := by
  unfold semOf at h
  split at h
  all_goals first
    | cases h; done
    | (rename_i ho; cases h; unfold execOp; simp only [ho]; rw [Sem.run_bind, hr]; rfl)
theorem semUn_ok {ρ : Operand → Value} {s : Sem Unit} (h : semUn ρ o = some s) {W' : World} (hr : s.run P W = .ok () W') : (execOp ρ o).run P W = .ok .skip W' := by
  unfold semUn at h
  split at h
  all_goals first
    | cases h; done
    | (rename_i ho; cases h; unfold execOp; simp only [ho]; rw [Sem.run_bind, hr]; rfl)
theorem pureRes_ok (he : Agree o a e β) (hr : pureRes P b h e o = some (g, ob)) (hob : ∀ p, ob = some p → p) (hw : Cg b.S b.w W) : Runs P o a W (EPost b β W row m g) := by
  unfold pureRes at hr
  split at hr
  · cases hr
  · rename_i hb
    rw [Bool.and_eq_true] at hb
    have hq := rho_eq he hb.1 hb.2
    split at hr
    · split at hr
      · rename_i s hs
        cases hr
        refine runs_pure ?_
        rw [hq]
        exact semOf_ok hs (hob _ rfl W hw)
      · cases hr
        refine runs_pure ?_
        rw [hq]
        exact hob _ rfl W hw
    · split at hr
      · rename_i s hs
        cases hr
        refine runs_pure ?_
        rw [hq]
        exact semOf_ok hs (hob _ rfl W)
      · cases hr
    · split at hr
      · rename_i u hu
        cases hr
        refine runs_pure ?_
        rw [hq, pureRun_ok hu W, hob _ rfl]
        rfl
      · cases hr
    · split at hr
      · rename_i u hu
        cases hr
        refine runs_pure ?_
        rw [hq, pureRun_ok hu W]
        rfl
      · cases hr
theorem svArgs_ok : ∀ {xs : List Operand} {l : List SV}, svArgs e xs = some l → (∀ x ∈ xs, ∀ sv, e x = some sv → a.eval x = sv.den β) → xs.map a.eval = SV.dens β l
  | [], l, h, _ => by
    have : l = [] := by simpa [svArgs] using h.symm
    subst this
    rfl
  | x :: r, l, h, he => by
    unfold svArgs at h
    split at h
    · rename_i sv l' hx hr
      cases h
      rw [List.map_cons, SV.dens, he x (by simp) _ hx, svArgs_ok hr fun y hy => he y (by simp [hy])]
    · cases h
theorem callee_ok {x : Operand} {p : FuncId × List SV × List SV} (h : calleeOf P e x = some p) (hx : ∀ sv, e x = some sv → a.eval x = sv.den β) : ∃ fst cap : Array Value, a.eval x = .func (.func p.1) fst cap ∧ fst.toList = SV.dens β p.2.1 ∧ cap.toList = SV.dens β p.2.2 := by
  unfold calleeOf at h
  split at h
  · rename_i sv hsv
    have hx := hx _ hsv
    split at h
    · rename_i v
      split at h
      · rename_i fn first cap
        split at h
        · rename_i f
          cases h
          exact ⟨first, cap, hx, by rw [dens_v], by rw [dens_v]⟩
        · cases h
      · cases h
    · rename_i f q l
      cases h
      exact ⟨_, _, hx, rfl, rfl⟩
    · cases h
  · cases h
theorem method_run {t : TypeId} {name : String} {v : Value} {d : TypeDesc} {f : FuncId} {p : Bool} (hu : P.underlying t = some d) (hm : methodOf P t name = some (f, p)) (hp : isPtrT P t = p) (k : Nat) : (method (k + 1) t v name).run P W = .ok (f, v) W := by
  unfold methodOf at hm
  split at hm
  · rename_i i hi
    split at hm
    · rename_i m hf
      split at hm
      · rename_i hpath
        have hpl : m.path.toList = [] := by
          rw [Array.isEmpty_iff] at hpath
          rw [hpath]
        have hti : (typeInfo t).run P W = .ok i W := by
          show (match P.info? t with
            | some i => (pure i : Sem _)
            | none => stuck "no such type").run P W = _
          rw [hi]
          rfl
        have hun : (underlying t).run P W = .ok d W := by
          show (match P.underlying t with
            | some d => (pure d : Sem _)
            | none => stuck "no such type").run P W = _
          rw [hu]
          rfl
        unfold method
        simp only [Sem.run_bind, hti, Result.andThen_ok, hf, hpl, follow, Sem.run_pure, hm]
        unfold receiverAt
        simp only [Sem.run_bind, hun, Result.andThen_ok]
        unfold isPtrT at hp
        rw [hu] at hp
        cases p with
        | true =>
          split at hp
          · rename_i el hd
            cases hd
            simp only [Place.get, Sem.run_pure, Result.andThen_ok]
          · cases hp
        | false =>
          split at hp
          · cases hp
          · rename_i hd
            cases d with
            | pointer el => exact absurd rfl (hd el)
            | _ => simp only [Place.get, Sem.run_pure, Result.andThen_ok]
      · cases hm
    · cases hm
  · cases hm
theorem recv_run {t : TypeId} {name : String} {v : Value} {x : SV} {q : FuncId × SV} (h : recvOf P t name x = some q) (args : Array Value) (hf : okFn P q.1 = true) : (callMethod (.iface t v) name args).run P W = .ok (.enter q.1 (#[v] ++ args)) W ∧ q.2 = x := by
  unfold recvOf at h
  split at h
  · cases h
  · rename_i d hu
    split at h
    · rename_i q' hm
      split at h
      · rename_i hp
        cases h
        refine ⟨?_, rfl⟩
        have hk : P.types.size + Made.depth = (P.types.size + 99) + 1 := rfl
        unfold callMethod
        simp only [Sem.run_bind, run_program, Result.andThen_ok]
        rw [hk, method_run hu hm (by simpa using hp)]
        simp only [Result.andThen_ok]
        exact okFn_spec hf _
      · cases h
    · cases h
theorem callOf_ok {c : Call} {p : FuncId × List SV} (ho : o.op = .call c) (h : callOf P e c = some p) (he : Agree o a e β) (hf : okFn P p.1 = true) : (execOp a.eval o).run P W = .ok (.enter p.1 (SV.dens β p.2).toArray) W := by
  unfold callOf at h
  split at h
  · rename_i x hcal
    split at h
    · rename_i q hp
      split at h
      · rename_i l hl
        cases h
        obtain ⟨callee, args, ats⟩ := c
        simp only at hcal hl
        subst hcal
        obtain ⟨fst, cap, hev, hfst, hcap⟩ := callee_ok (a := a) (β := β) hp (fun sv hsv => he x (by simp [ho, Op.operands, Call.operands]) sv hsv)
        have hm := svArgs_ok (β := β) (a := a) hl (fun x hx sv hsv => he x (by
          have hx : x ∈ args := Array.mem_toList_iff.1 hx
          simp [ho, Op.operands, Call.operands, hx]) sv hsv)
        have hm2 : fst ++ (args.map a.eval ++ cap) = (SV.dens β (q.2.1 ++ (l ++ q.2.2))).toArray := by
          rw [dens_append, dens_append, ← hm, ← hcap, ← hfst, ← Array.toList_map, ← Array.toList_append, ← Array.toList_append, Array.toArray_toList]
        unfold execOp
        simp only [ho, resolve, hev, Deferred.ofValue, invoke, Sem.run_bind, Sem.run_pure, Result.andThen_ok]
        rw [Array.append_assoc, hm2]
        exact okFn_spec hf _
      · cases h
    · cases h
  · rename_i r name hcal
    split at h
    · rename_i q hq
      split at h
      · rename_i l hl
        cases h
        obtain ⟨callee, args, ats⟩ := c
        simp only at hcal hl
        subst hcal
        have hm := svArgs_ok (β := β) (a := a) hl (fun x hx sv hsv => he x (by
          have hx : x ∈ args := Array.mem_toList_iff.1 hx
          simp [ho, Op.operands, Call.operands, hx]) sv hsv)
        have hr : ∀ sv, e r = some sv → a.eval r = sv.den β := fun sv hsv => he r (by simp [ho, Op.operands, Call.operands]) sv hsv
        have key : ∀ (t : TypeId) (x : SV), a.eval r = .iface t (x.den β) → recvOf P t name x = some q → (execOp a.eval o).run P W = .ok (.enter q.1 (SV.dens β (q.2 :: l)).toArray) W := by
          intro t x hev hrec
          obtain ⟨h1, h2⟩ := recv_run (W := W) (v := x.den β) hrec (args.map a.eval) hf
          unfold execOp
          simp only [ho, resolve, Sem.run_bind, Sem.run_pure, Result.andThen_ok, invoke, hev]
          have e1 : (#[Value.iface t (x.den β)] ++ args.map a.eval)[0]? = some (Value.iface t (x.den β)) := by
            rw [Array.getElem?_append_left (Nat.zero_lt_one)]
            rfl
          have e2 : (#[Value.iface t (x.den β)] ++ args.map a.eval).extract 1 (#[Value.iface t (x.den β)] ++ args.map a.eval).size = args.map a.eval := by
            rw [Array.extract_append]
            simp
          simp only [e1, e2]
          rw [h1, h2]
          congr 2
          apply Array.toList_inj.1
          rw [SV.dens]
          simp [← hm]
        unfold invOf at hq
        split at hq
        · rename_i t x hx
          exact key t x (hr _ hx) hq
        · rename_i t x hx
          exact key t (.v x) (hr _ hx) hq
        · cases hq
      · cases h
    · cases h
  · cases h
theorem effRes_ok {g0 : Eff} (he : Agree o a e β) (hr : effRes P b e row m o g0 = some (g, ob)) (hob : ∀ p, ob = some p → p) (hs : See b β W row g.see) : Runs P o a W (EPost b β W row m g) := by
  unfold effRes at hr
  split at hr
  · rename_i c ho
    split at hr
    · rename_i p hp
      split at hr
      · rename_i hf
        cases hr
        exact .inr (.inr ⟨_, _, callOf_ok ho hp he hf, hob _ rfl β W hs⟩)
      · cases hr
    · cases hr
  · split at hr
    · cases hr
    · rename_i hb
      rw [Bool.and_eq_true] at hb
      have hq := rhoB_eq he hb.1 hb.2
      cases hr
      have := hob _ rfl β W hs
      split at this
      · rename_i s hs
        obtain ⟨v, W', h1, h2⟩ := this
        exact .inl ⟨v, W', by rw [hq]; exact semOf_ok hs h1, h2⟩
      · split at this
        · rename_i s hs
          obtain ⟨W', h1, h2⟩ := this
          exact .inr (.inl ⟨W', by rw [hq]; exact semUn_ok hs h1, h2⟩)
        · exact this.elim
theorem isPtr_ok {i : Nat} (h : isPtr (row i) = true) {see : List Nat} (hs : See b β W row see) (hi : i ∈ see) : ∃ ad, β.v i = .pointer (some ad) := by
  unfold isPtr at h
  split at h
  · rename_i t x hrow
    exact (pred t x).isptr (hs.held i hi _ hrow) h
  · rename_i t x hrow
    obtain ⟨F, hF⟩ := hs.held i hi _ hrow W hs.cg
    exact (pred t x).isptr hF h
  · cases h
theorem rd_filled {size n : Nat} {xs : List Value} {v : Value} (h : Rd W size v n xs) (hn : 0 < n * size) : ∃ ad c, v = .slice (some ad) n c := by
  obtain ⟨_, _, A, c, hv, _, hA⟩ := h
  have : 0 < n := by
    rcases Nat.eq_zero_or_pos n with hz | hz
    · subst hz; simp at hn
    · exact hz
  obtain ⟨g, o, rfl, _⟩ := hA this
  exact ⟨_, c, hv⟩
theorem filled_ok {i : Nat} (h : filled (row i) = true) {see : List Nat} (hs : See b β W row see) (hi : i ∈ see) : ∃ ad n c, β.v i = .slice (some ad) n c := by
  unfold filled at h
  split at h
  · rename_i hrow
    obtain ⟨ad, c, hv⟩ := rd_filled (rowRd (hs.held i hi _ hrow) hs.cg (.inl ⟨_, rfl⟩)) (Nat.le_of_ble_eq_true h)
    exact ⟨ad, _, c, hv⟩
  · rename_i hrow
    obtain ⟨ad, c, hv⟩ := rd_filled (rowRd (hs.held i hi _ hrow) hs.cg (.inr rfl)) (Nat.le_of_ble_eq_true h)
    exact ⟨ad, _, c, hv⟩
  · rename_i hrow
    obtain ⟨ad, c, hv⟩ := rd_filled (Rd.of_own (hs.held i hi _ hrow).1 (hs.held i hi _ hrow).2.2) (Nat.le_of_ble_eq_true h)
    exact ⟨ad, _, c, hv⟩
  · rename_i hrow
    obtain ⟨ad, c, hv⟩ := rd_filled (hs.held i hi _ hrow W hs.cg) (Nat.le_of_ble_eq_true h)
    exact ⟨ad, _, c, hv⟩
  · cases h
theorem notNil_ok {t : TypeId} {s : SV} {v : Value} {see : List Nat} (h : notNil P row t s v = some see) {see' : List Nat} (hs : See b β W row see') (hsub : ∀ i ∈ see, i ∈ see') : (∀ d, (Op.equalIn (d + 1) t (s.den β) v).run P W = .ok false W) ∧ ((∃ a n c n' c', s.den β = .slice a n c ∧ v = .slice none n' c') ∨ (∃ a, s.den β = .pointer a ∧ v = .pointer none) ∨ (∃ t' p, s.den β = .iface t' p ∧ v = .nilIface) ∨ (∃ f x y, s.den β = .func f x y ∧ v = .nilFunc) ∨ ∃ r, s.den β = .map r ∧ v = .map none) := by
  unfold notNil at h
  split at h
  · split at h
    · rename_i el hu
      split at h
      · exact ⟨fun d => by simp [Op.equalIn, SV.den, run_underlying hu], .inr (.inl ⟨_, rfl, rfl⟩)⟩
      · rename_i i
        split at h
        · rename_i hp
          cases h
          obtain ⟨ad, hv⟩ := isPtr_ok hp hs (hsub i (by simp))
          exact ⟨fun d => by simp [Op.equalIn, SV.den, hv, oneV, run_underlying hu], .inr (.inl ⟨_, by simp only [SV.den, hv]; rfl, rfl⟩)⟩
        · cases h
      · cases h
    · cases h
  · split at h
    · rename_i el hu
      split at h
      · exact ⟨fun d => by simp [Op.equalIn, SV.den, run_underlying hu], .inl ⟨_, _, _, _, _, rfl, rfl⟩⟩
      · rename_i i
        split at h
        · rename_i hp
          cases h
          obtain ⟨ad, n, c, hv⟩ := filled_ok hp hs (hsub i (by simp))
          exact ⟨fun d => by simp [Op.equalIn, SV.den, hv, oneV, run_underlying hu], .inl ⟨_, _, _, _, _, by simp only [SV.den, hv]; rfl, rfl⟩⟩
        · cases h
      · cases h
    · cases h
  · split at h
    · rename_i hu
      split at h
      · exact ⟨fun d => by simp [Op.equalIn, SV.den, run_underlying hu], .inr (.inr (.inr (.inr ⟨_, rfl, rfl⟩)))⟩
      · cases h
    · cases h
  · split at h
    · rename_i el hu
      split at h
      · exact ⟨fun d => by simp [Op.equalIn, SV.den, run_underlying hu], .inr (.inr (.inl ⟨_, _, rfl, rfl⟩))⟩
      · cases h
    · cases h
  · split at h
    · rename_i hu
      split at h
      · exact ⟨fun d => by simp [Op.equalIn, SV.den, run_underlying hu], .inr (.inr (.inr (.inl ⟨_, _, _, rfl, rfl⟩)))⟩
      · cases h
    · cases h
  · cases h
theorem nilRes_ok {op : BinOp} {t yt : TypeId} {x y : Operand} {s : SV} {v : Value} (ho : o.op = .binOp op t x y yt) (hx : a.eval x = s.den β) (hy : a.eval y = v) (hr : nilRes P row op t s v = some (g, ob)) (hs : See b β W row g.see) : Runs P o a W (EPost b β W row m g) := by
  unfold nilRes at hr
  split at hr
  · rename_i see hn
    have key : ∀ see', See b β W row see' → (∀ i ∈ see, i ∈ see') → (do eqGuard .eql t x y (s.den β) v; binOp .eql t (s.den β) v : Sem Value).run P W = .ok (.bool false) W ∧ (do eqGuard .neq t x y (s.den β) v; binOp .neq t (s.den β) v : Sem Value).run P W = .ok (.bool true) W := by
      intro see' hs hsub
      obtain ⟨he, hf⟩ := notNil_ok hn hs hsub
      have he := he 9999
      rcases hf with ⟨_, _, _, _, _, h1, h2⟩ | ⟨_, h1, h2⟩ | ⟨_, _, h1, h2⟩ | ⟨_, _, _, h1, h2⟩ | ⟨_, h1, h2⟩
      all_goals
        subst h2
        rw [h1] at he ⊢
        constructor <;> simp [eqGuard, binOp, Op.equal, Op.maxDepth, he]
    split at hr
    · cases hr
      refine runs_pure ?_
      have := (key see hs fun i hi => hi).1
      unfold execOp
      simp only [ho, hx, hy, Sem.run_bind, Sem.run_pure] at this ⊢
      rw [this]
      rfl
    · cases hr
      refine runs_pure ?_
      have := (key see hs fun i hi => hi).2
      unfold execOp
      simp only [ho, hx, hy, Sem.run_bind, Sem.run_pure] at this ⊢
      rw [this]
      rfl
    · cases hr
  · cases hr
theorem rowLen_ok {i n : Nat} (h : rowLen (row i) = some n) {see : List Nat} (hs : See b β W row see) (hi : i ∈ see) : ∃ size xs, Rd W size (β.v i) n xs := by
  unfold rowLen at h
  split at h
  · rename_i hrow
    cases h
    exact ⟨_, _, rowRd (hs.held i hi _ hrow) hs.cg (.inl ⟨_, rfl⟩)⟩
  · rename_i hrow
    cases h
    exact ⟨_, _, rowRd (hs.held i hi _ hrow) hs.cg (.inr rfl)⟩
  · rename_i hrow
    cases h
    exact ⟨_, _, Rd.of_own (hs.held i hi _ hrow).1 (hs.held i hi _ hrow).2.2⟩
  · rename_i hrow
    cases h
    exact ⟨_, _, hs.held i hi _ hrow W hs.cg⟩
  · rename_i hrow
    cases h
    obtain ⟨A, c, hz⟩ := hs.held i hi _ hrow
    exact ⟨1, [], by simp, by simp, A, c, hz, Nat.zero_le _, fun h => absurd h (by simp)⟩
  · cases h
theorem offOf_run {s : TypeId} {f k : Nat} (h : offOf P s f = some k) (g' off : Nat) : (Instr.fieldAt s (.pointer (some ⟨g', off, none⟩)) f).run P W = .ok (.pointer (some ⟨g', off + k, none⟩)) W := by
  unfold offOf at h
  split at h
  · rename_i fields hu
    split at h
    · rename_i fd hf
      split at h
      · rename_i k' hk
        cases h
        cases hq : P.info? fd.type with
        | none => rw [hq] at hk; cases hk
        | some inf =>
          rw [hq] at hk
          have hk : inf.size = k' + 1 := by simpa using hk
          simp [Instr.fieldAt, run_underlying hu, hf, Instr.sureAddr, fieldPlace, sizeOf, typeInfo, hq, hk, Addr.add_lit]
      · cases h
    · cases h
  · cases h
theorem opFieldAddr_ok {s : TypeId} {x : Operand} {f : Nat} {sv : SV} (ho : o.op = .fieldAddr s x f) (hx : a.eval x = sv.den β) (hr : opFieldAddr P row s f sv = some (g, ob)) (hob : ∀ p, ob = some p → p) (hs : See b β W row g.see) : Runs P o a W (EPost b β W row m g) := by
  unfold opFieldAddr at hr
  split at hr
  · cases hr
  · rename_i k hk
    split at hr
    · cases hr
      refine runs_pure ?_
      unfold execOp
      simp only [ho, hx, SV.den, Sem.run_bind, offOf_run hk, Result.andThen_ok, Sem.run_pure]
    · rename_i i off
      split at hr
      · rename_i n hn
        cases hr
        obtain ⟨size, xs, hl, _, A, c, hv, _, h3⟩ := rowLen_ok hn hs (by simp [Eff.pure])
        obtain ⟨g', o', rfl, _, _⟩ := h3 (hob _ rfl)
        refine runs_pure ?_
        unfold execOp
        simp only [ho, hx, SV.den, hv, elV, Option.map_some, Addr.add_mid, Sem.run_bind, offOf_run hk, Result.andThen_ok, Sem.run_pure, Nat.add_assoc]
      · cases hr
    · cases hr
theorem inB_ok {k : Int} {len : Nat} (hb : inB h k len = some ob) (hob : ∀ p, ob = some p → p) : 0 ≤ k ∧ k < len := by
  unfold inB at hb
  split at hb
  · cases hb; exact hob _ rfl
  · split at hb
    · rename_i hd; exact of_decide_eq_true hd
    · cases hb
theorem opIndexAddr_ok {t : TypeId} {x ix : Operand} {sv iv : SV} (ho : o.op = .indexAddr t x ix) (hx : a.eval x = sv.den β) (hi : a.eval ix = iv.den β) (hr : opIndexAddr P row h t sv iv = some (g, ob)) (hob : ∀ p, ob = some p → p) (hs : See b β W row g.see) : Runs P o a W (EPost b β W row m g) := by
  unfold opIndexAddr at hr
  split at hr
  · rename_i kk k
    split at hr
    · split at hr
      · rename_i len elem hu
        split at hr
        · rename_i inf hinf
          split at hr
          · rename_i ob' hb
            cases hr
            have hb := inB_ok hb hob
            refine runs_pure ?_
            unfold execOp
            simp [ho, hx, hi, SV.den, Instr.indexAt, run_underlying hu, asIntOf, Instr.sureAddr, hb, sizeOf, typeInfo, hinf, Addr.add_lit]
          · cases hr
        · cases hr
      · cases hr
    · split at hr
      · rename_i elem hu
        split at hr
        · rename_i inf hinf
          split at hr
          · rename_i ob' hb
            cases hr
            have hb := inB_ok hb hob
            refine runs_pure ?_
            unfold execOp
            simp [ho, hx, hi, SV.den, Instr.indexAt, run_underlying hu, asIntOf, hb, sizeOf, typeInfo, hinf, Addr.add_lit]
          · cases hr
        · cases hr
      · cases hr
    · rename_i i
      split at hr
      · rename_i n hn
        split at hr
        · rename_i elem hu
          split at hr
          · rename_i inf hinf
            split at hr
            · rename_i ob' hb
              cases hr
              have hb := inB_ok hb hob
              obtain ⟨size, xs, hl, _, A, c, hv, _, h3⟩ := rowLen_ok hn hs (by simp [Eff.pure])
              obtain ⟨g', o', rfl, _, _⟩ := h3 (by omega)
              refine runs_pure ?_
              unfold execOp
              simp [ho, hx, hi, SV.den, hv, oneV, elV, Instr.indexAt, run_underlying hu, asIntOf, hb, sizeOf, typeInfo, hinf]
            · cases hr
          · cases hr
        · cases hr
      · cases hr
    · rename_i i off n cut
      split at hr
      · rename_i N hn
        split at hr
        · rename_i elem hu
          split at hr
          · rename_i inf hinf
            split at hr
            · rename_i ob' hb
              cases hr
              have hcut := andO_r hob _ rfl
              have hb := inB_ok hb (andO_l hob)
              obtain ⟨size, xs, hl, _, A, c, hv, hNc, h3⟩ := rowLen_ok hn hs (by simp [Eff.pure])
              obtain ⟨g', o', rfl, _, _⟩ := h3 (by omega)
              have hne : c ≠ cut := by omega
              refine runs_pure ?_
              unfold execOp
              simp [ho, hx, hi, SV.den, hv, subV, elV, hne, Instr.indexAt, run_underlying hu, asIntOf, hb, sizeOf, typeInfo, hinf, Addr.add_lit, Nat.add_assoc]
            · cases hr
          · cases hr
        · cases hr
      · cases hr
    · cases hr
  · cases hr
theorem opArr_ok {arr : TypeId} {x : Operand} {sv : SV} (ho : o.op = .sliceToArrayPointer arr x) (hx : a.eval x = sv.den β) (hr : opArr P row arr sv = some (g, ob)) (hob : ∀ p, ob = some p → p) (hs : See b β W row g.see) : Runs P o a W (EPost b β W row m g) := by
  unfold opArr at hr
  split at hr
  · rename_i n el hu
    split at hr
    · rename_i hpos
      have hpos : 0 < n := Nat.le_of_ble_eq_true hpos
      split at hr
      · rename_i i
        split at hr
        · rename_i N hn
          cases hr
          have hN := hob _ rfl
          obtain ⟨size, xs, hl, _, A, c, hv, hNc, h3⟩ := rowLen_ok hn hs (by simp [Eff.pure])
          obtain ⟨g', o', rfl, _, _⟩ := h3 (by omega)
          have hlt : ¬ N < n := by omega
          refine runs_pure ?_
          unfold execOp
          simp [ho, hx, SV.den, hv, oneV, elV, Instr.arrayAt, run_underlying hu, hlt, Addr.add]
        · cases hr
      · rename_i i off k cut
        split at hr
        · rename_i N hn
          cases hr
          obtain ⟨hN, hcut⟩ := hob _ rfl
          obtain ⟨size, xs, hl, _, A, c, hv, hNc, h3⟩ := rowLen_ok hn hs (by simp [Eff.pure])
          obtain ⟨g', o', rfl, _, _⟩ := h3 (by omega)
          have hlt : ¬ k < n := by omega
          have hne : c ≠ cut := by omega
          refine runs_pure ?_
          unfold execOp
          simp [ho, hx, SV.den, hv, subV, elV, hne, Instr.arrayAt, run_underlying hu, hlt]
        · cases hr
      · cases hr
    · cases hr
  · cases hr
theorem part_run {t : TypeId} {rw : Bool} {size off : Nat} {l : List SV} {sv : SV} (hs : shapeOf P t = some (rw, size)) (hr : readCs rw size off l = some sv) : (part t (SV.dens β l).toArray off).run P W = .ok (sv.den β) W := by
  unfold shapeOf at hs
  split at hs
  · rename_i d inf hu hi
    injection hs with hs
    injection hs with h1 h2
    subst h1; subst h2
    have hagg : (isAgg t).run P W = .ok d.isRow W := by
      unfold isAgg
      rw [Sem.run_bind, run_underlying hu W]
      cases d <;> simp [TypeDesc.isRow]
    unfold readCs at hr
    unfold part
    cases hd : d.isRow with
    | true =>
      rw [hd] at hr hagg
      simp only at hr
      split at hr
      · cases hr
        rw [mkAg_den, dens_take, dens_drop]
        simp [Sem.run_bind, hagg, sizeOf, typeInfo, hi]
      · cases hr
    | false =>
      rw [hd] at hr hagg
      simp only at hr
      have : (SV.dens β l).toArray[off]? = some (sv.den β) := by
        rw [List.getElem?_toArray, dens_get, hr]; rfl
      simp [Sem.run_bind, hagg, this]
  · cases hs
theorem opField_ok {t : TypeId} {x : Operand} {f : Nat} {l : List SV} (ho : o.op = .field t x f) (hx : a.eval x = (SV.ag l).den β) (hr : opField P t f l = some (g, ob)) : Runs P o a W (EPost b β W row m g) := by
  unfold opField at hr
  split at hr
  · rename_i fields hu
    split at hr
    · rename_i fd hf
      split at hr
      · rename_i rw size hsh
        split at hr
        · rename_i sv hsv
          cases hr
          refine runs_pure ?_
          unfold execOp
          simp [ho, hx, SV.den, Instr.field, run_underlying hu, hf, asAgg, part_run hsh hsv]
        · cases hr
      · cases hr
    · cases hr
  · cases hr
end
end Ax
end Go.Proofs.YtcpbbgkeigbndaaGreat

/- A reckoner of calls, part 8: what every operation is said to come to holds. Proved over any program. No condition of its own. -/
namespace Go.Proofs.YtcpbbgkeigbndaaGreat
open Go Go.RowKit Go.Lib Go.Sort

namespace Ax
section
variable {P : Program} {T : Tab P} {b : Base} {H : List (Nat × Hint)} {h : Option Hint} {β : Env} {W : World} {a : Act} {o : Oper} {e : Operand → Option SV} {row : Nat → Option Row} {m : Nat} {g : Eff} {ob : Option Prop}
theorem bnd_ok {d : Nat} {lo : Option Operand} {k : Int} (h : bnd e d lo = some k) (hm : ∀ x, lo = some x → x ∈ o.op.operands) (he : Agree o a e β) : (lo.map a.eval = none ∧ k = d) ∨ ∃ kk, lo.map a.eval = some (.int kk k) := by
  cases lo with
  | none =>
    simp only [bnd, Option.some.injEq] at h
    exact .inl ⟨rfl, h.symm⟩
  | some x =>
    unfold bnd at h
    split at h
    · cases ‹some x = none›
    · rename_i y hy
      cases hy
      split at h
      · rename_i kk k' hx
        cases h
        exact .inr ⟨kk, by rw [Option.map_some, he x (hm x rfl) _ hx]; rfl⟩
      · cases h
theorem cutB_ok {kl kh : Int} {cap l u n : Nat} (hb : cutB h kl kh cap = some (l, u, n, ob)) (hob : ∀ p, ob = some p → p) : kl = l ∧ kh = u ∧ l ≤ u ∧ u ≤ cap ∧ n = u - l := by
  unfold cutB at hb
  split at hb
  · cases hb; obtain ⟨h1, h2, h3, h4⟩ := hob _ rfl; exact ⟨h1, h2, h3, h4, rfl⟩
  · cases hb; obtain ⟨h1, h2, h3⟩ := hob _ rfl; exact ⟨h1, h2, by omega, h3, by omega⟩
  · split at hb
    · rename_i hd
      have hd := of_decide_eq_true hd
      cases hb
      omega
    · cases hb
theorem bounds_run {isS : Bool} {len cap l u : Nat} {Lo Hi : Option Value} (hH : (Hi = none ∧ (u : Int) = len) ∨ ∃ kk, Hi = some (.int kk (u : Int))) (hL : (Lo = none ∧ (l : Int) = (0 : Nat)) ∨ ∃ kk, Lo = some (.int kk (l : Int))) (h3 : l ≤ u) (h4 : u ≤ cap) : (Instr.sliceBounds isS len cap Lo Hi none).run P W = .ok (l, u, cap) W := by
  rcases hH with ⟨rfl, hu0⟩ | ⟨kk, rfl⟩ <;> rcases hL with ⟨rfl, hl0⟩ | ⟨kk', rfl⟩
  · have : len = u := by omega
    have : l = 0 := by omega
    subst this
    simp [Instr.sliceBounds, *]
  · have : len = u := by omega
    subst this
    simp [Instr.sliceBounds, Instr.sliceBound, asIntOf, h3]
  · have : l = 0 := by omega
    subst this
    simp [Instr.sliceBounds, Instr.sliceBound, asIntOf, h4]
  · simp [Instr.sliceBounds, Instr.sliceBound, asIntOf, h4, h3]
theorem Addr.add_add (q : Addr) (x y : Nat) : (q.add x).add y = q.add (x + y) := by
  unfold Addr.add
  by_cases hx : x = 0
  · subst hx; simp
  · by_cases hy : y = 0
    · subst hy; simp
    · rw [if_neg hx, if_neg hy, if_neg (by omega)]; simp [Nat.add_assoc]
theorem opSlice_ok {t : TypeId} {x : Operand} {lo hi : Option Operand} {sv : SV} (ho : o.op = .slice t x lo hi none) (he : Agree o a e β) (hx : a.eval x = sv.den β) (hr : opSlice P h e row t sv lo hi = some (g, ob)) (hob : ∀ p, ob = some p → p) (hs : See b β W row g.see) : Runs P o a W (EPost b β W row m g) := by
  have hlo : ∀ {d : Nat} {k : Int}, bnd e d lo = some k → (lo.map a.eval = none ∧ k = d) ∨ ∃ kk, lo.map a.eval = some (.int kk k) := fun h => bnd_ok (o := o) h (fun y hy => by subst hy; simp [ho, Op.operands]) he
  have hhi : ∀ {d : Nat} {k : Int}, bnd e d hi = some k → (hi.map a.eval = none ∧ k = d) ∨ ∃ kk, hi.map a.eval = some (.int kk k) := fun h => bnd_ok (o := o) h (fun y hy => by subst hy; simp [ho, Op.operands]) he
  unfold opSlice at hr
  split at hr
  · rename_i i
    split at hr
    · rename_i n hn
      split at hr
      · rename_i el sz by_ hty
        obtain ⟨inf, z, hu, hi', _, hsz, _, _, _⟩ := appTy_ok hty
        split at hr
        · rename_i kl hkl
          split at hr
          · rename_i kh hkh
            split at hr
            · rename_i l u q ob' hc
              cases hr
              obtain ⟨h1, h2, h3, h4, h5⟩ := cutB_ok hc hob
              subst h1; subst h2; subst h5
              obtain ⟨size, xs, _, _, A, c, hv, hnc, _⟩ := rowLen_ok hn hs (by simp [Eff.pure])
              have hrun := bounds_run (P := P) (W := W) (isS := true) (cap := c) (hhi hkh) (hlo hkl) h3 (by omega)
              refine runs_pure ?_
              unfold execOp
              simp only [ho, hx, SV.den, hv, oneV, subV, Instr.sliceAt, Sem.run_bind, run_underlying hu, Result.andThen_ok, Instr.slice, hrun, sizeOf, typeInfo, Option.map_none]
              simp [hi', hsz]
            · cases hr
          · cases hr
        · cases hr
      · cases hr
    · cases hr
  · rename_i i off
    split at hr
    · rename_i len elem hu
      split at hr
      · rename_i inf hinf
        split at hr
        · rename_i kl hkl
          split at hr
          · rename_i kh hkh
            split at hr
            · rename_i l u q ob' hc
              split at hr
              · rename_i hlt
                have hlt : l < len := Nat.le_of_ble_eq_true hlt
                cases hr
                obtain ⟨h1, h2, h3, h4, h5⟩ := cutB_ok hc hob
                subst h1; subst h2; subst h5
                have hrun := bounds_run (P := P) (W := W) (isS := false) (cap := len) (hhi hkh) (hlo hkl) h3 h4
                refine runs_pure ?_
                unfold execOp
                simp only [ho, hx, SV.den, Instr.sliceAt, Sem.run_bind, run_underlying hu, Result.andThen_ok, Instr.sureAddr, Sem.run_pure, hrun, sizeOf, typeInfo, Option.map_none]
                simp [hinf, show len ≠ l by omega, Addr.add_lit]
              · cases hr
            · cases hr
          · cases hr
        · cases hr
      · cases hr
    · cases hr
  · rename_i i off n cap
    split at hr
    · rename_i el sz by_ hty
      obtain ⟨inf, z, hu, hi', _, hsz, _, _, _⟩ := appTy_ok hty
      split at hr
      · rename_i kl hkl
        split at hr
        · rename_i kh hkh
          split at hr
          · rename_i l u q ob' hc
            split at hr
            · rename_i hlt
              have hlt : l < cap := Nat.le_of_ble_eq_true hlt
              cases hr
              obtain ⟨h1, h2, h3, h4, h5⟩ := cutB_ok hc hob
              subst h1; subst h2; subst h5
              have hrun := bounds_run (P := P) (W := W) (isS := true) (cap := cap) (hhi hkh) (hlo hkl) h3 h4
              refine runs_pure ?_
              unfold execOp
              simp only [ho, hx, SV.den, Instr.sliceAt, Sem.run_bind, run_underlying hu, Result.andThen_ok, Instr.slice, hrun, sizeOf, typeInfo, Option.map_none]
              simp [hi', hsz, show cap ≠ l by omega, Addr.add_lit]
            · cases hr
          · cases hr
        · cases hr
      · cases hr
    · cases hr
  · rename_i i off n cut
    split at hr
    · rename_i N hn
      split at hr
      · rename_i el sz by_ hty
        obtain ⟨inf, z, hu, hi', _, hsz, _, _, _⟩ := appTy_ok hty
        split at hr
        · rename_i kl hkl
          split at hr
          · rename_i kh hkh
            split at hr
            · rename_i l u q ob' hc
              have key : ∀ {ob1 : Option Prop}, seeR [i] (.sub i (off + l * sz) q (cut + l)) (andO ob' ob1) = some (g, ob) → (∀ p, ob1 = some p → p → cut + n ≤ N ∧ (l = 0 ∨ (off = 0 ∧ cut = 0) ∨ 0 < q)) → ob1 ≠ none → Runs P o a W (EPost b β W row m g) := by
                intro ob1 hq hp hne
                cases hq
                cases ob1 with
                | none => exact absurd rfl hne
                | some p1 =>
                obtain ⟨hN, hz⟩ := hp p1 rfl (andO_r hob p1 rfl)
                obtain ⟨h1, h2, h3, h4, h5⟩ := cutB_ok hc (andO_l hob)
                subst h1; subst h2; subst h5
                obtain ⟨size, xs, _, _, A, c, hv, hnc, _⟩ := rowLen_ok hn hs (by simp [Eff.pure])
                have hrun := bounds_run (P := P) (W := W) (isS := true) (cap := c - cut) (hhi hkh) (hlo hkl) h3 (by omega)
                have hpt : (if c - cut = l then (if c = cut then A else A.map (·.add off)) else (if c = cut then A else A.map (·.add off)).map (·.add (l * sz))) = if c = cut + l then A else A.map (·.add (off + l * sz)) := by
                  by_cases h0 : l = 0
                  · subst h0
                    simp only [Nat.zero_mul, Nat.add_zero]
                    by_cases hcc : c = cut
                    · rw [if_pos (by omega), if_pos hcc]
                    · rw [if_neg (by omega), if_neg hcc]
                      cases A <;> simp [Addr.add]
                  · rcases hz with hz | ⟨hz1, hz2⟩ | hz
                    · exact absurd hz h0
                    · subst hz1; subst hz2
                      simp only [Nat.zero_add, Nat.sub_zero]
                      rw [if_neg (show ¬ c = 0 by omega)]
                      by_cases hcc : c = l
                      · rw [if_pos hcc, if_pos hcc]
                        cases A <;> simp [Addr.add]
                      · rw [if_neg hcc, if_neg hcc]
                        cases A <;> simp [Addr.add]
                    · rw [if_neg (show ¬ c - cut = l by omega), if_neg (show ¬ c = cut by omega), if_neg (show ¬ c = cut + l by omega)]
                      cases A with
                      | none => rfl
                      | some q => simp only [Option.map_some, Addr.add_add]
                refine runs_pure ?_
                unfold execOp
                simp only [ho, hx, SV.den, hv, subV, Instr.sliceAt, Sem.run_bind, run_underlying hu, Result.andThen_ok, Instr.slice, hrun, sizeOf, typeInfo, Option.map_none]
                rw [← hpt, ← Nat.sub_sub]
                simp [hi', hsz]
              split at hr
              · rename_i hb
                rw [Bool.or_eq_true, Bool.and_eq_true] at hb
                refine key hr (fun p hp hpp => ?_) (by simp)
                cases hp
                refine ⟨hpp, ?_⟩
                rcases hb with hb | ⟨hb1, hb2⟩
                · exact .inl (Nat.eq_of_beq_eq_true hb)
                · exact .inr (.inl ⟨Nat.eq_of_beq_eq_true hb1, Nat.eq_of_beq_eq_true hb2⟩)
              · refine key hr (fun p hp hpp => ?_) (by simp)
                cases hp
                exact ⟨hpp.2, .inr (.inr hpp.1)⟩
            · cases hr
          · cases hr
        · cases hr
      · cases hr
    · cases hr
  · cases hr
theorem fill_den {place : Nat → Option (Nat × Nat)} : ∀ {ps : List (Nat × List SV)} {vs : List (Nat × Value)} {cells out : List SV}, fillL place cells ps = some out → vs.map (fun p => (p.1, p.2.cells.toList)) = ps.map (fun p => (p.1, SV.dens β p.2)) →
    Instr.fill place (SV.dens β cells).toArray vs = some (SV.dens β out).toArray
  | [], [], cells, out, h, _ => by cases h; rfl
  | [], _ :: _, _, _, _, hv => by cases hv
  | _ :: _, [], _, _, _, hv => by cases hv
  | p :: ps, q :: vs, cells, out, h, hv => by
    rw [List.map_cons, List.map_cons] at hv
    injection hv with h1 h2
    injection h1 with h3 h4
    unfold fillL at h
    unfold Instr.fill
    rw [h3]
    split at h
    · cases h
    · rename_i r hr
      rw [hr]
      split at h
      · rename_i hb
        rw [Bool.and_eq_true] at hb
        have l1 : p.2.length = r.2 := Nat.eq_of_beq_eq_true hb.1
        have l2 : r.1 + p.2.length ≤ cells.length := Nat.le_of_ble_eq_true hb.2
        have hsz : q.2.cells.size = p.2.length := by
          have := congrArg List.length h4
          rw [dens_length] at this
          simpa using this
        have hz : q.2.cells.zipIdx.foldl (fun cs (p : Value × Nat) => cs.setIfInBounds (r.1 + p.2) p.1) (SV.dens β cells).toArray = (SV.dens β (cells.take r.1 ++ (p.2 ++ cells.drop (r.1 + p.2.length)))).toArray := by
          apply Array.toList_inj.1
          rw [← Array.foldl_toList, Array.toList_zipIdx, foldl_setP r.1 _ 0 _ (by simp [hsz, dens_length]; omega), h4]
          simp [dens_append, dens_take, dens_drop, dens_length]
        show (if (decide (q.2.cells.size ≠ r.2) || decide (r.1 + q.2.cells.size > (SV.dens β cells).toArray.size)) = true then none else Instr.fill place (q.2.cells.zipIdx.foldl (fun cs (p : Value × Nat) => cs.setIfInBounds (r.1 + p.2) p.1) (SV.dens β cells).toArray) vs) = _
        rw [if_neg (by simp [hsz, l1, dens_length]; omega), hz]
        exact fill_den h h2
      · cases h
theorem partsC_den : ∀ {l : List (Nat × Operand)} {ps : List (Nat × List SV)}, partsC e l = some ps → (∀ p ∈ l, ∀ sv, e p.2 = some sv → a.eval p.2 = sv.den β) →
    (l.map fun p => (p.1, a.eval p.2)).map (fun p => (p.1, p.2.cells.toList)) = ps.map (fun p => (p.1, SV.dens β p.2))
  | [], ps, h, _ => by cases h; rfl
  | p :: l, ps, h, he => by
    unfold partsC at h
    split at h
    · rename_i sv hsv
      split at h
      · rename_i c hc
        split at h
        · rename_i q hq
          cases h
          have ih := partsC_den hq fun x hx => he x (List.mem_cons_of_mem _ hx)
          have h1 := he p (by simp) sv hsv
          simp only [List.map_cons] at ih ⊢
          rw [ih, h1, svCells_den hc]
        · cases h
      · cases h
    · cases h
theorem built_array {t : TypeId} {z : Value} {it inf : TypeInfo} {n el : Nat} {parts : Array (Nat × Value)} {cells : Array Value} (hi : P.info? t = some it) (hz : it.zero = some z) (hu : P.underlying t = some (.array n el)) (he : P.info? el = some inf) (hf : Instr.fill (fun i => some (i * inf.size, inf.size)) z.cells parts.toList = some cells) : (Instr.build t parts).run P W = .ok (.agg cells) W := by
  simp [Instr.build, zeroValue, typeInfo, hi, hz, run_underlying hu, sizeOf, he, hf]
theorem opBuild_ok {t : TypeId} {parts : Array (Nat × Operand)} (ho : o.op = .build t parts) (he : Agree o a e β) (hr : opBuild P e t parts.toList = some (g, ob)) : Runs P o a W (EPost b β W row m g) := by
  have he' : ∀ p ∈ parts.toList, ∀ sv, e p.2 = some sv → a.eval p.2 = sv.den β := fun p hp sv hsv => he p.2 (by
    simp only [ho, Op.operands]
    simp only [List.mem_toArray, List.mem_map]
    exact ⟨p, hp, rfl⟩) sv hsv
  have fin : ∀ {l : List SV}, (Instr.build t (parts.map fun p => (p.1, a.eval p.2))).run P W = .ok (.agg (SV.dens β l).toArray) W → Runs P o a W (EPost b β W row m (.pure [] (mkAg l))) := by
    intro l hb
    refine runs_pure ?_
    unfold execOp
    simp only [ho, Sem.run_bind]
    rw [hb, mkAg_den]
    rfl
  unfold opBuild at hr
  split at hr
  · rename_i it hi
    split at hr
    · rename_i z hz
      split at hr
      · rename_i ps hps
        have hm := partsC_den (β := β) (a := a) hps he'
        split at hr
        · rename_i fields hu
          split at hr
          · rename_i places hp
            split at hr
            · rename_i l hl
              cases hr
              refine fin (run_build W t _ _ ?_)
              unfold Program.built
              rw [hi, hu]
              simp only [hz, placesOf_eq hp]
              have hf := fill_den (β := β) hl (vs := parts.toList.map fun p => (p.1, a.eval p.2)) hm
              rw [dens_v] at hf
              rw [Array.toList_map]
              simpa using hf
            · cases hr
          · cases hr
        · rename_i n el hu
          split at hr
          · rename_i inf hinf
            split at hr
            · rename_i l hl
              cases hr
              have hf := fill_den (β := β) hl (vs := parts.toList.map fun p => (p.1, a.eval p.2)) hm
              rw [dens_v] at hf
              refine fin (built_array hi hz hu hinf ?_)
              rw [Array.toList_map]
              simpa using hf
            · cases hr
          · cases hr
        · cases hr
      · cases hr
    · cases hr
  · cases hr
theorem post_newSl {sv : SV} {ty : TypeId} {cs : Cs} {L : List Value} {see : List Nat} (hd : ∀ β', (∀ i, i ≠ m → β.at β' i) → cs.den β' = L) : Post b β W row m ⟨see, [], [], [.c none ty cs], sv⟩ (W.alloc (.cells L.toArray ty)) (β.upd m W.heap.size undef No) := post_newC hd
theorem opBuildSlice_ok {t : TypeId} {len : Nat} {parts : Array (Nat × Operand)} (ho : o.op = .buildSlice t len parts) (he : Agree o a e β) (hr : opBuildSlice P h e m t len parts.toList = some (g, ob)) : Runs P o a W (EPost b β W row m g) := by
  have he' : ∀ p ∈ parts.toList, ∀ sv, e p.2 = some sv → a.eval p.2 = sv.den β := fun p hp sv hsv => he p.2 (by
    simp only [ho, Op.operands]
    simp only [List.mem_toArray, List.mem_map]
    exact ⟨p, hp, rfl⟩) sv hsv
  unfold opBuildSlice at hr
  split at hr
  · rename_i el hu
    split at hr
    · rename_i inf hinf
      split at hr
      · rename_i z hz
        split at hr
        · rename_i ps hps
          have hm := partsC_den (β := β) (a := a) hps he'
          split at hr
          · rename_i hbs
            simp only [Bool.and_eq_true] at hbs
            obtain ⟨hb1, hb2, hb3⟩ := hbs
            have hb1 := Nat.le_of_ble_eq_true hb1
            have hb2 : 0 < len * inf.size := Nat.le_of_ble_eq_true hb2
            have hb3 : z.cells.size = inf.size := by simpa using Nat.eq_of_beq_eq_true hb3
            have hpos : 0 < inf.size := by
              rcases Nat.eq_zero_or_pos inf.size with h0 | h0
              · rw [h0, Nat.mul_zero] at hb2; omega
              · exact h0
            split at hr
            · rename_i l hl
              have hf := fill_den (β := β) hl (vs := parts.toList.map fun p => (p.1, a.eval p.2)) hm
              rw [dens_v] at hf
              have hmz : (Array.range (len * inf.size)).map (z.cells[· % z.cells.size]!) = (zerosL z.cells.toList len).toArray := by
                apply Array.toList_inj.1
                have := made_zeros (z := z.cells) (by omega) len
                rw [hb3] at this
                exact this
              have hrun := run_buildSlice (P := P) W t el len (parts.map fun (i, x) => (i, a.eval x)) (SV.dens β l).toArray inf z hu hinf hz (by omega) (by omega) (by rw [hmz, Array.toList_map]; exact hf)
              have hex : (execOp a.eval o).run P W = .ok (.value (.slice (some ⟨W.heap.size, 0, none⟩) len len)) (W.alloc (.cells (SV.dens β l).toArray el)) := by
                unfold execOp
                simp only [ho, Sem.run_bind, hrun, Result.andThen_ok, Sem.run_pure]
              split at hr
              · split at hr
                · rename_i vs hvs
                  split at hr
                  · rename_i hb
                    simp only [Bool.and_eq_true] at hb
                    obtain ⟨hl1, hl2, hl3⟩ := hb
                    have hl1 := Nat.eq_of_beq_eq_true hl1
                    have hl2 := Nat.le_of_ble_eq_true hl2
                    cases hr
                    have hd := allV_den (β := β) hvs
                    rw [hd] at hex
                    have hmade := Own.made W el inf.size len len vs (Nat.le_refl _) (by unfold maxLen; omega) hl1
                    rw [List.take_of_length_le (by omega)] at hmade
                    refine .inl ⟨.slice (some ⟨W.heap.size, 0, none⟩) len len, _, hex, _, ?_, post_newS hmade (allB_spec hl3) (fun k hk => .inr ?_) (Cg.of ((Chg.refl [] W).alloc _) (by simp))⟩
                    · simp only [SV.den, upd_v, oneV]
                    · have : W.heap.size = k := by simpa [Value.ownBlock] using hk
                      omega
                  · cases hr
                · cases hr
              · split at hr
                · rename_i hlt
                  cases hr
                  refine .inl ⟨_, _, hex, β.upd m W.heap.size undef No, ?_, post_newC fun β' hβ => ?_⟩
                  · simp only [SV.den, upd_b]
                  · rw [mkCs_den]
                    exact (dens_congr l fun i hi => hβ i (idx_ne hlt i hi)).symm
                · cases hr
            · cases hr
          · cases hr
        · cases hr
      · cases hr
    · cases hr
  · cases hr
end
end Ax
end Go.Proofs.YtcpbbgkeigbndaaGreat
