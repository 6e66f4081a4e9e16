/- A reckoner of calls, part 15: runs whose values are all known: calls gone through, loops gone round, defers, panics. The reckoner alone. No condition of its own. -/
import Derived.Test.YtcpbbgkeigbndaaGreatGr07
namespace Go.Proofs.YtcpbbgkeigbndaaGreat
open Go Go.RowKit Go.Lib Go.Sort
namespace Ax
/-- How a piece of code ends: on; out of a block; to a label; a return; a panic. -/
inductive Ed where
  | n
  | x (i : Nat)
  | g (l : Nat)
  | r
  | p (v : SV)
/-- A call that is deferred. -/
structure Df where
  f : FuncId
  cap : List SV
  args : List SV
/-- A state of a run: what the slots hold, the rows, what is deferred. -/
structure Cst where
  fr : List (Nat × SV)
  mem : List Row
  df : List Df
/-- What a call has come to: a panic?, the value, the rows. -/
structure Cr where
  pan : Bool
  s : SV
  mem : List Row
/-- A function has a body. -/
def okB (P : Program) (f : FuncId) : Bool := match P.funcs[f]? with
  | some fn => match fn.body with
    | some _ => true
    | none => false
  | none => false
/-- The one function by name that is treated apart has no body. -/
def noNum (P : Program) : Bool := P.funcs.toList.all fun fn => fn.body.isNone || !(fn.name == "runtime.NumGoroutine")
theorem okB_fn {P : Program} (hN : noNum P = true) {f : FuncId} (h : okB P f = true) : okFn P f = true := by
  unfold okB at h
  unfold okFn
  split at h
  · rename_i fn hf
    split at h
    · rename_i c hc
      have hm : fn ∈ P.funcs.toList := Array.mem_toList_iff.2 (Array.mem_of_getElem? hf)
      have := List.all_eq_true.1 hN fn hm
      rw [hc] at this
      have hn : (fn.name == "runtime.NumGoroutine") = false := by simpa using this
      simp only [hf, hn, hc, Option.isNone_some, Bool.or_self]
    · cases h
  · cases h
abbrev Rc := FuncId → List SV → List Row → Option Cr
/-- What operations do. -/
abbrev Opf := (Operand → Option SV) → (Nat → Option Row) → Nat → Oper → Option Eff
/-- A slot is laid in its place. -/
def setFr (d : Nat) (v : SV) : List (Nat × SV) → List (Nat × SV)
  | [] => [(d, v)]
  | q :: r => match Nat.beq q.1 d with
    | true => (d, v) :: r
    | false => q :: setFr d v r
/-- Is a number among those of a set, which is said in bits? -/
def hasBit (m d : Nat) : Bool := Nat.beq (Nat.land (Nat.shiftRight m d) 1) 1
/-- The newest k slots, each as it was laid last. -/
def nubFr : Nat → Nat → List (Nat × SV) → List (Nat × SV)
  | k + 1, seen, q :: r => match hasBit seen q.1 with
    | true => nubFr k seen r
    | false => q :: nubFr k (Nat.lor seen (Nat.pow 2 q.1)) r
  | _, _, l => l
def mergeFr (k : Nat) (l : List (Nat × SV)) : List (Nat × SV) := match Nat.ble k 24 with
  | true => l
  | false => nubFr k 0 l
/-- A slice's own bounds hold. -/
def srcB (row : Nat → Option Row) (size : Nat) : SV → Bool
  | .v x => match x with
    | .slice none 0 0 => true
    | _ => false
  | .sub i off m cut => match rowLen (row i) with
    | some n => Nat.beq off (cut * size) && Nat.ble (cut + m) n
    | none => false
  | _ => true
def newLen : Eff → Option Nat
  | ⟨_, _, _, .s _ _ n _ :: _, _⟩ => some n
  | _ => none
/-- What an operation asks for holds. -/
def settleB (P : Program) (e : Operand → Option SV) (row : Nat → Option Row) (o : Oper) (g : Eff) : Bool := match o.op with
  | .call c => match appArgs c with
    | some (t, _, y) => match appTy P t with
      | some (_, sz, bytes) => match e y with
        | some sy => match newLen g with
          | some n => srcB row sz sy && (Nat.ble n maxLen && Nat.ble (n * bytes) 140737488355328)
          | none => false
        | none => false
      | none => false
    | none => match copyArgs c with
      | some (t, _, _, y) => match appTy P t with
        | some (_, sz, _) => match e y with
          | some sy => srcB row sz sy
          | none => false
        | none => false
      | none => false
  | .fieldAddr _ x _ => match e x with
    | some (.e i _) => match rowLen (row i) with
      | some n => Nat.blt 0 n
      | none => false
    | _ => false
  | .indexAddr _ x _ => match e x with
    | some (.sub i _ n cut) => match rowLen (row i) with
      | some N => Nat.ble (cut + n) N
      | none => false
    | _ => false
  | .slice _ x _ _ _ => match e x with
    | some (.sub i off n cut) => match rowLen (row i) with
      | some N => Nat.ble (cut + n) N && (match g.ret with
        | .sub _ _ q cut' => Nat.blt 0 q || (Nat.beq cut' cut || (Nat.beq off 0 && Nat.beq cut 0))
        | _ => false)
      | none => false
    | _ => false
  | _ => false
/-- What an operation does, where what it asks for is seen to hold. -/
def opC (P : Program) (T : Tab P) (b : Base) (e : Operand → Option SV) (row : Nat → Option Row) (m : Nat) (o : Oper) : Option Eff := match opEff P T b [] e row m o with
  | some (g, none) => some g
  | some (g, some _) => match settleB P e row o g with
    | true => some g
    | false => none
  | none => none
/-- How operations end. -/
inductive Oe where
  | n (s : Cst)
  | p (v : SV) (s : Cst)
def Cst.st (s : Cst) : St := ⟨s.fr, s.mem⟩
def putC (n : Nat) (s : Cst) (dst : Option Tmp) (sv : SV) : Cst := match dst with
  | none => s
  | some d => match Nat.blt d n with
    | true => ⟨(d, sv) :: s.fr, s.mem, s.df⟩
    | false => s
def isCall (o : Oper) : Option Call := match o.op with
  | .call c => some c
  | _ => none
def isDefer (o : Oper) : Option Call := match o.op with
  | .defer c => some c
  | _ => none
def isPanic (o : Oper) : Option Operand := match o.op with
  | .panic x => some x
  | .call c => match c.callee with
    | .builtin .panic => match c.args.toList with
      | [x] => some x
      | _ => none
    | _ => none
  | _ => none
def panV : SV → Bool
  | .ifc _ _ => true
  | .v (.iface _ _) => true
  | _ => false
def litG (ops : Array Oper) (o : Oper) (st : St) : St := match guardBool ops st.fr o with
  | none => st
  | some q => st.lit q.1 q.2
section
variable (P : Program) (op opD : Opf) (rc : Rc) (n : Nat)
def exOpsC (ops : Array Oper) : List Oper → Cst → Option Oe
  | [], s => some (.n s)
  | o :: l, s => match guardOf ops (ev s.fr) o with
    | none => none
    | some false => exOpsC ops l (putC n s o.dst (.v undef))
    | some true => match op (ev s.fr) (rowAt s.mem) s.mem.length o with
      | some g => match gOk s.mem g with
        | true => exOpsC ops l (putC n ⟨s.fr, gMem s.mem g, s.df⟩ o.dst g.ret)
        | false => none
      | none => match isCall o with
        | some c => match callOf P (ev s.fr) c with
          | some q => match rc q.1 q.2 s.mem with
            | some r => match r.pan with
              | false => exOpsC ops l (putC n ⟨s.fr, r.mem, s.df⟩ o.dst r.s)
              | true => some (.p r.s ⟨s.fr, r.mem, s.df⟩)
            | none => none
          | none => match isPanic o with
            | some x => match ev s.fr x with
              | some v => match panV v with
                | true => some (.p v s)
                | false => none
              | none => none
            | none => none
        | none => match isPanic o with
          | some x => match ev s.fr x with
            | some v => match panV v with
              | true => some (.p v s)
              | false => none
            | none => none
          | none => match isDefer o with
            | some c => match c.callee with
              | .value x => match calleeOf P (ev s.fr) x with
                | some q => match svArgs (ev s.fr) c.args.toList with
                  | some l' => exOpsC ops l (putC n ⟨s.fr, s.mem, ⟨q.1, q.2.2, q.2.1 ++ l'⟩ :: s.df⟩ o.dst (.v undef))
                  | none => none
                | none => none
              | _ => none
            | none => none
def exLexC (ops : Array Oper) : List Oper → St → List Ent → Option (List Ent × St)
  | [], st, acc => some (acc, st)
  | o :: l, st0, acc => match litG ops o st0 with
    | st => match guardOf ops (ev st.fr) o with
      | some true => match opD (ev st.fr) (rowAt st.mem) st.mem.length o with
        | some g => match gOk st.mem g with
          | true => exLexC ops l (applyE n st o g) (acc ++ [⟨g, st.mem.length⟩])
          | false => none
        | none => none
      | some false => exLexC ops l (applyE n st o (.pure [] (.v undef))) (acc ++ [skipE st.mem.length])
      | none => none
/-- Of keys that a map is given, each with its operation's number and its value. -/
abbrev Kv := List (Nat × ByteArray × SV)
def entK (kv : Kv) : List (SV × SV) := kv.map fun q => (.v (.string q.2.1), q.2.2)
/-- A map literal's insert into the map of slot t0: the key, the value. -/
def insOf (t0 : Nat) (e : Operand → Option SV) (o : Oper) : Option (ByteArray × SV) := match o.op with
  | .insert t x i y => match x with
    | .tmp t' => match Nat.beq t' t0 with
      | true => match P.underlying t with
        | some (.map k _) => match P.underlying k with
          | some .string => match e i with
            | some (.v (.string s)) => match e y with
              | some v => some (s, v)
              | none => none
            | _ => none
          | _ => none
        | _ => none
      | false => none
    | _ => none
  | _ => none
def exLexM (ops : Array Oper) (t0 : Nat) : List Oper → Nat → St → List Ent → Kv → Option (List Ent × St × Kv)
  | [], _, st, acc, kv => some (acc, st, kv)
  | o :: l, k, st0, acc, kv => match litG ops o st0 with
    | st => match guardOf ops (ev st.fr) o with
      | some true => match insOf P t0 (ev st.fr) o with
        | some q => exLexM ops t0 l (k + 1) (applyE n st o (.pure [] (.v undef))) (acc ++ [skipE st.mem.length]) (kv ++ [(k, q)])
        | none => match opD (ev st.fr) (rowAt st.mem) st.mem.length o with
          | some g => match gOk st.mem g with
            | true => exLexM ops t0 l (k + 1) (applyE n st o g) (acc ++ [⟨g, st.mem.length⟩]) kv
            | false => none
          | none => none
      | some false => exLexM ops t0 l (k + 1) (applyE n st o (.pure [] (.v undef))) (acc ++ [skipE st.mem.length]) kv
      | none => none
def isMap0 (m : Nat) : List Ent → Bool
  | ⟨⟨[], [], [], [.mo []], .mp j⟩, k⟩ :: er => Nat.beq j m && (Nat.beq k m && er.all fun en => !memN m en.g.see)
  | _ => false
def apartK : Kv → Bool
  | [] => true
  | q :: r => (r.all fun p => !(q.2.1 == p.2.1) && !(p.2.1 == q.2.1)) && apartK r
/-- A region that draws and makes a map: the inserts come up in whatever order. -/
def exDrawM (l : List Oper) (s : Cst) : Option St := match l.take (tailAt l) with
  | [] => none
  | o0 :: _ => match o0.dst with
    | none => none
    | some t0 => match exLexM P opD n l.toArray t0 (l.take (tailAt l)) 0 s.st [] [] with
      | some (es, st, kv) => match isMap0 s.mem.length es && (apartK kv && allBe l.toArray (l.take (tailAt l)) es n 0 (l.take (tailAt l)) es) with
        | true => some ⟨st.fr, st.mem.set s.mem.length (.mu (entK kv))⟩
        | false => none
      | none => none
def pureG (g : Eff) : Bool := match g.upd, g.kill, g.new with
  | [], [], [] => true
  | _, _, _ => false
def goneE (m : Nat) : Ent := ⟨.pure [] .gone, m⟩
/-- Up to the operation that is not done: it, those behind it. -/
def exLexA (ops : Array Oper) : List Oper → St → List Ent → Option (Oper × List Oper × St × List Ent)
  | [], _, _ => none
  | o :: l, st0, acc => match litG ops o st0 with
    | st => match guardOf ops (ev st.fr) o with
      | some true => match opD (ev st.fr) (rowAt st.mem) st.mem.length o with
        | some g => match gOk st.mem g with
          | true => exLexA ops l (applyE n st o g) (acc ++ [⟨g, st.mem.length⟩])
          | false => none
        | none => some (o, l, st, acc)
      | some false => exLexA ops l (applyE n st o (.pure [] (.v undef))) (acc ++ [skipE st.mem.length])
      | none => none
/-- Behind the k-th, which panics: what waits for it does not come up; the rest only looks. -/
def exLexB (ops : Array Oper) (lf : List Oper) (k : Nat) : List Oper → Nat → St → List Ent → Option (List Ent)
  | [], _, _, acc => some acc
  | o :: l, j, st0, acc => match waitsB lf j k with
    | true => exLexB ops lf k l (j + 1) (applyE n st0 o (.pure [] .gone)) (acc ++ [goneE st0.mem.length])
    | false => match litG ops o st0 with
      | st => match guardOf ops (ev st.fr) o with
        | some true => match opD (ev st.fr) (rowAt st.mem) st.mem.length o with
          | some g => match gOk st.mem g with
            | true => exLexB ops lf k l (j + 1) (applyE n st o g) (acc ++ [⟨g, st.mem.length⟩])
            | false => none
          | none => none
        | some false => exLexB ops lf k l (j + 1) (applyE n st o (.pure [] (.v undef))) (acc ++ [skipE st.mem.length])
        | none => none
/-- What may come up ahead of the k-th in one order and not in another turns nothing. -/
def panB (lf : List Oper) (k : Nat) : Nat → List Ent → Bool
  | _, [] => true
  | j, en :: er => match pureG en.g || (Nat.blt j k && waitsB lf k j) with
    | true => panB lf k (j + 1) er
    | false => false
/-- A region that draws, in which a call panics. -/
def exDrawP (l : List Oper) (s : Cst) : Option Oe := match exLexA opD n l.toArray (l.take (tailAt l)) s.st [] with
  | some (o, rest, st, acc) => match isCall o with
    | some c => match callOf P (ev st.fr) c with
      | some q => match rc q.1 q.2 st.mem with
        | some r => match r.pan with
          | true => match exLexB opD n l.toArray (l.take (tailAt l)) acc.length rest (acc.length + 1) (applyE n st o (.pure [] .gone)) (acc ++ [goneE st.mem.length]) with
            | some es => match allB (fun x => ltAll st.mem.length x.idx) q.2 && (panB (l.take (tailAt l)) acc.length 0 es && allBe l.toArray (l.take (tailAt l)) es n 0 (l.take (tailAt l)) es) with
              | true => some (.p r.s ⟨[], r.mem, s.df⟩)
              | false => none
            | none => none
          | false => none
        | none => none
      | none => none
    | none => none
  | none => none
/-- A region that draws: its head in whatever order, its tail one operation behind the other. -/
def exDrawC (l : List Oper) (s : Cst) : Option Oe := match exLexC opD n l.toArray (l.take (tailAt l)) s.st [] with
  | some (es, st) => match allBe l.toArray (l.take (tailAt l)) es n 0 (l.take (tailAt l)) es with
    | true => exOpsC P op rc n l.toArray (l.drop (tailAt l)) ⟨st.fr, st.mem, s.df⟩
    | false => match exDrawM P opD n l s with
      | some st => exOpsC P op rc n l.toArray (l.drop (tailAt l)) ⟨st.fr, st.mem, s.df⟩
      | none => none
  | none => exDrawP P opD rc n l s
def loopC (body : Cst → Option (Ed × Cst)) (n0 : Nat) : Nat → Cst → Option (Ed × Cst)
  | 0, _ => none
  | k + 1, s => match body s with
    | some (.n, s') => loopC body n0 k ⟨mergeFr (s'.fr.length - n0) s'.fr, s'.mem, s'.df⟩
    | r => r
/-- Behind a way out of a scope: a label of its own is gone on from. -/
def scopeC (jump : Code → Cst → Option (Ed × Cst)) (c : Code) (m : Nat) : Nat → Option (Ed × Cst) → Option (Ed × Cst)
  | 0, _ => none
  | k + 1, r => match r with
    | some (.g l, s) => match findLabel c l with
      | some rest => scopeC jump c m k (jump rest ⟨mergeFr (s.fr.length - m) s.fr, s.mem, s.df⟩)
      | none => r
    | r => r
def exC (jump : Code → Cst → Option (Ed × Cst)) : Code → Cst → Option (Ed × Cst)
  | .skip, s => some (.n, s)
  | .region _ ops draw, s => match draw with
    | false => match exOpsC P op rc n ops ops.toList s with
      | some (.n s') => some (.n, s')
      | some (.p v s') => some (.p v, s')
      | none => none
    | true => match exDrawC P op opD rc n ops.toList s with
      | some (.n s') => some (.n, s')
      | some (.p v s') => some (.p v, s')
      | none => none
  | .seq x y, s => match exC jump x s with
    | some (.n, s') => exC jump y s'
    | r => r
  | .cond c x y, s => match ev s.fr c with
    | some (.v (.bool d)) => match d with
      | true => exC jump x s
      | false => exC jump y s
    | _ => none
  | .block id c, s => match exC jump c s with
    | some (.x i, s') => match Nat.beq i id with
      | true => some (.n, s')
      | false => some (.x i, s')
    | r => r
  | .scope c, s => scopeC jump c s.fr.length 100000 (exC jump c s)
  | .loop c, s => loopC (fun s => exC jump c s) s.fr.length 100000 s
  | .exit id, s => some (.x id, s)
  | .label _, s => some (.n, s)
  | .goto l, s => some (.g l, s)
  | .ret, s => some (.r, s)
  | _, _ => none
/-- Code, with jumps so deep. -/
def exF : Nat → Code → Cst → Option (Ed × Cst)
  | 0 => exC P op opD rc n fun _ _ => none
  | k + 1 => exC P op opD rc n (exF k)
/-- What a function's end is at: it returns; it panics; what it panicked with has been taken. -/
inductive Um where
  | ret
  | pan (v : SV)
  | took (v : SV)
def isRecover (o : Oper) : Bool := match o.op with
  | .call c => match c.callee with
    | .builtin .recover => true
    | _ => false
  | _ => false
/-- The operations of a function that was deferred. -/
def exOpsS (ops : Array Oper) : List Oper → Um → Cst → Option (Oe × Um)
  | [], u, s => some (.n s, u)
  | o :: l, u, s => match isRecover o with
    | true => match guardOf ops (ev s.fr) o with
      | some true => match u with
        | .pan v => exOpsS ops l (.took v) (putC n s o.dst v)
        | u => exOpsS ops l u (putC n s o.dst (.v .nilIface))
      | some false => exOpsS ops l u (putC n s o.dst (.v undef))
      | none => none
    | false => match exOpsC P op rc n ops [o] s with
      | some (.n s') => exOpsS ops l u s'
      | some (.p v s') => some (.p v s', u)
      | none => none
def hasRec (ops : List Oper) : Bool := ops.any isRecover
/-- The code of a function that was deferred. -/
def exS : Code → Um → Cst → Option (Ed × Um × Cst)
  | .region id ops draw, u, s => match draw || !(hasRec ops.toList) with
    | true => match exC P op opD rc n (fun _ _ => none) (.region id ops draw) s with
      | some (e, s') => some (e, u, s')
      | none => none
    | false => match exOpsS P op rc n ops ops.toList u s with
      | some (.n s', u') => some (.n, u', s')
      | some (.p v s', u') => some (.p v, u', s')
      | none => none
  | .seq x y, u, s => match exS x u s with
    | some (.n, u', s') => exS y u' s'
    | r => r
  | .cond c x y, u, s => match ev s.fr c with
    | some (.v (.bool d)) => match d with
      | true => exS x u s
      | false => exS y u s
    | _ => none
  | c, u, s => match exF P op opD rc n 3 c s with
    | some (e, s') => some (e, u, s')
    | none => none
/-- What a function gives. -/
def resC (fn : Func) (s : Cst) : Option Cr := match resSV P s.st fn.results.toList with
  | some l => match ltAll s.mem.length (wrapS l).idx with
    | true => some ⟨false, wrapS l, s.mem⟩
    | false => none
  | none => none
/-- Rows that nothing names any more are dropped. -/
def cutC (m : Nat) (r : Cr) : Cr := match Nat.beq r.mem.length m with
  | true => r
  | false => match ltAll m r.s.idx && allB (fun q => ltAll m q.idx) (r.mem.take m) with
    | true => ⟨r.pan, r.s, r.mem.take m⟩
    | false => r
def Um.sv : Um → SV
  | .pan v => v
  | .took v => v
  | .ret => .v undef
def umOf : Ed → Option Um
  | .n => some .ret
  | .r => some .ret
  | .p v => some (.pan v)
  | _ => none
def Um.done : Um → Um
  | .took _ => .ret
  | u => u
/-- A function that was deferred is gone through. -/
def callD (f : FuncId) (args : List SV) (mem : List Row) (u : Um) : Option (Um × List Row) := match P.funcs[f]? with
  | some fn => match fn.body with
    | some c => match okB P f && Nat.ble args.length fn.ntmps with
      | true => match exS P op opD rc fn.ntmps c u ⟨argsG 0 args, mem, []⟩ with
        | some (e, u', s) => match umOf e, s.df with
          | some .ret, [] => match resSV P s.st fn.results.toList with
            | some _ => some (u', (cutC mem.length ⟨false, u'.sv, s.mem⟩).mem)
            | none => none
          | _, _ => none
        | none => none
      | false => none
    | none => none
  | none => none
/-- What was deferred is gone through, the last first. -/
def leaveD : List Df → Um → List Row → Option (Um × List Row)
  | [], u, mem => some (u, mem)
  | d :: ds, u, mem => match callD P op opD rc d.f (d.args ++ d.cap) mem u with
    | some (u', mem') => leaveD ds u'.done mem'
    | none => none
/-- A function's end. -/
def leaveC (fn : Func) (e : Ed) (s : Cst) : Option Cr := match umOf e with
  | some u => match leaveD P op opD rc s.df u s.mem with
    | some (.ret, mem) => resC P fn ⟨s.fr, mem, []⟩
    | some (.pan v, mem) => some ⟨true, v, mem⟩
    | _ => none
  | none => none
def callC (f : FuncId) (args : List SV) (mem : List Row) : Option Cr := match P.funcs[f]? with
  | some fn => match fn.body with
    | some c => match okB P f && Nat.ble args.length fn.ntmps with
      | true => match exF P op opD rc fn.ntmps 3 c ⟨argsG 0 args, mem, []⟩ with
        | some (e, s) => match leaveC P op opD rc fn e s with
          | some r => some (cutC mem.length r)
          | none => none
        | none => none
      | false => none
    | none => none
  | none => none
end
end Ax
end Go.Proofs.YtcpbbgkeigbndaaGreat

/- A reckoner of calls, part 16: runs whose values are all known are runs of the program. Proved over any program. No condition of its own. -/
namespace Go.Proofs.YtcpbbgkeigbndaaGreat
open Go Go.RowKit Go.Lib Go.Sort
namespace Ax
def Df.den (β : Env) (d : Df) : Deferred := { target := .fn (.func d.f) (SV.dens β d.cap).toArray, args := (SV.dens β d.args).toArray }
def Df.idx (d : Df) : List Nat := SV.idxs d.cap ++ SV.idxs d.args
theorem Df.congr {β β' : Env} {d : Df} (h : ∀ i ∈ d.idx, β.at β' i) : d.den β = d.den β' := by
  unfold Df.den
  rw [dens_congr d.cap fun i hi => h i (List.mem_append_left _ hi), dens_congr d.args fun i hi => h i (List.mem_append_right _ hi)]
def Wf (mem : List Row) : Prop := ∀ (i : Nat) (r : Row), mem[i]? = some r → ∀ j ∈ r.idx, j < mem.length
def Ext (β β' : Env) (m m' : Nat) : Prop := ∀ i, i < m → β.at β' i ∧ i < m'
theorem Ext.refl {β : Env} {m : Nat} : Ext β β m m := fun _ hi => ⟨⟨rfl, rfl⟩, hi⟩
theorem Ext.trans {β β' β'' : Env} {m m' m'' : Nat} (h : Ext β β' m m') (k : Ext β' β'' m' m'') : Ext β β'' m m'' := fun i hi => by
  obtain ⟨h1, h2⟩ := h i hi
  obtain ⟨h3, h4⟩ := k i h2
  exact ⟨⟨h1.1.trans h3.1, h1.2.trans h3.2⟩, h4⟩
theorem Ext.le {β β' : Env} {m m' : Nat} (h : Ext β β' m m') : m ≤ m' := by
  cases m with
  | zero => exact Nat.zero_le _
  | succ k => exact (h k (Nat.lt_succ_self k)).2
structure Hq (b : Base) (n : Nat) (β : Env) (s : Cst) (a : Act) (w : World) : Prop where
  hd : Hd ⟨a.defers, s.mem.length, β⟩ b n β s.st a w
  df : a.defers = s.df.map (Df.den β)
  wd : ∀ d ∈ s.df, ∀ i ∈ d.idx, i < s.mem.length
section
variable {P : Program} {T0 T : Tab P} {rc : Rc} {b : Base} {n : Nat} {β β' : Env} {s s' : Cst} {a a' : Act} {w w' : World} {ops : Array Oper} {Q : Exit → Act → World → Prop}
theorem Hd.reds {ds : Dr} {st : St} (h : Hd ds b n β st a w) : Hd ⟨a.defers, st.mem.length, β⟩ b n β st a w :=
  ⟨h.size, rfl, h.get, h.held, h.new, h.inj, h.cg, h.wfS, h.wfR, fun _ hi => ⟨⟨rfl, rfl⟩, hi⟩⟩
theorem Hq.next (h : Hq b n β s a w) {st : St} (h' : Hd ⟨a.defers, s.mem.length, β⟩ b n β' st a' w') : Hq b n β' ⟨st.fr, st.mem, s.df⟩ a' w' ∧ Ext β β' s.mem.length st.mem.length := by
  refine ⟨⟨h'.reds, ?_, fun d hd i hi => (h'.keep i (h.wd d hd i hi)).2⟩, h'.keep⟩
  rw [h'.dn]
  show a.defers = _
  rw [h.df]
  exact List.map_congr_left fun d hd => Df.congr fun i hi => (h'.keep i (h.wd d hd i hi)).1
theorem putC_st {dst : Option Tmp} {sv : SV} : (putC n s dst sv).st = s.st.put n dst sv ∧ (putC n s dst sv).mem = s.mem ∧ (putC n s dst sv).df = s.df := by
  unfold putC St.put
  cases dst with
  | none => exact ⟨rfl, rfl, rfl⟩
  | some d =>
    simp only
    cases Nat.blt d n <;> exact ⟨rfl, rfl, rfl⟩
theorem Hq.put (h : Hq b n β s a w) (dst : Option Tmp) {sv : SV} (hs : ∀ i ∈ sv.idx, i < s.mem.length) : Hq b n β (putC n s dst sv) (a.put dst (sv.den β)) w := by
  obtain ⟨h1, h2, h3⟩ := putC_st (n := n) (s := s) (dst := dst) (sv := sv)
  have hd := h.hd.put dst hs
  have e : (a.put dst (sv.den β)).defers = a.defers := by cases dst <;> rfl
  refine ⟨?_, by rw [e, h3]; exact h.df, fun d hd i hi => by rw [h2]; rw [h3] at hd; exact h.wd d hd i hi⟩
  rw [h1, e, h2]
  exact hd
theorem settle_src {b' : Base} {row : Nat → Option Row} {size k : Nat} {sv : SV} {xs : List Value} {ob : Option Prop} {see : List Nat} (h : srcOf b' row size sv = some (k, xs, ob, see)) (hb : srcB row size sv = true) : ∀ p, ob = some p → p := by
  unfold srcOf at h
  unfold srcB at hb
  split at h
  · split at h
    · split at h
      · cases h; intro p hp; cases hp
      · cases h
    · split at h
      · cases h; intro p hp; cases hp
      · cases h
    · split at h
      · split at h
        · cases h; intro p hp; cases hp
        · cases h
      · cases h
    · split at h
      · split at h
        · cases h; intro p hp; cases hp
        · cases h
      · cases h
    · cases h; intro p hp; cases hp
    · cases h
  · split at h
    · split at h
      · split at h
        · cases h; intro p hp; cases hp
        · cases h
      · cases h
    · split at h
      · split at h
        · cases h; intro p hp; cases hp
        · cases h
      · cases h
    · cases h
  · simp only at hb
    split at h
    · rename_i hr
      split at h
      · cases h
        rw [hr] at hb
        simp only [rowLen, Bool.and_eq_true] at hb
        rintro p ⟨⟩
        exact ⟨Nat.eq_of_beq_eq_true hb.1, Nat.le_of_ble_eq_true hb.2⟩
      · cases h
    · rename_i hr
      split at h
      · cases h
        rw [hr] at hb
        simp only [rowLen, Bool.and_eq_true] at hb
        rintro p ⟨⟩
        exact ⟨Nat.eq_of_beq_eq_true hb.1, Nat.le_of_ble_eq_true hb.2⟩
      · cases h
    · cases h
  · cases h
    simp only at hb
    split at hb
    · rintro p ⟨⟩
      exact fun W _ => Rd.nil W size
    · cases hb
  · cases h
theorem andO_some {ob : Option Prop} {X p : Prop} (h : andO ob (some X) = some p) (ho : ∀ q, ob = some q → q) (hx : X) : p := by
  cases ob with
  | none => cases h; exact hx
  | some q => cases h; exact ⟨ho _ rfl, hx⟩
variable {e : Operand → Option SV} {row : Nat → Option Row} {m : Nat} {o : Oper} {g : Eff} {ob : Option Prop}
theorem settle_append {b' : Base} {t : TypeId} {sx sy : SV} {sz bytes el k : Nat} (h : opAppend P b' none row m t sx sy = some (g, ob)) (ht : appTy P t = some (el, sz, bytes)) (hn : newLen g = some k) (hs : srcB row sz sy = true) (h1 : k ≤ maxLen) (h2 : k * bytes ≤ 140737488355328) : ∀ p, ob = some p → p := by
  unfold opAppend at h
  rw [ht] at h
  simp only at h
  split at h
  · cases h
  · rename_i k' ys ob' see hsrc
    have ho := settle_src hsrc hs
    split at h
    · split at h
      · split at h
        · cases h
          simp only [newLen, Option.some.injEq] at hn
          subst hn
          exact fun p hp => andO_some hp ho ⟨h1, h2⟩
        · cases h
      · cases h
    · cases h
      simp only [newLen, Option.some.injEq] at hn
      subst hn
      exact fun p hp => andO_some hp ho ⟨h1, h2⟩
    · cases h
theorem settle_copy {b' : Base} {t : TypeId} {sx sy : SV} {sz bytes el : Nat} (h : opCopy P b' none row t sx sy = some (g, ob)) (ht : appTy P t = some (el, sz, bytes)) (hs : srcB row sz sy = true) : ∀ p, ob = some p → p := by
  unfold opCopy at h
  rw [ht] at h
  simp only at h
  split at h
  · cases h
  · rename_i k' ys ob' see hsrc
    have ho := settle_src hsrc hs
    split at h
    · split at h
      · split at h
        · cases h
          exact ho
        · cases h
      · cases h
    · split at h
      · split at h
        · cases h
          exact ho
        · cases h
      · cases h
    · cases h
theorem pureRes_none {b' : Base} (h : pureRes P b' none e o = some (g, ob)) : ob = none := by
  unfold pureRes at h
  split at h
  · cases h
  · simp only at h
    split at h
    · cases h; rfl
    · cases h
theorem inB_none {k : Int} {len : Nat} {q : Option Prop} (h : inB none k len = some q) : q = none := by
  unfold inB at h
  split at h
  · rename_i hh; cases hh
  · split at h
    · cases h; rfl
    · cases h
theorem cutB_none {kl kh : Int} {cap l u q : Nat} {ob : Option Prop} (h : cutB none kl kh cap = some (l, u, q, ob)) : ob = none := by
  unfold cutB at h
  split at h
  · rename_i hh; cases hh
  · rename_i hh; cases hh
  · split at h
    · cases h; rfl
    · cases h
theorem hint_nil (d : Option Tmp) : hint [] d = none := by cases d <;> rfl
theorem opEff_nil {b' : Base} : opEff P T b' [] e row m o = opEffB P T b' [] none e row m o := by
  unfold opEff
  rw [hint_nil]
theorem settle_ok {b' : Base} (h : opEff P T b' [] e row m o = some (g, ob)) (hb : settleB P e row o g = true) : ∀ p, ob = some p → p := by
  rw [opEff_nil] at h
  unfold settleB at hb
  unfold opEffB at h
  split at hb
  · rename_i c ho
    rw [ho] at h
    simp only at h
    unfold opCall at h
    split at hb
    · rename_i t x y ha
      rw [ha] at h
      simp only at h
      split at hb
      · rename_i el sz bytes ht
        split at hb
        · rename_i sy hy
          split at hb
          · rename_i k hn
            simp only [Bool.and_eq_true] at hb
            split at h
            · rw [hy] at h
              exact settle_append h ht hn hb.1 (Nat.le_of_ble_eq_true hb.2.1) (Nat.le_of_ble_eq_true hb.2.2)
            · cases h
          · cases hb
        · cases hb
      · cases hb
    · rename_i ha
      rw [ha] at h
      simp only at h
      split at hb
      · rename_i t u x y hc
        rw [hc] at h
        simp only at h
        split at hb
        · rename_i el sz bytes ht
          split at hb
          · rename_i sy hy
            split at h
            · rw [hy] at h
              exact settle_copy h ht hb
            · cases h
          · cases hb
        · cases hb
      · cases hb
  · rename_i s x f ho
    rw [ho] at h
    simp only at h
    split at hb
    · rename_i i off hx
      rw [hx] at h
      simp only at h
      split at hb
      · rename_i k hk
        rcases orElse_cases h with h | h
        · unfold opFieldAddr at h
          split at h
          · cases h
          · simp only at h
            rw [hk] at h
            cases h
            rintro p ⟨⟩
            exact Nat.le_of_ble_eq_true hb
        · rw [pureRes_none h]; intro p hp; cases hp
      · cases hb
    · cases hb
  · rename_i t x ix ho
    rw [ho] at h
    simp only at h
    split at hb
    · rename_i i off k cut hx
      rw [hx] at h
      simp only at h
      split at hb
      · rename_i N hk
        split at h
        · rcases orElse_cases h with h | h
          · unfold opIndexAddr at h
            split at h
            · simp only at h
              rw [hk] at h
              simp only at h
              split at h
              · split at h
                · split at h
                  · rename_i ob' hin
                    rw [inB_none hin] at h
                    cases h
                    rintro p ⟨⟩
                    exact Nat.le_of_ble_eq_true hb
                  · cases h
                · cases h
              · cases h
            · cases h
          · rw [pureRes_none h]; intro p hp; cases hp
        · cases h
      · cases hb
    · cases hb
  · rename_i t x lo hi mx ho
    rw [ho] at h
    simp only at h
    split at hb
    · rename_i i off k cut hx
      split at hb
      · rename_i N hk
        simp only [Bool.and_eq_true] at hb
        obtain ⟨hb1, hb2⟩ := hb
        split at h
        · rw [hx] at h
          simp only at h
          rcases orElse_cases h with h | h
          · unfold opSlice at h
            simp only at h
            rw [hk] at h
            simp only at h
            split at h
            · split at h
              · split at h
                · split at h
                  · rename_i l u q ob' hcut
                    rw [cutB_none hcut] at h
                    split at h
                    · cases h
                      rintro p ⟨⟩
                      exact Nat.le_of_ble_eq_true hb1
                    · rename_i hne
                      cases h
                      rintro p ⟨⟩
                      refine ⟨?_, Nat.le_of_ble_eq_true hb1⟩
                      have hb2 : (Nat.blt 0 q || (Nat.beq (cut + l) cut || (Nat.beq off 0 && Nat.beq cut 0))) = true := hb2
                      simp only [Bool.or_eq_true, Bool.and_eq_true] at hb2
                      rcases hb2 with hb2 | hb2 | hb2
                      · exact Nat.le_of_ble_eq_true hb2
                      · have := Nat.eq_of_beq_eq_true hb2
                        have hl : l = 0 := by omega
                        subst hl
                        exact absurd hne (by simp)
                      · rw [hb2.1, hb2.2] at hne
                        exact absurd hne (by simp)
                  · cases h
                · cases h
              · cases h
            · cases h
          · rw [pureRes_none h]; intro p hp; cases hp
        · rw [pureRes_none h]; intro p hp; cases hp
      · cases hb
    · cases hb
  · cases hb
theorem opC_ok {b' : Base} (h : opC P T b' e row m o = some g) : ∃ ob, opEff P T b' [] e row m o = some (g, ob) ∧ ∀ p, ob = some p → p := by
  unfold opC at h
  split at h
  · rename_i g' hg
    cases h
    exact ⟨_, hg, fun p hp => nomatch hp⟩
  · rename_i g' q hg
    split at h
    · rename_i hb
      cases h
      exact ⟨_, hg, settle_ok hg hb⟩
    · cases h
  · cases h
end
end Ax
end Go.Proofs.YtcpbbgkeigbndaaGreat

/- A reckoner of calls, part 17: runs whose values are all known are runs of the program: code and calls. Proved over any program. No condition of its own. -/
namespace Go.Proofs.YtcpbbgkeigbndaaGreat
open Go Go.RowKit Go.Lib Go.Sort
namespace Ax
/-- How a call ends. -/
def endC (β : Env) (r : Cr) : Ending := match r.pan with
  | false => .returned (r.s.den β)
  | true => .panicked [{ v := r.s.den β, recovered := false }]
/-- Calls that are gone through are gone through rightly. -/
def RcOk (P : Program) (b : Base) (rc : Rc) : Prop := ∀ f args mem r, rc f args mem = some r → okFn P f = true ∧ ∀ β w, RowsOk b β w mem → Wf mem → (∀ s ∈ args, ∀ j ∈ s.idx, j < mem.length) →
  Calls P f (SV.dens β args).toArray w fun e w' => ∃ β', RowsOk b β' w' r.mem ∧ Wf r.mem ∧ Ext β β' mem.length r.mem.length ∧ (∀ i ∈ r.s.idx, i < r.mem.length) ∧ e = endC β' r
/-- Operations hold. -/
def OpOk (P : Program) (b : Base) (op : Opf) : Prop := ∀ e row m o g, op e row m o = some g → Comes1 P b e row m o g
theorem opC_holds {P : Program} {T : Tab P} {b : Base} : OpOk P b (opC P T b) := fun e row m o g h a β W hag hs => by
  obtain ⟨ob, heff, hob⟩ := opC_ok h
  exact op_ok hag heff hob hs
section
variable {P : Program} {T0 T : Tab P} {rc : Rc} {b : Base} {n : Nat} {β β' : Env} {s s' : Cst} {a a' : Act} {w w' : World} {ops : Array Oper} {Q : Exit → Act → World → Prop}
theorem Hq.agree (h : Hq b n β s a w) (o : Oper) : Agree o a (ev s.fr) β := h.hd.agree o
theorem panV_den {v : SV} (h : panV v = true) : ∃ t x, v.den β = .iface t x := by
  unfold panV at h
  split at h
  · exact ⟨_, _, rfl⟩
  · exact ⟨_, _, rfl⟩
  · cases h
theorem panic_run {x : Value} {t : TypeId} {y : Value} (h : x = .iface t y) : (Instr.panic x).run P w = .halt (.panic x) w := by
  subst h
  rfl
theorem isPanic_run {o : Oper} {x : Operand} (h : isPanic o = some x) {v : Value} {t : TypeId} {y : Value} (hv : a.eval x = v) (hi : v = .iface t y) : (execOp a.eval o).run P w = .halt (.panic v) w := by
  unfold isPanic at h
  split at h
  · rename_i y' ho
    cases h
    unfold execOp
    rw [ho]
    simp only [Sem.run_bind]
    rw [hv, panic_run hi]
    rfl
  · rename_i c ho
    split at h
    · rename_i hc
      split at h
      · rename_i x' ha
        cases h
        unfold execOp
        rw [ho]
        have hargs : c.args = #[x] := by
          have := congrArg List.toArray ha
          simpa using this
        simp only [resolve, hc, hargs, Sem.run_bind, Sem.run_pure, Result.andThen_ok, invoke, builtin]
        show Result.andThen ((Instr.panic ((#[x].map a.eval).getD 0 .nilIface)).run P w) _ = _
        rw [show (#[x].map a.eval).getD 0 .nilIface = v from by simp [hv], panic_run hi]
        rfl
      · cases h
    · cases h
  · cases h
theorem ev_idx (h : Hq b n β s a w) {x : Operand} {sv : SV} (hx : ev s.fr x = some sv) : ∀ i ∈ sv.idx, i < s.mem.length := h.hd.evOn hx
theorem exOp_step {op : Opf} (hop : OpOk P b op) (hrc : RcOk P b rc) {o : Oper} {l : List Oper} {oe : Oe} {next : Act → World → Prop} (hx : exOpsC P op rc n ops (o :: l) s = some oe) (h : Hq b n β s a w)
    (hn : ∀ s1 β1 a1 w1, exOpsC P op rc n ops l s1 = some oe → Hq b n β1 s1 a1 w1 → Ext β β1 s.mem.length s1.mem.length → next a1 w1)
    (hp : ∀ v s' β' a' w', oe = .p v s' → Hq b n β' s' a' w' → Ext β β' s.mem.length s'.mem.length → (∀ i ∈ v.idx, i < s'.mem.length) → Q (.panic [{ v := v.den β', recovered := false }]) a' w') :
    (Region.wanted o (yielded ops a.tmps) = false ∧ next (a.put o.dst undef) w) ∨ (Region.wanted o (yielded ops a.tmps) = true ∧ o.wp P a w next Q) := by
    unfold exOpsC at hx
    have go : ∀ {s1 : Cst} {β1 : Env} {a1 : Act} {w1 : World}, exOpsC P op rc n ops l s1 = some oe → Hq b n β1 s1 a1 w1 → Ext β β1 s.mem.length s1.mem.length → next a1 w1 := fun hx1 h1 he => hn _ _ _ _ hx1 h1 he
    have pan : ∀ {r : Option Oe}, (match isPanic o with
        | some x => match ev s.fr x with
          | some v => match panV v with
            | true => some (.p v s)
            | false => none
          | none => none
        | none => r) = some oe → isPanic o ≠ none → o.wp P a w next Q := by
      intro r hx hne
      split at hx
      · rename_i x hpx
        split at hx
        · rename_i v hv
          split at hx
          · rename_i hpv
            cases hx
            obtain ⟨t, y, hy⟩ := panV_den (β := β) hpv
            unfold Oper.wp
            rw [isPanic_run hpx (h.hd.eval hv) hy]
            exact hp v s β a w rfl h Ext.refl (ev_idx h hv)
          · cases hx
        · cases hx
      · exact absurd (by assumption) hne
    split at hx
    · cases hx
    · rename_i hg
      refine .inl ⟨h.hd.guard hg, go hx (h.put o.dst (sv := .v undef) (by simp [SV.idx])) ?_⟩
      rw [putC_st.2.1]
      exact Ext.refl
    · rename_i hg
      refine .inr ⟨h.hd.guard hg, ?_⟩
      split at hx
      · rename_i g hgo
        split at hx
        · rename_i hok
          refine runs_wp (hop _ _ _ _ _ hgo _ _ _ (h.agree o) (h.hd.see _)) fun v w' hpost => ?_
          obtain ⟨β', rfl, hpost⟩ := hpost
          obtain ⟨h1, h2⟩ := h.hd.eff hok hpost
          obtain ⟨h3, h4⟩ := h.next h1
          refine go hx (h3.put o.dst h2) ?_
          rw [putC_st.2.1]
          exact h4
        · cases hx
      · split at hx
        · rename_i c hc
          have ho : o.op = .call c := by
            unfold isCall at hc
            split at hc
            · rename_i hh; cases hc; exact hh
            · cases hc
          split at hx
          · rename_i q hq
            split at hx
            · rename_i r hr
              obtain ⟨hf, hcall⟩ := hrc _ _ _ _ hr
              have hcl := hcall β w h.hd.rows h.hd.wfR (callOf_idx h.hd hq)
              unfold Oper.wp
              rw [callOf_ok ho hq (h.agree o) hf]
              refine hcl.mono fun e w' he => ?_
              obtain ⟨β', h1, h2, h3, h4, rfl⟩ := he
              obtain ⟨h5, h6⟩ := h.next (h.hd.gone h1 h2 h3)
              split at hx
              · rename_i hpan
                rw [show endC β' r = .returned (r.s.den β') from by unfold endC; rw [hpan]]
                refine go hx (h5.put o.dst h4) ?_
                rw [putC_st.2.1]
                exact h6
              · rename_i hpan
                rw [show endC β' r = .panicked [{ v := r.s.den β', recovered := false }] from by unfold endC; rw [hpan]]
                cases hx
                exact hp r.s _ β' a w' rfl h5 h6 h4
            · cases hx
          · exact pan hx (fun hh => by rw [hh] at hx; cases hx)
        · cases hpx : isPanic o with
          | some x => exact pan (r := none) (by rw [hpx] at hx ⊢; exact hx) (by rw [hpx]; exact nofun)
          | none =>
            rw [hpx] at hx
            simp only at hx
            split at hx
            · rename_i c hc
              have ho : o.op = .defer c := by
                unfold isDefer at hc
                split at hc
                · rename_i hh; cases hc; exact hh
                · cases hc
              split at hx
              · rename_i x hcx
                split at hx
                · rename_i q hq
                  split at hx
                  · rename_i l' hl
                    have hag := h.agree o
                    have hmem : ∀ y, y = x ∨ y ∈ c.args.toList → ∀ sv, ev s.fr y = some sv → a.eval y = sv.den β := fun y _ sv hy => h.hd.eval hy
                    obtain ⟨fst, cap, hxv, hfst, hcap⟩ := callee_ok hq (hmem x (.inl rfl))
                    have hargs := svArgs_ok hl fun y hy sv hsv => h.hd.eval hsv
                    have hrun : (execOp a.eval o).run P w = .ok (.defer (Df.den β ⟨q.1, q.2.2, q.2.1 ++ l'⟩)) w := by
                      unfold execOp
                      rw [ho]
                      simp only [Sem.run_bind, resolve, hcx, hxv, Deferred.ofValue, Sem.run_pure, Result.andThen_ok]
                      have e1 : cap = (SV.dens β q.2.2).toArray := by rw [← hcap]
                      have e2 : fst ++ c.args.map a.eval = (SV.dens β (q.2.1 ++ l')).toArray := by
                        apply Array.toList_inj.1
                        simp [hfst, hargs, dens_append]
                      unfold Df.den
                      rw [e1, e2]
                    unfold Oper.wp
                    rw [hrun]
                    have hidx : ∀ i ∈ (Df.idx ⟨q.1, q.2.2, q.2.1 ++ l'⟩), i < s.mem.length := by
                      have := callOf_idx (c := c) (p := (q.1, q.2.1 ++ (l' ++ q.2.2))) (P := P) h.hd (by unfold callOf; rw [hcx]; simp only; rw [show calleeOf P (ev s.st.fr) x = some q from hq]; simp only; rw [show svArgs (ev s.st.fr) c.args.toList = some l' from hl])
                      intro i hi
                      rcases List.mem_append.1 hi with hi | hi
                      · obtain ⟨z, hz, hzi⟩ := mem_idxs hi
                        exact this z (by simp [hz]) i hzi
                      · obtain ⟨z, hz, hzi⟩ := mem_idxs hi
                        refine this z ?_ i hzi
                        rcases List.mem_append.1 hz with hz | hz <;> simp [hz]
                    have hq1 : Hq b n β ⟨s.fr, s.mem, ⟨q.1, q.2.2, q.2.1 ++ l'⟩ :: s.df⟩ { a with defers := Df.den β ⟨q.1, q.2.2, q.2.1 ++ l'⟩ :: a.defers } w :=
                      ⟨⟨h.hd.size, rfl, h.hd.get, h.hd.held, h.hd.new, h.hd.inj, h.hd.cg, h.hd.wfS, h.hd.wfR, h.hd.keep⟩, by simp [h.df], fun d hd i hi => by
                        rcases List.mem_cons.1 hd with rfl | hd
                        · exact hidx i hi
                        · exact h.wd d hd i hi⟩
                    refine go hx (hq1.put o.dst (sv := .v undef) (by simp [SV.idx])) ?_
                    rw [putC_st.2.1]
                    exact Ext.refl
                  · cases hx
                · cases hx
              · cases hx
            · cases hx
theorem exOpsC_ok {op : Opf} (hop : OpOk P b op) (hrc : RcOk P b rc) : ∀ (l : List Oper) (s : Cst) (oe : Oe) (β : Env) (a : Act) (w : World), exOpsC P op rc n ops l s = some oe → Hq b n β s a w →
    (∀ s' β' a' w', oe = .n s' → Hq b n β' s' a' w' → Ext β β' s.mem.length s'.mem.length → Q .normal a' w') →
    (∀ v s' β' a' w', oe = .p v s' → Hq b n β' s' a' w' → Ext β β' s.mem.length s'.mem.length → (∀ i ∈ v.idx, i < s'.mem.length) → Q (.panic [{ v := v.den β', recovered := false }]) a' w') → wpList P ops Q l a w
  | [], s, oe, β, a, w, hx, h, hn, _ => by
    unfold exOpsC at hx
    cases hx
    exact hn s β a w rfl h Ext.refl
  | o :: l, s, oe, β, a, w, hx, h, hn, hp => by
    have := exOp_step (Q := Q) (next := wpList P ops Q l) hop hrc hx h (fun s1 β1 a1 w1 hx1 h1 he => exOpsC_ok hop hrc l _ oe _ _ _ hx1 h1 (fun s' β' a' w' e hq hE => hn s' β' a' w' e hq (he.trans hE)) (fun v s' β' a' w' e hq hE hv => hp v s' β' a' w' e hq (he.trans hE) hv)) hp
    show (if Region.wanted o (yielded ops a.tmps) then _ else _)
    rcases this with ⟨hw, hk⟩ | ⟨hw, hk⟩
    · rw [hw, if_neg (by decide)]
      exact hk
    · rw [hw, if_pos rfl]
      exact .inl hk
end
end Ax
end Go.Proofs.YtcpbbgkeigbndaaGreat

/- A reckoner of calls, part 17b: map literals in regions that draw their order: the map behind it, its entries in whatever order. Proved over any program. No condition of its own. -/
namespace Go.Proofs.YtcpbbgkeigbndaaGreat
open Go Go.RowKit Go.Lib Go.Sort
namespace Ax
def mkE (m : Nat) (E : Kv) : Ent := ⟨⟨[], [], [], [.mo (entK E)], .mp m⟩, m⟩
theorem isMap0_ok {m : Nat} {es : List Ent} (h : isMap0 m es = true) : ∃ er, es = mkE m [] :: er ∧ ∀ en ∈ er, m ∉ en.g.see := by
  unfold isMap0 at h
  split at h
  · rename_i j k er
    simp only [Bool.and_eq_true] at h
    obtain ⟨h1, h2, h3⟩ := h
    rw [Nat.eq_of_beq_eq_true h1, Nat.eq_of_beq_eq_true h2]
    refine ⟨er, rfl, fun en hen hm => ?_⟩
    have := List.all_eq_true.1 h3 en hen
    rw [memN_iff.2 hm] at this
    cases this
  · cases h
def LexM (P : Program) (b : Base) (n : Nat) (t0 : Nat) (ops : Array Oper) : List Oper → Nat → St → List Ent → Kv → St → Prop
  | [], _, st, es, kv, st' => es = [] ∧ kv = [] ∧ EqS st st'
  | o :: l, k, st, es, kv, st' => ∃ en er, es = en :: er ∧ ((EntOk P (Tab.nil P) b [] ops st o en ∧ LexM P b n t0 ops l (k + 1) (applyE n st o en.g) er kv st') ∨ ∃ s v kr, kv = (k, s, v) :: kr ∧ guardOf ops (ev st.fr) o = some true ∧ insOf P t0 (ev st.fr) o = some (s, v) ∧ en = skipE st.mem.length ∧ LexM P b n t0 ops l (k + 1) (applyE n st o en.g) er kr st')
theorem litM_eq {ops : Array Oper} {o : Oper} {st : St} : EqS st (litG ops o st) := by
  unfold litG
  split
  · exact EqS.refl st
  · rename_i q hg
    refine ⟨fun x => ?_, rfl⟩
    have := guardBool_look hg
    show look st.fr x = look ((q.1, .v (.bool q.2)) :: st.fr) x
    rw [look_put]
    split
    · rename_i hx; subst hx; exact this
    · rfl
section
variable {P : Program} {b : Base} {n t0 : Nat} {ops : Array Oper}
theorem lexM_of {opD : Opf} (hop : OpOk P b opD) : ∀ (l : List Oper) (k : Nat) (st s0 : St) (acc es : List Ent) (kv0 kv : Kv) (st' : St), EqS s0 st → exLexM P opD n ops t0 l k st acc kv0 = some (es, st', kv) → ∃ es2 kv2, es = acc ++ es2 ∧ kv = kv0 ++ kv2 ∧ LexM P b n t0 ops l k s0 es2 kv2 st'
  | [], k, st, s0, acc, es, kv0, kv, st', he, hx => by
    unfold exLexM at hx
    cases hx
    exact ⟨[], [], by simp, by simp, rfl, rfl, he⟩
  | o :: l, k, st, s0, acc, es, kv0, kv, st', he, hx => by
    unfold exLexM at hx
    have he := he.trans (litM_eq (ops := ops) (o := o))
    generalize litG ops o st = st1 at he hx
    have hev := he.ev
    have hmem := he.2
    simp only at hx
    split at hx
    · rename_i hg
      split at hx
      · rename_i q hq
        obtain ⟨es2, kv2, rfl, rfl, hl⟩ := lexM_of hop l (k + 1) _ (applyE n s0 o (.pure [] (.v undef))) _ es _ kv st' (by unfold applyE; rw [hmem]; exact he.put n _ _ _) hx
        exact ⟨skipE st1.mem.length :: es2, (k, q) :: kv2, by simp, by simp, _, _, rfl, .inr ⟨q.1, q.2, kv2, rfl, by rw [hev]; exact hg, by rw [hev]; exact hq, by rw [hmem], hl⟩⟩
      · split at hx
        · rename_i g hgo
          split at hx
          · rename_i hok
            obtain ⟨es2, kv2, rfl, rfl, hl⟩ := lexM_of hop l (k + 1) _ (applyE n s0 o g) _ es _ kv st' (by unfold applyE; rw [hmem]; exact he.put n _ _ _) hx
            refine ⟨⟨g, st1.mem.length⟩ :: es2, kv2, by simp, rfl, _, _, rfl, .inl ⟨.inr ⟨?_, ?_, ?_, ?_⟩, hl⟩⟩
            · rw [hev]; exact hg
            · rw [hmem]
            · rw [hmem]; exact hok
            · rw [hev, hmem]; exact hop _ _ _ _ _ hgo
          · cases hx
        · cases hx
    · rename_i hg
      obtain ⟨es2, kv2, rfl, rfl, hl⟩ := lexM_of hop l (k + 1) _ (applyE n s0 o (.pure [] (.v undef))) _ es _ kv st' (by unfold applyE; rw [hmem]; exact he.put n _ _ _) hx
      exact ⟨skipE st1.mem.length :: es2, kv2, by simp, rfl, _, _, rfl, .inl ⟨.inl ⟨by rw [hev]; exact hg, by rw [hmem]⟩, hl⟩⟩
    · cases hx
/-- What an operation of such a region is: one like all, or an insert. -/
def ItemM (P : Program) (b : Base) (t0 : Nat) (ops : Array Oper) (kv : Kv) (k : Nat) (s : St) (o : Oper) (en : Ent) : Prop := (EntOk P (Tab.nil P) b [] ops s o en ∧ ∀ q ∈ kv, q.1 ≠ k) ∨ ∃ t v, (k, t, v) ∈ kv ∧ guardOf ops (ev s.fr) o = some true ∧ insOf P t0 (ev s.fr) o = some (t, v) ∧ en = skipE s.mem.length
theorem lexM_spec : ∀ {l : List Oper} {k0 : Nat} {st : St} {es : List Ent} {kv : Kv} {st' : St}, LexM P b n t0 ops l k0 st es kv st' → es.length = l.length ∧ (∀ k o en, l[k]? = some o → es[k]? = some en → ItemM P b t0 ops kv (k0 + k) (runE n st l es k) o en) ∧ EqS (runE n st l es l.length) st' ∧ (∀ q ∈ kv, k0 ≤ q.1 ∧ q.1 < k0 + l.length) ∧ kv.Pairwise (fun p q => p.1 < q.1)
  | [], k0, st, es, kv, st', h => by
    obtain ⟨rfl, rfl, he⟩ := h
    exact ⟨rfl, fun k o en h => by simp at h, by rw [List.length_nil, runE_zero]; exact he, fun q hq => (by cases hq), List.Pairwise.nil⟩
  | o :: l, k0, st, es, kv, st', h => by
    obtain ⟨en, er, rfl, h⟩ := h
    rcases h with ⟨hen, hl⟩ | ⟨s, v, kr, rfl, hg, hi, hen, hl⟩
    · obtain ⟨h1, h2, h3, h4, h5⟩ := lexM_spec hl
      refine ⟨by simp [h1], fun k o' en' ho he => ?_, by rw [List.length_cons, runE]; exact h3, fun q hq => ?_, h5⟩
      · cases k with
        | zero =>
          have ho : o = o' := by simpa using ho
          have he : en = en' := by simpa using he
          subst ho; subst he
          rw [runE_zero]
          exact .inl ⟨hen, fun q hq => by have := (h4 q hq).1; omega⟩
        | succ k =>
          rw [runE, show k0 + (k + 1) = k0 + 1 + k by omega]
          exact h2 k o' en' (by simpa using ho) (by simpa using he)
      · have := h4 q hq
        rw [List.length_cons]
        omega
    · obtain ⟨h1, h2, h3, h4, h5⟩ := lexM_spec hl
      refine ⟨by simp [h1], fun k o' en' ho he => ?_, by rw [List.length_cons, runE]; exact h3, fun q hq => ?_, List.Pairwise.cons (fun q hq => by have := (h4 q hq).1; show k0 < q.1; omega) h5⟩
      · cases k with
        | zero =>
          have ho : o = o' := by simpa using ho
          have he : en = en' := by simpa using he
          subst ho; subst he
          rw [runE_zero]
          exact .inr ⟨s, v, by simp, hg, hi, hen⟩
        | succ k =>
          rw [runE, show k0 + (k + 1) = k0 + 1 + k by omega]
          rcases h2 k o' en' (by simpa using ho) (by simpa using he) with ⟨h6, h7⟩ | ⟨t, u, h6, h7⟩
          · refine .inl ⟨h6, fun q hq => ?_⟩
            rcases List.mem_cons.1 hq with rfl | hq
            · show k0 ≠ _; omega
            · exact h7 q hq
          · exact .inr ⟨t, u, List.mem_cons_of_mem _ h6, h7⟩
      · rw [List.length_cons]
        rcases List.mem_cons.1 hq with rfl | hq
        · show k0 ≤ k0 ∧ k0 < _; omega
        · have := h4 q hq
          omega
theorem insOf_ok {e : Operand → Option SV} {o : Oper} {s : ByteArray} {v : SV} (h : insOf P t0 e o = some (s, v)) : ∃ t ix y kt et, o.op = .insert t (.tmp t0) ix y ∧ P.underlying t = some (.map kt et) ∧ P.underlying kt = some .string ∧ e ix = some (.v (.string s)) ∧ e y = some v := by
  unfold insOf at h
  split at h
  · rename_i t x i y ho
    split at h
    · rename_i t'
      split at h
      · rename_i hb
        split at h
        · rename_i k et hu
          split at h
          · rename_i hk
            split at h
            · rename_i s' hi
              split at h
              · rename_i v' hy
                cases h
                rw [Nat.eq_of_beq_eq_true hb] at ho
                exact ⟨t, i, y, k, et, ho, hu, hk, hi, hy⟩
              · cases h
            · cases h
          · cases h
        · cases h
      · cases h
    · cases h
  · cases h
theorem findNow_off {s : ByteArray} : ∀ {l : List MapEntry} {i : Nat}, (∀ e ∈ l, ∃ s', e.key = .string s' ∧ (s == s') = false) → Instr.findNow .string (.string s) l i = some none
  | [], _, _ => rfl
  | e :: l, i, h => by
    obtain ⟨s', h1, h2⟩ := h e (by simp)
    unfold Instr.findNow
    rw [h1]
    simp only [Instr.sameNow, h2]
    exact findNow_off fun e he => h e (List.mem_cons_of_mem _ he)
theorem run_getMapM {W : World} {r : Nat} {es : Array MapEntry} {c : Nat} (h : W.heap[r]? = some (.map es c)) : (getObj r).run P W = .ok (.map es c) W := by
  simp [getObj, Sem.run, h]
theorem run_setMapM {W : World} {r : Nat} {es : Array MapEntry} {c : Nat} {x : Obj} (h : W.heap[r]? = some (.map es c)) : (setObj r x).run P W = .ok () { W with heap := W.heap.setIfInBounds r x } := by
  simp [setObj, Sem.run, h]
theorem checkKey_str {em : Bool} {kt : TypeId} {s : ByteArray} {W : World} (ht : P.underlying kt = some .string) : (Instr.checkKey em 10000 kt (.string s)).run P W = .ok () W := by
  unfold Instr.checkKey
  simp [run_underlying ht]
theorem findKey_off {kt : TypeId} {s : ByteArray} {l : List MapEntry} {W : World} (ht : P.underlying kt = some .string) (h : ∀ e ∈ l, ∃ s', e.key = .string s' ∧ (s == s') = false) : (Instr.findKey kt (.string s) l).run P W = .ok none W := by
  unfold Instr.findKey
  simp only [Sem.run_bind, run_underlying ht, Result.andThen_ok, findNow_off h]
  rfl
theorem ins_run {t : TypeId} {x ix y : Operand} {kt et : TypeId} {r : Nat} {s : ByteArray} {v : Value} {entries : Array MapEntry} {clock : Nat} {a : Act} {o : Oper} {W : World} (ho : o.op = .insert t x ix y) (hu : P.underlying t = some (.map kt et)) (hk : P.underlying kt = some .string) (hx : a.eval x = .map (some r)) (hi : a.eval ix = .string s) (hy : a.eval y = v) (hh : W.heap[r]? = some (.map entries clock)) (hf : ∀ e ∈ entries.toList, ∃ s', e.key = .string s' ∧ (s == s') = false) : (execOp a.eval o).run P W = .ok .skip { W with heap := W.heap.setIfInBounds r (.map (entries.push { key := .string s, val := v, born := clock }) (clock + 1)) } := by
  unfold execOp
  simp only [ho, hx, hi, hy, Instr.mapUpdate, Sem.run_bind, run_underlying hu, Result.andThen_ok, run_getMapM hh, checkKey_str hk, findKey_off hk hf, run_setMapM hh, Sem.run_pure]
end
end Ax
end Go.Proofs.YtcpbbgkeigbndaaGreat

/- A reckoner of calls, part 17c: every order of a region that draws and makes a map. Proved over any program. No condition of its own. -/
namespace Go.Proofs.YtcpbbgkeigbndaaGreat
open Go Go.RowKit Go.Lib Go.Sort
namespace Ax
theorem densE_entK {β : Env} : ∀ {E : Kv}, densE β (entK E) = E.map fun q => (.string q.2.1, q.2.2.den β)
  | [] => rfl
  | q :: E => by
    show (SV.den β _, SV.den β _) :: densE β (entK E) = _
    rw [densE_entK]
    rfl
theorem entK_idx : ∀ {E : Kv} {j : Nat}, j ∈ idxE (entK E) ↔ ∃ q ∈ E, j ∈ q.2.2.idx
  | [], j => by simp [entK, idxE]
  | q :: E, j => by
    have : idxE (entK (q :: E)) = ([] ++ q.2.2.idx) ++ idxE (entK E) := rfl
    rw [this, List.nil_append, List.mem_append, entK_idx]
    simp
theorem apartK_spec : ∀ {kv : Kv}, apartK kv = true → kv.Pairwise (fun p q => (p.2.1 == q.2.1) = false ∧ (q.2.1 == p.2.1) = false)
  | [], _ => List.Pairwise.nil
  | q :: r, h => by
    unfold apartK at h
    rw [Bool.and_eq_true] at h
    refine List.Pairwise.cons (fun p hp => ?_) (apartK_spec h.2)
    have := List.all_eq_true.1 h.1 p hp
    simpa only [Bool.and_eq_true, Bool.not_eq_true'] using this
/-- Two of them are apart. -/
theorem apart_two {kv : Kv} (h : apartK kv = true) (_hk : kv.Pairwise (fun p q => p.1 < q.1)) {p q : Nat × ByteArray × SV} (hp : p ∈ kv) (hq : q ∈ kv) (hne : p.1 ≠ q.1) : (p.2.1 == q.2.1) = false := by
  obtain ⟨i, hi⟩ := List.mem_iff_getElem?.1 hp
  obtain ⟨j, hj⟩ := List.mem_iff_getElem?.1 hq
  obtain ⟨hil, hi⟩ := List.getElem?_eq_some_iff.1 hi
  obtain ⟨hjl, hj⟩ := List.getElem?_eq_some_iff.1 hj
  have ha := List.pairwise_iff_getElem.1 (apartK_spec h)
  rcases Nat.lt_trichotomy i j with hlt | heq | hgt
  · have := ha i j hil hjl hlt
    rw [hi, hj] at this
    exact this.1
  · subst heq
    rw [hi] at hj
    exact absurd (by rw [hj]) hne
  · have := ha j i hjl hil hgt
    rw [hi, hj] at this
    exact this.2
theorem one_at {kv : Kv} (hk : kv.Pairwise (fun p q => p.1 < q.1)) {p q : Nat × ByteArray × SV} (hp : p ∈ kv) (hq : q ∈ kv) (he : p.1 = q.1) : p = q := by
  obtain ⟨i, hi⟩ := List.mem_iff_getElem?.1 hp
  obtain ⟨j, hj⟩ := List.mem_iff_getElem?.1 hq
  obtain ⟨hil, hi⟩ := List.getElem?_eq_some_iff.1 hi
  obtain ⟨hjl, hj⟩ := List.getElem?_eq_some_iff.1 hj
  have ha := List.pairwise_iff_getElem.1 hk
  rcases Nat.lt_trichotomy i j with hlt | heq | hgt
  · have := ha i j hil hjl hlt
    rw [hi, hj] at this
    omega
  · subst heq
    rw [hi] at hj
    exact hj
  · have := ha j i hjl hil hgt
    rw [hi, hj] at this
    omega
theorem kv_nodup {kv : Kv} (hk : kv.Pairwise (fun p q => p.1 < q.1)) : kv.Nodup :=
  hk.imp fun h he => by rw [he] at h; exact Nat.lt_irrefl _ h
theorem perm_of {α : Type} : ∀ {l l' : List α}, l.Nodup → l'.Nodup → (∀ x, x ∈ l ↔ x ∈ l') → l.Perm l'
  | [], l', _, _, h => by
    cases l' with
    | nil => exact List.Perm.refl _
    | cons x r => exact absurd ((h x).2 (by simp)) (by simp)
  | x :: l, l', h1, h2, h => by
    obtain ⟨s, t, rfl⟩ := List.append_of_mem ((h x).1 (by simp))
    have hn := List.nodup_cons.1 h1
    have h2' : (x :: (s ++ t)).Nodup := (List.perm_middle.nodup_iff).1 h2
    have hn' := List.nodup_cons.1 h2'
    refine (List.Perm.cons x (perm_of hn.2 hn'.2 fun y => ?_)).trans List.perm_middle.symm
    have := h y
    rw [List.mem_append, List.mem_cons, List.mem_cons] at this
    rw [List.mem_append]
    constructor
    · intro hy
      have hyx : y ≠ x := fun hh => hn.1 (by rw [← hh]; exact hy)
      rcases this.1 (.inr hy) with h3 | h3 | h3
      · exact .inl h3
      · exact absurd h3 hyx
      · exact .inr h3
    · intro hy
      have hyx : y ≠ x := fun hh => hn'.1 (by rw [← hh, List.mem_append]; exact hy)
      rcases this.2 (hy.imp id .inr) with h3 | h3
      · exact absurd h3 hyx
      · exact h3
section
variable {P : Program} {b : Base} {n t0 m : Nat} {ds : Dr} {l : List Oper} {er : List Ent} {st : St} {L : Nat → Bool} {β β' : Env} {a : Act} {w w' : World} {ops : Array Oper} {kv E E' : Kv} {Q : Exit → Act → World → Prop}
theorem fLook_w {t : Nat} : fLook l (mkE m E :: er) st L t = fLook l (mkE m E' :: er) st L t := by
  unfold fLook
  cases idxOf (isDst t) l with
  | none => rfl
  | some k => cases k <;> rfl
theorem new_w {i : Nat} : idxOf (isNew i) (mkE m E :: er) = idxOf (isNew i) (mkE m E' :: er) := rfl
theorem wr_w {i : Nat} : idxOf (isWr i) (mkE m E :: er) = idxOf (isWr i) (mkE m E' :: er) := rfl
theorem isNew_mk {i : Nat} : isNew i (mkE m E) = true ↔ i = m := by
  rw [isNew_iff]
  show m ≤ i ∧ i < m + 1 ↔ _
  omega
theorem fBase_w {i : Nat} (h : i ≠ m) : fBase (mkE m E :: er) st L i = fBase (mkE m E' :: er) st L i := by
  unfold fBase
  rw [new_w (E' := E')]
  cases hk : idxOf (isNew i) (mkE m E' :: er) with
  | none => rfl
  | some k =>
    cases k with
    | zero =>
      obtain ⟨x, hx, hp⟩ := idxOf_some hk
      cases (Option.some.inj hx)
      exact absurd (isNew_mk.1 hp) h
    | succ k => rfl
theorem fRow_w {i : Nat} (h : i ≠ m) : fRow (mkE m E :: er) st L i = fRow (mkE m E' :: er) st L i := by
  unfold fRow
  rw [wr_w (E' := E'), fBase_w (E' := E') h]
  cases idxOf (isWr i) (mkE m E' :: er) with
  | none => rfl
  | some k => cases k <;> rfl
theorem runE_len2 : ∀ {l : List Oper} {es : List Ent} {s s' : St} {k : Nat}, s.mem.length = s'.mem.length → (runE n s l es k).mem.length = (runE n s' l es k).mem.length
  | [], _, _, _, k, h => by cases k <;> exact h
  | _ :: _, [], _, _, k, h => by cases k <;> exact h
  | _ :: _, _ :: _, _, _, 0, h => h
  | o :: l, en :: es, s, s', k + 1, h => by
    rw [runE, runE]
    refine runE_len2 ?_
    rw [applyE_mem, applyE_mem, gMem_length, gMem_length, h]
theorem runE_len {k : Nat} : (runE n st l (mkE m E :: er) k).mem.length = (runE n st l (mkE m E' :: er) k).mem.length := by
  cases l with
  | nil => rfl
  | cons o l =>
    cases k with
    | zero => rfl
    | succ k =>
      rw [runE, runE]
      refine runE_len2 ?_
      rw [applyE_mem, applyE_mem, gMem_length, gMem_length]
      rfl
/-- An entry of the one is one of the other. -/
theorem ent_w {k : Nat} {en : Ent} (h : (mkE m E :: er)[k]? = some en) : ∃ en0, (mkE m E' :: er)[k]? = some en0 ∧ en0.m = en.m ∧ en0.g.see = en.g.see ∧ (∀ i, isNew i en0 = isNew i en) ∧ (∀ i, isWr i en0 = isWr i en) ∧ (k ≠ 0 → en0 = en) := by
  cases k with
  | zero =>
    cases (Option.some.inj h)
    exact ⟨mkE m E', rfl, rfl, rfl, fun _ => rfl, fun _ => rfl, fun hh => absurd rfl hh⟩
  | succ k => exact ⟨en, h, rfl, rfl, fun _ => rfl, fun _ => rfl, fun _ => rfl⟩
theorem okb_w (hB : ∀ k o en, l[k]? = some o → (mkE m E :: er)[k]? = some en → Okb ops l (mkE m E :: er) n k o en) : ∀ k o en, l[k]? = some o → (mkE m E' :: er)[k]? = some en → Okb ops l (mkE m E' :: er) n k o en := fun k o en ho he => by
  obtain ⟨en0, h0, _, h2, h3, h4, _⟩ := ent_w (E' := E) he
  have h := hB k o en0 ho h0
  exact ⟨h.down, h.dst, h.looks, fun i hi => h.see i (by rw [h2]; exact hi), fun i hi => h.nw i (by rw [h3]; exact hi), fun i hi => h.wr i (by rw [h4]; exact hi), h.nosel⟩
theorem entS_w (hS : ∀ k o en, l[k]? = some o → (mkE m E :: er)[k]? = some en → EntS (runE n st l (mkE m E :: er) k) en) : ∀ k o en, l[k]? = some o → (mkE m E' :: er)[k]? = some en → EntS (runE n st l (mkE m E' :: er) k) en := fun k o en ho he => by
  obtain ⟨en0, h0, h1, h2, _, h4, _⟩ := ent_w (E' := E) he
  obtain ⟨h5, h6⟩ := hS k o en0 ho h0
  refine ⟨by rw [← h1, h5]; exact runE_len, fun i hi => ?_⟩
  rw [← h2, ← runE_len (E := E)]
  exact h6 i (by rw [h4]; exact hi)
theorem post_row {row row' : Nat → Option Row} {g : Eff} (hr : ∀ i, (i ∈ g.upd.map (·.1) ∨ i ∈ g.kill) → row i = row' i) (h : Post b β w row m g w' β') : Post b β w row' m g w' β' := by
  have ht : ∀ k, Turned β row g k → Turned β row' g k := fun k ⟨i, r, h1, h2, h3⟩ => ⟨i, r, h1, by rw [← hr i h1]; exact h2, h3⟩
  exact ⟨h.same, h.sameF, h.held, fun q hq x hx => (h.from_ q hq x hx).imp (ht x) id, h.apart, h.cg.mono fun k hk => .inl (ht k hk)⟩
theorem entOk_w {s s' : St} {o : Oper} {en : Ent} (h : EntOk P (Tab.nil P) b [] ops s o en) (hl : ∀ t, look s.fr t = look s'.fr t) (hlen : s.mem.length = s'.mem.length) (hr : ∀ i ∈ en.g.see, s.mem[i]? = s'.mem[i]?) : EntOk P (Tab.nil P) b [] ops s' o en := by
  have hev : ev s.fr = ev s'.fr := EqS.ev (s := ⟨s.fr, []⟩) (t := ⟨s'.fr, []⟩) ⟨hl, rfl⟩
  rcases h with ⟨h1, h2⟩ | ⟨h1, h2, h3, h4⟩
  · exact .inl ⟨by rw [← hev]; exact h1, by rw [← hlen]; exact h2⟩
  · have hup : ∀ i, (i ∈ en.g.upd.map (·.1) ∨ i ∈ en.g.kill) → i ∈ en.g.see := fun i hi => by
      unfold gOk at h3
      simp only [Bool.and_eq_true] at h3
      obtain ⟨hu, hk, _⟩ := h3
      rcases hi with hi | hi
      · obtain ⟨q, hq, rfl⟩ := List.mem_map.1 hi
        have := allB_spec hu q hq
        simp only [Bool.and_eq_true] at this
        exact memN_iff.1 this.2.1
      · have := allB_spec hk i hi
        simp only [Bool.and_eq_true] at this
        exact memN_iff.1 this.2
    refine .inr ⟨by rw [← hev]; exact h1, by rw [← hlen]; exact h2, ?_, ?_⟩
    · unfold gOk hasRow at h3 ⊢
      rw [← hlen]
      exact h3
    · rw [← hev, ← hlen]
      intro a β W hag hsee
      have hsee' : See b β W (rowAt s.mem) en.g.see := ⟨hsee.cg, fun i hi r h => hsee.held i hi r (by show s'.mem[i]? = _; rw [← hr i hi]; exact h), fun i hi r k h hk => hsee.new i hi r k (by show s'.mem[i]? = _; rw [← hr i hi]; exact h) hk, fun i hi j hj r r' k h h' hk hk' => hsee.inj i hi j hj r r' k (by show s'.mem[i]? = _; rw [← hr i hi]; exact h) (by show s'.mem[j]? = _; rw [← hr j hj]; exact h') hk hk'⟩
      refine (h4 a β W hag hsee').mono fun v W' hp => ?_
      obtain ⟨β', h5, h6⟩ := hp
      exact ⟨β', h5, post_row (fun i hi => hr i (hup i hi)) h6⟩
/-- Rows that say less. -/
theorem Hd.wk {st2 : St} (h : Hd ds b n β st a w) (hl : ∀ t, look st.fr t = look st2.fr t) (hlen : st.mem.length = st2.mem.length) (hrow : ∀ (c : Nat) (r2 : Row), st2.mem[c]? = some r2 → ∃ r, st.mem[c]? = some r ∧ (Held b β w c r → Held b β w c r2) ∧ (∀ k, foot β c r2 k → foot β c r k) ∧ ∀ j ∈ r2.idx, j ∈ r.idx) : Hd ds b n β st2 a w := by
  refine ⟨h.size, h.dn, fun t sv ht => h.get t sv (by rw [hl]; exact ht), fun i r hi => ?_, fun i r k hi hk => ?_, fun i j r r' k hi hj hk hk' => ?_, h.cg, fun t sv ht => ?_, fun i r hi j hj => ?_, fun i hi => by rw [← hlen]; exact h.keep i hi⟩
  · obtain ⟨r0, h1, h2, _⟩ := hrow i r hi
    exact h2 (h.held i r0 h1)
  · obtain ⟨r0, h1, _, h3, _⟩ := hrow i r hi
    exact h.new i r0 k h1 (h3 k hk)
  · obtain ⟨r0, h1, _, h3, _⟩ := hrow i r hi
    obtain ⟨r1, h4, _, h5, _⟩ := hrow j r' hj
    exact h.inj i j r0 r1 k h1 h4 (h3 k hk) (h5 k hk')
  · rw [← hlen]; exact h.wfS t sv (by rw [hl]; exact ht)
  · obtain ⟨r0, h1, _, _, h3⟩ := hrow i r hi
    rw [← hlen]
    exact h.wfR i r0 h1 j (h3 j hj)
/-- What such a region is. -/
structure MapReg (P : Program) (b : Base) (n t0 : Nat) (ops : Array Oper) (l : List Oper) (er : List Ent) (st : St) (kv : Kv) : Prop where
  hops : ∀ (i : Nat) o, l[i]? = some o → ops[i]? = some o
  h0 : ∃ o0, l[0]? = some o0 ∧ o0.dst = some t0
  hlen : (mkE st.mem.length [] :: er).length = l.length
  hB : ∀ k o en, l[k]? = some o → (mkE st.mem.length [] :: er)[k]? = some en → Okb ops l (mkE st.mem.length [] :: er) n k o en
  hM : ∀ k o en, l[k]? = some o → (mkE st.mem.length [] :: er)[k]? = some en → Okm l (mkE st.mem.length [] :: er) k en
  hit : ∀ k o en, l[k]? = some o → (mkE st.mem.length [] :: er)[k]? = some en → ItemM P b t0 ops kv k (runE n st l (mkE st.mem.length [] :: er) k) o en
  hkv : kv.Pairwise (fun p q => p.1 < q.1)
  hap : apartK kv = true
  hsee : ∀ en ∈ er, st.mem.length ∉ en.g.see
  hin : ∀ q ∈ kv, q.1 < l.length
theorem MapReg.hS (R : MapReg P b n t0 ops l er st kv) : ∀ k o en, l[k]? = some o → (mkE st.mem.length [] :: er)[k]? = some en → EntS (runE n st l (mkE st.mem.length [] :: er) k) en := fun k o en ho he => by
  rcases R.hit k o en ho he with ⟨h, _⟩ | ⟨_, _, _, _, _, rfl⟩
  · exact entOk_s h
  · exact ⟨rfl, fun i hi => by cases hi⟩
theorem MapReg.nowr (R : MapReg P b n t0 ops l er st kv) : idxOf (isWr st.mem.length) (mkE st.mem.length E :: er) = none := by
  cases h : idxOf (isWr st.mem.length) (mkE st.mem.length E :: er) with
  | none => rfl
  | some k =>
    obtain ⟨en, he, hp⟩ := idxOf_some h
    cases k with
    | zero => cases (Option.some.inj he); cases hp
    | succ k =>
      have hk : k + 1 < l.length := by rw [← R.hlen]; exact (List.getElem?_eq_some_iff.1 he).1
      have := (R.hS (k + 1) _ en (List.getElem?_eq_getElem hk) he).2 _ hp
      exact absurd this.1 (R.hsee en (List.mem_of_getElem? he))
theorem new0 : idxOf (isNew m) (mkE m E :: er) = some 0 := by
  have : isNew m (mkE m E) = true := isNew_mk.2 rfl
  unfold idxOf
  rw [this]
theorem MapReg.row_m (R : MapReg P b n t0 ops l er st kv) (hL : L 0 = true) : fRow (mkE st.mem.length E :: er) st L st.mem.length = some (.mo (entK E)) := by
  unfold fRow
  rw [R.nowr]
  unfold fBase
  rw [new0]
  simp only [hL, if_true]
  show ([Row.mo (entK E)] : List Row)[st.mem.length - st.mem.length]? = _
  rw [Nat.sub_self]
  rfl
theorem MapReg.dst0 (R : MapReg P b n t0 ops l er st kv) : idxOf (isDst t0) l = some 0 := by
  obtain ⟨o0, h1, h2⟩ := R.h0
  exact ((R.hB 0 o0 _ h1 rfl).dst t0 h2).2
/-- The operation of an insert. -/
theorem MapReg.ins (R : MapReg P b n t0 ops l er st kv) {q : Nat × ByteArray × SV} (hq : q ∈ kv) : ∃ o, l[q.1]? = some o ∧ (mkE st.mem.length [] :: er)[q.1]? = some (skipE (runE n st l (mkE st.mem.length [] :: er) q.1).mem.length) ∧ guardOf ops (ev (runE n st l (mkE st.mem.length [] :: er) q.1).fr) o = some true ∧ insOf P t0 (ev (runE n st l (mkE st.mem.length [] :: er) q.1).fr) o = some q.2 ∧ q.1 ≠ 0 := by
  have hk := R.hin q hq
  obtain ⟨o, ho⟩ : ∃ o, l[q.1]? = some o := ⟨_, List.getElem?_eq_getElem hk⟩
  obtain ⟨en, he⟩ : ∃ en, (mkE st.mem.length [] :: er)[q.1]? = some en := ⟨_, List.getElem?_eq_getElem (by rw [R.hlen]; exact hk)⟩
  rcases R.hit q.1 o en ho he with ⟨_, h⟩ | ⟨s, v, h1, h2, h3, h4⟩
  · exact absurd rfl (h q hq)
  · have : q = (q.1, s, v) := one_at R.hkv hq h1 rfl
    refine ⟨o, ho, by rw [he, h4], h2, by rw [h3, this], fun h0 => ?_⟩
    rw [h0] at he
    cases (Option.some.inj he)
    have := congrArg (fun e : Ent => e.g.new.length) h4
    cases this
theorem tmp_looks {o : Oper} {t : Nat} (h : Operand.tmp t ∈ o.op.operands) : t ∈ o.looksAt ops := by
  unfold Oper.looksAt
  exact List.mem_append_left _ (List.mem_filterMap.2 ⟨.tmp t, by simpa using h, rfl⟩)
/-- Behind an insert the map is there. -/
theorem MapReg.first (R : MapReg P b n t0 ops l er st kv) (hI : OInv ds b n l (mkE st.mem.length E :: er) st L β a w) {q : Nat × ByteArray × SV} (hq : q ∈ kv) (hL : L q.1 = true) : L 0 = true := by
  obtain ⟨o, ho, he, _, hi, hne⟩ := R.ins hq
  obtain ⟨s, v⟩ := q
  obtain ⟨t, ix, y, kt, et, hop, _⟩ := insOf_ok (s := v.1) (v := v.2) hi
  have hlk : t0 ∈ o.looksAt ops := tmp_looks (by simp [hop, Op.operands])
  have hset := (R.hB _ o _ ho he).looks t0 hlk
  rw [R.dst0] at hset
  have hset : settledB l s 0 = true := hset
  unfold settledB at hset
  rw [show Nat.blt 0 s = true from Nat.ble_eq_true_of_le (Nat.pos_of_ne_zero hne)] at hset
  exact waits_down hI.down hset hL
/-- What holds when some operations have come up. -/
def MInv (ds : Dr) (b : Base) (n : Nat) (l : List Oper) (er : List Ent) (st : St) (kv : Kv) (L : Nat → Bool) (β : Env) (a : Act) (w : World) : Prop := ∃ E : Kv, E.Nodup ∧ (∀ q, q ∈ E ↔ q ∈ kv ∧ L q.1 = true) ∧ OInv ds b n l (mkE st.mem.length E :: er) st L β a w
end
end Ax
end Go.Proofs.YtcpbbgkeigbndaaGreat
