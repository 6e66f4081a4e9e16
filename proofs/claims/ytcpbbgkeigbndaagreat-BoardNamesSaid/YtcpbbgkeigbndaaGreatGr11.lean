/- A reckoner of calls, part 21: more operations: maps, texts gone through, slices whose cells name rows. No condition of its own. -/
import Derived.Test.YtcpbbgkeigbndaaGreatGr10
import Derived.Stop.Asserts
import Derived.Lib.AppendStr
namespace Go.Proofs.YtcpbbgkeigbndaaGreat
open Go Go.RowKit Go.Lib Go.Sort
namespace Ax
/-- The entries of a map's row. -/
def mapRow : Option Row → Option (List (SV × SV))
  | some (.mo es) => some es
  | some (.mr es) => some es
  | _ => none
/-- The keys, with values that say nothing. -/
def dumE : List (SV × SV) → Option (List MapEntry)
  | [] => some []
  | q :: r => match q.1 with
    | .v k => match dumE r with
      | some l => some ({ key := k, val := .bool false, born := 0 } :: l)
      | none => none
    | _ => none
def mapTy (P : Program) (t : TypeId) : Option (TypeId × TypeId) := match P.underlying t with
  | some (.map k e) => some (k, e)
  | _ => none
def okKey (P : Program) (empty : Bool) (kt : TypeId) (k : Value) : Bool := match pureRun P (Instr.checkKey empty 10000 kt k) with
  | some _ => true
  | none => false
/-- Where a key stands: nowhere; at a place. -/
def keyAt (P : Program) (kt : TypeId) (k : Value) (es : List (SV × SV)) : Option (Option Nat) := match dumE es with
  | some l => match pureRun P (Instr.findKey kt k l) with
    | some (some q) => some (some q.1)
    | some none => some none
    | none => none
  | none => none
def setE : Nat → (SV × SV) → List (SV × SV) → List (SV × SV)
  | _, _, [] => []
  | 0, x, _ :: r => x :: r
  | k + 1, x, q :: r => q :: setE k x r
def zeroSV (P : Program) (t : TypeId) : Option SV := match P.info? t with
  | some i => match i.zero with
    | some z => some (.v z)
    | none => none
  | none => none
def okSV (ok b : Bool) (sv : SV) : SV := match ok with
  | true => .tp [sv, .v (.bool b)]
  | false => sv
def opLookup (P : Program) (row : Nat → Option Row) (t : TypeId) (j : Nat) (k : Value) (ok : Bool) : Option Eff := match mapTy P t with
  | none => none
  | some q => match mapRow (row j) with
    | none => none
    | some es => match okKey P es.isEmpty q.1 k with
      | false => none
      | true => match keyAt P q.1 k es with
        | none => none
        | some none => match zeroSV P q.2 with
          | none => none
          | some z => some (.pure [j] (okSV ok false z))
        | some (some i) => match es[i]? with
          | none => none
          | some p => some (.pure [j] (okSV ok true p.2))
def orE : Option Eff → Option Eff → Option Eff
  | some g, _ => some g
  | none, x => x
def muRow : Option Row → Option (List (SV × SV))
  | some (.mu es) => some es
  | some (.mv es) => some es
  | _ => none
def isKey (s : ByteArray) (q : SV × SV) : Bool := match q.1 with
  | .v (.string t) => s == t
  | _ => false
def strKey (q : SV × SV) : Bool := match q.1 with
  | .v (.string _) => true
  | _ => false
/-- A key that one entry has, or none, in a map whose order is not known. -/
def opLookupU (P : Program) (row : Nat → Option Row) (t : TypeId) (j : Nat) (k : Value) (ok : Bool) : Option Eff := match mapTy P t with
  | none => none
  | some q => match P.underlying q.1 with
    | some .string => match k with
      | .string s => match muRow (row j) with
        | none => none
        | some es => match es.all strKey with
          | false => none
          | true => match es.filter (isKey s) with
            | [] => match zeroSV P q.2 with
              | none => none
              | some z => some (.pure [j] (okSV ok false z))
            | [p] => some (.pure [j] (okSV ok true p.2))
            | _ => none
      | _ => none
    | _ => none
def keySame (x : SV) (k : Value) : Bool := match x with
  | .v a => Instr.sameBits 10000 a k
  | _ => false
def opMapUpdate (P : Program) (row : Nat → Option Row) (t : TypeId) (j : Nat) (k : Value) (v : SV) : Option Eff := match mapTy P t with
  | none => none
  | some q => match row j with
    | some (.mo es) => match okKey P false q.1 k with
      | false => none
      | true => match keyAt P q.1 k es with
        | none => none
        | some none => some ⟨[j], [(j, .mo (es ++ [(.v k, v)]))], [], [], .v undef⟩
        | some (some i) => match es[i]? with
          | none => none
          | some p => match keySame p.1 k with
            | true => some ⟨[j], [(j, .mo (setE i (.v k, v) es))], [], [], .v undef⟩
            | false => none
    | _ => none
def opMakeMap (m : Nat) (r : Option SV) : Option Eff := match r with
  | none => some ⟨[], [], [], [.mo []], .mp m⟩
  | some _ => none
def opMake0 (P : Program) (m : Nat) (t : TypeId) (l c : Option SV) : Option Eff := match l with
  | some (.v (.int _ kl)) => match c with
    | some (.v (.int _ kc)) => match appTy P t with
      | some (_, _, bytes) => match decide (kl = kl.toNat ∧ kl ≤ kc ∧ kc ≤ 9223372036854775807 ∧ (bytes : Int) * kc ≤ 281474976710656) with
        | true => match opMake P (some (.mk kl.toNat)) m t l c with
          | some (g, _) => some g
          | none => none
        | false => none
      | none => none
    | _ => none
  | _ => none
def opRangeS (P : Program) (m : Nat) (t : TypeId) (s : ByteArray) : Option Eff := match P.underlying t with
  | some .string => some ⟨[], [], [], [.ho (.stringIter s 0)], .p m 0⟩
  | _ => none
def opNextS (row : Nat → Option Row) (j : Nat) : Option Eff := match row j with
  | some (.ho (.stringIter s pos)) => match Nat.blt pos s.size with
    | true => some ⟨[j], [(j, .ho (.stringIter s (pos + (Utf8.decode s pos).2)))], [], [], .v (.tuple #[.bool true, goInt pos, .int .i32 (Utf8.decode s pos).1])⟩
    | false => some (.pure [j] (.v (.tuple #[.bool false])))
  | _ => none
/-- A map of one entry at most is gone through: it is not asked any more. -/
def opRangeM (P : Program) (row : Nat → Option Row) (m : Nat) (t : TypeId) (j : Nat) : Option Eff := match mapTy P t with
  | some _ => match row j with
    | some (.mo es) => match Nat.ble es.length 1 && ltAll m (idxE es) with
      | true => some ⟨[j], [], [j], [.mi [] es], .p m 0⟩
      | false => none
    | _ => none
  | none => none
def opNextM (row : Nat → Option Row) (j : Nat) : Option Eff := match row j with
  | some (.mi _ []) => some (.pure [j] (.v (.tuple #[.bool false])))
  | some (.mi _ [q]) => some ⟨[j], [(j, .mi [q] [])], [], [], .tp [.v (.bool true), q.1, q.2]⟩
  | _ => none
def opEntry (row : Nat → Option Row) (j : Nat) : Option Eff := match row j with
  | some (.mi [q] _) => some (.pure [j] (.tp [q.1, q.2]))
  | _ => none
def byteOf : Value → Option UInt8
  | .int k (.ofNat n) => match k with
    | .u8 => match Nat.blt n 256 with
      | true => some (UInt8.ofNat n)
      | false => none
    | _ => none
  | _ => none
def bytesOf : List Value → Option (List UInt8)
  | [] => some []
  | v :: l => match byteOf v with
    | some x => match bytesOf l with
      | some r => some (x :: r)
      | none => none
    | none => none
/-- A pointer to a row as an unsafe one, and back. -/
def opUns (P : Program) (row : Nat → Option Row) (s d : TypeId) : SV → Option Eff
  | .p i off => match row i with
    | some (.c _ ty cs) => match P.underlying s with
      | some (.pointer t) => match P.underlying d with
        | some .unsafePointer => match P.info? t with
          | some j => match Nat.blt 0 j.size && Nat.blt off cs.svs.length with
            | true => some (.pure [i] (.p i off))
            | false => none
          | none => none
        | _ => none
      | some .unsafePointer => match P.underlying d with
        | some (.pointer u) => match P.info? u with
          | some _ => match liesAt P P.depth ty (cs.svs.length / P.cellsOf ty) off u 1 with
            | true => some (.pure [i] (.p i off))
            | false => none
          | none => none
        | _ => none
      | _ => none
    | _ => none
  | _ => none
/-- The call that hands back what it is handed. -/
def opEsc (P : Program) (e : Operand → Option SV) (c : Call) : Option Eff := match c.callee with
  | .value x => match calleeOf P e x with
    | some q => match svArgs e c.args.toList with
      | some l => match q.2.1 ++ (l ++ q.2.2) with
        | [y] => match P.funcs[q.1]? with
          | some fn => match fn.body.isNone && (fn.name == "internal/abi.NoEscape" && fn.origin == "") with
            | true => some (.pure [] y)
            | false => none
          | none => none
        | _ => none
      | none => none
    | none => none
  | _ => none
/-- A new slice of bytes, of whatever bytes. -/
def opNoZ (P : Program) (e : Operand → Option SV) (m : Nat) (c : Call) : Option Eff := match c.callee with
  | .value x => match calleeOf P e x with
    | some q => match svArgs e c.args.toList with
      | some l => match q.2.1 ++ (l ++ q.2.2) with
        | [.v (.int .i64 k)] => match P.funcs[q.1]? with
          | some fn => match fn.body.isNone && (fn.name == "internal/bytealg.MakeNoZero" && fn.origin == "") with
            | true => match fn.resultTypes.toList with
              | [t] => match P.underlying t with
                | some (.slice el) => match decide (0 ≤ k ∧ k.toNat ≤ maxLen ∧ k.toNat ≤ 281474976710656) with
                  | true => some ⟨[], [], [], [.s el 1 0 []], .sub m 0 k.toNat 0⟩
                  | false => none
                | _ => none
              | _ => none
            | false => none
          | none => none
        | _ => none
      | none => none
    | none => none
  | _ => none
/-- A slice that is cut down to its room alone. -/
def opCutW (P : Program) (e : Operand → Option SV) (row : Nat → Option Row) (t : TypeId) (sv : SV) (lo hi : Option Operand) : Option Eff := match appTy P t with
  | none => none
  | some _ => match sv with
    | .sub i 0 k 0 => match row i with
      | some (.s _ _ 0 _) => match bnd e 0 lo with
        | some kl => match bnd e k hi with
          | some kh => match decide (kl = 0 ∧ kh = 0) with
            | true => some (.pure [i] (.o i))
            | false => none
          | none => none
        | none => none
      | _ => none
    | _ => none
/-- How many elements a slice's row has, if it is the call's own. -/
def ownN : Option Row → Option Nat
  | some (.s _ _ n _) => some n
  | some (.sw _ _ n _) => some n
  | _ => none
/-- A part of a slice, as long as its row goes. -/
def opWide (P : Program) (e : Operand → Option SV) (row : Nat → Option Row) (t : TypeId) (sv : SV) (lo hi : Option Operand) : Option Eff := match appTy P t with
  | none => none
  | some _ => match sv with
    | .sub i off m cut => match ownN (row i) with
      | some n => match bnd e 0 lo with
        | some kl => match bnd e m hi with
          | some kh => match decide (kl = 0 ∧ 0 ≤ kh) && Nat.ble (cut + kh.toNat) n with
            | true => some (.pure [i] (.sub i off kh.toNat cut))
            | false => none
          | none => none
        | none => none
      | none => none
    | _ => none
def ownS (row : Nat → Option Row) (el sz : Nat) : SV → Option (Nat × List SV × List Nat)
  | .o i => match row i with
    | some (.s ty sz' n xs) => match Nat.beq ty el && Nat.beq sz' sz with
      | true => some (n, xs.map .v, [i])
      | false => none
    | some (.sw ty sz' n l) => match Nat.beq ty el && Nat.beq sz' sz with
      | true => some (n, l, [i])
      | false => none
    | _ => none
  | .sl i off n cap => match row i with
    | some (.c _ ty cs) => match Nat.beq ty el && (Nat.ble n cap && (Nat.ble cap maxLen && (Nat.ble (off + cap * sz) cs.svs.length && allB SV.oneB ((cs.svs.drop off).take (n * sz))))) with
      | true => some (n, (cs.svs.drop off).take (n * sz), [i])
      | false => none
    | _ => none
  | .v x => match x with
    | .slice none 0 0 => some (0, [], [])
    | _ => none
  | _ => none
/-- The operands of a call of the builtin append, whatever their types. -/
def appArgs2 (c : Call) : Option (TypeId × TypeId × Operand × Operand) := match c.callee with
  | .builtin .append => match c.args.toList, c.argTypes.toList with
    | [x, y], [t, u] => some (t, u, x, y)
    | _, _ => none
  | _ => none
theorem appArgs2_eq {c : Call} {t u : TypeId} {x y : Operand} (h : appArgs2 c = some (t, u, x, y)) : c = { callee := .builtin .append, args := #[x, y], argTypes := #[t, u] } := by
  obtain ⟨callee, args, ats⟩ := c
  unfold appArgs2 at h
  split at h
  · rename_i hb
    split at h
    · rename_i x' y' t' u' hx ht
      simp only at hb hx ht
      cases h
      have e1 : args = #[x, y] := by rw [← Array.toList_inj, hx]
      have e2 : ats = #[t, u] := by rw [← Array.toList_inj, ht]
      rw [hb, e1, e2]
    · cases h
  · cases h
/-- A text's bytes are appended. -/
def opAppStr (P : Program) (e : Operand → Option SV) (row : Nat → Option Row) (m : Nat) (c : Call) : Option Eff := match appArgs2 c with
  | some q => match e q.2.2.1 with
    | some sx => match e q.2.2.2 with
      | some (.v (.string s)) => match P.underlying q.2.1 with
        | some .string => match P.underlying q.1 with
          | some (.slice el) => match P.info? el with
            | some inf => match inf.zero with
              | some (.int .u8 0) => match Nat.beq inf.size 1 && Nat.beq inf.bytes 1 with
                | true => match ownS row el 1 sx with
                  | some d => match Nat.ble (d.1 + s.size) maxLen && (Nat.ble (d.1 + s.size) 140737488355328 && ltAll m (SV.idxs (d.2.1 ++ (strCells s).map .v))) with
                    | true => some ⟨d.2.2, [], d.2.2, [.sw el 1 (d.1 + s.size) (d.2.1 ++ (strCells s).map .v)], .o m⟩
                    | false => none
                  | none => none
                | false => none
              | _ => none
            | none => none
          | _ => none
        | _ => none
      | _ => none
    | none => none
  | none => none
/-- The bytes of an own slice, where all are known. -/
def ownBytes (row : Nat → Option Row) (i : Nat) : Option (TypeId × Nat × List UInt8) := match row i with
  | some (.s ty 1 n xs) => match bytesOf xs with
    | some l => some (ty, n, l)
    | none => none
  | some (.sw ty 1 n l) => match allV l with
    | some xs => match bytesOf xs with
      | some l => some (ty, n, l)
      | none => none
    | none => none
  | _ => none
/-- The address of a slice's first element; a text out of an own slice's bytes, which are frozen. -/
def opUStr (P : Program) (e : Operand → Option SV) (row : Nat → Option Row) (c : Call) : Option Eff := match c.callee with
  | .builtin .unsafeSliceData => match c.args.toList with
    | [x] => match e x with
      | some (.o i) => match ownBytes row i with
        | some q => match Nat.blt 0 q.2.1 with
          | true => some (.pure [i] (.e i 0))
          | false => none
        | none => none
      | _ => none
    | _ => none
  | .builtin .unsafeString => match c.args.toList with
    | [x, y] => match c.argTypes.toList with
      | [pt, _] => match e x with
        | some (.e i 0) => match e y with
          | some (.v (.int .i64 k)) => match ownBytes row i with
            | some q => match P.underlying pt with
              | some (.pointer el) => match decide (k = q.2.1) && (Nat.beq el q.1 && (Nat.beq (P.cellsOf el) 1 && (Nat.blt 0 q.2.1 && Nat.ble q.2.1 maxLen))) with
                | true => some ⟨[i], [], [i], [], .v (.string ⟨q.2.2.toArray⟩)⟩
                | false => none
              | _ => none
            | none => none
          | _ => none
        | _ => none
      | _ => none
    | _ => none
  | _ => none
def opConv (P : Program) (row : Nat → Option Row) (s d : TypeId) (sv : SV) : Option Eff := match isBytes P s d && srcB row 1 sv with
  | true => match srcOf bz row 1 sv with
    | some (_, xs, _, see) => match bytesOf xs with
      | some l => some (.pure see (.v (.string ⟨l.toArray⟩)))
      | none => none
    | none => none
  | false => opUns P row s d sv
/-- All methods are there? Their types are held together first. -/
def lackB (want : List (String × TypeId)) (got : List Method) : Bool := want.all fun q => got.any fun m => m.sig == q.2 && m.name == q.1
theorem lackB_iff {want : Array (String × TypeId)} {got : Array Method} : lackB want.toList got.toList = true ↔ lacking want got = [] := by
  unfold lackB lacking
  rw [List.map_eq_nil_iff, List.filter_eq_nil_iff, List.all_eq_true]
  refine forall_congr' fun q => forall_congr' fun _ => ?_
  obtain ⟨n, t⟩ := q
  simp only [Array.any_toList, Bool.not_eq_true, Bool.not_eq_false']
  rw [show (fun m : Method => m.sig == t && m.name == n) = fun m => m.name == n && m.sig == t from by funext m; rw [Bool.and_comm]]
def opAssert (P : Program) (t u : TypeId) (ok : Bool) (x : SV) : Option Eff := match P.underlying u with
  | some (.interface want) => match P.info? t with
    | some i => match lackB want.toList i.methods.toList with
      | true => some (.pure [] (okSV ok true (.ifc t x)))
      | false => match ok with
        | true => match zeroSV P u with
          | some z => some (.pure [] (.tp [z, .v (.bool false)]))
          | none => none
        | false => none
    | none => none
  | some _ => match Nat.beq t u with
    | true => some (.pure [] (okSV ok true x))
    | false => match ok with
      | true => match zeroSV P u with
        | some z => some (.pure [] (.tp [z, .v (.bool false)]))
        | none => none
      | false => none
  | none => none
def opMapLen (P : Program) (row : Nat → Option Row) (t : TypeId) (j : Nat) : Option Eff := match mapTy P t with
  | some _ => match mapRow (row j) with
    | some es => some (.pure [j] (.v (.int .i64 (es.length : Int))))
    | none => none
  | none => none
/-- The cells of a slice to be read, which may name rows. -/
def srcS (row : Nat → Option Row) (size : Nat) : SV → Option (Nat × List SV × List Nat)
  | .o i => match row i with
    | some (.s _ sz n xs) => match Nat.beq sz size with
      | true => some (n, xs.map .v, [i])
      | false => none
    | some (.r sz n xs) => match Nat.beq sz size with
      | true => some (n, xs.map .v, [i])
      | false => none
    | some (.sw _ sz n l) => match Nat.beq sz size with
      | true => some (n, l, [i])
      | false => none
    | some (.sr sz n l) => match Nat.beq sz size with
      | true => some (n, l, [i])
      | false => none
    | some .z => some (0, [], [i])
    | _ => none
  | .sl i off m cap => match row i with
    | some (.c _ _ cs) => match Nat.beq ((cs.svs.drop off).take (m * size)).length (m * size) && (Nat.ble m cap && allB SV.oneB ((cs.svs.drop off).take (m * size))) with
      | true => some (m, (cs.svs.drop off).take (m * size), [i])
      | false => none
    | some (.k _ cs) => match Nat.beq ((cs.svs.drop off).take (m * size)).length (m * size) && (Nat.ble m cap && allB SV.oneB ((cs.svs.drop off).take (m * size))) with
      | true => some (m, (cs.svs.drop off).take (m * size), [i])
      | false => none
    | _ => none
  | .sub i off m cut => match row i with
    | some (.sw _ sz n l) => match Nat.beq sz size && (Nat.beq off (cut * size) && Nat.ble (cut + m) n) with
      | true => some (m, (l.drop off).take (m * size), [i])
      | false => none
    | some (.sr sz n l) => match Nat.beq sz size && (Nat.beq off (cut * size) && Nat.ble (cut + m) n) with
      | true => some (m, (l.drop off).take (m * size), [i])
      | false => none
    | some (.s _ sz n xs) => match Nat.beq sz size && (Nat.beq off (cut * size) && Nat.ble (cut + m) n) with
      | true => some (m, ((xs.drop off).take (m * size)).map .v, [i])
      | false => none
    | some (.r sz n xs) => match Nat.beq sz size && (Nat.beq off (cut * size) && Nat.ble (cut + m) n) with
      | true => some (m, ((xs.drop off).take (m * size)).map .v, [i])
      | false => none
    | _ => none
  | .v x => match x with
    | .slice none 0 0 => some (0, [], [])
    | _ => none
  | _ => none
def fitsB (n bytes : Nat) : Bool := Nat.ble n maxLen && Nat.ble (n * bytes) 140737488355328
/-- What is appended to, as a slice of one's own. -/
def opAppS (P : Program) (row : Nat → Option Row) (m : Nat) (t : TypeId) (sx sy : SV) : Option Eff := match appTy P t with
  | none => none
  | some q => match srcS row q.2.1 sy with
    | none => none
    | some s => match ownS row q.1 q.2.1 sx with
      | none => none
      | some d => match fitsB (d.1 + s.1) q.2.2 && ltAll m (SV.idxs (d.2.1 ++ s.2.1)) with
        | true => some ⟨d.2.2 ++ s.2.2, [], d.2.2, [.sw q.1 q.2.1 (d.1 + s.1) (d.2.1 ++ s.2.1)], .o m⟩
        | false => none
/-- Nothing is appended. -/
def opApp0 (P : Program) (row : Nat → Option Row) (t : TypeId) (sx sy : SV) : Option Eff := match appTy P t with
  | none => none
  | some q => match srcS row q.2.1 sy with
    | some (0, _, see) => match sx with
      | .v x => match x with
        | .slice none 0 0 => some (.pure see sx)
        | _ => none
      | .o i => match rowLen (row i) with
        | some _ => some (.pure (i :: see) sx)
        | none => none
      | .sl _ _ n cap => match Nat.ble n cap with
        | true => some (.pure see sx)
        | false => none
      | _ => none
    | _ => none
def opLoadS (P : Program) (row : Nat → Option Row) (t : TypeId) (i off : Nat) : Option Eff := match shapeOf P t with
  | none => none
  | some sh => match Nat.blt 0 sh.2 with
    | false => none
    | true => match row i with
      | some (.sw _ _ _ l) => match readCs sh.1 sh.2 off l with
        | some sv => some (.pure [i] sv)
        | none => none
      | some (.sr _ _ l) => match readCs sh.1 sh.2 off l with
        | some sv => some (.pure [i] sv)
        | none => none
      | _ => none
def ownRowS : Option Row → Option (TypeId × Nat × Nat × List SV)
  | some (.s ty sz n xs) => some (ty, sz, n, xs.map .v)
  | some (.sw ty sz n l) => some (ty, sz, n, l)
  | _ => none
def opStoreS (P : Program) (row : Nat → Option Row) (t : TypeId) (i off : Nat) (sv : SV) : Option Eff := match shapeOf P t with
  | none => none
  | some sh => match svCells sv with
    | none => none
    | some c => match Nat.beq c.length sh.2 && (allB SV.oneB c && Nat.blt 0 sh.2) with
      | false => none
      | true => match ownRowS (row i) with
        | some q => match Nat.ble (off + sh.2) q.2.2.2.length with
          | true => some ⟨[i], [(i, .sw q.1 q.2.1 q.2.2.1 (q.2.2.2.take off ++ (c ++ q.2.2.2.drop (off + sh.2))))], [], [], .v undef⟩
          | false => none
        | none => none
/-- A literal without elements. -/
def opBuild0 (P : Program) (m : Nat) (t : TypeId) (n : Nat) (parts : List (Nat × Operand)) : Option Eff := match appTy P t with
  | none => none
  | some q => match n with
    | 0 => match parts with
      | [] => some ⟨[], [], [], [.s q.1 q.2.1 0 []], .o m⟩
      | _ => none
    | _ => none
/-- A slice without elements, cut out of another one. -/
def opCut0 (P : Program) (e : Operand → Option SV) (row : Nat → Option Row) (m : Nat) (t : TypeId) (sv : SV) (lo hi : Option Operand) : Option Eff := match appTy P t with
  | none => none
  | some _ => match sv with
    | .sub i _ k cut => match rowLen (row i) with
      | some N => match bnd e 0 lo with
        | some kl => match bnd e k hi with
          | some kh => match decide (0 ≤ kl ∧ kl = kh ∧ kh ≤ k) && Nat.ble (cut + k) N with
            | true => some ⟨[i], [], [], [.z], .o m⟩
            | false => none
          | none => none
        | none => none
      | none => none
    | .sl _ _ k cap => match bnd e 0 lo with
      | some kl => match bnd e k hi with
        | some kh => match decide (0 ≤ kl ∧ kl = kh ∧ kh ≤ k) && Nat.ble k cap with
          | true => some ⟨[], [], [], [.z], .o m⟩
          | false => none
        | none => none
      | none => none
    | _ => none
/-- An element of an array within a slice. -/
def opIndexE (P : Program) (row : Nat → Option Row) (t : TypeId) (sv : SV) (ix : SV) : Option Eff := match ix with
  | .v (.int _ k) => match sv with
    | .e i off => match filled (row i) with
      | true => match P.underlying t with
        | some (.array len elem) => match P.info? elem with
          | some inf => match decide (0 ≤ k ∧ k < len) with
            | true => some (.pure [i] (.e i (off + k.toNat * inf.size)))
            | false => none
          | none => none
        | _ => none
      | false => none
    | _ => none
  | _ => none
/-- An array out of a slice. -/
def opArrB (P : Program) (row : Nat → Option Row) (arr : TypeId) (sv : SV) : Bool := match P.underlying arr with
  | some (.array n _) => match sv with
    | .o i => match rowLen (row i) with
      | some N => Nat.ble n N
      | none => false
    | .sub i _ k cut => match rowLen (row i) with
      | some N => Nat.ble n k && Nat.ble (cut + k) N
      | none => false
    | _ => false
  | _ => false
def opArrC (P : Program) (row : Nat → Option Row) (arr : TypeId) (sv : SV) : Option Eff := match opArrB P row arr sv with
  | true => match opArr P row arr sv with
    | some (g, _) => some g
    | none => none
  | false => none
/-- Are two pointers into rows the same? -/
def ptrEq (row : Nat → Option Row) (i off j off' : Nat) : Option Bool := match Nat.beq i j with
  | true => some (Nat.beq off off')
  | false => match row i with
    | some (.c _ _ _) => match row j with
      | some (.c _ _ _) => some false
      | _ => none
    | _ => none
def ptrTy (P : Program) (t : TypeId) : Bool := match P.underlying t with
  | some (.pointer el) => match P.info? el with
    | some inf => Nat.blt 0 inf.size
    | none => false
  | _ => false
def opPtrEq (P : Program) (row : Nat → Option Row) (op : BinOp) (t : TypeId) (sx sy : SV) : Option Eff := match ptrTy P t with
  | true => match sx with
    | .p i off => match sy with
      | .p j off' => match ptrEq row i off j off' with
        | some r => match op with
          | .eql => some (.pure [i, j] (.v (.bool r)))
          | .neq => some (.pure [i, j] (.v (.bool (!r))))
          | _ => none
        | none => none
      | _ => none
    | _ => none
  | false => none
def dynT : SV → Option TypeId
  | .ifc t _ => some t
  | .v (.iface t _) => some t
  | _ => none
/-- Interfaces whose types differ. -/
def opIfEq (P : Program) (op : BinOp) (t : TypeId) (sx sy : SV) : Option Eff := match P.underlying t with
  | some (.interface _) => match dynT sx with
    | some a => match dynT sy with
      | some b => match Nat.beq a b with
        | true => none
        | false => match op with
          | .eql => some (.pure [] (.v (.bool false)))
          | .neq => some (.pure [] (.v (.bool true)))
          | _ => none
      | none => none
    | none => none
  | _ => none
/-- Where a pointer stands among keys that are pointers; the rows that are looked at. -/
def ptrAt (row : Nat → Option Row) (i off : Nat) : Nat → List (SV × SV) → Option (Option Nat × List Nat)
  | _, [] => some (none, [])
  | n, q :: r => match q.1 with
    | .p j off' => match ptrEq row i off j off' with
      | some true => some (some n, [j])
      | some false => match ptrAt row i off (n + 1) r with
        | some z => some (z.1, j :: z.2)
        | none => none
      | none => none
    | _ => none
def opLookupP (P : Program) (row : Nat → Option Row) (t : TypeId) (j : Nat) (i off : Nat) (ok : Bool) : Option Eff := match mapTy P t with
  | none => none
  | some q => match ptrTy P q.1 with
    | false => none
    | true => match mapRow (row j) with
      | none => none
      | some es => match ptrAt row i off 0 es with
        | none => none
        | some (none, see) => match zeroSV P q.2 with
          | none => none
          | some z => some (.pure (j :: i :: see) (okSV ok false z))
        | some (some n, see) => match es[n]? with
          | none => none
          | some p => some (.pure (j :: i :: see) (okSV ok true p.2))
def opUpdP (P : Program) (row : Nat → Option Row) (t : TypeId) (j : Nat) (i off : Nat) (v : SV) : Option Eff := match mapTy P t with
  | none => none
  | some q => match ptrTy P q.1 with
    | false => none
    | true => match row j with
      | some (.mo es) => match ptrAt row i off 0 es with
        | some (none, see) => some ⟨j :: i :: see, [(j, .mo (es ++ [(.p i off, v)]))], [], [], .v undef⟩
        | _ => none
      | _ => none
/-- A call of a function without a body, of plain values. -/
def opBody (P : Program) (e : Operand → Option SV) (o : Oper) (c : Call) : Option Eff := match callOf P e c with
  | some q => match okB P q.1 with
    | false => match pureRes P bz none e o with
      | some (g, _) => some g
      | none => none
    | true => none
  | none => none
def newCall (P : Program) (e : Operand → Option SV) (row : Nat → Option Row) (m : Nat) (o : Oper) (c : Call) : Option Eff := match appArgs c with
  | some (t, x, y) => match e x with
    | some sx => match e y with
      | some sy => opAppS P row m t sx sy
      | none => none
    | none => none
  | none => match lenArg c with
    | some (t, x) => match e x with
      | some (.mp j) => opMapLen P row t j
      | _ => none
    | none => orE (opBody P e o c) (orE (opEsc P e c) (orE (opNoZ P e m c) (orE (opAppStr P e row m c) (opUStr P e row c))))
def newSlice (P : Program) (e : Operand → Option SV) (row : Nat → Option Row) (m : Nat) (t : TypeId) (x : Operand) (lo hi : Option Operand) : Option Operand → Option Eff
  | none => match e x with
    | some sv => orE (opCutW P e row t sv lo hi) (orE (opCut0 P e row m t sv lo hi) (opWide P e row t sv lo hi))
    | none => none
  | some _ => none
/-- What the operations do that are known here alone. -/
def opNew (P : Program) (e : Operand → Option SV) (row : Nat → Option Row) (m : Nat) (o : Oper) : Option Eff := match o.op with
  | .makeSlice t l c => opMake0 P m t (e l) (e c)
  | .makeMap _ r => match r with
    | none => opMakeMap m none
    | some _ => none
  | .lookup t x i ok => match e x with
    | some (.mp j) => match e i with
      | some (.v k) => orE (opLookup P row t j k ok) (opLookupU P row t j k ok)
      | some (.p i' off) => opLookupP P row t j i' off ok
      | _ => none
    | _ => none
  | .mapUpdate t x i y => match e x with
    | some (.mp j) => match e y with
      | some v => match e i with
        | some (.v k) => opMapUpdate P row t j k v
        | some (.p i' off) => opUpdP P row t j i' off v
        | _ => none
      | none => none
    | _ => none
  | .insert t x i y => match e x with
    | some (.mp j) => match e y with
      | some v => match e i with
        | some (.v k) => opMapUpdate P row t j k v
        | some (.p i' off) => opUpdP P row t j i' off v
        | _ => none
      | none => none
    | _ => none
  | .range t x => match e x with
    | some (.v (.string s)) => opRangeS P m t s
    | some (.mp j) => opRangeM P row m t j
    | _ => none
  | .next x s => match e x with
    | some (.p j 0) => match s with
      | true => opNextS row j
      | false => opNextM row j
    | _ => none
  | .entry x => match e x with
    | some (.p j 0) => opEntry row j
    | _ => none
  | .convert s d x => match e x with
    | some sv => opConv P row s d sv
    | none => none
  | .typeAssert x _ u ok => match e x with
    | some (.ifc t v) => opAssert P t u ok v
    | _ => none
  | .binOp op t x y _ => match e x with
    | some sx => match e y with
      | some sy => orE (opPtrEq P row op t sx sy) (opIfEq P op t sx sy)
      | none => none
    | none => none
  | .buildSlice t n parts => opBuild0 P m t n parts.toList
  | .sliceToArrayPointer arr x => match e x with
    | some sv => opArrC P row arr sv
    | none => none
  | .slice t x lo hi mx => newSlice P e row m t x lo hi mx
  | .indexAddr t x ix => match e x with
    | some sv => match e ix with
      | some iv => opIndexE P row t sv iv
      | none => none
    | none => none
  | .load t x => match e x with
    | some (.e i off) => opLoadS P row t i off
    | _ => none
  | .store t x y => match e x with
    | some (.e i off) => match e y with
      | some sv => opStoreS P row t i off sv
      | none => none
    | _ => none
  | .call c => newCall P e row m o c
  | _ => none
/-- What goes ahead of the others. -/
def opFst (P : Program) (e : Operand → Option SV) (row : Nat → Option Row) (o : Oper) : Option Eff := match o.op with
  | .typeAssert x _ u ok => match e x with
    | some (.ifc t v) => opAssert P t u ok v
    | some (.v (.iface t v)) => opAssert P t u ok (.v v)
    | _ => none
  | .call c => match appArgs c with
    | some (t, x, y) => match e x with
      | some sx => match e y with
        | some sy => opApp0 P row t sx sy
        | none => none
      | none => none
    | none => none
  | _ => none
end Ax
end Go.Proofs.YtcpbbgkeigbndaaGreat

/- A reckoner of calls, part 22: more operations hold. Proved over any program. No condition of its own. -/
namespace Go.Proofs.YtcpbbgkeigbndaaGreat
open Go Go.RowKit Go.Lib Go.Sort
namespace Ax
theorem pureRun_bind {α γ : Type} {P : Program} {f : α → Sem γ} {x : γ} : ∀ {s : Sem α}, pureRun P (s >>= f) = some x → ∃ y, pureRun P s = some y ∧ pureRun P (f y) = some x
  | .pure a, h => ⟨a, rfl, h⟩
  | .program k, h => by
    obtain ⟨y, h1, h2⟩ := pureRun_bind (s := k P) h
    exact ⟨y, h1, h2⟩
  | .mark m k, h => by
    obtain ⟨y, h1, h2⟩ := pureRun_bind (s := k) h
    exact ⟨y, h1, h2⟩
  | .load _ _ _, h => nomatch h
  | .store _ _ _ _, h => nomatch h
  | .new _ _, h => nomatch h
  | .shape _ _, h => nomatch h
  | .freeze _ _ _, h => nomatch h
  | .frozen _ _, h => nomatch h
  | .getObj _ _, h => nomatch h
  | .setObj _ _ _, h => nomatch h
  | .choose _ _, h => nomatch h
  | .sys _ _, h => nomatch h
  | .halt _, h => nomatch h
section
variable {P : Program} {W : World}
/-- What is found hangs on the keys alone. -/
theorem findNow_keys {kind : TypeDesc} {k : Value} : ∀ {l l' : List MapEntry} {i : Nat} {r : Option (Nat × Value)}, l.map (·.key) = l'.map (·.key) → Instr.findNow kind k l i = some r → ∃ r', Instr.findNow kind k l' i = some r' ∧ (r = none → r' = none) ∧ ∀ q, r = some q → ∃ e, r' = some (q.1, e.val) ∧ i ≤ q.1 ∧ l'[q.1 - i]? = some e
  | [], [], i, r, _, h => ⟨r, h, fun hr => hr, fun q hq => by cases h; cases hq⟩
  | e :: l, e' :: l', i, r, hk, h => by
    simp only [List.map_cons, List.cons.injEq] at hk
    unfold Instr.findNow at h ⊢
    rw [hk.1] at h
    split at h
    · cases h
      exact ⟨_, rfl, fun hr => (by cases hr), fun q hq => by cases hq; exact ⟨e', rfl, Nat.le_refl _, by simp⟩⟩
    · obtain ⟨r', h1, h2, h3⟩ := findNow_keys hk.2 h
      refine ⟨r', h1, h2, fun q hq => ?_⟩
      obtain ⟨e2, h4, h5, h6⟩ := h3 q hq
      refine ⟨e2, h4, by omega, ?_⟩
      rw [show q.1 - i = (q.1 - (i + 1)) + 1 by omega, List.getElem?_cons_succ]
      exact h6
    · cases h
theorem findNow_none {kind : TypeDesc} {k : Value} : ∀ {l l' : List MapEntry} {i : Nat}, l.map (·.key) = l'.map (·.key) → Instr.findNow kind k l i = none → Instr.findNow kind k l' i = none
  | [], [], i, _, h => h
  | e :: l, e' :: l', i, hk, h => by
    simp only [List.map_cons, List.cons.injEq] at hk
    unfold Instr.findNow at h ⊢
    rw [hk.1] at h
    split at h
    · cases h
    · exact findNow_none hk.2 h
    · rfl
theorem findAsk_keys {kt : TypeId} {k : Value} : ∀ {l l' : List MapEntry} {i : Nat} {r : Option (Nat × Value)}, l.map (·.key) = l'.map (·.key) → pureRun P (Instr.findAsking kt k l i) = some r → ∃ r', (Instr.findAsking kt k l' i).run P W = .ok r' W ∧ (r = none → r' = none) ∧ ∀ q, r = some q → ∃ e, r' = some (q.1, e.val) ∧ i ≤ q.1 ∧ l'[q.1 - i]? = some e
  | [], [], i, r, _, h => ⟨r, pureRun_ok h W, fun hr => hr, fun q hq => by cases h; cases hq⟩
  | e :: l, e' :: l', i, r, hk, h => by
    simp only [List.map_cons, List.cons.injEq] at hk
    unfold Instr.findAsking at h ⊢
    obtain ⟨y, h1, h2⟩ := pureRun_bind h
    rw [hk.1] at h1
    simp only [Sem.run_bind, pureRun_ok h1 W, Result.andThen_ok]
    cases y with
    | true =>
      cases h2
      exact ⟨_, rfl, fun hr => (by cases hr), fun q hq => by cases hq; exact ⟨e', rfl, Nat.le_refl _, by simp⟩⟩
    | false =>
      obtain ⟨r', h1, h2, h3⟩ := findAsk_keys hk.2 h2
      refine ⟨r', h1, h2, fun q hq => ?_⟩
      obtain ⟨e2, h4, h5, h6⟩ := h3 q hq
      refine ⟨e2, h4, by omega, ?_⟩
      rw [show q.1 - i = (q.1 - (i + 1)) + 1 by omega, List.getElem?_cons_succ]
      exact h6
theorem findKey_keys {kt : TypeId} {k : Value} {l l' : List MapEntry} {r : Option (Nat × Value)} (hk : l.map (·.key) = l'.map (·.key)) (h : pureRun P (Instr.findKey kt k l) = some r) : ∃ r', (Instr.findKey kt k l').run P W = .ok r' W ∧ (r = none → r' = none) ∧ ∀ q, r = some q → ∃ e, r' = some (q.1, e.val) ∧ l'[q.1]? = some e := by
  unfold Instr.findKey at h ⊢
  obtain ⟨d, h1, h2⟩ := pureRun_bind h
  simp only [Sem.run_bind, pureRun_ok h1 W, Result.andThen_ok]
  split at h2
  · rename_i r0 hr0
    cases h2
    obtain ⟨r', h3, h4, h5⟩ := findNow_keys hk hr0
    rw [h3]
    refine ⟨r', rfl, h4, fun q hq => ?_⟩
    obtain ⟨e, h6, _, h7⟩ := h5 q hq
    exact ⟨e, h6, by simpa using h7⟩
  · rename_i hr0
    rw [findNow_none hk hr0]
    obtain ⟨r', h3, h4, h5⟩ := findAsk_keys (W := W) hk h2
    refine ⟨r', h3, h4, fun q hq => ?_⟩
    obtain ⟨e, h6, _, h7⟩ := h5 q hq
    exact ⟨e, h6, by simpa using h7⟩
end
section
variable {P : Program} {b : Base} {β : Env} {W : World} {a : Act} {o : Oper} {row : Nat → Option Row} {m : Nat} {g : Eff}
theorem run_getMap {r : Nat} {es : Array MapEntry} {c : Nat} (h : W.heap[r]? = some (.map es c)) : (getObj r).run P W = .ok (.map es c) W := by
  simp [getObj, Sem.run, h]
theorem run_setMap {r : Nat} {es : Array MapEntry} {c : Nat} {x : Obj} (h : W.heap[r]? = some (.map es c)) : (setObj r x).run P W = .ok () { W with heap := W.heap.setIfInBounds r x } := by
  simp [setObj, Sem.run, h]
theorem mapTy_ok {t : TypeId} {q : TypeId × TypeId} (h : mapTy P t = some q) : P.underlying t = some (.map q.1 q.2) := by
  unfold mapTy at h
  split at h
  · rename_i hu; cases h; exact hu
  · cases h
theorem okKey_ok {e : Bool} {kt : TypeId} {k : Value} (h : okKey P e kt k = true) : (Instr.checkKey e 10000 kt k).run P W = .ok () W := by
  unfold okKey at h
  split at h
  · rename_i u hu
    exact pureRun_ok hu W
  · cases h
theorem dumE_keys : ∀ {es : List (SV × SV)} {l : List MapEntry}, dumE es = some l → l.map (·.key) = (densE β es).map (·.1)
  | [], l, h => by cases h; rfl
  | q :: r, l, h => by
    unfold dumE at h
    split at h
    · rename_i k hk
      split at h
      · rename_i l' hl
        cases h
        rw [List.map_cons, densE, List.map_cons, dumE_keys hl, hk]
        rfl
      · cases h
    · cases h
theorem densE_length : ∀ {es : List (SV × SV)}, (densE β es).length = es.length
  | [] => rfl
  | q :: r => by rw [densE, List.length_cons, List.length_cons, densE_length]
theorem densE_get : ∀ {es : List (SV × SV)} {i : Nat}, (densE β es)[i]? = es[i]?.map fun q => (q.1.den β, q.2.den β)
  | [], i => by simp [densE]
  | q :: r, 0 => rfl
  | q :: r, i + 1 => by rw [densE, List.getElem?_cons_succ, List.getElem?_cons_succ, densE_get]
theorem densE_append : ∀ {es r : List (SV × SV)}, densE β (es ++ r) = densE β es ++ densE β r
  | [], _ => rfl
  | q :: es, r => by rw [List.cons_append, densE, densE, densE_append, List.cons_append]
theorem entries_empty {entries : Array MapEntry} {l : List (Value × Value)} (h : (entries.toList.map fun e => (e.key, e.val)) = l) : entries.isEmpty = l.isEmpty := by
  subst h
  rw [← Array.isEmpty_toList]
  cases entries.toList <;> rfl
theorem densE_empty {es : List (SV × SV)} : (densE β es).isEmpty = es.isEmpty := by cases es <;> rfl
theorem mapRow_ok {j : Nat} {es : List (SV × SV)} {see : List Nat} (h : mapRow (row j) = some es) (hs : See b β W row see) (hj : j ∈ see) : MapIs W (β.b j) (densE β es) := by
  unfold mapRow at h
  split at h
  · rename_i hr; cases h; exact hs.held j hj _ hr
  · rename_i hr; cases h; exact hs.held j hj _ hr W hs.cg
  · cases h
/-- Where a key stands, in a map that is. -/
theorem keyAt_ok {kt : TypeId} {k : Value} {es : List (SV × SV)} {r : Option Nat} {entries : Array MapEntry} (h : keyAt P kt k es = some r) (hkv : (entries.toList.map fun e => (e.key, e.val)) = densE β es) : ∃ r', (Instr.findKey kt k entries.toList).run P W = .ok r' W ∧ (r = none → r' = none) ∧ ∀ i, r = some i → ∃ e, r' = some (i, e.val) ∧ entries.toList[i]? = some e := by
  unfold keyAt at h
  split at h
  · rename_i l hl
    have hk : l.map (·.key) = entries.toList.map (·.key) := by
      rw [dumE_keys (β := β) hl, ← hkv, List.map_map]
      rfl
    split at h
    · rename_i q hq
      cases h
      obtain ⟨r', h1, _, h3⟩ := findKey_keys (W := W) hk hq
      obtain ⟨e, h4, h5⟩ := h3 q rfl
      exact ⟨r', h1, fun hh => (by cases hh), fun i hi => by cases hi; exact ⟨e, h4, h5⟩⟩
    · rename_i hq
      cases h
      obtain ⟨r', h1, h2, _⟩ := findKey_keys (W := W) hk hq
      exact ⟨r', h1, fun _ => h2 rfl, fun i hi => (by cases hi)⟩
    · cases h
  · cases h
theorem zeroSV_ok {t : TypeId} {z : SV} (h : zeroSV P t = some z) : (zeroValue t).run P W = .ok (z.den β) W := by
  unfold zeroSV at h
  split at h
  · rename_i i hi
    split at h
    · rename_i z' hz
      cases h
      simp [zeroValue, typeInfo, Sem.run_bind, hi, hz, SV.den]
    · cases h
  · cases h
theorem okSV_den {ok bb : Bool} {sv : SV} : (okSV ok bb sv).den β = if ok then .tuple #[sv.den β, .bool bb] else sv.den β := by
  cases ok <;> rfl
theorem lookup_ok {t : TypeId} {x ix : Operand} {ok : Bool} {j : Nat} {k : Value} (ho : o.op = .lookup t x ix ok) (hx : a.eval x = (SV.mp j).den β) (hi : a.eval ix = k) (h : opLookup P row t j k ok = some g) (hs : See b β W row g.see) : Runs P o a W (EPost b β W row m g) := by
  unfold opLookup at h
  split at h
  · cases h
  · rename_i q hq
    have hu := mapTy_ok hq
    split at h
    · cases h
    · rename_i es hes
      split at h
      · cases h
      · rename_i hok
        split at h
        · cases h
        · rename_i hk
          split at h
          · cases h
          · rename_i z hz
            cases h
            obtain ⟨entries, clock, hh, hkv, _⟩ := mapRow_ok hes hs (List.mem_singleton_self j)
            obtain ⟨r', h1, h2, _⟩ := keyAt_ok (W := W) hk hkv
            have he : entries.isEmpty = es.isEmpty := by rw [entries_empty hkv, densE_empty]
            refine runs_pure ?_
            unfold execOp
            simp only [ho, hx, hi, SV.den, Instr.lookup, Sem.run_bind, run_underlying hu, Result.andThen_ok, run_getMap hh, Sem.run_pure, he, okKey_ok hok, h1, h2 rfl, zeroSV_ok (β := β) hz]
            cases ok <;> rfl
        · rename_i i hk
          split at h
          · cases h
          · rename_i p hp
            cases h
            obtain ⟨entries, clock, hh, hkv, _⟩ := mapRow_ok hes hs (List.mem_singleton_self j)
            obtain ⟨r', h1, _, h3⟩ := keyAt_ok (W := W) hk hkv
            obtain ⟨e, h4, h5⟩ := h3 i rfl
            have he : entries.isEmpty = es.isEmpty := by rw [entries_empty hkv, densE_empty]
            have hv : e.val = p.2.den β := by
              have : (densE β es)[i]? = some (e.key, e.val) := by rw [← hkv, List.getElem?_map, h5]; rfl
              rw [densE_get, hp] at this
              exact (Prod.mk.inj (Option.some.inj this)).2.symm
            refine runs_pure ?_
            unfold execOp
            simp only [ho, hx, hi, SV.den, Instr.lookup, Sem.run_bind, run_underlying hu, Result.andThen_ok, run_getMap hh, Sem.run_pure, he, okKey_ok hok, h1, h4, hv]
            cases ok <;> rfl
theorem muRow_ok {j : Nat} {es : List (SV × SV)} {see : List Nat} (h : muRow (row j) = some es) (hs : See b β W row see) (hj : j ∈ see) : MapU W (β.b j) (densE β es) := by
  unfold muRow at h
  split at h
  · rename_i hr; cases h; exact hs.held j hj _ hr
  · rename_i hr; cases h; exact hs.held j hj _ hr W hs.cg
  · cases h
def isKeyV (s : ByteArray) (q : Value × Value) : Bool := match q.1 with
  | .string t => s == t
  | _ => false
theorem densE_map : ∀ {es : List (SV × SV)}, densE β es = es.map fun q => (q.1.den β, q.2.den β)
  | [] => rfl
  | q :: r => by rw [densE, densE_map]; rfl
theorem isKeyV_den {s : ByteArray} {q : SV × SV} (h : strKey q = true) : isKeyV s (q.1.den β, q.2.den β) = isKey s q := by
  unfold strKey at h
  split at h
  · rename_i t ht
    unfold isKeyV isKey
    simp only [ht, SV.den]
  · cases h
theorem filter_den {s : ByteArray} : ∀ {es : List (SV × SV)}, es.all strKey = true → (densE β es).filter (isKeyV s) = (es.filter (isKey s)).map fun q => (q.1.den β, q.2.den β)
  | [], _ => rfl
  | q :: r, h => by
    rw [List.all_cons, Bool.and_eq_true] at h
    rw [densE, List.filter_cons, List.filter_cons, isKeyV_den h.1, filter_den h.2]
    split <;> rfl
/-- Which of the entries is found, where all keys are texts. -/
theorem findNow_str {s : ByteArray} : ∀ {l : List MapEntry} {i : Nat}, (∀ e ∈ l, ∃ t, e.key = .string t) → ∃ r, Instr.findNow .string (.string s) l i = some r ∧ ((l.map fun e => (e.key, e.val)).filter (isKeyV s) = [] → r = none) ∧ ∀ q t, (l.map fun e => (e.key, e.val)).filter (isKeyV s) = q :: t → ∃ n, r = some (n, q.2)
  | [], _, _ => ⟨none, rfl, fun _ => rfl, fun q t h => by cases h⟩
  | e :: l, i, h => by
    obtain ⟨t, ht⟩ := h e (by simp)
    have hk : isKeyV s (e.key, e.val) = (s == t) := by unfold isKeyV; simp only [ht]
    unfold Instr.findNow
    rw [ht]
    simp only [Instr.sameNow]
    rw [List.map_cons, List.filter_cons, hk]
    cases hb : s == t with
    | true => exact ⟨_, rfl, fun hh => (by simp at hh), fun q t' hh => by simp only [if_true, List.cons.injEq] at hh; rw [← hh.1]; exact ⟨i, rfl⟩⟩
    | false =>
      obtain ⟨r, h1, h2, h3⟩ := findNow_str (i := i + 1) (s := s) fun e he => h e (List.mem_cons_of_mem _ he)
      exact ⟨r, h1, fun hh => h2 (by simpa using hh), fun q t' hh => h3 q t' (by simpa using hh)⟩
theorem lookupU_ok {t : TypeId} {x ix : Operand} {ok : Bool} {j : Nat} {k : Value} (ho : o.op = .lookup t x ix ok) (hx : a.eval x = (SV.mp j).den β) (hi : a.eval ix = k) (h : opLookupU P row t j k ok = some g) (hs : See b β W row g.see) : Runs P o a W (EPost b β W row m g) := by
  unfold opLookupU at h
  split at h
  · cases h
  · rename_i q hq
    have hu := mapTy_ok hq
    split at h
    · rename_i hk
      split at h
      · rename_i s
        split at h
        · cases h
        · rename_i es hes
          split at h
          · cases h
          · rename_i hall
            have go : ∀ (v : SV) (c : Bool), g = .pure [j] (okSV ok c v) → ((es.filter (isKey s) = [] ∧ c = false ∧ zeroSV P q.2 = some v) ∨ ∃ p, es.filter (isKey s) = [p] ∧ c = true ∧ v = p.2) → Runs P o a W (EPost b β W row m g) := by
              intro v c hg hv
              subst hg
              obtain ⟨l', hp, entries, clock, hh, hkv, _⟩ := muRow_ok hes hs (List.mem_singleton_self j)
              have hpf := (hp.filter (isKeyV s)).symm
              rw [filter_den hall] at hpf
              have hkeys : ∀ e ∈ entries.toList, ∃ t, e.key = .string t := by
                intro e he
                have : (e.key, e.val) ∈ densE β es := hp.mem_iff.1 (by rw [← hkv]; exact List.mem_map.2 ⟨e, he, rfl⟩)
                rw [densE_map] at this
                obtain ⟨p, hp1, hp2⟩ := List.mem_map.1 this
                have := List.all_eq_true.1 hall p hp1
                unfold strKey at this
                split at this
                · rename_i t' ht'
                  refine ⟨t', ?_⟩
                  rw [← (Prod.mk.inj hp2).1, ht']
                  rfl
                · cases this
              obtain ⟨r, h1, h2, h3⟩ := findNow_str (i := 0) (s := s) hkeys
              rw [hkv] at h2 h3
              have hfk : (Instr.findKey q.1 (.string s) entries.toList).run P W = .ok r W := by
                unfold Instr.findKey
                simp only [Sem.run_bind, run_underlying hk, Result.andThen_ok, h1]
                rfl
              refine runs_pure ?_
              unfold execOp
              rcases hv with ⟨hf, rfl, hz⟩ | ⟨p, hf, rfl, rfl⟩
              · rw [hf] at hpf
                have := h2 (List.Perm.nil_eq hpf).symm
                subst this
                simp only [ho, hx, hi, SV.den, Instr.lookup, Sem.run_bind, run_underlying hu, Result.andThen_ok, run_getMap hh, Sem.run_pure, checkKey_str hk, hfk, zeroSV_ok (β := β) hz]
                cases ok <;> rfl
              · rw [hf] at hpf
                have he : l'.filter (isKeyV s) = [(p.1.den β, p.2.den β)] := List.perm_singleton.1 hpf.symm
                obtain ⟨n, rfl⟩ := h3 _ _ he
                simp only [ho, hx, hi, SV.den, Instr.lookup, Sem.run_bind, run_underlying hu, Result.andThen_ok, run_getMap hh, Sem.run_pure, checkKey_str hk, hfk]
                cases ok <;> rfl
            split at h
            · rename_i hf
              split at h
              · cases h
              · rename_i z hz
                cases h
                exact go z false rfl (.inl ⟨hf, rfl, hz⟩)
            · rename_i p hf
              cases h
              exact go p.2 true rfl (.inr ⟨p, hf, rfl, rfl⟩)
            · cases h
      · cases h
    · cases h
theorem cg_set {r : Nat} {x : Obj} : Cg (· = r) W { W with heap := W.heap.setIfInBounds r x } :=
  ⟨rfl, rfl, rfl, by simp, fun k _ hk => by
    show (W.heap.setIfInBounds r x)[k]? = _
    rw [Array.getElem?_setIfInBounds, if_neg fun hh => hk hh.symm]⟩
theorem heap_set {r : Nat} {x y : Obj} (h : W.heap[r]? = some y) : ({ W with heap := W.heap.setIfInBounds r x } : World).heap[r]? = some x := by
  show (W.heap.setIfInBounds r x)[r]? = _
  rw [Array.getElem?_setIfInBounds, if_pos rfl, if_pos (ObIs.lt h)]
theorem densE_set : ∀ {es : List (SV × SV)} {i : Nat} {q : SV × SV}, densE β (setE i q es) = (densE β es).set i (q.1.den β, q.2.den β)
  | [], i, q => by cases i <;> rfl
  | p :: r, 0, q => rfl
  | p :: r, i + 1, q => by rw [setE, densE, densE_set, densE, List.set_cons_succ]
theorem mapUpdate_ok {t : TypeId} {x ix y : Operand} {j : Nat} {k : Value} {v : SV} (ho : o.op = .mapUpdate t x ix y ∨ o.op = .insert t x ix y) (hx : a.eval x = (SV.mp j).den β) (hi : a.eval ix = k) (hy : a.eval y = v.den β) (h : opMapUpdate P row t j k v = some g) (hs : See b β W row g.see) : Runs P o a W (EPost b β W row m g) := by
  unfold opMapUpdate at h
  split at h
  · cases h
  · rename_i q hq
    have hu := mapTy_ok hq
    split at h
    · rename_i es hrow
      split at h
      · cases h
      · rename_i hok
        have run_ : ∀ {entries entries' : Array MapEntry} {clock clock' : Nat} {es' : List (SV × SV)}, W.heap[β.b j]? = some (.map entries clock) → (Instr.mapUpdate t (.map (some (β.b j))) k (v.den β)).run P W = .ok () { W with heap := W.heap.setIfInBounds (β.b j) (.map entries' clock') } → (entries'.toList.map fun e => (e.key, e.val)) = densE β es' → (∀ e ∈ entries'.toList, e.born < clock') → Runs P o a W (EPost b β W row m ⟨[j], [(j, .mo es')], [], [], .v undef⟩) := by
          intro entries entries' clock clock' es' hh hrun hkv hb
          refine .inr (.inl ⟨_, ?_, β, rfl, post_upd hrow (fun k hk => hk) ⟨entries', clock', heap_set hh, hkv, hb⟩ cg_set⟩)
          unfold execOp
          rcases ho with ho | ho <;> simp only [ho, hx, hi, hy, SV.den, Sem.run_bind, hrun, Result.andThen_ok, Sem.run_pure]
        split at h
        · cases h
        · rename_i hk
          cases h
          obtain ⟨entries, clock, hh, hkv, hb⟩ := hs.held j (List.mem_singleton_self j) _ hrow
          obtain ⟨r', h1, h2, _⟩ := keyAt_ok (W := W) hk hkv
          refine run_ (entries' := entries.push { key := k, val := v.den β, born := clock }) (clock' := clock + 1) hh ?_ ?_ ?_
          · simp only [Instr.mapUpdate, Sem.run_bind, run_underlying hu, Result.andThen_ok, run_getMap hh, okKey_ok hok, h1, h2 rfl, run_setMap hh]
          · rw [Array.toList_push, List.map_append, hkv, densE_append]
            rfl
          · intro e he
            rw [Array.toList_push] at he
            rcases List.mem_append.1 he with he | he
            · have := hb e he; omega
            · cases List.mem_singleton.1 he
              exact Nat.lt_succ_self clock
        · rename_i i hk
          split at h
          · cases h
          · rename_i p hp
            split at h
            · rename_i hsame
              cases h
              obtain ⟨entries, clock, hh, hkv, hb⟩ := hs.held j (List.mem_singleton_self j) _ hrow
              obtain ⟨r', h1, _, h3⟩ := keyAt_ok (W := W) hk hkv
              obtain ⟨e, h4, h5⟩ := h3 i rfl
              have hkey : e.key = p.1.den β := by
                have : (densE β es)[i]? = some (e.key, e.val) := by rw [← hkv, List.getElem?_map, h5]; rfl
                rw [densE_get, hp] at this
                exact (Prod.mk.inj (Option.some.inj this)).1.symm
              have hbits : Instr.sameBits 10000 e.key k = true := by
                unfold keySame at hsame
                split at hsame
                · rename_i a' ha
                  rw [hkey, ha]
                  exact hsame
                · cases hsame
              have hei : entries[i]? = some e := by simpa using h5
              refine run_ (entries' := entries.modify i fun e => { e with key := k, val := v.den β }) (clock' := clock) hh ?_ ?_ ?_
              · simp only [Instr.mapUpdate, Sem.run_bind, run_underlying hu, Result.andThen_ok, run_getMap hh, okKey_ok hok, h1, h4, hei, Option.map_some, Option.getD_some, Instr.keyThatStays, hbits, if_true, Sem.run_pure, run_setMap hh]
              · rw [densE_set, ← hkv]
                apply List.ext_getElem?
                intro n
                rw [List.getElem?_map, List.getElem?_set, List.getElem?_map, List.length_map, Array.getElem?_toList, Array.getElem?_modify]
                by_cases hin : i = n
                · subst hin
                  rw [if_pos rfl, if_pos rfl, hei, if_pos (by have := (Array.getElem?_eq_some_iff.1 hei).1; simpa using this)]
                  rfl
                · rw [if_neg hin, if_neg hin]
                  simp
              · intro e' he'
                obtain ⟨n, hn⟩ := List.mem_iff_getElem?.1 he'
                rw [Array.getElem?_toList, Array.getElem?_modify] at hn
                by_cases hin : i = n
                · rw [if_pos hin] at hn
                  subst hin
                  rw [hei] at hn
                  cases hn
                  exact hb e (Array.mem_toList_iff.2 (Array.mem_of_getElem? hei))
                · rw [if_neg hin] at hn
                  exact hb e' (Array.mem_toList_iff.2 (Array.mem_of_getElem? hn))
            · cases h
    · cases h
theorem makeMap_ok {t : TypeId} {r : Option Operand} (ho : o.op = .makeMap t r) (hr : r = none) (h : opMakeMap m none = some g) : Runs P o a W (EPost b β W row m g) := by
  cases h
  subst hr
  refine .inl ⟨.map (some W.heap.size), W.alloc (.map #[] 0), ?_, β.upd m W.heap.size undef No, ?_, post_new (g := W.heap.size) (v := undef) (F := No) ?_ (fun x hx => ?_) ?_⟩
  · unfold execOp
    simp only [ho, Option.map_none, Instr.makeMap, Sem.run_bind, run_newObj, Result.andThen_ok, Sem.run_pure]
    rfl
  · show Value.map _ = Value.map _
    rw [upd_b]
  · refine ⟨#[], 0, ?_, rfl, fun e he => by cases he⟩
    rw [upd_b]
    show (W.heap.push _)[W.heap.size]? = _
    simp
  · right
    have : x = W.heap.size := by rw [show x = _ from hx, upd_b]
    omega
  · exact (Cg.refl _ W).seq (Cg.of ((Chg.refl [] W).alloc _) (by simp)) fun k hk => .inl hk
theorem make0_ok {t : TypeId} {l c : Operand} {e : Operand → Option SV} (ho : o.op = .makeSlice t l c) (he : Agree o a e β) (h : opMake0 P m t (e l) (e c) = some g) : Runs P o a W (EPost b β W row m g) := by
  unfold opMake0 at h
  split at h
  · rename_i kk kl hl
    split at h
    · rename_i kk' kc hc
      split at h
      · rename_i el sz bytes ht
        split at h
        · rename_i hd
          split at h
          · rename_i g' ob hm
            cases h
            refine opMake_ok ho (fun sv hsv => he l (by simp [ho, Op.operands]) sv hsv) (fun sv hsv => he c (by simp [ho, Op.operands]) sv hsv) hm fun p hp => ?_
            have hd := of_decide_eq_true hd
            unfold opMake at hm
            rw [ht] at hm
            simp only at hm
            split at hm
            · split at hm
              · split at hm
                · rw [hl] at hm
                  simp only at hm
                  rw [hc] at hm
                  simp only [Option.some.injEq, Prod.mk.injEq] at hm
                  rw [← hm.2] at hp
                  cases hp
                  exact hd
                · cases hm
              · cases hm
            · cases hm
          · cases h
        · cases h
      · cases h
    · cases h
  · cases h
end
end Ax
end Go.Proofs.YtcpbbgkeigbndaaGreat

/- A reckoner of calls, part 23: texts and maps gone through hold. Proved over any program. No condition of its own. -/
namespace Go.Proofs.YtcpbbgkeigbndaaGreat
open Go Go.RowKit Go.Lib Go.Sort
namespace Ax
section
variable {P : Program} {b : Base} {β : Env} {W : World} {a : Act} {o : Oper} {row : Nat → Option Row} {m : Nat} {g : Eff}
/-- A thing of the heap that is made. -/
theorem runs_newH {x : Obj} {see : List Nat} (h : (execOp a.eval o).run P W = .ok (.value (.pointer (some ⟨W.heap.size, 0, none⟩))) (W.alloc x)) : Runs P o a W (EPost b β W row m ⟨see, [], [], [.ho x], .p m 0⟩) := by
  refine .inl ⟨_, _, h, β.upd m W.heap.size undef No, by simp only [SV.den, upd_b], post_new ?_ (fun k hk => .inr ?_) ((Cg.refl _ W).seq (Cg.of ((Chg.refl [] W).alloc _) (by simp)) fun k hk => .inl hk)⟩
  · show (W.alloc x).heap[(β.upd m W.heap.size undef No).b m]? = some x
    rw [upd_b]
    show (W.heap.push _)[W.heap.size]? = _
    simp
  · rw [show k = _ from hk, upd_b]
    exact Nat.le_refl _
theorem rangeS_ok {t : TypeId} {x : Operand} {s : ByteArray} (ho : o.op = .range t x) (hx : a.eval x = .string s) (h : opRangeS P m t s = some g) : Runs P o a W (EPost b β W row m g) := by
  unfold opRangeS at h
  split at h
  · rename_i hu
    cases h
    refine runs_newH ?_
    unfold execOp
    simp only [ho, hx, Instr.range, Sem.run_bind, run_underlying hu, Result.andThen_ok, Sem.run_pure, run_newObj]
    rfl
  · cases h
theorem run_getIter {r : Nat} {s : ByteArray} {p : Nat} (h : W.heap[r]? = some (.stringIter s p)) : (getObj r).run P W = .ok (.stringIter s p) W := by
  simp [getObj, Sem.run, h]
theorem run_setIter {r : Nat} {s : ByteArray} {p : Nat} {x : Obj} (h : W.heap[r]? = some (.stringIter s p)) : (setObj r x).run P W = .ok () { W with heap := W.heap.setIfInBounds r x } := by
  simp [setObj, Sem.run, h]
theorem nextS_ok {x : Operand} {j : Nat} (ho : o.op = .next x true) (hx : a.eval x = (SV.p j 0).den β) (h : opNextS row j = some g) (hs : See b β W row g.see) : Runs P o a W (EPost b β W row m g) := by
  unfold opNextS at h
  split at h
  · rename_i s pos hrow
    split at h
    · rename_i hlt
      cases h
      have hh : W.heap[β.b j]? = some (.stringIter s pos) := hs.held j (List.mem_singleton_self j) _ hrow
      have hlt : pos < s.size := Nat.le_of_ble_eq_true hlt
      refine .inl ⟨_, { W with heap := W.heap.setIfInBounds (β.b j) (.stringIter s (pos + (Utf8.decode s pos).2)) }, ?_, β, rfl, post_upd hrow (fun k hk => hk) (heap_set hh) cg_set⟩
      unfold execOp
      simp only [ho, hx, SV.den, Instr.next, Sem.run_bind, run_getIter hh, Result.andThen_ok, hlt, if_true, run_setIter hh, Sem.run_pure]
    · rename_i hlt
      cases h
      have hh : W.heap[β.b j]? = some (.stringIter s pos) := hs.held j (List.mem_singleton_self j) _ hrow
      have hlt : ¬ pos < s.size := fun hh => by rw [show Nat.blt pos s.size = true from Nat.ble_eq_true_of_le hh] at hlt; cases hlt
      refine runs_pure ?_
      unfold execOp
      simp only [ho, hx, SV.den, Instr.next, Sem.run_bind, run_getIter hh, Result.andThen_ok, hlt, if_false, Sem.run_pure]
  · cases h
theorem mapLen_ok {c : Call} {t : TypeId} {x : Operand} {j : Nat} (ho : o.op = .call c) (hc : c = { callee := .builtin .len, args := #[x], argTypes := #[t] }) (hx : a.eval x = (SV.mp j).den β) (h : opMapLen P row t j = some g) (hs : See b β W row g.see) : Runs P o a W (EPost b β W row m g) := by
  unfold opMapLen at h
  split at h
  · rename_i q hq
    have hu := mapTy_ok hq
    split at h
    · rename_i es hes
      cases h
      obtain ⟨entries, clock, hh, hkv, _⟩ := mapRow_ok hes hs (List.mem_singleton_self j)
      have hlen : entries.size = es.length := by
        rw [← densE_length (β := β), ← hkv, List.length_map, Array.length_toList]
      refine runs_pure ?_
      unfold execOp
      simp only [ho, hc, resolve, Sem.run_bind, Sem.run_pure, Result.andThen_ok, invoke, builtin]
      rw [show (#[x].map a.eval) = #[a.eval x] from by simp, hx]
      simp only [SV.den, Builtin.len_, List.getElem?_toArray, List.getElem?_cons_zero, Sem.run_bind, run_underlying hu, Result.andThen_ok, run_getMap hh, Sem.run_pure, hlen]
      rfl
    · cases h
  · cases h
theorem assert_ok {t xt u : TypeId} {x : Operand} {ok : Bool} {y : SV} (ho : o.op = .typeAssert x xt u ok) (hx : a.eval x = .iface t (y.den β)) (h : opAssert P t u ok y = some g) : Runs P o a W (EPost b β W row m g) := by
  unfold opAssert at h
  split at h
  · rename_i want hu
    split at h
    · rename_i i hi
      have hti : (typeInfo t).run P W = .ok i W := by simp [typeInfo, hi]
      split at h
      · rename_i hmis
        have hmis := missingMethod_none (lackB_iff.1 hmis)
        cases h
        refine runs_pure ?_
        unfold execOp
        simp only [ho, hx, Instr.typeAssert, Sem.run_bind, run_underlying hu, Result.andThen_ok, hti, hmis, Sem.run_pure]
        cases ok <;> rfl
      · rename_i hmis
        obtain ⟨s, hmis⟩ := missingMethod_some (want := want) (got := i.methods) (fun hh => by rw [lackB_iff.2 hh] at hmis; cases hmis)
        split at h
        · split at h
          · rename_i z hz
            cases h
            refine runs_pure ?_
            unfold execOp
            simp only [ho, hx, Instr.typeAssert, Sem.run_bind, run_underlying hu, Result.andThen_ok, hti, hmis, if_true, zeroSV_ok (β := β) hz, Sem.run_pure]
            rfl
          · cases h
        · cases h
    · cases h
  · rename_i d hni hu
    have key : ∀ (k : Sem Value), (Instr.typeAssert (.iface t (y.den β)) xt u ok) = k → True := fun _ _ => trivial
    split at h
    · rename_i htu
      have htu := Nat.eq_of_beq_eq_true htu
      cases h
      refine runs_pure ?_
      unfold execOp
      simp only [ho, hx, Instr.typeAssert, Sem.run_bind, run_underlying hu, Result.andThen_ok]
      cases d with
      | interface w => exact absurd rfl (hni w)
      | _ => simp only [htu, if_true, Sem.run_pure, Result.andThen_ok]; cases ok <;> rfl
    · rename_i htu
      have htu : ¬ t = u := fun hh => by rw [hh, Nat.beq_refl] at htu; cases htu
      split at h
      · split at h
        · rename_i z hz
          cases h
          refine runs_pure ?_
          unfold execOp
          simp only [ho, hx, Instr.typeAssert, Sem.run_bind, run_underlying hu, Result.andThen_ok]
          cases d with
          | interface w => exact absurd rfl (hni w)
          | _ => simp only [htu, if_true, if_false, Sem.run_bind, zeroSV_ok (β := β) hz, Sem.run_pure, Result.andThen_ok]; rfl
        · cases h
      · cases h
  · cases h
theorem run_getMI {r : Nat} {x : Option Nat} {c c' : Nat} {s : Array Nat} (h : W.heap[r]? = some (.mapIter x c s c')) : (getObj r).run P W = .ok (.mapIter x c s c') W := by
  simp [getObj, Sem.run, h]
theorem run_setMI {r : Nat} {x : Option Nat} {c c' : Nat} {s : Array Nat} {y : Obj} (h : W.heap[r]? = some (.mapIter x c s c')) : (setObj r y).run P W = .ok () { W with heap := W.heap.setIfInBounds r y } := by
  simp [setObj, Sem.run, h]
theorem choose_one : (choose (.mapNext 1)).run P W = .ok 0 W := by
  simp [choose, Sem.run, Question.forced]
theorem rangeM_ok {t : TypeId} {x : Operand} {j : Nat} (ho : o.op = .range t x) (hx : a.eval x = (SV.mp j).den β) (h : opRangeM P row m t j = some g) (hs : See b β W row g.see) : Runs P o a W (EPost b β W row m g) := by
  unfold opRangeM at h
  split at h
  · rename_i q hq
    have hu := mapTy_ok hq
    split at h
    · rename_i es hrow
      split at h
      · rename_i hb
        rw [Bool.and_eq_true] at hb
        cases h
        obtain ⟨entries, clock, hh, hkv, hborn⟩ := hs.held j (List.mem_singleton_self j) _ hrow
        have hne : W.heap.size ≠ β.b j := by
          have := ObIs.lt hh
          omega
        refine .inl ⟨.pointer (some ⟨W.heap.size, 0, none⟩), W.alloc (.mapIter (some (β.b j)) clock #[] clock), ?_, β.upd m W.heap.size undef fun k => k = W.heap.size ∨ k = β.b j, by simp only [SV.den, upd_b], post_new ?_ (fun k hk => ?_) ?_⟩
        · unfold execOp
          simp only [ho, hx, SV.den, Instr.range, Sem.run_bind, run_underlying hu, Result.andThen_ok, run_getMap hh, Sem.run_pure, run_newObj]
          rfl
        · refine ⟨β.b j, ⟨entries, clock, #[], ?_, ?_, ?_, hborn, ?_, fun q hq => nomatch hq⟩, fun k => by rw [upd_Fm, upd_b]⟩
          · rw [upd_b]
            show (W.heap.push _)[W.heap.size]? = _
            simp
          · show (W.heap.push _)[β.b j]? = _
            rw [Array.getElem?_push, if_neg fun hh => hne hh.symm]
            exact hh
          · rw [← densE_congr es fun i hi => upd_at (idx_ne hb.2 i hi), ← hkv]
            simp
            rw [List.filter_eq_self.2 fun _ _ => rfl]
          · rw [densE_length]
            exact Nat.le_of_ble_eq_true hb.1
        · rw [show (foot (β.upd m W.heap.size undef fun k => k = W.heap.size ∨ k = β.b j) m (.mi [] es) k) = ((β.upd m W.heap.size undef fun k => k = W.heap.size ∨ k = β.b j).F m k) from rfl, upd_Fm] at hk
          rcases hk with rfl | rfl
          · exact .inr (Nat.le_refl _)
          · exact .inl ⟨j, .mo es, .inr (List.mem_singleton_self j), hrow, rfl⟩
        · exact (Cg.refl _ W).seq (Cg.of ((Chg.refl [] W).alloc _) (by simp)) fun k hk => .inl hk
      · cases h
    · cases h
  · cases h
theorem one_of {α : Type} {l : List α} {x : α} (h : l = [x]) : ∀ y ∈ l, y = x := fun y hy => by rw [h] at hy; exact List.mem_singleton.1 hy
theorem not_all {entries : Array MapEntry} {clock : Nat} (hb : ∀ e ∈ entries.toList, e.born < clock) : (!entries.isEmpty && entries.all (fun e => decide (e.born ≥ clock))) = false := by
  cases he : entries.isEmpty with
  | true => rfl
  | false =>
    have : ∃ e, e ∈ entries.toList := by
      rw [← Array.isEmpty_toList] at he
      cases hl : entries.toList with
      | nil => rw [hl] at he; cases he
      | cons e r => exact ⟨e, by simp⟩
    obtain ⟨e, hm⟩ := this
    have h1 := hb e hm
    rw [Bool.not_false, Bool.true_and]
    cases hall : entries.all (fun e => decide (e.born ≥ clock)) with
    | false => rfl
    | true =>
      have := (Array.all_eq_true_iff_forall_mem.1 hall) e (Array.mem_toList_iff.1 hm)
      have := of_decide_eq_true this
      omega
theorem nextM_ok {x : Operand} {j : Nat} (ho : o.op = .next x false) (hx : a.eval x = (SV.p j 0).den β) (h : opNextM row j = some g) (hs : See b β W row g.see) : Runs P o a W (EPost b β W row m g) := by
  unfold opNextM at h
  split at h
  · rename_i cur hrow
    cases h
    obtain ⟨g', ⟨entries, clock, seen, h1, h2, h3, h4, h5, h6⟩, hF⟩ := hs.held j (List.mem_singleton_self j) _ hrow
    have hleft : (entries.filter fun e => !seen.contains e.born) = #[] := by
      apply Array.toList_inj.1
      exact List.map_eq_nil_iff.1 h3
    refine runs_pure ?_
    unfold execOp
    have hna := not_all h4
    simp only [ho, hx, SV.den, Instr.next, Sem.run_bind, run_getMI h1, Result.andThen_ok, run_getMap h2, hleft]
    rw [show (!seen.isEmpty && !entries.isEmpty && entries.all fun e => decide (e.born ≥ clock)) = false from by rw [Bool.and_assoc, hna, Bool.and_false]]
    simp [Question.forced]
  · rename_i cur q hrow
    cases h
    obtain ⟨g', ⟨entries, clock, seen, h1, h2, h3, h4, h5, h6⟩, hF⟩ := hs.held j (List.mem_singleton_self j) _ hrow
    obtain ⟨e, hl, hkv⟩ : ∃ e, (entries.filter fun e => !seen.contains e.born).toList = [e] ∧ (e.key, e.val) = (q.1.den β, q.2.den β) := by
      generalize hL : (entries.filter fun e => !seen.contains e.born).toList = L at h3
      match L, h3 with
      | [e], h3 => exact ⟨e, rfl, (List.cons.inj h3).1⟩
      | [], h3 => cases h3
      | _ :: _ :: _, h3 => cases (List.cons.inj h3).2
    have hmem : e ∈ entries.toList ∧ seen.contains e.born = false := by
      have : e ∈ (entries.filter fun e => !seen.contains e.born).toList := by rw [hl]; simp
      rw [Array.toList_filter, List.mem_filter] at this
      exact ⟨this.1, by simpa using this.2⟩
    have hleft : (entries.filter fun e => !seen.contains e.born) = #[e] := Array.toList_inj.1 hl
    have hlt := h4 e hmem.1
    have hna := not_all h4
    refine .inl ⟨_, { W with heap := W.heap.setIfInBounds (β.b j) (.mapIter (some g') clock (seen.push e.born) clock) }, ?_, β, rfl, ?_⟩
    · unfold execOp
      simp only [ho, hx, SV.den, Instr.next, Sem.run_bind, run_getMI h1, Result.andThen_ok, run_getMap h2, hleft]
      rw [show (!seen.isEmpty && !entries.isEmpty && entries.all fun e => decide (e.born ≥ clock)) = false from by rw [Bool.and_assoc, hna, Bool.and_false]]
      have f1 : (#[e].filter fun e => decide (e.born < clock)) = #[e] := by simp [hlt]
      have f2 : (#[e].filter fun e => decide (e.born ≥ clock)) = #[] := by simp; omega
      simp only [f1, f2]
      simp [Question.forced, run_setMI h1, ← (Prod.mk.inj hkv).1, ← (Prod.mk.inj hkv).2, SV.dens, SV.den]
    · have hne : β.b j ≠ g' := fun hh => by rw [← hh, h1] at h2; cases h2
      refine post_upd hrow (fun k hk => hk) ⟨g', ⟨entries, clock, seen.push e.born, heap_set h1, ?_, ?_, h4, by simp [densE], ?_⟩, hF⟩ (cg_set.mono fun k hk => .inl ((hF k).2 (.inl hk)))
      · show (W.heap.setIfInBounds _ _)[g']? = _
        rw [Array.getElem?_setIfInBounds, if_neg hne]
        exact h2
      · have : (entries.filter fun e' => !(seen.push e.born).contains e'.born).toList = [] := by
          rw [Array.toList_filter, List.filter_eq_nil_iff]
          intro e' he' hc
          have hn : e'.born ≠ e.born ∧ seen.contains e'.born = false := by
            simp at hc
            exact ⟨fun hh => hc.2 hh, by simpa using hc.1⟩
          have hin : e' ∈ (entries.filter fun e => !seen.contains e.born).toList := by
            rw [Array.toList_filter, List.mem_filter]
            exact ⟨he', by rw [hn.2]; rfl⟩
          exact hn.1 (by rw [one_of hl e' hin])
        rw [this]
        rfl
      · intro q' hq'
        cases List.mem_singleton.1 hq'
        obtain ⟨e2, he2⟩ : ∃ e2, entries.find? (fun x => x.born == e.born) = some e2 := by
          cases hf : entries.find? (fun x => x.born == e.born) with
          | some e2 => exact ⟨e2, rfl⟩
          | none =>
            have := Array.find?_eq_none.1 hf e (Array.mem_toList_iff.1 hmem.1)
            simp at this
        have hb2 : e2.born = e.born := by simpa using Array.find?_some he2
        have hm2 := Array.mem_of_find?_eq_some he2
        have hin : e2 ∈ (entries.filter fun e => !seen.contains e.born).toList := by
          rw [Array.toList_filter, List.mem_filter]
          exact ⟨Array.mem_toList_iff.2 hm2, by rw [hb2, hmem.2]; rfl⟩
        have : e2 = e := one_of hl e2 hin
        subst this
        exact ⟨e2, e2.born, by simp, he2, hkv⟩
  · cases h
theorem entry_ok {x : Operand} {j : Nat} (ho : o.op = .entry x) (hx : a.eval x = (SV.p j 0).den β) (h : opEntry row j = some g) (hs : See b β W row g.see) : Runs P o a W (EPost b β W row m g) := by
  unfold opEntry at h
  split at h
  · rename_i q es hrow
    cases h
    obtain ⟨g', ⟨entries, clock, seen, h1, h2, h3, h4, h5, h6⟩, hF⟩ := hs.held j (List.mem_singleton_self j) _ hrow
    obtain ⟨e, stamp, h7, h8, h9⟩ := h6 (q.1.den β, q.2.den β) (by simp [densE])
    refine runs_pure ?_
    unfold execOp
    simp only [ho, hx, SV.den, Instr.entry, Sem.run_bind, run_getMI h1, Result.andThen_ok, h7, run_getMap h2, h8]
    simp [← (Prod.mk.inj h9).1, ← (Prod.mk.inj h9).2, SV.dens]
  · cases h
end
end Ax
end Go.Proofs.YtcpbbgkeigbndaaGreat
