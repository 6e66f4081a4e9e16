/- A walk by reckoning, part 1: abstract states (slots and blocks of a call's own, said as data), what an operation comes to in one, and that the model's operation comes to the same. Proved over any program. No condition of its own. -/
import Derived.Test.YtgpiapmbbnngpaaGreatDoorLibM
import Derived.Scope
import Derived.Great.BuildSlice
namespace Go.Proofs.YtgpiapmbbnngpaaGreatDoor
open Go Go.RowKit Go.Lib Go.Sort

namespace Sx
/-- Where the i-th block of the call's own lies; where the i-th slice of its own begins, its length, its capacity. -/
structure Env where
  b : Nat → Nat
  a : Nat → Option Addr
  n : Nat → Nat
  c : Nat → Nat
def Env.sl (β : Env) (i : Nat) : Value := .slice (β.a i) (β.n i) (β.c i)
instance : CoeFun Env fun _ => Nat → Nat := ⟨Env.b⟩
/-- A value: one that knows of no block of the call's own; a pointer into the i-th block of its own, a slice of it; the i-th slice of its own; a place in it; a tuple with such a slice; one that is not known any more. -/
inductive SV where
  | val (v : Value)
  | ptr (i off : Nat)
  | slc (i off len cap : Nat)
  | own (i : Nat)
  | optr (i off : Nat)
  | tup (pre : List Value) (i : Nat) (post : List Value)
  /-- A part of the i-th slice: from which cell on, how many elements, how many lie ahead of it. -/
  | osub (i off len cut : Nat)
  | gone
def SV.den (β : Env) : SV → Value
  | .val v => v
  | .ptr i o => .pointer (some ⟨β i, o, none⟩)
  | .slc i o n c => .slice (some ⟨β i, o, none⟩) n c
  | .own i => β.sl i
  | .optr i o => .pointer ((β.a i).map (·.add o))
  | .tup l i r => .tuple (l ++ (β.sl i :: r)).toArray
  | .osub i off len cut => .slice (if β.c i = cut then β.a i else (β.a i).map (·.add off)) len (β.c i - cut)
  | .gone => undef
def SV.on (Q : Nat → Prop) : SV → Prop
  | .val _ => True
  | .ptr i _ => Q i
  | .slc i _ _ _ => Q i
  | .own i => Q i
  | .optr i _ => Q i
  | .tup _ i _ => Q i
  | .osub i _ _ _ => Q i
  | .gone => True
inductive Cells where
  | vals (cs : List Value)
  | svs (cs : List SV)
  /-- The cells of a slice of the call's own. -/
  | own (size n : Nat) (xs : List Value)
  /-- Nothing is known any more. -/
  | dead
def Cells.den (β : Env) : Cells → List Value
  | .vals cs => cs
  | .svs cs => cs.map (SV.den β)
  | .own _ _ _ => []
  | .dead => []
def Cells.len : Cells → Nat
  | .vals cs => cs.length
  | .svs cs => cs.length
  | .own _ _ _ => 0
  | .dead => 0
def Cells.on (Q : Nat → Prop) : Cells → Prop
  | .vals _ => True
  | .svs cs => ∀ s ∈ cs, s.on Q
  | .own _ _ _ => True
  | .dead => True
structure Row where
  ty : TypeId
  cs : Cells
structure St where
  fr : List (Nat × SV)
  mem : List Row

def SV.known : SV → Option SV
  | .gone => none
  | v => some v
theorem known_some {v u : SV} (h : v.known = some u) : u = v := by
  cases v <;> first | (cases h; done) | exact (Option.some.inj h).symm
/-- One cell. -/
def SV.one : SV → Bool
  | .ptr _ _ => true
  | .slc _ _ _ _ => true
  | .own _ => true
  | .optr _ _ => true
  | .osub _ _ _ _ => true
  | _ => false
theorem one_cells {s : SV} (h : s.one = true) (β : Env) : (s.den β).cells = #[s.den β] ∧ (s.den β).oneCell' = true := by
  cases s with
  | ptr _ _ => exact ⟨rfl, rfl⟩
  | slc _ _ _ _ => exact ⟨rfl, rfl⟩
  | own _ => exact ⟨rfl, rfl⟩
  | optr _ _ => exact ⟨rfl, rfl⟩
  | osub _ _ _ _ => exact ⟨rfl, rfl⟩
  | val _ => cases h
  | tup _ _ _ => cases h
  | gone => cases h
def look : List (Nat × SV) → Nat → Option SV
  | [], _ => none
  | (k, v) :: r, t => match Nat.beq k t with
    | true => v.known
    | false => look r t
def ev (fr : List (Nat × SV)) : Operand → Option SV
  | .tmp t => look fr t
  | .const v => some (.val v)
  | .global g => some (.val (.pointer (some ⟨g, 0, none⟩)))
  | .func f => some (.val (.func (.func f) #[] #[]))
def St.put (n : Nat) (st : St) (dst : Option Tmp) (sv : SV) : St :=
  match dst with
  | none => st
  | some d => match Nat.blt d n with
    | true => ⟨(d, sv) :: st.fr, st.mem⟩
    | false => st

theorem SV.on_mono {Q Q' : Nat → Prop} (h : ∀ i, Q i → Q' i) {s : SV} (hs : s.on Q) : s.on Q' := by
  cases s <;> first | trivial | exact h _ hs
theorem Cells.on_mono {Q Q' : Nat → Prop} (h : ∀ i, Q i → Q' i) : ∀ {c : Cells}, c.on Q → c.on Q'
  | .vals _, _ => trivial
  | .svs _, hs => fun s hm => SV.on_mono h (hs s hm)
  | .own _ _ _, _ => trivial
  | .dead, _ => trivial
/-- Two environments say the same of what Q holds of. -/
def Env.same (β β' : Env) (Q : Nat → Prop) : Prop := ∀ i, Q i → β i = β' i ∧ β.a i = β'.a i ∧ β.n i = β'.n i ∧ β.c i = β'.c i
theorem SV.den_congr {β β' : Env} {Q : Nat → Prop} (h : β.same β' Q) {s : SV} (hs : s.on Q) : s.den β = s.den β' := by
  cases s <;> simp only [SV.den, Env.sl] <;> first | rfl | (obtain ⟨h1, h2, h3, h4⟩ := h _ hs; simp only [h1, h2, h3, h4])
theorem Cells.den_congr {β β' : Env} {Q : Nat → Prop} (h : β.same β' Q) : ∀ {c : Cells}, c.on Q → c.den β = c.den β'
  | .vals _, _ => rfl
  | .svs _, hs => List.map_congr_left fun s hm => SV.den_congr h (hs s hm)
  | .own _ _ _, _ => rfl
  | .dead, _ => rfl
theorem Cells.den_length (β : Env) : ∀ c : Cells, (c.den β).length = c.len
  | .vals _ => rfl
  | .svs cs => by simp [Cells.den, Cells.len]
  | .own _ _ _ => rfl
  | .dead => rfl
/-- What a row says of a world. -/
def Held (β : Env) (w : World) (i : Nat) (r : Row) : Prop := match r.cs with
  | .own size n xs => β.n i = n ∧ Own w r.ty size (.slice (β.a i) n (β.c i)) n xs
  | .vals cs => Blk w (β i) r.ty cs
  | .svs cs => Blk w (β i) r.ty (cs.map (SV.den β))
  | .dead => True
/-- The block that a row speaks of. -/
def rowBlk (β : Env) (i : Nat) (r : Row) : Option Nat := match r.cs with
  | .own _ _ _ => (β.a i).map (·.block)
  | .vals _ => some (β i)
  | .svs _ => some (β i)
  | .dead => none
theorem own_block {β : Env} {i n : Nat} : (Value.slice (β.a i) n (β.c i)).ownBlock = (β.a i).map (·.block) := by
  cases h : β.a i <;> simp [Value.ownBlock]
theorem Held.lt {β : Env} {w : World} {i k : Nat} {r : Row} (h : Held β w i r) (hk : rowBlk β i r = some k) : k < w.heap.size := by
  unfold Held at h
  unfold rowBlk at hk
  split at h
  · rename_i size n xs hc
    rw [hc] at hk
    exact Own.lt h.2 k (by rw [own_block]; exact hk)
  · rename_i cs hc
    rw [hc] at hk
    cases hk
    exact h.lt
  · rename_i cs hc
    rw [hc] at hk
    cases hk
    exact h.lt
  · rename_i hc
    rw [hc] at hk
    cases hk
theorem Held.chg {β : Env} {S : List Nat} {w w' : World} {i : Nat} {r : Row} (h : Held β w i r) (hc : Chg S w w') (hS : ∀ k, rowBlk β i r = some k → k ∉ S) : Held β w' i r := by
  unfold Held at h ⊢
  unfold rowBlk at hS
  split at h
  · rename_i size n xs hcs
    rw [hcs] at hS
    exact ⟨h.1, Own.chg h.2 hc (by rw [own_block]; exact hS)⟩
  · rename_i cs hcs
    rw [hcs] at hS
    exact Blk.chg h hc (hS _ rfl)
  · rename_i cs hcs
    rw [hcs] at hS
    exact Blk.chg h hc (hS _ rfl)
  · trivial
theorem Held.congr {β β' : Env} {w : World} {i : Nat} {r : Row} {Q : Nat → Prop} (hb : β.same β' Q) (hi : Q i) (hr : r.cs.on Q) (h : Held β w i r) : Held β' w i r := by
  obtain ⟨h1, h2, h3, h4⟩ := hb i hi
  obtain ⟨T, cs⟩ := r
  cases cs with
  | own size n xs => show β'.n i = n ∧ Own w T size (.slice (β'.a i) n (β'.c i)) n xs; rw [← h2, ← h3, ← h4]; exact h
  | vals cs => show Blk w (β' i) T cs; rw [← h1]; exact h
  | dead => trivial
  | svs cs =>
    show Blk w (β' i) T (cs.map (SV.den β'))
    rw [← h1, show cs.map (SV.den β') = cs.map (SV.den β) from (List.map_congr_left fun s hm => SV.den_congr hb (hr s hm)).symm]
    exact h
theorem rowBlk_congr {β β' : Env} {i : Nat} {r : Row} {Q : Nat → Prop} (hb : β.same β' Q) (hi : Q i) : rowBlk β i r = rowBlk β' i r := by
  obtain ⟨h1, h2, _⟩ := hb i hi
  obtain ⟨T, cs⟩ := r
  cases cs with
  | own size n xs => show (β.a i).map _ = (β'.a i).map _; rw [h2]
  | vals cs => show some (β i) = some (β' i); rw [h1]
  | dead => rfl
  | svs cs => show some (β i) = some (β' i); rw [h1]
/-- A row of cells that are known whole. -/
def Row.fixed (r : Row) : Bool := match r.cs with
  | .own _ _ _ => false
  | .dead => false
  | _ => true
theorem Held.blk {β : Env} {w : World} {i : Nat} {r : Row} (h : Held β w i r) (hf : r.fixed = true) : Blk w (β i) r.ty (r.cs.den β) := by
  unfold Held at h
  unfold Row.fixed at hf
  split at h
  · rename_i hc; rw [hc] at hf; cases hf
  · rename_i hc; rw [hc]; exact h
  · rename_i hc; rw [hc]; exact h
  · rename_i hc; rw [hc] at hf; cases hf
theorem Held.of_blk {β : Env} {w : World} {i : Nat} {r : Row} (h : Blk w (β i) r.ty (r.cs.den β)) (hf : r.fixed = true) : Held β w i r := by
  unfold Held
  unfold Row.fixed at hf
  split
  · rename_i hc; rw [hc] at hf; cases hf
  · rename_i hc; rw [hc] at h; exact h
  · rename_i hc; rw [hc] at h; exact h
  · trivial
theorem rowBlk_fixed {β : Env} {i : Nat} {r : Row} (hf : r.fixed = true) : rowBlk β i r = some (β i) := by
  unfold rowBlk
  unfold Row.fixed at hf
  split
  · rename_i hc; rw [hc] at hf; cases hf
  · rfl
  · rfl
  · rename_i hc; rw [hc] at hf; cases hf

/-! ### Operations that do not look at the world -/
def pureRun {α : Type} (P : Program) : Sem α → Option α
  | .pure a => some a
  | .program k => pureRun P (k P)
  | .mark _ k => pureRun P k
  | _ => none
theorem pureRun_ok {α : Type} {P : Program} {s : Sem α} : ∀ {x : α}, pureRun P s = some x → ∀ w, s.run P w = .ok x w := by
  induction s with
  | pure a => intro x h w; simp only [pureRun, Option.some.injEq] at h; subst h; rfl
  | program k ih => intro x h w; simp only [pureRun] at h; simp only [Sem.run]; exact ih P h w
  | mark m k ih => intro x h w; simp only [pureRun] at h; simp only [Sem.run]; exact ih h w
  | _ => intro x h; simp [pureRun] at h

/-- What a call gives back, where it may hand out a slice that it has made. -/
inductive Ret where
  | val (v : Value)
  | sl (T : TypeId) (size n : Nat) (xs : List Value)
  | tup (pre : List Value) (T : TypeId) (size n : Nat) (xs : List Value) (post : List Value)
def retPost (W : World) (r : Ret) (e : Ending) (w' : World) : Prop := match r with
  | .val v => e = .returned v ∧ Chg [] W w'
  | .sl T size n xs => ∃ s, e = .returned s ∧ Acc W w' T size s n xs
  | .tup pre T size n xs post => ∃ s, e = .returned (.tuple (pre ++ s :: post).toArray) ∧ Acc W w' T size s n xs
/-- The same, of a call that is handed one slice of the caller's own: what it gives back may lie where that slice lies. -/
def retPostK (W : World) (s0 : Value) (r : Ret) (e : Ending) (w' : World) : Prop := match r with
  | .val _ => False
  | .sl T size n xs => ∃ s, e = .returned s ∧ Own w' T size s n xs ∧ Chg s0.ownBlock.toList W w' ∧ ∀ k, s.ownBlock = some k → s0.ownBlock = some k ∨ W.heap.size ≤ k
  | .tup pre T size n xs post => ∃ s, e = .returned (.tuple (pre ++ s :: post).toArray) ∧ Own w' T size s n xs ∧ Chg s0.ownBlock.toList W w' ∧ ∀ k, s.ownBlock = some k → s0.ownBlock = some k ∨ W.heap.size ≤ k
inductive Hint where
  /-- The value, said anew. -/
  | is (v : Value)
  /-- The value, whatever the world. -/
  | any (v : Value)
  /-- What an operator on two operands comes to, whatever the world. -/
  | bin (v : Value)
  /-- What a call comes to. -/
  | call (v : Value)
  /-- What a cell at a place that is a letter holds. -/
  | ld (v : Value)
  /-- The block's cells behind a store at a place that is a letter. -/
  | st (cs : List Value)
  /-- An index whose bounds are to be shown. -/
  | ix
  /-- A nil slice becomes a slice of the call's own, of elements of the type t. -/
  | nils (t : TypeId) (size : Nat)
  /-- What a slice holds that is appended. -/
  | app (m : Nat) (news : List Value)
  /-- From where, to where a slice of the call's own is cut. -/
  | osl (lo hi : Nat)
  /-- What a call gives back, to which slices of the call's own may be handed. -/
  | callO (r : Ret)
  /-- What a call gives back that is handed one slice of the call's own, which is not known any more behind it. -/
  | callK (r : Ret)
def hint : List (Nat × Hint) → Option Tmp → Option Hint
  | _, none => none
  | [], _ => none
  | (k, v) :: r, some t => match Nat.beq k t with
    | true => some v
    | false => hint r (some t)

inductive Res where
  | val (sv : SV) (ob : Option Prop)
  | call (f : FuncId) (args : List Value) (v : Value)
  | alloc (t : TypeId) (cs : Cells) (ln : Option Nat)
  | store (i : Nat) (row : Row) (ob : Option Prop)
  | grow (kill : Option Nat) (t : TypeId) (size n : Nat) (xs : List Value) (ob : Option Prop)
  | callO (f : FuncId) (args : List SV) (r : Ret)
  | storeO (i : Nat) (row : Row) (ob : Option Prop)
  | callK (f : FuncId) (i : Nat) (r : Ret)
  | bad

def rho (e : Operand → Option SV) (x : Operand) : Value := match e x with
  | some (.val v) => v
  | _ => undef
def isVal (e : Operand → Option SV) (x : Operand) : Bool := match e x with
  | some (.val _) => true
  | _ => false
def allB {α : Type} (p : α → Bool) : List α → Bool
  | [] => true
  | x :: r => match p x with
    | true => allB p r
    | false => false
theorem allB_spec {α : Type} {p : α → Bool} : ∀ {l : List α}, allB p l = true → ∀ x ∈ l, p x = true
  | y :: r, h, x, hx => by
    unfold allB at h
    split at h
    · rcases List.mem_cons.1 hx with rfl | hx
      · assumption
      · exact allB_spec h x hx
    · cases h

def loadRes (P : Program) (t : TypeId) (r : Row) (off : Nat) : Res :=
  match r.fixed with
  | false => .bad
  | true => match P.underlying t, P.info? t with
    | some d, some inf => match d.isRow with
      | true => match r.cs with
        | .vals cs => match Nat.beq off 0 && Nat.beq inf.size cs.length with
          | true => .val (.val (.agg cs.toArray)) none
          | false => match Nat.ble (off + inf.size) cs.length with
            | true => .val (.val (.agg ((cs.drop off).take inf.size).toArray)) none
            | false => .bad
        | _ => .bad
      | false => match r.cs with
        | .vals cs => match cs[off]? with
          | some v => .val (.val v) none
          | none => .bad
        | .svs cs => match cs[off]? with
          | some v => .val v none
          | none => .bad
        | _ => .bad
    | _, _ => .bad
/-- A place of a slice of the call's own is read. -/
def loadOwnRes (P : Program) (t : TypeId) (r : Row) (off : Nat) (v : Value) : Res :=
  match r.cs with
  | .own _ _ xs => match P.underlying t, P.info? t with
    | some d, some inf => match d.isRow with
      | true => match v with
        | .agg arr => match Nat.blt 0 inf.size with
          | true => .val (.val (.agg arr)) (some (arr.toList.length = inf.size ∧ (xs.drop off).take inf.size = arr.toList))
          | false => .bad
        | _ => .bad
      | false => .val (.val v) (some (xs[off]? = some v))
    | _, _ => .bad
  | _ => .bad

def storeRes (P : Program) (t : TypeId) (i : Nat) (r : Row) (off : Nat) (sv : SV) : Res :=
  match r.fixed with
  | false => .bad
  | true => match P.info? t with
  | none => .bad
  | some inf => match sv with
    | .val v => match Nat.beq v.cells.toList.length inf.size && allB (·.oneCell') v.cells.toList with
      | true => match Nat.beq off 0 && Nat.beq inf.size r.cs.len with
        | true => .store i ⟨r.ty, .vals v.cells.toList⟩ none
        | false => match Nat.ble (off + inf.size) r.cs.len with
          | true => .store i ⟨r.ty, match r.cs with
            | .vals cs => .vals (cs.take off ++ (v.cells.toList ++ cs.drop (off + inf.size)))
            | .svs cs => .svs (cs.take off ++ (v.cells.toList.map .val ++ cs.drop (off + inf.size)))
            | c => c⟩ none
          | false => .bad
      | false => .bad
    | sv => match sv.one && Nat.beq inf.size 1 with
      | true => match Nat.blt off r.cs.len with
        | true => .store i ⟨r.ty, match r.cs with
          | .vals cs => .svs ((cs.map .val).set off sv)
          | .svs cs => .svs (cs.set off sv)
          | c => c⟩ none
        | false => .bad
      | false => .bad

/-- A store into a slice of the call's own. -/
def storeOwnRes (P : Program) (t : TypeId) (i : Nat) (r : Row) (off : Nat) (sv : SV) : Res := match r.cs with
  | .own size n xs => match P.info? t with
    | some inf => match sv with
      | .val v => match Nat.beq v.cells.toList.length inf.size && (allB (·.oneCell') v.cells.toList && Nat.blt 0 inf.size) with
        | true => .storeO i ⟨r.ty, .own size n (xs.take off ++ (v.cells.toList ++ xs.drop (off + inf.size)))⟩ (some (off + inf.size ≤ xs.length))
        | false => .bad
      | _ => .bad
    | none => .bad
  | _ => .bad
def loadAtRes (P : Program) (t : TypeId) (r : Row) (off : Nat) (v : Value) : Res :=
  match P.underlying t with
  | some d => match d.isRow with
    | false => match r.cs with
      | .vals cs => .val (.val v) (some (cs[off]? = some v))
      | _ => .bad
    | true => .bad
  | none => .bad
def storeAtRes (P : Program) (t : TypeId) (i : Nat) (r : Row) (off : Nat) (sv : SV) (cs' : List Value) : Res :=
  match P.info? t with
  | none => .bad
  | some inf => match sv with
    | .val v => match Nat.beq v.cells.toList.length inf.size && allB (·.oneCell') v.cells.toList with
      | true => match r.cs with
        | .vals cs => .store i ⟨r.ty, .vals cs'⟩ (some (off + inf.size ≤ cs.length ∧ cs.take off ++ (v.cells.toList ++ cs.drop (off + inf.size)) = cs'))
        | _ => .bad
      | false => .bad
    | _ => .bad
/-- What an operation does, where it does no more than to reckon a value. -/
def semOf (ρ : Operand → Value) (o : Oper) : Option (Sem Value) :=
  match o.op with
  | .binOp op t x y _ => some (do eqGuard op t x y (ρ x) (ρ y); binOp op t (ρ x) (ρ y))
  | .unOp op _ x => some (Op.unary op (ρ x))
  | .convert s d x => some (convert s d (ρ x))
  | .slice t x lo hi mx => some (Instr.sliceAt t (ρ x) (lo.map ρ) (hi.map ρ) (mx.map ρ))
  | .index t x i => some (Instr.index t (ρ x) (ρ i))
  | .indexAddr t x i => some (Instr.indexAt t (ρ x) (ρ i))
  | .field t x f => some (Instr.field t (ρ x) f)
  | .load t x => some (Instr.loadAt t (ρ x))
  | .fieldAddr t x f => some (Instr.fieldAt t (ρ x) f)
  | _ => none

def pureRes (P : Program) (w0 : World) (h : Option Hint) (e : Operand → Option SV) (o : Oper) : Res :=
  match allB (isVal e) o.op.operands.toList && Region.noSelect #[o] with
  | false => .bad
  | true => match h with
    | some (.any v) => match semOf (rho e) o with
      | some s => .val (.val v) (some (∀ W, Chg [] w0 W → s.run P W = .ok v W))
      | none => .val (.val v) (some (∀ W, Chg [] w0 W → (execOp (rho e) o).run P W = .ok (.value v) W))
    | some (.bin v) => match semOf (rho e) o with
      | some s => .val (.val v) (some (∀ W, s.run P W = .ok v W))
      | none => .bad
    | some (.is v) => match pureRun P (execOp (rho e) o) with
      | some (.value u) => .val (.val v) (some (u = v))
      | _ => .bad
    | _ => match pureRun P (execOp (rho e) o) with
      | some (.value u) => .val (.val u) none
      | _ => .bad

def callRes (P : Program) (w0 : World) (h : Option Hint) (e : Operand → Option SV) (o : Oper) : Res :=
  match h with
  | some (.call v) => match allB (isVal e) o.op.operands.toList && Region.noSelect #[o] with
    | false => .bad
    | true => match pureRun P (execOp (rho e) o) with
      | some (.enter f args) => .call f args.toList v
      | _ => .bad
  | _ => pureRes P w0 h e o

def hint2 (H : List (Nat × Hint)) : Operand → Option Hint
  | .tmp x => hint H (some (100000 + x))
  | _ => none
/-- The operand of a call of the builtin len. -/
def lenArg (c : Call) : Option (TypeId × Operand) := match c.callee with
  | .builtin b => match b with
    | .len => match c.args.toList, c.argTypes.toList with
      | [x], [t] => some (t, x)
      | _, _ => none
    | _ => none
  | _ => none
def svArgs (e : Operand → Option SV) : List Operand → Option (List SV)
  | [] => some []
  | x :: r => match e x, svArgs e r with
    | some sv, some l => some (sv :: l)
    | _, _ => none
def callORes (P : Program) (e : Operand → Option SV) (c : Call) (r : Ret) : Res := match c.callee with
  | .value (.func f) => match P.funcs[f]? with
    | some fn => match fn.name == "runtime.NumGoroutine" || fn.body.isNone with
      | false => match svArgs e c.args.toList with
        | some l => .callO f l r
        | none => .bad
      | true => .bad
    | none => .bad
  | _ => .bad
def isSlice : Ret → Bool
  | .val _ => false
  | _ => true
def callKRes (P : Program) (e : Operand → Option SV) (c : Call) (r : Ret) : Res := match callORes P e c r with
  | .callO f args _ => match args with
    | [.own i] => match isSlice r with
      | true => .callK f i r
      | false => .bad
    | _ => .bad
  | _ => .bad
/-- What an appended slice holds: how many elements, the cells, what is to be shown. -/
def srcOf (w0 : World) (row : Nat → Option Row) (size : Nat) (h : Option Hint) : SV → Option (Nat × List Value × Prop)
  | .slc j off m _ => match row j with
    | some r => match r.cs with
      | .vals cs => some (m, (cs.drop off).take (m * size), True)
      | _ => none
    | none => none
  | .own j => match row j with
    | some r => match r.cs with
      | .own _ n xs => some (n, xs, True)
      | _ => none
    | none => none
  | .osub j off m cut => match row j with
    | some r => match r.cs with
      | .own sz n xs => some (m, (xs.drop off).take (m * size), off = cut * sz ∧ cut + m ≤ n)
      | _ => none
    | none => none
  | .val v => match h with
    | some (.app m news) => some (m, news, ∀ W, Chg [] w0 W → ∃ A c, v = .slice A m c ∧ (0 < news.length → ∃ ad, A = some ad ∧ ∀ (j : Nat) (u : Value), news[j]? = some u → W.cell? (ad.add j) = some u))
    | _ => none
  | _ => none
/-- A slice type's element, its cells, its bytes. -/
def appTy (P : Program) (t : TypeId) : Option (TypeId × Nat × Nat) := match P.underlying t with
  | some (.slice e) => match P.info? e with
    | some inf => match inf.zero with
      | some z => match Nat.beq z.cells.size inf.size && Nat.blt 0 inf.size with
        | true => some (e, inf.size, inf.bytes)
        | false => none
      | none => none
    | none => none
  | _ => none
def appGo (P : Program) (w0 : World) (row : Nat → Option Row) (h : Option Hint) (t : TypeId) (kill : Option Nat) (el size n : Nat) (xs : List Value) (y : SV) : Res :=
  match appTy P t with
  | some (e, sz, bytes) => match Nat.beq e el && Nat.beq sz size with
    | true => match srcOf w0 row size h y with
      | some (m, news, ob) => .grow kill el size (n + m) (xs ++ news) (some (ob ∧ news.length = m * size ∧ (∀ u ∈ news, u.oneCell' = true) ∧ n + m ≤ maxLen ∧ (n + m) * bytes ≤ 140737488355328))
      | none => .bad
    | false => .bad
  | none => .bad
def appRes (P : Program) (w0 : World) (row : Nat → Option Row) (h : Option Hint) (t : TypeId) (x y : SV) : Res :=
  match x with
  | .own i => match row i with
    | some r => match r.cs with
      | .own size n xs => appGo P w0 row h t (some i) r.ty size n xs y
      | _ => .bad
    | none => .bad
  | .val (.slice none 0 0) => match appTy P t with
    | some (e, sz, _) => appGo P w0 row h t none e sz 0 [] y
    | none => .bad
  | _ => .bad
/-- The operands of a call of the builtin append. -/
def appArgs (c : Call) : Option (TypeId × Operand × Operand) := match c.callee with
  | .builtin b => match b with
    | .append => match c.args.toList, c.argTypes.toList with
      | [x, y], [t, u] => match Nat.beq t u with
        | true => some (t, x, y)
        | false => none
      | _, _ => none
    | _ => none
  | _ => none
def moveRes (P : Program) (w0 : World) (h : Option Hint) (e : Operand → Option SV) (o : Oper) (x : Operand) : Res := match e x with
  | some sv => match h with
    | none => .val sv none
    | some (.nils t size) => match sv with
      | .val (.slice none 0 0) => .grow none t size 0 [] none
      | sv => .val sv none
    | _ => pureRes P w0 h e o
  | none => .bad
/-- A bound of a slice expression. -/
def bnd (e : Operand → Option SV) (d : Nat) : Option Operand → Option Int
  | none => some d
  | some x => match e x with
    | some (.val (.int _ k)) => some k
    | _ => none
def cutRes (P : Program) (h : Option Hint) (e : Operand → Option SV) (row : Nat → Option Row) (t : TypeId) (i : Nat) (lo hi : Option Operand) : Res := match row i with
  | some r => match r.cs with
    | .own size n _ => match appTy P t with
      | some (_, sz, _) => match Nat.beq sz size with
        | true => match bnd e 0 lo, bnd e n hi with
          | some kl, some kh => match h with
            | some (.osl l u) => .val (.osub i (l * size) (u - l) l) (some (kl = l ∧ kh = u ∧ l ≤ u ∧ u ≤ n))
            | _ => .bad
          | _, _ => .bad
        | false => .bad
      | none => .bad
    | _ => .bad
  | none => .bad
def sliceRes (P : Program) (w0 : World) (h : Option Hint) (e : Operand → Option SV) (row : Nat → Option Row) (o : Oper) (t : TypeId) (x : Operand) (lo hi mx : Option Operand) : Res := match e x with
  | some (.own i) => match mx with
    | none => cutRes P h e row t i lo hi
    | some _ => .bad
  | _ => pureRes P w0 h e o
def lenRes (P : Program) (w0 : World) (h : Option Hint) (e : Operand → Option SV) (row : Nat → Option Row) (o : Oper) (c : Call) : Res := match lenArg c with
  | some (t, x) => match e x with
    | some (.own i) => match row i with
      | some r => match r.cs with
        | .own _ n _ => match P.underlying t with
          | some (.slice _) => .val (.val (.int .i64 (n : Int))) none
          | _ => .bad
        | _ => .bad
      | none => .bad
    | some (.slc _ _ n _) => match P.underlying t with
      | some (.slice _) => .val (.val (.int .i64 (n : Int))) none
      | _ => .bad
    | some (.osub _ _ n _) => match P.underlying t with
      | some (.slice _) => .val (.val (.int .i64 (n : Int))) none
      | _ => .bad
    | _ => callRes P w0 h e o
  | none => callRes P w0 h e o
/-- The values of a slice literal all of whose elements are written, in their order. -/
def partVals (e : Operand → Option SV) : Nat → List (Nat × Operand) → Option (List Value)
  | _, [] => some []
  | k, p :: r => match Nat.beq p.1 k with
    | true => match e p.2 with
      | some (.val v) => match partVals e (k + 1) r with
        | some l => some (v :: l)
        | none => none
      | _ => none
    | false => none
def buildRes (P : Program) (e : Operand → Option SV) (t : TypeId) (len : Nat) (parts : List (Nat × Operand)) : Res := match partVals e 0 parts with
  | some vs => match P.underlying t with
    | some (.slice el) => match P.info? el with
      | some inf => match inf.zero with
        | some z => match allB (fun v => Nat.beq v.cells.toList.length inf.size) vs && (Nat.beq vs.length len && (Nat.beq z.cells.toList.length inf.size && (Nat.ble (len * inf.size) 16777216 && (Nat.blt 0 inf.size && Nat.blt 0 len)))) with
          | true => .alloc el (.vals (vs.flatMap fun v => v.cells.toList)) (some len)
          | false => .bad
        | none => .bad
      | none => .bad
    | _ => .bad
  | none => .bad
/-- What a slice literal makes, as a slice of the call's own. -/
def growOf (P : Program) : Res → Res
  | .alloc el (.vals cs) (some n) => match P.info? el with
    | some inf => match Nat.beq cs.length (n * inf.size) && Nat.ble n 16777216 with
      | true => .grow none el inf.size n cs none
      | false => .bad
    | none => .bad
  | _ => .bad
def opRes (P : Program) (w0 : World) (H : List (Nat × Hint)) (h : Option Hint) (e : Operand → Option SV) (row : Nat → Option Row) (o : Oper) : Res :=
  match o.op with
  | .move x | .assign x => moveRes P w0 h e o x
  | .nilCheck x => match e x with
    | some (.ptr i off) => .val (.ptr i off) none
    | _ => pureRes P w0 h e o
  | .alloc t => match P.info? t with
    | some inf => match inf.zero with
      | some z => .alloc t (.vals z.cells.toList) none
      | none => .bad
    | none => .bad
  | .box t x => match e x with
    | some (.val v) => .alloc t (.vals v.cells.toList) none
    | some sv => match sv.one with
      | true => .alloc t (.svs [sv]) none
      | false => .bad
    | none => .bad
  | .load t x => match e x with
    | some (.ptr i off) => match row i with
      | some r => match h with
        | some (.ld v) => loadAtRes P t r off v
        | _ => loadRes P t r off
      | none => .bad
    | some (.optr i off) => match row i with
      | some r => match h with
        | some (.ld v) => loadOwnRes P t r off v
        | _ => .bad
      | none => .bad
    | _ => match h with
      | some (.any v) => pureRes P w0 (some (.any v)) e o
      | _ => .bad
  | .store t x y => match e x with
    | some (.ptr i off) => match e y with
      | some sv => match row i with
        | some r => match hint2 H x with
          | some (.st cs') => storeAtRes P t i r off sv cs'
          | _ => storeRes P t i r off sv
        | none => .bad
      | none => .bad
    | some (.optr i off) => match e y with
      | some sv => match row i with
        | some r => storeOwnRes P t i r off sv
        | none => .bad
      | none => .bad
    | _ => .bad
  | .extract x k => match e x with
    | some (.tup l i r) => match Nat.beq k l.length with
      | true => .val (.own i) none
      | false => match l[k]? with
        | some v => .val (.val v) none
        | none => match Nat.blt l.length k with
          | true => match r[k - l.length - 1]? with
            | some v => .val (.val v) none
            | none => .bad
          | false => .bad
    | _ => pureRes P w0 h e o
  | .buildSlice t len parts => match h with
    | some (.nils _ _) => growOf P (buildRes P e t len parts.toList)
    | _ => match len, parts.toList with
    | 1, [(0, x)] => match e x with
      | some (.val v) => match P.underlying t with
        | some (.slice el) => match P.info? el with
          | some inf => match inf.zero with
            | some z => match Nat.beq v.cells.toList.length inf.size && (Nat.beq z.cells.toList.length inf.size && (Nat.ble inf.size 16777216 && Nat.blt 0 inf.size)) with
              | true => .alloc el (.vals v.cells.toList) (some 1)
              | false => .bad
            | none => .bad
          | none => .bad
        | _ => .bad
      | _ => .bad
    | _, _ => buildRes P e t len parts.toList
  | .fieldAddr s x f => match e x with
    | some (.ptr i off) => match P.underlying s with
      | some (.struct fields) => match fields[f]? with
        | some fd => match (P.info? fd.type).map (·.size) with
          | some (_ + 1) => .val (.ptr i (off + fd.offset)) none
          | _ => .bad
        | none => .bad
      | _ => .bad
    | some (.optr i off) => match row i with
      | some r => match r.cs with
        | .own _ n _ => match P.underlying s with
          | some (.struct fields) => match fields[f]? with
            | some fd => match (P.info? fd.type).map (·.size) with
              | some (_ + 1) => .val (.optr i (off + fd.offset)) (some (0 < n))
              | _ => .bad
            | none => .bad
          | _ => .bad
        | _ => .bad
      | none => .bad
    | _ => pureRes P w0 h e o
  | .indexAddr t x ix => match e x with
    | some (.ptr i off) => match P.underlying t with
      | some (.array len elem) => match e ix with
        | some (.val (.int _ k)) => match P.info? elem with
          | some inf => match h with
            | some .ix => .val (.ptr i (off + k.toNat * inf.size)) (some (0 ≤ k ∧ k < len))
            | _ => match decide (0 ≤ k ∧ k < len) with
              | true => .val (.ptr i (off + k.toNat * inf.size)) none
              | false => .bad
          | none => .bad
        | _ => .bad
      | _ => .bad
    | some (.own i) => match row i with
      | some r => match r.cs with
        | .own _ n _ => match e ix with
          | some (.val (.int _ k)) => match P.underlying t with
            | some (.slice elem) => match P.info? elem with
              | some inf => match h with
                | some .ix => .val (.optr i (k.toNat * inf.size)) (some (0 ≤ k ∧ k < n))
                | _ => .bad
              | none => .bad
            | _ => .bad
          | _ => .bad
        | _ => .bad
      | none => .bad
    | _ => pureRes P w0 h e o
  | .slice t x lo hi mx => sliceRes P w0 h e row o t x lo hi mx
  | .call c => match h with
    | some (.callO r) => callORes P e c r
    | some (.callK r) => callKRes P e c r
    | _ => match appArgs c with
      | some (t, x, y) => match e x, e y with
        | some sx, some sy => appRes P w0 row h t sx sy
        | _, _ => .bad
      | none => lenRes P w0 h e row o c
  | _ => pureRes P w0 h e o

/-- The block, the slice of the call's own that an operation looks at. -/
def atOf : Option SV → List Nat
  | some (.ptr i _) => [i]
  | some (.slc i _ _ _) => [i]
  | some (.optr i _) => [i]
  | some (.own i) => [i]
  | some (.osub i _ _ _) => [i]
  | _ => []
def touches (e : Operand → Option SV) (o : Oper) : List Nat :=
  match o.op with
  | .load _ x => atOf (e x)
  | .store _ x _ => atOf (e x)
  | .indexAddr _ x _ => match e x with
    | some (.own i) => [i]
    | _ => []
  | .slice _ x _ _ _ => match e x with
    | some (.own i) => [i]
    | _ => []
  | .fieldAddr _ x _ => match e x with
    | some (.optr i _) => [i]
    | _ => []
  | .call c => c.args.toList.flatMap fun x => atOf (e x)
  | _ => []
/-- The value of what has been made. -/
def madeSV (m : Nat) : Option Nat → SV
  | none => .ptr m 0
  | some n => .slc m 0 n n
def madeV (g : Nat) : Option Nat → Value
  | none => .pointer (some ⟨g, 0, none⟩)
  | some n => .slice (some ⟨g, 0, none⟩) n n
def deadRow : Row := ⟨0, .dead⟩
def retRow : Ret → Option Row
  | .val _ => none
  | .sl T size n xs => some ⟨T, .own size n xs⟩
  | .tup _ T size n xs _ => some ⟨T, .own size n xs⟩
def retSV (m : Nat) : Ret → SV
  | .val v => .val v
  | .sl _ _ _ _ => .own m
  | .tup pre _ _ _ _ post => .tup pre m post
def withRow (mem : List Row) : Option Row → List Row
  | none => mem
  | some r => mem ++ [r]
def killed (mem : List Row) : Option Nat → List Row
  | none => mem
  | some i => mem.set i deadRow
/-- What is asked of a call that is handed one slice of the caller's own. -/
def argK (row : Nat → Option Row) (W : World) (i : Nat) (K : Value → Prop) : Prop := match row i with
  | some r => match r.cs with
    | .own size n xs => ∀ s, Own W r.ty size s n xs → K s
    | _ => False
  | none => False
theorem argK_row {row : Nat → Option Row} {W : World} {i : Nat} {K : Value → Prop} (h : argK row W i K) : ∃ r, row i = some r ∧ ∃ s m ys, r.cs = .own s m ys := by
  unfold argK at h
  split at h
  · rename_i r hr
    split at h
    · rename_i s m ys hc
      exact ⟨r, hr, s, m, ys, hc⟩
    · exact h.elim
  · exact h.elim
theorem argK_ok {β : Env} {row : Nat → Option Row} {W : World} {i : Nat} {K : Value → Prop} (h : argK row W i K) (hr : ∀ r, row i = some r → Held β W i r) : K (β.sl i) := by
  unfold argK at h
  split at h
  · rename_i r hrow
    have hh := hr r hrow
    split at h
    · rename_i s m ys hc
      unfold Held at hh
      rw [hc] at hh
      have := h _ hh.2
      rw [← hh.1] at this
      exact this
    · exact h.elim
  · exact h.elim
/-- A call's arguments, of which some are slices of the caller's own. -/
def argsOb (row : Nat → Option Row) (W : World) : List SV → (List Value → Prop) → Prop
  | [], K => K []
  | sv :: l, K => match sv with
    | .val v => argsOb row W l fun vs => K (v :: vs)
    | .own i => match row i with
      | some r => match r.cs with
        | .own size n xs => ∀ s, Own W r.ty size s n xs → argsOb row W l fun vs => K (s :: vs)
        | _ => False
      | none => False
    | .osub i off m cut => match row i with
      | some r => match r.cs with
        | .own size n xs => (off = cut * size ∧ cut + m ≤ n) ∧ ∀ s, Own W r.ty size s m ((xs.drop off).take (m * size)) → (0 < n → ∃ g o c, s = .slice (some ⟨g, o, none⟩) m c) → argsOb row W l fun vs => K (s :: vs)
        | _ => False
      | none => False
    | _ => False
theorem own_sub {w : World} {T size n c : Nat} {A : Option Addr} {xs : List Value} (h : Own w T size (.slice A n c) n xs) {off m cut : Nat} (ho : off = cut * size) (hm : cut + m ≤ n) : Own w T size (.slice (if c = cut then A else A.map (·.add off)) m (c - cut)) m ((xs.drop off).take (m * size)) := by
  have hlen : ((xs.drop off).take (m * size)).length = m * size := by
    have h1 : cut * size + m * size ≤ n * size := by rw [← Nat.add_mul]; exact Nat.mul_le_mul_right _ hm
    rw [List.length_take, List.length_drop, h.len]
    omega
  refine ⟨hlen, ?_⟩
  rcases h.2 with ⟨hv, rfl⟩ | ⟨g, o, c', L, hv, hg, hn, hc, hL, hx⟩
  · injection hv with h1 h2 h3
    subst h1; subst h3
    have : m = 0 := by omega
    subst this
    have : cut = 0 := by omega
    subst this
    exact .inl ⟨by simp, rfl⟩
  · injection hv with h1 h2 h3
    subst h1; subst h3
    refine .inr ?_
    have hcs : cut * size + (c - cut) * size = c * size := by rw [← Nat.add_mul]; congr 1; omega
    have hmn : cut * size + m * size ≤ n * size := by rw [← Nat.add_mul]; exact Nat.mul_le_mul_right _ hm
    by_cases hcc : c = cut
    · have : m = 0 := by omega
      subst this
      refine ⟨g, o, c - cut, L, by rw [if_pos hcc], hg, by omega, by omega, ?_, by simp⟩
      rw [hcc, Nat.sub_self]
      omega
    · refine ⟨g, o + off, c - cut, L, by rw [if_neg hcc]; simp [Addr.add_lit], hg, by omega, by omega, by omega, ?_⟩
      rw [← hx, List.drop_take, List.drop_drop, List.take_take]
      congr 1
      rw [ho]
      omega
theorem argsOb_ok {β : Env} {row : Nat → Option Row} {W : World} : ∀ {l : List SV} {K : List Value → Prop}, argsOb row W l K → (∀ i sv, sv ∈ l → i ∈ atOf (some sv) → ∀ r, row i = some r → Held β W i r) → K (l.map (SV.den β))
  | [], K, h, _ => h
  | sv :: l, K, h, hr => by
    unfold argsOb at h
    split at h
    · rename_i v
      have := argsOb_ok (l := l) (K := fun vs => K (v :: vs)) h fun i sv hi => hr i sv (List.mem_cons_of_mem _ hi)
      exact this
    · rename_i i
      split at h
      · rename_i r hrow
        have hh := hr i (.own i) (by simp) (by simp [atOf]) r hrow
        split at h
        · rename_i size n xs hcs
          unfold Held at hh
          rw [hcs] at hh
          have := argsOb_ok (l := l) (K := fun vs => K (.slice (β.a i) n (β.c i) :: vs)) (h (.slice (β.a i) n (β.c i)) hh.2) fun i sv hi => hr i sv (List.mem_cons_of_mem _ hi)
          rw [← hh.1] at this
          exact this
        · exact h.elim
      · exact h.elim
    · rename_i i off m cut
      split at h
      · rename_i r hrow
        have hh := hr i (.osub i off m cut) (by simp) (by simp [atOf]) r hrow
        split at h
        · rename_i size n xs hcs
          unfold Held at hh
          rw [hcs] at hh
          refine argsOb_ok (l := l) (K := fun vs => K (_ :: vs)) (h.2 _ (own_sub hh.2 h.1.1 h.1.2) fun hn => ?_) fun i sv hi => hr i sv (List.mem_cons_of_mem _ hi)
          obtain ⟨g, o, c', hv, _⟩ := hh.2.some_ hn
          injection hv with h1 h2 h3
          simp only [SV.den, h1]
          by_cases hc : β.c i = cut
          · exact ⟨g, o, β.c i - cut, by rw [if_pos hc]⟩
          · exact ⟨g, o + off, β.c i - cut, by rw [if_neg hc]; simp [Addr.add_lit]⟩
        · exact h.elim
      · exact h.elim
    · exact h.elim
end Sx
end Go.Proofs.YtgpiapmbbnngpaaGreatDoor

/- A walk by reckoning, part 2: what an operation comes to in an abstract state is what the model's operation comes to. Proved over any program. No condition of its own. -/
namespace Go.Proofs.YtgpiapmbbnngpaaGreatDoor
open Go Go.RowKit Go.Lib Go.Sort

theorem Blk.setCells {b : Nat} {t : TypeId} : ∀ (vs : List Value) (off : Nat) {cs : List Value} {W : World}, Blk W b t cs → off + vs.length ≤ cs.length → Blk (W.setCells b off vs) b t (cs.take off ++ (vs ++ cs.drop (off + vs.length)))
  | [], off, cs, W, h, _ => by simpa [World.setCells] using h
  | v :: r, off, cs, W, h, hl => by
    rw [World.setCells]
    simp only [List.length_cons] at hl
    have := Blk.setCells r (off + 1) (h.set_ off v) (by simp; omega)
    have e : (cs.set off v).take (off + 1) ++ (r ++ (cs.set off v).drop (off + 1 + r.length)) = cs.take off ++ ((v :: r) ++ cs.drop (off + (v :: r).length)) := by
      rw [List.take_succ_eq_append_getElem (by simp; omega), List.drop_set_of_lt (by omega), List.getElem_set_self, List.take_set_of_le (by omega)]
      simp only [List.append_assoc, List.cons_append, List.nil_append, List.length_cons]
      rw [show off + (r.length + 1) = off + 1 + r.length by omega]
    rwa [e] at this
theorem Chg.setCells_ {S : List Nat} {a : World} (b : Nat) (hb : b ∈ S ∨ a.heap.size ≤ b) : ∀ (vs : List Value) (off : Nat) {W : World}, Chg S a W → Chg S a (W.setCells b off vs)
  | [], _, _, h => h
  | v :: r, off, _, h => Chg.setCells_ b hb r (off + 1) (h.setCell (p := ⟨b, off, none⟩) hb v)

namespace Sx
section
variable {P : Program} {β : Env} {W : World} {a : Act} {o : Oper} {e : Operand → Option SV} {row : Nat → Option Row} {hn : Option Hint}

def Res.Ok (P : Program) (β : Env) (W : World) (a : Act) (o : Oper) : Res → Prop
  | .val sv ob => (∀ p, ob = some p → p) → (execOp a.eval o).run P W = .ok (.value (sv.den β)) W
  | .call f args _ => (execOp a.eval o).run P W = .ok (.enter f args.toArray) W
  | .alloc t cs ln => (execOp a.eval o).run P W = .ok (.value (madeV W.heap.size ln)) (W.alloc (.cells (cs.den β).toArray t))
  | .grow kill t size n xs ob => (∀ p, ob = some p → p) → ∃ A c W' S, (execOp a.eval o).run P W = .ok (.value (.slice A n c)) W' ∧ Own W' t size (.slice A n c) n xs ∧ Chg S W W' ∧ (∀ k ∈ S, ∃ i, kill = some i ∧ (β.a i).map (·.block) = some k) ∧ ∀ k, A.map (·.block) = some k → k ∈ S ∨ W.heap.size ≤ k
  | .callO f args _ => (execOp a.eval o).run P W = .ok (.enter f (args.map (SV.den β)).toArray) W
  | .callK f i _ => (execOp a.eval o).run P W = .ok (.enter f #[β.sl i]) W
  | .storeO i r ob => (∀ p, ob = some p → p) → ∃ W', (execOp a.eval o).run P W = .ok .skip W' ∧ Held β W' i r ∧ Chg (rowBlk β i r).toList W W'
  | .store i r ob => (∀ p, ob = some p → p) → ∃ W', (execOp a.eval o).run P W = .ok .skip W' ∧ Blk W' (β i) r.ty (r.cs.den β) ∧ Chg [β i] W W'
  | .bad => True

theorem rho_eq (he : ∀ x ∈ o.op.operands, ∀ sv, e x = some sv → a.eval x = sv.den β) (h : allB (isVal e) o.op.operands.toList = true) (hs : Region.noSelect #[o] = true) : execOp a.eval o = execOp (rho e) o := by
  refine execOp_congr o ?_ fun x hx => ?_
  · exact fun cs b => Region.noSelect_spec hs 0 o cs b rfl
  · have := allB_spec h x (by simpa using hx)
    unfold isVal at this
    unfold rho
    split at this
    · rename_i v hv
      rw [he x hx _ hv]
      rfl
    · cases this

theorem semOf_ok {ρ : Operand → Value} {s : Sem Value} (h : semOf ρ o = some s) {v : Value} (hr : s.run P W = .ok v W) : (execOp ρ o).run P W = .ok (.value v) W := by
  unfold semOf at h
  split at h
  all_goals first
    | cases h; done
    | (rename_i ho; cases h; unfold execOp; simp only [ho]; rw [Sem.run_bind, hr]; rfl)
theorem pure_ok {w0 : World} (hw : Chg [] w0 W) (he : ∀ x ∈ o.op.operands, ∀ sv, e x = some sv → a.eval x = sv.den β) : (pureRes P w0 hn e o).Ok P β W a o := by
  unfold pureRes
  split
  · trivial
  · rename_i hb
    rw [Bool.and_eq_true] at hb
    have hq := rho_eq he hb.1 hb.2
    split
    · split
      · rename_i s hs
        intro hob
        rw [hq]
        exact semOf_ok hs (hob _ rfl W hw)
      · intro hob
        rw [hq]
        exact hob _ rfl W hw
    · split
      · rename_i s hs
        intro hob
        rw [hq]
        exact semOf_ok hs (hob _ rfl W)
      · trivial
    · split
      · rename_i u hu
        intro hob
        rw [hq, pureRun_ok hu W, hob _ rfl]
        rfl
      · trivial
    · split
      · rename_i u hu
        intro _
        rw [hq, pureRun_ok hu W]
        rfl
      · trivial

theorem call_ok {w0 : World} (hw : Chg [] w0 W) (he : ∀ x ∈ o.op.operands, ∀ sv, e x = some sv → a.eval x = sv.den β) : (callRes P w0 hn e o).Ok P β W a o := by
  unfold callRes
  split
  · split
    · trivial
    · rename_i hb
      rw [Bool.and_eq_true] at hb
      have hq := rho_eq he hb.1 hb.2
      split
      · rename_i f args hu
        show _ = _
        rw [hq, pureRun_ok hu W]
      · trivial
  · exact pure_ok hw he

theorem run_sure {b off : Nat} {t : TypeId} : (Instr.loadAt t (.pointer (some ⟨b, off, none⟩))).run P W = (loadVar t ⟨b, off, none⟩).run P W := by
  simp [Instr.loadAt, Instr.sureAddr]

theorem exec_row {t : TypeId} {x : Operand} {b off : Nat} {d : TypeDesc} {inf : TypeInfo} {cs : List Value} (ho : o.op = .load t x) (hx : a.eval x = .pointer (some ⟨b, off, none⟩)) (hu : P.underlying t = some d) (hi : P.info? t = some inf) (hd : d.isRow = true) (hl : inf.size = cs.length) (hc : W.rangeAt b off cs) :
    (execOp a.eval o).run P W = .ok (.value (.agg cs.toArray)) W := by
  have := run_loadAt_mid (P := P) W b off t cs d hc hu hd (by rw [hi]; simpa using hl)
  unfold execOp
  simp only [ho, hx, Sem.run_bind, this]
  rfl
theorem exec_one {t : TypeId} {x : Operand} {b off : Nat} {d : TypeDesc} {v : Value} (ho : o.op = .load t x) (hx : a.eval x = .pointer (some ⟨b, off, none⟩)) (hu : P.underlying t = some d) (hd : d.isRow = false) (hc : W.cell? ⟨b, off, none⟩ = some v) :
    (execOp a.eval o).run P W = .ok (.value v) W := by
  have hagg : (isAgg t).run P W = .ok false W := by
    unfold isAgg
    rw [Sem.run_bind, run_underlying hu W]
    cases d <;> simp_all
  unfold execOp
  simp only [ho, hx, Sem.run_bind, run_sure]
  simp [loadVar, Sem.run_bind, hagg, load, Sem.run, hc]
theorem load_ok {t : TypeId} {x : Operand} {i off : Nat} {r : Row} (ho : o.op = .load t x) (hx : a.eval x = .pointer (some ⟨β i, off, none⟩)) (hb : Held β W i r) : (loadRes P t r off).Ok P β W a o := by
  unfold loadRes
  split
  · trivial
  · rename_i hf
    have hb := hb.blk hf
    split
    · rename_i d inf hu hi
      split
      · rename_i hd
        split
        · rename_i cs hcs
          rw [hcs] at hb
          split
          · rename_i hh
            rw [Bool.and_eq_true] at hh
            have h0 := Nat.eq_of_beq_eq_true hh.1
            have h1 := Nat.eq_of_beq_eq_true hh.2
            intro _
            refine exec_row ho hx hu hi hd h1 fun j v hv => ?_
            rw [h0, Nat.zero_add]
            exact hb.cell_of hv
          · split
            · rename_i hh
              have hl := Nat.le_of_ble_eq_true hh
              intro _
              refine exec_row ho hx hu hi hd (by simp; omega) fun j v hv => ?_
              refine hb.cell_of ?_
              rw [List.getElem?_take] at hv
              split at hv
              · rw [List.getElem?_drop] at hv; exact hv
              · cases hv
            · trivial
        · trivial
      · rename_i hd
        split
        · rename_i cs hcs
          rw [hcs] at hb
          split
          · rename_i v hv
            intro _
            exact exec_one ho hx hu hd (hb.cell_of hv)
          · trivial
        · rename_i cs hcs
          rw [hcs] at hb
          split
          · rename_i v hv
            intro _
            exact exec_one ho hx hu hd (hb.cell_of (by simp [Cells.den, hv]))
          · trivial
        · trivial
    · trivial
theorem loadAt_ok {t : TypeId} {x : Operand} {i off : Nat} {r : Row} {v : Value} (ho : o.op = .load t x) (hx : a.eval x = .pointer (some ⟨β i, off, none⟩)) (hb : Held β W i r) : (loadAtRes P t r off v).Ok P β W a o := by
  unfold loadAtRes
  split
  · rename_i d hu
    split
    · rename_i hd
      split
      · rename_i cs hcs
        unfold Held at hb
        rw [hcs] at hb
        intro hob
        exact exec_one ho hx hu hd (Blk.cell_of hb (hob _ rfl))
      · trivial
    · trivial
  · trivial
theorem own_at {i n : Nat} {T size : Nat} {xs : List Value} (h : Own W T size (.slice (β.a i) n (β.c i)) n xs) (hx : xs ≠ []) : ∃ g o, β.a i = some ⟨g, o, none⟩ ∧ ∀ (j : Nat) (u : Value), xs[j]? = some u → W.cell? ⟨g, o + j, none⟩ = some u := by
  have hn : 0 < n := by
    rcases Nat.eq_zero_or_pos n with h0 | h0
    · have := h.len
      rw [h0, Nat.zero_mul] at this
      exact absurd (List.eq_nil_of_length_eq_zero this) hx
    · exact h0
  obtain ⟨g, o, c, hv, _⟩ := h.some_ hn
  injection hv with h1 _ h3
  refine ⟨g, o, h1, fun j u hu => ?_⟩
  rw [h1] at h
  exact (Own.cell h hu).1
theorem loadOwn_ok {t : TypeId} {x : Operand} {i off : Nat} {r : Row} {v : Value} (ho : o.op = .load t x) (hx : a.eval x = (SV.optr i off).den β) (hb : Held β W i r) : (loadOwnRes P t r off v).Ok P β W a o := by
  unfold loadOwnRes
  split
  · rename_i size n xs hcs
    unfold Held at hb
    rw [hcs] at hb
    split
    · rename_i d inf hu hi
      split
      · rename_i hd
        split
        · rename_i arr
          split
          · rename_i hpos
            have hpos : 0 < inf.size := Nat.le_of_ble_eq_true hpos
            intro hob
            obtain ⟨h1, h2⟩ := hob _ rfl
            have hne : xs ≠ [] := by
              rintro rfl
              rw [List.drop_nil, List.take_nil] at h2
              rw [← h2] at h1
              simp at h1
              omega
            obtain ⟨g, o', ha, hc⟩ := own_at hb.2 hne
            have hx' : a.eval x = .pointer (some ⟨g, o' + off, none⟩) := by rw [hx]; simp only [SV.den, ha, Option.map_some, Addr.add_mid]
            refine exec_row (cs := arr.toList) ho hx' hu hi hd h1.symm fun j u hu => ?_
            rw [Nat.add_assoc]
            refine hc _ _ ?_
            rw [← h2, List.getElem?_take] at hu
            split at hu
            · rw [List.getElem?_drop] at hu; exact hu
            · cases hu
          · trivial
        · trivial
      · rename_i hd
        intro hob
        have hu' := hob _ rfl
        have hne : xs ≠ [] := by rintro rfl; simp at hu'
        obtain ⟨g, o', ha, hc⟩ := own_at hb.2 hne
        have hx' : a.eval x = .pointer (some ⟨g, o' + off, none⟩) := by rw [hx]; simp only [SV.den, ha, Option.map_some, Addr.add_mid]
        exact exec_one ho hx' hu hd (hc _ _ hu')
    · trivial
  · trivial
theorem storeVar_cells (b off : Nat) (t : TypeId) (v : Value) (ht : W.there b off v.cells.size) (hi : (P.info? t).map (·.size) = some v.cells.size) (h1 : ∀ u ∈ v.cells.toList, u.oneCell' = true) :
    (storeVar t ⟨b, off, none⟩ v).run P W = .ok () (W.setCells b off v.cells.toList) := by
  have := run_storeCells_cells (P := P) b off v.cells.toList 0 W (fun j hj => by simpa using (ht j (by simpa using hj)).1) (fun j hj => by simpa using (ht j (by simpa using hj)).2) h1
  cases hq : P.info? t with
  | none => simp [hq] at hi
  | some i =>
    have hs : v.cells.size = i.size := by simp [hq] at hi; omega
    simp only [Nat.add_zero] at this
    simp [storeVar, sizeOf, typeInfo, hq, hs, this]

theorem Blk_there {b t : Nat} {cs : List Value} (hb : Blk W b t cs) {off n : Nat} (h : off + n ≤ cs.length) : W.there b off n := fun j hj =>
  ⟨by rw [hb.cell, List.getElem?_eq_getElem (by omega)]; rfl, hb.frozen _⟩

theorem store_ok {t : TypeId} {x y : Operand} {i off : Nat} {r : Row} {sv : SV} (ho : o.op = .store t x y) (hx : a.eval x = .pointer (some ⟨β i, off, none⟩)) (hy : a.eval y = sv.den β) (hb : Held β W i r) : (storeRes P t i r off sv).Ok P β W a o := by
  have main : r.fixed = true → ∀ (inf : TypeInfo) (v : Value) (row' : List Value), sv.den β = v → P.info? t = some inf → v.cells.toList.length = inf.size → (∀ u ∈ v.cells.toList, u.oneCell' = true) → off + inf.size ≤ r.cs.len →
      (r.cs.den β).take off ++ (v.cells.toList ++ (r.cs.den β).drop (off + inf.size)) = row' → ∃ W', (execOp a.eval o).run P W = .ok .skip W' ∧ Blk W' (β i) r.ty row' ∧ Chg [β i] W W' := by
    intro hf inf v row' hv hi hl h1 hle hrow
    have hb := hb.blk hf
    have hth : W.there (β i) off v.cells.size := Blk_there hb (by rw [Cells.den_length]; simp at hl; omega)
    have hrun := storeVar_cells (P := P) (β i) off t v hth (by rw [hi]; simp at hl ⊢; omega) h1
    refine ⟨W.setCells (β i) off v.cells.toList, ?_, ?_, Chg.setCells_ _ (.inl (by simp)) _ _ (Chg.refl _ _)⟩
    · unfold execOp
      simp only [ho, hx, hy, hv, Sem.run_bind, Instr.storeAt, Instr.sureAddr, Sem.run_pure, Result.andThen_ok, hrun]
    · have := hb.setCells v.cells.toList off (by rw [Cells.den_length, hl]; exact hle)
      rw [hl, hrow] at this
      exact this
  unfold storeRes
  split
  · trivial
  rename_i hf
  split
  · trivial
  · rename_i inf hi
    split
    · rename_i v
      split
      · rename_i hh
        rw [Bool.and_eq_true] at hh
        have hl := Nat.eq_of_beq_eq_true hh.1
        have h1 := allB_spec hh.2
        split
        · rename_i hz
          rw [Bool.and_eq_true] at hz
          have h0 := Nat.eq_of_beq_eq_true hz.1
          have hs := Nat.eq_of_beq_eq_true hz.2
          intro _
          refine main hf inf v _ rfl hi hl h1 (by omega) ?_
          subst h0
          rw [List.take_zero, List.nil_append, List.drop_of_length_le (by rw [Cells.den_length]; omega), List.append_nil]
          rfl
        · split
          · rename_i hle
            have hle := Nat.le_of_ble_eq_true hle
            intro _
            refine main hf inf v _ rfl hi hl h1 hle ?_
            unfold Row.fixed at hf
            cases hcc : r.cs with
            | own a b c => rw [hcc] at hf; cases hf
            | dead => rw [hcc] at hf; cases hf
            | vals cs => rfl
            | svs cs => simp [Cells.den, List.map_take, List.map_drop, SV.den, Function.comp_def]
          · trivial
      · trivial
    · split
      · rename_i h1
        rw [Bool.and_eq_true] at h1
        obtain ⟨ho1, h1⟩ := h1
        have h1 := Nat.eq_of_beq_eq_true h1
        obtain ⟨hc0, hone⟩ := one_cells ho1 β
        split
        · rename_i hlt
          have hlt : off < r.cs.len := Nat.le_of_ble_eq_true hlt
          have hc : (sv.den β).cells.toList = [sv.den β] := by rw [hc0]
          have ho := hone
          intro _
          refine main hf inf (sv.den β) _ rfl hi (by rw [hc]; simp [h1]) (by rw [hc]; simpa using ho) (by omega) ?_
          rw [hc, h1]
          have key : ∀ (L : List Value), off < L.length → L.take off ++ ([sv.den β] ++ L.drop (off + 1)) = L.set off (sv.den β) := by
            intro L hL
            rw [List.set_eq_take_append_cons_drop, if_pos hL]
            rfl
          cases hr : r.cs with
          | own a b c => unfold Row.fixed at hf; rw [hr] at hf; cases hf
          | dead => unfold Row.fixed at hf; rw [hr] at hf; cases hf
          | vals cs =>
            rw [hr] at hlt
            simp only [Cells.den, List.map_set, List.map_map]
            rw [key cs hlt]
            congr 1
            have : (SV.den β ∘ SV.val) = id := rfl
            rw [this, List.map_id]
          | svs cs =>
            rw [hr] at hlt
            simp only [Cells.den, List.map_set]
            rw [key _ (by simpa [Cells.len] using hlt)]
        · trivial
      · trivial

theorem storeAt_ok {t : TypeId} {x y : Operand} {i off : Nat} {r : Row} {sv : SV} {cs' : List Value} (ho : o.op = .store t x y) (hx : a.eval x = .pointer (some ⟨β i, off, none⟩)) (hy : a.eval y = sv.den β) (hb : Held β W i r) : (storeAtRes P t i r off sv cs').Ok P β W a o := by
  have main : r.fixed = true → ∀ (inf : TypeInfo) (v : Value) (row' : List Value), sv.den β = v → P.info? t = some inf → v.cells.toList.length = inf.size → (∀ u ∈ v.cells.toList, u.oneCell' = true) → off + inf.size ≤ r.cs.len →
      (r.cs.den β).take off ++ (v.cells.toList ++ (r.cs.den β).drop (off + inf.size)) = row' → ∃ W', (execOp a.eval o).run P W = .ok .skip W' ∧ Blk W' (β i) r.ty row' ∧ Chg [β i] W W' := by
    intro hf inf v row' hv hi hl h1 hle hrow
    have hb := hb.blk hf
    have hth : W.there (β i) off v.cells.size := Blk_there hb (by rw [Cells.den_length]; simp at hl; omega)
    have hrun := storeVar_cells (P := P) (β i) off t v hth (by rw [hi]; simp at hl ⊢; omega) h1
    refine ⟨W.setCells (β i) off v.cells.toList, ?_, ?_, Chg.setCells_ _ (.inl (by simp)) _ _ (Chg.refl _ _)⟩
    · unfold execOp
      simp only [ho, hx, hy, hv, Sem.run_bind, Instr.storeAt, Instr.sureAddr, Sem.run_pure, Result.andThen_ok, hrun]
    · have := hb.setCells v.cells.toList off (by rw [Cells.den_length, hl]; exact hle)
      rw [hl, hrow] at this
      exact this
  unfold storeAtRes
  split
  · trivial
  · rename_i inf hi
    split
    · rename_i v
      split
      · rename_i hh
        rw [Bool.and_eq_true] at hh
        have hl := Nat.eq_of_beq_eq_true hh.1
        have h1 := allB_spec hh.2
        split
        · rename_i cs hcs
          intro hob
          have hob := hob _ rfl
          refine main (by unfold Row.fixed; rw [hcs]) inf v _ rfl hi hl h1 (by rw [hcs]; exact hob.1) ?_
          rw [hcs]
          exact hob.2
        · trivial
      · trivial
    · trivial

theorem splice_in {α : Type} (L : List α) (o N off : Nat) (xs cs : List α) (hx : (L.drop o).take N = xs) (hl : xs.length = N) (hfit : off + cs.length ≤ xs.length) : ((splice L (o + off) cs).drop o).take N = xs.take off ++ (cs ++ xs.drop (off + cs.length)) := by
  have hL : o + N ≤ L.length ∨ N = 0 := by
    have := congrArg List.length hx
    rw [List.length_take, List.length_drop, hl] at this
    omega
  rcases hL with hL | hN
  · apply List.ext_getElem?
    intro j
    unfold splice
    rw [List.getElem?_take]
    by_cases hj : j < N
    · rw [if_pos hj, List.getElem?_drop]
      have hxj : ∀ i, i < N → xs[i]? = L[o + i]? := fun i hi => by rw [← hx, List.getElem?_take, if_pos hi, List.getElem?_drop]
      by_cases h1 : j < off
      · rw [List.getElem?_append_left (by rw [List.length_take]; omega), List.getElem?_append_left (by rw [List.length_take]; omega), List.getElem?_take, List.getElem?_take, if_pos (by omega), if_pos h1, hxj j hj]
      · have hl1 : (L.take (o + off) ++ (cs ++ L.drop (o + off + cs.length)))[o + j]? = (cs ++ L.drop (o + off + cs.length))[j - off]? := by
          rw [List.getElem?_append_right (by rw [List.length_take]; omega), List.length_take, Nat.min_eq_left (by omega)]
          congr 1; omega
        have hr1 : (xs.take off ++ (cs ++ xs.drop (off + cs.length)))[j]? = (cs ++ xs.drop (off + cs.length))[j - off]? := by
          rw [List.getElem?_append_right (by rw [List.length_take]; omega), List.length_take, Nat.min_eq_left (by omega)]
        rw [hl1, hr1]
        by_cases h2 : j < off + cs.length
        · rw [List.getElem?_append_left (by omega), List.getElem?_append_left (by omega)]
        · have a1 : (cs ++ L.drop (o + off + cs.length))[j - off]? = L[o + j]? := by
            rw [List.getElem?_append_right (by omega), List.getElem?_drop]
            congr 1; omega
          have a2 : (cs ++ xs.drop (off + cs.length))[j - off]? = xs[j]? := by
            rw [List.getElem?_append_right (by omega), List.getElem?_drop]
            congr 1; omega
          rw [a1, a2, hxj _ hj]
    · rw [if_neg hj]
      symm
      apply List.getElem?_eq_none
      simp only [List.length_append, List.length_take, List.length_drop]
      omega
  · subst hN
    have : xs = [] := List.eq_nil_of_length_eq_zero hl
    subst this
    have : cs = [] := List.eq_nil_of_length_eq_zero (by rw [List.length_nil] at hfit; omega)
    subst this
    simp
theorem storeOwn_ok {t : TypeId} {x y : Operand} {i off : Nat} {r : Row} {sv : SV} (ho : o.op = .store t x y) (hx : a.eval x = (SV.optr i off).den β) (hy : a.eval y = sv.den β) (hb : Held β W i r) : (storeOwnRes P t i r off sv).Ok P β W a o := by
  unfold storeOwnRes
  split
  · rename_i size n xs hcs
    unfold Held at hb
    rw [hcs] at hb
    split
    · rename_i inf hi
      split
      · rename_i v
        split
        · rename_i hh
          simp only [Bool.and_eq_true] at hh
          obtain ⟨h1, h2, h3⟩ := hh
          have h1 := Nat.eq_of_beq_eq_true h1
          have h2 := allB_spec h2
          have h3 : 0 < inf.size := Nat.le_of_ble_eq_true h3
          intro hob
          have hfit := hob _ rfl
          obtain ⟨hn, hown⟩ := hb
          rcases hown.2 with ⟨hv, h0⟩ | ⟨g, o', c', L, hv, hg, hnc, hcm, hL, hxs⟩
          · have := hown.len
            rw [h0, Nat.zero_mul] at this
            omega
          · injection hv with ha _ hc
            have hlen := hown.len
            have hns : n * size ≤ c' * size := Nat.mul_le_mul_right _ hnc
            have hth : W.there g (o' + off) v.cells.size := Blk_there hg (by simp at h1; omega)
            have hrun := storeVar_cells (P := P) g (o' + off) t v hth (by rw [hi]; simp at h1 ⊢; omega) h2
            have hset := hg.setCells v.cells.toList (o' + off) (by omega)
            have hx' : a.eval x = .pointer (some ⟨g, o' + off, none⟩) := by rw [hx]; simp only [SV.den, ha, Option.map_some, Addr.add_mid]
            refine ⟨W.setCells g (o' + off) v.cells.toList, ?_, ?_, ?_⟩
            · unfold execOp
              simp only [ho, hx', hy, SV.den, Sem.run_bind, Instr.storeAt, Instr.sureAddr, Sem.run_pure, Result.andThen_ok, hrun]
            · show β.n i = n ∧ Own _ r.ty size (.slice (β.a i) n (β.c i)) n _
              refine ⟨hn, ?_, .inr ⟨g, o', c', _, by rw [ha, hc], hset, hnc, hcm, ?_, ?_⟩⟩
              · simp only [List.length_append, List.length_take, List.length_drop, h1]
                omega
              · simp only [List.length_append, List.length_take, List.length_drop]
                omega
              · have := splice_in L o' (n * size) off xs v.cells.toList hxs hlen (by omega)
                rw [h1] at this
                unfold splice at this
                rw [h1] at this
                rw [h1]
                exact this
            · have e : rowBlk β i ⟨r.ty, .own size n (xs.take off ++ (v.cells.toList ++ xs.drop (off + inf.size)))⟩ = some g := by
                show (β.a i).map _ = _
                rw [ha]; rfl
              rw [e]
              exact Chg.setCells_ _ (.inl (by simp)) _ _ (Chg.refl _ _)
        · trivial
      · trivial
    · trivial
  · trivial
theorem foldl_set : ∀ (l : List Value) (k : Nat) (z : Array Value), z.size = k + l.length → (l.zipIdx k).foldl (fun (cs : Array Value) (x : Value × Nat) => cs.setIfInBounds (0 + x.2) x.1) z = (z.toList.take k ++ l).toArray
  | [], k, z, h => by
    simp only [List.length_nil, Nat.add_zero] at h
    rw [List.zipIdx_nil, List.foldl_nil, List.append_nil, List.take_of_length_le (by simp; omega)]
  | v :: l, k, z, h => by
    simp only [List.length_cons] at h
    rw [List.zipIdx_cons, List.foldl_cons, foldl_set l (k + 1) _ (by simp; omega)]
    apply congrArg List.toArray
    simp only [Nat.zero_add, Array.toList_setIfInBounds]
    rw [List.take_succ_eq_append_getElem (by simp; omega), List.getElem_set_self, List.take_set_of_le (Nat.le_refl _)]
    simp
theorem fill_one (size : Nat) (v : Value) (z : Array Value) (hz : z.size = size) (hv : v.cells.size = size) : Instr.fill (fun i => some (i * size, size)) z [(0, v)] = some v.cells := by
  have h := foldl_set v.cells.toList 0 z (by simp; omega)
  have e1 : (v.cells.size ≠ size || 0 * size + v.cells.size > z.size) = false := by simp [hv, hz]
  unfold Instr.fill
  simp only [e1, Bool.false_eq_true, if_false]
  unfold Instr.fill
  apply congrArg some
  rw [← Array.foldl_toList, show v.cells.zipIdx.toList = v.cells.toList.zipIdx 0 by simp]
  simp only [Nat.zero_mul]
  rw [h]
  simp
theorem partVals_spec {β : Env} {a : Act} {e : Operand → Option SV} : ∀ {l : List (Nat × Operand)} {k : Nat} {vs : List Value}, partVals e k l = some vs → (∀ i x, (i, x) ∈ l → ∀ sv, e x = some sv → a.eval x = sv.den β) → (l.map fun p => (p.1, a.eval p.2)) = (vs.zipIdx k).map fun x => (x.2, x.1)
  | [], k, vs, h, _ => by
    have : vs = [] := by simpa [partVals] using h.symm
    subst this
    rfl
  | (i, x) :: r, k, vs, h, he => by
    unfold partVals at h
    simp only at h
    split at h
    · rename_i hi
      split at h
      · rename_i v hx
        split at h
        · rename_i l hl
          cases h
          have h1 := partVals_spec hl fun i x hm => he i x (List.mem_cons_of_mem _ hm)
          have h2 := he i x (by simp) _ hx
          rw [List.map_cons, List.zipIdx_cons, List.map_cons, h1]
          simp only [h2, SV.den, Nat.eq_of_beq_eq_true hi]
        · cases h
      · cases h
    · cases h
theorem build_ok {P : Program} {β : Env} {W : World} {a : Act} {o : Oper} {e : Operand → Option SV} {t : TypeId} {len : Nat} {parts : Array (Nat × Operand)} (ho : o.op = .buildSlice t len parts) (he : ∀ i x, (i, x) ∈ parts.toList → ∀ sv, e x = some sv → a.eval x = sv.den β) : (buildRes P e t len parts.toList).Ok P β W a o := by
  unfold buildRes
  split
  · rename_i vs hvs
    have hp := partVals_spec hvs he
    split
    · rename_i el hu
      split
      · rename_i inf hi
        split
        · rename_i z hz
          split
          · rename_i hh
            simp only [Bool.and_eq_true] at hh
            obtain ⟨h1, h2, h3, h4, h5, h6⟩ := hh
            have h1' : ∀ v ∈ vs, v.cells.size = inf.size := fun v hv => by
              have := Nat.eq_of_beq_eq_true (allB_spec h1 v hv)
              simpa using this
            have h2 := Nat.eq_of_beq_eq_true h2
            have h3 := Nat.eq_of_beq_eq_true h3
            have h4 := Nat.le_of_ble_eq_true h4
            have h5 : 0 < inf.size := Nat.le_of_ble_eq_true h5
            have h6 : 0 < len := Nat.le_of_ble_eq_true h6
            have hpos : 0 < len * inf.size := Nat.mul_pos h6 h5
            show _ = _
            have hfill := Great.fill_whole h5 vs ((Array.range (len * inf.size)).map (z.cells[· % z.cells.size]!)) h1' (by simp [h2])
            rw [← hp] at hfill
            have hrun := run_buildSlice (P := P) W t el len (parts.map fun (i, x) => (i, a.eval x)) _ inf z hu hi hz (by omega) (by omega) (by rw [Array.toList_map]; exact hfill)
            unfold execOp
            simp only [ho, Sem.run_bind, hrun, Result.andThen_ok, Sem.run_pure, madeV, Cells.den]
          · trivial
        · trivial
      · trivial
    · trivial
  · trivial
theorem build_ne {P : Program} {e : Operand → Option SV} {t : TypeId} {len : Nat} {parts : List (Nat × Operand)} {r : Res} (h : buildRes P e t len parts = r) : r = .bad ∨ ∃ el cs ln, r = .alloc el (.vals cs) ln := by
  unfold buildRes at h
  repeat' (split at h)
  all_goals first
    | exact .inl h.symm
    | exact .inr ⟨_, _, _, h.symm⟩
theorem growOf_ne {P : Program} {r0 r : Res} (h : growOf P r0 = r) : r = .bad ∨ ∃ el sz n cs, r = .grow none el sz n cs none := by
  unfold growOf at h
  repeat' (split at h)
  all_goals first
    | exact .inl h.symm
    | exact .inr ⟨_, _, _, _, h.symm⟩
theorem growOf_ok {P : Program} {β : Env} {W : World} {a : Act} {o : Oper} {r : Res} (h : r.Ok P β W a o) : (growOf P r).Ok P β W a o := by
  unfold growOf
  split
  · rename_i el cs n
    split
    · rename_i inf hi
      split
      · rename_i hb
        rw [Bool.and_eq_true] at hb
        have h1 := Nat.eq_of_beq_eq_true hb.1
        have h2 := Nat.le_of_ble_eq_true hb.2
        intro _
        have hrun : (execOp a.eval o).run P W = .ok (.value (madeV W.heap.size (some n))) (W.alloc (.cells cs.toArray el)) := h
        have ho := Own.made W el inf.size n n cs (Nat.le_refl _) (by unfold maxLen; omega) h1
        rw [List.take_of_length_le (by omega)] at ho
        refine ⟨some ⟨W.heap.size, 0, none⟩, n, _, [], hrun, ho, (Chg.refl [] W).alloc _, by simp, fun k hk => .inr ?_⟩
        have : W.heap.size = k := by simpa using hk
        omega
      · trivial
    · trivial
  · trivial
theorem lenArg_eq {c : Call} {t : TypeId} {x : Operand} (h : lenArg c = some (t, x)) : c = { callee := .builtin .len, args := #[x], argTypes := #[t] } := by
  obtain ⟨callee, args, ats⟩ := c
  unfold lenArg at h
  split at h
  · rename_i b hb
    split at h
    · split at h
      · rename_i y u hy hu
        simp only at hb hy hu
        injection h with h
        injection h with h1 h2
        subst h1; subst h2
        have e1 : args = #[y] := by rw [← Array.toList_inj, hy]
        have e2 : ats = #[u] := by rw [← Array.toList_inj, hu]
        rw [hb, e1, e2]
      · cases h
    · cases h
  · cases h
theorem appTy_ok {t e sz bytes : Nat} (h : appTy P t = some (e, sz, bytes)) : ∃ inf z, P.underlying t = some (.slice e) ∧ P.info? e = some inf ∧ inf.zero = some z ∧ inf.size = sz ∧ inf.bytes = bytes ∧ z.cells.size = sz ∧ 0 < sz := by
  unfold appTy at h
  split at h
  · rename_i e' hu
    split at h
    · rename_i inf hi
      split at h
      · rename_i z hz
        split at h
        · rename_i hb
          rw [Bool.and_eq_true] at hb
          injection h with h
          injection h with h1 h2
          injection h2 with h2 h3
          subst h1; subst h2; subst h3
          exact ⟨inf, z, hu, hi, hz, rfl, rfl, Nat.eq_of_beq_eq_true hb.1, Nat.le_of_ble_eq_true hb.2⟩
        · cases h
      · cases h
    · cases h
  · cases h
theorem len_ok {c : Call} {w0 : World} (ho : o.op = .call c) (hw : Chg [] w0 W) (he : ∀ x ∈ o.op.operands, ∀ sv, e x = some sv → a.eval x = sv.den β) (hr : ∀ i r, i ∈ touches e o → row i = some r → Held β W i r) : (lenRes P w0 hn e row o c).Ok P β W a o := by
  unfold lenRes
  split
  · rename_i t x hla
    have hc : c = { callee := .builtin .len, args := #[x], argTypes := #[t] } := lenArg_eq hla
    have mem : x ∈ o.op.operands := by simp [ho, Op.operands, Call.operands, hc]
    have key : ∀ A n c', P.underlying t = some c' → (∃ el, c' = .slice el) → ∀ cap, a.eval x = .slice A n cap → (execOp a.eval o).run P W = .ok (.value (.int .i64 (n : Int))) W := by
      intro A n c' hu hel cap hx
      obtain ⟨el, rfl⟩ := hel
      unfold execOp
      simp [ho, hc, resolve, invoke, builtin, Builtin.len_, hx, run_underlying hu, goInt]
    split
    · rename_i i hx
      have hx' := he x mem _ hx
      split
      · rename_i r hrow
        have hh := hr i r (by simp [touches, ho, hc, hx, atOf]) hrow
        split
        · rename_i size n xs hcs
          unfold Held at hh
          rw [hcs] at hh
          split
          · rename_i el hu
            intro _
            have := key (β.a i) (β.n i) _ hu ⟨el, rfl⟩ (β.c i) hx'
            rw [hh.1] at this
            exact this
          · trivial
        · trivial
      · trivial
    · rename_i i off n cap hx
      have hx' := he x mem _ hx
      split
      · rename_i el hu
        intro _
        exact key _ n _ hu ⟨el, rfl⟩ cap hx'
      · trivial
    · rename_i i off n cut hx
      have hx' := he x mem _ hx
      split
      · rename_i el hu
        intro _
        exact key _ n _ hu ⟨el, rfl⟩ _ hx'
      · trivial
    · exact call_ok hw he
  · exact call_ok hw he
theorem bnd_ok {d : Nat} {lo : Option Operand} {k : Int} (h : bnd e d lo = some k) (hm : ∀ x, lo = some x → x ∈ o.op.operands) (he : ∀ x ∈ o.op.operands, ∀ sv, e x = some sv → a.eval x = sv.den β) : (lo = none ∧ k = d) ∨ ∃ x kk, lo = some x ∧ a.eval x = .int kk k := by
  cases lo with
  | none =>
    simp only [bnd, Option.some.injEq] at h
    exact .inl ⟨rfl, h.symm⟩
  | some x =>
    unfold bnd at h
    split at h
    · cases ‹some x = none›
    · rename_i y hy
      cases hy
      split at h
      · rename_i kk k' hx
        cases h
        exact .inr ⟨x, kk, rfl, he x (hm x rfl) _ hx⟩
      · cases h
theorem cut_ok {t : TypeId} {x : Operand} {lo hi : Option Operand} {i : Nat} (ho : o.op = .slice t x lo hi none) (hx : a.eval x = β.sl i) (he : ∀ x ∈ o.op.operands, ∀ sv, e x = some sv → a.eval x = sv.den β) (hr : ∀ r, row i = some r → Held β W i r) : (cutRes P hn e row t i lo hi).Ok P β W a o := by
  unfold cutRes
  split
  · rename_i r hrow
    have hh := hr r hrow
    split
    · rename_i size n xs hcs
      unfold Held at hh
      rw [hcs] at hh
      split
      · rename_i el sz by_ hty
        split
        · rename_i hb
          have hb := Nat.eq_of_beq_eq_true hb
          obtain ⟨inf, z, hu, hi', _, hs, _, _, _⟩ := appTy_ok hty
          split
          · rename_i kl kh hkl hkh
            split
            · rename_i l u
              intro hob
              obtain ⟨h1, h2, h3, h4⟩ := hob _ rfl
              subst h1; subst h2
              obtain ⟨_, _, hv, hnc, _⟩ := hh.2.form
              injection hv with _ _ hcc
              have hl := bnd_ok (o := o) hkl (fun y hy => by subst hy; simp [ho, Op.operands]) he
              have hu' := bnd_ok (o := o) hkh (fun y hy => by subst hy; simp [ho, Op.operands]) he
              have e1 : (0 : Int) ≤ (u : Int) ∧ (u : Int) ≤ (β.c i : Nat) := by omega
              have e2 : (0 : Int) ≤ (l : Int) ∧ (l : Int) ≤ (u : Nat) := by omega
              have hbs : ∀ (H : Option Value) (Lo : Option Value), (H = none ∧ (u : Int) = n ∨ ∃ kk, H = some (.int kk (u : Int))) → (Lo = none ∧ (l : Int) = 0 ∨ ∃ kk, Lo = some (.int kk (l : Int))) → (Instr.sliceBounds true n (β.c i) Lo H none).run P W = .ok (l, u, β.c i) W := by
                intro H Lo hH hLo
                rcases hH with ⟨rfl, hu0⟩ | ⟨kk, rfl⟩ <;> rcases hLo with ⟨rfl, hl0⟩ | ⟨kk', rfl⟩
                · have : n = u := by omega
                  have : l = 0 := by omega
                  subst this
                  simp [Instr.sliceBounds, *]
                · have : n = u := by omega
                  subst this
                  simp [Instr.sliceBounds, Instr.sliceBound, asIntOf, h3]
                · have : l = 0 := by omega
                  subst this
                  have : u ≤ β.c i := by omega
                  simp [Instr.sliceBounds, Instr.sliceBound, asIntOf, this]
                · have : u ≤ β.c i := by omega
                  simp [Instr.sliceBounds, Instr.sliceBound, asIntOf, this, h3]
              have hH : (hi.map a.eval = none ∧ (u : Int) = n ∨ ∃ kk, hi.map a.eval = some (.int kk (u : Int))) := by
                rcases hu' with ⟨rfl, h⟩ | ⟨y, kk, rfl, h⟩
                · exact .inl ⟨rfl, h⟩
                · exact .inr ⟨kk, by rw [Option.map_some, h]⟩
              have hL : (lo.map a.eval = none ∧ (l : Int) = 0 ∨ ∃ kk, lo.map a.eval = some (.int kk (l : Int))) := by
                rcases hl with ⟨rfl, h⟩ | ⟨y, kk, rfl, h⟩
                · exact .inl ⟨rfl, h⟩
                · exact .inr ⟨kk, by rw [Option.map_some, h]⟩
              have hrun := hbs _ _ hH hL
              have hn' := hh.1
              subst hn'
              unfold execOp
              simp only [ho, hx, Env.sl, Instr.sliceAt, Sem.run_bind, run_underlying hu, Result.andThen_ok, Instr.slice, hrun, sizeOf, typeInfo, Option.map_none]
              simp [hi', SV.den, hs, hb]
            · trivial
          · trivial
        · trivial
      · trivial
    · trivial
  · trivial
theorem slice_ok {t : TypeId} {x : Operand} {lo hi mx : Option Operand} {w0 : World} (ho : o.op = .slice t x lo hi mx) (hw : Chg [] w0 W) (he : ∀ x ∈ o.op.operands, ∀ sv, e x = some sv → a.eval x = sv.den β) (hr : ∀ i r, i ∈ touches e o → row i = some r → Held β W i r) : (sliceRes P w0 hn e row o t x lo hi mx).Ok P β W a o := by
  unfold sliceRes
  split
  · rename_i i hx
    split
    · exact cut_ok ho (he x (by simp [ho, Op.operands]) _ hx) he (fun r hr' => hr i r (by simp [touches, ho, hx]) hr')
    · trivial
  · exact pure_ok hw he
theorem svArgs_ok {β : Env} {a : Act} {e : Operand → Option SV} : ∀ {xs : List Operand} {l : List SV}, svArgs e xs = some l → (∀ x ∈ xs, ∀ sv, e x = some sv → a.eval x = sv.den β) → xs.map a.eval = l.map (SV.den β)
  | [], l, h, _ => by
    have : l = [] := by simpa [svArgs] using h.symm
    subst this
    rfl
  | x :: r, l, h, he => by
    unfold svArgs at h
    split at h
    · rename_i sv l' hx hr
      cases h
      rw [List.map_cons, List.map_cons, he x (by simp) _ hx, svArgs_ok hr fun y hy => he y (by simp [hy])]
    · cases h
theorem callO_ok {c : Call} {r : Ret} (ho : o.op = .call c) (he : ∀ x ∈ o.op.operands, ∀ sv, e x = some sv → a.eval x = sv.den β) : (callORes P e c r).Ok P β W a o := by
  unfold callORes
  split
  · rename_i f hcal
    split
    · rename_i fn hf
      split
      · rename_i hb
        rw [Bool.or_eq_false_iff] at hb
        split
        · rename_i l hl
          have hm := svArgs_ok (β := β) (a := a) hl (fun x hx sv hsv => he x (by
            obtain ⟨callee, args, ats⟩ := c
            simp only at hcal hx
            subst hcal
            have hx : x ∈ args := Array.mem_toList_iff.1 hx
            simp [ho, Op.operands, Call.operands, hx]) sv hsv)
          have hm2 : c.args.map a.eval = (l.map (SV.den β)).toArray := by
            rw [← hm, ← Array.toList_map, Array.toArray_toList]
          show _ = _
          obtain ⟨callee, args, ats⟩ := c
          simp only at hcal hm2
          subst hcal
          unfold execOp
          simp only [ho, resolve, Act.eval, Deferred.ofValue, invoke, callFunc, Sem.run_bind, Sem.run_pure, Result.andThen_ok]
          have hb1 : ¬ fn.name = "runtime.NumGoroutine" := by simpa using hb.1
          have hb2 : ¬ fn.body = none := by intro h; rw [h] at hb; exact absurd hb.2 (by decide)
          simp [hf, hb1, hb2, hm2]
        · trivial
      · trivial
    · trivial
  · trivial
theorem callK_ok {c : Call} {r : Ret} (ho : o.op = .call c) (he : ∀ x ∈ o.op.operands, ∀ sv, e x = some sv → a.eval x = sv.den β) : (callKRes P e c r).Ok P β W a o := by
  have h := callO_ok (P := P) (W := W) (r := r) ho he
  unfold callKRes
  split
  · rename_i f args r' hr
    rw [hr] at h
    split
    · rename_i i
      split
      · exact h
      · trivial
    · trivial
  · trivial
theorem appArgs_eq {c : Call} {t : TypeId} {x y : Operand} (h : appArgs c = some (t, x, y)) : c = { callee := .builtin .append, args := #[x, y], argTypes := #[t, t] } := by
  obtain ⟨callee, args, ats⟩ := c
  unfold appArgs at h
  split at h
  · rename_i b hb
    split at h
    · split at h
      · rename_i x' y' t' u' hx ht
        split at h
        · rename_i hq
          have hq := Nat.eq_of_beq_eq_true hq
          simp only at hb hx ht
          injection h with h
          injection h with h1 h2
          injection h2 with h2 h3
          subst h1; subst h2; subst h3; subst hq
          have e1 : args = #[x', y'] := by rw [← Array.toList_inj, hx]
          have e2 : ats = #[t', t'] := by rw [← Array.toList_inj, ht]
          rw [hb, e1, e2]
        · cases h
      · cases h
    · cases h
  · cases h
theorem run_append_all (w : World) (t ty e : TypeId) (i : TypeInfo) (z : Value) (size bytes : Nat) (ht : P.underlying t = some (.slice e)) (hi : P.info? e = some i) (hz : i.zero = some z)
    (hsize : i.size = size) (hby : i.bytes = bytes) (hzs : z.cells.size = size) (hsz : 0 < size)
    (v : Value) (n : Nat) (xs : List Value) (hown : Own w e size v n xs)
    (sp : Option Addr) (m c : Nat) (news : List Value) (hl : news.length = m * size) (hnews : 0 < news.length → ∃ ad, sp = some ad ∧ ∀ (j : Nat) (u : Value), news[j]? = some u → w.cell? (ad.add j) = some u) (h1 : ∀ u ∈ news, u.oneCell' = true)
    (h63 : n + m ≤ maxLen) (hbytes : (n + m) * bytes ≤ 140737488355328) :
    ∃ A' c' w', (Builtin.append_ #[t, t] ty #[v, .slice sp m c]).run P w = .ok (.slice A' (n + m) c') w' ∧ Own w' e size (.slice A' (n + m) c') (n + m) (xs ++ news) ∧ Chg v.ownBlock.toList w w' ∧
      ((Value.slice A' (n + m) c').ownBlock = v.ownBlock ∨ ∃ k, (Value.slice A' (n + m) c').ownBlock = some k ∧ w.heap.size ≤ k) := by
  cases sp with
  | some ad =>
    refine run_append_any w t ty e i z size bytes ht hi hz hsize hby hzs hsz v n xs hown ad m c news hl (fun j u hu => ?_) h1 h63 hbytes
    have hpos : 0 < news.length := by have := (List.getElem?_eq_some_iff.1 hu).1; omega
    obtain ⟨ad', ha, hc⟩ := hnews hpos
    cases ha
    exact hc j u hu
  | none =>
    have h0 : news = [] := by
      rcases Nat.eq_zero_or_pos news.length with h | h
      · exact List.eq_nil_of_length_eq_zero h
      · obtain ⟨ad, ha, _⟩ := hnews h; cases ha
    subst h0
    have hm : m = 0 := by
      rcases Nat.eq_zero_or_pos m with h | h
      · exact h
      · have := Nat.mul_pos h hsz
        simp at hl; omega
    subst hm
    obtain ⟨A, cap, rfl, hn, _⟩ := hown.form
    rw [List.append_nil, Nat.add_zero]
    refine ⟨A, cap, w, ?_, hown, Chg.refl _ _, .inl rfl⟩
    cases A <;> simp [Builtin.append_, run_underlying ht, sizeOf, typeInfo, hi, Builtin.lenOf, hn, Builtin.firstCells, storeCells]
theorem srcOf_ok {w0 : World} {size : Nat} {y : SV} {m : Nat} {news : List Value} {ob : Prop} (hw : Chg [] w0 W) (h : srcOf w0 row size hn y = some (m, news, ob)) (hob : ob) (hl : news.length = m * size) (hr : ∀ j ∈ atOf (some y), ∀ r, row j = some r → Held β W j r) :
    ∃ sp c, y.den β = .slice sp m c ∧ (0 < news.length → ∃ ad, sp = some ad ∧ ∀ (j : Nat) (u : Value), news[j]? = some u → W.cell? (ad.add j) = some u) := by
  unfold srcOf at h
  split at h
  · rename_i j off m' c
    split at h
    · rename_i r hrow
      have hh := hr j (by simp [atOf]) r hrow
      split at h
      · rename_i cs hcs
        injection h with h
        injection h with h1 h2
        injection h2 with h2 h3
        subst h1; subst h2
        unfold Held at hh
        rw [hcs] at hh
        refine ⟨_, c, rfl, fun _ => ⟨_, rfl, fun k u hu => ?_⟩⟩
        rw [List.getElem?_take] at hu
        split at hu
        · rw [List.getElem?_drop] at hu
          rw [Addr.add_lit]
          exact Blk.cell_of hh hu
        · cases hu
      · cases h
    · cases h
  · rename_i j
    split at h
    · rename_i r hrow
      have hh := hr j (by simp [atOf]) r hrow
      split at h
      · rename_i sz n xs hcs
        injection h with h
        injection h with h1 h2
        injection h2 with h2 h3
        subst h1; subst h2
        unfold Held at hh
        rw [hcs] at hh
        refine ⟨β.a j, β.c j, by rw [← hh.1]; rfl, fun hpos => ?_⟩
        obtain ⟨g, o', ha, hc⟩ := own_at hh.2 (by rintro rfl; simp at hpos)
        refine ⟨_, ha, fun k u hu => ?_⟩
        rw [Addr.add_lit]
        exact hc k u hu
      · cases h
    · cases h
  · rename_i j off m' cut
    split at h
    · rename_i r hrow
      have hh := hr j (by simp [atOf]) r hrow
      split at h
      · rename_i sz n xs hcs
        injection h with h
        injection h with h1 h2
        injection h2 with h2 h3
        subst h1; subst h2; subst h3
        unfold Held at hh
        rw [hcs] at hh
        refine ⟨_, _, rfl, fun hpos => ?_⟩
        obtain ⟨g, o', ha, hc⟩ := own_at hh.2 (by rintro rfl; simp at hpos)
        obtain ⟨_, _, hv, hnc, _⟩ := hh.2.form
        injection hv with _ _ hcc
        have hxl := hh.2.len
        have hlt : off < xs.length := by
          rw [List.length_take, List.length_drop] at hpos; omega
        have hcut : cut < n := by
          rcases Nat.lt_or_ge cut n with h | h
          · exact h
          · have := Nat.mul_le_mul_right sz h
            rw [hxl, hob.1] at hlt; omega
        rw [if_neg (by omega), ha]
        refine ⟨_, rfl, fun k u hu => ?_⟩
        rw [List.getElem?_take] at hu
        split at hu
        · rw [List.getElem?_drop] at hu
          have := hc _ u hu
          simp only [Addr.add_lit]
          rw [Nat.add_assoc]
          exact this
        · cases hu
      · cases h
    · cases h
  · rename_i v
    split at h
    · rename_i m' news'
      injection h with h
      injection h with h1 h2
      injection h2 with h2 h3
      subst h1; subst h2; subst h3
      obtain ⟨A, c, hv, hc⟩ := hob W hw
      exact ⟨A, c, hv, hc⟩
    · cases h
  · cases h
theorem app_ok {c : Call} {w0 : World} {t : TypeId} {x y : Operand} {sx sy : SV} (ho : o.op = .call c) (hc : c = { callee := .builtin .append, args := #[x, y], argTypes := #[t, t] }) (hw : Chg [] w0 W) (hx : a.eval x = sx.den β) (hy : a.eval y = sy.den β)
    (hrx : ∀ i, sx = .own i → ∀ r, row i = some r → Held β W i r) (hry : ∀ j ∈ atOf (some sy), ∀ r, row j = some r → Held β W j r) : (appRes P w0 row hn t sx sy).Ok P β W a o := by
  have go : ∀ (kill : Option Nat) (el size n : Nat) (xs : List Value), Own W el size (sx.den β) n xs → (∀ k, (sx.den β).ownBlock = some k → ∃ i, kill = some i ∧ (β.a i).map (·.block) = some k) → (appGo P w0 row hn t kill el size n xs sy).Ok P β W a o := by
    intro kill el size n xs hown hk
    unfold appGo
    split
    · rename_i e' sz bytes hty
      split
      · rename_i hb
        rw [Bool.and_eq_true] at hb
        have hb1 := Nat.eq_of_beq_eq_true hb.1
        have hb2 := Nat.eq_of_beq_eq_true hb.2
        subst hb1; subst hb2
        obtain ⟨inf, z, hu, hi, hz, hs, hby, hzs, hpos⟩ := appTy_ok hty
        split
        · rename_i m news ob hsrc
          intro hob
          obtain ⟨h0, h1, h2, h3, h4⟩ := hob _ rfl
          obtain ⟨sp, cp, hsl, hcells⟩ := srcOf_ok hw hsrc h0 h1 hry
          obtain ⟨A', c', w', hrun, hown', hch, hbl⟩ := run_append_all (P := P) W t o.type e' inf z sz bytes hu hi hz hs hby hzs hpos (sx.den β) n xs hown sp m cp news h1 hcells h2 h3 h4
          have hblk : ∀ k, A'.map (·.block) = some k → (Value.slice A' (n + m) c').ownBlock = some k := by
            intro k hk
            cases A' with
            | none => cases hk
            | some ad => simpa [Value.ownBlock] using hk
          refine ⟨A', c', w', (sx.den β).ownBlock.toList, ?_, hown', hch, fun k hk' => hk k (by simpa using hk'), fun k hk' => ?_⟩
          · subst hc
            unfold execOp
            simp only [ho, resolve, invoke, builtin, Sem.run_bind, Sem.run_pure, Result.andThen_ok, List.map_toArray, List.map_cons, List.map_nil, hx, hy, hsl, hrun]
          · have hk2 := hblk k hk'
            rcases hbl with hbl | ⟨k', hk3, hlt⟩
            · left; rw [← hbl, hk2]; simp
            · right; rw [hk3] at hk2; cases hk2; exact hlt
        · trivial
      · trivial
    · trivial
  unfold appRes
  split
  · rename_i i
    split
    · rename_i r hrow
      have hh := hrx i rfl r hrow
      split
      · rename_i size n xs hcs
        unfold Held at hh
        rw [hcs] at hh
        refine go (some i) r.ty size n xs ?_ fun k hk => ⟨i, rfl, ?_⟩
        · show Own W r.ty size (.slice (β.a i) (β.n i) (β.c i)) n xs
          rw [hh.1]; exact hh.2
        · rw [← hk, ← own_block (n := β.n i)]; rfl
      · trivial
    · trivial
  · split
    · rename_i e' sz b hty
      exact go none e' sz 0 [] (Own.nil W _ _) (by simp [SV.den, Value.ownBlock])
    · trivial
  · trivial
theorem op_ok {w0 : World} {H : List (Nat × Hint)} (hw : Chg [] w0 W) (he : ∀ x ∈ o.op.operands, ∀ sv, e x = some sv → a.eval x = sv.den β) (hr : ∀ i r, i ∈ touches e o → row i = some r → Held β W i r) : (opRes P w0 H hn e row o).Ok P β W a o := by
  have move : ∀ x, (o.op = .move x ∨ o.op = .assign x) → (moveRes P w0 hn e o x).Ok P β W a o := by
    intro x ho
    unfold moveRes
    split
    · rename_i sv hsv
      have hx := he x (by rcases ho with ho | ho <;> simp [ho, Op.operands]) _ hsv
      split
      · intro _
        unfold execOp
        rcases ho with ho | ho <;> simp only [ho, hx] <;> rfl
      · split
        · intro _
          refine ⟨none, 0, W, [], ?_, Own.nil W _ _, Chg.refl _ _, by simp, by simp⟩
          unfold execOp
          rcases ho with ho | ho <;> simp only [ho, hx] <;> rfl
        · intro _
          unfold execOp
          rcases ho with ho | ho <;> simp only [ho, hx] <;> rfl
      · exact pure_ok hw he
    · trivial
  unfold opRes
  split
  · rename_i x ho; exact move x (.inl ho)
  · rename_i x ho; exact move x (.inr ho)
  · rename_i x ho
    split
    · rename_i i off hx
      intro _
      have hx := he x (by simp [ho, Op.operands]) _ hx
      unfold execOp
      simp only [ho, hx]
      rfl
    · exact pure_ok hw he
  · rename_i t ho
    split
    · rename_i inf hi
      split
      · rename_i z hz
        show _ = _
        unfold execOp
        simp [ho, Instr.alloc, zeroValue, typeInfo, hi, hz, newVar, newRow, Cells.den, madeV]
      · trivial
    · trivial
  · rename_i t x ho
    split
    · rename_i v hx
      have hx := he x (by simp [ho, Op.operands]) _ hx
      show _ = _
      unfold execOp
      simp [ho, hx, Instr.box, newVar, newRow, Cells.den, SV.den, madeV]
    · rename_i sv hnv hx
      split
      · rename_i hone
        have hx := he x (by simp [ho, Op.operands]) _ hx
        obtain ⟨hc, _⟩ := one_cells hone β
        show _ = _
        unfold execOp
        simp [ho, hx, Instr.box, newVar, newRow, Cells.den, hc, madeV]
      · trivial
    · trivial
  · rename_i t x ho
    split
    · rename_i i off hx
      split
      · rename_i r hrow
        split
        · exact loadAt_ok ho (he x (by simp [ho, Op.operands]) _ hx) (hr i r (by simp [touches, ho, hx, atOf]) hrow)
        · exact load_ok ho (he x (by simp [ho, Op.operands]) _ hx) (hr i r (by simp [touches, ho, hx, atOf]) hrow)
      · trivial
    · rename_i i off hx
      split
      · rename_i r hrow
        split
        · exact loadOwn_ok ho (he x (by simp [ho, Op.operands]) _ hx) (hr i r (by simp [touches, ho, hx, atOf]) hrow)
        · trivial
      · trivial
    · split
      · exact pure_ok hw he
      · trivial
  · rename_i t x y ho
    split
    · rename_i i off hx
      split
      · rename_i sv hy
        split
        · rename_i r hrow
          split
          · exact storeAt_ok ho (he x (by simp [ho, Op.operands]) _ hx) (he y (by simp [ho, Op.operands]) _ hy) (hr i r (by simp [touches, ho, hx, atOf]) hrow)
          · exact store_ok ho (he x (by simp [ho, Op.operands]) _ hx) (he y (by simp [ho, Op.operands]) _ hy) (hr i r (by simp [touches, ho, hx, atOf]) hrow)
        · trivial
      · trivial
    · rename_i i off hx
      split
      · rename_i sv hy
        split
        · rename_i r hrow
          exact storeOwn_ok ho (he x (by simp [ho, Op.operands]) _ hx) (he y (by simp [ho, Op.operands]) _ hy) (hr i r (by simp [touches, ho, hx, atOf]) hrow)
        · trivial
      · trivial
    · trivial
  · rename_i x k ho
    split
    · rename_i l i r hx
      have hx := he x (by simp [ho, Op.operands]) _ hx
      have key : ∀ v, (l ++ (β.sl i :: r))[k]? = some v → (execOp a.eval o).run P W = .ok (.value v) W := by
        intro v hv
        unfold execOp
        have : (l ++ (β.sl i :: r)).toArray[k]? = some v := by simpa using hv
        simp only [ho, hx, SV.den, Instr.extract, this, Sem.run_bind, Sem.run_pure, Result.andThen_ok]
      split
      · rename_i hk
        have hk := Nat.eq_of_beq_eq_true hk
        intro _
        refine key _ ?_
        rw [hk, List.getElem?_append_right (Nat.le_refl _), Nat.sub_self]
        rfl
      · split
        · rename_i v hv
          intro _
          refine key _ ?_
          rw [List.getElem?_append_left (List.getElem?_eq_some_iff.1 hv).1]
          exact hv
        · split
          · rename_i hlt
            have hlt : l.length < k := Nat.le_of_ble_eq_true hlt
            split
            · rename_i v hv
              intro _
              refine key _ ?_
              rw [List.getElem?_append_right (by omega), show k - l.length = (k - l.length - 1) + 1 by omega, List.getElem?_cons_succ]
              exact hv
            · trivial
          · trivial
    · exact pure_ok hw he
  · rename_i t len parts ho
    split
    · exact growOf_ok (build_ok ho fun i x hm sv hx => he x (by
        simp only [ho, Op.operands]
        simpa using ⟨i, by simpa using hm⟩) sv hx)
    · split
      · rename_i x hparts
        split
        · rename_i v hx
          have hx := he x (by
            have : (0, x) ∈ parts.toList := by rw [hparts]; simp
            simp only [ho, Op.operands]
            simpa using ⟨0, by simpa using this⟩) _ hx
          split
          · rename_i el hu
            split
            · rename_i inf hi
              split
              · rename_i z hz
                split
                · rename_i hh
                  simp only [Bool.and_eq_true] at hh
                  obtain ⟨h1, h2, h3, h4⟩ := hh
                  have h1 := Nat.eq_of_beq_eq_true h1
                  have h2 := Nat.eq_of_beq_eq_true h2
                  have h3 := Nat.le_of_ble_eq_true h3
                  have h4 : 0 < inf.size := Nat.le_of_ble_eq_true h4
                  show _ = _
                  have hp : parts = #[(0, x)] := by rw [← Array.toList_inj, hparts]
                  have hrun := run_buildSlice (P := P) W t el 1 #[(0, v)] v.cells inf z hu hi hz (by omega) (by omega) (fill_one inf.size v _ (by simp) (by simpa using h1))
                  unfold execOp
                  subst hp
                  simp only [ho, List.map_toArray, List.map_cons, List.map_nil, hx, SV.den, Sem.run_bind, hrun, Result.andThen_ok, Sem.run_pure, madeV, Cells.den]
                · trivial
              · trivial
            · trivial
          · trivial
        · trivial
      · exact build_ok ho fun i x hm sv hx => he x (by
          simp only [ho, Op.operands]
          simpa using ⟨i, by simpa using hm⟩) sv hx
  · rename_i s x f ho
    split
    · rename_i i off hx
      have hx := he x (by simp [ho, Op.operands]) _ hx
      split
      · rename_i fields hu
        split
        · rename_i fd hf
          split
          · rename_i k hk
            intro _
            cases hq : P.info? fd.type with
            | none => rw [hq] at hk; cases hk
            | some inf =>
              rw [hq] at hk
              have hk : inf.size = k + 1 := by simpa using hk
              unfold execOp
              simp [ho, hx, SV.den, Instr.fieldAt, run_underlying hu, hf, Instr.sureAddr, fieldPlace, sizeOf, typeInfo, hq, hk, Addr.add_lit]
          · trivial
        · trivial
      · trivial
    · rename_i i off hx
      have hx' := he x (by simp [ho, Op.operands]) _ hx
      split
      · rename_i r hrow
        have hh := hr i r (by simp [touches, ho, hx]) hrow
        split
        · rename_i size n xs hcs
          unfold Held at hh
          rw [hcs] at hh
          split
          · rename_i fields hu
            split
            · rename_i fd hf
              split
              · rename_i k hk
                intro hob
                obtain ⟨g, o', c', hv, _⟩ := hh.2.some_ (hob _ rfl)
                injection hv with ha _ _
                cases hq : P.info? fd.type with
                | none => rw [hq] at hk; cases hk
                | some inf =>
                  rw [hq] at hk
                  have hk : inf.size = k + 1 := by simpa using hk
                  unfold execOp
                  simp [ho, hx', SV.den, ha, Instr.fieldAt, run_underlying hu, hf, Instr.sureAddr, fieldPlace, sizeOf, typeInfo, hq, hk, Addr.add_lit, Nat.add_assoc]
              · trivial
            · trivial
          · trivial
        · trivial
      · trivial
    · exact pure_ok hw he
  · rename_i t x ix ho
    split
    · rename_i i off hx
      have hx := he x (by simp [ho, Op.operands]) _ hx
      split
      · rename_i len elem hu
        split
        · rename_i kk k hk
          have hk := he ix (by simp [ho, Op.operands]) _ hk
          split
          · rename_i inf hi
            have key : 0 ≤ k ∧ k < len → (execOp a.eval o).run P W = .ok (.value (.pointer (some ⟨β i, off + k.toNat * inf.size, none⟩))) W := by
              intro hb
              unfold execOp
              simp [ho, hx, hk, SV.den, Instr.indexAt, run_underlying hu, asIntOf, Instr.sureAddr, hb, sizeOf, typeInfo, hi, Addr.add_lit]
            split
            · intro hob
              exact key (hob _ rfl)
            · split
              · rename_i hd
                intro _
                exact key (of_decide_eq_true hd)
              · trivial
          · trivial
        · trivial
      · trivial
    · rename_i i hx
      have hx' := he x (by simp [ho, Op.operands]) _ hx
      split
      · rename_i r hrow
        have hh := hr i r (by simp [touches, ho, hx]) hrow
        split
        · rename_i size n xs hcs
          unfold Held at hh
          rw [hcs] at hh
          split
          · rename_i kk k hk
            have hk := he ix (by simp [ho, Op.operands]) _ hk
            split
            · rename_i elem hu
              split
              · rename_i inf hi
                split
                · intro hob
                  have hb := hob _ rfl
                  have hne : 0 < n := by omega
                  obtain ⟨g, o', c', hv, _⟩ := hh.2.some_ hne
                  injection hv with ha _ _
                  have hbn : 0 ≤ k ∧ k < (β.n i : Int) := by rw [hh.1]; exact hb
                  unfold execOp
                  simp [ho, hx', hk, SV.den, Env.sl, Instr.indexAt, run_underlying hu, asIntOf, ha, hbn, sizeOf, typeInfo, hi]
                · trivial
              · trivial
            · trivial
          · trivial
        · trivial
      · trivial
    · exact pure_ok hw he
  · rename_i t x lo hi mx ho
    exact slice_ok ho hw he hr
  · rename_i c ho
    split
    · exact callO_ok ho he
    · exact callK_ok ho he
    · split
      · rename_i t x y hap
        have hc := appArgs_eq hap
        split
        · rename_i sx sy hx hy
          exact app_ok ho hc hw (he x (by simp [ho, Op.operands, Call.operands, hc]) _ hx) (he y (by simp [ho, Op.operands, Call.operands, hc]) _ hy)
            (fun i hi r hr' => hr i r (by subst hi; simp [touches, ho, hc, hx, atOf]) hr') (fun j hj r hr' => hr j r (by simp [touches, ho, hc, hy, hj]) hr')
        · trivial
      · exact len_ok ho hw he (fun i r hi hr' => hr i r hi hr')
  · exact pure_ok hw he
end
end Sx
end Go.Proofs.YtgpiapmbbnngpaaGreatDoor

/- A walk by reckoning, part 3: the state that holds, one operation behind another, plain regions. Proved over any program. No condition of its own. -/
namespace Go.Proofs.YtgpiapmbbnngpaaGreatDoor
open Go Go.RowKit Go.Lib Go.Sort

namespace Sx
section
variable {P : Program} {o : Oper} {e : Operand → Option SV} {row : Nat → Option Row} {hn : Option Hint} {Q : Nat → Prop}

def Res.On (Q : Nat → Prop) : Res → Prop
  | .val sv _ => sv.on Q
  | .alloc _ cs _ => cs.on Q
  | .store i r _ => Q i ∧ r.cs.on Q
  | .grow kill _ _ _ _ _ => ∀ i, kill = some i → Q i
  | .storeO i r _ => Q i ∧ r.cs.on Q
  | .callK _ i _ => Q i
  | _ => True
theorem growOf_on {P : Program} {r0 : Res} {Q : Nat → Prop} : (growOf P r0).On Q := by
  rcases growOf_ne (P := P) (r0 := r0) rfl with h | ⟨_, _, _, _, h⟩
  · rw [h]; exact True.intro
  · rw [h]; intro i hi; cases hi
theorem build_on {P : Program} {e : Operand → Option SV} {t : TypeId} {len : Nat} {parts : List (Nat × Operand)} {Q : Nat → Prop} : (buildRes P e t len parts).On Q := by
  rcases build_ne (P := P) (e := e) (t := t) (len := len) (parts := parts) rfl with h | ⟨_, _, _, h⟩ <;> rw [h] <;> exact True.intro
theorem pure_on {w0 : World} : (pureRes P w0 hn e o).On Q := by
  unfold pureRes
  split
  · exact True.intro
  · split
    · split <;> exact True.intro
    · split <;> exact True.intro
    · split <;> exact True.intro
    · split <;> exact True.intro
theorem call_on {w0 : World} : (callRes P w0 hn e o).On Q := by
  unfold callRes
  split
  · split
    · exact True.intro
    · split <;> exact True.intro
  · exact pure_on
theorem loadAt_on {t : TypeId} {r : Row} {off : Nat} {v : Value} : (loadAtRes P t r off v).On Q := by
  unfold loadAtRes
  split
  · split
    · split <;> trivial
    · trivial
  · trivial
theorem storeAt_on {t : TypeId} {r : Row} {i off : Nat} {sv : SV} {cs' : List Value} (hi : Q i) : (storeAtRes P t i r off sv cs').On Q := by
  unfold storeAtRes
  split
  · trivial
  · split
    · split
      · split
        · exact ⟨hi, trivial⟩
        · trivial
      · trivial
    · trivial
theorem load_on {t : TypeId} {r : Row} {off : Nat} (h : r.cs.on Q) : (loadRes P t r off).On Q := by
  unfold loadRes
  split
  · exact True.intro
  · split
    · split
      · split
        · split
          · exact True.intro
          · split <;> exact True.intro
        · exact True.intro
      · split
        · split <;> exact True.intro
        · rename_i cs hcs
          rw [hcs] at h
          split
          · rename_i v hv
            exact h v (List.mem_of_getElem? hv)
          · exact True.intro
        · exact True.intro
    · exact True.intro
theorem loadOwn_on {t : TypeId} {r : Row} {off : Nat} {v : Value} : (loadOwnRes P t r off v).On Q := by
  unfold loadOwnRes
  split
  · split
    · split
      · split
        · split <;> exact True.intro
        · exact True.intro
      · exact True.intro
    · exact True.intro
  · exact True.intro
theorem store_on {t : TypeId} {r : Row} {i off : Nat} {sv : SV} (hi : Q i) (hs : sv.on Q) (h : r.cs.on Q) : (storeRes P t i r off sv).On Q := by
  unfold storeRes
  split
  · exact True.intro
  split
  · exact True.intro
  · split
    · split
      · split
        · exact ⟨hi, True.intro⟩
        · split
          · refine ⟨hi, ?_⟩
            cases hc : r.cs with
            | vals cs => exact True.intro
            | own a b c => exact True.intro
            | dead => exact True.intro
            | svs cs =>
              rw [hc] at h
              intro s hs
              simp only [List.mem_append, List.mem_map] at hs
              rcases hs with hs | ⟨v, _, rfl⟩ | hs
              · exact h s (List.mem_of_mem_take hs)
              · exact True.intro
              · exact h s (List.mem_of_mem_drop hs)
          · exact True.intro
      · exact True.intro
    · split
      · split
        · refine ⟨hi, ?_⟩
          cases hc : r.cs with
          | own a b c => exact True.intro
          | dead => exact True.intro
          | vals cs =>
            intro s hm
            rcases List.mem_or_eq_of_mem_set hm with hm | rfl
            · obtain ⟨v, _, rfl⟩ := List.mem_map.1 hm
              exact True.intro
            · exact hs
          | svs cs =>
            rw [hc] at h
            intro s hm
            rcases List.mem_or_eq_of_mem_set hm with hm | rfl
            · exact h s hm
            · exact hs
        · exact True.intro
      · exact True.intro
theorem svArgs_mem {e : Operand → Option SV} : ∀ {xs : List Operand} {l : List SV}, svArgs e xs = some l → ∀ sv ∈ l, ∃ x ∈ xs, e x = some sv
  | [], l, h, sv, hm => by
    have : l = [] := by simpa [svArgs] using h.symm
    subst this
    cases hm
  | x :: r, l, h, sv, hm => by
    unfold svArgs at h
    split at h
    · rename_i sv' l' hx hr
      cases h
      rcases List.mem_cons.1 hm with rfl | hm
      · exact ⟨x, by simp, hx⟩
      · obtain ⟨y, hy, hey⟩ := svArgs_mem hr sv hm
        exact ⟨y, by simp [hy], hey⟩
    · cases h
theorem callORes_mem {c : Call} {r r' : Ret} {f : FuncId} {args : List SV} (h : callORes P e c r = .callO f args r') : ∀ sv ∈ args, ∃ x ∈ c.args.toList, e x = some sv := by
  unfold callORes at h
  split at h
  · split at h
    · split at h
      · split at h
        · rename_i lv hlv
          injection h with h1 h2 h3
          intro sv hsv
          rw [← h2] at hsv
          exact svArgs_mem hlv sv hsv
        · cases h
      · cases h
    · cases h
  · cases h
theorem op_on {w0 : World} {H : List (Nat × Hint)} (he : ∀ x ∈ o.op.operands, ∀ sv, e x = some sv → sv.on Q) (hr : ∀ i r, i ∈ touches e o → row i = some r → r.cs.on Q) : (opRes P w0 H hn e row o).On Q := by
  have move : ∀ x, (o.op = .move x ∨ o.op = .assign x) → (moveRes P w0 hn e o x).On Q := by
    intro x ho
    unfold moveRes
    split
    · rename_i sv hsv
      split
      · exact he x (by rcases ho with ho | ho <;> simp [ho, Op.operands]) _ hsv
      · split
        · intro i hi; cases hi
        · exact he x (by rcases ho with ho | ho <;> simp [ho, Op.operands]) _ hsv
      · exact pure_on
    · exact True.intro
  unfold opRes
  split
  · rename_i x ho; exact move x (.inl ho)
  · rename_i x ho; exact move x (.inr ho)
  · rename_i x ho
    split
    · rename_i i off hx
      exact he x (by simp [ho, Op.operands]) _ hx
    · exact pure_on
  · split
    · split <;> exact True.intro
    · exact True.intro
  · rename_i t x ho
    split
    · exact True.intro
    · rename_i sv hnv hx
      split
      · intro s hs
        rw [List.mem_singleton] at hs
        subst hs
        exact he x (by simp [ho, Op.operands]) _ hx
      · exact True.intro
    · exact True.intro
  · rename_i t x ho
    split
    · rename_i i off hx
      split
      · rename_i r hrow
        split
        · exact loadAt_on
        · exact load_on (hr i r (by simp [touches, ho, hx, atOf]) hrow)
      · exact True.intro
    · split
      · split
        · exact loadOwn_on
        · exact True.intro
      · exact True.intro
    · split
      · exact pure_on
      · exact True.intro
  · rename_i t x y ho
    split
    · rename_i i off hx
      split
      · rename_i sv hy
        split
        · rename_i r hrow
          split
          · exact storeAt_on (he x (by simp [ho, Op.operands]) _ hx)
          · exact store_on (he x (by simp [ho, Op.operands]) _ hx) (he y (by simp [ho, Op.operands]) _ hy) (hr i r (by simp [touches, ho, hx, atOf]) hrow)
        · exact True.intro
      · exact True.intro
    · rename_i i off hx
      split
      · split
        · unfold storeOwnRes
          repeat' split
          all_goals first | exact True.intro | exact ⟨he x (by simp [ho, Op.operands]) _ hx, True.intro⟩
        · exact True.intro
      · exact True.intro
    · exact True.intro
  · rename_i x k ho
    split
    · rename_i l i r hx
      split
      · exact he x (by simp [ho, Op.operands]) _ hx
      · split
        · exact True.intro
        · split
          · split <;> exact True.intro
          · exact True.intro
    · exact pure_on
  · split
    · exact growOf_on
    · split
      · split
        · split
          · split
            · split
              · split <;> exact True.intro
              · exact True.intro
            · exact True.intro
          · exact True.intro
        · exact True.intro
      · exact build_on
  · rename_i s x f ho
    split
    · rename_i i off hx
      split
      · split
        · split
          · exact he x (by simp [ho, Op.operands]) _ hx
          · exact True.intro
        · exact True.intro
      · exact True.intro
    · rename_i i off hx
      repeat' split
      all_goals first | exact True.intro | exact he x (by simp [ho, Op.operands]) _ hx
    · exact pure_on
  · rename_i t x ix ho
    split
    · rename_i i off hx
      split
      · split
        · split
          · split
            · exact he x (by simp [ho, Op.operands]) _ hx
            · split
              · exact he x (by simp [ho, Op.operands]) _ hx
              · exact True.intro
          · exact True.intro
        · exact True.intro
      · exact True.intro
    · rename_i i hx
      split
      · split
        · split
          · split
            · split
              · split
                · exact he x (by simp [ho, Op.operands]) _ hx
                · exact True.intro
              · exact True.intro
            · exact True.intro
          · exact True.intro
        · exact True.intro
      · exact True.intro
    · exact pure_on
  · rename_i t x lo hi mx ho
    unfold sliceRes
    split
    · rename_i i hx
      split
      · unfold cutRes
        repeat' split
        all_goals first | exact True.intro | exact he x (by simp [ho, Op.operands]) _ hx
      · exact True.intro
    · exact pure_on
  · rename_i c ho
    split
    · unfold callORes
      repeat' split
      all_goals exact True.intro
    · rename_i r
      unfold callKRes
      repeat' split
      all_goals first | exact True.intro | skip
      rename_i rr args j hr b hsl
      have ht := callORes_mem hr _ (List.mem_singleton.2 rfl)
      obtain ⟨x, hx, hex⟩ := ht
      exact he x (by
        obtain ⟨callee, args, ats⟩ := c
        have hx' : x ∈ args := by simpa using hx
        simp only [ho, Op.operands, Call.operands]
        cases callee <;> simp [hx']) _ hex
    · split
      · rename_i t x y hap
        have hc := appArgs_eq hap
        split
        · rename_i sx sy hx hy
          have go : ∀ {kill : Option Nat} {el size n : Nat} {xs : List Value}, (∀ i, kill = some i → Q i) → (appGo P w0 row hn t kill el size n xs sy).On Q := by
            intro kill el size n xs hk
            unfold appGo
            repeat' split
            all_goals first | exact True.intro | exact hk
          unfold appRes
          split
          · split
            · split
              · refine go fun i hi => ?_
                cases hi
                exact he x (by simp [ho, Op.operands, Call.operands, hc]) _ hx
              · exact True.intro
            · exact True.intro
          · split
            · exact go fun i hi => by cases hi
            · exact True.intro
          · exact True.intro
        · exact True.intro
      · unfold lenRes
        repeat' split
        all_goals first | exact True.intro | exact call_on
  · exact pure_on
/-- A store goes into the block that it touches. -/
theorem store_touch {w0 : World} {H : List (Nat × Hint)} {i : Nat} {r' : Row} {ob : Option Prop} (h : opRes P w0 H hn e row o = .store i r' ob) : i ∈ touches e o ∧ r'.fixed = true ∧ ∃ r, row i = some r ∧ r.fixed = true := by
  have hp : ∀ (hn : Option Hint), pureRes P w0 hn e o ≠ .store i r' ob := by
    intro hn h
    unfold pureRes at h
    repeat' (split at h)
    all_goals (cases h)
  have hc : callRes P w0 hn e o ≠ .store i r' ob := by
    intro h
    unfold callRes at h
    repeat' (split at h)
    all_goals first | (cases h; done) | exact hp _ h
  have hmv : ∀ x, moveRes P w0 hn e o x ≠ .store i r' ob := by
    intro x h
    unfold moveRes at h
    repeat' (split at h)
    all_goals first | (cases h; done) | exact hp _ h
  have hco : ∀ c r, callORes P e c r ≠ .store i r' ob := by
    intro c r h
    unfold callORes at h
    repeat' (split at h)
    all_goals (cases h)
  have hap : ∀ t x y, appRes P w0 row hn t x y ≠ .store i r' ob := by
    intro t x y h
    unfold appRes appGo at h
    repeat' (split at h)
    all_goals (cases h)
  have hck : ∀ c r, callKRes P e c r ≠ .store i r' ob := by
    intro c r h
    unfold callKRes at h
    repeat' (split at h)
    all_goals (cases h)
  have hso : ∀ t' j r off sv, storeOwnRes P t' j r off sv ≠ .store i r' ob := by
    intro t' j r off sv h
    unfold storeOwnRes at h
    repeat' (split at h)
    all_goals (cases h)
  have hsl : ∀ t' x lo hi mx, sliceRes P w0 hn e row o t' x lo hi mx ≠ .store i r' ob := by
    intro t' x lo hi mx h
    unfold sliceRes cutRes at h
    repeat' (split at h)
    all_goals first | (cases h; done) | exact hp _ h
  have hln : ∀ c, lenRes P w0 hn e row o c ≠ .store i r' ob := by
    intro c h
    unfold lenRes at h
    repeat' (split at h)
    all_goals first | (cases h; done) | exact hc h
  have hl : ∀ t r off, loadRes P t r off ≠ .store i r' ob := by
    intro t r off h
    unfold loadRes at h
    repeat' (split at h)
    all_goals (cases h)
  have hl2 : ∀ t r off v, loadAtRes P t r off v ≠ .store i r' ob := by
    intro t r off v h
    unfold loadAtRes at h
    repeat' (split at h)
    all_goals (cases h)
  have hl3 : ∀ t r off v, loadOwnRes P t r off v ≠ .store i r' ob := by
    intro t r off v h
    unfold loadOwnRes at h
    repeat' (split at h)
    all_goals (cases h)
  unfold opRes at h
  split at h
  · exact absurd h (hmv _)
  · exact absurd h (hmv _)
  · repeat' (split at h)
    all_goals first | (cases h; done) | exact absurd h (hp _) | (rcases growOf_ne h with h | ⟨_, _, _, _, h⟩ <;> (cases h; done)) | (rcases build_ne h with h | ⟨_, _, _, h⟩ <;> (cases h; done))
  · repeat' (split at h)
    all_goals (cases h)
  · repeat' (split at h)
    all_goals (cases h)
  · repeat' (split at h)
    all_goals first | (cases h; done) | exact absurd h (hl _ _ _) | exact absurd h (hl2 _ _ _ _) | exact absurd h (hl3 _ _ _ _) | exact absurd h (hp _)
  · rename_i t x y ho
    split at h
    · rename_i j off hx
      split at h
      · split at h
        · rename_i r hrow
          have : j = i ∧ r'.fixed = true ∧ r.fixed = true := by
            split at h
            · unfold storeAtRes at h
              split at h
              · cases h
              · split at h
                · split at h
                  · split at h
                    · rename_i hcs
                      injection h with h1 h2
                      subst h2
                      exact ⟨h1, rfl, by unfold Row.fixed; rw [hcs]⟩
                    · cases h
                  · cases h
                · cases h
            · unfold storeRes at h
              split at h
              · cases h
              · rename_i hf
                unfold Row.fixed at hf
                cases hcr : r.cs with
                | own a b c => rw [hcr] at hf; cases hf
                | dead => rw [hcr] at hf; cases hf
                | vals cs =>
                  simp only [hcr] at h
                  repeat' (split at h)
                  all_goals first
                    | (cases h; done)
                    | (injection h with h1 h2; subst h2; exact ⟨h1, rfl, by unfold Row.fixed; rw [hcr]⟩)
                | svs cs =>
                  simp only [hcr] at h
                  repeat' (split at h)
                  all_goals first
                    | (cases h; done)
                    | (injection h with h1 h2; subst h2; exact ⟨h1, rfl, by unfold Row.fixed; rw [hcr]⟩)
          obtain ⟨rfl, h1, h2⟩ := this
          exact ⟨by simp [touches, ho, hx, atOf], h1, r, hrow, h2⟩
        · cases h
      · cases h
    · split at h
      · split at h
        · exact absurd h (hso _ _ _ _ _)
        · cases h
      · cases h
    · cases h
  · repeat' (split at h)
    all_goals first | (cases h; done) | exact absurd h (hp _) | (rcases growOf_ne h with h | ⟨_, _, _, _, h⟩ <;> (cases h; done)) | (rcases build_ne h with h | ⟨_, _, _, h⟩ <;> (cases h; done))
  · repeat' (split at h)
    all_goals first | (cases h; done) | exact absurd h (hp _) | (rcases growOf_ne h with h | ⟨_, _, _, _, h⟩ <;> (cases h; done)) | (rcases build_ne h with h | ⟨_, _, _, h⟩ <;> (cases h; done))
  · repeat' (split at h)
    all_goals first | (cases h; done) | exact absurd h (hp _)
  · repeat' (split at h)
    all_goals first | (cases h; done) | exact absurd h (hp _) | (rcases growOf_ne h with h | ⟨_, _, _, _, h⟩ <;> (cases h; done)) | (rcases build_ne h with h | ⟨_, _, _, h⟩ <;> (cases h; done))
  · exact absurd h (hsl _ _ _ _ _)
  · repeat' (split at h)
    all_goals first | (cases h; done) | exact absurd h (hco _ _) | exact absurd h (hck _ _) | exact absurd h (hap _ _ _) | exact absurd h (hln _)
  · exact absurd h (hp _)
theorem alloc_fixed {w0 : World} {H : List (Nat × Hint)} {t : TypeId} {cs : Cells} {ln : Option Nat} (h : opRes P w0 H hn e row o = .alloc t cs ln) : (⟨t, cs⟩ : Row).fixed = true := by
  have hp : ∀ (hn : Option Hint), pureRes P w0 hn e o ≠ .alloc t cs ln := by
    intro hn h
    unfold pureRes at h
    repeat' (split at h)
    all_goals (cases h)
  have hc : callRes P w0 hn e o ≠ .alloc t cs ln := by
    intro h
    unfold callRes at h
    repeat' (split at h)
    all_goals first | (cases h; done) | exact hp _ h
  have hmv : ∀ x, moveRes P w0 hn e o x ≠ .alloc t cs ln := by
    intro x h
    unfold moveRes at h
    repeat' (split at h)
    all_goals first | (cases h; done) | exact hp _ h
  have hco : ∀ c r, callORes P e c r ≠ .alloc t cs ln := by
    intro c r h
    unfold callORes at h
    repeat' (split at h)
    all_goals (cases h)
  have hap : ∀ t' x y, appRes P w0 row hn t' x y ≠ .alloc t cs ln := by
    intro t x y h
    unfold appRes appGo at h
    repeat' (split at h)
    all_goals (cases h)
  have hck : ∀ c r, callKRes P e c r ≠ .alloc t cs ln := by
    intro c r h
    unfold callKRes at h
    repeat' (split at h)
    all_goals (cases h)
  have hso : ∀ t' j r off sv, storeOwnRes P t' j r off sv ≠ .alloc t cs ln := by
    intro t' j r off sv h
    unfold storeOwnRes at h
    repeat' (split at h)
    all_goals (cases h)
  have hsl : ∀ t' x lo hi mx, sliceRes P w0 hn e row o t' x lo hi mx ≠ .alloc t cs ln := by
    intro t' x lo hi mx h
    unfold sliceRes cutRes at h
    repeat' (split at h)
    all_goals first | (cases h; done) | exact hp _ h
  have hln : ∀ c, lenRes P w0 hn e row o c ≠ .alloc t cs ln := by
    intro c h
    unfold lenRes at h
    repeat' (split at h)
    all_goals first | (cases h; done) | exact hc h
  have hl : ∀ t' r off, loadRes P t' r off ≠ .alloc t cs ln := by
    intro t r off h
    unfold loadRes at h
    repeat' (split at h)
    all_goals (cases h)
  have hl2 : ∀ t' r off v, loadAtRes P t' r off v ≠ .alloc t cs ln := by
    intro t r off v h
    unfold loadAtRes at h
    repeat' (split at h)
    all_goals (cases h)
  have hl3 : ∀ t' r off v, loadOwnRes P t' r off v ≠ .alloc t cs ln := by
    intro t r off v h
    unfold loadOwnRes at h
    repeat' (split at h)
    all_goals (cases h)
  have hs1 : ∀ t' i r off sv, storeRes P t' i r off sv ≠ .alloc t cs ln := by
    intro t i r off sv h
    unfold storeRes at h
    repeat' (split at h)
    all_goals (cases h)
  have hs2 : ∀ t' i r off sv c, storeAtRes P t' i r off sv c ≠ .alloc t cs ln := by
    intro t i r off sv c h
    unfold storeAtRes at h
    repeat' (split at h)
    all_goals (cases h)
  unfold opRes at h
  split at h
  all_goals repeat' (split at h)
  all_goals first
    | (cases h; done)
    | (injection h with h1 h2; subst h2; rfl)
    | exact absurd h (hp _)
    | exact absurd h (hmv _)
    | exact absurd h (hsl _ _ _ _ _)
    | exact absurd h (hso _ _ _ _ _)
    | exact absurd h (hco _ _)
    | exact absurd h (hck _ _)
    | exact absurd h (hap _ _ _)
    | exact absurd h (hln _)
    | exact absurd h (hl _ _ _)
    | exact absurd h (hl2 _ _ _ _)
    | exact absurd h (hl3 _ _ _ _)
    | exact absurd h (hs1 _ _ _ _ _)
    | exact absurd h (hs2 _ _ _ _ _ _)
    | (rcases growOf_ne h with h | ⟨_, _, _, _, h⟩ <;> (cases h; done))
    | (rcases build_ne h with h | ⟨_, _, _, h⟩ <;> first | (cases h; done) | (injection h with h1 h2; subst h2; rfl))
/-- What a slice grows out of. -/
theorem grow_touch {w0 : World} {H : List (Nat × Hint)} {i t size n : Nat} {xs : List Value} {ob : Option Prop} (h : opRes P w0 H hn e row o = .grow (some i) t size n xs ob) : i ∈ touches e o ∧ ∃ r, row i = some r ∧ ∃ s m ys, r.cs = .own s m ys := by
  have hp : ∀ (hn : Option Hint), pureRes P w0 hn e o ≠ .grow (some i) t size n xs ob := by
    intro hn h
    unfold pureRes at h
    repeat' (split at h)
    all_goals (cases h)
  have hc : callRes P w0 hn e o ≠ .grow (some i) t size n xs ob := by
    intro h
    unfold callRes at h
    repeat' (split at h)
    all_goals first | (cases h; done) | exact hp _ h
  have hmv : ∀ x, moveRes P w0 hn e o x ≠ .grow (some i) t size n xs ob := by
    intro x h
    unfold moveRes at h
    repeat' (split at h)
    all_goals first | (cases h; done) | exact hp _ h
  have hco : ∀ c r, callORes P e c r ≠ .grow (some i) t size n xs ob := by
    intro c r h
    unfold callORes at h
    repeat' (split at h)
    all_goals (cases h)
  have hck : ∀ c r, callKRes P e c r ≠ .grow (some i) t size n xs ob := by
    intro c r h
    unfold callKRes at h
    repeat' (split at h)
    all_goals (cases h)
  have hso : ∀ t' j r off sv, storeOwnRes P t' j r off sv ≠ .grow (some i) t size n xs ob := by
    intro t' j r off sv h
    unfold storeOwnRes at h
    repeat' (split at h)
    all_goals (cases h)
  have hsl : ∀ t' x lo hi mx, sliceRes P w0 hn e row o t' x lo hi mx ≠ .grow (some i) t size n xs ob := by
    intro t' x lo hi mx h
    unfold sliceRes cutRes at h
    repeat' (split at h)
    all_goals first | (cases h; done) | exact hp _ h
  have hln : ∀ c, lenRes P w0 hn e row o c ≠ .grow (some i) t size n xs ob := by
    intro c h
    unfold lenRes at h
    repeat' (split at h)
    all_goals first | (cases h; done) | exact hc h
  have hl : ∀ t' r off, loadRes P t' r off ≠ .grow (some i) t size n xs ob := by
    intro t r off h
    unfold loadRes at h
    repeat' (split at h)
    all_goals (cases h)
  have hl2 : ∀ t' r off v, loadAtRes P t' r off v ≠ .grow (some i) t size n xs ob := by
    intro t r off v h
    unfold loadAtRes at h
    repeat' (split at h)
    all_goals (cases h)
  have hl3 : ∀ t' r off v, loadOwnRes P t' r off v ≠ .grow (some i) t size n xs ob := by
    intro t r off v h
    unfold loadOwnRes at h
    repeat' (split at h)
    all_goals (cases h)
  have hs1 : ∀ t' j r off sv, storeRes P t' j r off sv ≠ .grow (some i) t size n xs ob := by
    intro t j r off sv h
    unfold storeRes at h
    repeat' (split at h)
    all_goals (cases h)
  have hs2 : ∀ t' j r off sv c, storeAtRes P t' j r off sv c ≠ .grow (some i) t size n xs ob := by
    intro t j r off sv c h
    unfold storeAtRes at h
    repeat' (split at h)
    all_goals (cases h)
  have hgo : ∀ {t' : TypeId} {kill : Option Nat} {el sz m : Nat} {ys : List Value} {y : SV}, appGo P w0 row hn t' kill el sz m ys y = .grow (some i) t size n xs ob → kill = some i := by
    intro t' kill el sz m ys y h
    unfold appGo at h
    repeat' (split at h)
    all_goals first | (cases h; done) | (injection h)
  unfold opRes at h
  split at h
  all_goals try (repeat' (split at h)); done
  all_goals first
    | (rename_i c ho
       split at h
       · exact absurd h (hco _ _)
       · exact absurd h (hck _ _)
       · split at h
         · rename_i t' x y hap
           have hc' := appArgs_eq hap
           split at h
           · rename_i sx sy hx hy
             unfold appRes at h
             split at h
             · rename_i j
               split at h
               · rename_i r hrow
                 split at h
                 · rename_i s m ys hcs
                   have hj := hgo h
                   injection hj with hj
                   subst hj
                   exact ⟨by simp [touches, ho, hc', hx, atOf], r, hrow, s, m, ys, hcs⟩
                 · cases h
               · cases h
             · split at h
               · have := hgo h; cases this
               · cases h
             · cases h
           · cases h
         · exact absurd h (hln _))
    | (exfalso
       repeat' (split at h)
       all_goals first
         | (cases h; done)
         | exact absurd h (hp _)
         | exact absurd h (hsl _ _ _ _ _)
         | exact absurd h (hso _ _ _ _ _)
         | exact absurd h (hmv _)
         | (rcases growOf_ne h with h | ⟨_, _, _, _, h⟩ <;> (cases h; done)) | (rcases build_ne h with h | ⟨_, _, _, h⟩ <;> (cases h; done))
         | exact absurd h (hl _ _ _)
         | exact absurd h (hl2 _ _ _ _)
         | exact absurd h (hl3 _ _ _ _)
         | exact absurd h (hs1 _ _ _ _ _)
         | exact absurd h (hs2 _ _ _ _ _ _))
theorem storeO_touch {w0 : World} {H : List (Nat × Hint)} {i : Nat} {r' : Row} {ob : Option Prop} (h : opRes P w0 H hn e row o = .storeO i r' ob) : i ∈ touches e o ∧ ∃ r, row i = some r ∧ ∀ β : Env, rowBlk β i r' = rowBlk β i r := by
  have hp : ∀ (hn : Option Hint), pureRes P w0 hn e o ≠ .storeO i r' ob := by
    intro hn h
    unfold pureRes at h
    repeat' (split at h)
    all_goals (cases h)
  have hc : callRes P w0 hn e o ≠ .storeO i r' ob := by
    intro h
    unfold callRes at h
    repeat' (split at h)
    all_goals first | (cases h; done) | exact hp _ h
  have hmv : ∀ x, moveRes P w0 hn e o x ≠ .storeO i r' ob := by
    intro x h
    unfold moveRes at h
    repeat' (split at h)
    all_goals first | (cases h; done) | exact hp _ h
  have hco : ∀ c r, callORes P e c r ≠ .storeO i r' ob := by
    intro c r h
    unfold callORes at h
    repeat' (split at h)
    all_goals (cases h)
  have hap : ∀ t' x y, appRes P w0 row hn t' x y ≠ .storeO i r' ob := by
    intro t x y h
    unfold appRes appGo at h
    repeat' (split at h)
    all_goals (cases h)
  have hck : ∀ c r, callKRes P e c r ≠ .storeO i r' ob := by
    intro c r h
    unfold callKRes at h
    repeat' (split at h)
    all_goals (cases h)
  have hsl : ∀ t' x lo hi mx, sliceRes P w0 hn e row o t' x lo hi mx ≠ .storeO i r' ob := by
    intro t' x lo hi mx h
    unfold sliceRes cutRes at h
    repeat' (split at h)
    all_goals first | (cases h; done) | exact hp _ h
  have hln : ∀ c, lenRes P w0 hn e row o c ≠ .storeO i r' ob := by
    intro c h
    unfold lenRes at h
    repeat' (split at h)
    all_goals first | (cases h; done) | exact hc h
  have hl : ∀ t' r off, loadRes P t' r off ≠ .storeO i r' ob := by
    intro t r off h
    unfold loadRes at h
    repeat' (split at h)
    all_goals (cases h)
  have hl2 : ∀ t' r off v, loadAtRes P t' r off v ≠ .storeO i r' ob := by
    intro t r off v h
    unfold loadAtRes at h
    repeat' (split at h)
    all_goals (cases h)
  have hl3 : ∀ t' r off v, loadOwnRes P t' r off v ≠ .storeO i r' ob := by
    intro t r off v h
    unfold loadOwnRes at h
    repeat' (split at h)
    all_goals (cases h)
  have hs1 : ∀ t' j r off sv, storeRes P t' j r off sv ≠ .storeO i r' ob := by
    intro t j r off sv h
    unfold storeRes at h
    repeat' (split at h)
    all_goals (cases h)
  have hs2 : ∀ t' j r off sv c, storeAtRes P t' j r off sv c ≠ .storeO i r' ob := by
    intro t j r off sv c h
    unfold storeAtRes at h
    repeat' (split at h)
    all_goals (cases h)
  unfold opRes at h
  split at h
  all_goals first
    | (rename_i t x y ho
       split at h
       · rename_i j off hx
         exfalso
         split at h
         · split at h
           · split at h
             · exact hs2 _ _ _ _ _ _ h
             · exact hs1 _ _ _ _ _ h
           · cases h
         · cases h
       · rename_i j off hx
         split at h
         · split at h
           · rename_i r hrow
             unfold storeOwnRes at h
             split at h
             · rename_i size n xs hcs
               split at h
               · split at h
                 · split at h
                   · injection h with h1 h2
                     subst h1
                     subst h2
                     exact ⟨by simp [touches, ho, hx, atOf], r, hrow, fun β => by unfold rowBlk; rw [hcs]⟩
                   · cases h
                 · cases h
               · cases h
             · cases h
           · cases h
         · cases h
       · cases h)
    | (exfalso
       repeat' (split at h)
       all_goals first
         | (cases h; done)
         | exact absurd h (hp _)
         | exact absurd h (hmv _)
         | (rcases growOf_ne h with h | ⟨_, _, _, _, h⟩ <;> (cases h; done)) | (rcases build_ne h with h | ⟨_, _, _, h⟩ <;> (cases h; done))
         | exact absurd h (hco _ _)
         | exact absurd h (hck _ _)
         | exact absurd h (hap _ _ _)
         | exact absurd h (hln _)
         | exact absurd h (hsl _ _ _ _ _)
         | exact absurd h (hl _ _ _)
         | exact absurd h (hl2 _ _ _ _)
         | exact absurd h (hl3 _ _ _ _))
theorem callO_touch {w0 : World} {H : List (Nat × Hint)} {f : FuncId} {args : List SV} {r : Ret} (h : opRes P w0 H hn e row o = .callO f args r) : ∀ i sv, sv ∈ args → i ∈ atOf (some sv) → i ∈ touches e o := by
  have hp : ∀ (hn : Option Hint), pureRes P w0 hn e o ≠ .callO f args r := by
    intro hn h
    unfold pureRes at h
    repeat' (split at h)
    all_goals (cases h)
  have hc : callRes P w0 hn e o ≠ .callO f args r := by
    intro h
    unfold callRes at h
    repeat' (split at h)
    all_goals first | (cases h; done) | exact hp _ h
  have hmv : ∀ x, moveRes P w0 hn e o x ≠ .callO f args r := by
    intro x h
    unfold moveRes at h
    repeat' (split at h)
    all_goals first | (cases h; done) | exact hp _ h
  have hap : ∀ t' x y, appRes P w0 row hn t' x y ≠ .callO f args r := by
    intro t x y h
    unfold appRes appGo at h
    repeat' (split at h)
    all_goals (cases h)
  have hck : ∀ c r', callKRes P e c r' ≠ .callO f args r := by
    intro c r' h
    unfold callKRes at h
    repeat' (split at h)
    all_goals (cases h)
  have hso : ∀ t' j r' off sv, storeOwnRes P t' j r' off sv ≠ .callO f args r := by
    intro t' j r' off sv h
    unfold storeOwnRes at h
    repeat' (split at h)
    all_goals (cases h)
  have hsl : ∀ t' x lo hi mx, sliceRes P w0 hn e row o t' x lo hi mx ≠ .callO f args r := by
    intro t' x lo hi mx h
    unfold sliceRes cutRes at h
    repeat' (split at h)
    all_goals first | (cases h; done) | exact hp _ h
  have hln : ∀ c, lenRes P w0 hn e row o c ≠ .callO f args r := by
    intro c h
    unfold lenRes at h
    repeat' (split at h)
    all_goals first | (cases h; done) | exact hc h
  have hl : ∀ t' r' off, loadRes P t' r' off ≠ .callO f args r := by
    intro t r off h
    unfold loadRes at h
    repeat' (split at h)
    all_goals (cases h)
  have hl2 : ∀ t' r' off v, loadAtRes P t' r' off v ≠ .callO f args r := by
    intro t r off v h
    unfold loadAtRes at h
    repeat' (split at h)
    all_goals (cases h)
  have hl3 : ∀ t' r' off v, loadOwnRes P t' r' off v ≠ .callO f args r := by
    intro t r off v h
    unfold loadOwnRes at h
    repeat' (split at h)
    all_goals (cases h)
  have hs1 : ∀ t' j r' off sv, storeRes P t' j r' off sv ≠ .callO f args r := by
    intro t j r off sv h
    unfold storeRes at h
    repeat' (split at h)
    all_goals (cases h)
  have hs2 : ∀ t' j r' off sv c, storeAtRes P t' j r' off sv c ≠ .callO f args r := by
    intro t j r off sv c h
    unfold storeAtRes at h
    repeat' (split at h)
    all_goals (cases h)
  unfold opRes at h
  split at h
  all_goals first
    | (exfalso
       repeat' (split at h)
       all_goals first
         | (cases h; done)
         | exact absurd h (hp _)
         | exact absurd h (hsl _ _ _ _ _)
         | exact absurd h (hso _ _ _ _ _)
         | exact absurd h (hmv _)
         | (rcases growOf_ne h with h | ⟨_, _, _, _, h⟩ <;> (cases h; done)) | (rcases build_ne h with h | ⟨_, _, _, h⟩ <;> (cases h; done))
         | exact absurd h (hl _ _ _)
         | exact absurd h (hl2 _ _ _ _)
         | exact absurd h (hl3 _ _ _ _)
         | exact absurd h (hs1 _ _ _ _ _)
         | exact absurd h (hs2 _ _ _ _ _ _))
    | skip
  rename_i c ho
  split at h
  · unfold callORes at h
    split at h
    · split at h
      · split at h
        · split at h
          · rename_i lv hlv
            injection h with h1 h2 h3
            intro i sv hi hat
            rw [← h2] at hi
            obtain ⟨x, hx, hex⟩ := svArgs_mem hlv _ hi
            simp only [touches, ho, List.mem_flatMap]
            exact ⟨x, hx, by rw [hex]; exact hat⟩
          · cases h
        · cases h
      · cases h
    · cases h
  · exact absurd h (hck _ _)
  · exfalso
    split at h
    · split at h
      · exact hap _ _ _ h
      · cases h
    · exact hln _ h
theorem callK_touch {w0 : World} {H : List (Nat × Hint)} {f : FuncId} {i : Nat} {r : Ret} (h : opRes P w0 H hn e row o = .callK f i r) : i ∈ touches e o ∧ isSlice r = true := by
  have hp : ∀ (hn : Option Hint), pureRes P w0 hn e o ≠ .callK f i r := by
    intro hn h
    unfold pureRes at h
    repeat' (split at h)
    all_goals (cases h)
  have hc : callRes P w0 hn e o ≠ .callK f i r := by
    intro h
    unfold callRes at h
    repeat' (split at h)
    all_goals first | (cases h; done) | exact hp _ h
  have hmv : ∀ x, moveRes P w0 hn e o x ≠ .callK f i r := by
    intro x h
    unfold moveRes at h
    repeat' (split at h)
    all_goals first | (cases h; done) | exact hp _ h
  have hap : ∀ t' x y, appRes P w0 row hn t' x y ≠ .callK f i r := by
    intro t x y h
    unfold appRes appGo at h
    repeat' (split at h)
    all_goals (cases h)
  have hco : ∀ c r', callORes P e c r' ≠ .callK f i r := by
    intro c r' h
    unfold callORes at h
    repeat' (split at h)
    all_goals (cases h)
  have hso : ∀ t' j r' off sv, storeOwnRes P t' j r' off sv ≠ .callK f i r := by
    intro t' j r' off sv h
    unfold storeOwnRes at h
    repeat' (split at h)
    all_goals (cases h)
  have hsl : ∀ t' x lo hi mx, sliceRes P w0 hn e row o t' x lo hi mx ≠ .callK f i r := by
    intro t' x lo hi mx h
    unfold sliceRes cutRes at h
    repeat' (split at h)
    all_goals first | (cases h; done) | exact hp _ h
  have hln : ∀ c, lenRes P w0 hn e row o c ≠ .callK f i r := by
    intro c h
    unfold lenRes at h
    repeat' (split at h)
    all_goals first | (cases h; done) | exact hc h
  have hl : ∀ t' r' off, loadRes P t' r' off ≠ .callK f i r := by
    intro t r off h
    unfold loadRes at h
    repeat' (split at h)
    all_goals (cases h)
  have hl2 : ∀ t' r' off v, loadAtRes P t' r' off v ≠ .callK f i r := by
    intro t r off v h
    unfold loadAtRes at h
    repeat' (split at h)
    all_goals (cases h)
  have hl3 : ∀ t' r' off v, loadOwnRes P t' r' off v ≠ .callK f i r := by
    intro t r off v h
    unfold loadOwnRes at h
    repeat' (split at h)
    all_goals (cases h)
  have hs1 : ∀ t' j r' off sv, storeRes P t' j r' off sv ≠ .callK f i r := by
    intro t j r off sv h
    unfold storeRes at h
    repeat' (split at h)
    all_goals (cases h)
  have hs2 : ∀ t' j r' off sv c, storeAtRes P t' j r' off sv c ≠ .callK f i r := by
    intro t j r off sv c h
    unfold storeAtRes at h
    repeat' (split at h)
    all_goals (cases h)
  unfold opRes at h
  split at h
  all_goals first
    | (exfalso
       repeat' (split at h)
       all_goals first
         | (cases h; done)
         | exact absurd h (hp _)
         | exact absurd h (hsl _ _ _ _ _)
         | exact absurd h (hso _ _ _ _ _)
         | exact absurd h (hmv _)
         | (rcases growOf_ne h with h | ⟨_, _, _, _, h⟩ <;> (cases h; done)) | (rcases build_ne h with h | ⟨_, _, _, h⟩ <;> (cases h; done))
         | exact absurd h (hl _ _ _)
         | exact absurd h (hl2 _ _ _ _)
         | exact absurd h (hl3 _ _ _ _)
         | exact absurd h (hs1 _ _ _ _ _)
         | exact absurd h (hs2 _ _ _ _ _ _))
    | skip
  rename_i c ho
  split at h
  · exact absurd h (hco _ _)
  · unfold callKRes at h
    split at h
    · rename_i f' args r' hr
      split at h
      · split at h
        · rename_i hs
          injection h with h1 h2 h3
          subst h2; subst h3
          obtain ⟨x, hx, hex⟩ := callORes_mem hr _ (List.mem_singleton.2 rfl)
          refine ⟨?_, hs⟩
          simp only [touches, ho, List.mem_flatMap]
          exact ⟨x, hx, by rw [hex]; simp [atOf]⟩
        · cases h
      · cases h
    · cases h
  · exfalso
    split at h
    · split at h
      · exact hap _ _ _ h
      · cases h
    · exact hln _ h
end

structure Hd (w0 : World) (n : Nat) (β : Env) (st : St) (a : Act) (w : World) : Prop where
  size : a.tmps.size = n
  dn : a.defers = []
  get : ∀ t sv, look st.fr t = some sv → a.tmps[t]? = some (sv.den β)
  blk : ∀ (i : Nat) (r : Row), st.mem[i]? = some r → Held β w i r
  new : ∀ (i : Nat) (r : Row) (k : Nat), st.mem[i]? = some r → rowBlk β i r = some k → w0.heap.size ≤ k
  inj : ∀ (i j : Nat) (r r' : Row) (k : Nat), st.mem[i]? = some r → st.mem[j]? = some r' → rowBlk β i r = some k → rowBlk β j r' = some k → i = j
  chg : Chg [] w0 w
  wfS : ∀ t sv, look st.fr t = some sv → sv.on (· < st.mem.length)
  wfR : ∀ (i : Nat) (r : Row), st.mem[i]? = some r → r.cs.on (· < st.mem.length)

section
variable {P : Program} {w0 w w' : World} {n : Nat} {β : Env} {st : St} {a : Act}
theorem look_put {d t : Nat} {v : SV} {fr : List (Nat × SV)} : look ((d, v) :: fr) t = if d = t then v.known else look fr t := by
  by_cases h : d = t
  · subst h; simp [look]
  · rw [if_neg h]
    have : Nat.beq d t = false := by
      cases hb : Nat.beq d t
      · rfl
      · exact absurd (Nat.eq_of_beq_eq_true hb) h
    rw [look]
    simp only [this]
theorem get_put {d t : Nat} {v : Value} (h : d < a.tmps.size) : (a.put (some d) v).tmps[t]? = if d = t then some v else a.tmps[t]? := by
  simp only [Act.put, Array.getElem?_setIfInBounds]
  by_cases hd : d = t
  · subst hd; simp [h]
  · simp [hd]
theorem put_far {d : Nat} {v : Value} (h : ¬ d < a.tmps.size) : a.put (some d) v = a := by
  unfold Act.put
  simp only
  rw [Array.setIfInBounds_eq_of_size_le (by omega)]
theorem Hd.put (h : Hd w0 n β st a w) (dst : Option Tmp) {sv : SV} (hs : sv.on (· < st.mem.length)) : Hd w0 n β (st.put n dst sv) (a.put dst (sv.den β)) w := by
  cases dst with
  | none => exact h
  | some d =>
    by_cases hd : d < n
    · have hb : Nat.blt d n = true := Nat.ble_eq_true_of_le hd
      have e : st.put n (some d) sv = ⟨(d, sv) :: st.fr, st.mem⟩ := by unfold St.put; simp only [hb]
      rw [e]
      have hsz : d < a.tmps.size := by rw [h.size]; exact hd
      refine ⟨by simp [Act.put, h.size], h.dn, fun t u hu => ?_, h.blk, h.new, h.inj, h.chg, fun t u hu => ?_, h.wfR⟩
      · rw [get_put hsz]
        rw [look_put] at hu
        split at hu
        · rename_i hdt; rw [if_pos hdt]; rw [known_some hu]
        · rename_i hdt; rw [if_neg hdt]; exact h.get t u hu
      · rw [look_put] at hu
        split at hu
        · rw [known_some hu]; exact hs
        · exact h.wfS t u hu
    · have hb : Nat.blt d n = false := by
        cases hb : Nat.blt d n
        · rfl
        · exact absurd (Nat.le_of_ble_eq_true hb) hd
      have e : st.put n (some d) sv = st := by unfold St.put; simp only [hb]
      rw [e, put_far (by rw [h.size]; exact hd)]
      exact h
theorem Hd.later (h : Hd w0 n β st a w) (hc : Chg [] w w') : Hd w0 n β st a w' :=
  ⟨h.size, h.dn, h.get, fun i r hi => (h.blk i r hi).chg hc (fun _ _ => by simp), h.new, h.inj, h.chg.trans hc, h.wfS, h.wfR⟩
def Env.upd (β : Env) (m g : Nat) : Env := ⟨fun i => if i = m then g else β i, β.a, β.n, β.c⟩
theorem upd_lt {m g : Nat} : β.same (β.upd m g) (· ≠ m) := fun i hi => ⟨by simp only [Env.upd, if_neg hi], rfl, rfl, rfl⟩
theorem upd_same {m g : Nat} : (β.upd m g) m = g := by simp only [Env.upd, if_true]
theorem made_den {m g : Nat} {ln : Option Nat} : (madeSV m ln).den (β.upd m g) = madeV g ln := by
  cases ln <;> simp only [madeSV, madeV, SV.den, upd_same]
theorem made_on {Q : Nat → Prop} {m : Nat} {ln : Option Nat} (h : Q m) : (madeSV m ln).on Q := by
  cases ln <;> exact h
theorem made_known {m : Nat} {ln : Option Nat} : (madeSV m ln).known = some (madeSV m ln) := by
  cases ln <;> rfl
theorem Env.same.mono {β β' : Env} {Q Q' : Nat → Prop} (h : β.same β' Q) (hQ : ∀ i, Q' i → Q i) : β.same β' Q' := fun i hi => h i (hQ i hi)
theorem Hd.alloc (h : Hd w0 n β st a w) (t : TypeId) {cs : Cells} (hf : (⟨t, cs⟩ : Row).fixed = true) (hs : cs.on (· < st.mem.length)) : Hd w0 n (β.upd st.mem.length w.heap.size) ⟨st.fr, st.mem ++ [⟨t, cs⟩]⟩ a (w.alloc (.cells (cs.den β).toArray t)) := by
  have same : β.same (β.upd st.mem.length w.heap.size) (· < st.mem.length) := upd_lt.mono fun i hi => Nat.ne_of_lt hi
  have lt : ∀ (i : Nat) (r : Row) (k : Nat), st.mem[i]? = some r → rowBlk β i r = some k → k < w.heap.size := fun i r k hi hk => (h.blk i r hi).lt hk
  have at_ : ∀ (i : Nat) (r : Row), (st.mem ++ [(⟨t, cs⟩ : Row)])[i]? = some r → (i < st.mem.length ∧ st.mem[i]? = some r) ∨ (i = st.mem.length ∧ r = ⟨t, cs⟩) := by
    intro i r hi
    by_cases hlt : i < st.mem.length
    · rw [List.getElem?_append_left hlt] at hi
      exact .inl ⟨hlt, hi⟩
    · have hl : i < (st.mem ++ [(⟨t, cs⟩ : Row)]).length := (List.getElem?_eq_some_iff.1 hi).1
      simp at hl
      obtain rfl : i = st.mem.length := by omega
      rw [List.getElem?_append_right (Nat.le_refl _), Nat.sub_self] at hi
      exact .inr ⟨rfl, by simpa using hi.symm⟩
  have blkm : rowBlk (β.upd st.mem.length w.heap.size) st.mem.length ⟨t, cs⟩ = some w.heap.size := by rw [rowBlk_fixed hf, upd_same]
  refine ⟨h.size, h.dn, fun u sv hu => ?_, fun i r hi => ?_, fun i r k hi hk => ?_, fun i j r r' k hi hj hk hk' => ?_, h.chg.alloc _, fun u sv hu => ?_, fun i r hi => ?_⟩
  · rw [h.get u sv hu, SV.den_congr same (h.wfS u sv hu)]
  · rcases at_ i r hi with ⟨hlt, hi⟩ | ⟨rfl, rfl⟩
    · refine Held.congr same hlt (h.wfR i r hi) ((h.blk i r hi).chg (S := []) ((Chg.refl [] w).alloc _) (fun _ _ => by simp))
    · refine Held.of_blk ?_ hf
      rw [upd_same, ← Cells.den_congr same hs]
      exact Blk.new w t (cs.den β).toArray
  · rcases at_ i r hi with ⟨hlt, hi⟩ | ⟨rfl, rfl⟩
    · rw [← rowBlk_congr same hlt] at hk; exact h.new i r k hi hk
    · rw [blkm] at hk; cases hk; exact h.chg.size
  · rcases at_ i r hi with ⟨hlt, hi⟩ | ⟨rfl, rfl⟩
    · rw [← rowBlk_congr same hlt] at hk
      rcases at_ j r' hj with ⟨hlt', hj⟩ | ⟨rfl, rfl⟩
      · rw [← rowBlk_congr same hlt'] at hk'; exact h.inj i j r r' k hi hj hk hk'
      · rw [blkm] at hk'; cases hk'
        exact absurd (lt i r _ hi hk) (Nat.lt_irrefl _)
    · rcases at_ j r' hj with ⟨hlt', hj⟩ | ⟨rfl, rfl⟩
      · rw [blkm] at hk; cases hk
        rw [← rowBlk_congr same hlt'] at hk'
        exact absurd (lt j r' _ hj hk') (Nat.lt_irrefl _)
      · rfl
  · exact SV.on_mono (fun i hi => by simp; omega) (h.wfS u sv hu)
  · rcases at_ i r hi with ⟨hlt, hi⟩ | ⟨rfl, rfl⟩
    · exact Cells.on_mono (fun i hi => by simp; omega) (h.wfR i r hi)
    · exact Cells.on_mono (fun i hi => by simp; omega) hs
theorem Hd.store (h : Hd w0 n β st a w) {i : Nat} {r0 r : Row} (h0 : st.mem[i]? = some r0) (hblk : rowBlk β i r = rowBlk β i r0) (hb : Held β w' i r) (hc : Chg (rowBlk β i r0).toList w w') (hr : r.cs.on (· < st.mem.length)) : Hd w0 n β ⟨st.fr, st.mem.set i r⟩ a w' := by
  have hi : i < st.mem.length := (List.getElem?_eq_some_iff.1 h0).1
  have old : ∀ (j : Nat) (r' : Row) (k : Nat), (st.mem.set i r)[j]? = some r' → rowBlk β j r' = some k → ∃ r2, st.mem[j]? = some r2 ∧ rowBlk β j r2 = some k := by
    intro j r' k hj hk
    simp only [List.getElem?_set] at hj
    split at hj
    · rename_i hij
      subst hij
      have : r = r' := by simpa [hi] using hj
      subst this
      exact ⟨r0, h0, by rw [← hblk]; exact hk⟩
    · exact ⟨r', hj, hk⟩
  refine ⟨h.size, h.dn, h.get, fun j r' hj => ?_, fun j r' k hj hk => ?_, fun j j' r1 r2 k hj hj' hk hk' => ?_, ?_, fun t sv ht => ?_, fun j r' hj => ?_⟩
  · simp only [List.getElem?_set] at hj
    split at hj
    · rename_i hij
      subst hij
      have : r = r' := by simpa [hi] using hj
      subst this
      exact hb
    · rename_i hij
      refine (h.blk j r' hj).chg hc fun k hk hm => hij ?_
      exact h.inj i j r0 r' _ h0 hj (by simpa using hm) hk
  · obtain ⟨r2, h2, hk2⟩ := old j r' k hj hk
    exact h.new j r2 k h2 hk2
  · obtain ⟨x, hx, hkx⟩ := old j r1 k hj hk
    obtain ⟨y, hy, hky⟩ := old j' r2 k hj' hk'
    exact h.inj j j' x y k hx hy hkx hky
  · exact h.chg.seq hc (fun x hx => .inr (h.new i r0 _ h0 (by simpa using hx)))
  · simp only [List.length_set]; exact h.wfS t sv ht
  · simp only [List.length_set]
    simp only [List.getElem?_set] at hj
    split at hj
    · have : r = r' := by simpa [hi] using hj
      subst this
      exact hr
    · exact h.wfR j r' hj
def Env.updS (β : Env) (m : Nat) (A : Option Addr) (n c : Nat) : Env := ⟨β.b, fun i => if i = m then A else β.a i, fun i => if i = m then n else β.n i, fun i => if i = m then c else β.c i⟩
theorem updS_lt {m : Nat} {A : Option Addr} {nn cc : Nat} : β.same (β.updS m A nn cc) (· ≠ m) := fun i hi => ⟨rfl, by simp only [Env.updS, if_neg hi], by simp only [Env.updS, if_neg hi], by simp only [Env.updS, if_neg hi]⟩
theorem updS_sl {m : Nat} {A : Option Addr} {nn cc : Nat} : (β.updS m A nn cc).sl m = .slice A nn cc := by simp only [Env.sl, Env.updS, if_true]
theorem updS_held {m : Nat} {A : Option Addr} {T size nn cc : Nat} {xs : List Value} (h : Own w T size (.slice A nn cc) nn xs) : Held (β.updS m A nn cc) w m ⟨T, .own size nn xs⟩ := by
  show _ ∧ Own w T size (.slice ((β.updS m A nn cc).a m) nn ((β.updS m A nn cc).c m)) nn xs
  simp only [Env.updS, if_true]
  exact ⟨trivial, h⟩
theorem updS_blk {m : Nat} {A : Option Addr} {T size nn cc : Nat} {xs : List Value} : rowBlk (β.updS m A nn cc) m ⟨T, .own size nn xs⟩ = A.map (·.block) := by
  show ((β.updS m A nn cc).a m).map _ = _
  simp only [Env.updS, if_true]
theorem Hd.grow (h : Hd w0 n β st a w) {kill : Option Nat} {A : Option Addr} {T size nn cc : Nat} {xs : List Value} {S : List Nat} (hown : Own w' T size (.slice A nn cc) nn xs) (hc : Chg S w w')
    (hS : ∀ k ∈ S, ∃ i r0, kill = some i ∧ st.mem[i]? = some r0 ∧ rowBlk β i r0 = some k) (hA : ∀ k, A.map (·.block) = some k → k ∈ S ∨ w.heap.size ≤ k) :
    Hd w0 n (β.updS st.mem.length A nn cc) ⟨st.fr, killed st.mem kill ++ [⟨T, .own size nn xs⟩]⟩ a w' := by
  have same : β.same (β.updS st.mem.length A nn cc) (· < st.mem.length) := updS_lt.mono fun i hi => Nat.ne_of_lt hi
  have klen : (killed st.mem kill).length = st.mem.length := by cases kill <;> simp [killed]
  have at_ : ∀ (i : Nat) (r : Row), (killed st.mem kill ++ [(⟨T, .own size nn xs⟩ : Row)])[i]? = some r → (i < st.mem.length ∧ kill ≠ some i ∧ st.mem[i]? = some r) ∨ (i < st.mem.length ∧ kill = some i ∧ r = deadRow) ∨ (i = st.mem.length ∧ r = ⟨T, .own size nn xs⟩) := by
    intro i r hi
    by_cases hlt : i < st.mem.length
    · rw [List.getElem?_append_left (by rw [klen]; exact hlt)] at hi
      cases kill with
      | none => exact .inl ⟨hlt, by simp, hi⟩
      | some j =>
        simp only [killed, List.getElem?_set] at hi
        split at hi
        · rename_i hij
          subst hij
          exact .inr (.inl ⟨hlt, rfl, by simpa [hlt] using hi.symm⟩)
        · rename_i hij
          exact .inl ⟨hlt, by simpa using hij, hi⟩
    · have hl : i < (killed st.mem kill ++ [(⟨T, .own size nn xs⟩ : Row)]).length := (List.getElem?_eq_some_iff.1 hi).1
      simp [klen] at hl
      obtain rfl : i = st.mem.length := by omega
      rw [← klen, List.getElem?_append_right (Nat.le_refl _), Nat.sub_self] at hi
      exact .inr (.inr ⟨rfl, by simpa using hi.symm⟩)
  have new' : ∀ k, A.map (·.block) = some k → w0.heap.size ≤ k := fun k hk => by
    rcases hA k hk with hk | hk
    · obtain ⟨i, r0, _, h0, hb⟩ := hS k hk
      exact h.new i r0 k h0 hb
    · exact Nat.le_trans h.chg.size hk
  have apart : ∀ (i : Nat) (r : Row) (k : Nat), kill ≠ some i → st.mem[i]? = some r → rowBlk β i r = some k → A.map (·.block) ≠ some k := fun i r k hki hi hk hk' => by
    rcases hA k hk' with hk' | hk'
    · obtain ⟨j, r0, hj, h0, hb⟩ := hS k hk'
      have := h.inj i j r r0 k hi h0 hk hb
      subst this
      exact hki hj
    · have := (h.blk i r hi).lt hk
      omega
  refine ⟨h.size, h.dn, fun u sv hu => ?_, fun i r hi => ?_, fun i r k hi hk => ?_, fun i j r r' k hi hj hk hk' => ?_, h.chg.seq hc (fun k hk => ?_), fun u sv hu => ?_, fun i r hi => ?_⟩
  · rw [h.get u sv hu, SV.den_congr same (h.wfS u sv hu)]
  · rcases at_ i r hi with ⟨hlt, hki, hi⟩ | ⟨hlt, hki, rfl⟩ | ⟨rfl, rfl⟩
    · refine Held.congr same hlt (h.wfR i r hi) ((h.blk i r hi).chg hc fun k hk hm => ?_)
      obtain ⟨j, r0, hj, h0, hb⟩ := hS k hm
      have := h.inj i j r r0 k hi h0 hk hb
      subst this
      exact hki hj
    · trivial
    · exact updS_held hown
  · rcases at_ i r hi with ⟨hlt, hki, hi⟩ | ⟨hlt, hki, rfl⟩ | ⟨rfl, rfl⟩
    · rw [← rowBlk_congr same hlt] at hk; exact h.new i r k hi hk
    · cases hk
    · rw [updS_blk] at hk; exact new' k hk
  · rcases at_ i r hi with ⟨hlt, hki, hi⟩ | ⟨hlt, hki, rfl⟩ | ⟨rfl, rfl⟩
    · rw [← rowBlk_congr same hlt] at hk
      rcases at_ j r' hj with ⟨hlt', hkj, hj⟩ | ⟨hlt', hkj, rfl⟩ | ⟨rfl, rfl⟩
      · rw [← rowBlk_congr same hlt'] at hk'; exact h.inj i j r r' k hi hj hk hk'
      · cases hk'
      · rw [updS_blk] at hk'; exact absurd hk' (apart i r k hki hi hk)
    · cases hk
    · rcases at_ j r' hj with ⟨hlt', hkj, hj⟩ | ⟨hlt', hkj, rfl⟩ | ⟨rfl, rfl⟩
      · rw [← rowBlk_congr same hlt'] at hk'
        rw [updS_blk] at hk
        exact absurd hk (apart j r' k hkj hj hk')
      · cases hk'
      · rfl
  · obtain ⟨i, r0, _, h0, hb⟩ := hS k hk
    exact .inr (h.new i r0 k h0 hb)
  · exact SV.on_mono (fun i hi => by simp [klen]; omega) (h.wfS u sv hu)
  · rcases at_ i r hi with ⟨hlt, hki, hi⟩ | ⟨hlt, hki, rfl⟩ | ⟨rfl, rfl⟩
    · exact Cells.on_mono (fun i hi => by simp [klen]; omega) (h.wfR i r hi)
    · trivial
    · trivial
theorem ret_ok {r : Ret} {e : Ending} (h : retPost w r e w') : (∃ v, r = .val v ∧ e = .returned v ∧ Chg [] w w') ∨ (∃ T size nn xs A cc, retRow r = some ⟨T, .own size nn xs⟩ ∧ Own w' T size (.slice A nn cc) nn xs ∧ Chg [] w w' ∧ (∀ k, A.map (·.block) = some k → w.heap.size ≤ k) ∧
    ∀ (β : Env) (m : Nat), e = .returned ((retSV m r).den (β.updS m A nn cc)) ∧ (retSV m r).on (· = m)) := by
  have key : ∀ {T size nn : Nat} {xs : List Value} {s : Value}, Acc w w' T size s nn xs → ∃ A cc, s = .slice A nn cc ∧ Own w' T size (.slice A nn cc) nn xs ∧ ∀ k, A.map (·.block) = some k → w.heap.size ≤ k := by
    intro T size nn xs s h
    obtain ⟨A, cc, rfl, _⟩ := h.own.form
    refine ⟨A, cc, rfl, h.own, fun k hk => h.new k ?_⟩
    cases A with
    | none => cases hk
    | some ad => simpa [Value.ownBlock] using hk
  cases r with
  | val v => exact .inl ⟨v, rfl, h.1, h.2⟩
  | sl T size nn xs =>
    obtain ⟨s, he, hacc⟩ := h
    obtain ⟨A, cc, rfl, ho, hk⟩ := key hacc
    exact .inr ⟨T, size, nn, xs, A, cc, rfl, ho, hacc.chg, hk, fun β m => ⟨by rw [he]; simp only [retSV, SV.den, updS_sl], rfl⟩⟩
  | tup pre T size nn xs post =>
    obtain ⟨s, he, hacc⟩ := h
    obtain ⟨A, cc, rfl, ho, hk⟩ := key hacc
    exact .inr ⟨T, size, nn, xs, A, cc, rfl, ho, hacc.chg, hk, fun β m => ⟨by rw [he]; simp only [retSV, SV.den, updS_sl], rfl⟩⟩
theorem sl_block {β : Env} {i : Nat} : (β.sl i).ownBlock = (β.a i).map (·.block) := by
  unfold Env.sl
  cases h : β.a i <;> simp [Value.ownBlock]
theorem slice_block {A : Option Addr} {n c : Nat} : (Value.slice A n c).ownBlock = A.map (·.block) := by
  cases A <;> simp [Value.ownBlock]
theorem retK_ok {s0 : Value} {r : Ret} {e : Ending} (h : retPostK w s0 r e w') : ∃ T size nn xs A cc, retRow r = some ⟨T, .own size nn xs⟩ ∧ Own w' T size (.slice A nn cc) nn xs ∧ Chg s0.ownBlock.toList w w' ∧ (∀ k, A.map (·.block) = some k → s0.ownBlock = some k ∨ w.heap.size ≤ k) ∧
    ∀ (β : Env) (m : Nat), e = .returned ((retSV m r).den (β.updS m A nn cc)) ∧ (retSV m r).on (· = m) := by
  cases r with
  | val v => exact h.elim
  | sl T size nn xs =>
    obtain ⟨s, he, ho, hc, hk⟩ := h
    obtain ⟨A, cc, rfl, _⟩ := ho.form
    exact ⟨T, size, nn, xs, A, cc, rfl, ho, hc, fun k h => hk k (by rw [slice_block]; exact h), fun β m => ⟨by rw [he]; simp only [retSV, SV.den, updS_sl], rfl⟩⟩
  | tup pre T size nn xs post =>
    obtain ⟨s, he, ho, hc, hk⟩ := h
    obtain ⟨A, cc, rfl, _⟩ := ho.form
    exact ⟨T, size, nn, xs, A, cc, rfl, ho, hc, fun k h => hk k (by rw [slice_block]; exact h), fun β m => ⟨by rw [he]; simp only [retSV, SV.den, updS_sl], rfl⟩⟩
theorem Hd.eval (h : Hd w0 n β st a w) {x : Operand} {sv : SV} (hx : ev st.fr x = some sv) : a.eval x = sv.den β := by
  cases x with
  | tmp t =>
    have := h.get t sv hx
    simp [Act.eval, this]
  | const v => simp only [ev, Option.some.injEq] at hx; subst hx; rfl
  | global g => simp only [ev, Option.some.injEq] at hx; subst hx; rfl
  | func f => simp only [ev, Option.some.injEq] at hx; subst hx; rfl
theorem Hd.evOn (h : Hd w0 n β st a w) {x : Operand} {sv : SV} (hx : ev st.fr x = some sv) : sv.on (· < st.mem.length) := by
  cases x with
  | tmp t => exact h.wfS t sv hx
  | const v => simp only [ev, Option.some.injEq] at hx; subst hx; trivial
  | global g => simp only [ev, Option.some.injEq] at hx; subst hx; trivial
  | func f => simp only [ev, Option.some.injEq] at hx; subst hx; trivial
end

/-! ### One operation behind another -/
section
variable (P : Program) (H : List (Nat × Hint)) (n : Nat) (w0 : World)
/-- Here the reckoning stands. -/
inductive Stuck {α : Type} (_ : α) : Prop
/-- What is asked, with the slot of the operation that asks it. -/
def Tag (_ : Nat) (p : Prop) : Prop := p
def keyOf (o : Oper) : Nat := match o.dst with
  | some d => d
  | none => match o.op with
    | .store _ (.tmp x) _ => 100000 + x
    | _ => 0
def obAnd (o : Oper) (ob : Option Prop) (K : Prop) : Prop := match ob with
  | none => K
  | some p => Tag (keyOf o) p ∧ K
theorem obAnd_ob {o : Oper} {ob : Option Prop} {K : Prop} (h : obAnd o ob K) : ∀ p, ob = some p → p := by
  intro p hp
  subst hp
  exact h.1
theorem obAnd_k {o : Oper} {ob : Option Prop} {K : Prop} (h : obAnd o ob K) : K := by
  cases ob with
  | none => exact h
  | some p => exact h.2
def rowAt (mem : List Row) (i : Nat) : Option Row := mem[i]?
def step (o : Oper) (st : St) (K : St → Prop) : Prop :=
  match opRes P w0 H (hint H o.dst) (ev st.fr) (rowAt st.mem) o with
  | .val sv ob => obAnd o ob (K (st.put n o.dst sv))
  | .call f args v => Tag (keyOf o) (∀ W, Chg [] w0 W → Calls P f args.toArray W fun e w' => e = .returned v ∧ Chg [] W w') ∧ K (st.put n o.dst (.val v))
  | .alloc t cs ln => K ((⟨st.fr, st.mem ++ [⟨t, cs⟩]⟩ : St).put n o.dst (madeSV st.mem.length ln))
  | .store i r ob => obAnd o ob (K ((⟨st.fr, st.mem.set i r⟩ : St).put n o.dst (.val undef)))
  | .storeO i r ob => obAnd o ob (K ((⟨st.fr, st.mem.set i r⟩ : St).put n o.dst (.val undef)))
  | .grow kill t size nn xs ob => obAnd o ob (K ((⟨st.fr, killed st.mem kill ++ [⟨t, .own size nn xs⟩]⟩ : St).put n o.dst (.own st.mem.length)))
  | .callO f args r => Tag (keyOf o) (∀ W, Chg [] w0 W → argsOb (rowAt st.mem) W args fun vs => Calls P f vs.toArray W (retPost W r)) ∧ K ((⟨st.fr, withRow st.mem (retRow r)⟩ : St).put n o.dst (retSV st.mem.length r))
  | .callK f i r => Tag (keyOf o) (∀ W, Chg [] w0 W → argK (rowAt st.mem) W i fun s => Calls P f #[s] W (retPostK W s r)) ∧ K ((⟨st.fr, withRow (killed st.mem (some i)) (retRow r)⟩ : St).put n o.dst (retSV st.mem.length r))
  | .bad => Stuck o
/-- Is the operation wanted? -/
def guardOf (ops : Array Oper) (fr : List (Nat × SV)) (o : Oper) : Option Bool :=
  match o.guard with
  | none => some true
  | some (j, b) => match ops[j]? with
    | none => none
    | some oj => match oj.dst with
      | none => none
      | some t => match look fr t with
        | some (.val v) => match v with
          | .bool c => some (c == b)
          | _ => some false
        | _ => none
def exOps (ops : Array Oper) : List Oper → St → (St → Prop) → Prop
  | [], st, K => K st
  | o :: l, st, K => match guardOf ops st.fr o with
    | some true => step P H n w0 o st (fun st' => exOps ops l st' K)
    | some false => exOps ops l (st.put n o.dst (.val undef)) K
    | none => Stuck o
end

section
variable {P : Program} {H : List (Nat × Hint)} {n : Nat} {w0 w : World} {β : Env} {st : St} {a : Act} {ops : Array Oper} {Q : Exit → Act → World → Prop}
theorem guard_ok {o : Oper} {b : Bool} (h : Hd w0 n β st a w) (hg : guardOf ops st.fr o = some b) : Region.wanted o (yielded ops a.tmps) = b := by
  unfold guardOf at hg
  unfold Region.wanted
  split at hg
  · rename_i hn; rw [hn]; simpa using hg
  · rename_i j b' hn
    rw [hn]
    split at hg
    · cases hg
    · rename_i oj hoj
      split at hg
      · cases hg
      · rename_i t ht
        split at hg
        · rename_i v hc
          have := h.get t _ hc
          simp only [yielded, hoj, Option.bind_some, ht, this, SV.den]
          split at hg
          · rename_i c
            have hb : (c == b') = b := Option.some.inj hg
            rw [← hb]
            cases c <;> cases b' <;> rfl
          · rename_i hnb
            have hb : false = b := Option.some.inj hg
            rw [← hb]
            cases v <;> first | rfl | exact absurd rfl (hnb _)
        · cases hg
theorem step_ok {o : Oper} {K : St → Prop} {next : Act → World → Prop} (h : Hd w0 n β st a w) (hs : step P H n w0 o st K) (hK : ∀ β' st' a' w', K st' → Hd w0 n β' st' a' w' → next a' w') : o.wp P a w next Q := by
  have ho := op_ok (P := P) (w0 := w0) (H := H) (β := β) (W := w) (a := a) (o := o) (e := ev st.fr) (row := rowAt st.mem) (hn := hint H o.dst) h.chg (fun x _ sv hx => h.eval hx) (fun i r _ hi => h.blk i r hi)
  have hon := op_on (P := P) (w0 := w0) (H := H) (o := o) (e := ev st.fr) (row := rowAt st.mem) (hn := hint H o.dst) (Q := (· < st.mem.length)) (fun x _ sv hx => h.evOn hx) (fun i r _ hi => h.wfR i r hi)
  unfold step at hs
  unfold Oper.wp
  cases hr : opRes P w0 H (hint H o.dst) (ev st.fr) (rowAt st.mem) o with
  | val sv ob =>
    rw [hr] at hs ho hon
    simp only at hs
    rw [ho (obAnd_ob hs)]
    exact hK _ _ _ _ (obAnd_k hs) (h.put o.dst hon)
  | call f args v =>
    rw [hr] at hs ho hon
    simp only at hs
    rw [show (execOp a.eval o).run P w = _ from ho]
    refine (hs.1 w h.chg).mono fun e w' ⟨he, hc⟩ => ?_
    subst he
    exact hK _ _ _ _ hs.2 ((h.later hc).put o.dst (sv := .val v) trivial)
  | alloc t cs ln =>
    have hf := alloc_fixed hr
    rw [hr] at hs ho hon
    simp only at hs
    rw [show (execOp a.eval o).run P w = _ from ho]
    have h2 := (h.alloc t hf hon).put o.dst (sv := madeSV st.mem.length ln) (made_on (by simp))
    rw [made_den] at h2
    exact hK _ _ _ _ hs h2
  | store i r ob =>
    obtain ⟨_, hf, r0, h0, hf0⟩ := store_touch hr
    rw [hr] at hs ho hon
    simp only at hs
    obtain ⟨w', hrun, hb, hc⟩ := ho (obAnd_ob hs)
    rw [hrun]
    exact hK _ _ _ _ (obAnd_k hs) ((h.store h0 (by rw [rowBlk_fixed hf, rowBlk_fixed hf0]) (Held.of_blk hb hf) (by rw [rowBlk_fixed hf0]; exact hc) hon.2).put o.dst (sv := .val undef) trivial)
  | storeO i r ob =>
    obtain ⟨_, r0, h0, hbk⟩ := storeO_touch hr
    rw [hr] at hs ho hon
    simp only at hs
    obtain ⟨w', hrun, hb, hc⟩ := ho (obAnd_ob hs)
    rw [hrun]
    rw [hbk β] at hc
    exact hK _ _ _ _ (obAnd_k hs) ((h.store h0 (hbk β) hb hc hon.2).put o.dst (sv := .val undef) trivial)
  | grow kill t size nn xs ob =>
    have htc : ∀ i, kill = some i → ∃ r, st.mem[i]? = some r ∧ ∃ s m ys, r.cs = .own s m ys := fun i hi => by
      subst hi
      exact (grow_touch hr).2
    rw [hr] at hs ho
    simp only at hs
    obtain ⟨A, cc, w', S, hrun, hown, hch, hS, hA⟩ := ho (obAnd_ob hs)
    rw [hrun]
    have h2 := (h.grow (kill := kill) hown hch (fun k hk => by
      obtain ⟨i, hi, hb⟩ := hS k hk
      obtain ⟨r, h0, s, m, ys, hcs⟩ := htc i hi
      exact ⟨i, r, hi, h0, by unfold rowBlk; rw [hcs]; exact hb⟩) hA).put o.dst (sv := .own st.mem.length) (by show _ < _; cases kill <;> simp [killed])
    simp only [SV.den, updS_sl] at h2
    exact hK _ _ _ _ (obAnd_k hs) h2
  | callO f args r =>
    rw [hr] at hs ho
    simp only at hs
    rw [show (execOp a.eval o).run P w = _ from ho]
    have hcall := argsOb_ok (β := β) (hs.1 w h.chg) (fun i _ _ _ r' hr' => h.blk i r' hr')
    refine hcall.mono fun e w' hp => ?_
    rcases ret_ok hp with ⟨v, rfl, rfl, hc⟩ | ⟨T, size, nn, xs, A, cc, hrr, hown, hc, hA, hsv⟩
    · exact hK _ _ _ _ hs.2 ((h.later hc).put o.dst (sv := .val v) trivial)
    · obtain ⟨he, hon'⟩ := hsv β st.mem.length
      subst he
      have hk := hs.2
      rw [hrr] at hk
      exact hK _ _ _ _ hk ((h.grow (kill := none) hown hc (by simp) (fun k hk => .inr (hA k hk))).put o.dst (SV.on_mono (fun i hi => by rw [hi]; simp [killed]) hon'))
  | callK f i r =>
    rw [hr] at hs ho
    simp only at hs
    rw [show (execOp a.eval o).run P w = _ from ho]
    have hcall := argK_ok (β := β) (hs.1 w h.chg) (fun r' hr' => h.blk i r' hr')
    obtain ⟨r0, h0, s0, m0, y0, hc0⟩ := argK_row (hs.1 w h.chg)
    refine hcall.mono fun e w' hp => ?_
    obtain ⟨T, size, nn, xs, A, cc, hrr, hown, hc, hA, hsv⟩ := retK_ok hp
    obtain ⟨he, hon'⟩ := hsv β st.mem.length
    subst he
    have hk := hs.2
    rw [hrr] at hk
    rw [sl_block] at hc hA
    exact hK _ _ _ _ hk ((h.grow (kill := some i) hown hc (fun k hk => ⟨i, r0, rfl, h0, by unfold rowBlk; rw [hc0]; simpa using hk⟩) (fun k hk => (hA k hk).imp (fun h => by simpa using h) id)).put o.dst (SV.on_mono (fun i hi => by rw [hi]; simp [killed]) hon'))
  | bad => rw [hr] at hs; exact nomatch hs
theorem exOps_ok : ∀ (l : List Oper) (st : St) (K : St → Prop) (β : Env) (a : Act) (w : World), Hd w0 n β st a w → exOps P H n w0 ops l st K → (∀ β' st' a' w', K st' → Hd w0 n β' st' a' w' → Q .normal a' w') → wpList P ops Q l a w
  | [], _, _, _, _, _, h, hx, hK => hK _ _ _ _ hx h
  | o :: l, st, K, β, a, w, h, hx, hK => by
    unfold exOps at hx
    unfold wpList
    split at hx
    · rename_i hg
      rw [guard_ok h hg, if_pos rfl]
      exact .inl (step_ok h hx fun β' st' a' w' hk h' => exOps_ok l st' K β' a' w' h' hk hK)
    · rename_i hg
      rw [guard_ok h hg, if_neg (by decide)]
      exact exOps_ok l _ K β _ w (h.put o.dst (sv := .val undef) trivial) hx hK
    · exact nomatch hx
end
end Sx
end Go.Proofs.YtgpiapmbbnngpaaGreatDoor

/- A walk by reckoning, part 4: a region that draws its order, with variables made and stores among its operations: one reckoning in the text's order serves every order. Proved over any program. No condition of its own. -/
namespace Go.Proofs.YtgpiapmbbnngpaaGreatDoor
open Go Go.RowKit Go.Lib Go.Sort

namespace Sx
/-- What an operation has come to: its slot's value, the block that it looks at, the block that it writes, the block that it makes. -/
structure Ent where
  sv : SV
  tch : List Nat
  wr : Option (Nat × Row)
  nw : Option (Nat × Row)
def wrOf (mem : List Row) (en : Ent) : List Row := match en.wr with
  | some (i, r) => mem.set i r
  | none => mem
def memOf (mem : List Row) (en : Ent) : List Row := match en.nw with
  | some (_, r) => wrOf mem en ++ [r]
  | none => wrOf mem en
theorem wrOf_length {mem : List Row} {en : Ent} : (wrOf mem en).length = mem.length := by
  unfold wrOf
  split
  · simp
  · rfl
def applyE (n : Nat) (st : St) (o : Oper) (en : Ent) : St := (⟨st.fr, memOf st.mem en⟩ : St).put n o.dst en.sv

section
variable (P : Program) (H : List (Nat × Hint)) (n : Nat) (w0 : World) (ops : Array Oper)
def exLex : List Oper → St → List Ent → (List Ent → St → Prop) → Prop
  | [], st, acc, K => K acc st
  | o :: l, st, acc, K => match guardOf ops st.fr o with
    | some true => match opRes P w0 H (hint H o.dst) (ev st.fr) (rowAt st.mem) o with
      | .val sv ob => obAnd o ob (exLex l (applyE n st o ⟨sv, touches (ev st.fr) o, none, none⟩) (acc ++ [⟨sv, touches (ev st.fr) o, none, none⟩]) K)
      | .call f args v => Tag (keyOf o) (∀ W, Chg [] w0 W → Calls P f args.toArray W fun e w' => e = .returned v ∧ Chg [] W w') ∧ exLex l (applyE n st o ⟨.val v, touches (ev st.fr) o, none, none⟩) (acc ++ [⟨.val v, touches (ev st.fr) o, none, none⟩]) K
      | .alloc t cs ln => exLex l (applyE n st o ⟨madeSV st.mem.length ln, touches (ev st.fr) o, none, some (st.mem.length, ⟨t, cs⟩)⟩) (acc ++ [⟨madeSV st.mem.length ln, touches (ev st.fr) o, none, some (st.mem.length, ⟨t, cs⟩)⟩]) K
      | .store i r ob => obAnd o ob (exLex l (applyE n st o ⟨.val undef, touches (ev st.fr) o, some (i, r), none⟩) (acc ++ [⟨.val undef, touches (ev st.fr) o, some (i, r), none⟩]) K)
      | .storeO i r ob => obAnd o ob (exLex l (applyE n st o ⟨.val undef, touches (ev st.fr) o, some (i, r), none⟩) (acc ++ [⟨.val undef, touches (ev st.fr) o, some (i, r), none⟩]) K)
      | .grow kill t size nn xs ob => obAnd o ob (exLex l (applyE n st o ⟨.own st.mem.length, touches (ev st.fr) o, kill.map (·, deadRow), some (st.mem.length, ⟨t, .own size nn xs⟩)⟩) (acc ++ [⟨.own st.mem.length, touches (ev st.fr) o, kill.map (·, deadRow), some (st.mem.length, ⟨t, .own size nn xs⟩)⟩]) K)
      | .callO f args r => Tag (keyOf o) (∀ W, Chg [] w0 W → argsOb (rowAt st.mem) W args fun vs => Calls P f vs.toArray W (retPost W r)) ∧ exLex l (applyE n st o ⟨retSV st.mem.length r, touches (ev st.fr) o, none, (retRow r).map (st.mem.length, ·)⟩) (acc ++ [⟨retSV st.mem.length r, touches (ev st.fr) o, none, (retRow r).map (st.mem.length, ·)⟩]) K
      | .callK f i r => Tag (keyOf o) (∀ W, Chg [] w0 W → argK (rowAt st.mem) W i fun s => Calls P f #[s] W (retPostK W s r)) ∧ exLex l (applyE n st o ⟨retSV st.mem.length r, touches (ev st.fr) o, some (i, deadRow), (retRow r).map (st.mem.length, ·)⟩) (acc ++ [⟨retSV st.mem.length r, touches (ev st.fr) o, some (i, deadRow), (retRow r).map (st.mem.length, ·)⟩]) K
      | .bad => Stuck o
    | some false => exLex l (applyE n st o ⟨.val undef, [], none, none⟩) (acc ++ [⟨.val undef, [], none, none⟩]) K
    | none => Stuck o

def EntOk (st : St) (o : Oper) (en : Ent) : Prop :=
  (guardOf ops st.fr o = some false ∧ en = ⟨.val undef, [], none, none⟩) ∨
  (guardOf ops st.fr o = some true ∧ match opRes P w0 H (hint H o.dst) (ev st.fr) (rowAt st.mem) o with
    | .val sv ob => (∀ p, ob = some p → p) ∧ en = ⟨sv, touches (ev st.fr) o, none, none⟩
    | .call f args v => (∀ W, Chg [] w0 W → Calls P f args.toArray W fun e w' => e = .returned v ∧ Chg [] W w') ∧ en = ⟨.val v, touches (ev st.fr) o, none, none⟩
    | .alloc t cs ln => en = ⟨madeSV st.mem.length ln, touches (ev st.fr) o, none, some (st.mem.length, ⟨t, cs⟩)⟩
    | .store i r ob => (∀ p, ob = some p → p) ∧ en = ⟨.val undef, touches (ev st.fr) o, some (i, r), none⟩
    | .storeO i r ob => (∀ p, ob = some p → p) ∧ en = ⟨.val undef, touches (ev st.fr) o, some (i, r), none⟩
    | .grow kill t size nn xs ob => (∀ p, ob = some p → p) ∧ en = ⟨.own st.mem.length, touches (ev st.fr) o, kill.map (·, deadRow), some (st.mem.length, ⟨t, .own size nn xs⟩)⟩
    | .callO f args r => (∀ W, Chg [] w0 W → argsOb (rowAt st.mem) W args fun vs => Calls P f vs.toArray W (retPost W r)) ∧ en = ⟨retSV st.mem.length r, touches (ev st.fr) o, none, (retRow r).map (st.mem.length, ·)⟩
    | .callK f i r => (∀ W, Chg [] w0 W → argK (rowAt st.mem) W i fun s => Calls P f #[s] W (retPostK W s r)) ∧ en = ⟨retSV st.mem.length r, touches (ev st.fr) o, some (i, deadRow), (retRow r).map (st.mem.length, ·)⟩
    | .bad => False)
def Lex : List Oper → St → List Ent → St → Prop
  | [], st, es, st' => es = [] ∧ st' = st
  | o :: l, st, es, st' => ∃ en es', es = en :: es' ∧ EntOk P H w0 ops st o en ∧ Lex l (applyE n st o en) es' st'
end
section
variable {P : Program} {H : List (Nat × Hint)} {n : Nat} {w0 : World} {ops : Array Oper}
theorem lex_of : ∀ (l : List Oper) (st : St) (acc : List Ent) (K : List Ent → St → Prop), exLex P H n w0 ops l st acc K → ∃ es st', Lex P H n w0 ops l st es st' ∧ K (acc ++ es) st'
  | [], st, acc, K, h => ⟨[], st, ⟨rfl, rfl⟩, by simpa [exLex] using h⟩
  | o :: l, st, acc, K, h => by
    have go : ∀ en, EntOk P H w0 ops st o en → exLex P H n w0 ops l (applyE n st o en) (acc ++ [en]) K → ∃ es st', Lex P H n w0 ops (o :: l) st es st' ∧ K (acc ++ es) st' := by
      intro en he hx
      obtain ⟨es, st', h1, h2⟩ := lex_of l _ _ K hx
      exact ⟨en :: es, st', ⟨en, es, rfl, he, h1⟩, by simpa using h2⟩
    unfold exLex at h
    split at h
    · rename_i hg
      split at h
      · rename_i sv ob hr
        exact go _ (.inr ⟨hg, by rw [hr]; exact ⟨obAnd_ob h, rfl⟩⟩) (obAnd_k h)
      · rename_i f args v hr
        exact go _ (.inr ⟨hg, by rw [hr]; exact ⟨h.1, rfl⟩⟩) h.2
      · rename_i t cs ln hr
        exact go _ (.inr ⟨hg, by rw [hr]⟩) h
      · rename_i i r ob hr
        exact go _ (.inr ⟨hg, by rw [hr]; exact ⟨obAnd_ob h, rfl⟩⟩) (obAnd_k h)
      · rename_i i r ob hr
        exact go _ (.inr ⟨hg, by rw [hr]; exact ⟨obAnd_ob h, rfl⟩⟩) (obAnd_k h)
      · rename_i kill t size nn xs ob hr
        exact go _ (.inr ⟨hg, by rw [hr]; exact ⟨obAnd_ob h, rfl⟩⟩) (obAnd_k h)
      · rename_i f args r hr
        exact go _ (.inr ⟨hg, by rw [hr]; exact ⟨h.1, rfl⟩⟩) h.2
      · rename_i f i r hr
        exact go _ (.inr ⟨hg, by rw [hr]; exact ⟨h.1, rfl⟩⟩) h.2
      · exact nomatch h
    · rename_i hg
      exact go _ (.inl ⟨hg, rfl⟩) h
    · exact nomatch h

def runE (n : Nat) : St → List Oper → List Ent → Nat → St
  | st, o :: l, en :: es, k + 1 => runE n (applyE n st o en) l es k
  | st, _, _, _ => st
theorem runE_zero {st : St} {l : List Oper} {es : List Ent} : runE n st l es 0 = st := by
  cases l <;> cases es <;> rfl
theorem runE_succ : ∀ {l : List Oper} {es : List Ent} {st : St} {k : Nat} {o : Oper} {en : Ent}, l[k]? = some o → es[k]? = some en → runE n st l es (k + 1) = applyE n (runE n st l es k) o en
  | o :: l, en :: es, st, 0, o', en', ho, he => by
    have ho : o = o' := by simpa using ho
    have he : en = en' := by simpa using he
    subst ho; subst he
    rw [runE_zero]
    exact runE_zero
  | o :: l, en :: es, st, k + 1, o', en', ho, he => by
    show runE n (applyE n st o en) l es (k + 1) = applyE n (runE n (applyE n st o en) l es k) o' en'
    exact runE_succ (by simpa using ho) (by simpa using he)
  | [], _, _, _, _, _, ho, _ => by simp at ho
  | _ :: _, [], _, _, _, _, _, he => by simp at he
theorem lex_spec : ∀ {l : List Oper} {st : St} {es : List Ent} {st' : St}, Lex P H n w0 ops l st es st' → es.length = l.length ∧ (∀ k o en, l[k]? = some o → es[k]? = some en → EntOk P H w0 ops (runE n st l es k) o en) ∧ runE n st l es l.length = st'
  | [], st, es, st', h => by
    obtain ⟨rfl, rfl⟩ := h
    exact ⟨rfl, fun k o en ho => by simp at ho, rfl⟩
  | o :: l, st, es, st', h => by
    obtain ⟨en, es', rfl, he, h'⟩ := h
    obtain ⟨h1, h2, h3⟩ := lex_spec h'
    refine ⟨by simp [h1], fun k o' en' ho' he' => ?_, h3⟩
    cases k with
    | zero =>
      have ho' : o = o' := by simpa using ho'
      have he' : en = en' := by simpa using he'
      subst ho'; subst he'
      exact he
    | succ k => exact h2 k o' en' (by simpa using ho') (by simpa using he')
end

/-! ### What a slot, a block holds when some operations have come up -/
def idxOf {α : Type} (p : α → Bool) : List α → Option Nat
  | [] => none
  | x :: r => match p x with
    | true => some 0
    | false => (idxOf p r).map Nat.succ
theorem idxOf_some {α : Type} {p : α → Bool} : ∀ {l : List α} {k : Nat}, idxOf p l = some k → ∃ x, l[k]? = some x ∧ p x = true
  | x :: r, k, h => by
    unfold idxOf at h
    split at h
    · rename_i hp
      have : k = 0 := by simpa using h.symm
      subst this
      exact ⟨x, rfl, hp⟩
    · cases hr : idxOf p r with
      | none => rw [hr] at h; cases h
      | some j =>
        rw [hr] at h
        have : k = j + 1 := by simpa using h.symm
        subst this
        obtain ⟨y, hy, hp⟩ := idxOf_some hr
        exact ⟨y, by simpa using hy, hp⟩
theorem idxOf_none {α : Type} {p : α → Bool} : ∀ {l : List α}, idxOf p l = none → ∀ x ∈ l, p x = false
  | x :: r, h, y, hy => by
    unfold idxOf at h
    split at h
    · cases h
    · rename_i hp
      rcases List.mem_cons.1 hy with rfl | hy
      · exact hp
      · refine idxOf_none (l := r) ?_ y hy
        cases hr : idxOf p r with
        | none => rfl
        | some j => rw [hr] at h; cases h
def isDst (t : Nat) (o : Oper) : Bool := match o.dst with
  | some d => Nat.beq d t
  | none => false
def isNew (b : Nat) (en : Ent) : Bool := match en.nw with
  | some (i, _) => Nat.beq i b
  | none => false
def isWr (b : Nat) (en : Ent) : Bool := match en.wr with
  | some (i, _) => Nat.beq i b
  | none => false
theorem isDst_iff {t : Nat} {o : Oper} : isDst t o = true ↔ o.dst = some t := by
  unfold isDst
  split
  · rename_i d hd
    rw [hd]
    constructor
    · intro h; rw [Nat.eq_of_beq_eq_true h]
    · intro h; rw [Option.some.inj h]; exact Nat.beq_refl t
  · rename_i hd; rw [hd]; simp
theorem isNew_iff {b : Nat} {en : Ent} : isNew b en = true ↔ ∃ r, en.nw = some (b, r) := by
  unfold isNew
  split
  · rename_i i r hd
    rw [hd]
    constructor
    · intro h; exact ⟨r, by rw [Nat.eq_of_beq_eq_true h]⟩
    · rintro ⟨r', h⟩
      have : i = b := by injection h with h; injection h
      rw [this]; exact Nat.beq_refl b
  · rename_i hd; rw [hd]; simp
theorem isWr_iff {b : Nat} {en : Ent} : isWr b en = true ↔ ∃ r, en.wr = some (b, r) := by
  unfold isWr
  split
  · rename_i i r hd
    rw [hd]
    constructor
    · intro h; exact ⟨r, by rw [Nat.eq_of_beq_eq_true h]⟩
    · rintro ⟨r', h⟩
      have : i = b := by injection h with h; injection h
      rw [this]; exact Nat.beq_refl b
  · rename_i hd; rw [hd]; simp

section
variable (l : List Oper) (st : St) (es : List Ent)
def fLook (L : Nat → Bool) (t : Nat) : Option SV := match idxOf (isDst t) l with
  | none => look st.fr t
  | some k => if L k then (es[k]?).bind (·.sv.known) else look st.fr t
def fBase (L : Nat → Bool) (b : Nat) : Option Row := match idxOf (isNew b) es with
  | none => st.mem[b]?
  | some k => if L k then ((es[k]?).bind (·.nw)).map (·.2) else none
def fRow (L : Nat → Bool) (b : Nat) : Option Row := match idxOf (isWr b) es with
  | none => fBase st es L b
  | some s => if L s then ((es[s]?).bind (·.wr)).map (·.2) else fBase st es L b
end

/-- Operation i comes behind k (or before it) in every order, as it does in the text. -/
def waitsB (l : List Oper) (i k : Nat) : Bool := match l[i]? with
  | some o => o.after.toList.any fun e => Region.binds .any e && Nat.beq e.on k
  | none => false
def settledB (l : List Oper) (i k : Nat) : Bool := match Nat.blt k i with
  | true => waitsB l i k
  | false => match Nat.beq k i with
    | true => true
    | false => waitsB l k i
def settledO (l : List Oper) (i : Nat) : Option Nat → Bool
  | none => true
  | some k => settledB l i k
/-- The whole test, of one operation. -/
def opB (l : List Oper) (es : List Ent) (n : Nat) (k : Nat) (o : Oper) (en : Ent) : Bool :=
  (o.after.toList.all fun e => !Region.binds .any e || Nat.blt e.on k) &&
  (match o.dst with
    | some t => Nat.blt t n && idxOf (isDst t) l == some k
    | none => true) &&
  ((o.looksAt l.toArray).all fun t => settledO l k (idxOf (isDst t) l)) &&
  (en.tch.all fun b => settledO l k (idxOf (isNew b) es) && settledO l k (idxOf (isWr b) es)) &&
  (match en.nw with
    | some (b, _) => idxOf (isNew b) es == some k && (match idxOf (isWr b) es with
      | some s => Nat.blt k s
      | none => true)
    | none => true) &&
  (match en.wr with
    | some (b, _) => idxOf (isWr b) es == some k && (match idxOf (isNew b) es with
      | some c => Nat.blt c k
      | none => true)
    | none => true) &&
  (match o.op with
    | .select .. => false
    | _ => true)
def allBe (l : List Oper) (es : List Ent) (n : Nat) : Nat → List Oper → List Ent → Bool
  | k, o :: r, en :: er => match opB l es n k o en with
    | true => allBe l es n (k + 1) r er
    | false => false
  | _, [], [] => true
  | _, _, _ => false
theorem allBe_spec {l : List Oper} {es : List Ent} {n : Nat} : ∀ {r : List Oper} {er : List Ent} {k0 : Nat}, allBe l es n k0 r er = true → ∀ k o en, r[k]? = some o → er[k]? = some en → opB l es n (k0 + k) o en = true
  | o :: r, en :: er, k0, h, k, o', en', ho, he => by
    unfold allBe at h
    split at h
    · rename_i hb
      cases k with
      | zero =>
        have ho : o = o' := by simpa using ho
        have he : en = en' := by simpa using he
        subst ho; subst he
        exact hb
      | succ k =>
        have := allBe_spec h k o' en' (by simpa using ho) (by simpa using he)
        rwa [show k0 + (k + 1) = k0 + 1 + k by omega]
    · cases h
  | [], _, _, _, _, _, _, ho, _ => by simp at ho
  | _ :: _, [], _, _, _, _, _, _, he => by simp at he

structure Okb (l : List Oper) (es : List Ent) (n : Nat) (k : Nat) (o : Oper) (en : Ent) : Prop where
  down : ∀ e ∈ o.after, Region.binds .any e = true → e.on < k
  dst : ∀ t, o.dst = some t → t < n ∧ idxOf (isDst t) l = some k
  looks : ∀ t ∈ o.looksAt l.toArray, settledO l k (idxOf (isDst t) l) = true
  tch : ∀ b ∈ en.tch, settledO l k (idxOf (isNew b) es) = true ∧ settledO l k (idxOf (isWr b) es) = true
  nw : ∀ b r, en.nw = some (b, r) → idxOf (isNew b) es = some k ∧ ∀ s, idxOf (isWr b) es = some s → k < s
  wr : ∀ b r, en.wr = some (b, r) → idxOf (isWr b) es = some k ∧ ∀ c, idxOf (isNew b) es = some c → c < k
  nosel : ∀ cs b, o.op ≠ .select cs b
theorem opB_spec {l : List Oper} {es : List Ent} {n k : Nat} {o : Oper} {en : Ent} (h : opB l es n k o en = true) : Okb l es n k o en := by
  unfold opB at h
  simp only [Bool.and_eq_true] at h
  obtain ⟨⟨⟨⟨⟨⟨h1, h2⟩, h3⟩, h4⟩, h5⟩, h6⟩, h7⟩ := h
  refine ⟨fun e he hb => ?_, fun t ht => ?_, fun t ht => ?_, fun b hb => ?_, fun b r hb => ?_, fun b r hb => ?_, fun cs b hs => ?_⟩
  · have := List.all_eq_true.1 h1 e (by simpa using he)
    rw [hb] at this
    exact Nat.le_of_ble_eq_true (show Nat.blt e.on k = true by simpa only [Bool.not_true, Bool.false_or] using this)
  · rw [ht] at h2
    simp only [Bool.and_eq_true] at h2
    exact ⟨Nat.le_of_ble_eq_true h2.1, by simpa using h2.2⟩
  · exact List.all_eq_true.1 h3 t ht
  · simpa only [Bool.and_eq_true] using List.all_eq_true.1 h4 b hb
  · rw [hb] at h5
    simp only [Bool.and_eq_true] at h5
    refine ⟨by simpa using h5.1, fun s hs => ?_⟩
    have := h5.2
    rw [hs] at this
    exact Nat.le_of_ble_eq_true this
  · rw [hb] at h6
    simp only [Bool.and_eq_true] at h6
    refine ⟨by simpa using h6.1, fun c hc => ?_⟩
    have := h6.2
    rw [hc] at this
    exact Nat.le_of_ble_eq_true this
  · rw [hs] at h7
    cases h7
end Sx
end Go.Proofs.YtgpiapmbbnngpaaGreatDoor

/- A walk by reckoning, part 5: every order of a region. Proved over any program. No condition of its own. -/
namespace Go.Proofs.YtgpiapmbbnngpaaGreatDoor
open Go Go.RowKit Go.Lib Go.Sort

namespace Sx
section
variable {P : Program} {H : List (Nat × Hint)} {n : Nat} {w0 : World} {l : List Oper} {es : List Ent} {st : St}

theorem dst_at {t k : Nat} (h : idxOf (isDst t) l = some k) : ∃ o, l[k]? = some o ∧ o.dst = some t := by
  obtain ⟨o, ho, hp⟩ := idxOf_some h
  exact ⟨o, ho, isDst_iff.1 hp⟩
theorem new_at {b k : Nat} (h : idxOf (isNew b) es = some k) : ∃ en r, es[k]? = some en ∧ en.nw = some (b, r) := by
  obtain ⟨en, ho, hp⟩ := idxOf_some h
  obtain ⟨r, hr⟩ := isNew_iff.1 hp
  exact ⟨en, r, ho, hr⟩
theorem wr_at {b k : Nat} (h : idxOf (isWr b) es = some k) : ∃ en r, es[k]? = some en ∧ en.wr = some (b, r) := by
  obtain ⟨en, ho, hp⟩ := idxOf_some h
  obtain ⟨r, hr⟩ := isWr_iff.1 hp
  exact ⟨en, r, ho, hr⟩
theorem fLook_congr {L L' : Nat → Bool} {t : Nat} (h : ∀ k, idxOf (isDst t) l = some k → L k = L' k) : fLook l st es L t = fLook l st es L' t := by
  unfold fLook
  cases hi : idxOf (isDst t) l with
  | none => rfl
  | some k => simp only [h k hi]
theorem fRow_congr {L L' : Nat → Bool} {b : Nat} (h1 : ∀ k, idxOf (isNew b) es = some k → L k = L' k) (h2 : ∀ k, idxOf (isWr b) es = some k → L k = L' k) : fRow st es L b = fRow st es L' b := by
  have hb : fBase st es L b = fBase st es L' b := by
    unfold fBase
    cases hi : idxOf (isNew b) es with
    | none => rfl
    | some k => simp only [h1 k hi]
  unfold fRow
  cases hi : idxOf (isWr b) es with
  | none => exact hb
  | some k => simp only [h2 k hi, hb]
/-- One more operation has come up. -/
def more (L : Nat → Bool) (i : Nat) (k : Nat) : Bool := L k || decide (k = i)
theorem more_ne {L : Nat → Bool} {i k : Nat} (h : k ≠ i) : more L i k = L k := by unfold more; simp [h]
theorem more_self {L : Nat → Bool} {i : Nat} : more L i i = true := by unfold more; simp
theorem fLook_more {L : Nat → Bool} {i t : Nat} {o : Oper} {en : Ent} (ho : l[i]? = some o) (he : es[i]? = some en) (hB : Okb l es n i o en) : fLook l st es (more L i) t = if o.dst = some t then en.sv.known else fLook l st es L t := by
  split
  · rename_i hd
    have := (hB.dst t hd).2
    unfold fLook
    simp only [this, more_self, if_true, he, Option.bind_some]
  · rename_i hd
    refine fLook_congr fun k hk => more_ne ?_
    rintro rfl
    obtain ⟨o', ho', hd'⟩ := dst_at hk
    rw [ho] at ho'
    cases ho'
    exact hd hd'
theorem fRow_more_other {L : Nat → Bool} {i b : Nat} {en : Ent} (he : es[i]? = some en) (h1 : ∀ r, en.nw ≠ some (b, r)) (h2 : ∀ r, en.wr ≠ some (b, r)) : fRow st es (more L i) b = fRow st es L b := by
  refine fRow_congr (fun k hk => more_ne ?_) (fun k hk => more_ne ?_)
  · rintro rfl
    obtain ⟨en', r, he', hr⟩ := new_at hk
    rw [he] at he'
    cases he'
    exact h1 r hr
  · rintro rfl
    obtain ⟨en', r, he', hr⟩ := wr_at hk
    rw [he] at he'
    cases he'
    exact h2 r hr
theorem fRow_more_new {L : Nat → Bool} {i b : Nat} {o : Oper} {en : Ent} {r : Row} (he : es[i]? = some en) (hB : Okb l es n i o en) (hn : en.nw = some (b, r)) (hs : ∀ s, idxOf (isWr b) es = some s → L s = false) : fRow st es (more L i) b = some r := by
  have hi := (hB.nw b r hn).1
  have hb : fBase st es (more L i) b = some r := by
    unfold fBase
    simp only [hi, more_self, if_true, he, Option.bind_some, hn, Option.map_some]
  unfold fRow
  cases hw : idxOf (isWr b) es with
  | none => exact hb
  | some s =>
    have hlt := (hB.nw b r hn).2 s hw
    simp only [more_ne (show s ≠ i by omega), hs s hw, Bool.false_eq_true, if_false, hb]
theorem fRow_more_wr {L : Nat → Bool} {i b : Nat} {o : Oper} {en : Ent} {r : Row} (he : es[i]? = some en) (hB : Okb l es n i o en) (hn : en.wr = some (b, r)) : fRow st es (more L i) b = some r := by
  have hi := (hB.wr b r hn).1
  unfold fRow
  simp only [hi, more_self, if_true, he, Option.bind_some, hn, Option.map_some]

/-- What the text's order has come to, as a function of its length. -/
def ltB (k j : Nat) : Bool := decide (j < k)
theorem ltB_succ (k : Nat) : ltB (k + 1) = more (ltB k) k := by
  funext j
  unfold ltB more
  rw [Bool.eq_iff_iff]
  simp
  omega
theorem ltB_zero : ltB 0 = fun _ => false := by funext j; simp [ltB]
theorem fLook_none {t : Nat} : fLook l st es (fun _ => false) t = look st.fr t := by
  unfold fLook
  cases idxOf (isDst t) l <;> simp
theorem fRow_none {b : Nat} (h : ∀ k, idxOf (isNew b) es = some k → st.mem[b]? = none) : fRow st es (fun _ => false) b = st.mem[b]? := by
  have hb : fBase st es (fun _ => false) b = st.mem[b]? := by
    unfold fBase
    cases hi : idxOf (isNew b) es with
    | none => rfl
    | some k => simp [h k hi]
  unfold fRow
  cases idxOf (isWr b) es <;> simp [hb]

theorem ent_nw {ops : Array Oper} {s : St} {o : Oper} {en : Ent} {b : Nat} {r : Row} (h : EntOk P H w0 ops s o en) (hn : en.nw = some (b, r)) : b = s.mem.length := by
  rcases h with ⟨_, rfl⟩ | ⟨hg, h⟩
  · cases hn
  · split at h
    · obtain ⟨_, rfl⟩ := h; cases hn
    · obtain ⟨_, rfl⟩ := h; cases hn
    · rename_i t cs ln hr
      subst h
      injection hn with hn
      injection hn with h1 h2
      exact h1.symm
    · obtain ⟨_, rfl⟩ := h; cases hn
    · obtain ⟨_, rfl⟩ := h; cases hn
    · obtain ⟨_, rfl⟩ := h
      injection hn with hn
      injection hn with h1 h2
      exact h1.symm
    · rename_i f args r' hr
      obtain ⟨_, rfl⟩ := h
      cases hrr : retRow r' with
      | none => simp [hrr] at hn
      | some row' =>
        simp only [hrr, Option.map_some, Option.some.injEq, Prod.mk.injEq] at hn
        exact hn.1.symm
    · rename_i f i r' hr
      obtain ⟨_, rfl⟩ := h
      cases hrr : retRow r' with
      | none => simp [hrr] at hn
      | some row' =>
        simp only [hrr, Option.map_some, Option.some.injEq, Prod.mk.injEq] at hn
        exact hn.1.symm
    · exact h.elim
theorem ent_wr {ops : Array Oper} {s : St} {o : Oper} {en : Ent} {b : Nat} {r : Row} (h : EntOk P H w0 ops s o en) (hn : en.wr = some (b, r)) : b < s.mem.length ∧ b ∈ en.tch := by
  rcases h with ⟨_, rfl⟩ | ⟨hg, h⟩
  · cases hn
  · split at h
    · obtain ⟨_, rfl⟩ := h; cases hn
    · obtain ⟨_, rfl⟩ := h; cases hn
    · subst h; cases hn
    · rename_i i r' ob hr
      obtain ⟨_, rfl⟩ := h
      injection hn with hn
      injection hn with h1 h2
      subst h1; subst h2
      obtain ⟨ht, _, r0, h0, _⟩ := store_touch hr
      exact ⟨(List.getElem?_eq_some_iff.1 h0).1, ht⟩
    · rename_i i r' ob hr
      obtain ⟨_, rfl⟩ := h
      injection hn with hn
      injection hn with h1 h2
      subst h1; subst h2
      obtain ⟨ht, r0, h0, _⟩ := storeO_touch hr
      exact ⟨(List.getElem?_eq_some_iff.1 h0).1, ht⟩
    · rename_i kill t size nn xs ob hr
      obtain ⟨_, rfl⟩ := h
      cases kill with
      | none => cases hn
      | some i =>
        simp only [Option.map_some, Option.some.injEq, Prod.mk.injEq] at hn
        obtain ⟨rfl, _⟩ := hn
        obtain ⟨ht, r0, h0, _⟩ := grow_touch hr
        exact ⟨(List.getElem?_eq_some_iff.1 h0).1, ht⟩
    · obtain ⟨_, rfl⟩ := h; cases hn
    · rename_i f i r' hr
      obtain ⟨hcl, rfl⟩ := h
      injection hn with hn
      injection hn with h1 h2
      subst h1
      obtain ⟨r0, h0, _⟩ := argK_row (hcl w0 (Chg.refl _ _))
      exact ⟨(List.getElem?_eq_some_iff.1 h0).1, (callK_touch hr).1⟩
    · exact h.elim

theorem applyE_mem {s : St} {o : Oper} {en : Ent} : (applyE n s o en).mem = memOf s.mem en := by
  unfold applyE St.put
  cases o.dst with
  | none => rfl
  | some d => cases hb : Nat.blt d n <;> simp [hb]
variable {ops : Array Oper} (hlen : es.length = l.length) (hB : ∀ k o en, l[k]? = some o → es[k]? = some en → Okb l es n k o en) (hE : ∀ k o en, l[k]? = some o → es[k]? = some en → EntOk P H w0 ops (runE n st l es k) o en)
include hlen hB hE

omit hB hE in
theorem mem_len : ∀ k, k ≤ l.length → st.mem.length ≤ (runE n st l es k).mem.length := by
  intro k
  induction k with
  | zero => intro _; rw [runE_zero]; exact Nat.le_refl _
  | succ k ih =>
    intro hk
    obtain ⟨o, ho⟩ : ∃ o, l[k]? = some o := ⟨_, List.getElem?_eq_getElem (by omega)⟩
    obtain ⟨en, he⟩ : ∃ en, es[k]? = some en := ⟨_, List.getElem?_eq_getElem (by omega)⟩
    rw [runE_succ ho he]
    have := ih (by omega)
    rw [applyE_mem]
    unfold memOf
    split
    · rw [List.length_append, wrOf_length]; omega
    · rw [wrOf_length]; omega
omit hE in
theorem look_at : ∀ k, k ≤ l.length → ∀ t, look (runE n st l es k).fr t = fLook l st es (ltB k) t := by
  intro k
  induction k with
  | zero => intro _ t; rw [runE_zero, ltB_zero, fLook_none]
  | succ k ih =>
    intro hk t
    obtain ⟨o, ho⟩ : ∃ o, l[k]? = some o := ⟨_, List.getElem?_eq_getElem (by omega)⟩
    obtain ⟨en, he⟩ : ∃ en, es[k]? = some en := ⟨_, List.getElem?_eq_getElem (by omega)⟩
    rw [runE_succ ho he, ltB_succ, fLook_more ho he (hB k o en ho he), ← ih (by omega) t]
    unfold applyE St.put
    cases hd : o.dst with
    | none => simp
    | some d =>
      have : Nat.blt d n = true := Nat.ble_eq_true_of_le ((hB k o en ho he).dst d hd).1
      simp only [this, look_put, Option.some.injEq]
theorem row_at : ∀ k, k ≤ l.length → ∀ b : Nat, (runE n st l es k).mem[b]? = fRow st es (ltB k) b := by
  have fresh : ∀ b k : Nat, idxOf (isNew b) es = some k → st.mem[b]? = none := by
    intro b k hk
    obtain ⟨en, r, he, hr⟩ := new_at hk
    have hkl : k < l.length := by rw [← hlen]; exact (List.getElem?_eq_some_iff.1 he).1
    have hb := ent_nw (hE k _ en (List.getElem?_eq_getElem hkl) he) hr
    have := mem_len (n := n) (st := st) hlen k (by omega)
    exact List.getElem?_eq_none (by omega)
  intro k
  induction k with
  | zero => intro _ b; rw [runE_zero, ltB_zero, fRow_none (fresh b)]
  | succ k ih =>
    intro hk b
    obtain ⟨o, ho⟩ : ∃ o, l[k]? = some o := ⟨_, List.getElem?_eq_getElem (by omega)⟩
    obtain ⟨en, he⟩ : ∃ en, es[k]? = some en := ⟨_, List.getElem?_eq_getElem (by omega)⟩
    have ih := ih (by omega)
    have hbk := hB k o en ho he
    have hek := hE k o en ho he
    rw [runE_succ ho he, ltB_succ]
    rw [applyE_mem]
    have hwr : ∀ b, (∀ r, en.nw ≠ some (b, r)) → (wrOf (runE n st l es k).mem en)[b]? = fRow st es (more (ltB k) k) b := by
      intro b hnb
      unfold wrOf
      cases hw : en.wr with
      | some p =>
        obtain ⟨i, r⟩ := p
        obtain ⟨hil, _⟩ := ent_wr hek hw
        simp only [List.getElem?_set]
        by_cases hbi : i = b
        · subst hbi
          rw [if_pos rfl, if_pos hil, fRow_more_wr he hbk hw]
        · rw [if_neg hbi, fRow_more_other he hnb (fun r' h => by rw [hw] at h; injection h with h; injection h with h _; exact hbi h), ih b]
      | none =>
        simp only
        rw [fRow_more_other he hnb (fun r' h => by rw [hw] at h; cases h), ih b]
    unfold memOf
    cases hn : en.nw with
    | some p =>
      obtain ⟨m, r⟩ := p
      have hml := ent_nw hek hn
      simp only
      by_cases hbm : b = m
      · subst hbm
        rw [fRow_more_new he hbk hn (fun s hs => by have := (hbk.nw _ _ hn).2 s hs; simp [ltB]; omega), hml, ← wrOf_length (en := en), List.getElem?_append_right (Nat.le_refl _)]
        simp
      · rw [← hwr b (fun r' h => by rw [hn] at h; injection h with h; injection h with h _; exact hbm h.symm)]
        rcases Nat.lt_or_ge b (wrOf (runE n st l es k).mem en).length with hlt | hge
        · rw [List.getElem?_append_left hlt]
        · rw [List.getElem?_eq_none (by rw [wrOf_length] at hge; simp [wrOf_length]; omega), List.getElem?_eq_none hge]
    | none =>
      simp only
      exact hwr b (fun r' h => by rw [hn] at h; cases h)
end

/-- What holds when some operations have come up, in whatever order. -/
structure OInv (w0 : World) (n : Nat) (l : List Oper) (es : List Ent) (st : St) (L : Nat → Bool) (β : Env) (a : Act) (w : World) : Prop where
  size : a.tmps.size = n
  dn : a.defers = []
  get : ∀ t sv, fLook l st es L t = some sv → a.tmps[t]? = some (sv.den β)
  blk : ∀ (b : Nat) (r : Row), fRow st es L b = some r → Held β w b r
  new : ∀ (b : Nat) (r : Row) (k : Nat), fRow st es L b = some r → rowBlk β b r = some k → w0.heap.size ≤ k
  inj : ∀ (b c : Nat) (r r' : Row) (k : Nat), fRow st es L b = some r → fRow st es L c = some r' → rowBlk β b r = some k → rowBlk β c r' = some k → b = c
  chg : Chg [] w0 w
  wfS : ∀ t sv, fLook l st es L t = some sv → sv.on (fun b => ∃ r, fRow st es L b = some r)
  wfR : ∀ (b : Nat) (r : Row), fRow st es L b = some r → r.cs.on (fun b => ∃ r, fRow st es L b = some r)
  down : ∀ k o, l[k]? = some o → L k = true → ∀ e ∈ o.after, Region.binds .any e = true → L e.on = true

section
variable {P : Program} {H : List (Nat × Hint)} {n : Nat} {w0 : World} {l : List Oper} {es : List Ent} {st : St} {L : Nat → Bool} {β : Env} {a : Act} {w : World} {i : Nat} {o : Oper} {en : Ent}
theorem waits_spec {j k : Nat} (h : waitsB l j k = true) : ∃ oj, l[j]? = some oj ∧ ∃ e ∈ oj.after, Region.binds .any e = true ∧ e.on = k := by
  unfold waitsB at h
  split at h
  · rename_i oj hoj
    obtain ⟨e, he, hb⟩ := List.any_eq_true.1 h
    simp only [Bool.and_eq_true] at hb
    exact ⟨oj, hoj, e, by simpa using he, hb.1, Nat.eq_of_beq_eq_true hb.2⟩
  · cases h
theorem settled_spec (hI : OInv w0 n l es st L β a w) (ho : l[i]? = some o) (hL : L i = false) (hr : ∀ e ∈ o.after, Region.binds .any e = true → L e.on = true) {k : Nat} (hs : settledB l i k = true) : L k = ltB i k := by
  unfold settledB at hs
  unfold ltB
  split at hs
  · rename_i hlt
    have hlt : k < i := Nat.le_of_ble_eq_true hlt
    obtain ⟨oi, hoi, e, he, hb, hon⟩ := waits_spec hs
    rw [ho] at hoi
    cases hoi
    have := hr e he hb
    rw [hon] at this
    rw [this]; simp [hlt]
  · rename_i hlt
    have hlt : ¬ k < i := fun h => by rw [show Nat.blt k i = true from Nat.ble_eq_true_of_le h] at hlt; cases hlt
    split at hs
    · rename_i heq
      rw [Nat.eq_of_beq_eq_true heq, hL]; simp
    · obtain ⟨ok, hok, e, he, hb, hon⟩ := waits_spec hs
      cases hLk : L k with
      | false => simp [hlt]
      | true =>
        have := hI.down k ok hok hLk e he hb
        rw [hon, hL] at this
        cases this
theorem OInv.next_same (hI : OInv w0 n l es st L β a w) (ho : l[i]? = some o) (he : es[i]? = some en) (hB : Okb l es n i o en) (hr : ∀ e ∈ o.after, Region.binds .any e = true → L e.on = true)
    {w' : World} (hc : Chg [] w w') (h1 : en.nw = none) (h2 : en.wr = none) (hs : en.sv.on (fun b => ∃ r, fRow st es L b = some r)) : OInv w0 n l es st (more L i) β (a.put o.dst (en.sv.den β)) w' := by
  have row : ∀ b, fRow st es (more L i) b = fRow st es L b := fun b => fRow_more_other he (fun r h => by rw [h1] at h; cases h) (fun r h => by rw [h2] at h; cases h)
  refine ⟨?_, ?_, fun t sv ht => ?_, fun b r hb => ?_, fun b r k hb hk => ?_, fun b c r r' k hb hc' hk hk' => ?_, hI.chg.trans hc, fun t sv ht => ?_, fun b r hb => ?_, fun k ok hok hk e hee hb => ?_⟩
  · cases o.dst <;> simp [Act.put, hI.size]
  · cases o.dst <;> simp [Act.put, hI.dn]
  · rw [fLook_more ho he hB] at ht
    split at ht
    · rename_i hd
      rw [hd, get_put (by rw [hI.size]; exact (hB.dst t hd).1), if_pos rfl, known_some ht]
    · rename_i hd
      cases hd' : o.dst with
      | none => exact hI.get t sv ht
      | some d =>
        rw [get_put (by rw [hI.size]; exact (hB.dst d hd').1), if_neg (fun h => hd (by rw [hd', h]))]
        exact hI.get t sv ht
  · rw [row] at hb; exact (hI.blk b r hb).chg hc (fun _ _ => by simp)
  · rw [row] at hb; exact hI.new b r k hb hk
  · rw [row] at hb hc'; exact hI.inj b c r r' k hb hc' hk hk'
  · rw [fLook_more ho he hB] at ht
    split at ht
    · rw [known_some ht]; exact SV.on_mono (fun b hb => by rw [row]; exact hb) hs
    · exact SV.on_mono (fun b hb => by rw [row]; exact hb) (hI.wfS t sv ht)
  · rw [row] at hb; exact Cells.on_mono (fun b hb => by rw [row]; exact hb) (hI.wfR b r hb)
  · by_cases hki : k = i
    · subst hki
      rw [ho] at hok
      cases hok
      have := hr e hee hb
      unfold more; rw [this]; rfl
    · rw [more_ne hki] at hk
      have := hI.down k ok hok hk e hee hb
      unfold more; rw [this]; rfl
theorem OInv.next_alloc (hI : OInv w0 n l es st L β a w) (ho : l[i]? = some o) (he : es[i]? = some en) (hB : Okb l es n i o en) (hr : ∀ e ∈ o.after, Region.binds .any e = true → L e.on = true)
    {m : Nat} {t : TypeId} {cs : Cells} {ln : Option Nat} (hf : (⟨t, cs⟩ : Row).fixed = true) (hn : en.nw = some (m, ⟨t, cs⟩)) (hw : en.wr = none) (hsv : en.sv = madeSV m ln) (hnot : fRow st es L m = none) (hs : ∀ s, idxOf (isWr m) es = some s → L s = false)
    (hcs : cs.on (fun b => ∃ r, fRow st es L b = some r)) : OInv w0 n l es st (more L i) (β.upd m w.heap.size) (a.put o.dst (madeV w.heap.size ln)) (w.alloc (.cells (cs.den β).toArray t)) := by
  have rowm : fRow st es (more L i) m = some ⟨t, cs⟩ := fRow_more_new he hB hn hs
  have row : ∀ b, b ≠ m → fRow st es (more L i) b = fRow st es L b := fun b hb => fRow_more_other he (fun r h => by rw [hn] at h; injection h with h; injection h with h _; exact hb h.symm) (fun r h => by rw [hw] at h; cases h)
  have live : ∀ b, (∃ r, fRow st es L b = some r) → b ≠ m := fun b ⟨r, h⟩ hb => by rw [hb, hnot] at h; cases h
  have same : β.same (β.upd m w.heap.size) (fun b => ∃ r, fRow st es L b = some r) := upd_lt.mono live
  have up : ∀ b, (∃ r, fRow st es L b = some r) → ∃ r, fRow st es (more L i) b = some r := fun b hb => by rw [row b (live b hb)]; exact hb
  have lt : ∀ b r k, fRow st es L b = some r → rowBlk β b r = some k → k < w.heap.size := fun b r k h hk => (hI.blk b r h).lt hk
  have at_ : ∀ b r, fRow st es (more L i) b = some r → (fRow st es L b = some r) ∨ (b = m ∧ r = ⟨t, cs⟩) := fun b r hb => by
    by_cases hbm : b = m
    · subst hbm; rw [rowm] at hb; cases hb; exact .inr ⟨rfl, rfl⟩
    · rw [row b hbm] at hb; exact .inl hb
  have blkm : rowBlk (β.upd m w.heap.size) m ⟨t, cs⟩ = some w.heap.size := by rw [rowBlk_fixed hf, upd_same]
  refine ⟨?_, ?_, fun u sv ht => ?_, fun b r hb => ?_, fun b r k hb hk => ?_, fun b c r r' k hb hc' hk hk' => ?_, hI.chg.alloc _, fun u sv ht => ?_, fun b r hb => ?_, fun k ok hok hk e hee hb => ?_⟩
  · cases o.dst <;> simp [Act.put, hI.size]
  · cases o.dst <;> simp [Act.put, hI.dn]
  · rw [fLook_more ho he hB] at ht
    split at ht
    · rename_i hd
      rw [hd, get_put (by rw [hI.size]; exact (hB.dst u hd).1), if_pos rfl, known_some ht, hsv, made_den]
    · rename_i hd
      rw [← SV.den_congr same (hI.wfS u sv ht)]
      cases hd' : o.dst with
      | none => exact hI.get u sv ht
      | some d =>
        rw [get_put (by rw [hI.size]; exact (hB.dst d hd').1), if_neg (fun h => hd (by rw [hd', h]))]
        exact hI.get u sv ht
  · rcases at_ b r hb with hb | ⟨rfl, rfl⟩
    · refine Held.congr same ⟨r, hb⟩ (hI.wfR b r hb) ((hI.blk b r hb).chg (S := []) ((Chg.refl [] w).alloc _) (fun _ _ => by simp))
    · refine Held.of_blk ?_ hf
      rw [upd_same, ← Cells.den_congr same hcs]
      exact Blk.new w t (cs.den β).toArray
  · rcases at_ b r hb with hb | ⟨rfl, rfl⟩
    · rw [← rowBlk_congr same ⟨r, hb⟩] at hk; exact hI.new b r k hb hk
    · rw [blkm] at hk; cases hk; exact hI.chg.size
  · rcases at_ b r hb with hb | ⟨rfl, rfl⟩
    · rw [← rowBlk_congr same ⟨r, hb⟩] at hk
      rcases at_ c r' hc' with hc' | ⟨rfl, rfl⟩
      · rw [← rowBlk_congr same ⟨r', hc'⟩] at hk'; exact hI.inj b c r r' k hb hc' hk hk'
      · rw [blkm] at hk'; cases hk'
        exact absurd (lt b r _ hb hk) (Nat.lt_irrefl _)
    · rcases at_ c r' hc' with hc' | ⟨rfl, rfl⟩
      · rw [blkm] at hk; cases hk
        rw [← rowBlk_congr same ⟨r', hc'⟩] at hk'
        exact absurd (lt c r' _ hc' hk') (Nat.lt_irrefl _)
      · rfl
  · rw [fLook_more ho he hB] at ht
    split at ht
    · rw [known_some ht, hsv]; exact made_on ⟨_, rowm⟩
    · exact SV.on_mono up (hI.wfS u sv ht)
  · rcases at_ b r hb with hb | ⟨rfl, rfl⟩
    · exact Cells.on_mono up (hI.wfR b r hb)
    · exact Cells.on_mono up hcs
  · by_cases hki : k = i
    · subst hki
      rw [ho] at hok
      cases hok
      have := hr e hee hb
      unfold more; rw [this]; rfl
    · rw [more_ne hki] at hk
      have := hI.down k ok hok hk e hee hb
      unfold more; rw [this]; rfl
theorem OInv.next_grow (hI : OInv w0 n l es st L β a w) (ho : l[i]? = some o) (he : es[i]? = some en) (hB : Okb l es n i o en) (hr : ∀ e ∈ o.after, Region.binds .any e = true → L e.on = true)
    {m : Nat} {kill : Option Nat} {A : Option Addr} {T size nn cc : Nat} {xs : List Value} {S : List Nat} {w' : World} (hn : en.nw = some (m, ⟨T, .own size nn xs⟩)) (hw : en.wr = kill.map (·, deadRow)) (hnot : fRow st es L m = none) (hs : ∀ s, idxOf (isWr m) es = some s → L s = false)
    (hown : Own w' T size (.slice A nn cc) nn xs) (hc : Chg S w w') (hS : ∀ k ∈ S, ∃ i r0, kill = some i ∧ fRow st es L i = some r0 ∧ rowBlk β i r0 = some k) (hA : ∀ k, A.map (·.block) = some k → k ∈ S ∨ w.heap.size ≤ k)
    (hsv : en.sv.on (· = m)) : OInv w0 n l es st (more L i) (β.updS m A nn cc) (a.put o.dst (en.sv.den (β.updS m A nn cc))) w' := by
  have rowm : fRow st es (more L i) m = some ⟨T, .own size nn xs⟩ := fRow_more_new he hB hn hs
  have live : ∀ b, (∃ r, fRow st es L b = some r) → b ≠ m := fun b ⟨r, h⟩ hb => by rw [hb, hnot] at h; cases h
  have same : β.same (β.updS m A nn cc) (fun b => ∃ r, fRow st es L b = some r) := updS_lt.mono live
  have rowk : ∀ b, kill = some b → fRow st es (more L i) b = some deadRow := fun b hb => fRow_more_wr he hB (by rw [hw, hb]; rfl)
  have row : ∀ b, b ≠ m → kill ≠ some b → fRow st es (more L i) b = fRow st es L b := fun b hb hk => fRow_more_other he (fun r h => by rw [hn] at h; injection h with h; injection h with h _; exact hb h.symm) (fun r h => by
    rw [hw] at h
    cases kill with
    | none => cases h
    | some j =>
      simp only [Option.map_some, Option.some.injEq, Prod.mk.injEq] at h
      exact hk (by rw [h.1]))
  have up : ∀ b, (∃ r, fRow st es L b = some r) → ∃ r, fRow st es (more L i) b = some r := fun b hb => by
    by_cases hk : kill = some b
    · exact ⟨_, rowk b hk⟩
    · rw [row b (live b hb) hk]; exact hb
  have at_ : ∀ b r, fRow st es (more L i) b = some r → (kill ≠ some b ∧ fRow st es L b = some r) ∨ r = deadRow ∨ (b = m ∧ r = ⟨T, .own size nn xs⟩) := fun b r hb => by
    by_cases hbm : b = m
    · subst hbm; rw [rowm] at hb; cases hb; exact .inr (.inr ⟨rfl, rfl⟩)
    · by_cases hk : kill = some b
      · rw [rowk b hk] at hb; cases hb; exact .inr (.inl rfl)
      · rw [row b hbm hk] at hb; exact .inl ⟨hk, hb⟩
  have new' : ∀ k, A.map (·.block) = some k → w0.heap.size ≤ k := fun k hk => by
    rcases hA k hk with hk | hk
    · obtain ⟨i, r0, _, h0, hb⟩ := hS k hk
      exact hI.new i r0 k h0 hb
    · exact Nat.le_trans hI.chg.size hk
  have apart : ∀ (b : Nat) (r : Row) (k : Nat), kill ≠ some b → fRow st es L b = some r → rowBlk β b r = some k → A.map (·.block) ≠ some k := fun b r k hki hi hk hk' => by
    rcases hA k hk' with hk' | hk'
    · obtain ⟨j, r0, hj, h0, hb⟩ := hS k hk'
      have := hI.inj b j r r0 k hi h0 hk hb
      subst this
      exact hki hj
    · have := (hI.blk b r hi).lt hk
      omega
  refine ⟨?_, ?_, fun u sv ht => ?_, fun b r hb => ?_, fun b r k hb hk => ?_, fun b c r r' k hb hc' hk hk' => ?_, hI.chg.seq hc (fun k hk => ?_), fun u sv ht => ?_, fun b r hb => ?_, fun k ok hok hk e hee hb => ?_⟩
  · cases o.dst <;> simp [Act.put, hI.size]
  · cases o.dst <;> simp [Act.put, hI.dn]
  · rw [fLook_more ho he hB] at ht
    split at ht
    · rename_i hd
      rw [hd, get_put (by rw [hI.size]; exact (hB.dst u hd).1), if_pos rfl, known_some ht]
    · rename_i hd
      rw [← SV.den_congr same (hI.wfS u sv ht)]
      cases hd' : o.dst with
      | none => exact hI.get u sv ht
      | some d =>
        rw [get_put (by rw [hI.size]; exact (hB.dst d hd').1), if_neg (fun h => hd (by rw [hd', h]))]
        exact hI.get u sv ht
  · rcases at_ b r hb with ⟨hk, hb⟩ | rfl | ⟨rfl, rfl⟩
    · refine Held.congr same ⟨r, hb⟩ (hI.wfR b r hb) ((hI.blk b r hb).chg hc fun k hkk hm => ?_)
      obtain ⟨j, r0, hj, h0, hbb⟩ := hS k hm
      have := hI.inj b j r r0 k hb h0 hkk hbb
      subst this
      exact hk hj
    · trivial
    · exact updS_held hown
  · rcases at_ b r hb with ⟨hkk, hb⟩ | rfl | ⟨rfl, rfl⟩
    · rw [← rowBlk_congr same ⟨r, hb⟩] at hk; exact hI.new b r k hb hk
    · cases hk
    · rw [updS_blk] at hk; exact new' k hk
  · rcases at_ b r hb with ⟨hkb, hb⟩ | rfl | ⟨rfl, rfl⟩
    · rw [← rowBlk_congr same ⟨r, hb⟩] at hk
      rcases at_ c r' hc' with ⟨hkc, hc'⟩ | rfl | ⟨rfl, rfl⟩
      · rw [← rowBlk_congr same ⟨r', hc'⟩] at hk'; exact hI.inj b c r r' k hb hc' hk hk'
      · cases hk'
      · rw [updS_blk] at hk'; exact absurd hk' (apart b r k hkb hb hk)
    · cases hk
    · rcases at_ c r' hc' with ⟨hkc, hc'⟩ | rfl | ⟨rfl, rfl⟩
      · rw [← rowBlk_congr same ⟨r', hc'⟩] at hk'
        rw [updS_blk] at hk
        exact absurd hk (apart c r' k hkc hc' hk')
      · cases hk'
      · rfl
  · obtain ⟨j, r0, _, h0, hb⟩ := hS k hk
    exact .inr (hI.new j r0 k h0 hb)
  · rw [fLook_more ho he hB] at ht
    split at ht
    · rw [known_some ht]; exact SV.on_mono (fun b hb => by rw [hb]; exact ⟨_, rowm⟩) hsv
    · exact SV.on_mono up (hI.wfS u sv ht)
  · rcases at_ b r hb with ⟨hkb, hb⟩ | rfl | ⟨rfl, rfl⟩
    · exact Cells.on_mono up (hI.wfR b r hb)
    · trivial
    · trivial
  · by_cases hki : k = i
    · subst hki
      rw [ho] at hok
      cases hok
      have := hr e hee hb
      unfold more; rw [this]; rfl
    · rw [more_ne hki] at hk
      have := hI.down k ok hok hk e hee hb
      unfold more; rw [this]; rfl
theorem OInv.next_store (hI : OInv w0 n l es st L β a w) (ho : l[i]? = some o) (he : es[i]? = some en) (hB : Okb l es n i o en) (hr : ∀ e ∈ o.after, Region.binds .any e = true → L e.on = true)
    {m : Nat} {r0 r1 : Row} {w' : World} (hn : en.nw = none) (hw : en.wr = some (m, r1)) (hsv : en.sv = .val undef) (hrow : fRow st es L m = some r0) (hblk : rowBlk β m r1 = rowBlk β m r0) (hb' : Held β w' m r1) (hc : Chg (rowBlk β m r0).toList w w')
    (hcs : r1.cs.on (fun b => ∃ r, fRow st es L b = some r)) : OInv w0 n l es st (more L i) β (a.put o.dst undef) w' := by
  have rowm : fRow st es (more L i) m = some r1 := fRow_more_wr he hB hw
  have row : ∀ b, b ≠ m → fRow st es (more L i) b = fRow st es L b := fun b hb => fRow_more_other he (fun r h => by rw [hn] at h; cases h) (fun r h => by rw [hw] at h; injection h with h; injection h with h _; exact hb h.symm)
  have up : ∀ b, (∃ r, fRow st es L b = some r) → ∃ r, fRow st es (more L i) b = some r := fun b hb => by
    by_cases hbm : b = m
    · rw [hbm]; exact ⟨_, rowm⟩
    · rw [row b hbm]; exact hb
  have dn : ∀ b r k, fRow st es (more L i) b = some r → rowBlk β b r = some k → ∃ r', fRow st es L b = some r' ∧ rowBlk β b r' = some k := fun b r k hb hk => by
    by_cases hbm : b = m
    · subst hbm
      rw [rowm] at hb
      cases hb
      exact ⟨_, hrow, by rw [← hblk]; exact hk⟩
    · rw [row b hbm] at hb; exact ⟨_, hb, hk⟩
  refine ⟨?_, ?_, fun u sv ht => ?_, fun b r hb => ?_, fun b r k hb hk => ?_, fun b c r r' k hbb hcc hk hk' => ?_, ?_, fun u sv ht => ?_, fun b r hb => ?_, fun k ok hok hk e hee hb => ?_⟩
  · cases o.dst <;> simp [Act.put, hI.size]
  · cases o.dst <;> simp [Act.put, hI.dn]
  · rw [fLook_more ho he hB] at ht
    split at ht
    · rename_i hd
      rw [hd, get_put (by rw [hI.size]; exact (hB.dst u hd).1), if_pos rfl, known_some ht, hsv]
      rfl
    · rename_i hd
      cases hd' : o.dst with
      | none => exact hI.get u sv ht
      | some d =>
        rw [get_put (by rw [hI.size]; exact (hB.dst d hd').1), if_neg (fun h => hd (by rw [hd', h]))]
        exact hI.get u sv ht
  · by_cases hbm : b = m
    · subst hbm
      rw [rowm] at hb
      cases hb
      exact hb'
    · rw [row b hbm] at hb
      refine (hI.blk b r hb).chg hc fun k hk hm => hbm ?_
      exact hI.inj b m r r0 _ hb hrow hk (by simpa using hm)
  · obtain ⟨r', h', hk'⟩ := dn b r k hb hk
    exact hI.new b r' k h' hk'
  · obtain ⟨x, hx, hkx⟩ := dn b r k hbb hk
    obtain ⟨y, hy, hky⟩ := dn c r' k hcc hk'
    exact hI.inj b c x y k hx hy hkx hky
  · exact hI.chg.seq hc (fun x hx => .inr (hI.new m r0 _ hrow (by simpa using hx)))
  · rw [fLook_more ho he hB] at ht
    split at ht
    · rw [known_some ht, hsv]; trivial
    · exact SV.on_mono up (hI.wfS u sv ht)
  · by_cases hbm : b = m
    · subst hbm
      rw [rowm] at hb
      cases hb
      exact Cells.on_mono up hcs
    · rw [row b hbm] at hb
      exact Cells.on_mono up (hI.wfR b r hb)
  · by_cases hki : k = i
    · subst hki
      rw [ho] at hok
      cases hok
      have := hr e hee hb
      unfold more; rw [this]; rfl
    · rw [more_ne hki] at hk
      have := hI.down k ok hok hk e hee hb
      unfold more; rw [this]; rfl
end
end Sx
end Go.Proofs.YtgpiapmbbnngpaaGreatDoor

/- A walk by reckoning, part 6: every order of a region, the end. Proved over any program. No condition of its own. -/
namespace Go.Proofs.YtgpiapmbbnngpaaGreatDoor
open Go Go.RowKit Go.Lib Go.Sort

namespace Sx
section
variable {P : Program} {H : List (Nat × Hint)} {n : Nat} {w0 : World} {l : List Oper} {es : List Ent} {st : St} {L : Nat → Bool} {β : Env} {a : Act} {w : World} {i : Nat} {o : Oper} {en : Ent} {Q : Exit → Act → World → Prop}
theorem guard_looks {ops : Array Oper} {fr : List (Nat × SV)} {b : Bool} (hget : ∀ t ∈ o.looksAt ops, ∀ sv, look fr t = some sv → a.tmps[t]? = some (sv.den β)) (hg : guardOf ops fr o = some b) : Region.wanted o (yielded ops a.tmps) = b := by
  unfold guardOf at hg
  unfold Region.wanted
  split at hg
  · rename_i hn; rw [hn]; simpa using hg
  · rename_i j b' hn
    rw [hn]
    split at hg
    · cases hg
    · rename_i oj hoj
      split at hg
      · cases hg
      · rename_i t ht
        split at hg
        · rename_i v hc
          have := hget t (by unfold Oper.looksAt; rw [hn]; simp [hoj, ht]) _ hc
          simp only [yielded, hoj, Option.bind_some, ht, this, SV.den]
          split at hg
          · rename_i c
            have hb : (c == b') = b := Option.some.inj hg
            rw [← hb]
            cases c <;> cases b' <;> rfl
          · rename_i hnb
            have hb : false = b := Option.some.inj hg
            rw [← hb]
            cases v <;> first | rfl | exact absurd rfl (hnb _)
        · cases hg
theorem any_step (hI : OInv w0 n l es st L β a w) (ho : l[i]? = some o) (he : es[i]? = some en) (hB : ∀ k o en, l[k]? = some o → es[k]? = some en → Okb l es n k o en) (hlen : es.length = l.length)
    (hE : ∀ k o en, l[k]? = some o → es[k]? = some en → EntOk P H w0 l.toArray (runE n st l es k) o en) (hL : L i = false) (hr : ∀ e ∈ o.after, Region.binds .any e = true → L e.on = true) {K : Act → World → Prop}
    (hK : ∀ β' a' w', OInv w0 n l es st (more L i) β' a' w' → K a' w') : wpOp P l.toArray Q i K a w := by
  have hil : i < l.length := (List.getElem?_eq_some_iff.1 ho).1
  have hb := hB i o en ho he
  have hent := hE i o en ho he
  have hlook := look_at (st := st) hlen hB i (by omega)
  have hrows := row_at (P := P) (H := H) (w0 := w0) (ops := l.toArray) (st := st) hlen hB hE i (by omega)
  have hlk : ∀ t ∈ o.looksAt l.toArray, look (runE n st l es i).fr t = fLook l st es L t := fun t ht => by
    rw [hlook]
    refine fLook_congr fun k hk => (settled_spec hI ho hL hr ?_).symm
    have := hb.looks t ht
    rw [hk] at this
    exact this
  have htmp : ∀ t, Operand.tmp t ∈ o.op.operands → t ∈ o.looksAt l.toArray := fun t ht => by
    unfold Oper.looksAt
    exact List.mem_append_left _ (List.mem_filterMap.2 ⟨.tmp t, by simpa using ht, rfl⟩)
  have hev : ∀ x ∈ o.op.operands, ∀ sv, ev (runE n st l es i).fr x = some sv → a.eval x = sv.den β ∧ sv.on (fun b => ∃ r, fRow st es L b = some r) := by
    intro x hx sv hsv
    cases x with
    | tmp t =>
      have h1 : fLook l st es L t = some sv := by rw [← hlk t (htmp t hx)]; exact hsv
      exact ⟨by have := hI.get t sv h1; simp [Act.eval, this], hI.wfS t sv h1⟩
    | const v => simp only [ev, Option.some.injEq] at hsv; subst hsv; exact ⟨rfl, trivial⟩
    | global g => simp only [ev, Option.some.injEq] at hsv; subst hsv; exact ⟨rfl, trivial⟩
    | func f => simp only [ev, Option.some.injEq] at hsv; subst hsv; exact ⟨rfl, trivial⟩
  have hw : ∀ {b}, guardOf l.toArray (runE n st l es i).fr o = some b → Region.wanted o (yielded l.toArray a.tmps) = b := fun hg =>
    guard_looks (β := β) (fun t ht sv hsv => hI.get t sv (by rw [← hlk t ht]; exact hsv)) hg
  unfold wpOp
  have hio : l.toArray[i]? = some o := by simpa using ho
  simp only [hio]
  rcases hent with ⟨hg, rfl⟩ | ⟨hg, hent⟩
  · rw [hw hg, if_neg (by decide)]
    exact hK _ _ _ (hI.next_same ho he hb hr (Chg.refl _ _) rfl rfl trivial)
  · rw [hw hg, if_pos rfl]
    refine .inl ?_
    have hrow : en.tch = touches (ev (runE n st l es i).fr) o → ∀ b r, b ∈ touches (ev (runE n st l es i).fr) o → rowAt (runE n st l es i).mem b = some r → fRow st es L b = some r := by
      intro htc b r ht hrb
      have hset := hb.tch b (by rw [htc]; exact ht)
      have : (runE n st l es i).mem[b]? = some r := hrb
      rw [hrows] at this
      rw [← this]
      refine fRow_congr (fun k hk => settled_spec hI ho hL hr ?_) (fun k hk => settled_spec hI ho hL hr ?_)
      · have := hset.1
        rw [hk] at this
        exact this
      · have := hset.2
        rw [hk] at this
        exact this
    have hok := fun htc => op_ok (P := P) (w0 := w0) (H := H) (β := β) (W := w) (a := a) (o := o) (e := ev (runE n st l es i).fr) (row := rowAt (runE n st l es i).mem) (hn := hint H o.dst) hI.chg (fun x hx sv hsv => (hev x hx sv hsv).1) (fun b r ht hrb => hI.blk b r (hrow htc b r ht hrb))
    have hon := fun htc => op_on (P := P) (w0 := w0) (H := H) (o := o) (e := ev (runE n st l es i).fr) (row := rowAt (runE n st l es i).mem) (hn := hint H o.dst) (Q := fun b => ∃ r, fRow st es L b = some r) (fun x hx sv hsv => (hev x hx sv hsv).2) (fun b r ht hrb => hI.wfR b r (hrow htc b r ht hrb))
    have hwr : ∀ row', en.nw = some ((runE n st l es i).mem.length, row') → ∀ s, idxOf (isWr (runE n st l es i).mem.length) es = some s → L s = false := fun row' hn s hs => by
      have hnw := hb.nw _ _ hn
      obtain ⟨ens, r', hes, hwr⟩ := wr_at hs
      have hsl : s < l.length := by rw [← hlen]; exact (List.getElem?_eq_some_iff.1 hes).1
      have hbs := hB s _ ens (List.getElem?_eq_getElem hsl) hes
      have htc := (ent_wr (hE s _ ens (List.getElem?_eq_getElem hsl) hes) hwr).2
      have hset := (hbs.tch _ htc).1
      rw [hnw.1] at hset
      have hlt := hnw.2 s hs
      have hset : settledB l s i = true := hset
      unfold settledB at hset
      rw [show Nat.blt i s = true from Nat.ble_eq_true_of_le hlt] at hset
      obtain ⟨os, hos, e, hee, hbi, hon⟩ := waits_spec hset
      cases hLs : L s with
      | false => rfl
      | true =>
        have := hI.down s os hos hLs e hee hbi
        rw [hon, hL] at this
        cases this
    have hnone : ∀ row', en.nw = some ((runE n st l es i).mem.length, row') → fRow st es L (runE n st l es i).mem.length = none := fun row' hn => by
      have hnw := hb.nw _ _ hn
      unfold fRow
      have hbase : fBase st es L (runE n st l es i).mem.length = none := by
        unfold fBase
        simp only [hnw.1, hL, Bool.false_eq_true, if_false]
      split
      · exact hbase
      · rename_i s hs
        rw [if_neg (by rw [hwr row' hn s hs]; decide)]
        exact hbase
    unfold Oper.wp
    split at hent
    · rename_i sv ob hres
      obtain ⟨hob, rfl⟩ := hent
      have hok := hok rfl
      have hon := hon rfl
      rw [hres] at hok hon
      rw [hok hob]
      exact hK _ _ _ (hI.next_same ho he hb hr (Chg.refl _ _) rfl rfl hon)
    · rename_i f args v hres
      obtain ⟨hc, rfl⟩ := hent
      have hok := hok rfl
      rw [hres] at hok
      rw [show (execOp a.eval o).run P w = _ from hok]
      refine (hc w hI.chg).mono fun e w' ⟨hev, hch⟩ => ?_
      subst hev
      exact hK _ _ _ (hI.next_same ho he hb hr hch rfl rfl trivial)
    · rename_i t cs ln hres
      have hf := alloc_fixed hres
      have hok := hok (by rw [hent])
      have hon := hon (by rw [hent])
      rw [hres] at hok hon
      rw [show (execOp a.eval o).run P w = _ from hok]
      have hn : en.nw = some ((runE n st l es i).mem.length, ⟨t, cs⟩) := by rw [hent]
      exact hK _ _ _ (hI.next_alloc ho he hb hr hf hn (by rw [hent]) (by rw [hent]) (hnone _ hn) (hwr _ hn) hon)
    · rename_i m r ob hres
      obtain ⟨hob, hent⟩ := hent
      have hok := hok (by rw [hent])
      have hon := hon (by rw [hent])
      rw [hres] at hok hon
      obtain ⟨w', hrun, hbk, hch⟩ := hok hob
      rw [hrun]
      obtain ⟨htt, hf, r0, hr0, hf0⟩ := store_touch hres
      exact hK _ _ _ (hI.next_store ho he hb hr (by rw [hent]) (by rw [hent]) (by rw [hent]) (hrow (by rw [hent]) m r0 htt hr0) (by rw [rowBlk_fixed hf, rowBlk_fixed hf0]) (Held.of_blk hbk hf) (by rw [rowBlk_fixed hf0]; exact hch) hon.2)
    · rename_i m r ob hres
      obtain ⟨hob, hent⟩ := hent
      have hok := hok (by rw [hent])
      have hon := hon (by rw [hent])
      rw [hres] at hok hon
      obtain ⟨w', hrun, hbk, hch⟩ := hok hob
      rw [hrun]
      obtain ⟨htt, r0, hr0, hbb⟩ := storeO_touch hres
      rw [hbb β] at hch
      exact hK _ _ _ (hI.next_store ho he hb hr (by rw [hent]) (by rw [hent]) (by rw [hent]) (hrow (by rw [hent]) m r0 htt hr0) (hbb β) hbk hch hon.2)
    · rename_i kill t size nn xs ob hres
      obtain ⟨hob, hent⟩ := hent
      have htc := fun j (hj : kill = some j) => grow_touch (P := P) (o := o) (i := j) (hj ▸ hres)
      have hok := hok (by rw [hent])
      rw [hres] at hok
      obtain ⟨A, cc, w', S, hrun, hown, hch, hS, hA⟩ := hok hob
      rw [hrun]
      have hn : en.nw = some ((runE n st l es i).mem.length, ⟨t, .own size nn xs⟩) := by rw [hent]
      have := hI.next_grow ho he hb hr hn (kill := kill) (by rw [hent]) (hnone _ hn) (hwr _ hn) hown hch (fun k hk => by
        obtain ⟨j, hj, hbk⟩ := hS k hk
        obtain ⟨htj, r, h0, s, m, ys, hcs⟩ := htc j hj
        exact ⟨j, r, hj, hrow (by rw [hent]) j r htj h0, by unfold rowBlk; rw [hcs]; exact hbk⟩) hA (by rw [hent]; rfl)
      rw [show en.sv.den (β.updS (runE n st l es i).mem.length A nn cc) = .slice A nn cc by rw [hent]; exact updS_sl] at this
      exact hK _ _ _ this
    · rename_i f args r hres
      obtain ⟨hcl, hent⟩ := hent
      have htc := callO_touch hres
      have hok := hok (by rw [hent])
      rw [hres] at hok
      rw [show (execOp a.eval o).run P w = _ from hok]
      have hcall := argsOb_ok (β := β) (hcl w hI.chg) (fun j sv hj hat r' hr' => hI.blk j r' (hrow (by rw [hent]) j r' (htc j sv hj hat) hr'))
      refine hcall.mono fun e w' hp => ?_
      rcases ret_ok hp with ⟨v, rfl, rfl, hc⟩ | ⟨T, size, nn, xs, A, cc, hrr, hown, hc, hA, hsv⟩
      · have := hI.next_same ho he hb hr hc (by rw [hent]; rfl) (by rw [hent]) (by rw [hent]; trivial)
        rw [show en.sv.den β = v by rw [hent]; rfl] at this
        exact hK _ _ _ this
      · obtain ⟨hev', hon'⟩ := hsv β (runE n st l es i).mem.length
        subst hev'
        have hn : en.nw = some ((runE n st l es i).mem.length, ⟨T, .own size nn xs⟩) := by rw [hent]; simp only [hrr, Option.map_some]
        have := hI.next_grow ho he hb hr hn (kill := none) (by rw [hent]; rfl) (hnone _ hn) (hwr _ hn) hown hc (by simp) (fun k hk => .inr (hA k hk)) (by rw [hent]; exact hon')
        rw [show en.sv = retSV (runE n st l es i).mem.length r by rw [hent]] at this
        exact hK _ _ _ this
    · rename_i f j r hres
      obtain ⟨hcl, hent⟩ := hent
      have htj := (callK_touch hres).1
      have hok := hok (by rw [hent])
      rw [hres] at hok
      rw [show (execOp a.eval o).run P w = _ from hok]
      have hcall := argK_ok (β := β) (hcl w hI.chg) (fun r' hr' => hI.blk j r' (hrow (by rw [hent]) j r' htj hr'))
      obtain ⟨r0, h0, s0, m0, y0, hc0⟩ := argK_row (hcl w hI.chg)
      refine hcall.mono fun e w' hp => ?_
      obtain ⟨T, size, nn, xs, A, cc, hrr, hown, hc, hA, hsv⟩ := retK_ok hp
      obtain ⟨hev', hon'⟩ := hsv β (runE n st l es i).mem.length
      subst hev'
      rw [sl_block] at hc hA
      have hn : en.nw = some ((runE n st l es i).mem.length, ⟨T, .own size nn xs⟩) := by rw [hent]; simp only [hrr, Option.map_some]
      have := hI.next_grow ho he hb hr hn (kill := some j) (by rw [hent]; rfl) (hnone _ hn) (hwr _ hn) hown hc (fun k hk => ⟨j, r0, rfl, hrow (by rw [hent]) j r0 htj h0, by unfold rowBlk; rw [hc0]; simpa using hk⟩) (fun k hk => (hA k hk).imp (fun h => by simpa using h) id) (by rw [hent]; exact hon')
      rw [show en.sv = retSV (runE n st l es i).mem.length r by rw [hent]] at this
      exact hK _ _ _ this
    · exact hent.elim

theorem more_listed {listed : Array Bool} (h : i < listed.size) : more (fun k => listed.getD k false) i = fun k => (listed.setIfInBounds i true).getD k false := by
  funext k
  by_cases hk : k = i
  · subst hk
    rw [more_self]
    simp [h]
  · rw [more_ne hk, getD_set_ne false (Ne.symm hk)]
theorem any_ok (hB : ∀ k o en, l[k]? = some o → es[k]? = some en → Okb l es n k o en) (hlen : es.length = l.length)
    (hE : ∀ k o en, l[k]? = some o → es[k]? = some en → EntOk P H w0 l.toArray (runE n st l es k) o en)
    (hQ : ∀ L β a w, OInv w0 n l es st L β a w → (∀ k, k < l.length → L k = true) → Q .normal a w) :
    ∀ (fuel : Nat) (listed : Array Bool) (β : Env) (a : Act) (w : World), listed.size = l.length → listed.toList.count true + fuel = l.length → OInv w0 n l es st (fun k => listed.getD k false) β a w → wpAny P .any l.toArray Q fuel listed a w := by
  have done : ∀ (listed : Array Bool), listed.size = l.length → Region.ready .any l.toArray listed = [] → ∀ k, k < l.length → listed.getD k false = true := by
    intro listed hsz hnil k
    induction k using Nat.strongRecOn with
    | _ k ih =>
      intro hk
      cases hLk : listed.getD k false with
      | true => rfl
      | false =>
        exfalso
        obtain ⟨o, ho⟩ : ∃ o, l[k]? = some o := ⟨_, List.getElem?_eq_getElem hk⟩
        obtain ⟨en, he⟩ : ∃ en, es[k]? = some en := ⟨_, List.getElem?_eq_getElem (by omega)⟩
        have hmem : k ∈ Region.ready .any l.toArray listed := by
          rw [mem_ready]
          refine ⟨?_, o, by simpa using ho, fun e hee hb => ?_⟩
          · have hk' : k < listed.size := by omega
            simp only [Array.getD_eq_getD_getElem?, Array.getElem?_eq_getElem hk', Option.getD_some] at hLk ⊢
            exact hLk
          · have hlt := (hB k o en ho he).down e hee hb
            exact ih e.on hlt (by omega)
        rw [hnil] at hmem
        cases hmem
  intro fuel
  induction fuel with
  | zero =>
    intro listed β a w hsz hcnt hI
    have hall : ∀ k, k < l.length → listed.getD k false = true := by
      have hc : listed.toList.count true = listed.toList.length := by simp at hcnt ⊢; omega
      have := List.count_eq_length.1 hc
      intro k hk
      have hk' : k < listed.size := by omega
      have h1 := this listed[k] (by simp)
      simp [hk', ← h1]
    refine ⟨?_, hQ _ β a w hI hall⟩
    cases hr : Region.ready .any l.toArray listed with
    | nil => rfl
    | cons x r =>
      exfalso
      have hx : x ∈ Region.ready .any l.toArray listed := by rw [hr]; simp
      obtain ⟨h0, o, ho, _⟩ := mem_ready.1 hx
      have hxl : x < l.length := by
        have := (List.getElem?_eq_some_iff.1 (show l[x]? = some o by simpa using ho)).1
        exact this
      have := hall x hxl
      have hk' : x < listed.size := by omega
      simp only [Array.getD_eq_getD_getElem?, Array.getElem?_eq_getElem hk', Option.getD_some] at h0 this
      rw [h0] at this
      cases this
  | succ fuel ih =>
    intro listed β a w hsz hcnt hI
    refine ⟨fun hnil => hQ _ β a w hI (done listed hsz hnil), fun i hi => ?_⟩
    obtain ⟨h0, o, ho, hall⟩ := mem_ready.1 hi
    have ho' : l[i]? = some o := by simpa using ho
    have hil : i < l.length := (List.getElem?_eq_some_iff.1 ho').1
    have hk' : i < listed.size := by omega
    obtain ⟨en, he⟩ : ∃ en, es[i]? = some en := ⟨_, List.getElem?_eq_getElem (by omega)⟩
    have hLi : listed[i] = false := by simpa [hk'] using h0
    refine any_step hI ho' he hB hlen hE (by simp [hk', hLi]) (fun e hee hb => hall e (by simpa using hee) hb) fun β' a' w' hI' => ?_
    rw [more_listed hk'] at hI'
    refine ih _ β' a' w' (by simpa using hsz) ?_ hI'
    have hcs : (listed.setIfInBounds i true).toList.count true = listed.toList.count true + 1 := by
      rw [Array.toList_setIfInBounds, List.count_set (by simpa using hk')]
      have : listed.toList[i]'(by simpa using hk') = false := by simpa using hLi
      simp [this]
    omega
theorem OInv.start (h : Hd w0 n β st a w) (hfresh : ∀ b k : Nat, idxOf (isNew b) es = some k → st.mem[b]? = none) : OInv w0 n l es st (fun _ => false) β a w := by
  have row : ∀ b, fRow st es (fun _ => false) b = st.mem[b]? := fun b => fRow_none (hfresh b)
  have lt : ∀ b, b < st.mem.length → ∃ r, fRow st es (fun _ => false) b = some r := fun b hb => ⟨_, by rw [row]; exact List.getElem?_eq_getElem hb⟩
  refine ⟨h.size, h.dn, fun t sv ht => h.get t sv (by rw [← ht, fLook_none]), fun b r hb => h.blk b r (by rw [← hb, row]), fun b r k hb hk => h.new b r k (by rw [← hb, row]) hk, fun b c r r' k hb hc hk hk' => h.inj b c r r' k (by rw [← hb, row]) (by rw [← hc, row]) hk hk', h.chg, fun t sv ht => ?_, fun b r hb => ?_, fun k o ho hk => by cases hk⟩
  · rw [fLook_none] at ht; exact SV.on_mono lt (h.wfS t sv ht)
  · rw [row] at hb; exact Cells.on_mono lt (h.wfR b r hb)
theorem OInv.fin (hI : OInv w0 n l es st L β a w) (hL : ∀ k, k < l.length → L k = true) (hB : ∀ k o en, l[k]? = some o → es[k]? = some en → Okb l es n k o en) (hlen : es.length = l.length)
    (hE : ∀ k o en, l[k]? = some o → es[k]? = some en → EntOk P H w0 l.toArray (runE n st l es k) o en) : Hd w0 n β (runE n st l es l.length) a w := by
  have hlook : ∀ t, look (runE n st l es l.length).fr t = fLook l st es L t := fun t => by
    rw [look_at (st := st) hlen hB l.length (Nat.le_refl _)]
    refine fLook_congr fun k hk => ?_
    obtain ⟨o, ho, _⟩ := idxOf_some hk
    have hkl := (List.getElem?_eq_some_iff.1 ho).1
    rw [hL k hkl]; simp [ltB, hkl]
  have hrow : ∀ b : Nat, (runE n st l es l.length).mem[b]? = fRow st es L b := fun b => by
    rw [row_at (P := P) (H := H) (w0 := w0) (ops := l.toArray) (st := st) hlen hB hE l.length (Nat.le_refl _)]
    refine fRow_congr (fun k hk => ?_) (fun k hk => ?_)
    · obtain ⟨o, ho, _⟩ := idxOf_some hk
      have hkl := (List.getElem?_eq_some_iff.1 ho).1
      rw [hlen] at hkl
      rw [hL k hkl]; simp [ltB, hkl]
    · obtain ⟨o, ho, _⟩ := idxOf_some hk
      have hkl := (List.getElem?_eq_some_iff.1 ho).1
      rw [hlen] at hkl
      rw [hL k hkl]; simp [ltB, hkl]
  have ex : ∀ b : Nat, b < (runE n st l es l.length).mem.length → ∃ r, fRow st es L b = some r := fun b hb => ⟨_, by rw [← hrow]; exact List.getElem?_eq_getElem hb⟩
  have back : ∀ b : Nat, (∃ r, fRow st es L b = some r) → b < (runE n st l es l.length).mem.length := fun b ⟨r, h⟩ => by rw [← hrow] at h; exact (List.getElem?_eq_some_iff.1 h).1
  refine ⟨hI.size, hI.dn, fun t sv ht => hI.get t sv (by rw [← hlook]; exact ht), fun b r hb => hI.blk b r (by rw [← hrow]; exact hb), fun b r k hb hk => hI.new b r k (by rw [← hrow]; exact hb) hk, fun b c r r' k hb hc hk hk' => hI.inj b c r r' k (by rw [← hrow]; exact hb) (by rw [← hrow]; exact hc) hk hk', hI.chg, fun t sv ht => ?_, fun b r hb => ?_⟩
  · rw [hlook] at ht; exact SV.on_mono back (hI.wfS t sv ht)
  · rw [hrow] at hb; exact Cells.on_mono back (hI.wfR b r hb)
/-- A region that draws its order, reckoned once. -/
def exDraw (P : Program) (H : List (Nat × Hint)) (n : Nat) (w0 : World) (l : List Oper) (st : St) (K : St → Prop) : Prop :=
  exLex P H n w0 l.toArray l st [] fun es st' => match allBe l es n 0 l es with
    | true => K st'
    | false => Stuck l
theorem exDraw_ok {id : Nat} {K : St → Prop} (hm : P.follows .mixedOrders = true) (h : Hd w0 n β st a w) (hx : exDraw P H n w0 l st K) (hK : ∀ β' st' a' w', K st' → Hd w0 n β' st' a' w' → Q .normal a' w') : (Code.region id l.toArray true).wp P Q a w := by
  obtain ⟨es, st', hlex, hk⟩ := lex_of _ _ _ _ hx
  rw [List.nil_append] at hk
  obtain ⟨hlen, hE, hst⟩ := lex_spec hlex
  split at hk
  · rename_i hb
    have hB : ∀ k o en, l[k]? = some o → es[k]? = some en → Okb l es n k o en := fun k o en ho he => by
      have := allBe_spec hb k o en ho he
      rw [Nat.zero_add] at this
      exact opB_spec this
    refine wp_region_any hm ?_
    have hI : OInv w0 n l es st (fun _ => false) β a { w with drawn := w.drawn + 1 } := OInv.start (h.later (Chg.refl [] w).drew) fun b k hk' => by
      obtain ⟨en, r, he, hr⟩ := new_at hk'
      have hkl : k < l.length := by rw [← hlen]; exact (List.getElem?_eq_some_iff.1 he).1
      have hbl := ent_nw (hE k _ en (List.getElem?_eq_getElem hkl) he) hr
      have := mem_len (n := n) (st := st) hlen k (by omega)
      exact List.getElem?_eq_none (by omega)
    have hrep : (fun k => (Array.replicate l.length false).getD k false) = fun _ : Nat => false := by
      funext k
      simp only [Array.getD_eq_getD_getElem?, Array.getElem?_replicate]
      split <;> rfl
    have := any_ok (P := P) (H := H) (w0 := w0) (n := n) (st := st) (Q := Q) hB hlen hE (fun L β' a' w' hI' hL => hK β' st' a' w' hk (by rw [← hst]; exact hI'.fin hL hB hlen hE)) l.length (Array.replicate l.length false) β a { w with drawn := w.drawn + 1 } (by simp) (by simp [List.count_replicate]) (by rw [hrep]; exact hI)
    simpa using this
  · exact nomatch hk
end
end Sx
end Go.Proofs.YtgpiapmbbnngpaaGreatDoor

/- A walk by reckoning, part 7: the code of a function, from its arguments to its results. Proved over any program. No condition of its own. -/
namespace Go.Proofs.YtgpiapmbbnngpaaGreatDoor
open Go Go.RowKit Go.Lib Go.Sort

namespace Sx
/-- A loop: what is handed from round to round, by a letter k (a count, or more): the slots and blocks that are known at a round's head, what holds of k, the next k, a measure; and what is known where it ends, by a letter x. -/
inductive Loop : Type 1 where
  | mk (κ : Type) (k0 : κ) (R : κ → Prop) (fr : κ → List (Nat × SV)) (mem : κ → List Row) (next : κ → κ) (μ : κ → Nat)
    (ι : Type) (Ro : ι → Prop) (fro : ι → List (Nat × SV)) (memo : ι → List Row) (which : κ → ι)
  /-- A loop that is left by a return alone. -/
  | fin (κ : Type) (k0 : κ) (R : κ → Prop) (fr : κ → List (Nat × SV)) (mem : κ → List Row) (next : κ → κ) (μ : κ → Nat)
def svLt (m : Nat) : SV → Bool
  | .val _ => true
  | .ptr i _ => Nat.blt i m
  | .slc i _ _ _ => Nat.blt i m
  | .own i => Nat.blt i m
  | .optr i _ => Nat.blt i m
  | .tup _ i _ => Nat.blt i m
  | .osub i _ _ _ => Nat.blt i m
  | .gone => true
def cellsLt (m : Nat) : Cells → Bool
  | .vals _ => true
  | .svs cs => allB (svLt m) cs
  | .own _ _ _ => true
  | .dead => true
def hasLook (fr : List (Nat × SV)) (t : Nat) : Bool := match look fr t with
  | some _ => true
  | none => false
def picks (fr : List (Nat × SV)) (l : List (Nat × SV)) : List (Nat × SV) := l.map fun p => (p.1, (look fr p.1).getD (.val undef))
def svIx : SV → Option Nat
  | .val _ => none
  | .ptr i _ => some i
  | .slc i _ _ _ => some i
  | .own i => some i
  | .optr i _ => some i
  | .tup _ i _ => some i
  | .osub i _ _ _ => some i
  | .gone => none
/-- Which block of the state st a block of a loop's head is. -/
def sigOf (fr : List (Nat × SV)) : List (Nat × SV) → List (Nat × Nat)
  | [] => []
  | p :: r => match svIx p.2 with
    | some i => match look fr p.1 with
      | some u => match svIx u with
        | some j => (i, j) :: sigOf fr r
        | none => sigOf fr r
      | none => sigOf fr r
    | none => sigOf fr r
def ren : List (Nat × Nat) → Nat → Nat
  | [], i => i
  | p :: r, i => match Nat.beq p.1 i with
    | true => p.2
    | false => ren r i
def SV.ren (σ : List (Nat × Nat)) : SV → SV
  | .val v => .val v
  | .ptr i o => .ptr (Sx.ren σ i) o
  | .slc i o n c => .slc (Sx.ren σ i) o n c
  | .own i => .own (Sx.ren σ i)
  | .optr i o => .optr (Sx.ren σ i) o
  | .tup l i r => .tup l (Sx.ren σ i) r
  | .osub i o n c => .osub (Sx.ren σ i) o n c
  | .gone => .gone
def Cells.ren (σ : List (Nat × Nat)) : Cells → Cells
  | .vals cs => .vals cs
  | .svs cs => .svs (cs.map (SV.ren σ))
  | .own a b c => .own a b c
  | .dead => .dead
def Row.ren (σ : List (Nat × Nat)) (r : Row) : Row := ⟨r.ty, r.cs.ren σ⟩
def renFr (σ : List (Nat × Nat)) : List (Nat × SV) → List (Nat × SV)
  | [] => []
  | p :: r => (p.1, p.2.ren σ) :: renFr σ r
def renRows (σ : List (Nat × Nat)) : List Row → List Row
  | [] => []
  | p :: r => p.ren σ :: renRows σ r
def rowsAt (mem : List Row) (σ : List (Nat × Nat)) : Nat → List Row → List Row
  | _, [] => []
  | k, _ :: r => (mem[ren σ k]?).getD deadRow :: rowsAt mem σ (k + 1) r
/-- The blocks below n are told apart, and are there. -/
def notIn (σ : List (Nat × Nat)) (x : Nat) : Nat → Bool
  | 0 => true
  | n + 1 => match Nat.beq (ren σ n) x with
    | true => false
    | false => notIn σ x n
def okSig (σ : List (Nat × Nat)) (N : Nat) : Nat → Bool
  | 0 => true
  | n + 1 => match Nat.blt (ren σ n) N && notIn σ (ren σ n) n with
    | true => okSig σ N n
    | false => false
def Env.ren (σ : List (Nat × Nat)) (β : Env) : Env := ⟨fun i => β.b (Sx.ren σ i), fun i => β.a (Sx.ren σ i), fun i => β.n (Sx.ren σ i), fun i => β.c (Sx.ren σ i)⟩
/-- The state st gives what the slots fr and the blocks mem say. -/
def Same (st : St) (fr : List (Nat × SV)) (mem : List Row) : Prop :=
  match allB (fun p => hasLook st.fr p.1 && svLt mem.length p.2) fr && (allB (fun r => cellsLt mem.length r.cs) mem && okSig (sigOf st.fr fr) st.mem.length mem.length) with
  | true => picks st.fr fr = renFr (sigOf st.fr fr) fr ∧ rowsAt st.mem (sigOf st.fr fr) 0 mem = renRows (sigOf st.fr fr) mem
  | false => Stuck (st, fr)
/-- What is asked at the end of a round. -/
def loopK {κ ι : Type} (R : κ → Prop) (fr : κ → List (Nat × SV)) (mem : κ → List Row) (next : κ → κ) (μ : κ → Nat) (Ro : ι → Prop) (fro : ι → List (Nat × SV)) (memo : ι → List Row) (which : κ → ι) (id : Nat) (Kr : St → Prop) (k : κ) : Exit → St → Prop
  | .normal, st => R (next k) ∧ μ (next k) < μ k ∧ Same st (fr (next k)) (mem (next k))
  | .exit i, st => match Nat.beq i id with
    | true => Ro (which k) ∧ Same st (fro (which k)) (memo (which k))
    | false => Stuck st
  | .ret, st => Kr st
  | _, _ => False
/-- The block that a loop's own end leaves. -/
def outId : Code → Nat
  | .seq x y => match outId x with
    | 0 => outId y
    | k => k
  | .cond _ x y => match outId x with
    | 0 => outId y
    | k => k
  | .exit i => i + 1
  | _ => 0
def nloops : Code → Nat
  | .seq x y => nloops x + nloops y
  | .cond _ x y => nloops x + nloops y
  | .block _ c => nloops c
  | .scope c => nloops c
  | .loop _ => 1
  | _ => 0
def ex (P : Program) (n : Nat) (w0 : World) : Code → List (Nat × Hint) → List Loop → St → (Exit → St → Prop) → Prop
  | .skip, _, _, st, K => K .normal st
  | .region _ ops draw, H, _, st, K => match draw with
    | false => exOps P H n w0 ops ops.toList st (K .normal)
    | true => exDraw P H n w0 ops.toList st (K .normal)
  | .seq x y, H, L, st, K => ex P n w0 x H L st fun e st' => match e with
    | .normal => ex P n w0 y H (L.drop (nloops x)) st' K
    | e => K e st'
  | .cond c x y, H, L, st, K => match ev st.fr c with
    | some (.val (.bool b)) => match b with
      | true => ex P n w0 x H L st K
      | false => ex P n w0 y H (L.drop (nloops x)) st K
    | _ => Stuck c
  | .block id c, H, L, st, K => ex P n w0 c H L st fun e st' => match e with
    | .exit i => match Nat.beq i id with
      | true => K .normal st'
      | false => K (.exit i) st'
    | e => K e st'
  | .scope c, H, L, st, K => ex P n w0 c H L st fun e st' => match e with
    | .goto _ => False
    | e => K e st'
  | .loop c, _, L, st, K => match L with
    | .mk _ k0 R fr mem next μ _ Ro fro memo which :: _ => R k0 ∧ Same st (fr k0) (mem k0) ∧ (∀ k, R k → ∃ H' L', ex P n w0 c H' L' ⟨fr k, mem k⟩ (loopK R fr mem next μ Ro fro memo which (outId c - 1) (K .ret) k)) ∧ ∀ x, Ro x → K (.exit (outId c - 1)) ⟨fro x, memo x⟩
    | .fin _ k0 R fr mem next μ :: _ => R k0 ∧ Same st (fr k0) (mem k0) ∧ (∀ k, R k → ∃ H' L', ex P n w0 c H' L' ⟨fr k, mem k⟩ (loopK R fr mem next μ (fun (_ : Unit) => False) (fun _ => []) (fun _ => []) (fun _ => ()) (outId c - 1) (K .ret) k)) ∧ True
    | [] => Stuck c
  | .exit id, _, _, st, K => K (.exit id) st
  | .label _, _, _, st, K => K .normal st
  | .ret, _, _, st, K => K .ret st
  | c, _, _, _, _ => Stuck c

def lift (w0 : World) (n : Nat) (K : Exit → St → Prop) (e : Exit) (a : Act) (w : World) : Prop := ∃ β st, K e st ∧ Hd w0 n β st a w

section
variable {P : Program} {n : Nat} {w0 : World}
theorem look_renFr {σ : List (Nat × Nat)} : ∀ {l : List (Nat × SV)} {t : Nat} {sv : SV}, look l t = some sv → look (renFr σ l) t = some (sv.ren σ)
  | (d, v) :: r, t, sv, h => by
    rw [look_put] at h
    rw [renFr, look_put]
    split at h
    · rename_i hd
      rw [if_pos hd, known_some h]
      have := known_some h
      subst this
      cases sv <;> first | (cases h; done) | rfl
    · rename_i hd
      rw [if_neg hd]
      exact look_renFr h
theorem look_picks {fr : List (Nat × SV)} : ∀ {l l' : List (Nat × SV)} {t : Nat} {sv : SV}, picks fr l = l' → (∀ p ∈ l, hasLook fr p.1 = true) → look l' t = some sv → look fr t = some sv
  | [], l', t, sv, h, ha, hl => by
    subst h
    cases hl
  | (d, v) :: r, l', t, sv, h, ha, hl => by
    unfold picks at h
    rw [List.map_cons] at h
    subst h
    rw [look_put] at hl
    split at hl
    · rename_i hd
      subst hd
      have := ha (d, v) (by simp)
      unfold hasLook at this
      simp only at this hl
      split at this
      · rename_i u hu
        simp only [hu, Option.getD_some] at hl
        rw [known_some hl, hu]
      · cases this
    · exact look_picks (l := r) rfl (fun p hp => ha p (by simp [hp])) hl
theorem ren_den {σ : List (Nat × Nat)} {β : Env} {s : SV} : (s.ren σ).den β = s.den (β.ren σ) := by cases s <;> rfl
theorem ren_held {σ : List (Nat × Nat)} {β : Env} {w : World} {i : Nat} {r : Row} (h : Held β w (ren σ i) (r.ren σ)) : Held (β.ren σ) w i r := by
  obtain ⟨T, cs⟩ := r
  cases cs with
  | own a b c => exact h
  | vals cs => exact h
  | dead => exact h
  | svs cs =>
    have h : Blk w (β (ren σ i)) T ((cs.map (SV.ren σ)).map (SV.den β)) := h
    rw [List.map_map] at h
    have e : (SV.den β ∘ SV.ren σ) = SV.den (β.ren σ) := funext fun s => ren_den
    rw [e] at h
    exact h
theorem ren_blk {σ : List (Nat × Nat)} {β : Env} {i : Nat} {r : Row} : rowBlk (β.ren σ) i r = rowBlk β (ren σ i) (r.ren σ) := by
  obtain ⟨T, cs⟩ := r
  cases cs <;> rfl
theorem notIn_spec {σ : List (Nat × Nat)} {x : Nat} : ∀ {n : Nat}, notIn σ x n = true → ∀ j, j < n → ren σ j ≠ x
  | 0, _, j, hj => by omega
  | n + 1, h, j, hj => by
    unfold notIn at h
    split at h
    · cases h
    · rename_i hb
      by_cases hjn : j = n
      · subst hjn; intro he; rw [he, Nat.beq_refl] at hb; cases hb
      · exact notIn_spec h j (by omega)
theorem okSig_spec {σ : List (Nat × Nat)} {N : Nat} : ∀ {n : Nat}, okSig σ N n = true → (∀ j, j < n → ren σ j < N) ∧ ∀ i j, i < n → j < n → ren σ i = ren σ j → i = j
  | 0, _ => ⟨fun j hj => by omega, fun i j hi => by omega⟩
  | n + 1, h => by
    unfold okSig at h
    split at h
    · rename_i hb
      rw [Bool.and_eq_true] at hb
      obtain ⟨h1, h2⟩ := okSig_spec h
      have h3 := notIn_spec hb.2
      have h4 : ren σ n < N := Nat.le_of_ble_eq_true hb.1
      refine ⟨fun j hj => ?_, fun i j hi hj he => ?_⟩
      · by_cases hjn : j = n
        · subst hjn; exact h4
        · exact h1 j (by omega)
      · by_cases hin : i = n
        · by_cases hjn : j = n
          · omega
          · subst hin; exact absurd he.symm (h3 j (by omega))
        · by_cases hjn : j = n
          · subst hjn; exact absurd he (h3 i (by omega))
          · exact h2 i j (by omega) (by omega) he
    · cases h
theorem rowsAt_get {mem : List Row} {σ : List (Nat × Nat)} : ∀ {l l' : List Row} {k : Nat}, rowsAt mem σ k l = l' → (∀ j, j < l.length → ren σ (k + j) < mem.length) → ∀ (i : Nat) (r : Row), l'[i]? = some r → mem[ren σ (k + i)]? = some r
  | [], l', k, h, _, i, r, hi => by
    subst h
    simp [rowsAt] at hi
  | x :: l, l', k, h, hlt, i, r, hi => by
    subst h
    rw [rowsAt] at hi
    cases i with
    | zero =>
      have hk := hlt 0 (by simp)
      rw [Nat.add_zero] at hk ⊢
      simp only [List.getElem?_cons_zero, Option.some.injEq, List.getElem?_eq_getElem hk, Option.getD_some] at hi
      rw [← hi]; exact List.getElem?_eq_getElem hk
    | succ i =>
      rw [List.getElem?_cons_succ] at hi
      have := rowsAt_get (k := k + 1) rfl (fun j hj => by rw [show k + 1 + j = k + (j + 1) by omega]; exact hlt (j + 1) (by simp; omega)) i r hi
      rwa [show k + 1 + i = k + (i + 1) by omega] at this
theorem renRows_get {σ : List (Nat × Nat)} : ∀ {l : List Row} {i : Nat} {r : Row}, l[i]? = some r → (renRows σ l)[i]? = some (r.ren σ)
  | x :: l, 0, r, h => by
    have h : x = r := by simpa using h
    subst h
    rfl
  | x :: l, i + 1, r, h => by
    rw [List.getElem?_cons_succ] at h
    rw [renRows, List.getElem?_cons_succ]
    exact renRows_get h
theorem svLt_on {m : Nat} {s : SV} (h : svLt m s = true) : s.on (· < m) := by
  cases s with
  | val v => trivial
  | ptr i o => exact Nat.le_of_ble_eq_true h
  | slc i o n c => exact Nat.le_of_ble_eq_true h
  | own i => exact Nat.le_of_ble_eq_true h
  | optr i o => exact Nat.le_of_ble_eq_true h
  | tup l i r => exact Nat.le_of_ble_eq_true h
  | osub i o n c => exact Nat.le_of_ble_eq_true h
  | gone => trivial
theorem look_mem : ∀ {l : List (Nat × SV)} {t : Nat} {sv : SV}, look l t = some sv → (t, sv) ∈ l
  | (d, v) :: r, t, sv, h => by
    rw [look_put] at h
    split at h
    · rename_i hd
      rw [known_some h, hd]
      simp
    · exact List.mem_cons_of_mem _ (look_mem h)
theorem Hd.same {β : Env} {st : St} {a : Act} {w : World} {fr : List (Nat × SV)} {mem : List Row} (h : Hd w0 n β st a w) (hs : Same st fr mem) : ∃ β', Hd w0 n β' ⟨fr, mem⟩ a w := by
  unfold Same at hs
  split at hs
  · rename_i hb
    simp only [Bool.and_eq_true] at hb
    obtain ⟨hb1, hb2, hb3⟩ := hb
    have h1 := allB_spec hb1
    have h2 := allB_spec hb2
    obtain ⟨h3, h4⟩ := okSig_spec hb3
    have hl : ∀ t sv, look fr t = some sv → look st.fr t = some (sv.ren (sigOf st.fr fr)) := fun t sv ht => look_picks hs.1 (fun p hp => by have := h1 p hp; rw [Bool.and_eq_true] at this; exact this.1) (look_renFr ht)
    have hm : ∀ (i : Nat) (r : Row), mem[i]? = some r → st.mem[ren (sigOf st.fr fr) i]? = some (r.ren (sigOf st.fr fr)) := by
      intro i r hi
      have := rowsAt_get hs.2 (fun j hj => by rw [Nat.zero_add]; exact h3 j hj) i _ (renRows_get hi)
      rwa [Nat.zero_add] at this
    have hlt : ∀ (i : Nat) (r : Row), mem[i]? = some r → i < mem.length := fun i r hi => (List.getElem?_eq_some_iff.1 hi).1
    refine ⟨β.ren (sigOf st.fr fr), h.size, h.dn, fun t sv ht => ?_, fun i r hi => ren_held (h.blk _ _ (hm i r hi)), fun i r k hi hk => h.new _ _ k (hm i r hi) (by rw [← ren_blk]; exact hk), fun i j r r' k hi hj hk hk' => ?_, h.chg, fun t sv ht => ?_, fun i r hi => ?_⟩
    · rw [h.get t _ (hl t sv ht), ren_den]
    · exact h4 i j (hlt i r hi) (hlt j r' hj) (h.inj _ _ _ _ k (hm i r hi) (hm j r' hj) (by rw [← ren_blk]; exact hk) (by rw [← ren_blk]; exact hk'))
    · have := h1 _ (look_mem ht)
      rw [Bool.and_eq_true] at this
      exact svLt_on this.2
    · have := h2 r (List.mem_of_getElem? hi)
      unfold cellsLt at this
      cases hc : r.cs with
      | vals cs => trivial
      | own _ _ _ => trivial
      | dead => trivial
      | svs cs =>
        rw [hc] at this
        exact fun s hs => svLt_on (allB_spec this s hs)
  · exact nomatch hs
theorem ex_ok (hm : P.follows .mixedOrders = true) : ∀ (c : Code) (H : List (Nat × Hint)) (L : List Loop) (st : St) (K : Exit → St → Prop) (β : Env) (a : Act) (w : World), Hd w0 n β st a w → ex P n w0 c H L st K → c.wp P (lift w0 n K) a w
  | .skip, H, L, st, K, β, a, w, h, hx => wp_skip ⟨β, st, hx, h⟩
  | .region id ops draw, H, L, st, K, β, a, w, h, hx => by
    unfold ex at hx
    cases draw with
    | false => exact wp_region_list (exOps_ok ops.toList st (K .normal) β a w h hx fun β' st' a' w' hk h' => ⟨β', st', hk, h'⟩)
    | true =>
      have := exDraw_ok (id := id) (Q := lift w0 n K) hm h hx fun β' st' a' w' hk h' => ⟨β', st', hk, h'⟩
      simpa using this
  | .seq x y, H, L, st, K, β, a, w, h, hx => by
    unfold ex at hx
    refine wp_seq (Code.wp_mono (fun e a' w' hq => ?_) (ex_ok hm x H L st _ β a w h hx))
    obtain ⟨β', st', hk, h'⟩ := hq
    cases e with
    | normal => exact ex_ok hm y H _ st' K β' a' w' h' hk
    | exit id => exact ⟨β', st', hk, h'⟩
    | goto l => exact ⟨β', st', hk, h'⟩
    | ret => exact ⟨β', st', hk, h'⟩
    | panic c => exact ⟨β', st', hk, h'⟩
    | outgrown => exact ⟨β', st', hk, h'⟩
  | .cond c x y, H, L, st, K, β, a, w, h, hx => by
    unfold ex at hx
    split at hx
    · rename_i b hb
      have hc : a.eval c = .bool b := h.eval hb
      cases b with
      | true => exact wp_cond_true hc (ex_ok hm x H L st K β a w h hx)
      | false => exact wp_cond_false hc (ex_ok hm y H _ st K β a w h hx)
    · exact nomatch hx
  | .block id c, H, L, st, K, β, a, w, h, hx => by
    unfold ex at hx
    refine wp_block (Code.wp_mono (fun e a' w' hq => ?_) (ex_ok hm c H L st _ β a w h hx))
    obtain ⟨β', st', hk, h'⟩ := hq
    cases e with
    | exit i =>
      simp only at hk
      split at hk
      · rename_i hb
        simp only [Exit.inBlock, Nat.eq_of_beq_eq_true hb, if_true]
        exact ⟨β', st', hk, h'⟩
      · rename_i hb
        have : i ≠ id := fun h => by rw [h, Nat.beq_refl] at hb; cases hb
        simp only [Exit.inBlock, this, if_false]
        exact ⟨β', st', hk, h'⟩
    | normal => exact ⟨β', st', hk, h'⟩
    | goto l => exact ⟨β', st', hk, h'⟩
    | ret => exact ⟨β', st', hk, h'⟩
    | panic c => exact ⟨β', st', hk, h'⟩
    | outgrown => exact ⟨β', st', hk, h'⟩
  | .scope c, H, L, st, K, β, a, w, h, hx => by
    unfold ex at hx
    refine wp_scope_straight (Code.wp_mono (fun e a' w' hq => ?_) (ex_ok hm c H L st _ β a w h hx))
    obtain ⟨β', st', hk, h'⟩ := hq
    cases e with
    | goto l => exact hk
    | normal => exact ⟨β', st', hk, h'⟩
    | exit id => exact ⟨β', st', hk, h'⟩
    | ret => exact ⟨β', st', hk, h'⟩
    | panic c => exact ⟨β', st', hk, h'⟩
    | outgrown => exact ⟨β', st', hk, h'⟩
  | .loop c, H, L, st, K, β, a, w, h, hx => by
    unfold ex at hx
    split at hx
    · rename_i κ k0 R fr mem next μ ι Ro fro memo which rest
      obtain ⟨h0, hs, hround, hout⟩ := hx
      obtain ⟨β0, h00⟩ := h.same hs
      refine wp_loop_ghost (fun m a w => ∃ β k, μ k = m ∧ R k ∧ Hd w0 n β ⟨fr k, mem k⟩ a w) (μ k0) ⟨β0, k0, rfl, h0, h00⟩ ?_
      rintro m a' w' ⟨β', k, rfl, hR, h'⟩
      obtain ⟨H', L', hround⟩ := hround k hR
      refine Code.wp_mono (fun e a2 w2 hq => ?_) (ex_ok hm c _ _ _ _ β' a' w' h' hround)
      obtain ⟨β2, st2, hk, h2⟩ := hq
      cases e with
      | normal =>
        obtain ⟨β3, h3⟩ := h2.same hk.2.2
        exact ⟨μ (next k), hk.2.1, β3, next k, rfl, hk.1, h3⟩
      | exit id =>
        simp only [loopK] at hk
        split at hk
        · rename_i hb
          rw [Nat.eq_of_beq_eq_true hb]
          obtain ⟨β3, h3⟩ := h2.same hk.2
          exact ⟨β3, _, hout _ hk.1, h3⟩
        · exact nomatch hk
      | goto l => exact hk.elim
      | ret => exact ⟨β2, st2, hk, h2⟩
      | panic c => exact hk.elim
      | outgrown => exact hk.elim
    · rename_i κ k0 R fr mem next μ rest
      obtain ⟨h0, hs, hround, _⟩ := hx
      obtain ⟨β0, h00⟩ := h.same hs
      refine wp_loop_ghost (fun m a w => ∃ β k, μ k = m ∧ R k ∧ Hd w0 n β ⟨fr k, mem k⟩ a w) (μ k0) ⟨β0, k0, rfl, h0, h00⟩ ?_
      rintro m a' w' ⟨β', k, rfl, hR, h'⟩
      obtain ⟨H', L', hround⟩ := hround k hR
      refine Code.wp_mono (fun e a2 w2 hq => ?_) (ex_ok hm c _ _ _ _ β' a' w' h' hround)
      obtain ⟨β2, st2, hk, h2⟩ := hq
      cases e with
      | normal =>
        obtain ⟨β3, h3⟩ := h2.same hk.2.2
        exact ⟨μ (next k), hk.2.1, β3, next k, rfl, hk.1, h3⟩
      | exit id =>
        simp only [loopK] at hk
        split at hk
        · exact hk.1.elim
        · exact nomatch hk
      | goto l => exact hk.elim
      | ret => exact ⟨β2, st2, hk, h2⟩
      | panic c => exact hk.elim
      | outgrown => exact hk.elim
    · exact nomatch hx
  | .exit id, H, L, st, K, β, a, w, h, hx => wp_exit ⟨β, st, hx, h⟩
  | .label l, H, L, st, K, β, a, w, h, hx => wp_label ⟨β, st, hx, h⟩
  | .ret, H, L, st, K, β, a, w, h, hx => wp_ret ⟨β, st, hx, h⟩
  | .rangeFunc .., _, _, _, _, _, _, _, _, hx => by unfold ex at hx; exact nomatch hx
  | .goto _, _, _, _, _, _, _, _, _, hx => by unfold ex at hx; exact nomatch hx
  | .refuse _, _, _, _, _, _, _, _, _, hx => by unfold ex at hx; exact nomatch hx

/-- The slots at the beginning. -/
def args0 : Nat → List Value → List (Nat × SV)
  | _, [] => []
  | k, v :: r => (k, .val v) :: args0 (k + 1) r
theorem look_args0 : ∀ {vs : List Value} {k t : Nat} {sv : SV}, look (args0 k vs) t = some sv → ∃ v, sv = .val v ∧ k ≤ t ∧ vs[t - k]? = some v
  | v :: r, k, t, sv, h => by
    rw [args0, look_put] at h
    split at h
    · rename_i hk
      exact ⟨v, (Option.some.inj h).symm, by omega, by rw [show t - k = 0 by omega]; rfl⟩
    · obtain ⟨u, h1, h2, h3⟩ := look_args0 h
      refine ⟨u, h1, by omega, ?_⟩
      rw [show t - k = (t - (k + 1)) + 1 by omega, List.getElem?_cons_succ]
      exact h3
/-- What a result's slot, or its variable, holds. -/
def resSV (P : Program) (st : St) : List ResultVar → Option (List SV)
  | [] => some []
  | .tmp t :: r => match look st.fr t with
    | some sv => match resSV P st r with
      | some l => some (sv :: l)
      | none => none
    | none => none
  | .cell b t :: r => match look st.fr b with
    | some (.ptr i off) => match st.mem[i]? with
      | some row => match loadRes P t row off with
        | .val sv _ => match resSV P st r with
          | some l => some (sv :: l)
          | none => none
        | _ => none
      | none => none
    | _ => none
def valsOf : List SV → Option (List Value)
  | [] => some []
  | sv :: r => match sv with
    | .val v => match valsOf r with
      | some l => some (v :: l)
      | none => none
    | _ => none
/-- The values ahead of a slice of the call's own, it, the values behind it. -/
def ownOf : List SV → Option (List Value × Nat × List Value)
  | [] => none
  | sv :: r => match sv with
    | .val v => match ownOf r with
      | some (l, i, q) => some (v :: l, i, q)
      | none => none
    | .own i => match valsOf r with
      | some q => some ([], i, q)
      | none => none
    | _ => none
def wrapUp : List Value → Value
  | [v] => v
  | vs => .tuple vs.toArray
theorem loadRes_ob {t : TypeId} {row : Row} {off : Nat} {sv : SV} {ob : Option Prop} (h : loadRes P t row off = .val sv ob) : ob = none := by
  unfold loadRes at h
  repeat' (split at h)
  all_goals first | (cases h; done) | (injection h with _ h; exact h.symm)
def retOf (mem : List Row) (l : List SV) : Option Ret := match valsOf l with
  | some vs => some (.val (wrapUp vs))
  | none => match ownOf l with
    | some (pre, i, post) => match mem[i]? with
      | some r => match r.cs with
        | .own size n xs => match pre, post with
          | [], [] => some (.sl r.ty size n xs)
          | _, _ => some (.tup pre r.ty size n xs post)
        | _ => none
      | none => none
    | none => none
theorem loadVar_ok {β : Env} {w : World} {t : TypeId} {i off : Nat} {row : Row} {sv : SV} {ob : Option Prop} (hb : Held β w i row) (h : loadRes P t row off = .val sv ob) : (loadVar t ⟨β i, off, none⟩).run P w = .ok (sv.den β) w := by
  have ho := load_ok (P := P) (β := β) (W := w) (a := ⟨#[.pointer (some ⟨β i, off, none⟩)], []⟩) (o := ⟨none, .load t (.tmp 0), 0, "", #[], none⟩) (t := t) (x := .tmp 0) (off := off) rfl rfl hb
  rw [h] at ho
  have ho := ho (fun p hp => by rw [loadRes_ob h] at hp; cases hp)
  simp only [execOp, Act.eval, Sem.run_bind] at ho
  rw [show ((#[Value.pointer (some ⟨β i, off, none⟩)] : Array Value).getD 0 undef) = .pointer (some ⟨β i, off, none⟩) from rfl, run_sure] at ho
  cases hr : (loadVar t ⟨β i, off, none⟩).run P w with
  | ok u w' =>
    rw [hr] at ho
    simp only [Result.andThen_ok, Sem.run_pure] at ho
    injection ho with h1 h2
    injection h1 with h1
    rw [h1, h2]
  | halt x w' => rw [hr] at ho; cases ho
theorem resSV_ok {st : St} {β : Env} {a : Act} {w : World} (h : Hd w0 n β st a w) {F : ResultVar → Sem Value} (hF : ∀ t, F (.tmp t) = pure (a.tmps.getD t undef)) (hG : ∀ b t, F (.cell b t) = do loadVar t (← asAddr (a.tmps.getD b undef))) : ∀ {l : List ResultVar} {vs : List SV}, resSV P st l = some vs → (l.mapM F).run P w = .ok (vs.map (SV.den β)) w
  | [], vs, hr => by
    have : vs = [] := by simpa [resSV] using hr.symm
    subst this
    rfl
  | .tmp t :: r, vs, hr => by
    rw [resSV] at hr
    split at hr
    · rename_i v hv
      split at hr
      · rename_i us hu
        cases hr
        have h1 := h.get t _ hv
        have ih := resSV_ok h hF hG hu
        rw [List.mapM_cons, hF]
        simp only [Sem.run_bind, Sem.run_pure, Result.andThen_ok, ih]
        simp [h1]
      · cases hr
    · cases hr
  | .cell b t :: r, vs, hr => by
    rw [resSV] at hr
    split at hr
    · rename_i i off hv
      split at hr
      · rename_i row hrow
        split at hr
        · rename_i v ob hl
          split at hr
          · rename_i us hu
            cases hr
            have h1 := h.get b _ hv
            have ih := resSV_ok h hF hG hu
            have h2 := loadVar_ok (h.blk i row hrow) hl
            have h3 : a.tmps.getD b undef = .pointer (some ⟨β i, off, none⟩) := by simp [h1, SV.den]
            rw [List.mapM_cons, hG, h3]
            simp only [Sem.run_bind, asAddr, Sem.run_pure, Result.andThen_ok, h2, ih, List.map_cons]
          · cases hr
        · cases hr
      · cases hr
    · cases hr
theorem valsOf_den {β : Env} : ∀ {l : List SV} {vs : List Value}, valsOf l = some vs → l.map (SV.den β) = vs
  | [], vs, h => by
    have : vs = [] := by simpa [valsOf] using h.symm
    subst this
    rfl
  | sv :: r, vs, h => by
    unfold valsOf at h
    split at h
    · split at h
      · rename_i l hl
        cases h
        rw [List.map_cons, valsOf_den hl]
        rfl
      · cases h
    · cases h
theorem ownOf_den {β : Env} : ∀ {l : List SV} {pre post : List Value} {i : Nat}, ownOf l = some (pre, i, post) → l.map (SV.den β) = pre ++ β.sl i :: post
  | sv :: r, pre, post, i, h => by
    unfold ownOf at h
    split at h
    · split at h
      · rename_i l i' q hl
        cases h
        rw [List.map_cons, ownOf_den hl]
        rfl
      · cases h
    · split at h
      · rename_i q hq
        cases h
        rw [List.map_cons, valsOf_den hq]
        rfl
      · cases h
    · cases h
theorem retOf_ok {st : St} {β : Env} {a : Act} {w : World} {l : List SV} {r : Ret} (h : Hd w0 n β st a w) (hr : retOf st.mem l = some r) : retPost w0 r (.returned (wrapUp (l.map (SV.den β)))) w := by
  unfold retOf at hr
  split at hr
  · rename_i vs hvs
    cases hr
    rw [valsOf_den hvs]
    exact ⟨rfl, h.chg⟩
  · split at hr
    · rename_i pre i post hown
      split at hr
      · rename_i row hrow
        have hh := h.blk i row hrow
        have hnew := h.new i row
        split at hr
        · rename_i size nn xs hcs
          unfold Held at hh
          rw [hcs] at hh
          have hacc : Acc w0 w row.ty size (β.sl i) nn xs := by
            refine ⟨by unfold Env.sl; rw [hh.1]; exact hh.2, fun k hk => hnew k hrow ?_, h.chg⟩
            unfold rowBlk
            rw [hcs]
            rw [← hk, ← own_block (n := β.n i)]
            rfl
          rw [ownOf_den hown]
          split at hr
          · cases hr
            exact ⟨_, rfl, hacc⟩
          · rename_i hne
            cases hr
            refine ⟨_, ?_, hacc⟩
            cases pre with
            | nil => cases post with
              | nil => exact absurd rfl (hne rfl)
              | cons x y => rfl
            | cons x y => cases y <;> rfl
        · cases hr
      · cases hr
    · cases hr
/-- What is asked at the end of a function. -/
def atEndO (P : Program) (fn : Func) (R : Ret → Prop) : Exit → St → Prop
  | .normal, st => match resSV P st fn.results.toList with
    | some l => match retOf st.mem l with
      | some r => R r
      | none => Stuck st
    | none => Stuck st
  | .ret, st => match resSV P st fn.results.toList with
    | some l => match retOf st.mem l with
      | some r => R r
      | none => Stuck st
    | none => Stuck st
  | _, _ => False
def valOnly (R : Value → Prop) : Ret → Prop
  | .val v => R v
  | _ => False
def atEnd (P : Program) (fn : Func) (R : Value → Prop) : Exit → St → Prop := atEndO P fn (valOnly R)
theorem atEnd_ok {fn : Func} {R : Ret → Prop} {e : Exit} {a : Act} {w : World} (h : lift w0 n (atEndO P fn R) e a w) : bodyPost P fn (fun e w' => ∃ r, R r ∧ retPost w0 r e w') e a w := by
  obtain ⟨β, st, hk, h⟩ := h
  have main : (match resSV P st fn.results.toList with | some l => (match retOf st.mem l with | some r => R r | none => Stuck st) | none => Stuck st : Prop) → a.defers = [] ∧ ∃ v, (results fn a.tmps).run P w = .ok v w ∧ ∃ r, R r ∧ retPost w0 r (.returned v) w := by
    intro hk
    split at hk
    · rename_i l hl
      split at hk
      · rename_i r hr
        refine ⟨h.dn, wrapUp (l.map (SV.den β)), ?_, r, hk, retOf_ok h hr⟩
        unfold results
        rw [Array.mapM_eq_mapM_toList]
        simp only [Sem.run_bind, map_eq_pure_bind, Sem.run_pure]
        rw [resSV_ok (P := P) h (fun _ => rfl) (fun _ _ => rfl) hl]
        simp only [Result.andThen_ok]
        congr 1
        generalize l.map (SV.den β) = vs
        match vs with
        | [] => rfl
        | [v] => rfl
        | v :: u :: r => simp [wrapUp]
      · exact nomatch hk
    · exact nomatch hk
  cases e with
  | normal => exact main hk
  | ret => exact main hk
  | exit _ => exact hk.elim
  | goto _ => exact hk.elim
  | panic _ => exact hk.elim
  | outgrown => exact hk.elim
/-- **A function's contract by reckoning**, where it may give back a slice that it has made. -/
theorem calls_ret {f : FuncId} {fn : Func} {c : Code} {args : List Value} {R : Ret → Prop} (H : List (Nat × Hint)) (L : List Loop) (hm : P.follows .mixedOrders = true) (hf : P.funcs[f]? = some fn) (hb : fn.body = some c) (hn : args.length ≤ fn.ntmps)
    (hx : ex P fn.ntmps w0 c H L ⟨args0 0 args, []⟩ (atEndO P fn R)) : Calls P f args.toArray w0 fun e w' => ∃ r, R r ∧ retPost w0 r e w' := by
  refine calls_of_wp hf hb (Code.wp_mono (fun e a w hq => atEnd_ok hq) (ex_ok (w0 := w0) (n := fn.ntmps) hm c H L _ _ ⟨fun _ => 0, fun _ => none, fun _ => 0, fun _ => 0⟩ _ w0 ?_ hx))
  refine ⟨by simp; omega, rfl, fun t sv ht => ?_, fun i r hi => by simp at hi, fun i r k hi => by simp at hi, fun i j r r' k hi => by simp at hi, Chg.refl _ _, fun t sv ht => ?_, fun i r hi => by simp at hi⟩
  · obtain ⟨v, rfl, _, hv⟩ := look_args0 ht
    have hlt : t < args.length := (List.getElem?_eq_some_iff.1 hv).1
    rw [Array.getElem?_append_left (by simpa using hlt)]
    simpa [SV.den] using hv
  · obtain ⟨v, rfl, _⟩ := look_args0 ht
    trivial
/-- The same, where what it gives back is known. -/
theorem calls_own {f : FuncId} {fn : Func} {c : Code} {args : List Value} {u : Ret} (H : List (Nat × Hint)) (L : List Loop) (hm : P.follows .mixedOrders = true) (hf : P.funcs[f]? = some fn) (hb : fn.body = some c) (hn : args.length ≤ fn.ntmps)
    (hx : ex P fn.ntmps w0 c H L ⟨args0 0 args, []⟩ (atEndO P fn fun v => v = u)) : Calls P f args.toArray w0 (retPost w0 u) :=
  (calls_ret H L hm hf hb hn hx).mono fun _ _ ⟨_, he, hp⟩ => he ▸ hp
/-- **A function's contract by reckoning.** -/
theorem calls_ex {f : FuncId} {fn : Func} {c : Code} {args : List Value} {R : Value → Prop} (H : List (Nat × Hint)) (L : List Loop) (hm : P.follows .mixedOrders = true) (hf : P.funcs[f]? = some fn) (hb : fn.body = some c) (hn : args.length ≤ fn.ntmps)
    (hx : ex P fn.ntmps w0 c H L ⟨args0 0 args, []⟩ (atEnd P fn R)) : Calls P f args.toArray w0 fun e w' => ∃ v, e = .returned v ∧ R v ∧ Chg [] w0 w' :=
  (calls_ret H L hm hf hb hn hx).mono fun e w' ⟨r, hr, hp⟩ => by
    cases r with
    | val v => exact ⟨v, hp.1, hr, hp.2⟩
    | sl _ _ _ _ => exact hr.elim
    | tup _ _ _ _ _ _ => exact hr.elim
/-- The same, where the value is known. -/
theorem calls_is {f : FuncId} {fn : Func} {c : Code} {args : List Value} {u : Value} (H : List (Nat × Hint)) (L : List Loop) (hm : P.follows .mixedOrders = true) (hf : P.funcs[f]? = some fn) (hb : fn.body = some c) (hn : args.length ≤ fn.ntmps)
    (hx : ex P fn.ntmps w0 c H L ⟨args0 0 args, []⟩ (atEnd P fn fun v => v = u)) : Calls P f args.toArray w0 fun e w' => e = .returned u ∧ Chg [] w0 w' :=
  (calls_ex H L hm hf hb hn hx).mono fun _ _ ⟨_, he, hv, hc⟩ => ⟨by rw [he, hv], hc⟩
/-- The loops of a code, in the text's order: the i-th one's body. -/
def bodies : Code → List Code
  | .seq x y => bodies x ++ bodies y
  | .cond _ x y => bodies x ++ bodies y
  | .block _ c => bodies c
  | .scope c => bodies c
  | .loop c => [c]
  | _ => []
def bodyOf (fn : Func) (i : Nat) : Code := match fn.body with
  | some c => (bodies c).getD i .skip
  | none => .skip
def inBody (c : Code) (i : Nat) : Code := (bodies c).getD i .skip
/-- A way that parts: one chain for each outcome. -/
theorem bcase {b : Bool} {X Y : Prop} (hx : b = true → X) (hy : b = false → Y) : (match b with | true => X | false => Y) := by
  cases b with
  | true => exact hx rfl
  | false => exact hy rfl
end
end Sx
end Go.Proofs.YtgpiapmbbnngpaaGreatDoor
