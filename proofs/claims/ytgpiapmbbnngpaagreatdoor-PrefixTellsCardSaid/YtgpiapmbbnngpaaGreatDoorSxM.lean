/- A walk by reckoning, part 1: abstract states (slots and blocks of a call's own, said as data), what an operation comes to in one, and that the model's operation comes to the same. Proved over any program. No condition of its own. -/
import Derived.Test.YtgpiapmbbnngpaaGreatDoorLibM
import Derived.Scope
namespace Go.Proofs.YtgpiapmbbnngpaaGreatDoor
open Go Go.RowKit Go.Lib Go.Sort

namespace Sx
/-- A value: one that knows of no block of the call's own, a pointer into the i-th block of its own, a slice of it. -/
inductive SV where
  | val (v : Value)
  | ptr (i off : Nat)
  | slc (i off len cap : Nat)
def SV.den (β : Nat → Nat) : SV → Value
  | .val v => v
  | .ptr i o => .pointer (some ⟨β i, o, none⟩)
  | .slc i o n c => .slice (some ⟨β i, o, none⟩) n c
def SV.on (Q : Nat → Prop) : SV → Prop
  | .val _ => True
  | .ptr i _ => Q i
  | .slc i _ _ _ => Q i
inductive Cells where
  | vals (cs : List Value)
  | svs (cs : List SV)
def Cells.den (β : Nat → Nat) : Cells → List Value
  | .vals cs => cs
  | .svs cs => cs.map (SV.den β)
def Cells.len : Cells → Nat
  | .vals cs => cs.length
  | .svs cs => cs.length
def Cells.on (Q : Nat → Prop) : Cells → Prop
  | .vals _ => True
  | .svs cs => ∀ s ∈ cs, s.on Q
structure Row where
  ty : TypeId
  cs : Cells
structure St where
  fr : List (Nat × SV)
  mem : List Row

def look : List (Nat × SV) → Nat → Option SV
  | [], _ => none
  | (k, v) :: r, t => match Nat.beq k t with
    | true => some v
    | false => look r t
def ev (fr : List (Nat × SV)) : Operand → Option SV
  | .tmp t => look fr t
  | .const v => some (.val v)
  | .global g => some (.val (.pointer (some ⟨g, 0, none⟩)))
  | .func f => some (.val (.func (.func f) #[] #[]))
def St.put (n : Nat) (st : St) (dst : Option Tmp) (sv : SV) : St :=
  match dst with
  | none => st
  | some d => match Nat.blt d n with
    | true => ⟨(d, sv) :: st.fr, st.mem⟩
    | false => st

theorem SV.on_mono {Q Q' : Nat → Prop} (h : ∀ i, Q i → Q' i) : ∀ {s : SV}, s.on Q → s.on Q'
  | .val _, _ => trivial
  | .ptr _ _, hs => h _ hs
  | .slc _ _ _ _, hs => h _ hs
theorem Cells.on_mono {Q Q' : Nat → Prop} (h : ∀ i, Q i → Q' i) : ∀ {c : Cells}, c.on Q → c.on Q'
  | .vals _, _ => trivial
  | .svs _, hs => fun s hm => SV.on_mono h (hs s hm)
theorem SV.den_congr {β β' : Nat → Nat} {Q : Nat → Prop} (h : ∀ i, Q i → β i = β' i) : ∀ {s : SV}, s.on Q → s.den β = s.den β'
  | .val _, _ => rfl
  | .ptr i o, hs => by simp only [SV.den]; rw [h i hs]
  | .slc i o n c, hs => by simp only [SV.den]; rw [h i hs]
theorem Cells.den_congr {β β' : Nat → Nat} {Q : Nat → Prop} (h : ∀ i, Q i → β i = β' i) : ∀ {c : Cells}, c.on Q → c.den β = c.den β'
  | .vals _, _ => rfl
  | .svs _, hs => List.map_congr_left fun s hm => SV.den_congr h (hs s hm)
theorem Cells.den_length (β : Nat → Nat) : ∀ c : Cells, (c.den β).length = c.len
  | .vals _ => rfl
  | .svs cs => by simp [Cells.den, Cells.len]

/-! ### Operations that do not look at the world -/
def pureRun {α : Type} (P : Program) : Sem α → Option α
  | .pure a => some a
  | .program k => pureRun P (k P)
  | .mark _ k => pureRun P k
  | _ => none
theorem pureRun_ok {α : Type} {P : Program} {s : Sem α} : ∀ {x : α}, pureRun P s = some x → ∀ w, s.run P w = .ok x w := by
  induction s with
  | pure a => intro x h w; simp only [pureRun, Option.some.injEq] at h; subst h; rfl
  | program k ih => intro x h w; simp only [pureRun] at h; simp only [Sem.run]; exact ih P h w
  | mark m k ih => intro x h w; simp only [pureRun] at h; simp only [Sem.run]; exact ih h w
  | _ => intro x h; simp [pureRun] at h

inductive Hint where
  /-- The value, said anew. -/
  | is (v : Value)
  /-- The value, whatever the world. -/
  | any (v : Value)
  /-- What an operator on two operands comes to, whatever the world. -/
  | bin (v : Value)
  /-- What a call comes to. -/
  | call (v : Value)
  /-- What a cell at a place that is a letter holds. -/
  | ld (v : Value)
  /-- The block's cells behind a store at a place that is a letter. -/
  | st (cs : List Value)
  /-- An index whose bounds are to be shown. -/
  | ix
def hint : List (Nat × Hint) → Option Tmp → Option Hint
  | _, none => none
  | [], _ => none
  | (k, v) :: r, some t => match Nat.beq k t with
    | true => some v
    | false => hint r (some t)

inductive Res where
  | val (sv : SV) (ob : Option Prop)
  | call (f : FuncId) (args : List Value) (v : Value)
  | alloc (t : TypeId) (cs : Cells)
  | store (i : Nat) (row : Row) (ob : Option Prop)
  | bad

def rho (e : Operand → Option SV) (x : Operand) : Value := match e x with
  | some (.val v) => v
  | _ => undef
def isVal (e : Operand → Option SV) (x : Operand) : Bool := match e x with
  | some (.val _) => true
  | _ => false
def allB {α : Type} (p : α → Bool) : List α → Bool
  | [] => true
  | x :: r => match p x with
    | true => allB p r
    | false => false
theorem allB_spec {α : Type} {p : α → Bool} : ∀ {l : List α}, allB p l = true → ∀ x ∈ l, p x = true
  | y :: r, h, x, hx => by
    unfold allB at h
    split at h
    · rcases List.mem_cons.1 hx with rfl | hx
      · assumption
      · exact allB_spec h x hx
    · cases h

def loadRes (P : Program) (t : TypeId) (r : Row) (off : Nat) : Res :=
  match P.underlying t, P.info? t with
  | some d, some inf => match d.isRow with
    | true => match r.cs with
      | .vals cs => match Nat.beq off 0 && Nat.beq inf.size cs.length with
        | true => .val (.val (.agg cs.toArray)) none
        | false => match Nat.ble (off + inf.size) cs.length with
          | true => .val (.val (.agg ((cs.drop off).take inf.size).toArray)) none
          | false => .bad
      | .svs _ => .bad
    | false => match r.cs with
      | .vals cs => match cs[off]? with
        | some v => .val (.val v) none
        | none => .bad
      | .svs cs => match cs[off]? with
        | some v => .val v none
        | none => .bad
  | _, _ => .bad

def storeRes (P : Program) (t : TypeId) (i : Nat) (r : Row) (off : Nat) (sv : SV) : Res :=
  match P.info? t with
  | none => .bad
  | some inf => match sv with
    | .val v => match Nat.beq v.cells.toList.length inf.size && allB (·.oneCell') v.cells.toList with
      | true => match Nat.beq off 0 && Nat.beq inf.size r.cs.len with
        | true => .store i ⟨r.ty, .vals v.cells.toList⟩ none
        | false => match Nat.ble (off + inf.size) r.cs.len with
          | true => .store i ⟨r.ty, match r.cs with
            | .vals cs => .vals (cs.take off ++ (v.cells.toList ++ cs.drop (off + inf.size)))
            | .svs cs => .svs (cs.take off ++ (v.cells.toList.map .val ++ cs.drop (off + inf.size)))⟩ none
          | false => .bad
      | false => .bad
    | sv => match Nat.beq inf.size 1 with
      | true => match Nat.blt off r.cs.len with
        | true => .store i ⟨r.ty, match r.cs with
          | .vals cs => .svs ((cs.map .val).set off sv)
          | .svs cs => .svs (cs.set off sv)⟩ none
        | false => .bad
      | false => .bad

def loadAtRes (P : Program) (t : TypeId) (r : Row) (off : Nat) (v : Value) : Res :=
  match P.underlying t with
  | some d => match d.isRow with
    | false => match r.cs with
      | .vals cs => .val (.val v) (some (cs[off]? = some v))
      | .svs _ => .bad
    | true => .bad
  | none => .bad
def storeAtRes (P : Program) (t : TypeId) (i : Nat) (r : Row) (off : Nat) (sv : SV) (cs' : List Value) : Res :=
  match P.info? t with
  | none => .bad
  | some inf => match sv with
    | .val v => match Nat.beq v.cells.toList.length inf.size && allB (·.oneCell') v.cells.toList with
      | true => match r.cs with
        | .vals cs => .store i ⟨r.ty, .vals cs'⟩ (some (off + inf.size ≤ cs.length ∧ cs.take off ++ (v.cells.toList ++ cs.drop (off + inf.size)) = cs'))
        | .svs _ => .bad
      | false => .bad
    | _ => .bad
/-- What an operation does, where it does no more than to reckon a value. -/
def semOf (ρ : Operand → Value) (o : Oper) : Option (Sem Value) :=
  match o.op with
  | .binOp op t x y _ => some (do eqGuard op t x y (ρ x) (ρ y); binOp op t (ρ x) (ρ y))
  | .unOp op _ x => some (Op.unary op (ρ x))
  | .convert s d x => some (convert s d (ρ x))
  | .slice t x lo hi mx => some (Instr.sliceAt t (ρ x) (lo.map ρ) (hi.map ρ) (mx.map ρ))
  | .index t x i => some (Instr.index t (ρ x) (ρ i))
  | .indexAddr t x i => some (Instr.indexAt t (ρ x) (ρ i))
  | .field t x f => some (Instr.field t (ρ x) f)
  | .load t x => some (Instr.loadAt t (ρ x))
  | _ => none

def pureRes (P : Program) (w0 : World) (h : Option Hint) (e : Operand → Option SV) (o : Oper) : Res :=
  match allB (isVal e) o.op.operands.toList && Region.noSelect #[o] with
  | false => .bad
  | true => match h with
    | some (.any v) => match semOf (rho e) o with
      | some s => .val (.val v) (some (∀ W, Chg [] w0 W → s.run P W = .ok v W))
      | none => .val (.val v) (some (∀ W, Chg [] w0 W → (execOp (rho e) o).run P W = .ok (.value v) W))
    | some (.bin v) => match semOf (rho e) o with
      | some s => .val (.val v) (some (∀ W, s.run P W = .ok v W))
      | none => .bad
    | some (.is v) => match pureRun P (execOp (rho e) o) with
      | some (.value u) => .val (.val v) (some (u = v))
      | _ => .bad
    | _ => match pureRun P (execOp (rho e) o) with
      | some (.value u) => .val (.val u) none
      | _ => .bad

def callRes (P : Program) (w0 : World) (h : Option Hint) (e : Operand → Option SV) (o : Oper) : Res :=
  match h with
  | some (.call v) => match allB (isVal e) o.op.operands.toList && Region.noSelect #[o] with
    | false => .bad
    | true => match pureRun P (execOp (rho e) o) with
      | some (.enter f args) => .call f args.toList v
      | _ => .bad
  | _ => pureRes P w0 h e o

def hint2 (H : List (Nat × Hint)) : Operand → Option Hint
  | .tmp x => hint H (some (100000 + x))
  | _ => none
def opRes (P : Program) (w0 : World) (H : List (Nat × Hint)) (h : Option Hint) (e : Operand → Option SV) (row : Nat → Option Row) (o : Oper) : Res :=
  match o.op with
  | .move x | .assign x => match e x with
    | some sv => match h with
      | none => .val sv none
      | _ => pureRes P w0 h e o
    | none => .bad
  | .nilCheck x => match e x with
    | some (.ptr i off) => .val (.ptr i off) none
    | _ => pureRes P w0 h e o
  | .alloc t => match P.info? t with
    | some inf => match inf.zero with
      | some z => .alloc t (.vals z.cells.toList)
      | none => .bad
    | none => .bad
  | .box t x => match e x with
    | some (.val v) => .alloc t (.vals v.cells.toList)
    | some sv => .alloc t (.svs [sv])
    | none => .bad
  | .load t x => match e x with
    | some (.ptr i off) => match row i with
      | some r => match h with
        | some (.ld v) => loadAtRes P t r off v
        | _ => loadRes P t r off
      | none => .bad
    | _ => match h with
      | some (.any v) => pureRes P w0 (some (.any v)) e o
      | _ => .bad
  | .store t x y => match e x with
    | some (.ptr i off) => match e y with
      | some sv => match row i with
        | some r => match hint2 H x with
          | some (.st cs') => storeAtRes P t i r off sv cs'
          | _ => storeRes P t i r off sv
        | none => .bad
      | none => .bad
    | _ => .bad
  | .fieldAddr s x f => match e x with
    | some (.ptr i off) => match P.underlying s with
      | some (.struct fields) => match fields[f]? with
        | some fd => match (P.info? fd.type).map (·.size) with
          | some (_ + 1) => .val (.ptr i (off + fd.offset)) none
          | _ => .bad
        | none => .bad
      | _ => .bad
    | _ => .bad
  | .indexAddr t x ix => match e x with
    | some (.ptr i off) => match P.underlying t with
      | some (.array len elem) => match e ix with
        | some (.val (.int _ k)) => match P.info? elem with
          | some inf => match h with
            | some .ix => .val (.ptr i (off + k.toNat * inf.size)) (some (0 ≤ k ∧ k < len))
            | _ => match decide (0 ≤ k ∧ k < len) with
              | true => .val (.ptr i (off + k.toNat * inf.size)) none
              | false => .bad
          | none => .bad
        | _ => .bad
      | _ => .bad
    | _ => pureRes P w0 h e o
  | .call _ => callRes P w0 h e o
  | _ => pureRes P w0 h e o

def touches (e : Operand → Option SV) (o : Oper) : Option Nat :=
  match o.op with
  | .load _ x => match e x with
    | some (.ptr i _) => some i
    | _ => none
  | .store _ x _ => match e x with
    | some (.ptr i _) => some i
    | _ => none
  | _ => none
end Sx
end Go.Proofs.YtgpiapmbbnngpaaGreatDoor

/- A walk by reckoning, part 2: what an operation comes to in an abstract state is what the model's operation comes to. Proved over any program. No condition of its own. -/
namespace Go.Proofs.YtgpiapmbbnngpaaGreatDoor
open Go Go.RowKit Go.Lib Go.Sort

theorem Blk.setCells {b : Nat} {t : TypeId} : ∀ (vs : List Value) (off : Nat) {cs : List Value} {W : World}, Blk W b t cs → off + vs.length ≤ cs.length → Blk (W.setCells b off vs) b t (cs.take off ++ (vs ++ cs.drop (off + vs.length)))
  | [], off, cs, W, h, _ => by simpa [World.setCells] using h
  | v :: r, off, cs, W, h, hl => by
    rw [World.setCells]
    simp only [List.length_cons] at hl
    have := Blk.setCells r (off + 1) (h.set_ off v) (by simp; omega)
    have e : (cs.set off v).take (off + 1) ++ (r ++ (cs.set off v).drop (off + 1 + r.length)) = cs.take off ++ ((v :: r) ++ cs.drop (off + (v :: r).length)) := by
      rw [List.take_succ_eq_append_getElem (by simp; omega), List.drop_set_of_lt (by omega), List.getElem_set_self, List.take_set_of_le (by omega)]
      simp only [List.append_assoc, List.cons_append, List.nil_append, List.length_cons]
      rw [show off + (r.length + 1) = off + 1 + r.length by omega]
    rwa [e] at this
theorem Chg.setCells_ {S : List Nat} {a : World} (b : Nat) (hb : b ∈ S ∨ a.heap.size ≤ b) : ∀ (vs : List Value) (off : Nat) {W : World}, Chg S a W → Chg S a (W.setCells b off vs)
  | [], _, _, h => h
  | v :: r, off, _, h => Chg.setCells_ b hb r (off + 1) (h.setCell (p := ⟨b, off, none⟩) hb v)

namespace Sx
section
variable {P : Program} {β : Nat → Nat} {W : World} {a : Act} {o : Oper} {e : Operand → Option SV} {row : Nat → Option Row} {hn : Option Hint}

def Res.Ok (P : Program) (β : Nat → Nat) (W : World) (a : Act) (o : Oper) : Res → Prop
  | .val sv ob => (∀ p, ob = some p → p) → (execOp a.eval o).run P W = .ok (.value (sv.den β)) W
  | .call f args _ => (execOp a.eval o).run P W = .ok (.enter f args.toArray) W
  | .alloc t cs => (execOp a.eval o).run P W = .ok (.value (.pointer (some ⟨W.heap.size, 0, none⟩))) (W.alloc (.cells (cs.den β).toArray t))
  | .store i r ob => (∀ p, ob = some p → p) → ∃ W', (execOp a.eval o).run P W = .ok .skip W' ∧ Blk W' (β i) r.ty (r.cs.den β) ∧ Chg [β i] W W'
  | .bad => True

theorem rho_eq (he : ∀ x ∈ o.op.operands, ∀ sv, e x = some sv → a.eval x = sv.den β) (h : allB (isVal e) o.op.operands.toList = true) (hs : Region.noSelect #[o] = true) : execOp a.eval o = execOp (rho e) o := by
  refine execOp_congr o ?_ fun x hx => ?_
  · exact fun cs b => Region.noSelect_spec hs 0 o cs b rfl
  · have := allB_spec h x (by simpa using hx)
    unfold isVal at this
    unfold rho
    split at this
    · rename_i v hv
      rw [he x hx _ hv]
      rfl
    · cases this

theorem semOf_ok {ρ : Operand → Value} {s : Sem Value} (h : semOf ρ o = some s) {v : Value} (hr : s.run P W = .ok v W) : (execOp ρ o).run P W = .ok (.value v) W := by
  unfold semOf at h
  split at h
  all_goals first
    | cases h; done
    | (rename_i ho; cases h; unfold execOp; simp only [ho]; rw [Sem.run_bind, hr]; rfl)
theorem pure_ok {w0 : World} (hw : Chg [] w0 W) (he : ∀ x ∈ o.op.operands, ∀ sv, e x = some sv → a.eval x = sv.den β) : (pureRes P w0 hn e o).Ok P β W a o := by
  unfold pureRes
  split
  · trivial
  · rename_i hb
    rw [Bool.and_eq_true] at hb
    have hq := rho_eq he hb.1 hb.2
    split
    · split
      · rename_i s hs
        intro hob
        rw [hq]
        exact semOf_ok hs (hob _ rfl W hw)
      · intro hob
        rw [hq]
        exact hob _ rfl W hw
    · split
      · rename_i s hs
        intro hob
        rw [hq]
        exact semOf_ok hs (hob _ rfl W)
      · trivial
    · split
      · rename_i u hu
        intro hob
        rw [hq, pureRun_ok hu W, hob _ rfl]
        rfl
      · trivial
    · split
      · rename_i u hu
        intro _
        rw [hq, pureRun_ok hu W]
        rfl
      · trivial

theorem call_ok {w0 : World} (hw : Chg [] w0 W) (he : ∀ x ∈ o.op.operands, ∀ sv, e x = some sv → a.eval x = sv.den β) : (callRes P w0 hn e o).Ok P β W a o := by
  unfold callRes
  split
  · split
    · trivial
    · rename_i hb
      rw [Bool.and_eq_true] at hb
      have hq := rho_eq he hb.1 hb.2
      split
      · rename_i f args hu
        show _ = _
        rw [hq, pureRun_ok hu W]
      · trivial
  · exact pure_ok hw he

theorem run_sure {b off : Nat} {t : TypeId} : (Instr.loadAt t (.pointer (some ⟨b, off, none⟩))).run P W = (loadVar t ⟨b, off, none⟩).run P W := by
  simp [Instr.loadAt, Instr.sureAddr]

theorem load_ok {t : TypeId} {x : Operand} {i off : Nat} {r : Row} (ho : o.op = .load t x) (hx : a.eval x = .pointer (some ⟨β i, off, none⟩)) (hb : Blk W (β i) r.ty (r.cs.den β)) : (loadRes P t r off).Ok P β W a o := by
  have row : ∀ (d : TypeDesc) (inf : TypeInfo) (cs : List Value), P.underlying t = some d → P.info? t = some inf → d.isRow = true → inf.size = cs.length → W.rangeAt (β i) off cs → (execOp a.eval o).run P W = .ok (.value (.agg cs.toArray)) W := by
    intro d inf cs hu hi hd hl hc
    have := run_loadAt_mid (P := P) W (β i) off t cs d hc hu hd (by rw [hi]; simpa using hl)
    unfold execOp
    simp only [ho, hx, Sem.run_bind, this]
    rfl
  have one : ∀ (d : TypeDesc) (v : Value), P.underlying t = some d → d.isRow = false → W.cell? ⟨β i, off, none⟩ = some v → (execOp a.eval o).run P W = .ok (.value v) W := by
    intro d v hu hd hc
    have hagg : (isAgg t).run P W = .ok false W := by
      unfold isAgg
      rw [Sem.run_bind, run_underlying hu W]
      cases d <;> simp_all
    unfold execOp
    simp only [ho, hx, Sem.run_bind, run_sure]
    simp [loadVar, Sem.run_bind, hagg, load, Sem.run, hc]
  unfold loadRes
  split
  · rename_i d inf hu hi
    split
    · rename_i hd
      split
      · rename_i cs hcs
        rw [hcs] at hb
        split
        · rename_i hh
          rw [Bool.and_eq_true] at hh
          have h0 := Nat.eq_of_beq_eq_true hh.1
          have h1 := Nat.eq_of_beq_eq_true hh.2
          intro _
          refine row d inf cs hu hi hd h1 fun j v hv => ?_
          rw [h0, Nat.zero_add]
          exact hb.cell_of hv
        · split
          · rename_i hh
            have hl := Nat.le_of_ble_eq_true hh
            intro _
            refine row d inf _ hu hi hd (by simp; omega) fun j v hv => ?_
            refine hb.cell_of ?_
            rw [List.getElem?_take] at hv
            split at hv
            · rw [List.getElem?_drop] at hv; exact hv
            · cases hv
          · trivial
      · trivial
    · rename_i hd
      split
      · rename_i cs hcs
        rw [hcs] at hb
        split
        · rename_i v hv
          intro _
          exact one d v hu hd (hb.cell_of hv)
        · trivial
      · rename_i cs hcs
        rw [hcs] at hb
        split
        · rename_i v hv
          intro _
          exact one d _ hu hd (hb.cell_of (by simp [Cells.den, hv]))
        · trivial
  · trivial

theorem loadAt_ok {t : TypeId} {x : Operand} {i off : Nat} {r : Row} {v : Value} (ho : o.op = .load t x) (hx : a.eval x = .pointer (some ⟨β i, off, none⟩)) (hb : Blk W (β i) r.ty (r.cs.den β)) : (loadAtRes P t r off v).Ok P β W a o := by
  unfold loadAtRes
  split
  · rename_i d hu
    split
    · rename_i hd
      split
      · rename_i cs hcs
        rw [hcs] at hb
        intro hob
        have hc := hb.cell_of (hob _ rfl)
        have hagg : (isAgg t).run P W = .ok false W := by
          unfold isAgg
          rw [Sem.run_bind, run_underlying hu W]
          cases d <;> simp_all
        unfold execOp
        simp only [ho, hx, Sem.run_bind, run_sure]
        simp [loadVar, Sem.run_bind, hagg, load, Sem.run, hc, SV.den]
      · trivial
    · trivial
  · trivial
theorem storeVar_cells (b off : Nat) (t : TypeId) (v : Value) (ht : W.there b off v.cells.size) (hi : (P.info? t).map (·.size) = some v.cells.size) (h1 : ∀ u ∈ v.cells.toList, u.oneCell' = true) :
    (storeVar t ⟨b, off, none⟩ v).run P W = .ok () (W.setCells b off v.cells.toList) := by
  have := run_storeCells_cells (P := P) b off v.cells.toList 0 W (fun j hj => by simpa using (ht j (by simpa using hj)).1) (fun j hj => by simpa using (ht j (by simpa using hj)).2) h1
  cases hq : P.info? t with
  | none => simp [hq] at hi
  | some i =>
    have hs : v.cells.size = i.size := by simp [hq] at hi; omega
    simp only [Nat.add_zero] at this
    simp [storeVar, sizeOf, typeInfo, hq, hs, this]

theorem Blk_there {b t : Nat} {cs : List Value} (hb : Blk W b t cs) {off n : Nat} (h : off + n ≤ cs.length) : W.there b off n := fun j hj =>
  ⟨by rw [hb.cell, List.getElem?_eq_getElem (by omega)]; rfl, hb.frozen _⟩

theorem store_ok {t : TypeId} {x y : Operand} {i off : Nat} {r : Row} {sv : SV} (ho : o.op = .store t x y) (hx : a.eval x = .pointer (some ⟨β i, off, none⟩)) (hy : a.eval y = sv.den β) (hb : Blk W (β i) r.ty (r.cs.den β)) : (storeRes P t i r off sv).Ok P β W a o := by
  have main : ∀ (inf : TypeInfo) (v : Value) (row' : List Value), sv.den β = v → P.info? t = some inf → v.cells.toList.length = inf.size → (∀ u ∈ v.cells.toList, u.oneCell' = true) → off + inf.size ≤ r.cs.len →
      (r.cs.den β).take off ++ (v.cells.toList ++ (r.cs.den β).drop (off + inf.size)) = row' → ∃ W', (execOp a.eval o).run P W = .ok .skip W' ∧ Blk W' (β i) r.ty row' ∧ Chg [β i] W W' := by
    intro inf v row' hv hi hl h1 hle hrow
    have hth : W.there (β i) off v.cells.size := Blk_there hb (by rw [Cells.den_length]; simp at hl; omega)
    have hrun := storeVar_cells (P := P) (β i) off t v hth (by rw [hi]; simp at hl ⊢; omega) h1
    refine ⟨W.setCells (β i) off v.cells.toList, ?_, ?_, Chg.setCells_ _ (.inl (by simp)) _ _ (Chg.refl _ _)⟩
    · unfold execOp
      simp only [ho, hx, hy, hv, Sem.run_bind, Instr.storeAt, Instr.sureAddr, Sem.run_pure, Result.andThen_ok, hrun]
    · have := hb.setCells v.cells.toList off (by rw [Cells.den_length, hl]; exact hle)
      rw [hl, hrow] at this
      exact this
  unfold storeRes
  split
  · trivial
  · rename_i inf hi
    split
    · rename_i v
      split
      · rename_i hh
        rw [Bool.and_eq_true] at hh
        have hl := Nat.eq_of_beq_eq_true hh.1
        have h1 := allB_spec hh.2
        split
        · rename_i hz
          rw [Bool.and_eq_true] at hz
          have h0 := Nat.eq_of_beq_eq_true hz.1
          have hs := Nat.eq_of_beq_eq_true hz.2
          intro _
          refine main inf v _ rfl hi hl h1 (by omega) ?_
          subst h0
          rw [List.take_zero, List.nil_append, List.drop_of_length_le (by rw [Cells.den_length]; omega), List.append_nil]
          rfl
        · split
          · rename_i hle
            have hle := Nat.le_of_ble_eq_true hle
            intro _
            refine main inf v _ rfl hi hl h1 hle ?_
            cases r.cs with
            | vals cs => rfl
            | svs cs => simp [Cells.den, List.map_take, List.map_drop, SV.den, Function.comp_def]
          · trivial
      · trivial
    · rename_i hnv
      split
      · rename_i h1
        have h1 := Nat.eq_of_beq_eq_true h1
        split
        · rename_i hlt
          have hlt : off < r.cs.len := Nat.le_of_ble_eq_true hlt
          have hc : (sv.den β).cells.toList = [sv.den β] := by cases sv <;> first | rfl | exact absurd rfl (hnv _)
          have ho : (sv.den β).oneCell' = true := by cases sv <;> first | rfl | exact absurd rfl (hnv _)
          intro _
          refine main inf (sv.den β) _ rfl hi (by rw [hc]; simp [h1]) (by rw [hc]; simpa using ho) (by omega) ?_
          rw [hc, h1]
          have key : ∀ (L : List Value), off < L.length → L.take off ++ ([sv.den β] ++ L.drop (off + 1)) = L.set off (sv.den β) := by
            intro L hL
            rw [List.set_eq_take_append_cons_drop, if_pos hL]
            rfl
          cases hr : r.cs with
          | vals cs =>
            rw [hr] at hlt
            simp only [Cells.den, List.map_set, List.map_map]
            rw [key cs hlt]
            congr 1
            have : (SV.den β ∘ SV.val) = id := rfl
            rw [this, List.map_id]
          | svs cs =>
            rw [hr] at hlt
            simp only [Cells.den, List.map_set]
            rw [key _ (by simpa [Cells.len] using hlt)]
        · trivial
      · trivial

theorem storeAt_ok {t : TypeId} {x y : Operand} {i off : Nat} {r : Row} {sv : SV} {cs' : List Value} (ho : o.op = .store t x y) (hx : a.eval x = .pointer (some ⟨β i, off, none⟩)) (hy : a.eval y = sv.den β) (hb : Blk W (β i) r.ty (r.cs.den β)) : (storeAtRes P t i r off sv cs').Ok P β W a o := by
  have main : ∀ (inf : TypeInfo) (v : Value) (row' : List Value), sv.den β = v → P.info? t = some inf → v.cells.toList.length = inf.size → (∀ u ∈ v.cells.toList, u.oneCell' = true) → off + inf.size ≤ r.cs.len →
      (r.cs.den β).take off ++ (v.cells.toList ++ (r.cs.den β).drop (off + inf.size)) = row' → ∃ W', (execOp a.eval o).run P W = .ok .skip W' ∧ Blk W' (β i) r.ty row' ∧ Chg [β i] W W' := by
    intro inf v row' hv hi hl h1 hle hrow
    have hth : W.there (β i) off v.cells.size := Blk_there hb (by rw [Cells.den_length]; simp at hl; omega)
    have hrun := storeVar_cells (P := P) (β i) off t v hth (by rw [hi]; simp at hl ⊢; omega) h1
    refine ⟨W.setCells (β i) off v.cells.toList, ?_, ?_, Chg.setCells_ _ (.inl (by simp)) _ _ (Chg.refl _ _)⟩
    · unfold execOp
      simp only [ho, hx, hy, hv, Sem.run_bind, Instr.storeAt, Instr.sureAddr, Sem.run_pure, Result.andThen_ok, hrun]
    · have := hb.setCells v.cells.toList off (by rw [Cells.den_length, hl]; exact hle)
      rw [hl, hrow] at this
      exact this
  unfold storeAtRes
  split
  · trivial
  · rename_i inf hi
    split
    · rename_i v
      split
      · rename_i hh
        rw [Bool.and_eq_true] at hh
        have hl := Nat.eq_of_beq_eq_true hh.1
        have h1 := allB_spec hh.2
        split
        · rename_i cs hcs
          intro hob
          have hob := hob _ rfl
          refine main inf v _ rfl hi hl h1 (by rw [hcs]; exact hob.1) ?_
          rw [hcs]
          exact hob.2
        · trivial
      · trivial
    · trivial

theorem op_ok {w0 : World} {H : List (Nat × Hint)} (hw : Chg [] w0 W) (he : ∀ x ∈ o.op.operands, ∀ sv, e x = some sv → a.eval x = sv.den β) (hr : ∀ i r, touches e o = some i → row i = some r → Blk W (β i) r.ty (r.cs.den β)) : (opRes P w0 H hn e row o).Ok P β W a o := by
  have move : ∀ x, (o.op = .move x ∨ o.op = .assign x) → (match e x with | some sv => (match hn with | none => Res.val sv none | _ => pureRes P w0 hn e o) | none => .bad : Res).Ok P β W a o := by
    intro x ho
    split
    · rename_i sv hsv
      split
      · intro _
        have hx := he x (by rcases ho with ho | ho <;> simp [ho, Op.operands]) _ hsv
        unfold execOp
        rcases ho with ho | ho <;> simp only [ho, hx] <;> rfl
      · exact pure_ok hw he
    · trivial
  unfold opRes
  split
  · rename_i x ho; exact move x (.inl ho)
  · rename_i x ho; exact move x (.inr ho)
  · rename_i x ho
    split
    · rename_i i off hx
      intro _
      have hx := he x (by simp [ho, Op.operands]) _ hx
      unfold execOp
      simp only [ho, hx]
      rfl
    · exact pure_ok hw he
  · rename_i t ho
    split
    · rename_i inf hi
      split
      · rename_i z hz
        show _ = _
        unfold execOp
        simp [ho, Instr.alloc, zeroValue, typeInfo, hi, hz, newVar, newRow, Cells.den]
      · trivial
    · trivial
  · rename_i t x ho
    split
    · rename_i v hx
      have hx := he x (by simp [ho, Op.operands]) _ hx
      show _ = _
      unfold execOp
      simp [ho, hx, Instr.box, newVar, newRow, Cells.den, SV.den]
    · rename_i sv hnv hx
      have hx := he x (by simp [ho, Op.operands]) _ hx
      have hc : (sv.den β).cells = #[sv.den β] := by cases sv <;> first | rfl | exact absurd rfl (hnv _)
      show _ = _
      unfold execOp
      simp [ho, hx, Instr.box, newVar, newRow, Cells.den, hc]
    · trivial
  · rename_i t x ho
    split
    · rename_i i off hx
      split
      · rename_i r hrow
        split
        · exact loadAt_ok ho (he x (by simp [ho, Op.operands]) _ hx) (hr i r (by simp [touches, ho, hx]) hrow)
        · exact load_ok ho (he x (by simp [ho, Op.operands]) _ hx) (hr i r (by simp [touches, ho, hx]) hrow)
      · trivial
    · split
      · exact pure_ok hw he
      · trivial
  · rename_i t x y ho
    split
    · rename_i i off hx
      split
      · rename_i sv hy
        split
        · rename_i r hrow
          split
          · exact storeAt_ok ho (he x (by simp [ho, Op.operands]) _ hx) (he y (by simp [ho, Op.operands]) _ hy) (hr i r (by simp [touches, ho, hx]) hrow)
          · exact store_ok ho (he x (by simp [ho, Op.operands]) _ hx) (he y (by simp [ho, Op.operands]) _ hy) (hr i r (by simp [touches, ho, hx]) hrow)
        · trivial
      · trivial
    · trivial
  · rename_i s x f ho
    split
    · rename_i i off hx
      have hx := he x (by simp [ho, Op.operands]) _ hx
      split
      · rename_i fields hu
        split
        · rename_i fd hf
          split
          · rename_i k hk
            intro _
            cases hq : P.info? fd.type with
            | none => rw [hq] at hk; cases hk
            | some inf =>
              rw [hq] at hk
              have hk : inf.size = k + 1 := by simpa using hk
              unfold execOp
              simp [ho, hx, SV.den, Instr.fieldAt, run_underlying hu, hf, Instr.sureAddr, fieldPlace, sizeOf, typeInfo, hq, hk, Addr.add_lit]
          · trivial
        · trivial
      · trivial
    · trivial
  · rename_i t x ix ho
    split
    · rename_i i off hx
      have hx := he x (by simp [ho, Op.operands]) _ hx
      split
      · rename_i len elem hu
        split
        · rename_i kk k hk
          have hk := he ix (by simp [ho, Op.operands]) _ hk
          split
          · rename_i inf hi
            have key : 0 ≤ k ∧ k < len → (execOp a.eval o).run P W = .ok (.value (.pointer (some ⟨β i, off + k.toNat * inf.size, none⟩))) W := by
              intro hb
              unfold execOp
              simp [ho, hx, hk, SV.den, Instr.indexAt, run_underlying hu, asIntOf, Instr.sureAddr, hb, sizeOf, typeInfo, hi, Addr.add_lit]
            split
            · intro hob
              exact key (hob _ rfl)
            · split
              · rename_i hd
                intro _
                exact key (of_decide_eq_true hd)
              · trivial
          · trivial
        · trivial
      · trivial
    · exact pure_ok hw he
  · exact call_ok hw he
  · exact pure_ok hw he
end
end Sx
end Go.Proofs.YtgpiapmbbnngpaaGreatDoor

/- A walk by reckoning, part 3: the state that holds, one operation behind another, plain regions. Proved over any program. No condition of its own. -/
namespace Go.Proofs.YtgpiapmbbnngpaaGreatDoor
open Go Go.RowKit Go.Lib Go.Sort

namespace Sx
section
variable {P : Program} {o : Oper} {e : Operand → Option SV} {row : Nat → Option Row} {hn : Option Hint} {Q : Nat → Prop}

def Res.On (Q : Nat → Prop) : Res → Prop
  | .val sv _ => sv.on Q
  | .alloc _ cs => cs.on Q
  | .store i r _ => Q i ∧ r.cs.on Q
  | _ => True
theorem pure_on {w0 : World} : (pureRes P w0 hn e o).On Q := by
  unfold pureRes
  split
  · trivial
  · split
    · split <;> trivial
    · split <;> trivial
    · split <;> trivial
    · split <;> trivial
theorem call_on {w0 : World} : (callRes P w0 hn e o).On Q := by
  unfold callRes
  split
  · split
    · trivial
    · split <;> trivial
  · exact pure_on
theorem loadAt_on {t : TypeId} {r : Row} {off : Nat} {v : Value} : (loadAtRes P t r off v).On Q := by
  unfold loadAtRes
  split
  · split
    · split <;> trivial
    · trivial
  · trivial
theorem storeAt_on {t : TypeId} {r : Row} {i off : Nat} {sv : SV} {cs' : List Value} (hi : Q i) : (storeAtRes P t i r off sv cs').On Q := by
  unfold storeAtRes
  split
  · trivial
  · split
    · split
      · split
        · exact ⟨hi, trivial⟩
        · trivial
      · trivial
    · trivial
theorem load_on {t : TypeId} {r : Row} {off : Nat} (h : r.cs.on Q) : (loadRes P t r off).On Q := by
  unfold loadRes
  split
  · split
    · split
      · split
        · trivial
        · split <;> trivial
      · trivial
    · split
      · split <;> trivial
      · rename_i cs hcs
        rw [hcs] at h
        split
        · rename_i v hv
          exact h v (List.mem_of_getElem? hv)
        · trivial
  · trivial
theorem store_on {t : TypeId} {r : Row} {i off : Nat} {sv : SV} (hi : Q i) (hs : sv.on Q) (h : r.cs.on Q) : (storeRes P t i r off sv).On Q := by
  unfold storeRes
  split
  · trivial
  · split
    · split
      · split
        · exact ⟨hi, trivial⟩
        · split
          · refine ⟨hi, ?_⟩
            cases hc : r.cs with
            | vals cs => trivial
            | svs cs =>
              rw [hc] at h
              intro s hs
              simp only [List.mem_append, List.mem_map] at hs
              rcases hs with hs | ⟨v, _, rfl⟩ | hs
              · exact h s (List.mem_of_mem_take hs)
              · trivial
              · exact h s (List.mem_of_mem_drop hs)
          · trivial
      · trivial
    · split
      · split
        · refine ⟨hi, ?_⟩
          cases hc : r.cs with
          | vals cs =>
            intro s hm
            rcases List.mem_or_eq_of_mem_set hm with hm | rfl
            · obtain ⟨v, _, rfl⟩ := List.mem_map.1 hm
              trivial
            · exact hs
          | svs cs =>
            rw [hc] at h
            intro s hm
            rcases List.mem_or_eq_of_mem_set hm with hm | rfl
            · exact h s hm
            · exact hs
        · trivial
      · trivial
theorem op_on {w0 : World} {H : List (Nat × Hint)} (he : ∀ x ∈ o.op.operands, ∀ sv, e x = some sv → sv.on Q) (hr : ∀ i r, touches e o = some i → row i = some r → r.cs.on Q) : (opRes P w0 H hn e row o).On Q := by
  have move : ∀ x, (o.op = .move x ∨ o.op = .assign x) → (match e x with | some sv => (match hn with | none => Res.val sv none | _ => pureRes P w0 hn e o) | none => .bad : Res).On Q := by
    intro x ho
    split
    · rename_i sv hsv
      split
      · exact he x (by rcases ho with ho | ho <;> simp [ho, Op.operands]) _ hsv
      · exact pure_on
    · trivial
  unfold opRes
  split
  · rename_i x ho; exact move x (.inl ho)
  · rename_i x ho; exact move x (.inr ho)
  · rename_i x ho
    split
    · rename_i i off hx
      exact he x (by simp [ho, Op.operands]) _ hx
    · exact pure_on
  · split
    · split <;> trivial
    · trivial
  · rename_i t x ho
    split
    · trivial
    · rename_i sv hnv hx
      intro s hs
      rw [List.mem_singleton] at hs
      subst hs
      exact he x (by simp [ho, Op.operands]) _ hx
    · trivial
  · rename_i t x ho
    split
    · rename_i i off hx
      split
      · rename_i r hrow
        split
        · exact loadAt_on
        · exact load_on (hr i r (by simp [touches, ho, hx]) hrow)
      · trivial
    · split
      · exact pure_on
      · trivial
  · rename_i t x y ho
    split
    · rename_i i off hx
      split
      · rename_i sv hy
        split
        · rename_i r hrow
          split
          · exact storeAt_on (he x (by simp [ho, Op.operands]) _ hx)
          · exact store_on (he x (by simp [ho, Op.operands]) _ hx) (he y (by simp [ho, Op.operands]) _ hy) (hr i r (by simp [touches, ho, hx]) hrow)
        · trivial
      · trivial
    · trivial
  · rename_i s x f ho
    split
    · rename_i i off hx
      split
      · split
        · split
          · exact he x (by simp [ho, Op.operands]) _ hx
          · trivial
        · trivial
      · trivial
    · trivial
  · rename_i t x ix ho
    split
    · rename_i i off hx
      split
      · split
        · split
          · split
            · exact he x (by simp [ho, Op.operands]) _ hx
            · split
              · exact he x (by simp [ho, Op.operands]) _ hx
              · trivial
          · trivial
        · trivial
      · trivial
    · exact pure_on
  · exact call_on
  · exact pure_on
/-- A store goes into the block that it touches. -/
theorem store_touch {w0 : World} {H : List (Nat × Hint)} {i : Nat} {r' : Row} {ob : Option Prop} (h : opRes P w0 H hn e row o = .store i r' ob) : touches e o = some i ∧ ∃ r, row i = some r := by
  have hp : ∀ (hn : Option Hint), pureRes P w0 hn e o ≠ .store i r' ob := by
    intro hn h
    unfold pureRes at h
    repeat' (split at h)
    all_goals (cases h)
  have hc : callRes P w0 hn e o ≠ .store i r' ob := by
    intro h
    unfold callRes at h
    repeat' (split at h)
    all_goals first | (cases h; done) | exact hp _ h
  have hl : ∀ t r off, loadRes P t r off ≠ .store i r' ob := by
    intro t r off h
    unfold loadRes at h
    repeat' (split at h)
    all_goals (cases h)
  have hl2 : ∀ t r off v, loadAtRes P t r off v ≠ .store i r' ob := by
    intro t r off v h
    unfold loadAtRes at h
    repeat' (split at h)
    all_goals (cases h)
  unfold opRes at h
  split at h
  · repeat' (split at h)
    all_goals first | (cases h; done) | exact absurd h (hp _)
  · repeat' (split at h)
    all_goals first | (cases h; done) | exact absurd h (hp _)
  · repeat' (split at h)
    all_goals first | (cases h; done) | exact absurd h (hp _)
  · repeat' (split at h)
    all_goals (cases h)
  · repeat' (split at h)
    all_goals (cases h)
  · repeat' (split at h)
    all_goals first | (cases h; done) | exact absurd h (hl _ _ _) | exact absurd h (hl2 _ _ _ _) | exact absurd h (hp _)
  · rename_i t x y ho
    split at h
    · rename_i j off hx
      split at h
      · split at h
        · rename_i r hrow
          have : j = i := by
            split at h
            · unfold storeAtRes at h
              repeat' (split at h)
              all_goals first | (cases h; done) | (injection h)
            · unfold storeRes at h
              repeat' (split at h)
              all_goals first | (cases h; done) | (injection h)
          subst this
          exact ⟨by simp [touches, ho, hx], r, hrow⟩
        · cases h
      · cases h
    · cases h
  · repeat' (split at h)
    all_goals (cases h)
  · repeat' (split at h)
    all_goals first | (cases h; done) | exact absurd h (hp _)
  · exact absurd h hc
  · exact absurd h (hp _)
end

structure Hd (w0 : World) (n : Nat) (β : Nat → Nat) (st : St) (a : Act) (w : World) : Prop where
  size : a.tmps.size = n
  dn : a.defers = []
  get : ∀ t sv, look st.fr t = some sv → a.tmps[t]? = some (sv.den β)
  blk : ∀ (i : Nat) (r : Row), st.mem[i]? = some r → Blk w (β i) r.ty (r.cs.den β)
  new : ∀ i, i < st.mem.length → w0.heap.size ≤ β i
  inj : ∀ i j, i < st.mem.length → j < st.mem.length → β i = β j → i = j
  chg : Chg [] w0 w
  wfS : ∀ t sv, look st.fr t = some sv → sv.on (· < st.mem.length)
  wfR : ∀ (i : Nat) (r : Row), st.mem[i]? = some r → r.cs.on (· < st.mem.length)

section
variable {P : Program} {w0 w w' : World} {n : Nat} {β : Nat → Nat} {st : St} {a : Act}
theorem look_put {d t : Nat} {v : SV} {fr : List (Nat × SV)} : look ((d, v) :: fr) t = if d = t then some v else look fr t := by
  by_cases h : d = t
  · subst h; simp [look]
  · rw [if_neg h]
    have : Nat.beq d t = false := by
      cases hb : Nat.beq d t
      · rfl
      · exact absurd (Nat.eq_of_beq_eq_true hb) h
    rw [look]
    simp only [this]
theorem get_put {d t : Nat} {v : Value} (h : d < a.tmps.size) : (a.put (some d) v).tmps[t]? = if d = t then some v else a.tmps[t]? := by
  simp only [Act.put, Array.getElem?_setIfInBounds]
  by_cases hd : d = t
  · subst hd; simp [h]
  · simp [hd]
theorem put_far {d : Nat} {v : Value} (h : ¬ d < a.tmps.size) : a.put (some d) v = a := by
  unfold Act.put
  simp only
  rw [Array.setIfInBounds_eq_of_size_le (by omega)]
theorem Hd.put (h : Hd w0 n β st a w) (dst : Option Tmp) {sv : SV} (hs : sv.on (· < st.mem.length)) : Hd w0 n β (st.put n dst sv) (a.put dst (sv.den β)) w := by
  cases dst with
  | none => exact h
  | some d =>
    by_cases hd : d < n
    · have hb : Nat.blt d n = true := Nat.ble_eq_true_of_le hd
      have e : st.put n (some d) sv = ⟨(d, sv) :: st.fr, st.mem⟩ := by unfold St.put; simp only [hb]
      rw [e]
      have hsz : d < a.tmps.size := by rw [h.size]; exact hd
      refine ⟨by simp [Act.put, h.size], h.dn, fun t u hu => ?_, h.blk, h.new, h.inj, h.chg, fun t u hu => ?_, h.wfR⟩
      · rw [get_put hsz]
        rw [look_put] at hu
        split at hu
        · rename_i hdt; rw [if_pos hdt]; rw [Option.some.inj hu]
        · rename_i hdt; rw [if_neg hdt]; exact h.get t u hu
      · rw [look_put] at hu
        split at hu
        · rw [← Option.some.inj hu]; exact hs
        · exact h.wfS t u hu
    · have hb : Nat.blt d n = false := by
        cases hb : Nat.blt d n
        · rfl
        · exact absurd (Nat.le_of_ble_eq_true hb) hd
      have e : st.put n (some d) sv = st := by unfold St.put; simp only [hb]
      rw [e, put_far (by rw [h.size]; exact hd)]
      exact h
theorem Hd.later (h : Hd w0 n β st a w) (hc : Chg [] w w') : Hd w0 n β st a w' :=
  ⟨h.size, h.dn, h.get, fun i r hi => (h.blk i r hi).chg hc (by simp), h.new, h.inj, h.chg.trans hc, h.wfS, h.wfR⟩
def upd (β : Nat → Nat) (m g : Nat) (i : Nat) : Nat := if i = m then g else β i
theorem upd_lt {m g i : Nat} (h : i < m) : β i = upd β m g i := by unfold upd; rw [if_neg (by omega)]
theorem upd_same {m g : Nat} : upd β m g m = g := by unfold upd; rw [if_pos rfl]
theorem Hd.alloc (h : Hd w0 n β st a w) (t : TypeId) {cs : Cells} (hs : cs.on (· < st.mem.length)) : Hd w0 n (upd β st.mem.length w.heap.size) ⟨st.fr, st.mem ++ [⟨t, cs⟩]⟩ a (w.alloc (.cells (cs.den β).toArray t)) := by
  have same : ∀ i, i < st.mem.length → β i = upd β st.mem.length w.heap.size i := fun i hi => upd_lt hi
  have lt : ∀ i, i < st.mem.length → β i < w.heap.size := fun i hi => (h.blk i _ (List.getElem?_eq_getElem hi)).lt
  refine ⟨h.size, h.dn, fun u sv hu => ?_, fun i r hi => ?_, fun i hi => ?_, fun i j hi hj he => ?_, h.chg.alloc _, fun u sv hu => ?_, fun i r hi => ?_⟩
  · rw [h.get u sv hu, SV.den_congr same (h.wfS u sv hu)]
  · simp only at hi
    by_cases hlt : i < st.mem.length
    · rw [List.getElem?_append_left hlt] at hi
      rw [← same i hlt, ← Cells.den_congr same (h.wfR i r hi)]
      exact (h.blk i r hi).alloc _
    · have hl : i < (st.mem ++ [(⟨t, cs⟩ : Row)]).length := (List.getElem?_eq_some_iff.1 hi).1
      simp at hl
      obtain rfl : i = st.mem.length := by omega
      rw [List.getElem?_append_right (Nat.le_refl _), Nat.sub_self] at hi
      have : r = ⟨t, cs⟩ := by simpa using hi.symm
      subst this
      rw [upd_same, ← Cells.den_congr same hs]
      exact Blk.new w t (cs.den β).toArray
  · simp at hi
    by_cases hlt : i < st.mem.length
    · rw [← same i hlt]; exact h.new i hlt
    · obtain rfl : i = st.mem.length := by omega
      rw [upd_same]; exact h.chg.size
  · simp at hi hj
    by_cases hi' : i < st.mem.length
    · by_cases hj' : j < st.mem.length
      · rw [← same i hi', ← same j hj'] at he; exact h.inj i j hi' hj' he
      · obtain rfl : j = st.mem.length := by omega
        rw [← same i hi', upd_same] at he
        have := lt i hi'
        omega
    · obtain rfl : i = st.mem.length := by omega
      by_cases hj' : j < st.mem.length
      · rw [← same j hj', upd_same] at he
        have := lt j hj'
        omega
      · omega
  · exact SV.on_mono (fun i hi => by simp; omega) (h.wfS u sv hu)
  · simp only at hi
    by_cases hlt : i < st.mem.length
    · rw [List.getElem?_append_left hlt] at hi
      exact Cells.on_mono (fun i hi => by simp; omega) (h.wfR i r hi)
    · have hl : i < (st.mem ++ [(⟨t, cs⟩ : Row)]).length := (List.getElem?_eq_some_iff.1 hi).1
      simp at hl
      obtain rfl : i = st.mem.length := by omega
      rw [List.getElem?_append_right (Nat.le_refl _), Nat.sub_self] at hi
      have : r = ⟨t, cs⟩ := by simpa using hi.symm
      subst this
      exact Cells.on_mono (fun i hi => by simp; omega) hs
theorem Hd.store (h : Hd w0 n β st a w) {i : Nat} {r : Row} (hi : i < st.mem.length) (hb : Blk w' (β i) r.ty (r.cs.den β)) (hc : Chg [β i] w w') (hr : r.cs.on (· < st.mem.length)) : Hd w0 n β ⟨st.fr, st.mem.set i r⟩ a w' := by
  refine ⟨h.size, h.dn, h.get, fun j r' hj => ?_, fun j hj => h.new j (by simpa using hj), fun j k hj hk => h.inj j k (by simpa using hj) (by simpa using hk), ?_, fun t sv ht => ?_, fun j r' hj => ?_⟩
  · simp only [List.getElem?_set] at hj
    split at hj
    · rename_i hij
      subst hij
      have : r = r' := by simpa using hj
      subst this
      exact hb
    · rename_i hij
      have hjl : j < st.mem.length := (List.getElem?_eq_some_iff.1 hj).1
      exact (h.blk j r' hj).chg hc (by simp; exact fun he => hij (h.inj j i hjl hi he).symm)
  · exact h.chg.seq hc (fun x hx => .inr (by rw [List.mem_singleton] at hx; rw [hx]; exact h.new i hi))
  · simp only [List.length_set]; exact h.wfS t sv ht
  · simp only [List.length_set]
    simp only [List.getElem?_set] at hj
    split at hj
    · have : r = r' := by simpa using hj
      subst this
      exact hr
    · exact h.wfR j r' hj
theorem Hd.eval (h : Hd w0 n β st a w) {x : Operand} {sv : SV} (hx : ev st.fr x = some sv) : a.eval x = sv.den β := by
  cases x with
  | tmp t =>
    have := h.get t sv hx
    simp [Act.eval, this]
  | const v => simp only [ev, Option.some.injEq] at hx; subst hx; rfl
  | global g => simp only [ev, Option.some.injEq] at hx; subst hx; rfl
  | func f => simp only [ev, Option.some.injEq] at hx; subst hx; rfl
theorem Hd.evOn (h : Hd w0 n β st a w) {x : Operand} {sv : SV} (hx : ev st.fr x = some sv) : sv.on (· < st.mem.length) := by
  cases x with
  | tmp t => exact h.wfS t sv hx
  | const v => simp only [ev, Option.some.injEq] at hx; subst hx; trivial
  | global g => simp only [ev, Option.some.injEq] at hx; subst hx; trivial
  | func f => simp only [ev, Option.some.injEq] at hx; subst hx; trivial
end

/-! ### One operation behind another -/
section
variable (P : Program) (H : List (Nat × Hint)) (n : Nat) (w0 : World)
/-- Here the reckoning stands. -/
inductive Stuck {α : Type} (_ : α) : Prop
/-- What is asked, with the slot of the operation that asks it. -/
def Tag (_ : Nat) (p : Prop) : Prop := p
def keyOf (o : Oper) : Nat := match o.dst with
  | some d => d
  | none => match o.op with
    | .store _ (.tmp x) _ => 100000 + x
    | _ => 0
def obAnd (o : Oper) (ob : Option Prop) (K : Prop) : Prop := match ob with
  | none => K
  | some p => Tag (keyOf o) p ∧ K
theorem obAnd_ob {o : Oper} {ob : Option Prop} {K : Prop} (h : obAnd o ob K) : ∀ p, ob = some p → p := by
  intro p hp
  subst hp
  exact h.1
theorem obAnd_k {o : Oper} {ob : Option Prop} {K : Prop} (h : obAnd o ob K) : K := by
  cases ob with
  | none => exact h
  | some p => exact h.2
def rowAt (mem : List Row) (i : Nat) : Option Row := mem[i]?
def step (o : Oper) (st : St) (K : St → Prop) : Prop :=
  match opRes P w0 H (hint H o.dst) (ev st.fr) (rowAt st.mem) o with
  | .val sv ob => obAnd o ob (K (st.put n o.dst sv))
  | .call f args v => Tag (keyOf o) (∀ W, Chg [] w0 W → Calls P f args.toArray W fun e w' => e = .returned v ∧ Chg [] W w') ∧ K (st.put n o.dst (.val v))
  | .alloc t cs => K ((⟨st.fr, st.mem ++ [⟨t, cs⟩]⟩ : St).put n o.dst (.ptr st.mem.length 0))
  | .store i r ob => obAnd o ob (K ((⟨st.fr, st.mem.set i r⟩ : St).put n o.dst (.val undef)))
  | .bad => Stuck o
/-- Is the operation wanted? -/
def guardOf (ops : Array Oper) (fr : List (Nat × SV)) (o : Oper) : Option Bool :=
  match o.guard with
  | none => some true
  | some (j, b) => match ops[j]? with
    | none => none
    | some oj => match oj.dst with
      | none => none
      | some t => match look fr t with
        | some (.val v) => match v with
          | .bool c => some (c == b)
          | _ => some false
        | _ => none
def exOps (ops : Array Oper) : List Oper → St → (St → Prop) → Prop
  | [], st, K => K st
  | o :: l, st, K => match guardOf ops st.fr o with
    | some true => step P H n w0 o st (fun st' => exOps ops l st' K)
    | some false => exOps ops l (st.put n o.dst (.val undef)) K
    | none => Stuck o
end

section
variable {P : Program} {H : List (Nat × Hint)} {n : Nat} {w0 w : World} {β : Nat → Nat} {st : St} {a : Act} {ops : Array Oper} {Q : Exit → Act → World → Prop}
theorem guard_ok {o : Oper} {b : Bool} (h : Hd w0 n β st a w) (hg : guardOf ops st.fr o = some b) : Region.wanted o (yielded ops a.tmps) = b := by
  unfold guardOf at hg
  unfold Region.wanted
  split at hg
  · rename_i hn; rw [hn]; simpa using hg
  · rename_i j b' hn
    rw [hn]
    split at hg
    · cases hg
    · rename_i oj hoj
      split at hg
      · cases hg
      · rename_i t ht
        split at hg
        · rename_i v hc
          have := h.get t _ hc
          simp only [yielded, hoj, Option.bind_some, ht, this, SV.den]
          split at hg
          · rename_i c
            have hb : (c == b') = b := Option.some.inj hg
            rw [← hb]
            cases c <;> cases b' <;> rfl
          · rename_i hnb
            have hb : false = b := Option.some.inj hg
            rw [← hb]
            cases v <;> first | rfl | exact absurd rfl (hnb _)
        · cases hg
theorem step_ok {o : Oper} {K : St → Prop} {next : Act → World → Prop} (h : Hd w0 n β st a w) (hs : step P H n w0 o st K) (hK : ∀ β' st' a' w', K st' → Hd w0 n β' st' a' w' → next a' w') : o.wp P a w next Q := by
  have ho := op_ok (P := P) (w0 := w0) (H := H) (β := β) (W := w) (a := a) (o := o) (e := ev st.fr) (row := rowAt st.mem) (hn := hint H o.dst) h.chg (fun x _ sv hx => h.eval hx) (fun i r _ hi => h.blk i r hi)
  have hon := op_on (P := P) (w0 := w0) (H := H) (o := o) (e := ev st.fr) (row := rowAt st.mem) (hn := hint H o.dst) (Q := (· < st.mem.length)) (fun x _ sv hx => h.evOn hx) (fun i r _ hi => h.wfR i r hi)
  unfold step at hs
  unfold Oper.wp
  cases hr : opRes P w0 H (hint H o.dst) (ev st.fr) (rowAt st.mem) o with
  | val sv ob =>
    rw [hr] at hs ho hon
    simp only at hs
    rw [ho (obAnd_ob hs)]
    exact hK _ _ _ _ (obAnd_k hs) (h.put o.dst hon)
  | call f args v =>
    rw [hr] at hs ho hon
    simp only at hs
    rw [show (execOp a.eval o).run P w = _ from ho]
    refine (hs.1 w h.chg).mono fun e w' ⟨he, hc⟩ => ?_
    subst he
    exact hK _ _ _ _ hs.2 ((h.later hc).put o.dst (sv := .val v) trivial)
  | alloc t cs =>
    rw [hr] at hs ho hon
    simp only at hs
    rw [show (execOp a.eval o).run P w = _ from ho]
    have h2 := (h.alloc t hon).put o.dst (sv := .ptr st.mem.length 0) (by show _ < _; simp)
    simp only [SV.den, upd_same] at h2
    exact hK _ _ _ _ hs h2
  | store i r ob =>
    rw [hr] at hs ho hon
    simp only at hs
    obtain ⟨w', hrun, hb, hc⟩ := ho (obAnd_ob hs)
    rw [hrun]
    exact hK _ _ _ _ (obAnd_k hs) ((h.store hon.1 hb hc hon.2).put o.dst (sv := .val undef) trivial)
  | bad => rw [hr] at hs; exact nomatch hs
theorem exOps_ok : ∀ (l : List Oper) (st : St) (K : St → Prop) (β : Nat → Nat) (a : Act) (w : World), Hd w0 n β st a w → exOps P H n w0 ops l st K → (∀ β' st' a' w', K st' → Hd w0 n β' st' a' w' → Q .normal a' w') → wpList P ops Q l a w
  | [], _, _, _, _, _, h, hx, hK => hK _ _ _ _ hx h
  | o :: l, st, K, β, a, w, h, hx, hK => by
    unfold exOps at hx
    unfold wpList
    split at hx
    · rename_i hg
      rw [guard_ok h hg, if_pos rfl]
      exact .inl (step_ok h hx fun β' st' a' w' hk h' => exOps_ok l st' K β' a' w' h' hk hK)
    · rename_i hg
      rw [guard_ok h hg, if_neg (by decide)]
      exact exOps_ok l _ K β _ w (h.put o.dst (sv := .val undef) trivial) hx hK
    · exact nomatch hx
end
end Sx
end Go.Proofs.YtgpiapmbbnngpaaGreatDoor

/- A walk by reckoning, part 4: a region that draws its order, with variables made and stores among its operations: one reckoning in the text's order serves every order. Proved over any program. No condition of its own. -/
namespace Go.Proofs.YtgpiapmbbnngpaaGreatDoor
open Go Go.RowKit Go.Lib Go.Sort

namespace Sx
/-- What an operation has come to: its slot's value, the block that it looks at, the block that it writes, the block that it makes. -/
structure Ent where
  sv : SV
  tch : Option Nat
  wr : Option (Nat × Row)
  nw : Option (Nat × Row)
def memOf (mem : List Row) (en : Ent) : List Row := match en.nw with
  | some (_, r) => mem ++ [r]
  | none => match en.wr with
    | some (i, r) => mem.set i r
    | none => mem
def applyE (n : Nat) (st : St) (o : Oper) (en : Ent) : St := (⟨st.fr, memOf st.mem en⟩ : St).put n o.dst en.sv

section
variable (P : Program) (H : List (Nat × Hint)) (n : Nat) (w0 : World) (ops : Array Oper)
def exLex : List Oper → St → List Ent → (List Ent → St → Prop) → Prop
  | [], st, acc, K => K acc st
  | o :: l, st, acc, K => match guardOf ops st.fr o with
    | some true => match opRes P w0 H (hint H o.dst) (ev st.fr) (rowAt st.mem) o with
      | .val sv ob => obAnd o ob (exLex l (applyE n st o ⟨sv, touches (ev st.fr) o, none, none⟩) (acc ++ [⟨sv, touches (ev st.fr) o, none, none⟩]) K)
      | .call f args v => Tag (keyOf o) (∀ W, Chg [] w0 W → Calls P f args.toArray W fun e w' => e = .returned v ∧ Chg [] W w') ∧ exLex l (applyE n st o ⟨.val v, touches (ev st.fr) o, none, none⟩) (acc ++ [⟨.val v, touches (ev st.fr) o, none, none⟩]) K
      | .alloc t cs => exLex l (applyE n st o ⟨.ptr st.mem.length 0, touches (ev st.fr) o, none, some (st.mem.length, ⟨t, cs⟩)⟩) (acc ++ [⟨.ptr st.mem.length 0, touches (ev st.fr) o, none, some (st.mem.length, ⟨t, cs⟩)⟩]) K
      | .store i r ob => obAnd o ob (exLex l (applyE n st o ⟨.val undef, touches (ev st.fr) o, some (i, r), none⟩) (acc ++ [⟨.val undef, touches (ev st.fr) o, some (i, r), none⟩]) K)
      | .bad => Stuck o
    | some false => exLex l (applyE n st o ⟨.val undef, none, none, none⟩) (acc ++ [⟨.val undef, none, none, none⟩]) K
    | none => Stuck o

def EntOk (st : St) (o : Oper) (en : Ent) : Prop :=
  (guardOf ops st.fr o = some false ∧ en = ⟨.val undef, none, none, none⟩) ∨
  (guardOf ops st.fr o = some true ∧ match opRes P w0 H (hint H o.dst) (ev st.fr) (rowAt st.mem) o with
    | .val sv ob => (∀ p, ob = some p → p) ∧ en = ⟨sv, touches (ev st.fr) o, none, none⟩
    | .call f args v => (∀ W, Chg [] w0 W → Calls P f args.toArray W fun e w' => e = .returned v ∧ Chg [] W w') ∧ en = ⟨.val v, touches (ev st.fr) o, none, none⟩
    | .alloc t cs => en = ⟨.ptr st.mem.length 0, touches (ev st.fr) o, none, some (st.mem.length, ⟨t, cs⟩)⟩
    | .store i r ob => (∀ p, ob = some p → p) ∧ en = ⟨.val undef, touches (ev st.fr) o, some (i, r), none⟩
    | .bad => False)
def Lex : List Oper → St → List Ent → St → Prop
  | [], st, es, st' => es = [] ∧ st' = st
  | o :: l, st, es, st' => ∃ en es', es = en :: es' ∧ EntOk P H w0 ops st o en ∧ Lex l (applyE n st o en) es' st'
end
section
variable {P : Program} {H : List (Nat × Hint)} {n : Nat} {w0 : World} {ops : Array Oper}
theorem lex_of : ∀ (l : List Oper) (st : St) (acc : List Ent) (K : List Ent → St → Prop), exLex P H n w0 ops l st acc K → ∃ es st', Lex P H n w0 ops l st es st' ∧ K (acc ++ es) st'
  | [], st, acc, K, h => ⟨[], st, ⟨rfl, rfl⟩, by simpa [exLex] using h⟩
  | o :: l, st, acc, K, h => by
    have go : ∀ en, EntOk P H w0 ops st o en → exLex P H n w0 ops l (applyE n st o en) (acc ++ [en]) K → ∃ es st', Lex P H n w0 ops (o :: l) st es st' ∧ K (acc ++ es) st' := by
      intro en he hx
      obtain ⟨es, st', h1, h2⟩ := lex_of l _ _ K hx
      exact ⟨en :: es, st', ⟨en, es, rfl, he, h1⟩, by simpa using h2⟩
    unfold exLex at h
    split at h
    · rename_i hg
      split at h
      · rename_i sv ob hr
        exact go _ (.inr ⟨hg, by rw [hr]; exact ⟨obAnd_ob h, rfl⟩⟩) (obAnd_k h)
      · rename_i f args v hr
        exact go _ (.inr ⟨hg, by rw [hr]; exact ⟨h.1, rfl⟩⟩) h.2
      · rename_i t cs hr
        exact go _ (.inr ⟨hg, by rw [hr]⟩) h
      · rename_i i r ob hr
        exact go _ (.inr ⟨hg, by rw [hr]; exact ⟨obAnd_ob h, rfl⟩⟩) (obAnd_k h)
      · exact nomatch h
    · rename_i hg
      exact go _ (.inl ⟨hg, rfl⟩) h
    · exact nomatch h

def runE (n : Nat) : St → List Oper → List Ent → Nat → St
  | st, o :: l, en :: es, k + 1 => runE n (applyE n st o en) l es k
  | st, _, _, _ => st
theorem runE_zero {st : St} {l : List Oper} {es : List Ent} : runE n st l es 0 = st := by
  cases l <;> cases es <;> rfl
theorem runE_succ : ∀ {l : List Oper} {es : List Ent} {st : St} {k : Nat} {o : Oper} {en : Ent}, l[k]? = some o → es[k]? = some en → runE n st l es (k + 1) = applyE n (runE n st l es k) o en
  | o :: l, en :: es, st, 0, o', en', ho, he => by
    have ho : o = o' := by simpa using ho
    have he : en = en' := by simpa using he
    subst ho; subst he
    rw [runE_zero]
    exact runE_zero
  | o :: l, en :: es, st, k + 1, o', en', ho, he => by
    show runE n (applyE n st o en) l es (k + 1) = applyE n (runE n (applyE n st o en) l es k) o' en'
    exact runE_succ (by simpa using ho) (by simpa using he)
  | [], _, _, _, _, _, ho, _ => by simp at ho
  | _ :: _, [], _, _, _, _, _, he => by simp at he
theorem lex_spec : ∀ {l : List Oper} {st : St} {es : List Ent} {st' : St}, Lex P H n w0 ops l st es st' → es.length = l.length ∧ (∀ k o en, l[k]? = some o → es[k]? = some en → EntOk P H w0 ops (runE n st l es k) o en) ∧ runE n st l es l.length = st'
  | [], st, es, st', h => by
    obtain ⟨rfl, rfl⟩ := h
    exact ⟨rfl, fun k o en ho => by simp at ho, rfl⟩
  | o :: l, st, es, st', h => by
    obtain ⟨en, es', rfl, he, h'⟩ := h
    obtain ⟨h1, h2, h3⟩ := lex_spec h'
    refine ⟨by simp [h1], fun k o' en' ho' he' => ?_, h3⟩
    cases k with
    | zero =>
      have ho' : o = o' := by simpa using ho'
      have he' : en = en' := by simpa using he'
      subst ho'; subst he'
      exact he
    | succ k => exact h2 k o' en' (by simpa using ho') (by simpa using he')
end

/-! ### What a slot, a block holds when some operations have come up -/
def idxOf {α : Type} (p : α → Bool) : List α → Option Nat
  | [] => none
  | x :: r => match p x with
    | true => some 0
    | false => (idxOf p r).map Nat.succ
theorem idxOf_some {α : Type} {p : α → Bool} : ∀ {l : List α} {k : Nat}, idxOf p l = some k → ∃ x, l[k]? = some x ∧ p x = true
  | x :: r, k, h => by
    unfold idxOf at h
    split at h
    · rename_i hp
      have : k = 0 := by simpa using h.symm
      subst this
      exact ⟨x, rfl, hp⟩
    · cases hr : idxOf p r with
      | none => rw [hr] at h; cases h
      | some j =>
        rw [hr] at h
        have : k = j + 1 := by simpa using h.symm
        subst this
        obtain ⟨y, hy, hp⟩ := idxOf_some hr
        exact ⟨y, by simpa using hy, hp⟩
theorem idxOf_none {α : Type} {p : α → Bool} : ∀ {l : List α}, idxOf p l = none → ∀ x ∈ l, p x = false
  | x :: r, h, y, hy => by
    unfold idxOf at h
    split at h
    · cases h
    · rename_i hp
      rcases List.mem_cons.1 hy with rfl | hy
      · exact hp
      · refine idxOf_none (l := r) ?_ y hy
        cases hr : idxOf p r with
        | none => rfl
        | some j => rw [hr] at h; cases h
def isDst (t : Nat) (o : Oper) : Bool := match o.dst with
  | some d => Nat.beq d t
  | none => false
def isNew (b : Nat) (en : Ent) : Bool := match en.nw with
  | some (i, _) => Nat.beq i b
  | none => false
def isWr (b : Nat) (en : Ent) : Bool := match en.wr with
  | some (i, _) => Nat.beq i b
  | none => false
theorem isDst_iff {t : Nat} {o : Oper} : isDst t o = true ↔ o.dst = some t := by
  unfold isDst
  split
  · rename_i d hd
    rw [hd]
    constructor
    · intro h; rw [Nat.eq_of_beq_eq_true h]
    · intro h; rw [Option.some.inj h]; exact Nat.beq_refl t
  · rename_i hd; rw [hd]; simp
theorem isNew_iff {b : Nat} {en : Ent} : isNew b en = true ↔ ∃ r, en.nw = some (b, r) := by
  unfold isNew
  split
  · rename_i i r hd
    rw [hd]
    constructor
    · intro h; exact ⟨r, by rw [Nat.eq_of_beq_eq_true h]⟩
    · rintro ⟨r', h⟩
      have : i = b := by injection h with h; injection h
      rw [this]; exact Nat.beq_refl b
  · rename_i hd; rw [hd]; simp
theorem isWr_iff {b : Nat} {en : Ent} : isWr b en = true ↔ ∃ r, en.wr = some (b, r) := by
  unfold isWr
  split
  · rename_i i r hd
    rw [hd]
    constructor
    · intro h; exact ⟨r, by rw [Nat.eq_of_beq_eq_true h]⟩
    · rintro ⟨r', h⟩
      have : i = b := by injection h with h; injection h
      rw [this]; exact Nat.beq_refl b
  · rename_i hd; rw [hd]; simp

section
variable (l : List Oper) (st : St) (es : List Ent)
def fLook (L : Nat → Bool) (t : Nat) : Option SV := match idxOf (isDst t) l with
  | none => look st.fr t
  | some k => if L k then (es[k]?).map (·.sv) else look st.fr t
def fBase (L : Nat → Bool) (b : Nat) : Option Row := match idxOf (isNew b) es with
  | none => st.mem[b]?
  | some k => if L k then ((es[k]?).bind (·.nw)).map (·.2) else none
def fRow (L : Nat → Bool) (b : Nat) : Option Row := match idxOf (isWr b) es with
  | none => fBase st es L b
  | some s => if L s then ((es[s]?).bind (·.wr)).map (·.2) else fBase st es L b
end

/-- Operation i comes behind k (or before it) in every order, as it does in the text. -/
def waitsB (l : List Oper) (i k : Nat) : Bool := match l[i]? with
  | some o => o.after.toList.any fun e => Region.binds .any e && Nat.beq e.on k
  | none => false
def settledB (l : List Oper) (i k : Nat) : Bool := match Nat.blt k i with
  | true => waitsB l i k
  | false => match Nat.beq k i with
    | true => true
    | false => waitsB l k i
def settledO (l : List Oper) (i : Nat) : Option Nat → Bool
  | none => true
  | some k => settledB l i k
/-- The whole test, of one operation. -/
def opB (l : List Oper) (es : List Ent) (n : Nat) (k : Nat) (o : Oper) (en : Ent) : Bool :=
  (o.after.toList.all fun e => !Region.binds .any e || Nat.blt e.on k) &&
  (match o.dst with
    | some t => Nat.blt t n && idxOf (isDst t) l == some k
    | none => true) &&
  ((o.looksAt l.toArray).all fun t => settledO l k (idxOf (isDst t) l)) &&
  (match en.tch with
    | some b => settledO l k (idxOf (isNew b) es) && settledO l k (idxOf (isWr b) es)
    | none => true) &&
  (match en.nw with
    | some (b, _) => idxOf (isNew b) es == some k && (match idxOf (isWr b) es with
      | some s => Nat.blt k s
      | none => true)
    | none => true) &&
  (match en.wr with
    | some (b, _) => idxOf (isWr b) es == some k && (match idxOf (isNew b) es with
      | some c => Nat.blt c k
      | none => true)
    | none => true) &&
  (match o.op with
    | .select .. => false
    | _ => true)
def allBe (l : List Oper) (es : List Ent) (n : Nat) : Nat → List Oper → List Ent → Bool
  | k, o :: r, en :: er => match opB l es n k o en with
    | true => allBe l es n (k + 1) r er
    | false => false
  | _, [], [] => true
  | _, _, _ => false
theorem allBe_spec {l : List Oper} {es : List Ent} {n : Nat} : ∀ {r : List Oper} {er : List Ent} {k0 : Nat}, allBe l es n k0 r er = true → ∀ k o en, r[k]? = some o → er[k]? = some en → opB l es n (k0 + k) o en = true
  | o :: r, en :: er, k0, h, k, o', en', ho, he => by
    unfold allBe at h
    split at h
    · rename_i hb
      cases k with
      | zero =>
        have ho : o = o' := by simpa using ho
        have he : en = en' := by simpa using he
        subst ho; subst he
        exact hb
      | succ k =>
        have := allBe_spec h k o' en' (by simpa using ho) (by simpa using he)
        rwa [show k0 + (k + 1) = k0 + 1 + k by omega]
    · cases h
  | [], _, _, _, _, _, _, ho, _ => by simp at ho
  | _ :: _, [], _, _, _, _, _, _, he => by simp at he

structure Okb (l : List Oper) (es : List Ent) (n : Nat) (k : Nat) (o : Oper) (en : Ent) : Prop where
  down : ∀ e ∈ o.after, Region.binds .any e = true → e.on < k
  dst : ∀ t, o.dst = some t → t < n ∧ idxOf (isDst t) l = some k
  looks : ∀ t ∈ o.looksAt l.toArray, settledO l k (idxOf (isDst t) l) = true
  tch : ∀ b, en.tch = some b → settledO l k (idxOf (isNew b) es) = true ∧ settledO l k (idxOf (isWr b) es) = true
  nw : ∀ b r, en.nw = some (b, r) → idxOf (isNew b) es = some k ∧ ∀ s, idxOf (isWr b) es = some s → k < s
  wr : ∀ b r, en.wr = some (b, r) → idxOf (isWr b) es = some k ∧ ∀ c, idxOf (isNew b) es = some c → c < k
  nosel : ∀ cs b, o.op ≠ .select cs b
theorem opB_spec {l : List Oper} {es : List Ent} {n k : Nat} {o : Oper} {en : Ent} (h : opB l es n k o en = true) : Okb l es n k o en := by
  unfold opB at h
  simp only [Bool.and_eq_true] at h
  obtain ⟨⟨⟨⟨⟨⟨h1, h2⟩, h3⟩, h4⟩, h5⟩, h6⟩, h7⟩ := h
  refine ⟨fun e he hb => ?_, fun t ht => ?_, fun t ht => ?_, fun b hb => ?_, fun b r hb => ?_, fun b r hb => ?_, fun cs b hs => ?_⟩
  · have := List.all_eq_true.1 h1 e (by simpa using he)
    rw [hb] at this
    exact Nat.le_of_ble_eq_true (show Nat.blt e.on k = true by simpa only [Bool.not_true, Bool.false_or] using this)
  · rw [ht] at h2
    simp only [Bool.and_eq_true] at h2
    exact ⟨Nat.le_of_ble_eq_true h2.1, by simpa using h2.2⟩
  · exact List.all_eq_true.1 h3 t ht
  · rw [hb] at h4
    simpa only [Bool.and_eq_true] using h4
  · rw [hb] at h5
    simp only [Bool.and_eq_true] at h5
    refine ⟨by simpa using h5.1, fun s hs => ?_⟩
    have := h5.2
    rw [hs] at this
    exact Nat.le_of_ble_eq_true this
  · rw [hb] at h6
    simp only [Bool.and_eq_true] at h6
    refine ⟨by simpa using h6.1, fun c hc => ?_⟩
    have := h6.2
    rw [hc] at this
    exact Nat.le_of_ble_eq_true this
  · rw [hs] at h7
    cases h7
end Sx
end Go.Proofs.YtgpiapmbbnngpaaGreatDoor

/- A walk by reckoning, part 5: every order of a region. Proved over any program. No condition of its own. -/
namespace Go.Proofs.YtgpiapmbbnngpaaGreatDoor
open Go Go.RowKit Go.Lib Go.Sort

namespace Sx
section
variable {P : Program} {H : List (Nat × Hint)} {n : Nat} {w0 : World} {l : List Oper} {es : List Ent} {st : St}

theorem dst_at {t k : Nat} (h : idxOf (isDst t) l = some k) : ∃ o, l[k]? = some o ∧ o.dst = some t := by
  obtain ⟨o, ho, hp⟩ := idxOf_some h
  exact ⟨o, ho, isDst_iff.1 hp⟩
theorem new_at {b k : Nat} (h : idxOf (isNew b) es = some k) : ∃ en r, es[k]? = some en ∧ en.nw = some (b, r) := by
  obtain ⟨en, ho, hp⟩ := idxOf_some h
  obtain ⟨r, hr⟩ := isNew_iff.1 hp
  exact ⟨en, r, ho, hr⟩
theorem wr_at {b k : Nat} (h : idxOf (isWr b) es = some k) : ∃ en r, es[k]? = some en ∧ en.wr = some (b, r) := by
  obtain ⟨en, ho, hp⟩ := idxOf_some h
  obtain ⟨r, hr⟩ := isWr_iff.1 hp
  exact ⟨en, r, ho, hr⟩
theorem fLook_congr {L L' : Nat → Bool} {t : Nat} (h : ∀ k, idxOf (isDst t) l = some k → L k = L' k) : fLook l st es L t = fLook l st es L' t := by
  unfold fLook
  cases hi : idxOf (isDst t) l with
  | none => rfl
  | some k => simp only [h k hi]
theorem fRow_congr {L L' : Nat → Bool} {b : Nat} (h1 : ∀ k, idxOf (isNew b) es = some k → L k = L' k) (h2 : ∀ k, idxOf (isWr b) es = some k → L k = L' k) : fRow st es L b = fRow st es L' b := by
  have hb : fBase st es L b = fBase st es L' b := by
    unfold fBase
    cases hi : idxOf (isNew b) es with
    | none => rfl
    | some k => simp only [h1 k hi]
  unfold fRow
  cases hi : idxOf (isWr b) es with
  | none => exact hb
  | some k => simp only [h2 k hi, hb]
/-- One more operation has come up. -/
def more (L : Nat → Bool) (i : Nat) (k : Nat) : Bool := L k || decide (k = i)
theorem more_ne {L : Nat → Bool} {i k : Nat} (h : k ≠ i) : more L i k = L k := by unfold more; simp [h]
theorem more_self {L : Nat → Bool} {i : Nat} : more L i i = true := by unfold more; simp
theorem fLook_more {L : Nat → Bool} {i t : Nat} {o : Oper} {en : Ent} (ho : l[i]? = some o) (he : es[i]? = some en) (hB : Okb l es n i o en) : fLook l st es (more L i) t = if o.dst = some t then some en.sv else fLook l st es L t := by
  split
  · rename_i hd
    have := (hB.dst t hd).2
    unfold fLook
    simp only [this, more_self, if_true, he, Option.map_some]
  · rename_i hd
    refine fLook_congr fun k hk => more_ne ?_
    rintro rfl
    obtain ⟨o', ho', hd'⟩ := dst_at hk
    rw [ho] at ho'
    cases ho'
    exact hd hd'
theorem fRow_more_other {L : Nat → Bool} {i b : Nat} {en : Ent} (he : es[i]? = some en) (h1 : ∀ r, en.nw ≠ some (b, r)) (h2 : ∀ r, en.wr ≠ some (b, r)) : fRow st es (more L i) b = fRow st es L b := by
  refine fRow_congr (fun k hk => more_ne ?_) (fun k hk => more_ne ?_)
  · rintro rfl
    obtain ⟨en', r, he', hr⟩ := new_at hk
    rw [he] at he'
    cases he'
    exact h1 r hr
  · rintro rfl
    obtain ⟨en', r, he', hr⟩ := wr_at hk
    rw [he] at he'
    cases he'
    exact h2 r hr
theorem fRow_more_new {L : Nat → Bool} {i b : Nat} {o : Oper} {en : Ent} {r : Row} (he : es[i]? = some en) (hB : Okb l es n i o en) (hn : en.nw = some (b, r)) (hs : ∀ s, idxOf (isWr b) es = some s → L s = false) : fRow st es (more L i) b = some r := by
  have hi := (hB.nw b r hn).1
  have hb : fBase st es (more L i) b = some r := by
    unfold fBase
    simp only [hi, more_self, if_true, he, Option.bind_some, hn, Option.map_some]
  unfold fRow
  cases hw : idxOf (isWr b) es with
  | none => exact hb
  | some s =>
    have hlt := (hB.nw b r hn).2 s hw
    simp only [more_ne (show s ≠ i by omega), hs s hw, Bool.false_eq_true, if_false, hb]
theorem fRow_more_wr {L : Nat → Bool} {i b : Nat} {o : Oper} {en : Ent} {r : Row} (he : es[i]? = some en) (hB : Okb l es n i o en) (hn : en.wr = some (b, r)) : fRow st es (more L i) b = some r := by
  have hi := (hB.wr b r hn).1
  unfold fRow
  simp only [hi, more_self, if_true, he, Option.bind_some, hn, Option.map_some]

/-- What the text's order has come to, as a function of its length. -/
def ltB (k j : Nat) : Bool := decide (j < k)
theorem ltB_succ (k : Nat) : ltB (k + 1) = more (ltB k) k := by
  funext j
  unfold ltB more
  rw [Bool.eq_iff_iff]
  simp
  omega
theorem ltB_zero : ltB 0 = fun _ => false := by funext j; simp [ltB]
theorem fLook_none {t : Nat} : fLook l st es (fun _ => false) t = look st.fr t := by
  unfold fLook
  cases idxOf (isDst t) l <;> simp
theorem fRow_none {b : Nat} (h : ∀ k, idxOf (isNew b) es = some k → st.mem[b]? = none) : fRow st es (fun _ => false) b = st.mem[b]? := by
  have hb : fBase st es (fun _ => false) b = st.mem[b]? := by
    unfold fBase
    cases hi : idxOf (isNew b) es with
    | none => rfl
    | some k => simp [h k hi]
  unfold fRow
  cases idxOf (isWr b) es <;> simp [hb]

theorem ent_nw {ops : Array Oper} {s : St} {o : Oper} {en : Ent} {b : Nat} {r : Row} (h : EntOk P H w0 ops s o en) (hn : en.nw = some (b, r)) : b = s.mem.length ∧ en.wr = none ∧ guardOf ops s.fr o = some true ∧ (∃ t cs, opRes P w0 H (hint H o.dst) (ev s.fr) (rowAt s.mem) o = .alloc t cs ∧ r = ⟨t, cs⟩ ∧ en.sv = .ptr b 0) := by
  rcases h with ⟨_, rfl⟩ | ⟨hg, h⟩
  · cases hn
  · split at h
    · obtain ⟨_, rfl⟩ := h; cases hn
    · obtain ⟨_, rfl⟩ := h; cases hn
    · rename_i t cs hr
      subst h
      injection hn with hn
      injection hn with h1 h2
      exact ⟨h1.symm, rfl, hg, t, cs, hr, h2.symm, by rw [← h1]⟩
    · obtain ⟨_, rfl⟩ := h; cases hn
    · exact h.elim
theorem ent_wr {ops : Array Oper} {s : St} {o : Oper} {en : Ent} {b : Nat} {r : Row} (h : EntOk P H w0 ops s o en) (hn : en.wr = some (b, r)) : b < s.mem.length ∧ en.tch = some b ∧ en.nw = none ∧ guardOf ops s.fr o = some true ∧ (∃ ob, opRes P w0 H (hint H o.dst) (ev s.fr) (rowAt s.mem) o = .store b r ob) ∧ en.sv = .val undef ∧ touches (ev s.fr) o = some b := by
  rcases h with ⟨_, rfl⟩ | ⟨hg, h⟩
  · cases hn
  · split at h
    · obtain ⟨_, rfl⟩ := h; cases hn
    · obtain ⟨_, rfl⟩ := h; cases hn
    · subst h; cases hn
    · rename_i i r' ob hr
      obtain ⟨_, rfl⟩ := h
      injection hn with hn
      injection hn with h1 h2
      subst h1; subst h2
      obtain ⟨ht, r0, h0⟩ := store_touch hr
      exact ⟨(List.getElem?_eq_some_iff.1 h0).1, ht, rfl, hg, ⟨_, hr⟩, rfl, ht⟩
    · exact h.elim

theorem applyE_mem {s : St} {o : Oper} {en : Ent} : (applyE n s o en).mem = memOf s.mem en := by
  unfold applyE St.put
  cases o.dst with
  | none => rfl
  | some d => cases hb : Nat.blt d n <;> simp [hb]
variable {ops : Array Oper} (hlen : es.length = l.length) (hB : ∀ k o en, l[k]? = some o → es[k]? = some en → Okb l es n k o en) (hE : ∀ k o en, l[k]? = some o → es[k]? = some en → EntOk P H w0 ops (runE n st l es k) o en)
include hlen hB hE

omit hB hE in
theorem mem_len : ∀ k, k ≤ l.length → st.mem.length ≤ (runE n st l es k).mem.length := by
  intro k
  induction k with
  | zero => intro _; rw [runE_zero]; exact Nat.le_refl _
  | succ k ih =>
    intro hk
    obtain ⟨o, ho⟩ : ∃ o, l[k]? = some o := ⟨_, List.getElem?_eq_getElem (by omega)⟩
    obtain ⟨en, he⟩ : ∃ en, es[k]? = some en := ⟨_, List.getElem?_eq_getElem (by omega)⟩
    rw [runE_succ ho he]
    have := ih (by omega)
    rw [applyE_mem]
    unfold memOf
    split
    · simp; omega
    · split <;> simp <;> omega
omit hE in
theorem look_at : ∀ k, k ≤ l.length → ∀ t, look (runE n st l es k).fr t = fLook l st es (ltB k) t := by
  intro k
  induction k with
  | zero => intro _ t; rw [runE_zero, ltB_zero, fLook_none]
  | succ k ih =>
    intro hk t
    obtain ⟨o, ho⟩ : ∃ o, l[k]? = some o := ⟨_, List.getElem?_eq_getElem (by omega)⟩
    obtain ⟨en, he⟩ : ∃ en, es[k]? = some en := ⟨_, List.getElem?_eq_getElem (by omega)⟩
    rw [runE_succ ho he, ltB_succ, fLook_more ho he (hB k o en ho he), ← ih (by omega) t]
    unfold applyE St.put
    cases hd : o.dst with
    | none => simp
    | some d =>
      have : Nat.blt d n = true := Nat.ble_eq_true_of_le ((hB k o en ho he).dst d hd).1
      simp only [this, look_put, Option.some.injEq]
theorem row_at : ∀ k, k ≤ l.length → ∀ b : Nat, (runE n st l es k).mem[b]? = fRow st es (ltB k) b := by
  have fresh : ∀ b k : Nat, idxOf (isNew b) es = some k → st.mem[b]? = none := by
    intro b k hk
    obtain ⟨en, r, he, hr⟩ := new_at hk
    have hkl : k < l.length := by rw [← hlen]; exact (List.getElem?_eq_some_iff.1 he).1
    obtain ⟨hb, _⟩ := ent_nw (hE k _ en (List.getElem?_eq_getElem hkl) he) hr
    have := mem_len (n := n) (st := st) hlen k (by omega)
    exact List.getElem?_eq_none (by omega)
  intro k
  induction k with
  | zero => intro _ b; rw [runE_zero, ltB_zero, fRow_none (fresh b)]
  | succ k ih =>
    intro hk b
    obtain ⟨o, ho⟩ : ∃ o, l[k]? = some o := ⟨_, List.getElem?_eq_getElem (by omega)⟩
    obtain ⟨en, he⟩ : ∃ en, es[k]? = some en := ⟨_, List.getElem?_eq_getElem (by omega)⟩
    have ih := ih (by omega)
    have hbk := hB k o en ho he
    have hek := hE k o en ho he
    rw [runE_succ ho he, ltB_succ]
    rw [applyE_mem]
    unfold memOf
    cases hn : en.nw with
    | some p =>
      obtain ⟨m, r⟩ := p
      obtain ⟨hml, hw, _⟩ := ent_nw hek hn
      simp only
      by_cases hbm : b = m
      · subst hbm
        rw [fRow_more_new he hbk hn (fun s hs => by have := (hbk.nw _ _ hn).2 s hs; simp [ltB]; omega), hml, List.getElem?_append_right (Nat.le_refl _)]
        simp
      · rw [fRow_more_other he (fun r' h => by rw [hn] at h; injection h with h; injection h with h _; exact hbm h.symm) (fun r' h => by rw [hw] at h; cases h), ← ih b]
        rcases Nat.lt_or_ge b (runE n st l es k).mem.length with hlt | hge
        · rw [List.getElem?_append_left hlt]
        · rw [List.getElem?_eq_none (by simp; omega), List.getElem?_eq_none hge]
    | none =>
      simp only
      cases hw : en.wr with
      | some p =>
        obtain ⟨i, r⟩ := p
        obtain ⟨hil, _⟩ := ent_wr hek hw
        simp only [List.getElem?_set]
        by_cases hbi : i = b
        · subst hbi
          rw [if_pos rfl, if_pos hil, fRow_more_wr he hbk hw]
        · rw [if_neg hbi, fRow_more_other he (fun r' h => by rw [hn] at h; cases h) (fun r' h => by rw [hw] at h; injection h with h; injection h with h _; exact hbi h), ih b]
      | none =>
        simp only
        rw [fRow_more_other he (fun r' h => by rw [hn] at h; cases h) (fun r' h => by rw [hw] at h; cases h), ih b]
end

/-- What holds when some operations have come up, in whatever order. -/
structure OInv (w0 : World) (n : Nat) (l : List Oper) (es : List Ent) (st : St) (L : Nat → Bool) (β : Nat → Nat) (a : Act) (w : World) : Prop where
  size : a.tmps.size = n
  dn : a.defers = []
  get : ∀ t sv, fLook l st es L t = some sv → a.tmps[t]? = some (sv.den β)
  blk : ∀ (b : Nat) (r : Row), fRow st es L b = some r → Blk w (β b) r.ty (r.cs.den β)
  new : ∀ (b : Nat) (r : Row), fRow st es L b = some r → w0.heap.size ≤ β b
  inj : ∀ (b c : Nat) (r r' : Row), fRow st es L b = some r → fRow st es L c = some r' → β b = β c → b = c
  chg : Chg [] w0 w
  wfS : ∀ t sv, fLook l st es L t = some sv → sv.on (fun b => ∃ r, fRow st es L b = some r)
  wfR : ∀ (b : Nat) (r : Row), fRow st es L b = some r → r.cs.on (fun b => ∃ r, fRow st es L b = some r)
  down : ∀ k o, l[k]? = some o → L k = true → ∀ e ∈ o.after, Region.binds .any e = true → L e.on = true

section
variable {P : Program} {H : List (Nat × Hint)} {n : Nat} {w0 : World} {l : List Oper} {es : List Ent} {st : St} {L : Nat → Bool} {β : Nat → Nat} {a : Act} {w : World} {i : Nat} {o : Oper} {en : Ent}
theorem waits_spec {j k : Nat} (h : waitsB l j k = true) : ∃ oj, l[j]? = some oj ∧ ∃ e ∈ oj.after, Region.binds .any e = true ∧ e.on = k := by
  unfold waitsB at h
  split at h
  · rename_i oj hoj
    obtain ⟨e, he, hb⟩ := List.any_eq_true.1 h
    simp only [Bool.and_eq_true] at hb
    exact ⟨oj, hoj, e, by simpa using he, hb.1, Nat.eq_of_beq_eq_true hb.2⟩
  · cases h
theorem settled_spec (hI : OInv w0 n l es st L β a w) (ho : l[i]? = some o) (hL : L i = false) (hr : ∀ e ∈ o.after, Region.binds .any e = true → L e.on = true) {k : Nat} (hs : settledB l i k = true) : L k = ltB i k := by
  unfold settledB at hs
  unfold ltB
  split at hs
  · rename_i hlt
    have hlt : k < i := Nat.le_of_ble_eq_true hlt
    obtain ⟨oi, hoi, e, he, hb, hon⟩ := waits_spec hs
    rw [ho] at hoi
    cases hoi
    have := hr e he hb
    rw [hon] at this
    rw [this]; simp [hlt]
  · rename_i hlt
    have hlt : ¬ k < i := fun h => by rw [show Nat.blt k i = true from Nat.ble_eq_true_of_le h] at hlt; cases hlt
    split at hs
    · rename_i heq
      rw [Nat.eq_of_beq_eq_true heq, hL]; simp
    · obtain ⟨ok, hok, e, he, hb, hon⟩ := waits_spec hs
      cases hLk : L k with
      | false => simp [hlt]
      | true =>
        have := hI.down k ok hok hLk e he hb
        rw [hon, hL] at this
        cases this
theorem OInv.next_same (hI : OInv w0 n l es st L β a w) (ho : l[i]? = some o) (he : es[i]? = some en) (hB : Okb l es n i o en) (hr : ∀ e ∈ o.after, Region.binds .any e = true → L e.on = true)
    {w' : World} (hc : Chg [] w w') (h1 : en.nw = none) (h2 : en.wr = none) (hs : en.sv.on (fun b => ∃ r, fRow st es L b = some r)) : OInv w0 n l es st (more L i) β (a.put o.dst (en.sv.den β)) w' := by
  have row : ∀ b, fRow st es (more L i) b = fRow st es L b := fun b => fRow_more_other he (fun r h => by rw [h1] at h; cases h) (fun r h => by rw [h2] at h; cases h)
  refine ⟨?_, ?_, fun t sv ht => ?_, fun b r hb => ?_, fun b r hb => ?_, fun b c r r' hb hc' => ?_, hI.chg.trans hc, fun t sv ht => ?_, fun b r hb => ?_, fun k ok hok hk e hee hb => ?_⟩
  · cases o.dst <;> simp [Act.put, hI.size]
  · cases o.dst <;> simp [Act.put, hI.dn]
  · rw [fLook_more ho he hB] at ht
    split at ht
    · rename_i hd
      rw [hd, get_put (by rw [hI.size]; exact (hB.dst t hd).1), if_pos rfl, Option.some.inj ht]
    · rename_i hd
      cases hd' : o.dst with
      | none => exact hI.get t sv ht
      | some d =>
        rw [get_put (by rw [hI.size]; exact (hB.dst d hd').1), if_neg (fun h => hd (by rw [hd', h]))]
        exact hI.get t sv ht
  · rw [row] at hb; exact (hI.blk b r hb).chg hc (by simp)
  · rw [row] at hb; exact hI.new b r hb
  · rw [row] at hb hc'; exact hI.inj b c r r' hb hc'
  · rw [fLook_more ho he hB] at ht
    split at ht
    · rw [← Option.some.inj ht]; exact SV.on_mono (fun b hb => by rw [row]; exact hb) hs
    · exact SV.on_mono (fun b hb => by rw [row]; exact hb) (hI.wfS t sv ht)
  · rw [row] at hb; exact Cells.on_mono (fun b hb => by rw [row]; exact hb) (hI.wfR b r hb)
  · by_cases hki : k = i
    · subst hki
      rw [ho] at hok
      cases hok
      have := hr e hee hb
      unfold more; rw [this]; rfl
    · rw [more_ne hki] at hk
      have := hI.down k ok hok hk e hee hb
      unfold more; rw [this]; rfl
theorem OInv.next_alloc (hI : OInv w0 n l es st L β a w) (ho : l[i]? = some o) (he : es[i]? = some en) (hB : Okb l es n i o en) (hr : ∀ e ∈ o.after, Region.binds .any e = true → L e.on = true)
    {m : Nat} {t : TypeId} {cs : Cells} (hn : en.nw = some (m, ⟨t, cs⟩)) (hw : en.wr = none) (hsv : en.sv = .ptr m 0) (hnot : fRow st es L m = none) (hs : ∀ s, idxOf (isWr m) es = some s → L s = false)
    (hcs : cs.on (fun b => ∃ r, fRow st es L b = some r)) : OInv w0 n l es st (more L i) (upd β m w.heap.size) (a.put o.dst (.pointer (some ⟨w.heap.size, 0, none⟩))) (w.alloc (.cells (cs.den β).toArray t)) := by
  have rowm : fRow st es (more L i) m = some ⟨t, cs⟩ := fRow_more_new he hB hn hs
  have row : ∀ b, b ≠ m → fRow st es (more L i) b = fRow st es L b := fun b hb => fRow_more_other he (fun r h => by rw [hn] at h; injection h with h; injection h with h _; exact hb h.symm) (fun r h => by rw [hw] at h; cases h)
  have live : ∀ b, (∃ r, fRow st es L b = some r) → b ≠ m := fun b ⟨r, h⟩ hb => by rw [hb, hnot] at h; cases h
  have same : ∀ b, (∃ r, fRow st es L b = some r) → β b = upd β m w.heap.size b := fun b hb => by unfold upd; rw [if_neg (live b hb)]
  have up : ∀ b, (∃ r, fRow st es L b = some r) → ∃ r, fRow st es (more L i) b = some r := fun b hb => by rw [row b (live b hb)]; exact hb
  have lt : ∀ b r, fRow st es L b = some r → β b < w.heap.size := fun b r h => (hI.blk b r h).lt
  refine ⟨?_, ?_, fun u sv ht => ?_, fun b r hb => ?_, fun b r hb => ?_, fun b c r r' hb hc' hbc => ?_, hI.chg.alloc _, fun u sv ht => ?_, fun b r hb => ?_, fun k ok hok hk e hee hb => ?_⟩
  · cases o.dst <;> simp [Act.put, hI.size]
  · cases o.dst <;> simp [Act.put, hI.dn]
  · rw [fLook_more ho he hB] at ht
    split at ht
    · rename_i hd
      rw [hd, get_put (by rw [hI.size]; exact (hB.dst u hd).1), if_pos rfl, ← Option.some.inj ht, hsv]
      simp only [SV.den, upd_same]
    · rename_i hd
      rw [← SV.den_congr same (hI.wfS u sv ht)]
      cases hd' : o.dst with
      | none => exact hI.get u sv ht
      | some d =>
        rw [get_put (by rw [hI.size]; exact (hB.dst d hd').1), if_neg (fun h => hd (by rw [hd', h]))]
        exact hI.get u sv ht
  · by_cases hbm : b = m
    · subst hbm
      rw [rowm] at hb
      cases hb
      rw [upd_same, ← Cells.den_congr same hcs]
      exact Blk.new w t (cs.den β).toArray
    · rw [row b hbm] at hb
      rw [← same b ⟨r, hb⟩, ← Cells.den_congr same (hI.wfR b r hb)]
      exact (hI.blk b r hb).alloc _
  · by_cases hbm : b = m
    · subst hbm
      rw [upd_same]; exact hI.chg.size
    · rw [row b hbm] at hb
      rw [← same b ⟨r, hb⟩]
      exact hI.new b r hb
  · by_cases hbm : b = m
    · by_cases hcm : c = m
      · rw [hbm, hcm]
      · rw [row c hcm] at hc'
        rw [hbm, upd_same, ← same c ⟨r', hc'⟩] at hbc
        have := lt c r' hc'
        omega
    · rw [row b hbm] at hb
      by_cases hcm : c = m
      · rw [hcm, upd_same, ← same b ⟨r, hb⟩] at hbc
        have := lt b r hb
        omega
      · rw [row c hcm] at hc'
        rw [← same b ⟨r, hb⟩, ← same c ⟨r', hc'⟩] at hbc
        exact hI.inj b c r r' hb hc' hbc
  · rw [fLook_more ho he hB] at ht
    split at ht
    · rw [← Option.some.inj ht, hsv]; exact ⟨_, rowm⟩
    · exact SV.on_mono up (hI.wfS u sv ht)
  · by_cases hbm : b = m
    · subst hbm
      rw [rowm] at hb
      cases hb
      exact Cells.on_mono up hcs
    · rw [row b hbm] at hb
      exact Cells.on_mono up (hI.wfR b r hb)
  · by_cases hki : k = i
    · subst hki
      rw [ho] at hok
      cases hok
      have := hr e hee hb
      unfold more; rw [this]; rfl
    · rw [more_ne hki] at hk
      have := hI.down k ok hok hk e hee hb
      unfold more; rw [this]; rfl
theorem OInv.next_store (hI : OInv w0 n l es st L β a w) (ho : l[i]? = some o) (he : es[i]? = some en) (hB : Okb l es n i o en) (hr : ∀ e ∈ o.after, Region.binds .any e = true → L e.on = true)
    {m : Nat} {r0 r1 : Row} {w' : World} (hn : en.nw = none) (hw : en.wr = some (m, r1)) (hsv : en.sv = .val undef) (hrow : fRow st es L m = some r0) (hb' : Blk w' (β m) r1.ty (r1.cs.den β)) (hc : Chg [β m] w w')
    (hcs : r1.cs.on (fun b => ∃ r, fRow st es L b = some r)) : OInv w0 n l es st (more L i) β (a.put o.dst undef) w' := by
  have rowm : fRow st es (more L i) m = some r1 := fRow_more_wr he hB hw
  have row : ∀ b, b ≠ m → fRow st es (more L i) b = fRow st es L b := fun b hb => fRow_more_other he (fun r h => by rw [hn] at h; cases h) (fun r h => by rw [hw] at h; injection h with h; injection h with h _; exact hb h.symm)
  have up : ∀ b, (∃ r, fRow st es L b = some r) → ∃ r, fRow st es (more L i) b = some r := fun b hb => by
    by_cases hbm : b = m
    · rw [hbm]; exact ⟨_, rowm⟩
    · rw [row b hbm]; exact hb
  have dn : ∀ b r, fRow st es (more L i) b = some r → ∃ r', fRow st es L b = some r' := fun b r hb => by
    by_cases hbm : b = m
    · rw [hbm]; exact ⟨_, hrow⟩
    · rw [row b hbm] at hb; exact ⟨_, hb⟩
  refine ⟨?_, ?_, fun u sv ht => ?_, fun b r hb => ?_, fun b r hb => ?_, fun b c r r' hbb hcc hbc => ?_, ?_, fun u sv ht => ?_, fun b r hb => ?_, fun k ok hok hk e hee hb => ?_⟩
  · cases o.dst <;> simp [Act.put, hI.size]
  · cases o.dst <;> simp [Act.put, hI.dn]
  · rw [fLook_more ho he hB] at ht
    split at ht
    · rename_i hd
      rw [hd, get_put (by rw [hI.size]; exact (hB.dst u hd).1), if_pos rfl, ← Option.some.inj ht, hsv]
      rfl
    · rename_i hd
      cases hd' : o.dst with
      | none => exact hI.get u sv ht
      | some d =>
        rw [get_put (by rw [hI.size]; exact (hB.dst d hd').1), if_neg (fun h => hd (by rw [hd', h]))]
        exact hI.get u sv ht
  · by_cases hbm : b = m
    · subst hbm
      rw [rowm] at hb
      cases hb
      exact hb'
    · rw [row b hbm] at hb
      exact (hI.blk b r hb).chg hc (by rw [List.mem_singleton]; exact fun h => hbm (hI.inj b m r r0 hb hrow h))
  · obtain ⟨r', h'⟩ := dn b r hb
    exact hI.new b r' h'
  · obtain ⟨x, hx⟩ := dn b r hbb
    obtain ⟨y, hy⟩ := dn c r' hcc
    exact hI.inj b c x y hx hy hbc
  · exact hI.chg.seq hc (fun x hx => .inr (by rw [List.mem_singleton] at hx; rw [hx]; exact hI.new m r0 hrow))
  · rw [fLook_more ho he hB] at ht
    split at ht
    · rw [← Option.some.inj ht, hsv]; trivial
    · exact SV.on_mono up (hI.wfS u sv ht)
  · by_cases hbm : b = m
    · subst hbm
      rw [rowm] at hb
      cases hb
      exact Cells.on_mono up hcs
    · rw [row b hbm] at hb
      exact Cells.on_mono up (hI.wfR b r hb)
  · by_cases hki : k = i
    · subst hki
      rw [ho] at hok
      cases hok
      have := hr e hee hb
      unfold more; rw [this]; rfl
    · rw [more_ne hki] at hk
      have := hI.down k ok hok hk e hee hb
      unfold more; rw [this]; rfl
end
end Sx
end Go.Proofs.YtgpiapmbbnngpaaGreatDoor

/- A walk by reckoning, part 6: every order of a region, the end. Proved over any program. No condition of its own. -/
namespace Go.Proofs.YtgpiapmbbnngpaaGreatDoor
open Go Go.RowKit Go.Lib Go.Sort

namespace Sx
section
variable {P : Program} {H : List (Nat × Hint)} {n : Nat} {w0 : World} {l : List Oper} {es : List Ent} {st : St} {L : Nat → Bool} {β : Nat → Nat} {a : Act} {w : World} {i : Nat} {o : Oper} {en : Ent} {Q : Exit → Act → World → Prop}
theorem guard_looks {ops : Array Oper} {fr : List (Nat × SV)} {b : Bool} (hget : ∀ t ∈ o.looksAt ops, ∀ sv, look fr t = some sv → a.tmps[t]? = some (sv.den β)) (hg : guardOf ops fr o = some b) : Region.wanted o (yielded ops a.tmps) = b := by
  unfold guardOf at hg
  unfold Region.wanted
  split at hg
  · rename_i hn; rw [hn]; simpa using hg
  · rename_i j b' hn
    rw [hn]
    split at hg
    · cases hg
    · rename_i oj hoj
      split at hg
      · cases hg
      · rename_i t ht
        split at hg
        · rename_i v hc
          have := hget t (by unfold Oper.looksAt; rw [hn]; simp [hoj, ht]) _ hc
          simp only [yielded, hoj, Option.bind_some, ht, this, SV.den]
          split at hg
          · rename_i c
            have hb : (c == b') = b := Option.some.inj hg
            rw [← hb]
            cases c <;> cases b' <;> rfl
          · rename_i hnb
            have hb : false = b := Option.some.inj hg
            rw [← hb]
            cases v <;> first | rfl | exact absurd rfl (hnb _)
        · cases hg
theorem any_step (hI : OInv w0 n l es st L β a w) (ho : l[i]? = some o) (he : es[i]? = some en) (hB : ∀ k o en, l[k]? = some o → es[k]? = some en → Okb l es n k o en) (hlen : es.length = l.length)
    (hE : ∀ k o en, l[k]? = some o → es[k]? = some en → EntOk P H w0 l.toArray (runE n st l es k) o en) (hL : L i = false) (hr : ∀ e ∈ o.after, Region.binds .any e = true → L e.on = true) {K : Act → World → Prop}
    (hK : ∀ β' a' w', OInv w0 n l es st (more L i) β' a' w' → K a' w') : wpOp P l.toArray Q i K a w := by
  have hil : i < l.length := (List.getElem?_eq_some_iff.1 ho).1
  have hb := hB i o en ho he
  have hent := hE i o en ho he
  have hlook := look_at (st := st) hlen hB i (by omega)
  have hrows := row_at (P := P) (H := H) (w0 := w0) (ops := l.toArray) (st := st) hlen hB hE i (by omega)
  have hlk : ∀ t ∈ o.looksAt l.toArray, look (runE n st l es i).fr t = fLook l st es L t := fun t ht => by
    rw [hlook]
    refine fLook_congr fun k hk => (settled_spec hI ho hL hr ?_).symm
    have := hb.looks t ht
    rw [hk] at this
    exact this
  have htmp : ∀ t, Operand.tmp t ∈ o.op.operands → t ∈ o.looksAt l.toArray := fun t ht => by
    unfold Oper.looksAt
    exact List.mem_append_left _ (List.mem_filterMap.2 ⟨.tmp t, by simpa using ht, rfl⟩)
  have hev : ∀ x ∈ o.op.operands, ∀ sv, ev (runE n st l es i).fr x = some sv → a.eval x = sv.den β ∧ sv.on (fun b => ∃ r, fRow st es L b = some r) := by
    intro x hx sv hsv
    cases x with
    | tmp t =>
      have h1 : fLook l st es L t = some sv := by rw [← hlk t (htmp t hx)]; exact hsv
      exact ⟨by have := hI.get t sv h1; simp [Act.eval, this], hI.wfS t sv h1⟩
    | const v => simp only [ev, Option.some.injEq] at hsv; subst hsv; exact ⟨rfl, trivial⟩
    | global g => simp only [ev, Option.some.injEq] at hsv; subst hsv; exact ⟨rfl, trivial⟩
    | func f => simp only [ev, Option.some.injEq] at hsv; subst hsv; exact ⟨rfl, trivial⟩
  have hw : ∀ {b}, guardOf l.toArray (runE n st l es i).fr o = some b → Region.wanted o (yielded l.toArray a.tmps) = b := fun hg =>
    guard_looks (β := β) (fun t ht sv hsv => hI.get t sv (by rw [← hlk t ht]; exact hsv)) hg
  unfold wpOp
  have hio : l.toArray[i]? = some o := by simpa using ho
  simp only [hio]
  rcases hent with ⟨hg, rfl⟩ | ⟨hg, hent⟩
  · rw [hw hg, if_neg (by decide)]
    exact hK _ _ _ (hI.next_same ho he hb hr (Chg.refl _ _) rfl rfl trivial)
  · rw [hw hg, if_pos rfl]
    refine .inl ?_
    have hrow : en.tch = touches (ev (runE n st l es i).fr) o → ∀ b r, touches (ev (runE n st l es i).fr) o = some b → rowAt (runE n st l es i).mem b = some r → fRow st es L b = some r := by
      intro htc b r ht hrb
      have hset := hb.tch b (by rw [htc]; exact ht)
      have : (runE n st l es i).mem[b]? = some r := hrb
      rw [hrows] at this
      rw [← this]
      refine fRow_congr (fun k hk => settled_spec hI ho hL hr ?_) (fun k hk => settled_spec hI ho hL hr ?_)
      · have := hset.1
        rw [hk] at this
        exact this
      · have := hset.2
        rw [hk] at this
        exact this
    have hok := fun htc => op_ok (P := P) (w0 := w0) (H := H) (β := β) (W := w) (a := a) (o := o) (e := ev (runE n st l es i).fr) (row := rowAt (runE n st l es i).mem) (hn := hint H o.dst) hI.chg (fun x hx sv hsv => (hev x hx sv hsv).1) (fun b r ht hrb => hI.blk b r (hrow htc b r ht hrb))
    have hon := fun htc => op_on (P := P) (w0 := w0) (H := H) (o := o) (e := ev (runE n st l es i).fr) (row := rowAt (runE n st l es i).mem) (hn := hint H o.dst) (Q := fun b => ∃ r, fRow st es L b = some r) (fun x hx sv hsv => (hev x hx sv hsv).2) (fun b r ht hrb => hI.wfR b r (hrow htc b r ht hrb))
    unfold Oper.wp
    split at hent
    · rename_i sv ob hres
      obtain ⟨hob, rfl⟩ := hent
      have hok := hok rfl
      have hon := hon rfl
      rw [hres] at hok hon
      rw [hok hob]
      exact hK _ _ _ (hI.next_same ho he hb hr (Chg.refl _ _) rfl rfl hon)
    · rename_i f args v hres
      obtain ⟨hc, rfl⟩ := hent
      have hok := hok rfl
      rw [hres] at hok
      rw [show (execOp a.eval o).run P w = _ from hok]
      refine (hc w hI.chg).mono fun e w' ⟨hev, hch⟩ => ?_
      subst hev
      exact hK _ _ _ (hI.next_same ho he hb hr hch rfl rfl trivial)
    · rename_i t cs hres
      have hok := hok (by rw [hent])
      have hon := hon (by rw [hent])
      rw [hres] at hok hon
      rw [show (execOp a.eval o).run P w = _ from hok]
      have hn : en.nw = some ((runE n st l es i).mem.length, ⟨t, cs⟩) := by rw [hent]
      have hs0 : ∀ s, idxOf (isWr (runE n st l es i).mem.length) es = some s → L s = false := fun s hs => by
        have hnw := hb.nw _ _ hn
        obtain ⟨ens, r', hes, hwr⟩ := wr_at hs
        have hsl : s < l.length := by rw [← hlen]; exact (List.getElem?_eq_some_iff.1 hes).1
        have hbs := hB s _ ens (List.getElem?_eq_getElem hsl) hes
        have htc := (ent_wr (hE s _ ens (List.getElem?_eq_getElem hsl) hes) hwr).2.1
        have hset := (hbs.tch _ htc).1
        rw [hnw.1] at hset
        have hlt := hnw.2 s hs
        have hset : settledB l s i = true := hset
        unfold settledB at hset
        rw [show Nat.blt i s = true from Nat.ble_eq_true_of_le hlt] at hset
        obtain ⟨os, hos, e, hee, hbi, hon⟩ := waits_spec hset
        cases hLs : L s with
        | false => rfl
        | true =>
          have := hI.down s os hos hLs e hee hbi
          rw [hon, hL] at this
          cases this
      refine hK _ _ _ (hI.next_alloc ho he hb hr hn (by rw [hent]) (by rw [hent]) ?_ ?_ hon)
      · have hnw := hb.nw _ _ hn
        unfold fRow
        have hbase : fBase st es L (runE n st l es i).mem.length = none := by
          unfold fBase
          simp only [hnw.1, hL, Bool.false_eq_true, if_false]
        split
        · exact hbase
        · rename_i s hs
          rw [if_neg (by rw [hs0 s hs]; decide)]
          exact hbase
      · exact hs0
    · rename_i m r ob hres
      obtain ⟨hob, hent⟩ := hent
      have hok := hok (by rw [hent])
      have hon := hon (by rw [hent])
      rw [hres] at hok hon
      obtain ⟨w', hrun, hbk, hch⟩ := hok hob
      rw [hrun]
      obtain ⟨htt, r0, hr0⟩ := store_touch hres
      exact hK _ _ _ (hI.next_store ho he hb hr (by rw [hent]) (by rw [hent]) (by rw [hent]) (hrow (by rw [hent]) m r0 htt hr0) hbk hch hon.2)
    · exact hent.elim

theorem more_listed {listed : Array Bool} (h : i < listed.size) : more (fun k => listed.getD k false) i = fun k => (listed.setIfInBounds i true).getD k false := by
  funext k
  by_cases hk : k = i
  · subst hk
    rw [more_self]
    simp [h]
  · rw [more_ne hk, getD_set_ne false (Ne.symm hk)]
theorem any_ok (hB : ∀ k o en, l[k]? = some o → es[k]? = some en → Okb l es n k o en) (hlen : es.length = l.length)
    (hE : ∀ k o en, l[k]? = some o → es[k]? = some en → EntOk P H w0 l.toArray (runE n st l es k) o en)
    (hQ : ∀ L β a w, OInv w0 n l es st L β a w → (∀ k, k < l.length → L k = true) → Q .normal a w) :
    ∀ (fuel : Nat) (listed : Array Bool) (β : Nat → Nat) (a : Act) (w : World), listed.size = l.length → listed.toList.count true + fuel = l.length → OInv w0 n l es st (fun k => listed.getD k false) β a w → wpAny P .any l.toArray Q fuel listed a w := by
  have done : ∀ (listed : Array Bool), listed.size = l.length → Region.ready .any l.toArray listed = [] → ∀ k, k < l.length → listed.getD k false = true := by
    intro listed hsz hnil k
    induction k using Nat.strongRecOn with
    | _ k ih =>
      intro hk
      cases hLk : listed.getD k false with
      | true => rfl
      | false =>
        exfalso
        obtain ⟨o, ho⟩ : ∃ o, l[k]? = some o := ⟨_, List.getElem?_eq_getElem hk⟩
        obtain ⟨en, he⟩ : ∃ en, es[k]? = some en := ⟨_, List.getElem?_eq_getElem (by omega)⟩
        have hmem : k ∈ Region.ready .any l.toArray listed := by
          rw [mem_ready]
          refine ⟨?_, o, by simpa using ho, fun e hee hb => ?_⟩
          · have hk' : k < listed.size := by omega
            simp only [Array.getD_eq_getD_getElem?, Array.getElem?_eq_getElem hk', Option.getD_some] at hLk ⊢
            exact hLk
          · have hlt := (hB k o en ho he).down e hee hb
            exact ih e.on hlt (by omega)
        rw [hnil] at hmem
        cases hmem
  intro fuel
  induction fuel with
  | zero =>
    intro listed β a w hsz hcnt hI
    have hall : ∀ k, k < l.length → listed.getD k false = true := by
      have hc : listed.toList.count true = listed.toList.length := by simp at hcnt ⊢; omega
      have := List.count_eq_length.1 hc
      intro k hk
      have hk' : k < listed.size := by omega
      have h1 := this listed[k] (by simp)
      simp [hk', ← h1]
    refine ⟨?_, hQ _ β a w hI hall⟩
    cases hr : Region.ready .any l.toArray listed with
    | nil => rfl
    | cons x r =>
      exfalso
      have hx : x ∈ Region.ready .any l.toArray listed := by rw [hr]; simp
      obtain ⟨h0, o, ho, _⟩ := mem_ready.1 hx
      have hxl : x < l.length := by
        have := (List.getElem?_eq_some_iff.1 (show l[x]? = some o by simpa using ho)).1
        exact this
      have := hall x hxl
      have hk' : x < listed.size := by omega
      simp only [Array.getD_eq_getD_getElem?, Array.getElem?_eq_getElem hk', Option.getD_some] at h0 this
      rw [h0] at this
      cases this
  | succ fuel ih =>
    intro listed β a w hsz hcnt hI
    refine ⟨fun hnil => hQ _ β a w hI (done listed hsz hnil), fun i hi => ?_⟩
    obtain ⟨h0, o, ho, hall⟩ := mem_ready.1 hi
    have ho' : l[i]? = some o := by simpa using ho
    have hil : i < l.length := (List.getElem?_eq_some_iff.1 ho').1
    have hk' : i < listed.size := by omega
    obtain ⟨en, he⟩ : ∃ en, es[i]? = some en := ⟨_, List.getElem?_eq_getElem (by omega)⟩
    have hLi : listed[i] = false := by simpa [hk'] using h0
    refine any_step hI ho' he hB hlen hE (by simp [hk', hLi]) (fun e hee hb => hall e (by simpa using hee) hb) fun β' a' w' hI' => ?_
    rw [more_listed hk'] at hI'
    refine ih _ β' a' w' (by simpa using hsz) ?_ hI'
    have hcs : (listed.setIfInBounds i true).toList.count true = listed.toList.count true + 1 := by
      rw [Array.toList_setIfInBounds, List.count_set (by simpa using hk')]
      have : listed.toList[i]'(by simpa using hk') = false := by simpa using hLi
      simp [this]
    omega
theorem OInv.start (h : Hd w0 n β st a w) (hfresh : ∀ b k : Nat, idxOf (isNew b) es = some k → st.mem[b]? = none) : OInv w0 n l es st (fun _ => false) β a w := by
  have row : ∀ b, fRow st es (fun _ => false) b = st.mem[b]? := fun b => fRow_none (hfresh b)
  have lt : ∀ b, b < st.mem.length → ∃ r, fRow st es (fun _ => false) b = some r := fun b hb => ⟨_, by rw [row]; exact List.getElem?_eq_getElem hb⟩
  refine ⟨h.size, h.dn, fun t sv ht => h.get t sv (by rw [← ht, fLook_none]), fun b r hb => h.blk b r (by rw [← hb, row]), fun b r hb => ?_, fun b c r r' hb hc => ?_, h.chg, fun t sv ht => ?_, fun b r hb => ?_, fun k o ho hk => by cases hk⟩
  · rw [row] at hb; exact h.new b (List.getElem?_eq_some_iff.1 hb).1
  · rw [row] at hb hc; exact h.inj b c (List.getElem?_eq_some_iff.1 hb).1 (List.getElem?_eq_some_iff.1 hc).1
  · rw [fLook_none] at ht; exact SV.on_mono lt (h.wfS t sv ht)
  · rw [row] at hb; exact Cells.on_mono lt (h.wfR b r hb)
theorem OInv.fin (hI : OInv w0 n l es st L β a w) (hL : ∀ k, k < l.length → L k = true) (hB : ∀ k o en, l[k]? = some o → es[k]? = some en → Okb l es n k o en) (hlen : es.length = l.length)
    (hE : ∀ k o en, l[k]? = some o → es[k]? = some en → EntOk P H w0 l.toArray (runE n st l es k) o en) : Hd w0 n β (runE n st l es l.length) a w := by
  have hlook : ∀ t, look (runE n st l es l.length).fr t = fLook l st es L t := fun t => by
    rw [look_at (st := st) hlen hB l.length (Nat.le_refl _)]
    refine fLook_congr fun k hk => ?_
    obtain ⟨o, ho, _⟩ := idxOf_some hk
    have hkl := (List.getElem?_eq_some_iff.1 ho).1
    rw [hL k hkl]; simp [ltB, hkl]
  have hrow : ∀ b : Nat, (runE n st l es l.length).mem[b]? = fRow st es L b := fun b => by
    rw [row_at (P := P) (H := H) (w0 := w0) (ops := l.toArray) (st := st) hlen hB hE l.length (Nat.le_refl _)]
    refine fRow_congr (fun k hk => ?_) (fun k hk => ?_)
    · obtain ⟨o, ho, _⟩ := idxOf_some hk
      have hkl := (List.getElem?_eq_some_iff.1 ho).1
      rw [hlen] at hkl
      rw [hL k hkl]; simp [ltB, hkl]
    · obtain ⟨o, ho, _⟩ := idxOf_some hk
      have hkl := (List.getElem?_eq_some_iff.1 ho).1
      rw [hlen] at hkl
      rw [hL k hkl]; simp [ltB, hkl]
  have ex : ∀ b : Nat, b < (runE n st l es l.length).mem.length → ∃ r, fRow st es L b = some r := fun b hb => ⟨_, by rw [← hrow]; exact List.getElem?_eq_getElem hb⟩
  have back : ∀ b : Nat, (∃ r, fRow st es L b = some r) → b < (runE n st l es l.length).mem.length := fun b ⟨r, h⟩ => by rw [← hrow] at h; exact (List.getElem?_eq_some_iff.1 h).1
  refine ⟨hI.size, hI.dn, fun t sv ht => hI.get t sv (by rw [← hlook]; exact ht), fun b r hb => hI.blk b r (by rw [← hrow]; exact hb), fun b hb => ?_, fun b c hb hc => ?_, hI.chg, fun t sv ht => ?_, fun b r hb => ?_⟩
  · obtain ⟨r, hr⟩ := ex b hb; exact hI.new b r hr
  · obtain ⟨r, hr⟩ := ex b hb
    obtain ⟨r', hr'⟩ := ex c hc
    exact hI.inj b c r r' hr hr'
  · rw [hlook] at ht; exact SV.on_mono back (hI.wfS t sv ht)
  · rw [hrow] at hb; exact Cells.on_mono back (hI.wfR b r hb)
/-- A region that draws its order, reckoned once. -/
def exDraw (P : Program) (H : List (Nat × Hint)) (n : Nat) (w0 : World) (l : List Oper) (st : St) (K : St → Prop) : Prop :=
  exLex P H n w0 l.toArray l st [] fun es st' => match allBe l es n 0 l es with
    | true => K st'
    | false => Stuck l
theorem exDraw_ok {id : Nat} {K : St → Prop} (hm : P.follows .mixedOrders = true) (h : Hd w0 n β st a w) (hx : exDraw P H n w0 l st K) (hK : ∀ β' st' a' w', K st' → Hd w0 n β' st' a' w' → Q .normal a' w') : (Code.region id l.toArray true).wp P Q a w := by
  obtain ⟨es, st', hlex, hk⟩ := lex_of _ _ _ _ hx
  rw [List.nil_append] at hk
  obtain ⟨hlen, hE, hst⟩ := lex_spec hlex
  split at hk
  · rename_i hb
    have hB : ∀ k o en, l[k]? = some o → es[k]? = some en → Okb l es n k o en := fun k o en ho he => by
      have := allBe_spec hb k o en ho he
      rw [Nat.zero_add] at this
      exact opB_spec this
    refine wp_region_any hm ?_
    have hI : OInv w0 n l es st (fun _ => false) β a { w with drawn := w.drawn + 1 } := OInv.start (h.later (Chg.refl [] w).drew) fun b k hk' => by
      obtain ⟨en, r, he, hr⟩ := new_at hk'
      have hkl : k < l.length := by rw [← hlen]; exact (List.getElem?_eq_some_iff.1 he).1
      obtain ⟨hbl, _⟩ := ent_nw (hE k _ en (List.getElem?_eq_getElem hkl) he) hr
      have := mem_len (n := n) (st := st) hlen k (by omega)
      exact List.getElem?_eq_none (by omega)
    have hrep : (fun k => (Array.replicate l.length false).getD k false) = fun _ : Nat => false := by
      funext k
      simp only [Array.getD_eq_getD_getElem?, Array.getElem?_replicate]
      split <;> rfl
    have := any_ok (P := P) (H := H) (w0 := w0) (n := n) (st := st) (Q := Q) hB hlen hE (fun L β' a' w' hI' hL => hK β' st' a' w' hk (by rw [← hst]; exact hI'.fin hL hB hlen hE)) l.length (Array.replicate l.length false) β a { w with drawn := w.drawn + 1 } (by simp) (by simp [List.count_replicate]) (by rw [hrep]; exact hI)
    simpa using this
  · exact nomatch hk
end
end Sx
end Go.Proofs.YtgpiapmbbnngpaaGreatDoor

/- A walk by reckoning, part 7: the code of a function, from its arguments to its results. Proved over any program. No condition of its own. -/
namespace Go.Proofs.YtgpiapmbbnngpaaGreatDoor
open Go Go.RowKit Go.Lib Go.Sort

namespace Sx
/-- A loop: what is handed from round to round, by a letter k (a count, or more): the slots and blocks that are known at a round's head, what holds of k, the next k, a measure; and what is known where it ends, by a letter x. -/
inductive Loop : Type 1 where
  | mk (κ : Type) (k0 : κ) (R : κ → Prop) (fr : κ → List (Nat × SV)) (mem : κ → List Row) (next : κ → κ) (μ : κ → Nat)
    (ι : Type) (Ro : ι → Prop) (fro : ι → List (Nat × SV)) (memo : ι → List Row) (which : κ → ι)
def svLt (m : Nat) : SV → Bool
  | .val _ => true
  | .ptr i _ => Nat.blt i m
  | .slc i _ _ _ => Nat.blt i m
def cellsLt (m : Nat) : Cells → Bool
  | .vals _ => true
  | .svs cs => allB (svLt m) cs
def hasLook (fr : List (Nat × SV)) (t : Nat) : Bool := match look fr t with
  | some _ => true
  | none => false
def picks (fr : List (Nat × SV)) (l : List (Nat × SV)) : List (Nat × SV) := l.map fun p => (p.1, (look fr p.1).getD (.val undef))
/-- The state st gives what the slots fr and the blocks mem say. -/
def Same (st : St) (fr : List (Nat × SV)) (mem : List Row) : Prop :=
  match allB (fun p => hasLook st.fr p.1 && svLt mem.length p.2) fr && (allB (fun r => cellsLt mem.length r.cs) mem && Nat.ble mem.length st.mem.length) with
  | true => picks st.fr fr = fr ∧ st.mem.take mem.length = mem
  | false => Stuck (st, fr)
/-- What is asked at the end of a round. -/
def loopK {κ ι : Type} (R : κ → Prop) (fr : κ → List (Nat × SV)) (mem : κ → List Row) (next : κ → κ) (μ : κ → Nat) (Ro : ι → Prop) (fro : ι → List (Nat × SV)) (memo : ι → List Row) (which : κ → ι) (id : Nat) (Kr : St → Prop) (k : κ) : Exit → St → Prop
  | .normal, st => R (next k) ∧ μ (next k) < μ k ∧ Same st (fr (next k)) (mem (next k))
  | .exit i, st => match Nat.beq i id with
    | true => Ro (which k) ∧ Same st (fro (which k)) (memo (which k))
    | false => Stuck st
  | .ret, st => Kr st
  | _, _ => False
/-- The block that a loop's own end leaves. -/
def outId : Code → Nat
  | .seq x y => match outId x with
    | 0 => outId y
    | k => k
  | .cond _ x y => match outId x with
    | 0 => outId y
    | k => k
  | .exit i => i + 1
  | _ => 0
def nloops : Code → Nat
  | .seq x y => nloops x + nloops y
  | .cond _ x y => nloops x + nloops y
  | .block _ c => nloops c
  | .scope c => nloops c
  | .loop _ => 1
  | _ => 0
def ex (P : Program) (n : Nat) (w0 : World) : Code → List (Nat × Hint) → List Loop → St → (Exit → St → Prop) → Prop
  | .skip, _, _, st, K => K .normal st
  | .region _ ops draw, H, _, st, K => match draw with
    | false => exOps P H n w0 ops ops.toList st (K .normal)
    | true => exDraw P H n w0 ops.toList st (K .normal)
  | .seq x y, H, L, st, K => ex P n w0 x H L st fun e st' => match e with
    | .normal => ex P n w0 y H (L.drop (nloops x)) st' K
    | e => K e st'
  | .cond c x y, H, L, st, K => match ev st.fr c with
    | some (.val (.bool b)) => match b with
      | true => ex P n w0 x H L st K
      | false => ex P n w0 y H (L.drop (nloops x)) st K
    | _ => Stuck c
  | .block id c, H, L, st, K => ex P n w0 c H L st fun e st' => match e with
    | .exit i => match Nat.beq i id with
      | true => K .normal st'
      | false => K (.exit i) st'
    | e => K e st'
  | .scope c, H, L, st, K => ex P n w0 c H L st fun e st' => match e with
    | .goto _ => False
    | e => K e st'
  | .loop c, _, L, st, K => match L with
    | .mk _ k0 R fr mem next μ _ Ro fro memo which :: _ => R k0 ∧ Same st (fr k0) (mem k0) ∧ (∀ k, R k → ∃ H' L', ex P n w0 c H' L' ⟨fr k, mem k⟩ (loopK R fr mem next μ Ro fro memo which (outId c - 1) (K .ret) k)) ∧ ∀ x, Ro x → K (.exit (outId c - 1)) ⟨fro x, memo x⟩
    | [] => Stuck c
  | .exit id, _, _, st, K => K (.exit id) st
  | .label _, _, _, st, K => K .normal st
  | .ret, _, _, st, K => K .ret st
  | c, _, _, _, _ => Stuck c

def lift (w0 : World) (n : Nat) (K : Exit → St → Prop) (e : Exit) (a : Act) (w : World) : Prop := ∃ β st, K e st ∧ Hd w0 n β st a w

section
variable {P : Program} {n : Nat} {w0 : World}
theorem look_picks {fr : List (Nat × SV)} : ∀ {l : List (Nat × SV)} {t : Nat} {sv : SV}, picks fr l = l → (∀ p ∈ l, hasLook fr p.1 = true) → look l t = some sv → look fr t = some sv
  | (d, v) :: r, t, sv, h, ha, hl => by
    rw [look_put] at hl
    unfold picks at h
    rw [List.map_cons] at h
    injection h with h1 h2
    split at hl
    · rename_i hd
      subst hd
      have h1 : (look fr d).getD (.val undef) = v := by injection h1
      have := ha (d, v) (by simp)
      unfold hasLook at this
      split at this
      · rename_i u hu
        rw [hu] at h1 ⊢
        rw [← hl]
        exact congrArg some h1
      · cases this
    · exact look_picks h2 (fun p hp => ha p (by simp [hp])) hl
theorem svLt_on {m : Nat} {s : SV} (h : svLt m s = true) : s.on (· < m) := by
  cases s with
  | val v => trivial
  | ptr i o => exact Nat.le_of_ble_eq_true h
  | slc i o n c => exact Nat.le_of_ble_eq_true h
theorem look_mem : ∀ {l : List (Nat × SV)} {t : Nat} {sv : SV}, look l t = some sv → (t, sv) ∈ l
  | (d, v) :: r, t, sv, h => by
    rw [look_put] at h
    split at h
    · rename_i hd
      rw [← Option.some.inj h, hd]
      simp
    · exact List.mem_cons_of_mem _ (look_mem h)
theorem Hd.same {β : Nat → Nat} {st : St} {a : Act} {w : World} {fr : List (Nat × SV)} {mem : List Row} (h : Hd w0 n β st a w) (hs : Same st fr mem) : Hd w0 n β ⟨fr, mem⟩ a w := by
  unfold Same at hs
  split at hs
  · rename_i hb
    simp only [Bool.and_eq_true] at hb
    obtain ⟨hb1, hb2, hb3⟩ := hb
    have h1 := allB_spec hb1
    have h2 := allB_spec hb2
    have h3 := Nat.le_of_ble_eq_true hb3
    have hl : ∀ t sv, look fr t = some sv → look st.fr t = some sv := fun t sv ht => look_picks hs.1 (fun p hp => by have := h1 p hp; rw [Bool.and_eq_true] at this; exact this.1) ht
    have hm : ∀ (i : Nat) (r : Row), mem[i]? = some r → st.mem[i]? = some r := by
      intro i r hi
      have : (st.mem.take mem.length)[i]? = some r := by rw [hs.2]; exact hi
      rw [List.getElem?_take] at this
      split at this
      · exact this
      · cases this
    refine ⟨h.size, h.dn, fun t sv ht => h.get t sv (hl t sv ht), fun i r hi => h.blk i r (hm i r hi), fun i hi => h.new i (by simp only at hi; omega), fun i j hi hj => h.inj i j (by simp only at hi; omega) (by simp only at hj; omega), h.chg, fun t sv ht => ?_, fun i r hi => ?_⟩
    · have := h1 _ (look_mem ht)
      rw [Bool.and_eq_true] at this
      exact svLt_on this.2
    · have := h2 r (List.mem_of_getElem? hi)
      unfold cellsLt at this
      cases hc : r.cs with
      | vals cs => trivial
      | svs cs =>
        rw [hc] at this
        exact fun s hs => svLt_on (allB_spec this s hs)
  · exact nomatch hs
theorem ex_ok (hm : P.follows .mixedOrders = true) : ∀ (c : Code) (H : List (Nat × Hint)) (L : List Loop) (st : St) (K : Exit → St → Prop) (β : Nat → Nat) (a : Act) (w : World), Hd w0 n β st a w → ex P n w0 c H L st K → c.wp P (lift w0 n K) a w
  | .skip, H, L, st, K, β, a, w, h, hx => wp_skip ⟨β, st, hx, h⟩
  | .region id ops draw, H, L, st, K, β, a, w, h, hx => by
    unfold ex at hx
    cases draw with
    | false => exact wp_region_list (exOps_ok ops.toList st (K .normal) β a w h hx fun β' st' a' w' hk h' => ⟨β', st', hk, h'⟩)
    | true =>
      have := exDraw_ok (id := id) (Q := lift w0 n K) hm h hx fun β' st' a' w' hk h' => ⟨β', st', hk, h'⟩
      simpa using this
  | .seq x y, H, L, st, K, β, a, w, h, hx => by
    unfold ex at hx
    refine wp_seq (Code.wp_mono (fun e a' w' hq => ?_) (ex_ok hm x H L st _ β a w h hx))
    obtain ⟨β', st', hk, h'⟩ := hq
    cases e with
    | normal => exact ex_ok hm y H _ st' K β' a' w' h' hk
    | exit id => exact ⟨β', st', hk, h'⟩
    | goto l => exact ⟨β', st', hk, h'⟩
    | ret => exact ⟨β', st', hk, h'⟩
    | panic c => exact ⟨β', st', hk, h'⟩
    | outgrown => exact ⟨β', st', hk, h'⟩
  | .cond c x y, H, L, st, K, β, a, w, h, hx => by
    unfold ex at hx
    split at hx
    · rename_i b hb
      have hc : a.eval c = .bool b := h.eval hb
      cases b with
      | true => exact wp_cond_true hc (ex_ok hm x H L st K β a w h hx)
      | false => exact wp_cond_false hc (ex_ok hm y H _ st K β a w h hx)
    · exact nomatch hx
  | .block id c, H, L, st, K, β, a, w, h, hx => by
    unfold ex at hx
    refine wp_block (Code.wp_mono (fun e a' w' hq => ?_) (ex_ok hm c H L st _ β a w h hx))
    obtain ⟨β', st', hk, h'⟩ := hq
    cases e with
    | exit i =>
      simp only at hk
      split at hk
      · rename_i hb
        simp only [Exit.inBlock, Nat.eq_of_beq_eq_true hb, if_true]
        exact ⟨β', st', hk, h'⟩
      · rename_i hb
        have : i ≠ id := fun h => by rw [h, Nat.beq_refl] at hb; cases hb
        simp only [Exit.inBlock, this, if_false]
        exact ⟨β', st', hk, h'⟩
    | normal => exact ⟨β', st', hk, h'⟩
    | goto l => exact ⟨β', st', hk, h'⟩
    | ret => exact ⟨β', st', hk, h'⟩
    | panic c => exact ⟨β', st', hk, h'⟩
    | outgrown => exact ⟨β', st', hk, h'⟩
  | .scope c, H, L, st, K, β, a, w, h, hx => by
    unfold ex at hx
    refine wp_scope_straight (Code.wp_mono (fun e a' w' hq => ?_) (ex_ok hm c H L st _ β a w h hx))
    obtain ⟨β', st', hk, h'⟩ := hq
    cases e with
    | goto l => exact hk
    | normal => exact ⟨β', st', hk, h'⟩
    | exit id => exact ⟨β', st', hk, h'⟩
    | ret => exact ⟨β', st', hk, h'⟩
    | panic c => exact ⟨β', st', hk, h'⟩
    | outgrown => exact ⟨β', st', hk, h'⟩
  | .loop c, H, L, st, K, β, a, w, h, hx => by
    unfold ex at hx
    split at hx
    · rename_i κ k0 R fr mem next μ ι Ro fro memo which rest
      obtain ⟨h0, hs, hround, hout⟩ := hx
      refine wp_loop_ghost (fun m a w => ∃ β k, μ k = m ∧ R k ∧ Hd w0 n β ⟨fr k, mem k⟩ a w) (μ k0) ⟨β, k0, rfl, h0, h.same hs⟩ ?_
      rintro m a' w' ⟨β', k, rfl, hR, h'⟩
      obtain ⟨H', L', hround⟩ := hround k hR
      refine Code.wp_mono (fun e a2 w2 hq => ?_) (ex_ok hm c _ _ _ _ β' a' w' h' hround)
      obtain ⟨β2, st2, hk, h2⟩ := hq
      cases e with
      | normal => exact ⟨μ (next k), hk.2.1, β2, next k, rfl, hk.1, h2.same hk.2.2⟩
      | exit id =>
        simp only [loopK] at hk
        split at hk
        · rename_i hb
          rw [Nat.eq_of_beq_eq_true hb]
          exact ⟨β2, _, hout _ hk.1, h2.same hk.2⟩
        · exact nomatch hk
      | goto l => exact hk.elim
      | ret => exact ⟨β2, st2, hk, h2⟩
      | panic c => exact hk.elim
      | outgrown => exact hk.elim
    · exact nomatch hx
  | .exit id, H, L, st, K, β, a, w, h, hx => wp_exit ⟨β, st, hx, h⟩
  | .label l, H, L, st, K, β, a, w, h, hx => wp_label ⟨β, st, hx, h⟩
  | .ret, H, L, st, K, β, a, w, h, hx => wp_ret ⟨β, st, hx, h⟩
  | .rangeFunc .., _, _, _, _, _, _, _, _, hx => by unfold ex at hx; exact nomatch hx
  | .goto _, _, _, _, _, _, _, _, _, hx => by unfold ex at hx; exact nomatch hx
  | .refuse _, _, _, _, _, _, _, _, _, hx => by unfold ex at hx; exact nomatch hx

/-- The slots at the beginning. -/
def args0 : Nat → List Value → List (Nat × SV)
  | _, [] => []
  | k, v :: r => (k, .val v) :: args0 (k + 1) r
theorem look_args0 : ∀ {vs : List Value} {k t : Nat} {sv : SV}, look (args0 k vs) t = some sv → ∃ v, sv = .val v ∧ k ≤ t ∧ vs[t - k]? = some v
  | v :: r, k, t, sv, h => by
    rw [args0, look_put] at h
    split at h
    · rename_i hk
      exact ⟨v, (Option.some.inj h).symm, by omega, by rw [show t - k = 0 by omega]; rfl⟩
    · obtain ⟨u, h1, h2, h3⟩ := look_args0 h
      refine ⟨u, h1, by omega, ?_⟩
      rw [show t - k = (t - (k + 1)) + 1 by omega, List.getElem?_cons_succ]
      exact h3
/-- What a result's slot, or its variable, holds. -/
def resOf (P : Program) (st : St) : List ResultVar → Option (List Value)
  | [] => some []
  | .tmp t :: r => match look st.fr t with
    | some (.val v) => match resOf P st r with
      | some vs => some (v :: vs)
      | none => none
    | _ => none
  | .cell b t :: r => match look st.fr b with
    | some (.ptr i off) => match st.mem[i]? with
      | some row => match loadRes P t row off with
        | .val (.val v) _ => match resOf P st r with
          | some vs => some (v :: vs)
          | none => none
        | _ => none
      | none => none
    | _ => none
def wrapUp : List Value → Value
  | [v] => v
  | vs => .tuple vs.toArray
theorem loadRes_ob {t : TypeId} {row : Row} {off : Nat} {sv : SV} {ob : Option Prop} (h : loadRes P t row off = .val sv ob) : ob = none := by
  unfold loadRes at h
  repeat' (split at h)
  all_goals first | (cases h; done) | (injection h with _ h; exact h.symm)
theorem loadVar_ok {β : Nat → Nat} {w : World} {t : TypeId} {i off : Nat} {row : Row} {v : Value} {ob : Option Prop} (hb : Blk w (β i) row.ty (row.cs.den β)) (h : loadRes P t row off = .val (.val v) ob) : (loadVar t ⟨β i, off, none⟩).run P w = .ok v w := by
  have ho := load_ok (P := P) (β := β) (W := w) (a := ⟨#[.pointer (some ⟨β i, off, none⟩)], []⟩) (o := ⟨none, .load t (.tmp 0), 0, "", #[], none⟩) (t := t) (x := .tmp 0) (off := off) rfl rfl hb
  rw [h] at ho
  have ho := ho (fun p hp => by rw [loadRes_ob h] at hp; cases hp)
  simp only [execOp, Act.eval, Sem.run_bind] at ho
  rw [show ((#[Value.pointer (some ⟨β i, off, none⟩)] : Array Value).getD 0 undef) = .pointer (some ⟨β i, off, none⟩) from rfl, run_sure] at ho
  cases hr : (loadVar t ⟨β i, off, none⟩).run P w with
  | ok u w' =>
    rw [hr] at ho
    simp only [Result.andThen_ok, Sem.run_pure] at ho
    injection ho with h1 h2
    injection h1 with h1
    rw [h1, h2]
    rfl
  | halt x w' => rw [hr] at ho; cases ho
theorem resOf_ok {st : St} {β : Nat → Nat} {a : Act} {w : World} (h : Hd w0 n β st a w) {F : ResultVar → Sem Value} (hF : ∀ t, F (.tmp t) = pure (a.tmps.getD t undef)) (hG : ∀ b t, F (.cell b t) = do loadVar t (← asAddr (a.tmps.getD b undef))) : ∀ {l : List ResultVar} {vs : List Value}, resOf P st l = some vs → (l.mapM F).run P w = .ok vs w
  | [], vs, hr => by
    have : vs = [] := by simpa [resOf] using hr.symm
    subst this
    rfl
  | .tmp t :: r, vs, hr => by
    rw [resOf] at hr
    split at hr
    · rename_i v hv
      split at hr
      · rename_i us hu
        cases hr
        have h1 := h.get t _ hv
        have ih := resOf_ok h hF hG hu
        rw [List.mapM_cons, hF]
        simp only [Sem.run_bind, Sem.run_pure, Result.andThen_ok, ih]
        simp [h1, SV.den]
      · cases hr
    · cases hr
  | .cell b t :: r, vs, hr => by
    rw [resOf] at hr
    split at hr
    · rename_i i off hv
      split at hr
      · rename_i row hrow
        split at hr
        · rename_i v ob hl
          split at hr
          · rename_i us hu
            cases hr
            have h1 := h.get b _ hv
            have ih := resOf_ok h hF hG hu
            have h2 := loadVar_ok (h.blk i row hrow) hl
            have h3 : a.tmps.getD b undef = .pointer (some ⟨β i, off, none⟩) := by simp [h1, SV.den]
            rw [List.mapM_cons, hG, h3]
            simp only [Sem.run_bind, asAddr, Sem.run_pure, Result.andThen_ok, h2, ih]
          · cases hr
        · cases hr
      · cases hr
    · cases hr
/-- What is asked at the end of a function. -/
def atEnd (P : Program) (fn : Func) (R : Value → Prop) : Exit → St → Prop
  | .normal, st => match resOf P st fn.results.toList with
    | some vs => R (wrapUp vs)
    | none => Stuck st
  | .ret, st => match resOf P st fn.results.toList with
    | some vs => R (wrapUp vs)
    | none => Stuck st
  | _, _ => False
theorem atEnd_ok {fn : Func} {R : Value → Prop} {e : Exit} {a : Act} {w : World} (h : lift w0 n (atEnd P fn R) e a w) : bodyPost P fn (fun e w' => ∃ v, e = .returned v ∧ R v ∧ Chg [] w0 w') e a w := by
  obtain ⟨β, st, hk, h⟩ := h
  have main : (match resOf P st fn.results.toList with | some vs => R (wrapUp vs) | none => Stuck st : Prop) → a.defers = [] ∧ ∃ v, (results fn a.tmps).run P w = .ok v w ∧ ∃ u, Ending.returned v = .returned u ∧ R u ∧ Chg [] w0 w := by
    intro hk
    split at hk
    · rename_i vs hvs
      refine ⟨h.dn, wrapUp vs, ?_, _, rfl, hk, h.chg⟩
      unfold results
      rw [Array.mapM_eq_mapM_toList]
      simp only [Sem.run_bind, map_eq_pure_bind, Sem.run_pure]
      rw [resOf_ok (P := P) h (fun _ => rfl) (fun _ _ => rfl) hvs]
      simp only [Result.andThen_ok]
      congr 1
      match vs with
      | [] => rfl
      | [v] => rfl
      | v :: u :: r => simp [wrapUp]
    · exact nomatch hk
  cases e with
  | normal => exact main hk
  | ret => exact main hk
  | exit _ => exact hk.elim
  | goto _ => exact hk.elim
  | panic _ => exact hk.elim
  | outgrown => exact hk.elim
/-- **A function's contract by reckoning.** -/
theorem calls_ex {f : FuncId} {fn : Func} {c : Code} {args : List Value} {R : Value → Prop} (H : List (Nat × Hint)) (L : List Loop) (hm : P.follows .mixedOrders = true) (hf : P.funcs[f]? = some fn) (hb : fn.body = some c) (hn : args.length ≤ fn.ntmps)
    (hx : ex P fn.ntmps w0 c H L ⟨args0 0 args, []⟩ (atEnd P fn R)) : Calls P f args.toArray w0 fun e w' => ∃ v, e = .returned v ∧ R v ∧ Chg [] w0 w' := by
  refine calls_of_wp hf hb (Code.wp_mono (fun e a w hq => atEnd_ok hq) (ex_ok (w0 := w0) (n := fn.ntmps) hm c H L _ _ (fun _ => 0) _ w0 ?_ hx))
  refine ⟨by simp; omega, rfl, fun t sv ht => ?_, fun i r hi => by simp at hi, fun i hi => by simp at hi, fun i j hi => by simp at hi, Chg.refl _ _, fun t sv ht => ?_, fun i r hi => by simp at hi⟩
  · obtain ⟨v, rfl, _, hv⟩ := look_args0 ht
    have hlt : t < args.length := (List.getElem?_eq_some_iff.1 hv).1
    rw [Array.getElem?_append_left (by simpa using hlt)]
    simpa [SV.den] using hv
  · obtain ⟨v, rfl, _⟩ := look_args0 ht
    trivial
/-- The same, where the value is known. -/
theorem calls_is {f : FuncId} {fn : Func} {c : Code} {args : List Value} {u : Value} (H : List (Nat × Hint)) (L : List Loop) (hm : P.follows .mixedOrders = true) (hf : P.funcs[f]? = some fn) (hb : fn.body = some c) (hn : args.length ≤ fn.ntmps)
    (hx : ex P fn.ntmps w0 c H L ⟨args0 0 args, []⟩ (atEnd P fn fun v => v = u)) : Calls P f args.toArray w0 fun e w' => e = .returned u ∧ Chg [] w0 w' :=
  (calls_ex H L hm hf hb hn hx).mono fun _ _ ⟨_, he, hv, hc⟩ => ⟨by rw [he, hv], hc⟩
/-- The loops of a code, in the text's order: the i-th one's body. -/
def bodies : Code → List Code
  | .seq x y => bodies x ++ bodies y
  | .cond _ x y => bodies x ++ bodies y
  | .block _ c => bodies c
  | .scope c => bodies c
  | .loop c => [c]
  | _ => []
def bodyOf (fn : Func) (i : Nat) : Code := match fn.body with
  | some c => (bodies c).getD i .skip
  | none => .skip
def inBody (c : Code) (i : Nat) : Code := (bodies c).getD i .skip
/-- A way that parts: one chain for each outcome. -/
theorem bcase {b : Bool} {X Y : Prop} (hx : b = true → X) (hy : b = false → Y) : (match b with | true => X | false => Y) := by
  cases b with
  | true => exact hx rfl
  | false => exact hy rfl
end
end Sx
end Go.Proofs.YtgpiapmbbnngpaaGreatDoor
