/- A reckoner of calls, part 1: values that may name what a call has made, rows of memory, what a row says of a world. Proved over any program. No condition of its own. -/
import Derived.Test.YtcpbbgkeigbndaaGreatGr01
import Derived.Deep.MidRow
namespace Go.Proofs.YtcpbbgkeigbndaaGreat
open Go Go.RowKit Go.Lib Go.Sort

namespace Ax
/-- A slice's cells are there to be read. -/
def Rd (w : World) (size : Nat) (s : Value) (n : Nat) (xs : List Value) : Prop :=
  xs.length = n * size ∧ (∀ u ∈ xs, u.oneCell' = true) ∧ ∃ A c, s = .slice A n c ∧ n ≤ c ∧ (0 < n → ∃ g o, A = some ⟨g, o, none⟩ ∧ g < w.heap.size ∧ ∀ (j : Nat) (u : Value), xs[j]? = some u → w.cell? ⟨g, o + j, none⟩ = some u)
theorem Rd.of_own {w : World} {T size n : Nat} {s : Value} {xs : List Value} (h : Own w T size s n xs) (h1 : ∀ u ∈ xs, u.oneCell' = true) : Rd w size s n xs := by
  refine ⟨h.len, h1, ?_⟩
  obtain ⟨A, c, rfl, hn, _⟩ := h.form
  refine ⟨A, c, rfl, hn, fun h0 => ?_⟩
  obtain ⟨g, o, c', hv, _, _, hg⟩ := h.some_ h0
  injection hv with h1 _ _
  subst h1
  exact ⟨g, o, rfl, hg, fun j u hu => (Own.cell h hu).1⟩
theorem Rd.nil (w : World) (size : Nat) : Rd w size (.slice none 0 0) 0 [] := ⟨by simp, by simp, none, 0, rfl, Nat.le_refl _, fun h => by omega⟩

/-- The door of a call: the world there, the blocks that the call may turn. -/
structure Base where
  w : World
  S : Nat → Prop
/-- Where the i-th row's block lies; the i-th object's value, the blocks that are its own. -/
structure Env where
  b : Nat → Nat
  v : Nat → Value
  F : Nat → Nat → Prop
/-- A value: one that names nothing of the call's own; a pointer into the i-th row; the i-th object; a slice of the i-th row; a part of the i-th object, a slice; a pointer into it; the i-th row, a map; a row of cells; a tuple; a function with what it has captured; a value in an interface; one that is not known. -/
inductive SV where
  | v (x : Value)
  | p (i off : Nat)
  | o (i : Nat)
  | sl (i off len cap : Nat)
  | sub (i off len cut : Nat)
  | e (i off : Nat)
  | mp (i : Nat)
  | ag (l : List SV)
  | tp (l : List SV)
  | clo (f : FuncId) (q l : List SV)
  | ifc (t : TypeId) (x : SV)
  | gone
/-- One cell. -/
def oneV : Value → Value
  | .agg _ => .bool false
  | .tuple _ => .bool false
  | v => v
def subV (off len cut : Nat) : Value → Value
  | .slice A _ c => .slice (if c = cut then A else A.map (·.add off)) len (c - cut)
  | v => oneV v
def elV (off : Nat) : Value → Value
  | .slice A _ _ => .pointer (A.map (·.add off))
  | v => oneV v
mutual
def SV.den (β : Env) : SV → Value
  | .v x => x
  | .p i off => .pointer (some ⟨β.b i, off, none⟩)
  | .o i => oneV (β.v i)
  | .sl i off len cap => .slice (some ⟨β.b i, off, none⟩) len cap
  | .sub i off len cut => subV off len cut (β.v i)
  | .e i off => elV off (β.v i)
  | .mp i => .map (some (β.b i))
  | .ag l => .agg (SV.dens β l).toArray
  | .tp l => .tuple (SV.dens β l).toArray
  | .clo f q l => .func (.func f) (SV.dens β q).toArray (SV.dens β l).toArray
  | .ifc t x => .iface t (SV.den β x)
  | .gone => undef
def SV.dens (β : Env) : List SV → List Value
  | [] => []
  | x :: l => SV.den β x :: SV.dens β l
end
mutual
def SV.idx : SV → List Nat
  | .v _ => []
  | .p i _ => [i]
  | .o i => [i]
  | .sl i _ _ _ => [i]
  | .sub i _ _ _ => [i]
  | .e i _ => [i]
  | .mp i => [i]
  | .ag l => SV.idxs l
  | .tp l => SV.idxs l
  | .clo _ q l => SV.idxs q ++ SV.idxs l
  | .ifc _ x => SV.idx x
  | .gone => []
def SV.idxs : List SV → List Nat
  | [] => []
  | x :: l => SV.idx x ++ SV.idxs l
end
theorem dens_map (β : Env) : ∀ l : List SV, SV.dens β l = l.map (SV.den β)
  | [] => rfl
  | x :: l => by rw [SV.dens, dens_map β l, List.map_cons]
theorem idxs_mem {l : List SV} {x : SV} (h : x ∈ l) {i : Nat} (hi : i ∈ x.idx) : i ∈ SV.idxs l := by
  induction l with
  | nil => cases h
  | cons y l ih =>
    rw [SV.idxs, List.mem_append]
    rcases List.mem_cons.1 h with rfl | h
    · exact .inl hi
    · exact .inr (ih h)
theorem mem_idxs {l : List SV} {i : Nat} (h : i ∈ SV.idxs l) : ∃ x ∈ l, i ∈ x.idx := by
  induction l with
  | nil => cases h
  | cons y l ih =>
    rw [SV.idxs, List.mem_append] at h
    rcases h with h | h
    · exact ⟨y, by simp, h⟩
    · obtain ⟨x, hx, hi⟩ := ih h
      exact ⟨x, List.mem_cons_of_mem _ hx, hi⟩
/-- Two environments say the same of a row. -/
def Env.at (β β' : Env) (i : Nat) : Prop := β.b i = β'.b i ∧ β.v i = β'.v i
mutual
theorem den_congr {β β' : Env} : ∀ (s : SV), (∀ i ∈ s.idx, β.at β' i) → s.den β = s.den β'
  | .v _, _ => rfl
  | .p i off, h => by simp only [SV.den, (h i (by simp [SV.idx])).1]
  | .o i, h => by simp only [SV.den, (h i (by simp [SV.idx])).2]
  | .sl i _ _ _, h => by simp only [SV.den, (h i (by simp [SV.idx])).1]
  | .sub i _ _ _, h => by simp only [SV.den, (h i (by simp [SV.idx])).2]
  | .e i _, h => by simp only [SV.den, (h i (by simp [SV.idx])).2]
  | .mp i, h => by simp only [SV.den, (h i (by simp [SV.idx])).1]
  | .ag l, h => by rw [SV.den, SV.den, dens_congr l h]
  | .tp l, h => by rw [SV.den, SV.den, dens_congr l h]
  | .clo _ q l, h => by rw [SV.den, SV.den, dens_congr q fun i hi => h i (by rw [SV.idx]; exact List.mem_append_left _ hi), dens_congr l fun i hi => h i (by rw [SV.idx]; exact List.mem_append_right _ hi)]
  | .ifc _ x, h => by rw [SV.den, SV.den, den_congr x h]
  | .gone, _ => rfl
theorem dens_congr {β β' : Env} : ∀ (l : List SV), (∀ i ∈ SV.idxs l, β.at β' i) → SV.dens β l = SV.dens β' l
  | [], _ => rfl
  | x :: l, h => by
    rw [SV.dens, SV.dens, den_congr x fun i hi => h i (by rw [SV.idxs]; exact List.mem_append_left _ hi), dens_congr l fun i hi => h i (by rw [SV.idxs]; exact List.mem_append_right _ hi)]
end
def allB {α : Type} (p : α → Bool) : List α → Bool
  | [] => true
  | x :: r => match p x with
    | true => allB p r
    | false => false
theorem allB_spec {α : Type} {p : α → Bool} : ∀ {l : List α}, allB p l = true → ∀ x ∈ l, p x = true
  | [], _, x, hx => by cases hx
  | y :: r, h, x, hx => by
    unfold allB at h
    split at h
    · rename_i hy
      rcases List.mem_cons.1 hx with rfl | hx
      · exact hy
      · exact allB_spec h x hx
    · cases h
def memN (i : Nat) : List Nat → Bool
  | [] => false
  | j :: r => match Nat.beq j i with
    | true => true
    | false => memN i r
theorem memN_iff {i : Nat} : ∀ {l : List Nat}, memN i l = true ↔ i ∈ l
  | [] => by simp [memN]
  | j :: r => by
    unfold memN
    split
    · rename_i h
      rw [Nat.eq_of_beq_eq_true h]
      simp
    · rename_i h
      have : j ≠ i := fun hh => by rw [hh, Nat.beq_refl] at h; cases h
      rw [memN_iff, List.mem_cons]
      exact ⟨.inr, fun hh => hh.resolve_left (Ne.symm this)⟩
/-- The cells of a row: values, or what may name the call's own. -/
inductive Cs where
  | vs (l : List Value)
  | ss (l : List SV)
def Cs.den (β : Env) : Cs → List Value
  | .vs l => l
  | .ss l => SV.dens β l
def Cs.idx : Cs → List Nat
  | .vs _ => []
  | .ss l => SV.idxs l
def Cs.svs : Cs → List SV
  | .vs l => l.map .v
  | .ss l => l
theorem dens_v (β : Env) : ∀ l : List Value, SV.dens β (l.map .v) = l
  | [] => rfl
  | x :: l => by rw [List.map_cons, SV.dens, dens_v β l]; rfl
theorem idxs_v : ∀ l : List Value, SV.idxs (l.map .v) = []
  | [] => rfl
  | x :: l => by rw [List.map_cons, SV.idxs, idxs_v l]; rfl
theorem svs_den {β : Env} {c : Cs} : SV.dens β c.svs = c.den β := by
  cases c with
  | vs l => exact dens_v β l
  | ss l => rfl
theorem svs_idx {c : Cs} : SV.idxs c.svs = c.idx := by
  cases c with
  | vs l => exact idxs_v l
  | ss l => rfl
def idxE : List (SV × SV) → List Nat
  | [] => []
  | q :: r => (q.1.idx ++ q.2.idx) ++ idxE r
def densE (β : Env) : List (SV × SV) → List (Value × Value)
  | [] => []
  | q :: r => (q.1.den β, q.2.den β) :: densE β r
theorem densE_congr {β β' : Env} : ∀ (l : List (SV × SV)), (∀ i ∈ idxE l, β.at β' i) → densE β l = densE β' l
  | [], _ => rfl
  | q :: r, h => by
    rw [densE, densE, den_congr q.1 fun i hi => h i (by rw [idxE]; exact List.mem_append_left _ (List.mem_append_left _ hi)), den_congr q.2 fun i hi => h i (by rw [idxE]; exact List.mem_append_left _ (List.mem_append_right _ hi)), densE_congr r fun i hi => h i (by rw [idxE]; exact List.mem_append_right _ hi)]
/-- A block is a map of these entries. -/
def MapIs (w : World) (g : Nat) (l : List (Value × Value)) : Prop := ∃ entries clock, w.heap[g]? = some (.map entries clock) ∧ (entries.toList.map fun e => (e.key, e.val)) = l ∧ ∀ e ∈ entries.toList, e.born < clock
theorem MapIs.lt {w : World} {g : Nat} {l : List (Value × Value)} (h : MapIs w g l) : g < w.heap.size := by
  obtain ⟨e, c, h, _⟩ := h
  rcases Nat.lt_or_ge g w.heap.size with hlt | hge
  · exact hlt
  · rw [Array.getElem?_eq_none hge] at h; cases h
theorem MapIs.cg {S : Nat → Prop} {w w' : World} {g : Nat} {l : List (Value × Value)} (h : MapIs w g l) (hc : Cg S w w') (hg : ¬ S g) : MapIs w' g l := by
  obtain ⟨e, c, h1, h2⟩ := h
  exact ⟨e, c, by rw [hc.block g (MapIs.lt ⟨e, c, h1, h2⟩) hg]; exact h1, h2⟩
/-- A block is a map of these entries, in whatever order. -/
def MapU (w : World) (g : Nat) (l : List (Value × Value)) : Prop := ∃ l', l'.Perm l ∧ MapIs w g l'
theorem MapU.lt {w : World} {g : Nat} {l : List (Value × Value)} (h : MapU w g l) : g < w.heap.size := by
  obtain ⟨_, _, h⟩ := h
  exact h.lt
theorem MapU.cg {S : Nat → Prop} {w w' : World} {g : Nat} {l : List (Value × Value)} (h : MapU w g l) (hc : Cg S w w') (hg : ¬ S g) : MapU w' g l := by
  obtain ⟨l', hp, h⟩ := h
  exact ⟨l', hp, h.cg hc hg⟩
theorem ObIs.lt {w : World} {g : Nat} {x : Obj} (h : w.heap[g]? = some x) : g < w.heap.size := by
  rcases Nat.lt_or_ge g w.heap.size with hlt | hge
  · exact hlt
  · rw [Array.getElem?_eq_none hge] at h; cases h
theorem ObIs.cg {S : Nat → Prop} {w w' : World} {g : Nat} {x : Obj} (h : w.heap[g]? = some x) (hc : Cg S w w') (hg : ¬ S g) : w'.heap[g]? = some x := by
  rw [hc.block g (ObIs.lt h) hg]; exact h
/-- An iterator at g of the map at g', with the entry at which it stands, and those to come. -/
def IterIs (w : World) (g g' : Nat) (cur l : List (Value × Value)) : Prop := ∃ entries clock seen, w.heap[g]? = some (.mapIter (some g') clock seen clock) ∧ w.heap[g']? = some (.map entries clock) ∧ ((entries.filter fun e => !seen.contains e.born).toList.map fun e => (e.key, e.val)) = l ∧ (∀ e ∈ entries.toList, e.born < clock) ∧ l.length ≤ 1 ∧ ∀ q ∈ cur, ∃ e stamp, seen.back? = some stamp ∧ entries.find? (·.born == stamp) = some e ∧ (e.key, e.val) = q
theorem IterIs.lt {w : World} {g g' : Nat} {cur l : List (Value × Value)} (h : IterIs w g g' cur l) : g < w.heap.size ∧ g' < w.heap.size := by
  obtain ⟨_, _, _, h1, h2, _⟩ := h
  exact ⟨ObIs.lt h1, ObIs.lt h2⟩
theorem IterIs.cg {S : Nat → Prop} {w w' : World} {g g' : Nat} {cur l : List (Value × Value)} (h : IterIs w g g' cur l) (hc : Cg S w w') (hg : ¬ S g) (hg' : ¬ S g') : IterIs w' g g' cur l := by
  obtain ⟨e, c, s, h1, h2, h3⟩ := h
  exact ⟨e, c, s, ObIs.cg h1 hc hg, ObIs.cg h2 hc hg', h3⟩
/-- A row: a block whose cells are known (and which block that came in it is), the same of one that may be read alone; a slice of the call's own, a slice that may be read alone; an object, one that may be read alone; the same of a slice whose cells may name rows; a map, one that may be read alone; another thing of the heap, one that may be read alone; a map's iterator, with what is to come; a slice without elements; nothing known. -/
inductive Row where
  | c (g : Option Nat) (ty : TypeId) (cs : Cs)
  | k (ty : TypeId) (cs : Cs)
  | s (ty : TypeId) (size n : Nat) (xs : List Value)
  | r (size n : Nat) (xs : List Value)
  | o (t : Nat) (x : D t)
  | q (t : Nat) (x : D t)
  | sw (ty : TypeId) (size n : Nat) (l : List SV)
  | sr (size n : Nat) (l : List SV)
  | mo (es : List (SV × SV))
  | mr (es : List (SV × SV))
  | mu (es : List (SV × SV))
  | mv (es : List (SV × SV))
  | ho (x : Obj)
  | hr (x : Obj)
  | mi (cur es : List (SV × SV))
  | z
  | d
def Row.idx : Row → List Nat
  | .c _ _ cs => cs.idx
  | .k _ cs => cs.idx
  | .sw _ _ _ l => SV.idxs l
  | .sr _ _ l => SV.idxs l
  | .mo es => idxE es
  | .mr es => idxE es
  | .mu es => idxE es
  | .mv es => idxE es
  | .mi cur es => idxE cur ++ idxE es
  | _ => []
/-- The blocks that a row speaks of. -/
def foot (β : Env) (i : Nat) : Row → Nat → Prop
  | .c _ _ _, k => k = β.b i
  | .s _ _ _ _, k => β.F i k
  | .o _ _, k => β.F i k
  | .sw _ _ _ _, k => β.F i k
  | .mo _, k => k = β.b i
  | .mu _, k => k = β.b i
  | .ho _, k => k = β.b i
  | .mi _ _, k => β.F i k
  | _, _ => False
/-- What a row says of a world. -/
def Held (b : Base) (β : Env) (w : World) (i : Nat) : Row → Prop
  | .c g ty cs => (∀ k, g = some k → β.b i = k) ∧ Blk w (β.b i) ty (cs.den β)
  | .k ty cs => ∀ W, Cg b.S b.w W → Blk W (β.b i) ty (cs.den β)
  | .s ty size n xs => Own w ty size (β.v i) n xs ∧ (∀ k, β.F i k ↔ (β.v i).ownBlock = some k) ∧ ∀ u ∈ xs, u.oneCell' = true
  | .r size n xs => ∀ W, Cg b.S b.w W → Rd W size (β.v i) n xs
  | .o t x => (pred t x).on w (β.v i) (β.F i)
  | .q t x => ∀ W, Cg b.S b.w W → ∃ F, (pred t x).on W (β.v i) F
  | .sw ty size n l => Own w ty size (β.v i) n (SV.dens β l) ∧ (∀ k, β.F i k ↔ (β.v i).ownBlock = some k) ∧ ∀ u ∈ SV.dens β l, u.oneCell' = true
  | .sr size n l => ∀ W, Cg b.S b.w W → Rd W size (β.v i) n (SV.dens β l)
  | .mo es => MapIs w (β.b i) (densE β es)
  | .mr es => ∀ W, Cg b.S b.w W → MapIs W (β.b i) (densE β es)
  | .mu es => MapU w (β.b i) (densE β es)
  | .mv es => ∀ W, Cg b.S b.w W → MapU W (β.b i) (densE β es)
  | .ho x => w.heap[β.b i]? = some x
  | .hr x => ∀ W, Cg b.S b.w W → W.heap[β.b i]? = some x
  | .mi cur es => ∃ g', IterIs w (β.b i) g' (densE β cur) (densE β es) ∧ ∀ k, β.F i k ↔ k = β.b i ∨ k = g'
  | .z => ∃ A c, β.v i = .slice A 0 c
  | .d => True
theorem Held.lt {b : Base} {β : Env} {w : World} {i k : Nat} {r : Row} (h : Held b β w i r) (hk : foot β i r k) : k < w.heap.size := by
  cases r with
  | c g ty cs => rw [show k = β.b i from hk]; exact h.2.lt
  | s ty size n xs => exact h.1.lt k ((h.2.1 k).1 hk)
  | k ty cs => exact hk.elim
  | r size n xs => exact hk.elim
  | o t x => exact (pred t x).lt h k hk
  | q t x => exact hk.elim
  | sw ty size n l => exact h.1.lt k ((h.2.1 k).1 hk)
  | sr size n l => exact hk.elim
  | mo es => rw [show k = β.b i from hk]; exact MapIs.lt h
  | mr es => exact hk.elim
  | mu es => rw [show k = β.b i from hk]; exact MapU.lt h
  | mv es => exact hk.elim
  | ho x => rw [show k = β.b i from hk]; exact ObIs.lt h
  | hr x => exact hk.elim
  | mi cur es =>
    obtain ⟨g', h1, h2⟩ := h
    rcases (h2 k).1 hk with rfl | rfl
    · exact h1.lt.1
    · exact h1.lt.2
  | z => exact hk.elim
  | d => exact hk.elim
theorem Held.cg {b : Base} {β : Env} {S : Nat → Prop} {w w' : World} {i : Nat} {r : Row} (h : Held b β w i r) (hc : Cg S w w') (hS : ∀ k, foot β i r k → ¬ S k) : Held b β w' i r := by
  cases r with
  | c g ty cs => exact ⟨h.1, hc.blk h.2 (hS _ rfl)⟩
  | s ty size n xs => exact ⟨hc.own h.1 fun k hk => hS k ((h.2.1 k).2 hk), h.2⟩
  | k ty cs => exact h
  | r size n xs => exact h
  | o t x => exact (pred t x).cg h hc hS
  | q t x => exact h
  | sw ty size n l => exact ⟨hc.own h.1 fun k hk => hS k ((h.2.1 k).2 hk), h.2⟩
  | sr size n l => exact h
  | mo es => exact MapIs.cg h hc (hS _ rfl)
  | mr es => exact h
  | mu es => exact MapU.cg h hc (hS _ rfl)
  | mv es => exact h
  | ho x => exact ObIs.cg h hc (hS _ rfl)
  | hr x => exact h
  | mi cur es =>
    obtain ⟨g', h1, h2⟩ := h
    exact ⟨g', h1.cg hc (hS _ ((h2 _).2 (.inl rfl))) (hS _ ((h2 _).2 (.inr rfl))), h2⟩
  | z => exact h
  | d => trivial
theorem Held.congr {b : Base} {β β' : Env} {w : World} {i : Nat} {r : Row} (hi : β.at β' i) (hF : β.F i = β'.F i) (hr : ∀ j ∈ r.idx, β.at β' j) (h : Held b β w i r) : Held b β' w i r := by
  obtain ⟨h1, h2⟩ := hi
  cases r with
  | k ty cs =>
    have : cs.den β = cs.den β' := by
      cases cs with
      | vs l => rfl
      | ss l => exact dens_congr l hr
    exact fun W hW => by rw [← h1, ← this]; exact h W hW
  | c g ty cs =>
    have : cs.den β = cs.den β' := by
      cases cs with
      | vs l => rfl
      | ss l => exact dens_congr l hr
    exact ⟨fun k hk => h1 ▸ h.1 k hk, by rw [← h1, ← this]; exact h.2⟩
  | s ty size n xs => exact ⟨h2 ▸ h.1, by rw [← h2, ← hF]; exact h.2.1, h.2.2⟩
  | r size n xs => exact fun W hW => h2 ▸ h W hW
  | o t x => show (pred t x).on w (β'.v i) (β'.F i); rw [← h2, ← hF]; exact h
  | q t x => exact fun W hW => by rw [← h2]; exact h W hW
  | sw ty size n l => have e := dens_congr l hr; exact ⟨by rw [← h2, ← e]; exact h.1, by rw [← h2, ← hF]; exact h.2.1, by rw [← e]; exact h.2.2⟩
  | sr size n l => exact fun W hW => by rw [← h2, ← dens_congr l hr]; exact h W hW
  | mo es => show MapIs w (β'.b i) (densE β' es); rw [← h1, ← densE_congr es hr]; exact h
  | mr es => exact fun W hW => by rw [← h1, ← densE_congr es hr]; exact h W hW
  | mu es => show MapU w (β'.b i) (densE β' es); rw [← h1, ← densE_congr es hr]; exact h
  | mv es => exact fun W hW => by rw [← h1, ← densE_congr es hr]; exact h W hW
  | ho x => show w.heap[β'.b i]? = some x; rw [← h1]; exact h
  | hr x => exact fun W hW => by rw [← h1]; exact h W hW
  | mi cur es =>
    obtain ⟨g', h3, h4⟩ := h
    exact ⟨g', by rw [← h1, ← densE_congr cur fun j hj => hr j (List.mem_append_left _ hj), ← densE_congr es fun j hj => hr j (List.mem_append_right _ hj)]; exact h3, by rw [← hF, ← h1]; exact h4⟩
  | z => show ∃ A c, β'.v i = _; rw [← h2]; exact h
  | d => trivial
theorem foot_congr {β β' : Env} {i : Nat} {r : Row} (hi : β.at β' i) (hF : β.F i = β'.F i) : foot β i r = foot β' i r := by
  obtain ⟨h1, h2⟩ := hi
  cases r <;> funext k <;> simp only [foot, h1, hF]

/-- A state: what the slots hold, the rows. -/
structure St where
  fr : List (Nat × SV)
  mem : List Row
def SV.known : SV → Option SV
  | .gone => none
  | s => some s
theorem known_some {v u : SV} (h : v.known = some u) : u = v := by
  cases v <;> first | (cases h; done) | exact (Option.some.inj h).symm
def look : List (Nat × SV) → Nat → Option SV
  | [], _ => none
  | (k, v) :: r, t => match Nat.beq k t with
    | true => v.known
    | false => look r t
theorem look_put {d t : Nat} {v : SV} {r : List (Nat × SV)} : look ((d, v) :: r) t = if d = t then v.known else look r t := by
  rw [look]
  split
  · rename_i h; rw [if_pos (Nat.eq_of_beq_eq_true h)]
  · rename_i h; rw [if_neg fun hh => by rw [hh, Nat.beq_refl] at h; cases h]
def ev (fr : List (Nat × SV)) : Operand → Option SV
  | .tmp t => look fr t
  | .const v => some (.v v)
  | .global g => some (.v (.pointer (some ⟨g, 0, none⟩)))
  | .func f => some (.v (.func (.func f) #[] #[]))
def St.put (n : Nat) (st : St) (dst : Option Tmp) (sv : SV) : St :=
  match dst with
  | none => st
  | some d => match Nat.blt d n with
    | true => ⟨(d, sv) :: st.fr, st.mem⟩
    | false => st
theorem put_mem {n : Nat} {st : St} {dst : Option Tmp} {sv : SV} : (st.put n dst sv).mem = st.mem := by
  unfold St.put
  split
  · rfl
  · split <;> rfl
/-- What a walk runs on: the defers; so many rows that stand as they stood there. -/
structure Dr where
  l : List Deferred
  m : Nat
  e : Env
/-- What holds of a frame and its world where the state is st. -/
structure Hd (ds : Dr) (b : Base) (n : Nat) (β : Env) (st : St) (a : Act) (w : World) : Prop where
  size : a.tmps.size = n
  dn : a.defers = ds.l
  get : ∀ t sv, look st.fr t = some sv → a.tmps[t]? = some (sv.den β)
  held : ∀ (i : Nat) (r : Row), st.mem[i]? = some r → Held b β w i r
  new : ∀ (i : Nat) (r : Row) (k : Nat), st.mem[i]? = some r → foot β i r k → b.S k ∨ b.w.heap.size ≤ k
  inj : ∀ (i j : Nat) (r r' : Row) (k : Nat), st.mem[i]? = some r → st.mem[j]? = some r' → foot β i r k → foot β j r' k → i = j
  cg : Cg b.S b.w w
  wfS : ∀ t sv, look st.fr t = some sv → ∀ i ∈ sv.idx, i < st.mem.length
  wfR : ∀ (i : Nat) (r : Row), st.mem[i]? = some r → ∀ j ∈ r.idx, j < st.mem.length
  keep : ∀ i, i < ds.m → ds.e.at β i ∧ i < st.mem.length
section
variable {ds : Dr} {b : Base} {n : Nat} {β : Env} {st : St} {a : Act} {w w' : World}
theorem Hd.eval (h : Hd ds b n β st a w) {x : Operand} {sv : SV} (hx : ev st.fr x = some sv) : a.eval x = sv.den β := by
  cases x with
  | tmp t => have := h.get t sv hx; simp [Act.eval, this]
  | const v => simp only [ev, Option.some.injEq] at hx; subst hx; rfl
  | global g => simp only [ev, Option.some.injEq] at hx; subst hx; rfl
  | func f => simp only [ev, Option.some.injEq] at hx; subst hx; rfl
theorem Hd.evOn (h : Hd ds b n β st a w) {x : Operand} {sv : SV} (hx : ev st.fr x = some sv) : ∀ i ∈ sv.idx, i < st.mem.length := by
  cases x with
  | tmp t => exact h.wfS t sv hx
  | const v => simp only [ev, Option.some.injEq] at hx; subst hx; intro i hi; cases hi
  | global g => simp only [ev, Option.some.injEq] at hx; subst hx; intro i hi; cases hi
  | func f => simp only [ev, Option.some.injEq] at hx; subst hx; intro i hi; cases hi
theorem Hd.later (h : Hd ds b n β st a w) (hc : Cg No w w') : Hd ds b n β st a w' :=
  ⟨h.size, h.dn, h.get, fun i r hi => (h.held i r hi).cg hc fun _ _ hh => hh, h.new, h.inj, h.cg.seq hc fun _ hh => hh.elim, h.wfS, h.wfR, h.keep⟩
theorem get_put {a : Act} {d t : Nat} {v : Value} (hd : d < a.tmps.size) : (a.put (some d) v).tmps[t]? = if d = t then some v else a.tmps[t]? := by
  simp only [Act.put, Array.getElem?_setIfInBounds]
  split <;> simp
theorem Hd.put (h : Hd ds b n β st a w) (dst : Option Tmp) {sv : SV} (hs : ∀ i ∈ sv.idx, i < st.mem.length) : Hd ds b n β (st.put n dst sv) (a.put dst (sv.den β)) w := by
  cases dst with
  | none => exact h
  | some d =>
    unfold St.put
    simp only
    split
    · rename_i hd
      have hd : d < n := Nat.le_of_ble_eq_true hd
      refine ⟨by simp [Act.put, h.size], by simp [Act.put, h.dn], fun t sv' ht => ?_, h.held, h.new, h.inj, h.cg, fun t sv' ht => ?_, h.wfR, h.keep⟩
      · rw [look_put] at ht
        rw [get_put (by rw [h.size]; exact hd)]
        split at ht
        · rename_i e; rw [if_pos e, known_some ht]
        · rename_i e; rw [if_neg e]; exact h.get t sv' ht
      · rw [look_put] at ht
        split at ht
        · rw [known_some ht]; exact hs
        · exact h.wfS t sv' ht
    · rename_i hd
      have hd : ¬ d < n := fun hh => by rw [show Nat.blt d n = true from Nat.ble_eq_true_of_le hh] at hd; cases hd
      have : a.put (some d) (sv.den β) = a := by
        unfold Act.put
        have : a.tmps.setIfInBounds d (sv.den β) = a.tmps := by
          rw [Array.setIfInBounds, dif_neg (by rw [h.size]; exact hd)]
        simp only [this]
      rw [this]
      exact h
end
end Ax
end Go.Proofs.YtcpbbgkeigbndaaGreat

/- A reckoner of calls, part 2: what an operation does to the rows, and that the state follows it. Proved over any program. No condition of its own. -/
namespace Go.Proofs.YtcpbbgkeigbndaaGreat
open Go Go.RowKit Go.Lib Go.Sort

namespace Ax
/-- What an operation does: the rows that it looks at, those that are said anew, those that are not known any more, new ones, what it gives. -/
structure Eff where
  see : List Nat
  upd : List (Nat × Row)
  kill : List Nat
  new : List Row
  ret : SV
structure See (b : Base) (β : Env) (W : World) (row : Nat → Option Row) (see : List Nat) : Prop where
  cg : Cg b.S b.w W
  held : ∀ i ∈ see, ∀ r, row i = some r → Held b β W i r
  new : ∀ i ∈ see, ∀ r k, row i = some r → foot β i r k → b.S k ∨ b.w.heap.size ≤ k
  inj : ∀ i ∈ see, ∀ j ∈ see, ∀ r r' k, row i = some r → row j = some r' → foot β i r k → foot β j r' k → i = j
def Turned (β : Env) (row : Nat → Option Row) (g : Eff) (k : Nat) : Prop := ∃ i r, (i ∈ g.upd.map (·.1) ∨ i ∈ g.kill) ∧ row i = some r ∧ foot β i r k
def Eff.fresh (g : Eff) (m : Nat) (q : Nat × Row) : Prop := q ∈ g.upd ∨ ∃ k, g.new[k]? = some q.2 ∧ q.1 = m + k
structure Post (b : Base) (β : Env) (W : World) (row : Nat → Option Row) (m : Nat) (g : Eff) (W' : World) (β' : Env) : Prop where
  same : ∀ i, (i < m ∨ m + g.new.length ≤ i) → β.at β' i
  sameF : ∀ i, (i < m ∨ m + g.new.length ≤ i) → i ∉ g.upd.map (·.1) → β.F i = β'.F i
  held : ∀ q, g.fresh m q → Held b β' W' q.1 q.2
  from_ : ∀ q, g.fresh m q → ∀ x, foot β' q.1 q.2 x → Turned β row g x ∨ W.heap.size ≤ x
  apart : ∀ q q' x, g.fresh m q → g.fresh m q' → foot β' q.1 q.2 x → foot β' q'.1 q'.2 x → q.1 = q'.1
  cg : Cg (Turned β row g) W W'
def EPost (b : Base) (β : Env) (W : World) (row : Nat → Option Row) (m : Nat) (g : Eff) (v : Value) (W' : World) : Prop := ∃ β', v = g.ret.den β' ∧ Post b β W row m g W' β'
def rowAt (mem : List Row) (i : Nat) : Option Row := mem[i]?
def findU (i : Nat) : List (Nat × Row) → Option Row
  | [] => none
  | q :: r => match Nat.beq q.1 i with
    | true => some q.2
    | false => findU i r
theorem findU_some {i : Nat} {r : Row} : ∀ {l : List (Nat × Row)}, findU i l = some r → (i, r) ∈ l
  | q :: l, h => by
    unfold findU at h
    split at h
    · rename_i hb
      cases h
      rw [← Nat.eq_of_beq_eq_true hb]
      simp
    · exact List.mem_cons_of_mem _ (findU_some h)
theorem findU_none {i : Nat} : ∀ {l : List (Nat × Row)}, findU i l = none → i ∉ l.map (·.1)
  | [], _ => by simp
  | q :: l, h => by
    unfold findU at h
    split at h
    · cases h
    · rename_i hb
      have : q.1 ≠ i := fun hh => by rw [hh, Nat.beq_refl] at hb; cases hb
      rw [List.map_cons, List.mem_cons, not_or]
      exact ⟨Ne.symm this, findU_none h⟩
def gAt (g : Eff) (i : Nat) (r : Row) : Row := match memN i g.kill with
  | true => .d
  | false => match findU i g.upd with
    | some r' => r'
    | none => r
def gUpd (g : Eff) : Nat → List Row → List Row
  | _, [] => []
  | i, r :: l => gAt g i r :: gUpd g (i + 1) l
theorem gUpd_get {g : Eff} : ∀ {l : List Row} {k i : Nat}, (gUpd g k l)[i]? = (l[i]?).map (gAt g (k + i))
  | [], k, i => by simp [gUpd]
  | r :: l, k, 0 => by simp [gUpd]
  | r :: l, k, i + 1 => by
    rw [gUpd, List.getElem?_cons_succ, List.getElem?_cons_succ, gUpd_get, show k + 1 + i = k + (i + 1) by omega]
theorem gUpd_length {g : Eff} : ∀ {l : List Row} {k : Nat}, (gUpd g k l).length = l.length
  | [], _ => rfl
  | r :: l, k => by rw [gUpd, List.length_cons, List.length_cons, gUpd_length]
/-- The rows behind an operation. -/
def gMem (mem : List Row) (g : Eff) : List Row := match g.upd, g.kill, g.new with
  | [], [], [] => mem
  | [], [], n => mem ++ n
  | _, _, n => gUpd g 0 mem ++ n
theorem gUpd_nil {g : Eff} (h1 : g.upd = []) (h2 : g.kill = []) : ∀ {l : List Row} {k : Nat}, gUpd g k l = l
  | [], _ => rfl
  | r :: l, k => by
    rw [gUpd, gUpd_nil h1 h2]
    unfold gAt
    rw [h1, h2]
    rfl
theorem gMem_eq {mem : List Row} {g : Eff} : gMem mem g = gUpd g 0 mem ++ g.new := by
  unfold gMem
  split
  · rename_i h1 h2 h3; rw [gUpd_nil h1 h2, h3, List.append_nil]
  · rename_i h1 h2 _; rw [gUpd_nil h1 h2]
  · rfl
theorem gMem_length {mem : List Row} {g : Eff} : (gMem mem g).length = mem.length + g.new.length := by
  rw [gMem_eq, List.length_append, gUpd_length]
def ltAll (m : Nat) (l : List Nat) : Bool := allB (fun i => Nat.blt i m) l
theorem ltAll_spec {m : Nat} {l : List Nat} (h : ltAll m l = true) : ∀ i ∈ l, i < m := fun i hi => Nat.le_of_ble_eq_true (allB_spec h i hi)
def hasRow (mem : List Row) (i : Nat) : Bool := Nat.blt i mem.length
/-- The test of an operation. -/
def gOk (mem : List Row) (g : Eff) : Bool :=
  allB (fun q => hasRow mem q.1 && (memN q.1 g.see && ltAll (mem.length + g.new.length) q.2.idx)) g.upd && (allB (fun i => hasRow mem i && memN i g.see) g.kill && (allB (fun r => ltAll (mem.length + g.new.length) r.idx) g.new && ltAll (mem.length + g.new.length) g.ret.idx))
/-- The operation runs, and this holds of what it gives. -/
def Runs (P : Program) (o : Oper) (a : Act) (W : World) (Φ : Value → World → Prop) : Prop :=
  (∃ v W', (execOp a.eval o).run P W = .ok (.value v) W' ∧ Φ v W') ∨
  (∃ W', (execOp a.eval o).run P W = .ok .skip W' ∧ Φ undef W') ∨
  (∃ f args, (execOp a.eval o).run P W = .ok (.enter f args) W ∧ Calls P f args W fun e W' => ∃ v, e = .returned v ∧ Φ v W')
section
variable {P : Program} {b : Base} {ds : Dr} {w w' : World} {n : Nat} {β β' : Env} {st : St} {a : Act} {g : Eff}
theorem Hd.see (h : Hd ds b n β st a w) (l : List Nat) : See b β w (rowAt st.mem) l :=
  ⟨h.cg, fun i _ r hr => h.held i r hr, fun i _ r k hr hk => h.new i r k hr hk, fun i _ j _ r r' k hi hj hk hk' => h.inj i j r r' k hi hj hk hk'⟩
theorem Hd.turned (h : Hd ds b n β st a w) {k : Nat} (hk : Turned β (rowAt st.mem) g k) : b.S k ∨ b.w.heap.size ≤ k := by
  obtain ⟨i, r, _, hr, hf⟩ := hk
  exact h.new i r k hr hf
theorem Hd.eff (h : Hd ds b n β st a w) (hok : gOk st.mem g = true) (hr : Post b β w (rowAt st.mem) st.mem.length g w' β') : Hd ds b n β' ⟨st.fr, gMem st.mem g⟩ a w' ∧ ∀ i ∈ g.ret.idx, i < (gMem st.mem g).length := by
  unfold gOk at hok
  simp only [Bool.and_eq_true] at hok
  obtain ⟨hu, hk, hn, hret⟩ := hok
  have hu := allB_spec hu
  have hn := allB_spec hn
  have at_ : ∀ (i : Nat) (r : Row), (gMem st.mem g)[i]? = some r → (i < st.mem.length ∧ (r = .d ∨ (i, r) ∈ g.upd ∨ (st.mem[i]? = some r ∧ i ∉ g.kill ∧ i ∉ g.upd.map (·.1)))) ∨ ∃ k, i = st.mem.length + k ∧ g.new[k]? = some r := by
    intro i r hi
    rw [gMem_eq] at hi
    by_cases hlt : i < st.mem.length
    · rw [List.getElem?_append_left (by rw [gUpd_length]; exact hlt), gUpd_get, Nat.zero_add] at hi
      obtain ⟨r0, h0⟩ : ∃ r0, st.mem[i]? = some r0 := ⟨_, List.getElem?_eq_getElem hlt⟩
      rw [h0, Option.map_some, Option.some.injEq] at hi
      refine .inl ⟨hlt, ?_⟩
      unfold gAt at hi
      split at hi
      · exact .inl hi.symm
      · rename_i hkk
        have hkk : i ∉ g.kill := fun hh => by rw [memN_iff.2 hh] at hkk; cases hkk
        split at hi
        · rename_i r' hr'
          subst hi
          exact .inr (.inl (findU_some hr'))
        · rename_i hr'
          subst hi
          exact .inr (.inr ⟨h0, hkk, findU_none hr'⟩)
    · rw [List.getElem?_append_right (by rw [gUpd_length]; omega), gUpd_length] at hi
      exact .inr ⟨i - st.mem.length, by omega, hi⟩
  -- a row: nothing, said anew, or as it was
  have kind : ∀ (i : Nat) (r : Row), (gMem st.mem g)[i]? = some r → r = .d ∨ g.fresh st.mem.length (i, r) ∨ (i < st.mem.length ∧ st.mem[i]? = some r ∧ i ∉ g.kill ∧ i ∉ g.upd.map (·.1)) := by
    intro i r hi
    rcases at_ i r hi with ⟨hlt, hc | hc | hc⟩ | ⟨k, rfl, hk⟩
    · exact .inl hc
    · exact .inr (.inl (.inl hc))
    · exact .inr (.inr ⟨hlt, hc⟩)
    · exact .inr (.inl (.inr ⟨k, hk, rfl⟩))
  have lt : ∀ i, i < st.mem.length → i < st.mem.length ∨ st.mem.length + g.new.length ≤ i := fun i hi => .inl hi
  have up : ∀ i, i < st.mem.length → i < (gMem st.mem g).length := fun i hi => by rw [gMem_length]; omega
  have oldFoot : ∀ (i : Nat) (r : Row), i < st.mem.length → i ∉ g.upd.map (·.1) → foot β i r = foot β' i r := fun i r hi hn => foot_congr (hr.same i (lt i hi)) (hr.sameF i (lt i hi) hn)
  have off : ∀ (i : Nat) (r : Row) (k : Nat), st.mem[i]? = some r → i ∉ g.kill → i ∉ g.upd.map (·.1) → foot β i r k → ¬ Turned β (rowAt st.mem) g k := by
    rintro i r k hi hnk hnu hf ⟨j, r1, hj, h1, hf1⟩
    have := h.inj i j r r1 k hi h1 hf hf1
    subst this
    rcases hj with hj | hj
    · exact hnu hj
    · exact hnk hj
  have mixed : ∀ (i : Nat) (r : Row) (q : Nat × Row) (k : Nat), i < st.mem.length → st.mem[i]? = some r → i ∉ g.kill → i ∉ g.upd.map (·.1) → g.fresh st.mem.length q → foot β' i r k → foot β' q.1 q.2 k → False := by
    intro i r q k hlt hi hnk hnu hq hf hf'
    rw [← oldFoot i r hlt hnu] at hf
    rcases hr.from_ q hq k hf' with hx | hx
    · exact off i r k hi hnk hnu hf hx
    · have := (h.held i r hi).lt hf
      omega
  refine ⟨⟨h.size, h.dn, fun t sv ht => ?_, fun i r hi => ?_, fun i r k hi hb => ?_, fun i j r r' k hi hj hb hb' => ?_, h.cg.seq hr.cg fun k hk => h.turned hk, fun t sv ht => ?_, fun i r hi => ?_, fun i hi => ?_⟩, ?_⟩
  · rw [h.get t sv ht, den_congr sv fun i hi => hr.same i (lt i (h.wfS t sv ht i hi))]
  · rcases kind i r hi with rfl | hq | ⟨hlt, h0, hnk, hnu⟩
    · trivial
    · exact hr.held _ hq
    · exact Held.congr (hr.same i (lt i hlt)) (hr.sameF i (lt i hlt) hnu) (fun j hj => hr.same j (lt j (h.wfR i r h0 j hj))) ((h.held i r h0).cg hr.cg fun k hk => off i r k h0 hnk hnu hk)
  · rcases kind i r hi with rfl | hq | ⟨hlt, h0, hnk, hnu⟩
    · exact hb.elim
    · rcases hr.from_ _ hq k hb with hx | hx
      · exact h.turned hx
      · exact .inr (Nat.le_trans h.cg.size hx)
    · rw [← oldFoot i r hlt hnu] at hb
      exact h.new i r k h0 hb
  · rcases kind i r hi with rfl | hq | ⟨hlt, h0, hnk, hnu⟩
    · exact hb.elim
    · rcases kind j r' hj with rfl | hq' | ⟨hlt', h0', hnk', hnu'⟩
      · exact hb'.elim
      · exact hr.apart _ _ k hq hq' hb hb'
      · exact (mixed j r' _ k hlt' h0' hnk' hnu' hq hb' hb).elim
    · rcases kind j r' hj with rfl | hq' | ⟨hlt', h0', hnk', hnu'⟩
      · exact hb'.elim
      · exact (mixed i r _ k hlt h0 hnk hnu hq' hb hb').elim
      · rw [← oldFoot i r hlt hnu] at hb
        rw [← oldFoot j r' hlt' hnu'] at hb'
        exact h.inj i j r r' k h0 h0' hb hb'
  · exact fun i hi => up i (h.wfS t sv ht i hi)
  · intro j hj
    rcases at_ i r hi with ⟨hlt, rfl | hq | ⟨h0, _⟩⟩ | ⟨k, rfl, hk'⟩
    · cases hj
    · have := hu _ hq
      simp only [Bool.and_eq_true] at this
      rw [gMem_length]
      exact ltAll_spec this.2.2 j hj
    · exact up j (h.wfR i r h0 j hj)
    · rw [gMem_length]
      exact ltAll_spec (hn r (List.mem_of_getElem? hk')) j hj
  · obtain ⟨h1, h2⟩ := h.keep i hi
    have h3 := hr.same i (lt i h2)
    exact ⟨⟨h1.1.trans h3.1, h1.2.trans h3.2⟩, up i h2⟩
  · intro i hi
    rw [gMem_length]
    exact ltAll_spec hret i hi
end

/-- Nothing is touched. -/
def Eff.pure (see : List Nat) (sv : SV) : Eff := ⟨see, [], [], [], sv⟩
section
variable {b : Base} {β : Env} {W W' : World} {row : Nat → Option Row} {m : Nat}
theorem fresh_pure {see : List Nat} {sv : SV} {q : Nat × Row} (h : (Eff.pure see sv).fresh m q) : False := by
  rcases h with h | ⟨k, h, _⟩
  · cases h
  · simp [Eff.pure] at h
theorem post_pure {see : List Nat} {sv : SV} (hc : Cg No W W') : Post b β W row m (.pure see sv) W' β :=
  ⟨fun _ _ => ⟨rfl, rfl⟩, fun _ _ _ => rfl, fun _ h => (fresh_pure h).elim, fun _ h => (fresh_pure h).elim, fun _ _ _ h => (fresh_pure h).elim, hc.mono fun _ h => h.elim⟩
theorem epost_pure {see : List Nat} {sv : SV} (hc : Cg No W W') : EPost b β W row m (.pure see sv) (sv.den β) W' := ⟨β, rfl, post_pure hc⟩
/-- A row is said anew; its blocks are what they were. -/
theorem post_upd {see : List Nat} {i : Nat} {r0 r : Row} {sv : SV} (h0 : row i = some r0) (hf : ∀ k, foot β i r k → foot β i r0 k) (hh : Held b β W' i r) (hc : Cg (foot β i r0) W W') : Post b β W row m ⟨see, [(i, r)], [], [], sv⟩ W' β := by
  have fr : ∀ q, Eff.fresh ⟨see, [(i, r)], [], [], sv⟩ m q → q = (i, r) := by
    rintro q (h | ⟨k, h, _⟩)
    · exact List.mem_singleton.1 h
    · simp at h
  refine ⟨fun _ _ => ⟨rfl, rfl⟩, fun _ _ _ => rfl, fun q h => ?_, fun q h x hx => ?_, fun q q' x h h' _ _ => by rw [fr q h, fr q' h'], hc.mono fun k hk => .inl ⟨i, r0, .inl (by simp), h0, hk⟩⟩
  · rw [fr q h]; exact hh
  · rw [fr q h] at hx; exact .inl ⟨i, r0, .inl (by simp), h0, hf x hx⟩
def Env.upd (β : Env) (m g : Nat) (v : Value) (F : Nat → Prop) : Env := ⟨fun i => if i = m then g else β.b i, fun i => if i = m then v else β.v i, fun i => if i = m then F else β.F i⟩
theorem upd_at {g i : Nat} {v : Value} {F : Nat → Prop} (h : i ≠ m) : β.at (β.upd m g v F) i := by simp [Env.at, Env.upd, h]
theorem upd_F {g i : Nat} {v : Value} {F : Nat → Prop} (h : i ≠ m) : β.F i = (β.upd m g v F).F i := by simp [Env.upd, h]
theorem upd_b {g : Nat} {v : Value} {F : Nat → Prop} : (β.upd m g v F).b m = g := by simp [Env.upd]
theorem upd_v {g : Nat} {v : Value} {F : Nat → Prop} : (β.upd m g v F).v m = v := by simp [Env.upd]
theorem upd_Fm {g : Nat} {v : Value} {F : Nat → Prop} : (β.upd m g v F).F m = F := by simp [Env.upd]
/-- A row that is new, where some rows are not known any more. -/
theorem post_new {see kill : List Nat} {r : Row} {sv : SV} {g : Nat} {v : Value} {F : Nat → Prop} (hh : Held b (β.upd m g v F) W' m r) (hf : ∀ x, foot (β.upd m g v F) m r x → Turned β row ⟨see, [], kill, [r], sv⟩ x ∨ W.heap.size ≤ x) (hc : Cg (Turned β row ⟨see, [], kill, [r], sv⟩) W W') : Post b β W row m ⟨see, [], kill, [r], sv⟩ W' (β.upd m g v F) := by
  have fr : ∀ q, Eff.fresh ⟨see, [], kill, [r], sv⟩ m q → q = (m, r) := by
    rintro ⟨i, q⟩ (h | ⟨k, h, hi⟩)
    · cases h
    · cases k with
      | zero => simp at h hi; rw [h, hi]
      | succ k => simp at h
  have ne : ∀ i, (i < m ∨ m + [r].length ≤ i) → i ≠ m := fun i hi => by simp at hi; omega
  refine ⟨fun i hi => upd_at (ne i hi), fun i hi _ => upd_F (ne i hi), fun q h => ?_, fun q h x hx => ?_, fun q q' x h h' _ _ => by rw [fr q h, fr q' h'], hc⟩
  · rw [fr q h]; exact hh
  · rw [fr q h] at hx; exact hf x hx
end
end Ax
end Go.Proofs.YtcpbbgkeigbndaaGreat

/- A reckoner of calls, part 3: what operations on memory come to. Proved over any program. No condition of its own. -/
namespace Go.Proofs.YtcpbbgkeigbndaaGreat
open Go Go.RowKit Go.Lib Go.Sort

theorem Blk.setCells {b : Nat} {t : TypeId} : ∀ (vs : List Value) (off : Nat) {cs : List Value} {W : World}, Blk W b t cs → off + vs.length ≤ cs.length → Blk (W.setCells b off vs) b t (cs.take off ++ (vs ++ cs.drop (off + vs.length)))
  | [], off, cs, W, h, _ => by simpa [World.setCells] using h
  | v :: r, off, cs, W, h, hl => by
    rw [World.setCells]
    simp only [List.length_cons] at hl
    have := Blk.setCells r (off + 1) (h.set_ off v) (by simp; omega)
    have e : (cs.set off v).take (off + 1) ++ (r ++ (cs.set off v).drop (off + 1 + r.length)) = cs.take off ++ ((v :: r) ++ cs.drop (off + (v :: r).length)) := by
      rw [List.take_succ_eq_append_getElem (by simp; omega), List.drop_set_of_lt (by omega), List.getElem_set_self, List.take_set_of_le (by omega)]
      simp only [List.append_assoc, List.cons_append, List.nil_append, List.length_cons]
      rw [show off + (r.length + 1) = off + 1 + r.length by omega]
    rwa [e] at this
theorem Chg.setCells_ {S : List Nat} {a : World} (b : Nat) (hb : b ∈ S ∨ a.heap.size ≤ b) : ∀ (vs : List Value) (off : Nat) {W : World}, Chg S a W → Chg S a (W.setCells b off vs)
  | [], _, _, h => h
  | v :: r, off, _, h => Chg.setCells_ b hb r (off + 1) (h.setCell (p := ⟨b, off, none⟩) hb v)
theorem storeVar_cells {P : Program} {W : World} (b off : Nat) (t : TypeId) (v : Value) (ht : W.there b off v.cells.size) (hi : (P.info? t).map (·.size) = some v.cells.size) (h1 : ∀ u ∈ v.cells.toList, u.oneCell' = true) :
    (storeVar t ⟨b, off, none⟩ v).run P W = .ok () (W.setCells b off v.cells.toList) := by
  have := run_storeCells_cells (P := P) b off v.cells.toList 0 W (fun j hj => by simpa using (ht j (by simpa using hj)).1) (fun j hj => by simpa using (ht j (by simpa using hj)).2) h1
  cases hq : P.info? t with
  | none => simp [hq] at hi
  | some i =>
    have hs : v.cells.size = i.size := by simp [hq] at hi; omega
    simp only [Nat.add_zero] at this
    simp [storeVar, sizeOf, typeInfo, hq, hs, this]
theorem Blk_there {W : World} {b t : Nat} {cs : List Value} (hb : Blk W b t cs) {off n : Nat} (h : off + n ≤ cs.length) : W.there b off n := fun j hj =>
  ⟨by rw [hb.cell, List.getElem?_eq_getElem (by omega)]; rfl, hb.frozen _⟩

namespace Ax
inductive Hint where
  /-- The value, said anew. -/
  | is (v : Value)
  /-- The value, in every world that comes of the door's. -/
  | any (v : Value)
  /-- The value, in every world. -/
  | bin (v : Value)
  /-- What a cell at a place that is a letter holds. -/
  | ld (v : Value)
  /-- The cells behind a store at a place that is a letter. -/
  | st (cs : List Value)
  /-- An index whose bounds are to be shown. -/
  | ix
  /-- A nil slice, or a literal, becomes a slice of the call's own. -/
  | own (t : TypeId) (size : Nat)
  /-- From where, to where a slice is cut. -/
  | cut (lo hi : Nat)
  /-- From where a slice is cut, how many elements. -/
  | win (lo n : Nat)
  /-- A slice that is made: how many elements. -/
  | mk (n : Nat)
  /-- What the operation does, to be shown. -/
  | eff (g : Eff)
  /-- A variable that is made, or a literal: which cells, nil slices of elements of these types, become slices of the call's own. -/
  | nils (l : List (Nat × TypeId × Nat))
  /-- Slices that came in, at some cells of the value: rows to be read from here on (elements' cells, how many, their cells). -/
  | opn (l : List (Nat × Nat × Nat × List Value))
  /-- The value is a slice that came in: a row to be read from here on. -/
  | op1 (size n : Nat) (xs : List Value)
  /-- The value, said anew, whatever the operation is. -/
  | eq (v : Value)
  /-- A call that is gone through, by the k-th of the calls' own hints. -/
  | inl (k : Nat)
  /-- Where ways meet; a region in parts. -/
  | join (fr : List (Nat × SV)) (mem : List Row)
  | cuts (l : List (Nat × List (Nat × SV) × List Row))
def hint : List (Nat × Hint) → Option Tmp → Option Hint
  | _, none => none
  | [], _ => none
  | (k, v) :: r, some t => match Nat.beq k t with
    | true => some v
    | false => hint r (some t)
def hint2 (H : List (Nat × Hint)) : Operand → Option Hint
  | .tmp x => hint H (some (100000 + x))
  | _ => none
abbrev OR := Option (Eff × Option Prop)
def pureR (sv : SV) (ob : Option Prop) : OR := some (.pure [] sv, ob)
def seeR (see : List Nat) (sv : SV) (ob : Option Prop) : OR := some (.pure see sv, ob)
def andO : Option Prop → Option Prop → Option Prop
  | none, q => q
  | p, none => p
  | some p, some q => some (p ∧ q)
theorem andO_l {p q : Option Prop} (h : ∀ x, andO p q = some x → x) : ∀ x, p = some x → x := by
  intro x hx
  subst hx
  cases q with
  | none => exact h _ rfl
  | some y => exact (h _ rfl).1
theorem andO_r {p q : Option Prop} (h : ∀ x, andO p q = some x → x) : ∀ x, q = some x → x := by
  intro x hx
  subst hx
  cases p with
  | none => exact h _ rfl
  | some y => exact (h _ rfl).2
def pureRun {α : Type} (P : Program) : Sem α → Option α
  | .pure a => some a
  | .program k => pureRun P (k P)
  | .mark _ k => pureRun P k
  | _ => none
theorem pureRun_ok {α : Type} {P : Program} {s : Sem α} : ∀ {x : α}, pureRun P s = some x → ∀ w, s.run P w = .ok x w := by
  induction s with
  | pure a => intro x h w; simp only [pureRun, Option.some.injEq] at h; subst h; rfl
  | program k ih => intro x h w; simp only [pureRun] at h; simp only [Sem.run]; exact ih P h w
  | mark m k ih => intro x h w; simp only [pureRun] at h; simp only [Sem.run]; exact ih h w
  | _ => intro x h; simp [pureRun] at h
def allV : List SV → Option (List Value)
  | [] => some []
  | s :: l => match s with
    | .v x => match allV l with
      | some r => some (x :: r)
      | none => none
    | _ => none
theorem allV_den {β : Env} : ∀ {l : List SV} {vs : List Value}, allV l = some vs → SV.dens β l = vs
  | [], vs, h => by cases h; rfl
  | s :: l, vs, h => by
    unfold allV at h
    split at h
    · split at h
      · rename_i r hr
        cases h
        rw [SV.dens, allV_den hr]
        rfl
      · cases h
    · cases h
def mkAg (l : List SV) : SV := match allV l with
  | some vs => .v (.agg vs.toArray)
  | none => .ag l
theorem mkAg_den {β : Env} {l : List SV} : (mkAg l).den β = .agg (SV.dens β l).toArray := by
  unfold mkAg
  split
  · rename_i vs h; rw [allV_den h]; rfl
  · rfl
def mkCs (l : List SV) : Cs := match allV l with
  | some vs => .vs vs
  | none => .ss l
theorem mkCs_den {β : Env} {l : List SV} : (mkCs l).den β = SV.dens β l := by
  unfold mkCs
  split
  · rename_i vs h; rw [allV_den h]; rfl
  · rfl
def svCells : SV → Option (List SV)
  | .v x => some (x.cells.toList.map .v)
  | .ag l => some l
  | .tp _ => none
  | .gone => none
  | s => some [s]
theorem oneV_cells {v : Value} : (oneV v).cells = #[oneV v] ∧ (oneV v).oneCell' = true := by cases v <;> exact ⟨rfl, rfl⟩
def SV.oneB : SV → Bool
  | .v x => x.oneCell'
  | .ag _ => false
  | .tp _ => false
  | .gone => false
  | _ => true
theorem oneB_cells {β : Env} {s : SV} (h : s.oneB = true) : (s.den β).cells = #[s.den β] ∧ (s.den β).oneCell' = true := by
  cases s with
  | v x => exact ⟨(by cases x <;> first | rfl | (cases h; done)), h⟩
  | ag _ => cases h
  | tp _ => cases h
  | gone => cases h
  | o i => exact oneV_cells
  | sub i off len cut =>
    simp only [SV.den]
    cases hv : β.v i <;> simp only [subV] <;> first | exact ⟨rfl, rfl⟩ | exact oneV_cells
  | e i off =>
    simp only [SV.den]
    cases hv : β.v i <;> simp only [elV] <;> first | exact ⟨rfl, rfl⟩ | exact oneV_cells
  | _ => exact ⟨rfl, rfl⟩
theorem svCells_den {β : Env} {s : SV} {l : List SV} (h : svCells s = some l) : (s.den β).cells.toList = SV.dens β l := by
  cases s with
  | v x => cases h; rw [dens_v]; rfl
  | ag l' => cases h; rfl
  | tp _ => cases h
  | gone => cases h
  | _ =>
    cases h
    rw [(oneB_cells (β := β) (by rfl)).1]
    rfl
theorem dens_length {β : Env} (l : List SV) : (SV.dens β l).length = l.length := by rw [dens_map, List.length_map]
theorem dens_append {β : Env} (l r : List SV) : SV.dens β (l ++ r) = SV.dens β l ++ SV.dens β r := by rw [dens_map, dens_map, dens_map, List.map_append]
theorem dens_take {β : Env} (n : Nat) (l : List SV) : SV.dens β (l.take n) = (SV.dens β l).take n := by rw [dens_map, dens_map, List.map_take]
theorem dens_drop {β : Env} (n : Nat) (l : List SV) : SV.dens β (l.drop n) = (SV.dens β l).drop n := by rw [dens_map, dens_map, List.map_drop]
theorem dens_get {β : Env} (l : List SV) (i : Nat) : (SV.dens β l)[i]? = l[i]?.map (SV.den β) := by rw [dens_map, List.getElem?_map]

/-- How many cells a value of a type has, whether it is a row of cells. -/
def shapeOf (P : Program) (t : TypeId) : Option (Bool × Nat) := match P.underlying t, P.info? t with
  | some d, some inf => some (d.isRow, inf.size)
  | _, _ => none
/-- What is read out of cells. -/
def readCs (row : Bool) (size off : Nat) (l : List SV) : Option SV := match row with
  | true => match Nat.ble (off + size) l.length with
    | true => some (mkAg ((l.drop off).take size))
    | false => none
  | false => l[off]?
def readVs (row : Bool) (size off : Nat) (l : List Value) : Option Value := match row with
  | true => match Nat.ble (off + size) l.length with
    | true => some (.agg ((l.drop off).take size).toArray)
    | false => none
  | false => l[off]?
/-- What is said of a value that is read at a place that is a letter. -/
def readOb (row : Bool) (size off : Nat) (l : List Value) (v : Value) : Option Prop := match row with
  | true => match v with
    | .agg arr => some (arr.toList.length = size ∧ (l.drop off).take size = arr.toList)
    | _ => none
  | false => some (l[off]? = some v)
def loadRow (P : Program) (t : TypeId) (i : Nat) (r : Row) (off : Nat) (h : Option Hint) : OR := match shapeOf P t with
  | none => none
  | some (row, size) => match r with
    | .c _ _ cs => match h with
      | some (.ld v) => match cs with
        | .vs l => match readOb row size off l v with
          | some p => seeR [i] (.v v) (some p)
          | none => none
        | .ss _ => none
      | _ => match readCs row size off cs.svs with
        | some sv => seeR [i] sv none
        | none => none
    | .k _ cs => match h with
      | some (.ld v) => match cs with
        | .vs l => match readOb row size off l v with
          | some p => seeR [i] (.v v) (some p)
          | none => none
        | .ss _ => none
      | _ => match readCs row size off cs.svs with
        | some sv => seeR [i] sv none
        | none => none
    | .s _ _ _ xs => match Nat.blt 0 size with
      | true => match h with
        | some (.ld v) => match readOb row size off xs v with
          | some p => seeR [i] (.v v) (some p)
          | none => none
        | _ => match readVs row size off xs with
          | some v => seeR [i] (.v v) none
          | none => none
      | false => none
    | .r _ _ xs => match Nat.blt 0 size with
      | true => match h with
        | some (.ld v) => match readOb row size off xs v with
          | some p => seeR [i] (.v v) (some p)
          | none => none
        | _ => match readVs row size off xs with
          | some v => seeR [i] (.v v) none
          | none => none
      | false => none
    | _ => none
def isCells : Row → Bool
  | .c _ _ _ => true
  | .k _ _ => true
  | _ => false
/-- A value lies at a place. -/
def LdAt (W : World) (g off : Nat) (rw : Bool) (size : Nat) (v : Value) : Prop := match rw with
  | true => ∃ cs : List Value, v = .agg cs.toArray ∧ cs.length = size ∧ W.rangeAt g off cs
  | false => W.cell? ⟨g, off, none⟩ = some v
section
variable {P : Program} {b : Base} {β : Env} {W : World} {a : Act} {o : Oper} {row : Nat → Option Row} {m : Nat} {g : Eff} {ob : Option Prop}
theorem runs_pure {sv : SV} {see : List Nat} (h : (execOp a.eval o).run P W = .ok (.value (sv.den β)) W) : Runs P o a W (EPost b β W row m (.pure see sv)) :=
  .inl ⟨_, _, h, epost_pure (Cg.refl _ _)⟩
theorem run_sure {b off : Nat} {t : TypeId} : (Instr.loadAt t (.pointer (some ⟨b, off, none⟩))).run P W = (loadVar t ⟨b, off, none⟩).run P W := by
  simp [Instr.loadAt, Instr.sureAddr]
theorem exec_row {t : TypeId} {x : Operand} {b off : Nat} {d : TypeDesc} {inf : TypeInfo} {cs : List Value} (ho : o.op = .load t x) (hx : a.eval x = .pointer (some ⟨b, off, none⟩)) (hu : P.underlying t = some d) (hi : P.info? t = some inf) (hd : d.isRow = true) (hl : inf.size = cs.length) (hc : W.rangeAt b off cs) :
    (execOp a.eval o).run P W = .ok (.value (.agg cs.toArray)) W := by
  have := run_loadAt_mid (P := P) W b off t cs d hc hu hd (by rw [hi]; simpa using hl)
  unfold execOp
  simp only [ho, hx, Sem.run_bind, this]
  rfl
theorem exec_one {t : TypeId} {x : Operand} {b off : Nat} {d : TypeDesc} {v : Value} (ho : o.op = .load t x) (hx : a.eval x = .pointer (some ⟨b, off, none⟩)) (hu : P.underlying t = some d) (hd : d.isRow = false) (hc : W.cell? ⟨b, off, none⟩ = some v) :
    (execOp a.eval o).run P W = .ok (.value v) W := by
  have hagg : (isAgg t).run P W = .ok false W := by
    unfold isAgg
    rw [Sem.run_bind, run_underlying hu W]
    cases d <;> simp_all
  unfold execOp
  simp only [ho, hx, Sem.run_bind, run_sure]
  simp [loadVar, Sem.run_bind, hagg, load, Sem.run, hc]
/-- A load, where the cells from a place on are known. -/
theorem exec_load {t : TypeId} {x : Operand} {g off : Nat} {rw : Bool} {size : Nat} {v : Value} (ho : o.op = .load t x) (hx : a.eval x = .pointer (some ⟨g, off, none⟩)) (hs : shapeOf P t = some (rw, size)) (hv : LdAt W g off rw size v) : (execOp a.eval o).run P W = .ok (.value v) W := by
  unfold shapeOf at hs
  split at hs
  · rename_i d inf hu hi
    injection hs with hs
    injection hs with h1 h2
    subst h1; subst h2
    unfold LdAt at hv
    cases hd : d.isRow with
    | true =>
      rw [hd] at hv
      obtain ⟨cs, rfl, hl, hc⟩ := hv
      exact exec_row ho hx hu hi hd hl.symm hc
    | false =>
      rw [hd] at hv
      exact exec_one ho hx hu hd hv
  · cases hs
theorem readOb_ok {rw : Bool} {size off g o' : Nat} {l : List Value} {v : Value} {p : Prop} (h : readOb rw size off l v = some p) (hp : p) (hc : ∀ (j : Nat) (u : Value), l[j]? = some u → W.cell? ⟨g, o' + j, none⟩ = some u) : LdAt W g (o' + off) rw size v := by
  unfold readOb at h
  cases rw <;> simp only at h
  rotate_left
  · split at h
    · rename_i arr
      cases h
      refine ⟨arr.toList, rfl, hp.1, fun j u hu => ?_⟩
      rw [Nat.add_assoc]
      refine hc _ _ ?_
      rw [← hp.2, List.getElem?_take] at hu
      split at hu
      · rw [List.getElem?_drop] at hu; exact hu
      · cases hu
    · cases h
  · cases h
    exact hc _ _ hp
theorem readVs_ok {rw : Bool} {size off g o' : Nat} {l : List Value} {v : Value} (h : readVs rw size off l = some v) (hc : ∀ (j : Nat) (u : Value), l[j]? = some u → W.cell? ⟨g, o' + j, none⟩ = some u) : LdAt W g (o' + off) rw size v := by
  unfold readVs at h
  cases rw <;> simp only at h
  rotate_left
  · split at h
    · rename_i hb
      have hb := Nat.le_of_ble_eq_true hb
      cases h
      refine ⟨_, rfl, by rw [List.length_take, List.length_drop]; omega, fun j u hu => ?_⟩
      rw [Nat.add_assoc]
      refine hc _ _ ?_
      rw [List.getElem?_take] at hu
      split at hu
      · rw [List.getElem?_drop] at hu; exact hu
      · cases hu
    · cases h
  · exact hc _ _ h
theorem readCs_ok {rw : Bool} {size off g : Nat} {l : List SV} {sv : SV} (h : readCs rw size off l = some sv) (hc : ∀ (j : Nat) (u : Value), (SV.dens β l)[j]? = some u → W.cell? ⟨g, j, none⟩ = some u) : LdAt W g off rw size (sv.den β) := by
  unfold readCs at h
  cases rw <;> simp only at h
  rotate_left
  · split at h
    · rename_i hb
      have hb := Nat.le_of_ble_eq_true hb
      cases h
      refine ⟨_, mkAg_den, by rw [dens_take, dens_drop, List.length_take, List.length_drop, dens_length]; omega, fun j u hu => ?_⟩
      refine hc _ _ ?_
      rw [dens_take, dens_drop, List.getElem?_take] at hu
      split at hu
      · rw [List.getElem?_drop] at hu; exact hu
      · cases hu
    · cases h
  · exact hc _ _ (by rw [dens_get, h]; rfl)
theorem elV_slice {A : Option Addr} {n c off : Nat} : elV off (.slice A n c) = .pointer (A.map (·.add off)) := rfl
/-- Where the cells of a slice lie. -/
theorem rd_at {size n : Nat} {s : Value} {xs : List Value} (h : Rd W size s n xs) {x : Value} (hx : x ∈ xs) : ∃ g o c, s = .slice (some ⟨g, o, none⟩) n c ∧ g < W.heap.size ∧ ∀ (j : Nat) (u : Value), xs[j]? = some u → W.cell? ⟨g, o + j, none⟩ = some u := by
  obtain ⟨hl, _, A, c, rfl, _, h3⟩ := h
  have hn : 0 < n := by
    rcases Nat.eq_zero_or_pos n with h0 | h0
    · subst h0
      rw [Nat.zero_mul] at hl
      rw [List.eq_nil_of_length_eq_zero hl] at hx
      cases hx
    · exact h0
  obtain ⟨g, o, rfl, hg, hc⟩ := h3 hn
  exact ⟨g, o, c, rfl, hg, hc⟩
theorem load_rd {t : TypeId} {x : Operand} {i off size n : Nat} {xs : List Value} {rw : Bool} {sz : Nat} {v : Value} (ho : o.op = .load t x) (hx : a.eval x = elV off (β.v i)) (hs : shapeOf P t = some (rw, sz)) (h0 : 0 < sz) (hr : Rd W size (β.v i) n xs)
    (hv : (∃ p, readOb rw sz off xs v = some p ∧ p) ∨ readVs rw sz off xs = some v) : (execOp a.eval o).run P W = .ok (.value v) W := by
  have hne : ∃ x, x ∈ xs := by
    cases xs with
    | cons x _ => exact ⟨x, by simp⟩
    | nil =>
      exfalso
      rcases hv with ⟨p, h1, h2⟩ | h1
      · unfold readOb at h1
        split at h1
        · split at h1
          · cases h1
            obtain ⟨h3, h4⟩ := h2
            rw [List.drop_nil, List.take_nil] at h4
            rw [← h4] at h3
            simp at h3
            omega
          · cases h1
        · cases h1; simp at h2
      · unfold readVs at h1
        split at h1
        · split at h1
          · rename_i hb
            have := Nat.le_of_ble_eq_true hb
            simp at this
            omega
          · cases h1
        · simp at h1
  obtain ⟨y, hy⟩ := hne
  obtain ⟨g, o', c, hvs, _, hc⟩ := rd_at hr hy
  rw [hvs, elV_slice, Option.map_some, Addr.add_mid] at hx
  refine exec_load ho hx hs ?_
  rcases hv with ⟨p, h1, h2⟩ | h1
  · exact readOb_ok h1 h2 hc
  · exact readVs_ok h1 hc
theorem loadRow_ok {t : TypeId} {x : Operand} {i off : Nat} {r : Row} {h : Option Hint} {pt : SV} (ho : o.op = .load t x) (hx : a.eval x = pt.den β) (hp : pt = .p i off ∧ isCells r = true ∨ pt = .e i off ∧ isCells r = false) (hrow : row i = some r) (hr : loadRow P t i r off h = some (g, ob)) (hob : ∀ p, ob = some p → p) (hs : See b β W row g.see) : Runs P o a W (EPost b β W row m g) := by
  unfold loadRow at hr
  split at hr
  · cases hr
  · rename_i rw size hsh
    split at hr
    · rename_i gg ty cs
      rcases hp with ⟨rfl, _⟩ | ⟨_, hf⟩
      · have fin : ∀ {sv : SV} {see : List Nat} {ob' : Option Prop}, g = .pure see sv → i ∈ see → LdAt W (β.b i) off rw size (sv.den β) → Runs P o a W (EPost b β W row m g) := by
          rintro sv see _ rfl _ hv
          exact runs_pure (exec_load ho hx hsh hv)
        split at hr
        · split at hr
          · split at hr
            · rename_i p hpp
              cases hr
              have hb := hs.held i (by simp [Eff.pure]) _ hrow
              have := readOb_ok (o' := 0) (g := β.b i) hpp (hob _ rfl) (W := W) fun j u hu => by rw [Nat.zero_add]; exact hb.2.cell_of hu
              rw [Nat.zero_add] at this
              exact fin (ob' := none) rfl (by simp) this
            · cases hr
          · cases hr
        · split at hr
          · rename_i sv hsv
            cases hr
            have hb := hs.held i (by simp [Eff.pure]) _ hrow
            exact fin (ob' := none) rfl (by simp) (readCs_ok hsv fun j u hu => hb.2.cell_of (by rw [← svs_den]; exact hu))
          · cases hr
      · cases hf
    · rename_i ty cs
      rcases hp with ⟨rfl, _⟩ | ⟨_, hf⟩
      · have fin : ∀ {sv : SV} {see : List Nat} {ob' : Option Prop}, g = .pure see sv → i ∈ see → LdAt W (β.b i) off rw size (sv.den β) → Runs P o a W (EPost b β W row m g) := by
          rintro sv see _ rfl _ hv
          exact runs_pure (exec_load ho hx hsh hv)
        split at hr
        · split at hr
          · split at hr
            · rename_i p hpp
              cases hr
              have hb := hs.held i (by simp [Eff.pure]) _ hrow W hs.cg
              have := readOb_ok (o' := 0) (g := β.b i) hpp (hob _ rfl) (W := W) fun j u hu => by rw [Nat.zero_add]; exact hb.cell_of hu
              rw [Nat.zero_add] at this
              exact fin (ob' := none) rfl (by simp) this
            · cases hr
          · cases hr
        · split at hr
          · rename_i sv hsv
            cases hr
            have hb := hs.held i (by simp [Eff.pure]) _ hrow W hs.cg
            exact fin (ob' := none) rfl (by simp) (readCs_ok hsv fun j u hu => hb.cell_of (by rw [← svs_den]; exact hu))
          · cases hr
      · cases hf
    · rename_i ty sz n xs
      rcases hp with ⟨_, hf⟩ | ⟨rfl, _⟩
      · cases hf
      · split at hr
        · rename_i hpos
          have hpos : 0 < size := Nat.le_of_ble_eq_true hpos
          split at hr
          · split at hr
            · rename_i p hpp
              cases hr
              have hb := hs.held i (by simp [Eff.pure]) _ hrow
              exact runs_pure (load_rd ho hx hsh hpos (Rd.of_own hb.1 hb.2.2) (.inl ⟨p, hpp, hob _ rfl⟩))
            · cases hr
          · split at hr
            · rename_i v hv
              cases hr
              have hb := hs.held i (by simp [Eff.pure]) _ hrow
              exact runs_pure (load_rd ho hx hsh hpos (Rd.of_own hb.1 hb.2.2) (.inr hv))
            · cases hr
        · cases hr
    · rename_i sz n xs
      rcases hp with ⟨_, hf⟩ | ⟨rfl, _⟩
      · cases hf
      · split at hr
        · rename_i hpos
          have hpos : 0 < size := Nat.le_of_ble_eq_true hpos
          split at hr
          · split at hr
            · rename_i p hpp
              cases hr
              have hb := hs.held i (by simp [Eff.pure]) _ hrow
              exact runs_pure (load_rd ho hx hsh hpos (hb W hs.cg) (.inl ⟨p, hpp, hob _ rfl⟩))
            · cases hr
          · split at hr
            · rename_i v hv
              cases hr
              have hb := hs.held i (by simp [Eff.pure]) _ hrow
              exact runs_pure (load_rd ho hx hsh hpos (hb W hs.cg) (.inr hv))
            · cases hr
        · cases hr
    · cases hr
end
end Ax
end Go.Proofs.YtcpbbgkeigbndaaGreat
