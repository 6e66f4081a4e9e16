/- Words for memory, proved over any program: blocks that are known whole (Blk), worlds that differ at a few blocks alone (Chg), slices that own their cells from an offset on (Own), and what append, copy, clear and make do to them. No condition of its own. -/
import Derived.WalkKit
import Derived.WalkSpells
import Derived.WalkLawsBesides
import Derived.ArgAppend
import Derived.Laws.CopyOwn
import Derived.Laws.OwnMore
import Derived.Deep.Draws
import Derived.Deep.RegionLaw
import Derived.Lib.AppendZeros
import Derived.Lib.Overlaps
import Derived.Lib.QuietBelow
import Derived.StillTail
import Derived.Deep.QuietTactic
import Derived.BigQuiet
import Derived.RegionTactic
import Derived.BigRegion
import Derived.Deep.LoopGhost
import Derived.Deep.MidRow
import Derived.Scope
import Derived.Great.BuildSlice
import Derived.Laws.Tables
import Derived.Laws.BytesString
namespace Go.Proofs.YtcpbbgkeigbndaaGreat
open Go Go.RowKit

/-- A fact laid behind a name: 'have H := hid h; clear h'. -/
theorem hid {p : Prop} (h : p) : Hid p := h

/-- Block g is just these cells of element type t, none frozen. -/
def Blk (w : World) (g : Nat) (t : TypeId) (cs : List Value) : Prop := w.heap[g]? = some (.cells cs.toArray t (0, 0))

section
variable {w w' : World} {g : Nat} {t : TypeId} {cs : List Value}
theorem Blk.lt (h : Blk w g t cs) : g < w.heap.size := by
  rcases Nat.lt_or_ge g w.heap.size with hlt | hge
  · exact hlt
  · unfold Blk at h; rw [Array.getElem?_eq_none hge] at h; cases h
theorem Blk.cell (h : Blk w g t cs) (i : Nat) : w.cell? ⟨g, i, none⟩ = cs[i]? := by
  have := cell_of_row w g i cs.toArray t (0, 0) h
  simpa using this
theorem Blk.cell_of (h : Blk w g t cs) {i : Nat} {v : Value} (hv : cs[i]? = some v) : w.cell? ⟨g, i, none⟩ = some v := (h.cell i).trans hv
theorem Blk.adds (h : Blk w g t cs) (o : Nat) : ∀ (j : Nat) (u : Value), (cs.drop o)[j]? = some u → w.cell? ((⟨g, o, none⟩ : Addr).add j) = some u := fun j u hu => by
  rw [Addr.add_lit]; exact h.cell_of (by rw [← hu, List.getElem?_drop])
theorem Blk.adds0 (h : Blk w g t cs) : ∀ (j : Nat) (u : Value), cs[j]? = some u → w.cell? ((⟨g, 0, none⟩ : Addr).add j) = some u := fun j u hu => h.adds 0 j u (by simpa using hu)
theorem Blk.frozen (h : Blk w g t cs) (i : Nat) : w.frozen? ⟨g, i, none⟩ = false := by
  unfold Blk at h
  simp [World.frozen?, h]
theorem Blk.shape (h : Blk w g t cs) : w.shape? g = some (t, cs.length) := by
  unfold Blk at h
  simp [World.shape?, h]
theorem Blk.new (w : World) (t : TypeId) (cs : Array Value) : Blk (w.alloc (.cells cs t)) w.heap.size t cs.toList := by
  have := heap_alloc_new w (.cells cs t)
  unfold Blk
  simpa using this
theorem Blk.drewN (h : Blk w g t cs) (n : Nat) : Blk (w.drewN n) g t cs := h
theorem Blk.alloc (h : Blk w g t cs) (o : Obj) : Blk (w.alloc o) g t cs := (Below.heap_alloc w o g h.lt).trans h
theorem Blk.set_ (h : Blk w g t cs) (i : Nat) (u : Value) : Blk (w.setCell ⟨g, i, none⟩ u) g t (cs.set i u) := by
  unfold Blk at h ⊢
  simp [World.setCell, Array.getElem?_modify, h]
theorem Blk.far (h : Blk w g t cs) {p : Addr} (hp : g ≠ p.block) (u : Value) : Blk (w.setCell p u) g t cs := (Below.heap_setCell w p u g hp).trans h
theorem Blk.row (h : Blk w g t cs) (L : List Value) : Blk (w.setRow g L.toArray) g t L := setRow_heap w g _ _ t _ h
theorem Blk.ne_ {g' : Nat} {t' : TypeId} {cs' : List Value} (h : Blk w g t cs) (h' : Blk w g' t' cs') (hne : t ≠ t') : g ≠ g' := by
  rintro rfl
  unfold Blk at h h'
  rw [h] at h'
  injection h' with h'
  injection h' with _ ht
  exact hne ht
theorem Blk.unique {t' : TypeId} {cs' : List Value} (h : Blk w g t cs) (h' : Blk w g t' cs') : cs = cs' := by
  unfold Blk at h h'
  rw [h] at h'
  injection h' with h'
  injection h' with hc _
  simpa using hc
end

/-- w' is w but for the blocks of S and new blocks. -/
structure Chg (S : List Nat) (w w' : World) : Prop where
  os : w'.os = w.os
  tape : w'.tape = w.tape
  output : w'.output = w.output
  size : w.heap.size ≤ w'.heap.size
  block : ∀ k, k < w.heap.size → k ∉ S → w'.heap[k]? = w.heap[k]?

section
variable {S S' : List Nat} {a w w' : World}
theorem Chg.refl (S : List Nat) (w : World) : Chg S w w := ⟨rfl, rfl, rfl, Nat.le_refl _, fun _ _ _ => rfl⟩
theorem Chg.trans {b c : World} (h : Chg S a b) (k : Chg S b c) : Chg S a c :=
  ⟨k.os.trans h.os, k.tape.trans h.tape, k.output.trans h.output, Nat.le_trans h.size k.size, fun i hi hS => (k.block i (Nat.lt_of_lt_of_le hi h.size) hS).trans (h.block i hi hS)⟩
theorem Chg.mono (h : Chg S w w') (hS : ∀ k ∈ S, k ∈ S' ∨ w.heap.size ≤ k) : Chg S' w w' :=
  ⟨h.os, h.tape, h.output, h.size, fun k hk hn => h.block k hk (fun hm => by rcases hS k hm with h1 | h1; exact hn h1; omega)⟩
/-- Two steps, the second of which may touch what the first has made. -/
theorem Chg.seq {b c : World} {T : List Nat} (h : Chg S a b) (k : Chg T b c) (hT : ∀ x ∈ T, x ∈ S ∨ a.heap.size ≤ x) : Chg S a c :=
  ⟨k.os.trans h.os, k.tape.trans h.tape, k.output.trans h.output, Nat.le_trans h.size k.size, fun i hi hS => (k.block i (Nat.lt_of_lt_of_le hi h.size) (fun hm => by rcases hT i hm with h1 | h1; exact hS h1; omega)).trans (h.block i hi hS)⟩
theorem Chg.drewN (h : Chg S a w) (n : Nat) : Chg S a (w.drewN n) := ⟨h.os, h.tape, h.output, h.size, h.block⟩
theorem Chg.drew (h : Chg S a w) : Chg S a w.drew := ⟨h.os, h.tape, h.output, h.size, h.block⟩
theorem Chg.alloc (h : Chg S a w) (o : Obj) : Chg S a (w.alloc o) :=
  ⟨h.os, h.tape, h.output, by have := h.size; simp; omega, fun k hk hS => (Below.heap_alloc w o k (by have := h.size; omega)).trans (h.block k hk hS)⟩
theorem Chg.setCell (h : Chg S a w) {p : Addr} (hp : p.block ∈ S ∨ a.heap.size ≤ p.block) (u : Value) : Chg S a (w.setCell p u) :=
  ⟨h.os, h.tape, h.output, by have := h.size; simp [World.setCell]; omega, fun k hk hS => (Below.heap_setCell w p u k (by rintro rfl; rcases hp with h1 | h1; exact hS h1; omega)).trans (h.block k hk hS)⟩
theorem Chg.setRow (h : Chg S a w) {g : Nat} (hp : g ∈ S ∨ a.heap.size ≤ g) (cs : Array Value) : Chg S a (w.setRow g cs) :=
  ⟨h.os, h.tape, h.output, by have := h.size; simp; omega, fun k hk hS => (setRow_other w g k cs (by rintro rfl; rcases hp with h1 | h1; exact hS h1; omega)).trans (h.block k hk hS)⟩
theorem Chg.of_grown {row : Option Nat} (h : w.grownBy w' row) : Chg row.toList w w' :=
  ⟨h.os, h.tape, h.output, h.size, fun k hk hS => h.block k hk (fun e => hS (by rw [← e]; simp))⟩
theorem Chg.below {B : Nat} (h : Chg S w w') (hS : ∀ k ∈ S, B ≤ k) (hB : B ≤ w.heap.size) : Below B w w' :=
  ⟨h.os, h.tape, h.output, h.size, fun k hk => h.block k (by omega) (fun hm => by have := hS k hm; omega)⟩
theorem Chg.of_below (h : Below w.heap.size w w') : Chg [] w w' := ⟨h.os, h.tape, h.output, h.size, fun k hk _ => h.block k hk⟩
theorem Blk.chg {g : Nat} {t : TypeId} {cs : List Value} (h : Blk w g t cs) (hc : Chg S w w') (hg : g ∉ S) : Blk w' g t cs := (hc.block g h.lt hg).trans h
theorem Blk.below {B g : Nat} {t : TypeId} {cs : List Value} (h : Blk w g t cs) (hb : Below B w w') (hg : g < B) : Blk w' g t cs := (hb.block g hg).trans h
theorem Chg.cell (hc : Chg S w w') {p : Addr} (hp : p.block < w.heap.size) (hS : p.block ∉ S) : w'.cell? p = w.cell? p := World.cell?_of_block (w := w) (hc.block _ hp hS)
end

/-- The slice value v, of n elements of 'size' cells each, owns the cells xs: it is nil, or it begins at some place of a block that is known whole, and its capacity lies in that block. -/
def Own (w : World) (T : TypeId) (size : Nat) (v : Value) (n : Nat) (xs : List Value) : Prop :=
  xs.length = n * size ∧ ((v = .slice none 0 0 ∧ n = 0) ∨
    ∃ g o c L, v = .slice (some ⟨g, o, none⟩) n c ∧ Blk w g T L ∧ n ≤ c ∧ c ≤ maxLen ∧ o + c * size ≤ L.length ∧ (L.drop o).take (n * size) = xs)

section
variable {w w' : World} {T : TypeId} {size n : Nat} {v : Value} {xs : List Value}
theorem Own.nil (w : World) (T : TypeId) (size : Nat) : Own w T size (.slice none 0 0) 0 [] := ⟨by simp, .inl ⟨rfl, rfl⟩⟩
theorem Own.form (h : Own w T size v n xs) : ∃ A c, v = .slice A n c ∧ n ≤ c ∧ c ≤ maxLen := by
  rcases h.2 with ⟨rfl, rfl⟩ | ⟨g, o, c, L, rfl, _, hn, hc, _⟩
  · exact ⟨none, 0, rfl, Nat.le_refl _, by unfold maxLen; omega⟩
  · exact ⟨_, c, rfl, hn, hc⟩
theorem Own.len (h : Own w T size v n xs) : xs.length = n * size := h.1
theorem Own.of_row {base : Nat} (h : w.ownsRow base T size v n xs) : Own w T size v n xs := by
  refine ⟨h.1, ?_⟩
  rcases h.2 with h0 | ⟨g, cap, cur, rfl, _, hg, hn, hm, hs, ht⟩
  · exact .inl h0
  · refine .inr ⟨g, 0, cap, cur.toList, rfl, by simpa [Blk] using hg, hn, hm, by simp [hs], by simpa using ht⟩
theorem Own.lt (h : Own w T size v n xs) : ∀ k, v.ownBlock = some k → k < w.heap.size := by
  intro k hk
  rcases h.2 with ⟨rfl, _⟩ | ⟨g, o, c, L, rfl, hg, _⟩
  · simp [Value.ownBlock] at hk
  · simp [Value.ownBlock] at hk
    subst hk
    exact hg.lt
theorem Own.keep (h : Own w T size v n xs) (hk : ∀ k, v.ownBlock = some k → w'.heap[k]? = w.heap[k]?) : Own w' T size v n xs := by
  refine ⟨h.1, ?_⟩
  rcases h.2 with h0 | ⟨g, o, c, L, rfl, hg, r⟩
  · exact .inl h0
  · exact .inr ⟨g, o, c, L, rfl, (hk g rfl).trans hg, r⟩
theorem Own.chg {S : List Nat} (h : Own w T size v n xs) (hc : Chg S w w') (hS : ∀ k, v.ownBlock = some k → k ∉ S) : Own w' T size v n xs :=
  h.keep fun k hk => hc.block k (h.lt k hk) (hS k hk)
theorem Own.alloc (h : Own w T size v n xs) (o : Obj) : Own (w.alloc o) T size v n xs := h.keep fun k hk => Below.heap_alloc w o k (h.lt k hk)
theorem Own.drewN (h : Own w T size v n xs) (k : Nat) : Own (w.drewN k) T size v n xs := h
theorem Own.drew (h : Own w T size v n xs) : Own w.drew T size v n xs := h
theorem Own.far (h : Own w T size v n xs) {p : Addr} (hp : v.ownBlock ≠ some p.block) (u : Value) : Own (w.setCell p u) T size v n xs :=
  h.keep fun k hk => Below.heap_setCell w p u k (by rintro rfl; exact hp hk)
/-- Blocks of other element types are other blocks. -/
theorem Own.ne_ {g : Nat} {t : TypeId} {cs : List Value} (h : Own w T size v n xs) (hg : Blk w g t cs) (hne : T ≠ t) : v.ownBlock ≠ some g := by
  rcases h.2 with ⟨rfl, _⟩ | ⟨g', o, c, L, rfl, hb, _⟩
  · simp [Value.ownBlock]
  · intro he
    have : g' = g := by simpa [Value.ownBlock] using he
    subst this
    exact Blk.ne_ hb hg hne rfl
theorem Own.ne_own {T' : TypeId} {size' n' : Nat} {v' : Value} {xs' : List Value} (h : Own w T size v n xs) (h' : Own w T' size' v' n' xs') (hne : T ≠ T') : ∀ k, v.ownBlock = some k → v'.ownBlock ≠ some k := by
  intro k hk
  rcases h.2 with ⟨rfl, _⟩ | ⟨g, o, c, L, rfl, hb, _⟩
  · simp [Value.ownBlock] at hk
  · have : g = k := by simpa [Value.ownBlock] using hk
    subst this
    exact h'.ne_ hb (Ne.symm hne)
/-- The cells, at the address that the slice bears. -/
theorem Own.cell {a : Addr} {c : Nat} (h : Own w T size (.slice (some a) n c) n xs) {j : Nat} {u : Value} (hu : xs[j]? = some u) : w.cell? ⟨a.block, a.off + j, none⟩ = some u ∧ w.frozen? ⟨a.block, a.off + j, none⟩ = false ∧ a.spot = none := by
  rcases h.2 with ⟨h0, _⟩ | ⟨g, o, c', L, hv, hb, _, _, _, ht⟩
  · cases h0
  · injection hv with ha _ _
    injection ha with ha
    subst ha
    refine ⟨hb.cell_of ?_, hb.frozen _, rfl⟩
    rw [← ht, List.getElem?_take] at hu
    split at hu
    · rw [List.getElem?_drop] at hu; exact hu
    · cases hu
theorem Own.some_ (h : Own w T size v n xs) (hn : 0 < n) : ∃ g o c, v = .slice (some ⟨g, o, none⟩) n c ∧ n ≤ c ∧ c ≤ maxLen ∧ g < w.heap.size := by
  rcases h.2 with ⟨_, h0⟩ | ⟨g, o, c, L, rfl, hb, h1, h2, _⟩
  · omega
  · exact ⟨g, o, c, rfl, h1, h2, hb.lt⟩
theorem Own.cellsAdd {a : Addr} {c : Nat} (h : Own w T size (.slice (some a) n c) n xs) : ∀ (j : Nat) (u : Value), xs[j]? = some u → w.cell? (a.add j) = some u := by
  intro j u hu
  have hc := h.cell hu
  unfold Addr.add
  split
  · rename_i hj; subst hj; have := hc.1; have hs := hc.2.2; cases a; simp_all
  · exact hc.1
theorem Own.addsDrop {g o c : Nat} (h : Own w T size (.slice (some ⟨g, o, none⟩) n c) n xs) (d : Nat) : ∀ (j : Nat) (u : Value), (xs.drop d)[j]? = some u → w.cell? ((⟨g, o + d, none⟩ : Addr).add j) = some u := by
  intro j u hu
  rw [Addr.add_lit, Nat.add_assoc]
  exact (h.cell (by rw [← hu, List.getElem?_drop])).1
theorem Own.set_ {g o c : Nat} (h : Own w T 1 (.slice (some ⟨g, o, none⟩) n c) n xs) {j : Nat} (_hj : j < n) (u : Value) : Own (w.setCell ⟨g, o + j, none⟩ u) T 1 (.slice (some ⟨g, o, none⟩) n c) n (xs.set j u) := by
  rcases h.2 with ⟨h0, _⟩ | ⟨g', o', c', L, hv, hb, hn, hc, hL, ht⟩
  · cases h0
  · injection hv with e1 _ e3
    injection e1 with e1
    injection e1 with e1 e2
    subst e1; subst e2; subst e3
    refine ⟨by rw [List.length_set]; exact h.1, .inr ⟨g, o, c, L.set (o + j) u, rfl, hb.set_ _ u, hn, hc, by rw [List.length_set]; exact hL, ?_⟩⟩
    rw [← ht, List.drop_set, if_neg (by omega), List.take_set, show o + j - o = j by omega]
theorem Own.blk_ {g o c : Nat} (h : Own w T size (.slice (some ⟨g, o, none⟩) n c) n xs) : ∃ L, Blk w g T L := by
  rcases h.2 with ⟨h0, _⟩ | ⟨g', o', c', L, hv, hb, _⟩
  · cases h0
  · injection hv with e1 _ _
    injection e1 with e1
    injection e1 with e1 _
    subst e1
    exact ⟨L, hb⟩
end

/-- cs laid over L from place o on. -/
theorem splice_length {α : Type} (L : List α) (o : Nat) (cs : List α) (h : o + cs.length ≤ L.length) : (splice L o cs).length = L.length := length_splice L o cs h

theorem take_splice {α : Type} (L : List α) (o n : Nat) (xs cs : List α) (hx : (L.drop o).take n = xs) (hl : xs.length = n) (hf : o + n + cs.length ≤ L.length) :
    ((splice L (o + n) cs).drop o).take (n + cs.length) = xs ++ cs := by
  have h1 : L.take (o + n) = L.take o ++ xs := by rw [← hx, List.take_add]
  have h2 : (L.take o).length = o := by rw [List.length_take]; omega
  unfold splice
  rw [h1, List.append_assoc, List.drop_append_of_le_length (by omega), List.drop_of_length_le (by omega), List.nil_append]
  rw [← List.append_assoc, List.take_append_of_le_length (by simp; omega), List.take_of_length_le (by simp; omega)]

section
variable {P : Program} (w : World)

/-- Cells stored one by one into a block that is known whole. -/
theorem run_storeCells_blk {g : Nat} {t : TypeId} {L : List Value} (o : Nat) (vs : List Value) (hg : Blk w g t L) (hf : o + vs.length ≤ L.length) (h1 : ∀ v ∈ vs, v.oneCell' = true) :
    (storeCells ⟨g, o, none⟩ vs).run P w = .ok () (w.setRow g (splice L o vs).toArray) := by
  have h := run_storeCells_at P g o t vs 0 L.toArray w hg (by simpa using hf) h1
  rw [h]
  simp [splice]

theorem run_append_any (t ty e : TypeId) (i : TypeInfo) (z : Value) (size bytes : Nat) (ht : P.underlying t = some (.slice e)) (hi : P.info? e = some i) (hz : i.zero = some z)
    (hsize : i.size = size) (hby : i.bytes = bytes) (hzs : z.cells.size = size) (hsz : 0 < size)
    (v : Value) (n : Nat) (xs : List Value) (hown : Own w e size v n xs)
    (a : Addr) (m c : Nat) (news : List Value) (hl : news.length = m * size) (hnews : ∀ j u, news[j]? = some u → w.cell? (a.add j) = some u) (h1 : ∀ u ∈ news, u.oneCell' = true)
    (h63 : n + m ≤ maxLen) (hbytes : (n + m) * bytes ≤ 140737488355328) :
    ∃ A' c' w', (Builtin.append_ #[t, t] ty #[v, .slice (some a) m c]).run P w = .ok (.slice A' (n + m) c') w' ∧ Own w' e size (.slice A' (n + m) c') (n + m) (xs ++ news) ∧ Chg v.ownBlock.toList w w' ∧
      ((Value.slice A' (n + m) c').ownBlock = v.ownBlock ∨ ∃ k, (Value.slice A' (n + m) c').ownBlock = some k ∧ w.heap.size ≤ k) := by
  have fin : ∀ (v' : Value) (w' : World), (Builtin.append_ #[t, t] ty #[v, .slice (some a) m c]).run P w = .ok v' w' → Own w' e size v' (n + m) (xs ++ news) → Chg v.ownBlock.toList w w' →
      (v'.ownBlock = v.ownBlock ∨ ∃ k, v'.ownBlock = some k ∧ w.heap.size ≤ k) → ∃ A' c' w', (Builtin.append_ #[t, t] ty #[v, .slice (some a) m c]).run P w = .ok (.slice A' (n + m) c') w' ∧ Own w' e size (.slice A' (n + m) c') (n + m) (xs ++ news) ∧ Chg v.ownBlock.toList w w' ∧
      ((Value.slice A' (n + m) c').ownBlock = v.ownBlock ∨ ∃ k, (Value.slice A' (n + m) c').ownBlock = some k ∧ w.heap.size ≤ k) := by
    intro v' w' r1 r2 r3 r4
    obtain ⟨A', c', rfl, _, _⟩ := r2.form
    exact ⟨A', c', w', r1, r2, r3, r4⟩
  rcases hown.2 with ⟨rfl, rfl⟩ | ⟨g, o, cap, L, rfl, hg, hnc, hcm, hcL, hxs⟩
  · obtain rfl : xs = [] := List.eq_nil_of_length_eq_zero (by simpa using hown.1)
    obtain ⟨v', w', hrun, r1, r2, r3⟩ := run_append_own (P := P) w w.heap.size t ty e i z size bytes ht hi hz hsize hby hzs hsz (.slice none 0 0) 0 [] (World.ownsRow_nil w _ e size) a m c news hl hnews h1 h63 hbytes (Nat.le_refl _)
    refine fin v' w' hrun (Own.of_row r1) (Chg.of_grown r2) ?_
    cases hb : v'.ownBlock with
    | none => exact .inl rfl
    | some k => exact .inr ⟨k, rfl, (r1.lt k hb).1⟩
  · by_cases hr : n + m ≤ cap
    · have hml : n * size + m * size ≤ cap * size := by rw [← Nat.add_mul]; exact Nat.mul_le_mul_right _ hr
      have hst := run_storeCells_blk (P := P) w (o + n * size) news hg (by omega) h1
      have hfc := run_firstCells_some (P := P) w size m a m c news hl hnews
      refine fin (.slice (some ⟨g, o, none⟩) (n + m) cap) (w.setRow g (splice L (o + n * size) news).toArray) ?_ ⟨by rw [List.length_append, hown.1, hl, Nat.add_mul], .inr ⟨g, o, cap, _, rfl, hg.row _, hr, hcm, ?_, ?_⟩⟩ ?_ (.inl rfl)
      · simp [Builtin.append_, run_underlying ht, sizeOf, typeInfo, hi, Builtin.lenOf, hr, hfc, Addr.add_lit, hsize, hst]
      · rw [splice_length _ _ _ (by omega)]; exact hcL
      · rw [Nat.add_mul, ← hl]; exact take_splice L o (n * size) xs news hxs hown.1 (by omega)
      · exact (Chg.refl _ _).setRow (.inl (by simp [Value.ownBlock])) _
    · have holds : ∀ j u, xs[j]? = some u → w.cell? ((⟨g, o, none⟩ : Addr).add j) = some u := hown.cellsAdd
      obtain ⟨v', w', hrun, r1, r2⟩ := run_append_arg_grows (P := P) w t ty e i z size bytes ht hi hz hsize hby hzs hsz ⟨g, o, none⟩ n cap xs hown.1 holds a m c news hl hnews (by omega) h63 hbytes
      refine fin v' w' hrun (Own.of_row r1) ((Chg.of_grown r2).mono (by simp)) ?_
      rcases r1.2 with ⟨rfl, hnm⟩ | ⟨g', cap', cur, rfl, hb, _⟩
      · omega
      · exact .inr ⟨g', rfl, hb⟩

theorem wp_append_any {o : Oper} {a : Act} {K : Act → World → Prop} {Q : Exit → Act → World → Prop} (s x : Operand) (t : TypeId)
    (ho : o.op = .call { callee := .builtin .append, args := #[s, x], argTypes := #[t, t] })
    (e : TypeId) (i : TypeInfo) (z : Value) (size bytes : Nat) (ht : P.underlying t = some (.slice e)) (hi : P.info? e = some i) (hz : i.zero = some z)
    (hsize : i.size = size) (hby : i.bytes = bytes) (hzs : z.cells.size = size) (hsz : 0 < size)
    (v : Value) (n : Nat) (xs : List Value) (hs : a.eval s = v) (hown : Own w e size v n xs)
    (ad : Addr) (m c : Nat) (news : List Value) (hx : a.eval x = .slice (some ad) m c) (hl : news.length = m * size) (hnews : ∀ j u, news[j]? = some u → w.cell? (ad.add j) = some u) (h1 : ∀ u ∈ news, u.oneCell' = true)
    (h63 : n + m ≤ maxLen) (hbytes : (n + m) * bytes ≤ 140737488355328)
    (h : ∀ A' c' w', Own w' e size (.slice A' (n + m) c') (n + m) (xs ++ news) → Chg v.ownBlock.toList w w' →
      ((Value.slice A' (n + m) c').ownBlock = v.ownBlock ∨ ∃ k, (Value.slice A' (n + m) c').ownBlock = some k ∧ w.heap.size ≤ k) → K (a.put o.dst (.slice A' (n + m) c')) w') : o.wp P a w K Q := by
  obtain ⟨A', c', w', hrun, h2, h3, h4⟩ := run_append_any (P := P) w t o.type e i z size bytes ht hi hz hsize hby hzs hsz v n xs hown ad m c news hl hnews h1 h63 hbytes
  unfold Oper.wp execOp
  simp only [ho, resolve, invoke, builtin, Sem.run_bind, Sem.run_pure, Result.andThen_ok, List.map_toArray, List.map_cons, List.map_nil, hs, hx, hrun]
  exact h A' c' w' h2 h3 h4

theorem wpList_append_any {ops : Array Oper} {rest : List Oper} {o : Oper} {a : Act} {Q : Exit → Act → World → Prop} (hgd : o.guard = none) (s x : Operand) (t : TypeId)
    (ho : o.op = .call { callee := .builtin .append, args := #[s, x], argTypes := #[t, t] })
    (e : TypeId) (i : TypeInfo) (z : Value) (size bytes : Nat) (ht : P.underlying t = some (.slice e)) (hi : P.info? e = some i) (hz : i.zero = some z)
    (hsize : i.size = size) (hby : i.bytes = bytes) (hzs : z.cells.size = size) (hsz : 0 < size)
    (v : Value) (n : Nat) (xs : List Value) (hs : a.eval s = v) (hown : Own w e size v n xs)
    (ad : Addr) (m c : Nat) (news : List Value) (hx : a.eval x = .slice (some ad) m c) (hl : news.length = m * size) (hnews : ∀ j u, news[j]? = some u → w.cell? (ad.add j) = some u) (h1 : ∀ u ∈ news, u.oneCell' = true)
    (h63 : n + m ≤ maxLen) (hbytes : (n + m) * bytes ≤ 140737488355328)
    (h : ∀ A' c' w', Own w' e size (.slice A' (n + m) c') (n + m) (xs ++ news) → Chg v.ownBlock.toList w w' →
      ((Value.slice A' (n + m) c').ownBlock = v.ownBlock ∨ ∃ k, (Value.slice A' (n + m) c').ownBlock = some k ∧ w.heap.size ≤ k) → wpList P ops Q rest (a.put o.dst (.slice A' (n + m) c')) w') : wpList P ops Q (o :: rest) a w :=
  wpList_plain hgd fun _ hK => wp_append_any w s x t ho e i z size bytes ht hi hz hsize hby hzs hsz v n xs hs hown ad m c news hx hl hnews h1 h63 hbytes fun A' c' w' h2 h3 h4 => hK _ _ (h A' c' w' h2 h3 h4)

theorem step_append_any {ops : Array Oper} {o : Oper} {a : Act} {K : Act → World → Prop} {Q : Exit → Act → World → Prop} {E : Prop} (hgd : o.guard = none) (s x : Operand) (t : TypeId)
    (ho : o.op = .call { callee := .builtin .append, args := #[s, x], argTypes := #[t, t] })
    (e : TypeId) (i : TypeInfo) (z : Value) (size bytes : Nat) (ht : P.underlying t = some (.slice e)) (hi : P.info? e = some i) (hz : i.zero = some z)
    (hsize : i.size = size) (hby : i.bytes = bytes) (hzs : z.cells.size = size) (hsz : 0 < size)
    (v : Value) (n : Nat) (xs : List Value) (hs : a.eval s = v) (hown : Own w e size v n xs)
    (ad : Addr) (m c : Nat) (news : List Value) (hx : a.eval x = .slice (some ad) m c) (hl : news.length = m * size) (hnews : ∀ j u, news[j]? = some u → w.cell? (ad.add j) = some u) (h1 : ∀ u ∈ news, u.oneCell' = true)
    (h63 : n + m ≤ maxLen) (hbytes : (n + m) * bytes ≤ 140737488355328)
    (h : ∀ A' c' w', Own w' e size (.slice A' (n + m) c') (n + m) (xs ++ news) → Chg v.ownBlock.toList w w' →
      ((Value.slice A' (n + m) c').ownBlock = v.ownBlock ∨ ∃ k, (Value.slice A' (n + m) c').ownBlock = some k ∧ w.heap.size ≤ k) → K (a.put o.dst (.slice A' (n + m) c')) w') :
    if Region.wanted o (yielded ops a.tmps) = true then Oper.wp P o a w K Q else E := by
  have hw : Region.wanted o (yielded ops a.tmps) = true := by simp [Region.wanted, hgd]
  rw [if_pos hw]
  exact wp_append_any w s x t ho e i z size bytes ht hi hz hsize hby hzs hsz v n xs hs hown ad m c news hx hl hnews h1 h63 hbytes h

/-- copy into a block that is known whole, elements of any size; the two slices may overlap. -/
theorem run_copy_blk (dT sT ty elem : TypeId) (size : Nat) (hu : P.underlying dT = some (.slice elem)) (hs : (P.info? elem).map (·.size) = some size)
    (g o dLen dCap : Nat) (L : List Value) (t : TypeId) (hg : Blk w g t L) (sp : Option Addr) (sLen sCap : Nat) (cs : List Value) (hn : cs.length = Nat.min sLen dLen * size)
    (hsrc : 0 < cs.length → ∃ ad, sp = some ad ∧ ∀ j v, cs[j]? = some v → w.cell? (ad.add j) = some v) (hfit : o + cs.length ≤ L.length) (h1 : ∀ v ∈ cs, v.oneCell' = true) :
    (Builtin.copy_ #[dT, sT] ty #[.slice (some ⟨g, o, none⟩) dLen dCap, .slice sp sLen sCap]).run P w =
      .ok (goInt (Nat.min sLen dLen)) (w.setRow g (splice L o cs).toArray) := by
  have hst := run_storeCells_blk (P := P) w o cs hg hfit h1
  have hfc : (Builtin.firstCells size (Nat.min sLen dLen) (.slice sp sLen sCap)).run P w = .ok cs.toArray w := by
    by_cases h0 : 0 < cs.length
    · obtain ⟨ad, rfl, hc⟩ := hsrc h0
      exact run_firstCells_some (P := P) w size _ ad _ _ cs hn hc
    · obtain rfl : cs = [] := List.eq_nil_of_length_eq_zero (by omega)
      cases sp with
      | none => simp [Builtin.firstCells]
      | some ad => exact run_firstCells_some (P := P) w size _ ad _ _ [] hn (by simp)
  cases hq : P.info? elem with
  | none => simp [hq] at hs
  | some i =>
    have hi : i.size = size := by simpa [hq] using hs
    simp [Builtin.copy_, run_underlying hu, Builtin.lenOf, sizeOf, typeInfo, hq, hi, hfc, hst]

theorem wp_copy_blk {o : Oper} {a : Act} {K : Act → World → Prop} {Q : Exit → Act → World → Prop} (d s : Operand) (dT sT : TypeId)
    (ho : o.op = .call { callee := .builtin .copy, args := #[d, s], argTypes := #[dT, sT] }) (elem : TypeId) (size : Nat) (hu : P.underlying dT = some (.slice elem)) (hsz : (P.info? elem).map (·.size) = some size)
    (g off dLen dCap : Nat) (sp : Option Addr) (sLen sCap : Nat) (hd : a.eval d = .slice (some ⟨g, off, none⟩) dLen dCap) (hs : a.eval s = .slice sp sLen sCap)
    (L : List Value) (t : TypeId) (hg : Blk w g t L) (cs : List Value) (hn : cs.length = Nat.min sLen dLen * size)
    (hsrc : 0 < cs.length → ∃ ad, sp = some ad ∧ ∀ j v, cs[j]? = some v → w.cell? (ad.add j) = some v) (hfit : off + cs.length ≤ L.length) (h1 : ∀ v ∈ cs, v.oneCell' = true)
    (h : ∀ w', Hid (Blk w' g t (splice L off cs)) → Chg [g] w w' → K (a.put o.dst (goInt (Nat.min sLen dLen))) w') : o.wp P a w K Q := by
  have hrun := run_copy_blk (P := P) w dT sT o.type elem size hu hsz g off dLen dCap L t hg sp sLen sCap cs hn hsrc hfit h1
  unfold Oper.wp
  simp [execOp, ho, resolve, invoke, builtin, hd, hs, hrun, Result.andThen]
  exact h _ (hg.row _) ((Chg.refl _ _).setRow (.inl (by simp)) _)

theorem wpList_copy_blk {ops : Array Oper} {rest : List Oper} {o : Oper} {a : Act} {Q : Exit → Act → World → Prop} (hgd : o.guard = none) (d s : Operand) (dT sT : TypeId)
    (ho : o.op = .call { callee := .builtin .copy, args := #[d, s], argTypes := #[dT, sT] }) (elem : TypeId) (size : Nat) (hu : P.underlying dT = some (.slice elem)) (hsz : (P.info? elem).map (·.size) = some size)
    (g off dLen dCap : Nat) (sp : Option Addr) (sLen sCap : Nat) (hd : a.eval d = .slice (some ⟨g, off, none⟩) dLen dCap) (hs : a.eval s = .slice sp sLen sCap)
    (L : List Value) (t : TypeId) (hg : Blk w g t L) (cs : List Value) (hn : cs.length = Nat.min sLen dLen * size)
    (hsrc : 0 < cs.length → ∃ ad, sp = some ad ∧ ∀ j v, cs[j]? = some v → w.cell? (ad.add j) = some v) (hfit : off + cs.length ≤ L.length) (h1 : ∀ v ∈ cs, v.oneCell' = true)
    (h : ∀ w', Hid (Blk w' g t (splice L off cs)) → Chg [g] w w' → wpList P ops Q rest (a.put o.dst (goInt (Nat.min sLen dLen))) w') : wpList P ops Q (o :: rest) a w :=
  wpList_plain hgd fun _ hK => wp_copy_blk w d s dT sT ho elem size hu hsz g off dLen dCap sp sLen sCap hd hs L t hg cs hn hsrc hfit h1 fun w' h2 h3 => hK _ _ (h w' h2 h3)

theorem step_copy_blk {ops : Array Oper} {o : Oper} {a : Act} {K : Act → World → Prop} {Q : Exit → Act → World → Prop} {E : Prop} (hgd : o.guard = none) (d s : Operand) (dT sT : TypeId)
    (ho : o.op = .call { callee := .builtin .copy, args := #[d, s], argTypes := #[dT, sT] }) (elem : TypeId) (size : Nat) (hu : P.underlying dT = some (.slice elem)) (hsz : (P.info? elem).map (·.size) = some size)
    (g off dLen dCap : Nat) (sp : Option Addr) (sLen sCap : Nat) (hd : a.eval d = .slice (some ⟨g, off, none⟩) dLen dCap) (hs : a.eval s = .slice sp sLen sCap)
    (L : List Value) (t : TypeId) (hg : Blk w g t L) (cs : List Value) (hn : cs.length = Nat.min sLen dLen * size)
    (hsrc : 0 < cs.length → ∃ ad, sp = some ad ∧ ∀ j v, cs[j]? = some v → w.cell? (ad.add j) = some v) (hfit : off + cs.length ≤ L.length) (h1 : ∀ v ∈ cs, v.oneCell' = true)
    (h : ∀ w', Hid (Blk w' g t (splice L off cs)) → Chg [g] w w' → K (a.put o.dst (goInt (Nat.min sLen dLen))) w') :
    if Region.wanted o (yielded ops a.tmps) = true then Oper.wp P o a w K Q else E := by
  have hw : Region.wanted o (yielded ops a.tmps) = true := by simp [Region.wanted, hgd]
  rw [if_pos hw]
  exact wp_copy_blk w d s dT sT ho elem size hu hsz g off dLen dCap sp sLen sCap hd hs L t hg cs hn hsrc hfit h1 h
end

/-- Guards: each fits its own operation alone, and leaves the goal as it is. -/
theorem at_copy_ {P : Program} {ops : Array Oper} {Q : Exit → Act → World → Prop} {rest : List Oper} {a : Act} {w : World} {dst : Option Tmp} {args : Array Operand} {ats : Array TypeId} {ty : TypeId} {pos : String} {aft : Array Edge} {gd : Option (Nat × Bool)}
    (h : wpList P ops Q ({ dst := dst, op := .call { callee := .builtin .copy, args := args, argTypes := ats }, type := ty, pos := pos, after := aft, guard := gd } :: rest) a w) :
    wpList P ops Q ({ dst := dst, op := .call { callee := .builtin .copy, args := args, argTypes := ats }, type := ty, pos := pos, after := aft, guard := gd } :: rest) a w := h
theorem at_append_ {P : Program} {ops : Array Oper} {Q : Exit → Act → World → Prop} {rest : List Oper} {a : Act} {w : World} {dst : Option Tmp} {args : Array Operand} {ats : Array TypeId} {ty : TypeId} {pos : String} {aft : Array Edge} {gd : Option (Nat × Bool)}
    (h : wpList P ops Q ({ dst := dst, op := .call { callee := .builtin .append, args := args, argTypes := ats }, type := ty, pos := pos, after := aft, guard := gd } :: rest) a w) :
    wpList P ops Q ({ dst := dst, op := .call { callee := .builtin .append, args := args, argTypes := ats }, type := ty, pos := pos, after := aft, guard := gd } :: rest) a w := h
theorem at_clear_ {P : Program} {ops : Array Oper} {Q : Exit → Act → World → Prop} {rest : List Oper} {a : Act} {w : World} {dst : Option Tmp} {args : Array Operand} {ats : Array TypeId} {ty : TypeId} {pos : String} {aft : Array Edge} {gd : Option (Nat × Bool)}
    (h : wpList P ops Q ({ dst := dst, op := .call { callee := .builtin .clear, args := args, argTypes := ats }, type := ty, pos := pos, after := aft, guard := gd } :: rest) a w) :
    wpList P ops Q ({ dst := dst, op := .call { callee := .builtin .clear, args := args, argTypes := ats }, type := ty, pos := pos, after := aft, guard := gd } :: rest) a w := h
end Go.Proofs.YtcpbbgkeigbndaaGreat

/- More words for memory, proved over any program: append of a made row, clear. No condition of its own. -/
namespace Go.Proofs.YtcpbbgkeigbndaaGreat
open Go Go.RowKit
section
variable {P : Program} (w : World)

theorem run_append_make_grow (t tn ty e : TypeId) (i : TypeInfo) (z : Value) (size bytes : Nat) (ht : P.underlying t = some (.slice e)) (htn : P.underlying tn = some (.int .i64)) (hi : P.info? e = some i) (hz : i.zero = some z)
    (hsize : i.size = size) (hby : i.bytes = bytes) (hzs : z.cells.size = size) (hsz : 0 < size)
    (b : Addr) (n c : Nat) (olds : List Value) (hlo : olds.length = n * size) (holds : ∀ j u, olds[j]? = some u → w.cell? (b.add j) = some u)
    (l : Nat) (h0 : 0 < l) (hg : c < n + l) (h63 : n + l ≤ maxLen) (hbytes : (n + l) * bytes ≤ 140737488355328) :
    (Builtin.append_ #[t, tn] ty #[.slice (some b) n c, .int .i64 l]).run P w =
      .ok (.slice (some ⟨w.heap.size, 0, none⟩) (n + l) (grownCap w (n + l) c e))
        (w.drew.alloc (.cells (olds.toArray ++ Builtin.zeroCells z.cells l ++ Builtin.zeroCells z.cells (grownCap w (n + l) c e - (n + l))) e)) := by
  subst hsize
  subst hby
  simp only [maxLen] at h63
  have hn : ¬ (n + l ≤ c) := by omega
  have hw : IntKind.i64.wrap (l : Int) = l := by rw [IntKind.wrap_i64]; omega
  have h63' : ¬ (9223372036854775807 < ((n : Int) + (l : Int))) := by omega
  have hfit := growslice_fits (need := n + l) (old := c) (bytes := i.bytes) (by omega) hbytes
  have h48' : ¬ (281474976710656 < Builtin.nextslicecap (n + l) c * i.bytes) := by omega
  have hlb : l * i.bytes ≤ (n + l) * i.bytes := Nat.mul_le_mul_right _ (by omega)
  have h48i : ¬ (281474976710656 < (l : Int) * (i.bytes : Int)) := by
    rw [← Int.natCast_mul]
    omega
  have hneg : ¬ ((l : Int) < 0) := by omega
  have hns : ¬ (l * i.size = 0) := Nat.mul_ne_zero (by omega) (by omega)
  have hfo := run_firstCells_some (P := P) w.drew i.size n b n c olds hlo (by simpa using holds)
  simp [Builtin.append_, run_underlying ht, run_underlying htn, sizeOf, typeInfo, zeroValue, hi, hz, asInt, asIntOf, hw, hn, hneg, h63', h48', h48i, Question.forced, hfo, newRow, grownCap]
  exact fun h => absurd h hns

theorem wpList_append_make {ops : Array Oper} {rest : List Oper} {o : Oper} {a : Act} {Q : Exit → Act → World → Prop} (hgd : o.guard = none) (s x : Operand) (t tn : TypeId)
    (ho : o.op = .call { callee := .builtin .append, args := #[s, x], argTypes := #[t, tn] })
    (e : TypeId) (i : TypeInfo) (z : Value) (size bytes : Nat) (ht : P.underlying t = some (.slice e)) (htn : P.underlying tn = some (.int .i64)) (hi : P.info? e = some i) (hz : i.zero = some z)
    (hsize : i.size = size) (hby : i.bytes = bytes) (hzs : z.cells.size = size) (hsz : 0 < size)
    (b : Addr) (n c : Nat) (olds : List Value) (hs : a.eval s = .slice (some b) n c) (hlo : olds.length = n * size) (holds : ∀ j u, olds[j]? = some u → w.cell? (b.add j) = some u)
    (l N : Nat) (hN : n + l = N) (hx : a.eval x = .int .i64 l) (h0 : 0 < l) (hg : c < N) (h63 : N ≤ maxLen) (hbytes : N * bytes ≤ 140737488355328)
    (h : ∀ cap' Z w', N ≤ cap' → cap' ≤ maxLen → Z.length = (cap' - n) * size → Hid (Blk w' w.heap.size e (olds ++ Z)) → Chg [] w w' →
      wpList P ops Q rest (a.put o.dst (.slice (some ⟨w.heap.size, 0, none⟩) N cap')) w') : wpList P ops Q (o :: rest) a w := by
  subst hN
  have hrun := run_append_make_grow (P := P) w t tn o.type e i z size bytes ht htn hi hz hsize hby hzs hsz b n c olds hlo holds l h0 hg h63 hbytes
  refine Lib.wpList_append_run w hgd s x t tn ho _ _ hs hx _ _ hrun ?_
  have hge := grownCap_ge w (n + l) c e
  have hcm := grownCap_le_maxLen w (n + l) c e h63
  refine h _ (Builtin.zeroCells z.cells l ++ Builtin.zeroCells z.cells (grownCap w (n + l) c e - (n + l))).toList _ hge hcm ?_ ?_ ((Chg.refl _ _).drew.alloc _)
  · rw [Array.length_toList, Array.size_append, size_zeroCells, size_zeroCells, hzs, ← Nat.add_mul]
    congr 1; omega
  · have := Blk.new w.drew e (olds.toArray ++ Builtin.zeroCells z.cells l ++ Builtin.zeroCells z.cells (grownCap w (n + l) c e - (n + l)))
    have e1 : (olds.toArray ++ Builtin.zeroCells z.cells l ++ Builtin.zeroCells z.cells (grownCap w (n + l) c e - (n + l))).toList = olds ++ (Builtin.zeroCells z.cells l ++ Builtin.zeroCells z.cells (grownCap w (n + l) c e - (n + l))).toList := by simp
    rw [e1] at this
    exact this

/-- append where there is room, into a block that is known whole; the source may lie in the same block. -/
theorem run_append_room_blk (t ty e : TypeId) (size : Nat) (ht : P.underlying t = some (.slice e)) (hs : (P.info? e).map (·.size) = some size)
    (g o n c : Nat) (L : List Value) (T : TypeId) (hg : Blk w g T L) (sp : Option Addr) (m sc : Nat) (news : List Value) (hl : news.length = m * size)
    (hsrc : 0 < news.length → ∃ ad, sp = some ad ∧ ∀ j v, news[j]? = some v → w.cell? (ad.add j) = some v) (h1 : ∀ v ∈ news, v.oneCell' = true) (hroom : n + m ≤ c) (hfit : o + n * size + news.length ≤ L.length) :
    (Builtin.append_ #[t, t] ty #[.slice (some ⟨g, o, none⟩) n c, .slice sp m sc]).run P w = .ok (.slice (some ⟨g, o, none⟩) (n + m) c) (w.setRow g (splice L (o + n * size) news).toArray) := by
  have hst := run_storeCells_blk (P := P) w (o + n * size) news hg hfit h1
  have hfc : (Builtin.firstCells size m (.slice sp m sc)).run P w = .ok news.toArray w := by
    by_cases h0 : 0 < news.length
    · obtain ⟨ad, rfl, hc⟩ := hsrc h0
      exact run_firstCells_some (P := P) w size _ ad _ _ news hl hc
    · obtain rfl : news = [] := List.eq_nil_of_length_eq_zero (by omega)
      cases sp with
      | none => simp [Builtin.firstCells]
      | some ad => exact run_firstCells_some (P := P) w size _ ad _ _ [] hl (by simp)
  cases hq : P.info? e with
  | none => simp [hq] at hs
  | some i =>
    have hi : i.size = size := by simpa [hq] using hs
    simp [Builtin.append_, run_underlying ht, sizeOf, typeInfo, hq, Builtin.lenOf, hroom, hfc, Addr.add_lit, hi, hst]

theorem wp_append_room_blk {o : Oper} {a : Act} {K : Act → World → Prop} {Q : Exit → Act → World → Prop} (s x : Operand) (t : TypeId)
    (ho : o.op = .call { callee := .builtin .append, args := #[s, x], argTypes := #[t, t] })
    (e : TypeId) (size : Nat) (ht : P.underlying t = some (.slice e)) (hz : (P.info? e).map (·.size) = some size)
    (g off n c : Nat) (sp : Option Addr) (m sc : Nat) (hs : a.eval s = .slice (some ⟨g, off, none⟩) n c) (hx : a.eval x = .slice sp m sc)
    (L : List Value) (T : TypeId) (hg : Blk w g T L) (news : List Value) (hl : news.length = m * size)
    (hsrc : 0 < news.length → ∃ ad, sp = some ad ∧ ∀ j v, news[j]? = some v → w.cell? (ad.add j) = some v) (h1 : ∀ v ∈ news, v.oneCell' = true) (hroom : n + m ≤ c) (hfit : off + n * size + news.length ≤ L.length)
    (h : ∀ w', Hid (Blk w' g T (splice L (off + n * size) news)) → Chg [g] w w' → K (a.put o.dst (.slice (some ⟨g, off, none⟩) (n + m) c)) w') : o.wp P a w K Q := by
  have hrun := run_append_room_blk (P := P) w t o.type e size ht hz g off n c L T hg sp m sc news hl hsrc h1 hroom hfit
  unfold Oper.wp execOp
  simp only [ho, resolve, invoke, builtin, Sem.run_bind, Sem.run_pure, Result.andThen_ok, List.map_toArray, List.map_cons, List.map_nil, hs, hx, hrun]
  exact h _ (hg.row _) ((Chg.refl _ _).setRow (.inl (by simp)) _)

theorem wpList_append_room_blk {ops : Array Oper} {rest : List Oper} {o : Oper} {a : Act} {Q : Exit → Act → World → Prop} (hgd : o.guard = none) (s x : Operand) (t : TypeId)
    (ho : o.op = .call { callee := .builtin .append, args := #[s, x], argTypes := #[t, t] })
    (e : TypeId) (size : Nat) (ht : P.underlying t = some (.slice e)) (hz : (P.info? e).map (·.size) = some size)
    (g off n c : Nat) (sp : Option Addr) (m sc : Nat) (hs : a.eval s = .slice (some ⟨g, off, none⟩) n c) (hx : a.eval x = .slice sp m sc)
    (L : List Value) (T : TypeId) (hg : Blk w g T L) (news : List Value) (hl : news.length = m * size)
    (hsrc : 0 < news.length → ∃ ad, sp = some ad ∧ ∀ j v, news[j]? = some v → w.cell? (ad.add j) = some v) (h1 : ∀ v ∈ news, v.oneCell' = true) (hroom : n + m ≤ c) (hfit : off + n * size + news.length ≤ L.length)
    (h : ∀ w', Hid (Blk w' g T (splice L (off + n * size) news)) → Chg [g] w w' → wpList P ops Q rest (a.put o.dst (.slice (some ⟨g, off, none⟩) (n + m) c)) w') : wpList P ops Q (o :: rest) a w :=
  wpList_plain hgd fun _ hK => wp_append_room_blk w s x t ho e size ht hz g off n c sp m sc hs hx L T hg news hl hsrc h1 hroom hfit fun w' h2 h3 => hK _ _ (h w' h2 h3)

theorem step_append_room_blk {ops : Array Oper} {o : Oper} {a : Act} {K : Act → World → Prop} {Q : Exit → Act → World → Prop} {E : Prop} (hgd : o.guard = none) (s x : Operand) (t : TypeId)
    (ho : o.op = .call { callee := .builtin .append, args := #[s, x], argTypes := #[t, t] })
    (e : TypeId) (size : Nat) (ht : P.underlying t = some (.slice e)) (hz : (P.info? e).map (·.size) = some size)
    (g off n c : Nat) (sp : Option Addr) (m sc : Nat) (hs : a.eval s = .slice (some ⟨g, off, none⟩) n c) (hx : a.eval x = .slice sp m sc)
    (L : List Value) (T : TypeId) (hg : Blk w g T L) (news : List Value) (hl : news.length = m * size)
    (hsrc : 0 < news.length → ∃ ad, sp = some ad ∧ ∀ j v, news[j]? = some v → w.cell? (ad.add j) = some v) (h1 : ∀ v ∈ news, v.oneCell' = true) (hroom : n + m ≤ c) (hfit : off + n * size + news.length ≤ L.length)
    (h : ∀ w', Hid (Blk w' g T (splice L (off + n * size) news)) → Chg [g] w w' → K (a.put o.dst (.slice (some ⟨g, off, none⟩) (n + m) c)) w') :
    if Region.wanted o (yielded ops a.tmps) = true then Oper.wp P o a w K Q else E := by
  have hw : Region.wanted o (yielded ops a.tmps) = true := by simp [Region.wanted, hgd]
  rw [if_pos hw]
  exact wp_append_room_blk w s x t ho e size ht hz g off n c sp m sc hs hx L T hg news hl hsrc h1 hroom hfit h

/-- clear of a stretch of a block that is known whole. -/
theorem run_clear_blk (t ty e : TypeId) (i : TypeInfo) (z : Value) (size : Nat) (ht : P.underlying t = some (.slice e)) (hi : P.info? e = some i) (hz : i.zero = some z)
    (hzs : z.cells.size = size) (h1 : ∀ v ∈ z.cells.toList, v.oneCell' = true) (hsz : 0 < size) (g o n c : Nat) (L : List Value) (T : TypeId) (hg : Blk w g T L) (hn : 0 < n) (hf : o + n * size ≤ L.length) :
    ∃ Z : List Value, Z.length = n * size ∧ (Builtin.clear_ #[t] ty #[.slice (some ⟨g, o, none⟩) n c]).run P w = .ok (.tuple #[]) (w.setRow g (splice L o Z).toArray) := by
  have hl : (Builtin.zeroCells z.cells n).toList.length = n * size := by rw [Array.length_toList, size_zeroCells, hzs]
  have hst := run_storeCells_blk (P := P) w o (Builtin.zeroCells z.cells n).toList hg (by omega) (by
    intro v hv
    simp only [Builtin.zeroCells, Array.toList_map, List.mem_map] at hv
    obtain ⟨k, _, rfl⟩ := hv
    have hk : k % z.cells.size < z.cells.size := Nat.mod_lt _ (by omega)
    apply h1
    rw [getElem!_pos z.cells _ hk]
    exact Array.getElem_mem_toList hk)
  refine ⟨_, hl, ?_⟩
  have hn' : n ≠ 0 := by omega
  obtain ⟨m, rfl⟩ : ∃ m, n = m + 1 := ⟨n - 1, by omega⟩
  simp [Builtin.clear_, run_underlying ht, zeroValue, typeInfo, hi, hz, hst]

theorem wpList_clear_blk {ops : Array Oper} {rest : List Oper} {o : Oper} {a : Act} {Q : Exit → Act → World → Prop} (hgd : o.guard = none) (s : Operand) (t : TypeId)
    (ho : o.op = .call { callee := .builtin .clear, args := #[s], argTypes := #[t] })
    (e : TypeId) (i : TypeInfo) (z : Value) (size : Nat) (ht : P.underlying t = some (.slice e)) (hi : P.info? e = some i) (hz : i.zero = some z)
    (hzs : z.cells.size = size) (h1 : ∀ v ∈ z.cells.toList, v.oneCell' = true) (hsz : 0 < size) (g off n c : Nat) (hs : a.eval s = .slice (some ⟨g, off, none⟩) n c)
    (L : List Value) (T : TypeId) (hg : Blk w g T L) (hn : 0 < n) (hf : off + n * size ≤ L.length)
    (h : ∀ Z w', Z.length = n * size → Hid (Blk w' g T (splice L off Z)) → Chg [g] w w' → wpList P ops Q rest (a.put o.dst (.tuple #[])) w') : wpList P ops Q (o :: rest) a w := by
  obtain ⟨Z, hl, hrun⟩ := run_clear_blk (P := P) w t o.type e i z size ht hi hz hzs h1 hsz g off n c L T hg hn hf
  refine wpList_plain hgd fun K hK => ?_
  unfold Oper.wp
  simp [execOp, ho, resolve, invoke, builtin, hs, hrun, Result.andThen]
  exact hK _ _ (h Z _ hl (hg.row _) ((Chg.refl _ _).setRow (.inl (by simp)) _))
end
end Go.Proofs.YtcpbbgkeigbndaaGreat

/- A slice that was just made, owned. -/
namespace Go.Proofs.YtcpbbgkeigbndaaGreat
open Go Go.RowKit
theorem Own.made (w : World) (T : TypeId) (size n c : Nat) (cs : List Value) (hn : n ≤ c) (hm : c ≤ maxLen) (hl : cs.length = c * size) : Own (w.alloc (.cells cs.toArray T)) T size (.slice (some ⟨w.heap.size, 0, none⟩) n c) n (cs.take (n * size)) := by
  have hle : n * size ≤ c * size := Nat.mul_le_mul_right _ hn
  exact ⟨by rw [List.length_take]; omega, .inr ⟨_, 0, c, cs, rfl, by simpa using Blk.new w T cs.toArray, hn, hm, by omega, by simp⟩⟩
end Go.Proofs.YtcpbbgkeigbndaaGreat

/- A region that draws its order: reads and calls that make new memory alone, in whatever order, and behind them a tail in a fixed order (a store): one walk. Proved over any program. No condition of its own. -/
namespace Go.Proofs.YtcpbbgkeigbndaaGreat
open Go Go.Sort

section
variable {P : Program} {ops : Array Oper} {md : Region.Mode} {C : World → Prop}

def wpAnyLQ (P : Program) (md : Region.Mode) (ops : Array Oper) (C : World → Prop) (n : Nat) (L : Array Bool → Act → Prop) : Nat → Array Bool → Act → Prop
  | 0, listed, a => L listed a
  | f + 1, listed, a =>
    Region.ready md ops listed ≠ [] ∧ ∀ i ∈ Region.ready md ops listed, i < n ∧ qOp P ops C i (wpAnyLQ P md ops C n L f (listed.setIfInBounds i true)) a

theorem wpAny_of_headQ {n g : Nat} {L : Array Bool → Act → Prop} {Q' : Exit → Act → World → Prop} (hL : ∀ listed a w, C w → L listed a → wpAny P md ops Q' g listed a w) :
    ∀ (f : Nat) (listed : Array Bool) (a : Act) (w : World), C w → wpAnyLQ P md ops C n L f listed a → wpAny P md ops Q' (f + g) listed a w
  | 0, listed, a, w, hw, h => by rw [Nat.zero_add]; exact hL _ _ _ hw h
  | f + 1, listed, a, w, hw, h => by
    rw [show f + 1 + g = (f + g) + 1 by omega]
    exact ⟨fun h0 => absurd h0 h.1, fun i hi => wpOp_of_qOp hw (fun a' w' hw' h' => wpAny_of_headQ hL f _ a' w' hw' h') (h.2 i hi).2⟩

theorem wpAnyLQ_first {n i : Nat} {oi : Oper} {v : Value} {L : Array Bool → Act → Prop} (hi : ops[i]? = some oi) (hsel : ∀ (j : Nat) (o : Oper) cs b, ops[j]? = some o → o.op ≠ .select cs b)
    (hs : Region.sinkB md ops n = true) (hc : Region.chainB md ops n = true) (hn : n < ops.size) (hin : i < n)
    (hdone : ∀ listed a, L listed a → ∀ j ∈ Region.ready md ops listed, n ≤ j) :
    ∀ (f : Nat) (listed : Array Bool) (a : Act), HeadInv md ops n listed →
      (∀ j oj, ops[j]? = some oj → j ≠ i → listed.getD j true = false → (∀ e ∈ oj.after, Region.binds md e = true → e.on ≠ i) → oi.apart ops oj = true) →
      i ∈ Region.ready md ops listed → YieldsIn P ops C oi v a →
      wpAnyLQ P md ops C n L f (listed.setIfInBounds i true) (a.put oi.dst v) → wpAnyLQ P md ops C n L (f + 1) listed a := by
  intro f
  induction f with
  | zero =>
    intro listed a inv _ hr hy H
    have hun := (mem_ready.1 hr).1
    refine ⟨fun h => (by rw [h] at hr; cases hr), fun j hj => ?_⟩
    have hjn : j < n := (Nat.lt_or_ge j n).elim id fun h => absurd hj (tail_waits hs hc hn inv _ i rfl hin hun j h)
    refine ⟨hjn, ?_⟩
    by_cases hji : j = i
    · subst hji; exact hy.qOp hi H
    · have := hdone _ _ H j (ready_mono hj hji)
      omega
  | succ f ih =>
    intro listed a inv hfree hr hy H
    have hun := (mem_ready.1 hr).1
    refine ⟨fun h => (by rw [h] at hr; cases hr), fun j hj => ?_⟩
    have hjn : j < n := (Nat.lt_or_ge j n).elim id fun h => absurd hj (tail_waits hs hc hn inv _ i rfl hin hun j h)
    refine ⟨hjn, ?_⟩
    by_cases hji : j = i
    · subst hji; exact hy.qOp hi H
    · have h1 := (H.2 j (ready_mono hj hji)).2
      obtain ⟨hjun, oj, hoj, hall⟩ := mem_ready.1 hj
      have hnot : ∀ e ∈ oj.after, Region.binds md e = true → e.on ≠ i := fun e he hb heq => by
        have h1 := hall e he hb
        rw [heq, getD_both hun] at h1
        cases h1
      have h2 := qOp_put hoj (hfree j oj hoj hji hjun hnot) (fun cs b => hsel i oi cs b hi) (fun cs b => hsel j oj cs b hoj) hy h1
      have hfree' : ∀ k ok, ops[k]? = some ok → k ≠ i → (listed.setIfInBounds j true).getD k true = false →
          (∀ e ∈ ok.after, Region.binds md e = true → e.on ≠ i) → oi.apart ops ok = true := fun k ok hk hki hun hno => by
        refine hfree k ok hk hki ?_ hno
        by_cases hjk : j = k
        · subst hjk; exact hjun
        · rw [getD_set_ne true hjk] at hun; exact hun
      refine qOp_mono (fun a' h3 => ih (listed.setIfInBounds j true) a' (inv.set hj hjn) hfree' (ready_mono hr (Ne.symm hji)) h3.1 ?_) h2
      rw [Array.setIfInBounds_comm _ _ hji]
      exact h3.2

theorem wpAnyLQ_lex {n g : Nat} {Lq : Act → Prop} (hsel : Region.noSelect ops = true) (hs : Region.sinkB md ops n = true) (hc : Region.chainB md ops n = true) (hn : n < ops.size) :
    ∀ (l : List Oper) (k : Nat) (listed : Array Bool) (a : Act), (∀ j, j < l.length → l[j]? = ops[k + j]?) → k + l.length = n → HeadInv md ops n listed →
    Region.lexHead md ops g l.length k listed = true → wpQuiet P ops C Lq l a →
    wpAnyLQ P md ops C n (fun listed' a' => Region.seqB md ops g n listed' = true ∧ Lq a') l.length listed a
  | [], k, listed, a, _, hk, _, hB, h => by
    have : k = n := by simpa using hk
    subst this
    exact ⟨by simpa [Region.lexHead] using hB, h⟩
  | o :: l, k, listed, a, hl, hk, inv, hB, h => by
    have h0 : ops[k]? = some o := by simpa using (hl 0 (by simp)).symm
    simp only [List.length_cons, Region.lexHead, Bool.and_eq_true] at hB
    obtain ⟨⟨hr, hf⟩, hB'⟩ := hB
    have hkn : k < n := by simp only [List.length_cons] at hk; omega
    have hr' : k ∈ Region.ready md ops listed := by simpa using hr
    have hst : qOp P ops C k (wpQuiet P ops C Lq l) a := by unfold qOp; simp only [h0]; exact h
    obtain ⟨v, hy, hK⟩ := yieldsIn_of_qOp h0 hst
    exact wpAnyLQ_first h0 (Region.noSelect_spec hsel) hs hc hn hkn (fun listed' a' hL => seqB_ready hL.1) l.length listed a inv (Region.free_spec h0 hf) hr' hy
      (wpAnyLQ_lex hsel hs hc hn l (k + 1) _ _ (fun j hj => by have := hl (j + 1) (by simp; omega); simpa [Nat.add_assoc, Nat.add_comm 1 j] using this) (by simp only [List.length_cons] at hk; omega) (inv.set hr' hkn) hB' hK)

/-- The head's operations are quiet in the class C, in whatever order; the tail's come one behind the other. -/
theorem wp_region_quiet_tail {id : Nat} {Q : Exit → Act → World → Prop} {a : Act} {w : World} {l : List Oper} (n : Nat) (hm : P.follows .mixedOrders = true) (hB : Region.lexTailB .any l.toArray n = true)
    (hC : C { w with drawn := w.drawn + 1 })
    (h : wpQuiet P l.toArray C (fun a' => ∀ w', C w' → wpList P l.toArray Q (l.drop n) a' w') (l.take n) a) : (Code.region id l.toArray true).wp P Q a w := by
  simp only [Region.lexTailB, Bool.and_eq_true, decide_eq_true_eq] at hB
  obtain ⟨⟨⟨⟨hsel, hn⟩, hs⟩, hc⟩, hlex⟩ := hB
  have hn' : n < l.length := by simpa using hn
  have htl : (l.take n).length = n := by simp; omega
  have hdl : (l.drop n).length = l.toArray.size - n := by simp
  have inv0 : HeadInv .any l.toArray n (Array.replicate l.toArray.size false) :=
    ⟨by simp, fun j oj _ hl => (by rw [getD_replicate_false] at hl; cases hl), fun t _ ht => getD_in (by simpa using ht) (getD_replicate_false _ _)⟩
  have H := wpAnyLQ_lex (md := .any) (g := l.toArray.size - n) hsel hs hc hn (l.take n) 0 _ a (fun j hj => by
    have hj' : j < n := by rw [htl] at hj; exact hj
    simp [hj']) (by simpa using htl) inv0 (by rw [htl]; exact hlex) h
  refine wp_region_any hm ?_
  have := wpAny_of_headQ (Q' := Q) (g := l.toArray.size - n) (fun listed a' w' hw' hL => by
    have := wpAny_of_seq (md := .any) (Q' := Q) (l.drop n) n listed a' w' (fun j => by simp [List.getElem?_drop]) (by rw [hdl]; exact hL.1) (hL.2 w' hw')
    rwa [hdl] at this) _ _ _ _ hC H
  rw [htl, show n + (l.toArray.size - n) = l.toArray.size by omega] at this
  exact this

/-- The same at the class 'of what was there nothing has turned'. -/
theorem wp_region_below_tail {id : Nat} {Q : Exit → Act → World → Prop} {a : Act} {w : World} {l : List Oper} (n : Nat) (hm : P.follows .mixedOrders = true) (hB : Region.lexTailB .any l.toArray n = true)
    (h : wpQuiet P l.toArray (fun w' => ∃ p : Regrown, w' = grow (redrawn w p.d) p.os) (fun a' => ∀ w', (∃ p : Regrown, w' = grow (redrawn w p.d) p.os) → wpList P l.toArray Q (l.drop n) a' w') (l.take n) a) : (Code.region id l.toArray true).wp P Q a w :=
  wp_region_quiet_tail (C := fun w' => ∃ p : Regrown, w' = grow (redrawn w p.d) p.os) n hm hB ⟨⟨w.drawn + 1, #[]⟩, by rw [grow_empty]; rfl⟩ h
end
end Go.Proofs.YtcpbbgkeigbndaaGreat

/- More words over any program: contracts in the class of worlds that have grown alone; blocks at a place. No condition of its own. -/
namespace Go.Proofs.YtcpbbgkeigbndaaGreat
open Go Go.RowKit Go.Lib Go.Sort

theorem cls_of {P : Program} {f : FuncId} {args : Array Value} {v : Value} (h : ∀ W, Calls P f args W fun e w' => e = .returned v ∧ Chg [] W w') (w : World) (d : Nat) (os : Array Obj) :
    Calls P f args (grow (redrawn w d) os) fun e w'' => e = .returned v ∧ ∃ p : Regrown, w'' = grow (redrawn w p.d) p.os :=
  Calls.regrown_of ((h _).mono fun _ _ ⟨h1, h2⟩ => ⟨h1, h2.below (by simp) (Nat.le_refl _)⟩)
theorem Blk.new_at (w : World) (t : TypeId) (cs : Array Value) {g : Nat} (h : w.heap.size = g) : Blk (w.alloc (.cells cs t)) g t cs.toList := by subst h; exact Blk.new w t cs
theorem chg_cls {w w' : World} (h : ∃ p : Regrown, w' = grow (redrawn w p.d) p.os) : Chg [] w w' := by
  obtain ⟨p, rfl⟩ := h
  exact Chg.of_below (below_regrown w p.d p.os)
theorem Chg.set1 {a w : World} (h : Chg [] a w) {g : Nat} (hg : a.heap.size ≤ g) (i : Nat) (u : Value) : Chg [] a (w.setCell ⟨g, i, none⟩ u) := h.setCell (.inr hg) u

section
variable {P : Program} {ops : Array Oper} {C : World → Prop}
/-- In a region that draws: a whole struct or array is read, in every world of the class. -/
theorem wpQuiet_load {Q : Act → Prop} {a : Act} {o : Oper} {rest : List Oper} (hw : Region.wanted o (yielded ops a.tmps) = true) (ty : TypeId) (x : Operand) (ho : o.op = .load ty x)
    (b off : Nat) (hx : a.eval x = .pointer (some ⟨b, off, none⟩)) (cs : List Value) (d : TypeDesc) (hc : ∀ W, C W → W.rangeAt b off cs)
    (hu : P.underlying ty = some d) (hd : d.isRow = true) (hi : (P.info? ty).map (·.size) = some cs.length)
    (h : wpQuiet P ops C Q rest (a.put o.dst (.agg cs.toArray))) : wpQuiet P ops C Q (o :: rest) a := by
  refine wpQuiet_step fun K hK => ?_
  rw [if_pos hw]
  refine ⟨_, fun W hW => ?_, hK _ h⟩
  unfold Oper.quietAt execOp
  simp only [ho, hx, Instr.loadAt, Instr.sureAddr, Sem.run_bind, Sem.run_pure, Result.andThen_ok, run_loadVar_mid W b off ty cs d (hc W hW) hu hd hi]
  exact ⟨rfl, rfl⟩
theorem quiet_load {a : Act} {o : Oper} {K : Act → Prop} (ty : TypeId) (x : Operand) (ho : o.op = .load ty x)
    (b off : Nat) (hx : a.eval x = .pointer (some ⟨b, off, none⟩)) (cs : List Value) (d : TypeDesc) (hc : ∀ W, C W → W.rangeAt b off cs)
    (hu : P.underlying ty = some d) (hd : d.isRow = true) (hi : (P.info? ty).map (·.size) = some cs.length)
    (h : K (a.put o.dst (.agg cs.toArray))) : o.quiet P a C K := by
  refine ⟨_, fun W hW => ?_, h⟩
  unfold Oper.quietAt execOp
  simp only [ho, hx, Instr.loadAt, Instr.sureAddr, Sem.run_bind, Sem.run_pure, Result.andThen_ok, run_loadVar_mid W b off ty cs d (hc W hW) hu hd hi]
  exact ⟨rfl, rfl⟩
/-- A range of a block that is known whole, in every world that has grown alone. -/
theorem Blk.range_cls {w : World} {g : Nat} {t : TypeId} {cs : List Value} (hb : Blk w g t cs) (off : Nat) (ds : List Value) (hd : ∀ j v, ds[j]? = some v → cs[off + j]? = some v) : ∀ W, (∃ p : Regrown, W = grow (redrawn w p.d) p.os) → W.rangeAt g off ds := by
  rintro W hW j v hv
  exact (hb.chg (chg_cls hW) (by simp)).cell_of (hd j v hv)
theorem Blk.range_cls0 {w : World} {g : Nat} {t : TypeId} {cs : List Value} (hb : Blk w g t cs) : ∀ W, (∃ p : Regrown, W = grow (redrawn w p.d) p.os) → W.rangeAt g 0 cs :=
  hb.range_cls 0 cs fun j v hv => by rw [Nat.zero_add]; exact hv
end
end Go.Proofs.YtcpbbgkeigbndaaGreat

/- A row that a call has made. -/
namespace Go.Proofs.YtcpbbgkeigbndaaGreat
open Go.RowKit Go.Lib
/-- A row that the call has made: it owns its cells, its block is new, and nothing that was there has turned. -/
structure Acc (w0 w : World) (T : TypeId) (size : Nat) (v : Value) (n : Nat) (xs : List Value) : Prop where
  own : Own w T size v n xs
  new : ∀ k, v.ownBlock = some k → w0.heap.size ≤ k
  chg : Chg [] w0 w
theorem Acc.later {w0 w w' : World} {T : TypeId} {size n : Nat} {v : Value} {xs : List Value} (h : Acc w0 w T size v n xs) (hc : Chg [] w w') : Acc w0 w' T size v n xs :=
  ⟨h.own.chg hc (by simp), h.new, h.chg.trans hc⟩
theorem Acc.alloc {w0 w : World} {T : TypeId} {size n : Nat} {v : Value} {xs : List Value} (h : Acc w0 w T size v n xs) (o : Obj) : Acc w0 (w.alloc o) T size v n xs := h.later ((Chg.refl [] w).alloc o)
theorem Acc.nil (w0 : World) (T : TypeId) (size : Nat) {w : World} (h : Chg [] w0 w) : Acc w0 w T size (.slice none 0 0) 0 [] := ⟨Own.nil _ _ _, by simp [Value.ownBlock], h⟩
theorem Acc.append {w0 w w' : World} {T : TypeId} {size n m : Nat} {v v' : Value} {xs ys : List Value} (h : Acc w0 w T size v n xs) (ho : Own w' T size v' m ys) (hc : Chg v.ownBlock.toList w w')
    (hb : v'.ownBlock = v.ownBlock ∨ ∃ k, v'.ownBlock = some k ∧ w.heap.size ≤ k) : Acc w0 w' T size v' m ys := by
  refine ⟨ho, ?_, h.chg.seq hc ?_⟩
  · intro k hk
    rcases hb with hb | ⟨j, hj, hj2⟩
    · exact h.new k (hb ▸ hk)
    · rw [hj] at hk; injection hk with hk; have := h.chg.size; omega
  · intro x hx
    have := h.new x (by simpa using hx)
    exact .inr this
theorem Acc.keep {w0 w w' : World} {T t : TypeId} {size n g : Nat} {v : Value} {xs cs : List Value} (h : Acc w0 w T size v n xs) (hc : Chg v.ownBlock.toList w w') (hg : Blk w g t cs) (hne : T ≠ t) : Blk w' g t cs :=
  hg.chg hc (by
    intro hm
    exact h.own.ne_ hg hne (by simpa using hm))

end Go.Proofs.YtcpbbgkeigbndaaGreat

/- A reckoner of calls, part 0: worlds that differ at some blocks, what an object is. Proved over any program. No condition of its own. -/
namespace Go.Proofs.YtcpbbgkeigbndaaGreat
open Go Go.RowKit Go.Lib Go.Sort

namespace Ax
/-- w' is w but for the blocks of S and new blocks. -/
structure Cg (S : Nat → Prop) (w w' : World) : Prop where
  os : w'.os = w.os
  tape : w'.tape = w.tape
  output : w'.output = w.output
  size : w.heap.size ≤ w'.heap.size
  block : ∀ k, k < w.heap.size → ¬ S k → w'.heap[k]? = w.heap[k]?
/-- No block. -/
def No (_ : Nat) : Prop := False
section
variable {S T : Nat → Prop} {a b c w w' : World}
theorem Cg.refl (S : Nat → Prop) (w : World) : Cg S w w := ⟨rfl, rfl, rfl, Nat.le_refl _, fun _ _ _ => rfl⟩
theorem Cg.seq (h : Cg S a b) (k : Cg T b c) (hT : ∀ x, T x → S x ∨ a.heap.size ≤ x) : Cg S a c :=
  ⟨k.os.trans h.os, k.tape.trans h.tape, k.output.trans h.output, Nat.le_trans h.size k.size, fun i hi hS => (k.block i (Nat.lt_of_lt_of_le hi h.size) (fun hm => by rcases hT i hm with h1 | h1; exact hS h1; omega)).trans (h.block i hi hS)⟩
theorem Cg.trans (h : Cg S a b) (k : Cg S b c) : Cg S a c := h.seq k fun _ h => .inl h
theorem Cg.mono (h : Cg T w w') (hS : ∀ k, T k → S k ∨ w.heap.size ≤ k) : Cg S w w' := (Cg.refl S w).seq h hS
theorem Cg.drew (h : Cg S a w) : Cg S a w.drew := ⟨h.os, h.tape, h.output, h.size, h.block⟩
theorem Cg.of {L : List Nat} (h : Chg L w w') (hS : ∀ k ∈ L, S k ∨ w.heap.size ≤ k) : Cg S w w' :=
  ⟨h.os, h.tape, h.output, h.size, fun k hk hn => h.block k hk (fun hm => by rcases hS k hm with h1 | h1; exact hn h1; omega)⟩
theorem Cg.chg {L : List Nat} (h : Cg S w w') (hS : ∀ k, S k → k ∈ L ∨ w.heap.size ≤ k) : Chg L w w' :=
  ⟨h.os, h.tape, h.output, h.size, fun k hk hn => h.block k hk (fun hm => by rcases hS k hm with h1 | h1; exact hn h1; omega)⟩
theorem Cg.blk {g : Nat} {t : TypeId} {cs : List Value} (hc : Cg S w w') (h : Blk w g t cs) (hg : ¬ S g) : Blk w' g t cs := (hc.block g h.lt hg).trans h
theorem Cg.cell (hc : Cg S w w') {p : Addr} (hp : p.block < w.heap.size) (hS : ¬ S p.block) : w'.cell? p = w.cell? p := World.cell?_of_block (w := w) (hc.block _ hp hS)
theorem Cg.own {ty size n : Nat} {v : Value} {xs : List Value} (hc : Cg S w w') (h : Own w ty size v n xs) (hS : ∀ k, v.ownBlock = some k → ¬ S k) : Own w' ty size v n xs :=
  h.keep fun k hk => hc.block k (h.lt k hk) (hS k hk)
end

/-- What an object is: of a world, its value, its blocks; it stands where its blocks stand. -/
structure Pred where
  on : World → Value → (Nat → Prop) → Prop
  lt : ∀ {w v F}, on w v F → ∀ k, F k → k < w.heap.size
  cg : ∀ {w w' v F S}, on w v F → Cg S w w' → (∀ k, F k → ¬ S k) → on w' v F
  /-- Is the value a pointer that is not nil? -/
  ptr : Bool := false
  isptr : ∀ {w v F}, on w v F → ptr = true → ∃ a, v = .pointer (some a)
  one : ∀ {w v F}, on w v F → v.oneCell' = true
end Ax
end Go.Proofs.YtcpbbgkeigbndaaGreat

/- What kinds of objects the rows know. Proved over any program. No condition of its own. -/
namespace Go.Proofs.YtcpbbgkeigbndaaGreat
open Go Go.RowKit Go.Lib Go.Sort
namespace Ax
/-- A map of plain values: its entries, in their order. -/
def mapPred (es : List (Value × Value)) : Pred where
  on w v F := ∃ g entries clock, v = .map (some g) ∧ w.heap[g]? = some (.map entries clock) ∧ (entries.toList.map fun e => (e.key, e.val)) = es ∧ ∀ k, F k ↔ k = g
  lt := by
    rintro w v F ⟨g, entries, clock, _, h, _, hF⟩ k hk
    rw [(hF k).1 hk]
    rcases Nat.lt_or_ge g w.heap.size with hlt | hge
    · exact hlt
    · rw [Array.getElem?_eq_none hge] at h; cases h
  cg := by
    rintro w w' v F S ⟨g, entries, clock, hv, h, he, hF⟩ hc hS
    have hg : F g := (hF g).2 rfl
    refine ⟨g, entries, clock, hv, ?_, he, hF⟩
    rw [hc.block g ?_ (hS g hg)]
    · exact h
    · rcases Nat.lt_or_ge g w.heap.size with hlt | hge
      · exact hlt
      · rw [Array.getElem?_eq_none hge] at h; cases h
  isptr := fun _ h => by cases h
  one := by
    rintro w v F ⟨g, entries, clock, rfl, _⟩
    rfl
/-- An open channel of one's own: its room, how often was sent, received, what waits in it. -/
def chPred (cap s r : Nat) (buf : List Value) : Pred where
  on w v F := ∃ c, v = .chan (some c) ∧ w.heap[c]? = some (.chan cap buf.toArray false s r false) ∧ ∀ k, F k ↔ k = c
  lt := by
    rintro w v F ⟨g, _, h, hF⟩ k hk
    rw [(hF k).1 hk]
    rcases Nat.lt_or_ge g w.heap.size with hlt | hge
    · exact hlt
    · rw [Array.getElem?_eq_none hge] at h; cases h
  cg := by
    rintro w w' v F S ⟨g, hv, h, hF⟩ hc hS
    refine ⟨g, hv, ?_, hF⟩
    rw [hc.block g ?_ (hS g ((hF g).2 rfl))]
    · exact h
    · rcases Nat.lt_or_ge g w.heap.size with hlt | hge
      · exact hlt
      · rw [Array.getElem?_eq_none hge] at h; cases h
  isptr := fun _ h => by cases h
  one := by
    rintro w v F ⟨g, rfl, _⟩
    rfl
/-- The kinds' data. -/
abbrev D : Nat → Type
  | 0 => List (Value × Value)
  | 1 => Nat × Nat × Nat × List Value
  | _ => Unit
def noPred : Pred where
  on _ _ _ := False
  lt := fun h => h.elim
  cg := fun h => h.elim
  isptr := fun h => h.elim
  one := fun h => h.elim
def pred : (t : Nat) → D t → Pred
  | 0, es => mapPred es
  | 1, x => chPred x.1 x.2.1 x.2.2.1 x.2.2.2
  | _ + 2, _ => noPred
end Ax
end Go.Proofs.YtcpbbgkeigbndaaGreat
