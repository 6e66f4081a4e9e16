/- More words for memory, proved over any program: append of a made row, clear. No condition of its own. -/
import Derived.Test.YthhddmamlpnjpaaMem
import Derived.Lib.AppendZeros
import Derived.Lib.Overlaps
namespace Go.Proofs.Ythhddmamlpnjpaa
open Go Go.RowKit
section
variable {P : Program} (w : World)

theorem run_append_make_grow (t tn ty e : TypeId) (i : TypeInfo) (z : Value) (size bytes : Nat) (ht : P.underlying t = some (.slice e)) (htn : P.underlying tn = some (.int .i64)) (hi : P.info? e = some i) (hz : i.zero = some z)
    (hsize : i.size = size) (hby : i.bytes = bytes) (hzs : z.cells.size = size) (hsz : 0 < size)
    (b : Addr) (n c : Nat) (olds : List Value) (hlo : olds.length = n * size) (holds : ∀ j u, olds[j]? = some u → w.cell? (b.add j) = some u)
    (l : Nat) (h0 : 0 < l) (hg : c < n + l) (h63 : n + l ≤ maxLen) (hbytes : (n + l) * bytes ≤ 140737488355328) :
    (Builtin.append_ #[t, tn] ty #[.slice (some b) n c, .int .i64 l]).run P w =
      .ok (.slice (some ⟨w.heap.size, 0, none⟩) (n + l) (grownCap w (n + l) c e))
        (w.drew.alloc (.cells (olds.toArray ++ Builtin.zeroCells z.cells l ++ Builtin.zeroCells z.cells (grownCap w (n + l) c e - (n + l))) e)) := by
  subst hsize
  subst hby
  simp only [maxLen] at h63
  have hn : ¬ (n + l ≤ c) := by omega
  have hw : IntKind.i64.wrap (l : Int) = l := by rw [IntKind.wrap_i64]; omega
  have h63' : ¬ (9223372036854775807 < ((n : Int) + (l : Int))) := by omega
  have hfit := growslice_fits (need := n + l) (old := c) (bytes := i.bytes) (by omega) hbytes
  have h48' : ¬ (281474976710656 < Builtin.nextslicecap (n + l) c * i.bytes) := by omega
  have hlb : l * i.bytes ≤ (n + l) * i.bytes := Nat.mul_le_mul_right _ (by omega)
  have h48i : ¬ (281474976710656 < (l : Int) * (i.bytes : Int)) := by
    rw [← Int.natCast_mul]
    omega
  have hneg : ¬ ((l : Int) < 0) := by omega
  have hns : ¬ (l * i.size = 0) := Nat.mul_ne_zero (by omega) (by omega)
  have hfo := run_firstCells_some (P := P) w.drew i.size n b n c olds hlo (by simpa using holds)
  simp [Builtin.append_, run_underlying ht, run_underlying htn, sizeOf, typeInfo, zeroValue, hi, hz, asInt, asIntOf, hw, hn, hneg, h63', h48', h48i, Question.forced, hfo, newRow, grownCap]
  exact fun h => absurd h hns

theorem wpList_append_make {ops : Array Oper} {rest : List Oper} {o : Oper} {a : Act} {Q : Exit → Act → World → Prop} (hgd : o.guard = none) (s x : Operand) (t tn : TypeId)
    (ho : o.op = .call { callee := .builtin .append, args := #[s, x], argTypes := #[t, tn] })
    (e : TypeId) (i : TypeInfo) (z : Value) (size bytes : Nat) (ht : P.underlying t = some (.slice e)) (htn : P.underlying tn = some (.int .i64)) (hi : P.info? e = some i) (hz : i.zero = some z)
    (hsize : i.size = size) (hby : i.bytes = bytes) (hzs : z.cells.size = size) (hsz : 0 < size)
    (b : Addr) (n c : Nat) (olds : List Value) (hs : a.eval s = .slice (some b) n c) (hlo : olds.length = n * size) (holds : ∀ j u, olds[j]? = some u → w.cell? (b.add j) = some u)
    (l N : Nat) (hN : n + l = N) (hx : a.eval x = .int .i64 l) (h0 : 0 < l) (hg : c < N) (h63 : N ≤ maxLen) (hbytes : N * bytes ≤ 140737488355328)
    (h : ∀ cap' Z w', N ≤ cap' → cap' ≤ maxLen → Z.length = (cap' - n) * size → Hid (Blk w' w.heap.size e (olds ++ Z)) → Chg [] w w' →
      wpList P ops Q rest (a.put o.dst (.slice (some ⟨w.heap.size, 0, none⟩) N cap')) w') : wpList P ops Q (o :: rest) a w := by
  subst hN
  have hrun := run_append_make_grow (P := P) w t tn o.type e i z size bytes ht htn hi hz hsize hby hzs hsz b n c olds hlo holds l h0 hg h63 hbytes
  refine Lib.wpList_append_run w hgd s x t tn ho _ _ hs hx _ _ hrun ?_
  have hge := grownCap_ge w (n + l) c e
  have hcm := grownCap_le_maxLen w (n + l) c e h63
  refine h _ (Builtin.zeroCells z.cells l ++ Builtin.zeroCells z.cells (grownCap w (n + l) c e - (n + l))).toList _ hge hcm ?_ ?_ ((Chg.refl _ _).drew.alloc _)
  · rw [Array.length_toList, Array.size_append, size_zeroCells, size_zeroCells, hzs, ← Nat.add_mul]
    congr 1; omega
  · have := Blk.new w.drew e (olds.toArray ++ Builtin.zeroCells z.cells l ++ Builtin.zeroCells z.cells (grownCap w (n + l) c e - (n + l)))
    have e1 : (olds.toArray ++ Builtin.zeroCells z.cells l ++ Builtin.zeroCells z.cells (grownCap w (n + l) c e - (n + l))).toList = olds ++ (Builtin.zeroCells z.cells l ++ Builtin.zeroCells z.cells (grownCap w (n + l) c e - (n + l))).toList := by simp
    rw [e1] at this
    exact this

/-- append where there is room, into a block that is known whole; the source may lie in the same block. -/
theorem run_append_room_blk (t ty e : TypeId) (size : Nat) (ht : P.underlying t = some (.slice e)) (hs : (P.info? e).map (·.size) = some size)
    (g o n c : Nat) (L : List Value) (T : TypeId) (hg : Blk w g T L) (sp : Option Addr) (m sc : Nat) (news : List Value) (hl : news.length = m * size)
    (hsrc : 0 < news.length → ∃ ad, sp = some ad ∧ ∀ j v, news[j]? = some v → w.cell? (ad.add j) = some v) (h1 : ∀ v ∈ news, v.oneCell' = true) (hroom : n + m ≤ c) (hfit : o + n * size + news.length ≤ L.length) :
    (Builtin.append_ #[t, t] ty #[.slice (some ⟨g, o, none⟩) n c, .slice sp m sc]).run P w = .ok (.slice (some ⟨g, o, none⟩) (n + m) c) (w.setRow g (splice L (o + n * size) news).toArray) := by
  have hst := run_storeCells_blk (P := P) w (o + n * size) news hg hfit h1
  have hfc : (Builtin.firstCells size m (.slice sp m sc)).run P w = .ok news.toArray w := by
    by_cases h0 : 0 < news.length
    · obtain ⟨ad, rfl, hc⟩ := hsrc h0
      exact run_firstCells_some (P := P) w size _ ad _ _ news hl hc
    · obtain rfl : news = [] := List.eq_nil_of_length_eq_zero (by omega)
      cases sp with
      | none => simp [Builtin.firstCells]
      | some ad => exact run_firstCells_some (P := P) w size _ ad _ _ [] hl (by simp)
  cases hq : P.info? e with
  | none => simp [hq] at hs
  | some i =>
    have hi : i.size = size := by simpa [hq] using hs
    simp [Builtin.append_, run_underlying ht, sizeOf, typeInfo, hq, Builtin.lenOf, hroom, hfc, Addr.add_lit, hi, hst]

theorem wp_append_room_blk {o : Oper} {a : Act} {K : Act → World → Prop} {Q : Exit → Act → World → Prop} (s x : Operand) (t : TypeId)
    (ho : o.op = .call { callee := .builtin .append, args := #[s, x], argTypes := #[t, t] })
    (e : TypeId) (size : Nat) (ht : P.underlying t = some (.slice e)) (hz : (P.info? e).map (·.size) = some size)
    (g off n c : Nat) (sp : Option Addr) (m sc : Nat) (hs : a.eval s = .slice (some ⟨g, off, none⟩) n c) (hx : a.eval x = .slice sp m sc)
    (L : List Value) (T : TypeId) (hg : Blk w g T L) (news : List Value) (hl : news.length = m * size)
    (hsrc : 0 < news.length → ∃ ad, sp = some ad ∧ ∀ j v, news[j]? = some v → w.cell? (ad.add j) = some v) (h1 : ∀ v ∈ news, v.oneCell' = true) (hroom : n + m ≤ c) (hfit : off + n * size + news.length ≤ L.length)
    (h : ∀ w', Hid (Blk w' g T (splice L (off + n * size) news)) → Chg [g] w w' → K (a.put o.dst (.slice (some ⟨g, off, none⟩) (n + m) c)) w') : o.wp P a w K Q := by
  have hrun := run_append_room_blk (P := P) w t o.type e size ht hz g off n c L T hg sp m sc news hl hsrc h1 hroom hfit
  unfold Oper.wp execOp
  simp only [ho, resolve, invoke, builtin, Sem.run_bind, Sem.run_pure, Result.andThen_ok, List.map_toArray, List.map_cons, List.map_nil, hs, hx, hrun]
  exact h _ (hg.row _) ((Chg.refl _ _).setRow (.inl (by simp)) _)

theorem wpList_append_room_blk {ops : Array Oper} {rest : List Oper} {o : Oper} {a : Act} {Q : Exit → Act → World → Prop} (hgd : o.guard = none) (s x : Operand) (t : TypeId)
    (ho : o.op = .call { callee := .builtin .append, args := #[s, x], argTypes := #[t, t] })
    (e : TypeId) (size : Nat) (ht : P.underlying t = some (.slice e)) (hz : (P.info? e).map (·.size) = some size)
    (g off n c : Nat) (sp : Option Addr) (m sc : Nat) (hs : a.eval s = .slice (some ⟨g, off, none⟩) n c) (hx : a.eval x = .slice sp m sc)
    (L : List Value) (T : TypeId) (hg : Blk w g T L) (news : List Value) (hl : news.length = m * size)
    (hsrc : 0 < news.length → ∃ ad, sp = some ad ∧ ∀ j v, news[j]? = some v → w.cell? (ad.add j) = some v) (h1 : ∀ v ∈ news, v.oneCell' = true) (hroom : n + m ≤ c) (hfit : off + n * size + news.length ≤ L.length)
    (h : ∀ w', Hid (Blk w' g T (splice L (off + n * size) news)) → Chg [g] w w' → wpList P ops Q rest (a.put o.dst (.slice (some ⟨g, off, none⟩) (n + m) c)) w') : wpList P ops Q (o :: rest) a w :=
  wpList_plain hgd fun _ hK => wp_append_room_blk w s x t ho e size ht hz g off n c sp m sc hs hx L T hg news hl hsrc h1 hroom hfit fun w' h2 h3 => hK _ _ (h w' h2 h3)

theorem step_append_room_blk {ops : Array Oper} {o : Oper} {a : Act} {K : Act → World → Prop} {Q : Exit → Act → World → Prop} {E : Prop} (hgd : o.guard = none) (s x : Operand) (t : TypeId)
    (ho : o.op = .call { callee := .builtin .append, args := #[s, x], argTypes := #[t, t] })
    (e : TypeId) (size : Nat) (ht : P.underlying t = some (.slice e)) (hz : (P.info? e).map (·.size) = some size)
    (g off n c : Nat) (sp : Option Addr) (m sc : Nat) (hs : a.eval s = .slice (some ⟨g, off, none⟩) n c) (hx : a.eval x = .slice sp m sc)
    (L : List Value) (T : TypeId) (hg : Blk w g T L) (news : List Value) (hl : news.length = m * size)
    (hsrc : 0 < news.length → ∃ ad, sp = some ad ∧ ∀ j v, news[j]? = some v → w.cell? (ad.add j) = some v) (h1 : ∀ v ∈ news, v.oneCell' = true) (hroom : n + m ≤ c) (hfit : off + n * size + news.length ≤ L.length)
    (h : ∀ w', Hid (Blk w' g T (splice L (off + n * size) news)) → Chg [g] w w' → K (a.put o.dst (.slice (some ⟨g, off, none⟩) (n + m) c)) w') :
    if Region.wanted o (yielded ops a.tmps) = true then Oper.wp P o a w K Q else E := by
  have hw : Region.wanted o (yielded ops a.tmps) = true := by simp [Region.wanted, hgd]
  rw [if_pos hw]
  exact wp_append_room_blk w s x t ho e size ht hz g off n c sp m sc hs hx L T hg news hl hsrc h1 hroom hfit h

/-- clear of a stretch of a block that is known whole. -/
theorem run_clear_blk (t ty e : TypeId) (i : TypeInfo) (z : Value) (size : Nat) (ht : P.underlying t = some (.slice e)) (hi : P.info? e = some i) (hz : i.zero = some z)
    (hzs : z.cells.size = size) (h1 : ∀ v ∈ z.cells.toList, v.oneCell' = true) (hsz : 0 < size) (g o n c : Nat) (L : List Value) (T : TypeId) (hg : Blk w g T L) (hn : 0 < n) (hf : o + n * size ≤ L.length) :
    ∃ Z : List Value, Z.length = n * size ∧ (Builtin.clear_ #[t] ty #[.slice (some ⟨g, o, none⟩) n c]).run P w = .ok (.tuple #[]) (w.setRow g (splice L o Z).toArray) := by
  have hl : (Builtin.zeroCells z.cells n).toList.length = n * size := by rw [Array.length_toList, size_zeroCells, hzs]
  have hst := run_storeCells_blk (P := P) w o (Builtin.zeroCells z.cells n).toList hg (by omega) (by
    intro v hv
    simp only [Builtin.zeroCells, Array.toList_map, List.mem_map] at hv
    obtain ⟨k, _, rfl⟩ := hv
    have hk : k % z.cells.size < z.cells.size := Nat.mod_lt _ (by omega)
    apply h1
    rw [getElem!_pos z.cells _ hk]
    exact Array.getElem_mem_toList hk)
  refine ⟨_, hl, ?_⟩
  have hn' : n ≠ 0 := by omega
  obtain ⟨m, rfl⟩ : ∃ m, n = m + 1 := ⟨n - 1, by omega⟩
  simp [Builtin.clear_, run_underlying ht, zeroValue, typeInfo, hi, hz, hst]

theorem wpList_clear_blk {ops : Array Oper} {rest : List Oper} {o : Oper} {a : Act} {Q : Exit → Act → World → Prop} (hgd : o.guard = none) (s : Operand) (t : TypeId)
    (ho : o.op = .call { callee := .builtin .clear, args := #[s], argTypes := #[t] })
    (e : TypeId) (i : TypeInfo) (z : Value) (size : Nat) (ht : P.underlying t = some (.slice e)) (hi : P.info? e = some i) (hz : i.zero = some z)
    (hzs : z.cells.size = size) (h1 : ∀ v ∈ z.cells.toList, v.oneCell' = true) (hsz : 0 < size) (g off n c : Nat) (hs : a.eval s = .slice (some ⟨g, off, none⟩) n c)
    (L : List Value) (T : TypeId) (hg : Blk w g T L) (hn : 0 < n) (hf : off + n * size ≤ L.length)
    (h : ∀ Z w', Z.length = n * size → Hid (Blk w' g T (splice L off Z)) → Chg [g] w w' → wpList P ops Q rest (a.put o.dst (.tuple #[])) w') : wpList P ops Q (o :: rest) a w := by
  obtain ⟨Z, hl, hrun⟩ := run_clear_blk (P := P) w t o.type e i z size ht hi hz hzs h1 hsz g off n c L T hg hn hf
  refine wpList_plain hgd fun K hK => ?_
  unfold Oper.wp
  simp [execOp, ho, resolve, invoke, builtin, hs, hrun, Result.andThen]
  exact hK _ _ (h Z _ hl (hg.row _) ((Chg.refl _ _).setRow (.inl (by simp)) _))
end
end Go.Proofs.Ythhddmamlpnjpaa
