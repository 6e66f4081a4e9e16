/- slices.Insert at the rows of asks, walked: what it returns and what it does to memory. -/
import Derived.Test.YthhddmamlpnjpaaBktM
import Derived.Deep.RegionLaw
import Derived.Laws.Externs
namespace Go.Proofs.Ythhddmamlpnjpaa
open Go.RowKit Go.Lib

theorem Try.info40 : (Try.prog.info? 40).map (fun i => (i.zero, i.size, i.bytes)) = some (some (.agg #[.int .u64 0, .int .u64 0]), 2, 16) := by kernel_rfl

/-- What Insert of one element at place k leaves. -/
def InsPost (xs : List Value) (k : Nat) (a b : Value) (n : Nat) (v : Value) (w : World) (e : Ending) (w' : World) : Prop :=
  ∃ A' c', e = .returned (.slice A' (n + 1) c') ∧ Own w' 40 2 (.slice A' (n + 1) c') (n + 1) (xs.take (k * 2) ++ [a, b] ++ xs.drop (k * 2)) ∧ Chg v.ownBlock.toList w w' ∧
    ((Value.slice A' (n + 1) c').ownBlock = v.ownBlock ∨ ∃ k, (Value.slice A' (n + 1) c').ownBlock = some k ∧ w.heap.size ≤ k)

set_option maxHeartbeats 400000 in
theorem insert_end (A : Option Addr) (n c gv cv : Nat) (xs : List Value) (a b : Value) (w : World) (hown : Own w 40 2 (.slice A n c) n xs) (hb : Blk w gv 40 [a, b]) (h1 : ∀ v ∈ [a, b], v.oneCell' = true) (hn : n ≤ 1000000) :
    Calls Try.prog 34 #[.slice A n c, .int .i64 n, .slice (some ⟨gv, 0, none⟩) 1 cv] w (InsPost xs n a b n (.slice A n c) w) := by
  obtain ⟨i0, hi, hz0, hz1, hz2⟩ := info_parts Try.info40
  have hnews : ∀ (j : Nat) (u : Value), [a, b][j]? = some u → w.cell? ((⟨gv, 0, none⟩ : Addr).add j) = some u := fun j u hu => by rw [Addr.add_lit, Nat.zero_add]; exact hb.cell_of hu
  have HN := hid hnews
  have H1 := hid h1
  clear hnews h1 hb
  obtain ⟨_, _, hv, hnc, hcm⟩ := hown.form
  injection hv with e1 e2 e3
  subst e1; subst e3
  unfold maxLen at hcm
  by_cases hcn : c = n
  · subst hcn
    go_enter Try.func34, Try.ntmps34
    go_wp2_with (at_builtin; refine wpList_append_any _ rfl _ _ 25 rfl 40 i0 _ 2 16 Try.underlying25 hi hz0 hz1 hz2 rfl (by omega) (.slice A c c) c xs rfl hown ⟨gv, 0, none⟩ 1 cv [a, b] rfl rfl HN.out H1.out (by unfold maxLen; omega) (by omega) ?_; intro A' c' w' hown' hc' hb')
    go_ret
    refine ⟨A', c', rfl, ?_, hc', hb'⟩
    have hl := hown.len
    rw [List.take_of_length_le (by omega), List.drop_of_length_le (by omega), List.append_nil]
    exact hown'
  · go_enter Try.func34, Try.ntmps34
    go_wp2_with (at_builtin; refine wpList_append_any _ rfl _ _ 25 rfl 40 i0 _ 2 16 Try.underlying25 hi hz0 hz1 hz2 rfl (by omega) (.slice A n c) n xs rfl hown ⟨gv, 0, none⟩ 1 cv [a, b] rfl rfl HN.out H1.out (by unfold maxLen; omega) (by omega) ?_; intro A' c' w' hown' hc' hb')
    go_ret
    refine ⟨A', c', rfl, ?_, hc', hb'⟩
    have hl := hown.len
    rw [List.take_of_length_le (by omega), List.drop_of_length_le (by omega), List.append_nil]
    exact hown'

/-- What stands in the three pieces of the new row. -/
theorem ins_row {α : Type} (pre xs Z ab : List α) (k n : Nat) (hx : xs.length = n * 2) (hk : k < n) (hab : ab.length = 2) :
    ((splice (splice (pre ++ (xs.take (k * 2) ++ Z)) (pre.length + k * 2) ab) (pre.length + (k + 1) * 2) (xs.drop (k * 2))).drop pre.length).take ((n + 1) * 2) = xs.take (k * 2) ++ ab ++ xs.drop (k * 2) := by
  have h1 : splice (pre ++ (xs.take (k * 2) ++ Z)) (pre.length + k * 2) ab = pre ++ (xs.take (k * 2) ++ (ab ++ Z.drop 2)) := by
    unfold splice
    have hl : (xs.take (k * 2)).length = k * 2 := by rw [List.length_take]; omega
    rw [← List.append_assoc pre, List.take_append_of_le_length (by rw [List.length_append, hl]; exact Nat.le_refl _), List.take_of_length_le (by rw [List.length_append, hl]; exact Nat.le_refl _)]
    rw [List.drop_append, List.drop_of_length_le (by rw [List.length_append, hl]; omega), List.nil_append]
    rw [List.length_append, hl, hab, show pre.length + k * 2 + 2 - (pre.length + k * 2) = 2 by omega]
    simp [List.append_assoc]
  rw [h1]
  unfold splice
  have hl : (xs.take (k * 2)).length = k * 2 := by rw [List.length_take]; omega
  have h2 : (pre ++ (xs.take (k * 2) ++ (ab ++ Z.drop 2))).take (pre.length + (k + 1) * 2) = pre ++ (xs.take (k * 2) ++ ab) := by
    rw [← List.append_assoc (xs.take (k * 2)), ← List.append_assoc pre, List.take_append_of_le_length (by simp only [List.length_append, hl, hab]; omega), List.take_of_length_le (by simp only [List.length_append, hl, hab]; omega)]
  rw [h2]
  rw [show pre ++ (xs.take (k * 2) ++ ab) ++ (xs.drop (k * 2) ++ List.drop (pre.length + (k + 1) * 2 + (xs.drop (k * 2)).length) (pre ++ (xs.take (k * 2) ++ (ab ++ Z.drop 2)))) = pre ++ ((xs.take (k * 2) ++ ab ++ xs.drop (k * 2)) ++ List.drop (pre.length + (k + 1) * 2 + (xs.drop (k * 2)).length) (pre ++ (xs.take (k * 2) ++ (ab ++ Z.drop 2)))) by simp [List.append_assoc]]
  rw [List.drop_left' rfl, List.take_append_of_le_length (by simp only [List.length_append, hl, hab, List.length_drop]; omega), List.take_of_length_le (by simp only [List.length_append, hl, hab, List.length_drop]; omega)]
set_option maxHeartbeats 400000 in
theorem insert_grow (A : Option Addr) (n c k gv cv : Nat) (xs : List Value) (a b : Value) (w : World) (hown : Own w 40 2 (.slice A n c) n xs) (hb : Blk w gv 40 [a, b]) (h1 : ∀ v ∈ xs, v.oneCell' = true) (h2 : ∀ v ∈ [a, b], v.oneCell' = true) (hn : n ≤ 1000000) (hk : k < n) (hc : c < n + 1) :
    Calls Try.prog 34 #[.slice A n c, .int .i64 k, .slice (some ⟨gv, 0, none⟩) 1 cv] w (InsPost xs k a b n (.slice A n c) w) := by
  obtain ⟨i0, hi, hz0, hz1, hz2⟩ := info_parts Try.info40
  have hnews : ∀ (j : Nat) (u : Value), [a, b][j]? = some u → w.cell? ((⟨gv, 0, none⟩ : Addr).add j) = some u := fun j u hu => by rw [Addr.add_lit, Nat.zero_add]; exact hb.cell_of hu
  have hbl := hb.lt
  have HN := hid hnews
  have H1 := hid h1
  have H2 := hid h2
  clear hnews h1 h2
  obtain ⟨g, o, c', e0, hnc, hcm, hgl⟩ := hown.some_ (by omega)
  injection e0 with e1 e2 e3
  subst e1; subst e3
  have hlen := hown.len
  have hnn : c = n := by omega
  have hold : ∀ (j : Nat) (u : Value), (xs.take (k * 2))[j]? = some u → w.cell? ((⟨g, o, none⟩ : Addr).add j) = some u := fun j u hu => hown.cellsAdd j u (by rw [List.getElem?_take] at hu; split at hu; exact hu; cases hu)
  have HO := hid hold
  have HL := hid hlen
  have HS := hid (show (Try.prog.info? 40).map (·.size) = some 2 by rw [hi]; simp [hz1])
  have HC := hid hnn
  have hnn' : ((n : Int) == 0) = false := beq_eq_false_iff_ne.2 (by omega)
  have hnn'' : ((k : Int) == (n : Int)) = false := beq_eq_false_iff_ne.2 (by omega)
  have hck : ¬ c = k := by omega
  have hl1 : ((n : Int) + 1 - (k : Int)) = ((n + 1 - k : Nat) : Int) := by omega
  clear hold hnn hlen
  unfold maxLen at hcm
  go_enter Try.func34, Try.ntmps34
  go_wp2_with (first
    | (at_builtin; refine wpList_append_make _ rfl (.tmp 34) (.tmp 39) 25 3 rfl 40 i0 _ 2 16 Try.underlying25 Try.underlying3 hi hz0 hz1 hz2 rfl (by omega) ⟨g, o, none⟩ k c (xs.take (k * 2)) rfl (by have := HL.out; rw [List.length_take]; omega) HO.out (n + 1 - k) (n + 1) (by omega) (by rw [← hl1]; rfl) (by omega) (by omega) (by unfold maxLen; omega) (by omega) ?_; intro cap' Z w1 hcap hcapm hZ hB1 hC1)
    | ((with_reducible refine at_copy_ (dst := some 45) ?_); refine wpList_copy_blk _ rfl (.tmp 43) (.tmp 44) 25 25 rfl 40 2 Try.underlying25 HS.out w.heap.size (k * 2) (n + 1 - k) (cap' - k) _ _ _ rfl rfl _ _ hB1.out [a, b] (by show 2 = min 1 _ * 2; omega) (fun _ => ⟨_, rfl, (hb.chg hC1 (by simp)).adds0⟩) (by have := HL.out; rw [List.length_append, List.length_take]; show k * 2 + 2 ≤ _; omega) H2.out ?_; intro w2 hB2 hC2))
  have y5 : ¬ cap' = k + 1 := by omega
  have y2 : (0 : Int) ≤ (k : Int) + 1 := by omega
  have y3 : ((k : Int) + 1).toNat = k + 1 := by omega
  have y4 : (k : Int) + 1 ≤ (n : Int) + 1 := by omega
  have y6 : (k : Int) ≤ (n : Int) := by omega
  have y1 : IntKind.i64.wrap ((k : Int) + 1) = (k : Int) + 1 := by rw [IntKind.wrap_i64]; omega
  have o2 := (hown.chg hC1 (by simp)).chg hC2 (by intro j hj; simp only [Value.ownBlock, Option.some.injEq] at hj; subst hj; simp; omega)
  go_region_law (refine step_copy_blk _ rfl (.tmp 50) (.tmp 53) 25 25 rfl 40 2 Try.underlying25 HS.out w.heap.size ((k + 1) * 2) (n - k) (cap' - (k + 1)) (some ⟨g, o + k * 2, none⟩) (n - k) (c - k) (by simp [Act.eval, Act.put]) (by simp [Act.eval, Act.put]) _ _ hB2.out (xs.drop (k * 2)) (by rw [List.length_drop, HL.out]; show _ = min _ _ * 2; omega) (fun _ => ⟨_, rfl, o2.addsDrop (k * 2)⟩) (by have := HL.out; rw [List.length_drop, splice_length _ _ _ (by rw [List.length_append, List.length_take]; show k * 2 + 2 ≤ _; omega), List.length_append, List.length_take]; omega) (fun v hv => H1.out v (List.mem_of_mem_drop hv)) ?_; intro w3 hB3 hC3)
  go_wp2
  go_ret
  refine ⟨_, _, rfl, ⟨?_, .inr ⟨_, _, _, _, rfl, hB3.out, hcap, hcapm, ?_, ?_⟩⟩, ?_, .inr ⟨_, rfl, Nat.le_refl _⟩⟩
  · have := HL.out
    simp only [List.length_append, List.length_take, List.length_drop, List.length_cons, List.length_nil]
    omega
  · have := HL.out
    have e1 : (List.take (k * 2) xs ++ Z).length = cap' * 2 := by rw [List.length_append, List.length_take]; omega
    rw [splice_length _ _ _ (by rw [splice_length _ _ _ (by rw [e1]; show k * 2 + 2 ≤ _; omega), e1, List.length_drop]; omega), splice_length _ _ _ (by rw [e1]; show k * 2 + 2 ≤ _; omega), e1]
    omega
  · have := ins_row [] xs Z [a, b] k n HL.out hk rfl
    simpa using this
  · exact ((hC1.seq hC2 (by simp)).seq (show Chg [w.heap.size] w2 w3 from ⟨hC3.os, hC3.tape, hC3.output, hC3.size, hC3.block⟩) (by simp)).mono (by simp)

theorem ins_shift {α : Type} (L xs ab : List α) (o k n : Nat) (hx : (L.drop o).take (n * 2) = xs) (hl : xs.length = n * 2) (hk : k < n) (hab : ab.length = 2) (hL : o + (n + 1) * 2 ≤ L.length) :
    ((splice (splice L (o + (k + 1) * 2) (xs.drop (k * 2))) (o + k * 2) ab).drop o).take ((n + 1) * 2) = xs.take (k * 2) ++ ab ++ xs.drop (k * 2) := by
  obtain ⟨pre, post, rfl, rfl⟩ : ∃ pre post, L = pre ++ (xs ++ post) ∧ pre.length = o := by
    refine ⟨L.take o, (L.drop o).drop (n * 2), ?_, by rw [List.length_take]; omega⟩
    rw [← hx, List.take_append_drop, List.take_append_drop]
  have h1 : xs = xs.take (k * 2) ++ xs.drop (k * 2) := (List.take_append_drop _ _).symm
  generalize hA : xs.take (k * 2) = A at *
  generalize hB : xs.drop (k * 2) = B at *
  have hAl : A.length = k * 2 := by rw [← hA, List.length_take]; omega
  have hBl : B.length = (n - k) * 2 := by rw [← hB, List.length_drop]; omega
  subst h1
  simp only [List.length_append] at hL
  have e1 : splice (pre ++ (A ++ B ++ post)) (pre.length + (k + 1) * 2) B = pre ++ (A ++ (B.take 2 ++ (B ++ post.drop 2))) := by
    unfold splice
    have e2 : (pre ++ (A ++ B ++ post)).take (pre.length + (k + 1) * 2) = pre ++ (A ++ B.take 2) := by
      rw [List.take_append, List.take_of_length_le (by omega)]
      congr 1
      rw [List.append_assoc, List.take_append, List.take_of_length_le (by omega)]
      congr 1
      rw [List.take_append_of_le_length (by omega)]
      congr 1
      omega
    have e3 : (pre ++ (A ++ B ++ post)).drop (pre.length + (k + 1) * 2 + B.length) = post.drop 2 := by
      rw [List.drop_append, List.drop_of_length_le (by omega), List.nil_append, List.append_assoc, List.drop_append, List.drop_of_length_le (by omega), List.nil_append, List.drop_append, List.drop_of_length_le (by omega), List.nil_append]
      congr 1
      omega
    rw [e2, e3]
    simp [List.append_assoc]
  rw [e1]
  have e4 : splice (pre ++ (A ++ (B.take 2 ++ (B ++ post.drop 2)))) (pre.length + k * 2) ab = pre ++ (A ++ (ab ++ (B ++ post.drop 2))) := by
    unfold splice
    have e5 : (pre ++ (A ++ (B.take 2 ++ (B ++ post.drop 2)))).take (pre.length + k * 2) = pre ++ A := by
      rw [List.take_append, List.take_of_length_le (by omega)]
      congr 1
      rw [List.take_append_of_le_length (by omega), List.take_of_length_le (by omega)]
    have e6 : (pre ++ (A ++ (B.take 2 ++ (B ++ post.drop 2)))).drop (pre.length + k * 2 + ab.length) = B ++ post.drop 2 := by
      rw [List.drop_append, List.drop_of_length_le (by omega), List.nil_append, List.drop_append, List.drop_of_length_le (by omega), List.nil_append, List.drop_append, List.drop_of_length_le (by rw [List.length_take]; omega), List.nil_append]
      rw [show pre.length + k * 2 + ab.length - pre.length - A.length - (B.take 2).length = 0 by rw [List.length_take]; omega]
      rfl
    rw [e5, e6]
    simp [List.append_assoc]
  rw [e4, List.drop_left' rfl, show A ++ (ab ++ (B ++ post.drop 2)) = (A ++ ab ++ B) ++ post.drop 2 by simp [List.append_assoc], List.take_append_of_le_length (by simp only [List.length_append]; omega), List.take_of_length_le (by simp only [List.length_append]; omega)]

set_option maxHeartbeats 400000 in
theorem insert_shift (A : Option Addr) (n c k gv cv : Nat) (xs : List Value) (a b : Value) (w : World) (hown : Own w 40 2 (.slice A n c) n xs) (hb : Blk w gv 40 [a, b]) (h1 : ∀ v ∈ xs, v.oneCell' = true) (h2 : ∀ v ∈ [a, b], v.oneCell' = true) (hne : (Value.slice A n c).ownBlock ≠ some gv) (hn : n ≤ 1000000) (hk : k < n) (hc : n + 1 ≤ c) :
    Calls Try.prog 34 #[.slice A n c, .int .i64 k, .slice (some ⟨gv, 0, none⟩) 1 cv] w (InsPost xs k a b n (.slice A n c) w) := by
  obtain ⟨i0, hi, hz0, hz1, hz2⟩ := info_parts Try.info40
  have H1 := hid h1
  have H2 := hid h2
  clear h1 h2
  rcases hown.2 with ⟨e0, rfl⟩ | ⟨g, o, c', L, e0, hg, hnc, hcm, hcL, hxs⟩
  · omega
  injection e0 with e1 e2 e3
  subst e1; subst e3
  have hgl := hg.lt
  have hne' : gv ≠ g := by rintro rfl; exact hne rfl
  have HL := hid hown.len
  have HX := hid hxs
  have HS := hid (show (Try.prog.info? 40).map (·.size) = some 2 by rw [hi]; simp [hz1])
  have HD := hid (show (xs.drop (k * 2)).length = (n - k) * 2 by rw [List.length_drop, HL.out]; omega)
  have hov : ∀ lb cb, (callFunc 49 #[.slice (some ⟨gv, 0, none⟩) 1 cv, .slice (some ⟨g, o + (k + 1) * 2, none⟩) lb cb]).run Try.prog w = .ok (.value (.bool false)) w := fun lb cb => by
    rw [run_callFunc_extern Try.func49 (by kernel_rfl) (by kernel_rfl) (by kernel_rfl) (e := Extern.SlicesOverlaps.overlaps #[25, 25] #[4]) (by kernel_rfl),
      Lib.run_overlaps_apart w 25 4 40 Try.underlying25 2 (fun w => by simp [sizeOf, typeInfo, hi, hz1]) ⟨gv, 0, none⟩ ⟨g, o + (k + 1) * 2, none⟩ 1 cv lb cb hne' 40 40 2 L.length hb.shape hg.shape (by omega) (hb.frozen _) (hb.frozen _)]
    rfl
  have hnn' : ((n : Int) == 0) = false := beq_eq_false_iff_ne.2 (by omega)
  have hnn'' : ((k : Int) == (n : Int)) = false := beq_eq_false_iff_ne.2 (by omega)
  have hck : ¬ c = k := by omega
  have y5 : ¬ c = k + 1 := by omega
  have y2 : (0 : Int) ≤ (k : Int) + 1 := by omega
  have y3 : ((k : Int) + 1).toNat = k + 1 := by omega
  have y4 : (k : Int) + 1 ≤ (n : Int) + 1 := by omega
  have y6 : (k : Int) ≤ (n : Int) := by omega
  have y7 : (k : Int) ≤ (n : Int) + 1 := by omega
  have y8 : ¬ ((c : Int) < (n : Int) + 1) := by omega
  have y1 : IntKind.i64.wrap ((k : Int) + 1) = (k : Int) + 1 := by rw [IntKind.wrap_i64]; omega
  clear hxs
  unfold maxLen at hcm
  go_enter Try.func34, Try.ntmps34
  go_wp2_with (simp only [hov])
  go_region_law (refine step_copy_blk _ rfl (.tmp 73) (.tmp 76) 25 25 rfl 40 2 Try.underlying25 HS.out g (o + (k + 1) * 2) (n - k) (c - (k + 1)) (some ⟨g, o + k * 2, none⟩) (n + 1 - k) (c - k) (by simp [Act.eval, Act.put]) (by simp [Act.eval, Act.put]) L 40 hg (xs.drop (k * 2)) (by rw [HD.out]; show _ = min _ _ * 2; omega) (fun _ => ⟨_, rfl, hown.addsDrop (k * 2)⟩) (by rw [HD.out]; omega) (fun v hv => H1.out v (List.mem_of_mem_drop hv)) ?_; intro w1 hB1 hC1)
  have hb1 : Blk w1 gv 40 [a, b] := hb.chg (⟨hC1.os, hC1.tape, hC1.output, hC1.size, hC1.block⟩ : Chg [g] w w1) (by simp; exact hne')
  go_wp2_with ((with_reducible refine at_copy_ (dst := some 82) ?_); refine wpList_copy_blk _ rfl (.tmp 80) (.tmp 81) 25 25 rfl 40 2 Try.underlying25 HS.out g (o + k * 2) (n + 1 - k) (c - k) _ _ _ rfl rfl _ _ hB1.out [a, b] (by show 2 = min 1 _ * 2; omega) (fun _ => ⟨_, rfl, hb1.adds0⟩) (by rw [splice_length _ _ _ (by rw [HD.out]; omega)]; show o + k * 2 + 2 ≤ _; omega) H2.out ?_; intro w2 hB2 hC2)
  go_ret
  refine ⟨_, _, rfl, ⟨?_, .inr ⟨_, _, _, _, rfl, hB2.out, hc, by unfold maxLen; exact hcm, ?_, ?_⟩⟩, ?_, .inl rfl⟩
  · have := HL.out
    simp only [List.length_append, List.length_take, List.length_drop, List.length_cons, List.length_nil]
    omega
  · rw [splice_length _ _ _ (by rw [splice_length _ _ _ (by rw [HD.out]; omega)]; show o + k * 2 + 2 ≤ _; omega), splice_length _ _ _ (by rw [HD.out]; omega)]
    exact hcL
  · exact ins_shift L xs [a, b] o k n HX.out HL.out hk rfl (by omega)
  · exact (⟨hC1.os, hC1.tape, hC1.output, hC1.size, hC1.block⟩ : Chg [g] w w1).trans hC2

theorem insert_any (A : Option Addr) (n c k gv cv : Nat) (xs : List Value) (a b : Value) (w : World) (hown : Own w 40 2 (.slice A n c) n xs) (hb : Blk w gv 40 [a, b]) (h1 : ∀ v ∈ xs, v.oneCell' = true) (h2 : ∀ v ∈ [a, b], v.oneCell' = true) (hne : (Value.slice A n c).ownBlock ≠ some gv) (hn : n ≤ 1000000) (hk : k ≤ n) :
    Calls Try.prog 34 #[.slice A n c, .int .i64 k, .slice (some ⟨gv, 0, none⟩) 1 cv] w (InsPost xs k a b n (.slice A n c) w) := by
  by_cases h : k = n
  · subst h
    exact insert_end A k c gv cv xs a b w hown hb h2 hn
  · by_cases hc : c < n + 1
    · exact insert_grow A n c k gv cv xs a b w hown hb h1 h2 hn (by omega) hc
    · exact insert_shift A n c k gv cv xs a b w hown hb h1 h2 hne hn (by omega) (by omega)
end Go.Proofs.Ythhddmamlpnjpaa
