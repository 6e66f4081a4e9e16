/- The bucket's Run, walked. -/
import Derived.Test.YthhddmamlpnjpaaBktK
import Derived.Deep.RegionHeld3
import Derived.Deep.DrawnRows
namespace Go.Proofs.Ythhddmamlpnjpaa
open Go.RowKit Go.Lib Go.Sort
attribute [local go_sem ↓] Go.wp_at_zero Go.wp_at_succ

/-- A row that the call has made: it owns its cells, its block is new, and nothing that was there has turned. -/
structure Acc (w0 w : World) (T : TypeId) (size : Nat) (v : Value) (n : Nat) (xs : List Value) : Prop where
  own : Own w T size v n xs
  new : ∀ k, v.ownBlock = some k → w0.heap.size ≤ k
  chg : Chg [] w0 w
theorem Acc.later {w0 w w' : World} {T : TypeId} {size n : Nat} {v : Value} {xs : List Value} (h : Acc w0 w T size v n xs) (hc : Chg [] w w') : Acc w0 w' T size v n xs :=
  ⟨h.own.chg hc (by simp), h.new, h.chg.trans hc⟩
theorem Acc.alloc {w0 w : World} {T : TypeId} {size n : Nat} {v : Value} {xs : List Value} (h : Acc w0 w T size v n xs) (o : Obj) : Acc w0 (w.alloc o) T size v n xs := h.later ((Chg.refl [] w).alloc o)
theorem Acc.nil (w0 : World) (T : TypeId) (size : Nat) {w : World} (h : Chg [] w0 w) : Acc w0 w T size (.slice none 0 0) 0 [] := ⟨Own.nil _ _ _, by simp [Value.ownBlock], h⟩
theorem Acc.append {w0 w w' : World} {T : TypeId} {size n m : Nat} {v v' : Value} {xs ys : List Value} (h : Acc w0 w T size v n xs) (ho : Own w' T size v' m ys) (hc : Chg v.ownBlock.toList w w')
    (hb : v'.ownBlock = v.ownBlock ∨ ∃ k, v'.ownBlock = some k ∧ w.heap.size ≤ k) : Acc w0 w' T size v' m ys := by
  refine ⟨ho, ?_, h.chg.seq hc ?_⟩
  · intro k hk
    rcases hb with hb | ⟨j, hj, hj2⟩
    · exact h.new k (hb ▸ hk)
    · rw [hj] at hk; injection hk with hk; have := h.chg.size; omega
  · intro x hx
    have := h.new x (by simpa using hx)
    exact .inr this
theorem Acc.keep {w0 w w' : World} {T t : TypeId} {size n g : Nat} {v : Value} {xs cs : List Value} (h : Acc w0 w T size v n xs) (hc : Chg v.ownBlock.toList w w') (hg : Blk w g t cs) (hne : T ≠ t) : Blk w' g t cs :=
  hg.chg hc (by
    intro hm
    exact h.own.ne_ hg hne (by simpa using hm))

def boolv (l : List Bool) : List Value := l.map .bool
theorem boolv_append (l m : List Bool) : boolv (l ++ m) = boolv l ++ boolv m := by simp [boolv]

/-- What Run lets through, from a state on; the state behind it. -/
def runL (p q r : Nat) : Nat → List (Nat × Nat) → List Bool
  | _, [] => []
  | s, x :: l => takeB p q r s x.1 x.2 :: runL p q r (takeS p q r s x.1 x.2) l
def runS (p q r : Nat) : Nat → List (Nat × Nat) → Nat
  | s, [] => s
  | s, x :: l => runS p q r (takeS p q r s x.1 x.2) l
theorem runL_snoc (p q r : Nat) (x : Nat × Nat) : ∀ (l : List (Nat × Nat)) (s : Nat), runL p q r s (l ++ [x]) = runL p q r s l ++ [takeB p q r (runS p q r s l) x.1 x.2]
  | [], s => rfl
  | y :: l, s => by simp [runL, runS, runL_snoc p q r x l]
theorem runS_snoc (p q r : Nat) (x : Nat × Nat) : ∀ (l : List (Nat × Nat)) (s : Nat), runS p q r s (l ++ [x]) = takeS p q r (runS p q r s l) x.1 x.2
  | [], s => rfl
  | y :: l, s => by simp [runS, runS_snoc p q r x l]
theorem runL_len (p q r : Nat) : ∀ (l : List (Nat × Nat)) (s : Nat), (runL p q r s l).length = l.length
  | [], s => rfl
  | y :: l, s => by simp [runL, runL_len p q r l]
theorem takeS_lt {p q r s now n : Nat} (h : OkB p q r) (hn : now ≤ 1099511627776) (hs : s < 18446744073709551616) : takeS p q r s now n < 18446744073709551616 := by
  obtain ⟨h1, h2, h3⟩ := stand_bound h.2.1 hn hs
  have h4 : r * q ≤ 68719476736 := Nat.mul_le_mul h.2.2.2.2.2 h.2.2.2.1
  unfold takeS
  by_cases hb : takeB p q r s now n = true
  · rw [if_pos hb]
    have := of_decide_eq_true hb
    omega
  · rw [if_neg hb]; exact hs

def BoxB (W : World) (g p q r : Nat) : Prop := Blk W g 24 [.int .u64 (p : Int), .int .u64 (q : Int), .int .u64 (r : Int)]
theorem BoxB.cells {W : World} {g p q r : Nat} (h : BoxB W g p q r) : W.cell? ⟨g, 0, none⟩ = some (.int .u64 (p : Int)) ∧ W.cell? ⟨g, 1, none⟩ = some (.int .u64 (q : Int)) ∧ W.cell? ⟨g, 2, none⟩ = some (.int .u64 (r : Int)) ∧ BoxB W g p q r :=
  ⟨h.cell_of rfl, h.cell_of rfl, h.cell_of rfl, h⟩
theorem BoxB.chg {W W' : World} {g p q r : Nat} (h : BoxB W g p q r) (hc : Chg [] W W') : BoxB W' g p q r := Blk.chg h hc (by simp)

/-- What Run answers. -/
def runV (p q r : Nat) (L : List (Nat × Nat)) : List Bool × Int := if mayV p q r (L.map (·.1)) = 0 then (runL p q r 0 L, 0) else ([], mayV p q r (L.map (·.1)))
def RunPost (p q r : Nat) (L : List (Nat × Nat)) (w : World) (e : Ending) (w' : World) : Prop :=
  ∃ A n c, e = .returned (.tuple #[.slice A n c, .int .i64 (runV p q r L).2]) ∧ Acc w w' 4 1 (.slice A n c) n (boolv (runV p q r L).1)

theorem Try.info4 : (Try.prog.info? 4).map (fun i => (i.zero, i.size, i.bytes)) = some (some (.bool false), 1, 1) := by kernel_rfl

theorem may_all {p q r : Nat} {ts : List Nat} (h : mayV p q r ts = 0) : OkB p q r ∧ ∀ t ∈ ts, t ≤ 1099511627776 := by
  unfold mayV at h
  by_cases h1 : OkB p q r
  · refine ⟨h1, ?_⟩
    rw [if_pos h1] at h
    cases h2 : ts.all (fun t => decide (t ≤ 1099511627776)) with
    | false => rw [h2] at h; simp at h
    | true => simpa using h2
  · rw [if_neg h1] at h; cases h

set_option maxHeartbeats 2000000 in
set_option maxRecDepth 100000 in
theorem run_no (p q r : Nat) (A : Option Addr) (n c : Nat) (L : List (Nat × Nat)) (w : World) (hO : Own w 40 2 (.slice A n c) n (askv L)) (hl : L.length = n) (hn : n ≤ 1048576) (hm : mayV p q r (L.map (·.1)) ≠ 0) :
    Calls Try.prog 11 #[.agg #[.int .u64 (p : Int), .int .u64 (q : Int), .int .u64 (r : Int)], .slice A n c] w (RunPost p q r L w) := by
  have HV := hid (show runV p q r L = ([], mayV p q r (L.map (·.1))) by unfold runV; rw [if_neg hm])
  obtain ⟨m, hmm⟩ : ∃ m, m = mayV p q r (L.map (·.1)) := ⟨_, rfl⟩
  have hne : (m == 0) = false := beq_eq_false_iff_ne.2 (by rw [hmm]; exact hm)
  have hne2 : (m != 0) = true := by rw [bne_iff_ne]; rw [hmm]; exact hm
  have HMM := hid hmm
  have HO := hid hO
  have HT := hid (fun W (h : Own W 40 2 (.slice A n c) n (askv L)) => ticks_any A n c L W h hl hn)
  have HM := hid (fun B c' W (h : Own W 22 1 (.slice B n c') n (u64n (L.map (·.1)))) => may_any p q r B n c' (L.map (·.1)) W h (by rw [List.length_map]; exact hl))
  rw [← hmm] at HM
  have HLN := hid (And.intro hl hn)
  clear hmm hm hO hl hn
  have B0 : BoxB (w.alloc (.cells #[.int .u64 (p : Int), .int .u64 (q : Int), .int .u64 (r : Int)] 24)) w.heap.size p q r := Blk.new w 24 #[.int .u64 (p : Int), .int .u64 (q : Int), .int .u64 (r : Int)]
  have C0 := hid ((Chg.refl [] w).alloc (.cells #[.int .u64 (p : Int), .int .u64 (q : Int), .int .u64 (r : Int)] 24))
  go_enter Try.func11, Try.ntmps11
  go_wp2
  obtain ⟨w0, hw0⟩ : ∃ w0, w0 = w.alloc (.cells #[.int .u64 (p : Int), .int .u64 (q : Int), .int .u64 (r : Int)] 24) := ⟨_, rfl⟩
  rw [← hw0] at B0 C0
  rw [← hw0]
  clear hw0
  have B1 : BoxB w0.drew w.heap.size p q r := B0
  have C1 := hid C0.out.drew
  go_region_held3 (fun W' => W'.cell? ⟨w.heap.size, 0, none⟩ = some (.int .u64 (p : Int)) ∧ W'.cell? ⟨w.heap.size, 1, none⟩ = some (.int .u64 (q : Int)) ∧ W'.cell? ⟨w.heap.size, 2, none⟩ = some (.int .u64 (r : Int)) ∧ BoxB W' w.heap.size p q r)
    ((refine BoxB.cells ?_; assumption))
    (first
      | (go_at_call 31; refine (HT.out _ (HO.out.chg C1.out (by simp))).mono ?_; rintro e w2 ⟨B, c', rfl, hB, hC2⟩; have B2 := B1.chg hC2; have HB := hid hB; have C2 := hid (C1.out.trans hC2); clear hB hC2)
      | (go_at_call 30; refine (HM.out _ _ _ HB.out).mono ?_; rintro e w3 ⟨rfl, hC3⟩; have B3 := B2.chg hC3; have C3 := hid (C2.out.trans hC3); clear hC3))
  go_wp2
  go_ret2
  exact ⟨none, 0, 0, by rw [HV.out, HMM.out]; rfl, by rw [HV.out]; exact Acc.nil w 4 1 C3.out⟩

set_option maxHeartbeats 2000000 in
set_option maxRecDepth 100000 in
theorem run_ok (p q r : Nat) (A : Option Addr) (n c : Nat) (L : List (Nat × Nat)) (w : World) (hO : Own w 40 2 (.slice A n c) n (askv L)) (hl : L.length = n) (hn : n ≤ 1048576) (h64 : ∀ x ∈ L, x.2 < 18446744073709551616) (hm : mayV p q r (L.map (·.1)) = 0) :
    Calls Try.prog 11 #[.agg #[.int .u64 (p : Int), .int .u64 (q : Int), .int .u64 (r : Int)], .slice A n c] w (RunPost p q r L w) := by
  have HV := hid (show runV p q r L = (runL p q r 0 L, 0) by unfold runV; rw [if_pos hm])
  obtain ⟨hok, hts⟩ := may_all hm
  have HT2 := hid (fun s now k W (hnow : now ≤ 1099511627776) => take_ok p q r s now k W (may_le hok hnow))
  have HOK := hid hok
  have H64 := hid h64
  have HTS := hid hts
  have HO := hid hO
  have HT := hid (fun W (h : Own W 40 2 (.slice A n c) n (askv L)) => ticks_any A n c L W h hl hn)
  have HM := hid (fun B c' W (h : Own W 22 1 (.slice B n c') n (u64n (L.map (·.1)))) => may_any p q r B n c' (L.map (·.1)) W h (by rw [List.length_map]; exact hl))
  rw [hm] at HM
  have HLN := hid (And.intro hl hn)
  clear hm hO hok h64 hts hl
  have nb : (n : Int) ≤ 1048576 := by omega
  have B0 : BoxB (w.alloc (.cells #[.int .u64 (p : Int), .int .u64 (q : Int), .int .u64 (r : Int)] 24)) w.heap.size p q r := Blk.new w 24 #[.int .u64 (p : Int), .int .u64 (q : Int), .int .u64 (r : Int)]
  have C0 := hid ((Chg.refl [] w).alloc (.cells #[.int .u64 (p : Int), .int .u64 (q : Int), .int .u64 (r : Int)] 24))
  go_enter Try.func11, Try.ntmps11
  go_wp2
  obtain ⟨w0, hw0⟩ : ∃ w0, w0 = w.alloc (.cells #[.int .u64 (p : Int), .int .u64 (q : Int), .int .u64 (r : Int)] 24) := ⟨_, rfl⟩
  rw [← hw0] at B0 C0
  rw [← hw0]
  clear hw0
  have B1 : BoxB w0.drew w.heap.size p q r := B0
  have C1 := hid C0.out.drew
  go_region_held3 (fun W' => W'.cell? ⟨w.heap.size, 0, none⟩ = some (.int .u64 (p : Int)) ∧ W'.cell? ⟨w.heap.size, 1, none⟩ = some (.int .u64 (q : Int)) ∧ W'.cell? ⟨w.heap.size, 2, none⟩ = some (.int .u64 (r : Int)) ∧ BoxB W' w.heap.size p q r)
    ((refine BoxB.cells ?_; assumption))
    (first
      | (go_at_call 31; refine (HT.out _ (HO.out.chg C1.out (by simp))).mono ?_; rintro e w2 ⟨B, c', rfl, hB, hC2⟩; have B2 := B1.chg hC2; have HB := hid hB; have C2 := hid (C1.out.trans hC2); clear hB hC2)
      | (go_at_call 30; refine (HM.out _ _ _ HB.out).mono ?_; rintro e w3 ⟨rfl, hC3⟩; have B3 := B2.chg hC3; have C3 := hid (C2.out.trans hC3); clear hC3))
  go_wp2
  have B4 := B3
  obtain ⟨i0, hi, hz0, hz1, hz2⟩ := info_parts Try.info4
  go_loopw [7, 8, 23] (fun v st i wr => ∃ (k s : Nat) (Av : Option Addr) (cv : Nat), k ≤ n ∧ i = .int .i64 k ∧ st = .int .u64 (s : Int) ∧ v = .slice Av k cv ∧ Hid (s < 18446744073709551616 ∧ s = runS p q r 0 (L.take k)) ∧ Acc w wr 4 1 (.slice Av k cv) k (boolv (runL p q r 0 (L.take k))) ∧ BoxB wr w.heap.size p q r) (fun _ _ i _ => n - (intOf i).toNat)
  case atStart => exact ⟨0, 0, none, 0, Nat.zero_le _, rfl, rfl, rfl, hid ⟨by omega, rfl⟩, Acc.nil w 4 1 C3.out, B4⟩
  case round =>
    obtain ⟨k, s, Av, cv, hk, rfl, rfl, rfl, hS, hA, hB⟩ := hrel
    by_cases hlt : k < n
    · have hOr := HO.out.chg hA.chg (by simp)
      obtain ⟨g, o, c1, hv, _, _, hg⟩ := hOr.some_ (by omega)
      injection hv with hAA _ hc1
      subst hAA; subst hc1
      obtain ⟨x, y, hxy⟩ := get_ask L k (by rw [HLN.out.1]; exact hlt)
      obtain ⟨q0, q1⟩ := hOr.ask hxy
      have hx : x ≤ 1099511627776 := HTS.out x (List.mem_map.2 ⟨(x, y), List.mem_of_getElem? hxy, rfl⟩)
      have hTk := fun W => HT2.out s x y W hx hS.out.1 (H64.out _ (List.mem_of_getElem? hxy))
      have HXY := hid hxy
      obtain ⟨tb, htb⟩ : ∃ tb, tb = takeB p q r s x y := ⟨_, rfl⟩
      obtain ⟨ts, hts⟩ : ∃ ts, ts = takeS p q r s x y := ⟨_, rfl⟩
      have htl : ts < 18446744073709551616 := by rw [hts]; exact takeS_lt HOK.out hx hS.out.1
      rw [← htb, ← hts] at hTk
      have HTK := hid hTk
      have HTB := hid (And.intro htb (And.intro hts htl))
      clear hxy htb hts hTk htl hx
      have k0 : (0 : Int) ≤ (k : Int) := by omega
      have k1 : (k : Int) < (n : Int) := by omega
      have b0 := hB.cells.1
      have b1 := hB.cells.2.1
      have b2 := hB.cells.2.2.1
      have hbl := Blk.lt hB
      have hgw := hg
      go_wp2_with (first
        | (go_at_call 19; refine (HTK.out _).mono ?_; rintro e w2 ⟨rfl, hC2⟩; have hA2 := (hA.alloc (.cells #[.int .u64 (x : Int), .int .u64 (y : Int)] 40)).later hC2; have hB2 := hB.chg (((Chg.refl [] wr).alloc (.cells #[.int .u64 (x : Int), .int .u64 (y : Int)] 40)).trans hC2))
        | ((with_reducible refine at_append_ ?_); (refine wpList_append_any _ rfl (.tmp 39) (.tmp 41) 27 rfl 4 i0 _ 1 1 Try.underlying27 hi hz0 hz1 hz2 rfl (by omega) (.slice Av k cv) k (boolv (runL p q r 0 (L.take k))) rfl (hA2.alloc _).own ⟨w2.heap.size, 0, none⟩ 1 1 [.bool tb] rfl rfl (by simpa using (Blk.new w2 4 #[.bool tb]).adds0) (by simp [Value.oneCell']) (by unfold maxLen; omega) (by omega) ?_); intro A' c' w3' hO3 hC3' hb3))
      go_roundw
      case measure => simp [intOf]; omega
      case rel =>
        have e1 : L.take (k + 1) = L.take k ++ [(x, y)] := by rw [List.take_add_one, HXY.out]; rfl
        refine ⟨k + 1, ts, A', c', by omega, by go_num, rfl, rfl, hid ⟨HTB.out.2.2, ?_⟩, ?_, ?_⟩
        · rw [e1, runS_snoc, ← hS.out.2]; exact HTB.out.2.1
        · rw [e1, runL_snoc, ← hS.out.2, boolv_append]
          have := Acc.append (hA2.alloc (.cells #[.bool tb] 4)) hO3 hC3' hb3
          rw [HTB.out.1] at this
          exact this
        · exact Acc.keep (hA2.alloc (.cells #[.bool tb] 4)) hC3' (Blk.alloc hB2 _) (by decide)
    · obtain rfl : k = n := by omega
      go_wp2
      go_ret2
      have e1 : L.take k = L := List.take_of_length_le (by rw [HLN.out.1]; omega)
      rw [e1] at hA
      exact ⟨Av, k, cv, by rw [HV.out]; rfl, by rw [HV.out]; exact hA⟩

theorem run_any (p q r : Nat) (A : Option Addr) (n c : Nat) (L : List (Nat × Nat)) (w : World) (hO : Own w 40 2 (.slice A n c) n (askv L)) (hl : L.length = n) (hn : n ≤ 1048576) (h64 : ∀ x ∈ L, x.2 < 18446744073709551616) :
    Calls Try.prog 11 #[.agg #[.int .u64 (p : Int), .int .u64 (q : Int), .int .u64 (r : Int)], .slice A n c] w (RunPost p q r L w) := by
  by_cases hm : mayV p q r (L.map (·.1)) = 0
  · exact run_ok p q r A n c L w hO hl hn h64 hm
  · exact run_no p q r A n c L w hO hl hn hm
end Go.Proofs.Ythhddmamlpnjpaa
