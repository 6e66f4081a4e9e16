/- The bucket's Fits, walked. -/
import Derived.Test.YthhddmamlpnjpaaBktN
import Derived.Test.YthhddmamlpnjpaaBktO
namespace Go.Proofs.Ythhddmamlpnjpaa
open Go.RowKit Go.Lib Go.Sort
attribute [local go_sem ↓] Go.wp_at_zero Go.wp_at_succ

theorem askv_take (L : List (Nat × Nat)) (k : Nat) : (askv L).take (k * 2) = askv (L.take k) := by
  rcases Nat.lt_or_ge L.length k with h | h
  · rw [List.take_of_length_le (by rw [askv_len]; omega), List.take_of_length_le (by omega)]
  · conv => lhs; rw [← List.take_append_drop k L, askv_append]
    rw [List.take_append_of_le_length (by rw [askv_len, List.length_take]; omega), List.take_of_length_le (by rw [askv_len, List.length_take]; omega)]
theorem askv_drop (L : List (Nat × Nat)) (k : Nat) : (askv L).drop (k * 2) = askv (L.drop k) := by
  rcases Nat.lt_or_ge L.length k with h | h
  · rw [List.drop_of_length_le (by rw [askv_len]; omega), List.drop_of_length_le (by omega), askv_nil]
  · conv => lhs; rw [← List.take_append_drop k L, askv_append]
    rw [List.drop_left' (by rw [askv_len, List.length_take]; omega)]
theorem askv_ins (x : Nat × Nat) (S : List (Nat × Nat)) : (askv S).take (atV x.1 S * 2) ++ [.int .u64 (x.1 : Int), .int .u64 (x.2 : Int)] ++ (askv S).drop (atV x.1 S * 2) = askv (insV x S) := by
  rw [askv_take, askv_drop, insV_at, askv_append, askv_cons]
  simp
theorem askv_one (L : List (Nat × Nat)) : ∀ v ∈ askv L, v.oneCell' = true := by
  intro v hv
  obtain ⟨x, _, hx⟩ := List.mem_flatMap.1 hv
  simp at hx
  rcases hx with rfl | rfl <;> rfl

def fitsV (p q r : Nat) (L : List (Nat × Nat)) : Nat × Int :=
  if OkB p q r then (if 4096 < L.length then (0, 4) else if mayV p q r (L.map (·.1)) = 0 then (fitsGo p q r 0 [] L, 0) else (0, mayV p q r (L.map (·.1)))) else (0, 2)

set_option maxHeartbeats 1000000 in
theorem fits_bad (p q r : Nat) (A : Option Addr) (n c : Nat) (L : List (Nat × Nat)) (w : World) (hok : ¬ OkB p q r) :
    Calls Try.prog 15 #[.agg #[.int .u64 (p : Int), .int .u64 (q : Int), .int .u64 (r : Int)], .slice A n c] w fun e w' => e = .returned (.tuple #[.int .i64 ((fitsV p q r L).1 : Int), .int .i64 (fitsV p q r L).2]) ∧ Chg [] w w' := by
  have HV := hid (show fitsV p q r L = (0, 2) by unfold fitsV; rw [if_neg hok])
  have hc : checkV p q r = 2 := by unfold checkV; rw [if_neg hok]
  clear hok
  go_enter Try.func15, Try.ntmps15
  go_wp2_with (go_at_call 22; refine (check_any p q r _).mono ?_; rw [hc]; rintro e w1 ⟨rfl, hC1⟩)
  go_ret2
  exact ⟨by rw [HV.out]; rfl, ((Chg.refl [] w).alloc _).trans hC1⟩

set_option maxHeartbeats 1000000 in
theorem fits_long (p q r : Nat) (A : Option Addr) (n c : Nat) (L : List (Nat × Nat)) (w : World) (hok : OkB p q r) (hl : L.length = n) (hn : 4096 < n) (hn2 : n ≤ 1048576) :
    Calls Try.prog 15 #[.agg #[.int .u64 (p : Int), .int .u64 (q : Int), .int .u64 (r : Int)], .slice A n c] w fun e w' => e = .returned (.tuple #[.int .i64 ((fitsV p q r L).1 : Int), .int .i64 (fitsV p q r L).2]) ∧ Chg [] w w' := by
  have HV := hid (show fitsV p q r L = (0, 4) by unfold fitsV; rw [if_pos hok, if_pos (by omega)])
  have hc : checkV p q r = 0 := by unfold checkV; rw [if_pos hok]
  have n1 : (4096 : Int) < (n : Int) := by omega
  clear hok hl hn
  go_enter Try.func15, Try.ntmps15
  go_wp2_with (go_at_call 22; refine (check_any p q r _).mono ?_; rw [hc]; rintro e w1 ⟨rfl, hC1⟩)
  go_ret2
  exact ⟨by rw [HV.out]; rfl, ((Chg.refl [] w).alloc _).trans hC1⟩

set_option maxHeartbeats 2000000 in
set_option maxRecDepth 100000 in
theorem fits_no (p q r : Nat) (A : Option Addr) (n c : Nat) (L : List (Nat × Nat)) (w : World) (hO : Own w 40 2 (.slice A n c) n (askv L)) (hl : L.length = n) (hn : n ≤ 4096) (hok : OkB p q r) (hm : mayV p q r (L.map (·.1)) ≠ 0) :
    Calls Try.prog 15 #[.agg #[.int .u64 (p : Int), .int .u64 (q : Int), .int .u64 (r : Int)], .slice A n c] w fun e w' => e = .returned (.tuple #[.int .i64 ((fitsV p q r L).1 : Int), .int .i64 (fitsV p q r L).2]) ∧ Chg [] w w' := by
  have HV := hid (show fitsV p q r L = (0, mayV p q r (L.map (·.1))) by unfold fitsV; rw [if_pos hok, if_neg (by omega), if_neg hm])
  have hck : checkV p q r = 0 := by unfold checkV; rw [if_pos hok]
  have HCK := hid hck
  have nb : (n : Int) ≤ 4096 := by omega
  obtain ⟨m, hmm⟩ : ∃ m, m = mayV p q r (L.map (·.1)) := ⟨_, rfl⟩
  have hne : (m == 0) = false := beq_eq_false_iff_ne.2 (by rw [hmm]; exact hm)
  have hne2 : (m != 0) = true := by rw [bne_iff_ne]; rw [hmm]; exact hm
  have HMM := hid hmm
  have HO := hid hO
  have HT := hid (fun W (h : Own W 40 2 (.slice A n c) n (askv L)) => ticks_any A n c L W h hl (by omega))
  have HM := hid (fun B c' W (h : Own W 22 1 (.slice B n c') n (u64n (L.map (·.1)))) => may_any p q r B n c' (L.map (·.1)) W h (by rw [List.length_map]; exact hl))
  rw [← hmm] at HM
  have HLN := hid (And.intro hl hn)
  clear hmm hm hO hl hn
  have B0 : BoxB (w.alloc (.cells #[.int .u64 (p : Int), .int .u64 (q : Int), .int .u64 (r : Int)] 24)) w.heap.size p q r := Blk.new w 24 #[.int .u64 (p : Int), .int .u64 (q : Int), .int .u64 (r : Int)]
  have C0 := hid ((Chg.refl [] w).alloc (.cells #[.int .u64 (p : Int), .int .u64 (q : Int), .int .u64 (r : Int)] 24))
  go_enter Try.func15, Try.ntmps15
  go_wp2_with (go_at_call 22; refine (check_any p q r _).mono ?_; rw [HCK.out]; rintro e w1 ⟨rfl, hC1⟩; have hB1 := BoxB.chg B0 hC1; have hC1' := hid (C0.out.trans hC1); clear hC1)
  have B1 : BoxB w1.drew w.heap.size p q r := hB1
  have C1 := hid hC1'.out.drew
  go_region_held3 (fun W' => W'.cell? ⟨w.heap.size, 0, none⟩ = some (.int .u64 (p : Int)) ∧ W'.cell? ⟨w.heap.size, 1, none⟩ = some (.int .u64 (q : Int)) ∧ W'.cell? ⟨w.heap.size, 2, none⟩ = some (.int .u64 (r : Int)) ∧ BoxB W' w.heap.size p q r)
    ((refine BoxB.cells ?_; assumption))
    (first
      | (go_at_call 31; refine (HT.out _ (HO.out.chg C1.out (by simp))).mono ?_; rintro e w2 ⟨B, c', rfl, hB, hC2⟩; have B2 := B1.chg hC2; have HB := hid hB; have C2 := hid (C1.out.trans hC2); clear hB hC2)
      | (go_at_call 30; refine (HM.out _ _ _ HB.out).mono ?_; rintro e w3 ⟨rfl, hC3⟩; have B3 := B2.chg hC3; have C3 := hid (C2.out.trans hC3); clear hC3))
  go_wp2
  go_ret2
  exact ⟨by rw [HV.out, HMM.out]; rfl, C3.out⟩

/-- Where Fits stands after k. -/
def FitsAt (p q r : Nat) (L : List (Nat × Nat)) (k : Nat) (S : List (Nat × Nat)) : Prop :=
  fitsGo p q r 0 [] L = fitsGo p q r k S (L.drop k) ∧ Rise S ∧ S.length = k ∧ ∀ x ∈ S, x.1 ≤ 1099511627776 ∧ x.2 ≤ bigV
theorem drop_ask {L : List (Nat × Nat)} {k x y : Nat} (h : L[k]? = some (x, y)) : L.drop k = (x, y) :: L.drop (k + 1) := by
  obtain ⟨h1, h2⟩ := List.getElem?_eq_some_iff.1 h
  rw [List.drop_eq_getElem_cons h1, h2]
theorem FitsAt.big {p q r k x y : Nat} {L S : List (Nat × Nat)} (h : FitsAt p q r L k S) (hx : L[k]? = some (x, y)) (hy : bigV < y) : fitsGo p q r 0 [] L = k := by
  rw [h.1, drop_ask hx]; unfold fitsGo; rw [if_pos hy]
theorem FitsAt.found {p q r k x y : Nat} {L S : List (Nat × Nat)} (h : FitsAt p q r L k S) (hx : L[k]? = some (x, y)) (hy : y ≤ bigV) (hf : fullV p q r (insV (x, y) S) = true) : fitsGo p q r 0 [] L = k := by
  rw [h.1, drop_ask hx]; unfold fitsGo; rw [if_neg (Nat.not_lt.2 hy), if_pos hf]
theorem FitsAt.step {p q r k x y : Nat} {L S : List (Nat × Nat)} (h : FitsAt p q r L k S) (hx : L[k]? = some (x, y)) (hy : y ≤ bigV) (hxt : x ≤ 1099511627776) (hf : fullV p q r (insV (x, y) S) = false) : FitsAt p q r L (k + 1) (insV (x, y) S) := by
  refine ⟨?_, insV_rise _ _ h.2.1, by rw [(insV_perm _ _).length_eq, List.length_cons, h.2.2.1], ?_⟩
  · rw [h.1, drop_ask hx]
    conv => lhs; unfold fitsGo
    rw [if_neg (Nat.not_lt.2 hy), hf, if_neg (by simp)]
  · intro z hz
    rcases List.mem_cons.1 ((insV_perm _ _).mem_iff.1 hz) with rfl | h1
    · exact ⟨hxt, hy⟩
    · exact h.2.2.2 z h1
theorem insV_all {x : Nat × Nat} {S : List (Nat × Nat)} {P : Nat × Nat → Prop} (h : ∀ z ∈ S, P z) (hx : P x) : ∀ z ∈ insV x S, P z := by
  intro z hz
  rcases List.mem_cons.1 ((insV_perm _ _).mem_iff.1 hz) with rfl | h1
  · exact hx
  · exact h z h1

set_option maxHeartbeats 4000000 in
set_option maxRecDepth 100000 in
theorem fits_ok (p q r : Nat) (A : Option Addr) (n c : Nat) (L : List (Nat × Nat)) (w : World) (hO : Own w 40 2 (.slice A n c) n (askv L)) (hl : L.length = n) (hn : n ≤ 4096) (hm : mayV p q r (L.map (·.1)) = 0) :
    Calls Try.prog 15 #[.agg #[.int .u64 (p : Int), .int .u64 (q : Int), .int .u64 (r : Int)], .slice A n c] w fun e w' => e = .returned (.tuple #[.int .i64 ((fitsV p q r L).1 : Int), .int .i64 (fitsV p q r L).2]) ∧ Chg [] w w' := by
  obtain ⟨hok, hts⟩ := may_all hm
  have HV := hid (show fitsV p q r L = (fitsGo p q r 0 [] L, 0) by unfold fitsV; rw [if_pos hok, if_neg (by omega), if_pos hm])
  have hck : checkV p q r = 0 := by unfold checkV; rw [if_pos hok]
  have HCK := hid hck
  have HOK := hid hok
  have HTS := hid hts
  have nb : (n : Int) ≤ 4096 := by omega
  have nb2 := hn
  have HO := hid hO
  have HT := hid (fun W (h : Own W 40 2 (.slice A n c) n (askv L)) => ticks_any A n c L W h hl (by omega))
  have HM := hid (fun B c' W (h : Own W 22 1 (.slice B n c') n (u64n (L.map (·.1)))) => may_any p q r B n c' (L.map (·.1)) W h (by rw [List.length_map]; exact hl))
  rw [hm] at HM
  have HLN := hid (And.intro hl hn)
  clear hm hO hok hts hl
  have B0 : BoxB (w.alloc (.cells #[.int .u64 (p : Int), .int .u64 (q : Int), .int .u64 (r : Int)] 24)) w.heap.size p q r := Blk.new w 24 #[.int .u64 (p : Int), .int .u64 (q : Int), .int .u64 (r : Int)]
  have C0 := hid ((Chg.refl [] w).alloc (.cells #[.int .u64 (p : Int), .int .u64 (q : Int), .int .u64 (r : Int)] 24))
  go_enter Try.func15, Try.ntmps15
  go_wp2_with (go_at_call 22; refine (check_any p q r _).mono ?_; rw [HCK.out]; rintro e w1 ⟨rfl, hC1⟩; have hB1 := BoxB.chg B0 hC1; have hC1' := hid (C0.out.trans hC1); clear hC1)
  have B1 : BoxB w1.drew w.heap.size p q r := hB1
  have C1 := hid hC1'.out.drew
  go_region_held3 (fun W' => W'.cell? ⟨w.heap.size, 0, none⟩ = some (.int .u64 (p : Int)) ∧ W'.cell? ⟨w.heap.size, 1, none⟩ = some (.int .u64 (q : Int)) ∧ W'.cell? ⟨w.heap.size, 2, none⟩ = some (.int .u64 (r : Int)) ∧ BoxB W' w.heap.size p q r)
    ((refine BoxB.cells ?_; assumption))
    (first
      | (go_at_call 31; refine (HT.out _ (HO.out.chg C1.out (by simp))).mono ?_; rintro e w2 ⟨B, c', rfl, hB, hC2⟩; have B2 := B1.chg hC2; have HB := hid hB; have C2 := hid (C1.out.trans hC2); clear hB hC2)
      | (go_at_call 30; refine (HM.out _ _ _ HB.out).mono ?_; rintro e w3 ⟨rfl, hC3⟩; have B3 := B2.chg hC3; have C3 := hid (C2.out.trans hC3); clear hC3))
  go_wp2
  have B4 := B3
  go_loopw [8, 30] (fun v i wr => ∃ (k : Nat) (S : List (Nat × Nat)) (Av : Option Addr) (cv : Nat), k ≤ n ∧ i = .int .i64 k ∧ v = .slice Av k cv ∧ Hid (FitsAt p q r L k S) ∧ Acc w wr 40 2 (.slice Av k cv) k (askv S) ∧ BoxB wr w.heap.size p q r) (fun _ i _ => n - (intOf i).toNat)
  case atStart => exact ⟨0, [], none, 0, Nat.zero_le _, rfl, rfl, hid ⟨rfl, List.Pairwise.nil, rfl, by simp⟩, Acc.nil w 40 2 C3.out, B4⟩
  case round =>
    obtain ⟨k, S, Av, cv, hk, rfl, rfl, hS, hA, hB⟩ := hrel
    by_cases hlt : k < n
    · have hOr := HO.out.chg hA.chg (by simp)
      obtain ⟨g, o, c1, hv, _, _, hg⟩ := hOr.some_ (by omega)
      injection hv with hAA _ hc1
      subst hAA; subst hc1
      obtain ⟨x, y, hxy⟩ := get_ask L k (by rw [HLN.out.1]; exact hlt)
      obtain ⟨q0, q1⟩ := hOr.ask hxy
      have hx : x ≤ 1099511627776 := HTS.out x (List.mem_map.2 ⟨(x, y), List.mem_of_getElem? hxy, rfl⟩)
      have HXY := hid (And.intro hxy hx)
      have k0 : (0 : Int) ≤ (k : Int) := by omega
      have k1 : (k : Int) < (n : Int) := by omega
      have hbl := Blk.lt hB
      clear hxy hx
      by_cases hbig : (72057594038976512 : Int) < (y : Int)
      · have HG := hid (hS.out.big HXY.out.1 (by unfold bigV; omega))
        go_wp2
        go_ret2
        exact ⟨by rw [HV.out, HG.out]; rfl, hA.chg.alloc _⟩
      · have HYB := hid (show y ≤ bigV by unfold bigV; omega)
        have HSE := hid (fun W (hW : Own W 40 2 (.slice Av k cv) k (askv S)) => search_any Av k cv x S W hW hS.out.2.2.1 (by omega) hS.out.2.1)
        have HIN := hid (fun gv W (hW : Own W 40 2 (.slice Av k cv) k (askv S)) hb hne => insert_any Av k cv (atV x S) gv 1 (askv S) (.int .u64 (x : Int)) (.int .u64 (y : Int)) W hW hb (askv_one S) (by simp [Value.oneCell']) hne (by omega) (by have := atV_le x S; rw [hS.out.2.2.1] at this; exact this))
        obtain ⟨fv, hfv⟩ : ∃ fv, fv = fullV p q r (insV (x, y) S) := ⟨_, rfl⟩
        have HFU := hid (fun A' c' W (hW : Own W 40 2 (.slice A' (k + 1) c') (k + 1) (askv (insV (x, y) S))) => full_any p q r A' (k + 1) c' (insV (x, y) S) W hW (by rw [(insV_perm _ _).length_eq, List.length_cons, hS.out.2.2.1]) (by omega) HOK.out (insV_all hS.out.2.2.2 ⟨HXY.out.2, HYB.out⟩) (insV_rise _ _ hS.out.2.1))
        rw [← hfv] at HFU
        have HFV := hid hfv
        have hX1 := Blk.new wr 40 #[.int .u64 (x : Int), .int .u64 (y : Int)]
        have hA1 := hA.alloc (.cells #[.int .u64 (x : Int), .int .u64 (y : Int)] 40)
        have hB1x := Blk.alloc hB (.cells #[.int .u64 (x : Int), .int .u64 (y : Int)] 40)
        clear hfv
        go_wp2_with (first
          | (go_at_call 32; refine (HSE.out _ hA1.own).mono ?_; rintro e w4 ⟨rfl, hC4⟩; have hA4 := hA1.later hC4; have hB4 := BoxB.chg hB1x hC4; have hX4 := hX1.chg hC4 (by simp); have x40 := hX4.cell_of (i := 0) rfl; have x41 := hX4.cell_of (i := 1) rfl; clear hC4)
          | (go_at_call 34; refine (HIN.out w4.heap.size _ (hA4.alloc _).own (Blk.new w4 40 #[.int .u64 (x : Int), .int .u64 (y : Int)]) (fun h => absurd (hA4.own.lt _ h) (Nat.lt_irrefl _))).mono ?_; rintro e w5 ⟨A', c', rfl, hO5, hC5, hb5⟩; rw [askv_ins (x, y) S] at hO5; have hA5 := Acc.append (hA4.alloc _) hO5 hC5 hb5; have hB5 : BoxB w5 w.heap.size p q r := Acc.keep (hA4.alloc _) hC5 (Blk.alloc hB4 _) (by decide); have b50 := hB5.cells.1; have b51 := hB5.cells.2.1; have b52 := hB5.cells.2.2.1; clear hO5 hC5 hb5))
        refine (HFU.out _ _ _ hA5.own).mono ?_
        rintro e w6 ⟨rfl, hC6⟩
        have hA6 := hA5.later hC6
        have hB6 := BoxB.chg hB5 hC6
        cases fv
        · go_wp2
          go_roundw
          case measure => simp [intOf]; omega
          case rel => exact ⟨k + 1, insV (x, y) S, A', c', by omega, by go_num, rfl, hid (hS.out.step HXY.out.1 HYB.out HXY.out.2 HFV.out.symm), hA6, hB6⟩
        · have HG := hid (hS.out.found HXY.out.1 HYB.out HFV.out.symm)
          go_wp2
          go_ret2
          exact ⟨by rw [HV.out, HG.out]; rfl, hA6.chg⟩
    · obtain rfl : k = n := by omega
      have HG := hid (show fitsGo p q r 0 [] L = k by
        have h1 := hS.out.1
        rw [List.drop_eq_nil_of_le (by rw [HLN.out.1]; omega)] at h1
        rw [h1]; rfl)
      go_wp2
      go_ret2
      exact ⟨by rw [HV.out, HG.out]; rfl, hA.chg⟩

theorem fits_any (p q r : Nat) (A : Option Addr) (n c : Nat) (L : List (Nat × Nat)) (w : World) (hO : Own w 40 2 (.slice A n c) n (askv L)) (hl : L.length = n) (hn : n ≤ 1048576) :
    Calls Try.prog 15 #[.agg #[.int .u64 (p : Int), .int .u64 (q : Int), .int .u64 (r : Int)], .slice A n c] w fun e w' => e = .returned (.tuple #[.int .i64 ((fitsV p q r L).1 : Int), .int .i64 (fitsV p q r L).2]) ∧ Chg [] w w' := by
  by_cases hok : OkB p q r
  · by_cases h4 : 4096 < n
    · exact fits_long p q r A n c L w hok hl h4 hn
    · by_cases hm : mayV p q r (L.map (·.1)) = 0
      · exact fits_ok p q r A n c L w hO hl (by omega) hm
      · exact fits_no p q r A n c L w hO hl (by omega) hok hm
  · exact fits_bad p q r A n c L w hok
end Go.Proofs.Ythhddmamlpnjpaa
