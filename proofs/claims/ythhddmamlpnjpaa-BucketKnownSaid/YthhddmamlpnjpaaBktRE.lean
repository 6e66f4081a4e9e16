/- BucketRuns, walked. -/
import Derived.Test.YthhddmamlpnjpaaBktRD
namespace Go.Proofs.Ythhddmamlpnjpaa
open Go.RowKit Go.Lib Go.Sort
attribute [local go_sem ↓] Go.wp_at_zero Go.wp_at_succ

theorem run_min_i64 {P : Program} (ts : Array TypeId) (t : TypeId) (a b : Int) (c : Nat) (hc : (c : Int) = min a b) (W : World) : (Builtin.min_ ts t #[.int .i64 a, .int .i64 b]).run P W = .ok (.int .i64 (c : Int)) W := by
  rw [hc]
  by_cases h : a < b
  · simp [Builtin.min_, Builtin.min2]
    omega
  · simp [Builtin.min_, Builtin.min2]
    omega
theorem AskAt.take {w : World} {A : Option Addr} {L : List (Nat × Nat)} (h : AskAt w A L) (k : Nat) : AskAt w A (L.take k) := by
  intro i x y hi
  rw [List.getElem?_take] at hi
  split at hi
  · exact h i x y hi
  · cases hi

theorem boolv_set (l : List Bool) (k : Nat) (x : Bool) : (boolv l).set k (.bool x) = boolv (l.set k x) := by simp [boolv, List.map_set]
theorem Chg.asBelow {w w1 w2 : World} {T : List Nat} (h : Chg [] w w1) (h2 : Chg T w1 w2) (hT : ∀ k ∈ T, w.heap.size ≤ k) : Chg [] w w2 := h.seq h2 (fun k hk => .inr (hT k hk))

/-- A row of truths that the call has made, whose block lies from a block number on. -/
structure TruAt (W : World) (B : Nat) (A : Option Addr) (n c : Nat) (l : List Bool) : Prop where
  own : Own W 4 1 (.slice A n c) n (boolv l)
  ge : ∀ k, (Value.slice A n c).ownBlock = some k → B ≤ k
  len : l.length = n
theorem TruAt.chg {W W' : World} {B : Nat} {A : Option Addr} {n c : Nat} {l : List Bool} (h : TruAt W B A n c l) (hc : Chg [] W W') : TruAt W' B A n c l := ⟨h.own.chg hc (by simp), h.ge, h.len⟩

theorem run_C {p q r : Nat} {g o n c : Nat} {L : List (Nat × Nat)} (hl : L.length = n) (hn : n ≤ 300) (h64 : ∀ x ∈ L, x.2 < 18446744073709551616) {bl : List Bool} {cd : Int} (hv : runV p q r L = (bl, cd)) (W : World) (hO : Own W 40 2 (.slice (some ⟨g, o, none⟩) n c) n (askv L)) :
    Calls Try.prog 11 #[.agg #[.int .u64 (p : Int), .int .u64 (q : Int), .int .u64 (r : Int)], .slice (some ⟨g, o, none⟩) n c] W fun e w' => ∃ A m d, e = .returned (.tuple #[.slice A m d, .int .i64 cd]) ∧ TruAt w' W.heap.size A m d bl ∧ Chg [] W w' := by
  refine (run_any p q r (some ⟨g, o, none⟩) n c L W hO hl (by omega) h64).mono ?_
  rintro e w' ⟨A, m, d, he, hA⟩
  rw [hv] at he hA
  exact ⟨A, m, d, he, ⟨hA.own, hA.new, by have := hA.own.len; simpa [boolv] using this⟩, hA.chg⟩
theorem rRun_C {p q r : Nat} {A0 : Option Addr} {n c : Nat} {L : List (Nat × Nat)} (hl : L.length = n) (hn : n ≤ 300) {bl : List Bool} {cd : Int} (hv : runV p q r L = (bl, cd)) (W : World) (hO : AskAt W A0 L) :
    Calls Try.prog 12 #[.agg #[.int .u64 (p : Int), .int .u64 (q : Int), .int .u64 (r : Int)], .slice A0 n c] W fun e w' => ∃ A m d, e = .returned (.tuple #[.slice A m d, .int .i64 cd]) ∧ TruAt w' W.heap.size A m d bl ∧ Chg [] W w' := by
  refine (rRun_any p q r A0 n c L W hO hl (by omega)).mono ?_
  rintro e w' ⟨A, m, d, he, hA⟩
  rw [hv] at he hA
  exact ⟨A, m, d, he, ⟨hA.own, hA.new, by have := hA.own.len; simpa [boolv] using this⟩, hA.chg⟩
theorem same_C {W : World} {B1 B2 : Nat} {A1 A2 : Option Addr} {n1 c1 n2 c2 : Nat} {l : List Bool} (h1 : TruAt W B1 A1 n1 c1 l) (h2 : TruAt W B2 A2 n2 c2 l) (hn : l.length ≤ 300) :
    Calls Try.prog 13 #[.slice A1 n1 c1, .slice A2 n2 c2] W fun e w' => e = .returned (.bool true) ∧ Chg [] W w' := by
  have h := same_any A1 A2 n1 c1 n2 c2 l l W h1.own h2.own (by have := h1.len; omega)
  rw [show decide (l = l) = true by simp] at h
  exact h

set_option maxHeartbeats 8000000 in
set_option maxRecDepth 100000 in
theorem runs_any (p q r : Nat) (A : Option Addr) (n c : Nat) (L : List (Nat × Nat)) (w : World) (hA : AskAt w A L) (hl : L.length = n) (hn : n ≤ c) (hc : c ≤ 9223372036854775807) (hnil : A = none → n = 0 ∧ c = 0) :
    Calls Try.prog 3 #[.agg #[.int .u64 (p : Int), .int .u64 (q : Int), .int .u64 (r : Int)], .slice A n c] w fun e w' => e = .returned (.bool true) ∧ Chg [] w w' := by
  obtain ⟨n3, hn3⟩ : ∃ k, k = min n 300 := ⟨_, rfl⟩
  obtain ⟨n2, hn2⟩ : ∃ k, k = min n3 24 := ⟨_, rfl⟩
  have hm1 := run_min_i64 (P := Try.prog) #[3, 3] 3 (n : Int) 300 n3 (by omega)
  have hm2 := run_min_i64 (P := Try.prog) #[3, 3] 3 (n3 : Int) 24 n2 (by omega)
  have b3 : (n3 : Int) ≤ (c : Int) := by omega
  have b2 : (n2 : Int) ≤ (c : Int) := by omega
  have b4 : (c : Int) ≤ 9223372036854775807 := by omega
  have b5 : (n3 : Int) ≤ 300 := by omega
  have b6 : (n2 : Int) ≤ 24 := by omega
  have b7 : (n : Int) ≤ 9223372036854775807 := by omega
  have l3 : (L.take n3).length = n3 := by rw [List.length_take]; omega
  have l2 : (L.take n2).length = n2 := by rw [List.length_take]; omega
  have hA3 := hA.take n3
  have hA2 := hA.take n2
  have h64 : ∀ x ∈ L, x.2 < 18446744073709551616 := by
    intro z hz
    obtain ⟨j, hj, rfl⟩ := List.mem_iff_getElem.1 hz
    exact (hA j _ _ (List.getElem?_eq_getElem hj)).2.1
  obtain ⟨bl, hbl⟩ : ∃ x, x = (runV p q r (L.take n3)).1 := ⟨_, rfl⟩
  obtain ⟨cd, hcd⟩ : ∃ x, x = (runV p q r (L.take n3)).2 := ⟨_, rfl⟩
  have hbn : bl.length ≤ 300 := by
    rw [hbl]
    unfold runV
    split
    · rw [runL_len]; omega
    · simp
  have hv : runV p q r (L.take n3) = (bl, cd) := by rw [hbl, hcd]
  obtain ⟨f1, hf1⟩ : ∃ x, x = (fitsV p q r (L.take n2)).1 := ⟨_, rfl⟩
  obtain ⟨f2, hf2⟩ : ∃ x, x = (fitsV p q r (L.take n2)).2 := ⟨_, rfl⟩
  have HSP := hid (fun W (h : AskAt W A (L.take n3)) => spare_any A n3 c (L.take n3) W h l3 (by omega) (fun h => by have := hnil h; omega))
  have HSP2 := hid (fun W (h : AskAt W A (L.take n2)) => spare_any A n2 c (L.take n2) W h l2 (by omega) (fun h => by have := hnil h; omega))
  have HRU := hid (fun g o c W hO => run_C (p := p) (q := q) (r := r) (g := g) (o := o) (c := c) l3 (by omega) (fun x hx => h64 x (List.mem_of_mem_take hx)) hv W hO)
  have HRR := hid (fun W hO => rRun_C (p := p) (q := q) (r := r) (A0 := A) (c := c) l3 (by omega) hv W hO)
  have HKE := hid (fun g o c' W h1 h2 => kept_any g o n3 c' A c (L.take n3) W h1 h2 l3 (by omega))
  have HKE2 := hid (fun g o c' W h1 h2 => kept_any g o n2 c' A c (L.take n2) W h1 h2 l2 (by omega))
  have hfi := fun g o c' W hO => fits_any p q r (some ⟨g, o, none⟩) n2 c' (L.take n2) W hO l2 (by omega)
  have hrf := fun W hO => rFits_any p q r A n2 c (L.take n2) W hO l2 (by omega)
  rw [← hf1, ← hf2] at hfi hrf
  have HFI := hid hfi
  have HRF := hid hrf
  have HBN := hid hbn
  have HL3 := hid (And.intro l3 l2)
  have HA3 := hid hA3
  have HA2 := hid hA2
  clear hfi hrf hbl hcd hbn hv hf1 hf2 hA3 hA2 l3 l2 h64 hn3 hn2 hA hl hnil
  have B0 : BoxB (w.alloc (.cells #[.int .u64 (p : Int), .int .u64 (q : Int), .int .u64 (r : Int)] 24)) w.heap.size p q r := Blk.new w 24 #[.int .u64 (p : Int), .int .u64 (q : Int), .int .u64 (r : Int)]
  have C0 := hid ((Chg.refl [] w).alloc (.cells #[.int .u64 (p : Int), .int .u64 (q : Int), .int .u64 (r : Int)] 24))
  have S0 : w.heap.size < (w.alloc (.cells #[.int .u64 (p : Int), .int .u64 (q : Int), .int .u64 (r : Int)] 24)).heap.size := by simp
  have HS0 := hid S0
  clear S0
  obtain ⟨i4, hi4, hw0, hw1, hw2⟩ := info_parts Try.info4
  go_enter Try.func3, Try.ntmps3
  go_wp2_with (first
    | (go_at_call 10; (with_reducible refine (HSP.out _ (HA3.out.chg C0.out)).mono ?_); rintro e w1 ⟨g, o, c1, rfl, hA1⟩; have K1 := hid (C0.out.trans hA1.chg); have B1 := BoxB.chg B0 hA1.chg; have b10 := B1.cells.1; have b11 := B1.cells.2.1; have b12 := B1.cells.2.2.1; have tok1 : True := trivial; have hSZ1 := hid hA1.chg.size)
    | (have _t := tok1; go_at_call 11; (with_reducible refine (HRU.out g o c1 _ (hA1.own.front HL3.out.1 (by omega))).mono ?_); rintro e w2 ⟨Al, nl, cl, rfl, hT2, hC⟩; have hA2 := hA1.own.chg hC (by simp); have K2 := hid (K1.out.trans hC); have B2 := BoxB.chg B1 hC; have hge2 := hid (show w.heap.size < w1.heap.size from Nat.lt_of_lt_of_le HS0.out hA1.chg.size); clear hC tok1; have b20 := B2.cells.1; have b21 := B2.cells.2.1; have b22 := B2.cells.2.2.1)
    | (go_at_call 11; (with_reducible refine (HRU.out g o c1 _ (hA2.front HL3.out.1 (by omega))).mono ?_); rintro e w3 ⟨Am, nm, cm, rfl, hT3, hC⟩; have hA3 := hA2.chg hC (by simp); have hTl3 := hT2.chg hC; have K3 := hid (K2.out.trans hC); have B3 := BoxB.chg B2 hC; clear hC; have b30 := B3.cells.1; have b31 := B3.cells.2.1; have b32 := B3.cells.2.2.1)
    | (go_at_call 12; (with_reducible refine (HRR.out _ (HA3.out.chg K3.out)).mono ?_); rintro e w4 ⟨Aw, nw, cw, rfl, hT4, hC⟩; have hA4 := hA3.chg hC (by simp); have hTl4 := hTl3.chg hC; have hTm4 := hT3.chg hC; have K4 := hid (K3.out.trans hC); have B4 := BoxB.chg B3 hC; have hs34 := hid hC.size; clear hC)
    | (go_at_call 13; (with_reducible refine (same_C hTl4 hT4 HBN.out).mono ?_); rintro e w5 ⟨rfl, hC⟩; have hTl5 := hTl4.chg hC; have hTm5 := hTm4.chg hC; have hTw5 := hT4.chg hC; have hA5 := hA4.chg hC (by simp); have K5 := hid (K4.out.trans hC); have B5 := BoxB.chg B4 hC; clear hC)
    | (go_at_call 13; (with_reducible refine (same_C hTm5 hTw5 HBN.out).mono ?_); rintro e w6 ⟨rfl, hC⟩; have hTl6 := hTl5.chg hC; have hTm6 := hTm5.chg hC; have hTw6 := hTw5.chg hC; have hA6 := hA5.chg hC (by simp); have K6 := hid (K5.out.trans hC); have B6 := BoxB.chg B5 hC; clear hC)
    | (go_at_call 14; (with_reducible refine (HKE.out g o c1 _ hA6 (HA3.out.chg K6.out)).mono ?_); rintro e w7 ⟨rfl, hC⟩; have hTl7 := hTl6.chg hC; have hTm7 := hTm6.chg hC; have hTw7 := hTw6.chg hC; have K7 := hid (K6.out.trans hC); have B7 := BoxB.chg B6 hC; clear hC))
  have HLB := hid (show (∀ k ∈ (Value.slice Al nl cl).ownBlock.toList, w.heap.size < k ∧ (Value.slice Am nm cm).ownBlock ≠ some k ∧ (Value.slice Aw nw cw).ownBlock ≠ some k) by
    intro k hk
    have hk' : (Value.slice Al nl cl).ownBlock = some k := by simpa using hk
    have h1 := hT2.ge k hk'
    have h2 := hT2.own.lt k hk'
    have h3 := hT3.own.lt
    have h4 := hge2.out
    refine ⟨by omega, fun h => ?_, fun h => ?_⟩
    · have := hT3.ge k h; omega
    · have := hT4.ge k h
      have h5 := hTl3.own.lt k hk'
      omega)
  have HTl := hid hTl7
  have HTm := hid hTm7
  have HTw := hid hTw7
  have HB7 := hid B7
  clear hA1 hA2 hA3 hA4 hA5 hA6 hT2 hT3 hT4 hTl3 hTl4 hTl5 hTl6 hTl7 hTm4 hTm5 hTm6 hTm7 hTw5 hTw6 hTw7 B0 B1 B2 B3 B4 B5 B6 B7 b10 b11 b12 b20 b21 b22 b30 b31 b32
  have nlb : (nl : Int) ≤ 300 := by have := HTl.out.len; have := HBN.out; omega
  go_loopw [12] (fun iv wr => ∃ (i : Nat) (bb : List Bool), i ≤ nl ∧ iv = .int .i64 i ∧ Own wr 4 1 (.slice Al nl cl) nl (boolv bb) ∧ Chg (Value.slice Al nl cl).ownBlock.toList w7 wr) (fun iv _ => nl - (intOf iv).toNat)
  case atStart => exact ⟨0, bl, Nat.zero_le _, rfl, HTl.out.own, Chg.refl _ _⟩
  case round =>
    obtain ⟨i, bb, hi, rfl, hO, hC⟩ := hrel
    by_cases hlt : i < nl
    · obtain ⟨gl, ol, cc, hv, _, _, hgl⟩ := hO.some_ (by omega)
      injection hv with hAA _ hcc
      subst hAA; subst hcc
      obtain ⟨x, hx⟩ := get_bool bb i (by have := hO.len; simp [boolv] at this; omega)
      have q0 := hO.cell (boolv_get bb i x hx)
      dsimp only at q0
      obtain ⟨q1, q2, _⟩ := q0
      have HX := hid hx
      have i0 : (0 : Int) ≤ (i : Int) := by omega
      have i1 : (i : Int) < (nl : Int) := by omega
      clear hx
      go_wp2
      go_roundw
      case measure => simp [intOf]; omega
      case rel =>
        refine ⟨i + 1, bb.set i (!x), by omega, by go_num, ?_, hC.setCell (.inl (by simp [Value.ownBlock])) _⟩
        rw [← boolv_set]
        exact hO.set_ (by omega) _
    · obtain rfl : i = nl := by omega
      have T8 := hid hC
      have HO8 := hid hO
      clear hlt hi
      obtain ⟨wo, hwo⟩ : ∃ wo : World, wo = wr := ⟨_, rfl⟩
      rw [← hwo] at T8 HO8 hO hC
      rw [← hwo]
      clear hwo
      go_wp2
      go_loopw [6, 13] (fun lv iv wr => ∃ (j m2 : Nat) (A2 : Option Addr) (c2 : Nat) (b2 : List Bool), j ≤ 20 ∧ iv = .int .i64 j ∧ lv = .slice A2 m2 c2 ∧ m2 ≤ 300 + j ∧ Own wr 4 1 (.slice A2 m2 c2) m2 (boolv b2) ∧ Chg (Value.slice Al i cl).ownBlock.toList w7 wr ∧ Hid (∀ k, (Value.slice A2 m2 c2).ownBlock = some k → k ∈ (Value.slice Al i cl).ownBlock.toList ∨ w7.heap.size ≤ k)) (fun _ iv _ => 20 - (intOf iv).toNat)
      case atStart => exact ⟨0, i, Al, cl, bb, by omega, rfl, rfl, by omega, hO, hC, hid (fun k hk => .inl (by simpa using hk))⟩
      case round =>
        obtain ⟨j, m2, A2, c2, b2, hj, rfl, rfl, hm2, hO2, hC2, hbk⟩ := hrel
        by_cases hlt : (j : Int) < 20
        · go_wp2_with ((with_reducible refine at_append_ (dst := some 82) ?_); (refine wpList_append_any _ rfl (.tmp 80) (.tmp 81) 27 rfl 4 i4 _ 1 1 Try.underlying27 hi4 hw0 hw1 hw2 rfl (by omega) (.slice A2 m2 c2) m2 (boolv b2) rfl (hO2.alloc _) ⟨wr.heap.size, 0, none⟩ 1 1 [.bool true] rfl rfl (by simpa using (Blk.new wr 4 #[.bool true]).adds0) (by simp [Value.oneCell']) (by unfold maxLen; omega) (by omega) ?_); intro A' c' w8 hO4 hC4 hb4)
          go_roundw
          case measure => simp [intOf] <;> omega
          case rel =>
            have hsz := hC2.size
            refine ⟨j + 1, m2 + 1, A', c', b2 ++ [true], by omega, by go_num, rfl, by omega, by rw [boolv_append]; exact hO4, ?_, hid ?_⟩
            · refine (hC2.alloc (.cells #[.bool true] 4)).seq hC4 ?_
              intro k hk
              exact hbk.out k (by simpa using hk)
            · intro k hk
              rcases hb4 with h | ⟨k', h, h2⟩
              · exact hbk.out k (h ▸ hk)
              · rw [h] at hk; injection hk with hk; subst hk; right; simp at h2; omega
        · have HM9 : Hid (TruAt wr w2.heap.size Am nm cm bl) := hid ⟨HTm.out.own.chg hC2 (fun k hk hm => (HLB.out k hm).2.1 hk), HTm.out.ge, HTm.out.len⟩
          have HW9 : Hid (TruAt wr w3.heap.size Aw nw cw bl) := hid ⟨HTw.out.own.chg hC2 (fun k hk hm => (HLB.out k hm).2.2 hk), HTw.out.ge, HTw.out.len⟩
          have HB9 : BoxB wr w.heap.size p q r := Blk.chg HB7.out hC2 (fun hm => absurd (HLB.out _ hm).1 (Nat.lt_irrefl _))
          have K9 := hid (K7.out.asBelow hC2 (fun k hk => Nat.le_of_lt (HLB.out k hk).1))
          have hj20 : ¬ ((j : Int) < 20) := hlt
          clear hlt hO2 hC2 hbk
          go_wp2_with (first
            | (go_at_call 13; (with_reducible refine (same_C HM9.out HW9.out HBN.out).mono ?_); rintro e wA ⟨rfl, hC⟩; have KA := hid (K9.out.trans hC); have BA := BoxB.chg HB9 hC; clear hC)
            | (go_at_call 10; (with_reducible refine (HSP2.out _ (HA2.out.chg KA.out)).mono ?_); rintro e wB ⟨g2, o2, c2', rfl, hAB⟩; have KB := hid (KA.out.trans hAB.chg); have BB := BoxB.chg BA hAB.chg; have bb0 := BB.cells.1; have bb1 := BB.cells.2.1; have bb2 := BB.cells.2.2.1)
            | (go_at_call 15; (with_reducible refine (HFI.out g2 o2 c2' _ (hAB.own.front HL3.out.2 (by omega))).mono ?_); rintro e wC ⟨rfl, hC⟩; have hAC := hAB.own.chg hC (by simp); have KC := hid (KB.out.trans hC); have BC := BoxB.chg BB hC; clear hC; have bc0 := BC.cells.1; have bc1 := BC.cells.2.1; have bc2 := BC.cells.2.2.1)
            | (go_at_call 16; (with_reducible refine (HRF.out _ (HA2.out.chg KC.out)).mono ?_); rintro e wD ⟨rfl, hC⟩; have hAD := hAC.chg hC (by simp); have KD := hid (KC.out.trans hC); clear hC)
            | (go_at_call 14; (with_reducible refine (HKE2.out g2 o2 c2' _ hAD (HA2.out.chg KD.out)).mono ?_); rintro e wE ⟨rfl, hC⟩; have KE := hid (KD.out.trans hC); clear hC)
            | (go_at_call 17; refine (works_any _).mono ?_; rintro e wF ⟨rfl, hC⟩; have KF := hid (KE.out.trans hC); clear hC))
          go_ret
          exact ⟨rfl, KF.out⟩
end Go.Proofs.Ythhddmamlpnjpaa
