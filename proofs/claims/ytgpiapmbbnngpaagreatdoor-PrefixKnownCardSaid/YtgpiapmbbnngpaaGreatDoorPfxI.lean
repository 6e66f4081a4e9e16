/- Halves walked. -/
import Derived.Test.YtgpiapmbbnngpaaGreatDoorPfxWa
import Derived.Laws.BitsAllLaws
namespace Go.Proofs.YtgpiapmbbnngpaaGreatDoor
open Go.RowKit Go.Lib Go.Sort
attribute [local go_sem] guard22 field24N field24N_0

theorem rs29tt {fn : Func} {p p' q : Tmp} (h : fn.results = #[.cell p 29, .cell p' 29, .tmp q]) (tmps : Array Value) (w : World) (g g' : Nat) (v : Bool) (n : Nat) (k : Int) (v' : Bool) (n' : Nat) (k' : Int) (t t' : TypeId) (u : Value)
    (hp : tmps.getD p undef = .pointer (some ⟨g, 0, none⟩)) (hp2 : tmps.getD p' undef = .pointer (some ⟨g', 0, none⟩)) (hq : tmps.getD q undef = u) (hb : Blk w g t (pfx v n k)) (hb2 : Blk w g' t' (pfx v' n' k')) : (results fn tmps).run Tryz.prog w = .ok (.tuple #[.agg (pfx v n k).toArray, .agg (pfx v' n' k').toArray, u]) w := by
  have hp' : tmps[p]?.getD undef = .pointer (some ⟨g, 0, none⟩) := by simpa using hp
  have hp2' : tmps[p']?.getD undef = .pointer (some ⟨g', 0, none⟩) := by simpa using hp2
  have hq' : tmps[q]?.getD undef = u := by simpa using hq
  simp [results, h, hp', hp2', hq', asAddr, run_loadVar_row w g t 29 _ (0, 0) _ hb Tryz.underlying29 rfl (size29.trans (by simp [pfx_length])), run_loadVar_row w g' t' 29 _ (0, 0) _ hb2 Tryz.underlying29 rfl (size29.trans (by simp [pfx_length]))]
theorem high_byte (n K i : Nat) (hK : K < 128) (hi : i < 16) : byteAt (highN n K) i = if i = K / 8 then byteAt n i ||| 128 / 2 ^ (K % 8) else byteAt n i := by
  apply Nat.eq_of_testBit_eq
  intro j
  rw [byteAt_bit]
  unfold highN
  rw [Nat.testBit_or, Nat.testBit_two_pow]
  by_cases hj : j < 8
  · by_cases h : i = K / 8
    · rw [if_pos h, Nat.testBit_or, byteAt_bit]
      have e : 128 / 2 ^ (K % 8) = 2 ^ (7 - K % 8) := by
        rw [show (128 : Nat) = 2 ^ 7 by rfl, Nat.pow_div (by omega) (by omega)]
      rw [e, Nat.testBit_two_pow]
      have : (127 - K = 120 - 8 * i + j) ↔ (7 - K % 8 = j) := by omega
      simp [hj, this]
    · rw [if_neg h, byteAt_bit]
      have : ¬ (127 - K = 120 - 8 * i + j) := by omega
      simp [hj, this]
  · have hz : (if i = K / 8 then byteAt n i ||| 128 / 2 ^ (K % 8) else byteAt n i) < 2 ^ 8 := by
      split
      · refine Nat.or_lt_two_pow (byteAt_lt n i) ?_
        exact Nat.lt_of_le_of_lt (Nat.div_le_self _ _) (by decide)
      · exact byteAt_lt n i
    rw [Nat.testBit_lt_two_pow (Nat.lt_of_lt_of_le hz (Nat.pow_le_pow_right (by omega) (by omega)))]
    simp [hj]
theorem pfx_set (v : Bool) (n K : Nat) (k : Int) (hK : K < 128) : (pfx v n k).set (1 + K / 8) (.int .u8 ((byteAt n (K / 8) ||| 128 / 2 ^ (K % 8) : Nat) : Int)) = pfx v (highN n K) k := by
  unfold pfx
  rw [List.set_append, if_pos (by rw [adr_length]; omega)]
  congr 1
  exact adrV_set v (byteAt n) (byteAt (highN n K)) (K / 8) _ (by rw [high_byte n K _ hK (by omega), if_pos rfl]) (fun j hj hne => by rw [high_byte n K j hK hj, if_neg hne])
theorem step_ld29 {ops : Array Oper} {o : Oper} {a : Act} {w : World} {K : Act → World → Prop} {Q : Exit → Act → World → Prop} {E : Prop} (hgd : o.guard = none) (x : Operand) (ho : o.op = .load 29 x)
    (g : Nat) (hx : a.eval x = .pointer (some ⟨g, 0, none⟩)) (t : TypeId) (v : Bool) (n : Nat) (k : Int) (hb : Blk w g t (pfx v n k)) (h : K (a.put o.dst (.agg (pfx v n k).toArray)) w) :
    if Region.wanted o (yielded ops a.tmps) = true then Oper.wp Tryz.prog o a w K Q else E := by
  have hw : Region.wanted o (yielded ops a.tmps) = true := by simp [Region.wanted, hgd]
  rw [if_pos hw]
  exact wp_load_row 29 x ho g hx t _ (0, 0) _ hb Tryz.underlying29 rfl (size29.trans (by simp [pfx_length])) h
theorem step_st29 {ops : Array Oper} {o : Oper} {a : Act} {w : World} {K : Act → World → Prop} {Q : Exit → Act → World → Prop} {E : Prop} (hgd : o.guard = none) (x y : Operand) (ho : o.op = .store 29 x y)
    (g : Nat) (v : Bool) (n : Nat) (k : Int) (hx : a.eval x = .pointer (some ⟨g, 0, none⟩)) (hy : a.eval y = .agg (pfx v n k).toArray) (t : TypeId) (old : List Value) (hb : Blk w g t old) (hl : old.length = 18)
    (h : K (a.put o.dst undef) (w.setRow g (pfx v n k).toArray)) :
    if Region.wanted o (yielded ops a.tmps) = true then Oper.wp Tryz.prog o a w K Q else E := by
  have hw : Region.wanted o (yielded ops a.tmps) = true := by simp [Region.wanted, hgd]
  rw [if_pos hw]
  exact wp_store_row 29 x y ho g _ hx hy t old.toArray hb (size29.trans (by simp [pfx_length])) (by simp [pfx_length, hl]) (pfx_ones v n k) h
/-- What comes of halving. -/
def halP (v : Bool) (n : Nat) (k : Int) : (Bool × Nat × Int) × (Bool × Nat × Int) × Int :=
  if okP v n k then (if k = wid v then ((false, 0, 0), (false, 0, 0), 5) else ((v, n, k + 1), (v, highN n k.toNat, k + 1), 0)) else ((false, 0, 0), (false, 0, 0), 151)

set_option maxHeartbeats 4000000 in
set_option maxRecDepth 100000 in
theorem halves_no (v : Bool) (n : Nat) (k : Int) (hn : n < 2 ^ 128) (h : okP v n k = false) (w : World) :
    Calls Tryz.prog 24 #[.agg (pfx v n k).toArray] w fun e w' => e = .returned (.tuple #[.agg (pfx false 0 0).toArray, .agg (pfx false 0 0).toArray, .int .i64 151]) ∧ Chg [] w w' := by
  have HP := hid (show Blk (((w.alloc (.cells (pfx v n k).toArray 29)).alloc (.cells zpfx 29)).alloc (.cells zpfx 29)) w.heap.size 29 (pfx v n k) from ((Blk.new w 29 (pfx v n k).toArray).alloc _).alloc _)
  have HA := hid (show Blk (((w.alloc (.cells (pfx v n k).toArray 29)).alloc (.cells zpfx 29)).alloc (.cells zpfx 29)) (w.heap.size + 1) 29 zpfx.toList from (Blk.new_at (w.alloc (.cells (pfx v n k).toArray 29)) 29 zpfx (by simp)).alloc _)
  have HB := hid (show Blk (((w.alloc (.cells (pfx v n k).toArray 29)).alloc (.cells zpfx 29)).alloc (.cells zpfx 29)) (w.heap.size + 2) 29 zpfx.toList from Blk.new_at _ 29 zpfx (by simp))
  have HC := hid ((((Chg.refl [] w).alloc (.cells (pfx v n k).toArray 29)).alloc (.cells zpfx 29)).alloc (.cells zpfx 29))
  have HK := hid (check_N v n k hn)
  rw [show errP v n k = 151 by unfold errP; rw [h]; rfl] at HK
  go_enter Tryz.func24, Tryz.ntmps24
  go_wp2_with (first
    | (go_at_call 30; refine (HK.out _).mono ?_; rintro e w2 ⟨rfl, C2⟩)
    | (refine ld29 rfl _ rfl w.heap.size rfl 29 v n k HP.out ?_)
    | (refine st29z rfl _ _ rfl (w.heap.size + 1) rfl rfl 29 _ (HA.out.chg C2 (by simp)) rfl ?_)
    | (refine st29z rfl _ _ rfl (w.heap.size + 2) rfl rfl 29 _ ((HB.out.chg C2 (by simp)).chg (S := [w.heap.size + 1]) ((Chg.refl _ _).setRow (g := w.heap.size + 1) (.inl (by simp)) _) (by simp)) rfl ?_))
  have RA := ((HA.out.chg C2 (by simp)).row (pfx false 0 0)).chg (S := [w.heap.size + 2]) ((Chg.refl _ _).setRow (g := w.heap.size + 2) (.inl (by simp)) (pfx false 0 0).toArray) (by simp)
  have RB := ((HB.out.chg C2 (by simp)).chg (S := [w.heap.size + 1]) ((Chg.refl _ _).setRow (g := w.heap.size + 1) (.inl (by simp)) (pfx false 0 0).toArray) (by simp)).row (pfx false 0 0)
  refine bodyPost_ret (rs29tt rfl _ _ (w.heap.size + 1) (w.heap.size + 2) false 0 0 false 0 0 29 29 _ rfl rfl rfl RA RB) rfl ⟨rfl, ?_⟩
  exact ((HC.out.trans C2).setRow (.inr (by omega)) _).setRow (.inr (by omega)) _
set_option maxHeartbeats 4000000 in
set_option maxRecDepth 100000 in
theorem halves_yes (v : Bool) (n : Nat) (K : Nat) (hn : n < 2 ^ 128) (h : okP v n K = true) (w : World) :
    Calls Tryz.prog 24 #[.agg (pfx v n K).toArray] w fun e w' => e = .returned (.tuple #[.agg (pfx (halP v n K).1.1 (halP v n K).1.2.1 (halP v n K).1.2.2).toArray, .agg (pfx (halP v n K).2.1.1 (halP v n K).2.1.2.1 (halP v n K).2.1.2.2).toArray, .int .i64 (halP v n K).2.2]) ∧ Chg [] w w' := by
  have HP := hid (show Blk (((w.alloc (.cells (pfx v n K).toArray 29)).alloc (.cells zpfx 29)).alloc (.cells zpfx 29)) w.heap.size 29 (pfx v n K) from ((Blk.new w 29 (pfx v n K).toArray).alloc _).alloc _)
  have HA := hid (show Blk (((w.alloc (.cells (pfx v n K).toArray 29)).alloc (.cells zpfx 29)).alloc (.cells zpfx 29)) (w.heap.size + 1) 29 zpfx.toList from (Blk.new_at (w.alloc (.cells (pfx v n K).toArray 29)) 29 zpfx (by simp)).alloc _)
  have HB := hid (show Blk (((w.alloc (.cells (pfx v n K).toArray 29)).alloc (.cells zpfx 29)).alloc (.cells zpfx 29)) (w.heap.size + 2) 29 zpfx.toList from Blk.new_at _ 29 zpfx (by simp))
  have HC := hid ((((Chg.refl [] w).alloc (.cells (pfx v n K).toArray 29)).alloc (.cells zpfx 29)).alloc (.cells zpfx 29))
  have HK := hid (check_N v n K hn)
  rw [show errP v n K = 0 by unfold errP; rw [h]; rfl] at HK
  have HWd := hid (cls_of (width_N v n))
  have hb : (K : Int) ≤ wid v := by
    unfold okP at h
    simp only [Bool.and_eq_true, decide_eq_true_eq] at h
    exact h.1.2
  have hw128 := wid_le v
  by_cases hq : K = wid v
  · subst hq
    have HF := hid (show halP v n (wid v) = ((false, 0, 0), (false, 0, 0), 5) by unfold halP; rw [if_pos h, if_pos rfl])
    rw [HF.out]
    clear hb hw128
    go_enter Tryz.func24, Tryz.ntmps24
    go_wp2_with (first
      | (go_at_call 30; refine (HK.out _).mono ?_; rintro e w2 ⟨rfl, C2⟩)
      | (refine ld29 rfl _ rfl w.heap.size rfl 29 v n (wid v) HP.out ?_))
    have P1 := HP.out.chg C2 (by simp)
    have R := P1.pfxR
    have ck := cell_regrown (P1.cell_of (pfx_bits v n (wid v)))
    refine wp_region_quiet_below (by kernel_rfl) (by kernel_rfl) ?_
    repeat (first | (go_big_quiet_want; refine quiet_load 24 _ rfl w.heap.size 0 rfl (adr v n) _ R.adr Tryz.underlying24 rfl (size24.trans (by rw [adr_length])) ?_; go_big_quiet_on) | go_big_quiet_step ((go_at_call 55; with_reducible exact HWd.out _ _ _)) | quiet_step ((go_at_call 55; with_reducible exact HWd.out _ _ _)))
    refine wpQuiet_nil ?_
    intro w3 hw3
    have C3 := chg_cls hw3
    clear hw3 R ck
    have A3 := hid ((HA.out.chg C2 (by simp)).chg C3 (by simp))
    have B3 := hid ((HB.out.chg C2 (by simp)).chg C3 (by simp))
    go_wp2_with (first
      | (refine st29z rfl _ _ rfl (w.heap.size + 1) rfl rfl 29 _ A3.out rfl ?_)
      | (refine st29z rfl _ _ rfl (w.heap.size + 2) rfl rfl 29 _ (B3.out.chg (S := [w.heap.size + 1]) ((Chg.refl _ _).setRow (g := w.heap.size + 1) (.inl (by simp)) _) (by simp)) rfl ?_))
    have RA := (A3.out.row (pfx false 0 0)).chg (S := [w.heap.size + 2]) ((Chg.refl _ _).setRow (g := w.heap.size + 2) (.inl (by simp)) (pfx false 0 0).toArray) (by simp)
    have RB := (B3.out.chg (S := [w.heap.size + 1]) ((Chg.refl _ _).setRow (g := w.heap.size + 1) (.inl (by simp)) (pfx false 0 0).toArray) (by simp)).row (pfx false 0 0)
    refine bodyPost_ret (rs29tt rfl _ _ (w.heap.size + 1) (w.heap.size + 2) false 0 0 false 0 0 29 29 _ rfl rfl rfl RA RB) rfl ⟨rfl, ?_⟩
    exact (((HC.out.trans C2).trans C3).setRow (.inr (by omega)) _).setRow (.inr (by omega)) _
  · have HF := hid (show halP v n K = ((v, n, (K : Int) + 1), (v, highN n K, (K : Int) + 1), 0) by unfold halP; rw [if_pos h, if_neg (by omega)]; rfl)
    rw [HF.out]
    have d2 : ((K : Int) == (wid v : Int)) = false := by rw [beq_eq_false_iff_ne]; omega
    have k127 : (K : Int) ≤ 127 := by omega
    have K127 : K < 128 := by omega
    clear hb hw128 hq
    go_enter Tryz.func24, Tryz.ntmps24
    go_wp2_with (first
      | (go_at_call 30; refine (HK.out _).mono ?_; rintro e w2 ⟨rfl, C2⟩)
      | (refine ld29 rfl _ rfl w.heap.size rfl 29 v n K HP.out ?_))
    have P1 := HP.out.chg C2 (by simp)
    have R := P1.pfxR
    have ck := cell_regrown (P1.cell_of (pfx_bits v n K))
    refine wp_region_quiet_below (by kernel_rfl) (by kernel_rfl) ?_
    repeat (first | (go_big_quiet_want; refine quiet_load 24 _ rfl w.heap.size 0 rfl (adr v n) _ R.adr Tryz.underlying24 rfl (size24.trans (by rw [adr_length])) ?_; go_big_quiet_on) | go_big_quiet_step ((go_at_call 55; with_reducible exact HWd.out _ _ _)) | quiet_step ((go_at_call 55; with_reducible exact HWd.out _ _ _)))
    refine wpQuiet_nil ?_
    intro w3 hw3
    have C3 := chg_cls hw3
    clear hw3 R ck
    have P3 := hid (P1.chg C3 (by simp))
    have A3 := hid ((HA.out.chg C2 (by simp)).chg C3 (by simp))
    have B3 := hid ((HB.out.chg C2 (by simp)).chg C3 (by simp))
    have ck3 := P3.out.cell_of (pfx_bits v n K)
    go_wp2_with (first
      | (refine ld29p rfl _ rfl w.heap.size rfl 29 v n K P3.out ?_)
      | (refine bd29 rfl _ _ rfl v n ((K : Int) + 1) rfl rfl ?_)
      | (refine st29 rfl _ _ rfl (w.heap.size + 1) v n ((K : Int) + 1) rfl rfl 29 _ A3.out rfl ?_)
      | (refine ld29 rfl _ rfl (w.heap.size + 1) rfl 29 v n ((K : Int) + 1) (A3.out.row _) ?_)
      | (refine st29 rfl _ _ rfl (w.heap.size + 2) v n ((K : Int) + 1) rfl rfl 29 _ (B3.out.chg (S := [w.heap.size + 1]) ((Chg.refl _ _).setRow (g := w.heap.size + 1) (.inl (by simp)) _) (by simp)) rfl ?_))
    have P8 : Blk ((w3.setRow (w.heap.size + 1) (pfx v n ((K : Int) + 1)).toArray).setRow (w.heap.size + 2) (pfx v n ((K : Int) + 1)).toArray) w.heap.size 29 (pfx v n K) := (P3.out.chg (S := [w.heap.size + 1]) ((Chg.refl _ _).setRow (g := w.heap.size + 1) (.inl (by simp)) _) (by simp)).chg (S := [w.heap.size + 2]) ((Chg.refl _ _).setRow (g := w.heap.size + 2) (.inl (by simp)) _) (by simp)
    have A8 : Blk ((w3.setRow (w.heap.size + 1) (pfx v n ((K : Int) + 1)).toArray).setRow (w.heap.size + 2) (pfx v n ((K : Int) + 1)).toArray) (w.heap.size + 1) 29 (pfx v n ((K : Int) + 1)) := (A3.out.row _).chg (S := [w.heap.size + 2]) ((Chg.refl _ _).setRow (g := w.heap.size + 2) (.inl (by simp)) _) (by simp)
    have B8 : Blk ((w3.setRow (w.heap.size + 1) (pfx v n ((K : Int) + 1)).toArray).setRow (w.heap.size + 2) (pfx v n ((K : Int) + 1)).toArray) (w.heap.size + 2) 29 (pfx v n ((K : Int) + 1)) := (B3.out.chg (S := [w.heap.size + 1]) ((Chg.refl _ _).setRow (g := w.heap.size + 1) (.inl (by simp)) _) (by simp)).row _
    have C8 := hid ((((HC.out.trans C2).trans C3).setRow (g := w.heap.size + 1) (.inr (by omega)) (pfx v n ((K : Int) + 1)).toArray).setRow (g := w.heap.size + 2) (.inr (by omega)) (pfx v n ((K : Int) + 1)).toArray)
    obtain ⟨w8, hw8⟩ : ∃ w8, w8 = ((w3.setRow (w.heap.size + 1) (pfx v n ((K : Int) + 1)).toArray).setRow (w.heap.size + 2) (pfx v n ((K : Int) + 1)).toArray) := ⟨_, rfl⟩
    rw [← hw8] at P8 A8 B8 C8 ⊢
    clear hw8 P3 A3 B3 ck3 C3 C2 P1
    obtain ⟨q, hq⟩ : ∃ q, q = K / 8 := ⟨_, rfl⟩
    obtain ⟨r, hr⟩ : ∃ r, r = K % 8 := ⟨_, rfl⟩
    have q1 : (K : Int) / 8 = (q : Int) := by omega
    have r1 : (K : Int) % 8 = (r : Int) := by omega
    have r8 : (r : Int) < 8 := by omega
    have q16 : (q : Int) < 16 := by omega
    have r2 : (K : Int).tmod 8 = (r : Int) := by rw [Int.tmod_eq_emod_of_nonneg (by omega)]; exact r1
    have q2 : (K : Int).tdiv 8 = (q : Int) := by rw [Int.tdiv_eq_ediv_of_nonneg (by omega)]; exact q1
    have wq : IntKind.i64.wrap (q : Int) = (q : Int) := by rw [IntKind.wrap_i64]; omega
    have wr : IntKind.i64.wrap (r : Int) = (r : Int) := by rw [IntKind.wrap_i64]; omega
    have k8 := P8.cell_of (pfx_bits v n K)
    have c8 := B8.cell_of (pfx_adr v n ((K : Int) + 1) _ _ (adrV_byte v (byteAt n) q (by omega)))
    have f8 := B8.frozen (1 + q)
    have HP8 := hid P8
    have HA8 := hid A8
    have HB8 := hid B8
    have HQ := hid hq
    have HR := hid hr
    clear P8 A8 B8 hq hr
    try simp only [Act.put]
    try go_simp
    go_region
    have hbv : bits BinOp.or IntKind.u8 (byteAt n q : Int) (128 / 2 ^ r) = ((byteAt n q ||| 128 / 2 ^ r : Nat) : Int) := by
      have h9 := u8_or_nat (byteAt n q) (128 / 2 ^ r) (byteAt_lt n q) (Nat.lt_of_le_of_lt (Nat.div_le_self _ _) (by decide))
      rw [← h9]
      congr 1
    have HBV := hid hbv
    have HS := hid (show (pfx v n ((K : Int) + 1)).set (1 + q) (.int .u8 ((byteAt n q ||| 128 / 2 ^ r : Nat) : Int)) = pfx v (highN n K) ((K : Int) + 1) by rw [HQ.out, HR.out]; exact pfx_set v n K _ K127)
    have HB9 := hid (show Blk (w8.setCell ⟨w.heap.size + 2, 1 + q, none⟩ (.int .u8 ((byteAt n q ||| 128 / 2 ^ r : Nat) : Int))).drew (w.heap.size + 2) 29 (pfx v (highN n K) ((K : Int) + 1)) by rw [← HS.out]; exact HB8.out.set_ (1 + q) _)
    have HA9 := hid (show Blk (w8.setCell ⟨w.heap.size + 2, 1 + q, none⟩ (.int .u8 ((byteAt n q ||| 128 / 2 ^ r : Nat) : Int))).drew (w.heap.size + 1) 29 (pfx v n ((K : Int) + 1)) from HA8.out.far (by show w.heap.size + 1 ≠ w.heap.size + 2; omega) _)
    have C9 := hid ((C8.out.set1 (g := w.heap.size + 2) (by omega) (1 + q) (.int .u8 ((byteAt n q ||| 128 / 2 ^ r : Nat) : Int))).drew)
    rw [HBV.out]
    obtain ⟨w9, hw9⟩ : ∃ w9, w9 = (w8.setCell ⟨w.heap.size + 2, 1 + q, none⟩ (.int .u8 ((byteAt n q ||| 128 / 2 ^ r : Nat) : Int))).drew := ⟨_, rfl⟩
    rw [← hw9] at HB9 HA9 C9 ⊢
    clear hw9 HP8 HA8 HB8 k8 c8 f8 HBV hbv HS C8 HQ HR
    go_wp2
    have HA10 := hid (HA9.out.row (pfx v n ((K : Int) + 1)))
    have HB10 := hid (show Blk (w9.setRow (w.heap.size + 1) (pfx v n ((K : Int) + 1)).toArray) (w.heap.size + 2) 29 (pfx v (highN n K) ((K : Int) + 1)) from HB9.out.chg (S := [w.heap.size + 1]) ((Chg.refl _ _).setRow (g := w.heap.size + 1) (.inl (by simp)) _) (by simp))
    have HRA := hid (HA10.out.chg (S := [w.heap.size + 2]) ((Chg.refl _ _).setRow (g := w.heap.size + 2) (.inl (by simp)) (pfx v (highN n K) ((K : Int) + 1)).toArray) (by simp))
    have HRB := hid (HB10.out.row (pfx v (highN n K) ((K : Int) + 1)))
    have HCF := hid ((C9.out.drew.setRow (g := w.heap.size + 1) (.inr (by omega)) (pfx v n ((K : Int) + 1)).toArray).setRow (g := w.heap.size + 2) (.inr (by omega)) (pfx v (highN n K) ((K : Int) + 1)).toArray)
    refine wp_region_any (by kernel_rfl) ?_
    try (change wpAny _ _ _ _ _ _ _ (World.drew _))
    refine wpAny_ready (rs := [0, 1]) (by kernel_rfl) (by simp) ?_
    refine AllReady.cons rfl (fun KK hK => ?_) ?_
    · refine step_ld29 rfl _ rfl (w.heap.size + 1) rfl 29 v n ((K : Int) + 1) (by first | exact HA9.out | exact HA10.out) ?_
      refine hK _ _ ?_
      clear hK KK
      refine wpAny_ready (rs := [1, 2]) (by kernel_rfl) (by simp) ?_
      refine AllReady.cons rfl (fun KK hK => ?_) ?_
      · refine step_ld29 rfl _ rfl (w.heap.size + 2) rfl 29 v (highN n K) ((K : Int) + 1) (by first | exact HB9.out | exact HB10.out) ?_
        refine hK _ _ ?_
        clear hK KK
        refine wpAny_ready (rs := [2]) (by kernel_rfl) (by simp) ?_
        refine AllReady.cons rfl (fun KK hK => ?_) ?_
        · refine step_st29 rfl _ _ rfl (w.heap.size + 1) v n ((K : Int) + 1) rfl rfl 29 (pfx v n ((K : Int) + 1)) (by exact HA9.out) (pfx_length _ _ _) ?_
          refine hK _ _ ?_
          clear hK KK
          refine wpAny_ready (rs := [3]) (by kernel_rfl) (by simp) ?_
          refine AllReady.cons rfl (fun KK hK => ?_) ?_
          · refine step_st29 rfl _ _ rfl (w.heap.size + 2) v (highN n K) ((K : Int) + 1) rfl rfl 29 (pfx v (highN n K) ((K : Int) + 1)) (by exact HB10.out) (pfx_length _ _ _) ?_
            refine hK _ _ ?_
            clear hK KK
            refine wpAny_ready (rs := [4]) (by kernel_rfl) (by simp) ?_
            refine AllReady.cons rfl (fun KK hK => ?_) ?_
            · go_simp
              refine hK _ _ ?_
              clear hK KK
              refine wpAny_done (by kernel_rfl) ?_ _
              go_wp2
              refine bodyPost_ret (rs29tt rfl _ _ (w.heap.size + 1) (w.heap.size + 2) v n ((K : Int) + 1) v (highN n K) ((K : Int) + 1) 29 29 _ rfl rfl rfl (by exact HRA.out) (by exact HRB.out)) rfl ⟨rfl, ?_⟩
              exact HCF.out
            exact AllReady.nil
          exact AllReady.nil
        exact AllReady.nil
      refine AllReady.cons rfl (fun KK hK => ?_) ?_
      · refine step_st29 rfl _ _ rfl (w.heap.size + 1) v n ((K : Int) + 1) rfl rfl 29 (pfx v n ((K : Int) + 1)) (by exact HA9.out) (pfx_length _ _ _) ?_
        refine hK _ _ ?_
        clear hK KK
        refine wpAny_ready (rs := [1]) (by kernel_rfl) (by simp) ?_
        refine AllReady.cons rfl (fun KK hK => ?_) ?_
        · refine step_ld29 rfl _ rfl (w.heap.size + 2) rfl 29 v (highN n K) ((K : Int) + 1) (by first | exact HB9.out | exact HB10.out) ?_
          refine hK _ _ ?_
          clear hK KK
          refine wpAny_ready (rs := [3]) (by kernel_rfl) (by simp) ?_
          refine AllReady.cons rfl (fun KK hK => ?_) ?_
          · refine step_st29 rfl _ _ rfl (w.heap.size + 2) v (highN n K) ((K : Int) + 1) rfl rfl 29 (pfx v (highN n K) ((K : Int) + 1)) (by exact HB10.out) (pfx_length _ _ _) ?_
            refine hK _ _ ?_
            clear hK KK
            refine wpAny_ready (rs := [4]) (by kernel_rfl) (by simp) ?_
            refine AllReady.cons rfl (fun KK hK => ?_) ?_
            · go_simp
              refine hK _ _ ?_
              clear hK KK
              refine wpAny_done (by kernel_rfl) ?_ _
              go_wp2
              refine bodyPost_ret (rs29tt rfl _ _ (w.heap.size + 1) (w.heap.size + 2) v n ((K : Int) + 1) v (highN n K) ((K : Int) + 1) 29 29 _ rfl rfl rfl (by exact HRA.out) (by exact HRB.out)) rfl ⟨rfl, ?_⟩
              exact HCF.out
            exact AllReady.nil
          exact AllReady.nil
        exact AllReady.nil
      exact AllReady.nil
    refine AllReady.cons rfl (fun KK hK => ?_) ?_
    · refine step_ld29 rfl _ rfl (w.heap.size + 2) rfl 29 v (highN n K) ((K : Int) + 1) (by first | exact HB9.out | exact HB10.out) ?_
      refine hK _ _ ?_
      clear hK KK
      refine wpAny_ready (rs := [0]) (by kernel_rfl) (by simp) ?_
      refine AllReady.cons rfl (fun KK hK => ?_) ?_
      · refine step_ld29 rfl _ rfl (w.heap.size + 1) rfl 29 v n ((K : Int) + 1) (by first | exact HA9.out | exact HA10.out) ?_
        refine hK _ _ ?_
        clear hK KK
        refine wpAny_ready (rs := [2]) (by kernel_rfl) (by simp) ?_
        refine AllReady.cons rfl (fun KK hK => ?_) ?_
        · refine step_st29 rfl _ _ rfl (w.heap.size + 1) v n ((K : Int) + 1) rfl rfl 29 (pfx v n ((K : Int) + 1)) (by exact HA9.out) (pfx_length _ _ _) ?_
          refine hK _ _ ?_
          clear hK KK
          refine wpAny_ready (rs := [3]) (by kernel_rfl) (by simp) ?_
          refine AllReady.cons rfl (fun KK hK => ?_) ?_
          · refine step_st29 rfl _ _ rfl (w.heap.size + 2) v (highN n K) ((K : Int) + 1) rfl rfl 29 (pfx v (highN n K) ((K : Int) + 1)) (by exact HB10.out) (pfx_length _ _ _) ?_
            refine hK _ _ ?_
            clear hK KK
            refine wpAny_ready (rs := [4]) (by kernel_rfl) (by simp) ?_
            refine AllReady.cons rfl (fun KK hK => ?_) ?_
            · go_simp
              refine hK _ _ ?_
              clear hK KK
              refine wpAny_done (by kernel_rfl) ?_ _
              go_wp2
              refine bodyPost_ret (rs29tt rfl _ _ (w.heap.size + 1) (w.heap.size + 2) v n ((K : Int) + 1) v (highN n K) ((K : Int) + 1) 29 29 _ rfl rfl rfl (by exact HRA.out) (by exact HRB.out)) rfl ⟨rfl, ?_⟩
              exact HCF.out
            exact AllReady.nil
          exact AllReady.nil
        exact AllReady.nil
      exact AllReady.nil
    exact AllReady.nil
/-- Halves, of whatever prefix. -/
theorem halves_N (v : Bool) (n : Nat) (k : Int) (hn : n < 2 ^ 128) (w : World) :
    Calls Tryz.prog 24 #[.agg (pfx v n k).toArray] w fun e w' => e = .returned (.tuple #[.agg (pfx (halP v n k).1.1 (halP v n k).1.2.1 (halP v n k).1.2.2).toArray, .agg (pfx (halP v n k).2.1.1 (halP v n k).2.1.2.1 (halP v n k).2.1.2.2).toArray, .int .i64 (halP v n k).2.2]) ∧ Chg [] w w' := by
  cases h : okP v n k with
  | false =>
    rw [show halP v n k = ((false, 0, 0), (false, 0, 0), 151) by unfold halP; rw [h]; rfl]
    exact halves_no v n k hn h w
  | true =>
    obtain ⟨K, rfl⟩ : ∃ K : Nat, k = (K : Int) := by
      unfold okP at h
      simp only [Bool.and_eq_true, decide_eq_true_eq] at h
      exact ⟨k.toNat, by omega⟩
    exact halves_yes v n K hn h w
end Go.Proofs.YtgpiapmbbnngpaaGreatDoor
