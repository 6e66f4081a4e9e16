/- BucketAll, walked. -/
import Derived.Test.YthhddmamlpnjpaaBktZ
namespace Go.Proofs.Ythhddmamlpnjpaa
open Go.RowKit Go.Lib Go.Sort
attribute [local go_sem ↓] Go.wp_at_zero Go.wp_at_succ

section
variable {P : Program} (w : World)
/-- append to nil: a new row. -/
theorem wpList_append_new {ops : Array Oper} {rest : List Oper} {o : Oper} {a : Act} {Q : Exit → Act → World → Prop} (hgd : o.guard = none) (s x : Operand) (t : TypeId)
    (ho : o.op = .call { callee := .builtin .append, args := #[s, x], argTypes := #[t, t] })
    (e : TypeId) (i : TypeInfo) (z : Value) (size bytes : Nat) (ht : P.underlying t = some (.slice e)) (hi : P.info? e = some i) (hz : i.zero = some z)
    (hsize : i.size = size) (hby : i.bytes = bytes) (hzs : z.cells.size = size) (hsz : 0 < size)
    (hs : a.eval s = .slice none 0 0)
    (ad : Addr) (m c : Nat) (news : List Value) (hx : a.eval x = .slice (some ad) m c) (hl : news.length = m * size) (hnews : ∀ j u, news[j]? = some u → w.cell? (ad.add j) = some u) (h1 : ∀ u ∈ news, u.oneCell' = true)
    (h63 : m ≤ maxLen) (hbytes : m * bytes ≤ 140737488355328)
    (h : ∀ A' c' w', Own w' e size (.slice A' m c') m news → Chg [] w w' → (∀ k, (Value.slice A' m c').ownBlock = some k → w.heap.size ≤ k) → wpList P ops Q rest (a.put o.dst (.slice A' m c')) w') : wpList P ops Q (o :: rest) a w := by
  refine wpList_append_any w hgd s x t ho e i z size bytes ht hi hz hsize hby hzs hsz (.slice none 0 0) 0 [] hs (Own.nil _ _ _) ad m c news hx hl hnews h1 (by omega) (by rw [Nat.zero_add]; exact hbytes) ?_
  intro A' c' w' h2 h3 h4
  rw [Nat.zero_add, List.nil_append] at h2
  rw [Nat.zero_add] at h4
  rw [Nat.zero_add]
  refine h A' c' w' h2 h3 ?_
  intro k hk
  rcases h4 with h4 | ⟨k', h4, h5⟩
  · rw [hk] at h4; simp [Value.ownBlock] at h4
  · rw [hk] at h4; injection h4 with h4; omega
end

theorem run_min_u64 {P : Program} (ts : Array TypeId) (t : TypeId) (a b : Int) (c : Nat) (hc : (c : Int) = min a b) (W : World) : (Builtin.min_ ts t #[.int .u64 a, .int .u64 b]).run P W = .ok (.int .u64 (c : Int)) W := by
  rw [hc]
  by_cases h : a < b
  · simp [Builtin.min_, Builtin.min2]
    omega
  · simp [Builtin.min_, Builtin.min2]
    omega

/-- Where the asks stand, over rising ticks. -/
structure RiseAt (p q r sk now m : Nat) (pd : List (Nat × Nat)) : Prop where
  inv : ∃ g last, AllInv p q r pd sk g last ∧ last ≤ now
  fits : AllFits p q r pd
  lt : sk < 18446744073709551616
  now : now ≤ 1099511627776
  len : pd.length = m
  mem : ∀ z ∈ pd, z.1 ≤ 1099511627776
theorem RiseAt.start (p q r : Nat) : RiseAt p q r 0 0 0 [] := ⟨⟨0, 0, AllInv.start p q r, Nat.le_refl _⟩, AllFits.nil p q r, by omega, by omega, rfl, by simp⟩
theorem RiseAt.step {p q r sk now m nw : Nat} {y : Nat} {pd : List (Nat × Nat)} (h : RiseAt p q r sk now m pd) (hok : OkB p q r) (h1 : now ≤ nw) (h2 : nw ≤ 1099511627776) :
    (takeB p q r sk nw y = true → RiseAt p q r (takeS p q r sk nw y) nw (m + 1) (pd ++ [(nw, y)]) ∧ fitsGo p q r 0 [] (pd ++ [(nw, y)]) = m + 1) ∧
    (takeB p q r sk nw y = false → RiseAt p q r sk nw m pd ∧ fitsGo p q r 0 [] (pd ++ [(nw, y)]) = m) := by
  obtain ⟨g, last, hi, hl⟩ := h.inv
  have hs := h.fits.step hi hok.2.2.1 hok.2.2.2.2.2 (nw, y) (by omega)
  rw [h.len] at hs
  constructor
  · intro hb
    refine ⟨⟨⟨_, _, hi.pass (nw, y) (by omega) hb, Nat.le_refl _⟩, (hs.1 hb).1, takeS_lt hok h2 h.lt, h2, by rw [List.length_append, h.len]; rfl, ?_⟩, (hs.1 hb).2⟩
    intro z hz
    rcases List.mem_append.1 hz with h3 | h3
    · exact h.mem z h3
    · rw [List.mem_singleton.1 h3]; exact h2
  · intro hb
    exact ⟨⟨⟨g, last, hi, by omega⟩, h.fits, h.lt, h2, h.len, h.mem⟩, hs.2 hb⟩
theorem fits_of {p q r f : Nat} {L : List (Nat × Nat)} (hok : OkB p q r) (hl : L.length ≤ 4096) (hm : ∀ z ∈ L, z.1 ≤ 1099511627776) (hf : fitsGo p q r 0 [] L = f) : fitsV p q r L = (f, 0) := by
  unfold fitsV
  rw [if_pos hok, if_neg (by omega), if_pos (by
    unfold mayV
    rw [if_pos hok, if_pos]
    rw [List.all_eq_true]
    intro t ht
    obtain ⟨z, hz, rfl⟩ := List.mem_map.1 ht
    exact decide_eq_true (hm z hz)), hf]

set_option maxHeartbeats 4000000 in
set_option maxRecDepth 100000 in
theorem all_law (p q r : Nat) (A : Option Addr) (n c : Nat) (L : List (Nat × Nat)) (w : World) (hA : AskAt w A L) (hl : L.length = n) (hn : n ≤ 9223372036854775807) :
    Calls Try.prog 6 #[.agg #[.int .u64 (p : Int), .int .u64 (q : Int), .int .u64 (r : Int)], .slice A n c] w fun e w' => e = .returned (.bool true) ∧ Chg [] w w' := by
  obtain ⟨P, hP⟩ : ∃ P, P = p % 65536 + 1 := ⟨_, rfl⟩
  obtain ⟨Q, hQ⟩ : ∃ P, P = q % 65536 + 1 := ⟨_, rfl⟩
  obtain ⟨R, hR⟩ : ∃ P, P = r % 1048576 + 1 := ⟨_, rfl⟩
  have hri := right_any p q r
  rw [← hP, ← hQ, ← hR] at hri
  have hok : OkB P Q R := by unfold OkB; omega
  have HRI := hid hri
  have HOK := hid hok
  have HA := hid hA
  have HL := hid hl
  have n1 : (n : Int) ≤ 9223372036854775807 := by omega
  have B0 : BoxB (w.alloc (.cells #[.int .u64 (p : Int), .int .u64 (q : Int), .int .u64 (r : Int)] 24)) w.heap.size p q r := Blk.new w 24 #[.int .u64 (p : Int), .int .u64 (q : Int), .int .u64 (r : Int)]
  have C0 := hid ((Chg.refl [] w).alloc (.cells #[.int .u64 (p : Int), .int .u64 (q : Int), .int .u64 (r : Int)] 24))
  obtain ⟨i0, hi, hz0, hz1, hz2⟩ := info_parts Try.info40n
  clear hP hQ hR hok hA hl hn hri
  go_enter Try.func6, Try.ntmps6
  go_wp2_with (go_at_call 18; refine (HRI.out _).mono ?_; rintro e w1 ⟨rfl, hC1⟩; have B1 := BoxB.chg B0 hC1; have f10 := Blk.frozen B1 0; have f11 := Blk.frozen B1 1; have f12 := Blk.frozen B1 2; have e10 := B1.cells.1; have e11 := B1.cells.2.1; have e12 := B1.cells.2.2.1; have K1 := hid (C0.out.trans hC1); clear hC1)
  obtain ⟨w2, hw2⟩ : ∃ w2, w2 = (((w1.setCell ⟨w.heap.size, 0, none⟩ (.int .u64 (P : Int))).setCell ⟨w.heap.size, 1, none⟩ (.int .u64 (Q : Int))).setCell ⟨w.heap.size, 2, none⟩ (.int .u64 (R : Int))) := ⟨_, rfl⟩
  have B2 : BoxB w2 w.heap.size P Q R := by rw [hw2]; exact B1.setB P Q R
  have K2 : Hid (Chg [] w w2) := by rw [hw2]; exact hid (((K1.out.setCell (.inr (Nat.le_refl _)) _).setCell (.inr (Nat.le_refl _)) _).setCell (.inr (Nat.le_refl _)) _)
  rw [← hw2]
  clear hw2 B1 e10 e11 e12 f10 f11 f12
  go_loopw [5, 6, 7, 8] (fun v st nv i wr => ∃ (k sk now m : Nat) (Av : Option Addr) (cv : Nat) (pd : List (Nat × Nat)), k ≤ n ∧ k ≤ 60 ∧ i = .int .i64 k ∧ st = .int .u64 (sk : Int) ∧ nv = .int .u64 (now : Int) ∧ v = .slice Av m cv ∧ m ≤ k ∧ Hid (RiseAt P Q R sk now m pd) ∧ Acc w wr 40 2 (.slice Av m cv) m (askv pd) ∧ (m = 0 → Av = none ∧ cv = 0) ∧ BoxB wr w.heap.size P Q R) (fun _ _ _ i _ => 60 - (intOf i).toNat)
  case atStart => exact ⟨0, 0, 0, 0, none, 0, [], Nat.zero_le _, by omega, rfl, rfl, rfl, rfl, Nat.le_refl _, hid (RiseAt.start P Q R), Acc.nil w 40 2 K2.out, fun _ => ⟨rfl, rfl⟩, B2⟩
  case round =>
    obtain ⟨k, sk, now, m, Av, cv, pd, hk, hk2, rfl, rfl, rfl, rfl, hmk, hP, hA, hnil, hB⟩ := hrel
    have HNIL := hid hnil
    clear hnil
    by_cases hlt : k < n ∧ k < 60
    · obtain ⟨hk3, hk4⟩ := hlt
      obtain ⟨x, y, hxy⟩ := get_ask L k (by rw [HL.out]; exact hk3)
      obtain ⟨hx64, hy64, b, o, hAe, hbl, c0, c1⟩ := HA.out k x y hxy
      subst hAe
      have c0' := (hA.chg.cell (p := ⟨b, o + k * 2, none⟩) hbl (by simp)).trans c0
      have c1' := (hA.chg.cell (p := ⟨b, o + k * 2 + 1, none⟩) hbl (by simp)).trans c1
      obtain ⟨xr, hxr⟩ : ∃ u, u = x % 1073741824 := ⟨_, rfl⟩
      have q1 : (x : Int) % 1073741824 = (xr : Int) := by omega
      have xr0 : (xr : Int) ≤ 1073741824 := by omega
      have now0 : (now : Int) ≤ 1099511627776 := by have := hP.out.now; omega
      obtain ⟨nw, hnw⟩ : ∃ u, u = min (now + xr) 1099511627776 := ⟨_, rfl⟩
      have hmin := run_min_u64 (P := Try.prog) #[22, 22] 22 ((now : Int) + (xr : Int)) 1099511627776 nw (by omega)
      have hT := takeC_of (n := y) HOK.out (show nw ≤ 1099511627776 by omega) hP.out.lt hy64
      have hstep := hP.out.step (y := y) HOK.out (show now ≤ nw by omega) (by omega)
      have hfs : takeB P Q R sk nw y = false → takeS P Q R sk nw y = sk := takeS_false
      obtain ⟨ts, hts⟩ : ∃ u, u = takeS P Q R sk nw y := ⟨_, rfl⟩
      obtain ⟨tb, htb⟩ : ∃ u, u = takeB P Q R sk nw y := ⟨_, rfl⟩
      rw [← hts, ← htb] at hT hstep hfs
      have HST := hid hstep
      have HFS := hid hfs
      have HT := hid (cls_of hT)
      have k0 : (0 : Int) ≤ (k : Int) := by omega
      have k1 : (k : Int) < (n : Int) := by omega
      have k2 : (k : Int) < 60 := by omega
      have c0r := cell_regrown c0'
      have c1r := cell_regrown c1'
      have b0r := cell_regrown hB.cells.1
      have b1r := cell_regrown hB.cells.2.1
      have b2r := cell_regrown hB.cells.2.2.1
      clear hxy hxr hT hstep hfs hts htb c0 c1
      have HNW := hid (show nw ≤ 1099511627776 by omega)
      clear hnw
      have m60 : m ≤ 60 := by omega
      cases tb
      · obtain rfl : ts = sk := HFS.out rfl
        have hfl : (pd ++ [(nw, y)]).length = m + 1 := by rw [List.length_append, hP.out.len]; rfl
        have hfm : ∀ z ∈ pd ++ [(nw, y)], z.1 ≤ 1099511627776 := by
          intro z hz
          rcases List.mem_append.1 hz with h3 | h3
          · exact hP.out.mem z h3
          · rw [List.mem_singleton.1 h3]; exact HNW.out
        have hfi := fits_of HOK.out (by rw [hfl]; omega) hfm (HST.out.2 (by simp)).2
        have hF := fun A' c' W (hW : Own W 40 2 (.slice A' (m + 1) c') (m + 1) (askv (pd ++ [(nw, y)]))) => fits_any P Q R A' (m + 1) c' (pd ++ [(nw, y)]) W hW hfl (by omega)
        rw [hfi] at hF
        have HF := hid hF
        clear hfl hfm hfi hF
        by_cases hm0 : m = 0
        · subst hm0
          obtain ⟨rfl, rfl⟩ := HNIL.out rfl
          have HPE := hid (show askv (pd ++ [(nw, y)]) = [.int .u64 (nw : Int), .int .u64 (y : Int)] by rw [List.eq_nil_of_length_eq_zero hP.out.len]; rfl)
          go_wp2
          refine wp_region_quiet_below (by kernel_rfl) (by kernel_rfl) ?_
          repeat (first | go_big_quiet_step ((go_at_call 19; with_reducible exact HT.out _ _ _)) | quiet_step ((go_at_call 19; with_reducible exact HT.out _ _ _)))
          refine wpQuiet_nil ?_
          intro w3 hw3
          have C3 := chg_cls hw3
          clear hw3 c0r c1r b0r b1r b2r
          have hA3 := hA.later C3
          have hB3 := hB.chg C3
          have c13 := (C3.cell (p := ⟨b, o + k * 2 + 1, none⟩) (Nat.lt_of_lt_of_le hbl hA.chg.size) (by simp)).trans c1'
          go_wp2_with (first
            | ((with_reducible refine at_append_ (dst := some 62) ?_); (refine wpList_append_new _ rfl (.tmp 53) (.tmp 61) 25 rfl 40 i0 _ 2 16 Try.underlying25 hi hz0 hz1 hz2 rfl (by omega) rfl ⟨w3.heap.size, 0, none⟩ 1 1 [.int .u64 (nw : Int), .int .u64 (y : Int)] rfl rfl (by simpa using (Blk.new w3 40 #[.int .u64 (nw : Int), .int .u64 (y : Int)]).adds0) (by simp [Value.oneCell']) (by unfold maxLen; omega) (by omega) ?_); intro A' c' w5 hO4 hC4 hb4; have hM5 : Acc w w5 40 2 (.slice A' 1 c') 1 (askv (pd ++ [(nw, y)])) := ⟨by rw [HPE.out]; exact hO4, fun kk hkk => Nat.le_trans (hA3.alloc (.cells #[.int .u64 (nw : Int), .int .u64 (y : Int)] 40)).chg.size (hb4 kk hkk), (hA3.alloc (.cells #[.int .u64 (nw : Int), .int .u64 (y : Int)] 40)).chg.trans hC4⟩; have hA5 := (hA3.alloc (.cells #[.int .u64 (nw : Int), .int .u64 (y : Int)] 40)).later hC4; have hB5 := (BoxB.chg hB3 (((Chg.refl [] w3).alloc (.cells #[.int .u64 (nw : Int), .int .u64 (y : Int)] 40)).trans hC4)); have b50 := hB5.cells.1; have b51 := hB5.cells.2.1; have b52 := hB5.cells.2.2.1)
            | (go_at_call 15; refine (HF.out _ _ _ hM5.own).mono ?_; rintro e w6 ⟨rfl, hC6⟩; have HM6 := hid (hM5.later hC6); have HA6 := hid (hA5.later hC6); have HB6 := hid (hB5.chg hC6); clear hC6))
          go_roundw
          case measure => simp [intOf]; omega
          case rel => exact ⟨k + 1, ts, nw, 0, none, 0, pd, by omega, by omega, by go_num, rfl, rfl, rfl, by omega, hid (HST.out.2 (by simp)).1, HA6.out, fun _ => ⟨rfl, rfl⟩, HB6.out⟩
        · have hm1 : (0 : Int) < (m : Int) := by omega
          clear hm0
          go_wp2
          refine wp_region_quiet_below (by kernel_rfl) (by kernel_rfl) ?_
          repeat (first | go_big_quiet_step ((go_at_call 19; with_reducible exact HT.out _ _ _)) | quiet_step ((go_at_call 19; with_reducible exact HT.out _ _ _)))
          refine wpQuiet_nil ?_
          intro w3 hw3
          have C3 := chg_cls hw3
          clear hw3 c0r c1r b0r b1r b2r
          have hA3 := hA.later C3
          have hB3 := hB.chg C3
          have c13 := (C3.cell (p := ⟨b, o + k * 2 + 1, none⟩) (Nat.lt_of_lt_of_le hbl hA.chg.size) (by simp)).trans c1'
          obtain ⟨gp, op, cp, hvp, _, _, hgp⟩ := hA3.own.some_ (by omega)
          injection hvp with hAp _ hcp
          subst hAp; subst hcp
          go_wp2_with (first
            | ((with_reducible refine at_append_ (dst := some 52) ?_); (refine wpList_append_new _ rfl (.tmp 50) (.tmp 51) 25 rfl 40 i0 _ 2 16 Try.underlying25 hi hz0 hz1 hz2 rfl (by omega) rfl ⟨gp, op, none⟩ m cv (askv pd) rfl hA3.own.len hA3.own.cellsAdd (askv_one pd) (by unfold maxLen; omega) (by omega) ?_); intro A1 c1x w4 hO1 hC1 hb1; have hM1 : Acc w w4 40 2 (.slice A1 m c1x) m (askv pd) := ⟨hO1, fun kk hkk => Nat.le_trans hA3.chg.size (hb1 kk hkk), hA3.chg.trans hC1⟩; have hA4 := hA3.later hC1; have hB4 := hB3.chg hC1; have hne4 := hid (show ∀ kk, (Value.slice (some ⟨gp, op, none⟩) m cv).ownBlock = some kk → kk ∉ (Value.slice A1 m c1x).ownBlock.toList from fun kk hkk hm => by have h1 := hA3.own.lt kk hkk; have h2 := hb1 kk (by simpa using hm); omega); have c14 := (hC1.cell (p := ⟨b, o + k * 2 + 1, none⟩) (Nat.lt_of_lt_of_le hbl hA3.chg.size) (by simp)).trans c13)
            | ((with_reducible refine at_append_ (dst := some 62) ?_); (refine wpList_append_any _ rfl (.tmp 53) (.tmp 61) 25 rfl 40 i0 _ 2 16 Try.underlying25 hi hz0 hz1 hz2 rfl (by omega) (.slice A1 m c1x) m (askv pd) rfl (hM1.alloc _).own ⟨w4.heap.size, 0, none⟩ 1 1 [.int .u64 (nw : Int), .int .u64 (y : Int)] rfl rfl (by simpa using (Blk.new w4 40 #[.int .u64 (nw : Int), .int .u64 (y : Int)]).adds0) (by simp [Value.oneCell']) (by unfold maxLen; omega) (by omega) ?_); intro A' c' w5 hO4 hC4 hb4; rw [askv_snoc] at hO4; have hM5 := Acc.append (hM1.alloc (.cells #[.int .u64 (nw : Int), .int .u64 (y : Int)] 40)) hO4 hC4 hb4; have hA5 : Acc w w5 40 2 (.slice (some ⟨gp, op, none⟩) m cv) m (askv pd) := ⟨(hA4.alloc (.cells #[.int .u64 (nw : Int), .int .u64 (y : Int)] 40)).own.chg hC4 hne4.out, hA4.new, hM5.chg⟩; have hB5 : BoxB w5 w.heap.size P Q R := Acc.keep (hM1.alloc (.cells #[.int .u64 (nw : Int), .int .u64 (y : Int)] 40)) hC4 (Blk.alloc hB4 _) (by decide); have b50 := hB5.cells.1; have b51 := hB5.cells.2.1; have b52 := hB5.cells.2.2.1)
            | (go_at_call 15; refine (HF.out _ _ _ hM5.own).mono ?_; rintro e w6 ⟨rfl, hC6⟩; have HM6 := hid (hM5.later hC6); have HA6 := hid (hA5.later hC6); have HB6 := hid (hB5.chg hC6); clear hC6))
          go_roundw
          case measure => simp [intOf]; omega
          case rel => exact ⟨k + 1, ts, nw, m, some ⟨gp, op, none⟩, cv, pd, by omega, by omega, by go_num, rfl, rfl, rfl, by omega, hid (HST.out.2 (by simp)).1, HA6.out, fun h => absurd h (by omega), HB6.out⟩
      · have hfl : (pd ++ [(nw, y)]).length = m + 1 := by rw [List.length_append, hP.out.len]; rfl
        have hfm : ∀ z ∈ pd ++ [(nw, y)], z.1 ≤ 1099511627776 := by
          intro z hz
          rcases List.mem_append.1 hz with h3 | h3
          · exact hP.out.mem z h3
          · rw [List.mem_singleton.1 h3]; exact HNW.out
        have hfi := fits_of HOK.out (by rw [hfl]; omega) hfm (HST.out.1 (by simp)).2
        have hF := fun A' c' W (hW : Own W 40 2 (.slice A' (m + 1) c') (m + 1) (askv (pd ++ [(nw, y)]))) => fits_any P Q R A' (m + 1) c' (pd ++ [(nw, y)]) W hW hfl (by omega)
        rw [hfi] at hF
        have HF := hid hF
        clear hfl hfm hfi hF
        by_cases hm0 : m = 0
        · subst hm0
          obtain ⟨rfl, rfl⟩ := HNIL.out rfl
          have HPE := hid (show askv (pd ++ [(nw, y)]) = [.int .u64 (nw : Int), .int .u64 (y : Int)] by rw [List.eq_nil_of_length_eq_zero hP.out.len]; rfl)
          go_wp2
          refine wp_region_quiet_below (by kernel_rfl) (by kernel_rfl) ?_
          repeat (first | go_big_quiet_step ((go_at_call 19; with_reducible exact HT.out _ _ _)) | quiet_step ((go_at_call 19; with_reducible exact HT.out _ _ _)))
          refine wpQuiet_nil ?_
          intro w3 hw3
          have C3 := chg_cls hw3
          clear hw3 c0r c1r b0r b1r b2r
          have hA3 := hA.later C3
          have hB3 := hB.chg C3
          have c13 := (C3.cell (p := ⟨b, o + k * 2 + 1, none⟩) (Nat.lt_of_lt_of_le hbl hA.chg.size) (by simp)).trans c1'
          go_wp2_with (first
            | ((with_reducible refine at_append_ (dst := some 62) ?_); (refine wpList_append_new _ rfl (.tmp 53) (.tmp 61) 25 rfl 40 i0 _ 2 16 Try.underlying25 hi hz0 hz1 hz2 rfl (by omega) rfl ⟨w3.heap.size, 0, none⟩ 1 1 [.int .u64 (nw : Int), .int .u64 (y : Int)] rfl rfl (by simpa using (Blk.new w3 40 #[.int .u64 (nw : Int), .int .u64 (y : Int)]).adds0) (by simp [Value.oneCell']) (by unfold maxLen; omega) (by omega) ?_); intro A' c' w5 hO4 hC4 hb4; have hM5 : Acc w w5 40 2 (.slice A' 1 c') 1 (askv (pd ++ [(nw, y)])) := ⟨by rw [HPE.out]; exact hO4, fun kk hkk => Nat.le_trans (hA3.alloc (.cells #[.int .u64 (nw : Int), .int .u64 (y : Int)] 40)).chg.size (hb4 kk hkk), (hA3.alloc (.cells #[.int .u64 (nw : Int), .int .u64 (y : Int)] 40)).chg.trans hC4⟩; have hA5 := (hA3.alloc (.cells #[.int .u64 (nw : Int), .int .u64 (y : Int)] 40)).later hC4; have hB5 := (BoxB.chg hB3 (((Chg.refl [] w3).alloc (.cells #[.int .u64 (nw : Int), .int .u64 (y : Int)] 40)).trans hC4)); have b50 := hB5.cells.1; have b51 := hB5.cells.2.1; have b52 := hB5.cells.2.2.1)
            | (go_at_call 15; refine (HF.out _ _ _ hM5.own).mono ?_; rintro e w6 ⟨rfl, hC6⟩; have HM6 := hid (hM5.later hC6); have HA6 := hid (hA5.later hC6); have HB6 := hid (hB5.chg hC6); clear hC6))
          go_roundw
          case measure => simp [intOf]; omega
          case rel => exact ⟨k + 1, ts, nw, 0 + 1, A', c', pd ++ [(nw, y)], by omega, by omega, by go_num, rfl, rfl, rfl, by omega, hid (HST.out.1 (by simp)).1, HM6.out, fun h => absurd h (by omega), HB6.out⟩
        · have hm1 : (0 : Int) < (m : Int) := by omega
          clear hm0
          go_wp2
          refine wp_region_quiet_below (by kernel_rfl) (by kernel_rfl) ?_
          repeat (first | go_big_quiet_step ((go_at_call 19; with_reducible exact HT.out _ _ _)) | quiet_step ((go_at_call 19; with_reducible exact HT.out _ _ _)))
          refine wpQuiet_nil ?_
          intro w3 hw3
          have C3 := chg_cls hw3
          clear hw3 c0r c1r b0r b1r b2r
          have hA3 := hA.later C3
          have hB3 := hB.chg C3
          have c13 := (C3.cell (p := ⟨b, o + k * 2 + 1, none⟩) (Nat.lt_of_lt_of_le hbl hA.chg.size) (by simp)).trans c1'
          obtain ⟨gp, op, cp, hvp, _, _, hgp⟩ := hA3.own.some_ (by omega)
          injection hvp with hAp _ hcp
          subst hAp; subst hcp
          go_wp2_with (first
            | ((with_reducible refine at_append_ (dst := some 52) ?_); (refine wpList_append_new _ rfl (.tmp 50) (.tmp 51) 25 rfl 40 i0 _ 2 16 Try.underlying25 hi hz0 hz1 hz2 rfl (by omega) rfl ⟨gp, op, none⟩ m cv (askv pd) rfl hA3.own.len hA3.own.cellsAdd (askv_one pd) (by unfold maxLen; omega) (by omega) ?_); intro A1 c1x w4 hO1 hC1 hb1; have hM1 : Acc w w4 40 2 (.slice A1 m c1x) m (askv pd) := ⟨hO1, fun kk hkk => Nat.le_trans hA3.chg.size (hb1 kk hkk), hA3.chg.trans hC1⟩; have hA4 := hA3.later hC1; have hB4 := hB3.chg hC1; have hne4 := hid (show ∀ kk, (Value.slice (some ⟨gp, op, none⟩) m cv).ownBlock = some kk → kk ∉ (Value.slice A1 m c1x).ownBlock.toList from fun kk hkk hm => by have h1 := hA3.own.lt kk hkk; have h2 := hb1 kk (by simpa using hm); omega); have c14 := (hC1.cell (p := ⟨b, o + k * 2 + 1, none⟩) (Nat.lt_of_lt_of_le hbl hA3.chg.size) (by simp)).trans c13)
            | ((with_reducible refine at_append_ (dst := some 62) ?_); (refine wpList_append_any _ rfl (.tmp 53) (.tmp 61) 25 rfl 40 i0 _ 2 16 Try.underlying25 hi hz0 hz1 hz2 rfl (by omega) (.slice A1 m c1x) m (askv pd) rfl (hM1.alloc _).own ⟨w4.heap.size, 0, none⟩ 1 1 [.int .u64 (nw : Int), .int .u64 (y : Int)] rfl rfl (by simpa using (Blk.new w4 40 #[.int .u64 (nw : Int), .int .u64 (y : Int)]).adds0) (by simp [Value.oneCell']) (by unfold maxLen; omega) (by omega) ?_); intro A' c' w5 hO4 hC4 hb4; rw [askv_snoc] at hO4; have hM5 := Acc.append (hM1.alloc (.cells #[.int .u64 (nw : Int), .int .u64 (y : Int)] 40)) hO4 hC4 hb4; have hA5 : Acc w w5 40 2 (.slice (some ⟨gp, op, none⟩) m cv) m (askv pd) := ⟨(hA4.alloc (.cells #[.int .u64 (nw : Int), .int .u64 (y : Int)] 40)).own.chg hC4 hne4.out, hA4.new, hM5.chg⟩; have hB5 : BoxB w5 w.heap.size P Q R := Acc.keep (hM1.alloc (.cells #[.int .u64 (nw : Int), .int .u64 (y : Int)] 40)) hC4 (Blk.alloc hB4 _) (by decide); have b50 := hB5.cells.1; have b51 := hB5.cells.2.1; have b52 := hB5.cells.2.2.1)
            | (go_at_call 15; refine (HF.out _ _ _ hM5.own).mono ?_; rintro e w6 ⟨rfl, hC6⟩; have HM6 := hid (hM5.later hC6); have HA6 := hid (hA5.later hC6); have HB6 := hid (hB5.chg hC6); clear hC6))
          go_roundw
          case measure => simp [intOf]; omega
          case rel => exact ⟨k + 1, ts, nw, m + 1, A', c', pd ++ [(nw, y)], by omega, by omega, by go_num, rfl, rfl, rfl, by omega, hid (HST.out.1 (by simp)).1, HM6.out, fun h => absurd h (by omega), HB6.out⟩
    · have hge : (n : Int) ≤ (k : Int) ∨ ((k : Int) < (n : Int) ∧ (60 : Int) ≤ (k : Int)) := by omega
      clear hlt
      rcases hge with hge | ⟨hge, hge2⟩
      all_goals
        go_wp2_with (go_at_call 17; refine (works_any _).mono ?_; rintro e w6 ⟨rfl, hC6⟩; have K6 := hid (hA.chg.trans hC6); clear hC6)
        go_ret
        exact ⟨rfl, K6.out⟩
end Go.Proofs.Ythhddmamlpnjpaa
