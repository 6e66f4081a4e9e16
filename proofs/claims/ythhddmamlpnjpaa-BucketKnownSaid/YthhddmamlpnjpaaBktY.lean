/- Asks that came in, in memory; BucketNever, walked. -/
import Derived.Test.YthhddmamlpnjpaaBktS
import Derived.Test.YthhddmamlpnjpaaBktV
namespace Go.Proofs.Ythhddmamlpnjpaa
open Go.RowKit Go.Lib Go.Sort
attribute [local go_sem ↓] Go.wp_at_zero Go.wp_at_succ

/-- A row of asks that came in: its cells, wherever they lie. -/
def AskAt (w : World) (A : Option Addr) (L : List (Nat × Nat)) : Prop :=
  ∀ i x y : Nat, L[i]? = some (x, y) → x < 18446744073709551616 ∧ y < 18446744073709551616 ∧ ∃ b o, A = some ⟨b, o, none⟩ ∧ b < w.heap.size ∧ w.cell? ⟨b, o + i * 2, none⟩ = some (.int .u64 (x : Int)) ∧ w.cell? ⟨b, o + i * 2 + 1, none⟩ = some (.int .u64 (y : Int))
theorem AskAt.chg {w w' : World} {A : Option Addr} {L : List (Nat × Nat)} (h : AskAt w A L) (hc : Chg [] w w') : AskAt w' A L := fun i x y hi => by
  obtain ⟨h1, h2, b, o, h3, h4, h5, h6⟩ := h i x y hi
  exact ⟨h1, h2, b, o, h3, Nat.lt_of_lt_of_le h4 hc.size, (hc.cell (p := ⟨b, o + i * 2, none⟩) h4 (by simp)).trans h5, (hc.cell (p := ⟨b, o + i * 2 + 1, none⟩) h4 (by simp)).trans h6⟩

/-- The asks with ticks that may be. -/
def normV (L : List (Nat × Nat)) : List (Nat × Nat) := L.map fun x => (x.1 % 1099511627777, x.2)
theorem normV_snoc (L : List (Nat × Nat)) (k x y : Nat) (h : L[k]? = some (x, y)) : normV (L.take (k + 1)) = normV (L.take k) ++ [(x % 1099511627777, y)] := by
  rw [List.take_add_one, h]
  simp [normV]

/-- Where the asks stand after k of them. -/
structure ProcAt (p q r s : Nat) (L : List (Nat × Nat)) (k sk m : Nat) (pd : List (Nat × Nat)) : Prop where
  st : sk = runS p q r s (normV (L.take k))
  lt : sk < 18446744073709551616
  ps : pd = passedV p q r s (normV (L.take k))
  len : pd.length = m
  le : m ≤ k
theorem ProcAt.start (p q r s : Nat) (L : List (Nat × Nat)) (hs : s < 18446744073709551616) : ProcAt p q r s L 0 s 0 [] := ⟨by simp [normV, runS], hs, by simp [normV, passedV], rfl, Nat.le_refl _⟩
theorem ProcAt.step {p q r s : Nat} {L : List (Nat × Nat)} {k sk m x y : Nat} {pd : List (Nat × Nat)} (h : ProcAt p q r s L k sk m pd) (hok : OkB p q r) (hx : L[k]? = some (x, y)) :
    (takeB p q r sk (x % 1099511627777) y = true → ProcAt p q r s L (k + 1) (takeS p q r sk (x % 1099511627777) y) (m + 1) (pd ++ [(x % 1099511627777, y)])) ∧
    (takeB p q r sk (x % 1099511627777) y = false → ProcAt p q r s L (k + 1) sk m pd) := by
  have e := normV_snoc L k x y hx
  have e1 := passedV_snoc p q r (x % 1099511627777, y) (normV (L.take k)) s
  have e2 := runS_snoc p q r (x % 1099511627777, y) (normV (L.take k)) s
  rw [← e, ← h.st] at e1 e2
  rw [← h.ps] at e1
  constructor
  · intro hb
    rw [hb, if_pos rfl] at e1
    exact ⟨e2.symm, takeS_lt hok (by omega) h.lt, e1.symm, by rw [List.length_append, h.len]; rfl, by have := h.le; omega⟩
  · intro hb
    rw [hb, if_neg (by simp), List.append_nil] at e1
    rw [takeS_false hb] at e2
    exact ⟨e2.symm, h.lt, e1.symm, h.len, by have := h.le; omega⟩

/-- One ask's Take, as the walk meets it. -/
def TakeC (P Q R s now n ts : Nat) (tb : Bool) : Prop := ∀ W : World,
    Calls Try.prog 19 #[.agg #[.int .u64 (P : Int), .int .u64 (Q : Int), .int .u64 (R : Int)], .int .u64 (s : Int), .int .u64 (now : Int), .int .u64 (n : Int)] W fun e w' => e = .returned (.tuple #[.int .u64 (ts : Int), .bool tb, .int .i64 0]) ∧ Chg [] W w'
theorem takeC_of {P Q R s now n : Nat} (hok : OkB P Q R) (hnow : now ≤ 1099511627776) (hs : s < 18446744073709551616) (hn : n < 18446744073709551616) : TakeC P Q R s now n (takeS P Q R s now n) (takeB P Q R s now n) :=
  fun W => take_ok P Q R s now n W (may_le hok hnow) hs hn

theorem BoxB.setB {w : World} {g p q r : Nat} (h : BoxB w g p q r) (P Q R : Nat) : BoxB (((w.setCell ⟨g, 0, none⟩ (.int .u64 (P : Int))).setCell ⟨g, 1, none⟩ (.int .u64 (Q : Int))).setCell ⟨g, 2, none⟩ (.int .u64 (R : Int))) g P Q R :=
  ((Blk.set_ h 0 _).set_ 1 _).set_ 2 _
theorem Try.info40n : (Try.prog.info? 40).map (fun i => (i.zero, i.size, i.bytes)) = some (some (.agg #[.int .u64 0, .int .u64 0]), 2, 16) := by kernel_rfl

theorem askv_snoc (L : List (Nat × Nat)) (x y : Nat) : askv L ++ [.int .u64 (x : Int), .int .u64 (y : Int)] = askv (L ++ [(x, y)]) := by rw [askv_append]; rfl

set_option maxHeartbeats 4000000 in
set_option maxRecDepth 100000 in
theorem never_any (p q r s : Nat) (A : Option Addr) (n c : Nat) (L : List (Nat × Nat)) (w : World) (hs : s < 18446744073709551616) (hA : AskAt w A L) (hl : L.length = n) (hn : n ≤ 9223372036854775807) :
    Calls Try.prog 4 #[.agg #[.int .u64 (p : Int), .int .u64 (q : Int), .int .u64 (r : Int)], .int .u64 (s : Int), .slice A n c] w fun e w' => e = .returned (.bool true) ∧ Chg [] w w' := by
  obtain ⟨P, hP⟩ : ∃ P, P = p % 65536 + 1 := ⟨_, rfl⟩
  obtain ⟨Q, hQ⟩ : ∃ P, P = q % 65536 + 1 := ⟨_, rfl⟩
  obtain ⟨R, hR⟩ : ∃ P, P = r % 1048576 + 1 := ⟨_, rfl⟩
  have hri := right_any p q r
  rw [← hP, ← hQ, ← hR] at hri
  have hok : OkB P Q R := by unfold OkB; omega
  have HRI := hid hri
  have HOK := hid hok
  have HA := hid hA
  have HL := hid hl
  have HS := hid hs
  have n1 : (n : Int) ≤ 9223372036854775807 := by omega
  have B0 : BoxB (w.alloc (.cells #[.int .u64 (p : Int), .int .u64 (q : Int), .int .u64 (r : Int)] 24)) w.heap.size p q r := Blk.new w 24 #[.int .u64 (p : Int), .int .u64 (q : Int), .int .u64 (r : Int)]
  have C0 := hid ((Chg.refl [] w).alloc (.cells #[.int .u64 (p : Int), .int .u64 (q : Int), .int .u64 (r : Int)] 24))
  obtain ⟨i0, hi, hz0, hz1, hz2⟩ := info_parts Try.info40n
  clear hP hQ hR hok hA hl hs hn hri
  go_enter Try.func4, Try.ntmps4
  go_wp2_with (go_at_call 18; refine (HRI.out _).mono ?_; rintro e w1 ⟨rfl, hC1⟩; have B1 := BoxB.chg B0 hC1; have f10 := Blk.frozen B1 0; have f11 := Blk.frozen B1 1; have f12 := Blk.frozen B1 2; have e10 := B1.cells.1; have e11 := B1.cells.2.1; have e12 := B1.cells.2.2.1; have K1 := hid (C0.out.trans hC1); clear hC1)
  obtain ⟨w2, hw2⟩ : ∃ w2, w2 = (((w1.setCell ⟨w.heap.size, 0, none⟩ (.int .u64 (P : Int))).setCell ⟨w.heap.size, 1, none⟩ (.int .u64 (Q : Int))).setCell ⟨w.heap.size, 2, none⟩ (.int .u64 (R : Int))) := ⟨_, rfl⟩
  have B2 : BoxB w2 w.heap.size P Q R := by rw [hw2]; exact B1.setB P Q R
  have K2 : Hid (Chg [] w w2) := by rw [hw2]; exact hid (((K1.out.setCell (.inr (Nat.le_refl _)) _).setCell (.inr (Nat.le_refl _)) _).setCell (.inr (Nat.le_refl _)) _)
  rw [← hw2]
  clear hw2 B1 e10 e11 e12 f10 f11 f12
  go_loopw [1, 7, 8] (fun st v i wr => ∃ (k sk m : Nat) (Av : Option Addr) (cv : Nat) (pd : List (Nat × Nat)), k ≤ n ∧ k ≤ 200 ∧ i = .int .i64 k ∧ st = .int .u64 (sk : Int) ∧ v = .slice Av m cv ∧ Hid (ProcAt P Q R s L k sk m pd) ∧ Acc w wr 40 2 (.slice Av m cv) m (askv pd) ∧ BoxB wr w.heap.size P Q R) (fun _ _ i _ => 200 - (intOf i).toNat)
  case atStart => exact ⟨0, s, 0, none, 0, [], Nat.zero_le _, by omega, rfl, rfl, rfl, hid (ProcAt.start P Q R s L HS.out), Acc.nil w 40 2 K2.out, B2⟩
  case round =>
    obtain ⟨k, sk, m, Av, cv, pd, hk, hk2, rfl, rfl, rfl, hP, hA, hB⟩ := hrel
    have hmk : m ≤ 200 := Nat.le_trans hP.out.le hk2
    by_cases hlt : k < n ∧ k < 200
    · obtain ⟨hk3, hk4⟩ := hlt
      obtain ⟨x, y, hxy⟩ := get_ask L k (by rw [HL.out]; exact hk3)
      obtain ⟨hx64, hy64, b, o, hAe, hbl, c0, c1⟩ := HA.out k x y hxy
      subst hAe
      have c0' := (hA.chg.cell (p := ⟨b, o + k * 2, none⟩) hbl (by simp)).trans c0
      have c1' := (hA.chg.cell (p := ⟨b, o + k * 2 + 1, none⟩) hbl (by simp)).trans c1
      have HXY := hid hxy
      obtain ⟨now, hnow⟩ : ∃ u, u = x % 1099511627777 := ⟨_, rfl⟩
      have q1 : (x : Int) % 1099511627777 = (now : Int) := by omega
      have hT := takeC_of (n := y) HOK.out (show now ≤ 1099511627776 by omega) hP.out.lt hy64
      have hstep := hP.out.step HOK.out hxy
      rw [← hnow] at hstep
      have hge : sk ≤ takeS P Q R sk now y := takeS_ge
      have hfs : takeB P Q R sk now y = false → takeS P Q R sk now y = sk := takeS_false
      obtain ⟨ts, hts⟩ : ∃ u, u = takeS P Q R sk now y := ⟨_, rfl⟩
      obtain ⟨tb, htb⟩ : ∃ u, u = takeB P Q R sk now y := ⟨_, rfl⟩
      rw [← hts, ← htb] at hT hstep
      rw [← hts] at hge
      rw [← hts, ← htb] at hfs
      have g1 : (sk : Int) ≤ (ts : Int) := by omega
      have HST := hid hstep
      have HFS := hid hfs
      have HT := hid (cls_of hT)
      have k0 : (0 : Int) ≤ (k : Int) := by omega
      have k1 : (k : Int) < (n : Int) := by omega
      have k2 : (k : Int) < 200 := by omega
      have c0r := cell_regrown c0'
      have c1r := cell_regrown c1'
      have b0r := cell_regrown hB.cells.1
      have b1r := cell_regrown hB.cells.2.1
      have b2r := cell_regrown hB.cells.2.2.1
      clear hxy hnow hT hstep hge hfs hts htb c0 c1
      cases tb
      · obtain rfl : ts = sk := HFS.out rfl
        go_wp2
        refine wp_region_quiet_below (by kernel_rfl) (by kernel_rfl) ?_
        repeat (first | go_big_quiet_step ((go_at_call 19; with_reducible exact HT.out _ _ _)) | quiet_step ((go_at_call 19; with_reducible exact HT.out _ _ _)))
        refine wpQuiet_nil ?_
        intro w3 hw3
        have C3 := chg_cls hw3
        clear hw3 c0r c1r b0r b1r b2r
        have hA3 := hA.later C3
        have hB3 := hB.chg C3
        go_wp2
        go_roundw
        case measure => simp [intOf]; omega
        case rel => exact ⟨k + 1, ts, m, Av, cv, pd, by omega, by omega, by go_num, rfl, rfl, hid (HST.out.2 (by simp)), hA3, hB3⟩
      · go_wp2
        refine wp_region_quiet_below (by kernel_rfl) (by kernel_rfl) ?_
        repeat (first | go_big_quiet_step ((go_at_call 19; with_reducible exact HT.out _ _ _)) | quiet_step ((go_at_call 19; with_reducible exact HT.out _ _ _)))
        refine wpQuiet_nil ?_
        intro w3 hw3
        have C3 := chg_cls hw3
        clear hw3 c0r c1r b0r b1r b2r
        have hA3 := hA.later C3
        have hB3 := hB.chg C3
        have c1'' := (C3.cell (p := ⟨b, o + k * 2 + 1, none⟩) (Nat.lt_of_lt_of_le hbl hA.chg.size) (by simp)).trans c1'
        go_wp2_with ((with_reducible refine at_append_ ?_); (refine wpList_append_any _ rfl (.tmp 63) (.tmp 71) 25 rfl 40 i0 _ 2 16 Try.underlying25 hi hz0 hz1 hz2 rfl (by omega) (.slice Av m cv) m (askv pd) rfl (hA3.alloc _).own ⟨w3.heap.size, 0, none⟩ 1 1 [.int .u64 (now : Int), .int .u64 (y : Int)] rfl rfl (by simpa using (Blk.new w3 40 #[.int .u64 (now : Int), .int .u64 (y : Int)]).adds0) (by simp [Value.oneCell']) (by unfold maxLen; omega) (by omega) ?_); intro A' c' w4 hO4 hC4 hb4)
        go_roundw
        case measure => simp [intOf]; omega
        case rel =>
          refine ⟨k + 1, ts, m + 1, A', c', pd ++ [(now, y)], by omega, by omega, by go_num, rfl, rfl, hid (HST.out.1 (by simp)), ?_, ?_⟩
          · rw [← askv_snoc]
            exact Acc.append (hA3.alloc (.cells #[.int .u64 (now : Int), .int .u64 (y : Int)] 40)) hO4 hC4 hb4
          · exact Acc.keep (hA3.alloc (.cells #[.int .u64 (now : Int), .int .u64 (y : Int)] 40)) hC4 (Blk.alloc hB3 _) (by decide)
    · have HPD := hid (And.intro hP.out.len (And.intro (never_fits (p := P) (s := s) HOK.out.2.2.1 HOK.out.2.2.2.2.2 (normV (L.take k))) hP.out.ps))
      have hmem : ∀ z ∈ pd, z.1 ≤ 1099511627776 := by
        intro z hz
        rw [hP.out.ps] at hz
        have := (passedV_mem HOK.out.2.2.1 _ _ z hz).1
        obtain ⟨u, _, rfl⟩ := List.mem_map.1 this
        dsimp only
        omega
      have hfv : fitsV P Q R pd = (m, 0) := by
        unfold fitsV
        rw [if_pos HOK.out, if_neg (by rw [HPD.out.1]; omega), if_pos (by
          unfold mayV
          rw [if_pos HOK.out, if_pos]
          rw [List.all_eq_true]
          intro t ht
          obtain ⟨z, hz, rfl⟩ := List.mem_map.1 ht
          exact decide_eq_true (hmem z hz))]
        have h1 := HPD.out.2.1
        rw [← HPD.out.2.2, HPD.out.1] at h1
        rw [h1]
      have hF := fun W (hW : Own W 40 2 (.slice Av m cv) m (askv pd)) => fits_any P Q R Av m cv pd W hW HPD.out.1 (by omega)
      rw [hfv] at hF
      have HF := hid hF
      have b0 := hB.cells.1
      have b1 := hB.cells.2.1
      have b2 := hB.cells.2.2.1
      clear hmem hfv hF
      have hge : (n : Int) ≤ (k : Int) ∨ ((k : Int) < (n : Int) ∧ (200 : Int) ≤ (k : Int)) := by omega
      clear hlt
      rcases hge with hge | ⟨hge, hge2⟩
      all_goals
        go_wp2_with (first
          | (go_at_call 15; refine (HF.out _ hA.own).mono ?_; rintro e w5 ⟨rfl, hC5⟩; have K5 := hid (hA.chg.trans hC5); clear hC5)
          | (go_at_call 17; refine (works_any _).mono ?_; rintro e w6 ⟨rfl, hC6⟩; have K6 := hid (K5.out.trans hC6); clear hC6))
        go_ret
        exact ⟨rfl, K6.out⟩
end Go.Proofs.Ythhddmamlpnjpaa
