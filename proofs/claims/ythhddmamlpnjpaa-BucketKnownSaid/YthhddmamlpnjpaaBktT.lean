/- tokens, walked; BucketMost, walked. -/
import Derived.Test.YthhddmamlpnjpaaBktZ
namespace Go.Proofs.Ythhddmamlpnjpaa
open Go.RowKit Go.Lib Go.Sort
attribute [local go_sem ↓] Go.wp_at_zero Go.wp_at_succ

theorem strV_bound {B : Nat} (a b : Nat) : ∀ (l : List (Nat × Nat)), (∀ x ∈ l, x.2 ≤ B) → strV l a b ≤ l.length * B
  | [], _ => Nat.zero_le _
  | x :: l, h => by
    have h1 := h x (by simp)
    have h2 := strV_bound a b l (fun y hy => h y (by simp [hy]))
    rw [strV_cons, List.length_cons, Nat.add_mul, Nat.one_mul]
    split <;> omega
theorem strV_snoc (L : List (Nat × Nat)) (k x y a b : Nat) (h : L[k]? = some (x, y)) : strV (L.take (k + 1)) a b = strV (L.take k) a b + if a ≤ x ∧ x ≤ b then y else 0 := by
  rw [List.take_add_one, h, strV_append]
  simp only [Option.toList]
  rw [strV_cons, strV_nil, Nat.add_zero]

set_option maxHeartbeats 2000000 in
theorem tokens_any (A : Option Addr) (n c : Nat) (L : List (Nat × Nat)) (a b : Nat) (w : World) (hO : Own w 40 2 (.slice A n c) n (askv L)) (hl : L.length = n) (hn : n ≤ 1048576) (hb : ∀ x ∈ L, x.2 ≤ 1048576) :
    Calls Try.prog 21 #[.slice A n c, .int .u64 (a : Int), .int .u64 (b : Int)] w fun e w' => e = .returned (.int .u64 (strV L a b : Int)) ∧ Chg [] w w' := by
  have HL := hid hl
  have HB := hid hb
  have n1 : (n : Int) ≤ 1048576 := by omega
  clear hl hb
  go_enter Try.func21, Try.ntmps21
  go_wp2
  go_loopw [7, 8] (fun v i wr => ∃ k t : Nat, k ≤ n ∧ i = .int .i64 k ∧ v = .int .u64 (t : Int) ∧ Hid (t = strV (L.take k) a b) ∧ t ≤ 1099511627776 ∧ Chg [] w wr) (fun _ i _ => n - (intOf i).toNat)
  case atStart => exact ⟨0, 0, Nat.zero_le _, rfl, rfl, hid rfl, by omega, Chg.refl _ _⟩
  case round =>
    obtain ⟨k, t, hk, rfl, rfl, ht, htb, hC⟩ := hrel
    by_cases hlt : k < n
    · have hOr := hO.chg hC (by simp)
      obtain ⟨g, o, c1, hv, _, _, hg⟩ := hOr.some_ (by omega)
      injection hv with hAA _ hc1
      subst hAA; subst hc1
      obtain ⟨x, y, hxy⟩ := get_ask L k (by rw [HL.out]; exact hlt)
      obtain ⟨a0, a1⟩ := hOr.ask hxy
      have hy : y ≤ 1048576 := HB.out _ (List.mem_of_getElem? hxy)
      have hsn := strV_snoc L k x y a b hxy
      have hbd := strV_bound (B := 1048576) a b (L.take (k + 1)) (fun z hz => HB.out z (List.mem_of_mem_take hz))
      have hbl : (L.take (k + 1)).length ≤ 1048576 := by rw [List.length_take]; omega
      have hbd2 : strV (L.take (k + 1)) a b ≤ 1048576 * 1048576 := Nat.le_trans hbd (Nat.mul_le_mul_right _ hbl)
      have HSN := hid (And.intro hsn hbd2)
      have k0 : (0 : Int) ≤ (k : Int) := by omega
      have k1 : (k : Int) < (n : Int) := by omega
      have t0 : (t : Int) ≤ 1099511627776 := by omega
      have y0 : (y : Int) ≤ 1048576 := by omega
      clear hxy hsn hbd hbl hbd2 hy
      by_cases h1 : (a : Int) ≤ (x : Int)
      · by_cases h2 : (x : Int) ≤ (b : Int)
        · go_wp2
          go_roundw
          case measure => simp [intOf]; omega
          case rel =>
            have e := HSN.out
            rw [if_pos ⟨by omega, by omega⟩] at e
            exact ⟨k + 1, t + y, by omega, by go_num, by go_num, hid (by rw [e.1, ht.out]), by rw [ht.out, ← e.1]; omega, hC⟩
        · go_wp2
          go_roundw
          case measure => simp [intOf]; omega
          case rel =>
            have e := HSN.out
            rw [if_neg (by omega)] at e
            exact ⟨k + 1, t, by omega, by go_num, rfl, hid (by rw [e.1, ht.out]; rfl), htb, hC⟩
      · go_wp2
        go_roundw
        case measure => simp [intOf]; omega
        case rel =>
          have e := HSN.out
          rw [if_neg (by omega)] at e
          exact ⟨k + 1, t, by omega, by go_num, rfl, hid (by rw [e.1, ht.out]; rfl), htb, hC⟩
    · obtain rfl : k = n := by omega
      have HT := hid (show t = strV L a b by rw [ht.out, List.take_of_length_le (by rw [HL.out]; omega)])
      go_wp2
      go_ret
      exact ⟨by rw [← HT.out]; rfl, hC⟩

set_option maxHeartbeats 4000000 in
set_option maxRecDepth 100000 in
theorem most_law (p q r s : Nat) (A : Option Addr) (n c : Nat) (L : List (Nat × Nat)) (w : World) (hs : s < 18446744073709551616) (hA : AskAt w A L) (hl : L.length = n) (hn : n ≤ 9223372036854775807) :
    Calls Try.prog 5 #[.agg #[.int .u64 (p : Int), .int .u64 (q : Int), .int .u64 (r : Int)], .int .u64 (s : Int), .slice A n c] w fun e w' => e = .returned (.bool true) ∧ Chg [] w w' := by
  obtain ⟨P, hP⟩ : ∃ P, P = p % 65536 + 1 := ⟨_, rfl⟩
  obtain ⟨Q, hQ⟩ : ∃ P, P = q % 65536 + 1 := ⟨_, rfl⟩
  obtain ⟨R, hR⟩ : ∃ P, P = r % 1048576 + 1 := ⟨_, rfl⟩
  have hri := right_any p q r
  rw [← hP, ← hQ, ← hR] at hri
  have hok : OkB P Q R := by unfold OkB; omega
  have HRI := hid hri
  have HOK := hid hok
  have HA := hid hA
  have HL := hid hl
  have HS := hid hs
  have n1 : (n : Int) ≤ 9223372036854775807 := by omega
  have B0 : BoxB (w.alloc (.cells #[.int .u64 (p : Int), .int .u64 (q : Int), .int .u64 (r : Int)] 24)) w.heap.size p q r := Blk.new w 24 #[.int .u64 (p : Int), .int .u64 (q : Int), .int .u64 (r : Int)]
  have C0 := hid ((Chg.refl [] w).alloc (.cells #[.int .u64 (p : Int), .int .u64 (q : Int), .int .u64 (r : Int)] 24))
  obtain ⟨i0, hi, hz0, hz1, hz2⟩ := info_parts Try.info40n
  clear hP hQ hR hok hA hl hs hn hri
  go_enter Try.func5, Try.ntmps5
  go_wp2_with (go_at_call 18; refine (HRI.out _).mono ?_; rintro e w1 ⟨rfl, hC1⟩; have B1 := BoxB.chg B0 hC1; have f10 := Blk.frozen B1 0; have f11 := Blk.frozen B1 1; have f12 := Blk.frozen B1 2; have e10 := B1.cells.1; have e11 := B1.cells.2.1; have e12 := B1.cells.2.2.1; have K1 := hid (C0.out.trans hC1); clear hC1)
  obtain ⟨w2, hw2⟩ : ∃ w2, w2 = (((w1.setCell ⟨w.heap.size, 0, none⟩ (.int .u64 (P : Int))).setCell ⟨w.heap.size, 1, none⟩ (.int .u64 (Q : Int))).setCell ⟨w.heap.size, 2, none⟩ (.int .u64 (R : Int))) := ⟨_, rfl⟩
  have B2 : BoxB w2 w.heap.size P Q R := by rw [hw2]; exact B1.setB P Q R
  have K2 : Hid (Chg [] w w2) := by rw [hw2]; exact hid (((K1.out.setCell (.inr (Nat.le_refl _)) _).setCell (.inr (Nat.le_refl _)) _).setCell (.inr (Nat.le_refl _)) _)
  rw [← hw2]
  clear hw2 B1 e10 e11 e12 f10 f11 f12
  go_loopw [1, 7, 8] (fun st v i wr => ∃ (k sk m : Nat) (Av : Option Addr) (cv : Nat) (pd : List (Nat × Nat)), k ≤ n ∧ k ≤ 60 ∧ i = .int .i64 k ∧ st = .int .u64 (sk : Int) ∧ v = .slice Av m cv ∧ Hid (ProcAt P Q R s L k sk m pd) ∧ Acc w wr 40 2 (.slice Av m cv) m (askv pd) ∧ BoxB wr w.heap.size P Q R) (fun _ _ i _ => 60 - (intOf i).toNat)
  case atStart => exact ⟨0, s, 0, none, 0, [], Nat.zero_le _, by omega, rfl, rfl, rfl, hid (ProcAt.start P Q R s L HS.out), Acc.nil w 40 2 K2.out, B2⟩
  case round =>
    obtain ⟨k, sk, m, Av, cv, pd, hk, hk2, rfl, rfl, rfl, hP, hA, hB⟩ := hrel
    have hmk : m ≤ 60 := Nat.le_trans hP.out.le hk2
    by_cases hlt : k < n ∧ k < 60
    · obtain ⟨hk3, hk4⟩ := hlt
      obtain ⟨x, y, hxy⟩ := get_ask L k (by rw [HL.out]; exact hk3)
      obtain ⟨hx64, hy64, b, o, hAe, hbl, c0, c1⟩ := HA.out k x y hxy
      subst hAe
      have c0' := (hA.chg.cell (p := ⟨b, o + k * 2, none⟩) hbl (by simp)).trans c0
      have c1' := (hA.chg.cell (p := ⟨b, o + k * 2 + 1, none⟩) hbl (by simp)).trans c1
      have HXY := hid hxy
      obtain ⟨now, hnow⟩ : ∃ u, u = x % 1099511627777 := ⟨_, rfl⟩
      have q1 : (x : Int) % 1099511627777 = (now : Int) := by omega
      have hT := takeC_of (n := y) HOK.out (show now ≤ 1099511627776 by omega) hP.out.lt hy64
      have hstep := hP.out.step HOK.out hxy
      rw [← hnow] at hstep
      have hge : sk ≤ takeS P Q R sk now y := takeS_ge
      have hfs : takeB P Q R sk now y = false → takeS P Q R sk now y = sk := takeS_false
      obtain ⟨ts, hts⟩ : ∃ u, u = takeS P Q R sk now y := ⟨_, rfl⟩
      obtain ⟨tb, htb⟩ : ∃ u, u = takeB P Q R sk now y := ⟨_, rfl⟩
      rw [← hts, ← htb] at hT hstep
      rw [← hts] at hge
      rw [← hts, ← htb] at hfs
      have g1 : (sk : Int) ≤ (ts : Int) := by omega
      have HST := hid hstep
      have HFS := hid hfs
      have HT := hid (cls_of hT)
      have k0 : (0 : Int) ≤ (k : Int) := by omega
      have k1 : (k : Int) < (n : Int) := by omega
      have k2 : (k : Int) < 60 := by omega
      have c0r := cell_regrown c0'
      have c1r := cell_regrown c1'
      have b0r := cell_regrown hB.cells.1
      have b1r := cell_regrown hB.cells.2.1
      have b2r := cell_regrown hB.cells.2.2.1
      clear hxy hnow hT hstep hge hfs hts htb c0 c1
      cases tb
      · obtain rfl : ts = sk := HFS.out rfl
        go_wp2
        refine wp_region_quiet_below (by kernel_rfl) (by kernel_rfl) ?_
        repeat (first | go_big_quiet_step ((go_at_call 19; with_reducible exact HT.out _ _ _)) | quiet_step ((go_at_call 19; with_reducible exact HT.out _ _ _)))
        refine wpQuiet_nil ?_
        intro w3 hw3
        have C3 := chg_cls hw3
        clear hw3 c0r c1r b0r b1r b2r
        have hA3 := hA.later C3
        have hB3 := hB.chg C3
        go_wp2
        go_roundw
        case measure => simp [intOf]; omega
        case rel => exact ⟨k + 1, ts, m, Av, cv, pd, by omega, by omega, by go_num, rfl, rfl, hid (HST.out.2 (by simp)), hA3, hB3⟩
      · go_wp2
        refine wp_region_quiet_below (by kernel_rfl) (by kernel_rfl) ?_
        repeat (first | go_big_quiet_step ((go_at_call 19; with_reducible exact HT.out _ _ _)) | quiet_step ((go_at_call 19; with_reducible exact HT.out _ _ _)))
        refine wpQuiet_nil ?_
        intro w3 hw3
        have C3 := chg_cls hw3
        clear hw3 c0r c1r b0r b1r b2r
        have hA3 := hA.later C3
        have hB3 := hB.chg C3
        have c1'' := (C3.cell (p := ⟨b, o + k * 2 + 1, none⟩) (Nat.lt_of_lt_of_le hbl hA.chg.size) (by simp)).trans c1'
        go_wp2_with ((with_reducible refine at_append_ ?_); (refine wpList_append_any _ rfl (.tmp 53) (.tmp 61) 25 rfl 40 i0 _ 2 16 Try.underlying25 hi hz0 hz1 hz2 rfl (by omega) (.slice Av m cv) m (askv pd) rfl (hA3.alloc _).own ⟨w3.heap.size, 0, none⟩ 1 1 [.int .u64 (now : Int), .int .u64 (y : Int)] rfl rfl (by simpa using (Blk.new w3 40 #[.int .u64 (now : Int), .int .u64 (y : Int)]).adds0) (by simp [Value.oneCell']) (by unfold maxLen; omega) (by omega) ?_); intro A' c' w4 hO4 hC4 hb4)
        go_roundw
        case measure => simp [intOf]; omega
        case rel =>
          refine ⟨k + 1, ts, m + 1, A', c', pd ++ [(now, y)], by omega, by omega, by go_num, rfl, rfl, hid (HST.out.1 (by simp)), ?_, ?_⟩
          · rw [← askv_snoc]
            exact Acc.append (hA3.alloc (.cells #[.int .u64 (now : Int), .int .u64 (y : Int)] 40)) hO4 hC4 hb4
          · exact Acc.keep (hA3.alloc (.cells #[.int .u64 (now : Int), .int .u64 (y : Int)] 40)) hC4 (Blk.alloc hB3 _) (by decide)
    · have hps := hP.out.ps
      have hlen := hP.out.len
      have hmem : ∀ z ∈ pd, z.1 ≤ 1099511627776 ∧ z.2 ≤ 1048576 := by
        intro z hz
        rw [hps] at hz
        obtain ⟨h1, h2⟩ := passedV_mem HOK.out.2.2.1 _ _ z hz
        obtain ⟨u, _, rfl⟩ := List.mem_map.1 h1
        have := HOK.out.2.2.2.2.2
        dsimp only at h2 ⊢
        omega
      have hcnt : ∀ a b, a ≤ b → strV pd a b ≤ mostN P Q R (b - a) := by
        intro a b hab
        rw [hps]
        exact never_count HOK.out.2.2.1 _ a b hab
      have HME := hid hmem
      have HCN := hid hcnt
      have HLE := hid hlen
      have HTK := hid (fun a b W (hW : Own W 40 2 (.slice Av m cv) m (askv pd)) => tokens_any Av m cv pd a b W hW hlen (by omega) (fun x hx => (hmem x hx).2))
      have HMO := hid (fun d (hd : d ≤ 1099511627776) W => most_ok P Q R d W (may_le HOK.out hd))
      have m0 : (m : Int) ≤ 60 := by omega
      have hge : (n : Int) ≤ (k : Int) ∨ ((k : Int) < (n : Int) ∧ (60 : Int) ≤ (k : Int)) := by omega
      clear hlt hps hlen hmem hcnt
      obtain ⟨wo, hwo⟩ : ∃ wo : World, wo = wr := ⟨_, rfl⟩
      rw [← hwo] at hA hB
      rw [← hwo]
      clear hwo
      rcases hge with hge | ⟨hge, hge2⟩
      all_goals
        go_wp2
        go_loopw [13] (fun iv wr => ∃ i : Nat, i ≤ m ∧ iv = .int .i64 i ∧ Acc w wr 40 2 (.slice Av m cv) m (askv pd) ∧ BoxB wr w.heap.size P Q R) (fun iv _ => m - (intOf iv).toNat)
        case atStart => exact ⟨0, Nat.zero_le _, rfl, hA, hB⟩
        case round =>
          obtain ⟨i, hi, rfl, hAi, hBi⟩ := hrel
          by_cases hil : i < m
          · obtain ⟨x, x2, hx⟩ := get_ask pd i (by rw [HLE.out]; exact hil)
            have HX := hid hx
            have i0' : (0 : Int) ≤ (i : Int) := by omega
            have i1' : (i : Int) < (m : Int) := by omega
            clear hx
            obtain ⟨wi, hwi⟩ : ∃ wi : World, wi = wr := ⟨_, rfl⟩
            rw [← hwi] at hAi hBi
            rw [← hwi]
            clear hwi
            go_wp2
            go_loopw [14] (fun kv wr => ∃ j : Nat, j ≤ m ∧ kv = .int .i64 j ∧ Acc w wr 40 2 (.slice Av m cv) m (askv pd) ∧ BoxB wr w.heap.size P Q R) (fun kv _ => m - (intOf kv).toNat)
            case atStart => exact ⟨0, Nat.zero_le _, rfl, hAi, hBi⟩
            case round =>
              obtain ⟨j, hj, rfl, hAj, hBj⟩ := hrel
              by_cases hjl : j < m
              · obtain ⟨y, y2, hy⟩ := get_ask pd j (by rw [HLE.out]; exact hjl)
                obtain ⟨gg, oo, c1, hv, _, _, hg⟩ := hAj.own.some_ (by omega)
                injection hv with hAA _ hc1
                subst hAA; subst hc1
                obtain ⟨qx0, qx1⟩ := hAj.own.ask HX.out
                obtain ⟨qy0, qy1⟩ := hAj.own.ask hy
                have HY := hid hy
                have j0 : (0 : Int) ≤ (j : Int) := by omega
                have j1 : (j : Int) < (m : Int) := by omega
                have hxm := (HME.out _ (List.mem_of_getElem? HX.out)).1
                have hym := (HME.out _ (List.mem_of_getElem? hy)).1
                dsimp only at hxm hym
                clear hy
                by_cases hxy : (x : Int) ≤ (y : Int)
                · obtain ⟨d, hd⟩ : ∃ d, d = y - x := ⟨_, rfl⟩
                  have q1 : (y : Int) - (x : Int) = (d : Int) := by omega
                  have hc := HCN.out x y (by omega)
                  rw [← hd] at hc
                  have HM2 := hid (HMO.out d (by omega))
                  obtain ⟨mo, hmo⟩ : ∃ z, z = mostN P Q R d := ⟨_, rfl⟩
                  rw [← hmo] at hc HM2
                  have HT2 := hid (HTK.out x y)
                  obtain ⟨tk, htk⟩ : ∃ z, z = strV pd x y := ⟨_, rfl⟩
                  rw [← htk] at hc HT2
                  have c2 : (tk : Int) ≤ (mo : Int) := by omega
                  clear hd hc hmo htk
                  go_wp2
                  go_quiet (fail)
                  have hA2 := hAj.later ((Chg.refl [] wr).drewN nq)
                  have hB2 := hBj.chg ((Chg.refl [] wr).drewN nq)
                  have b0 := hB2.cells.1
                  have b1 := hB2.cells.2.1
                  have b2 := hB2.cells.2.2.1
                  go_wp2_with (first
                    | (go_at_call 20; refine (HM2.out _).mono ?_; rintro e w5 ⟨rfl, hC5⟩; have hA5 := hA2.later hC5; have hB5 := hB2.chg hC5)
                    | (go_at_call 21; refine (HT2.out _ hA5.own).mono ?_; rintro e w6 ⟨rfl, hC6⟩; have hA6 := hA5.later hC6; have hB6 := hB5.chg hC6))
                  go_roundw
                  case measure => simp [intOf]; omega
                  case rel => exact ⟨j + 1, by omega, by go_num, hA6, hB6⟩
                · have hyx : (y : Int) < (x : Int) := by omega
                  clear hxy
                  go_wp2
                  go_quiet (fail)
                  have hA2 := hAj.later ((Chg.refl [] wr).drewN nq)
                  have hB2 := hBj.chg ((Chg.refl [] wr).drewN nq)
                  go_wp2
                  go_roundw
                  case measure => simp [intOf]; omega
                  case rel => exact ⟨j + 1, by omega, by go_num, hA2, hB2⟩
              · obtain rfl : j = m := by omega
                go_wp2
                go_roundw
                case measure => simp [intOf]; omega
                case rel => exact ⟨i + 1, by omega, by go_num, hAj, hBj⟩
          · obtain rfl : i = m := by omega
            go_wp2_with (go_at_call 17; refine (works_any _).mono ?_; rintro e w6 ⟨rfl, hC6⟩; have K6 := hid (hAi.chg.trans hC6); clear hC6)
            go_ret
            exact ⟨rfl, K6.out⟩
end Go.Proofs.Ythhddmamlpnjpaa
