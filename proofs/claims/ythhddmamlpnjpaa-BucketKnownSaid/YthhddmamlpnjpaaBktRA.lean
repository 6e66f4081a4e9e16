/- The reference's Run, walked. -/
import Derived.Test.YthhddmamlpnjpaaBktZ
namespace Go.Proofs.Ythhddmamlpnjpaa
open Go.RowKit Go.Lib Go.Sort
attribute [local go_sem ↓] Go.wp_at_zero Go.wp_at_succ

theorem rRun_bad (p q r : Nat) (A : Option Addr) (n c : Nat) (L : List (Nat × Nat)) (w : World) (hok : ¬ OkB p q r) :
    Calls Try.prog 12 #[.agg #[.int .u64 (p : Int), .int .u64 (q : Int), .int .u64 (r : Int)], .slice A n c] w (RunPost p q r L w) := by
  have HV := hid (show runV p q r L = ([], 2) by
    have h : mayV p q r (L.map (·.1)) = 2 := by unfold mayV; rw [if_neg hok]
    unfold runV; rw [h]; rfl)
  have hc : checkV p q r = 2 := by unfold checkV; rw [if_neg hok]
  have HC := hid hc
  clear hok hc
  go_enter Try.func12, Try.ntmps12
  go_wp2_with (go_at_call 23; refine (rCheck_any p q r _).mono ?_; rw [HC.out]; rintro e w1 ⟨rfl, hC1⟩)
  go_ret2
  exact ⟨none, 0, 0, by rw [HV.out]; rfl, by rw [HV.out]; exact Acc.nil w 4 1 (((Chg.refl [] w).alloc _).trans hC1)⟩

set_option maxHeartbeats 2000000 in
theorem rRun_ok (p q r : Nat) (A : Option Addr) (n c : Nat) (L : List (Nat × Nat)) (w : World) (hA : AskAt w A L) (hl : L.length = n) (hn : n ≤ 1048576) (hok : OkB p q r) :
    Calls Try.prog 12 #[.agg #[.int .u64 (p : Int), .int .u64 (q : Int), .int .u64 (r : Int)], .slice A n c] w (RunPost p q r L w) := by
  have hc : checkV p q r = 0 := by unfold checkV; rw [if_pos hok]
  have HCK := hid hc
  have HOK := hid hok
  have HA := hid hA
  have HL := hid hl
  have n1 : (n : Int) ≤ 1048576 := by omega
  have B0 : BoxB (w.alloc (.cells #[.int .u64 (p : Int), .int .u64 (q : Int), .int .u64 (r : Int)] 24)) w.heap.size p q r := Blk.new w 24 #[.int .u64 (p : Int), .int .u64 (q : Int), .int .u64 (r : Int)]
  have C0 := hid ((Chg.refl [] w).alloc (.cells #[.int .u64 (p : Int), .int .u64 (q : Int), .int .u64 (r : Int)] 24))
  obtain ⟨i0, hi, hz0, hz1, hz2⟩ := info_parts Try.info4
  clear hc hok hA hl
  go_enter Try.func12, Try.ntmps12
  go_wp2_with (go_at_call 23; refine (rCheck_any p q r _).mono ?_; rw [HCK.out]; rintro e w1 ⟨rfl, hC1⟩; have B1 := BoxB.chg B0 hC1; have C1 := hid (C0.out.trans hC1); clear hC1)
  go_loopw [6] (fun i wr => ∃ k : Nat, k ≤ n ∧ i = .int .i64 k ∧ Hid (∀ z ∈ L.take k, z.1 ≤ 1099511627776) ∧ Chg [] w wr ∧ BoxB wr w.heap.size p q r) (fun i _ => n - (intOf i).toNat)
  case atStart => exact ⟨0, Nat.zero_le _, rfl, hid (by simp), C1.out, B1⟩
  case round =>
    obtain ⟨k, hk, rfl, hall, hC, hB⟩ := hrel
    by_cases hlt : k < n
    · obtain ⟨x, y, hxy⟩ := get_ask L k (by rw [HL.out]; exact hlt)
      obtain ⟨hx64, hy64, b, o, hAe, hbl, c0, c1⟩ := HA.out k x y hxy
      subst hAe
      have c0' := (hC.cell (p := ⟨b, o + k * 2, none⟩) hbl (by simp)).trans c0
      have HXY := hid hxy
      have k0 : (0 : Int) ≤ (k : Int) := by omega
      have k1 : (k : Int) < (n : Int) := by omega
      clear hxy c0 c1
      by_cases hbig : (1099511627776 : Int) < (x : Int)
      · have HV := hid (show runV p q r L = ([], 5) by
          have h : mayV p q r (L.map (·.1)) = 5 := by
            unfold mayV
            rw [if_pos HOK.out, if_neg]
            rw [List.all_eq_true]
            intro h
            have := h x (List.mem_map.2 ⟨(x, y), List.mem_of_getElem? HXY.out, rfl⟩)
            simp at this
            omega
          unfold runV; rw [h]; rfl)
        go_wp2
        go_ret2
        exact ⟨none, 0, 0, by rw [HV.out]; rfl, by rw [HV.out]; exact Acc.nil w 4 1 hC⟩
      · have HLE := hid (show x ≤ 1099511627776 by omega)
        go_wp2
        go_roundw
        case measure => simp [intOf]; omega
        case rel =>
          refine ⟨k + 1, by omega, by go_num, hid ?_, hC, hB⟩
          intro z hz
          rw [List.take_add_one, HXY.out] at hz
          rcases List.mem_append.1 hz with h | h
          · exact hall.out z h
          · simp at h; subst h; exact HLE.out
    · have hkn : k = n := by omega
      have hall' : ∀ z ∈ L, z.1 ≤ 1099511627776 := by
        have := hall.out
        rw [hkn, List.take_of_length_le (by rw [HL.out]; omega)] at this
        exact this
      have hmv : mayV p q r (L.map (·.1)) = 0 := by
        unfold mayV
        rw [if_pos HOK.out, if_pos]
        rw [List.all_eq_true]
        intro t ht
        obtain ⟨z, hz, rfl⟩ := List.mem_map.1 ht
        exact decide_eq_true (hall' z hz)
      have HV := hid (show runV p q r L = (runL p q r 0 L, 0) by unfold runV; rw [if_pos hmv])
      have HALL := hid hall'
      have HT2 := hid (fun s now k W (hnow : now ≤ 1099511627776) => rTake_ok p q r s now k W (may_le HOK.out hnow))
      have hkn2 : ¬ ((k : Int) < (n : Int)) := by omega
      clear hall' hmv hkn hlt hall hk
      obtain ⟨wo, hwo⟩ : ∃ wo : World, wo = wr := ⟨_, rfl⟩
      rw [← hwo] at hC hB
      rw [← hwo]
      clear hwo
      go_wp2
      clear hkn2
      go_loopw [7, 8, 9] (fun v st i wr => ∃ (k s : Nat) (Av : Option Addr) (cv : Nat), k ≤ n ∧ i = .int .i64 k ∧ st = .int .u64 (s : Int) ∧ v = .slice Av k cv ∧ Hid (s < 18446744073709551616 ∧ s = runS p q r 0 (L.take k)) ∧ Acc w wr 4 1 (.slice Av k cv) k (boolv (runL p q r 0 (L.take k))) ∧ BoxB wr w.heap.size p q r) (fun _ _ i _ => n - (intOf i).toNat)
      case atStart => exact ⟨0, 0, none, 0, Nat.zero_le _, rfl, rfl, rfl, hid ⟨by omega, rfl⟩, Acc.nil w 4 1 hC, hB⟩
      case round =>
        obtain ⟨k, s, Av, cv, hk, rfl, rfl, rfl, hS, hAc, hB⟩ := hrel
        by_cases hlt : k < n
        · obtain ⟨x, y, hxy⟩ := get_ask L k (by rw [HL.out]; exact hlt)
          obtain ⟨hx64, hy64, b, o, hAe, hbl, c0, c1⟩ := HA.out k x y hxy
          subst hAe
          have c0' := cell_regrown ((hAc.chg.cell (p := ⟨b, o + k * 2, none⟩) hbl (by simp)).trans c0)
          have c1' := cell_regrown ((hAc.chg.cell (p := ⟨b, o + k * 2 + 1, none⟩) hbl (by simp)).trans c1)
          have hx : x ≤ 1099511627776 := HALL.out (x, y) (List.mem_of_getElem? hxy)
          have hTk := fun W => HT2.out s x y W hx hS.out.1 hy64
          have HXY := hid hxy
          obtain ⟨tb, htb⟩ : ∃ tb, tb = takeB p q r s x y := ⟨_, rfl⟩
          obtain ⟨ts, hts⟩ : ∃ ts, ts = takeS p q r s x y := ⟨_, rfl⟩
          have htl : ts < 18446744073709551616 := by rw [hts]; exact takeS_lt HOK.out hx hS.out.1
          rw [← htb, ← hts] at hTk
          have HTK := hid (cls_of hTk)
          have HTB := hid (And.intro htb (And.intro hts htl))
          clear hxy htb hts hTk htl hx c0 c1
          have k0 : (0 : Int) ≤ (k : Int) := by omega
          have k1 : (k : Int) < (n : Int) := by omega
          have b0r := cell_regrown hB.cells.1
          have b1r := cell_regrown hB.cells.2.1
          have b2r := cell_regrown hB.cells.2.2.1
          go_wp2
          refine wp_region_quiet_below (by kernel_rfl) (by kernel_rfl) ?_
          repeat (first | go_big_quiet_step ((go_at_call 24; with_reducible exact HTK.out _ _ _)) | quiet_step ((go_at_call 24; with_reducible exact HTK.out _ _ _)))
          refine wpQuiet_nil ?_
          intro w2 hw2
          have C2 := chg_cls hw2
          clear hw2 c0' c1' b0r b1r b2r
          have hA2 := hAc.later C2
          have hB2 := hB.chg C2
          go_wp2_with ((with_reducible refine at_append_ ?_); (refine wpList_append_any _ rfl (.tmp 52) (.tmp 54) 27 rfl 4 i0 _ 1 1 Try.underlying27 hi hz0 hz1 hz2 rfl (by omega) (.slice Av k cv) k (boolv (runL p q r 0 (L.take k))) rfl (hA2.alloc _).own ⟨w2.heap.size, 0, none⟩ 1 1 [.bool tb] rfl rfl (by simpa using (Blk.new w2 4 #[.bool tb]).adds0) (by simp [Value.oneCell']) (by unfold maxLen; omega) (by omega) ?_); intro A' c' w3' hO3 hC3' hb3)
          go_roundw
          case measure => simp [intOf]; omega
          case rel =>
            have e1 : L.take (k + 1) = L.take k ++ [(x, y)] := by rw [List.take_add_one, HXY.out]; rfl
            refine ⟨k + 1, ts, A', c', by omega, by go_num, rfl, rfl, hid ⟨HTB.out.2.2, ?_⟩, ?_, ?_⟩
            · rw [e1, runS_snoc, ← hS.out.2]; exact HTB.out.2.1
            · rw [e1, runL_snoc, ← hS.out.2, boolv_append]
              have := Acc.append (hA2.alloc (.cells #[.bool tb] 4)) hO3 hC3' hb3
              rw [HTB.out.1] at this
              exact this
            · exact Acc.keep (hA2.alloc (.cells #[.bool tb] 4)) hC3' (Blk.alloc hB2 _) (by decide)
        · obtain rfl : k = n := by omega
          go_wp2
          go_ret2
          have e1 : L.take k = L := List.take_of_length_le (by rw [HL.out]; omega)
          rw [e1] at hAc
          exact ⟨Av, k, cv, by rw [HV.out]; rfl, by rw [HV.out]; exact hAc⟩

theorem rRun_any (p q r : Nat) (A : Option Addr) (n c : Nat) (L : List (Nat × Nat)) (w : World) (hA : AskAt w A L) (hl : L.length = n) (hn : n ≤ 1048576) :
    Calls Try.prog 12 #[.agg #[.int .u64 (p : Int), .int .u64 (q : Int), .int .u64 (r : Int)], .slice A n c] w (RunPost p q r L w) := by
  by_cases hok : OkB p q r
  · exact rRun_ok p q r A n c L w hA hl hn hok
  · exact rRun_bad p q r A n c L w hok
end Go.Proofs.Ythhddmamlpnjpaa
