/- The reference's Fits; spare and kept; walked. -/
import Derived.Test.YthhddmamlpnjpaaBktRC
import Derived.Test.YthhddmamlpnjpaaBktRA
import Derived.Test.YthhddmamlpnjpaaBktU
namespace Go.Proofs.Ythhddmamlpnjpaa
open Go.RowKit Go.Lib Go.Sort
attribute [local go_sem ↓] Go.wp_at_zero Go.wp_at_succ

theorem rFits_bad (p q r : Nat) (A : Option Addr) (n c : Nat) (L : List (Nat × Nat)) (w : World) (hok : ¬ OkB p q r) :
    Calls Try.prog 16 #[.agg #[.int .u64 (p : Int), .int .u64 (q : Int), .int .u64 (r : Int)], .slice A n c] w fun e w' => e = .returned (.tuple #[.int .i64 ((fitsV p q r L).1 : Int), .int .i64 (fitsV p q r L).2]) ∧ Chg [] w w' := by
  have HV := hid (show fitsV p q r L = (0, 2) by unfold fitsV; rw [if_neg hok])
  have hc : checkV p q r = 2 := by unfold checkV; rw [if_neg hok]
  have HC := hid hc
  clear hok hc
  go_enter Try.func16, Try.ntmps16
  go_wp2_with (go_at_call 23; refine (rCheck_any p q r _).mono ?_; rw [HC.out]; rintro e w1 ⟨rfl, hC1⟩)
  go_ret2
  exact ⟨by rw [HV.out]; rfl, ((Chg.refl [] w).alloc _).trans hC1⟩

set_option maxHeartbeats 4000000 in
theorem rFits_ok (p q r : Nat) (A : Option Addr) (n c : Nat) (L : List (Nat × Nat)) (w : World) (hA : AskAt w A L) (hl : L.length = n) (hn : n ≤ 4096) (hok : OkB p q r) :
    Calls Try.prog 16 #[.agg #[.int .u64 (p : Int), .int .u64 (q : Int), .int .u64 (r : Int)], .slice A n c] w fun e w' => e = .returned (.tuple #[.int .i64 ((fitsV p q r L).1 : Int), .int .i64 (fitsV p q r L).2]) ∧ Chg [] w w' := by
  have hc : checkV p q r = 0 := by unfold checkV; rw [if_pos hok]
  have HCK := hid hc
  have HOK := hid hok
  have HA := hid hA
  have HL := hid hl
  have n1 : (n : Int) ≤ 4096 := by omega
  have B0 : BoxB (w.alloc (.cells #[.int .u64 (p : Int), .int .u64 (q : Int), .int .u64 (r : Int)] 24)) w.heap.size p q r := Blk.new w 24 #[.int .u64 (p : Int), .int .u64 (q : Int), .int .u64 (r : Int)]
  have C0 := hid ((Chg.refl [] w).alloc (.cells #[.int .u64 (p : Int), .int .u64 (q : Int), .int .u64 (r : Int)] 24))
  clear hc hok hA hl
  go_enter Try.func16, Try.ntmps16
  go_wp2_with (go_at_call 23; refine (rCheck_any p q r _).mono ?_; rw [HCK.out]; rintro e w1 ⟨rfl, hC1⟩; have B1 := BoxB.chg B0 hC1; have C1 := hid (C0.out.trans hC1); clear hC1)
  go_loopw [6] (fun i wr => ∃ k : Nat, k ≤ n ∧ i = .int .i64 k ∧ Hid (∀ z ∈ L.take k, z.1 ≤ 1099511627776) ∧ Chg [] w wr ∧ BoxB wr w.heap.size p q r) (fun i _ => n - (intOf i).toNat)
  case atStart => exact ⟨0, Nat.zero_le _, rfl, hid (by simp), C1.out, B1⟩
  case round =>
    obtain ⟨k, hk, rfl, hall, hC, hB⟩ := hrel
    by_cases hlt : k < n
    · obtain ⟨x, y, hxy⟩ := get_ask L k (by rw [HL.out]; exact hlt)
      obtain ⟨hx64, hy64, b, o, hAe, hbl, c0, c1⟩ := HA.out k x y hxy
      subst hAe
      have c0' := (hC.cell (p := ⟨b, o + k * 2, none⟩) hbl (by simp)).trans c0
      have HXY := hid hxy
      have k0 : (0 : Int) ≤ (k : Int) := by omega
      have k1 : (k : Int) < (n : Int) := by omega
      clear hxy c0 c1
      by_cases hbig : (1099511627776 : Int) < (x : Int)
      · have HV := hid (show fitsV p q r L = (0, 5) by
          have h : mayV p q r (L.map (·.1)) = 5 := by
            unfold mayV
            rw [if_pos HOK.out, if_neg]
            rw [List.all_eq_true]
            intro h
            have := h x (List.mem_map.2 ⟨(x, y), List.mem_of_getElem? HXY.out, rfl⟩)
            simp at this
            omega
          unfold fitsV
          rw [if_pos HOK.out, if_neg (by rw [HL.out]; omega), h]; rfl)
        go_wp2
        go_ret2
        exact ⟨by rw [HV.out]; rfl, hC⟩
      · have HLE := hid (show x ≤ 1099511627776 by omega)
        go_wp2
        go_roundw
        case measure => simp [intOf]; omega
        case rel =>
          refine ⟨k + 1, by omega, by go_num, hid ?_, hC, hB⟩
          intro z hz
          rw [List.take_add_one, HXY.out] at hz
          rcases List.mem_append.1 hz with h | h
          · exact hall.out z h
          · simp at h; subst h; exact HLE.out
    · have hkn : k = n := by omega
      have hall' : ∀ z ∈ L, z.1 ≤ 1099511627776 := by
        have := hall.out
        rw [hkn, List.take_of_length_le (by rw [HL.out]; omega)] at this
        exact this
      have HV := hid (show fitsV p q r L = (fitsGo p q r 0 [] L, 0) from fits_of HOK.out (by rw [HL.out]; exact hn) hall' rfl)
      have HALL := hid hall'
      have HFU := hid (fun i W (hA : AskAt W A L) (hi : i < n) => rFull_any p q r A n c i L W hA HL.out hn HOK.out hall' hi)
      have hkn2 : ¬ ((k : Int) < (n : Int)) := by omega
      clear hall' hkn hlt hall hk
      obtain ⟨wo, hwo⟩ : ∃ wo : World, wo = wr := ⟨_, rfl⟩
      rw [← hwo] at hC hB
      rw [← hwo]
      clear hwo
      go_wp2
      clear hkn2
      go_loopw [7] (fun i wr => ∃ (k : Nat) (S : List (Nat × Nat)), k ≤ n ∧ i = .int .i64 k ∧ Hid (BothAt p q r L k S) ∧ Chg [] w wr ∧ BoxB wr w.heap.size p q r) (fun i _ => n - (intOf i).toNat)
      case atStart => exact ⟨0, [], Nat.zero_le _, rfl, hid (BothAt.start p q r L), hC, hB⟩
      case round =>
        obtain ⟨k, S, hk, rfl, hS, hC, hB⟩ := hrel
        by_cases hlt : k < n
        · obtain ⟨x, y, hxy⟩ := get_ask L k (by rw [HL.out]; exact hlt)
          have HXY := hid hxy
          have k0 : (0 : Int) ≤ (k : Int) := by omega
          have k1 : (k : Int) < (n : Int) := by omega
          have b0 := hB.cells.1
          have b1 := hB.cells.2.1
          have b2 := hB.cells.2.2.1
          clear hxy
          go_wp2_with fail
          refine (HFU.out k _ (HA.out.chg hC) hlt).mono ?_
          rintro e w2 ⟨bb, rfl, hbb, hC2⟩
          have HBB := hid hbb
          clear hbb
          cases bb
          · have hno := hid (show ¬ FullRef p q r L k from fun h => absurd (HBB.out.2 h) (by simp))
            go_wp2
            go_roundw
            case measure => simp [intOf]; omega
            case rel => exact ⟨k + 1, insV (x, y) S, by omega, by go_num, hid (hS.out.step HOK.out.2.2.1 HOK.out.2.2.2.2.2 HXY.out hno.out), hC.trans hC2, hB.chg hC2⟩
          · have HG := hid (hS.out.found HOK.out.2.2.1 HOK.out.2.2.2.2.2 HXY.out (HBB.out.1 rfl))
            go_wp2
            go_ret2
            exact ⟨by rw [HV.out, HG.out]; rfl, hC.trans hC2⟩
        · obtain rfl : k = n := by omega
          have HG := hid (hS.out.done HL.out)
          go_wp2
          go_ret2
          exact ⟨by rw [HV.out, HG.out]; rfl, hC⟩

theorem rFits_any (p q r : Nat) (A : Option Addr) (n c : Nat) (L : List (Nat × Nat)) (w : World) (hA : AskAt w A L) (hl : L.length = n) (hn : n ≤ 4096) :
    Calls Try.prog 16 #[.agg #[.int .u64 (p : Int), .int .u64 (q : Int), .int .u64 (r : Int)], .slice A n c] w fun e w' => e = .returned (.tuple #[.int .i64 ((fitsV p q r L).1 : Int), .int .i64 (fitsV p q r L).2]) ∧ Chg [] w w' := by
  by_cases hok : OkB p q r
  · exact rFits_ok p q r A n c L w hA hl hn hok
  · exact rFits_bad p q r A n c L w hok

/-- The marked room. -/
def marksV (k : Nat) : List (Nat × Nat) := (List.range k).map fun j => (77, j)
theorem marksV_succ (k : Nat) : marksV (k + 1) = marksV k ++ [(77, k)] := by simp [marksV, List.range_succ]

theorem Own.front {w : World} {g o n m c : Nat} {L M : List (Nat × Nat)} (h : Own w 40 2 (.slice (some ⟨g, o, none⟩) m c) m (askv (L ++ M))) (hl : L.length = n) (hnm : n ≤ m) : Own w 40 2 (.slice (some ⟨g, o, none⟩) n c) n (askv L) := by
  rcases h.2 with ⟨h1, _⟩ | ⟨g', o', c', B, h1, h2, h3, h4, h5, h6⟩
  · cases h1
  · refine ⟨by rw [askv_len, hl], .inr ⟨g', o', c', B, ?_, h2, by omega, h4, h5, ?_⟩⟩
    · injection h1 with e1 e2 e3
      rw [e1, e3]
    · have : (List.drop o' B).take (n * 2) = ((List.drop o' B).take (m * 2)).take (n * 2) := by rw [List.take_take, Nat.min_eq_left (by omega)]
      rw [this, h6, askv_append, List.take_append_of_le_length (by rw [askv_len]; omega), List.take_of_length_le (by rw [askv_len]; omega)]

theorem AskAt.adds {w : World} {a : Addr} {L : List (Nat × Nat)} (h : AskAt w (some a) L) : ∀ (j : Nat) (u : Value), (askv L)[j]? = some u → w.cell? (a.add j) = some u := by
  intro j u hu
  have hj : j < L.length * 2 := by
    obtain ⟨h1, _⟩ := List.getElem?_eq_some_iff.1 hu
    rw [askv_len] at h1; exact h1
  obtain ⟨x, y, hxy⟩ := get_ask L (j / 2) (by omega)
  obtain ⟨_, _, b', o', hA, _, c0, c1⟩ := h (j / 2) x y hxy
  injection hA with hA
  subst hA
  rw [Addr.add_lit]
  obtain ⟨g0, g1⟩ := askv_get L (j / 2) (x, y) hxy
  rcases Nat.mod_two_eq_zero_or_one j with hm | hm
  · have e : j = j / 2 * 2 := by omega
    rw [← e] at g0 c0
    rw [hu] at g0
    rw [c0, g0]
  · have e : j = j / 2 * 2 + 1 := by omega
    rw [← e] at g1
    rw [Nat.add_assoc, ← e] at c1
    rw [hu] at g1
    rw [c1, g1]

def SparePost (n : Nat) (L : List (Nat × Nat)) (w : World) (e : Ending) (w' : World) : Prop :=
  ∃ g o c', e = .returned (.slice (some ⟨g, o, none⟩) n c') ∧ Acc w w' 40 2 (.slice (some ⟨g, o, none⟩) (n + 4) c') (n + 4) (askv (L ++ marksV 4))

set_option maxHeartbeats 2000000 in
theorem spare_any (A : Option Addr) (n c : Nat) (L : List (Nat × Nat)) (w : World) (hA : AskAt w A L) (hl : L.length = n) (hn : n ≤ 1048576) (hnil : A = none → n = 0 ∧ c = 0) :
    Calls Try.prog 10 #[.slice A n c] w (SparePost n L w) := by
  obtain ⟨i0, hi, hz0, hz1, hz2⟩ := info_parts Try.info40n
  have n1 : (n : Int) ≤ 1048576 := by omega
  have HL := hid hl
  clear hl
  cases A with
  | none =>
    obtain ⟨rfl, rfl⟩ := hnil rfl
    have HLE := hid (show L ++ marksV 0 = [] by rw [List.eq_nil_of_length_eq_zero HL.out]; rfl)
    clear n1 hn
    go_enter Try.func10, Try.ntmps10
    go_wp2
    go_loopw [3, 4] (fun v i wr => ∃ (k : Nat) (Av : Option Addr) (cv : Nat), k ≤ 4 ∧ i = .int .u64 (k : Int) ∧ v = .slice Av k cv ∧ Acc w wr 40 2 (.slice Av k cv) k (askv (L ++ marksV k))) (fun _ i _ => 4 - (intOf i).toNat)
    case atStart => exact ⟨0, none, 0, by omega, rfl, rfl, by rw [HLE.out]; exact Acc.nil w 40 2 (Chg.refl _ _)⟩
    case round =>
      obtain ⟨k, Av, cv, hk, rfl, rfl, hAc⟩ := hrel
      by_cases hlt : (k : Int) < 4
      · go_wp2_with ((with_reducible refine at_append_ (dst := some 16) ?_); (refine wpList_append_any _ rfl (.tmp 12) (.tmp 15) 25 rfl 40 i0 _ 2 16 Try.underlying25 hi hz0 hz1 hz2 rfl (by omega) (.slice Av k cv) k (askv (L ++ marksV k)) rfl (hAc.alloc _).own ⟨wr.heap.size, 0, none⟩ 1 1 [.int .u64 77, .int .u64 (k : Int)] rfl rfl (by simpa using (Blk.new wr 40 #[.int .u64 77, .int .u64 (k : Int)]).adds0) (by simp [Value.oneCell']) (by unfold maxLen; omega) (by omega) ?_); intro A' c' w5 hO4 hC4 hb4)
        go_roundw
        case measure => simp [intOf] <;> omega
        case rel =>
          refine ⟨k + 1, A', c', by omega, by go_num, rfl, ?_⟩
          rw [marksV_succ, ← List.append_assoc, ← askv_snoc]
          exact Acc.append (hAc.alloc (.cells #[.int .u64 77, .int .u64 (k : Int)] 40)) hO4 hC4 hb4
      · obtain rfl : k = 4 := by omega
        obtain ⟨gp, op, cp, hvp, hcap, _, hgp⟩ := hAc.own.some_ (by omega)
        injection hvp with hAp _ hcp
        subst hAp; subst hcp
        have hcn : ¬ cv < 0 := by omega
        go_wp2
        go_ret
        exact ⟨gp, op, cv, rfl, hAc⟩
  | some a =>
    have HAD := hid hA.adds
    have HLE := hid (show L ++ marksV 0 = L by simp [marksV])
    clear hnil
    go_enter Try.func10, Try.ntmps10
    go_wp2_with ((with_reducible refine at_append_ (dst := some 7) ?_); (refine wpList_append_new _ rfl (.tmp 5) (.tmp 6) 25 rfl 40 i0 _ 2 16 Try.underlying25 hi hz0 hz1 hz2 rfl (by omega) rfl a n c (askv L) rfl (by rw [askv_len, HL.out]) HAD.out (askv_one L) (by unfold maxLen; omega) (by omega) ?_); intro A1 c1x w4 hO1 hC1 hb1)
    go_loopw [3, 4] (fun v i wr => ∃ (k : Nat) (Av : Option Addr) (cv : Nat), k ≤ 4 ∧ i = .int .u64 (k : Int) ∧ v = .slice Av (n + k) cv ∧ Acc w wr 40 2 (.slice Av (n + k) cv) (n + k) (askv (L ++ marksV k))) (fun _ i _ => 4 - (intOf i).toNat)
    case atStart => exact ⟨0, A1, c1x, by omega, rfl, rfl, by rw [HLE.out]; exact ⟨hO1, hb1, hC1⟩⟩
    case round =>
      obtain ⟨k, Av, cv, hk, rfl, rfl, hAc⟩ := hrel
      by_cases hlt : (k : Int) < 4
      · go_wp2_with ((with_reducible refine at_append_ (dst := some 16) ?_); (refine wpList_append_any _ rfl (.tmp 12) (.tmp 15) 25 rfl 40 i0 _ 2 16 Try.underlying25 hi hz0 hz1 hz2 rfl (by omega) (.slice Av (n + k) cv) (n + k) (askv (L ++ marksV k)) rfl (hAc.alloc _).own ⟨wr.heap.size, 0, none⟩ 1 1 [.int .u64 77, .int .u64 (k : Int)] rfl rfl (by simpa using (Blk.new wr 40 #[.int .u64 77, .int .u64 (k : Int)]).adds0) (by simp [Value.oneCell']) (by unfold maxLen; omega) (by omega) ?_); intro A' c' w5 hO4 hC4 hb4)
        go_roundw
        case measure => simp [intOf] <;> omega
        case rel =>
          refine ⟨k + 1, A', c', by omega, by go_num, rfl, ?_⟩
          rw [marksV_succ, ← List.append_assoc, ← askv_snoc]
          exact Acc.append (hAc.alloc (.cells #[.int .u64 77, .int .u64 (k : Int)] 40)) hO4 hC4 hb4
      · obtain rfl : k = 4 := by omega
        obtain ⟨gp, op, cp, hvp, hcap, _, hgp⟩ := hAc.own.some_ (by omega)
        injection hvp with hAp _ hcp
        subst hAp; subst hcp
        have hcn : ¬ cv < n := by omega
        go_wp2
        go_ret
        exact ⟨gp, op, cv, rfl, hAc⟩

theorem eqGuard40 (x y : Operand) (a b c d : Int) (W : World) : (eqGuard .neq 40 x y (.agg #[.int .u64 a, .int .u64 b]) (.agg #[.int .u64 c, .int .u64 d])).run Try.prog W = .ok () W := by kernel_rfl
theorem part40_0 (a b : Value) (W : World) : (part 22 #[a, b] 0).run Try.prog W = .ok a W := by kernel_rfl
theorem part40_1 (a b : Value) (W : World) : (part 22 #[a, b] 1).run Try.prog W = .ok b W := by kernel_rfl
theorem eq22 (d : Nat) (a b : Int) (W : World) : (Op.equalIn (d + 1) 22 (.int .u64 a) (.int .u64 b)).run Try.prog W = .ok (a == b) W := run_equalIn_int W d 22 .u64 .u64 a b Try.underlying22
theorem size22 (W : World) : (sizeOf 22).run Try.prog W = .ok 1 W := by kernel_rfl
theorem eq40 (d : Nat) (a b : Int) (W : World) : (Op.equalIn (d + 2) 40 (.agg #[.int .u64 a, .int .u64 b]) (.agg #[.int .u64 a, .int .u64 b])).run Try.prog W = .ok true W := by
  rw [show d + 2 = (d + 1) + 1 from rfl, Op.equalIn]
  simp only [Sem.run_bind, run_underlying Try.underlying40, Result.andThen_ok, size22]
  rw [Std.Legacy.Range.forIn_eq_forIn_range']
  simp [Std.Legacy.Range.size, List.range', part40_0, part40_1, eq22 d]
theorem eq40k (a b : Int) (W : World) : (Op.equalIn 10000 40 (.agg #[.int .u64 a, .int .u64 b]) (.agg #[.int .u64 a, .int .u64 b])).run Try.prog W = .ok true W := eq40 9998 a b W
attribute [local go_sem] eqGuard40 eq40k

set_option maxHeartbeats 2000000 in
theorem kept_any (g o n c' : Nat) (A : Option Addr) (c : Nat) (L : List (Nat × Nat)) (w : World) (hO : Own w 40 2 (.slice (some ⟨g, o, none⟩) (n + 4) c') (n + 4) (askv (L ++ marksV 4))) (hA : AskAt w A L) (hl : L.length = n) (hn : n ≤ 1048576) :
    Calls Try.prog 14 #[.slice (some ⟨g, o, none⟩) n c', .slice A n c] w fun e w' => e = .returned (.bool true) ∧ Chg [] w w' := by
  have n1 : (n : Int) ≤ 1048576 := by omega
  have HL := hid hl
  have HA := hid hA
  obtain ⟨_, _, hv0, hcap, hcm⟩ := hO.form
  injection hv0 with hva hvb hvc
  subst hva; subst hvc
  have hcap2 : ¬ c' < n + 4 := by omega
  have hcap3 : (n : Int) + 4 ≤ (c' : Int) := by omega
  have hcm2 : (c' : Int) ≤ 9223372036854775807 := by unfold maxLen at hcm; omega
  clear hl hA hcm
  go_enter Try.func14, Try.ntmps14
  go_wp2
  go_loopw [6] (fun iv wr => ∃ i : Nat, i ≤ n + 4 ∧ iv = .int .i64 i ∧ Chg [] w wr) (fun iv _ => n + 4 - (intOf iv).toNat)
  case atStart => exact ⟨0, by omega, rfl, Chg.refl _ _⟩
  case round =>
    obtain ⟨i, hi, rfl, hC⟩ := hrel
    have hOr := hO.chg hC (by simp)
    by_cases hlt : (i : Int) < (n : Int) + 4
    · obtain ⟨x, y, hxy⟩ := get_ask (L ++ marksV 4) i (by rw [List.length_append, HL.out]; simp [marksV]; omega)
      obtain ⟨q0, q1⟩ := hOr.ask hxy
      have HXY := hid hxy
      clear hxy
      have k0 : (0 : Int) ≤ (i : Int) := by omega
      by_cases hin : (i : Int) < (n : Int)
      · obtain ⟨x', y', hx'⟩ := get_ask L i (by rw [HL.out]; omega)
        have hxx := HXY.out
        rw [List.getElem?_append_left (by rw [HL.out]; omega), hx'] at hxx
        injection hxx with hxx
        injection hxx with e1 e2
        subst e1; subst e2
        obtain ⟨_, _, b, o', hAe, hbl, c0, c1⟩ := HA.out i _ _ hx'
        subst hAe
        have c0' := (hC.cell (p := ⟨b, o' + i * 2, none⟩) hbl (by simp)).trans c0
        have c1' := (hC.cell (p := ⟨b, o' + i * 2 + 1, none⟩) hbl (by simp)).trans c1
        have hbl2 : b < wr.heap.size := Nat.lt_of_lt_of_le hbl hC.size
        have hgl : g < wr.heap.size := hOr.lt g rfl
        clear hx' c0 c1
        go_wp2
        go_quiet (fail)
        go_wp2
        go_roundw
        case measure => simp [intOf]; omega
        case rel => exact ⟨i + 1, by omega, by go_num, (hC.alloc _).drewN _⟩
      · obtain ⟨j, hj⟩ : ∃ j, j = i - n := ⟨_, rfl⟩
        have q2 : (i : Int) - (n : Int) = (j : Int) := by omega
        have hj4 : (j : Int) < 4 := by omega
        have hxx := HXY.out
        rw [List.getElem?_append_right (by rw [HL.out]; omega), HL.out, ← hj] at hxx
        have hm : (marksV 4)[j]? = some (77, j) := by
          unfold marksV
          rw [List.getElem?_map, List.getElem?_range (by omega)]
          rfl
        rw [hm] at hxx
        injection hxx with hxx
        injection hxx with e1 e2
        subst e1; subst e2
        have hgl : g < wr.heap.size := hOr.lt g rfl
        clear hj hm
        go_wp2
        go_quiet (fail)
        go_wp2
        go_roundw
        case measure => simp [intOf]; omega
        case rel => exact ⟨i + 1, by omega, by go_num, (hC.alloc _).drewN _⟩
    · obtain rfl : i = n + 4 := by omega
      go_wp2
      go_ret
      exact ⟨rfl, hC⟩
end Go.Proofs.Ythhddmamlpnjpaa
