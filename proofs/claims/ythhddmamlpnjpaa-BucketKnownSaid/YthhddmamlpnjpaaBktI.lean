/- The reference's Over and Level, walked. -/
import Derived.Test.YthhddmamlpnjpaaBktH
import Derived.Test.YthhddmamlpnjpaaQTail
namespace Go.Proofs.Ythhddmamlpnjpaa
open Go.RowKit Go.Lib Go.Sort

theorem Blk.new_at (w : World) (t : TypeId) (cs : Array Value) {g : Nat} (h : w.heap.size = g) : Blk (w.alloc (.cells cs t)) g t cs.toList := by subst h; exact Blk.new w t cs
theorem chg_cls {w w' : World} (h : ∃ p : Regrown, w' = grow (redrawn w p.d) p.os) : Chg [] w w' := by
  obtain ⟨p, rfl⟩ := h
  exact Chg.of_below (below_regrown w p.d p.os)
theorem rWord_W (A : Nat) (hA : A < 18446744073709551616) (W : World) : Calls Try.prog 51 #[.int .u64 (A : Int)] W fun e w' => e = .returned (.agg #[.int .u64 (hiW A : Int), .int .u64 (loW A : Int)]) ∧ Chg [] W w' :=
  (rWord_any A W hA).mono fun _ _ h => wide_det h
theorem rWord_1 (W : World) : Calls Try.prog 51 #[.int .u64 1] W fun e w' => e = .returned (.agg #[.int .u64 (hiW 1 : Int), .int .u64 (loW 1 : Int)]) ∧ Chg [] W w' :=
  rWord_W 1 (by omega) W
theorem rPlus_D (A B : Nat) (hA : A < W2) (hB : B < W2) (hAB : A + B < W2) (W : World) :
    Calls Try.prog 44 #[.agg #[.int .u64 (hiW A : Int), .int .u64 (loW A : Int)], .agg #[.int .u64 (hiW B : Int), .int .u64 (loW B : Int)]] W fun e w' => e = .returned (.agg #[.int .u64 (hiW (A + B) : Int), .int .u64 (loW (A + B) : Int)]) ∧ Chg [] W w' :=
  (rPlus_W A B hA hB hAB W).mono fun _ _ h => wide_det h

/-- What Over keeps in memory. -/
structure OverW (w : World) (g : Nat) (A O R : Nat) : Prop where
  a : Blk w g 71 [.int .u64 (hiW A : Int), .int .u64 (loW A : Int)]
  z : Blk w (g + 1) 71 [.int .u64 0, .int .u64 0]
  o : Blk w (g + 1 + 1) 71 [.int .u64 (hiW O : Int), .int .u64 (loW O : Int)]
  r : Blk w (g + 1 + 1 + 1) 71 [.int .u64 (hiW R : Int), .int .u64 (loW R : Int)]
theorem OverW.chg {w w' : World} {g A O R : Nat} (h : OverW w g A O R) (hc : Chg [] w w') : OverW w' g A O R :=
  ⟨h.a.chg hc (by simp), h.z.chg hc (by simp), h.o.chg hc (by simp), h.r.chg hc (by simp)⟩

theorem half_pow (A j : Nat) : A / 2 ^ j = 2 * (A / 2 ^ (j + 1)) + A / 2 ^ j % 2 := by
  have : A / 2 ^ (j + 1) = A / 2 ^ j / 2 := by rw [Nat.pow_succ, Nat.div_div_eq_div_mul]
  omega
theorem over_step_lo {H b t : Nat} (hb : 1 ≤ b) (h : H % b + H % b + t < b) : (2 * H + t) / b = H / b + H / b ∧ (2 * H + t) % b = H % b + H % b + t := by
  have e : 2 * H + t = (H % b + H % b + t) + b * (H / b + H / b) := by
    have := Nat.div_add_mod H b
    rw [Nat.mul_add]; omega
  rw [e, Nat.add_mul_div_left _ _ (by omega), Nat.add_mul_mod_self_left, Nat.div_eq_of_lt h, Nat.mod_eq_of_lt h]
  omega
theorem over_step_hi {H b t : Nat} (hb : 1 ≤ b) (ht : t ≤ 1) (h : b ≤ H % b + H % b + t) : (2 * H + t) / b = H / b + H / b + 1 ∧ (2 * H + t) % b = H % b + H % b + t - b := by
  have hl : H % b < b := Nat.mod_lt _ (by omega)
  have e : 2 * H + t = (H % b + H % b + t - b) + b * (H / b + H / b + 1) := by
    have := Nat.div_add_mod H b
    rw [Nat.mul_add, Nat.mul_add]; omega
  have h2 : H % b + H % b + t - b < b := by omega
  rw [e, Nat.add_mul_div_left _ _ (by omega), Nat.add_mul_mod_self_left, Nat.div_eq_of_lt h2, Nat.mod_eq_of_lt h2]
  omega

theorem OverW.setR {w : World} {g A O R : Nat} (h : OverW w g A O R) (R' : Nat) : OverW ((w.setCell ⟨g + 1 + 1 + 1, 0, none⟩ (.int .u64 (hiW R' : Int))).setCell ⟨g + 1 + 1 + 1, 1, none⟩ (.int .u64 (loW R' : Int))) g A O R' :=
  ⟨(h.a.far (by simp; omega) _).far (by simp; omega) _, (h.z.far (by simp) _).far (by simp) _, (h.o.far (by simp) _).far (by simp) _, (h.r.set_ 0 _).set_ 1 _⟩
theorem OverW.setO {w : World} {g A O R : Nat} (h : OverW w g A O R) (O' : Nat) : OverW ((w.setCell ⟨g + 1 + 1, 0, none⟩ (.int .u64 (hiW O' : Int))).setCell ⟨g + 1 + 1, 1, none⟩ (.int .u64 (loW O' : Int))) g A O' R :=
  ⟨(h.a.far (by simp; omega) _).far (by simp; omega) _, (h.z.far (by simp) _).far (by simp) _, (h.o.set_ 0 _).set_ 1 _, (h.r.far (by simp) _).far (by simp) _⟩
theorem Chg.set2 {a w : World} (h : Chg [] a w) {g : Nat} (hg : a.heap.size ≤ g) (u v : Value) : Chg [] a ((w.setCell ⟨g, 0, none⟩ u).setCell ⟨g, 1, none⟩ v) := (h.setCell (.inr hg) u).setCell (.inr hg) v

theorem bit_hi (A i : Nat) (h : 64 ≤ i) : ((hiW A : Int) / 2 ^ (i - 64)).tmod 2 = ((A / 2 ^ i % 2 : Nat) : Int) := by
  have e : A / 2 ^ i = hiW A / 2 ^ (i - 64) := by
    have : 2 ^ i = 18446744073709551616 * 2 ^ (i - 64) := by
      rw [show (18446744073709551616 : Nat) = 2 ^ 64 by rfl, ← Nat.pow_add]; congr 1; omega
    unfold hiW
    rw [this, Nat.div_div_eq_div_mul]
  rw [e]
  have h2 : ((hiW A : Int) / 2 ^ (i - 64)) = ((hiW A / 2 ^ (i - 64) : Nat) : Int) := by simp
  rw [h2, Int.tmod_eq_emod_of_nonneg (Int.natCast_nonneg _)]
  simp
theorem bit_lo (A i : Nat) (h : i < 64) : ((loW A : Int) / 2 ^ i).tmod 2 = ((A / 2 ^ i % 2 : Nat) : Int) := by
  have e : A / 2 ^ i % 2 = loW A / 2 ^ i % 2 := by
    have : (18446744073709551616 : Nat) = 2 ^ i * 2 ^ (64 - i) := by
      rw [show (18446744073709551616 : Nat) = 2 ^ 64 by rfl, ← Nat.pow_add]; congr 1; omega
    unfold loW
    rw [this, Nat.mod_mul_right_div_self, Nat.mod_mod_of_dvd]
    exact ⟨2 ^ (63 - i), by rw [← Nat.pow_succ']; congr 1; omega⟩
  rw [e]
  have h2 : ((loW A : Int) / 2 ^ i) = ((loW A / 2 ^ i : Nat) : Int) := by simp
  rw [h2, Int.tmod_eq_emod_of_nonneg (Int.natCast_nonneg _)]
  simp

set_option maxHeartbeats 2000000 in
theorem rOver_any (A b : Nat) (w : World) (hA : A < W2) (hb1 : 1 ≤ b) (hb2 : b < 18446744073709551616) :
    Calls Try.prog 46 #[.agg #[.int .u64 (hiW A : Int), .int .u64 (loW A : Int)], .int .u64 (b : Int)] w (WidePost (A / b) w) := by
  have HA := hid hA
  have HB := hid (And.intro hb1 hb2)
  clear hA hb1 hb2
  have start : OverW (((w.alloc (.cells #[.int .u64 (hiW A : Int), .int .u64 (loW A : Int)] 71)).alloc (.cells #[.int .u64 0, .int .u64 0] 71)).alloc (.cells #[.int .u64 0, .int .u64 0] 71) |>.alloc (.cells #[.int .u64 0, .int .u64 0] 71)) w.heap.size A (A / 2 ^ 128 / b) (A / 2 ^ 128 % b) := by
    have h0 : A / 2 ^ 128 = 0 := Nat.div_eq_of_lt HA.out
    rw [h0, Nat.zero_div, Nat.zero_mod]
    exact ⟨(((Blk.new w 71 #[.int .u64 (hiW A : Int), .int .u64 (loW A : Int)]).alloc _).alloc _).alloc _, ((Blk.new_at _ 71 #[.int .u64 0, .int .u64 0] (by simp)).alloc _).alloc _, (Blk.new_at _ 71 #[.int .u64 0, .int .u64 0] (by simp)).alloc _, Blk.new_at _ 71 #[.int .u64 0, .int .u64 0] (by simp)⟩
  have HS := hid start
  clear start
  go_enter Try.func46, Try.ntmps46
  go_wp2
  go_loopw [7] (fun i wr => ∃ j : Nat, j ≤ 128 ∧ i = .int .i64 ((j : Int) - 1) ∧ OverW wr w.heap.size A (A / 2 ^ j / b) (A / 2 ^ j % b) ∧ Chg [] w wr) (fun i _ => (intOf i + 1).toNat)
  case atStart => exact ⟨128, by omega, rfl, HS.out, ((((Chg.refl _ _).alloc _).alloc _).alloc _).alloc _⟩
  case round =>
    obtain ⟨j, hj, rfl, hO, hC⟩ := hrel
    by_cases hj0 : j = 0
    · subst hj0
      have o0 := hO.o.cell_of (i := 0) rfl
      have o1 := hO.o.cell_of (i := 1) rfl
      have z0 := hO.z.cell_of (i := 0) rfl
      have z1 := hO.z.cell_of (i := 1) rfl
      have f0 := hO.z.frozen 0
      have f1 := hO.z.frozen 1
      go_wp2
      have HZ : Blk ((wr.setCell ⟨w.heap.size + 1, 0, none⟩ (.int .u64 (hiW (A / 2 ^ 0 / b) : Int))).setCell ⟨w.heap.size + 1, 1, none⟩ (.int .u64 (loW (A / 2 ^ 0 / b) : Int))) (w.heap.size + 1) 71 [.int .u64 (hiW (A / 2 ^ 0 / b) : Int), .int .u64 (loW (A / 2 ^ 0 / b) : Int)] := (hO.z.set_ 0 _).set_ 1 _
      have p0 : A / 2 ^ 0 = A := by simp
      rw [p0] at HZ
      exact bodyPost_ret (v := .agg #[.int .u64 (hiW (A / b) : Int), .int .u64 (loW (A / b) : Int)]) (by simp [results, Try.results46, go_sem, HZ.cell_of (i := 0) rfl, HZ.cell_of (i := 1) rfl]) rfl ⟨hiW (A / b), loW (A / b), rfl, hiW_lt (Nat.lt_of_le_of_lt (Nat.div_le_self _ _) HA.out), loW_lt _, two_W _, hC.set2 (by omega) _ _⟩
    · obtain ⟨i, rfl⟩ : ∃ i, j = i + 1 := ⟨j - 1, by omega⟩
      have q1 : ((i + 1 : Nat) : Int) - 1 = (i : Int) := by omega
      rw [q1]
      have q2 : (0 : Int) ≤ (i : Int) := by omega
      obtain ⟨t, ht⟩ : ∃ t, t = A / 2 ^ i % 2 := ⟨_, rfl⟩
      obtain ⟨O, hOe⟩ : ∃ O, O = A / 2 ^ (i + 1) / b := ⟨_, rfl⟩
      obtain ⟨R, hR⟩ : ∃ R, R = A / 2 ^ (i + 1) % b := ⟨_, rfl⟩
      rw [← hOe, ← hR] at hO
      have hRb : R < b := by rw [hR]; exact Nat.mod_lt _ HB.out.1
      have hAj : A / 2 ^ (i + 1) ≤ A / 2 := by
        rw [Nat.pow_succ, Nat.mul_comm, ← Nat.div_div_eq_div_mul]; exact Nat.div_le_self _ _
      have hOb : O + O + 1 < W2 := by
        have h1 : O ≤ A / 2 ^ (i + 1) := by rw [hOe]; exact Nat.div_le_self _ _
        have h2 := HA.out
        unfold W2 at *; omega
      have htb : t ≤ 1 := by rw [ht]; omega
      have hW2 : 4 * 18446744073709551616 < W2 := by unfold W2; omega
      have hb2 := HB.out.2
      have HPR := hid (rPlus_D R R (by omega) (by omega) (by omega))
      have HWd := hid (rWord_W t (by omega))
      have HPB := hid (rPlus_D (R + R) t (by omega) (by omega) (by omega))
      have HPO := hid (rPlus_D O O (by omega) (by omega) (by omega))
      have HWb := hid (cls_of (rWord_W b hb2))
      have HW1 := hid (cls_of rWord_1)
      have hab := cls_of (rAbove_W b (R + R + t))
      obtain ⟨c, hc⟩ : ∃ c, c = decide (R + R + t < b) := ⟨_, rfl⟩
      rw [← hc] at hab
      have HAB := hid hab
      have HC := hid hc
      clear hab hc
      have HPO1 := hid (cls_of (rPlus_D (O + O) 1 (by omega) (by omega) (by omega)))
      have hmi := fun h : b ≤ R + R + t => cls_of (fun W => (rMinus_W (R + R + t) b (by omega) (by omega) h W).mono fun _ _ h => wide_det h)
      have HMI := hid hmi
      clear hmi
      have HF := hid (And.intro ht (And.intro hOe (And.intro hR (And.intro hRb (And.intro hOb htb)))))
      have a0 := hO.a.cell_of (i := 0) rfl
      have a1 := hO.a.cell_of (i := 1) rfl
      have r0 := hO.r.cell_of (i := 0) rfl
      have r1 := hO.r.cell_of (i := 1) rfl
      have HQ : ((64 : Int) ≤ (i : Int) ∧ ((hiW A : Int) / 2 ^ (i - 64)).tmod 2 = (t : Int)) ∨ ((i : Int) < 64 ∧ ((loW A : Int) / 2 ^ i).tmod 2 = (t : Int)) := by
        rcases Nat.lt_or_ge i 64 with h | h
        · exact .inr ⟨by omega, by rw [ht]; exact bit_lo A i h⟩
        · exact .inl ⟨by omega, by rw [ht]; exact bit_hi A i h⟩
      clear q1 hj0 ht hOe hR hRb hOb htb hAj hW2 hb2
      rcases HQ with ⟨h64, q5⟩ | ⟨h64, q5⟩
      all_goals
        go_wp2_with (first
          | (go_at_call 44; (with_reducible refine (HPR.out _).mono ?_); rintro e w1 ⟨rfl, hC1⟩; have O1 := hO.chg hC1)
          | (go_at_call 51; (with_reducible refine (HWd.out _).mono ?_); rintro e w2 ⟨rfl, hC2⟩; have O2 := O1.chg hC2)
          | (go_at_call 44; (with_reducible refine (HPB.out _).mono ?_); rintro e w3 ⟨rfl, hC3⟩; have O3 := O2.chg hC3; have r30 := O3.r.cell_of (i := 0) rfl; have r31 := O3.r.cell_of (i := 1) rfl; have f30 := O3.r.frozen 0; have f31 := O3.r.frozen 1; have o30 := O3.o.cell_of (i := 0) rfl; have o31 := O3.o.cell_of (i := 1) rfl)
          | (go_at_call 44; (with_reducible refine (HPO.out _).mono ?_); rintro e w4 ⟨rfl, hC4⟩; have O4 := (O3.setR (R + R + t)).chg hC4; have o40 := O4.o.cell_of (i := 0) rfl; have o41 := O4.o.cell_of (i := 1) rfl; have f40 := O4.o.frozen 0; have f41 := O4.o.frozen 1))
        obtain ⟨w5, hw5⟩ : ∃ w5, w5 = ((w4.setCell ⟨w.heap.size + 1 + 1, 0, none⟩ (.int .u64 (hiW (O + O) : Int))).setCell ⟨w.heap.size + 1 + 1, 1, none⟩ (.int .u64 (loW (O + O) : Int))) := ⟨_, rfl⟩
        have O5 : OverW w5 w.heap.size A (O + O) (R + R + t) := by rw [hw5]; exact O4.setO (O + O)
        have C5 : Chg [] w w5 := by
          rw [hw5]
          exact Chg.set2 (((((hC.trans hC1).trans hC2).trans hC3).set2 (by omega) _ _).trans hC4) (by omega) _ _
        rw [← hw5]
        clear hw5 r0 r1 a0 a1 r30 r31 f30 f31 o30 o31 o40 o41 f40 f41 hC1 hC2 hC3 hC4 O1 O2 O3 O4 q5
        have r50 := cell_regrown (O5.r.cell_of (i := 0) rfl)
        have r51 := cell_regrown (O5.r.cell_of (i := 1) rfl)
        refine wp_region_quiet_below (by kernel_rfl) (by kernel_rfl) ?_
        repeat (first | go_big_quiet_step ((first | (go_at_call 51; with_reducible exact HWb.out _ _ _) | (go_at_call 43; with_reducible exact HAB.out _ _ _))) | quiet_step ((first | (go_at_call 51; with_reducible exact HWb.out _ _ _) | (go_at_call 43; with_reducible exact HAB.out _ _ _))))
        refine wpQuiet_nil ?_
        intro w6 hw6
        have C6 := chg_cls hw6
        clear hw6 r50 r51
        have O6 := O5.chg C6
        cases c with
        | false =>
          have hge : b ≤ R + R + t := by have := HC.out; simp at this; omega
          have HGE := hid hge
          have hmi := HMI.out hge
          have HMI := hid hmi
          clear hge hmi
          have r60 := cell_regrown (O6.r.cell_of (i := 0) rfl)
          have r61 := cell_regrown (O6.r.cell_of (i := 1) rfl)
          go_wp2
          refine wp_region_below_tail 4 (by kernel_rfl) (by kernel_rfl) ?_
          simp only [List.take_succ_cons, List.take_zero, List.drop_succ_cons, List.drop_zero]
          repeat (first | go_big_quiet_step ((first | (go_at_call 51; with_reducible exact HWb.out _ _ _) | (go_at_call 47; with_reducible exact HMI.out _ _ _))) | quiet_step ((first | (go_at_call 51; with_reducible exact HWb.out _ _ _) | (go_at_call 47; with_reducible exact HMI.out _ _ _))))
          refine wpQuiet_nil ?_
          intro w7 hw7
          have C7 := chg_cls hw7
          clear hw7 r60 r61
          have O7 := O6.chg C7
          have r70 := O7.r.cell_of (i := 0) rfl
          have r71 := O7.r.cell_of (i := 1) rfl
          have f70 := O7.r.frozen 0
          have f71 := O7.r.frozen 1
          go_wp2
          obtain ⟨w8, hw8⟩ : ∃ w8, w8 = ((w7.setCell ⟨w.heap.size + 1 + 1 + 1, 0, none⟩ (.int .u64 (hiW (R + R + t - b) : Int))).setCell ⟨w.heap.size + 1 + 1 + 1, 1, none⟩ (.int .u64 (loW (R + R + t - b) : Int))) := ⟨_, rfl⟩
          have O8 : OverW w8 w.heap.size A (O + O) (R + R + t - b) := by rw [hw8]; exact O7.setR _
          have C8 : Chg [] w w8 := by rw [hw8]; exact Chg.set2 ((C5.trans C6).trans C7) (by omega) _ _
          rw [← hw8]
          clear hw8 r70 r71 f70 f71
          have r80 := cell_regrown (O8.o.cell_of (i := 0) rfl)
          have r81 := cell_regrown (O8.o.cell_of (i := 1) rfl)
          refine wp_region_below_tail 3 (by kernel_rfl) (by kernel_rfl) ?_
          simp only [List.take_succ_cons, List.take_zero, List.drop_succ_cons, List.drop_zero]
          repeat (first | go_big_quiet_step ((first | (go_at_call 51; with_reducible exact HW1.out _ _ _) | (go_at_call 44; with_reducible exact HPO1.out _ _ _))) | quiet_step ((first | (go_at_call 51; with_reducible exact HW1.out _ _ _) | (go_at_call 44; with_reducible exact HPO1.out _ _ _))))
          refine wpQuiet_nil ?_
          intro w9 hw9
          have C9 := chg_cls hw9
          clear hw9 r80 r81
          have O9 := O8.chg C9
          have r90 := O9.o.cell_of (i := 0) rfl
          have r91 := O9.o.cell_of (i := 1) rfl
          have f90 := O9.o.frozen 0
          have f91 := O9.o.frozen 1
          go_wp2
          go_roundw
          case measure => simp [intOf] <;> omega
          case rel =>
            obtain ⟨h1, h2, h3, h4, h5, h6⟩ := HF.out
            have h7 := over_step_hi (H := A / 2 ^ (i + 1)) HB.out.1 (t := t) h6 (by rw [← h3]; exact HGE.out)
            rw [← h2, ← h3, h1, ← half_pow, ← h1] at h7
            exact ⟨i, by omega, by go_num, by rw [h7.1, h7.2]; exact O9.setO _, Chg.set2 (C8.trans C9) (by omega) _ _⟩
        | true =>
          have HGE := hid (show R + R + t < b by have := HC.out; simp at this; omega)
          go_wp2
          go_roundw
          case measure => simp [intOf] <;> omega
          case rel =>
            obtain ⟨h1, h2, h3, h4, h5, h6⟩ := HF.out
            have h7 := over_step_lo (H := A / 2 ^ (i + 1)) HB.out.1 (t := t) (by rw [← h3]; exact HGE.out)
            rw [← h2, ← h3, h1, ← half_pow, ← h1] at h7
            exact ⟨i, by omega, by go_num, by rw [h7.1, h7.2]; exact O6, C5.trans C6⟩

set_option maxHeartbeats 1000000 in
theorem rLevel_no (p q r s now : Nat) (w : World) (hm : mayV p q r [now] ≠ 0) :
    Calls Try.prog 26 #[.agg #[.int .u64 (p : Int), .int .u64 (q : Int), .int .u64 (r : Int)], .int .u64 (s : Int), .int .u64 (now : Int)] w fun e w' => e = .returned (.tuple #[.int .u64 0, .int .i64 (mayV p q r [now])]) ∧ Chg [] w w' := by
  obtain ⟨m, hmm⟩ : ∃ m, m = mayV p q r [now] := ⟨_, rfl⟩
  have hne : (m == 0) = false := beq_eq_false_iff_ne.2 (by rw [hmm]; exact hm)
  have hne2 : (m != 0) = true := by rw [bne_iff_ne]; rw [hmm]; exact hm
  have HM := hid (fun W => rWrong_any p q r now W)
  rw [← hmm] at HM ⊢
  clear hmm hm
  go_enter Try.func26, Try.ntmps26
  go_wp2_with (go_at_call 41; refine (HM.out _).mono ?_; rintro e w1 ⟨rfl, hC1⟩)
  go_ret2
  exact ⟨rfl, ((Chg.refl [] w).alloc _).trans hC1⟩

set_option maxHeartbeats 2000000 in
set_option maxRecDepth 100000 in
theorem rLevel_ok (p q r s now : Nat) (w : World) (hm : mayV p q r [now] = 0) (hs : s < 18446744073709551616) :
    Calls Try.prog 26 #[.agg #[.int .u64 (p : Int), .int .u64 (q : Int), .int .u64 (r : Int)], .int .u64 (s : Int), .int .u64 (now : Int)] w fun e w' => e = .returned (.tuple #[.int .u64 (levelN p q r s now : Int), .int .i64 0]) ∧ Chg [] w w' := by
  obtain ⟨hok, hnow⟩ := may_one_ok hm
  have HM := hid (fun W => rWrong_any p q r now W)
  rw [hm] at HM
  obtain ⟨sb1, sb2, sb3⟩ := stand_bound hok.2.1 hnow hs
  have hq : q < 18446744073709551616 := by have := hok.2.2.2.1; omega
  have hr : r < 18446744073709551616 := by have := hok.2.2.2.2.2; omega
  have hW : 18446744073709551616 < W2 := by unfold W2; omega
  have HA := hid (rAt_W p q r s now hok.2.1 hnow hs)
  have HTR := hid (fun W => (rTimes_any r q W hr hq).mono fun _ _ h => wide_det h)
  have HAB0 := hid (rAbove_W (aheadV p s now) (r * q))
  have hrqb : r * q ≤ 68719476736 := Nat.mul_le_mul hok.2.2.2.2.2 hok.2.2.2.1
  have hmi := fun h : aheadV p s now ≤ r * q => cls_of (fun W => (rMinus_W (r * q) (aheadV p s now) (by omega) (by omega) h W).mono fun _ _ h => wide_det h)
  have HMI := hid hmi
  have HOV := hid (wide_cls (fun W => rOver_any (r * q - aheadV p s now) q W (by omega) hok.2.2.1 hq))
  have HLV := hid (show levelN p q r s now = if r * q < aheadV p s now then 0 else (r * q - aheadV p s now) / q from rfl)
  have HLO := hid (show loW ((r * q - aheadV p s now) / q) = (r * q - aheadV p s now) / q from loW_of (Nat.lt_of_le_of_lt (Nat.div_le_self _ _) (by omega)))
  clear hm hok sb1 sb2 sb3 hq hr hrqb hmi hW
  have B0 : Blk (w.alloc (.cells #[.int .u64 (p : Int), .int .u64 (q : Int), .int .u64 (r : Int)] 24)) w.heap.size 24 [.int .u64 (p : Int), .int .u64 (q : Int), .int .u64 (r : Int)] := Blk.new w 24 #[.int .u64 (p : Int), .int .u64 (q : Int), .int .u64 (r : Int)]
  obtain ⟨th, hth⟩ : ∃ x : Nat, x = hiW (standV p s now) := ⟨_, rfl⟩
  obtain ⟨tl, htl⟩ : ∃ x : Nat, x = loW (standV p s now) := ⟨_, rfl⟩
  obtain ⟨A, hA⟩ : ∃ x : Nat, x = aheadV p s now := ⟨_, rfl⟩
  obtain ⟨RQ, hRQ⟩ : ∃ x : Nat, x = r * q := ⟨_, rfl⟩
  rw [← hth, ← htl, ← hA] at HA
  rw [← hRQ] at HTR
  rw [← hRQ, ← hA] at HAB0 HMI HOV HLO HLV
  clear hth htl hA hRQ
  have hab := HAB0.out
  obtain ⟨c, hc⟩ : ∃ c, c = decide (RQ < A) := ⟨_, rfl⟩
  rw [← hc] at hab
  have HAB := hid hab
  have HC := hid hc
  clear hab hc HAB0
  cases c
  all_goals
    go_enter Try.func26, Try.ntmps26
    go_wp2_with (first
      | (go_at_call 41; refine (HM.out _).mono ?_; rintro e w1 ⟨rfl, hC1⟩; have B1 := B0.chg hC1 (by simp); have b10 := B1.cell_of (i := 0) rfl; have b11 := B1.cell_of (i := 1) rfl; have b12 := B1.cell_of (i := 2) rfl)
      | (go_at_call 42; refine (HA.out _).mono ?_; rintro e w2 ⟨rfl, hC2⟩; have B2 := B1.chg hC2 (by simp); have b20 := B2.cell_of (i := 0) rfl; have b21 := B2.cell_of (i := 1) rfl; have b22 := B2.cell_of (i := 2) rfl; have z2 := B2.lt)
      | (go_at_call 45; refine (HTR.out _).mono ?_; rintro e w3 ⟨rfl, hC3⟩;
         have B3 := ((B2.alloc (.cells #[.int .u64 (th : Int), .int .u64 (tl : Int)] 71)).alloc (.cells #[.int .u64 (hiW A : Int), .int .u64 (loW A : Int)] 71)).chg hC3 (by simp);
         have A3 := (Blk.new_at (w2.alloc (.cells #[.int .u64 (th : Int), .int .u64 (tl : Int)] 71)) 71 #[.int .u64 (hiW A : Int), .int .u64 (loW A : Int)] (g := w2.heap.size + 1) (by simp)).chg hC3 (by simp);
         have a30 := A3.cell_of (i := 0) rfl; have a31 := A3.cell_of (i := 1) rfl; have z3 := A3.lt)
      | (go_at_call 43; refine (HAB.out _).mono ?_; rintro e w4 ⟨rfl, hC4⟩;
         have B4 := (B3.alloc (.cells #[.int .u64 (hiW RQ : Int), .int .u64 (loW RQ : Int)] 71)).chg hC4 (by simp);
         have A4 := (A3.alloc (.cells #[.int .u64 (hiW RQ : Int), .int .u64 (loW RQ : Int)] 71)).chg hC4 (by simp);
         have R4 := (Blk.new w3 71 #[.int .u64 (hiW RQ : Int), .int .u64 (loW RQ : Int)]).chg hC4 (by simp)))
  · have hl : A ≤ RQ := by have := HC.out; simp at this; omega
    have HLV' := hid (show levelN p q r s now = loW ((RQ - A) / q) by rw [HLV.out, if_neg (by omega), HLO.out])
    have HMI' := hid (HMI.out hl)
    clear hl
    have b41 := cell_regrown (B4.cell_of (i := 1) rfl)
    have a40 := cell_regrown (A4.cell_of (i := 0) rfl)
    have a41 := cell_regrown (A4.cell_of (i := 1) rfl)
    have r40 := cell_regrown (R4.cell_of (i := 0) rfl)
    have r41 := cell_regrown (R4.cell_of (i := 1) rfl)
    have fl := field_lo
    go_wp2
    refine wp_region_quiet_below (by kernel_rfl) (by kernel_rfl) ?_
    repeat (first | go_big_quiet_step ((first | (go_at_call 47; with_reducible exact HMI'.out _ _ _) | (go_at_call 46; with_reducible exact HOV.out _ _ _))) | quiet_step ((first | (go_at_call 47; with_reducible exact HMI'.out _ _ _) | (go_at_call 46; with_reducible exact HOV.out _ _ _))))
    refine wpQuiet_nil ?_
    intro w5 hw5
    have C5 := chg_cls hw5
    clear hw5
    go_wp2
    go_ret2
    exact ⟨by rw [HLV'.out]; rfl, (((((((((Chg.refl [] w).alloc _).trans hC1).trans hC2).alloc _).alloc _).trans hC3).alloc _).trans hC4).trans C5⟩
  · have hl := HC.out
    have HLV' := hid (show levelN p q r s now = 0 by rw [HLV.out, if_pos (by simpa using hl)])
    clear hl
    go_wp2
    go_ret2
    exact ⟨by rw [HLV'.out]; rfl, ((((((((Chg.refl [] w).alloc _).trans hC1).trans hC2).alloc _).alloc _).trans hC3).alloc _).trans hC4⟩

theorem rLevel_any (p q r s now : Nat) (w : World) (hs : s < 18446744073709551616) :
    Calls Try.prog 26 #[.agg #[.int .u64 (p : Int), .int .u64 (q : Int), .int .u64 (r : Int)], .int .u64 (s : Int), .int .u64 (now : Int)] w fun e w' => e = .returned (.tuple #[.int .u64 ((levelV p q r s now).1 : Int), .int .i64 (levelV p q r s now).2]) ∧ Chg [] w w' := by
  by_cases hm : mayV p q r [now] = 0
  · rw [show levelV p q r s now = (levelN p q r s now, 0) by unfold levelV; rw [if_pos hm]]
    exact rLevel_ok p q r s now w hm hs
  · rw [show levelV p q r s now = (0, mayV p q r [now]) by unfold levelV; rw [if_neg hm]]
    exact rLevel_no p q r s now w hm
end Go.Proofs.Ythhddmamlpnjpaa
