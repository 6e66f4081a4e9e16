/- The reference's full and Fits, walked. -/
import Derived.Test.YthhddmamlpnjpaaBktRB
import Derived.Test.YthhddmamlpnjpaaBktT
namespace Go.Proofs.Ythhddmamlpnjpaa
open Go.RowKit Go.Lib Go.Sort
attribute [local go_sem ↓] Go.wp_at_zero Go.wp_at_succ

/-- An ask's cells in a later world. -/
theorem AskAt.at {w wr : World} {A : Option Addr} {L : List (Nat × Nat)} (h : AskAt w A L) (hc : Chg [] w wr) {i : Nat} (hi : i < L.length) :
    ∃ y b o, L[i]? = some (tkV L i, y) ∧ A = some ⟨b, o, none⟩ ∧ b < w.heap.size ∧ y < 18446744073709551616 ∧ wr.cell? ⟨b, o + i * 2, none⟩ = some (.int .u64 (tkV L i : Int)) ∧ wr.cell? ⟨b, o + i * 2 + 1, none⟩ = some (.int .u64 (y : Int)) := by
  obtain ⟨x, y, hxy⟩ := get_ask L i hi
  obtain ⟨h1, h2, b, o, hA, hb, c0, c1⟩ := h i x y hxy
  rw [tkV_of hxy]
  exact ⟨y, b, o, hxy, hA, hb, h2, (hc.cell (p := ⟨b, o + i * 2, none⟩) hb (by simp)).trans c0, (hc.cell (p := ⟨b, o + i * 2 + 1, none⟩) hb (by simp)).trans c1⟩

theorem strV_lt (l : List (Nat × Nat)) (a b : Nat) (h : ∀ x ∈ l, x.2 < 18446744073709551616) (hl : l.length ≤ 4096) : strV l a b ≤ 75557863725914323419136 := by
  have h1 : strV l a b ≤ l.length * 18446744073709551615 := by
    clear hl
    induction l with
    | nil => exact Nat.zero_le _
    | cons x l ih =>
      have h2 := h x (by simp)
      have h3 := ih (fun y hy => h y (by simp [hy]))
      rw [strV_cons, List.length_cons, Nat.add_mul, Nat.one_mul]
      split <;> omega
  have h2 : l.length * 18446744073709551615 ≤ 4096 * 18446744073709551615 := Nat.mul_le_mul_right _ hl
  omega

def RFullPost (p q r : Nat) (L : List (Nat × Nat)) (i : Nat) (w : World) (e : Ending) (w' : World) : Prop := ∃ bb : Bool, e = .returned (.bool bb) ∧ (bb = true ↔ FullRef p q r L i) ∧ Chg [] w w'
def SumAt (W : World) (g t : Nat) : Prop := Blk W g 71 [.int .u64 (hiW t : Int), .int .u64 (loW t : Int)]

set_option maxHeartbeats 4000000 in
set_option maxRecDepth 100000 in
theorem rFull_any (p q r : Nat) (A : Option Addr) (n c i : Nat) (L : List (Nat × Nat)) (w : World) (hA : AskAt w A L) (hl : L.length = n) (hn : n ≤ 4096) (hok : OkB p q r) (hts : ∀ z ∈ L, z.1 ≤ 1099511627776) (hi : i < n) :
    Calls Try.prog 36 #[.agg #[.int .u64 (p : Int), .int .u64 (q : Int), .int .u64 (r : Int)], .slice A n c, .int .i64 i] w (RFullPost p q r L i w) := by
  have B0 : BoxB (w.alloc (.cells #[.int .u64 (p : Int), .int .u64 (q : Int), .int .u64 (r : Int)] 24)) w.heap.size p q r := Blk.new w 24 #[.int .u64 (p : Int), .int .u64 (q : Int), .int .u64 (r : Int)]
  have C0 := hid ((Chg.refl [] w).alloc (.cells #[.int .u64 (p : Int), .int .u64 (q : Int), .int .u64 (r : Int)] 24))
  have HOK := hid hok
  have HA := hid hA
  have HL := hid hl
  have HTS := hid (show ∀ j, tkV L j ≤ 1099511627776 by
    intro j
    unfold tkV
    cases hj : L[j]? with
    | none => simp
    | some z => exact hts z (List.mem_of_getElem? hj))
  have HW : ∀ z ∈ L, z.2 < 18446744073709551616 := by
    intro z hz
    obtain ⟨j, hj, rfl⟩ := List.mem_iff_getElem.1 hz
    exact (hA j _ _ (List.getElem?_eq_getElem hj)).2.1
  have HW := hid HW
  have hil : i < L.length := by rw [hl]; exact hi
  have HIL := hid hil
  have n1 : (n : Int) ≤ 4096 := by omega
  have i1 : (i : Int) < (n : Int) := by omega
  have i0 : (0 : Int) ≤ (i : Int) := by omega
  obtain ⟨z, hz⟩ : ∃ z, z = tkV L i := ⟨_, rfl⟩
  have HZ := hid hz
  obtain ⟨yi, b, o, hxi, hAe, hbl, hyi, ci0, ci1⟩ := hA.at (Chg.refl [] w) hil
  subst hAe
  rw [← hz] at ci0
  have HI0 := hid (And.intro ci0 hbl)
  clear hok hl hts hil hxi hyi ci0 ci1 hz
  go_enter Try.func36, Try.ntmps36
  go_wp2
  go_loopw [7] (fun v wr => ∃ f : Nat, f ≤ i + 1 ∧ v = .int .i64 f ∧ Hid (∀ f' t, f' < f → t ≤ i → ¬ BadFT p q r L i f' t) ∧ Chg [] w wr ∧ BoxB wr w.heap.size p q r) (fun v _ => i + 1 - (intOf v).toNat)
  case atStart => exact ⟨0, by omega, rfl, hid (fun f' t h => absurd h (Nat.not_lt_zero _)), C0.out, B0⟩
  case round =>
    obtain ⟨f, hf, rfl, hbad, hC, hB⟩ := hrel
    by_cases hfi : (f : Int) ≤ (i : Int)
    · obtain ⟨yf, b', o', hxf, hAe, _, _, cf0, _⟩ := HA.out.at hC (show f < L.length by have := HIL.out; omega)
      injection hAe with hAe
      injection hAe with hb' ho' _
      subst hb'; subst ho'
      obtain ⟨x, hx⟩ : ∃ x, x = tkV L f := ⟨_, rfl⟩
      have HX := hid hx
      have f1 : (f : Int) < (n : Int) := by omega
      have f0 : (0 : Int) ≤ (f : Int) := by omega
      clear hxf cf0 hx
      obtain ⟨wf, hwf⟩ : ∃ wf : World, wf = wr := ⟨_, rfl⟩
      rw [← hwf] at hC hB
      rw [← hwf]
      clear hwf
      go_wp2
      go_loopw [8] (fun v wr => ∃ t : Nat, t ≤ i + 1 ∧ v = .int .i64 t ∧ Hid (∀ t', t' < t → ¬ BadFT p q r L i f t') ∧ Chg [] w wr ∧ BoxB wr w.heap.size p q r) (fun v _ => i + 1 - (intOf v).toNat)
      case atStart => exact ⟨0, by omega, rfl, hid (fun t' h => absurd h (Nat.not_lt_zero _)), hC, hB⟩
      case round =>
        obtain ⟨t, ht, rfl, hbt, hCt, hBt⟩ := hrel
        by_cases hti : (t : Int) ≤ (i : Int)
        · obtain ⟨yt, b', o', hxt, hAe, _, _, ct0, _⟩ := HA.out.at hCt (show t < L.length by have := HIL.out; omega)
          injection hAe with hAe
          injection hAe with hb' ho' _
          subst hb'; subst ho'
          obtain ⟨yf, b', o', _, hAe, _, _, cf0, _⟩ := HA.out.at hCt (show f < L.length by have := HIL.out; omega)
          injection hAe with hAe
          injection hAe with hb' ho' _
          subst hb'; subst ho'
          obtain ⟨y, hy⟩ : ∃ y, y = tkV L t := ⟨_, rfl⟩
          rw [← hy] at ct0
          rw [← HX.out] at cf0
          have HY := hid hy
          have t1 : (t : Int) < (n : Int) := by omega
          have t0 : (0 : Int) ≤ (t : Int) := by omega
          clear hxt hy
          by_cases h1 : (x : Int) ≤ (z : Int)
          · by_cases h2 : (z : Int) ≤ (y : Int)
            · go_wp2
              go_quiet (fail)
              have CQ := hCt.drewN nq
              have BQ := hBt.chg ((Chg.refl [] wr).drewN nq)
              have ciQ := (CQ.cell (p := ⟨b, o + i * 2, none⟩) HI0.out.2 (by simp)).trans HI0.out.1
              obtain ⟨wq, hwq⟩ : ∃ wq : World, wq = wr.drewN nq := ⟨_, rfl⟩
              rw [← hwq] at CQ BQ ciQ
              rw [← hwq]
              clear hwq ct0 cf0
              have hgq : w.heap.size < wq.heap.size := Blk.lt BQ
              have S0 : SumAt (wq.alloc (.cells #[.int .u64 0, .int .u64 0] 71)) wq.heap.size 0 := Blk.new wq 71 #[.int .u64 0, .int .u64 0]
              have CS := hid (CQ.alloc (.cells #[.int .u64 0, .int .u64 0] 71))
              have BS := BoxB.chg BQ ((Chg.refl [] wq).alloc (.cells #[.int .u64 0, .int .u64 0] 71))
              have HGQ := hid (show w.heap.size ≤ wq.heap.size from CQ.size)
              have d1 : decide (z < x) = false := decide_eq_false (by omega)
              have d2 : decide (y < z) = false := decide_eq_false (by omega)
              go_wp2
              clear ciQ CQ BQ
              go_loopw [12] (fun v wr => ∃ k sm : Nat, k ≤ i + 1 ∧ v = .int .i64 k ∧ Hid (sm = strV (L.take k) x y ∧ sm ≤ 75557863725914323419136) ∧ SumAt wr wq.heap.size sm ∧ Chg [] w wr ∧ BoxB wr w.heap.size p q r) (fun v _ => i + 1 - (intOf v).toNat)
              case atStart => exact ⟨0, 0, by omega, rfl, hid ⟨rfl, by omega⟩, S0, CS.out, BS⟩
              case round =>
                obtain ⟨k, sm, hk, rfl, hsm, hS, hCk, hBk⟩ := hrel
                by_cases hki : (k : Int) ≤ (i : Int)
                · obtain ⟨u, b', o', hxk, hAe, _, hu, ck0, ck1⟩ := HA.out.at hCk (show k < L.length by have := HIL.out; omega)
                  injection hAe with hAe
                  injection hAe with hb' ho' _
                  subst hb'; subst ho'
                  obtain ⟨v, hv⟩ : ∃ v, v = tkV L k := ⟨_, rfl⟩
                  rw [← hv] at ck0 hxk
                  have k1 : (k : Int) < (n : Int) := by omega
                  have k0 : (0 : Int) ≤ (k : Int) := by omega
                  have hsn := strV_snoc L k v u x y hxk
                  have hbd := strV_lt (L.take (k + 1)) x y (fun z hz => HW.out z (List.mem_of_mem_take hz)) (by rw [List.length_take, HL.out]; omega)
                  have HSN := hid (And.intro hsn hbd)
                  clear hv hxk hsn hbd
                  by_cases hin1 : (x : Int) ≤ (v : Int)
                  · by_cases hin2 : (v : Int) ≤ (y : Int)
                    · have hsum : sm + u ≤ 75557863725914323419136 := by
                        have e := HSN.out
                        rw [if_pos ⟨by omega, by omega⟩, ← hsm.out.1] at e
                        omega
                      have HWd := hid (cls_of (rWord_W u hu))
                      have HPL := hid (cls_of (rPlus_D sm u (by unfold W2; omega) (by unfold W2; omega) (by unfold W2; omega)))
                      have HSM := hid hsum
                      clear hsum
                      go_wp2
                      have s0 := cell_regrown (Blk.cell_of hS (i := 0) rfl)
                      have s1 := cell_regrown (Blk.cell_of hS (i := 1) rfl)
                      have ck1r := cell_regrown ck1
                      refine wp_region_below_tail 8 (by kernel_rfl) (by kernel_rfl) ?_
                      simp only [List.take_succ_cons, List.take_zero, List.drop_succ_cons, List.drop_zero]
                      repeat (first | go_big_quiet_step ((first | (go_at_call 51; with_reducible exact HWd.out _ _ _) | (go_at_call 44; with_reducible exact HPL.out _ _ _))) | quiet_step ((first | (go_at_call 51; with_reducible exact HWd.out _ _ _) | (go_at_call 44; with_reducible exact HPL.out _ _ _))))
                      refine wpQuiet_nil ?_
                      intro w7 hw7
                      have C7 := chg_cls hw7
                      clear hw7 s0 s1 ck1r
                      have S7 := Blk.chg hS C7 (by simp)
                      have r70 := S7.cell_of (i := 0) rfl
                      have r71 := S7.cell_of (i := 1) rfl
                      have f70 := S7.frozen 0
                      have f71 := S7.frozen 1
                      have zz := HGQ.out
                      go_wp2
                      go_roundw
                      case measure => simp [intOf]; omega
                      case rel =>
                        have e := HSN.out
                        rw [if_pos ⟨by omega, by omega⟩, ← hsm.out.1] at e
                        refine ⟨k + 1, sm + u, by omega, by go_num, hid ⟨by rw [e.1], HSM.out⟩, (S7.set_ 0 _).set_ 1 _, (hCk.trans C7).set2 zz _ _, ?_⟩
                        exact (Blk.far (hBk.chg C7) (show w.heap.size ≠ _ by have := hgq; simp; omega) _).far (show w.heap.size ≠ _ by have := hgq; simp; omega) _
                    · go_wp2
                      go_roundw
                      case measure => simp [intOf]; omega
                      case rel =>
                        have e := HSN.out
                        rw [if_neg (by omega), ← hsm.out.1] at e
                        exact ⟨k + 1, sm, by omega, by go_num, hid ⟨by rw [e.1]; rfl, hsm.out.2⟩, hS, hCk, hBk⟩
                  · go_wp2
                    go_roundw
                    case measure => simp [intOf]; omega
                    case rel =>
                      have e := HSN.out
                      rw [if_neg (by omega), ← hsm.out.1] at e
                      exact ⟨k + 1, sm, by omega, by go_num, hid ⟨by rw [e.1]; rfl, hsm.out.2⟩, hS, hCk, hBk⟩
                · have hki' : k = i + 1 := by omega
                  obtain ⟨d, hd⟩ : ∃ d, d = y - x := ⟨_, rfl⟩
                  have q1 : (y : Int) - (x : Int) = (d : Int) := by omega
                  have hyt := HTS.out t
                  rw [← HY.out] at hyt
                  have dd0 : (d : Int) ≤ 1099511627776 := by omega
                  obtain ⟨mo, hmo⟩ : ∃ u, u = mostN p q r d := ⟨_, rfl⟩
                  have HMO := hid (fun W => rMost_ok p q r d W (may_le HOK.out (by omega)))
                  rw [← hmo] at HMO
                  have hmob : mo ≤ 72057594038976512 := by
                    rw [hmo]
                    unfold mostN
                    have e1 : d * p ≤ 1099511627776 * 65536 := Nat.mul_le_mul (by omega) HOK.out.2.1
                    have e2 : d * p / q ≤ d * p := Nat.div_le_self _ _
                    have e3 := HOK.out.2.2.2.2.2
                    exact Nat.le_trans (Nat.add_le_add e3 (Nat.le_trans e2 e1)) (by omega)
                  have HWd := hid (cls_of (rWord_W mo (by omega)))
                  have hab := cls_of (rAbove_W sm mo)
                  obtain ⟨cc, hcc⟩ : ∃ cc, cc = decide (mo < sm) := ⟨_, rfl⟩
                  rw [← hcc] at hab
                  have HAB := hid hab
                  have hbad2 : cc = true ↔ BadFT p q r L i f t := by
                    unfold BadFT
                    rw [hcc, decide_eq_true_eq, ← HX.out, ← HY.out, ← HZ.out, ← hd, ← hmo]
                    have e := hsm.out.1
                    rw [hki'] at e
                    rw [← e]
                    constructor
                    · intro h; exact ⟨by omega, by omega, h⟩
                    · intro h; exact h.2.2
                  have HBD := hid hbad2
                  have b0 := hBk.cells.1
                  have b1 := hBk.cells.2.1
                  have b2 := hBk.cells.2.2.1
                  clear hd hmo hab hcc hbad2 hki' hyt
                  go_wp2_with (go_at_call 29; refine (HMO.out _).mono ?_; rintro e w8 ⟨rfl, hC8⟩; have S8 := Blk.chg hS hC8 (by simp); have hB8 := hBk.chg hC8; have K8 := hid (hCk.trans hC8); clear hC8)
                  have s0 := cell_regrown (Blk.cell_of S8 (i := 0) rfl)
                  have s1 := cell_regrown (Blk.cell_of S8 (i := 1) rfl)
                  refine wp_region_quiet_below (by kernel_rfl) (by kernel_rfl) ?_
                  repeat (first | go_big_quiet_step ((first | (go_at_call 51; with_reducible exact HWd.out _ _ _) | (go_at_call 43; with_reducible exact HAB.out _ _ _))) | quiet_step ((first | (go_at_call 51; with_reducible exact HWd.out _ _ _) | (go_at_call 43; with_reducible exact HAB.out _ _ _))))
                  refine wpQuiet_nil ?_
                  intro w9 hw9
                  have C9 := chg_cls hw9
                  have hB9 := hB8.chg C9
                  have K9 := hid (K8.out.trans C9)
                  clear hw9 s0 s1 C9
                  cases cc
                  · go_wp2
                    go_roundw
                    case measure => simp [intOf]; omega
                    case rel =>
                      refine ⟨t + 1, by omega, by go_num, hid ?_, K9.out, hB9⟩
                      intro t' h
                      rcases Nat.lt_or_ge t' t with h' | h'
                      · exact hbt.out t' h'
                      · rw [show t' = t by omega]; exact fun h => absurd (HBD.out.2 h) (by simp)
                  · go_wp2
                    go_ret
                    exact ⟨true, rfl, by simp only [true_iff]; exact ⟨f, t, by omega, by omega, HBD.out.1 (by simp)⟩, K9.out⟩
            · have hno := hid (show ¬ BadFT p q r L i f t from fun h => by have := h.2.1; rw [← HY.out, ← HZ.out] at this; omega)
              have h2' : (y : Int) < (z : Int) := by omega
              clear h2
              go_wp2
              go_quiet (fail)
              have ci := (hCt.drewN nq).cell (p := ⟨b, o + i * 2, none⟩) HI0.out.2 (by simp)
              have ci0 := ci.trans HI0.out.1
              clear ci
              go_wp2
              go_roundw
              case measure => simp [intOf]; omega
              case rel =>
                refine ⟨t + 1, by omega, by go_num, hid ?_, hCt.drewN _, hBt.chg ((Chg.refl [] wr).drewN _)⟩
                intro t' h
                rcases Nat.lt_or_ge t' t with h' | h'
                · exact hbt.out t' h'
                · rw [show t' = t by omega]; exact hno.out
          · have hno := hid (show ¬ BadFT p q r L i f t from fun h => by have := h.1; rw [← HX.out, ← HZ.out] at this; omega)
            have h1' : (z : Int) < (x : Int) := by omega
            clear h1
            go_wp2
            go_quiet (fail)
            have ci := (hCt.drewN nq).cell (p := ⟨b, o + i * 2, none⟩) HI0.out.2 (by simp)
            have ci0 := ci.trans HI0.out.1
            clear ci
            go_wp2
            go_roundw
            case measure => simp [intOf]; omega
            case rel =>
              refine ⟨t + 1, by omega, by go_num, hid ?_, hCt.drewN _, hBt.chg ((Chg.refl [] wr).drewN _)⟩
              intro t' h
              rcases Nat.lt_or_ge t' t with h' | h'
              · exact hbt.out t' h'
              · rw [show t' = t by omega]; exact hno.out
        · go_wp2
          go_roundw
          case measure => simp [intOf]; omega
          case rel =>
            refine ⟨f + 1, by omega, by go_num, hid ?_, hCt, hBt⟩
            intro f' t' h ht'
            rcases Nat.lt_or_ge f' f with h' | h'
            · exact hbad.out f' t' h' ht'
            · rw [show f' = f by omega]; exact hbt.out t' (by omega)
    · have hno := hid (show ¬ FullRef p q r L i from fun ⟨f', t', hf', ht', h⟩ => hbad.out f' t' (by omega) ht' h)
      go_wp2
      go_ret
      exact ⟨false, rfl, by simp [hno.out], hC⟩
end Go.Proofs.Ythhddmamlpnjpaa
