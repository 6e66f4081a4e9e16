/- The reference: Width, Bit, With, CheckAddr, walked. -/
import Derived.Test.YtgpiapmbbnngpaaGreatDoorPfxPl
import Derived.Test.YtgpiapmbbnngpaaGreatDoorPfxWa
import Derived.Deep.CutRange
import Derived.Test.YtgpiapmbbnngpaaGreatDoorStep
import Derived.Test.YtgpiapmbbnngpaaGreatDoorPfxWg
import Derived.Test.YtgpiapmbbnngpaaGreatDoorPfxK
namespace Go.Proofs.YtgpiapmbbnngpaaGreatDoor
open Go.RowKit Go.Lib Go.Sort

set_option maxHeartbeats 1000000 in
theorem width3_N (v : Bool) (n : Nat) (w : World) :
    Calls Tryz.prog 49 #[.agg (adr v n).toArray] w fun e w' => e = .returned (.int .i64 (wid v : Nat)) ∧ Chg [] w w' := by
  have b0 := Blk.new w 24 (adr v n).toArray
  have c0 := b0.cell_of (i := 0) (v := .bool v) rfl
  have fin := hid ((Chg.refl [] w).alloc (.cells (adr v n).toArray 24))
  cases v
  · go_enter Tryz.func49, Tryz.ntmps49
    go_wp2
    go_ret
    exact ⟨rfl, fin.out⟩
  · go_enter Tryz.func49, Tryz.ntmps49
    go_wp2
    go_ret
    exact ⟨rfl, fin.out⟩
theorem bit_val (n i : Nat) (hi : i < 128) : ((((byteAt n (i / 8) : Nat) : Int) / 2 ^ (7 - i % 8)).tmod 2 == 1) = bitN n i := by
  rw [← bit_byte n i hi]
  have e : (((byteAt n (i / 8) : Nat) : Int) / 2 ^ (7 - i % 8)) = ((byteAt n (i / 8) / 2 ^ (7 - i % 8) : Nat) : Int) := by
    rw [Int.natCast_ediv, Int.natCast_pow]; rfl
  rw [e]
  generalize byteAt n (i / 8) / 2 ^ (7 - i % 8) = q
  rw [Int.tmod_eq_emod_of_nonneg (by omega), Bool.eq_iff_iff, beq_iff_eq, decide_eq_true_eq]
  omega
theorem bit_N (v : Bool) (n i : Nat) (hi : i < 128) (w : World) :
    Calls Tryz.prog 61 #[.agg (adr v n).toArray, .int .i64 i] w fun e w' => e = .returned (.bool (bitN n i)) ∧ Chg [] w w' := by
  have b0 := Blk.new w 24 (adr v n).toArray
  have c0 := b0.cell_of (adrV_byte v (byteAt n) (i / 8) (by omega))
  have fin := hid ((Chg.refl [] w).alloc (.cells (adr v n).toArray 24))
  have hb := hid (bit_val n i hi)
  have i0 : (0 : Int) ≤ (i : Int) := by omega
  have i1 : (i : Int) < 128 := by omega
  have i2 : (0 : Int) ≤ (i : Int) / 8 := by omega
  have i3 : (i : Int) / 8 < 16 := by omega
  go_enter Tryz.func61, Tryz.ntmps61
  go_wp2
  go_ret
  exact ⟨by rw [← hb.out]; rfl, fin.out⟩

theorem and_bit_all : ∀ (x : Fin 256) (s : Fin 8), (bits BinOp.and IntKind.u8 (x.val : Int) (2 ^ s.val % 256) != 0) = x.val.testBit s.val := by decide +kernel
theorem sub_wrap_all : ∀ (x : Fin 256) (s : Fin 8), x.val.testBit s.val = true → ((x.val : Int) - 2 ^ s.val) % 256 = ((x.val - 2 ^ s.val : Nat) : Int) := by decide +kernel
theorem or_bit_all : ∀ (x : Fin 256) (s : Fin 8), bits BinOp.or IntKind.u8 (x.val : Int) (2 ^ s.val % 256) = ((x.val ||| 128 / 2 ^ (7 - s.val) : Nat) : Int) := by decide +kernel
theorem byte_bit (n i : Nat) (hi : i < 128) : (byteAt n (i / 8)).testBit (7 - i % 8) = bitN n i := by
  rw [byteAt_bit, decide_eq_true (by omega), Bool.true_and]
  unfold bitN
  congr 1
  omega
set_option maxRecDepth 100000 in
set_option maxHeartbeats 1000000 in
theorem with0_N (v : Bool) (n i : Nat) (hi : i < 128) (w : World) :
    Calls Tryz.prog 62 #[.agg (adr v n).toArray, .int .i64 i, .bool false] w fun e w' => e = .returned (.agg (adr v (clrN n i)).toArray) ∧ Chg [] w w' := by
  have c0 : (adr v n)[1 + i / 8]? = some (.int .u8 (byteAt n (i / 8) : Int)) := adrV_byte v (byteAt n) (i / 8) (by omega)
  have i0 : (0 : Int) ≤ (i : Int) := by omega
  have i1 : (i : Int) < 128 := by omega
  have i2 : (0 : Int) ≤ (i : Int) / 8 := by omega
  have i3 : (i : Int) / 8 < 16 := by omega
  have bt := byte_bit n i hi
  have hx : (bits BinOp.and IntKind.u8 ((byteAt n (i / 8) : Nat) : Int) (2 ^ (7 - i % 8) % 256) != 0) = bitN n i := by
    rw [← bt]; exact and_bit_all ⟨_, byteAt_lt n (i / 8)⟩ ⟨7 - i % 8, by omega⟩
  cases hb : bitN n i with
  | true =>
    rw [hb] at hx bt
    have e1 := sub_wrap_all ⟨_, byteAt_lt n (i / 8)⟩ ⟨7 - i % 8, by omega⟩ bt
    simp only at e1
    have e2 : byteAt (clrN n i) (i / 8) = byteAt n (i / 8) - 2 ^ (7 - i % 8) := by
      rw [clr_byte n i (i / 8) hi (by omega), if_pos rfl, hb, if_pos rfl]
    rw [← e2] at e1
    have hset : (adr v n).set (1 + i / 8) (.int .u8 ((byteAt (clrN n i) (i / 8) : Nat) : Int)) = adr v (clrN n i) :=
      adrV_set v (byteAt n) (byteAt (clrN n i)) (i / 8) _ rfl (fun j hj hne => by rw [clr_byte n i j hi hj, if_neg hne])
    have E1 := hid e1
    have HT := hid hset
    clear bt hb e1 e2 hset
    go_enter Tryz.func62, Tryz.ntmps62
    go_upto_region 6 with fail
    rw [E1.out, HT.out]
    obtain ⟨w1, hw1⟩ : ∃ w1, w1 = (w.alloc (.cells (adr v (clrN n i)).toArray 24)).alloc (.cells zadr 24) := ⟨_, rfl⟩
    have HS : Blk w1 w.heap.size 24 (adr v (clrN n i)) := by rw [hw1]; exact (Blk.new w 24 (adr v (clrN n i)).toArray).alloc _
    have HR : Blk w1 (w.heap.size + 1) 24 zadr.toList := by rw [hw1]; exact Blk.new_at _ 24 zadr (by simp)
    have HC : Chg [] w w1 := by rw [hw1]; exact ((Chg.refl [] w).alloc _).alloc _
    unfold zadr at hw1
    rw [← hw1]
    clear hw1 c0 hx E1 HT
    go_wp2_with (first | (refine ld24 rfl _ rfl w.heap.size rfl 24 v _ HS ?_) | (refine st24 rfl _ _ rfl (w.heap.size + 1) v _ rfl rfl 24 _ HR rfl ?_))
    refine bodyPost_ret (rs24 rfl _ _ (w.heap.size + 1) v (byteAt (clrN n i)) 24 rfl ?_) rfl ⟨rfl, HC.setRow (.inr (by omega)) _⟩
    exact HR.row (adr v (clrN n i))
  | false =>
    rw [hb] at hx
    have e : clrN n i = n := by unfold clrN; rw [hb]; simp
    rw [e]
    clear e bt hb
    go_enter Tryz.func62, Tryz.ntmps62
    go_upto_region 6 with fail
    obtain ⟨w1, hw1⟩ : ∃ w1, w1 = (w.alloc (.cells (adr v n).toArray 24)).alloc (.cells zadr 24) := ⟨_, rfl⟩
    have HS : Blk w1 w.heap.size 24 (adr v n) := by rw [hw1]; exact (Blk.new w 24 (adr v n).toArray).alloc _
    have HR : Blk w1 (w.heap.size + 1) 24 zadr.toList := by rw [hw1]; exact Blk.new_at _ 24 zadr (by simp)
    have HC : Chg [] w w1 := by rw [hw1]; exact ((Chg.refl [] w).alloc _).alloc _
    unfold zadr at hw1
    rw [← hw1]
    clear hw1 c0 hx
    go_wp2_with (first | (refine ld24 rfl _ rfl w.heap.size rfl 24 v _ HS ?_) | (refine st24 rfl _ _ rfl (w.heap.size + 1) v _ rfl rfl 24 _ HR rfl ?_))
    refine bodyPost_ret (rs24 rfl _ _ (w.heap.size + 1) v (byteAt n) 24 rfl ?_) rfl ⟨rfl, HC.setRow (.inr (by omega)) _⟩
    exact HR.row (adr v n)
set_option maxRecDepth 100000 in
set_option maxHeartbeats 1000000 in
theorem with1_N (v : Bool) (n i : Nat) (hi : i < 128) (w : World) :
    Calls Tryz.prog 62 #[.agg (adr v n).toArray, .int .i64 i, .bool true] w fun e w' => e = .returned (.agg (adr v (highN n i)).toArray) ∧ Chg [] w w' := by
  have c0 : (adr v n)[1 + i / 8]? = some (.int .u8 (byteAt n (i / 8) : Int)) := adrV_byte v (byteAt n) (i / 8) (by omega)
  have i0 : (0 : Int) ≤ (i : Int) := by omega
  have i1 : (i : Int) < 128 := by omega
  have i2 : (0 : Int) ≤ (i : Int) / 8 := by omega
  have i3 : (i : Int) / 8 < 16 := by omega
  have e1 := or_bit_all ⟨_, byteAt_lt n (i / 8)⟩ ⟨7 - i % 8, by omega⟩
  simp only at e1
  have e2 : byteAt (highN n i) (i / 8) = byteAt n (i / 8) ||| 128 / 2 ^ (i % 8) := by
    rw [highN_byte n i (i / 8) hi (by omega), if_pos rfl]
  rw [show 7 - (7 - i % 8) = i % 8 by omega, ← e2] at e1
  have hset : (adr v n).set (1 + i / 8) (.int .u8 ((byteAt (highN n i) (i / 8) : Nat) : Int)) = adr v (highN n i) :=
    adrV_set v (byteAt n) (byteAt (highN n i)) (i / 8) _ rfl (fun j hj hne => by rw [highN_byte n i j hi hj, if_neg hne])
  have E1 := hid e1
  have HT := hid hset
  clear e1 e2 hset
  go_enter Tryz.func62, Tryz.ntmps62
  go_upto_region 6 with fail
  rw [E1.out, HT.out]
  obtain ⟨w1, hw1⟩ : ∃ w1, w1 = (w.alloc (.cells (adr v (highN n i)).toArray 24)).alloc (.cells zadr 24) := ⟨_, rfl⟩
  have HS : Blk w1 w.heap.size 24 (adr v (highN n i)) := by rw [hw1]; exact (Blk.new w 24 (adr v (highN n i)).toArray).alloc _
  have HR : Blk w1 (w.heap.size + 1) 24 zadr.toList := by rw [hw1]; exact Blk.new_at _ 24 zadr (by simp)
  have HC : Chg [] w w1 := by rw [hw1]; exact ((Chg.refl [] w).alloc _).alloc _
  unfold zadr at hw1
  rw [← hw1]
  clear hw1 c0 E1 HT
  go_wp2_with (first | (refine ld24 rfl _ rfl w.heap.size rfl 24 v _ HS ?_) | (refine st24 rfl _ _ rfl (w.heap.size + 1) v _ rfl rfl 24 _ HR rfl ?_))
  refine bodyPost_ret (rs24 rfl _ _ (w.heap.size + 1) v (byteAt (highN n i)) 24 rfl ?_) rfl ⟨rfl, HC.setRow (.inr (by omega)) _⟩
  exact HR.row (adr v (highN n i))

set_option maxRecDepth 100000 in
set_option maxHeartbeats 1000000 in
theorem rcheckAddr_N (v : Bool) (n : Nat) (hn : n < 2 ^ 128) (w : World) :
    Calls Tryz.prog 29 #[.agg (adr v n).toArray] w fun e w' => e = .returned (.int .i64 (errA v n)) ∧ Chg [] w w' := by
  have HB := hid (Blk.new w 24 (adr v n).toArray)
  have HC := hid ((Chg.refl [] w).alloc (.cells (adr v n).toArray 24))
  have HW := hid (width3_N v n)
  have hq : (wid v : Int) / 8 = ((wid v / 8 : Nat) : Int) := by omega
  have hq16 : wid v / 8 ≤ 16 := by have := wid_le v; omega
  have HOK := hid (okA_bytes v n hn)
  obtain ⟨q, hqq⟩ : ∃ q, q = wid v / 8 := ⟨_, rfl⟩
  rw [← hqq] at hq hq16 HOK
  clear hqq
  go_enter Tryz.func29, Tryz.ntmps29
  go_upto_region 2 with (first
    | (go_at_call 49; refine (HW.out _).mono ?_; rintro e w2 ⟨rfl, C2⟩)
    | (refine ld24n rfl _ rfl w.heap.size rfl 24 v n HB.out ?_))
  have B2 := hid (HB.out.chg C2 (by simp))
  have D2 := hid (HC.out.trans C2)
  clear HB HC C2 HW
  go_loop [3] (fun iv => ∃ i : Nat, q ≤ i ∧ i ≤ 16 ∧ iv = .int .i64 i ∧ ∀ j, q ≤ j → j < i → byteAt n j = 0) (fun iv => 16 - (RowKit.intOf iv).toNat)
  case atStart => exact ⟨q, Nat.le_refl _, hq16, rfl, fun j h1 h2 => by omega⟩
  case round =>
    obtain ⟨i, hqi, hi, rfl, hz⟩ := hrel
    have HZ := hid hz
    clear hz
    by_cases hlt : (i : Int) < 16
    · have i0 : (0 : Int) ≤ (i : Int) := by omega
      have c1 := B2.out.cell_of (adrV_byte v (byteAt n) i (by omega))
      by_cases hx : byteAt n i = 0
      · rw [hx] at c1
        go_wp2
        go_round
        case measure => simp [RowKit.intOf]; omega
        case rel =>
          refine ⟨i + 1, by omega, by omega, by go_num, fun j h1 h2 => ?_⟩
          by_cases hj : j = i
          · rw [hj]; exact hx
          · exact HZ.out j h1 (by omega)
      · have hne : (((byteAt n i : Nat) : Int) != 0) = true := by rw [bne_iff_ne]; omega
        have fin : errA v n = 150 := by
          unfold errA
          rw [if_neg (fun h => hx (HOK.out.1 h i hqi (by omega)))]
        have FIN := hid fin
        clear fin
        go_wp2
        go_ret
        exact ⟨by rw [FIN.out]; rfl, D2.out⟩
    · have hi16 : i = 16 := by omega
      subst hi16
      have fin : errA v n = 0 := by
        unfold errA
        rw [if_pos (HOK.out.2 fun j h1 h2 => HZ.out j h1 h2)]
      have FIN := hid fin
      clear fin
      go_wp2
      go_ret
      exact ⟨by rw [FIN.out]; rfl, D2.out⟩
end Go.Proofs.YtgpiapmbbnngpaaGreatDoor

/- The reference: Check, walked. -/
namespace Go.Proofs.YtgpiapmbbnngpaaGreatDoor
open Go.RowKit Go.Lib Go.Sort
attribute [local go_sem] field24N field24N_0

theorem Blk.rng0 {w : World} {g : Nat} {t : TypeId} {cs : List Value} (hb : Blk w g t cs) : w.rangeAt g 0 cs := fun j x hx => by rw [Nat.zero_add]; exact hb.cell_of hx
theorem Blk.rngA {w : World} {g : Nat} {t : TypeId} {v : Bool} {n : Nat} {k : Int} (hb : Blk w g t (pfx v n k)) : w.rangeAt g 0 (adr v n) := fun j x hx => by rw [Nat.zero_add]; exact hb.cell_of (pfx_adr v n k j x hx)

set_option maxRecDepth 100000 in
set_option maxHeartbeats 2000000 in
theorem rcheck_bad (v : Bool) (n : Nat) (k : Int) (hn : n < 2 ^ 128) (hbad : okA v n = false ∨ k < 0 ∨ (wid v : Int) < k) (w : World) :
    Calls Tryz.prog 31 #[.agg (pfx v n k).toArray] w fun e w' => e = .returned (.int .i64 151) ∧ Chg [] w w' := by
  have HB := hid (Blk.new w 29 (pfx v n k).toArray)
  have HC := hid ((Chg.refl [] w).alloc (.cells (pfx v n k).toArray 29))
  have HW := hid (cls_of (width3_N v n))
  have HK := cls_of (rcheckAddr_N v n hn)
  cases hA : okA v n with
  | false =>
    have he : errA v n = 150 := by unfold errA; rw [hA]; rfl
    rw [he] at HK
    have HK := hid HK
    clear he hA hbad
    go_enter Tryz.func31, Tryz.ntmps31
    go_upto_region 1 with fail
    obtain ⟨w1, hw1⟩ : ∃ w1, w1 = w.alloc (.cells (pfx v n k).toArray 29) := ⟨_, rfl⟩
    rw [← hw1]
    have B1 : Blk w1 w.heap.size 29 (pfx v n k) := by rw [hw1]; exact HB.out
    have C1 : Chg [] w w1 := by rw [hw1]; exact HC.out
    clear hw1 HB HC
    have ck := cell_regrown (B1.cell_of (pfx_bits v n k))
    have R := B1.pfxR
    refine wp_region_quiet_below (by kernel_rfl) (by kernel_rfl) ?_
    repeat (first | (go_big_quiet_want; refine quiet_load 24 _ rfl w.heap.size 0 rfl (adr v n) _ R.adr Tryz.underlying24 rfl (size24.trans (by rw [adr_length])) ?_; go_big_quiet_on) | go_big_quiet_step ((first | (go_at_call 49; with_reducible exact HW.out _ _ _) | (go_at_call 29; with_reducible exact HK.out _ _ _))) | quiet_step ((first | (go_at_call 49; with_reducible exact HW.out _ _ _) | (go_at_call 29; with_reducible exact HK.out _ _ _))))
    refine wpQuiet_nil ?_
    intro w3 hw3
    have C3 := chg_cls hw3
    clear hw3 ck R
    have HF := hid (C1.trans C3)
    go_wp2
    go_ret
    exact ⟨rfl, HF.out⟩
  | true =>
    have he : errA v n = 0 := by unfold errA; rw [hA]; rfl
    rw [he] at HK
    rw [hA] at hbad
    have HK := hid HK
    clear he hA
    have hbad2 : k < 0 ∨ (wid v : Int) < k := by simpa using hbad
    clear hbad
    by_cases h1 : k < 0
    · have d1 : decide (k < 0) = true := decide_eq_true h1
      clear hbad2
      go_enter Tryz.func31, Tryz.ntmps31
      go_upto_region 1 with fail
      obtain ⟨w1, hw1⟩ : ∃ w1, w1 = w.alloc (.cells (pfx v n k).toArray 29) := ⟨_, rfl⟩
      rw [← hw1]
      have B1 : Blk w1 w.heap.size 29 (pfx v n k) := by rw [hw1]; exact HB.out
      have C1 : Chg [] w w1 := by rw [hw1]; exact HC.out
      clear hw1 HB HC
      have ck := cell_regrown (B1.cell_of (pfx_bits v n k))
      have R := B1.pfxR
      refine wp_region_quiet_below (by kernel_rfl) (by kernel_rfl) ?_
      repeat (first | (go_big_quiet_want; refine quiet_load 24 _ rfl w.heap.size 0 rfl (adr v n) _ R.adr Tryz.underlying24 rfl (size24.trans (by rw [adr_length])) ?_; go_big_quiet_on) | go_big_quiet_step ((first | (go_at_call 49; with_reducible exact HW.out _ _ _) | (go_at_call 29; with_reducible exact HK.out _ _ _))) | quiet_step ((first | (go_at_call 49; with_reducible exact HW.out _ _ _) | (go_at_call 29; with_reducible exact HK.out _ _ _))))
      refine wpQuiet_nil ?_
      intro w3 hw3
      have C3 := chg_cls hw3
      clear hw3 ck R
      have HF := hid (C1.trans C3)
      go_wp2
      go_ret
      exact ⟨rfl, HF.out⟩
    · obtain ⟨K, rfl⟩ : ∃ K : Nat, k = (K : Int) := ⟨k.toNat, by omega⟩
      have d1 : decide ((K : Int) < 0) = false := decide_eq_false (by omega)
      have d2 : decide (wid v < K) = true := decide_eq_true (by omega)
      clear hbad2 h1
      go_enter Tryz.func31, Tryz.ntmps31
      go_upto_region 1 with fail
      obtain ⟨w1, hw1⟩ : ∃ w1, w1 = w.alloc (.cells (pfx v n K).toArray 29) := ⟨_, rfl⟩
      rw [← hw1]
      have B1 : Blk w1 w.heap.size 29 (pfx v n K) := by rw [hw1]; exact HB.out
      have C1 : Chg [] w w1 := by rw [hw1]; exact HC.out
      clear hw1 HB HC
      have ck := cell_regrown (B1.cell_of (pfx_bits v n K))
      have R := B1.pfxR
      refine wp_region_quiet_below (by kernel_rfl) (by kernel_rfl) ?_
      repeat (first | (go_big_quiet_want; refine quiet_load 24 _ rfl w.heap.size 0 rfl (adr v n) _ R.adr Tryz.underlying24 rfl (size24.trans (by rw [adr_length])) ?_; go_big_quiet_on) | go_big_quiet_step ((first | (go_at_call 49; with_reducible exact HW.out _ _ _) | (go_at_call 29; with_reducible exact HK.out _ _ _))) | quiet_step ((first | (go_at_call 49; with_reducible exact HW.out _ _ _) | (go_at_call 29; with_reducible exact HK.out _ _ _))))
      refine wpQuiet_nil ?_
      intro w3 hw3
      have C3 := chg_cls hw3
      clear hw3 ck R
      have HF := hid (C1.trans C3)
      go_wp2
      go_ret
      exact ⟨rfl, HF.out⟩
set_option maxRecDepth 100000 in
set_option maxHeartbeats 2000000 in
theorem rcheck_good (v : Bool) (n K : Nat) (hn : n < 2 ^ 128) (hA : okA v n = true) (hK : K ≤ wid v) (w : World) :
    Calls Tryz.prog 31 #[.agg (pfx v n K).toArray] w fun e w' => e = .returned (.int .i64 (errP v n K)) ∧ Chg [] w w' := by
  have HB := hid (Blk.new w 29 (pfx v n K).toArray)
  have HC := hid ((Chg.refl [] w).alloc (.cells (pfx v n K).toArray 29))
  have HW := hid (cls_of (width3_N v n))
  have HK := cls_of (rcheckAddr_N v n hn)
  have he : errA v n = 0 := by unfold errA; rw [hA]; rfl
  rw [he] at HK
  have HK := hid HK
  have HOK := hid (okP_bitsN v n K hA hK)
  have HBT := hid (bit_N v n)
  have HWW := hid (width3_N v n)
  have hw128 := wid_le v
  clear he hA
  have d1 : decide ((K : Int) < 0) = false := decide_eq_false (by omega)
  have d2 : decide (wid v < K) = false := decide_eq_false (by omega)
  go_enter Tryz.func31, Tryz.ntmps31
  go_upto_region 1 with fail
  obtain ⟨w1, hw1⟩ : ∃ w1, w1 = w.alloc (.cells (pfx v n K).toArray 29) := ⟨_, rfl⟩
  rw [← hw1]
  have B1 : Blk w1 w.heap.size 29 (pfx v n K) := by rw [hw1]; exact HB.out
  have C1 : Chg [] w w1 := by rw [hw1]; exact HC.out
  clear hw1 HB HC
  have ck := cell_regrown (B1.cell_of (pfx_bits v n K))
  have R := B1.pfxR
  refine wp_region_quiet_below (by kernel_rfl) (by kernel_rfl) ?_
  repeat (first | (go_big_quiet_want; refine quiet_load 24 _ rfl w.heap.size 0 rfl (adr v n) _ R.adr Tryz.underlying24 rfl (size24.trans (by rw [adr_length])) ?_; go_big_quiet_on) | go_big_quiet_step ((first | (go_at_call 49; with_reducible exact HW.out _ _ _) | (go_at_call 29; with_reducible exact HK.out _ _ _))) | quiet_step ((first | (go_at_call 49; with_reducible exact HW.out _ _ _) | (go_at_call 29; with_reducible exact HK.out _ _ _))))
  refine wpQuiet_nil ?_
  intro w3 hw3
  have C3 := chg_cls hw3
  clear hw3 ck R
  have B3 := hid (B1.chg C3 (by simp))
  have HF := hid (C1.trans C3)
  clear B1 C1 C3
  have ck := B3.out.cell_of (pfx_bits v n K)
  go_upto_region 4 with fail
  go_loopw [3] (fun iv wr => ∃ i : Nat, K ≤ i ∧ i ≤ wid v ∧ iv = .int .i64 i ∧ Blk wr w.heap.size 29 (pfx v n K) ∧ Chg [] w wr ∧ ∀ j, K ≤ j → j < i → bitN n j = false) (fun iv _ => 128 - (RowKit.intOf iv).toNat)
  case atStart => exact ⟨K, Nat.le_refl _, hK, rfl, B3.out, HF.out, fun j h1 h2 => by omega⟩
  case round =>
    obtain ⟨i, hKi, hi, rfl, hB, hC, hz⟩ := hrel
    have HZ := hid hz
    have HB := hid hB
    have HC := hid hC
    clear hz hB hC HF B3 ck d1 d2
    by_cases hlt : i < wid v
    · have i0 : (0 : Int) ≤ (i : Int) := by omega
      have i1 : (i : Int) < 128 := by omega
      have hltz : (i : Int) < (wid v : Int) := by omega
      cases hb : bitN n i with
      | false =>
        have HBi := HBT.out i (by omega)
        rw [hb] at HBi
        have HBj := hid HBi
        have HBB := hid hb
        clear HBi hb
        go_wp2_with (first
          | (go_at_call 49; refine (HWW.out _).mono ?_; rintro e c1 ⟨rfl, D1⟩)
          | (go_at_call 61; refine (HBj.out _).mono ?_; rintro e c2 ⟨rfl, D2⟩)
          | (refine sl_load (adr v n) w.heap.size 0 24 _ _ (by rfl) rfl rfl (HB.out.chg D1 (by simp)).rngA Tryz.underlying24 rfl (size24.trans (by rw [adr_length])) ?_)
          | (refine sl_load (adr v n) w.heap.size 0 24 _ _ (by rfl) rfl rfl HB.out.rngA Tryz.underlying24 rfl (size24.trans (by rw [adr_length])) ?_))
        go_roundw
        case measure => simp [RowKit.intOf]; omega
        case rel =>
          refine ⟨i + 1, by omega, by omega, by go_num, (HB.out.chg D1 (by simp)).chg D2 (by simp), (HC.out.trans D1).trans D2, fun j h1 h2 => ?_⟩
          by_cases hj : j = i
          · rw [hj]; exact HBB.out
          · exact HZ.out j h1 (by omega)
      | true =>
        have HBi := HBT.out i (by omega)
        rw [hb] at HBi
        have HBj := hid HBi
        have fin : errP v n K = 151 := by
          unfold errP
          rw [if_neg (fun h => by have := HOK.out.1 h i hKi hlt; rw [hb] at this; cases this)]
        have FIN := hid fin
        clear HBi hb fin
        go_wp2_with (first
          | (go_at_call 49; refine (HWW.out _).mono ?_; rintro e c1 ⟨rfl, D1⟩)
          | (go_at_call 61; refine (HBj.out _).mono ?_; rintro e c2 ⟨rfl, D2⟩)
          | (refine sl_load (adr v n) w.heap.size 0 24 _ _ (by rfl) rfl rfl (HB.out.chg D1 (by simp)).rngA Tryz.underlying24 rfl (size24.trans (by rw [adr_length])) ?_)
          | (refine sl_load (adr v n) w.heap.size 0 24 _ _ (by rfl) rfl rfl HB.out.rngA Tryz.underlying24 rfl (size24.trans (by rw [adr_length])) ?_))
        go_ret
        exact ⟨by rw [FIN.out]; rfl, (HC.out.trans D1).trans D2⟩
    · have hi16 : i = wid v := by omega
      subst hi16
      have fin : errP v n K = 0 := by
        unfold errP
        rw [if_pos (HOK.out.2 fun j h1 h2 => HZ.out j h1 h2)]
      have FIN := hid fin
      clear fin
      go_wp2_with (first
        | (go_at_call 49; refine (HWW.out _).mono ?_; rintro e c1 ⟨rfl, D1⟩)
        | (refine sl_load (adr v n) w.heap.size 0 24 _ _ (by rfl) rfl rfl HB.out.rngA Tryz.underlying24 rfl (size24.trans (by rw [adr_length])) ?_))
      go_ret
      exact ⟨by rw [FIN.out]; rfl, HC.out.trans D1⟩
theorem rcheck_N (v : Bool) (n : Nat) (k : Int) (hn : n < 2 ^ 128) (w : World) :
    Calls Tryz.prog 31 #[.agg (pfx v n k).toArray] w fun e w' => e = .returned (.int .i64 (errP v n k)) ∧ Chg [] w w' := by
  by_cases h : okA v n = true ∧ 0 ≤ k ∧ k ≤ (wid v : Int)
  · obtain ⟨K, rfl⟩ : ∃ K : Nat, k = (K : Int) := ⟨k.toNat, by omega⟩
    exact rcheck_good v n K hn h.1 (by omega) w
  · have e : errP v n k = 151 := by
      unfold errP
      rw [if_neg]
      intro hp
      unfold okP at hp
      simp only [Bool.and_eq_true, decide_eq_true_eq] at hp
      refine h ⟨?_, hp.1⟩
      unfold okA
      rw [decide_eq_true_eq]
      conv => lhs; rw [← hp.2, maskN_mask, Nat.min_eq_left (by omega)]
      exact hp.2
    rw [e]
    refine rcheck_bad v n k hn ?_ w
    cases hA : okA v n
    · exact .inl rfl
    · refine .inr ?_
      have h2 : ¬ (0 ≤ k ∧ k ≤ (wid v : Int)) := fun h2 => h ⟨hA, h2⟩
      omega
end Go.Proofs.YtgpiapmbbnngpaaGreatDoor

/- The reference: Of, walked. -/
namespace Go.Proofs.YtgpiapmbbnngpaaGreatDoor
open Go.RowKit Go.Lib Go.Sort

set_option maxRecDepth 100000 in
set_option maxHeartbeats 2000000 in
theorem rof_good (v : Bool) (n K : Nat) (hn : n < 2 ^ 128) (hA : okA v n = true) (hK : K ≤ wid v) (w : World) :
    Calls Tryz.prog 35 #[.agg (adr v n).toArray, .int .i64 K] w fun e w' => e = .returned (.tuple #[.agg (pfx v (maskN n K) K).toArray, .int .i64 0]) ∧ Chg [] w w' := by
  have HB := hid (show Blk ((w.alloc (.cells (adr v n).toArray 24)).alloc (.cells zpfx 29)) w.heap.size 24 (adr v n) from (Blk.new w 24 (adr v n).toArray).alloc _)
  have HR := hid (show Blk ((w.alloc (.cells (adr v n).toArray 24)).alloc (.cells zpfx 29)) (w.heap.size + 1) 29 zpfx.toList from Blk.new_at _ 29 zpfx (by simp))
  have HC := hid (show Chg [] w ((w.alloc (.cells (adr v n).toArray 24)).alloc (.cells zpfx 29)) from ((Chg.refl _ _).alloc _).alloc _)
  have HWW := hid (fun (x : Nat) W => width3_N v x W)
  have HK := rcheckAddr_N v n hn
  have he : errA v n = 0 := by unfold errA; rw [hA]; rfl
  rw [he] at HK
  have HK := hid HK
  have HFIN := hid (fun x (h : Cut n K (wid v) x) => Cut.fin h hA hK)
  have hw128 := wid_le v
  clear he
  have d1 : decide ((K : Int) < 0) = false := decide_eq_false (by omega)
  have d2 : decide (wid v < K) = false := decide_eq_false (by omega)
  go_enter Tryz.func35, Tryz.ntmps35
  go_upto_region 6 with (first
    | (go_at_call 29; refine (HK.out _).mono ?_; rintro e w2 ⟨rfl, C2⟩)
    | (go_at_call 49; refine (HWW.out n _).mono ?_; rintro e w3 ⟨rfl, C3⟩)
    | (refine ld24g rfl _ rfl w.heap.size rfl 24 v n (HB.out.chg C2 (by simp)) ?_)
    | (refine ld24n rfl _ rfl w.heap.size rfl 24 v n HB.out ?_))
  have B3 := hid ((HB.out.chg C2 (by simp)).chg C3 (by simp))
  have R3 := hid ((HR.out.chg C2 (by simp)).chg C3 (by simp))
  have D3 := hid ((HC.out.trans C2).trans C3)
  clear HB HR HC C2 C3 HK d1 d2
  go_loopw [6] (fun iv wr => ∃ i x : Nat, K ≤ i ∧ i ≤ wid v ∧ iv = .int .i64 i ∧ x < 2 ^ 128 ∧ Cut n K i x ∧ Blk wr w.heap.size 24 (adr v x) ∧ Blk wr (w.heap.size + 1) 29 zpfx.toList ∧ Chg [] w wr) (fun iv _ => 128 - (RowKit.intOf iv).toNat)
  case atStart => exact ⟨K, n, Nat.le_refl _, hK, rfl, hn, Cut.start n K, B3.out, R3.out, D3.out⟩
  case round =>
    obtain ⟨i, x, hKi, hi, rfl, hx, hcut, hB, hR, hC⟩ := hrel
    have HX := hid hx
    have HCU := hid hcut
    have HB := hid hB
    have HR := hid hR
    have HC := hid hC
    clear hx hcut hB hR hC B3 R3 D3
    have HW := hid (HWW.out x)
    by_cases hlt : i < wid v
    · have i0 : (0 : Int) ≤ (i : Int) := by omega
      have i1 : (i : Int) < 128 := by omega
      have hltz : (i : Int) < (wid v : Int) := by omega
      have HT := hid (with0_N v x i (by omega))
      go_wp2_with (first
        | (go_at_call 49; refine (HW.out _).mono ?_; rintro e c1 ⟨rfl, D1⟩)
        | (go_at_call 62; refine (HT.out _).mono ?_; rintro e c2 ⟨rfl, D2⟩)
        | (refine ld24n rfl _ rfl w.heap.size rfl 24 v x (HB.out.chg D1 (by simp)) ?_)
        | (refine ld24n rfl _ rfl w.heap.size rfl 24 v x HB.out ?_)
        | (refine st24 rfl _ _ rfl w.heap.size v (byteAt (clrN x i)) rfl rfl 24 _ ((HB.out.chg D1 (by simp)).chg D2 (by simp)) (adr_length _ _) ?_))
      go_roundw
      case measure => simp [RowKit.intOf]; omega
      case rel =>
        refine ⟨i + 1, clrN x i, by omega, by omega, by go_num, clrN_lt _ _ HX.out, HCU.out.step hKi (by omega), ((HB.out.chg D1 (by simp)).chg D2 (by simp)).row (adr v (clrN x i)), ?_, ((HC.out.trans D1).trans D2).setRow (.inr (Nat.le_refl _)) _⟩
        exact ((HR.out.chg D1 (by simp)).chg D2 (by simp)).chg (S := [w.heap.size]) ((Chg.refl _ _).setRow (.inl (by simp)) _) (by simp)
    · have hi16 : i = wid v := by omega
      subst hi16
      have hfx := HFIN.out x HCU.out
      subst hfx
      go_wp2_with (first
        | (go_at_call 49; refine (HW.out _).mono ?_; rintro e c1 ⟨rfl, D1⟩)
        | (refine ld24n rfl _ rfl w.heap.size rfl 24 v (maskN n K) (HB.out.chg D1 (by simp)) ?_)
        | (refine ld24n rfl _ rfl w.heap.size rfl 24 v (maskN n K) HB.out ?_)
        | (refine bd29 rfl _ _ rfl v (maskN n K) K rfl rfl ?_)
        | (refine st29 rfl _ _ rfl (w.heap.size + 1) v (maskN n K) K rfl rfl 29 _ (HR.out.chg D1 (by simp)) rfl ?_))
      refine bodyPost_ret (rs29t rfl _ _ (w.heap.size + 1) v (maskN n K) K 29 _ rfl rfl ((HR.out.chg D1 (by simp)).row (pfx v (maskN n K) K))) rfl ⟨rfl, ?_⟩
      exact (HC.out.trans D1).setRow (.inr (by omega)) _
set_option maxHeartbeats 1000000 in
theorem rof_N (v : Bool) (n : Nat) (k : Int) (hn : n < 2 ^ 128) (w : World) :
    Calls Tryz.prog 35 #[.agg (adr v n).toArray, .int .i64 k] w fun e w' => e = .returned (.tuple #[.agg (pfx (ofP v n k).1 (ofP v n k).2.1 (ofP v n k).2.2.1).toArray, .int .i64 (ofP v n k).2.2.2]) ∧ Chg [] w w' := by
  have HA := hid (show Blk ((w.alloc (.cells (adr v n).toArray 24)).alloc (.cells zpfx 29)) w.heap.size 24 (adr v n) from (Blk.new w 24 (adr v n).toArray).alloc _)
  have HR := hid (show Blk ((w.alloc (.cells (adr v n).toArray 24)).alloc (.cells zpfx 29)) (w.heap.size + 1) 29 zpfx.toList from Blk.new_at _ 29 zpfx (by simp))
  have HC := hid (show Chg [] w ((w.alloc (.cells (adr v n).toArray 24)).alloc (.cells zpfx 29)) from ((Chg.refl _ _).alloc _).alloc _)
  have HK := hid (rcheckAddr_N v n hn)
  by_cases h1 : okA v n = true
  · have fin : errA v n = 0 := by unfold errA; rw [if_pos h1]
    rw [fin] at HK
    have HWd := hid (cls_of (width3_N v n))
    by_cases h2 : k < 0
    · have d1 : decide (k < 0) = true := decide_eq_true h2
      have HF := hid (show ofP v n k = (false, 0, 0, 151) by unfold ofP; rw [if_pos h1, if_neg (by omega)])
      rw [HF.out]
      go_enter Tryz.func35, Tryz.ntmps35
      go_wp2_with (first | (go_at_call 29; refine (HK.out _).mono ?_; rintro e w2 ⟨rfl, C2⟩) | (refine ld24n rfl _ rfl w.heap.size rfl 24 v n HA.out ?_) | (refine st29z rfl _ _ rfl (w.heap.size + 1) rfl rfl 29 _ (HR.out.chg C2 (by simp)) rfl ?_))
      have R2 := (HR.out.chg C2 (by simp)).row (pfx false 0 0)
      refine bodyPost_ret (rs29t rfl _ _ (w.heap.size + 1) false 0 0 29 _ rfl rfl R2) rfl ⟨rfl, ?_⟩
      exact (HC.out.trans C2).setRow (.inr (by omega)) _
    · obtain ⟨K, rfl⟩ : ∃ K : Nat, k = (K : Int) := ⟨k.toNat, by omega⟩
      have d1 : decide ((K : Int) < 0) = false := decide_eq_false (by omega)
      by_cases h3 : wid v < K
      · have d2 : decide (wid v < K) = true := decide_eq_true h3
        have HF := hid (show ofP v n K = (false, 0, 0, 151) by unfold ofP; rw [if_pos h1, if_neg (by omega)])
        have HWD := hid (width3_N v n)
        rw [HF.out]
        go_enter Tryz.func35, Tryz.ntmps35
        go_wp2_with (first | (go_at_call 29; refine (HK.out _).mono ?_; rintro e w2 ⟨rfl, C2⟩) | (go_at_call 49; refine (HWD.out _).mono ?_; rintro e w3 ⟨rfl, C3⟩) | (refine ld24n rfl _ rfl w.heap.size rfl 24 v n HA.out ?_) | (refine ld24g rfl _ rfl w.heap.size rfl 24 v n (HA.out.chg C2 (by simp)) ?_) | (refine st29z rfl _ _ rfl (w.heap.size + 1) rfl rfl 29 _ ((HR.out.chg C2 (by simp)).chg C3 (by simp)) rfl ?_))
        have R2 := ((HR.out.chg C2 (by simp)).chg C3 (by simp)).row (pfx false 0 0)
        refine bodyPost_ret (rs29t rfl _ _ (w.heap.size + 1) false 0 0 29 _ rfl rfl R2) rfl ⟨rfl, ?_⟩
        have HC1 := HC.out
        exact ((HC1.trans C2).trans C3).setRow (.inr (by omega)) _
      · have d2 : decide (wid v < K) = false := decide_eq_false h3
        have HF := hid (show ofP v n K = (v, maskN n K, (K : Int), 0) by unfold ofP; rw [if_pos h1, if_pos (by omega)]; rfl)
        rw [HF.out]
        exact rof_good v n K hn h1 (by omega) w
  · have fin : errA v n = 150 := by unfold errA; rw [if_neg h1]
    rw [fin] at HK
    have HF := hid (show ofP v n k = (false, 0, 0, 150) by unfold ofP; rw [if_neg h1])
    rw [HF.out]
    go_enter Tryz.func35, Tryz.ntmps35
    go_wp2_with (first | (go_at_call 29; refine (HK.out _).mono ?_; rintro e w2 ⟨rfl, C2⟩) | (refine ld24n rfl _ rfl w.heap.size rfl 24 v n HA.out ?_) | (refine st29z rfl _ _ rfl (w.heap.size + 1) rfl rfl 29 _ (HR.out.chg C2 (by simp)) rfl ?_))
    have R2 := (HR.out.chg C2 (by simp)).row (pfx false 0 0)
    refine bodyPost_ret (rs29t rfl _ _ (w.heap.size + 1) false 0 0 29 _ rfl rfl R2) rfl ⟨rfl, ?_⟩
    exact (HC.out.trans C2).setRow (.inr (by omega)) _
end Go.Proofs.YtgpiapmbbnngpaaGreatDoor

/- The reference: Has, Covers, Compare, walked. -/
namespace Go.Proofs.YtgpiapmbbnngpaaGreatDoor
open Go.RowKit Go.Lib Go.Sort

set_option maxRecDepth 100000 in
set_option maxHeartbeats 2000000 in
theorem rhas_no (v : Bool) (n : Nat) (k : Int) (v' : Bool) (m : Nat) (hn : n < 2 ^ 128) (hm : m < 2 ^ 128) (h : okP v n k = false ∨ okA v' m = false ∨ v' ≠ v) (w : World) :
    Calls Tryz.prog 33 #[.agg (pfx v n k).toArray, .agg (adr v' m).toArray] w fun e w' => e = .returned (.bool false) ∧ Chg [] w w' := by
  have HP := hid (show Blk ((w.alloc (.cells (pfx v n k).toArray 29)).alloc (.cells (adr v' m).toArray 24)) w.heap.size 29 (pfx v n k) from (Blk.new w 29 (pfx v n k).toArray).alloc _)
  have HQ := hid (show Blk ((w.alloc (.cells (pfx v n k).toArray 29)).alloc (.cells (adr v' m).toArray 24)) (w.heap.size + 1) 24 (adr v' m) from Blk.new_at _ 24 (adr v' m).toArray (by simp))
  have HC := hid (show Chg [] w ((w.alloc (.cells (pfx v n k).toArray 29)).alloc (.cells (adr v' m).toArray 24)) from ((Chg.refl _ _).alloc _).alloc _)
  have HK := hid (rcheck_N v n k hn)
  have HJ := hid (rcheckAddr_N v' m hm)
  cases h1 : okP v n k with
  | false =>
    rw [show errP v n k = 151 by unfold errP; rw [h1]; rfl] at HK
    clear h h1 HJ
    go_enter Tryz.func33, Tryz.ntmps33
    go_wp2_with (first | (go_at_call 31; refine (HK.out _).mono ?_; rintro e c1 ⟨rfl, C1⟩) | (refine ld29 rfl _ rfl w.heap.size rfl 29 v n k HP.out ?_))
    go_ret
    exact ⟨rfl, HC.out.trans C1⟩
  | true =>
    rw [show errP v n k = 0 by unfold errP; rw [h1]; rfl] at HK
    rw [h1] at h
    clear h1
    cases h2 : okA v' m with
    | false =>
      rw [show errA v' m = 150 by unfold errA; rw [h2]; rfl] at HJ
      clear h h2
      go_enter Tryz.func33, Tryz.ntmps33
      go_wp2_with (first | (go_at_call 31; refine (HK.out _).mono ?_; rintro e c1 ⟨rfl, C1⟩) | (go_at_call 29; refine (HJ.out _).mono ?_; rintro e c2 ⟨rfl, C2⟩) | (refine ld29 rfl _ rfl w.heap.size rfl 29 v n k HP.out ?_) | (refine ld24g rfl _ rfl (w.heap.size + 1) rfl 24 v' m (HQ.out.chg C1 (by simp)) ?_))
      go_ret
      exact ⟨rfl, (HC.out.trans C1).trans C2⟩
    | true =>
      rw [show errA v' m = 0 by unfold errA; rw [h2]; rfl] at HJ
      rw [h2] at h
      have hv : v' ≠ v := by simpa using h
      clear h h2
      cases v <;> cases v' <;> first
        | exact absurd rfl hv
        | (clear hv
           go_enter Tryz.func33, Tryz.ntmps33
           go_wp2_with (first | (go_at_call 31; refine (HK.out _).mono ?_; rintro e c1 ⟨rfl, C1⟩) | (go_at_call 29; refine (HJ.out _).mono ?_; rintro e c2 ⟨rfl, C2⟩; have q0 := ((HP.out.chg C1 (by simp)).chg C2 (by simp)).cell_of (pfx_bool _ n k); have q1 := ((HQ.out.chg C1 (by simp)).chg C2 (by simp)).cell_of (adrV_bool _ (byteAt m))) | (refine ld29 rfl _ rfl w.heap.size rfl 29 _ n k HP.out ?_) | (refine ld24g rfl _ rfl (w.heap.size + 1) rfl 24 _ m (HQ.out.chg C1 (by simp)) ?_))
           go_ret
           exact ⟨rfl, (HC.out.trans C1).trans C2⟩)
set_option maxRecDepth 100000 in
set_option maxHeartbeats 2000000 in
theorem rhas_yes (v : Bool) (n K m : Nat) (hn : n < 2 ^ 128) (hm : m < 2 ^ 128) (h1 : okP v n K = true) (h2 : okA v m = true) (hK : K ≤ 128) (w : World) :
    Calls Tryz.prog 33 #[.agg (pfx v n K).toArray, .agg (adr v m).toArray] w fun e w' => e = .returned (.bool (sameK m n K)) ∧ Chg [] w w' := by
  have HP := hid (show Blk ((w.alloc (.cells (pfx v n K).toArray 29)).alloc (.cells (adr v m).toArray 24)) w.heap.size 29 (pfx v n K) from (Blk.new w 29 (pfx v n K).toArray).alloc _)
  have HQ := hid (show Blk ((w.alloc (.cells (pfx v n K).toArray 29)).alloc (.cells (adr v m).toArray 24)) (w.heap.size + 1) 24 (adr v m) from Blk.new_at _ 24 (adr v m).toArray (by simp))
  have HC := hid (show Chg [] w ((w.alloc (.cells (pfx v n K).toArray 29)).alloc (.cells (adr v m).toArray 24)) from ((Chg.refl _ _).alloc _).alloc _)
  have HK := hid (rcheck_N v n K hn)
  have HJ := hid (rcheckAddr_N v m hm)
  rw [show errP v n K = 0 by unfold errP; rw [h1]; rfl] at HK
  rw [show errA v m = 0 by unfold errA; rw [h2]; rfl] at HJ
  have HB1 := hid (bit_N v m)
  have HB2 := hid (bit_N v n)
  have HYES := hid (fun (h : SameTo m n K) => SameTo.fin hm hn hK h)
  have HNO := hid (fun i (hi : i < K) (h : bitN m i ≠ bitN n i) => same_off hm hn hK hi h)
  clear h1 h2 hn hm
  have hb : (v != v) = false := by cases v <;> rfl
  go_enter Tryz.func33, Tryz.ntmps33
  go_upto_region 4 with (first | (go_at_call 31; refine (HK.out _).mono ?_; rintro e c1 ⟨rfl, C1⟩) | (go_at_call 29; refine (HJ.out _).mono ?_; rintro e c2 ⟨rfl, C2⟩; have q0 := ((HP.out.chg C1 (by simp)).chg C2 (by simp)).cell_of (pfx_bool v n K); have q1 := ((HQ.out.chg C1 (by simp)).chg C2 (by simp)).cell_of (adrV_bool v (byteAt m))) | (refine ld29 rfl _ rfl w.heap.size rfl 29 v n K HP.out ?_) | (refine ld24g rfl _ rfl (w.heap.size + 1) rfl 24 v m (HQ.out.chg C1 (by simp)) ?_))
  have P2 := hid ((HP.out.chg C1 (by simp)).chg C2 (by simp))
  have Q2 := hid ((HQ.out.chg C1 (by simp)).chg C2 (by simp))
  have D2 := hid ((HC.out.trans C1).trans C2)
  clear HP HQ HC C1 C2 HK HJ q0 q1 hb
  go_loopw [5] (fun iv wr => ∃ i : Nat, i ≤ K ∧ iv = .int .i64 i ∧ Blk wr w.heap.size 29 (pfx v n K) ∧ Blk wr (w.heap.size + 1) 24 (adr v m) ∧ Chg [] w wr ∧ SameTo m n i) (fun iv _ => 128 - (RowKit.intOf iv).toNat)
  case atStart => exact ⟨0, by omega, rfl, P2.out, Q2.out, D2.out, fun j hj => by omega⟩
  case round =>
    obtain ⟨i, hi, rfl, hP, hQ, hC, hs⟩ := hrel
    have HP := hid hP
    have HQ := hid hQ
    have HC := hid hC
    have HS := hid hs
    clear hP hQ hC hs P2 Q2 D2
    have kc := HP.out.cell_of (pfx_bits v n K)
    by_cases hlt : i < K
    · have i0 : (0 : Int) ≤ (i : Int) := by omega
      have i1 : (i : Int) < 128 := by omega
      have HBm := cls_of (HB1.out i (by omega))
      have HBn := cls_of (HB2.out i (by omega))
      obtain ⟨b1, hb1⟩ : ∃ b1, b1 = bitN m i := ⟨_, rfl⟩
      obtain ⟨b2, hb2⟩ : ∃ b2, b2 = bitN n i := ⟨_, rfl⟩
      rw [← hb1] at HBm
      rw [← hb2] at HBn
      have HBm := hid HBm
      have HBn := hid HBn
      have E1 := hid hb1
      have E2 := hid hb2
      have R1 := HP.out.pfxR
      have R2 := HQ.out.range_cls0
      clear hb1 hb2
      cases b1 with
      | false =>
        cases b2 with
        | false =>
          go_upto_region 6 with fail
          refine wp_region_quiet_below (by kernel_rfl) (by kernel_rfl) ?_
          repeat (first
            | (go_big_quiet_want; refine quiet_load 24 _ rfl (w.heap.size + 1) 0 rfl (adr v m) _ R2 Tryz.underlying24 rfl (size24.trans (by rw [adr_length])) ?_; go_big_quiet_on)
            | (go_big_quiet_want; refine quiet_load 24 _ rfl w.heap.size 0 rfl (adr v n) _ R1.adr Tryz.underlying24 rfl (size24.trans (by rw [adr_length])) ?_; go_big_quiet_on)
            | go_big_quiet_step ((first | (go_at_call 61; with_reducible exact HBm.out _ _ _) | (go_at_call 61; with_reducible exact HBn.out _ _ _)))
            | quiet_step ((first | (go_at_call 61; with_reducible exact HBm.out _ _ _) | (go_at_call 61; with_reducible exact HBn.out _ _ _))))
          refine wpQuiet_nil ?_
          intro w3 hw3
          have C3 := hid (chg_cls hw3)
          clear hw3 R1 R2 HBm HBn kc
          go_wp2
          go_roundw
          case measure => simp [RowKit.intOf]; omega
          case rel =>
            refine ⟨i + 1, by omega, by go_num, HP.out.chg C3.out (by simp), HQ.out.chg C3.out (by simp), HC.out.trans C3.out, fun j hj => ?_⟩
            by_cases hji : j = i
            · rw [hji, ← E1.out, ← E2.out]
            · exact HS.out j (by omega)
        | true =>
          go_upto_region 6 with fail
          refine wp_region_quiet_below (by kernel_rfl) (by kernel_rfl) ?_
          repeat (first
            | (go_big_quiet_want; refine quiet_load 24 _ rfl (w.heap.size + 1) 0 rfl (adr v m) _ R2 Tryz.underlying24 rfl (size24.trans (by rw [adr_length])) ?_; go_big_quiet_on)
            | (go_big_quiet_want; refine quiet_load 24 _ rfl w.heap.size 0 rfl (adr v n) _ R1.adr Tryz.underlying24 rfl (size24.trans (by rw [adr_length])) ?_; go_big_quiet_on)
            | go_big_quiet_step ((first | (go_at_call 61; with_reducible exact HBm.out _ _ _) | (go_at_call 61; with_reducible exact HBn.out _ _ _)))
            | quiet_step ((first | (go_at_call 61; with_reducible exact HBm.out _ _ _) | (go_at_call 61; with_reducible exact HBn.out _ _ _))))
          refine wpQuiet_nil ?_
          intro w3 hw3
          have C3 := hid (chg_cls hw3)
          clear hw3 R1 R2 HBm HBn kc
          have fin := HNO.out i hlt (by rw [← E1.out, ← E2.out]; decide)
          have FIN := hid fin
          clear fin
          go_wp2
          go_ret
          exact ⟨by rw [FIN.out]; rfl, HC.out.trans C3.out⟩
      | true =>
        cases b2 with
        | false =>
          go_upto_region 6 with fail
          refine wp_region_quiet_below (by kernel_rfl) (by kernel_rfl) ?_
          repeat (first
            | (go_big_quiet_want; refine quiet_load 24 _ rfl (w.heap.size + 1) 0 rfl (adr v m) _ R2 Tryz.underlying24 rfl (size24.trans (by rw [adr_length])) ?_; go_big_quiet_on)
            | (go_big_quiet_want; refine quiet_load 24 _ rfl w.heap.size 0 rfl (adr v n) _ R1.adr Tryz.underlying24 rfl (size24.trans (by rw [adr_length])) ?_; go_big_quiet_on)
            | go_big_quiet_step ((first | (go_at_call 61; with_reducible exact HBm.out _ _ _) | (go_at_call 61; with_reducible exact HBn.out _ _ _)))
            | quiet_step ((first | (go_at_call 61; with_reducible exact HBm.out _ _ _) | (go_at_call 61; with_reducible exact HBn.out _ _ _))))
          refine wpQuiet_nil ?_
          intro w3 hw3
          have C3 := hid (chg_cls hw3)
          clear hw3 R1 R2 HBm HBn kc
          have fin := HNO.out i hlt (by rw [← E1.out, ← E2.out]; decide)
          have FIN := hid fin
          clear fin
          go_wp2
          go_ret
          exact ⟨by rw [FIN.out]; rfl, HC.out.trans C3.out⟩
        | true =>
          go_upto_region 6 with fail
          refine wp_region_quiet_below (by kernel_rfl) (by kernel_rfl) ?_
          repeat (first
            | (go_big_quiet_want; refine quiet_load 24 _ rfl (w.heap.size + 1) 0 rfl (adr v m) _ R2 Tryz.underlying24 rfl (size24.trans (by rw [adr_length])) ?_; go_big_quiet_on)
            | (go_big_quiet_want; refine quiet_load 24 _ rfl w.heap.size 0 rfl (adr v n) _ R1.adr Tryz.underlying24 rfl (size24.trans (by rw [adr_length])) ?_; go_big_quiet_on)
            | go_big_quiet_step ((first | (go_at_call 61; with_reducible exact HBm.out _ _ _) | (go_at_call 61; with_reducible exact HBn.out _ _ _)))
            | quiet_step ((first | (go_at_call 61; with_reducible exact HBm.out _ _ _) | (go_at_call 61; with_reducible exact HBn.out _ _ _))))
          refine wpQuiet_nil ?_
          intro w3 hw3
          have C3 := hid (chg_cls hw3)
          clear hw3 R1 R2 HBm HBn kc
          go_wp2
          go_roundw
          case measure => simp [RowKit.intOf]; omega
          case rel =>
            refine ⟨i + 1, by omega, by go_num, HP.out.chg C3.out (by simp), HQ.out.chg C3.out (by simp), HC.out.trans C3.out, fun j hj => ?_⟩
            by_cases hji : j = i
            · rw [hji, ← E1.out, ← E2.out]
            · exact HS.out j (by omega)
    · have hiK : i = K := by omega
      subst hiK
      have fin := HYES.out HS.out
      have FIN := hid fin
      clear fin
      go_wp2
      go_ret
      exact ⟨by rw [FIN.out]; rfl, HC.out⟩
theorem rhas_N (v : Bool) (n : Nat) (k : Int) (v' : Bool) (m : Nat) (hn : n < 2 ^ 128) (hm : m < 2 ^ 128) (w : World) :
    Calls Tryz.prog 33 #[.agg (pfx v n k).toArray, .agg (adr v' m).toArray] w fun e w' => e = .returned (.bool (hasP v n k v' m)) ∧ Chg [] w w' := by
  by_cases h : okP v n k = true ∧ okA v' m = true ∧ v' = v
  · obtain ⟨h1, h2, rfl⟩ := h
    have hb : 0 ≤ k ∧ k ≤ wid v' := by
      unfold okP at h1
      simp only [Bool.and_eq_true, decide_eq_true_eq] at h1
      exact h1.1
    have hw := wid_le v'
    obtain ⟨K, rfl⟩ : ∃ K : Nat, k = (K : Int) := ⟨k.toNat, by omega⟩
    rw [show hasP v' n K v' m = sameK m n K by unfold hasP; rw [h1, h2]; simp]
    exact rhas_yes v' n K m hn hm h1 h2 (by omega) w
  · have e : hasP v n k v' m = false := by
      unfold hasP
      rw [← Bool.not_eq_true]
      intro hx
      simp only [Bool.and_eq_true, beq_iff_eq] at hx
      exact h ⟨hx.1.1.1, hx.1.1.2, hx.1.2⟩
    rw [e]
    refine rhas_no v n k v' m hn hm ?_ w
    cases h1 : okP v n k
    · exact .inl rfl
    · cases h2 : okA v' m
      · exact .inr (.inl rfl)
      · exact .inr (.inr fun hv => h ⟨h1, h2, hv⟩)
set_option maxHeartbeats 1000000 in
theorem rcovers_N (v : Bool) (n : Nat) (k : Int) (v' : Bool) (m : Nat) (j : Int) (hn : n < 2 ^ 128) (hm : m < 2 ^ 128) (w : World) :
    Calls Tryz.prog 34 #[.agg (pfx v n k).toArray, .agg (pfx v' m j).toArray] w fun e w' => e = .returned (.bool (covP v n k v' m j)) ∧ Chg [] w w' := by
  have HP := hid (show Blk ((w.alloc (.cells (pfx v n k).toArray 29)).alloc (.cells (pfx v' m j).toArray 29)) w.heap.size 29 (pfx v n k) from (Blk.new w 29 (pfx v n k).toArray).alloc _)
  have HQ := hid (show Blk ((w.alloc (.cells (pfx v n k).toArray 29)).alloc (.cells (pfx v' m j).toArray 29)) (w.heap.size + 1) 29 (pfx v' m j) from Blk.new_at _ 29 (pfx v' m j).toArray (by simp))
  have HC := hid (show Chg [] w ((w.alloc (.cells (pfx v n k).toArray 29)).alloc (.cells (pfx v' m j).toArray 29)) from ((Chg.refl _ _).alloc _).alloc _)
  have HK := hid (rcheck_N v' m j hm)
  by_cases h1 : okP v' m j = true
  · have e1 : errP v' m j = 0 := by unfold errP; rw [if_pos h1]
    rw [e1] at HK
    by_cases h2 : k ≤ j
    · have d2 : decide (k ≤ j) = true := decide_eq_true h2
      have HH := hid (rhas_N v n k v' m hn hm)
      have FIN := hid (show covP v n k v' m j = hasP v n k v' m by unfold covP; rw [h1, d2]; simp)
      go_enter Tryz.func34, Tryz.ntmps34
      go_wp2_with (first | (go_at_call 31; refine (HK.out _).mono ?_; rintro e w2 ⟨rfl, C2⟩; have c2 := (HP.out.chg C2 (by simp)).cell_of (pfx_bits v n k); have c3 := (HQ.out.chg C2 (by simp)).cell_of (pfx_bits v' m j)) | (go_at_call 33; refine (HH.out _).mono ?_; rintro e w3 ⟨rfl, C3⟩) | (refine ld24p rfl _ rfl (w.heap.size + 1) rfl 29 v' m j (HQ.out.chg C2 (by simp)) ?_) | (refine ld29g rfl _ rfl w.heap.size rfl 29 v n k (HP.out.chg C2 (by simp)) ?_) | (refine ld29 rfl _ rfl (w.heap.size + 1) rfl 29 v' m j HQ.out ?_))
      rw [FIN.out]
      go_ret
      exact ⟨rfl, (HC.out.trans C2).trans C3⟩
    · have d2 : decide (k ≤ j) = false := decide_eq_false h2
      have FIN := hid (show covP v n k v' m j = false by unfold covP; rw [d2]; simp)
      go_enter Tryz.func34, Tryz.ntmps34
      go_wp2_with (first | (go_at_call 31; refine (HK.out _).mono ?_; rintro e w2 ⟨rfl, C2⟩; have c2 := (HP.out.chg C2 (by simp)).cell_of (pfx_bits v n k); have c3 := (HQ.out.chg C2 (by simp)).cell_of (pfx_bits v' m j)) | (refine ld29 rfl _ rfl (w.heap.size + 1) rfl 29 v' m j HQ.out ?_))
      rw [FIN.out]
      go_ret
      exact ⟨rfl, HC.out.trans C2⟩
  · have e1 : errP v' m j = 151 := by unfold errP; rw [if_neg h1]
    have FIN := hid (show covP v n k v' m j = false by unfold covP; rw [Bool.not_eq_true] at h1; rw [h1]; rfl)
    rw [e1] at HK
    go_enter Tryz.func34, Tryz.ntmps34
    go_wp2_with (first | (go_at_call 31; refine (HK.out _).mono ?_; rintro e w2 ⟨rfl, C2⟩) | (refine ld29 rfl _ rfl (w.heap.size + 1) rfl 29 v' m j HQ.out ?_))
    rw [FIN.out]
    go_ret
    exact ⟨rfl, HC.out.trans C2⟩
end Go.Proofs.YtgpiapmbbnngpaaGreatDoor

/- The reference: Compare, walked. -/
namespace Go.Proofs.YtgpiapmbbnngpaaGreatDoor
open Go.RowKit Go.Lib Go.Sort

theorem pfx_byt (v : Bool) (n : Nat) (k : Int) (i : Nat) (hi : i < 16) : (pfx v n k)[1 + i]? = some (.int .u8 (byteAt n i : Nat)) := pfx_adr v n k _ _ (adrV_byte v _ i hi)
theorem cmpP_less {v : Bool} {n m : Nat} {k j : Int} (h : n < m) : cmpP v n k v m j = -1 := by unfold cmpP; rw [if_neg (by simp), if_pos h]
theorem cmpP_more {v : Bool} {n m : Nat} {k j : Int} (h : m < n) : cmpP v n k v m j = 1 := by unfold cmpP; rw [if_neg (by simp), if_neg (by omega), if_pos h]
theorem cmpP_same {v : Bool} {n : Nat} {k j : Int} : cmpP v n k v n j = if k < j then -1 else if j < k then 1 else 0 := by unfold cmpP; rw [if_neg (by simp), if_neg (by omega), if_neg (by omega)]

set_option maxRecDepth 100000 in
set_option maxHeartbeats 2000000 in
theorem rcompare_off (v : Bool) (n : Nat) (k : Int) (v' : Bool) (m : Nat) (j : Int) (hv : v ≠ v') (w : World) :
    Calls Tryz.prog 32 #[.agg (pfx v n k).toArray, .agg (pfx v' m j).toArray] w fun e w' => e = .returned (.int .i64 (cmpP v n k v' m j)) ∧ Chg [] w w' := by
  have HP := hid (show Blk ((w.alloc (.cells (pfx v n k).toArray 29)).alloc (.cells (pfx v' m j).toArray 29)) w.heap.size 29 (pfx v n k) from (Blk.new w 29 (pfx v n k).toArray).alloc _)
  have HQ := hid (show Blk ((w.alloc (.cells (pfx v n k).toArray 29)).alloc (.cells (pfx v' m j).toArray 29)) (w.heap.size + 1) 29 (pfx v' m j) from Blk.new_at _ 29 (pfx v' m j).toArray (by simp))
  have HC := hid (show Chg [] w ((w.alloc (.cells (pfx v n k).toArray 29)).alloc (.cells (pfx v' m j).toArray 29)) from ((Chg.refl _ _).alloc _).alloc _)
  have HF := hid (show cmpP v n k v' m j = if v then 1 else -1 by unfold cmpP; rw [if_pos hv])
  obtain ⟨w1, hw1⟩ : ∃ w1, w1 = (w.alloc (.cells (pfx v n k).toArray 29)).alloc (.cells (pfx v' m j).toArray 29) := ⟨_, rfl⟩
  go_enter Tryz.func32, Tryz.ntmps32
  go_upto_region 1 with fail
  rw [← hw1] at HP HQ HC ⊢
  clear hw1
  have q0 := HP.out.cell_of (pfx_bool v n k)
  have q1 := HQ.out.cell_of (pfx_bool v' m j)
  cases v <;> cases v' <;> first
    | exact absurd rfl hv
    | (clear hv
       go_wp2
       go_ret
       exact ⟨by rw [HF.out]; rfl, HC.out⟩)
set_option maxRecDepth 100000 in
set_option maxHeartbeats 4000000 in
theorem rcompare_on (v : Bool) (n : Nat) (k : Int) (m : Nat) (j : Int) (hn : n < 2 ^ 128) (hm : m < 2 ^ 128) (w : World) :
    Calls Tryz.prog 32 #[.agg (pfx v n k).toArray, .agg (pfx v m j).toArray] w fun e w' => e = .returned (.int .i64 (cmpP v n k v m j)) ∧ Chg [] w w' := by
  have HP := hid (show Blk ((w.alloc (.cells (pfx v n k).toArray 29)).alloc (.cells (pfx v m j).toArray 29)) w.heap.size 29 (pfx v n k) from (Blk.new w 29 (pfx v n k).toArray).alloc _)
  have HQ := hid (show Blk ((w.alloc (.cells (pfx v n k).toArray 29)).alloc (.cells (pfx v m j).toArray 29)) (w.heap.size + 1) 29 (pfx v m j) from Blk.new_at _ 29 (pfx v m j).toArray (by simp))
  have HC := hid (show Chg [] w ((w.alloc (.cells (pfx v n k).toArray 29)).alloc (.cells (pfx v m j).toArray 29)) from ((Chg.refl _ _).alloc _).alloc _)
  have HLT := hid (fun i (hi : i < 16) (h : ByteTo n m i) (hl : byteAt n i < byteAt m i) => byte_less hn hm hi h hl)
  have HGT := hid (fun i (hi : i < 16) (h : ByteTo n m i) (hl : byteAt m i < byteAt n i) => byte_less hm hn hi h.comm hl)
  have HEQ := hid (fun (h : ByteTo n m 16) => byte_all hn hm h)
  clear hn hm
  obtain ⟨w1, hw1⟩ : ∃ w1, w1 = (w.alloc (.cells (pfx v n k).toArray 29)).alloc (.cells (pfx v m j).toArray 29) := ⟨_, rfl⟩
  have hb : (v != v) = false := by cases v <;> rfl
  go_enter Tryz.func32, Tryz.ntmps32
  go_upto_region 1 with fail
  rw [← hw1] at HP HQ HC ⊢
  clear hw1
  have q0 := HP.out.cell_of (pfx_bool v n k)
  have q1 := HQ.out.cell_of (pfx_bool v m j)
  go_upto_region 6 with fail
  clear q0 q1 hb
  go_loopw [5] (fun iv wr => ∃ i : Nat, i ≤ 16 ∧ iv = .int .i64 i ∧ Blk wr w.heap.size 29 (pfx v n k) ∧ Blk wr (w.heap.size + 1) 29 (pfx v m j) ∧ Chg [] w wr ∧ ByteTo n m i) (fun iv _ => 16 - (RowKit.intOf iv).toNat)
  case atStart => exact ⟨0, by omega, rfl, HP.out, HQ.out, HC.out, fun j hj => by omega⟩
  case round =>
    obtain ⟨i, hi, rfl, hP, hQ, hC, hs⟩ := hrel
    clear HP HQ HC
    have HP := hid hP
    have HQ := hid hQ
    have HC := hid hC
    have HS := hid hs
    clear hP hQ hC hs
    by_cases hlt : i < 16
    · have i0 : (0 : Int) ≤ (i : Int) := by omega
      have i1 : (i : Int) < 16 := by omega
      obtain ⟨x, hx⟩ : ∃ x, x = byteAt n i := ⟨_, rfl⟩
      obtain ⟨y, hy⟩ : ∃ y, y = byteAt m i := ⟨_, rfl⟩
      have c1 := HP.out.cell_of (pfx_byt v n k i (by omega))
      have c2 := HQ.out.cell_of (pfx_byt v m j i (by omega))
      rw [← hx] at c1
      rw [← hy] at c2
      have HX := hid hx
      have HY := hid hy
      clear hx hy
      by_cases h1 : x < y
      · have d1 : decide (x < y) = true := decide_eq_true h1
        have fin := cmpP_less (v := v) (k := k) (j := j) (HLT.out i hlt HS.out (by rw [← HX.out, ← HY.out]; exact h1))
        have FIN := hid fin
        clear fin
        have ck1 := cell_regrown c1
        have ck2 := cell_regrown c2
        clear c1 c2
        go_upto_region 8 with fail
        refine wp_region_quiet_below (by kernel_rfl) (by kernel_rfl) ?_
        repeat (first | go_big_quiet_step (fail) | quiet_step (fail))
        refine wpQuiet_nil ?_
        intro w3 hw3
        have C3 := hid (chg_cls hw3)
        clear hw3 ck1 ck2
        go_wp2
        go_ret
        exact ⟨by rw [FIN.out]; rfl, HC.out.trans C3.out⟩
      · have d1 : decide (x < y) = false := decide_eq_false h1
        by_cases h2 : y < x
        · have d2 : decide (y < x) = true := decide_eq_true h2
          have fin := cmpP_more (v := v) (k := k) (j := j) (HGT.out i hlt HS.out (by rw [← HX.out, ← HY.out]; exact h2))
          have FIN := hid fin
          clear fin
          have ck1 := cell_regrown c1
          have ck2 := cell_regrown c2
          clear c1 c2
          go_upto_region 8 with fail
          refine wp_region_quiet_below (by kernel_rfl) (by kernel_rfl) ?_
          repeat (first | go_big_quiet_step (fail) | quiet_step (fail))
          refine wpQuiet_nil ?_
          intro w3 hw3
          have C3 := hid (chg_cls hw3)
          clear hw3 ck1 ck2
          go_upto_region 10 with fail
          have ck1 := cell_regrown ((HP.out.chg C3.out (by simp)).cell_of (pfx_byt v n k i (by omega)))
          have ck2 := cell_regrown ((HQ.out.chg C3.out (by simp)).cell_of (pfx_byt v m j i (by omega)))
          rw [← HX.out] at ck1
          rw [← HY.out] at ck2
          refine wp_region_quiet_below (by kernel_rfl) (by kernel_rfl) ?_
          repeat (first | go_big_quiet_step (fail) | quiet_step (fail))
          refine wpQuiet_nil ?_
          intro w4 hw4
          have C4 := hid (chg_cls hw4)
          clear hw4 ck1 ck2
          go_wp2
          go_ret
          exact ⟨by rw [FIN.out]; rfl, (HC.out.trans C3.out).trans C4.out⟩
        · have d2 : decide (y < x) = false := decide_eq_false h2
          have hxy : x = y := by omega
          have HXY := hid hxy
          clear hxy
          have ck1 := cell_regrown c1
          have ck2 := cell_regrown c2
          clear c1 c2
          go_upto_region 8 with fail
          refine wp_region_quiet_below (by kernel_rfl) (by kernel_rfl) ?_
          repeat (first | go_big_quiet_step (fail) | quiet_step (fail))
          refine wpQuiet_nil ?_
          intro w3 hw3
          have C3 := hid (chg_cls hw3)
          clear hw3 ck1 ck2
          go_upto_region 10 with fail
          have ck1 := cell_regrown ((HP.out.chg C3.out (by simp)).cell_of (pfx_byt v n k i (by omega)))
          have ck2 := cell_regrown ((HQ.out.chg C3.out (by simp)).cell_of (pfx_byt v m j i (by omega)))
          rw [← HX.out] at ck1
          rw [← HY.out] at ck2
          refine wp_region_quiet_below (by kernel_rfl) (by kernel_rfl) ?_
          repeat (first | go_big_quiet_step (fail) | quiet_step (fail))
          refine wpQuiet_nil ?_
          intro w4 hw4
          have C4 := hid (chg_cls hw4)
          clear hw4 ck1 ck2
          go_wp2
          go_roundw
          case measure => simp [RowKit.intOf]; omega
          case rel =>
            refine ⟨i + 1, by omega, by go_num, (HP.out.chg C3.out (by simp)).chg C4.out (by simp), (HQ.out.chg C3.out (by simp)).chg C4.out (by simp), (HC.out.trans C3.out).trans C4.out, fun j hj => ?_⟩
            by_cases hji : j = i
            · rw [hji, ← HX.out, ← HY.out, HXY.out]
            · exact HS.out j (by omega)
    · have hi16 : i = 16 := by omega
      subst hi16
      have hnm := HEQ.out HS.out
      subst hnm
      have FIN := hid (cmpP_same (v := v) (n := n) (k := k) (j := j))
      have b1 := HP.out.cell_of (pfx_bits v n k)
      have b2 := HQ.out.cell_of (pfx_bits v n j)
      by_cases h1 : k < j
      · go_wp2
        go_ret
        exact ⟨by rw [FIN.out, if_pos h1]; rfl, HC.out⟩
      · by_cases h2 : j < k
        · go_wp2
          go_ret
          exact ⟨by rw [FIN.out, if_neg (by omega), if_pos h2]; rfl, HC.out⟩
        · go_wp2
          go_ret
          exact ⟨by rw [FIN.out, if_neg (by omega), if_neg (by omega)]; rfl, HC.out⟩
theorem rcompare_N (v : Bool) (n : Nat) (k : Int) (v' : Bool) (m : Nat) (j : Int) (hn : n < 2 ^ 128) (hm : m < 2 ^ 128) (w : World) :
    Calls Tryz.prog 32 #[.agg (pfx v n k).toArray, .agg (pfx v' m j).toArray] w fun e w' => e = .returned (.int .i64 (cmpP v n k v' m j)) ∧ Chg [] w w' := by
  by_cases h : v = v'
  · subst h; exact rcompare_on v n k m j hn hm w
  · exact rcompare_off v n k v' m j h w
end Go.Proofs.YtgpiapmbbnngpaaGreatDoor

/- The reference: Halves, walked. -/
namespace Go.Proofs.YtgpiapmbbnngpaaGreatDoor
open Go.RowKit Go.Lib Go.Sort

theorem yieldsIf_bd29 {ops : Array Oper} {S : World → Prop} {op : Oper} {a : Act} (hw : Region.wanted op (yielded ops a.tmps) = true) (x y : Operand) (ho : op.op = .build 29 #[(0, x), (1, y)]) (v : Bool) (n : Nat) (k : Int)
    (hx : a.eval x = .agg (adr v n).toArray) (hy : a.eval y = .int .i64 k) : YieldsIf Tryz.prog ops S op (.agg (pfx v n k).toArray) a :=
  .inl ⟨hw, fun W _ => by
    have e : Tryz.prog.built 29 ((#[(0, x), (1, y)] : Array (Nat × Operand)).map fun (i, z) => (i, a.eval z)).toList = some (pfx v n k).toArray := by
      simp only [List.map_toArray, List.map_cons, List.map_nil, hx, hy]
      exact built29 v n k
    unfold execOp
    simp only [ho, Sem.run_bind, run_build W 29 _ _ e, Result.andThen_ok]
    rfl⟩

set_option maxHeartbeats 4000000 in
set_option maxRecDepth 100000 in
theorem rhalves_no (v : Bool) (n : Nat) (k : Int) (hn : n < 2 ^ 128) (h : okP v n k = false) (w : World) :
    Calls Tryz.prog 40 #[.agg (pfx v n k).toArray] w fun e w' => e = .returned (.tuple #[.agg (pfx false 0 0).toArray, .agg (pfx false 0 0).toArray, .int .i64 151]) ∧ Chg [] w w' := by
  have HP := hid (show Blk (((w.alloc (.cells (pfx v n k).toArray 29)).alloc (.cells zpfx 29)).alloc (.cells zpfx 29)) w.heap.size 29 (pfx v n k) from ((Blk.new w 29 (pfx v n k).toArray).alloc _).alloc _)
  have HA := hid (show Blk (((w.alloc (.cells (pfx v n k).toArray 29)).alloc (.cells zpfx 29)).alloc (.cells zpfx 29)) (w.heap.size + 1) 29 zpfx.toList from (Blk.new_at (w.alloc (.cells (pfx v n k).toArray 29)) 29 zpfx (by simp)).alloc _)
  have HB := hid (show Blk (((w.alloc (.cells (pfx v n k).toArray 29)).alloc (.cells zpfx 29)).alloc (.cells zpfx 29)) (w.heap.size + 2) 29 zpfx.toList from Blk.new_at _ 29 zpfx (by simp))
  have HC := hid ((((Chg.refl [] w).alloc (.cells (pfx v n k).toArray 29)).alloc (.cells zpfx 29)).alloc (.cells zpfx 29))
  have HK := hid (rcheck_N v n k hn)
  rw [show errP v n k = 151 by unfold errP; rw [h]; rfl] at HK
  go_enter Tryz.func40, Tryz.ntmps40
  go_wp2_with (first
    | (go_at_call 31; refine (HK.out _).mono ?_; rintro e w2 ⟨rfl, C2⟩)
    | (refine ld29 rfl _ rfl w.heap.size rfl 29 v n k HP.out ?_)
    | (refine st29z rfl _ _ rfl (w.heap.size + 1) rfl rfl 29 _ (HA.out.chg C2 (by simp)) rfl ?_)
    | (refine st29z rfl _ _ rfl (w.heap.size + 2) rfl rfl 29 _ ((HB.out.chg C2 (by simp)).chg (S := [w.heap.size + 1]) ((Chg.refl _ _).setRow (g := w.heap.size + 1) (.inl (by simp)) _) (by simp)) rfl ?_))
  have RA := ((HA.out.chg C2 (by simp)).row (pfx false 0 0)).chg (S := [w.heap.size + 2]) ((Chg.refl _ _).setRow (g := w.heap.size + 2) (.inl (by simp)) (pfx false 0 0).toArray) (by simp)
  have RB := ((HB.out.chg C2 (by simp)).chg (S := [w.heap.size + 1]) ((Chg.refl _ _).setRow (g := w.heap.size + 1) (.inl (by simp)) (pfx false 0 0).toArray) (by simp)).row (pfx false 0 0)
  refine bodyPost_ret (rs29tt rfl _ _ (w.heap.size + 1) (w.heap.size + 2) false 0 0 false 0 0 29 29 _ rfl rfl rfl RA RB) rfl ⟨rfl, ?_⟩
  exact ((HC.out.trans C2).setRow (.inr (by omega)) _).setRow (.inr (by omega)) _
set_option maxHeartbeats 4000000 in
set_option maxRecDepth 100000 in
theorem rhalves_yes (v : Bool) (n : Nat) (K : Nat) (hn : n < 2 ^ 128) (h : okP v n K = true) (w : World) :
    Calls Tryz.prog 40 #[.agg (pfx v n K).toArray] w fun e w' => e = .returned (.tuple #[.agg (pfx (halP v n K).1.1 (halP v n K).1.2.1 (halP v n K).1.2.2).toArray, .agg (pfx (halP v n K).2.1.1 (halP v n K).2.1.2.1 (halP v n K).2.1.2.2).toArray, .int .i64 (halP v n K).2.2]) ∧ Chg [] w w' := by
  have HP := hid (show Blk (((w.alloc (.cells (pfx v n K).toArray 29)).alloc (.cells zpfx 29)).alloc (.cells zpfx 29)) w.heap.size 29 (pfx v n K) from ((Blk.new w 29 (pfx v n K).toArray).alloc _).alloc _)
  have HA := hid (show Blk (((w.alloc (.cells (pfx v n K).toArray 29)).alloc (.cells zpfx 29)).alloc (.cells zpfx 29)) (w.heap.size + 1) 29 zpfx.toList from (Blk.new_at (w.alloc (.cells (pfx v n K).toArray 29)) 29 zpfx (by simp)).alloc _)
  have HB := hid (show Blk (((w.alloc (.cells (pfx v n K).toArray 29)).alloc (.cells zpfx 29)).alloc (.cells zpfx 29)) (w.heap.size + 2) 29 zpfx.toList from Blk.new_at _ 29 zpfx (by simp))
  have HC := hid ((((Chg.refl [] w).alloc (.cells (pfx v n K).toArray 29)).alloc (.cells zpfx 29)).alloc (.cells zpfx 29))
  have HK := hid (rcheck_N v n K hn)
  rw [show errP v n K = 0 by unfold errP; rw [h]; rfl] at HK
  have HWd := hid (cls_of (width3_N v n))
  have hb : (K : Int) ≤ wid v := by
    unfold okP at h
    simp only [Bool.and_eq_true, decide_eq_true_eq] at h
    exact h.1.2
  have hw128 := wid_le v
  by_cases hq : K = wid v
  · subst hq
    have HF := hid (show halP v n (wid v) = ((false, 0, 0), (false, 0, 0), 5) by unfold halP; rw [if_pos h, if_pos rfl])
    rw [HF.out]
    clear hb hw128
    go_enter Tryz.func40, Tryz.ntmps40
    go_wp2_with (first
      | (go_at_call 31; refine (HK.out _).mono ?_; rintro e w2 ⟨rfl, C2⟩)
      | (refine ld29 rfl _ rfl w.heap.size rfl 29 v n (wid v) HP.out ?_))
    have P1 := HP.out.chg C2 (by simp)
    have R := P1.pfxR
    have ck := cell_regrown (P1.cell_of (pfx_bits v n (wid v)))
    refine wp_region_quiet_below (by kernel_rfl) (by kernel_rfl) ?_
    repeat (first | (go_big_quiet_want; refine quiet_load 24 _ rfl w.heap.size 0 rfl (adr v n) _ R.adr Tryz.underlying24 rfl (size24.trans (by rw [adr_length])) ?_; go_big_quiet_on) | go_big_quiet_step ((go_at_call 49; with_reducible exact HWd.out _ _ _)) | quiet_step ((go_at_call 49; with_reducible exact HWd.out _ _ _)))
    refine wpQuiet_nil ?_
    intro w3 hw3
    have C3 := chg_cls hw3
    clear hw3 R ck
    have A3 := hid ((HA.out.chg C2 (by simp)).chg C3 (by simp))
    have B3 := hid ((HB.out.chg C2 (by simp)).chg C3 (by simp))
    go_wp2_with (first
      | (refine st29z rfl _ _ rfl (w.heap.size + 1) rfl rfl 29 _ A3.out rfl ?_)
      | (refine st29z rfl _ _ rfl (w.heap.size + 2) rfl rfl 29 _ (B3.out.chg (S := [w.heap.size + 1]) ((Chg.refl _ _).setRow (g := w.heap.size + 1) (.inl (by simp)) _) (by simp)) rfl ?_))
    have RA := (A3.out.row (pfx false 0 0)).chg (S := [w.heap.size + 2]) ((Chg.refl _ _).setRow (g := w.heap.size + 2) (.inl (by simp)) (pfx false 0 0).toArray) (by simp)
    have RB := (B3.out.chg (S := [w.heap.size + 1]) ((Chg.refl _ _).setRow (g := w.heap.size + 1) (.inl (by simp)) (pfx false 0 0).toArray) (by simp)).row (pfx false 0 0)
    refine bodyPost_ret (rs29tt rfl _ _ (w.heap.size + 1) (w.heap.size + 2) false 0 0 false 0 0 29 29 _ rfl rfl rfl RA RB) rfl ⟨rfl, ?_⟩
    exact (((HC.out.trans C2).trans C3).setRow (.inr (by omega)) _).setRow (.inr (by omega)) _
  · have HF := hid (show halP v n K = ((v, n, (K : Int) + 1), (v, highN n K, (K : Int) + 1), 0) by unfold halP; rw [if_pos h, if_neg (by omega)]; rfl)
    rw [HF.out]
    have d2 : ((K : Int) == (wid v : Int)) = false := by rw [beq_eq_false_iff_ne]; omega
    have k127 : (K : Int) ≤ 127 := by omega
    have K127 : K < 128 := by omega
    have HT := hid (with1_N v n K K127)
    clear hb hw128 hq
    go_enter Tryz.func40, Tryz.ntmps40
    go_wp2_with (first
      | (go_at_call 31; refine (HK.out _).mono ?_; rintro e w2 ⟨rfl, C2⟩)
      | (refine ld29 rfl _ rfl w.heap.size rfl 29 v n K HP.out ?_))
    have P1 := HP.out.chg C2 (by simp)
    have R := P1.pfxR
    have ck := cell_regrown (P1.cell_of (pfx_bits v n K))
    refine wp_region_quiet_below (by kernel_rfl) (by kernel_rfl) ?_
    repeat (first | (go_big_quiet_want; refine quiet_load 24 _ rfl w.heap.size 0 rfl (adr v n) _ R.adr Tryz.underlying24 rfl (size24.trans (by rw [adr_length])) ?_; go_big_quiet_on) | go_big_quiet_step ((go_at_call 49; with_reducible exact HWd.out _ _ _)) | quiet_step ((go_at_call 49; with_reducible exact HWd.out _ _ _)))
    refine wpQuiet_nil ?_
    intro w3 hw3
    have C3 := chg_cls hw3
    clear hw3 R ck
    have P3 := hid (P1.chg C3 (by simp))
    have A3 := hid ((HA.out.chg C2 (by simp)).chg C3 (by simp))
    have B3 := hid ((HB.out.chg C2 (by simp)).chg C3 (by simp))
    have D3 := hid ((HC.out.trans C2).trans C3)
    clear P1 C2 C3 HP HA HB HC HK HWd
    go_upto_region 5 with fail
    have ck3 := P3.out.cell_of (pfx_bits v n K)
    have e1 : IntKind.i64.wrap ((K : Int) + 1) = (K : Int) + 1 := by rw [IntKind.wrap_i64]; omega
    obtain ⟨w4, hw4⟩ : ∃ w4, w4 = w3.drew := ⟨_, rfl⟩
    have P4 : Blk w4 w.heap.size 29 (pfx v n K) := by rw [hw4]; exact P3.out.drewN 1
    have A4 : Blk w4 (w.heap.size + 1) 29 zpfx.toList := by rw [hw4]; exact A3.out.drewN 1
    have B4 : Blk w4 (w.heap.size + 2) 29 zpfx.toList := by rw [hw4]; exact B3.out.drewN 1
    have D4 : Chg [] w w4 := by rw [hw4]; exact D3.out.drew
    have P4 := hid P4
    have A4 := hid A4
    have B4 := hid B4
    have D4 := hid D4
    refine wp_region_held (S := fun W => Blk W w.heap.size 29 (pfx v n K)) (by kernel_rfl) ?_
    change wpAnyH _ _ _ _ _ _ _ _ (World.drew _)
    rw [← hw4]
    clear hw4 P3 A3 B3 D3 ck3
    refine wpAnyH_take (i := 0) (v := .pointer (some ⟨w.heap.size, 0, none⟩)) rfl (by kernel_rfl) (by kernel_rfl) (by kernel_rfl) (fun _ _ _ h => h) (Or.inl ⟨by kernel_rfl, fun W hW => by (have hc := Blk.cell_of hW (pfx_bits v n K)); go_simp⟩) (by exact P4.out) ?_
    refine wpAnyH_take (i := 1) (v := .agg (adr v n).toArray) rfl (by kernel_rfl) (by kernel_rfl) (by kernel_rfl) (fun _ _ _ h => h) (yieldsIf_load_mid (by kernel_rfl) 24 _ rfl w.heap.size 0 (by kernel_rfl) (adr v n) _ (fun W (hW : Blk W w.heap.size 29 (pfx v n K)) j x hx => hW.cell_of (by rw [Nat.zero_add]; exact pfx_adr v n K _ _ hx)) Tryz.underlying24 rfl (size24.trans (by rw [adr_length]))) (by exact P4.out) ?_
    refine wpAnyH_take (i := 2) (v := .pointer (some ⟨w.heap.size, 17, none⟩)) rfl (by kernel_rfl) (by kernel_rfl) (by kernel_rfl) (fun _ _ _ h => h) (Or.inl ⟨by kernel_rfl, fun W hW => by (have hc := Blk.cell_of hW (pfx_bits v n K)); go_simp⟩) (by exact P4.out) ?_
    refine wpAnyH_take (i := 3) (v := .int .i64 K) rfl (by kernel_rfl) (by kernel_rfl) (by kernel_rfl) (fun _ _ _ h => h) (Or.inl ⟨by kernel_rfl, fun W hW => by (have hc := Blk.cell_of hW (pfx_bits v n K)); go_simp⟩) (by exact P4.out) ?_
    refine wpAnyH_take (i := 4) (v := .int .i64 ((K : Int) + 1)) rfl (by kernel_rfl) (by kernel_rfl) (by kernel_rfl) (fun _ _ _ h => h) (Or.inl ⟨by kernel_rfl, fun W hW => by (have hc := Blk.cell_of hW (pfx_bits v n K)); go_simp⟩) (by exact P4.out) ?_
    refine wpAnyH_take (i := 5) (v := .agg (pfx v n ((K : Int) + 1)).toArray) rfl (by kernel_rfl) (by kernel_rfl) (by kernel_rfl) (fun _ _ _ h => h) (yieldsIf_bd29 (by kernel_rfl) _ _ rfl v n ((K : Int) + 1) (by kernel_rfl) (by kernel_rfl)) (by exact P4.out) ?_
    refine wpAnyH_take (i := 6) (v := .pointer (some ⟨w.heap.size, 0, none⟩)) rfl (by kernel_rfl) (by kernel_rfl) (by kernel_rfl) (fun _ _ _ h => h) (Or.inl ⟨by kernel_rfl, fun W hW => by (have hc := Blk.cell_of hW (pfx_bits v n K)); go_simp⟩) (by exact P4.out) ?_
    refine wpAnyH_take (i := 7) (v := .agg (adr v n).toArray) rfl (by kernel_rfl) (by kernel_rfl) (by kernel_rfl) (fun _ _ _ h => h) (yieldsIf_load_mid (by kernel_rfl) 24 _ rfl w.heap.size 0 (by kernel_rfl) (adr v n) _ (fun W (hW : Blk W w.heap.size 29 (pfx v n K)) j x hx => hW.cell_of (by rw [Nat.zero_add]; exact pfx_adr v n K _ _ hx)) Tryz.underlying24 rfl (size24.trans (by rw [adr_length]))) (by exact P4.out) ?_
    refine wpAnyH_take (i := 8) (v := .pointer (some ⟨w.heap.size, 17, none⟩)) rfl (by kernel_rfl) (by kernel_rfl) (by kernel_rfl) (fun _ _ _ h => h) (Or.inl ⟨by kernel_rfl, fun W hW => by (have hc := Blk.cell_of hW (pfx_bits v n K)); go_simp⟩) (by exact P4.out) ?_
    refine wpAnyH_take (i := 9) (v := .int .i64 K) rfl (by kernel_rfl) (by kernel_rfl) (by kernel_rfl) (fun _ _ _ h => h) (Or.inl ⟨by kernel_rfl, fun W hW => by (have hc := Blk.cell_of hW (pfx_bits v n K)); go_simp⟩) (by exact P4.out) ?_
    refine wpAnyH_take (i := 11) (v := .pointer (some ⟨w.heap.size, 17, none⟩)) rfl (by kernel_rfl) (by kernel_rfl) (by kernel_rfl) (fun _ _ _ h => h) (Or.inl ⟨by kernel_rfl, fun W hW => by (have hc := Blk.cell_of hW (pfx_bits v n K)); go_simp⟩) (by exact P4.out) ?_
    refine wpAnyH_take (i := 12) (v := .int .i64 K) rfl (by kernel_rfl) (by kernel_rfl) (by kernel_rfl) (fun _ _ _ h => h) (Or.inl ⟨by kernel_rfl, fun W hW => by (have hc := Blk.cell_of hW (pfx_bits v n K)); go_simp⟩) (by exact P4.out) ?_
    refine wpAnyH_take (i := 13) (v := .int .i64 ((K : Int) + 1)) rfl (by kernel_rfl) (by kernel_rfl) (by kernel_rfl) (fun _ _ _ h => h) (Or.inl ⟨by kernel_rfl, fun W hW => by (have hc := Blk.cell_of hW (pfx_bits v n K)); go_simp⟩) (by exact P4.out) ?_
    refine wpAnyH_all (rs := [10]) (by kernel_rfl) (by simp) ?_
    refine allH_cons rfl (fun KK hK => ?_) allH_nil
    go_simp
    go_at_call 62
    refine (HT.out _).mono ?_
    rintro e c1 ⟨rfl, Cq⟩
    have P5 := hid (P4.out.chg Cq (by simp))
    have A5 := hid (A4.out.chg Cq (by simp))
    have B5 := hid (B4.out.chg Cq (by simp))
    have D5 := hid (D4.out.trans Cq)
    clear P4 A4 B4 D4 Cq
    refine hK _ _ ⟨P5.out, ?_⟩
    clear hK KK
    refine wpAnyH_take (i := 14) (v := .agg (pfx v (highN n K) ((K : Int) + 1)).toArray) rfl (by kernel_rfl) (by kernel_rfl) (by kernel_rfl) (fun _ _ _ h => h) (yieldsIf_bd29 (by kernel_rfl) _ _ rfl v (highN n K) ((K : Int) + 1) (by kernel_rfl) (by kernel_rfl)) (by exact P5.out) ?_
    have P6 := hid (P5.out.chg (S := [w.heap.size + 1]) ((Chg.refl _ _).setRow (g := w.heap.size + 1) (.inl (by simp)) (pfx v n ((K : Int) + 1)).toArray) (by simp))
    have A6 := hid (A5.out.row (pfx v n ((K : Int) + 1)))
    have B6 := hid (B5.out.chg (S := [w.heap.size + 1]) ((Chg.refl _ _).setRow (g := w.heap.size + 1) (.inl (by simp)) (pfx v n ((K : Int) + 1)).toArray) (by simp))
    have D6 := hid (D5.out.setRow (g := w.heap.size + 1) (.inr (by omega)) (pfx v n ((K : Int) + 1)).toArray)
    refine wpAnyH_all (rs := [15]) (by kernel_rfl) (by simp) ?_
    refine allH_cons rfl (fun KK hK => ?_) allH_nil
    refine step_st29 rfl _ _ rfl (w.heap.size + 1) v n ((K : Int) + 1) (by kernel_rfl) (by kernel_rfl) 29 _ A5.out rfl ?_
    refine hK _ _ ⟨P6.out, ?_⟩
    clear hK KK A5 B5 D5 P5
    have P7 := hid (P6.out.chg (S := [w.heap.size + 2]) ((Chg.refl _ _).setRow (g := w.heap.size + 2) (.inl (by simp)) (pfx v (highN n K) ((K : Int) + 1)).toArray) (by simp))
    have A7 := hid (A6.out.chg (S := [w.heap.size + 2]) ((Chg.refl _ _).setRow (g := w.heap.size + 2) (.inl (by simp)) (pfx v (highN n K) ((K : Int) + 1)).toArray) (by simp))
    have B7 := hid (B6.out.row (pfx v (highN n K) ((K : Int) + 1)))
    have D7 := hid (D6.out.setRow (g := w.heap.size + 2) (.inr (by omega)) (pfx v (highN n K) ((K : Int) + 1)).toArray)
    refine wpAnyH_all (rs := [16]) (by kernel_rfl) (by simp) ?_
    refine allH_cons rfl (fun KK hK => ?_) allH_nil
    refine step_st29 rfl _ _ rfl (w.heap.size + 2) v (highN n K) ((K : Int) + 1) (by kernel_rfl) (by kernel_rfl) 29 _ B6.out rfl ?_
    refine hK _ _ ⟨P7.out, ?_⟩
    clear hK KK A6 B6 D6 P6
    refine wpAnyH_take (i := 17) (v := .int .i64 0) rfl (by kernel_rfl) (by kernel_rfl) (by kernel_rfl) (fun _ _ _ h => h) (Or.inl ⟨by kernel_rfl, fun W hW => by (have hc := Blk.cell_of hW (pfx_bits v n K)); go_simp⟩) (by exact P7.out) ?_
    refine wpAnyH_done (by kernel_rfl) ?_ _
    go_wp2_with fail
    refine bodyPost_ret (rs29tt rfl _ _ (w.heap.size + 1) (w.heap.size + 2) v n ((K : Int) + 1) v (highN n K) ((K : Int) + 1) 29 29 _ rfl rfl rfl (by exact A7.out) (by exact B7.out)) rfl ⟨rfl, ?_⟩
    exact D7.out
/-- Halves, of whatever prefix. -/
theorem rhalves_N (v : Bool) (n : Nat) (k : Int) (hn : n < 2 ^ 128) (w : World) :
    Calls Tryz.prog 40 #[.agg (pfx v n k).toArray] w fun e w' => e = .returned (.tuple #[.agg (pfx (halP v n k).1.1 (halP v n k).1.2.1 (halP v n k).1.2.2).toArray, .agg (pfx (halP v n k).2.1.1 (halP v n k).2.1.2.1 (halP v n k).2.1.2.2).toArray, .int .i64 (halP v n k).2.2]) ∧ Chg [] w w' := by
  cases h : okP v n k with
  | false =>
    rw [show halP v n k = ((false, 0, 0), (false, 0, 0), 151) by unfold halP; rw [h]; rfl]
    exact rhalves_no v n k hn h w
  | true =>
    obtain ⟨K, rfl⟩ : ∃ K : Nat, k = (K : Int) := by
      unfold okP at h
      simp only [Bool.and_eq_true, decide_eq_true_eq] at h
      exact ⟨k.toNat, by omega⟩
    exact rhalves_yes v n K hn h w
end Go.Proofs.YtgpiapmbbnngpaaGreatDoor
