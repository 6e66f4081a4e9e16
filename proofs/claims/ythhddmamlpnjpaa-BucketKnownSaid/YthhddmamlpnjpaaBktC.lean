/- Check of the bucket and of the reference, and the bucket's word on ticks, walked. -/
import Derived.Test.YthhddmamlpnjpaaBktB
import Derived.Deep.LoopGhost
namespace Go.Proofs.Ythhddmamlpnjpaa
open Go.RowKit Go.Lib

/-- A bucket that may be. -/
def OkB (p q r : Nat) : Prop := 1 ≤ p ∧ p ≤ 65536 ∧ 1 ≤ q ∧ q ≤ 65536 ∧ 1 ≤ r ∧ r ≤ 1048576
instance (p q r : Nat) : Decidable (OkB p q r) := by unfold OkB; exact inferInstance
def checkV (p q r : Nat) : Int := if OkB p q r then 0 else 2
theorem bad_cases {p q r : Nat} (h : ¬ OkB p q r) : p < 1 ∨ (1 ≤ p ∧ 65536 < p) ∨ (1 ≤ p ∧ p ≤ 65536 ∧ q < 1) ∨ (1 ≤ p ∧ p ≤ 65536 ∧ 1 ≤ q ∧ 65536 < q) ∨ (1 ≤ p ∧ p ≤ 65536 ∧ 1 ≤ q ∧ q ≤ 65536 ∧ r < 1) ∨ (1 ≤ p ∧ p ≤ 65536 ∧ 1 ≤ q ∧ q ≤ 65536 ∧ 1 ≤ r ∧ 1048576 < r) := by
  unfold OkB at h; omega

set_option maxHeartbeats 1000000 in
theorem check_any (p q r : Nat) (w : World) : Calls Try.prog 22 #[.agg #[.int .u64 (p : Int), .int .u64 (q : Int), .int .u64 (r : Int)]] w fun e w' => e = .returned (.int .i64 (checkV p q r)) ∧ Chg [] w w' := by
  by_cases hok : OkB p q r
  · have hv := hid (show checkV p q r = 0 by unfold checkV; rw [if_pos hok])
    obtain ⟨a1, a2, a3, a4, a5, a6⟩ := hok
    have b1 : (1 : Int) ≤ (p : Int) := by omega
    have b2 : (p : Int) ≤ 65536 := by omega
    have b3 : (1 : Int) ≤ (q : Int) := by omega
    have b4 : (q : Int) ≤ 65536 := by omega
    have b5 : (1 : Int) ≤ (r : Int) := by omega
    have b6 : (r : Int) ≤ 1048576 := by omega
    clear a1 a2 a3 a4 a5 a6
    go_enter Try.func22, Try.ntmps22
    go_wp2
    go_ret
    exact ⟨by rw [hv.out]; rfl, (Chg.refl _ _).alloc _⟩
  · have hv := hid (show checkV p q r = 2 by unfold checkV; rw [if_neg hok])
    have hb := bad_cases hok
    clear hok
    rcases hb with hb | hb | hb | hb | hb | hb
    · have b1 : (p : Int) < 1 := by omega
      clear hb
      go_enter Try.func22, Try.ntmps22
      go_wp2
      go_ret
      exact ⟨by rw [hv.out]; rfl, (Chg.refl _ _).alloc _⟩
    · have b1 : (1 : Int) ≤ (p : Int) := by omega
      have b2 : (65536 : Int) < (p : Int) := by omega
      clear hb
      go_enter Try.func22, Try.ntmps22
      go_wp2
      go_ret
      exact ⟨by rw [hv.out]; rfl, (Chg.refl _ _).alloc _⟩
    · have b1 : (1 : Int) ≤ (p : Int) := by omega
      have b2 : (p : Int) ≤ 65536 := by omega
      have b3 : (q : Int) < 1 := by omega
      clear hb
      go_enter Try.func22, Try.ntmps22
      go_wp2
      go_ret
      exact ⟨by rw [hv.out]; rfl, (Chg.refl _ _).alloc _⟩
    · have b1 : (1 : Int) ≤ (p : Int) := by omega
      have b2 : (p : Int) ≤ 65536 := by omega
      have b3 : (1 : Int) ≤ (q : Int) := by omega
      have b4 : (65536 : Int) < (q : Int) := by omega
      clear hb
      go_enter Try.func22, Try.ntmps22
      go_wp2
      go_ret
      exact ⟨by rw [hv.out]; rfl, (Chg.refl _ _).alloc _⟩
    · have b1 : (1 : Int) ≤ (p : Int) := by omega
      have b2 : (p : Int) ≤ 65536 := by omega
      have b3 : (1 : Int) ≤ (q : Int) := by omega
      have b4 : (q : Int) ≤ 65536 := by omega
      have b5 : (r : Int) < 1 := by omega
      clear hb
      go_enter Try.func22, Try.ntmps22
      go_wp2
      go_ret
      exact ⟨by rw [hv.out]; rfl, (Chg.refl _ _).alloc _⟩
    · have b1 : (1 : Int) ≤ (p : Int) := by omega
      have b2 : (p : Int) ≤ 65536 := by omega
      have b3 : (1 : Int) ≤ (q : Int) := by omega
      have b4 : (q : Int) ≤ 65536 := by omega
      have b5 : (1 : Int) ≤ (r : Int) := by omega
      have b6 : (1048576 : Int) < (r : Int) := by omega
      clear hb
      go_enter Try.func22, Try.ntmps22
      go_wp2
      go_ret
      exact ⟨by rw [hv.out]; rfl, (Chg.refl _ _).alloc _⟩

set_option maxHeartbeats 1000000 in
theorem rCheck_any (p q r : Nat) (w : World) : Calls Try.prog 23 #[.agg #[.int .u64 (p : Int), .int .u64 (q : Int), .int .u64 (r : Int)]] w fun e w' => e = .returned (.int .i64 (checkV p q r)) ∧ Chg [] w w' := by
  by_cases hok : OkB p q r
  · have hv := hid (show checkV p q r = 0 by unfold checkV; rw [if_pos hok])
    obtain ⟨a1, a2, a3, a4, a5, a6⟩ := hok
    have b1 : (1 : Int) ≤ (p : Int) := by omega
    have b2 : (p : Int) ≤ 65536 := by omega
    have b3 : (1 : Int) ≤ (q : Int) := by omega
    have b4 : (q : Int) ≤ 65536 := by omega
    have b5 : (1 : Int) ≤ (r : Int) := by omega
    have b6 : (r : Int) ≤ 1048576 := by omega
    clear a1 a2 a3 a4 a5 a6
    go_enter Try.func23, Try.ntmps23
    go_wp2
    go_ret
    exact ⟨by rw [hv.out]; rfl, (Chg.refl _ _).alloc _⟩
  · have hv := hid (show checkV p q r = 2 by unfold checkV; rw [if_neg hok])
    have hb := bad_cases hok
    clear hok
    rcases hb with hb | hb | hb | hb | hb | hb
    · have b1 : (p : Int) < 1 := by omega
      clear hb
      go_enter Try.func23, Try.ntmps23
      go_wp2
      go_ret
      exact ⟨by rw [hv.out]; rfl, (Chg.refl _ _).alloc _⟩
    · have b1 : (1 : Int) ≤ (p : Int) := by omega
      have b2 : (65536 : Int) < (p : Int) := by omega
      clear hb
      go_enter Try.func23, Try.ntmps23
      go_wp2
      go_ret
      exact ⟨by rw [hv.out]; rfl, (Chg.refl _ _).alloc _⟩
    · have b1 : (1 : Int) ≤ (p : Int) := by omega
      have b2 : (p : Int) ≤ 65536 := by omega
      have b3 : (q : Int) < 1 := by omega
      clear hb
      go_enter Try.func23, Try.ntmps23
      go_wp2
      go_ret
      exact ⟨by rw [hv.out]; rfl, (Chg.refl _ _).alloc _⟩
    · have b1 : (1 : Int) ≤ (p : Int) := by omega
      have b2 : (p : Int) ≤ 65536 := by omega
      have b3 : (1 : Int) ≤ (q : Int) := by omega
      have b4 : (65536 : Int) < (q : Int) := by omega
      clear hb
      go_enter Try.func23, Try.ntmps23
      go_wp2
      go_ret
      exact ⟨by rw [hv.out]; rfl, (Chg.refl _ _).alloc _⟩
    · have b1 : (1 : Int) ≤ (p : Int) := by omega
      have b2 : (p : Int) ≤ 65536 := by omega
      have b3 : (1 : Int) ≤ (q : Int) := by omega
      have b4 : (q : Int) ≤ 65536 := by omega
      have b5 : (r : Int) < 1 := by omega
      clear hb
      go_enter Try.func23, Try.ntmps23
      go_wp2
      go_ret
      exact ⟨by rw [hv.out]; rfl, (Chg.refl _ _).alloc _⟩
    · have b1 : (1 : Int) ≤ (p : Int) := by omega
      have b2 : (p : Int) ≤ 65536 := by omega
      have b3 : (1 : Int) ≤ (q : Int) := by omega
      have b4 : (q : Int) ≤ 65536 := by omega
      have b5 : (1 : Int) ≤ (r : Int) := by omega
      have b6 : (1048576 : Int) < (r : Int) := by omega
      clear hb
      go_enter Try.func23, Try.ntmps23
      go_wp2
      go_ret
      exact ⟨by rw [hv.out]; rfl, (Chg.refl _ _).alloc _⟩

def u64n (xs : List Nat) : List Value := xs.map fun (x : Nat) => Value.int .u64 (Int.ofNat x)
theorem u64n_len (xs : List Nat) : (u64n xs).length = xs.length := by simp [u64n]
theorem u64n_get (xs : List Nat) (i : Nat) (x : Nat) (h : xs[i]? = some x) : (u64n xs)[i]? = some (.int .u64 (x : Int)) := by simp [u64n, h]

/-- A bucket, and ticks. -/
def mayV (p q r : Nat) (ts : List Nat) : Int := if OkB p q r then (if ts.all (fun t => decide (t ≤ 1099511627776)) then 0 else 5) else 2

set_option maxHeartbeats 1000000 in
theorem may_any (p q r : Nat) (A : Option Addr) (n c : Nat) (ts : List Nat) (w : World) (hO : Own w 22 1 (.slice A n c) n (u64n ts)) (hl : ts.length = n) :
    Calls Try.prog 30 #[.agg #[.int .u64 (p : Int), .int .u64 (q : Int), .int .u64 (r : Int)], .slice A n c] w fun e w' => e = .returned (.int .i64 (mayV p q r ts)) ∧ Chg [] w w' := by
  have hnm : n ≤ 9223372036854775807 := by
    obtain ⟨_, _, _, h1, h2⟩ := hO.form
    unfold maxLen at h2
    omega
  by_cases hok : OkB p q r
  · have hc : checkV p q r = 0 := by unfold checkV; rw [if_pos hok]
    have HOK := hid hok
    clear hok
    go_enter Try.func30, Try.ntmps30
    go_wp2_with (go_at_call 22; refine (check_any p q r _).mono ?_; rw [hc]; rintro e w1 ⟨rfl, hC1⟩)
    go_loopw [15] (fun i wr => ∃ k : Nat, k ≤ n ∧ i = .int .i64 k ∧ Chg [] w wr ∧ Hid (∀ t ∈ ts.take k, t ≤ 1099511627776)) (fun i _ => n - (intOf i).toNat)
    case atStart => exact ⟨0, Nat.zero_le _, rfl, ((Chg.refl [] w).alloc _).trans hC1, hid (by simp)⟩
    case round =>
      obtain ⟨k, hk, rfl, hCr, hall⟩ := hrel
      by_cases hlt : k < n
      · have hOr := hO.chg hCr (by simp)
        obtain ⟨g, o, c1, hv, _, _, _⟩ := hOr.some_ (by omega)
        injection hv with hA _ hc1
        subst hA; subst hc1
        have ht : ts[k]? = some (ts[k]'(by omega)) := List.getElem?_eq_getElem (by omega)
        obtain ⟨t, hte⟩ : ∃ t, t = ts[k]'(by omega) := ⟨_, rfl⟩
        rw [← hte] at ht
        clear hte
        have qc := (hOr.cell (u64n_get ts k t ht)).1
        dsimp only at qc
        have HT := hid ht
        clear ht
        have k0 : (0 : Int) ≤ (k : Int) := by omega
        have k1 : (k : Int) < (n : Int) := by omega
        by_cases hbig : (1099511627776 : Int) < (t : Int)
        · have hv := hid (show mayV p q r ts = 5 by
            unfold mayV
            rw [if_pos HOK.out, if_neg]
            rw [List.all_eq_true]
            intro h
            have := h t (List.mem_of_getElem? HT.out)
            simp at this
            omega)
          go_wp2
          go_ret
          exact ⟨by rw [hv.out]; rfl, hCr⟩
        · have hle : t ≤ 1099511627776 := by omega
          have HLE := hid hle
          clear hle
          go_wp2
          go_roundw
          case measure => simp [intOf]; omega
          case rel =>
            refine ⟨k + 1, by omega, by go_num, hCr, ?_⟩
            intro x hx
            rw [List.take_add_one, HT.out] at hx
            rcases List.mem_append.1 hx with h | h
            · exact hall.out x h
            · simp at h; subst h; exact HLE.out
      · have hkn : k = n := by omega
        subst hkn
        have hv := hid (show mayV p q r ts = 0 by
          unfold mayV
          rw [if_pos HOK.out, if_pos]
          rw [List.all_eq_true]
          intro x hx
          have := hall.out x (by rw [List.take_of_length_le (by omega)]; exact hx)
          simpa using this)
        go_wp2
        go_ret
        exact ⟨by rw [hv.out]; rfl, hCr⟩
  · have hc : checkV p q r = 2 := by unfold checkV; rw [if_neg hok]
    have hv := hid (show mayV p q r ts = 2 by unfold mayV; rw [if_neg hok])
    clear hok
    go_enter Try.func30, Try.ntmps30
    go_wp2_with (go_at_call 22; refine (check_any p q r _).mono ?_; rw [hc]; rintro e w1 ⟨rfl, hC1⟩)
    go_ret
    exact ⟨by rw [hv.out]; rfl, ((Chg.refl [] w).alloc _).trans hC1⟩
end Go.Proofs.Ythhddmamlpnjpaa
