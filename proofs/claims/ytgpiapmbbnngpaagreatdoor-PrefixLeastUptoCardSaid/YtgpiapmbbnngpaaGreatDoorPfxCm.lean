/- Small facts on rows and numbers, shared. No condition of its own. -/
import Derived.Test.YtgpiapmbbnngpaaGreatDoorPfxMx
import Derived.Test.YtgpiapmbbnngpaaGreatDoorPfxWd
import Derived.Test.YtgpiapmbbnngpaaGreatDoorPfxBk
import Derived.Test.YtgpiapmbbnngpaaGreatDoorPfxSm
import Derived.Test.YtgpiapmbbnngpaaGreatDoorPfxNl
import Derived.Test.YtgpiapmbbnngpaaGreatDoorSxM
namespace Go.Proofs.YtgpiapmbbnngpaaGreatDoor
open Go.RowKit Go.Lib Go.Sort

theorem splice_set (L : List Value) (off : Nat) (v : Value) (h : off < L.length) : L.take off ++ ([v] ++ L.drop (off + 1)) = L.set off v := by
  rw [List.set_eq_take_append_cons_drop, if_pos h]
  rfl
theorem iw {a b : Int} (h : a = b) : Value.int .i64 a = .int .i64 b := by rw [h]
theorem w64 {a : Int} (h0 : -9223372036854775808 ≤ a) (h1 : a ≤ 9223372036854775807) : IntKind.i64.wrap a = a := IntWalk.i64_in _ ⟨h0, h1⟩
theorem adrV_upd (v : Bool) (f : Nat → Nat) (k n : Nat) (hk : k < 16) : (adrV v f).take (1 + k) ++ ([.int .u8 (n : Int)] ++ (adrV v f).drop (1 + k + 1)) = adrV v (upd f k n) := by
  rw [splice_set _ _ _ (by rw [adrV_length]; omega)]
  exact adrV_set v f (upd f k n) k n (by simp [upd]) (fun j _ h => by simp [upd, h])
theorem reduceR_len : ∀ (f : Nat) (M : List PX), (reduceR f M).length ≤ M.length
  | 0, M => Nat.le_refl _
  | f + 1, M => by
    unfold reduceR
    cases ho : onceR M with
    | none => exact Nat.le_refl _
    | some l =>
      have h1 := (onceR_some ho).1
      have := reduceR_len f l
      show (reduceR f l).length ≤ _
      omega
theorem rowX_drop : ∀ (O : List PX) (k : Nat), (rowX O).drop (k * 18) = rowX (O.drop k)
  | [], k => by simp [rowX]
  | y :: r, 0 => by simp
  | y :: r, k + 1 => by
    rw [rowX_cons, List.drop_append, PX.enc_len, List.drop_of_length_le (by rw [PX.enc_len]; omega), List.nil_append, show (k + 1) * 18 - 18 = k * 18 by omega]
    exact rowX_drop r k
theorem rowX_take : ∀ (O : List PX) (k : Nat), (rowX O).take (k * 18) = rowX (O.take k)
  | [], k => by simp [rowX]
  | y :: r, 0 => by simp [rowX]
  | y :: r, k + 1 => by
    rw [rowX_cons, List.take_append, PX.enc_len, List.take_of_length_le (by rw [PX.enc_len]; omega), show (k + 1) * 18 - 18 = k * 18 by omega, rowX_take r k]
    rfl
theorem rowX_at {O : List PX} {k : Nat} {y : PX} (h : O[k]? = some y) : (rowX O |>.drop (k * 18)).take 18 = y.enc := by
  rw [rowX_drop]
  have hk := (List.getElem?_eq_some_iff.1 h).1
  rw [List.drop_eq_getElem_cons hk, rowX_cons, List.take_append, PX.enc_len, List.take_of_length_le (by rw [PX.enc_len]; omega)]
  have := (List.getElem?_eq_some_iff.1 h).2
  rw [this]
  simp
theorem enc_ones (x : PX) : ∀ u ∈ pfx x.v x.n x.k, u.oneCell' = true := fun u hu => by
  have := pfx_ones x.v x.n x.k
  rw [Array.all_eq_true'] at this
  exact this u (by simpa using hu)
theorem ne_iB (a b : Nat) {r : Bool} (h : decide (a ≠ b) = r) : Value.bool ((a : Int) != (b : Int)) = .bool r := by
  rw [← h]; congr 1; rw [Bool.eq_iff_iff]; simp only [bne_iff_ne, ne_eq, decide_eq_true_eq]; omega
theorem run_min_i64 {P : Program} (ts : Array TypeId) (t : TypeId) (a b : Int) (c : Nat) (hc : (c : Int) = min a b) (W : World) : (Builtin.min_ ts t #[.int .i64 a, .int .i64 b]).run P W = .ok (.int .i64 (c : Int)) W := by
  rw [hc]
  by_cases h : a < b
  · simp [Builtin.min_, Builtin.min2]
    omega
  · simp [Builtin.min_, Builtin.min2]
    omega
theorem rowP_app (a b : List RP) : rowP (a ++ b) = rowP a ++ rowP b := by simp [rowP]
end Go.Proofs.YtgpiapmbbnngpaaGreatDoor
