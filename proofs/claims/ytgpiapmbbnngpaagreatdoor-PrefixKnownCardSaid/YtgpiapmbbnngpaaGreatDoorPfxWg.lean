/- Compare walked. -/
import Derived.Test.YtgpiapmbbnngpaaGreatDoorPfxWa
import Derived.Test.YtgpiapmbbnngpaaGreatDoorPfxPl
import Derived.Lib.Bytealg
import Derived.Lib.BytesEntry
namespace Go.Proofs.YtgpiapmbbnngpaaGreatDoor
open Go.RowKit Go.Lib Go.Sort

theorem cmpB_bytes : ∀ xs ys : List Nat, (∀ x ∈ xs, x < 256) → (∀ y ∈ ys, y < 256) → Lib.compareBytes (xs.map UInt8.ofNat) (ys.map UInt8.ofNat) = cmpB xs ys
  | [], [], _, _ => rfl
  | [], _ :: _, _, _ => rfl
  | _ :: _, [], _, _ => rfl
  | x :: xs, y :: ys, hx, hy => by
    have h1 : x < 256 := hx x (by simp)
    have h2 : y < 256 := hy y (by simp)
    have e1 : (UInt8.ofNat x < UInt8.ofNat y) ↔ x < y := by
      rw [UInt8.lt_iff_toNat_lt, UInt8.toNat_ofNat', UInt8.toNat_ofNat']
      rw [Nat.mod_eq_of_lt (by omega), Nat.mod_eq_of_lt (by omega)]
    have e2 : (UInt8.ofNat y < UInt8.ofNat x) ↔ y < x := by
      rw [UInt8.lt_iff_toNat_lt, UInt8.toNat_ofNat', UInt8.toNat_ofNat']
      rw [Nat.mod_eq_of_lt (by omega), Nat.mod_eq_of_lt (by omega)]
    have ih := cmpB_bytes xs ys (fun z hz => hx z (by simp [hz])) (fun z hz => hy z (by simp [hz]))
    rw [List.map_cons, List.map_cons]
    unfold Lib.compareBytes cmpB
    rw [ih]
    by_cases q1 : x < y
    · rw [if_pos (e1.2 q1), if_pos q1]
    · rw [if_neg (fun h => q1 (e1.1 h)), if_neg q1]
      by_cases q2 : y < x
      · rw [if_pos (e2.2 q2), if_pos q2]
      · rw [if_neg (fun h => q2 (e2.1 h)), if_neg q2]
def intsN (n : Nat) : List Int := (bytesN n).map fun x : Nat => (x : Int)
theorem load_bytes (g o c n : Nat) (w : World) (h : BytAt w g o n) : (Extern.Bytes.bytesOf (.slice (some ⟨g, o, none⟩) 16 c)).run Tryz.prog w = .ok ⟨((bytesN n).map UInt8.ofNat).toArray⟩ w := by
  have hr := Lib.run_loadBytesX (P := Tryz.prog) (w := w) (intsN n) ⟨g, o, none⟩ .empty (fun j x hx => by
    unfold intsN at hx
    rw [List.getElem?_map] at hx
    by_cases hj : j < 16
    · rw [bytesN_get n j hj] at hx
      injection hx with hx
      rw [Lib.add_plain, h j hj, ← hx]
    · rw [List.getElem?_eq_none (by rw [bytesN_length]; omega)] at hx
      cases hx)
  have hl : (intsN n).length = 16 := by simp [intsN, bytesN_length]
  rw [hl] at hr
  have e : Lib.bytesOf (intsN n) = (bytesN n).map UInt8.ofNat := by
    unfold Lib.bytesOf intsN
    rw [List.map_map]
    rfl
  rw [e] at hr
  simpa [Extern.Bytes.bytesOf] using hr
theorem run_85 (g1 o1 c1 g2 o2 c2 n m : Nat) (hn : n < 2 ^ 128) (hm : m < 2 ^ 128) (w : World) (h1 : BytAt w g1 o1 n) (h2 : BytAt w g2 o2 m) :
    (callFunc 85 #[.slice (some ⟨g1, o1, none⟩) 16 c1, .slice (some ⟨g2, o2, none⟩) 16 c2]).run Tryz.prog w = .ok (.value (.int .i64 (cmpN n m))) w := by
  rw [run_callFunc_extern Tryz.func85 (by kernel_rfl) (by kernel_rfl) (by kernel_rfl) (e := Extern.BytealgCompare.compare) (by kernel_rfl)]
  have hc : (Extern.BytealgCompare.compare #[.slice (some ⟨g1, o1, none⟩) 16 c1, .slice (some ⟨g2, o2, none⟩) 16 c2]).run Tryz.prog w = .ok (.int .i64 (cmpN n m)) w := by
    change Sem.run Tryz.prog (do pure (goInt (Extern.BytealgCompare.cmp (← Extern.Bytes.bytesOf (.slice (some ⟨g1, o1, none⟩) 16 c1)) (← Extern.Bytes.bytesOf (.slice (some ⟨g2, o2, none⟩) 16 c2))))) w = _
    simp only [Sem.run_bind, load_bytes g1 o1 c1 n w h1, load_bytes g2 o2 c2 m w h2, Sem.run_pure, Result.andThen]
    rw [Lib.cmp_eq]
    have := cmpB_bytes (bytesN n) (bytesN m) (bytesN_lt n) (bytesN_lt m)
    rw [cmp_bytes n m hn hm] at this
    rw [show (ByteArray.mk ((bytesN n).map UInt8.ofNat).toArray).data.toList = (bytesN n).map UInt8.ofNat from rfl, show (ByteArray.mk ((bytesN m).map UInt8.ofNat).toArray).data.toList = (bytesN m).map UInt8.ofNat from rfl, this]
    rfl
  rw [hc]; rfl
theorem bcmp_N (g1 o1 c1 g2 o2 c2 n m : Nat) (hn : n < 2 ^ 128) (hm : m < 2 ^ 128) (w : World) (h1 : BytAt w g1 o1 n) (h2 : BytAt w g2 o2 m) :
    Calls Tryz.prog 59 #[.slice (some ⟨g1, o1, none⟩) 16 c1, .slice (some ⟨g2, o2, none⟩) 16 c2] w fun e w' => e = .returned (.int .i64 (cmpN n m)) ∧ w' = w := by
  have hr := run_85 g1 o1 c1 g2 o2 c2 n m hn hm w h1 h2
  clear h1 h2 hn hm
  go_enter Tryz.func59, Tryz.ntmps59
  go_wp2
  go_ret
  exact ⟨rfl, rfl⟩
theorem or_N (g : Nat) (a b : Int) (w : World) (h1 : w.cell? ⟨g, 0, none⟩ = some (.int .i64 a)) (h2 : w.cell? ⟨g, 1, none⟩ = some (.int .i64 b)) :
    Calls Tryz.prog 58 #[.slice (some ⟨g, 0, none⟩) 2 2] w fun e w' => e = .returned (.int .i64 (if a = 0 then b else a)) ∧ w' = w := by
  by_cases ha : a = 0
  · rw [if_pos ha]
    subst ha
    by_cases hb : b = 0
    · subst hb
      go_enter Tryz.func58, Tryz.ntmps58
      go_wp2
      go_loopw [8] (fun iv wr => w = wr ∧ (iv = .int .i64 0 ∨ iv = .int .i64 1 ∨ iv = .int .i64 2)) (fun iv _ => 2 - (RowKit.intOf iv).toNat)
      case atStart => exact ⟨rfl, .inl rfl⟩
      case round =>
        obtain ⟨rfl, rfl | rfl | rfl⟩ := hrel
        · go_wp2
          go_roundw
          case measure => decide
          case rel => exact ⟨by first | trivial | rfl, .inr (.inl rfl)⟩
        · go_wp2
          go_roundw
          case measure => decide
          case rel => exact ⟨by first | trivial | rfl, .inr (.inr rfl)⟩
        · go_wp2
          go_ret
          exact ⟨rfl, rfl⟩
    · go_enter Tryz.func58, Tryz.ntmps58
      go_wp2
      go_loopw [8] (fun iv wr => w = wr ∧ (iv = .int .i64 0 ∨ iv = .int .i64 1)) (fun iv _ => 2 - (RowKit.intOf iv).toNat)
      case atStart => exact ⟨rfl, .inl rfl⟩
      case round =>
        obtain ⟨rfl, rfl | rfl⟩ := hrel
        · go_wp2
          go_roundw
          case measure => decide
          case rel => exact ⟨by first | trivial | rfl, .inr rfl⟩
        · go_wp2
          go_ret
          exact ⟨rfl, rfl⟩
  · rw [if_neg ha]
    go_enter Tryz.func58, Tryz.ntmps58
    go_wp2
    go_loopw [8] (fun iv wr => w = wr ∧ iv = .int .i64 0) (fun iv _ => 2 - (RowKit.intOf iv).toNat)
    case atStart => exact ⟨rfl, rfl⟩
    case round =>
      obtain ⟨rfl, rfl⟩ := hrel
      go_wp2
      go_ret
      exact ⟨rfl, rfl⟩
end Go.Proofs.YtgpiapmbbnngpaaGreatDoor

/- Compare walked. -/
namespace Go.Proofs.YtgpiapmbbnngpaaGreatDoor
open Go.RowKit Go.Lib Go.Sort

theorem cmp_val (v : Bool) (n : Nat) (k : Int) (m : Nat) (j : Int) : (if cmpN n m = 0 then Lib.compareInt k j else cmpN n m) = cmpP v n k v m j := by
  unfold cmpP cmpN Lib.compareInt
  by_cases h1 : n < m
  · simp [h1]
  · by_cases h2 : m < n
    · simp [h1, h2]
    · simp [h1, h2]
set_option maxHeartbeats 4000000 in
set_option maxRecDepth 100000 in
theorem compare_N (v : Bool) (n : Nat) (k : Int) (v' : Bool) (m : Nat) (j : Int) (hn : n < 2 ^ 128) (hm : m < 2 ^ 128) (w : World) :
    Calls Tryz.prog 25 #[.agg (pfx v n k).toArray, .agg (pfx v' m j).toArray] w fun e w' => e = .returned (.int .i64 (cmpP v n k v' m j)) ∧ Chg [] w w' := by
  have HP := hid (show Blk ((w.alloc (.cells (pfx v n k).toArray 29)).alloc (.cells (pfx v' m j).toArray 29)) w.heap.size 29 (pfx v n k) from (Blk.new w 29 (pfx v n k).toArray).alloc _)
  have HQ := hid (show Blk ((w.alloc (.cells (pfx v n k).toArray 29)).alloc (.cells (pfx v' m j).toArray 29)) (w.heap.size + 1) 29 (pfx v' m j) from Blk.new_at _ 29 (pfx v' m j).toArray (by simp))
  have HC := hid (show Chg [] w ((w.alloc (.cells (pfx v n k).toArray 29)).alloc (.cells (pfx v' m j).toArray 29)) from ((Chg.refl _ _).alloc _).alloc _)
  have b1 := HP.out.cell_of (pfx_bool v n k)
  have b2 := HQ.out.cell_of (pfx_bool v' m j)
  have k1 := HP.out.cell_of (pfx_bits v n k)
  have k2 := HQ.out.cell_of (pfx_bits v' m j)
  by_cases hv : v = v'
  · subst hv
    have HB := hid (fun W (hW : Chg [] ((w.alloc (.cells (pfx v n k).toArray 29)).alloc (.cells (pfx v m j).toArray 29)) W) => bcmp_N w.heap.size 1 16 (w.heap.size + 1) 1 16 n m hn hm W (HP.out.bytAtP.chg hW) (HQ.out.bytAtP.chg hW))
    have HK := hid (fun W => Tryz.cmp_Compare_int k j W)
    have HV := hid (cmp_val v n k m j)
    obtain ⟨a, ha⟩ : ∃ a, a = cmpN n m := ⟨_, rfl⟩
    obtain ⟨b, hb⟩ : ∃ b, b = Lib.compareInt k j := ⟨_, rfl⟩
    rw [← ha] at HB HV
    rw [← hb] at HK HV
    have HO := hid (fun g W h1 h2 => or_N g a b W h1 h2)
    have HBB := hid (show Blk (((w.alloc (.cells (pfx v n k).toArray 29)).alloc (.cells (pfx v m j).toArray 29)).alloc (.cells #[.int .i64 a, .int .i64 b] 3)) (w.heap.size + 1 + 1) 3 [.int .i64 a, .int .i64 b] from Blk.new_at _ 3 #[.int .i64 a, .int .i64 b] (by simp))
    obtain ⟨r, hr⟩ : ∃ r, r = (if a = 0 then b else a) := ⟨_, rfl⟩
    rw [← hr] at HV
    have HO2 := hid (fun g W h1 h2 => (show Calls Tryz.prog 58 #[.slice (some ⟨g, 0, none⟩) 2 2] W fun e w' => e = .returned (.int .i64 r) ∧ w' = W by rw [hr]; exact HO.out g W h1 h2))
    clear ha hb hr HO
    rw [← HV.out]
    have hvv : (v != v) = false := by cases v <;> rfl
    go_enter Tryz.func25, Tryz.ntmps25
    go_wp2
    go_region_with (first
      | (go_at_call 59; refine (HB.out _ ?_).mono ?_; (first | exact Chg.refl _ _ | exact (Chg.refl _ _).drew | exact ((Chg.refl _ _).drew).drew); rintro e w2 ⟨rfl, hw2⟩; subst hw2)
      | (go_at_call 60; refine (HK.out _).mono ?_; rintro e w3 ⟨rfl, hw3⟩; subst hw3)
      | (go_at_call 58; refine (HO2.out (w.heap.size + 1 + 1) _ ?_ ?_).mono ?_; exact HBB.out.cell_of (i := 0) rfl; exact HBB.out.cell_of (i := 1) rfl; rintro e w4 ⟨rfl, hw4⟩; subst hw4))
    all_goals go_wp2
    all_goals go_ret
    all_goals exact ⟨rfl, (HC.out.alloc (.cells #[.int .i64 a, .int .i64 b] 3)).drew⟩
  · cases v <;> cases v'
    · exact absurd rfl hv
    · go_enter Tryz.func25, Tryz.ntmps25
      go_wp2
      go_ret
      exact ⟨rfl, HC.out⟩
    · go_enter Tryz.func25, Tryz.ntmps25
      go_wp2
      go_ret
      exact ⟨rfl, HC.out⟩
    · exact absurd rfl hv
end Go.Proofs.YtgpiapmbbnngpaaGreatDoor
