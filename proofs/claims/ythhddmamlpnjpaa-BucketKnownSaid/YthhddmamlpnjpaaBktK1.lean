/- BucketKnown, walked. -/
import Derived.Test.YthhddmamlpnjpaaBktRF
import Derived.Deep.RegionHeld3
namespace Go.Proofs.Ythhddmamlpnjpaa
open Go.RowKit Go.Lib Go.Sort
attribute [local go_sem ↓] Go.wp_at_zero Go.wp_at_succ

/-- A row of buckets, cell by cell. -/
def bkv (L : List (Nat × Nat × Nat)) : List Value := L.flatMap fun x => [.int .u64 (x.1 : Int), .int .u64 (x.2.1 : Int), .int .u64 (x.2.2 : Int)]
theorem bkv_get : ∀ (L : List (Nat × Nat × Nat)) (k : Nat) (x : Nat × Nat × Nat), L[k]? = some x → (bkv L)[k * 3]? = some (.int .u64 (x.1 : Int)) ∧ (bkv L)[k * 3 + 1]? = some (.int .u64 (x.2.1 : Int)) ∧ (bkv L)[k * 3 + 2]? = some (.int .u64 (x.2.2 : Int))
  | [], k, x, h => by simp at h
  | y :: L, 0, x, h => by simp at h; subst h; exact ⟨rfl, rfl, rfl⟩
  | y :: L, k + 1, x, h => by
    have := bkv_get L k x (by simpa using h)
    rw [show bkv (y :: L) = .int .u64 (y.1 : Int) :: .int .u64 (y.2.1 : Int) :: .int .u64 (y.2.2 : Int) :: bkv L from rfl, show (k + 1) * 3 = k * 3 + 1 + 1 + 1 by omega]
    simpa using this

def bktL : List (Nat × Nat × Nat) := [(1, 10, 3), (65536, 65536, 1048576), (65537, 1, 1), (1, 65537, 1), (1, 1, 1048577), (1, 1, 0), (1, 0, 1), (0, 1, 1), (65536, 1, 1), (1, 65536, 1048576), (3, 7, 5)]
def tickL : List Nat := [0, 1, 7, 9, 10, 25, 100, 1099511627776, 1099511627777, 18446744073709551615]
def stateL : List Nat := [0, 5, 20, 25, 30, 31, 99, 72057594037927936, 72057662757404672, 72057662757404673, 18446744073709551615, 18446744073709551608]
def numL : List Nat := [0, 1, 2, 3, 4, 5, 1048576, 1048577, 281474976710656, 18446744073709551615]

structure KnownW (W : World) (g : Nat) : Prop where
  b : BoxB W g 1 10 3
  l : Blk W (g + 1) 24 (bkv bktL)
  t : Blk W (g + 1 + 1) 22 (u64n tickL)
  s : Blk W (g + 1 + 1 + 1) 22 (u64n stateL)
  n : Blk W (g + 1 + 1 + 1 + 1) 22 (u64n numL)
theorem KnownW.chg {W W' : World} {g : Nat} (h : KnownW W g) (hc : Chg [] W W') : KnownW W' g := ⟨h.b.chg hc, h.l.chg hc (by simp), h.t.chg hc (by simp), h.s.chg hc (by simp), h.n.chg hc (by simp)⟩

theorem known_start (w : World) : KnownW (((((w.alloc (.cells #[.int .u64 1, .int .u64 10, .int .u64 3] 24)).alloc (.cells (bkv bktL).toArray 24)).alloc (.cells (u64n tickL).toArray 22)).alloc (.cells (u64n stateL).toArray 22)).alloc (.cells (u64n numL).toArray 22)) w.heap.size := by
  refine ⟨?_, ?_, ?_, ?_, ?_⟩
  · exact ((((Blk.new w 24 #[.int .u64 1, .int .u64 10, .int .u64 3]).alloc _).alloc _).alloc _).alloc _
  · exact (((Blk.new_at _ 24 (bkv bktL).toArray (by simp)).alloc _).alloc _).alloc _
  · exact ((Blk.new_at _ 22 (u64n tickL).toArray (by simp)).alloc _).alloc _
  · exact (Blk.new_at _ 22 (u64n stateL).toArray (by simp)).alloc _
  · exact Blk.new_at _ 22 (u64n numL).toArray (by simp)
theorem gen_wp {P : Program} {c : Code} {Q : Exit → Act → World → Prop} {a : Act} {w W1 : World} {g : Nat} (hk : KnownW W1 g) (hc : Chg [] w W1) (h : ∀ W0, KnownW W0 g → Chg [] w W0 → c.wp P Q a W0) : c.wp P Q a W1 := h _ hk hc

theorem get_nat (L : List Nat) (k : Nat) (h : k < L.length) : ∃ a, L[k]? = some a := ⟨_, List.getElem?_eq_getElem h⟩
theorem get_bkt (k : Nat) (h : k < 11) : ∃ a b c, bktL[k]? = some (a, b, c) := ⟨_, _, _, List.getElem?_eq_getElem (by simpa [bktL] using h)⟩
theorem get_tick (k : Nat) (h : k < 10) : ∃ a, tickL[k]? = some a := get_nat _ _ (by simpa [tickL] using h)
theorem get_state (k : Nat) (h : k < 12) : ∃ a, stateL[k]? = some a ∧ a < 18446744073709551616 := by
  obtain ⟨a, ha⟩ := get_nat stateL k (by simpa [stateL] using h)
  refine ⟨a, ha, ?_⟩
  have := List.mem_of_getElem? ha
  have h2 : ∀ x ∈ stateL, x < 18446744073709551616 := by decide
  exact h2 a this
theorem get_num (k : Nat) (h : k < 10) : ∃ a, numL[k]? = some a ∧ a < 18446744073709551616 := by
  obtain ⟨a, ha⟩ := get_nat numL k (by simpa [numL] using h)
  refine ⟨a, ha, ?_⟩
  have := List.mem_of_getElem? ha
  have h2 : ∀ x ∈ numL, x < 18446744073709551616 := by decide
  exact h2 a this

theorem AskAt.of_own {W : World} {g o n c : Nat} {L : List (Nat × Nat)} (h : Own W 40 2 (.slice (some ⟨g, o, none⟩) n c) n (askv L)) (hb : ∀ z ∈ L, z.1 < 18446744073709551616 ∧ z.2 < 18446744073709551616) : AskAt W (some ⟨g, o, none⟩) L := by
  intro i x y hi
  obtain ⟨h1, h2⟩ := h.ask hi
  have hm := hb _ (List.mem_of_getElem? hi)
  exact ⟨hm.1, hm.2, g, o, rfl, h.lt g rfl, h1, h2⟩
theorem runs_lit (p q r : Nat) (L : List (Nat × Nat)) (hL : L.length ≤ 1000) (hb : ∀ z ∈ L, z.1 < 18446744073709551616 ∧ z.2 < 18446744073709551616) (W : World) :
    Calls Try.prog 3 #[.agg #[.int .u64 (p : Int), .int .u64 (q : Int), .int .u64 (r : Int)], .slice (some ⟨W.heap.size, 0, none⟩) L.length L.length] (W.alloc (.cells (askv L).toArray 40)) fun e w' => e = .returned (.bool true) ∧ Chg [] (W.alloc (.cells (askv L).toArray 40)) w' :=
  runs_any p q r (some ⟨W.heap.size, 0, none⟩) L.length L.length L _ (AskAt.of_own (Own.lit40 W L hL) hb) rfl (Nat.le_refl _) (by omega) (fun h => by cases h)
theorem runs_nil (p q r : Nat) (W : World) :
    Calls Try.prog 3 #[.agg #[.int .u64 (p : Int), .int .u64 (q : Int), .int .u64 (r : Int)], .slice none 0 0] W fun e w' => e = .returned (.bool true) ∧ Chg [] W w' :=
  runs_any p q r none 0 0 [] W (fun i x y hi => by simp at hi) rfl (Nat.le_refl _) (by omega) (fun _ => ⟨rfl, rfl⟩)

/-- A row of asks that are nought. -/
def zeroL (n : Nat) : List (Nat × Nat) := List.replicate n (0, 0)
def zrow (n : Nat) : Array Value := (askv (zeroL n)).toArray
theorem zeroL_len (n : Nat) : (zeroL n).length = n := by simp [zeroL]
theorem zrow_made (n : Nat) : madeCells (Value.agg #[.int .u64 0, .int .u64 0]).cells (n * 2) = zrow n := by
  apply Array.ext'
  unfold zrow madeCells
  simp only [Array.toList_map, Array.toList_range]
  induction n with
  | zero => rfl
  | succ n ih =>
    rw [show (n + 1) * 2 = n * 2 + 1 + 1 by omega, List.range_succ, List.range_succ]
    simp only [List.map_append, ih]
    have e : zeroL (n + 1) = zeroL n ++ [(0, 0)] := by simp [zeroL, List.replicate_succ']
    rw [e, askv_append]
    have m0 : n * 2 % 2 = 0 := by omega
    have m1 : (n * 2 + 1) % 2 = 1 := by omega
    simp [Value.cells, m0, m1, askv]
theorem make40 (n : Nat) (hn : n ≤ 5000) (W : World) : (Instr.makeSlice 25 (.int .i64 (n : Int)) (.int .i64 (n : Int))).run Try.prog W = .ok (.slice (some ⟨W.heap.size, 0, none⟩) n n) (W.alloc (.cells (zrow n) 40)) := by
  obtain ⟨i, hi, hy0, hy1, hy2⟩ := info_parts Try.info40n
  have h := run_make (P := Try.prog) W 25 40 i _ Try.underlying25 hi hy0 .i64 .i64 n n (by omega) (Int.le_refl _) (by rw [hy2]; omega) (by omega)
  simp only [Int.toNat_natCast, hy1] at h
  rw [h, zrow_made]
theorem own_zrow (n : Nat) (hn : n ≤ 5000) (W : World) : Own (W.alloc (.cells (zrow n) 40)) 40 2 (.slice (some ⟨W.heap.size, 0, none⟩) n n) n (askv (zeroL n)) := by
  have h := Own.made W 40 2 n n (askv (zeroL n)) (Nat.le_refl _) (by unfold maxLen; omega) (by rw [askv_len, zeroL_len])
  rw [List.take_of_length_le (by rw [askv_len, zeroL_len]; exact Nat.le_refl _)] at h
  exact h
theorem strV_zero (n a b : Nat) : strV (zeroL n) a b = 0 := by
  induction n with
  | zero => rfl
  | succ n ih =>
    rw [show zeroL (n + 1) = (0, 0) :: zeroL n from rfl, strV_cons, ih]
    split <;> rfl
theorem fits_zero {p q r n : Nat} (hok : OkB p q r) (hn : n ≤ 4096) : fitsV p q r (zeroL n) = (n, 0) := by
  have hm : ∀ z ∈ zeroL n, z = (0, 0) := fun z hz => (List.mem_replicate.1 hz).2
  refine fits_of hok (by rw [zeroL_len]; exact hn) (fun z hz => by rw [hm z hz]; omega) ?_
  rw [fitsGo_all _ _ _ List.Pairwise.nil (fun a b _ => by rw [List.nil_append, strV_zero]; omega) (fun x hx => by rw [hm x hx]; unfold bigV; omega), zeroL_len, Nat.zero_add]
theorem fits_zeroC (p q r n f : Nat) (cd : Int) (hn : n ≤ 5000) (hf : fitsV p q r (zeroL n) = (f, cd)) (g : Nat) (W : World) (hO : Own W 40 2 (.slice (some ⟨g, 0, none⟩) n n) n (askv (zeroL n))) :
    Calls Try.prog 15 #[.agg #[.int .u64 (p : Int), .int .u64 (q : Int), .int .u64 (r : Int)], .slice (some ⟨g, 0, none⟩) n n] W fun e w' => e = .returned (.tuple #[.int .i64 (f : Int), .int .i64 cd]) ∧ Chg [] W w' := by
  have h := fits_any p q r (some ⟨g, 0, none⟩) n n (zeroL n) _ hO (zeroL_len n) (by omega)
  rw [hf] at h
  exact h

set_option maxHeartbeats 8000000 in
set_option maxRecDepth 100000 in
theorem known_any (w : World) : Calls Try.prog 9 #[] w fun e w' => e = .returned (.bool true) ∧ Chg [] w w' := by
  have hmk1 : ∀ W : World, (Instr.makeSlice 25 (.int .i64 4097) (.int .i64 4097)).run Try.prog W = .ok (.slice (some ⟨W.heap.size, 0, none⟩) 4097 4097) (W.alloc (.cells (zrow 4097) 40)) := make40 4097 (by omega)
  have hmk2 : ∀ W : World, (Instr.makeSlice 25 (.int .i64 4096) (.int .i64 4096)).run Try.prog W = .ok (.slice (some ⟨W.heap.size, 0, none⟩) 4096 4096) (W.alloc (.cells (zrow 4096) 40)) := make40 4096 (by omega)
  have HF1 : Hid (∀ (g : Nat) (W : World), Own W 40 2 (.slice (some ⟨g, 0, none⟩) 4097 4097) 4097 (askv (zeroL 4097)) → Calls Try.prog 15 #[.agg #[.int .u64 1, .int .u64 10, .int .u64 3], .slice (some ⟨g, 0, none⟩) 4097 4097] W fun e w' => e = .returned (.tuple #[.int .i64 0, .int .i64 4]) ∧ Chg [] W w') :=
    hid (fits_zeroC 1 10 3 4097 0 4 (by omega) (by unfold fitsV; rw [if_pos (by decide), if_pos (by rw [zeroL_len]; omega)]))
  have HF2 : Hid (∀ (g : Nat) (W : World), Own W 40 2 (.slice (some ⟨g, 0, none⟩) 4096 4096) 4096 (askv (zeroL 4096)) → Calls Try.prog 15 #[.agg #[.int .u64 1, .int .u64 10, .int .u64 3], .slice (some ⟨g, 0, none⟩) 4096 4096] W fun e w' => e = .returned (.tuple #[.int .i64 4096, .int .i64 0]) ∧ Chg [] W w') :=
    hid (fits_zeroC 1 10 3 4096 4096 0 (by omega) (fits_zero (by decide) (by omega)))
  have HF3 : Hid (∀ (g : Nat) (W : World), Own W 40 2 (.slice (some ⟨g, 0, none⟩) 4097 4097) 4097 (askv (zeroL 4097)) → Calls Try.prog 15 #[.agg #[.int .u64 0, .int .u64 0, .int .u64 0], .slice (some ⟨g, 0, none⟩) 4097 4097] W fun e w' => e = .returned (.tuple #[.int .i64 0, .int .i64 2]) ∧ Chg [] W w') :=
    hid (fits_zeroC 0 0 0 4097 0 2 (by omega) (by unfold fitsV; rw [if_neg (by decide)]))
  go_enter Try.func9, Try.ntmps9
  go_wp2
  refine gen_wp (known_start w) (((((Chg.refl [] w).alloc _).alloc _).alloc _).alloc _ |>.alloc _) ?_
  intro W0 K0 C0
  go_loopw [7] (fun iv wr => ∃ i : Nat, i ≤ 11 ∧ iv = .int .i64 i ∧ KnownW wr w.heap.size ∧ Chg [] w wr) (fun iv _ => 11 - (intOf iv).toNat)
  case atStart => exact ⟨0, by omega, rfl, K0, C0⟩
  case round =>
    obtain ⟨i, hi, rfl, hK, hC⟩ := hrel
    by_cases hlt : (i : Int) < 11
    · obtain ⟨p, q, r, hb⟩ := get_bkt i (by omega)
      obtain ⟨u0, u1, u2⟩ := bkv_get bktL i (p, q, r) hb
      have HB := hid (And.intro u0 (And.intro u1 u2))
      have i0 : (0 : Int) ≤ (i : Int) := by omega
      clear hb u0 u1 u2
      obtain ⟨wo, hwo⟩ : ∃ wo : World, wo = wr := ⟨_, rfl⟩
      rw [← hwo] at hK hC
      rw [← hwo]
      clear hwo
      go_wp2
      go_loopw [8] (fun iv wr => ∃ k : Nat, k ≤ 10 ∧ iv = .int .i64 k ∧ KnownW wr w.heap.size ∧ Chg [] w wr) (fun iv _ => 10 - (intOf iv).toNat)
      case atStart => exact ⟨0, by omega, rfl, hK, hC⟩
      case round =>
        obtain ⟨k, hk, rfl, hK, hC⟩ := hrel
        by_cases hkl : (k : Int) < 10
        · obtain ⟨tk, htk⟩ := get_tick k (by omega)
          have HT := hid (u64n_get tickL k tk htk)
          have k0 : (0 : Int) ≤ (k : Int) := by omega
          clear htk
          obtain ⟨wo, hwo⟩ : ∃ wo : World, wo = wr := ⟨_, rfl⟩
          rw [← hwo] at hK hC
          rw [← hwo]
          clear hwo
          go_wp2
          go_loopw [9] (fun iv wr => ∃ m : Nat, m ≤ 12 ∧ iv = .int .i64 m ∧ KnownW wr w.heap.size ∧ Chg [] w wr) (fun iv _ => 12 - (intOf iv).toNat)
          case atStart => exact ⟨0, by omega, rfl, hK, hC⟩
          case round =>
            obtain ⟨m, hm, rfl, hK, hC⟩ := hrel
            by_cases hml : (m : Int) < 12
            · obtain ⟨st, hst, hsb⟩ := get_state m (by omega)
              have HS := hid (And.intro (u64n_get stateL m st hst) hsb)
              have m0 : (0 : Int) ≤ (m : Int) := by omega
              clear hst hsb
              obtain ⟨wo, hwo⟩ : ∃ wo : World, wo = wr := ⟨_, rfl⟩
              rw [← hwo] at hK hC
              rw [← hwo]
              clear hwo
              go_wp2
              go_loopw [10] (fun iv wr => ∃ n : Nat, n ≤ 10 ∧ iv = .int .i64 n ∧ KnownW wr w.heap.size ∧ Chg [] w wr) (fun iv _ => 10 - (intOf iv).toNat)
              case atStart => exact ⟨0, by omega, rfl, hK, hC⟩
              case round =>
                obtain ⟨n, hn, rfl, hK, hC⟩ := hrel
                by_cases hnl : (n : Int) < 10
                · obtain ⟨nu, hnu, hnb⟩ := get_num n (by omega)
                  have HTe := hid (cls_of (fun W => tells_any p q r st tk nu W HS.out.2 hnb))
                  have n0 : (0 : Int) ≤ (n : Int) := by omega
                  have c0 := cell_regrown (hK.l.cell_of HB.out.1)
                  have c1 := cell_regrown (hK.l.cell_of HB.out.2.1)
                  have c2 := cell_regrown (hK.l.cell_of HB.out.2.2)
                  have c3 := cell_regrown (hK.t.cell_of HT.out)
                  have c4 := cell_regrown (hK.s.cell_of HS.out.1)
                  have c5 := cell_regrown (hK.n.cell_of (u64n_get numL n nu hnu))
                  clear hnu hnb
                  go_wp2
                  refine wp_region_quiet_below (by kernel_rfl) (by kernel_rfl) ?_
                  repeat (first | go_big_quiet_step ((go_at_call 7; with_reducible exact HTe.out _ _ _)) | quiet_step ((go_at_call 7; with_reducible exact HTe.out _ _ _)))
                  refine wpQuiet_nil ?_
                  intro w3 hw3
                  have C3 := chg_cls hw3
                  clear hw3 c0 c1 c2 c3 c4 c5
                  go_wp2
                  go_roundw
                  case measure => simp [intOf] <;> omega
                  case rel => exact ⟨n + 1, by omega, by go_num, hK.chg C3, hC.trans C3⟩
                · go_wp2
                  go_roundw
                  case measure => simp [intOf] <;> omega
                  case rel => exact ⟨m + 1, by omega, by go_num, hK, hC⟩
            · go_wp2
              go_roundw
              case measure => simp [intOf] <;> omega
              case rel => exact ⟨k + 1, by omega, by go_num, hK, hC⟩
        · have c0 := hK.l.cell_of HB.out.1
          have c1 := hK.l.cell_of HB.out.2.1
          have c2 := hK.l.cell_of HB.out.2.2
          go_wp2_with fail
          refine (runs_lit p q r [(0, 3), (0, 1), (10, 1), (5, 1), (20, 1), (20, 2), (0, 0)] (by decide) (by decide) wr).mono ?_
          rintro e x1 ⟨rfl, hD1⟩
          have hE1 := (hC.alloc _).trans hD1
          have hK1 := hK.chg (((Chg.refl [] wr).alloc _).trans hD1)
          have c10 := hK1.l.cell_of HB.out.1
          have c11 := hK1.l.cell_of HB.out.2.1
          have c12 := hK1.l.cell_of HB.out.2.2
          go_wp2_with fail
          refine (runs_lit p q r [(20, 2), (0, 3), (10, 1)] (by decide) (by decide) x1).mono ?_
          rintro e x2 ⟨rfl, hD2⟩
          have hE2 := (hE1.alloc _).trans hD2
          have hK2 := hK1.chg (((Chg.refl [] x1).alloc _).trans hD2)
          have c20 := hK2.l.cell_of HB.out.1
          have c21 := hK2.l.cell_of HB.out.2.1
          have c22 := hK2.l.cell_of HB.out.2.2
          go_wp2_with fail
          refine (runs_lit p q r [(1099511627776, 18446744073709551615), (0, 18446744073709551615)] (by decide) (by decide) x2).mono ?_
          rintro e x3 ⟨rfl, hD3⟩
          have hE3 := (hE2.alloc _).trans hD3
          have hK3 := hK2.chg (((Chg.refl [] x2).alloc _).trans hD3)
          have c30 := hK3.l.cell_of HB.out.1
          have c31 := hK3.l.cell_of HB.out.2.1
          have c32 := hK3.l.cell_of HB.out.2.2
          go_wp2_with fail
          refine (runs_lit p q r [(1099511627777, 0)] (by decide) (by decide) x3).mono ?_
          rintro e x4 ⟨rfl, hD4⟩
          have hE4 := (hE3.alloc _).trans hD4
          have hK4 := hK3.chg (((Chg.refl [] x3).alloc _).trans hD4)
          have c40 := hK4.l.cell_of HB.out.1
          have c41 := hK4.l.cell_of HB.out.2.1
          have c42 := hK4.l.cell_of HB.out.2.2
          go_wp2_with fail
          refine (runs_nil p q r x4).mono ?_
          rintro e x5 ⟨rfl, hD5⟩
          go_wp2
          go_roundw
          case measure => simp [intOf] <;> omega
          case rel => exact ⟨i + 1, by omega, by go_num, hK4.chg hD5, hE4.trans hD5⟩
    · have hB := hK.b
      have hi11 : ¬ ((i : Int) < 11) := hlt
      clear hlt
      go_wp2
      clear hi11
      have hBd1 : BoxB wr.drew w.heap.size 1 10 3 := hB
      go_region_held3 (fun W' => W'.cell? ⟨w.heap.size, 0, none⟩ = some (.int .u64 1) ∧ W'.cell? ⟨w.heap.size, 1, none⟩ = some (.int .u64 10) ∧ W'.cell? ⟨w.heap.size, 2, none⟩ = some (.int .u64 3) ∧ BoxB W' w.heap.size 1 10 3)
        ((refine BoxB.cells ?_; first | assumption | (apply Blk.alloc; assumption)))
        ((go_at_call 15; refine (HF1.out _ _ ((own_zrow 4097 (by omega) wr).drew)).mono ?_; rintro e y1 ⟨rfl, hD⟩; have hB1 : BoxB y1 w.heap.size 1 10 3 := BoxB.chg hB ((((Chg.refl [] wr).alloc _).drew).trans hD); have hC1 := hid (((hC.alloc _).drew).trans hD); clear hD))
      go_wp2
      have hBd2 : BoxB y1.drew w.heap.size 1 10 3 := hB1
      go_region_held3 (fun W' => W'.cell? ⟨w.heap.size, 0, none⟩ = some (.int .u64 1) ∧ W'.cell? ⟨w.heap.size, 1, none⟩ = some (.int .u64 10) ∧ W'.cell? ⟨w.heap.size, 2, none⟩ = some (.int .u64 3) ∧ BoxB W' w.heap.size 1 10 3)
        ((refine BoxB.cells ?_; first | assumption | (apply Blk.alloc; assumption)))
        ((go_at_call 15; refine (HF2.out _ _ ((own_zrow 4096 (by omega) y1).drew)).mono ?_; rintro e y2 ⟨rfl, hD⟩; have hB2 : BoxB y2 w.heap.size 1 10 3 := BoxB.chg hB1 ((((Chg.refl [] y1).alloc _).drew).trans hD); have hC2 := hid (((hC1.out.alloc _).drew).trans hD); clear hD))
      go_wp2_with (first
        | (go_at_call 15; refine (HF3.out _ _ (own_zrow 4097 (by omega) y2)).mono ?_; rintro e y3 ⟨rfl, hD⟩; have hC3 := hid ((hC2.out.alloc _).trans hD); clear hD)
        | (go_at_call 17; refine (works_any _).mono ?_; rintro e y4 ⟨rfl, hD⟩; have hC4 := hid (hC3.out.trans hD); clear hD))
      go_ret
      exact ⟨rfl, hC4.out⟩
end Go.Proofs.Ythhddmamlpnjpaa
