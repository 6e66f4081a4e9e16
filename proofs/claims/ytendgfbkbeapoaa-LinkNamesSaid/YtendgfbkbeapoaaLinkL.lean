/- LinkPlays, walked: every delay, room and row of steps. -/
import Derived.Test.YtendgfbkbeapoaaLinkK
import Derived.Deep.QuietTactic
import Derived.BigQuiet
namespace Go.Proofs.Ytendgfbkbeapoaa
open Go.RowKit

theorem Did.setCell {B : Nat} {Ts : List TypeId} {a w : World} (h : Did B Ts a w) {g : Nat} {t : TypeId} {cs : List Value} (hb : Blk w g t cs) (ht : t ∈ Ts) (hB : B ≤ g) (i : Nat) (u : Value) : Did B Ts a (w.setCell ⟨g, i, none⟩ u) := by
  refine ⟨h.below.setCell hB u, fun g' t' cs' hb' ht' => (h.keep g' t' cs' hb' ht').far ?_ u⟩
  exact Blk.ne_ (h.keep g' t' cs' hb' ht') hb (by rintro rfl; exact ht' ht)

theorem LinkS.drawn {w : World} {B g : Nat} {d room : Int} {ps : List (Int × Int)} (h : LinkS w B g d room ps) (n : Nat) : LinkS (w.drewN n) B g d room ps := h.did (B' := 0) (Ts := []) (Did.drawn ⟨n, rfl⟩) (by simp) (by simp)
theorem RefS.drawn {w : World} {B g : Nat} {d room : Int} {ps : List (Int × Int)} (h : RefS w B g d room ps) (n : Nat) : RefS (w.drewN n) B g d room ps := h.did (B' := 0) (Ts := []) (Did.drawn ⟨n, rfl⟩) (by simp) (by simp)

/-- The steps as they lie: whether it sends, the tick, the number. -/
def StepsAt (w : World) (A : Option Addr) (xs : List (Bool × Int × Int)) : Prop :=
  ∀ i x, xs[i]? = some x → ∃ b o, A = some ⟨b, o, none⟩ ∧ b < w.heap.size ∧ w.cell? ⟨b, o + i * 3, none⟩ = some (.bool x.1) ∧ w.cell? ⟨b, o + i * 3 + 1, none⟩ = some (.int .u64 x.2.1) ∧ w.cell? ⟨b, o + i * 3 + 2, none⟩ = some (.int .i64 x.2.2) ∧ 0 ≤ x.2.1

theorem comeS2 {w : World} {B g : Nat} {d room now : Int} {ps : List (Int × Int)} (h : LinkS w B g d room ps) (hB : B ≤ w.heap.size) (hr : 1 ≤ room) (hrm : (ps.length : Int) ≤ 1024) (hnow : now ≤ 1099511627776) (hri : Rise ps) :
    Calls Try.prog 11 #[.pointer (some ⟨g, 0, none⟩), .int .u64 now] w fun e w' => ∃ k xs A c, CntLe ps now k ∧ (ps.take k).map (·.2) = xs ∧ e = .returned (.tuple #[.slice A xs.length c, .int .i64 0]) ∧ Own w' 3 1 (.slice A xs.length c) xs.length (ints xs) ∧ Fresh w (.slice A xs.length c) ∧ LinkS w' B g d room (ps.drop k) ∧ Did B [49, 52] w w' := by
  refine (comeS h hB hr hrm hnow hri).mono fun e w' ⟨k, A, c, hk, he, hO, hF, hL, hD⟩ => ⟨k, _, A, c, hk, rfl, ?_⟩
  have hl : ((ps.take k).map (·.2)).length = k := by have := hk.1; rw [List.length_map, List.length_take]; omega
  rw [hl]
  exact ⟨he, hO, hF, hL, hD⟩
theorem refComeS2 {w : World} {B g : Nat} {d room now : Int} {ps qs : List (Int × Int)} {k : Nat} {xs : List Int} (h : RefS w B g d room qs) (hB : B ≤ w.heap.size) (hlen : qs.length ≤ 1000000) (hnow : now ≤ 1099511627776) (hr : Rel ps qs) (hk : CntLe ps now k) (hx : (ps.take k).map (·.2) = xs) :
    Calls Try.prog 12 #[.pointer (some ⟨g, 0, none⟩), .int .u64 now] w fun e w' => ∃ A c rs, Rel (ps.drop k) rs ∧ e = .returned (.tuple #[.slice A xs.length c, .int .i64 0]) ∧ Own w' 3 1 (.slice A xs.length c) xs.length (ints xs) ∧ RefS w' B g d room rs ∧ Did B [33, 55] w w' := by
  obtain ⟨e1, e2⟩ := rel_come now ps qs k hr hk
  refine (refComeS h hB hlen hnow).mono fun e w' ⟨A, c, he, hO, _, hR, hD⟩ => ⟨A, c, _, e2, ?_⟩
  rw [e1, hx] at he hO
  exact ⟨he, hO, hR, hD⟩

def AllTrue (w : World) (e : Ending) (w' : World) : Prop := e = .returned (.bool true) ∧ Below w.heap.size w w'

set_option maxHeartbeats 400000 in
theorem plays_big (d room : Int) (v : Value) (w : World) (h : 1024 < d) : Calls Try.prog 3 #[.int .u64 d, .int .i64 room, v] w (AllTrue w) := by
  go_enter Try.func3, Try.ntmps3
  go_wp2_with (first | (go_at_call 6; refine (new_big d room w h).mono ?_; rintro e w' ⟨rfl, rfl⟩) | (go_at_call 7; refine (refNew_big d room w h).mono ?_; rintro e w' ⟨rfl, rfl⟩) | (go_at_call 8; refine (awake_any w).mono ?_; rintro e w2 ⟨rfl, hb⟩))
  go_ret
  exact ⟨rfl, hb⟩
set_option maxHeartbeats 400000 in
theorem plays_low (d room : Int) (v : Value) (w : World) (h1 : d ≤ 1024) (h2 : room < 1) : Calls Try.prog 3 #[.int .u64 d, .int .i64 room, v] w (AllTrue w) := by
  go_enter Try.func3, Try.ntmps3
  go_wp2_with (first | (go_at_call 6; refine (new_low d room w h1 h2).mono ?_; rintro e w' ⟨rfl, rfl⟩) | (go_at_call 7; refine (refNew_low d room w h1 h2).mono ?_; rintro e w' ⟨rfl, rfl⟩) | (go_at_call 8; refine (awake_any w).mono ?_; rintro e w2 ⟨rfl, hb⟩))
  go_ret
  exact ⟨rfl, hb⟩
set_option maxHeartbeats 400000 in
theorem plays_high (d room : Int) (v : Value) (w : World) (h1 : d ≤ 1024) (h2 : 1024 < room) : Calls Try.prog 3 #[.int .u64 d, .int .i64 room, v] w (AllTrue w) := by
  go_enter Try.func3, Try.ntmps3
  go_wp2_with (first | (go_at_call 6; refine (new_high d room w h1 h2).mono ?_; rintro e w' ⟨rfl, rfl⟩) | (go_at_call 7; refine (refNew_high d room w h1 h2).mono ?_; rintro e w' ⟨rfl, rfl⟩) | (go_at_call 8; refine (awake_any w).mono ?_; rintro e w2 ⟨rfl, hb⟩))
  go_ret
  exact ⟨rfl, hb⟩

set_option maxHeartbeats 4000000 in
set_option maxRecDepth 100000 in
theorem plays_ok (d room : Int) (A : Option Addr) (n c : Nat) (xs : List (Bool × Int × Int)) (w : World) (hd0 : 0 ≤ d) (hd : d ≤ 1024) (hr : 1 ≤ room) (hrm : room ≤ 1024) (hs : StepsAt w A xs) (hn : xs.length = n) (hnm : n ≤ 9223372036854775807) :
    Calls Try.prog 3 #[.int .u64 d, .int .i64 room, .slice A n c] w (AllTrue w) := by
  subst hn
  have HSA := hid hs
  clear hs
  go_enter Try.func3, Try.ntmps3
  go_wp2_with fail
  refine (newS hd hr hrm).mono ?_
  rintro e w1 ⟨rfl, hL1, hD1, hs1⟩
  go_wp2_with fail
  refine (refNew_ok d room w1 hd hr hrm).mono ?_
  rintro e w2 ⟨rfl, rfl⟩
  obtain ⟨B, hBB⟩ : ∃ B, B = w.heap.size := ⟨_, rfl⟩
  rw [← hBB] at hL1 hD1
  have hz1 : B ≤ w1.heap.size := by rw [hs1]; omega
  clear hs1
  have HB := hid hBB
  rw [← hBB]
  clear hBB
  go_wp2_with fail
  go_loopw [10] (fun i wr => ∃ (k : Nat) (ps qs : List (Int × Int)), k ≤ xs.length ∧ i = .int .i64 k ∧ LinkS wr B B d room ps ∧ RefS wr B w1.heap.size d room qs ∧ Rel ps qs ∧ (ps.length : Int) ≤ room ∧ Below B w wr) (fun i _ => xs.length - (intOf i).toNat)
  case atStart =>
    refine ⟨0, [], [], Nat.zero_le _, rfl, hL1.did ((Did.refl B [] w1).alloc hz1 _) (by simp) (by simp), ⟨none, 0, ⟨Blk.new w1 33 #[.int .u64 d, .int .i64 room, .slice none 0 0], by simpa [rc] using Own.nil _ 55 2⟩, fun j hj => by simp [Value.ownBlock] at hj, hz1⟩, Rel.nil, by simp; omega, hD1.below.alloc hz1 _⟩
  case round =>
    obtain ⟨k, ps, qs, hk, rfl, LR, RR, hrel, hlen, hbel⟩ := hrel
    have sR := hbel.size
    rw [← HB.out] at sR
    by_cases hlt : k < xs.length
    · have hp : xs[k]? = some xs[k] := List.getElem?_eq_getElem hlt
      obtain ⟨x, hx⟩ : ∃ x, x = xs[k] := ⟨_, rfl⟩
      rw [← hx] at hp
      clear hx
      obtain ⟨b, o, rfl, hb, q0, q1, q2, hnow0⟩ := HSA.out k x hp
      rw [← HB.out] at hb
      rw [← hbel.cell (p := ⟨b, o + k * 3, none⟩) hb] at q0
      rw [← hbel.cell (p := ⟨b, o + k * 3 + 1, none⟩) hb] at q1
      rw [← hbel.cell (p := ⟨b, o + k * 3 + 2, none⟩) hb] at q2
      have hbw := World.block_lt_of_cell? _ _ q0
      dsimp only at hbw
      obtain ⟨s, now, num⟩ := x
      dsimp only at q0 q1 q2 hnow0
      have k0 : (0 : Int) ≤ (k : Int) := by omega
      have k1 : (k : Int) < (xs.length : Int) := by omega
      clear hp
      have dW : Did B [] wr (wr.alloc (.cells #[.bool s, .int .u64 now, .int .i64 num] 35)) := (Did.refl _ _ _).alloc sR _
      have LW := LR.did dW (by simp) (by simp)
      have RW := RR.did dW (by simp) (by simp)
      have BX : Blk (wr.alloc (.cells #[.bool s, .int .u64 now, .int .i64 num] 35)) wr.heap.size 35 [.bool s, .int .u64 now, .int .i64 num] := Blk.new wr 35 #[.bool s, .int .u64 now, .int .i64 num]
      have bW := hbel.trans dW.below
      have sW := Nat.le_trans sR dW.below.size
      have hpl : ps.length ≤ 1000000 := by omega
      have hql : qs.length ≤ 1000000 := by rw [← hrel.len]; exact hpl
      clear dW LR RR
      cases s with
      | true =>
        by_cases hno : now ≤ 1099511627776
        · by_cases hfull : (ps.length : Int) = room
          · go_wp2_with fail
            refine (sendS_full (B := B) LW hr hno hfull).mono ?_
            rintro e w3 ⟨rfl, hD1⟩
            have bx1 := hD1.keep _ _ _ BX (by simp)
            have y1 := bx1.cell_of (i := 1) rfl
            have y2 := bx1.cell_of (i := 2) rfl
            have r1 := RW.did hD1 (by simp) (by simp)
            have s1 := Nat.le_trans sW hD1.below.size
            go_wp2_with fail
            refine (refSendS_full (B := B) r1 hno (by rw [← hrel.len]; omega)).mono ?_
            rintro e w4 ⟨rfl, hD2⟩
            have LZ := (LW.did hD1 (by simp) (by simp)).did hD2 (by simp) (by simp)
            have RZ := r1.did hD2 (by simp) (by simp)
            have hZ := hrel
            have hlZ := hlen
            have bZ := (bW.trans hD1.below).trans hD2.below
            go_wp2_with fail
            refine (nextS LZ hr).mono ?_
            rintro e wq ⟨rfl, rfl⟩
            go_wp2_with fail
            refine (refNextS RZ hZ hpl).mono ?_
            rintro e w9 ⟨rfl, hD9⟩
            have L9 := LZ.did hD9 (by simp) (by simp)
            have R9 := RZ.did hD9 (by simp) (by simp)
            have b9 := bZ.trans hD9.below
            have hle := hid hZ.len
            have hne : (((ps).length : Int) != ((qs).length : Int)) = false := by rw [hZ.len]; simp
            generalize headTick (ps) = tk
            generalize decide (0 < (ps).length) = bb
            obtain ⟨A2, c2, hR2, _, _⟩ := id R9
            obtain ⟨_, _, e2⟩ := hR2.cells
            clear hR2
            go_wp2
            go_quiet ((go_at_call 16; exact Calls.quiet_of_same ((lenS (L9.drawn _) hr).mono fun e w' h => ⟨h.1, h.2.symm⟩)))
            go_wp2
            go_roundw
            case measure => simp [intOf]; omega
            case rel => exact ⟨k + 1, ps, qs, by omega, by go_num, L9.drawn _, R9.drawn _, hZ, hlZ, b9.trans ⟨rfl, rfl, rfl, Nat.le_refl _, fun _ _ => rfl⟩⟩
          · have hlt2 : (ps.length : Int) < room := by omega
            go_wp2_with fail
            refine (sendS_ok (B := B) LW sW hrm hnow0 hno hd0 hd hlt2 hrel.rise).mono ?_
            rintro e w3 ⟨rfl, k2, hk2, hL3, hD1⟩
            have bx1 := hD1.keep _ _ _ BX (by simp)
            have y1 := bx1.cell_of (i := 1) rfl
            have y2 := bx1.cell_of (i := 2) rfl
            have r1 := RW.did hD1 (by simp) (by simp)
            have s1 := Nat.le_trans sW hD1.below.size
            go_wp2_with fail
            refine (refSendS_ok (B := B) r1 s1 hrm hnow0 hno hd0 hd (by rw [← hrel.len]; exact hlt2)).mono ?_
            rintro e w4 ⟨rfl, hR4, hD2⟩
            have LZ0 := hL3.did hD2 (by simp) (by simp)
            have hZ0 := rel_send (n := num) hrel hk2
            obtain ⟨ps2, hps2⟩ : ∃ ps2, ps2 = ps.take k2 ++ (now + d, num) :: ps.drop k2 := ⟨_, rfl⟩
            obtain ⟨qs2, hqs2⟩ : ∃ qs2, qs2 = qs ++ [(now + d, num)] := ⟨_, rfl⟩
            have LZ : LinkS w4 B B d room ps2 := by rw [hps2]; exact LZ0
            have RZ : RefS w4 B w1.heap.size d room qs2 := by rw [hqs2]; exact hR4
            have hZ : Rel ps2 qs2 := by rw [hps2, hqs2]; exact hZ0
            have hql2 : qs2.length = qs.length + 1 := by rw [hqs2]; simp
            have hlZ : (ps2.length : Int) ≤ room := by rw [hZ.len, hql2, ← hrel.len]; omega
            have bZ := (bW.trans hD1.below).trans hD2.below
            clear hps2 hqs2 LZ0 hZ0 hR4 hL3 hk2 hpl hql2
            have hpl : ps2.length ≤ 1000000 := by omega
            go_wp2_with fail
            refine (nextS LZ hr).mono ?_
            rintro e wq ⟨rfl, rfl⟩
            go_wp2_with fail
            refine (refNextS RZ hZ hpl).mono ?_
            rintro e w9 ⟨rfl, hD9⟩
            have L9 := LZ.did hD9 (by simp) (by simp)
            have R9 := RZ.did hD9 (by simp) (by simp)
            have b9 := bZ.trans hD9.below
            have hle := hid hZ.len
            have hne : (((ps2).length : Int) != ((qs2).length : Int)) = false := by rw [hZ.len]; simp
            generalize headTick (ps2) = tk
            generalize decide (0 < (ps2).length) = bb
            obtain ⟨A2, c2, hR2, _, _⟩ := id R9
            obtain ⟨_, _, e2⟩ := hR2.cells
            clear hR2
            go_wp2
            go_quiet ((go_at_call 16; exact Calls.quiet_of_same ((lenS (L9.drawn _) hr).mono fun e w' h => ⟨h.1, h.2.symm⟩)))
            go_wp2
            go_roundw
            case measure => simp [intOf]; omega
            case rel => exact ⟨k + 1, ps2, qs2, by omega, by go_num, L9.drawn _, R9.drawn _, hZ, hlZ, b9.trans ⟨rfl, rfl, rfl, Nat.le_refl _, fun _ _ => rfl⟩⟩
        · have hno' : 1099511627776 < now := by omega
          go_wp2_with fail
          refine (sendS_late (B := B) LW hr hno').mono ?_
          rintro e w3 ⟨rfl, hD1⟩
          have bx1 := hD1.keep _ _ _ BX (by simp)
          have y1 := bx1.cell_of (i := 1) rfl
          have y2 := bx1.cell_of (i := 2) rfl
          have r1 := RW.did hD1 (by simp) (by simp)
          have s1 := Nat.le_trans sW hD1.below.size
          go_wp2_with fail
          refine (refSendS_late (B := B) hno').mono ?_
          rintro e w4 ⟨rfl, hD2⟩
          have LZ := (LW.did hD1 (by simp) (by simp)).did hD2 (by simp) (by simp)
          have RZ := r1.did hD2 (by simp) (by simp)
          have hZ := hrel
          have hlZ := hlen
          have bZ := (bW.trans hD1.below).trans hD2.below
          go_wp2_with fail
          refine (nextS LZ hr).mono ?_
          rintro e wq ⟨rfl, rfl⟩
          go_wp2_with fail
          refine (refNextS RZ hZ hpl).mono ?_
          rintro e w9 ⟨rfl, hD9⟩
          have L9 := LZ.did hD9 (by simp) (by simp)
          have R9 := RZ.did hD9 (by simp) (by simp)
          have b9 := bZ.trans hD9.below
          have hle := hid hZ.len
          have hne : (((ps).length : Int) != ((qs).length : Int)) = false := by rw [hZ.len]; simp
          generalize headTick (ps) = tk
          generalize decide (0 < (ps).length) = bb
          obtain ⟨A2, c2, hR2, _, _⟩ := id R9
          obtain ⟨_, _, e2⟩ := hR2.cells
          clear hR2
          go_wp2
          go_quiet ((go_at_call 16; exact Calls.quiet_of_same ((lenS (L9.drawn _) hr).mono fun e w' h => ⟨h.1, h.2.symm⟩)))
          go_wp2
          go_roundw
          case measure => simp [intOf]; omega
          case rel => exact ⟨k + 1, ps, qs, by omega, by go_num, L9.drawn _, R9.drawn _, hZ, hlZ, b9.trans ⟨rfl, rfl, rfl, Nat.le_refl _, fun _ _ => rfl⟩⟩
      | false =>
        by_cases hno : now ≤ 1099511627776
        · go_wp2_with fail
          refine (comeS2 (B := B) LW sW hr (by omega) hno hrel.rise).mono ?_
          rintro e w3 ⟨k2, ys, Aa, ca, hk2, hys, rfl, hO3, hF3, hL3, hD1⟩
          have bx1 := hD1.keep _ _ _ BX (by simp)
          have y1 := bx1.cell_of (i := 1) rfl
          have y2 := bx1.cell_of (i := 2) rfl
          have r1 := RW.did hD1 (by simp) (by simp)
          have s1 := Nat.le_trans sW hD1.below.size
          go_wp2_with fail
          refine (refComeS2 (B := B) r1 s1 hql hno hrel hk2 hys).mono ?_
          rintro e w4 ⟨Ab, cb, rs, hZ0, rfl, hO4, hR4, hD2⟩
          have hyl : ys.length ≤ 1000000 := by rw [← hys, List.length_map, List.length_take]; omega
          have hO3' := hO3.did hD2 (by simp)
          go_wp2_with fail
          refine (same_eq Aa Ab ca cb ys w4 hO3' hO4 hyl).mono ?_
          rintro e w5 ⟨rfl, hdr⟩
          have hD3 : Did B [] w4 w5 := Did.drawn hdr
          have hO5 := hO3'.did hD3 (by simp)
          have hF5 : ∀ j, (Value.slice Aa ys.length ca).ownBlock = some j → B ≤ j := fun j hj => Nat.le_trans sW (hF3 j hj)
          clear hys
          obtain ⟨ps2, hps2⟩ : ∃ ps2, ps2 = ps.drop k2 := ⟨_, rfl⟩
          have L5 : LinkS w5 B B d room ps2 := by rw [hps2]; exact (hL3.did hD2 (by simp) (by simp)).did hD3 (by simp) (by simp)
          have R5 := hR4.did hD3 (by simp) (by simp)
          have hZ : Rel ps2 rs := by rw [hps2]; exact hZ0
          have hlZ : (ps2.length : Int) ≤ room := by rw [hps2, List.length_drop]; omega
          have b5 := ((bW.trans hD1.below).trans hD2.below).trans hD3.below
          have s5 := Nat.le_trans (Nat.le_trans s1 hD2.below.size) hD3.below.size
          clear hps2 hZ0 hk2 hpl hO3 hO4 hO3' hL3 hR4
          have hpl : ps2.length ≤ 1000000 := by omega
          go_wp2_with fail
          go_loopw [20] (fun i wz => ∃ (j : Nat) (zs : List Int), j ≤ ys.length ∧ i = .int .i64 j ∧ Own wz 3 1 (.slice Aa ys.length ca) ys.length (ints zs) ∧ Did B [3] w5 wz) (fun i _ => ys.length - (intOf i).toNat)
          case atStart => exact ⟨0, ys, Nat.zero_le _, rfl, hO5, Did.refl _ _ _⟩
          case round =>
            obtain ⟨j, zs, hj, rfl, hOz, hDz⟩ := hrel
            by_cases hjl : j < ys.length
            · obtain ⟨ga, oa, c3, hv, _, _, _⟩ := hOz.some_ (by omega)
              injection hv with hA1 _ hc1
              subst hA1; subst hc1
              have hzl : zs.length = ys.length := by have := hOz.len; rw [ints_len] at this; omega
              have hz : zs[j]? = some (zs[j]'(by omega)) := List.getElem?_eq_getElem (by omega)
              obtain ⟨z, hzz⟩ : ∃ z, z = zs[j]'(by omega) := ⟨_, rfl⟩
              rw [← hzz] at hz
              clear hzz
              have qz := hOz.cell (ints_get zs j z hz)
              dsimp only at qz
              obtain ⟨qz1, qz2, _⟩ := qz
              have j0 : (0 : Int) ≤ (j : Int) := by omega
              have j1 : (j : Int) < (ys.length : Int) := by omega
              clear hz
              go_wp2
              go_roundw
              case measure => simp [intOf]; omega
              case rel =>
                obtain ⟨L, hbL⟩ := hOz.blk_
                refine ⟨j + 1, zs.set j (wrap64 (wrap64 (-z) - 5)), by omega, by go_num, ?_, hDz.setCell hbL (by simp) (hF5 ga rfl) _ _⟩
                have := hOz.set_ hjl (.int .i64 (wrap64 (wrap64 (-z) - 5)))
                rw [show (ints zs).set j (.int .i64 (wrap64 (wrap64 (-z) - 5))) = ints (zs.set j (wrap64 (wrap64 (-z) - 5))) by simp [ints, List.map_set]] at this
                exact this
            · obtain rfl : j = ys.length := by omega
              have LZ := L5.did hDz (by simp) (by simp)
              have RZ := R5.did hDz (by simp) (by simp)
              have bZ := b5.trans hDz.below
              go_wp2_with fail
              refine (nextS LZ hr).mono ?_
              rintro e wq ⟨rfl, rfl⟩
              go_wp2_with fail
              refine (refNextS RZ hZ hpl).mono ?_
              rintro e w9 ⟨rfl, hD9⟩
              have L9 := LZ.did hD9 (by simp) (by simp)
              have R9 := RZ.did hD9 (by simp) (by simp)
              have b9 := bZ.trans hD9.below
              have hle := hid hZ.len
              have hne : (((ps2).length : Int) != ((rs).length : Int)) = false := by rw [hZ.len]; simp
              generalize headTick (ps2) = tk
              generalize decide (0 < (ps2).length) = bb
              obtain ⟨A2, c2, hR2, _, _⟩ := id R9
              obtain ⟨_, _, e2⟩ := hR2.cells
              clear hR2
              go_wp2
              go_quiet ((go_at_call 16; exact Calls.quiet_of_same ((lenS (L9.drawn _) hr).mono fun e w' h => ⟨h.1, h.2.symm⟩)))
              go_wp2
              go_roundw
              case measure => simp [intOf]; omega
              case rel => exact ⟨k + 1, ps2, rs, by omega, by go_num, L9.drawn _, R9.drawn _, hZ, hlZ, b9.trans ⟨rfl, rfl, rfl, Nat.le_refl _, fun _ _ => rfl⟩⟩
        · have hrelO := hrel
          clear hrel
          have hno' : 1099511627776 < now := by omega
          go_wp2_with fail
          refine (comeS_late (B := B) LW hr hno').mono ?_
          rintro e w3 ⟨rfl, hD1⟩
          have bx1 := hD1.keep _ _ _ BX (by simp)
          have y1 := bx1.cell_of (i := 1) rfl
          have y2 := bx1.cell_of (i := 2) rfl
          have r1 := RW.did hD1 (by simp) (by simp)
          have s1 := Nat.le_trans sW hD1.below.size
          go_wp2_with fail
          refine (refComeS_late (B := B) hno').mono ?_
          rintro e w4 ⟨rfl, hD2⟩
          have D5 := (Did.refl B [] w4)
          go_wp2_with fail
          refine (same_eq none none 0 0 [] w4 (by simpa [ints] using Own.nil w4 3 1) (by simpa [ints] using Own.nil w4 3 1) (by simp)).mono ?_
          rintro e w5 ⟨rfl, hdr⟩
          have hD3 : Did B [] w4 w5 := Did.drawn hdr
          go_wp2_with fail
          go_loopw [20] (fun i wz => i = .int .i64 0 ∧ wz = w5) (fun _ _ => 0)
          case atStart => exact ⟨rfl, rfl⟩
          case round =>
            obtain ⟨rfl, rfl⟩ := hrel
            have LZ := ((LW.did hD1 (by simp) (by simp)).did hD2 (by simp) (by simp)).did hD3 (by simp) (by simp)
            have RZ := (r1.did hD2 (by simp) (by simp)).did hD3 (by simp) (by simp)
            have hZ := hrelO
            have hlZ := hlen
            have bZ := ((bW.trans hD1.below).trans hD2.below).trans hD3.below
            go_wp2_with fail
            refine (nextS LZ hr).mono ?_
            rintro e wq ⟨rfl, rfl⟩
            go_wp2_with fail
            refine (refNextS RZ hZ hpl).mono ?_
            rintro e w9 ⟨rfl, hD9⟩
            have L9 := LZ.did hD9 (by simp) (by simp)
            have R9 := RZ.did hD9 (by simp) (by simp)
            have b9 := bZ.trans hD9.below
            have hle := hid hZ.len
            have hne : (((ps).length : Int) != ((qs).length : Int)) = false := by rw [hZ.len]; simp
            generalize headTick (ps) = tk
            generalize decide (0 < (ps).length) = bb
            obtain ⟨A2, c2, hR2, _, _⟩ := id R9
            obtain ⟨_, _, e2⟩ := hR2.cells
            clear hR2
            go_wp2
            go_quiet ((go_at_call 16; exact Calls.quiet_of_same ((lenS (L9.drawn _) hr).mono fun e w' h => ⟨h.1, h.2.symm⟩)))
            go_wp2
            go_roundw
            case measure => simp [intOf]; omega
            case rel => exact ⟨k + 1, ps, qs, by omega, by go_num, L9.drawn _, R9.drawn _, hZ, hlZ, b9.trans ⟨rfl, rfl, rfl, Nat.le_refl _, fun _ _ => rfl⟩⟩
    · obtain rfl : k = xs.length := by omega
      go_wp2_with fail
      refine (awake_any wr).mono ?_
      rintro e w3 ⟨rfl, hb3⟩
      go_wp2
      go_ret
      refine ⟨rfl, ?_⟩
      rw [← HB.out]
      exact hbel.trans (hb3.mono sR)
end Go.Proofs.Ytendgfbkbeapoaa
