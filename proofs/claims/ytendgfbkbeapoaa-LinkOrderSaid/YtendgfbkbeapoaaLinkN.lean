/- LinkOrder, walked: at ticks that never fall nothing is lost and nothing overtakes. -/
import Derived.Test.YtendgfbkbeapoaaLinkM
namespace Go.Proofs.Ytendgfbkbeapoaa
open Go.RowKit

/-- The packets on their way in LinkOrder: ticks ts, numbers from 'came' on. -/
def numbered (came : Nat) : List Int → List (Int × Int)
  | [] => []
  | t :: r => (t, (came : Int)) :: numbered (came + 1) r
theorem numbered_len (came : Nat) (ts : List Int) : (numbered came ts).length = ts.length := by
  induction ts generalizing came with
  | nil => rfl
  | cons t r ih => simp [numbered, ih]
theorem numbered_get (came : Nat) (ts : List Int) (i : Nat) : (numbered came ts)[i]? = ts[i]?.map fun t => (t, ((came + i : Nat) : Int)) := by
  induction ts generalizing came i with
  | nil => simp [numbered]
  | cons t r ih =>
    cases i with
    | zero => simp [numbered]
    | succ i => simp only [numbered, List.getElem?_cons_succ, ih]; congr 1; funext t; rw [show came + 1 + i = came + (i + 1) by omega]
theorem numbered_snoc (came : Nat) (ts : List Int) (t : Int) : numbered came ts ++ [(t, ((came + ts.length : Nat) : Int))] = numbered came (ts ++ [t]) := by
  induction ts generalizing came with
  | nil => simp [numbered]
  | cons a r ih => simp only [numbered, List.cons_append, List.length_cons]; rw [← ih, show came + (r.length + 1) = came + 1 + r.length by omega]
theorem numbered_drop (came : Nat) (ts : List Int) (k : Nat) : (numbered came ts).drop k = numbered (came + k) (ts.drop k) := by
  induction k generalizing came ts with
  | zero => simp
  | succ k ih =>
    cases ts with
    | nil => simp [numbered]
    | cons a r => simp only [numbered, List.drop_succ_cons]; rw [ih, show came + 1 + k = came + (k + 1) by omega]
/-- Ticks that never fall. -/
def Rising (ts : List Int) : Prop := ∀ (i j : Nat) (a b : Int), i ≤ j → ts[i]? = some a → ts[j]? = some b → a ≤ b
theorem rise_numbered {ts : List Int} (h : Rising ts) (came : Nat) : Rise (numbered came ts) := by
  intro i j p q hij hp hq
  rw [numbered_get] at hp hq
  simp only [Option.map_eq_some_iff] at hp hq
  obtain ⟨a, ha, rfl⟩ := hp
  obtain ⟨b, hb, rfl⟩ := hq
  exact h i j a b hij ha hb
theorem rising_snoc {ts : List Int} {t : Int} (h : Rising ts) (ht : ∀ a ∈ ts, a ≤ t) : Rising (ts ++ [t]) := by
  intro i j a b hij ha hb
  have hi := (List.getElem?_eq_some_iff.1 ha).1
  have hj := (List.getElem?_eq_some_iff.1 hb).1
  simp only [List.length_append, List.length_singleton] at hi hj
  by_cases h1 : j < ts.length
  · rw [List.getElem?_append_left h1] at hb
    rw [List.getElem?_append_left (by omega)] at ha
    exact h i j a b hij ha hb
  · obtain rfl : j = ts.length := by omega
    rw [List.getElem?_append_right (by omega)] at hb
    simp at hb
    subst hb
    by_cases h2 : i < ts.length
    · rw [List.getElem?_append_left h2] at ha
      exact ht a (List.mem_of_getElem? ha)
    · obtain rfl : i = ts.length := by omega
      rw [List.getElem?_append_right (by omega)] at ha
      simp at ha
      omega
theorem rising_drop {ts : List Int} (h : Rising ts) (k : Nat) : Rising (ts.drop k) := by
  intro i j a b hij ha hb
  rw [List.getElem?_drop] at ha hb
  exact h (k + i) (k + j) a b (by omega) ha hb
theorem cnt_all {ts : List Int} {t : Int} {came k : Nat} (ht : ∀ a ∈ ts, a ≤ t) (hk : CntLe (numbered came ts) t k) : k = ts.length := by
  have h1 := hk.1
  rw [numbered_len] at h1
  rcases Nat.lt_or_ge k ts.length with h | h
  · have hp : (numbered came ts)[k]? = some (ts[k], ((came + k : Nat) : Int)) := by rw [numbered_get, List.getElem?_eq_getElem h]; rfl
    have := hk.2.2 k _ (Nat.le_refl _) hp
    have := ht ts[k] (List.getElem_mem h)
    simp only at *
    omega
  · omega
theorem numbered_snd (came : Nat) (ts : List Int) (k : Nat) (j : Nat) (hj : j < k) (hk : k ≤ ts.length) : (((numbered came ts).take k).map (·.2))[j]? = some ((came + j : Nat) : Int) := by
  rw [List.getElem?_map, List.getElem?_take, if_pos hj, numbered_get, List.getElem?_eq_getElem (by omega)]
  rfl

theorem Try.info22 : (Try.prog.info? 22).map (fun i => (i.zero, i.size, i.bytes)) = some (some (.int .u64 0), 1, 8) := by kernel_rfl
def u64s (xs : List Int) : List Value := xs.map (Value.int .u64)
theorem u64s_len (xs : List Int) : (u64s xs).length = xs.length := by simp [u64s]
theorem u64s_get (xs : List Int) (i : Nat) (x : Int) (h : xs[i]? = some x) : (u64s xs)[i]? = some (.int .u64 x) := by simp [u64s, h]
theorem u64s_snoc (xs : List Int) (x : Int) : u64s (xs ++ [x]) = u64s xs ++ [.int .u64 x] := by simp [u64s]
theorem u64s_tail (xs : List Int) : (u64s xs).tail = u64s xs.tail := by cases xs <;> rfl

/-- A slice without its first element. -/
theorem Own.rest {w : World} {T : TypeId} {g o n c : Nat} {xs : List Value} (h : Own w T 1 (.slice (some ⟨g, o, none⟩) n c) n xs) (hn : 0 < n) :
    Own w T 1 (.slice (if c = 1 then some ⟨g, o, none⟩ else some ⟨g, o + 1, none⟩) (n - 1) (c - 1)) (n - 1) xs.tail := by
  rcases h.2 with ⟨h0, _⟩ | ⟨g', o', c', L, hv, hb, hn', hc, hL, ht⟩
  · cases h0
  · injection hv with e1 _ e3
    injection e1 with e1
    injection e1 with e1 e2
    subst e1; subst e2; subst e3
    have hl := h.1
    refine ⟨by rw [List.length_tail]; omega, .inr ?_⟩
    by_cases h1 : c = 1
    · subst h1
      obtain rfl : n = 1 := by omega
      refine ⟨g, o, 0, L, rfl, hb, by omega, by omega, by omega, ?_⟩
      rw [← ht]
      cases hd : L.drop o with
      | nil => simp
      | cons a r => simp
    · rw [if_neg h1]
      refine ⟨g, o + 1, c - 1, L, rfl, hb, by omega, by omega, by omega, ?_⟩
      rw [← ht, ← List.drop_drop]
      cases hd : L.drop o with
      | nil => simp
      | cons a r =>
        obtain ⟨m, rfl⟩ : ∃ m, n = m + 1 := ⟨n - 1, by omega⟩
        simp
theorem Own.rest_block {g o n c : Nat} : (Value.slice (if c = 1 then some ⟨g, o, none⟩ else some ⟨g, o + 1, none⟩) (n - 1) (c - 1)).ownBlock = some g := by
  split <;> rfl

theorem nextS_nil {w : World} {B g : Nat} {d room : Int} (h : LinkS w B g d room []) (hr : 1 ≤ room) :
    Calls Try.prog 14 #[.pointer (some ⟨g, 0, none⟩)] w fun e w' => e = .returned (.tuple #[.int .u64 0, .bool false]) ∧ w = w' := nextS h hr
theorem nextS_cons {w : World} {B g : Nat} {d room : Int} {p : Int × Int} {ps : List (Int × Int)} (h : LinkS w B g d room (p :: ps)) (hr : 1 ≤ room) :
    Calls Try.prog 14 #[.pointer (some ⟨g, 0, none⟩)] w fun e w' => e = .returned (.tuple #[.int .u64 p.1, .bool true]) ∧ w = w' :=
  (nextS h hr).mono fun e w' h => ⟨by rw [h.1]; simp [headTick], h.2⟩
theorem t64 (r : Int) : 0 ≤ (r.tmod 64 + 64).tmod 64 ∧ (r.tmod 64 + 64).tmod 64 ≤ 63 ∧ -64 < r.tmod 64 ∧ r.tmod 64 < 64 := by
  have h1 := Int.tmod_lt_of_pos r (b := 64) (by omega)
  have h2 := Int.lt_tmod_of_pos r (b := 64) (by omega)
  have h3 : 0 ≤ r.tmod 64 + 64 := by omega
  have h4 := Int.tmod_lt_of_pos (r.tmod 64 + 64) (b := 64) (by omega)
  have h5 := Int.tmod_nonneg (64 : Int) h3
  omega

theorem LinkS.below {w w' : World} {B g : Nat} {d room : Int} {ps : List (Int × Int)} (h : LinkS w B g d room ps) (hb : Below w.heap.size w w') : LinkS w' B g d room ps := by
  obtain ⟨A, c, hL, ho, hg⟩ := h
  exact ⟨A, c, hL.chg (Chg.of_below hb) (by simp) (by simp), ho, hg⟩

set_option maxHeartbeats 4000000 in
set_option maxRecDepth 100000 in
theorem order_ok (d room : Int) (A : Option Addr) (n c : Nat) (xs : List (Bool × Int × Int)) (w : World) (hd0 : 0 ≤ d) (hd1 : d ≤ 18446744073709551615) (hs : StepsAt w A xs) (hn : xs.length = n) (hnm : n ≤ 9223372036854775807) :
    Calls Try.prog 4 #[.int .u64 d, .int .i64 room, .slice A n c] w (AllTrue w) := by
  subst hn
  obtain ⟨i0, hi, hy0, hy1, hy2⟩ := info_parts Try.info22
  have HSA := hid hs
  clear hs
  go_enter Try.func4, Try.ntmps4
  go_wp2_with fail
  have e64 : wrap64 (1 + (wrap64 (room.tmod 64 + 64)).tmod 64) = 1 + ((room.tmod 64 + 64).tmod 64) := by
    have h := t64 room
    rw [IntWalk.wrap64_in (room.tmod 64 + 64) (by omega), IntWalk.wrap64_in _ (by omega)]
  rw [e64]
  obtain ⟨D, hD⟩ : ∃ D, D = d % 1025 := ⟨_, rfl⟩
  obtain ⟨R, hR⟩ : ∃ R, R = 1 + ((room.tmod 64 + 64).tmod 64) := ⟨_, rfl⟩
  rw [← hD, ← hR]
  have D0 : 0 ≤ D := by omega
  have D1 : D ≤ 1024 := by omega
  have R0 : 1 ≤ R := by have h := t64 room; omega
  have R1 : R ≤ 64 := by have h := t64 room; omega
  clear hD hR e64 hd0 hd1
  refine (newS (w := w) D1 R0 (by omega)).mono ?_
  rintro e w1 ⟨rfl, hL1, hD1, hs1⟩
  obtain ⟨B, hBB⟩ : ∃ B, B = w.heap.size := ⟨_, rfl⟩
  rw [← hBB] at hL1 hD1
  have hz1 : B ≤ w1.heap.size := by rw [hs1]; omega
  clear hs1
  have HB := hid hBB
  rw [← hBB]
  clear hBB
  go_wp2_with fail
  refine (awake_any w1).mono ?_
  rintro e w2 ⟨rfl, hb2⟩
  have hL2 : LinkS w2 B B D R [] := hL1.below hb2
  have bb2 : Below B w w2 := hD1.below.trans (hb2.mono hz1)
  clear hL1
  go_wp2_with fail
  go_loopw [9, 10, 11, 12, 13] (fun n9 v s11 c12 i wr => ∃ (k : Nat) (now : Int) (ts : List Int) (came : Nat) (Aw : Option Addr) (cw : Nat), k ≤ 400 ∧ k ≤ xs.length ∧ n9 = .int .u64 now ∧ 0 ≤ now ∧ now ≤ 2050 * k ∧
    v = .slice Aw ts.length cw ∧ Own wr 22 1 (.slice Aw ts.length cw) ts.length (u64s ts) ∧ (∀ j, (Value.slice Aw ts.length cw).ownBlock = some j → B ≤ j) ∧ s11 = .int .i64 ((came + ts.length : Nat) : Int) ∧ c12 = .int .i64 (came : Int) ∧ i = .int .i64 k ∧
    came + ts.length ≤ k ∧ LinkS wr B B D R (numbered came ts) ∧ Rising ts ∧ (∀ a ∈ ts, a ≤ now + D) ∧ (ts.length : Int) ≤ R ∧ Below B w wr) (fun _ _ _ _ i _ => 400 - (intOf i).toNat)
  case atStart => exact ⟨0, 0, [], 0, none, 0, by omega, Nat.zero_le _, rfl, by omega, by omega, rfl, by simpa [u64s] using Own.nil w2 22 1, fun j hj => by simp [Value.ownBlock] at hj, rfl, rfl, rfl, by simp, hL2, fun i j a b _ h => by simp at h, by simp, by simp; omega, bb2⟩
  case round =>
    obtain ⟨k, now, ts, came, Aw, cw, hk4, hkx, rfl, now0, now1, rfl, hOw, hob, rfl, rfl, rfl, hck, LR, hri, hle, htl, hbel⟩ := hrel
    have sR := hbel.size
    rw [← HB.out] at sR
    have hnl : (numbered came ts).length = ts.length := numbered_len came ts
    have HNL := hid hnl
    clear hnl
    by_cases hend : k < xs.length ∧ k < 400
    · obtain ⟨hlt, hlt4⟩ := hend
      have hp : xs[k]? = some xs[k] := List.getElem?_eq_getElem hlt
      obtain ⟨x, hx⟩ : ∃ x, x = xs[k] := ⟨_, rfl⟩
      rw [← hx] at hp
      clear hx
      obtain ⟨b, o, rfl, hb, q0, q1, q2, hnow0⟩ := HSA.out k x hp
      rw [← HB.out] at hb
      rw [← hbel.cell (p := ⟨b, o + k * 3, none⟩) hb] at q0
      rw [← hbel.cell (p := ⟨b, o + k * 3 + 1, none⟩) hb] at q1
      have hbw := World.block_lt_of_cell? _ _ q0
      dsimp only at hbw
      obtain ⟨s, q, num⟩ := x
      dsimp only at q0 q1 q2 hnow0
      clear q2
      have k0 : (0 : Int) ≤ (k : Int) := by omega
      have k1 : (k : Int) < (xs.length : Int) := by omega
      have m0 : 0 ≤ q % (2 * D + 3) := Int.emod_nonneg _ (by omega)
      have m1 : q % (2 * D + 3) < 2 * D + 3 := Int.emod_lt_of_pos _ (by omega)
      clear hp
      cases s with
      | true =>
        go_wp2_with fail
        obtain ⟨nw, hnw⟩ : ∃ nw, nw = now + q % (2 * D + 3) := ⟨_, rfl⟩
        rw [← hnw]
        have n0 : 0 ≤ nw := by omega
        have n1 : nw ≤ 2050 * (k + 1 : Nat) := by omega
        have n2 : now ≤ nw := by omega
        have hle2 : ∀ a ∈ ts, a ≤ nw + D := fun a ha => by have := hle a ha; omega
        have HLE := hid hle
        have HLE2 := hid hle2
        have HNW := hid hnw
        clear hnw m0 m1 hle hle2
        by_cases hfull : (ts.length : Int) = R
        · refine (sendS_full (B := B) LR R0 (by omega) (by rw [HNL.out]; exact hfull)).mono ?_
          rintro e w3 ⟨rfl, hD3⟩
          have d1 : decide ((ts.length : Int) < R) = false := by simp; omega
          go_wp2
          go_roundw
          case measure => simp [intOf]; omega
          case rel => exact ⟨k + 1, nw, ts, came, Aw, cw, by omega, by omega, rfl, n0, n1, rfl, hOw.did hD3 (by simp), hob, by go_num, rfl, by go_num, by omega, LR.did hD3 (by simp) (by simp), hri, HLE2.out, htl, hbel.trans hD3.below⟩
        · have hlt2 : (ts.length : Int) < R := by omega
          refine (sendS_ok (B := B) LR sR (by omega) n0 (by omega) D0 D1 (by rw [HNL.out]; exact hlt2) (rise_numbered hri came)).mono ?_
          rintro e w3 ⟨rfl, k2, hk2, hL3, hD3⟩
          have ek := cnt_all HLE2.out hk2
          rw [ek, List.take_of_length_le (by rw [HNL.out]; exact Nat.le_refl _), List.drop_of_length_le (by rw [HNL.out]; exact Nat.le_refl _), show ((came : Int) + (ts.length : Int)) = ((came + ts.length : Nat) : Int) by omega, numbered_snoc] at hL3
          clear ek hk2
          have O3 := hOw.did hD3 (by simp)
          have s3 := Nat.le_trans sR hD3.below.size
          go_wp2_with ((with_reducible refine at_append_ ?_); (refine wpList_append_any _ rfl (.tmp 90) (.tmp 94) 46 rfl 22 i0 _ 1 8 Try.underlying46 hi hy0 hy1 hy2 rfl (by omega) (.slice Aw ts.length cw) ts.length (u64s ts) rfl (O3.alloc _) ⟨w3.heap.size, 0, none⟩ 1 1 [.int .u64 (nw + D)] rfl rfl (Blk.new w3 22 #[.int .u64 (nw + D)]).adds0 (by simp [Value.oneCell']) (by unfold maxLen; omega) (by omega) ?_; intro Aw2 cw2 w4 hO4 hC4 hb4))
          go_roundw
          case measure => simp [intOf]; omega
          case rel =>
            have hl : (ts ++ [nw + D]).length = ts.length + 1 := by simp
            have dC : Did B [22] w3 w4 := ((Did.refl B [22] w3).alloc s3 _).trans (Did.of_chg hC4 (fun x hx => by
              obtain ⟨cs, hb⟩ := (O3.alloc _).blk x hx
              exact ⟨hob x (by simpa using hx), 22, cs, hb, by simp⟩) (by simp; omega))
            refine ⟨k + 1, nw, ts ++ [nw + D], came, Aw2, cw2, by omega, by omega, rfl, n0, n1, by rw [hl], by rw [hl, u64s_snoc]; exact hO4, fun j hj => ?_, by rw [hl]; go_num, rfl, by go_num, by rw [hl]; omega, hL3.did dC (by simp) (by simp), rising_snoc hri HLE2.out, fun a ha => ?_, by rw [hl]; omega, (hbel.trans hD3.below).trans dC.below⟩
            · rw [hl] at hj
              rcases hb4 with h5 | ⟨q', h5, h6⟩
              · exact hob j (h5.symm.trans hj)
              · rw [h5] at hj
                simp only [Option.some.injEq] at hj
                subst hj
                simp at h6
                omega
            · rcases List.mem_append.1 ha with h | h
              · exact HLE2.out a h
              · rw [List.mem_singleton] at h; omega
      | false =>
        go_wp2_with fail
        obtain ⟨nw, hnw⟩ : ∃ nw, nw = now + q % (2 * D + 3) := ⟨_, rfl⟩
        rw [← hnw]
        have n0 : 0 ≤ nw := by omega
        have n1 : nw ≤ 2050 * (k + 1 : Nat) := by omega
        have n2 : now ≤ nw := by omega
        have hle2 : ∀ a ∈ ts, a ≤ nw + D := fun a ha => by have := hle a ha; omega
        have HLE := hid hle
        have HLE2 := hid hle2
        have HNW := hid hnw
        clear hnw m0 m1 hle hle2
        refine (comeS2 (B := B) LR sR R0 (by rw [HNL.out]; omega) (by omega) (rise_numbered hri came)).mono ?_
        rintro e w3 ⟨k2, gl, Ag, cg, hk2, hgl, rfl, hOg, hFg, hL3, hD3⟩
        have hk2l : k2 ≤ ts.length := by have := hk2.1; rw [HNL.out] at this; exact this
        have hgll : gl.length = k2 := by rw [← hgl, List.length_map, List.length_take, HNL.out]; omega
        rw [numbered_drop] at hL3
        have HGL := hid hgl
        have HK2 := hid hk2
        have HGLL := hid hgll
        have O3 := hOw.did hD3 (by simp)
        have hgk : (gl.length : Int) ≤ 400 := by omega
        clear hgl hk2 hgll
        go_wp2_with fail
        go_loopw [10, 12, 18] (fun v c12 i wz => ∃ (j : Nat) (Ay : Option Addr) (cy : Nat), j ≤ gl.length ∧ i = .int .i64 j ∧ c12 = .int .i64 ((came + j : Nat) : Int) ∧ v = .slice Ay (ts.drop j).length cy ∧ Own wz 22 1 (.slice Ay (ts.drop j).length cy) (ts.drop j).length (u64s (ts.drop j)) ∧ (∀ m, (Value.slice Ay (ts.drop j).length cy).ownBlock = some m → B ≤ m) ∧ Did B [] w3 wz) (fun _ _ i _ => gl.length - (intOf i).toNat)
        case atStart => exact ⟨0, Aw, cw, Nat.zero_le _, rfl, rfl, rfl, O3, hob, Did.refl _ _ _⟩
        case round =>
          obtain ⟨j, Ay, cy, hj, rfl, rfl, rfl, hOy, hoy, hDz⟩ := hrel
          have Og := hOg.did hDz (by simp)
          by_cases hjl : j < gl.length
          · have hjt : j < ts.length := by have := HGLL.out; omega
            have hdl : 0 < (ts.drop j).length := by rw [List.length_drop]; omega
            obtain ⟨ga, oa, ca, hv, hnc, hcm, _⟩ := hOy.some_ hdl
            injection hv with hA1 _ hc1
            subst hA1; subst hc1
            obtain ⟨gb, ob, cb, hv, hnb, hbm, _⟩ := Og.some_ (by omega)
            injection hv with hA2 _ hc2
            subst hA2; subst hc2
            have hg : gl[j]? = some ((came + j : Nat) : Int) := by rw [← HGL.out]; exact numbered_snd came ts k2 j (by have := HGLL.out; omega) hk2l
            have qg := (Og.cell (ints_get gl j _ hg)).1
            dsimp only at qg
            have ht : (ts.drop j)[0]? = some ts[j] := by rw [List.getElem?_drop, Nat.add_zero]; exact List.getElem?_eq_getElem hjt
            obtain ⟨t, hte⟩ : ∃ t, t = ts[j] := ⟨_, rfl⟩
            rw [← hte] at ht
            have qt := (hOy.cell (u64s_get _ 0 t ht)).1
            dsimp only at qt
            rw [Nat.add_zero] at qt
            have htn : t ≤ nw := by
              have := HK2.out.2.1 j (t, ((came + j : Nat) : Int)) (by have := HGLL.out; omega) (by rw [numbered_get, hte, List.getElem?_eq_getElem hjt]; rfl)
              exact this
            have hrest := hOy.rest hdl
            have hrb := fun m (hm : (Value.slice (if cy = 1 then some ⟨ga, oa, none⟩ else some ⟨ga, oa + 1, none⟩) ((ts.drop j).length - 1) (cy - 1)).ownBlock = some m) => by rw [Own.rest_block] at hm; exact hoy m (by simpa [Value.ownBlock] using hm)
            have hll : (ts.drop j).length - 1 = (ts.drop (j + 1)).length := by rw [List.length_drop, List.length_drop]; omega
            have htt : (u64s (ts.drop j)).tail = u64s (ts.drop (j + 1)) := by rw [u64s_tail, List.tail_drop]
            rw [hll, htt] at hrest
            rw [hll] at hrb
            obtain ⟨n1l, hn1⟩ : ∃ n1l, n1l = (ts.drop j).length := ⟨_, rfl⟩
            rw [← hn1] at hll hdl hnc ⊢
            have HLL := hid hll
            have HRB := hid hrb
            have HREST := hid hrest
            have hne : ((n1l : Int) == 0) = false := beq_eq_false_iff_ne.2 (by omega)
            have hj0 : (0 : Int) ≤ (j : Int) := by omega
            have hj1 : (j : Int) < (gl.length : Int) := by omega
            have qg' : wr.cell? ⟨gb, ob + j, none⟩ = some (.int .i64 ((came : Int) + (j : Int))) := by rw [qg, Int.natCast_add]
            clear hrest hrb hll htt hte ht hg hn1 qg
            by_cases hc1 : cy = 1
            · subst hc1
              go_wp2
              go_roundw
              case measure => simp [intOf]; omega
              case rel =>
                have z := HREST.out
                have y := HRB.out
                rw [if_pos rfl] at z y
                exact ⟨j + 1, _, _, by omega, by go_num, by go_num, (by rw [← HLL.out]; have h1 : n1l - 1 = 0 := (by omega); rw [h1]), z, y, hDz⟩
            · go_wp2
              go_roundw
              case measure => simp [intOf]; omega
              case rel =>
                have z := HREST.out
                have y := HRB.out
                rw [if_neg hc1] at z y
                exact ⟨j + 1, _, _, by omega, by go_num, by go_num, (by rw [← HLL.out]), z, y, hDz⟩
          · have hjk : k2 = j := by have := HGLL.out; omega
            subst hjk
            have LZ := hL3.did hDz (by simp) (by simp)
            have bZ := (hbel.trans hD3.below).trans hDz.below
            obtain ⟨us, hus⟩ : ∃ us, us = ts.drop k2 := ⟨_, rfl⟩
            have hur : Rising us := by rw [hus]; exact rising_drop hri k2
            have hule : ∀ a ∈ us, a ≤ nw + D := fun a ha => HLE2.out a (by rw [hus] at ha; exact List.mem_of_mem_drop ha)
            have hul : ts.length = k2 + us.length := by rw [hus, List.length_drop]; omega
            have hlate : ∀ t r, us = t :: r → nw < t := by
              intro t r h
              have hh : (numbered came ts)[k2]? = some (t, ((came + k2 : Nat) : Int)) := by
                have h1 : (ts.drop k2)[0]? = some t := by rw [← hus, h]; rfl
                rw [List.getElem?_drop, Nat.add_zero] at h1
                rw [numbered_get, h1]; rfl
              exact HK2.out.2.2 k2 _ (Nat.le_refl _) hh
            have HUR := hid hur
            have HULE := hid hule
            have hcu : came + ts.length = came + k2 + us.length := by omega
            rw [← hus] at hOy hoy LZ ⊢
            have HCU := hid hcu
            have hul2 : us.length ≤ ts.length := by omega
            have HU3 := hid (show came + k2 + us.length ≤ k by omega)
            clear hul hur hule hus hcu
            have hjl2 : ¬ ((k2 : Int) < (gl.length : Int)) := by omega
            rcases us with _ | ⟨t, r⟩
            · go_wp2_with fail
              refine (nextS_nil LZ R0).mono ?_
              rintro e w5 ⟨rfl, rfl⟩
              go_wp2_with fail
              refine (lenS LZ R0).mono ?_
              rintro e w5 ⟨rfl, rfl⟩
              go_wp2
              go_roundw
              case measure => simp [intOf]; omega
              case rel => exact ⟨k + 1, nw, [], came + k2, Ay, cy, by omega, by omega, rfl, n0, n1, rfl, hOy, hoy, by rw [← HCU.out]; go_num, rfl, by go_num, by have := HU3.out; omega, LZ, HUR.out, HULE.out, by simp; omega, bZ⟩
            · have hlt9 := hlate t r rfl
              clear hlate
              obtain ⟨ga, oa, ca, hv, hnc, hcm, _⟩ := hOy.some_ (by simp)
              injection hv with hA1 _ hc1
              subst hA1; subst hc1
              have qt := (hOy.cell (u64s_get (t :: r) 0 t rfl)).1
              dsimp only at qt
              rw [Nat.add_zero] at qt
              have hne : 0 < (t :: r).length := by simp
              have LZ1 : LinkS wr B B D R ((t, ((came + k2 : Nat) : Int)) :: numbered (came + k2 + 1) r) := LZ
              have hln : (numbered (came + k2) (t :: r)).length = (t :: r).length := numbered_len _ _
              have HLN := hid hln
              clear hln
              obtain ⟨nl, hnl⟩ : ∃ nl, nl = (t :: r).length := ⟨_, rfl⟩
              rw [← hnl] at hne hnc ⊢
              have HNL2 := hid hnl
              clear hnl
              have hne2 : (0 : Int) < (nl : Int) := by omega
              have hne3 : decide (0 < nl) = true := by simpa using hne
              have hnn : ¬ (t ≤ nw) := by omega
              go_wp2_with fail
              refine (nextS_cons LZ1 R0).mono ?_
              rintro e w5 ⟨rfl, rfl⟩
              go_wp2_with fail
              refine (lenS LZ R0).mono ?_
              rintro e w5 ⟨rfl, rfl⟩
              rw [HLN.out, ← HNL2.out]
              go_wp2
              go_roundw
              case measure => simp [intOf]; omega
              case rel => exact ⟨k + 1, nw, t :: r, came + k2, _, cy, by omega, by omega, rfl, n0, n1, by rw [HNL2.out], hOy, hoy, by rw [← HCU.out]; go_num, rfl, by go_num, by have := HU3.out; omega, LZ, HUR.out, HULE.out, by omega, bZ⟩
    · have hall : ∀ a ∈ ts, a ≤ now + D := hle
      have HALL := hid hall
      clear hall hle
      have fin : ∀ W, Below w1.heap.size W W → True := fun _ _ => trivial
      clear fin
      by_cases hkl : k < xs.length
      · have hk400 : k = 400 := by omega
        subst hk400
        go_wp2_with fail
        refine (comeS2 (B := B) LR sR R0 (by rw [HNL.out]; omega) (by omega) (rise_numbered hri came)).mono ?_
        rintro e w3 ⟨k2, gl, Ag, cg, hk2, hgl, rfl, hOg, hFg, hL3, hD3⟩
        have ek := cnt_all HALL.out hk2
        have hgll : gl.length = ts.length := by rw [← hgl, List.length_map, List.length_take, HNL.out]; omega
        rw [ek, List.drop_of_length_le (by rw [HNL.out]; exact Nat.le_refl _)] at hL3
        rw [hgll]
        clear hgl hgll ek hk2 hOg hFg
        have bZ := hid (hbel.trans hD3.below)
        have heq : (((came : Int) + (ts.length : Int)) == ((came : Int) + (ts.length : Int))) = true := by simp
        go_wp2_with fail
        refine (lenS hL3 R0).mono ?_
        rintro e w5 ⟨rfl, rfl⟩
        go_wp2
        go_ret
        refine ⟨rfl, ?_⟩
        rw [← HB.out]
        exact bZ.out
      · go_wp2_with fail
        refine (comeS2 (B := B) LR sR R0 (by rw [HNL.out]; omega) (by omega) (rise_numbered hri came)).mono ?_
        rintro e w3 ⟨k2, gl, Ag, cg, hk2, hgl, rfl, hOg, hFg, hL3, hD3⟩
        have ek := cnt_all HALL.out hk2
        have hgll : gl.length = ts.length := by rw [← hgl, List.length_map, List.length_take, HNL.out]; omega
        rw [ek, List.drop_of_length_le (by rw [HNL.out]; exact Nat.le_refl _)] at hL3
        rw [hgll]
        clear hgl hgll ek hk2 hOg hFg
        have bZ := hid (hbel.trans hD3.below)
        have heq : (((came : Int) + (ts.length : Int)) == ((came : Int) + (ts.length : Int))) = true := by simp
        go_wp2_with fail
        refine (lenS hL3 R0).mono ?_
        rintro e w5 ⟨rfl, rfl⟩
        go_wp2
        go_ret
        refine ⟨rfl, ?_⟩
        rw [← HB.out]
        exact bZ.out
end Go.Proofs.Ytendgfbkbeapoaa
