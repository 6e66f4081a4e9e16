/- Send of the link, walked: what it returns and what it does to memory. -/
import Derived.Test.YtendgfbkbeapoaaLinkD
import Derived.Deep.RegionHeld3
import Derived.Deep.DrawnRows
namespace Go.Proofs.Ytendgfbkbeapoaa
open Go.RowKit
attribute [local go_sem ↓] Go.wp_at_zero Go.wp_at_succ

set_option maxHeartbeats 400000 in
theorem send_late (g : Nat) (d room now num : Int) (A : Option Addr) (c : Nat) (ps : List (Int × Int)) (w : World) (hL : LinkAt w g d room A c ps) (hr : 1 ≤ room) (hnow : 1099511627776 < now) :
    Calls Try.prog 9 #[.pointer (some ⟨g, 0, none⟩), .int .u64 now, .int .i64 num] w fun e w' => e = .returned (.tuple #[.bool false, .int .i64 2]) ∧ w = w' := by
  obtain ⟨h0, h1, h2⟩ := hL.cells
  clear hL
  go_enter Try.func9, Try.ntmps9
  go_wp2_with (go_at_call 17; refine (none_link _ _ _ h1 hr).mono ?_; rintro e w' ⟨rfl, rfl⟩)
  go_ret2
  exact ⟨rfl, rfl⟩

set_option maxHeartbeats 400000 in
theorem send_full (g : Nat) (d room now num : Int) (A : Option Addr) (c : Nat) (ps : List (Int × Int)) (w : World) (hL : LinkAt w g d room A c ps) (hr : 1 ≤ room) (hnow : now ≤ 1099511627776) (hf : (ps.length : Int) = room) :
    Calls Try.prog 9 #[.pointer (some ⟨g, 0, none⟩), .int .u64 now, .int .i64 num] w fun e w' => e = .returned (.tuple #[.bool false, .int .i64 0]) ∧ Drawn w w' := by
  obtain ⟨h0, h1, h2⟩ := hL.cells
  have hb : ((ps.length : Int) == room) = true := beq_iff_eq.2 hf
  clear hL hf
  go_enter Try.func9, Try.ntmps9
  go_wp2_with (go_at_call 17; refine (none_link _ _ _ h1 hr).mono ?_; rintro e w' ⟨rfl, rfl⟩)
  go_quiet (fail)
  go_wp2
  go_ret2
  exact ⟨rfl, _, rfl⟩

theorem blk_s {w : World} {g : Nat} {a b v : Value} (h : Blk w g 49 [a, b, v]) : w.cell? ⟨g, 2, none⟩ = some v ∧ w.frozen? ⟨g, 2, none⟩ = false ∧ Blk w g 49 [a, b, v] := ⟨h.cell_of rfl, h.frozen 2, h⟩
def SendPost (g : Nat) (d room t num : Int) (A : Option Addr) (c : Nat) (ps : List (Int × Int)) (w : World) (e : Ending) (w' : World) : Prop :=
  e = .returned (.tuple #[.bool true, .int .i64 0]) ∧ ∃ A' c' k, CntLe ps t k ∧ LinkAt w' g d room A' c' (ps.take k ++ (t, num) :: ps.drop k) ∧
    Chg (g :: (Value.slice A ps.length c).ownBlock.toList) w w' ∧ ∀ j, (Value.slice A' (ps.length + 1) c').ownBlock = some j → (Value.slice A ps.length c).ownBlock = some j ∨ w.heap.size ≤ j

theorem send_fin {w w2 : World} {g : Nat} {d room t num : Int} {A : Option Addr} {c : Nat} {ps : List (Int × Int)} {A' : Option Addr} {c' k : Nat} (hk : CntLe ps t k)
    (B2 : Blk w2 g 49 [.int .u64 d, .int .i64 room, .slice A ps.length c])
    (hown : Own w2 52 2 (.slice A' (ps.length + 1) c') (ps.length + 1) ((sc ps).take (k * 2) ++ [.int .u64 t, .int .i64 num] ++ (sc ps).drop (k * 2)))
    (hC : Chg (Value.slice A ps.length c).ownBlock.toList w w2)
    (hb : ∀ j, (Value.slice A' (ps.length + 1) c').ownBlock = some j → (Value.slice A ps.length c).ownBlock = some j ∨ w.heap.size ≤ j) :
    SendPost g d room t num A c ps w (.returned (.tuple #[.bool true, .int .i64 0])) (w2.setCell ⟨g, 2, none⟩ (.slice A' (ps.length + 1) c')) := by
  have hl : (ps.take k ++ (t, num) :: ps.drop k).length = ps.length + 1 := by
    have := hk.1
    rw [List.length_append, List.length_take, List.length_cons, List.length_drop]
    omega
  refine ⟨rfl, A', c', k, hk, ⟨?_, ?_⟩, (hC.mono (fun j hj => .inl (List.mem_cons_of_mem _ hj))).setCell (.inl (by simp)) _, hb⟩
  · rw [hl]
    exact B2.set_ 2 _
  · rw [hl]
    have hx : (sc ps).take (k * 2) ++ [.int .u64 t, .int .i64 num] ++ (sc ps).drop (k * 2) = sc (ps.take k ++ (t, num) :: ps.drop k) := by
      rw [sc_take, sc_drop, sc_append]
      simp [sc]
    rw [hx] at hown
    exact hown.far (hown.ne_ B2 (by decide)) _

set_option maxHeartbeats 1000000 in
theorem send_ok (g : Nat) (d room now num : Int) (A : Option Addr) (c : Nat) (ps : List (Int × Int)) (w : World) (hL : LinkAt w g d room A c ps) (hrm : room ≤ 1024) (hnow0 : 0 ≤ now) (hnow : now ≤ 1099511627776) (hd0 : 0 ≤ d) (hd : d ≤ 1024) (hf : (ps.length : Int) < room) (hri : Rise ps) :
    Calls Try.prog 9 #[.pointer (some ⟨g, 0, none⟩), .int .u64 now, .int .i64 num] w (SendPost g d room (now + d) num A c ps w) := by
  obtain ⟨h0, h1, h2⟩ := hL.cells
  have hb : ((ps.length : Int) == room) = false := beq_eq_false_iff_ne.2 (by omega)
  have hr : 1 ≤ room := by omega
  have hlen : ps.length ≤ 1000000 := by omega
  go_enter Try.func9, Try.ntmps9
  go_wp2_with (go_at_call 17; refine (none_link _ _ _ h1 hr).mono ?_; rintro e w' ⟨rfl, rfl⟩)
  go_quiet (fail)
  go_wp2
  obtain ⟨W, hW⟩ : ∃ W, W = w.drewN nq := ⟨_, rfl⟩
  rw [← hW]
  have LW : LinkAt W g d room A c ps := by rw [hW]; exact hL.chg ((Chg.refl [] w).drewN nq) (by simp) (by simp)
  have CW : Chg [] w W := by rw [hW]; exact (Chg.refl [] w).drewN nq
  clear hW h0 h1 h2 hL hb
  obtain ⟨h0, h1, h2⟩ := LW.cells
  have B0 : Blk W.drew g 49 [.int .u64 d, .int .i64 room, .slice A ps.length c] := LW.blk
  have O0 : Own W.drew 52 2 (.slice A ps.length c) ps.length (sc ps) := LW.own
  have L0 : LinkAt W.drew g d room A c ps := ⟨B0, O0⟩
  have hg : g ∉ (Value.slice A ps.length c).ownBlock.toList := by
    intro hm; exact LW.own.ne_ LW.blk (by decide) (by simpa using hm)
  have ho1 : ∀ v ∈ [Value.int .u64 (now + d), Value.int .i64 num], v.oneCell' = true := by simp [Value.oneCell']
  have HO1 := hid ho1
  clear ho1
  have hlt := LW.blk.lt
  go_region_with (first | (go_at_call 19; refine (behind_any g d room (now + d) A c ps _ (by first | exact L0 | exact ⟨B0.alloc _, O0.alloc _⟩) hlen hri).mono ?_; rintro e w1 ⟨k, rfl, hk, hC⟩; have B1 : Blk w1 g 49 [.int .u64 d, .int .i64 room, .slice A ps.length c] := (by first | exact B0.chg hC (by simp) | exact (B0.alloc _).chg hC (by simp)); have O1 : Own w1 52 2 (.slice A ps.length c) ps.length (sc ps) := (by first | exact O0.chg hC (by simp) | exact (O0.alloc _).chg hC (by simp)); have d2 := B1.cell_of (i := 2) rfl; have d3 := B1.lt; have C1 : Chg [] W w1 := (by first | exact ((Chg.refl [] W).drew).trans hC | exact (((Chg.refl [] W).drew).alloc _).trans hC)) | (go_at_call 18; refine (insert_any A ps.length c k _ 1 (sc ps) (.int .u64 (now + d)) (.int .i64 num) _ (by first | exact O1 | exact O1.alloc _) (by first | exact Blk.new _ 52 #[_, _] | exact (Blk.new W.drew 52 #[_, _]).chg hC (by simp)) (sc_one ps) HO1.out (by intro h; have h5 := LW.own.lt _ h; have h6 := hC.size; simp at h6; omega) hlen hk.1).mono ?_; rintro e w2 ⟨A', c', rfl, hown', hC2, hblk'⟩; have B2 : Blk w2 g 49 [.int .u64 d, .int .i64 room, .slice A ps.length c] := (by first | exact B1.chg hC2 hg | exact (B1.alloc _).chg hC2 hg); have e2 := B2.cell_of (i := 2) rfl; have e3 := B2.frozen 2; have C2 : Chg (Value.slice A ps.length c).ownBlock.toList W w2 := (by first | exact (C1.mono (by simp)).trans hC2 | exact ((C1.alloc _).mono (by simp)).trans hC2)))
  all_goals
    go_wp2
    go_ret2
    refine send_fin hk B2 hown' ((CW.mono (by simp)).trans C2) (fun j hj => ?_)
    rcases hblk' with h5 | ⟨q, h5, h6⟩
    · exact .inl (h5.symm.trans hj)
    · right
      rw [h5] at hj
      simp only [Option.some.injEq] at hj
      subst hj
      have h7 := C1.size
      have h8 := CW.size
      try simp at h6
      omega
end Go.Proofs.Ytendgfbkbeapoaa
