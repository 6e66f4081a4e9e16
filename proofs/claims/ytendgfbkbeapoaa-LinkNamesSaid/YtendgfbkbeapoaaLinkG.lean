/- The reference's link: Next and Send, walked. -/
import Derived.Test.YtendgfbkbeapoaaLinkF
namespace Go.Proofs.Ytendgfbkbeapoaa
open Go.RowKit
attribute [local go_sem ↓] Go.wp_at_zero Go.wp_at_succ

/-- The cells of the packets on their way, as the reference lays them: number, tick. -/
def rc (ps : List (Int × Int)) : List Value := ps.flatMap fun p => [.int .i64 p.2, .int .u64 p.1]
theorem rc_len (ps : List (Int × Int)) : (rc ps).length = ps.length * 2 := by
  induction ps with
  | nil => rfl
  | cons p r ih => simp [rc] at ih ⊢; omega
theorem rc_get0 (ps : List (Int × Int)) (i : Nat) (p : Int × Int) (h : ps[i]? = some p) : (rc ps)[i * 2]? = some (.int .i64 p.2) := by
  induction ps generalizing i with
  | nil => simp at h
  | cons q r ih =>
    cases i with
    | zero => simp at h; subst h; simp [rc]
    | succ k =>
      have := ih k (by simpa using h)
      rw [show (k + 1) * 2 = k * 2 + 2 from by omega]
      simpa [rc] using this
theorem rc_get1 (ps : List (Int × Int)) (i : Nat) (p : Int × Int) (h : ps[i]? = some p) : (rc ps)[i * 2 + 1]? = some (.int .u64 p.1) := by
  induction ps generalizing i with
  | nil => simp at h
  | cons q r ih =>
    cases i with
    | zero => simp at h; subst h; simp [rc]
    | succ k =>
      have := ih k (by simpa using h)
      rw [show (k + 1) * 2 + 1 = k * 2 + 1 + 2 from by omega]
      simpa [rc] using this
theorem rc_one (ps : List (Int × Int)) : ∀ v ∈ rc ps, v.oneCell' = true := by
  intro v hv
  simp only [rc, List.mem_flatMap] at hv
  obtain ⟨p, _, hp⟩ := hv
  simp only [List.mem_cons, List.not_mem_nil, or_false] at hp
  rcases hp with rfl | rfl <;> rfl
theorem rc_snoc (ps : List (Int × Int)) (p : Int × Int) : rc (ps ++ [p]) = rc ps ++ [.int .i64 p.2, .int .u64 p.1] := by simp [rc]

structure RefAt (w : World) (g : Nat) (d room : Int) (A : Option Addr) (c : Nat) (ps : List (Int × Int)) : Prop where
  blk : Blk w g 33 [.int .u64 d, .int .i64 room, .slice A ps.length c]
  own : Own w 55 2 (.slice A ps.length c) ps.length (rc ps)
theorem RefAt.cells {w g d room A c ps} (h : RefAt w g d room A c ps) : w.cell? ⟨g, 0, none⟩ = some (.int .u64 d) ∧ w.cell? ⟨g, 1, none⟩ = some (.int .i64 room) ∧ w.cell? ⟨g, 2, none⟩ = some (.slice A ps.length c) :=
  ⟨h.blk.cell_of rfl, h.blk.cell_of rfl, h.blk.cell_of rfl⟩
theorem RefAt.chg {S w w' g d room A c ps} (h : RefAt w g d room A c ps) (hc : Chg S w w') (hg : g ∉ S) (hA : ∀ k, (Value.slice A ps.length c).ownBlock = some k → k ∉ S) : RefAt w' g d room A c ps :=
  ⟨h.blk.chg hc hg, h.own.chg hc hA⟩

/-- The least tick, 0 where there is none. -/
def least : List (Int × Int) → Int
  | [] => 0
  | q :: r => r.foldl (fun m x => if x.1 < m then x.1 else m) q.1
theorem least_one (q : Int × Int) : least [q] = q.1 := rfl
theorem least_snoc (q : Int × Int) (r : List (Int × Int)) (x : Int × Int) : least (q :: r ++ [x]) = if x.1 < least (q :: r) then x.1 else least (q :: r) := by
  simp [least, List.foldl_append]
  rfl

set_option maxHeartbeats 400000 in
theorem refNext_any (g : Nat) (d room : Int) (A : Option Addr) (c : Nat) (qs : List (Int × Int)) (w : World) (hL : RefAt w g d room A c qs) (hlen : qs.length ≤ 1000000) :
    Calls Try.prog 15 #[.pointer (some ⟨g, 0, none⟩)] w fun e w' => e = .returned (.tuple #[.int .u64 (least qs), .bool (decide (0 < qs.length))]) ∧ Drawn w w' := by
  obtain ⟨h0, h1, h2⟩ := hL.cells
  go_enter Try.func15, Try.ntmps15
  go_wp2
  go_loop [4, 5] (fun m i => ∃ k : Nat, k ≤ qs.length ∧ i = .int .i64 k ∧ m = .int .u64 (least (qs.take k))) (fun _ i => qs.length - (intOf i).toNat)
  case atStart => exact ⟨0, Nat.zero_le _, rfl, rfl⟩
  case round =>
    obtain ⟨k, hk, rfl, rfl⟩ := hrel
    by_cases hlt : k < qs.length
    · obtain ⟨g2, o2, c2, hv, hn, hm, _⟩ := hL.own.some_ (by omega)
      injection hv with hA hl hc
      subst hA; subst hc
      have hp : qs[k]? = some qs[k] := List.getElem?_eq_getElem hlt
      obtain ⟨p, hpp⟩ : ∃ p, p = qs[k] := ⟨_, rfl⟩
      rw [← hpp] at hp
      clear hpp
      have q1 := (hL.own.cell (rc_get1 qs k p hp)).1
      dsimp only at q1
      rw [← Nat.add_assoc] at q1
      have e1 : qs.take (k + 1) = qs.take k ++ [p] := by rw [List.take_add_one, hp]; rfl
      have E1 := hid e1
      clear e1 hp
      by_cases hk0 : k = 0
      · subst hk0
        have hl1 : 1 ≤ qs.length := hlt
        have HL1 := hid hl1
        clear hl1
        go_wp2
        go_round
        case rel => exact ⟨1, HL1.out, by go_num, by rw [E1.out]; rfl⟩
        case measure => have := HL1.out; simp [intOf]; omega
      · have hb : ((k : Int) == 0) = false := beq_eq_false_iff_ne.2 (by omega)
        obtain ⟨q, r, hqr⟩ : ∃ q r, qs.take k = q :: r := by
          cases h : qs.take k with
          | nil => have := congrArg List.length h; rw [List.length_take, List.length_nil] at this; omega
          | cons q r => exact ⟨q, r, rfl⟩
        have HQ := hid hqr
        clear hqr
        by_cases hlo : p.1 < least (qs.take k)
        · go_wp2
          go_round
          case rel => exact ⟨k + 1, by omega, by go_num, by rw [E1.out, HQ.out, least_snoc, if_pos (by rw [← HQ.out]; exact hlo)]⟩
          case measure => simp [intOf]; omega
        · go_wp2
          go_round
          case rel => exact ⟨k + 1, by omega, by go_num, by rw [E1.out, HQ.out, least_snoc, if_neg (by rw [← HQ.out]; exact hlo)]⟩
          case measure => simp [intOf]; omega
    · obtain rfl : k = qs.length := by omega
      go_wp2
      go_quiet (fail)
      go_wp2
      go_ret2
      exact ⟨rfl, _, rfl⟩
set_option maxHeartbeats 400000 in
theorem refSend_late (g : Nat) (now num : Int) (w : World) (hnow : 1099511627776 < now) :
    Calls Try.prog 10 #[.pointer (some ⟨g, 0, none⟩), .int .u64 now, .int .i64 num] w fun e w' => e = .returned (.tuple #[.bool false, .int .i64 2]) ∧ w = w' := by
  go_enter Try.func10, Try.ntmps10
  go_wp2
  go_ret2
  exact ⟨rfl, rfl⟩

set_option maxHeartbeats 400000 in
theorem refSend_full (g : Nat) (d room now num : Int) (A : Option Addr) (c : Nat) (ps : List (Int × Int)) (w : World) (hL : RefAt w g d room A c ps) (hnow : now ≤ 1099511627776) (hf : room ≤ (ps.length : Int)) :
    Calls Try.prog 10 #[.pointer (some ⟨g, 0, none⟩), .int .u64 now, .int .i64 num] w fun e w' => e = .returned (.tuple #[.bool false, .int .i64 0]) ∧ Drawn w w' := by
  obtain ⟨h0, h1, h2⟩ := hL.cells
  clear hL
  go_enter Try.func10, Try.ntmps10
  go_wp2
  go_quiet (fail)
  go_wp2
  go_ret2
  exact ⟨rfl, _, rfl⟩

theorem Try.info55 : (Try.prog.info? 55).map (fun i => (i.zero, i.size, i.bytes)) = some (some (.agg #[.int .i64 0, .int .u64 0]), 2, 16) := by kernel_rfl

def RefSendPost (g : Nat) (d room t num : Int) (A : Option Addr) (c : Nat) (ps : List (Int × Int)) (w : World) (e : Ending) (w' : World) : Prop :=
  e = .returned (.tuple #[.bool true, .int .i64 0]) ∧ ∃ A' c', RefAt w' g d room A' c' (ps ++ [(t, num)]) ∧
    Chg (g :: (Value.slice A ps.length c).ownBlock.toList) w w' ∧ ∀ j, (Value.slice A' (ps.length + 1) c').ownBlock = some j → (Value.slice A ps.length c).ownBlock = some j ∨ w.heap.size ≤ j

theorem refSend_fin {w w2 : World} {g : Nat} {d room t num : Int} {A : Option Addr} {c : Nat} {ps : List (Int × Int)} {A' : Option Addr} {c' : Nat}
    (B2 : Blk w2 g 33 [.int .u64 d, .int .i64 room, .slice A ps.length c])
    (hown : Own w2 55 2 (.slice A' (ps.length + 1) c') (ps.length + 1) (rc ps ++ [.int .i64 num, .int .u64 t]))
    (hC : Chg (Value.slice A ps.length c).ownBlock.toList w w2)
    (hb : ∀ j, (Value.slice A' (ps.length + 1) c').ownBlock = some j → (Value.slice A ps.length c).ownBlock = some j ∨ w.heap.size ≤ j) :
    RefSendPost g d room t num A c ps w (.returned (.tuple #[.bool true, .int .i64 0])) (w2.setCell ⟨g, 2, none⟩ (.slice A' (ps.length + 1) c')) := by
  have hl : (ps ++ [(t, num)]).length = ps.length + 1 := by simp
  refine ⟨rfl, A', c', ⟨?_, ?_⟩, (hC.mono (fun j hj => .inl (List.mem_cons_of_mem _ hj))).setCell (.inl (by simp)) _, hb⟩
  · rw [hl]
    exact B2.set_ 2 _
  · rw [hl, rc_snoc]
    exact hown.far (hown.ne_ B2 (by decide)) _

set_option maxHeartbeats 1000000 in
theorem refSend_ok (g : Nat) (d room now num : Int) (A : Option Addr) (c : Nat) (ps : List (Int × Int)) (w : World) (hL : RefAt w g d room A c ps) (hrm : room ≤ 1024) (hnow0 : 0 ≤ now) (hnow : now ≤ 1099511627776) (hd0 : 0 ≤ d) (hd : d ≤ 1024) (hf : (ps.length : Int) < room) :
    Calls Try.prog 10 #[.pointer (some ⟨g, 0, none⟩), .int .u64 now, .int .i64 num] w (RefSendPost g d room (now + d) num A c ps w) := by
  obtain ⟨i0, hi, hz0, hz1, hz2⟩ := info_parts Try.info55
  obtain ⟨h0, h1, h2⟩ := hL.cells
  have hnr : ¬ (room ≤ (ps.length : Int)) := by omega
  go_enter Try.func10, Try.ntmps10
  go_wp2
  go_quiet (fail)
  go_wp2
  obtain ⟨W, hW⟩ : ∃ W, W = w.drewN nq := ⟨_, rfl⟩
  rw [← hW]
  have LW : RefAt W g d room A c ps := by rw [hW]; exact hL.chg ((Chg.refl [] w).drewN nq) (by simp) (by simp)
  have CW : Chg [] w W := by rw [hW]; exact (Chg.refl [] w).drewN nq
  clear hW h0 h1 h2 hL
  obtain ⟨h0, h1, h2⟩ := LW.cells
  have hg := LW.blk.frozen 2
  have hlt := LW.blk.lt
  have HN : ∀ (j : Nat) (u : Value), [Value.int .i64 num, .int .u64 (now + d)][j]? = some u → (W.alloc (.cells #[.int .i64 num, .int .u64 (now + d)] 55)).cell? ((⟨W.heap.size, 0, none⟩ : Addr).add j) = some u := (Blk.new W 55 #[.int .i64 num, .int .u64 (now + d)]).adds0
  have HNN := hid HN
  clear HN
  have ws : IntKind.u64.wrap (now + d) = now + d := by rw [IntKind.wrap_u64]; omega
  go_region_law (refine step_append_any _ (by rfl) (.tmp 24) (.tmp 33) 31 (by rfl) 55 i0 _ 2 16 Try.underlying31 hi hz0 hz1 hz2 rfl (by omega) (.slice A ps.length c) ps.length (rc ps) (by simp [Act.eval]) (by exact LW.own.alloc _) ⟨W.heap.size, 0, none⟩ 1 1 [.int .i64 num, .int .u64 (now + d)] (by simp [Act.eval]) rfl (by exact HNN.out) (by simp [Value.oneCell']) (by unfold maxLen; omega) (by omega) ?_; intro A' c' w2 hO2 hC2 hb2; have B2 : Blk w2 g 33 [.int .u64 d, .int .i64 room, .slice A ps.length c] := (Blk.chg (by exact LW.blk.alloc _) hC2 (by intro hm; exact LW.own.ne_ LW.blk (by decide) (by simpa using hm))); have f2 := B2.frozen 2; have e2 := B2.cell_of (i := 2) rfl)
  all_goals
    go_wp2
    go_ret2
    refine refSend_fin B2 hO2 (by exact Chg.trans (by first | exact ((CW.alloc _).drew).mono (by simp) | exact (CW.alloc _).mono (by simp)) hC2) (fun j hj => ?_)
    rcases hb2 with h5 | ⟨q, h5, h6⟩
    · exact .inl (h5.symm.trans hj)
    · right
      rw [h5] at hj
      simp only [Option.some.injEq] at hj
      subst hj
      have h8 := CW.size
      try simp at h6
      omega
end Go.Proofs.Ytendgfbkbeapoaa
