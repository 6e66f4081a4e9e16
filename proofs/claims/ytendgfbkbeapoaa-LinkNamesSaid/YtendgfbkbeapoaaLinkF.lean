/- Come of the link, walked: what it returns and what it does to memory. -/
import Derived.Test.YtendgfbkbeapoaaLinkE
namespace Go.Proofs.Ytendgfbkbeapoaa
open Go.RowKit

theorem Try.info3 : (Try.prog.info? 3).map (fun i => (i.zero, i.size, i.bytes)) = some (some (.int .i64 0), 1, 8) := by kernel_rfl

set_option maxHeartbeats 400000 in
theorem come_late (g : Nat) (d room now : Int) (A : Option Addr) (c : Nat) (ps : List (Int × Int)) (w : World) (hL : LinkAt w g d room A c ps) (hr : 1 ≤ room) (hnow : 1099511627776 < now) :
    Calls Try.prog 11 #[.pointer (some ⟨g, 0, none⟩), .int .u64 now] w fun e w' => e = .returned (.tuple #[.slice none 0 0, .int .i64 2]) ∧ w = w' := by
  obtain ⟨h0, h1, h2⟩ := hL.cells
  clear hL
  go_enter Try.func11, Try.ntmps11
  go_wp2_with (go_at_call 17; refine (none_link _ _ _ h1 hr).mono ?_; rintro e w' ⟨rfl, rfl⟩)
  go_ret2
  exact ⟨rfl, rfl⟩

def Fresh (w : World) (v : Value) : Prop := ∀ j, v.ownBlock = some j → w.heap.size ≤ j
def ComePost (g : Nat) (d room now : Int) (A : Option Addr) (c : Nat) (ps : List (Int × Int)) (w : World) (e : Ending) (w' : World) : Prop :=
  ∃ (k : Nat) (Ao : Option Addr) (co : Nat) (A' : Option Addr) (c' : Nat), CntLe ps now k ∧ e = .returned (.tuple #[.slice Ao k co, .int .i64 0]) ∧ Own w' 3 1 (.slice Ao k co) k (ints ((ps.take k).map (·.2))) ∧ Fresh w (.slice Ao k co) ∧
    LinkAt w' g d room A' c' (ps.drop k) ∧ Chg (g :: (Value.slice A ps.length c).ownBlock.toList) w w' ∧ (Value.slice A' (ps.length - k) c').ownBlock = (Value.slice A ps.length c).ownBlock

theorem come_fin {w wr w2 : World} {g : Nat} {d room now : Int} {A : Option Addr} {c : Nat} {ps : List (Int × Int)} {k : Nat} {Ao : Option Addr} {co : Nat} {A' : Option Addr} {c' : Nat} (hk : CntLe ps now k)
    (hL : LinkAt wr g d room A c ps) (hO : Own wr 3 1 (.slice Ao k co) k (ints ((ps.take k).map (·.2)))) (hF : Fresh w (.slice Ao k co)) (hC : Chg [] w wr)
    (hD : Own w2 52 2 (.slice A' (ps.length - k) c') (ps.length - k) ((sc ps).drop (k * 2))) (hC2 : Chg (Value.slice A ps.length c).ownBlock.toList wr w2)
    (hb : (Value.slice A' (ps.length - k) c').ownBlock = (Value.slice A ps.length c).ownBlock) :
    ComePost g d room now A c ps w (.returned (.tuple #[.slice Ao k co, .int .i64 0])) (w2.setCell ⟨g, 2, none⟩ (.slice A' (ps.length - k) c')) := by
  have hg : g ∉ (Value.slice A ps.length c).ownBlock.toList := by
    intro hm; exact hL.own.ne_ hL.blk (by decide) (by simpa using hm)
  have B2 : Blk w2 g 49 [.int .u64 d, .int .i64 room, .slice A ps.length c] := hL.blk.chg hC2 hg
  have hl : (ps.drop k).length = ps.length - k := List.length_drop
  have O2 : Own w2 3 1 (.slice Ao k co) k (ints ((ps.take k).map (·.2))) := hO.chg hC2 (fun j hj hm => by
    have := hO.ne_own hL.own (by decide) j hj
    exact this (by simpa using hm))
  refine ⟨k, Ao, co, A', c', hk, rfl, O2.far (O2.ne_ B2 (by decide)) _, hF, ⟨?_, ?_⟩, ?_, hb⟩
  · rw [hl]; exact B2.set_ 2 _
  · rw [hl, ← sc_drop]; exact hD.far (hD.ne_ B2 (by decide)) _
  · exact ((hC.mono (by simp)).trans (hC2.mono (fun j hj => .inl (List.mem_cons_of_mem _ hj)))).setCell (.inl (by simp)) _

theorem ints_snoc (xs : List Int) (x : Int) : ints (xs ++ [x]) = ints xs ++ [.int .i64 x] := by simp [ints]
theorem ints_len (xs : List Int) : (ints xs).length = xs.length := by simp [ints]
theorem take_map_snoc (ps : List (Int × Int)) (j : Nat) (p : Int × Int) (h : ps[j]? = some p) : (ps.take (j + 1)).map (·.2) = (ps.take j).map (·.2) ++ [p.2] := by
  rw [List.take_add_one, h]; simp

set_option maxHeartbeats 1000000 in
theorem come_some (g g2 o2 : Nat) (d room now : Int) (c : Nat) (ps : List (Int × Int)) (w : World) (hL : LinkAt w g d room (some ⟨g2, o2, none⟩) c ps) (hr : 1 ≤ room) (hrm : (ps.length : Int) ≤ 1024) (hnow : now ≤ 1099511627776) (hri : Rise ps) :
    Calls Try.prog 11 #[.pointer (some ⟨g, 0, none⟩), .int .u64 now] w (ComePost g d room now (some ⟨g2, o2, none⟩) c ps w) := by
  obtain ⟨i0, hi, hz0, hz1, hz2⟩ := info_parts Try.info3
  obtain ⟨h0, h1, h2⟩ := hL.cells
  have hlen : ps.length ≤ 1000000 := by omega
  obtain ⟨_, _, hv, hnc, hcm⟩ := hL.own.form
  injection hv with e1 e2 e3
  subst e1; subst e3
  unfold maxLen at hcm
  have hg := hL.blk.lt
  go_enter Try.func11, Try.ntmps11
  go_wp2_with (first
    | (go_at_call 17; refine (none_link _ _ _ h1 hr).mono ?_; rintro e w' ⟨rfl, rfl⟩)
    | (go_at_call 19; refine (behind_any g d room now _ c ps w hL hlen hri).mono ?_; rintro e w1 ⟨k, rfl, hk, hC⟩; have L1 := hL.chg hC (by simp) (by simp); obtain ⟨c0, c1, c2⟩ := L1.cells; have hk1 : (k : Int) ≤ (ps.length : Int) := (by have := hk.1; omega); have hk2 : (k : Int) ≤ (c : Int) := (by omega)))
  go_loopw [7, 26] (fun v i wr => ∃ (j : Nat) (Ao : Option Addr) (co : Nat), j ≤ k ∧ i = .int .i64 j ∧ v = .slice Ao j co ∧ Own wr 3 1 (.slice Ao j co) j (ints ((ps.take j).map (·.2))) ∧ Fresh w (.slice Ao j co) ∧ Chg [] w wr) (fun _ i _ => k - (intOf i).toNat)
  case atStart => exact ⟨0, none, 0, Nat.zero_le _, rfl, rfl, by simpa [ints] using Own.nil w1 3 1, (fun j hj => by simp [Value.ownBlock] at hj), hC⟩
  case round =>
    obtain ⟨j, Ao, co, hj, rfl, rfl, hO, hF, hCr⟩ := hrel
    have LR := hL.chg hCr (by simp) (by simp)
    obtain ⟨_, _, e2⟩ := LR.cells
    have jk0 : (0 : Int) ≤ (j : Int) := by omega
    by_cases hlt : j < k
    · have hp : ps[j]? = some ps[j] := List.getElem?_eq_getElem (by have := hk.1; omega)
      obtain ⟨p, hpp⟩ : ∃ p, p = ps[j]'(by have := hk.1; omega) := ⟨_, rfl⟩
      rw [← hpp] at hp
      clear hpp
      have q0 := (LR.own.cell (sc_get0 ps j p hp)).1
      have q1 := (LR.own.cell (sc_get1 ps j p hp)).1
      dsimp only at q0 q1
      rw [← Nat.add_assoc] at q1
      have hg2 := World.block_lt_of_cell? _ _ q0
      dsimp only at hg2
      have HP := hid hp
      clear hp
      have jk : (j : Int) < (k : Int) := by omega
      go_wp2_with ((with_reducible refine at_append_ ?_); (refine wpList_append_any _ rfl (.tmp 30) (.tmp 33) 38 rfl 3 i0 _ 1 8 Try.underlying38 hi hz0 hz1 hz2 rfl (by omega) (.slice Ao j co) j (ints ((ps.take j).map (·.2))) rfl ((hO.alloc _).alloc _) ⟨wr.heap.size + 1, 0, none⟩ 1 1 [.int .i64 p.2] rfl rfl (by simpa using (Blk.new (wr.alloc (.cells #[.int .u64 p.1, .int .i64 p.2] 52)) 3 #[.int .i64 p.2]).adds0) (by simp [Value.oneCell']) (by unfold maxLen; omega) (by omega) ?_; intro Ao' co' w2 hO2 hC2 hb2))
      go_roundw
      case measure => simp [intOf]; omega
      case rel =>
        refine ⟨j + 1, Ao', co', by omega, by go_num, rfl, (by rw [take_map_snoc ps j p HP.out, ints_snoc]; exact hO2), fun q hq => ?_, ((hCr.alloc _).alloc _).seq hC2 (fun x hx => .inr (hF x (by simpa using hx)))⟩
        have hs := hCr.size
        rcases hb2 with h5 | ⟨q', h5, h6⟩
        · exact hF q (h5.symm.trans hq)
        · rw [h5] at hq
          simp only [Option.some.injEq] at hq
          subst hq
          simp at h6
          omega
    · obtain rfl : j = k := by omega
      have hD := delete_any _ _ c j (sc ps) wr LR.own (sc_one ps) hk.1
      have HDl := hid hD
      clear hD
      have eg := LR.blk.frozen 2
      have LRB := LR.blk
      have hgn : g ∉ (Value.slice (some ⟨g2, o2, none⟩) ps.length c).ownBlock.toList := by
        intro hm; exact LR.own.ne_ LR.blk (by decide) (by simpa using hm)
      have HG := hid hgn
      clear hgn
      go_wp2_with (go_at_call 20; refine HDl.out.mono ?_; rintro e w2 ⟨A', c', rfl, hD2, hC2, hb2⟩; have B2 := LRB.chg hC2 HG.out; have b3 := B2.frozen 2; have b4 := B2.cell_of (i := 2) rfl)
      go_ret2
      exact come_fin hk LR hO hF hCr hD2 hC2 hb2

set_option maxHeartbeats 1000000 in
theorem come_nil (g : Nat) (d room now : Int) (c : Nat) (w : World) (hL : LinkAt w g d room none c []) (hr : 1 ≤ room) (hnow : now ≤ 1099511627776) :
    Calls Try.prog 11 #[.pointer (some ⟨g, 0, none⟩), .int .u64 now] w (ComePost g d room now none c [] w) := by
  obtain ⟨h0, h1, h2⟩ := hL.cells
  have hc : c = 0 := by
    rcases hL.own.2 with ⟨h, _⟩ | ⟨_, _, _, _, h, _⟩
    · injection h
    · cases h
  subst hc
  have hg := hL.blk.lt
  have hri : Rise [] := fun i j p q _ h => by simp at h
  have HR := hid hri
  clear hri
  dsimp only [List.length_nil] at h2
  go_enter Try.func11, Try.ntmps11
  go_wp2_with (first
    | (go_at_call 17; refine (none_link _ _ _ h1 hr).mono ?_; rintro e w' ⟨rfl, rfl⟩)
    | (go_at_call 19; refine (behind_any g d room now _ 0 [] w hL (by simp) HR.out).mono ?_; rintro e w1 ⟨k, rfl, hk, hC⟩; obtain rfl : k = 0 := Nat.le_zero.1 hk.1; have L1 := hL.chg hC (by simp) (by simp); obtain ⟨c0, c1, c2⟩ := L1.cells; dsimp only [List.length_nil] at c2))
  go_loopw [7, 26] (fun v i wr => i = .int .i64 0 ∧ v = .slice none 0 0 ∧ wr = w1) (fun _ _ _ => 0)
  case atStart => exact ⟨rfl, rfl, rfl⟩
  case round =>
    obtain ⟨rfl, rfl, rfl⟩ := hrel
    have hD := delete_any none 0 0 0 (sc []) wr L1.own (sc_one []) (Nat.le_refl _)
    have HDl := hid hD
    clear hD
    have eg := L1.blk.frozen 2
    have LRB := L1.blk
    go_wp2_with (go_at_call 20; refine HDl.out.mono ?_; rintro e w2 ⟨A', c', rfl, hD2, hC2, hb2⟩; have B2 := LRB.chg hC2 (by simp [Value.ownBlock]); have b3 := B2.frozen 2; have b4 := B2.cell_of (i := 2) rfl)
    go_ret2
    exact come_fin (ps := []) hk L1 (by simpa [ints] using Own.nil wr 3 1) (fun j hj => by simp [Value.ownBlock] at hj) hC hD2 hC2 hb2

theorem come_any (g : Nat) (d room now : Int) (A : Option Addr) (c : Nat) (ps : List (Int × Int)) (w : World) (hL : LinkAt w g d room A c ps) (hr : 1 ≤ room) (hrm : (ps.length : Int) ≤ 1024) (hnow : now ≤ 1099511627776) (hri : Rise ps) :
    Calls Try.prog 11 #[.pointer (some ⟨g, 0, none⟩), .int .u64 now] w (ComePost g d room now A c ps w) := by
  rcases hL.own.2 with ⟨h, h0⟩ | ⟨g2, o2, _, _, h, _⟩
  · obtain rfl : ps = [] := List.eq_nil_of_length_eq_zero h0
    injection h with h1 _ h2
    subst h1
    exact come_nil g d room now c w hL hr hnow
  · injection h with h1 _ h2
    subst h1
    exact come_some g g2 o2 d room now c ps w hL hr hrm hnow hri
end Go.Proofs.Ytendgfbkbeapoaa
