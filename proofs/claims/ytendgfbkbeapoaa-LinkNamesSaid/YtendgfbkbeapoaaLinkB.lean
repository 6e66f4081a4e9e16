/- behind, none, New, Len and Next of the link, and the reference's New, as walks: what each call returns and what it does to memory. -/
import Derived.Test.YtendgfbkbeapoaaLinkA
namespace Go.Proofs.Ytendgfbkbeapoaa
open Go.RowKit

/-- k of them have a tick of at most t, the first k. -/
def CntLe (ps : List (Int × Int)) (t : Int) (k : Nat) : Prop := k ≤ ps.length ∧ (∀ i p, i < k → ps[i]? = some p → p.1 ≤ t) ∧ (∀ i p, k ≤ i → ps[i]? = some p → t < p.1)
def Rise (ps : List (Int × Int)) : Prop := ∀ (i j : Nat) (p q : Int × Int), i ≤ j → ps[i]? = some p → ps[j]? = some q → p.1 ≤ q.1
def BehindPost (ps : List (Int × Int)) (t : Int) (w : World) (e : Ending) (w' : World) : Prop := ∃ k : Nat, e = .returned (.int .i64 k) ∧ CntLe ps t k ∧ Chg [] w w'

theorem LinkAt.chg {S w w' g d room A c ps} (h : LinkAt w g d room A c ps) (hc : Chg S w w') (hg : g ∉ S) (hA : ∀ k, (Value.slice A ps.length c).ownBlock = some k → k ∉ S) : LinkAt w' g d room A c ps :=
  ⟨h.blk.chg hc hg, h.own.chg hc hA⟩

set_option maxHeartbeats 400000 in
theorem behind_any (g : Nat) (d room t : Int) (A : Option Addr) (c : Nat) (ps : List (Int × Int)) (w : World) (hL : LinkAt w g d room A c ps) (hlen : ps.length ≤ 1000000) (hr : Rise ps) :
    Calls Try.prog 19 #[.pointer (some ⟨g, 0, none⟩), .int .u64 t] w (BehindPost ps t w) := by
  have hg := hL.blk.lt
  obtain ⟨h0, h1, h2⟩ := hL.cells
  have hs := search_any (.pointer (some ⟨w.heap.size, 0, none⟩)) (.pointer (some ⟨w.heap.size + 1, 0, none⟩)) ps.length (fun i => decide (t < (ps[i]?.getD (0, 0)).1))
    ((w.alloc (.cells #[.pointer (some ⟨g, 0, none⟩)] 24)).alloc (.cells #[.int .u64 t] 22)) hlen
    (fun W i hW hi => by
      have hp : ps[i]? = some ps[i] := List.getElem?_eq_getElem hi
      rw [hp]
      obtain ⟨m, rfl⟩ := hW
      have hC : Chg [] w (((w.alloc (.cells #[.pointer (some ⟨g, 0, none⟩)] 24)).alloc (.cells #[.int .u64 t] 22)).drewN m) := (((Chg.refl _ _).alloc _).alloc _).drewN m
      refine (behind1_any w.heap.size (w.heap.size + 1) g d room t A c ps i ps[i] _ (hL.chg hC (by simp) (by simp)) ?_ ?_ hp).mono fun e w' h => ⟨h.1, ?_⟩
      · exact ((((Blk.new w 24 #[.pointer (some ⟨g, 0, none⟩)]).alloc (.cells #[.int .u64 t] 22)).drewN m).cell_of (i := 0) rfl)
      · simp
      · obtain ⟨n, rfl⟩ := h.2
        exact ⟨m + n, by rw [World.drewN_drewN]⟩)
    (fun a b hab hb ha => by
      have e1 : ps[a]? = some ps[a] := List.getElem?_eq_getElem (by omega)
      have e2 : ps[b]? = some ps[b] := List.getElem?_eq_getElem hb
      have := hr a b _ _ hab e1 e2
      rw [e1] at ha
      rw [e2]
      simp only [decide_eq_true_eq, Option.getD_some] at ha ⊢
      omega)
  have HS := hid hs
  clear hs
  go_enter Try.func19, Try.ntmps19
  go_wp2_with fail
  refine HS.out.mono ?_
  rintro e w1 ⟨k, rfl, hpt, m, rfl⟩
  have HP := hid hpt
  clear hpt
  go_wp2
  go_ret
  refine ⟨k, rfl, ⟨HP.out.1, fun i p hi hp => ?_, fun i p hi hp => ?_⟩, (((Chg.refl _ _).alloc _).alloc _).drewN m⟩
  · have := HP.out.2.1 i hi
    dsimp only at this
    rw [hp] at this
    simpa using this
  · obtain ⟨hl, _⟩ := List.getElem?_eq_some_iff.1 hp
    have := HP.out.2.2 i hi hl
    dsimp only at this
    rw [hp] at this
    simpa using this

set_option maxHeartbeats 400000 in
theorem none_nil (w : World) : Calls Try.prog 17 #[.pointer none] w fun e w' => e = .returned (.bool true) ∧ w = w' := by
  go_enter Try.func17, Try.ntmps17
  go_wp2
  go_ret
  exact ⟨rfl, rfl⟩
set_option maxHeartbeats 400000 in
theorem none_zero (g : Nat) (w : World) (hc : w.cell? ⟨g, 1, none⟩ = some (.int .i64 0)) :
    Calls Try.prog 17 #[.pointer (some ⟨g, 0, none⟩)] w fun e w' => e = .returned (.bool true) ∧ w = w' := by
  go_enter Try.func17, Try.ntmps17
  go_wp2
  go_ret
  exact ⟨rfl, rfl⟩
set_option maxHeartbeats 400000 in
theorem none_link (g : Nat) (room : Int) (w : World) (hc : w.cell? ⟨g, 1, none⟩ = some (.int .i64 room)) (hr : 1 ≤ room) :
    Calls Try.prog 17 #[.pointer (some ⟨g, 0, none⟩)] w fun e w' => e = .returned (.bool false) ∧ w = w' := by
  have h : (room == 0) = false := beq_eq_false_iff_ne.2 (by omega)
  clear hr
  go_enter Try.func17, Try.ntmps17
  go_wp2
  go_ret
  exact ⟨rfl, rfl⟩
set_option maxHeartbeats 400000 in
theorem new_big (d room : Int) (w : World) (h1 : 1024 < d) :
    Calls Try.prog 6 #[.int .u64 d, .int .i64 room] w fun e w' => e = .returned (.tuple #[.pointer none, .int .i64 2]) ∧ w = w' := by
  go_enter Try.func6, Try.ntmps6
  go_wp2
  go_ret2
  exact ⟨rfl, rfl⟩
set_option maxHeartbeats 400000 in
theorem new_low (d room : Int) (w : World) (h1 : d ≤ 1024) (h2 : room < 1) :
    Calls Try.prog 6 #[.int .u64 d, .int .i64 room] w fun e w' => e = .returned (.tuple #[.pointer none, .int .i64 290]) ∧ w = w' := by
  go_enter Try.func6, Try.ntmps6
  go_wp2
  go_ret2
  exact ⟨rfl, rfl⟩
set_option maxHeartbeats 400000 in
theorem new_high (d room : Int) (w : World) (h1 : d ≤ 1024) (h2 : 1024 < room) :
    Calls Try.prog 6 #[.int .u64 d, .int .i64 room] w fun e w' => e = .returned (.tuple #[.pointer none, .int .i64 290]) ∧ w = w' := by
  have h3 : 1 ≤ room := by omega
  go_enter Try.func6, Try.ntmps6
  go_wp2
  go_ret2
  exact ⟨rfl, rfl⟩
set_option maxHeartbeats 400000 in
theorem new_ok (d room : Int) (w : World) (h1 : d ≤ 1024) (h2 : 1 ≤ room) (h3 : room ≤ 1024) :
    Calls Try.prog 6 #[.int .u64 d, .int .i64 room] w fun e w' => e = .returned (.tuple #[.pointer (some ⟨w.heap.size, 0, none⟩), .int .i64 0]) ∧ w.alloc (.cells #[.int .u64 d, .int .i64 room, .slice none 0 0] 49) = w' := by
  go_enter Try.func6, Try.ntmps6
  go_wp2
  go_ret2
  exact ⟨rfl, rfl⟩
set_option maxHeartbeats 400000 in
theorem refNew_big (d room : Int) (w : World) (h1 : 1024 < d) :
    Calls Try.prog 7 #[.int .u64 d, .int .i64 room] w fun e w' => e = .returned (.int .i64 2) ∧ w = w' := by
  go_enter Try.func7, Try.ntmps7
  go_wp2
  go_ret
  exact ⟨rfl, rfl⟩
set_option maxHeartbeats 400000 in
theorem refNew_low (d room : Int) (w : World) (h1 : d ≤ 1024) (h2 : room < 1) :
    Calls Try.prog 7 #[.int .u64 d, .int .i64 room] w fun e w' => e = .returned (.int .i64 290) ∧ w = w' := by
  go_enter Try.func7, Try.ntmps7
  go_wp2
  go_ret
  exact ⟨rfl, rfl⟩
set_option maxHeartbeats 400000 in
theorem refNew_high (d room : Int) (w : World) (h1 : d ≤ 1024) (h2 : 1024 < room) :
    Calls Try.prog 7 #[.int .u64 d, .int .i64 room] w fun e w' => e = .returned (.int .i64 290) ∧ w = w' := by
  have h3 : 1 ≤ room := by omega
  go_enter Try.func7, Try.ntmps7
  go_wp2
  go_ret
  exact ⟨rfl, rfl⟩
set_option maxHeartbeats 400000 in
theorem refNew_ok (d room : Int) (w : World) (h1 : d ≤ 1024) (h2 : 1 ≤ room) (h3 : room ≤ 1024) :
    Calls Try.prog 7 #[.int .u64 d, .int .i64 room] w fun e w' => e = .returned (.int .i64 0) ∧ w = w' := by
  go_enter Try.func7, Try.ntmps7
  go_wp2
  go_ret
  exact ⟨rfl, rfl⟩
set_option maxHeartbeats 400000 in
theorem len_link (g : Nat) (d room : Int) (A : Option Addr) (c : Nat) (ps : List (Int × Int)) (w : World) (hL : LinkAt w g d room A c ps) (hr : 1 ≤ room) :
    Calls Try.prog 16 #[.pointer (some ⟨g, 0, none⟩)] w fun e w' => e = .returned (.int .i64 ps.length) ∧ w = w' := by
  obtain ⟨h0, h1, h2⟩ := hL.cells
  clear hL
  go_enter Try.func16, Try.ntmps16
  go_wp2_with (go_at_call 17; refine (none_link _ _ _ h1 hr).mono ?_; rintro e w' ⟨rfl, rfl⟩)
  go_ret
  exact ⟨rfl, rfl⟩
set_option maxHeartbeats 400000 in
theorem next_empty (g : Nat) (d room : Int) (A : Option Addr) (c : Nat) (w : World) (hL : LinkAt w g d room A c []) (hr : 1 ≤ room) :
    Calls Try.prog 14 #[.pointer (some ⟨g, 0, none⟩)] w fun e w' => e = .returned (.tuple #[.int .u64 0, .bool false]) ∧ w = w' := by
  obtain ⟨h0, h1, h2⟩ := hL.cells
  clear hL
  go_enter Try.func14, Try.ntmps14
  go_wp2_with (go_at_call 17; refine (none_link _ _ _ h1 hr).mono ?_; rintro e w' ⟨rfl, rfl⟩)
  go_ret2
  exact ⟨rfl, rfl⟩
set_option maxHeartbeats 400000 in
theorem next_cons (g : Nat) (d room : Int) (A : Option Addr) (c : Nat) (p : Int × Int) (ps : List (Int × Int)) (w : World) (hL : LinkAt w g d room A c (p :: ps)) (hr : 1 ≤ room) :
    Calls Try.prog 14 #[.pointer (some ⟨g, 0, none⟩)] w fun e w' => e = .returned (.tuple #[.int .u64 p.1, .bool true]) ∧ w = w' := by
  obtain ⟨h0, h1, h2⟩ := hL.cells
  obtain ⟨g2, o2, c2, hv, hn, hm, _⟩ := hL.own.some_ (by simp)
  injection hv with hA hl hc
  subst hA; subst hc
  have hcell := (hL.own.cell (sc_get0 (p :: ps) 0 p rfl)).1
  dsimp only at hcell
  simp only [Nat.zero_mul, Nat.add_zero] at hcell
  unfold maxLen at hm
  generalize hn0 : (p :: ps).length = n at *
  have hn1 : 0 < n := by rw [← hn0]; simp
  have hn2 : ((n : Int) == 0) = false := beq_eq_false_iff_ne.2 (by omega)
  clear hL hn0
  go_enter Try.func14, Try.ntmps14
  go_wp2_with (go_at_call 17; refine (none_link _ _ _ h1 hr).mono ?_; rintro e w' ⟨rfl, rfl⟩)
  go_ret2
  exact ⟨rfl, rfl⟩
/-- Two lists of numbers, held against each other. -/
def ints (xs : List Int) : List Value := xs.map (Value.int .i64)
end Go.Proofs.Ytendgfbkbeapoaa
