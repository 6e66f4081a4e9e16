/- The link's small functions, the closure of behind and sort.Search, as walks: what each call returns and what it does to memory. -/
import Derived.Test.YtendgfbkbeapoaaRows
import Derived.Test.YtendgfbkbeapoaaMem
import Derived.Deep.QuietTactic
import Derived.BigQuiet
import Derived.Deep.LoopGhost
namespace Go.Proofs.Ytendgfbkbeapoaa
open Go.RowKit

/-- The cells of the packets on their way, as the program lays them: tick, number. -/
def sc (ps : List (Int × Int)) : List Value := ps.flatMap fun p => [.int .u64 p.1, .int .i64 p.2]
theorem sc_len (ps : List (Int × Int)) : (sc ps).length = ps.length * 2 := by
  induction ps with
  | nil => rfl
  | cons p r ih => simp [sc] at ih ⊢; omega
theorem sc_get0 (ps : List (Int × Int)) (i : Nat) (p : Int × Int) (h : ps[i]? = some p) : (sc ps)[i * 2]? = some (.int .u64 p.1) := by
  induction ps generalizing i with
  | nil => simp at h
  | cons q r ih =>
    cases i with
    | zero => simp at h; subst h; simp [sc]
    | succ k => 
      have := ih k (by simpa using h)
      rw [show (k + 1) * 2 = k * 2 + 2 from by omega]
      simpa [sc] using this
theorem sc_get1 (ps : List (Int × Int)) (i : Nat) (p : Int × Int) (h : ps[i]? = some p) : (sc ps)[i * 2 + 1]? = some (.int .i64 p.2) := by
  induction ps generalizing i with
  | nil => simp at h
  | cons q r ih =>
    cases i with
    | zero => simp at h; subst h; simp [sc]
    | succ k => 
      have := ih k (by simpa using h)
      rw [show (k + 1) * 2 + 1 = k * 2 + 1 + 2 from by omega]
      simpa [sc] using this

structure LinkAt (w : World) (g : Nat) (d room : Int) (A : Option Addr) (c : Nat) (ps : List (Int × Int)) : Prop where
  blk : Blk w g 49 [.int .u64 d, .int .i64 room, .slice A ps.length c]
  own : Own w 52 2 (.slice A ps.length c) ps.length (sc ps)

theorem LinkAt.cells {w g d room A c ps} (h : LinkAt w g d room A c ps) : w.cell? ⟨g, 0, none⟩ = some (.int .u64 d) ∧ w.cell? ⟨g, 1, none⟩ = some (.int .i64 room) ∧ w.cell? ⟨g, 2, none⟩ = some (.slice A ps.length c) :=
  ⟨h.blk.cell_of rfl, h.blk.cell_of rfl, h.blk.cell_of rfl⟩

set_option maxHeartbeats 400000 in
theorem behind1_any (lb tb g : Nat) (d room t : Int) (A : Option Addr) (c : Nat) (ps : List (Int × Int)) (i : Nat) (p : Int × Int) (w : World) (hL : LinkAt w g d room A c ps)
    (h1 : w.cell? ⟨lb, 0, none⟩ = some (.pointer (some ⟨g, 0, none⟩))) (h2 : w.cell? ⟨tb, 0, none⟩ = some (.int .u64 t)) (hp : ps[i]? = some p) :
    Calls Try.prog 24 #[.int .i64 i, .pointer (some ⟨lb, 0, none⟩), .pointer (some ⟨tb, 0, none⟩)] w fun e w' => e = .returned (.bool (decide (t < p.1))) ∧ ∃ n, w' = w.drewN n := by
  obtain ⟨hi, _⟩ := List.getElem?_eq_some_iff.1 hp
  obtain ⟨g2, o2, c2, hv, hn, hm, _⟩ := hL.own.some_ (by omega)
  injection hv with hA hl hc
  subst hA; subst hc
  obtain ⟨_, _, hc2⟩ := hL.cells
  have hcell := (hL.own.cell (sc_get0 ps i p hp)).1
  dsimp only at hcell
  have hi1 : (0 : Int) ≤ (i : Int) := by omega
  have hi2 : (i : Int) < (ps.length : Int) := by omega
  unfold maxLen at hm
  clear hL hp
  go_enter Try.func24, Try.ntmps24
  go_wp2
  go_quiet (fail)
  go_wp2
  go_ret
  exact ⟨rfl, _, rfl⟩

/-- The first place at which p holds is k. -/
def Parts (p : Nat → Bool) (n k : Nat) : Prop := k ≤ n ∧ (∀ t, t < k → p t = false) ∧ (∀ t, k ≤ t → t < n → p t = true)
def SearchPost (p : Nat → Bool) (n : Nat) (w : World) (e : Ending) (w' : World) : Prop := ∃ k : Nat, e = .returned (.int .i64 k) ∧ Parts p n k ∧ ∃ m, w' = w.drewN m
def Drawn (w w' : World) : Prop := ∃ m, w' = w.drewN m
def Low (p : Nat → Bool) (n lo hi : Nat) : Prop := (∀ t, t < lo → p t = false) ∧ (∀ t, hi ≤ t → t < n → p t = true)

set_option maxHeartbeats 400000 in
theorem search_any (c0 c1 : Value) (n : Nat) (p : Nat → Bool) (w : World) (hn : n ≤ 1000000)
    (hf : ∀ (W : World) (i : Nat), Drawn w W → i < n → Calls Try.prog 24 #[.int .i64 i, c0, c1] W fun e w' => e = .returned (.bool (p i)) ∧ Drawn w w')
    (hmono : ∀ a b, a ≤ b → b < n → p a = true → p b = true) :
    Calls Try.prog 23 #[.int .i64 n, .func (.func 24) #[] #[c0, c1]] w (SearchPost p n w) := by
  have F := hid hf
  have M := hid hmono
  clear hf hmono
  go_enter Try.func23, Try.ntmps23
  go_wp2
  go_loopw [5, 6] (fun s5 s6 wr => ∃ (lo hi : Nat), s5 = .int .i64 lo ∧ s6 = .int .i64 hi ∧ lo ≤ hi ∧ hi ≤ n ∧ Low p n lo hi ∧ Drawn w wr) (fun a b _ => (intOf b - intOf a).toNat)
  case atStart => exact ⟨0, n, rfl, rfl, Nat.zero_le _, Nat.le_refl _, ⟨fun t ht => absurd ht (Nat.not_lt_zero _), fun t h1 h2 => by omega⟩, ⟨0, rfl⟩⟩
  case round =>
    obtain ⟨lo, hi, rfl, rfl, hlh, hin, hlow, hd⟩ := hrel
    by_cases hlt : lo < hi
    · have hc := F.out wr ((lo + hi) / 2) hd (by omega)
      rw [show (((lo + hi) / 2 : Nat) : Int) = ((lo : Int) + (hi : Int)) / 2 by omega] at hc
      cases hp : p ((lo + hi) / 2) <;> rw [hp] at hc
      · have HP := hid hp
        have HC := hid hc
        clear hp hc
        go_wp2_with (go_at_call 24; refine HC.out.mono ?_; rintro e w1 ⟨rfl, hd1⟩)
        go_roundw
        case measure => simp [intOf]; omega
        case rel =>
          refine ⟨(lo + hi) / 2 + 1, hi, by go_num, rfl, by omega, hin, ⟨fun t ht => ?_, hlow.2⟩, hd1⟩
          cases h : p t with
          | false => rfl
          | true => have := M.out t ((lo + hi) / 2) (by omega) (by omega) h; rw [HP.out] at this; cases this
      · have HP := hid hp
        have HC := hid hc
        clear hp hc
        go_wp2_with (go_at_call 24; refine HC.out.mono ?_; rintro e w1 ⟨rfl, hd1⟩)
        go_roundw
        case measure => simp [intOf]; omega
        case rel => exact ⟨lo, (lo + hi) / 2, rfl, by go_num, by omega, by omega, ⟨hlow.1, fun t ht htn => M.out ((lo + hi) / 2) t ht htn HP.out⟩, hd1⟩
    · obtain rfl : lo = hi := by omega
      go_wp2
      go_ret
      exact ⟨lo, rfl, ⟨hin, hlow.1, hlow.2⟩, hd⟩
end Go.Proofs.Ytendgfbkbeapoaa
