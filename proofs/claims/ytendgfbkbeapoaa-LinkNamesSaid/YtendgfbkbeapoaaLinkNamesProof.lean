/- LinkNames: the numbers of the layer, links that are not there, what is refused: a closed statement. No condition. -/
import Derived.Test.YtendgfbkbeapoaaLinkPlaysProof
namespace Go.Proofs.Ytendgfbkbeapoaa
open Go.RowKit

/-- A link that is not there: nil, or one with no room. -/
def NoLink (w : World) (v : Value) : Prop := v = .pointer none ∨ ∃ g, v = .pointer (some ⟨g, 0, none⟩) ∧ Blk w g 49 [.int .u64 0, .int .i64 0, .slice none 0 0]
theorem none_no {w : World} {a : Option Addr} (h : NoLink w (.pointer a)) : Calls Try.prog 17 #[.pointer a] w fun e w' => e = .returned (.bool true) ∧ w = w' := by
  rcases h with h | ⟨g, h, hb⟩
  · injection h with h; subst h; exact none_nil w
  · injection h with h; subst h; exact none_zero g w (hb.cell_of rfl)
set_option maxHeartbeats 400000 in
theorem send_no {w : World} {a : Option Addr} (now num : Int) (h : NoLink w (.pointer a)) : Calls Try.prog 9 #[.pointer a, .int .u64 now, .int .i64 num] w fun e w' => e = .returned (.tuple #[.bool false, .int .i64 1]) ∧ w = w' := by
  go_enter Try.func9, Try.ntmps9
  go_wp2_with (go_at_call 17; refine (none_no h).mono ?_; rintro e w' ⟨rfl, rfl⟩)
  go_ret2
  exact ⟨rfl, rfl⟩
set_option maxHeartbeats 400000 in
theorem come_no {w : World} {a : Option Addr} (now : Int) (h : NoLink w (.pointer a)) : Calls Try.prog 11 #[.pointer a, .int .u64 now] w fun e w' => e = .returned (.tuple #[.slice none 0 0, .int .i64 1]) ∧ w = w' := by
  go_enter Try.func11, Try.ntmps11
  go_wp2_with (go_at_call 17; refine (none_no h).mono ?_; rintro e w' ⟨rfl, rfl⟩)
  go_ret2
  exact ⟨rfl, rfl⟩
set_option maxHeartbeats 400000 in
theorem next_no {w : World} {a : Option Addr} (h : NoLink w (.pointer a)) : Calls Try.prog 14 #[.pointer a] w fun e w' => e = .returned (.tuple #[.int .u64 0, .bool false]) ∧ w = w' := by
  go_enter Try.func14, Try.ntmps14
  go_wp2_with (go_at_call 17; refine (none_no h).mono ?_; rintro e w' ⟨rfl, rfl⟩)
  go_ret2
  exact ⟨rfl, rfl⟩
set_option maxHeartbeats 400000 in
theorem len_no {w : World} {a : Option Addr} (h : NoLink w (.pointer a)) : Calls Try.prog 16 #[.pointer a] w fun e w' => e = .returned (.int .i64 0) ∧ w = w' := by
  go_enter Try.func16, Try.ntmps16
  go_wp2_with (go_at_call 17; refine (none_no h).mono ?_; rintro e w' ⟨rfl, rfl⟩)
  go_ret
  exact ⟨rfl, rfl⟩

theorem steps_none (w : World) : StepsAt w none [] := fun i x hx => by simp at hx

theorem LinkS.below {w w' : World} {B g : Nat} {d room : Int} {ps : List (Int × Int)} (h : LinkS w B g d room ps) (hb : Below w.heap.size w w') : LinkS w' B g d room ps := by
  obtain ⟨A, c, hL, ho, hg⟩ := h
  exact ⟨A, c, hL.chg (Chg.of_below hb) (by simp) (by simp), ho, hg⟩

set_option maxHeartbeats 4000000 in
set_option maxRecDepth 100000 in
theorem names_any (w : World) : Calls Try.prog 5 #[] w (AllTrue w) := by
  go_enter Try.func5, Try.ntmps5
  go_wp2
  go_loopw [1, 2] (fun v i wr => ∃ (j : Nat) (a : Option Addr), j ≤ 2 ∧ i = .int .i64 j ∧ v = .pointer a ∧ NoLink wr (.pointer a) ∧ Below w.heap.size w wr) (fun _ i _ => 2 - (intOf i).toNat)
  case atStart => exact ⟨0, none, by omega, rfl, rfl, .inl rfl, Below.refl _ _⟩
  case round =>
    obtain ⟨j, a, hj, rfl, rfl, hN, hbel⟩ := hrel
    by_cases hlt : j < 2
    · go_wp2_with fail
      refine (send_no 0 1 hN).mono ?_
      rintro e w1 ⟨rfl, rfl⟩
      go_wp2_with fail
      refine (come_no 0 hN).mono ?_
      rintro e w1 ⟨rfl, rfl⟩
      go_wp2_with fail
      refine (next_no hN).mono ?_
      rintro e w1 ⟨rfl, rfl⟩
      go_wp2_with fail
      refine (len_no hN).mono ?_
      rintro e w1 ⟨rfl, rfl⟩
      go_wp2
      go_roundw
      case measure => simp [intOf]; omega
      case rel => exact ⟨j + 1, some ⟨wr.heap.size, 0, none⟩, by omega, by go_num, rfl, .inr ⟨_, rfl, Blk.new wr 49 #[.int .u64 0, .int .i64 0, .slice none 0 0]⟩, hbel.alloc hbel.size _⟩
    · have hj2 : j = 2 := by omega
      subst hj2
      go_wp2_with fail
      refine (newS (w := wr) (d := 1024) (room := 1024) (by omega) (by omega) (by omega)).mono ?_
      rintro e w1 ⟨rfl, hL1, hD1, hs1⟩
      have hz1 : wr.heap.size ≤ w1.heap.size := by rw [hs1]; omega
      clear hs1
      go_wp2_with fail
      refine (sendS_late (B := wr.heap.size) hL1 (by omega) (by omega)).mono ?_
      rintro e w2 ⟨rfl, hD2⟩
      have hL2 := hL1.did hD2 (by simp) (by simp)
      go_wp2_with fail
      refine (comeS_late (B := wr.heap.size) hL2 (by omega) (by omega)).mono ?_
      rintro e w3 ⟨rfl, hD3⟩
      have hL3 := hL2.did hD3 (by simp) (by simp)
      have s3 := Nat.le_trans (Nat.le_trans hz1 hD2.below.size) hD3.below.size
      go_wp2_with fail
      refine (sendS_ok (B := wr.heap.size) hL3 s3 (by omega) (by omega) (by omega) (by omega) (by omega) (by simp) rise_nil).mono ?_
      rintro e w4 ⟨rfl, k, hk, hL4, hD4⟩
      have ek := cnt_eq rise_nil hk
      simp at ek
      subst ek
      simp at hL4
      have s4 := Nat.le_trans s3 hD4.below.size
      go_wp2_with fail
      refine (comeS (B := wr.heap.size) hL4 s4 (by omega) (by simp) (by omega) (rise_one _)).mono ?_
      rintro e w5 ⟨k, A5, c5, hk5, rfl, hO5, hF5, hL5, hD5⟩
      have ek := cnt_eq (rise_one _) hk5
      simp at ek
      subst ek
      simp at hL5
      have s5 := Nat.le_trans s4 hD5.below.size
      go_wp2_with fail
      refine (nextS hL5 (by omega)).mono ?_
      rintro e w6 ⟨rfl, rfl⟩
      have b5 : Below w.heap.size w w5 := ((((hbel.trans (hD1.below.mono hbel.size)).trans (hD2.below.mono hbel.size)).trans (hD3.below.mono hbel.size)).trans (hD4.below.mono hbel.size)).trans (hD5.below.mono hbel.size)
      have B5 := hid b5
      clear b5
      go_wp2_with fail
      refine (awake_any w5).mono ?_
      rintro e w6 ⟨rfl, hb6⟩
      have z6 := hb6.size
      go_wp2_with fail
      refine (plays_any 1025 1 none 0 0 [] w6 (by omega) (steps_none w6) rfl (by omega)).mono ?_
      rintro e w7 ⟨rfl, hb7⟩
      go_wp2_with fail
      refine (plays_any 0 0 none 0 0 [] w7 (by omega) (steps_none w7) rfl (by omega)).mono ?_
      rintro e w8 ⟨rfl, hb8⟩
      go_wp2_with fail
      refine (plays_any 0 1025 none 0 0 [] w8 (by omega) (steps_none w8) rfl (by omega)).mono ?_
      rintro e w9 ⟨rfl, hb9⟩
      go_wp2_with fail
      refine (plays_any 1025 0 none 0 0 [] w9 (by omega) (steps_none w9) rfl (by omega)).mono ?_
      rintro e w10 ⟨rfl, hb10⟩
      go_wp2
      go_ret
      have b5 := B5.out
      have z5 := b5.size
      have b6 := b5.trans (hb6.mono z5)
      have b7 := b6.trans (hb7.mono b6.size)
      have b8 := b7.trans (hb8.mono b7.size)
      have b9 := b8.trans (hb9.mono b8.size)
      exact ⟨rfl, b9.trans (hb10.mono b9.size)⟩

open Go.ChangeShapes Go.WideShapes Go.ChangeAt in
set_option maxRecDepth 100000 in
theorem names_lifted (os : Os) (started : os.Started) (H : Type) (enc : TypeId × Value → H) :
    ReturnsInHanded {} Try.checked os 5 .any (Rows.linkNamesSpec.pre6 enc Try.prog Try.f5 Rows.linkNamesRow.domain false) (Rows.linkNamesSpec.post enc Try.prog Try.f5 false true false false) := by
  refine returnsInHanded_of_change (C := Try.checked) own started (by kernel_rfl) Try.func5
    (ChangeSpec.witness6 (enc := enc) (C := Try.checked) false ⟨#[], #[], []⟩ 8 (by kernel_rfl) (by kernel_rfl) (by kernel_rfl) (by kernel_rfl)) ?_
  intro W base args ds gs before hval0 hW hcnd _
  have hW' := hW
  obtain ⟨p, q, hA0, hV, rfl, hfz, hnd⟩ := hW
  have hA : DataW.TrodAll enc Try.prog W 0 (fun _ => true) true Try.f5.params.toList args.toList ds p := hA0
  rw [Try.params5] at hA
  obtain ⟨hargs, rfl, rfl⟩ := trodAll_none hA
  obtain rfl : args = #[] := by cases args; simp_all
  obtain ⟨rfl, rfl⟩ := trodVars_none hV
  clear hA0 hval0
  refine (names_any W).mono fun e W' ⟨he, bel⟩ => ?_
  subst he
  exact ⟨_, rfl, _, _, _, [], _, [], hW', trodAll_mk1 (shut_bool Try.underlying4 _), trodAll_mk0, rfl, bel.frame _, fun h => by cases h⟩

theorem LinkNames_holds : Rows.LinkNamesSaid :=
  OpenClaim.holds_of_wide 5 Try.f5 rfl rfl rfl rfl rfl rfl rfl ⟨rfl, rfl, rfl, rfl, rfl⟩ rfl rfl rfl rfl rfl (by kernel_rfl) Try.func5 (by kernel_rfl)
    (of_decide_eq_true (by kernel_rfl)) (by unfold Func.isWrapper; rw [if_neg (by decide +kernel)]; exact ⟨rfl, rfl⟩)
    (fun os started H enc _ => names_lifted os started H enc)
end Go.Proofs.Ytendgfbkbeapoaa
