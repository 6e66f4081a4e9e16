/- Compare once more, by what it makes; slices.SortFunc at prefixes. -/
import Derived.Test.YtgpiapmbbnngpaaGreatDoorPfxL
namespace Go.Proofs.YtgpiapmbbnngpaaGreatDoor
open Go.RowKit Go.Lib Go.Sort

/-- Nothing has turned: draws and new blocks alone. -/
def Gr (w w' : World) : Prop := ∃ q os', w' = grow (w.drewN q) os'
theorem Gr.refl (w : World) : Gr w w := ⟨0, #[], by rw [grow_empty]; rfl⟩
theorem Gr.alloc {a w : World} (h : Gr a w) (o : Obj) : Gr a (w.alloc o) := by
  obtain ⟨q, os, rfl⟩ := h
  exact ⟨q, os ++ #[o], by rw [alloc_eq_grow, grow_grow]⟩
theorem Gr.drew {a w : World} (h : Gr a w) : Gr a w.drew := by
  obtain ⟨q, os, rfl⟩ := h
  exact ⟨q + 1, os, rfl⟩

set_option maxHeartbeats 4000000 in
set_option maxRecDepth 100000 in
theorem compare_G (v : Bool) (n : Nat) (k : Int) (v' : Bool) (m : Nat) (j : Int) (hn : n < 2 ^ 128) (hm : m < 2 ^ 128) (w : World) :
    Calls Tryz.prog 25 #[.agg (pfx v n k).toArray, .agg (pfx v' m j).toArray] w fun e w' => e = .returned (.int .i64 (cmpP v n k v' m j)) ∧ Gr w w' := by
  have HP := hid (show Blk ((w.alloc (.cells (pfx v n k).toArray 29)).alloc (.cells (pfx v' m j).toArray 29)) w.heap.size 29 (pfx v n k) from (Blk.new w 29 (pfx v n k).toArray).alloc _)
  have HQ := hid (show Blk ((w.alloc (.cells (pfx v n k).toArray 29)).alloc (.cells (pfx v' m j).toArray 29)) (w.heap.size + 1) 29 (pfx v' m j) from Blk.new_at _ 29 (pfx v' m j).toArray (by simp))
  have HC := hid (show Gr w ((w.alloc (.cells (pfx v n k).toArray 29)).alloc (.cells (pfx v' m j).toArray 29)) from ((Gr.refl _).alloc _).alloc _)
  have b1 := HP.out.cell_of (pfx_bool v n k)
  have b2 := HQ.out.cell_of (pfx_bool v' m j)
  have k1 := HP.out.cell_of (pfx_bits v n k)
  have k2 := HQ.out.cell_of (pfx_bits v' m j)
  by_cases hv : v = v'
  · subst hv
    have HB := hid (fun W (hW : Chg [] ((w.alloc (.cells (pfx v n k).toArray 29)).alloc (.cells (pfx v m j).toArray 29)) W) => bcmp_N w.heap.size 1 16 (w.heap.size + 1) 1 16 n m hn hm W (HP.out.bytAtP.chg hW) (HQ.out.bytAtP.chg hW))
    have HK := hid (fun W => Tryz.cmp_Compare_int k j W)
    have HV := hid (cmp_val v n k m j)
    obtain ⟨a, ha⟩ : ∃ a, a = cmpN n m := ⟨_, rfl⟩
    obtain ⟨b, hb⟩ : ∃ b, b = Lib.compareInt k j := ⟨_, rfl⟩
    rw [← ha] at HB HV
    rw [← hb] at HK HV
    have HO := hid (fun g W h1 h2 => or_N g a b W h1 h2)
    have HBB := hid (show Blk (((w.alloc (.cells (pfx v n k).toArray 29)).alloc (.cells (pfx v m j).toArray 29)).alloc (.cells #[.int .i64 a, .int .i64 b] 3)) (w.heap.size + 1 + 1) 3 [.int .i64 a, .int .i64 b] from Blk.new_at _ 3 #[.int .i64 a, .int .i64 b] (by simp))
    obtain ⟨r, hr⟩ : ∃ r, r = (if a = 0 then b else a) := ⟨_, rfl⟩
    rw [← hr] at HV
    have HO2 := hid (fun g W h1 h2 => (show Calls Tryz.prog 58 #[.slice (some ⟨g, 0, none⟩) 2 2] W fun e w' => e = .returned (.int .i64 r) ∧ w' = W by rw [hr]; exact HO.out g W h1 h2))
    clear ha hb hr HO
    rw [← HV.out]
    have hvv : (v != v) = false := by cases v <;> rfl
    go_enter Tryz.func25, Tryz.ntmps25
    go_wp2
    go_region_with (first
      | (go_at_call 59; refine (HB.out _ ?_).mono ?_; (first | exact Chg.refl _ _ | exact (Chg.refl _ _).drew | exact ((Chg.refl _ _).drew).drew); rintro e w2 ⟨rfl, hw2⟩; subst hw2)
      | (go_at_call 60; refine (HK.out _).mono ?_; rintro e w3 ⟨rfl, hw3⟩; subst hw3)
      | (go_at_call 58; refine (HO2.out (w.heap.size + 1 + 1) _ ?_ ?_).mono ?_; exact HBB.out.cell_of (i := 0) rfl; exact HBB.out.cell_of (i := 1) rfl; rintro e w4 ⟨rfl, hw4⟩; subst hw4))
    all_goals go_wp2
    all_goals go_ret
    all_goals exact ⟨rfl, (HC.out.alloc (.cells #[.int .i64 a, .int .i64 b] 3)).drew⟩
  · cases v <;> cases v'
    · exact absurd rfl hv
    · go_enter Tryz.func25, Tryz.ntmps25
      go_wp2
      go_ret
      exact ⟨rfl, HC.out⟩
    · go_enter Tryz.func25, Tryz.ntmps25
      go_wp2
      go_ret
      exact ⟨rfl, HC.out⟩
    · exact absurd rfl hv
/-- slices.SortFunc at prefixes that may be, by Compare. -/
theorem sort_X (xs : List PX) (g o n c : Nat) (w : World) (h : Own w 29 18 (.slice (some ⟨g, o, none⟩) n c) n (rowX xs)) (hn : n < 4611686018427387904) :
    Calls Tryz.prog 51 #[.slice (some ⟨g, o, none⟩) n c, .func (.func 25) #[] #[]] w fun e w' => e = .returned (.tuple #[]) ∧ ∃ ys : List PX, ys.Perm xs ∧ ys.Pairwise (fun a b => ¬ ltX b a) ∧ Own w' 29 18 (.slice (some ⟨g, o, none⟩) n c) n (rowX ys) ∧ Chg [g] w w' := by
  have hl : xs.length = n := by have := h.len; rw [rowX_len] at this; omega
  have eg : ∀ args w, (callFunc 25 args).run Tryz.prog w = .ok (.enter 25 args) w := enters_of Tryz.func25 (by kernel_rfl) rfl
  have hlt : g < w.heap.size := h.lt g rfl
  have hcmp : CmpLays Tryz.prog 25 #[] PX.enc 18 cmpX g o xs.toArray.size w := fun m os dk hd x y => compare_G x.v x.n x.k y.v y.n y.k x.lt y.lt _
  have hcon := AnyQ.slices_SortFunc Tryz.sortP 18 Tryz.isAgg29 Tryz.sizeOf29 PX.enc PX.enc_len PX.enc_one cmpX swoX 25 #[] g o c xs.toArray w eg hcmp h.holdsX hlt (by simpa [hl] using hn)
  change Calls Tryz.prog 51 _ _ _ at hcon
  have hsz : xs.toArray.size = n := by simpa using hl
  rw [hsz] at hcon
  refine hcon.mono ?_
  rintro e w' ⟨rfl, d', m, os, hp, hs, rfl⟩
  have hd : d'.size = n := by rw [hp.1]; exact hsz
  refine ⟨rfl, d'.toList, ?_, ?_, ?_, ?_⟩
  · have hpp := hp.2.2
    rw [Array.extract_eq_self_of_le (by omega), Array.extract_eq_self_of_le (by omega)] at hpp
    simpa using hpp
  · rw [List.pairwise_iff_getElem]
    intro i j hi hj hij
    have := hs i j (Nat.zero_le _) hij (by simpa [hd] using hj)
    unfold ltOf at this
    rw [decide_eq_false_iff_not, cmpX_lt] at this
    simp only [Array.length_toList] at hi hj
    rw [getElem!_pos d' i hi, getElem!_pos d' j hj] at this
    simpa using this
  · have := h.sortedX (m := m) (os := os) (ys := d'.toList) (by simpa using hd)
    simpa using this
  · exact chg_sortedX d'
end Go.Proofs.YtgpiapmbbnngpaaGreatDoor
