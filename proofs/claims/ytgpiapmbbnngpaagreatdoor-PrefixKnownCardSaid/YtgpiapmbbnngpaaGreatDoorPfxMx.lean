/- Merge walked: where all may be. -/
import Derived.Test.YtgpiapmbbnngpaaGreatDoorPfxMw
namespace Go.Proofs.YtgpiapmbbnngpaaGreatDoor
open Go.RowKit Go.Lib Go.Sort

theorem PX.k_int (x : PX) : (x.k : Int) ≤ 128 := by have := x.k128; omega
/-- An element of a row that came in, of one that is owned: its cells, now and in every world that has grown alone. -/
theorem RowAt.atX {w : World} {g o : Nat} {xs : List PX} (h : RowAt w g o (rowX xs)) {i : Nat} {x : PX} (hp : xs[i]? = some x) : w.rangeAt g (o + i * 18) (pfx x.v x.n x.k) := by
  rw [rowX_raw] at h
  exact h.at (p := x.raw) (by rw [List.getElem?_map, hp]; rfl)
theorem Own.atX {w : World} {g o n c : Nat} {xs : List PX} (h : Own w 29 18 (.slice (some ⟨g, o, none⟩) n c) n (rowX xs)) {i : Nat} {x : PX} (hp : xs[i]? = some x) : w.rangeAt g (o + i * 18) (pfx x.v x.n x.k) :=
  (Own.rowAt h).atX hp
theorem range_chg {w W : World} {S : List Nat} {g off : Nat} {cs : List Value} (h : w.rangeAt g off cs) (hc : Chg S w W) (hg : g < w.heap.size) (hS : g ∉ S) : W.rangeAt g off cs :=
  fun j v hv => (hc.cell (p := ⟨g, off + j, none⟩) hg hS).trans (h j v hv)
theorem range_cls {w : World} {g off : Nat} {cs : List Value} (h : w.rangeAt g off cs) (hg : g < w.heap.size) : ∀ W, (∃ p : Regrown, W = grow (redrawn w p.d) p.os) → W.rangeAt g off cs :=
  fun _ hW => range_chg h (chg_cls hW) hg (by simp)
theorem top_at (t : PX) (r : List PX) : (t :: r).reverse[r.length]? = some t := by
  rw [List.reverse_cons, List.getElem?_append_right (by simp)]; simp
theorem snd_at (q p : PX) (r : List PX) : (q :: p :: r).reverse[r.length]? = some p := by
  rw [List.reverse_cons, List.getElem?_append_left (by simp)]
  exact top_at p r

def slen : Value → Nat
  | .slice _ n _ => n
  | _ => 0

set_option maxHeartbeats 4000000 in
set_option maxRecDepth 100000 in
theorem merge_X (xs : List PX) (g o n c : Nat) (hl : xs.length = n) (hn : n ≤ 1000000000) (w : World) (h : RowAt w g o (rowX xs)) :
    Calls Tryz.prog 15 #[.slice (some ⟨g, o, none⟩) n c] w fun e w' => ∃ (ys : List PX) (A : Option Go.Addr) (c' : Nat), ys.Perm xs ∧ ys.Pairwise (fun a b => ¬ ltX b a) ∧
      e = .returned (.tuple #[.slice A (mergeX ys).length c', .int .i64 0]) ∧ Acc w w' 29 18 (.slice A (mergeX ys).length c') (mergeX ys).length (rowX (mergeX ys)) := by
  have HR := hid h
  have HL := hid hl
  clear h hl
  go_enter Tryz.func15, Tryz.ntmps15
  go_wp2
  go_loopw [17] (fun iv wr => ∃ i : Nat, i ≤ n ∧ iv = .int .i64 i ∧ Chg [] w wr) (fun iv _ => n - (RowKit.intOf iv).toNat)
  case atStart => exact ⟨0, Nat.zero_le _, rfl, Chg.refl _ _⟩
  case round =>
    obtain ⟨i, hi, rfl, hC⟩ := hrel
    have i0 : (0 : Int) ≤ (i : Int) := by omega
    have HC := hid hC
    clear hC
    by_cases hlt : i < n
    · obtain ⟨p, hp⟩ : ∃ p, xs[i]? = some p := ⟨_, List.getElem?_eq_getElem (by rw [HL.out]; omega)⟩
      have HG := hid ((HR.out.chg HC.out (by simp)).atX hp)
      have HK := hid (check_N p.v p.n p.k p.lt)
      have e0 : errP p.v p.n p.k = 0 := by unfold errP; rw [p.ok]; rfl
      rw [e0] at HK
      clear e0 hp
      go_wp2_with (first | (go_at_call 30; refine (HK.out _).mono ?_; rintro e w2 ⟨rfl, C2⟩) | (refine ldX rfl _ rfl g (o + i * 18) rfl p.v p.n p.k HG.out ?_) | (refine st29 rfl _ _ rfl wr.heap.size p.v p.n p.k rfl rfl 29 _ (Blk.new wr 29 zpfx) rfl ?_) | (refine ld29 rfl _ rfl wr.heap.size rfl 29 p.v p.n p.k ((Blk.new wr 29 zpfx).row _) ?_))
      go_roundw
      case measure => simp [RowKit.intOf]; omega
      case rel => exact ⟨i + 1, by omega, by go_num, ((HC.out.alloc _).setRow (.inr HC.out.size) _).trans C2⟩
    · have hin : i = n := by omega
      subst hin
      have HCl := hid (clone_X xs g o i c wr (HR.out.chg HC.out (by simp)) HL.out hn)
      go_wp2_with (first | (go_at_call 50; refine HCl.out.mono ?_; rintro e w2 ⟨gi, oi, ci, rfl, A2⟩; have HS := hid (sort_X xs gi oi i ci w2 A2.own (by omega)); have HA2 := hid A2; clear A2) | (go_at_call 51; refine HS.out.mono ?_; rintro e w3 ⟨rfl, ys, hp, hs, O3, C3⟩))
      have hyl : ys.length = i := by rw [hp.length_eq]; exact HL.out
      have hR3 : RowAt w3 gi oi (rowX ys) := O3.rowAt
      have hgi : w.heap.size ≤ gi := Nat.le_trans HC.out.size (HA2.out.new gi rfl)
      have hC3 : Chg [] w w3 := (HC.out.trans HA2.out.chg).seq C3 (fun x hx => by rw [List.mem_singleton] at hx; subst hx; exact .inr hgi)
      have HYP := hid hp
      have HYS := hid hs
      have HYL := hid hyl
      clear hp hs hyl C3 O3 HA2 HCl HS HR
      go_loopw [8, 33] (fun sv iv wx => ∃ (j : Nat) (A : Option Go.Addr) (cv : Nat) (st : List PX), j ≤ i ∧ iv = .int .i64 j ∧ sv = .slice A st.length cv ∧ st.length ≤ j ∧ MS w wx gi oi ys A cv st ∧ Hid (st = (ys.take j).foldl putX [])) (fun _ iv _ => i - (RowKit.intOf iv).toNat)
      case atStart => exact ⟨0, none, 0, [], Nat.zero_le _, rfl, rfl, Nat.le_refl _, ⟨hR3, Acc.nil w 29 18 hC3, by simp [Value.ownBlock]⟩, rfl⟩
      case round =>
        obtain ⟨j, A, cv, st, hj, rfl, rfl, hsl, hM, hst⟩ := hrel
        have j0 : (0 : Int) ≤ (j : Int) := by omega
        by_cases hji : j < i
        · obtain ⟨p, hp⟩ : ∃ p, ys[j]? = some p := ⟨_, List.getElem?_eq_getElem (by rw [HYL.out]; omega)⟩
          have HG := hid (hM.inr.atX hp)
          have HN := hid (show putX st p = (ys.take (j + 1)).foldl putX [] by rw [List.take_add_one, hp, hst.out]; simp)
          have BP := hid ((Blk.new wr 29 zpfx).row (pfx p.v p.n p.k))
          have HM := hid hM
          clear hM hp hst
          cases st with
          | nil =>
            go_wp2_with (first | (refine ldX rfl _ rfl gi (oi + j * 18) rfl p.v p.n p.k HG.out ?_) | (refine st29 rfl _ _ rfl wr.heap.size p.v p.n p.k rfl rfl 29 _ (Blk.new wr 29 zpfx) rfl ?_))
            obtain ⟨w5, hw5⟩ : ∃ w5, w5 = (wr.alloc (.cells zpfx 29)).setRow wr.heap.size (pfx p.v p.n p.k).toArray := ⟨_, rfl⟩
            have B5 : Blk w5 wr.heap.size 29 (pfx p.v p.n p.k) := by rw [hw5]; exact BP.out
            have C5 : Chg [] wr w5 := by rw [hw5]; exact ((Chg.refl [] wr).alloc _).setRow (.inr (Nat.le_refl _)) _
            have M5 := hid (HM.out.later C5)
            unfold zpfx at hw5
            rw [← hw5]
            clear hw5 C5 BP
            refine wp_region_quiet_below (by kernel_rfl) (by kernel_rfl) ?_
            repeat (first | go_big_quiet_step (fail) | quiet_step (fail))
            refine wpQuiet_nil ?_
            intro w4 hw4
            have C4 := hid (chg_cls hw4)
            clear hw4
            have B4 := hid (B5.chg C4.out (by simp))
            have M4 := hid (M5.out.later C4.out)
            clear B5 M5 HM
            have HSQ := hid (show squash (p :: []) = (ys.take (j + 1)).foldl putX [] from (squash_one p).trans HN.out)
            go_wp2_with (first | (refine ld29 rfl _ rfl wr.heap.size rfl 29 p.v p.n p.k B4.out ?_) | (refine bs34 rfl _ rfl p.v p.n p.k rfl ?_) | ((with_reducible refine at_append_ ?_); (refine appX rfl _ _ rfl (m := 0) rfl rfl (M4.out.later ((Chg.refl _ _).alloc _)) p _ rfl (Blk.new w4 29 (pfx p.v p.n p.k).toArray) (by omega) ?_); intro A6 c6 w6 hM6))
            have M6 := hid hM6
            clear hM6 M4 B4

            have hcur : Hid (squash (p :: []) = (ys.take (j + 1)).foldl putX []) := hid (HSQ.out)
            go_loopw [8] (fun sv wx => ∃ (A : Option Go.Addr) (cv : Nat) (s : List PX), sv = .slice A s.length cv ∧ 0 < s.length ∧ s.length ≤ j + 1 ∧ MS w wx gi oi ys A cv s ∧ Hid (squash s = (ys.take (j + 1)).foldl putX [])) (fun sv _ => slen sv)
            case atStart => exact ⟨A6, c6, p :: [], rfl, by simp, by simp, M6.out, hcur⟩
            case round =>
              obtain ⟨A, cv, s, rfl, hs0, hsj, hM7, hsq⟩ := hrel
              have HM7 := hid hM7
              clear hM7
              match s, hs0, hsj, hsq, HM7 with
              | [t], _, hsj, hsq, HM7 =>
                have HS1 := hid (show [t] = (ys.take (j + 1)).foldl putX [] from (squash_one t).symm.trans hsq.out)
                clear hsq
                go_wp2
                refine ⟨⟨j + 1, A, cv, [t], by omega, by go_num, rfl, by simp, HM7.out, HS1⟩, by simp [RowKit.intOf]; omega⟩
              | q :: p2 :: r, _, hsj, hsq, HM7 =>
                obtain ⟨L, hL⟩ : ∃ L, L = r.length := ⟨_, rfl⟩
                have hlen : (q :: p2 :: r).length = L + 2 := by rw [hL]; rfl
                rw [hlen] at hsj ⊢
                obtain ⟨g7, o7, rfl, hc7, hm7, hg7, rng1⟩ := HM7.out.some_
                have rng2 := HM7.out.second
                rw [show (p2 :: r).length = L + 1 by rw [hL]; rfl] at rng1
                rw [← hL] at rng2
                have hcv : L + 2 ≤ cv := by have : (p2 :: r).length = L + 1 := by rw [hL]; rfl
                                            omega
                have RG1 := hid rng1
                have RG2 := hid rng2
                have HLL := hid hL
                have HLE := hid hlen
                clear rng1 rng2 hL hlen hc7 hm7
                have L0 : (0 : Int) ≤ (L : Int) := by omega
                have l1 : L < cv := by omega
                have l2 : L + 1 < cv := by omega
                have hLb : (L : Int) ≤ 1000000000 := by omega
                obtain ⟨SS, hSS⟩ : ∃ SS : World → Prop, SS = fun W => W.rangeAt g7 (o7 + L * 18) (pfx p2.v p2.n p2.k) ∧ W.rangeAt g7 (o7 + (L + 1) * 18) (pfx q.v q.n q.k) := ⟨_, rfl⟩
                have HSS : ∀ W, SS W → (fun W => W.rangeAt g7 (o7 + L * 18) (pfx p2.v p2.n p2.k) ∧ W.rangeAt g7 (o7 + (L + 1) * 18) (pfx q.v q.n q.k)) W := fun W h => by rw [hSS] at h; exact h
                have HSK := hid (fun W (hW : Chg [] wr W) => (show SS W by rw [hSS]; exact ⟨range_chg RG2.out hW hg7 (by simp), range_chg RG1.out hW hg7 (by simp)⟩))
                have S7 := hid (HSK.out wr.drew (Chg.refl [] wr).drew)
                clear hSS
                go_wp2
                refine wp_region_held (S := SS) (by kernel_rfl) ?_
                change wpAnyH _ _ _ _ _ _ _ _ (World.drew _)
                refine wpAnyH_take (i := 0) (v := .slice (some ⟨g7, o7, none⟩) (L + 2) cv) rfl (by kernel_rfl) (by kernel_rfl) (by kernel_rfl) (fun _ _ _ h => h) (Or.inl ⟨by kernel_rfl, fun W hW => by go_simp <;> first | (intro h; omega) | (rw [IntKind.wrap_i64]; omega)⟩) (by exact S7.out) ?_
                refine wpAnyH_take (i := 1) (v := .int .i64 ((L : Int) + 2)) rfl (by kernel_rfl) (by kernel_rfl) (by kernel_rfl) (fun _ _ _ h => h) (Or.inl ⟨by kernel_rfl, fun W hW => by go_simp <;> first | (intro h; omega) | (rw [IntKind.wrap_i64]; omega)⟩) (by exact S7.out) ?_
                refine wpAnyH_take (i := 2) (v := .int .i64 L) rfl (by kernel_rfl) (by kernel_rfl) (by kernel_rfl) (fun _ _ _ h => h) (Or.inl ⟨by kernel_rfl, fun W hW => by go_simp <;> first | (intro h; omega) | (rw [IntKind.wrap_i64]; omega)⟩) (by exact S7.out) ?_
                refine wpAnyH_take (i := 3) (v := .pointer (some ⟨g7, o7 + L * 18, none⟩)) rfl (by kernel_rfl) (by kernel_rfl) (by kernel_rfl) (fun _ _ _ h => h) (Or.inl ⟨by kernel_rfl, fun W hW => by go_simp <;> first | (intro h; omega) | (rw [IntKind.wrap_i64]; omega)⟩) (by exact S7.out) ?_
                refine wpAnyH_take (i := 4) (v := .agg (pfx p2.v p2.n p2.k).toArray) rfl (by kernel_rfl) (by kernel_rfl) (by kernel_rfl) (fun _ _ _ h => h) (yieldsIf_load_mid (S := SS) (by kernel_rfl) 29 _ rfl g7 (o7 + L * 18) (by kernel_rfl) (pfx p2.v p2.n p2.k) _ (fun W hW => (HSS W hW).1) Tryz.underlying29 rfl (size29.trans (by rw [pfx_length]))) (by exact S7.out) ?_
                refine wpAnyH_take (i := 5) (v := .slice (some ⟨g7, o7, none⟩) (L + 2) cv) rfl (by kernel_rfl) (by kernel_rfl) (by kernel_rfl) (fun _ _ _ h => h) (Or.inl ⟨by kernel_rfl, fun W hW => by go_simp <;> first | (intro h; omega) | (rw [IntKind.wrap_i64]; omega)⟩) (by exact S7.out) ?_
                refine wpAnyH_take (i := 6) (v := .int .i64 ((L : Int) + 2)) rfl (by kernel_rfl) (by kernel_rfl) (by kernel_rfl) (fun _ _ _ h => h) (Or.inl ⟨by kernel_rfl, fun W hW => by go_simp <;> first | (intro h; omega) | (rw [IntKind.wrap_i64]; omega)⟩) (by exact S7.out) ?_
                refine wpAnyH_take (i := 7) (v := .int .i64 ((L : Int) + 1)) rfl (by kernel_rfl) (by kernel_rfl) (by kernel_rfl) (fun _ _ _ h => h) (Or.inl ⟨by kernel_rfl, fun W hW => by go_simp <;> first | (intro h; omega) | (rw [IntKind.wrap_i64]; omega)⟩) (by exact S7.out) ?_
                refine wpAnyH_take (i := 8) (v := .pointer (some ⟨g7, o7 + (L + 1) * 18, none⟩)) rfl (by kernel_rfl) (by kernel_rfl) (by kernel_rfl) (fun _ _ _ h => h) (Or.inl ⟨by kernel_rfl, fun W hW => by go_simp <;> first | (intro h; omega) | (rw [IntKind.wrap_i64]; omega)⟩) (by exact S7.out) ?_
                refine wpAnyH_take (i := 9) (v := .agg (pfx q.v q.n q.k).toArray) rfl (by kernel_rfl) (by kernel_rfl) (by kernel_rfl) (fun _ _ _ h => h) (yieldsIf_load_mid (S := SS) (by kernel_rfl) 29 _ rfl g7 (o7 + (L + 1) * 18) (by kernel_rfl) (pfx q.v q.n q.k) _ (fun W hW => (HSS W hW).2) Tryz.underlying29 rfl (size29.trans (by rw [pfx_length]))) (by exact S7.out) ?_
                have hwv := who_val p2 q
                have HW := hid (whole_N p2.v p2.n p2.k q.v q.n q.k p2.lt q.lt p2.ok ⟨by omega, by have := q.k_int; omega⟩)
                revert hwv HW
                generalize whoP p2.v p2.n p2.k q.v q.n q.k = R
                obtain ⟨⟨v1, n1, k1⟩, b1⟩ := R
                intro hwv HW
                have HWV := hid hwv
                clear hwv
                simp only at HW HWV
                refine wpAnyH_all (rs := [10, 14]) (by kernel_rfl) (by simp) ?_
                refine allH_cons rfl (fun KK hK => ?_) ?_
                · go_simp
                  go_at_call 52
                  refine (HW.out _).mono ?_
                  rintro e c1 ⟨rfl, Cc1⟩
                  have T1 := hid (show Chg [] wr c1 from (Chg.refl [] wr).drew.trans Cc1)
                  have S8 := hid (HSK.out c1 T1.out)
                  refine hK _ _ ⟨S8.out, ?_⟩
                  clear hK KK
                  refine wpAnyH_take (i := 11) (v := .tuple #[.agg (pfx v1 n1 k1).toArray, .bool b1]) rfl (by kernel_rfl) (by kernel_rfl) (by kernel_rfl) (fun _ _ _ h => h) (Or.inl ⟨by kernel_rfl, fun W hW => by go_simp⟩) (by exact S8.out) ?_
                  refine wpAnyH_take (i := 12) (v := .agg (pfx v1 n1 k1).toArray) rfl (by kernel_rfl) (by kernel_rfl) (by kernel_rfl) (fun _ _ _ h => h) (Or.inl ⟨by kernel_rfl, fun W hW => by go_simp⟩) (by exact S8.out) ?_
                  refine wpAnyH_take (i := 13) (v := .bool b1) rfl (by kernel_rfl) (by kernel_rfl) (by kernel_rfl) (fun _ _ _ h => h) (Or.inl ⟨by kernel_rfl, fun W hW => by go_simp⟩) (by exact S8.out) ?_
                  refine wpAnyH_all (rs := [14]) (by kernel_rfl) (by simp) ?_
                  refine allH_cons rfl (fun KK hK => ?_) allH_nil
                  go_simp
                  have C9 := hid (T1.out.alloc (.cells zpfx 29))
                  have S9 := hid (HSK.out _ C9.out)
                  refine hK _ _ ⟨S9.out, ?_⟩
                  clear hK KK
                  refine wpAnyH_all (rs := [15]) (by kernel_rfl) (by simp) ?_
                  refine allH_cons rfl (fun KK hK => ?_) allH_nil
                  refine step_st29 rfl _ _ rfl c1.heap.size v1 n1 k1 rfl rfl 29 _ (Blk.new c1 29 zpfx) rfl ?_
                  have C10 := hid (C9.out.setRow (g := c1.heap.size) (.inr T1.out.size) (pfx v1 n1 k1).toArray)
                  have N10 := hid ((Blk.new c1 29 zpfx).row (pfx v1 n1 k1))
                  have S10 := hid (HSK.out _ C10.out)
                  refine hK _ _ ⟨S10.out, ?_⟩
                  clear hK KK
                  refine wpAnyH_take (i := 16) (v := .bool b1) rfl (by kernel_rfl) (by kernel_rfl) (by kernel_rfl) (fun _ _ _ h => h) (Or.inl ⟨by kernel_rfl, fun W hW => by go_simp⟩) (by exact S10.out) ?_
                  refine wpAnyH_done (by kernel_rfl) ?_ _
                  have MF := hid (HM7.out.later C10.out)
                  rcases HWV.out with ⟨hb, hz⟩ | ⟨hb, z, hz, z1, z2, z3⟩
                  · subst hb
                    have HSF := hid (show q :: p2 :: r = (ys.take (j + 1)).foldl putX [] from (squash_none hz).symm.trans hsq.out)
                    clear hz hsq HM7 S7
                    go_wp2
                    refine ⟨⟨j + 1, some ⟨g7, o7, none⟩, cv, q :: p2 :: r, by omega, by go_num, by rw [HLE.out], by rw [HLE.out]; exact hsj, MF.out, HSF.out⟩, by simp [RowKit.intOf]; omega⟩
                  · subst hb z1 z2 z3
                    have HSZ := hid (show squash (z :: r) = (ys.take (j + 1)).foldl putX [] from (squash_some hz).symm.trans hsq.out)
                    have MD := hid MF.out.drop2
                    clear hz hsq HM7 S7
                    go_wp2
                    obtain ⟨w8, hw8⟩ : ∃ w8, w8 = (c1.alloc (.cells zpfx 29)).setRow c1.heap.size (pfx z.v z.n z.k).toArray := ⟨_, rfl⟩
                    have N8 := N10.out
                    have D8 := MD.out
                    rw [← hw8] at N8 D8
                    have N8 := hid N8
                    have D8 := hid D8
                    unfold zpfx at hw8
                    rw [← hw8]
                    clear hw8 MF MD
                    obtain ⟨S2, hS2⟩ : ∃ S2 : World → Prop, S2 = fun W => Blk W c1.heap.size 29 (pfx z.v z.n z.k) := ⟨_, rfl⟩
                    have HS2 : ∀ W, S2 W → Blk W c1.heap.size 29 (pfx z.v z.n z.k) := fun W h => by rw [hS2] at h; exact h
                    have HS3 := hid (fun W (hW : Blk W c1.heap.size 29 (pfx z.v z.n z.k)) => (show S2 W by rw [hS2]; exact hW))
                    have N8d := hid (show Blk w8.drew c1.heap.size 29 (pfx z.v z.n z.k) from N8.out)
                    have S10 := hid (HS3.out w8.drew N8.out)
                    clear hS2
                    have hL9 : L ≤ 1000000001 := by omega
                    have D9 := hid (MS.later (w' := (World.drew w8).alloc (.cells (pfx z.v z.n z.k).toArray 29)) D8.out ((Chg.refl [] w8).drew.alloc _))
                    have N9b := hid (Blk.new (World.drew w8) 29 (pfx z.v z.n z.k).toArray)
                    refine wp_region_held (S := S2) (by kernel_rfl) ?_
                    change wpAnyH _ _ _ _ _ _ _ _ (World.drew _)
                    refine wpAnyH_take (i := 0) (v := .slice (some ⟨g7, o7, none⟩) (L + 2) cv) rfl (by kernel_rfl) (by kernel_rfl) (by kernel_rfl) (fun _ _ _ h => h) (Or.inl ⟨by kernel_rfl, fun W hW => by go_simp <;> first | (intro h; omega) | (rw [IntKind.wrap_i64]; omega)⟩) (by exact S10.out) ?_
                    refine wpAnyH_take (i := 1) (v := .int .i64 ((L : Int) + 2)) rfl (by kernel_rfl) (by kernel_rfl) (by kernel_rfl) (fun _ _ _ h => h) (Or.inl ⟨by kernel_rfl, fun W hW => by go_simp <;> first | (intro h; omega) | (rw [IntKind.wrap_i64]; omega)⟩) (by exact S10.out) ?_
                    refine wpAnyH_take (i := 2) (v := .int .i64 L) rfl (by kernel_rfl) (by kernel_rfl) (by kernel_rfl) (fun _ _ _ h => h) (Or.inl ⟨by kernel_rfl, fun W hW => by go_simp <;> first | (intro h; omega) | (rw [IntKind.wrap_i64]; omega)⟩) (by exact S10.out) ?_
                    refine wpAnyH_take (i := 3) (v := .slice (some ⟨g7, o7, none⟩) L cv) rfl (by kernel_rfl) (by kernel_rfl) (by kernel_rfl) (fun _ _ _ h => h) (Or.inl ⟨by kernel_rfl, fun W hW => by go_simp <;> first | (intro h; omega) | (rw [IntKind.wrap_i64]; omega)⟩) (by exact S10.out) ?_
                    refine wpAnyH_take (i := 4) (v := .agg (pfx z.v z.n z.k).toArray) rfl (by kernel_rfl) (by kernel_rfl) (by kernel_rfl) (fun _ _ _ h => h) (yieldsIf_load_mid (S := S2) (by kernel_rfl) 29 _ rfl (c1.heap.size) 0 (by kernel_rfl) (pfx z.v z.n z.k) _ (fun W hW j2 x hx => (HS2 W hW).cell_of (by rw [Nat.zero_add]; exact hx)) Tryz.underlying29 rfl (size29.trans (by rw [pfx_length]))) (by exact S10.out) ?_
                    refine wpAnyH_all (rs := [5]) (by kernel_rfl) (by simp) ?_
                    refine allH_cons rfl (fun KK hK => ?_) allH_nil
                    refine step_bs34 rfl _ rfl z.v z.n z.k rfl ?_
                    refine hK _ _ ⟨HS3.out _ (N8d.out.alloc _), ?_⟩
                    clear hK KK
                    refine wpAnyH_all (rs := [6]) (by kernel_rfl) (by simp) ?_
                    refine allH_cons rfl (fun KK hK => ?_) allH_nil
                    refine step_appX rfl _ _ rfl (A := some ⟨g7, o7, none⟩) (c := cv) (m := L) HLL.out.symm (by kernel_rfl) D9.out z w8.drew.heap.size (by kernel_rfl) N9b.out hL9 ?_
                    intro A9 c9 w9 hM9 hC9
                    have N9 := hid (show Blk w9 c1.heap.size 29 (pfx z.v z.n z.k) from (N8d.out.alloc _).chg hC9 (fun hm => by simp [Value.ownBlock] at hm; have := T1.out.size; omega))
                    refine hK _ _ ⟨HS3.out _ N9.out, ?_⟩
                    clear hK KK
                    refine wpAnyH_take (i := 7) (v := .slice A9 (L + 1) c9) rfl (by kernel_rfl) (by kernel_rfl) (by kernel_rfl) (fun _ _ _ h => h) (Or.inl ⟨by kernel_rfl, fun W hW => by go_simp⟩) (by exact HS3.out _ N9.out) ?_
                    refine wpAnyH_done (by kernel_rfl) ?_ _
                    have HM9 := hid hM9
                    clear hM9
                    go_wp2
                    go_roundw
                    case measure => simp [slen]
                    case rel => exact ⟨A9, c9, z :: r, by rw [List.length_cons, ← HLL.out]; exact ⟨rfl, rfl, rfl⟩, by simp, by rw [List.length_cons, ← HLL.out]; omega, HM9.out, HSZ.out⟩
                refine allH_cons rfl (fun KK hK => ?_) ?_
                · go_simp
                  obtain ⟨w10, hw10⟩ : ∃ w10, w10 = (wr.alloc (.cells zpfx 29)).drew := ⟨_, rfl⟩
                  obtain ⟨G0, hG0⟩ : ∃ G0, G0 = wr.heap.size := ⟨_, rfl⟩
                  have C9 : Chg [] wr w10 := by rw [hw10]; exact ((Chg.refl [] wr).alloc _).drew
                  have N9 : Blk w10 G0 29 zpfx.toList := by rw [hw10, hG0]; exact Blk.new wr 29 zpfx
                  have G0g : wr.heap.size ≤ G0 := by rw [hG0]; exact Nat.le_refl _
                  unfold zpfx at hw10
                  rw [← hw10, ← hG0]
                  clear hw10 hG0
                  have C9 := hid C9
                  have N9 := hid N9
                  have S9 := hid (HSK.out _ C9.out)
                  refine hK _ _ ⟨S9.out, ?_⟩
                  clear hK KK
                  refine wpAnyH_all (rs := [10]) (by kernel_rfl) (by simp) ?_
                  refine allH_cons rfl (fun KK hK => ?_) allH_nil
                  go_simp
                  go_at_call 52
                  refine (HW.out _).mono ?_
                  rintro e c2 ⟨rfl, Cc1⟩
                  have C10 := hid (C9.out.trans Cc1)
                  have N10 := hid (N9.out.chg Cc1 (by simp))
                  have S8 := hid (HSK.out c2 C10.out)
                  refine hK _ _ ⟨S8.out, ?_⟩
                  clear hK KK
                  refine wpAnyH_take (i := 11) (v := .tuple #[.agg (pfx v1 n1 k1).toArray, .bool b1]) rfl (by kernel_rfl) (by kernel_rfl) (by kernel_rfl) (fun _ _ _ h => h) (Or.inl ⟨by kernel_rfl, fun W hW => by go_simp⟩) (by exact S8.out) ?_
                  refine wpAnyH_take (i := 12) (v := .agg (pfx v1 n1 k1).toArray) rfl (by kernel_rfl) (by kernel_rfl) (by kernel_rfl) (fun _ _ _ h => h) (Or.inl ⟨by kernel_rfl, fun W hW => by go_simp⟩) (by exact S8.out) ?_
                  refine wpAnyH_take (i := 13) (v := .bool b1) rfl (by kernel_rfl) (by kernel_rfl) (by kernel_rfl) (fun _ _ _ h => h) (Or.inl ⟨by kernel_rfl, fun W hW => by go_simp⟩) (by exact S8.out) ?_
                  refine wpAnyH_all (rs := [15]) (by kernel_rfl) (by simp) ?_
                  refine allH_cons rfl (fun KK hK => ?_) allH_nil
                  refine step_st29 rfl _ _ rfl G0 v1 n1 k1 rfl rfl 29 _ N10.out rfl ?_
                  have C12 := hid (C10.out.setRow (g := G0) (.inr G0g) (pfx v1 n1 k1).toArray)
                  have N12 := hid (N10.out.row (pfx v1 n1 k1))
                  have S10 := hid (HSK.out _ C12.out)
                  refine hK _ _ ⟨S10.out, ?_⟩
                  clear hK KK
                  refine wpAnyH_take (i := 16) (v := .bool b1) rfl (by kernel_rfl) (by kernel_rfl) (by kernel_rfl) (fun _ _ _ h => h) (Or.inl ⟨by kernel_rfl, fun W hW => by go_simp⟩) (by exact S10.out) ?_
                  refine wpAnyH_done (by kernel_rfl) ?_ _
                  have MF := hid (HM7.out.later C12.out)
                  rcases HWV.out with ⟨hb, hz⟩ | ⟨hb, z, hz, z1, z2, z3⟩
                  · subst hb
                    have HSF := hid (show q :: p2 :: r = (ys.take (j + 1)).foldl putX [] from (squash_none hz).symm.trans hsq.out)
                    clear hz hsq HM7 S7
                    go_wp2
                    refine ⟨⟨j + 1, some ⟨g7, o7, none⟩, cv, q :: p2 :: r, by omega, by go_num, by rw [HLE.out], by rw [HLE.out]; exact hsj, MF.out, HSF.out⟩, by simp [RowKit.intOf]; omega⟩
                  · subst hb z1 z2 z3
                    have HSZ := hid (show squash (z :: r) = (ys.take (j + 1)).foldl putX [] from (squash_some hz).symm.trans hsq.out)
                    have MD := hid MF.out.drop2
                    clear hz hsq HM7 S7
                    go_wp2
                    obtain ⟨w8, hw8⟩ : ∃ w8, w8 = c2.setRow G0 (pfx z.v z.n z.k).toArray := ⟨_, rfl⟩
                    have N8 := N12.out
                    have D8 := MD.out
                    rw [← hw8] at N8 D8
                    have N8 := hid N8
                    have D8 := hid D8
                    rw [← hw8]
                    clear hw8 MF MD
                    obtain ⟨S2, hS2⟩ : ∃ S2 : World → Prop, S2 = fun W => Blk W G0 29 (pfx z.v z.n z.k) := ⟨_, rfl⟩
                    have HS2 : ∀ W, S2 W → Blk W G0 29 (pfx z.v z.n z.k) := fun W h => by rw [hS2] at h; exact h
                    have HS3 := hid (fun W (hW : Blk W G0 29 (pfx z.v z.n z.k)) => (show S2 W by rw [hS2]; exact hW))
                    have N8d := hid (show Blk w8.drew G0 29 (pfx z.v z.n z.k) from N8.out)
                    have S10 := hid (HS3.out w8.drew N8.out)
                    clear hS2
                    have hL9 : L ≤ 1000000001 := by omega
                    have D9 := hid (MS.later (w' := (World.drew w8).alloc (.cells (pfx z.v z.n z.k).toArray 29)) D8.out ((Chg.refl [] w8).drew.alloc _))
                    have N9b := hid (Blk.new (World.drew w8) 29 (pfx z.v z.n z.k).toArray)
                    refine wp_region_held (S := S2) (by kernel_rfl) ?_
                    change wpAnyH _ _ _ _ _ _ _ _ (World.drew _)
                    refine wpAnyH_take (i := 0) (v := .slice (some ⟨g7, o7, none⟩) (L + 2) cv) rfl (by kernel_rfl) (by kernel_rfl) (by kernel_rfl) (fun _ _ _ h => h) (Or.inl ⟨by kernel_rfl, fun W hW => by go_simp <;> first | (intro h; omega) | (rw [IntKind.wrap_i64]; omega)⟩) (by exact S10.out) ?_
                    refine wpAnyH_take (i := 1) (v := .int .i64 ((L : Int) + 2)) rfl (by kernel_rfl) (by kernel_rfl) (by kernel_rfl) (fun _ _ _ h => h) (Or.inl ⟨by kernel_rfl, fun W hW => by go_simp <;> first | (intro h; omega) | (rw [IntKind.wrap_i64]; omega)⟩) (by exact S10.out) ?_
                    refine wpAnyH_take (i := 2) (v := .int .i64 L) rfl (by kernel_rfl) (by kernel_rfl) (by kernel_rfl) (fun _ _ _ h => h) (Or.inl ⟨by kernel_rfl, fun W hW => by go_simp <;> first | (intro h; omega) | (rw [IntKind.wrap_i64]; omega)⟩) (by exact S10.out) ?_
                    refine wpAnyH_take (i := 3) (v := .slice (some ⟨g7, o7, none⟩) L cv) rfl (by kernel_rfl) (by kernel_rfl) (by kernel_rfl) (fun _ _ _ h => h) (Or.inl ⟨by kernel_rfl, fun W hW => by go_simp <;> first | (intro h; omega) | (rw [IntKind.wrap_i64]; omega)⟩) (by exact S10.out) ?_
                    refine wpAnyH_take (i := 4) (v := .agg (pfx z.v z.n z.k).toArray) rfl (by kernel_rfl) (by kernel_rfl) (by kernel_rfl) (fun _ _ _ h => h) (yieldsIf_load_mid (S := S2) (by kernel_rfl) 29 _ rfl (G0) 0 (by kernel_rfl) (pfx z.v z.n z.k) _ (fun W hW j2 x hx => (HS2 W hW).cell_of (by rw [Nat.zero_add]; exact hx)) Tryz.underlying29 rfl (size29.trans (by rw [pfx_length]))) (by exact S10.out) ?_
                    refine wpAnyH_all (rs := [5]) (by kernel_rfl) (by simp) ?_
                    refine allH_cons rfl (fun KK hK => ?_) allH_nil
                    refine step_bs34 rfl _ rfl z.v z.n z.k rfl ?_
                    refine hK _ _ ⟨HS3.out _ (N8d.out.alloc _), ?_⟩
                    clear hK KK
                    refine wpAnyH_all (rs := [6]) (by kernel_rfl) (by simp) ?_
                    refine allH_cons rfl (fun KK hK => ?_) allH_nil
                    refine step_appX rfl _ _ rfl (A := some ⟨g7, o7, none⟩) (c := cv) (m := L) HLL.out.symm (by kernel_rfl) D9.out z w8.drew.heap.size (by kernel_rfl) N9b.out hL9 ?_
                    intro A9 c9 w9 hM9 hC9
                    have N9 := hid (show Blk w9 G0 29 (pfx z.v z.n z.k) from (N8d.out.alloc _).chg hC9 (fun hm => by simp [Value.ownBlock] at hm; have := G0g; omega))
                    refine hK _ _ ⟨HS3.out _ N9.out, ?_⟩
                    clear hK KK
                    refine wpAnyH_take (i := 7) (v := .slice A9 (L + 1) c9) rfl (by kernel_rfl) (by kernel_rfl) (by kernel_rfl) (fun _ _ _ h => h) (Or.inl ⟨by kernel_rfl, fun W hW => by go_simp⟩) (by exact HS3.out _ N9.out) ?_
                    refine wpAnyH_done (by kernel_rfl) ?_ _
                    have HM9 := hid hM9
                    clear hM9
                    go_wp2
                    go_roundw
                    case measure => simp [slen]
                    case rel => exact ⟨A9, c9, z :: r, by rw [List.length_cons, ← HLL.out]; exact ⟨rfl, rfl, rfl⟩, by simp, by rw [List.length_cons, ← HLL.out]; omega, HM9.out, HSZ.out⟩
                exact allH_nil
          | cons t r =>
            obtain ⟨L5, hL5⟩ : ∃ L5, L5 = r.length := ⟨_, rfl⟩
            have hlen5 : (t :: r).length = L5 + 1 := by rw [hL5]; rfl
            rw [hlen5] at hsl ⊢
            have HL5 := hid hlen5
            have HL5r := hid hL5
            obtain ⟨g5, o5, rfl, hc5, hm5, hg5, rng5⟩ := HM.out.some_
            rw [← hL5] at hc5 rng5
            have RNG5 := hid rng5
            clear hlen5 hL5 rng5 hm5
            have l50 : (0 : Int) ≤ (L5 : Int) := by omega
            have l51 : L5 < cv := by omega
            have l52 : (0 : Int) < (L5 : Int) + 1 := by omega
            have HCV := hid (cls_of (covers_N t.v t.n t.k p.v p.n p.k t.lt p.lt))
            obtain ⟨cb, hcb⟩ : ∃ cb, cb = covX t p := ⟨_, rfl⟩
            have HCB := hid hcb
            rw [show covP t.v t.n t.k p.v p.n p.k = cb from hcb.symm] at HCV
            clear hcb
            go_wp2_with (first | (refine ldX rfl _ rfl gi (oi + j * 18) rfl p.v p.n p.k HG.out ?_) | (refine st29 rfl _ _ rfl wr.heap.size p.v p.n p.k rfl rfl 29 _ (Blk.new wr 29 zpfx) rfl ?_))
            obtain ⟨w5, hw5⟩ : ∃ w5, w5 = (wr.alloc (.cells zpfx 29)).setRow wr.heap.size (pfx p.v p.n p.k).toArray := ⟨_, rfl⟩
            have B5 : Blk w5 wr.heap.size 29 (pfx p.v p.n p.k) := by rw [hw5]; exact BP.out
            have C5 : Chg [] wr w5 := by rw [hw5]; exact ((Chg.refl [] wr).alloc _).setRow (.inr (Nat.le_refl _)) _
            have M5 := hid (HM.out.later C5)
            unfold zpfx at hw5
            rw [← hw5]
            clear hw5 BP
            have RT := hid (range_cls (range_chg RNG5.out C5 hg5 (by simp)) (Nat.lt_of_lt_of_le hg5 C5.size))
            have RP := hid (fun W hW => (show W.rangeAt wr.heap.size 0 (pfx p.v p.n p.k) from B5.range_cls0 W hW))
            clear C5
            cases cb with
            | true =>
              refine wp_region_quiet_below (by kernel_rfl) (by kernel_rfl) ?_
              repeat (first | (go_big_quiet_want; refine quiet_load 29 _ rfl g5 (o5 + L5 * 18) rfl (pfx t.v t.n t.k) _ RT.out Tryz.underlying29 rfl (size29.trans (by rw [pfx_length])) ?_; go_big_quiet_on) | (refine wpQuiet_load (by kernel_rfl) 29 _ rfl wr.heap.size 0 (by kernel_rfl) (pfx p.v p.n p.k) _ RP.out Tryz.underlying29 rfl (size29.trans (by rw [pfx_length])) ?_) | go_big_quiet_step ((go_at_call 23; with_reducible exact HCV.out _ _ _)) | quiet_step ((go_at_call 23; with_reducible exact HCV.out _ _ _)))
              refine wpQuiet_nil ?_
              intro w4 hw4
              have C4 := hid (chg_cls hw4)
              clear hw4
              have B4 := hid (B5.chg C4.out (by simp))
              have M4 := hid (M5.out.later C4.out)
              clear B5 M5 HM
              have HPT := hid (show t :: r = (ys.take (j + 1)).foldl putX [] from (putX_cov HCB.out.symm).symm.trans HN.out)
              go_wp2
              refine ⟨⟨j + 1, some ⟨g5, o5, none⟩, cv, t :: r, by omega, by go_num, by rw [HL5.out], by rw [HL5.out]; omega, M4.out, HPT.out⟩, by simp [RowKit.intOf]; omega⟩
            | false =>
              refine wp_region_quiet_below (by kernel_rfl) (by kernel_rfl) ?_
              repeat (first | (go_big_quiet_want; refine quiet_load 29 _ rfl g5 (o5 + L5 * 18) rfl (pfx t.v t.n t.k) _ RT.out Tryz.underlying29 rfl (size29.trans (by rw [pfx_length])) ?_; go_big_quiet_on) | (refine wpQuiet_load (by kernel_rfl) 29 _ rfl wr.heap.size 0 (by kernel_rfl) (pfx p.v p.n p.k) _ RP.out Tryz.underlying29 rfl (size29.trans (by rw [pfx_length])) ?_) | go_big_quiet_step ((go_at_call 23; with_reducible exact HCV.out _ _ _)) | quiet_step ((go_at_call 23; with_reducible exact HCV.out _ _ _)))
              refine wpQuiet_nil ?_
              intro w4 hw4
              have C4 := hid (chg_cls hw4)
              clear hw4
              have B4 := hid (B5.chg C4.out (by simp))
              have M4 := hid (M5.out.later C4.out)
              clear B5 M5 HM
              have HSQ := hid (show squash (p :: t :: r) = (ys.take (j + 1)).foldl putX [] from (putX_not HCB.out.symm).symm.trans HN.out)
              go_wp2_with (first | (refine ld29 rfl _ rfl wr.heap.size rfl 29 p.v p.n p.k B4.out ?_) | (refine bs34 rfl _ rfl p.v p.n p.k rfl ?_) | ((with_reducible refine at_append_ ?_); (refine appX rfl _ _ rfl (m := L5 + 1) HL5.out rfl (M4.out.later ((Chg.refl _ _).alloc _)) p _ rfl (Blk.new w4 29 (pfx p.v p.n p.k).toArray) (by omega) ?_); intro A6 c6 w6 hM6))
              have M6 := hid hM6
              clear hM6 M4 B4

              have hcur : Hid (squash (p :: t :: r) = (ys.take (j + 1)).foldl putX []) := hid (HSQ.out)
              go_loopw [8] (fun sv wx => ∃ (A : Option Go.Addr) (cv : Nat) (s : List PX), sv = .slice A s.length cv ∧ 0 < s.length ∧ s.length ≤ j + 1 ∧ MS w wx gi oi ys A cv s ∧ Hid (squash s = (ys.take (j + 1)).foldl putX [])) (fun sv _ => slen sv)
              case atStart => exact ⟨A6, c6, p :: t :: r, by rw [List.length_cons, HL5.out], by simp, by rw [List.length_cons, HL5.out]; omega, M6.out, hcur⟩
              case round =>
                obtain ⟨A, cv, s, rfl, hs0, hsj, hM7, hsq⟩ := hrel
                have HM7 := hid hM7
                clear hM7
                match s, hs0, hsj, hsq, HM7 with
                | [t], _, hsj, hsq, HM7 =>
                  have HS1 := hid (show [t] = (ys.take (j + 1)).foldl putX [] from (squash_one t).symm.trans hsq.out)
                  clear hsq
                  go_wp2
                  refine ⟨⟨j + 1, A, cv, [t], by omega, by go_num, rfl, by simp, HM7.out, HS1⟩, by simp [RowKit.intOf]; omega⟩
                | q :: p2 :: r, _, hsj, hsq, HM7 =>
                  obtain ⟨L, hL⟩ : ∃ L, L = r.length := ⟨_, rfl⟩
                  have hlen : (q :: p2 :: r).length = L + 2 := by rw [hL]; rfl
                  rw [hlen] at hsj ⊢
                  obtain ⟨g7, o7, rfl, hc7, hm7, hg7, rng1⟩ := HM7.out.some_
                  have rng2 := HM7.out.second
                  rw [show (p2 :: r).length = L + 1 by rw [hL]; rfl] at rng1
                  rw [← hL] at rng2
                  have hcv : L + 2 ≤ cv := by have : (p2 :: r).length = L + 1 := by rw [hL]; rfl
                                              omega
                  have RG1 := hid rng1
                  have RG2 := hid rng2
                  have HLL := hid hL
                  have HLE := hid hlen
                  clear rng1 rng2 hL hlen hc7 hm7
                  have L0 : (0 : Int) ≤ (L : Int) := by omega
                  have l1 : L < cv := by omega
                  have l2 : L + 1 < cv := by omega
                  have hLb : (L : Int) ≤ 1000000000 := by omega
                  obtain ⟨SS, hSS⟩ : ∃ SS : World → Prop, SS = fun W => W.rangeAt g7 (o7 + L * 18) (pfx p2.v p2.n p2.k) ∧ W.rangeAt g7 (o7 + (L + 1) * 18) (pfx q.v q.n q.k) := ⟨_, rfl⟩
                  have HSS : ∀ W, SS W → (fun W => W.rangeAt g7 (o7 + L * 18) (pfx p2.v p2.n p2.k) ∧ W.rangeAt g7 (o7 + (L + 1) * 18) (pfx q.v q.n q.k)) W := fun W h => by rw [hSS] at h; exact h
                  have HSK := hid (fun W (hW : Chg [] wr W) => (show SS W by rw [hSS]; exact ⟨range_chg RG2.out hW hg7 (by simp), range_chg RG1.out hW hg7 (by simp)⟩))
                  have S7 := hid (HSK.out wr.drew (Chg.refl [] wr).drew)
                  clear hSS
                  go_wp2
                  refine wp_region_held (S := SS) (by kernel_rfl) ?_
                  change wpAnyH _ _ _ _ _ _ _ _ (World.drew _)
                  refine wpAnyH_take (i := 0) (v := .slice (some ⟨g7, o7, none⟩) (L + 2) cv) rfl (by kernel_rfl) (by kernel_rfl) (by kernel_rfl) (fun _ _ _ h => h) (Or.inl ⟨by kernel_rfl, fun W hW => by go_simp <;> first | (intro h; omega) | (rw [IntKind.wrap_i64]; omega)⟩) (by exact S7.out) ?_
                  refine wpAnyH_take (i := 1) (v := .int .i64 ((L : Int) + 2)) rfl (by kernel_rfl) (by kernel_rfl) (by kernel_rfl) (fun _ _ _ h => h) (Or.inl ⟨by kernel_rfl, fun W hW => by go_simp <;> first | (intro h; omega) | (rw [IntKind.wrap_i64]; omega)⟩) (by exact S7.out) ?_
                  refine wpAnyH_take (i := 2) (v := .int .i64 L) rfl (by kernel_rfl) (by kernel_rfl) (by kernel_rfl) (fun _ _ _ h => h) (Or.inl ⟨by kernel_rfl, fun W hW => by go_simp <;> first | (intro h; omega) | (rw [IntKind.wrap_i64]; omega)⟩) (by exact S7.out) ?_
                  refine wpAnyH_take (i := 3) (v := .pointer (some ⟨g7, o7 + L * 18, none⟩)) rfl (by kernel_rfl) (by kernel_rfl) (by kernel_rfl) (fun _ _ _ h => h) (Or.inl ⟨by kernel_rfl, fun W hW => by go_simp <;> first | (intro h; omega) | (rw [IntKind.wrap_i64]; omega)⟩) (by exact S7.out) ?_
                  refine wpAnyH_take (i := 4) (v := .agg (pfx p2.v p2.n p2.k).toArray) rfl (by kernel_rfl) (by kernel_rfl) (by kernel_rfl) (fun _ _ _ h => h) (yieldsIf_load_mid (S := SS) (by kernel_rfl) 29 _ rfl g7 (o7 + L * 18) (by kernel_rfl) (pfx p2.v p2.n p2.k) _ (fun W hW => (HSS W hW).1) Tryz.underlying29 rfl (size29.trans (by rw [pfx_length]))) (by exact S7.out) ?_
                  refine wpAnyH_take (i := 5) (v := .slice (some ⟨g7, o7, none⟩) (L + 2) cv) rfl (by kernel_rfl) (by kernel_rfl) (by kernel_rfl) (fun _ _ _ h => h) (Or.inl ⟨by kernel_rfl, fun W hW => by go_simp <;> first | (intro h; omega) | (rw [IntKind.wrap_i64]; omega)⟩) (by exact S7.out) ?_
                  refine wpAnyH_take (i := 6) (v := .int .i64 ((L : Int) + 2)) rfl (by kernel_rfl) (by kernel_rfl) (by kernel_rfl) (fun _ _ _ h => h) (Or.inl ⟨by kernel_rfl, fun W hW => by go_simp <;> first | (intro h; omega) | (rw [IntKind.wrap_i64]; omega)⟩) (by exact S7.out) ?_
                  refine wpAnyH_take (i := 7) (v := .int .i64 ((L : Int) + 1)) rfl (by kernel_rfl) (by kernel_rfl) (by kernel_rfl) (fun _ _ _ h => h) (Or.inl ⟨by kernel_rfl, fun W hW => by go_simp <;> first | (intro h; omega) | (rw [IntKind.wrap_i64]; omega)⟩) (by exact S7.out) ?_
                  refine wpAnyH_take (i := 8) (v := .pointer (some ⟨g7, o7 + (L + 1) * 18, none⟩)) rfl (by kernel_rfl) (by kernel_rfl) (by kernel_rfl) (fun _ _ _ h => h) (Or.inl ⟨by kernel_rfl, fun W hW => by go_simp <;> first | (intro h; omega) | (rw [IntKind.wrap_i64]; omega)⟩) (by exact S7.out) ?_
                  refine wpAnyH_take (i := 9) (v := .agg (pfx q.v q.n q.k).toArray) rfl (by kernel_rfl) (by kernel_rfl) (by kernel_rfl) (fun _ _ _ h => h) (yieldsIf_load_mid (S := SS) (by kernel_rfl) 29 _ rfl g7 (o7 + (L + 1) * 18) (by kernel_rfl) (pfx q.v q.n q.k) _ (fun W hW => (HSS W hW).2) Tryz.underlying29 rfl (size29.trans (by rw [pfx_length]))) (by exact S7.out) ?_
                  have hwv := who_val p2 q
                  have HW := hid (whole_N p2.v p2.n p2.k q.v q.n q.k p2.lt q.lt p2.ok ⟨by omega, by have := q.k_int; omega⟩)
                  revert hwv HW
                  generalize whoP p2.v p2.n p2.k q.v q.n q.k = R
                  obtain ⟨⟨v1, n1, k1⟩, b1⟩ := R
                  intro hwv HW
                  have HWV := hid hwv
                  clear hwv
                  simp only at HW HWV
                  refine wpAnyH_all (rs := [10, 14]) (by kernel_rfl) (by simp) ?_
                  refine allH_cons rfl (fun KK hK => ?_) ?_
                  · go_simp
                    go_at_call 52
                    refine (HW.out _).mono ?_
                    rintro e c1 ⟨rfl, Cc1⟩
                    have T1 := hid (show Chg [] wr c1 from (Chg.refl [] wr).drew.trans Cc1)
                    have S8 := hid (HSK.out c1 T1.out)
                    refine hK _ _ ⟨S8.out, ?_⟩
                    clear hK KK
                    refine wpAnyH_take (i := 11) (v := .tuple #[.agg (pfx v1 n1 k1).toArray, .bool b1]) rfl (by kernel_rfl) (by kernel_rfl) (by kernel_rfl) (fun _ _ _ h => h) (Or.inl ⟨by kernel_rfl, fun W hW => by go_simp⟩) (by exact S8.out) ?_
                    refine wpAnyH_take (i := 12) (v := .agg (pfx v1 n1 k1).toArray) rfl (by kernel_rfl) (by kernel_rfl) (by kernel_rfl) (fun _ _ _ h => h) (Or.inl ⟨by kernel_rfl, fun W hW => by go_simp⟩) (by exact S8.out) ?_
                    refine wpAnyH_take (i := 13) (v := .bool b1) rfl (by kernel_rfl) (by kernel_rfl) (by kernel_rfl) (fun _ _ _ h => h) (Or.inl ⟨by kernel_rfl, fun W hW => by go_simp⟩) (by exact S8.out) ?_
                    refine wpAnyH_all (rs := [14]) (by kernel_rfl) (by simp) ?_
                    refine allH_cons rfl (fun KK hK => ?_) allH_nil
                    go_simp
                    have C9 := hid (T1.out.alloc (.cells zpfx 29))
                    have S9 := hid (HSK.out _ C9.out)
                    refine hK _ _ ⟨S9.out, ?_⟩
                    clear hK KK
                    refine wpAnyH_all (rs := [15]) (by kernel_rfl) (by simp) ?_
                    refine allH_cons rfl (fun KK hK => ?_) allH_nil
                    refine step_st29 rfl _ _ rfl c1.heap.size v1 n1 k1 rfl rfl 29 _ (Blk.new c1 29 zpfx) rfl ?_
                    have C10 := hid (C9.out.setRow (g := c1.heap.size) (.inr T1.out.size) (pfx v1 n1 k1).toArray)
                    have N10 := hid ((Blk.new c1 29 zpfx).row (pfx v1 n1 k1))
                    have S10 := hid (HSK.out _ C10.out)
                    refine hK _ _ ⟨S10.out, ?_⟩
                    clear hK KK
                    refine wpAnyH_take (i := 16) (v := .bool b1) rfl (by kernel_rfl) (by kernel_rfl) (by kernel_rfl) (fun _ _ _ h => h) (Or.inl ⟨by kernel_rfl, fun W hW => by go_simp⟩) (by exact S10.out) ?_
                    refine wpAnyH_done (by kernel_rfl) ?_ _
                    have MF := hid (HM7.out.later C10.out)
                    rcases HWV.out with ⟨hb, hz⟩ | ⟨hb, z, hz, z1, z2, z3⟩
                    · subst hb
                      have HSF := hid (show q :: p2 :: r = (ys.take (j + 1)).foldl putX [] from (squash_none hz).symm.trans hsq.out)
                      clear hz hsq HM7 S7
                      go_wp2
                      refine ⟨⟨j + 1, some ⟨g7, o7, none⟩, cv, q :: p2 :: r, by omega, by go_num, by rw [HLE.out], by rw [HLE.out]; exact hsj, MF.out, HSF.out⟩, by simp [RowKit.intOf]; omega⟩
                    · subst hb z1 z2 z3
                      have HSZ := hid (show squash (z :: r) = (ys.take (j + 1)).foldl putX [] from (squash_some hz).symm.trans hsq.out)
                      have MD := hid MF.out.drop2
                      clear hz hsq HM7 S7
                      go_wp2
                      obtain ⟨w8, hw8⟩ : ∃ w8, w8 = (c1.alloc (.cells zpfx 29)).setRow c1.heap.size (pfx z.v z.n z.k).toArray := ⟨_, rfl⟩
                      have N8 := N10.out
                      have D8 := MD.out
                      rw [← hw8] at N8 D8
                      have N8 := hid N8
                      have D8 := hid D8
                      unfold zpfx at hw8
                      rw [← hw8]
                      clear hw8 MF MD
                      obtain ⟨S2, hS2⟩ : ∃ S2 : World → Prop, S2 = fun W => Blk W c1.heap.size 29 (pfx z.v z.n z.k) := ⟨_, rfl⟩
                      have HS2 : ∀ W, S2 W → Blk W c1.heap.size 29 (pfx z.v z.n z.k) := fun W h => by rw [hS2] at h; exact h
                      have HS3 := hid (fun W (hW : Blk W c1.heap.size 29 (pfx z.v z.n z.k)) => (show S2 W by rw [hS2]; exact hW))
                      have N8d := hid (show Blk w8.drew c1.heap.size 29 (pfx z.v z.n z.k) from N8.out)
                      have S10 := hid (HS3.out w8.drew N8.out)
                      clear hS2
                      have hL9 : L ≤ 1000000001 := by omega
                      have D9 := hid (MS.later (w' := (World.drew w8).alloc (.cells (pfx z.v z.n z.k).toArray 29)) D8.out ((Chg.refl [] w8).drew.alloc _))
                      have N9b := hid (Blk.new (World.drew w8) 29 (pfx z.v z.n z.k).toArray)
                      refine wp_region_held (S := S2) (by kernel_rfl) ?_
                      change wpAnyH _ _ _ _ _ _ _ _ (World.drew _)
                      refine wpAnyH_take (i := 0) (v := .slice (some ⟨g7, o7, none⟩) (L + 2) cv) rfl (by kernel_rfl) (by kernel_rfl) (by kernel_rfl) (fun _ _ _ h => h) (Or.inl ⟨by kernel_rfl, fun W hW => by go_simp <;> first | (intro h; omega) | (rw [IntKind.wrap_i64]; omega)⟩) (by exact S10.out) ?_
                      refine wpAnyH_take (i := 1) (v := .int .i64 ((L : Int) + 2)) rfl (by kernel_rfl) (by kernel_rfl) (by kernel_rfl) (fun _ _ _ h => h) (Or.inl ⟨by kernel_rfl, fun W hW => by go_simp <;> first | (intro h; omega) | (rw [IntKind.wrap_i64]; omega)⟩) (by exact S10.out) ?_
                      refine wpAnyH_take (i := 2) (v := .int .i64 L) rfl (by kernel_rfl) (by kernel_rfl) (by kernel_rfl) (fun _ _ _ h => h) (Or.inl ⟨by kernel_rfl, fun W hW => by go_simp <;> first | (intro h; omega) | (rw [IntKind.wrap_i64]; omega)⟩) (by exact S10.out) ?_
                      refine wpAnyH_take (i := 3) (v := .slice (some ⟨g7, o7, none⟩) L cv) rfl (by kernel_rfl) (by kernel_rfl) (by kernel_rfl) (fun _ _ _ h => h) (Or.inl ⟨by kernel_rfl, fun W hW => by go_simp <;> first | (intro h; omega) | (rw [IntKind.wrap_i64]; omega)⟩) (by exact S10.out) ?_
                      refine wpAnyH_take (i := 4) (v := .agg (pfx z.v z.n z.k).toArray) rfl (by kernel_rfl) (by kernel_rfl) (by kernel_rfl) (fun _ _ _ h => h) (yieldsIf_load_mid (S := S2) (by kernel_rfl) 29 _ rfl (c1.heap.size) 0 (by kernel_rfl) (pfx z.v z.n z.k) _ (fun W hW j2 x hx => (HS2 W hW).cell_of (by rw [Nat.zero_add]; exact hx)) Tryz.underlying29 rfl (size29.trans (by rw [pfx_length]))) (by exact S10.out) ?_
                      refine wpAnyH_all (rs := [5]) (by kernel_rfl) (by simp) ?_
                      refine allH_cons rfl (fun KK hK => ?_) allH_nil
                      refine step_bs34 rfl _ rfl z.v z.n z.k rfl ?_
                      refine hK _ _ ⟨HS3.out _ (N8d.out.alloc _), ?_⟩
                      clear hK KK
                      refine wpAnyH_all (rs := [6]) (by kernel_rfl) (by simp) ?_
                      refine allH_cons rfl (fun KK hK => ?_) allH_nil
                      refine step_appX rfl _ _ rfl (A := some ⟨g7, o7, none⟩) (c := cv) (m := L) HLL.out.symm (by kernel_rfl) D9.out z w8.drew.heap.size (by kernel_rfl) N9b.out hL9 ?_
                      intro A9 c9 w9 hM9 hC9
                      have N9 := hid (show Blk w9 c1.heap.size 29 (pfx z.v z.n z.k) from (N8d.out.alloc _).chg hC9 (fun hm => by simp [Value.ownBlock] at hm; have := T1.out.size; omega))
                      refine hK _ _ ⟨HS3.out _ N9.out, ?_⟩
                      clear hK KK
                      refine wpAnyH_take (i := 7) (v := .slice A9 (L + 1) c9) rfl (by kernel_rfl) (by kernel_rfl) (by kernel_rfl) (fun _ _ _ h => h) (Or.inl ⟨by kernel_rfl, fun W hW => by go_simp⟩) (by exact HS3.out _ N9.out) ?_
                      refine wpAnyH_done (by kernel_rfl) ?_ _
                      have HM9 := hid hM9
                      clear hM9
                      go_wp2
                      go_roundw
                      case measure => simp [slen]
                      case rel => exact ⟨A9, c9, z :: r, by rw [List.length_cons, ← HLL.out]; exact ⟨rfl, rfl, rfl⟩, by simp, by rw [List.length_cons, ← HLL.out]; omega, HM9.out, HSZ.out⟩
                  refine allH_cons rfl (fun KK hK => ?_) ?_
                  · go_simp
                    obtain ⟨w10, hw10⟩ : ∃ w10, w10 = (wr.alloc (.cells zpfx 29)).drew := ⟨_, rfl⟩
                    obtain ⟨G0, hG0⟩ : ∃ G0, G0 = wr.heap.size := ⟨_, rfl⟩
                    have C9 : Chg [] wr w10 := by rw [hw10]; exact ((Chg.refl [] wr).alloc _).drew
                    have N9 : Blk w10 G0 29 zpfx.toList := by rw [hw10, hG0]; exact Blk.new wr 29 zpfx
                    have G0g : wr.heap.size ≤ G0 := by rw [hG0]; exact Nat.le_refl _
                    unfold zpfx at hw10
                    rw [← hw10, ← hG0]
                    clear hw10 hG0
                    have C9 := hid C9
                    have N9 := hid N9
                    have S9 := hid (HSK.out _ C9.out)
                    refine hK _ _ ⟨S9.out, ?_⟩
                    clear hK KK
                    refine wpAnyH_all (rs := [10]) (by kernel_rfl) (by simp) ?_
                    refine allH_cons rfl (fun KK hK => ?_) allH_nil
                    go_simp
                    go_at_call 52
                    refine (HW.out _).mono ?_
                    rintro e c2 ⟨rfl, Cc1⟩
                    have C10 := hid (C9.out.trans Cc1)
                    have N10 := hid (N9.out.chg Cc1 (by simp))
                    have S8 := hid (HSK.out c2 C10.out)
                    refine hK _ _ ⟨S8.out, ?_⟩
                    clear hK KK
                    refine wpAnyH_take (i := 11) (v := .tuple #[.agg (pfx v1 n1 k1).toArray, .bool b1]) rfl (by kernel_rfl) (by kernel_rfl) (by kernel_rfl) (fun _ _ _ h => h) (Or.inl ⟨by kernel_rfl, fun W hW => by go_simp⟩) (by exact S8.out) ?_
                    refine wpAnyH_take (i := 12) (v := .agg (pfx v1 n1 k1).toArray) rfl (by kernel_rfl) (by kernel_rfl) (by kernel_rfl) (fun _ _ _ h => h) (Or.inl ⟨by kernel_rfl, fun W hW => by go_simp⟩) (by exact S8.out) ?_
                    refine wpAnyH_take (i := 13) (v := .bool b1) rfl (by kernel_rfl) (by kernel_rfl) (by kernel_rfl) (fun _ _ _ h => h) (Or.inl ⟨by kernel_rfl, fun W hW => by go_simp⟩) (by exact S8.out) ?_
                    refine wpAnyH_all (rs := [15]) (by kernel_rfl) (by simp) ?_
                    refine allH_cons rfl (fun KK hK => ?_) allH_nil
                    refine step_st29 rfl _ _ rfl G0 v1 n1 k1 rfl rfl 29 _ N10.out rfl ?_
                    have C12 := hid (C10.out.setRow (g := G0) (.inr G0g) (pfx v1 n1 k1).toArray)
                    have N12 := hid (N10.out.row (pfx v1 n1 k1))
                    have S10 := hid (HSK.out _ C12.out)
                    refine hK _ _ ⟨S10.out, ?_⟩
                    clear hK KK
                    refine wpAnyH_take (i := 16) (v := .bool b1) rfl (by kernel_rfl) (by kernel_rfl) (by kernel_rfl) (fun _ _ _ h => h) (Or.inl ⟨by kernel_rfl, fun W hW => by go_simp⟩) (by exact S10.out) ?_
                    refine wpAnyH_done (by kernel_rfl) ?_ _
                    have MF := hid (HM7.out.later C12.out)
                    rcases HWV.out with ⟨hb, hz⟩ | ⟨hb, z, hz, z1, z2, z3⟩
                    · subst hb
                      have HSF := hid (show q :: p2 :: r = (ys.take (j + 1)).foldl putX [] from (squash_none hz).symm.trans hsq.out)
                      clear hz hsq HM7 S7
                      go_wp2
                      refine ⟨⟨j + 1, some ⟨g7, o7, none⟩, cv, q :: p2 :: r, by omega, by go_num, by rw [HLE.out], by rw [HLE.out]; exact hsj, MF.out, HSF.out⟩, by simp [RowKit.intOf]; omega⟩
                    · subst hb z1 z2 z3
                      have HSZ := hid (show squash (z :: r) = (ys.take (j + 1)).foldl putX [] from (squash_some hz).symm.trans hsq.out)
                      have MD := hid MF.out.drop2
                      clear hz hsq HM7 S7
                      go_wp2
                      obtain ⟨w8, hw8⟩ : ∃ w8, w8 = c2.setRow G0 (pfx z.v z.n z.k).toArray := ⟨_, rfl⟩
                      have N8 := N12.out
                      have D8 := MD.out
                      rw [← hw8] at N8 D8
                      have N8 := hid N8
                      have D8 := hid D8
                      rw [← hw8]
                      clear hw8 MF MD
                      obtain ⟨S2, hS2⟩ : ∃ S2 : World → Prop, S2 = fun W => Blk W G0 29 (pfx z.v z.n z.k) := ⟨_, rfl⟩
                      have HS2 : ∀ W, S2 W → Blk W G0 29 (pfx z.v z.n z.k) := fun W h => by rw [hS2] at h; exact h
                      have HS3 := hid (fun W (hW : Blk W G0 29 (pfx z.v z.n z.k)) => (show S2 W by rw [hS2]; exact hW))
                      have N8d := hid (show Blk w8.drew G0 29 (pfx z.v z.n z.k) from N8.out)
                      have S10 := hid (HS3.out w8.drew N8.out)
                      clear hS2
                      have hL9 : L ≤ 1000000001 := by omega
                      have D9 := hid (MS.later (w' := (World.drew w8).alloc (.cells (pfx z.v z.n z.k).toArray 29)) D8.out ((Chg.refl [] w8).drew.alloc _))
                      have N9b := hid (Blk.new (World.drew w8) 29 (pfx z.v z.n z.k).toArray)
                      refine wp_region_held (S := S2) (by kernel_rfl) ?_
                      change wpAnyH _ _ _ _ _ _ _ _ (World.drew _)
                      refine wpAnyH_take (i := 0) (v := .slice (some ⟨g7, o7, none⟩) (L + 2) cv) rfl (by kernel_rfl) (by kernel_rfl) (by kernel_rfl) (fun _ _ _ h => h) (Or.inl ⟨by kernel_rfl, fun W hW => by go_simp <;> first | (intro h; omega) | (rw [IntKind.wrap_i64]; omega)⟩) (by exact S10.out) ?_
                      refine wpAnyH_take (i := 1) (v := .int .i64 ((L : Int) + 2)) rfl (by kernel_rfl) (by kernel_rfl) (by kernel_rfl) (fun _ _ _ h => h) (Or.inl ⟨by kernel_rfl, fun W hW => by go_simp <;> first | (intro h; omega) | (rw [IntKind.wrap_i64]; omega)⟩) (by exact S10.out) ?_
                      refine wpAnyH_take (i := 2) (v := .int .i64 L) rfl (by kernel_rfl) (by kernel_rfl) (by kernel_rfl) (fun _ _ _ h => h) (Or.inl ⟨by kernel_rfl, fun W hW => by go_simp <;> first | (intro h; omega) | (rw [IntKind.wrap_i64]; omega)⟩) (by exact S10.out) ?_
                      refine wpAnyH_take (i := 3) (v := .slice (some ⟨g7, o7, none⟩) L cv) rfl (by kernel_rfl) (by kernel_rfl) (by kernel_rfl) (fun _ _ _ h => h) (Or.inl ⟨by kernel_rfl, fun W hW => by go_simp <;> first | (intro h; omega) | (rw [IntKind.wrap_i64]; omega)⟩) (by exact S10.out) ?_
                      refine wpAnyH_take (i := 4) (v := .agg (pfx z.v z.n z.k).toArray) rfl (by kernel_rfl) (by kernel_rfl) (by kernel_rfl) (fun _ _ _ h => h) (yieldsIf_load_mid (S := S2) (by kernel_rfl) 29 _ rfl (G0) 0 (by kernel_rfl) (pfx z.v z.n z.k) _ (fun W hW j2 x hx => (HS2 W hW).cell_of (by rw [Nat.zero_add]; exact hx)) Tryz.underlying29 rfl (size29.trans (by rw [pfx_length]))) (by exact S10.out) ?_
                      refine wpAnyH_all (rs := [5]) (by kernel_rfl) (by simp) ?_
                      refine allH_cons rfl (fun KK hK => ?_) allH_nil
                      refine step_bs34 rfl _ rfl z.v z.n z.k rfl ?_
                      refine hK _ _ ⟨HS3.out _ (N8d.out.alloc _), ?_⟩
                      clear hK KK
                      refine wpAnyH_all (rs := [6]) (by kernel_rfl) (by simp) ?_
                      refine allH_cons rfl (fun KK hK => ?_) allH_nil
                      refine step_appX rfl _ _ rfl (A := some ⟨g7, o7, none⟩) (c := cv) (m := L) HLL.out.symm (by kernel_rfl) D9.out z w8.drew.heap.size (by kernel_rfl) N9b.out hL9 ?_
                      intro A9 c9 w9 hM9 hC9
                      have N9 := hid (show Blk w9 G0 29 (pfx z.v z.n z.k) from (N8d.out.alloc _).chg hC9 (fun hm => by simp [Value.ownBlock] at hm; have := G0g; omega))
                      refine hK _ _ ⟨HS3.out _ N9.out, ?_⟩
                      clear hK KK
                      refine wpAnyH_take (i := 7) (v := .slice A9 (L + 1) c9) rfl (by kernel_rfl) (by kernel_rfl) (by kernel_rfl) (fun _ _ _ h => h) (Or.inl ⟨by kernel_rfl, fun W hW => by go_simp⟩) (by exact HS3.out _ N9.out) ?_
                      refine wpAnyH_done (by kernel_rfl) ?_ _
                      have HM9 := hid hM9
                      clear hM9
                      go_wp2
                      go_roundw
                      case measure => simp [slen]
                      case rel => exact ⟨A9, c9, z :: r, by rw [List.length_cons, ← HLL.out]; exact ⟨rfl, rfl, rfl⟩, by simp, by rw [List.length_cons, ← HLL.out]; omega, HM9.out, HSZ.out⟩
                  exact allH_nil
        · have hji2 : j = i := by omega
          subst hji2
          have HF := hid (show mergeX ys = st.reverse by unfold mergeX; rw [hst.out, List.take_of_length_le (by rw [HYL.out]; exact Nat.le_refl _)])
          have HM := hid hM.out
          have HLe := hid (show (mergeX ys).length = st.length by rw [HF.out, List.length_reverse])
          clear hM hst
          go_wp2
          go_ret2
          refine ⟨ys, A, cv, HYP.out, HYS.out, ?_, ?_⟩
          · rw [HLe.out]; rfl
          · rw [HLe.out, HF.out]; exact HM.out
end Go.Proofs.YtgpiapmbbnngpaaGreatDoor
