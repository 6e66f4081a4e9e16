/- works() walked: it is true. -/
import Derived.Test.YtgpiapmbbnngpaaGreatDoorPfxMx
import Derived.Test.YtgpiapmbbnngpaaGreatDoorPfxWp
import Derived.Deep.CutRange
import Derived.Test.YtgpiapmbbnngpaaGreatDoorPfxWa
namespace Go.Proofs.YtgpiapmbbnngpaaGreatDoor
open Go.RowKit Go.Lib Go.Sort

theorem Blk.rowAt {w : World} {g : Nat} {t : TypeId} {cs : List Value} (hb : Blk w g t cs) : RowAt w g 0 cs := ⟨hb.lt, fun _ _ hu => by rw [Nat.zero_add]; exact hb.cell_of hu⟩
theorem blk_keep {w : World} {g : Nat} {t : TypeId} {cs : List Value} (hb : Blk w g t cs) (x : Obj) (L : Array Value) : Blk ((w.alloc x).setRow w.heap.size L) g t cs :=
  (hb.alloc x).chg ((Chg.refl [w.heap.size] _).setRow (.inl (by simp)) L) (by have := hb.lt; simp; omega)
theorem chg_new (a w : World) (h : Chg [] a w) (x : Obj) (L : Array Value) : Chg [] a ((w.alloc x).setRow w.heap.size L) := (h.alloc x).setRow (.inr h.size) L
theorem read_is {s : List UInt8} (x : PX) (h : IsP s x.v x.n x.k) (hs : s.length ≤ 100000000) (w : World) (HL : Lan w) :
    Calls Tryz.prog 12 #[.string ⟨s.toArray⟩] w fun e w' => e = .returned (.tuple #[.agg (pfx x.v x.n x.k).toArray, .int .i64 0]) ∧ Chg [] w w' := by
  refine (read_N s hs w HL).mono ?_
  rintro e w' ⟨v, n, k, er, rfl, hC, hh⟩
  rcases hh with ⟨rfl, _, hu⟩ | ⟨_, _, _, _, hu⟩
  · obtain ⟨rfl, rfl, rfl⟩ := hu _ _ _ h
    exact ⟨rfl, hC⟩
  · exact absurd h (hu _ _ _)
theorem readAddr_is {s : List UInt8} {v : Bool} {n : Nat} (h : IsA s v n) (hs : s.length ≤ 100000000) (w : World) (HL : Lan w) :
    Calls Tryz.prog 10 #[.string ⟨s.toArray⟩] w fun e w' => e = .returned (.tuple #[.agg (adr v n).toArray, .int .i64 0]) ∧ Chg [] w w' := by
  refine (readAddr_N s hs w HL).mono ?_
  rintro e w' ⟨v', n', er, rfl, hC, hh⟩
  rcases hh with ⟨rfl, _, hu⟩ | ⟨_, _, _, hu⟩
  · obtain ⟨rfl, rfl⟩ := hu _ _ h
    exact ⟨rfl, hC⟩
  · exact absurd h (hu _ _)
theorem addrText_is {v : Bool} {n : Nat} (hn : n < 2 ^ 128) (h : okA v n = true) (w : World) (HL : Lan w) :
    Calls Tryz.prog 36 #[.agg (adr v n).toArray] w fun e w' => e = .returned (.tuple #[.string ⟨(textA v n).toArray⟩, .int .i64 0]) ∧ Chg [] w w' := by
  have := addrText_N v n hn w HL
  rwa [show atxt v n = textA v n by unfold atxt; rw [if_pos h], show errA v n = 0 by unfold errA; rw [if_pos h]] at this
/-- What two prefixes merge to. -/
theorem merge_two (x y z : PX) (h : mergeR [x, y] = [z]) (g : Nat) (w : World) (hb : Blk w g 29 (pfx x.v x.n x.k ++ pfx y.v y.n y.k)) :
    Calls Tryz.prog 15 #[.slice (some ⟨g, 0, none⟩) 2 2] w fun e w' => ∃ g' o' c', e = .returned (.tuple #[.slice (some ⟨g', o', none⟩) 1 c', .int .i64 0]) ∧ 1 ≤ c' ∧ c' ≤ maxLen ∧ g' < w'.heap.size ∧ w'.rangeAt g' o' (pfx z.v z.n z.k) ∧ Chg [] w w' := by
  refine (merge_X [x, y] g 0 2 2 rfl (by omega) w (by
    have := hb.rowAt
    rwa [show pfx x.v x.n x.k ++ pfx y.v y.n y.k = rowX [x, y] by simp [rowX, PX.enc]] at this)).mono ?_
  rintro e w' ⟨ys, A, c', hp, hs, rfl, hA⟩
  have hm : mergeX ys = [z] := (merge_both hp hs).trans h
  rw [hm] at hA ⊢
  obtain ⟨g', o', c'', hv, hc1, hc2, hg⟩ := hA.own.some_ (by simp)
  injection hv with h1 _ h3
  subst h1 h3
  refine ⟨g', o', c', rfl, by simpa using hc1, hc2, hg, ?_, hA.chg⟩
  have := Own.atX hA.own (i := 0) (x := z) rfl
  simpa using this

theorem pfx_byte (v : Bool) (n : Nat) (k : Int) (i : Nat) (hi : i < 16) : (pfx v n k)[1 + i]? = some (.int .u8 (byteAt n i : Nat)) := pfx_adr v n k _ _ (adrV_byte v _ i hi)
theorem st24n {ops : Array Oper} {rest : List Oper} {o : Oper} {a : Act} {w : World} {Q : Exit → Act → World → Prop} (hgd : o.guard = none) (x y : Operand) (ho : o.op = .store 24 x y)
    (g : Nat) (v : Bool) (n : Nat) (hx : a.eval x = .pointer (some ⟨g, 0, none⟩)) (hy : a.eval y = .agg (adr v n).toArray) (t : TypeId) (old : List Value) (hb : Blk w g t old) (hl : old.length = 17)
    (h : wpList Tryz.prog ops Q rest (a.put o.dst undef) (w.setRow g (adr v n).toArray)) : wpList Tryz.prog ops Q (o :: rest) a w :=
  st24 hgd x y ho g v (byteAt n) hx hy t old hb hl h

set_option maxHeartbeats 4000000 in
set_option maxRecDepth 100000 in
theorem works_gen (x y z : PX) (n : Nat) (hx : IsP [49, 48, 46, 49, 50, 56, 46, 48, 46, 48, 47, 57] x.v x.n x.k) (hy : IsP [49, 48, 46, 48, 46, 48, 46, 48, 47, 57] y.v y.n y.k) (hm : mergeR [x, y] = [z]) (hz8 : z.k = 8) (hz10 : byteAt z.n 0 = 10)
    (hA : IsA [49, 58, 58, 50, 58, 48, 58, 48, 58, 51, 58, 52] true n) (h1 : byteAt n 1 = 1) (h15 : byteAt n 15 = 4) (w : World) (HL : Lan w) : Calls Tryz.prog 14 #[] w fun e w' => e = .returned (.bool true) ∧ Chg [] w w' := by
  have H1 := hid (fun W (hW : Lan W) => read_is x hx (by simp) W hW)
  have H2 := hid (fun W (hW : Lan W) => read_is y hy (by simp) W hW)
  have H3 := hid (fun W g hb => merge_two x y z hm g W hb)
  have H4 := hid (fun W (hW : Lan W) => readAddr_is hA (by simp) W hW)
  have H5 := hid (fun W (hW : Lan W) => addrText_is hA.1 hA.2.1 W hW)
  rw [hA.2.2] at H5
  have hLw := hid HL
  clear HL hx hy hm hA
  obtain ⟨xv, xn, xk, xo, xl⟩ := x
  obtain ⟨yv, yn, yk, yo, yl⟩ := y
  simp only at H1 H2 H3
  go_enter Tryz.func14, Tryz.ntmps14
  go_upto_region 2 with (first
    | (go_at_call 12; refine (H1.out _ hLw.out).mono ?_; rintro e c1 ⟨rfl, C1⟩)
    | (refine st29 rfl _ _ rfl c1.heap.size xv xn xk rfl rfl 29 _ (Blk.new c1 29 zpfx) rfl ?_)
    | fail)
  obtain ⟨w1, hw1⟩ : ∃ w1, w1 = (c1.alloc (.cells zpfx 29)).setRow c1.heap.size (pfx xv xn xk).toArray := ⟨_, rfl⟩
  obtain ⟨g1, hg1⟩ : ∃ g1, g1 = c1.heap.size := ⟨_, rfl⟩
  have P1 : Blk w1 g1 29 (pfx xv xn xk) := by rw [hw1, hg1]; exact (Blk.new c1 29 zpfx).row _
  have D1 : Chg [] w w1 := by rw [hw1]; exact chg_new _ _ C1 _ _
  unfold zpfx at hw1
  rw [← hw1, ← hg1]
  clear hw1 hg1 C1 H1
  have L1 := hid (hLw.out.chg0 D1)
  have P1 := hid P1
  have D1 := hid D1
  go_upto_region 3 with (first
    | (go_at_call 12; refine (H2.out _ L1.out).mono ?_; rintro e c2 ⟨rfl, C2⟩)
    | (refine st29 rfl _ _ rfl c2.heap.size yv yn yk rfl rfl 29 _ (Blk.new c2 29 zpfx) rfl ?_)
    | fail)
  obtain ⟨w2, hw2⟩ : ∃ w2, w2 = (c2.alloc (.cells zpfx 29)).setRow c2.heap.size (pfx yv yn yk).toArray := ⟨_, rfl⟩
  obtain ⟨g2, hg2⟩ : ∃ g2, g2 = c2.heap.size := ⟨_, rfl⟩
  have P2 : Blk w2 g2 29 (pfx yv yn yk) := by rw [hw2, hg2]; exact (Blk.new c2 29 zpfx).row _
  have Q2 : Blk w2 g1 29 (pfx xv xn xk) := by rw [hw2]; exact blk_keep (P1.out.chg C2 (by simp)) _ _
  have D2 : Chg [] w w2 := by rw [hw2]; exact chg_new _ _ (D1.out.trans C2) _ _
  unfold zpfx at hw2
  rw [← hw2, ← hg2]
  clear hw2 hg2 C2 H2 P1 D1 L1
  have P2 := hid P2
  have Q2 := hid Q2
  have D2 := hid D2
  go_upto_region 4 with (first
    | (go_at_call 15; refine (H3.out _ _ (Blk.new w2 29 (pfx xv xn xk ++ pfx yv yn yk).toArray)).mono ?_; rintro e c3 ⟨g3, o3, k3, rfl, k31, k32, G3, R3, C3⟩)
    | (refine ld29 rfl _ rfl g1 rfl 29 xv xn xk Q2.out ?_)
    | (refine ld29 rfl _ rfl g2 rfl 29 yv yn yk P2.out ?_)
    | (refine bs34b rfl _ _ rfl xv xn xk yv yn yk rfl rfl ?_)
    | fail)
  have D3 := hid ((D2.out.alloc _).trans C3)
  have R3 := hid R3
  have G3 := hid G3
  have L3 := hid (hLw.out.chg0 D3.out)
  clear C3 D2 P2 Q2 H3
  go_upto_region 5 with (first
    | (go_at_call 10; refine (H4.out _ L3.out).mono ?_; rintro e c4 ⟨rfl, C4⟩)
    | (refine st24n rfl _ _ rfl c4.heap.size true n rfl rfl 24 _ (Blk.new c4 24 zadr) rfl ?_)
    | fail)
  obtain ⟨w4, hw4⟩ : ∃ w4, w4 = (c4.alloc (.cells zadr 24)).setRow c4.heap.size (adr true n).toArray := ⟨_, rfl⟩
  obtain ⟨g4, hg4⟩ : ∃ g4, g4 = c4.heap.size := ⟨_, rfl⟩
  have P4 : Blk w4 g4 24 (adr true n) := by rw [hw4, hg4]; exact (Blk.new c4 24 zadr).row _
  have D34 : Chg [] c3 w4 := by rw [hw4]; exact chg_new _ _ C4 _ _
  have R4 := hid (range_chg R3.out D34 G3.out (by simp))
  have G4 := hid (Nat.lt_of_lt_of_le G3.out D34.size)
  have D4 := hid (D3.out.trans D34)
  unfold zadr at hw4
  rw [← hw4, ← hg4]
  clear hw4 hg4 C4 H4 D34 R3 G3 D3 L3
  have P4 := hid P4
  have L4 := hid (hLw.out.chg0 D4.out)
  go_upto_region 6 with (first
    | (go_at_call 36; refine (H5.out _ L4.out).mono ?_; rintro e c5 ⟨rfl, C5⟩)
    | (refine ld24n rfl _ rfl g4 rfl 24 true n P4.out ?_)
    | fail)
  have D5 := hid (D4.out.trans C5)
  have R5 := range_chg R4.out C5 G4.out (by simp)
  have P5 := P4.out.chg C5 (by simp)
  have x1 := P5.cell_of (adrV_byte true (byteAt n) 1 (by omega))
  have x15 := P5.cell_of (adrV_byte true (byteAt n) 15 (by omega))
  have z17 := R5 17 _ (pfx_bits z.v z.n z.k)
  have z1 := R5 1 _ (pfx_byte z.v z.n z.k 0 (by omega))
  rw [h1] at x1
  rw [h15] at x15
  rw [hz10] at z1
  rw [hz8] at z17
  clear P5 R5 C5 L4 P4 D4 G4 R4 H5 hLw
  go_wp2
  go_ret
  exact ⟨rfl, D5.out⟩
theorem wX_1 : byteAt wX 1 = 1 := by decide +kernel
theorem wX_15 : byteAt wX 15 = 4 := by decide +kernel
theorem wC_0 : byteAt wC.n 0 = 10 := by decide +kernel
theorem works_N (w : World) (HL : Lan w) : Calls Tryz.prog 14 #[] w fun e w' => e = .returned (.bool true) ∧ Chg [] w w' :=
  works_gen wA wB wC wX isP_A isP_B works_merge rfl wC_0 isA_X wX_1 wX_15 w HL
end Go.Proofs.YtgpiapmbbnngpaaGreatDoor
