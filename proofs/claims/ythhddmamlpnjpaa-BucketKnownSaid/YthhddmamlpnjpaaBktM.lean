/- The bucket's full, walked: over rising ticks, is a stretch too full? -/
import Derived.Test.YthhddmamlpnjpaaBktL
import Derived.Test.YthhddmamlpnjpaaBktX
namespace Go.Proofs.Ythhddmamlpnjpaa
open Go.RowKit Go.Lib Go.Sort

theorem hiW_small {A : Nat} (h : A < 18446744073709551616) : hiW A = 0 := by unfold hiW; omega
theorem above_W0 (m f : Nat) (hf : f < 18446744073709551616) (W : World) :
    Calls Try.prog 40 #[.agg #[.int .u64 (hiW m : Int), .int .u64 (loW m : Int)], .agg #[.int .u64 0, .int .u64 (f : Int)]] W fun e w' => e = .returned (.bool (decide (f < m))) ∧ Chg [] W w' := by
  have h := above_any (hiW m) (loW m) 0 f W (loW_lt m) hf
  rw [two_W, show two 0 f = f by unfold two; omega] at h
  exact h
theorem times_W (a b : Nat) (W : World) (ha : a < 18446744073709551616) (hb : b < 18446744073709551616) :
    Calls Try.prog 38 #[.int .u64 (a : Int), .int .u64 (b : Int)] W fun e w' => e = .returned (.agg #[.int .u64 (hiW (a * b) : Int), .int .u64 (loW (a * b) : Int)]) ∧ Chg [] W w' :=
  (times_any a b W ha hb).mono fun _ _ h => wide_det h
def WideAt (W : World) (g m : Nat) : Prop := Blk W g 65 [.int .u64 (hiW m : Int), .int .u64 (loW m : Int)]
theorem add_W (g m v : Nat) (w : World) (hb : WideAt w g m) (h1 : m + v < W2) :
    Calls Try.prog 39 #[.pointer (some ⟨g, 0, none⟩), .agg #[.int .u64 (hiW v : Int), .int .u64 (loW v : Int)]] w fun e w' => e = .returned (.tuple #[]) ∧ WideAt w' g (m + v) ∧ Chg [g] w w' := by
  refine (add_any g (hiW m) (loW m) (hiW v) (loW v) w hb (hiW_lt (by omega)) (loW_lt m) (hiW_lt (by omega)) (loW_lt v)).mono ?_
  rintro e w' ⟨rfl, h, l, hB, _, hl, h2, hC⟩
  rw [two_W, two_W] at h2
  have h3 : two h l = m + v := by rw [h2]; unfold W2 at h1; exact Nat.mod_eq_of_lt h1
  obtain ⟨e1, e2⟩ := W_of_two (h := h) hl
  rw [h3] at e1 e2
  exact ⟨rfl, by unfold WideAt; rw [e1, e2]; exact hB, hC⟩
theorem sub_W0 (g m f : Nat) (w : World) (hb : WideAt w g m) (h1 : m < W2) (hf : f < 18446744073709551616) (hle : f ≤ m) :
    Calls Try.prog 48 #[.pointer (some ⟨g, 0, none⟩), .agg #[.int .u64 0, .int .u64 (f : Int)]] w fun e w' => e = .returned (.tuple #[]) ∧ WideAt w' g (m - f) ∧ Chg [g] w w' := by
  have t : two 0 f = f := by unfold two; omega
  refine (sub_any g (hiW m) (loW m) 0 f w hb (hiW_lt h1) (loW_lt m) (by omega) hf (by rw [two_W, t]; exact hle)).mono ?_
  rintro e w' ⟨rfl, h, l, hB, _, hl, h2, hC⟩
  rw [two_W, t] at h2
  obtain ⟨e1, e2⟩ := W_of_two (h := h) hl
  rw [h2] at e1 e2
  exact ⟨rfl, by unfold WideAt; rw [e1, e2]; exact hB, hC⟩

/-- What full keeps in memory. -/
structure FullW (w : World) (g p q r m rq : Nat) : Prop where
  b : BoxB w g p q r
  m : WideAt w (g + 1) m
  z : Blk w (g + 1 + 1) 65 [.int .u64 0, .int .u64 (rq : Int)]
theorem FullW.chg {w w' : World} {g p q r m rq : Nat} (h : FullW w g p q r m rq) (hc : Chg [] w w') : FullW w' g p q r m rq :=
  ⟨h.b.chg hc, Blk.chg h.m hc (by simp), h.z.chg hc (by simp)⟩
theorem FullW.upd {w w' : World} {g p q r m m' rq : Nat} (h : FullW w g p q r m rq) (hc : Chg [g + 1] w w') (hm : WideAt w' (g + 1) m') : FullW w' g p q r m' rq :=
  ⟨Blk.chg h.b hc (by simp), hm, h.z.chg hc (by simp)⟩

theorem FullW.alloc {w : World} {g p q r m rq : Nat} (h : FullW w g p q r m rq) (o : Obj) : FullW (w.alloc o) g p q r m rq := h.chg ((Chg.refl [] w).alloc o)
/-- .. with the ask and what has flown. -/
structure FullX (w : World) (g p q r m rq gx x y f : Nat) : Prop where
  fw : FullW w g p q r m rq
  x : Blk w gx 40 [.int .u64 (x : Int), .int .u64 (y : Int)]
  fl : Blk w (gx + 1) 65 [.int .u64 0, .int .u64 (f : Int)]
  lt : g + 1 + 1 < gx
theorem FullX.chg {w w' : World} {g p q r m rq gx x y f : Nat} (h : FullX w g p q r m rq gx x y f) (hc : Chg [] w w') : FullX w' g p q r m rq gx x y f :=
  ⟨h.fw.chg hc, h.x.chg hc (by simp), h.fl.chg hc (by simp), h.lt⟩
theorem FullX.upd {w w' : World} {g p q r m m' rq gx x y f : Nat} (h : FullX w g p q r m rq gx x y f) (hc : Chg [g + 1] w w') (hm : WideAt w' (g + 1) m') : FullX w' g p q r m' rq gx x y f :=
  ⟨h.fw.upd hc hm, h.x.chg hc (by have := h.lt; simp; omega), h.fl.chg hc (by have := h.lt; simp; omega), h.lt⟩
theorem FullX.start {w : World} {g p q r m rq gx : Nat} (h : FullW w g p q r m rq) (hs : w.heap.size = gx) (x y f : Nat) : FullX ((w.alloc (.cells #[.int .u64 (x : Int), .int .u64 (y : Int)] 40)).alloc (.cells #[.int .u64 0, .int .u64 (f : Int)] 65)) g p q r m rq gx x y f :=
  ⟨(h.alloc _).alloc _, (Blk.new_at w 40 #[.int .u64 (x : Int), .int .u64 (y : Int)] hs).alloc _, Blk.new_at _ 65 #[.int .u64 0, .int .u64 (f : Int)] (by simp [hs]), hs ▸ h.z.lt⟩
theorem FullW.zero {w : World} {g p q r m rq : Nat} (h : FullW w g p q r m rq) : FullW ((w.setCell ⟨g + 1, 0, none⟩ (.int .u64 0)).setCell ⟨g + 1, 1, none⟩ (.int .u64 0)) g p q r 0 rq :=
  h.upd (((Chg.refl [g + 1] w).setCell (.inl (by simp)) _).setCell (.inl (by simp)) _) ((Blk.set_ h.m 0 _).set_ 1 _)
theorem FullX.zero {w : World} {g p q r m rq gx x y f : Nat} (h : FullX w g p q r m rq gx x y f) : FullX ((w.setCell ⟨g + 1, 0, none⟩ (.int .u64 0)).setCell ⟨g + 1, 1, none⟩ (.int .u64 0)) g p q r 0 rq gx x y f :=
  h.upd (((Chg.refl [g + 1] w).setCell (.inl (by simp)) _).setCell (.inl (by simp)) _) ((Blk.set_ h.fw.m 0 _).set_ 1 _)

/-- Where full stands after k asks. -/
def FullAt (p q r : Nat) (L : List (Nat × Nat)) (k m last : Nat) : Prop :=
  fullGo p q r 0 0 L = fullGo p q r m last (L.drop k) ∧ m ≤ r * q ∧ last ≤ 1099511627776 ∧ (∀ y ∈ L.drop k, last ≤ y.1) ∧ (k = 0 → m = 0 ∧ last = 0)

theorem FullAt.found {p q r k m last x y d f rq : Nat} {L : List (Nat × Nat)} (h : FullAt p q r L k m last) (hdr : L.drop k = (x, y) :: L.drop (k + 1)) (hf : f = d * p) (hd : d = x - last) (hrq : rq = r * q)
    (hc : rq < m - f + y * q) : fullV p q r L = true := by
  unfold fullV
  rw [h.1, hdr]
  subst hf hd hrq
  unfold fullGo
  rw [if_pos hc]
theorem FullAt.step {p q r k m last x y d f rq : Nat} {L : List (Nat × Nat)} (h : FullAt p q r L k m last) (hdr : L.drop k = (x, y) :: L.drop (k + 1)) (hf : f = d * p) (hd : d = x - last) (hrq : rq = r * q)
    (hc : m - f + y * q ≤ rq) (hx : x ≤ 1099511627776) (hr : Rise L) : FullAt p q r L (k + 1) (m - f + y * q) x := by
  subst hf hd hrq
  refine ⟨?_, hc, hx, ?_, by omega⟩
  · rw [h.1, hdr]
    conv => lhs; unfold fullGo
    rw [if_neg (by dsimp only; omega)]
  · have h2 : Rise (L.drop k) := hr.drop
    rw [hdr] at h2
    exact (List.pairwise_cons.1 h2).1
theorem Chg.seq2 {a b c d : World} {g : Nat} (h : Chg [] a b) (h2 : Chg [g] b c) (hg : a.heap.size ≤ g) (h3 : Chg [] c d) : Chg [] a d :=
  (h.seq h2 (by intro x hx; rw [List.mem_singleton] at hx; subst hx; exact .inr hg)).trans h3

set_option maxHeartbeats 2000000 in
set_option maxRecDepth 100000 in
theorem full_any (p q r : Nat) (A : Option Addr) (n c : Nat) (L : List (Nat × Nat)) (w : World) (hO : Own w 40 2 (.slice A n c) n (askv L)) (hl : L.length = n) (hn : n ≤ 1048576) (hok : OkB p q r)
    (hts : ∀ x ∈ L, x.1 ≤ 1099511627776 ∧ x.2 ≤ bigV) (hr : Rise L) :
    Calls Try.prog 35 #[.agg #[.int .u64 (p : Int), .int .u64 (q : Int), .int .u64 (r : Int)], .slice A n c] w fun e w' => e = .returned (.bool (fullV p q r L)) ∧ Chg [] w w' := by
  obtain ⟨rq, hrq⟩ : ∃ x, x = r * q := ⟨_, rfl⟩
  have hrqb : rq ≤ 68719476736 := by rw [hrq]; exact Nat.mul_le_mul hok.2.2.2.2.2 hok.2.2.2.1
  have q1 : (r : Int) * (q : Int) = (rq : Int) := by rw [hrq]; simp
  have HRQ := hid hrq
  have HOK := hid hok
  have HO := hid hO
  have HTS := hid hts
  have HR := hid hr
  have HLN := hid hl
  have hp : p ≤ 65536 := hok.2.1
  have hq : q ≤ 65536 := hok.2.2.2.1
  have nb : (n : Int) ≤ 1048576 := by omega
  have F0 : FullW (((w.alloc (.cells #[.int .u64 (p : Int), .int .u64 (q : Int), .int .u64 (r : Int)] 24)).alloc (.cells #[.int .u64 0, .int .u64 0] 65)).alloc (.cells #[.int .u64 0, .int .u64 (rq : Int)] 65)) w.heap.size p q r 0 rq :=
    ⟨((Blk.new w 24 #[.int .u64 (p : Int), .int .u64 (q : Int), .int .u64 (r : Int)]).alloc _).alloc _, (Blk.new_at _ 65 #[.int .u64 0, .int .u64 0] (by simp)).alloc _, Blk.new_at _ 65 #[.int .u64 0, .int .u64 (rq : Int)] (by simp)⟩
  have HF0 := hid F0
  clear hrq hok hO hts hr hl F0
  go_enter Try.func35, Try.ntmps35
  go_wp2
  go_loopw [6, 19] (fun lv i wr => ∃ k m last : Nat, k ≤ n ∧ i = .int .i64 k ∧ lv = .int .u64 (last : Int) ∧ Hid (FullAt p q r L k m last) ∧ FullW wr w.heap.size p q r m rq ∧ Chg [] w wr) (fun _ i _ => n - (intOf i).toNat)
  case atStart => exact ⟨0, 0, 0, Nat.zero_le _, rfl, rfl, hid ⟨rfl, by omega, by omega, by simp, fun _ => ⟨rfl, rfl⟩⟩, HF0.out, (((Chg.refl [] w).alloc _).alloc _).alloc _⟩
  case round =>
    obtain ⟨k, m, last, hk, rfl, rfl, hA, hF, hC⟩ := hrel
    by_cases hlt : k < n
    · have hOr := HO.out.chg hC (by simp)
      obtain ⟨g, o, c1, hv, _, _, hg⟩ := hOr.some_ (by omega)
      injection hv with hAA _ hc1
      subst hAA; subst hc1
      obtain ⟨x, y, hxy⟩ := get_ask L k (by rw [HLN.out]; exact hlt)
      obtain ⟨a0, a1⟩ := hOr.ask hxy
      have hdr : L.drop k = (x, y) :: L.drop (k + 1) := by
        have h1 : k < L.length := by rw [HLN.out]; exact hlt
        have h2 := List.getElem?_eq_getElem h1
        rw [hxy] at h2
        injection h2 with h2
        rw [List.drop_eq_getElem_cons h1, ← h2]
      obtain ⟨hx, hy⟩ := HTS.out (x, y) (List.mem_of_getElem? hxy)
      dsimp only at hx hy
      have hxl : last ≤ x := hA.out.2.2.2.1 (x, y) (by rw [hdr]; simp)
      have hmb : m ≤ rq := by rw [HRQ.out]; exact hA.out.2.1
      obtain ⟨d, hd⟩ : ∃ d, d = x - last := ⟨_, rfl⟩
      obtain ⟨f, hf⟩ : ∃ f, f = d * p := ⟨_, rfl⟩
      have hfb : f ≤ 72057594037927936 := by rw [hf]; exact Nat.mul_le_mul (Nat.le_trans (by omega : d ≤ x) hx) hp
      have q2 : (x : Int) - (last : Int) = (d : Int) := by omega
      have q3 : (d : Int) * (p : Int) = (f : Int) := by rw [hf]; simp
      have hyb : y ≤ 72057594038976512 := hy
      have hyq : y * q ≤ 72057594038976512 * 65536 := Nat.mul_le_mul hyb hq
      have HAB := hid (above_W0 m f (by omega))
      have HTM := hid (fun W => times_W y q W (by omega) (by omega))
      have HAD := hid (fun W (hb : WideAt W (w.heap.size + 1) (m - f)) => add_W (w.heap.size + 1) (m - f) (y * q) W hb (by unfold W2; omega))
      have HA2 := hid (above_W0 (m - f + y * q) rq (by omega))
      have HSB := hid (fun W (hb : WideAt W (w.heap.size + 1) m) (hle : f ≤ m) => sub_W0 (w.heap.size + 1) m f W hb (by unfold W2; omega) (by omega) hle)
      have HX := hid (And.intro hxy (And.intro hdr (And.intro hx (And.intro hd (And.intro hf (And.intro hxl hmb))))))
      have b0 := hF.b.cells.1
      have b1 := hF.b.cells.2.1
      have m0 := hF.m.cell_of (i := 0) rfl
      have m1 := hF.m.cell_of (i := 1) rfl
      have e0 := hF.m.frozen 0
      have e1 := hF.m.frozen 1
      have x0 : (0 : Int) ≤ (x : Int) := by omega
      have k0 : (0 : Int) ≤ (k : Int) := by omega
      have k1 : (k : Int) < (n : Int) := by omega
      have zl := hF.z.lt
      have bl := Blk.lt hF.b
      have ml := Blk.lt hF.m
      have d1 : (d : Int) ≤ 1099511627776 := by omega
      have f1 : (f : Int) ≤ 72057594037927936 := by omega
      clear hxy hdr hd hf hyq hyb hy hx hxl
      obtain ⟨c, hc⟩ : ∃ c, c = decide (f < m) := ⟨_, rfl⟩
      rw [← hc] at HAB
      have HC := hid hc
      obtain ⟨c2, hc2⟩ : ∃ c2, c2 = decide (rq < m - f + y * q) := ⟨_, rfl⟩
      rw [← hc2] at HA2
      have HC2 := hid hc2
      have X1 := FullX.start hF rfl x y f
      have HC1 := hid ((hC.alloc (.cells #[.int .u64 (x : Int), .int .u64 (y : Int)] 40)).alloc (.cells #[.int .u64 0, .int .u64 (f : Int)] 65))
      have HFC := hid (And.intro hF hC)
      clear hc hc2 hF hC
      by_cases hk0 : k = 0
      · have hk1 : ((k : Int) == 0) = true := beq_iff_eq.2 (by omega)
        have hm0 : m - f = 0 := by have := (hA.out.2.2.2.2 hk0).1; omega
        have HM0 := hid hm0
        clear hk0 hm0
        go_wp2_with fail
        refine (HTM.out _).mono ?_
        rintro e w4 ⟨rfl, hC4⟩
        have X4 := (FullX.start (FullW.zero HFC.out.1) (gx := wr.heap.size) (by simp) x y f).chg hC4
        have C4 := hid ((((HFC.out.2.set2 (by omega) _ _).alloc _).alloc _).trans hC4)
        rw [← HM0.out] at X4
        clear hC4
        have m40 := Blk.cell_of X4.fw.m (i := 0) rfl
        go_wp2_with (go_at_call 39; refine (HAD.out _ X4.fw.m).mono ?_; rintro e w5 ⟨rfl, hm5, hC5⟩; have X5 := X4.upd hC5 hm5; have m50 := Blk.cell_of X5.fw.m (i := 0) rfl; have m51 := Blk.cell_of X5.fw.m (i := 1) rfl; have z50 := Blk.cell_of X5.fw.z (i := 0) rfl; have z51 := Blk.cell_of X5.fw.z (i := 1) rfl)
        refine (HA2.out _).mono ?_
        rintro e w6 ⟨rfl, hC6⟩
        have X6 := X5.chg hC6
        have x60 := Blk.cell_of X6.x (i := 0) rfl
        have C6 := hid (C4.out.seq2 hC5 (by omega) hC6)
        clear hC5 hC6 X4 X5 hm5
        cases c2
        · have hle : m - f + y * q ≤ rq := by have := HC2.out; simp at this; omega
          have HLE := hid hle
          clear hle
          go_wp2
          go_roundw
          case measure => simp [intOf]; omega
          case rel => exact ⟨k + 1, m - f + y * q, x, by omega, by go_num, rfl, hid (FullAt.step hA.out HX.out.2.1 HX.out.2.2.2.2.1 HX.out.2.2.2.1 HRQ.out HLE.out HX.out.2.2.1 HR.out), X6.fw, C6.out⟩
        · have hv := hid (show fullV p q r L = true from FullAt.found hA.out HX.out.2.1 HX.out.2.2.2.2.1 HX.out.2.2.2.1 HRQ.out (by have := HC2.out; simpa using this))
          go_wp2
          go_ret
          exact ⟨by rw [hv.out]; rfl, C6.out⟩
      · have hk1 : ((k : Int) == 0) = false := beq_eq_false_iff_ne.2 (by omega)
        clear hk0
        cases c
        · have hm0 : m - f = 0 := by have := HC.out; simp at this; omega
          have HM0 := hid hm0
          clear hm0
          go_wp2_with (go_at_call 40; refine (HAB.out _).mono ?_; rintro e w2 ⟨rfl, hC2⟩; have X2 := X1.chg hC2; have m20 := Blk.cell_of X2.fw.m (i := 0) rfl; have m21 := Blk.cell_of X2.fw.m (i := 1) rfl; have e20 := Blk.frozen X2.fw.m 0; have e21 := Blk.frozen X2.fw.m 1; have x20 := Blk.cell_of X2.x (i := 0) rfl; have x21 := Blk.cell_of X2.x (i := 1) rfl; have b20 := X2.fw.b.cells.1; have b21 := X2.fw.b.cells.2.1)
          refine (HTM.out _).mono ?_
          rintro e w4 ⟨rfl, hC4⟩
          have X4 := (FullX.zero X2).chg hC4
          have C4 := hid (((HC1.out.trans hC2).set2 (by omega) _ _).trans hC4)
          rw [← HM0.out] at X4
          clear hC2 hC4 X2
          have m40 := Blk.cell_of X4.fw.m (i := 0) rfl
          go_wp2_with (go_at_call 39; refine (HAD.out _ X4.fw.m).mono ?_; rintro e w5 ⟨rfl, hm5, hC5⟩; have X5 := X4.upd hC5 hm5; have m50 := Blk.cell_of X5.fw.m (i := 0) rfl; have m51 := Blk.cell_of X5.fw.m (i := 1) rfl; have z50 := Blk.cell_of X5.fw.z (i := 0) rfl; have z51 := Blk.cell_of X5.fw.z (i := 1) rfl)
          refine (HA2.out _).mono ?_
          rintro e w6 ⟨rfl, hC6⟩
          have X6 := X5.chg hC6
          have x60 := Blk.cell_of X6.x (i := 0) rfl
          have C6 := hid (C4.out.seq2 hC5 (by omega) hC6)
          clear hC5 hC6 X4 X5 hm5
          cases c2
          · have hle : m - f + y * q ≤ rq := by have := HC2.out; simp at this; omega
            have HLE := hid hle
            clear hle
            go_wp2
            go_roundw
            case measure => simp [intOf]; omega
            case rel => exact ⟨k + 1, m - f + y * q, x, by omega, by go_num, rfl, hid (FullAt.step hA.out HX.out.2.1 HX.out.2.2.2.2.1 HX.out.2.2.2.1 HRQ.out HLE.out HX.out.2.2.1 HR.out), X6.fw, C6.out⟩
          · have hv := hid (show fullV p q r L = true from FullAt.found hA.out HX.out.2.1 HX.out.2.2.2.2.1 HX.out.2.2.2.1 HRQ.out (by have := HC2.out; simpa using this))
            go_wp2
            go_ret
            exact ⟨by rw [hv.out]; rfl, C6.out⟩
        · have hm0 : f ≤ m := by have := HC.out; simp at this; omega
          have HM0 := hid hm0
          clear hm0
          go_wp2_with (first
            | (go_at_call 40; refine (HAB.out _).mono ?_; rintro e w2 ⟨rfl, hC2⟩; have X2 := X1.chg hC2; have f20 := Blk.cell_of X2.fl (i := 0) rfl; have f21 := Blk.cell_of X2.fl (i := 1) rfl)
            | (go_at_call 48; refine (HSB.out _ X2.fw.m HM0.out).mono ?_; rintro e w3 ⟨rfl, hm3, hC3⟩; have X3 := X2.upd hC3 hm3; have x30 := Blk.cell_of X3.x (i := 0) rfl; have x31 := Blk.cell_of X3.x (i := 1) rfl; have b30 := X3.fw.b.cells.1; have b31 := X3.fw.b.cells.2.1))
          refine (HTM.out _).mono ?_
          rintro e w4 ⟨rfl, hC4⟩
          have X4 := X3.chg hC4
          have C4 := hid ((HC1.out.trans hC2).seq2 hC3 (by omega) hC4)
          clear hC2 hC3 hC4 X2 X3
          have m40 := Blk.cell_of X4.fw.m (i := 0) rfl
          go_wp2_with (go_at_call 39; refine (HAD.out _ X4.fw.m).mono ?_; rintro e w5 ⟨rfl, hm5, hC5⟩; have X5 := X4.upd hC5 hm5; have m50 := Blk.cell_of X5.fw.m (i := 0) rfl; have m51 := Blk.cell_of X5.fw.m (i := 1) rfl; have z50 := Blk.cell_of X5.fw.z (i := 0) rfl; have z51 := Blk.cell_of X5.fw.z (i := 1) rfl)
          refine (HA2.out _).mono ?_
          rintro e w6 ⟨rfl, hC6⟩
          have X6 := X5.chg hC6
          have x60 := Blk.cell_of X6.x (i := 0) rfl
          have C6 := hid (C4.out.seq2 hC5 (by omega) hC6)
          clear hC5 hC6 X4 X5 hm5
          cases c2
          · have hle : m - f + y * q ≤ rq := by have := HC2.out; simp at this; omega
            have HLE := hid hle
            clear hle
            go_wp2
            go_roundw
            case measure => simp [intOf]; omega
            case rel => exact ⟨k + 1, m - f + y * q, x, by omega, by go_num, rfl, hid (FullAt.step hA.out HX.out.2.1 HX.out.2.2.2.2.1 HX.out.2.2.2.1 HRQ.out HLE.out HX.out.2.2.1 HR.out), X6.fw, C6.out⟩
          · have hv := hid (show fullV p q r L = true from FullAt.found hA.out HX.out.2.1 HX.out.2.2.2.2.1 HX.out.2.2.2.1 HRQ.out (by have := HC2.out; simpa using this))
            go_wp2
            go_ret
            exact ⟨by rw [hv.out]; rfl, C6.out⟩
    · obtain rfl : k = n := by omega
      have hv := hid (show fullV p q r L = false by
        have := hA.out.1
        rw [List.drop_eq_nil_of_le (by rw [HLN.out]; omega)] at this
        exact this)
      go_wp2
      go_ret
      exact ⟨by rw [hv.out]; rfl, hC⟩
end Go.Proofs.Ythhddmamlpnjpaa
