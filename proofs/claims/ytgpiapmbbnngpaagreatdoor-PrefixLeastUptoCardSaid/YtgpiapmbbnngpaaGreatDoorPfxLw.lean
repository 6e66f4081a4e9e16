/- PrefixLeast's body, walked by reckoning. -/
import Derived.Test.YtgpiapmbbnngpaaGreatDoorPfxLp
import Derived.Test.YtgpiapmbbnngpaaGreatDoorFld
import Derived.Test.YtgpiapmbbnngpaaGreatDoorSxM
import Derived.Test.YtgpiapmbbnngpaaGreatDoorPfxOl
namespace Go.Proofs.YtgpiapmbbnngpaaGreatDoor
open Go.RowKit Go.Lib Go.Sort

theorem adr_row (p : RP) (c : Nat) (hc : c < 17) : (RP.enc p)[c]? = (adr p.1 p.2.1)[c]? := by
  show (adr p.1 p.2.1 ++ [_])[c]? = _
  rw [List.getElem?_append_left (by rw [adr_length]; exact hc)]
set_option maxRecDepth 100000 in
/-- An element of a row of prefixes: its address, its bits. -/
theorem Rd.fieldsP {w : World} {s : Value} {n : Nat} {L : List RP} (h : Rd w 18 s n (rowP L)) {i : Nat} {x : RP} (hx : L[i]? = some x) (hn : L.length = n) :
    ∃ p p0 p1, (∀ W, Chg [] w W → (Instr.indexAt 34 s (.int .i64 (i : Int))).run Tryz.prog W = .ok p W) ∧ (∀ W, Chg [] w W → (Instr.fieldAt 29 p 0).run Tryz.prog W = .ok p0 W) ∧ (∀ W, Chg [] w W → (Instr.loadAt 24 p0).run Tryz.prog W = .ok (.agg (adr x.1 x.2.1).toArray) W) ∧
      (∀ W, Chg [] w W → (Instr.fieldAt 29 p 1).run Tryz.prog W = .ok p1 W) ∧ ∀ W, Chg [] w W → (Instr.loadAt 3 p1).run Tryz.prog W = .ok (.int .i64 x.2.2) W := by
  obtain ⟨_, A, c, rfl, h3⟩ := h
  have hi : i < n := by rw [← hn]; exact (List.getElem?_eq_some_iff.1 hx).1
  obtain ⟨g, o, rfl, hr⟩ := h3 (by omega)
  have cell : ∀ W, Chg [] w W → ∀ c (u : Value), c < 18 → (RP.enc x)[c]? = some u → W.cell? ⟨g, o + i * 18 + c, none⟩ = some u := fun W hW c u hc hu => by
    have := (hr.chg hW (by simp)).2 (i * 18 + c) u (by
      have := flat_at (f := RP.enc) (S := 18) (fun x => pfx_length _ _ _) hx hc
      rw [show rowP L = L.flatMap RP.enc from rfl, this, hu])
    rwa [← Nat.add_assoc] at this
  refine ⟨.pointer (some ⟨g, o + i * 18, none⟩), .pointer (some ⟨g, o + i * 18, none⟩), .pointer (some ⟨g, o + i * 18 + 17, none⟩), fun W hW => ?_, fun W hW => ?_, fun W hW => ?_, fun W hW => ?_, fun W hW => ?_⟩
  · have hb : (0 : Int) ≤ (i : Int) ∧ (i : Int) < (n : Int) := by omega
    have hs : (Tryz.prog.info? 29).map (·.size) = some 18 := size29
    cases hq : Tryz.prog.info? 29 with
    | none => rw [hq] at hs; cases hs
    | some inf =>
      rw [hq] at hs
      have hs : inf.size = 18 := by simpa using hs
      simp [Instr.indexAt, run_underlying Tryz.underlying34, asIntOf, hi, sizeOf, typeInfo, hq, hs, Addr.add_lit]
  · exact run_field Tryz.underlying29 (f := 0) rfl (k := 16) (by kernel_rfl) W
  · refine run_loadAt_mid (P := Tryz.prog) W g (o + i * 18) 24 (adr x.1 x.2.1) _ (fun c u hu => ?_) Tryz.underlying24 rfl (size24.trans (by rw [adr_length]))
    have hc : c < 17 := by have := (List.getElem?_eq_some_iff.1 hu).1; rwa [adr_length] at this
    exact cell W hW c u (by omega) (by rw [adr_row x c hc]; exact hu)
  · exact run_field Tryz.underlying29 (f := 1) rfl (k := 0) (by kernel_rfl) W
  · exact run_one Tryz.underlying3 rfl (cell W hW 17 _ (by decide) (by show (adr x.1 x.2.1 ++ [_])[17]? = _; rw [List.getElem?_append_right (by rw [adr_length]; decide), adr_length]; rfl))
def packN (f : Nat → Nat) : Nat → Nat
  | 0 => 0
  | j + 1 => 256 * packN f j + f j
theorem pack_spec (f : Nat → Nat) (hf : ∀ i, f i < 256) : ∀ j, packN f j < 2 ^ (8 * j) ∧ ∀ i, i < j → packN f j / 2 ^ (8 * (j - 1 - i)) % 256 = f i
  | 0 => ⟨by show 0 < 1; decide, fun i hi => by omega⟩
  | j + 1 => by
    obtain ⟨hn, hb⟩ := pack_spec f hf j
    show 256 * packN f j + f j < _ ∧ ∀ i, i < j + 1 → (256 * packN f j + f j) / _ % 256 = f i
    refine ⟨?_, fun i hi => ?_⟩
    · have e : 2 ^ (8 * (j + 1)) = 256 * 2 ^ (8 * j) := by rw [show 8 * (j + 1) = 8 * j + 8 by omega, Nat.pow_add]; omega
      have := hf j
      omega
    · by_cases h : i = j
      · subst h
        have := hf i
        simp; omega
      · have h2 := hb i (by omega)
        rw [show 8 * (j + 1 - 1 - i) = 8 + 8 * (j - 1 - i) by omega, Nat.pow_add, ← Nat.div_div_eq_div_mul]
        rw [show (256 * packN f j + f j) / 2 ^ 8 = packN f j by have := hf j; omega]
        exact h2
theorem pack_adr (v : Bool) (f : Nat → Nat) (hf : ∀ j, f j < 256) : packN f 16 < 2 ^ 128 ∧ adrV v f = adr v (packN f 16) := by
  obtain ⟨h1, h2⟩ := pack_spec f hf 16
  refine ⟨h1, adrV_ext v fun j hj => ?_⟩
  have := h2 j hj
  unfold byteAt
  rw [show 120 - 8 * j = 8 * (16 - 1 - j) by omega]
  exact this.symm
/-- What the addresses behind a prefix's own are. -/
def laA (x : PX) : Nat := packN (laS x (wid x.v - x.k)) 16
theorem laA_lt (x : PX) : laA x < 2 ^ 128 := (pack_adr x.v _ (laS_lt x _)).1
theorem laA_eq (x : PX) : adrV x.v (laS x (wid x.v - x.k)) = adr x.v (laA x) := (pack_adr x.v _ (laS_lt x _)).2
theorem laT_lt (x : PX) : ∀ j, laT x j < 256 := laEnd_lt _ _ _ _ (laS_lt x _)
def laB (x : PX) : Nat := packN (laT x) 16
theorem laB_lt (x : PX) : laB x < 2 ^ 128 := (pack_adr x.v _ (laT_lt x)).1
theorem laB_eq (x : PX) : adrV x.v (laT x) = adr x.v (laB x) := (pack_adr x.v _ (laT_lt x)).2
theorem last_A (x : PX) (w : World) : Calls Tryz.prog 26 #[.agg (pfx x.v x.n x.k).toArray] w fun e w' => e = .returned (.tuple #[.agg (adr x.v (laA x)).toArray, .agg (adr x.v (laB x)).toArray]) ∧ Chg [] w w' := by
  have := last_N x w
  rw [laA_eq, laB_eq] at this
  exact this
def laP (x : PX) : List (Bool × Nat) := [(x.v, x.n), (x.v, laA x), (x.v, laB x)]
def laL (M : List (Bool × Nat)) (X : List PX) (i : Nat) : List (Bool × Nat) := M ++ (X.take i).flatMap laP
theorem laL_succ {M : List (Bool × Nat)} {X : List PX} {i : Nat} {x : PX} (h : X[i]? = some x) : laL M X (i + 1) = laL M X i ++ laP x := by
  unfold laL
  have hi := (List.getElem?_eq_some_iff.1 h).1
  rw [List.take_succ_eq_append_getElem hi, (List.getElem?_eq_some_iff.1 h).2]
  simp
theorem laL_len (M : List (Bool × Nat)) (X : List PX) : ∀ i, i ≤ X.length → (laL M X i).length = M.length + i * 3
  | 0, _ => by simp [laL]
  | i + 1, h => by
    obtain ⟨x, hx⟩ : ∃ x, X[i]? = some x := ⟨_, List.getElem?_eq_getElem (by omega)⟩
    rw [laL_succ hx, List.length_append, laL_len M X i (by omega)]
    show _ + 3 = _
    omega
theorem laL_good {M : List (Bool × Nat)} (hM : ∀ q ∈ M, goodA q) (X : List PX) (i : Nat) : ∀ q ∈ laL M X i, q.2 < 2 ^ 128 := fun q hq => by
  unfold laL at hq
  rcases List.mem_append.1 hq with hq | hq
  · exact hM q hq
  · rw [List.mem_flatMap] at hq
    obtain ⟨x, _, hx⟩ := hq
    simp only [laP, List.mem_cons, List.not_mem_nil, or_false] at hx
    rcases hx with rfl | rfl | rfl
    · exact x.lt
    · exact laA_lt x
    · exact laB_lt x
theorem encA_len (L : List (Bool × Nat)) : (L.flatMap encA).length = L.length * 17 := flat_len (f := encA) (S := 17) (fun _x => adr_length _ _) L
theorem adr_ones (v : Bool) (n : Nat) : ∀ u ∈ adr v n, u.oneCell' = true := fun u hu => by
  have := adrV_ones v (byteAt n)
  rw [Array.all_eq_true'] at this
  exact this u (by simpa [adr] using hu)
theorem encA_ones (L : List (Bool × Nat)) : ∀ u ∈ L.flatMap encA, u.oneCell' = true := fun u hu => by
  rw [List.mem_flatMap] at hu
  obtain ⟨x, _, hx⟩ := hu
  exact adr_ones x.1 x.2 u hx
theorem encA_at {L : List (Bool × Nat)} {i : Nat} {q : Bool × Nat} (h : L[i]? = some q) : ((L.flatMap encA).drop (i * 17)).take 17 = adr q.1 q.2 := by
  apply List.ext_getElem?
  intro c
  by_cases hc : c < 17
  · rw [List.getElem?_take_of_lt hc, List.getElem?_drop, flat_at (f := encA) (S := 17) (fun x => adr_length _ _) h hc]
    rfl
  · rw [List.getElem?_take_eq_none (by omega), List.getElem?_eq_none (by rw [adr_length]; omega)]
theorem rowX_bits {O : List PX} {k : Nat} {y : PX} (h : O[k]? = some y) : (rowX O)[k * 18 + 17]? = some (.int .i64 (y.k : Int)) := by
  rw [rowX_get O k y 17 h (by decide)]
  show (adr y.v y.n ++ [_])[17]? = _
  rw [List.getElem?_append_right (by rw [adr_length]; decide), adr_length]
  rfl
theorem rowX_adr {O : List PX} {k : Nat} {y : PX} (h : O[k]? = some y) : ((rowX O).drop (k * 18)).take 17 = adr y.v y.n := by
  have := rowX_at h
  have e : ((rowX O).drop (k * 18)).take 17 = (((rowX O).drop (k * 18)).take 18).take 17 := by rw [List.take_take]; rfl
  rw [e, this]
  show (adr y.v y.n ++ [_]).take 17 = _
  rw [List.take_append_of_le_length (by rw [adr_length]; decide), List.take_of_length_le (by rw [adr_length]; decide)]
def lsFr1 (s t : Value) (i : Nat) : List (Nat × Sx.SV) := [(0, .val s), (1, .val t), (5, .own 0), (6, .val (.int .i64 (i : Int)))]
def lsOf (L : List RP) (i : Nat) : List PX := (L.take i).map lsX
def rX (O : List PX) : Sx.Row := ⟨29, .own 18 O.length (rowX O)⟩
def rA (M : List (Bool × Nat)) : Sx.Row := ⟨24, .own 17 M.length (M.flatMap encA)⟩
theorem lsOf_succ {L : List RP} {i : Nat} {x : RP} (h : L[i]? = some x) : lsOf L (i + 1) = lsOf L i ++ [lsX x] := by
  unfold lsOf
  have hi := (List.getElem?_eq_some_iff.1 h).1
  rw [List.take_succ_eq_append_getElem hi, (List.getElem?_eq_some_iff.1 h).2]
  simp
theorem lsOf_len (L : List RP) (i : Nat) (h : i ≤ L.length) : (lsOf L i).length = i := by
  unfold lsOf
  rw [List.length_map, List.length_take]
  omega
set_option maxRecDepth 100000 in
theorem ls_1 (L : List RP) (A : Option Addr) (c : Nat) (t : Value) (hn : L.length ≤ 9223372036854775807) (hg : ∀ q ∈ L, goodP q) (w : World) (h : Rd w 18 (.slice A L.length c) L.length (rowP L)) (i : Nat) (hi : i ≤ min L.length 40) : ∃ H' L', Sx.ex Tryz.prog 289 w (Sx.bodyOf Tryz.f6 0) H' L' ⟨(lsFr1 (.slice A L.length c) t) i, [rX (lsOf L i)]⟩
    (Sx.loopK (fun i => i ≤ min L.length 40) (lsFr1 (.slice A L.length c) t) (fun i => [rX (lsOf L i)]) (fun i => i + 1) (fun i => L.length + 2 - i) (fun (_ : Unit) => True) (fun _ => [(1, .val t), (5, .own 0)]) (fun _ => [rX (lsOf L (min L.length 40))]) (fun _ => ()) (Sx.outId (Sx.bodyOf Tryz.f6 0) - 1) (Sx.atEnd Tryz.prog Tryz.f6 (fun v => v = .bool true) .ret) i) := by
  by_cases hlt : i < min L.length 40
  · obtain ⟨x, hx⟩ : ∃ x, L[i]? = some x := ⟨_, List.getElem?_eq_getElem (by omega)⟩
    obtain ⟨h1, h2, h3⟩ := hg x (List.mem_of_getElem? hx)
    obtain ⟨p, p0, p1, q1, q2, q3, q4, q5⟩ := h.fieldsP hx rfl
    have c42 := q1
    have c43 := q2
    have c44 := q3
    have c48 := q1
    have c49 := q4
    have c50 := q5
    have c53 := q1
    have c54 := q2
    have c55 := q3
    have c32 : Value.bool (decide ((i : Int) < (L.length : Int))) = .bool true := by rw [decide_eq_true (by omega)]
    have c35 : Value.bool (decide ((i : Int) < 40)) = .bool true := by rw [decide_eq_true (by omega)]
    have c45 := fun W (_ : Chg [] w W) => right_N x.1 x.2.1 W
    have c56 := fun W (_ : Chg [] w W) => width2_N x.1 x.2.1 W
    have hw128 := wid_le x.1
    have c57 := fun W (_ : Chg [] w W) => (within_N x.2.2 (wid x.1) hw128 ⟨h2, h3⟩ W).mono fun e w' (h : e = .returned (.int .i64 (withinI x.2.2 (wid x.1))) ∧ w' = W) => (show e = .returned (.int .i64 (withinI x.2.2 (wid x.1))) ∧ Chg [] W w' from ⟨h.1, h.2 ▸ Chg.refl _ _⟩)
    have c58 := fun W (_ : Chg [] w W) => of_N x.1 (maskN x.2.1 (wid x.1)) (withinI x.2.2 (wid x.1)) (mask_lt _ _ h1) W
    rw [lsX_of x h1] at c58
    have hl := lsOf_len L i (by omega)
    have c66 : True ∧ (pfx (lsX x).v (lsX x).n (lsX x).k).length = 1 * 18 ∧ (∀ (u : Value), u ∈ pfx (lsX x).v (lsX x).n (lsX x).k → u.oneCell' = true) ∧ (lsOf L i).length + 1 ≤ maxLen ∧ ((lsOf L i).length + 1) * 32 ≤ 140737488355328 :=
      ⟨trivial, by rw [pfx_length], enc_ones (lsX x), by unfold maxLen; omega, by omega⟩
    have c38 : Value.int .i64 (IntKind.i64.wrap ((i : Int) + 1)) = .int .i64 ((i + 1 : Nat) : Int) := iw (w64 (by omega) (by omega))
    have h0 : i + 1 ≤ min L.length 40 := hlt
    have h1 : L.length + 2 - (i + 1) < L.length + 2 - i := by omega
    have h2 : [((0 : Nat), Sx.SV.val (.slice A L.length c)), (1, .val t), (5, .own 3), (6, .val (.int .i64 ((i + 1 : Nat) : Int)))] = [((0 : Nat), Sx.SV.val (.slice A L.length c)), (1, .val t), (5, .own 3), (6, .val (.int .i64 ((i + 1 : Nat) : Int)))] := rfl
    have z3 : [(⟨29, .own 18 ((lsOf L i).length + 1) (rowX (lsOf L i) ++ pfx (lsX x).v (lsX x).n (lsX x).k)⟩ : Sx.Row)] = [rX (lsOf L (i + 1))] := by
      unfold rX
      rw [lsOf_succ hx]
      simp [rowX, PX.enc]
    refine ⟨[(32, .is (.bool true)), (35, .is (.bool true)), (42, .any p), (43, .any p0), (44, .any (.agg (adr x.1 x.2.1).toArray)), (45, .call (.agg (adr x.1 (maskN x.2.1 (wid x.1))).toArray)), (48, .any p), (49, .any p1), (50, .any (.int .i64 x.2.2)), (53, .any p), (54, .any p0), (55, .any (.agg (adr x.1 x.2.1).toArray)), (56, .call (.int .i64 (wid x.1 : Nat))), (57, .call (.int .i64 (withinI x.2.2 (wid x.1)))), (58, .call (.tuple #[.agg (pfx (lsX x).v (lsX x).n (lsX x).k).toArray, .int .i64 0])), (38, .is (.int .i64 ((i + 1 : Nat) : Int)))], [], ?_⟩
    exact Eq.mp (by kernel_rfl) (And.intro c32 (And.intro c35 (And.intro c42 (And.intro c43 (And.intro c44 (And.intro c45 (And.intro c48 (And.intro c49 (And.intro c50 (And.intro c53 (And.intro c54 (And.intro c55 (And.intro c56 (And.intro c57 (And.intro c58 (And.intro c66 (And.intro c38 (And.intro h0 (And.intro h1 (And.intro h2 z3))))))))))))))))))))
  · have hi' : i = min L.length 40 := by omega
    have h0 : True := trivial
    have h1 : [((1 : Nat), Sx.SV.val t), (5, .own 0)] = [((1 : Nat), Sx.SV.val t), (5, .own 0)] := rfl
    have z2 : [rX (lsOf L i)] = [rX (lsOf L (min L.length 40))] := by rw [hi']
    by_cases hl : i < L.length
    · have c32 : Value.bool (decide ((i : Int) < (L.length : Int))) = .bool true := by rw [decide_eq_true (by omega)]
      have c35 : Value.bool (decide ((i : Int) < 40)) = .bool false := by rw [decide_eq_false (by omega)]
      refine ⟨[(32, .is (.bool true)), (35, .is (.bool false))], [], ?_⟩
      exact Eq.mp (by kernel_rfl) (And.intro c32 (And.intro c35 (And.intro h0 (And.intro h1 z2))))
    · have c32 : Value.bool (decide ((i : Int) < (L.length : Int))) = .bool false := by rw [decide_eq_false (by omega)]
      refine ⟨[(32, .is (.bool false))], [], ?_⟩
      exact Eq.mp (by kernel_rfl) (And.intro c32 (And.intro h0 (And.intro h1 z2)))
def lsFr2 (i : Nat) : List (Nat × Sx.SV) := [(5, .own 0), (9, .own 1), (12, .own 2), (13, .val (.int .i64 (i : Int)))]
def lsFr2o : List (Nat × Sx.SV) := [(5, .own 0), (9, .own 1), (12, .own 2)]
set_option maxRecDepth 100000 in
theorem ls_2 (X Y : List PX) (M : List (Bool × Nat)) (hX : X.length ≤ 40) (hM : M.length ≤ 40) (w : World) (i : Nat) (hi : i ≤ X.length) : ∃ H' L', Sx.ex Tryz.prog 289 w (Sx.bodyOf Tryz.f6 1) H' L' ⟨lsFr2 i, [rX X, rX Y, rA (laL M X i)]⟩
    (Sx.loopK (fun i => i ≤ X.length) lsFr2 (fun i => [rX X, rX Y, rA (laL M X i)]) (fun i => i + 1) (fun i => X.length + 2 - i) (fun (_ : Unit) => True) (fun _ => lsFr2o) (fun _ => [rX X, rX Y, rA (laL M X X.length)]) (fun _ => ()) (Sx.outId (Sx.bodyOf Tryz.f6 1) - 1) (Sx.atEnd Tryz.prog Tryz.f6 (fun v => v = .bool true) .ret) i) := by
  by_cases hlt : i < X.length
  · obtain ⟨x, hx⟩ : ∃ x, X[i]? = some x := ⟨_, List.getElem?_eq_getElem hlt⟩
    have c85 : Value.bool (decide ((i : Int) < (X.length : Int))) = .bool true := by rw [decide_eq_true (by omega)]
    have c91 : (0 : Int) ≤ (i : Int) ∧ (i : Int) < (X.length : Int) := by omega
    have c92 : (pfx x.v x.n x.k).length = 18 ∧ ((rowX X).drop (i * 18)).take 18 = pfx x.v x.n x.k := ⟨pfx_length _ _ _, rowX_at hx⟩
    have c93 := fun W (_ : Chg [] w W) => last_A x W
    have c99 := c91
    have c100 : 0 < X.length := by omega
    have c101 : (adr x.v x.n).length = 17 ∧ ((rowX X).drop (i * 18 + 0)).take 17 = adr x.v x.n := ⟨adr_length _ _, by rw [Nat.add_zero]; exact rowX_adr hx⟩
    have hl := laL_len M X i hi
    have c105 : True ∧ (adr x.v x.n ++ (adr x.v (laA x) ++ adr x.v (laB x))).length = 3 * 17 ∧ (∀ (u : Value), u ∈ adr x.v x.n ++ (adr x.v (laA x) ++ adr x.v (laB x)) → u.oneCell' = true) ∧ (laL M X i).length + 3 ≤ maxLen ∧ ((laL M X i).length + 3) * 17 ≤ 140737488355328 := by
      refine ⟨trivial, by rw [List.length_append, List.length_append, adr_length, adr_length, adr_length], fun u hu => ?_, by unfold maxLen; omega, by omega⟩
      rcases List.mem_append.1 hu with hu | hu
      · exact adr_ones _ _ u hu
      · rcases List.mem_append.1 hu with hu | hu <;> exact adr_ones _ _ u hu
    have c87 : Value.int .i64 (IntKind.i64.wrap ((i : Int) + 1)) = .int .i64 ((i + 1 : Nat) : Int) := iw (w64 (by omega) (by omega))
    have h0 : i + 1 ≤ X.length := hlt
    have h1 : X.length + 2 - (i + 1) < X.length + 2 - i := by omega
    have h2 : [((5 : Nat), Sx.SV.own 0), (9, .own 1), (12, .own 6), (13, .val (.int .i64 ((i + 1 : Nat) : Int)))] = [((5 : Nat), Sx.SV.own 0), (9, .own 1), (12, .own 6), (13, .val (.int .i64 ((i + 1 : Nat) : Int)))] := rfl
    have z3 : [rX X, rX Y, (⟨24, .own 17 ((laL M X i).length + 3) ((laL M X i).flatMap encA ++ (adr x.v x.n ++ (adr x.v (laA x) ++ adr x.v (laB x))))⟩ : Sx.Row)] = [rX X, rX Y, rA (laL M X (i + 1))] := by
      unfold rA
      rw [laL_succ hx]
      simp [laP, encA]
    refine ⟨[(85, .is (.bool true)), (91, .ix), (92, .ld (.agg (pfx x.v x.n x.k).toArray)), (93, .call (.tuple #[.agg (adr x.v (laA x)).toArray, .agg (adr x.v (laB x)).toArray])), (99, .ix), (101, .ld (.agg (adr x.v x.n).toArray)), (87, .is (.int .i64 ((i + 1 : Nat) : Int)))], [], ?_⟩
    exact Eq.mp (by kernel_rfl) (And.intro c85 (And.intro c91 (And.intro c92 (And.intro c93 (And.intro c99 (And.intro c100 (And.intro c101 (And.intro c105 (And.intro c87 (And.intro h0 (And.intro h1 (And.intro h2 z3))))))))))))
  · have c85 : Value.bool (decide ((i : Int) < (X.length : Int))) = .bool false := by rw [decide_eq_false (by omega)]
    have he : i = X.length := by omega
    have h0 : True := trivial
    have h1 : lsFr2o = lsFr2o := rfl
    have z2 : [rX X, rX Y, rA (laL M X i)] = [rX X, rX Y, rA (laL M X X.length)] := by rw [he]
    refine ⟨[(85, .is (.bool false))], [], ?_⟩
    exact Eq.mp (by kernel_rfl) (And.intro c85 (And.intro h0 (And.intro h1 z2)))
def lsFr3 (i : Nat) : List (Nat × Sx.SV) := [(5, .own 0), (9, .own 1), (12, .own 2), (16, .val (.int .i64 (i : Int)))]
theorem neq_bool (b : Bool) : Value.bool (b != b) = .bool false := by cases b <;> rfl
set_option maxRecDepth 100000 in
theorem ls_3 (X Y : List PX) (AL : List (Bool × Nat)) (hX : X.length ≤ 40) (hY : Y.length ≤ 40) (hA : AL.length ≤ 1000000) (hg : ∀ q ∈ AL, q.2 < 2 ^ 128) (hs : ∀ v m, m < 2 ^ 128 → hasL Y v m = hasL X v m) (w : World) (i : Nat) (hi : i ≤ AL.length) : ∃ H' L', Sx.ex Tryz.prog 289 w (Sx.bodyOf Tryz.f6 2) H' L' ⟨lsFr3 i, [rX X, rX Y, rA AL]⟩
    (Sx.loopK (fun i => i ≤ AL.length) lsFr3 (fun _ => [rX X, rX Y, rA AL]) (fun i => i + 1) (fun i => AL.length + 2 - i) (fun (_ : Unit) => True) (fun _ => [((9 : Nat), Sx.SV.own 0)]) (fun _ => [rX Y]) (fun _ => ()) (Sx.outId (Sx.bodyOf Tryz.f6 2) - 1) (Sx.atEnd Tryz.prog Tryz.f6 (fun v => v = .bool true) .ret) i) := by
  by_cases hlt : i < AL.length
  · obtain ⟨q, hq⟩ : ∃ q, AL[i]? = some q := ⟨_, List.getElem?_eq_getElem hlt⟩
    have hq2 := hg q (List.mem_of_getElem? hq)
    have hm := mask_lt q.2 (wid q.1) hq2
    have c109 : Value.bool (decide ((i : Int) < (AL.length : Int))) = .bool true := by rw [decide_eq_true (by omega)]
    have c115 : (0 : Int) ≤ (i : Int) ∧ (i : Int) < (AL.length : Int) := by omega
    have c122 := c115
    have c116 : (adr q.1 q.2).length = 17 ∧ ((AL.flatMap encA).drop (i * 17)).take 17 = adr q.1 q.2 := ⟨adr_length _ _, encA_at hq⟩
    have c123 := c116
    have c117 := fun W (_ : Chg [] w W) => right_N q.1 q.2 W
    have c124 := c117
    have c118 : ∀ W, Chg [] w W → ∀ s, Own W 29 18 s X.length (rowX X) → Calls Tryz.prog 27 #[s, .agg (adr q.1 (maskN q.2 (wid q.1))).toArray] W (Sx.retPost W (.val (.bool (hasL X q.1 (maskN q.2 (wid q.1)))))) := fun W _ s h => some_N X s q.1 _ hm (by omega) W (Rd.of_own h)
    have c125 : ∀ W, Chg [] w W → ∀ s, Own W 29 18 s Y.length (rowX Y) → Calls Tryz.prog 27 #[s, .agg (adr q.1 (maskN q.2 (wid q.1))).toArray] W (Sx.retPost W (.val (.bool (hasL X q.1 (maskN q.2 (wid q.1)))))) := fun W _ s h => by
      rw [← hs q.1 _ hm]
      exact some_N Y s q.1 _ hm (by omega) W (Rd.of_own h)
    have c126 := neq_bool (hasL X q.1 (maskN q.2 (wid q.1)))
    have c111 : Value.int .i64 (IntKind.i64.wrap ((i : Int) + 1)) = .int .i64 ((i + 1 : Nat) : Int) := iw (w64 (by omega) (by omega))
    have h0 : i + 1 ≤ AL.length := hlt
    have h1 : AL.length + 2 - (i + 1) < AL.length + 2 - i := by omega
    have h2 : lsFr3 (i + 1) = lsFr3 (i + 1) := rfl
    have z3 : [rX X, rX Y, rA AL] = [rX X, rX Y, rA AL] := rfl
    refine ⟨[(109, .is (.bool true)), (115, .ix), (116, .ld (.agg (adr q.1 q.2).toArray)), (117, .call (.agg (adr q.1 (maskN q.2 (wid q.1))).toArray)), (118, .callO (.val (.bool (hasL X q.1 (maskN q.2 (wid q.1)))))), (122, .ix), (123, .ld (.agg (adr q.1 q.2).toArray)), (124, .call (.agg (adr q.1 (maskN q.2 (wid q.1))).toArray)), (125, .callO (.val (.bool (hasL X q.1 (maskN q.2 (wid q.1)))))), (126, .is (.bool false)), (111, .is (.int .i64 ((i + 1 : Nat) : Int)))], [], ?_⟩
    exact Eq.mp (by kernel_rfl) (And.intro c109 (And.intro c115 (And.intro c116 (And.intro c117 (And.intro c118 (And.intro c122 (And.intro c123 (And.intro c124 (And.intro c125 (And.intro c126 (And.intro c111 (And.intro h0 (And.intro h1 (And.intro h2 z3))))))))))))))
  · have c109 : Value.bool (decide ((i : Int) < (AL.length : Int))) = .bool false := by rw [decide_eq_false (by omega)]
    have h0 : True := trivial
    have h1 : [((9 : Nat), Sx.SV.own 1)] = [((9 : Nat), Sx.SV.own 1)] := rfl
    have z2 : [rX Y] = [rX Y] := rfl
    refine ⟨[(109, .is (.bool false))], [], ?_⟩
    exact Eq.mp (by kernel_rfl) (And.intro c109 (And.intro h0 (And.intro h1 z2)))
def lsFr5 (i k : Nat) : List (Nat × Sx.SV) := [(9, .own 0), (17, .own 1), (18, .val (.int .i64 (i : Int))), (22, .val (.int .i64 (k : Int)))]
def lsFr5o (i : Nat) : List (Nat × Sx.SV) := [(9, .own 0), (17, .own 1), (18, .val (.int .i64 (i : Int)))]
theorem of_less (y : PX) (h : 1 ≤ y.k) : ofP y.v y.n ((y.k : Int) - 1) = (y.v, maskN y.n (y.k - 1), ((y.k - 1 : Nat) : Int), 0) := by
  have := y.k_le
  unfold ofP
  rw [y.okA, if_pos rfl, if_pos (by omega)]
  rw [show ((y.k : Int) - 1).toNat = y.k - 1 by omega, show (y.k : Int) - 1 = ((y.k - 1 : Nat) : Int) by omega]
theorem of_none (y : PX) (h : y.k = 0) : ofP y.v y.n ((y.k : Int) - 1) = (false, 0, 0, 151) := by
  unfold ofP
  rw [y.okA, if_pos rfl, if_neg (by omega)]
set_option maxRecDepth 100000 in
theorem ls_5 (Y Hv : List PX) (hY : CanonX Y) (hYl : Y.length ≤ 40) (i : Nat) (y : PX) (hy : Y[i]? = some y) (w : World) (k : Nat) (hk : k ≤ Y.length) : ∃ H' L', Sx.ex Tryz.prog 289 w (Sx.inBody (Sx.bodyOf Tryz.f6 3) 0) H' L' ⟨(lsFr5 i) k, [rX Y, rX Hv]⟩
    (Sx.loopK (fun k => k ≤ Y.length) (lsFr5 i) (fun _ => [rX Y, rX Hv]) (fun k => k + 1) (fun k => Y.length + 2 - k) (fun (_ : Unit) => True) (fun _ => lsFr5o i) (fun _ => [rX Y, rX Hv]) (fun _ => ()) (Sx.outId (Sx.inBody (Sx.bodyOf Tryz.f6 3) 0) - 1) (Sx.atEnd Tryz.prog Tryz.f6 (fun v => v = .bool true) .ret) k) := by
  have hyk := y.k128
  have hil := (List.getElem?_eq_some_iff.1 hy).1
  by_cases hlt : k < Y.length
  · obtain ⟨z, hz⟩ : ∃ z, Y[k]? = some z := ⟨_, List.getElem?_eq_getElem hlt⟩
    have hzk := z.k128
    have c186 : Value.bool (decide ((k : Int) < (Y.length : Int))) = .bool true := by rw [decide_eq_true (by omega)]
    have c192 : (0 : Int) ≤ (i : Int) ∧ (i : Int) < (Y.length : Int) := by omega
    have c197 := c192
    have c219 := c192
    have c193 : 0 < Y.length := by omega
    have c198 := c193
    have c215 := c193
    have c220 := c193
    have c194 : (adr y.v y.n).length = 17 ∧ ((rowX Y).drop (i * 18 + 0)).take 17 = adr y.v y.n := ⟨adr_length _ _, by rw [Nat.add_zero]; exact rowX_adr hy⟩
    have c199 := rowX_bits hy
    have c221 := c199
    have c200 : Value.int .i64 (IntKind.i64.wrap ((y.k : Int) - 1)) = .int .i64 ((y.k : Int) - 1) := iw (w64 (by omega) (by omega))
    have c201 := fun W (_ : Chg [] w W) => of_N y.v y.n ((y.k : Int) - 1) y.lt W
    have c188 : Value.int .i64 (IntKind.i64.wrap ((k : Int) + 1)) = .int .i64 ((k + 1 : Nat) : Int) := iw (w64 (by omega) (by omega))
    have h0 : k + 1 ≤ Y.length := hlt
    have h1 : Y.length + 2 - (k + 1) < Y.length + 2 - k := by omega
    have h2 : lsFr5 i (k + 1) = lsFr5 i (k + 1) := rfl
    have z3 : [rX Y, rX Hv] = [rX Y, rX Hv] := rfl
    by_cases hy0 : y.k = 0
    · rw [of_none y hy0] at c201
      by_cases hki : k = i
      · have c206 := ne_iB k i (r := false) (by simp [hki])
        refine ⟨[(186, .is (.bool true)), (192, .ix), (194, .ld (.agg (adr y.v y.n).toArray)), (197, .ix), (199, .ld (.int .i64 (y.k : Int))), (200, .is (.int .i64 ((y.k : Int) - 1))), (201, .call (.tuple #[.agg (pfx false 0 0).toArray, .int .i64 151])), (206, .is (.bool false)), (188, .is (.int .i64 ((k + 1 : Nat) : Int)))], [], ?_⟩
        exact Eq.mp (by kernel_rfl) (And.intro c186 (And.intro c192 (And.intro c193 (And.intro c194 (And.intro c197 (And.intro c198 (And.intro c199 (And.intro c200 (And.intro c201 (And.intro c206 (And.intro c188 (And.intro h0 (And.intro h1 (And.intro h2 z3))))))))))))))
      · have c206 := ne_iB k i (r := true) (by simp [hki])
        refine ⟨[(186, .is (.bool true)), (192, .ix), (194, .ld (.agg (adr y.v y.n).toArray)), (197, .ix), (199, .ld (.int .i64 (y.k : Int))), (200, .is (.int .i64 ((y.k : Int) - 1))), (201, .call (.tuple #[.agg (pfx false 0 0).toArray, .int .i64 151])), (206, .is (.bool true)), (188, .is (.int .i64 ((k + 1 : Nat) : Int)))], [], ?_⟩
        exact Eq.mp (by kernel_rfl) (And.intro c186 (And.intro c192 (And.intro c193 (And.intro c194 (And.intro c197 (And.intro c198 (And.intro c199 (And.intro c200 (And.intro c201 (And.intro c206 (And.intro c188 (And.intro h0 (And.intro h1 (And.intro h2 z3))))))))))))))
    · rw [of_less y (by omega)] at c201
      by_cases hki : k = i
      · have c206 := ne_iB k i (r := false) (by simp [hki])
        refine ⟨[(186, .is (.bool true)), (192, .ix), (194, .ld (.agg (adr y.v y.n).toArray)), (197, .ix), (199, .ld (.int .i64 (y.k : Int))), (200, .is (.int .i64 ((y.k : Int) - 1))), (201, .call (.tuple #[.agg (pfx y.v (maskN y.n (y.k - 1)) ((y.k - 1 : Nat) : Int)).toArray, .int .i64 0])), (206, .is (.bool false)), (188, .is (.int .i64 ((k + 1 : Nat) : Int)))], [], ?_⟩
        exact Eq.mp (by kernel_rfl) (And.intro c186 (And.intro c192 (And.intro c193 (And.intro c194 (And.intro c197 (And.intro c198 (And.intro c199 (And.intro c200 (And.intro c201 (And.intro c206 (And.intro c188 (And.intro h0 (And.intro h1 (And.intro h2 z3))))))))))))))
      · have c206 := ne_iB k i (r := true) (by simp [hki])
        have c214 : (0 : Int) ≤ (k : Int) ∧ (k : Int) < (Y.length : Int) := by omega
        have c228 := c214
        have c216 := rowX_bits hz
        by_cases hkk : z.k = y.k
        · have c222 : Value.bool ((z.k : Int) == (y.k : Int)) = .bool true := by rw [hkk]; simp
          have c229 : (pfx z.v z.n z.k).length = 18 ∧ ((rowX Y).drop (k * 18)).take 18 = pfx z.v z.n z.k := ⟨pfx_length _ _ _, rowX_at hz⟩
          have c230 := fun W (_ : Chg [] w W) => covers_N y.v (maskN y.n (y.k - 1)) ((y.k - 1 : Nat) : Int) z.v z.n z.k (mask_lt _ _ y.lt) z.lt W
          rw [sib_no hY (List.mem_of_getElem? hy) (List.mem_of_getElem? hz) (apart_ne hY.rise (fun h => hki h.symm) hy hz) (by omega) hkk] at c230
          refine ⟨[(186, .is (.bool true)), (192, .ix), (194, .ld (.agg (adr y.v y.n).toArray)), (197, .ix), (199, .ld (.int .i64 (y.k : Int))), (200, .is (.int .i64 ((y.k : Int) - 1))), (201, .call (.tuple #[.agg (pfx y.v (maskN y.n (y.k - 1)) ((y.k - 1 : Nat) : Int)).toArray, .int .i64 0])), (206, .is (.bool true)), (214, .ix), (216, .ld (.int .i64 (z.k : Int))), (219, .ix), (221, .ld (.int .i64 (y.k : Int))), (222, .is (.bool true)), (228, .ix), (229, .ld (.agg (pfx z.v z.n z.k).toArray)), (230, .call (.bool false)), (188, .is (.int .i64 ((k + 1 : Nat) : Int)))], [], ?_⟩
          exact Eq.mp (by kernel_rfl) (And.intro c186 (And.intro c192 (And.intro c193 (And.intro c194 (And.intro c197 (And.intro c198 (And.intro c199 (And.intro c200 (And.intro c201 (And.intro c206 (And.intro c214 (And.intro c215 (And.intro c216 (And.intro c219 (And.intro c220 (And.intro c221 (And.intro c222 (And.intro c228 (And.intro c229 (And.intro c230 (And.intro c188 (And.intro h0 (And.intro h1 (And.intro h2 z3))))))))))))))))))))))))
        · have c222 : Value.bool ((z.k : Int) == (y.k : Int)) = .bool false := by rw [show ((z.k : Int) == (y.k : Int)) = false from beq_eq_false_iff_ne.2 (by omega)]
          refine ⟨[(186, .is (.bool true)), (192, .ix), (194, .ld (.agg (adr y.v y.n).toArray)), (197, .ix), (199, .ld (.int .i64 (y.k : Int))), (200, .is (.int .i64 ((y.k : Int) - 1))), (201, .call (.tuple #[.agg (pfx y.v (maskN y.n (y.k - 1)) ((y.k - 1 : Nat) : Int)).toArray, .int .i64 0])), (206, .is (.bool true)), (214, .ix), (216, .ld (.int .i64 (z.k : Int))), (219, .ix), (221, .ld (.int .i64 (y.k : Int))), (222, .is (.bool false)), (188, .is (.int .i64 ((k + 1 : Nat) : Int)))], [], ?_⟩
          exact Eq.mp (by kernel_rfl) (And.intro c186 (And.intro c192 (And.intro c193 (And.intro c194 (And.intro c197 (And.intro c198 (And.intro c199 (And.intro c200 (And.intro c201 (And.intro c206 (And.intro c214 (And.intro c215 (And.intro c216 (And.intro c219 (And.intro c220 (And.intro c221 (And.intro c222 (And.intro c188 (And.intro h0 (And.intro h1 (And.intro h2 z3)))))))))))))))))))))
  · have c186 : Value.bool (decide ((k : Int) < (Y.length : Int))) = .bool false := by rw [decide_eq_false (by omega)]
    have h0 : True := trivial
    have h1 : lsFr5o i = lsFr5o i := rfl
    have z2 : [rX Y, rX Hv] = [rX Y, rX Hv] := rfl
    refine ⟨[(186, .is (.bool false))], [], ?_⟩
    exact Eq.mp (by kernel_rfl) (And.intro c186 (And.intro h0 (And.intro h1 z2)))
def lsFr6 (i : Nat) : List (Nat × Sx.SV) := [(9, .own 0), (25, .own 1), (26, .own 2), (28, .val (.int .i64 (i : Int)))]
set_option maxRecDepth 100000 in
theorem ls_6 (Y : List PX) (hYl : Y.length ≤ 40) (w : World) (i : Nat) (hi : i ≤ Y.length) : ∃ H' L', Sx.ex Tryz.prog 289 w (Sx.bodyOf Tryz.f6 4) H' L' ⟨lsFr6 i, [rX Y, rX Y, rX Y]⟩
    (Sx.loopK (fun i => i ≤ Y.length) lsFr6 (fun _ => [rX Y, rX Y, rX Y]) (fun i => i + 1) (fun i => Y.length + 2 - i) (fun (_ : Unit) => True) (fun _ => []) (fun _ => []) (fun _ => ()) (Sx.outId (Sx.bodyOf Tryz.f6 4) - 1) (Sx.atEnd Tryz.prog Tryz.f6 (fun v => v = .bool true) .ret) i) := by
  by_cases hlt : i < Y.length
  · obtain ⟨y, hy⟩ : ∃ y, Y[i]? = some y := ⟨_, List.getElem?_eq_getElem hlt⟩
    have hyk := y.k128
    have c265 : Value.bool (decide ((i : Int) < (Y.length : Int))) = .bool true := by rw [decide_eq_true (by omega)]
    have c270 : (0 : Int) ≤ (i : Int) ∧ (i : Int) < (Y.length : Int) := by omega
    have c274 := c270
    have c280 := c270
    have c284 := c270
    have c271 : (pfx y.v y.n y.k).length = 18 ∧ ((rowX Y).drop (i * 18)).take 18 = pfx y.v y.n y.k := ⟨pfx_length _ _ _, rowX_at hy⟩
    have c275 := c271
    have c281 := c271
    have c285 := c271
    have c276 := same29 (.tmp 271) (.tmp 275) y.v y.n y.k y.lt (by omega)
    have c286 := same29 (.tmp 281) (.tmp 285) y.v y.n y.k y.lt (by omega)
    have c267 : Value.int .i64 (IntKind.i64.wrap ((i : Int) + 1)) = .int .i64 ((i + 1 : Nat) : Int) := iw (w64 (by omega) (by omega))
    have h0 : i + 1 ≤ Y.length := hlt
    have h1 : Y.length + 2 - (i + 1) < Y.length + 2 - i := by omega
    have h2 : lsFr6 (i + 1) = lsFr6 (i + 1) := rfl
    have z3 : [rX Y, rX Y, rX Y] = [rX Y, rX Y, rX Y] := rfl
    refine ⟨[(265, .is (.bool true)), (270, .ix), (271, .ld (.agg (pfx y.v y.n y.k).toArray)), (274, .ix), (275, .ld (.agg (pfx y.v y.n y.k).toArray)), (276, .bin (.bool false)), (280, .ix), (281, .ld (.agg (pfx y.v y.n y.k).toArray)), (284, .ix), (285, .ld (.agg (pfx y.v y.n y.k).toArray)), (286, .bin (.bool false)), (267, .is (.int .i64 ((i + 1 : Nat) : Int)))], [], ?_⟩
    exact Eq.mp (by kernel_rfl) (And.intro c265 (And.intro c270 (And.intro c271 (And.intro c274 (And.intro c275 (And.intro c276 (And.intro c280 (And.intro c281 (And.intro c284 (And.intro c285 (And.intro c286 (And.intro c267 (And.intro h0 (And.intro h1 (And.intro h2 z3)))))))))))))))
  · have c265 : Value.bool (decide ((i : Int) < (Y.length : Int))) = .bool false := by rw [decide_eq_false (by omega)]
    have h0 : True := trivial
    have h1 : ([] : List (Nat × Sx.SV)) = [] := rfl
    have z2 : ([] : List Sx.Row) = [] := rfl
    refine ⟨[(265, .is (.bool false))], [], ?_⟩
    exact Eq.mp (by kernel_rfl) (And.intro c265 (And.intro h0 (And.intro h1 z2)))
def lsFr4 (i : Nat) : List (Nat × Sx.SV) := [(9, .own 0), (17, .own 1), (18, .val (.int .i64 (i : Int)))]
def lsFr4o : List (Nat × Sx.SV) := [(9, .own 0), (17, .own 1)]
set_option maxRecDepth 100000 in
theorem ls_4 (Y : List PX) (hY : CanonX Y) (hYl : Y.length ≤ 40) (w : World) (i : Nat) (hi : i ≤ Y.length) : ∃ H' L', Sx.ex Tryz.prog 289 w (Sx.bodyOf Tryz.f6 3) H' L' ⟨lsFr4 i, [rX Y, rX (hvN Y i)]⟩
    (Sx.loopK (fun i => i ≤ Y.length) lsFr4 (fun i => [rX Y, rX (hvN Y i)]) (fun i => i + 1) (fun i => Y.length + 2 - i) (fun (_ : Unit) => True) (fun _ => lsFr4o) (fun _ => [rX Y, rX (hvN Y Y.length)]) (fun _ => ()) (Sx.outId (Sx.bodyOf Tryz.f6 3) - 1) (Sx.atEnd Tryz.prog Tryz.f6 (fun v => v = .bool true) .ret) i) := by
  by_cases hlt : i < Y.length
  · obtain ⟨y, hy⟩ : ∃ y, Y[i]? = some y := ⟨_, List.getElem?_eq_getElem hlt⟩
    have hyk := y.k128
    have hkw := y.k_le
    have c130 : Value.bool (decide ((i : Int) < (Y.length : Int))) = .bool true := by rw [decide_eq_true (by omega)]
    have c163 : (0 : Int) ≤ (i : Int) ∧ (i : Int) < (Y.length : Int) := by omega
    have c143 := c163
    have c155 := c163
    have c174 := c163
    have c164 : (pfx y.v y.n y.k).length = 18 ∧ ((rowX Y).drop (i * 18)).take 18 = pfx y.v y.n y.k := ⟨pfx_length _ _ _, rowX_at hy⟩
    have c144 := c164
    have c156 := c164
    have c175 := c164
    have c165 := fun W (_ : Chg [] w W) => halves_N y.v y.n y.k y.lt W
    have c132 : Value.int .i64 (IntKind.i64.wrap ((i : Int) + 1)) = .int .i64 ((i + 1 : Nat) : Int) := iw (w64 (by omega) (by omega))
    have hn1 : i + 1 ≤ Y.length := hlt
    have hn2 : Y.length + 2 - (i + 1) < Y.length + 2 - i := by omega
    have hvl := hvN_len Y i
    have hvs := hvN_succ hy
    have ahead : 0 < i → ∃ x, Y[i - 1]? = some x ∧ ltX x y ∧ x ∈ Y := fun h => by
      obtain ⟨x, hx⟩ : ∃ x, Y[i - 1]? = some x := ⟨_, List.getElem?_eq_getElem (by omega)⟩
      exact ⟨x, hx, pair_lt hY.rise (by omega) hx hy, List.mem_of_getElem? hx⟩
    by_cases hw : y.k < wid y.v
    · have hP : halP y.v y.n y.k = ((y.v, y.n, (y.k : Int) + 1), (y.v, highN y.n y.k, (y.k : Int) + 1), 0) := by
        unfold halP
        rw [y.ok, if_pos rfl, if_neg (by omega), Int.toNat_natCast]
      rw [hP] at c165
      have hS : hvS (hvN Y i) y = highX y hw :: lowX y hw :: hvN Y i := by unfold hvS; rw [dif_pos hw]; rfl
      have c182 : True ∧ (rowX (hvN Y i)).length = (hvN Y i).length * 18 ∧ (∀ u ∈ rowX (hvN Y i), u.oneCell' = true) ∧ 2 + (hvN Y i).length ≤ maxLen ∧ (2 + (hvN Y i).length) * 32 ≤ 140737488355328 := ⟨trivial, rowX_len _, rowX_ones _, by unfold maxLen; omega, by omega⟩
      have rd2 := ls_5 Y (highX y hw :: lowX y hw :: hvN Y i) hY hYl i y hy w
      have h0 : 0 ≤ Y.length := Nat.zero_le _
      have e1 : [((9 : Nat), Sx.SV.own 0), (17, .own 5), (18, .val (.int .i64 (i : Int))), (22, .val (.int .i64 ((0 : Nat) : Int)))] = [((9 : Nat), Sx.SV.own 0), (17, .own 5), (18, .val (.int .i64 (i : Int))), (22, .val (.int .i64 ((0 : Nat) : Int)))] ∧ [rX Y, (⟨29, .own 18 (2 + (hvN Y i).length) (pfx y.v (highN y.n y.k) ((y.k : Int) + 1) ++ pfx y.v y.n ((y.k : Int) + 1) ++ rowX (hvN Y i))⟩ : Sx.Row)] = [rX Y, rX (highX y hw :: lowX y hw :: hvN Y i)] := ⟨rfl, by
        have e : 2 + (hvN Y i).length = (highX y hw :: lowX y hw :: hvN Y i).length := by simp only [List.length_cons]; omega
        have e' : pfx y.v (highN y.n y.k) ((y.k : Int) + 1) ++ pfx y.v y.n ((y.k : Int) + 1) ++ rowX (hvN Y i) = rowX (highX y hw :: lowX y hw :: hvN Y i) := by
          rw [rowX_cons, rowX_cons, List.append_assoc]
          rfl
        rw [e, e']
        rfl⟩
      have h5 := hn1
      have h6 := hn2
      have h7 : lsFr4 (i + 1) = lsFr4 (i + 1) := rfl
      have z8 : [rX Y, rX (highX y hw :: lowX y hw :: hvN Y i)] = [rX Y, rX (hvN Y (i + 1))] := by rw [hvs, hS]
      by_cases hi0 : i = 0
      · have c134 : Value.bool (decide ((i : Int) > 0)) = .bool false := by rw [decide_eq_false (by omega)]
        refine ⟨[(130, .is (.bool true)), (134, .is (.bool false)), (163, .ix), (164, .ld (.agg (pfx y.v y.n y.k).toArray)), (165, .call (.tuple #[.agg (pfx y.v y.n ((y.k : Int) + 1)).toArray, .agg (pfx y.v (highN y.n y.k) ((y.k : Int) + 1)).toArray, .int .i64 0])), (180, .nils 29 18), (132, .is (.int .i64 ((i + 1 : Nat) : Int)))], [.mk Nat 0 (fun k => k ≤ Y.length) (lsFr5 i) (fun _ => [rX Y, rX (highX y hw :: lowX y hw :: hvN Y i)]) (fun k => k + 1) (fun k => Y.length + 2 - k) Unit (fun _ => True) (fun _ => lsFr5o i) (fun _ => [rX Y, rX (highX y hw :: lowX y hw :: hvN Y i)]) (fun _ => ())], ?_⟩
        exact Eq.mp (by kernel_rfl) (And.intro c130 (And.intro c134 (And.intro c163 (And.intro c164 (And.intro c165 (And.intro c182 (And.intro h0 (And.intro e1 (And.intro rd2 (fun (x3 : Unit) (hx4 : True) => (And.intro c132 (And.intro h5 (And.intro h6 (And.intro h7 z8))))))))))))))
      · have c134 : Value.bool (decide ((i : Int) > 0)) = .bool true := by rw [decide_eq_true (by omega)]
        obtain ⟨x, hx, hxy, hxm⟩ := ahead (by omega)
        have c138 : Value.int .i64 (IntKind.i64.wrap ((i : Int) - 1)) = .int .i64 ((i - 1 : Nat) : Int) := by
          rw [show (i : Int) - 1 = ((i - 1 : Nat) : Int) by omega]
          exact iw (w64 (by omega) (by omega))
        have c150 := c138
        have c139 : (0 : Int) ≤ ((i - 1 : Nat) : Int) ∧ ((i - 1 : Nat) : Int) < (Y.length : Int) := by omega
        have c151 := c139
        have c140 : (pfx x.v x.n x.k).length = 18 ∧ ((rowX Y).drop ((i - 1) * 18)).take 18 = pfx x.v x.n x.k := ⟨pfx_length _ _ _, rowX_at hx⟩
        have c152 := c140
        have c145 := fun W (_ : Chg [] w W) => compare_N x.v x.n x.k y.v y.n y.k x.lt y.lt W
        rw [cmp_neg hxy] at c145
        have c157 := fun W (_ : Chg [] w W) => covers_N x.v x.n x.k y.v y.n y.k x.lt y.lt W
        rw [cov_no hY hxm (List.mem_of_getElem? hy) hxy] at c157
        refine ⟨[(130, .is (.bool true)), (134, .is (.bool true)), (138, .is (.int .i64 ((i - 1 : Nat) : Int))), (139, .ix), (140, .ld (.agg (pfx x.v x.n x.k).toArray)), (143, .ix), (144, .ld (.agg (pfx y.v y.n y.k).toArray)), (145, .call (.int .i64 (-1))), (150, .is (.int .i64 ((i - 1 : Nat) : Int))), (151, .ix), (152, .ld (.agg (pfx x.v x.n x.k).toArray)), (155, .ix), (156, .ld (.agg (pfx y.v y.n y.k).toArray)), (157, .call (.bool false)), (163, .ix), (164, .ld (.agg (pfx y.v y.n y.k).toArray)), (165, .call (.tuple #[.agg (pfx y.v y.n ((y.k : Int) + 1)).toArray, .agg (pfx y.v (highN y.n y.k) ((y.k : Int) + 1)).toArray, .int .i64 0])), (180, .nils 29 18), (132, .is (.int .i64 ((i + 1 : Nat) : Int)))], [.mk Nat 0 (fun k => k ≤ Y.length) (lsFr5 i) (fun _ => [rX Y, rX (highX y hw :: lowX y hw :: hvN Y i)]) (fun k => k + 1) (fun k => Y.length + 2 - k) Unit (fun _ => True) (fun _ => lsFr5o i) (fun _ => [rX Y, rX (highX y hw :: lowX y hw :: hvN Y i)]) (fun _ => ())], ?_⟩
        exact Eq.mp (by kernel_rfl) (And.intro c130 (And.intro c134 (And.intro c138 (And.intro c139 (And.intro c140 (And.intro c143 (And.intro c144 (And.intro c145 (And.intro c150 (And.intro c151 (And.intro c152 (And.intro c155 (And.intro c156 (And.intro c157 (And.intro c163 (And.intro c164 (And.intro c165 (And.intro c182 (And.intro h0 (And.intro e1 (And.intro rd2 (fun (x3 : Unit) (hx4 : True) => (And.intro c132 (And.intro h5 (And.intro h6 (And.intro h7 z8))))))))))))))))))))))))))
    · have hkw2 : (y.k : Int) = wid y.v := by omega
      have hP : halP y.v y.n y.k = ((false, 0, 0), (false, 0, 0), 5) := by
        unfold halP
        rw [y.ok, if_pos rfl, if_pos hkw2]
      rw [hP] at c165
      have hS : hvS (hvN Y i) y = hvN Y i ++ [y] := by unfold hvS; rw [dif_neg hw]
      have c177 : True ∧ (pfx y.v y.n y.k).length = 1 * 18 ∧ (∀ (u : Value), u ∈ pfx y.v y.n y.k → u.oneCell' = true) ∧ (hvN Y i).length + 1 ≤ maxLen ∧ ((hvN Y i).length + 1) * 32 ≤ 140737488355328 := ⟨trivial, by rw [pfx_length], enc_ones y, by unfold maxLen; omega, by omega⟩
      have h0 := hn1
      have h1 := hn2
      have h2 : [((9 : Nat), Sx.SV.own 0), (17, .own 5), (18, .val (.int .i64 ((i + 1 : Nat) : Int)))] = [((9 : Nat), Sx.SV.own 0), (17, .own 5), (18, .val (.int .i64 ((i + 1 : Nat) : Int)))] := rfl
      have z3 : [rX Y, (⟨29, .own 18 ((hvN Y i).length + 1) (rowX (hvN Y i) ++ pfx y.v y.n y.k)⟩ : Sx.Row)] = [rX Y, rX (hvN Y (i + 1))] := by
        unfold rX
        rw [hvs, hS]
        simp [rowX, PX.enc]
      by_cases hi0 : i = 0
      · have c134 : Value.bool (decide ((i : Int) > 0)) = .bool false := by rw [decide_eq_false (by omega)]
        refine ⟨[(130, .is (.bool true)), (134, .is (.bool false)), (163, .ix), (164, .ld (.agg (pfx y.v y.n y.k).toArray)), (165, .call (.tuple #[.agg (pfx false 0 0).toArray, .agg (pfx false 0 0).toArray, .int .i64 5])), (174, .ix), (175, .ld (.agg (pfx y.v y.n y.k).toArray)), (132, .is (.int .i64 ((i + 1 : Nat) : Int)))], [], ?_⟩
        exact Eq.mp (by kernel_rfl) (And.intro c130 (And.intro c134 (And.intro c163 (And.intro c164 (And.intro c165 (And.intro c174 (And.intro c175 (And.intro c177 (And.intro c132 (And.intro h0 (And.intro h1 (And.intro h2 z3))))))))))))
      · have c134 : Value.bool (decide ((i : Int) > 0)) = .bool true := by rw [decide_eq_true (by omega)]
        obtain ⟨x, hx, hxy, hxm⟩ := ahead (by omega)
        have c138 : Value.int .i64 (IntKind.i64.wrap ((i : Int) - 1)) = .int .i64 ((i - 1 : Nat) : Int) := by
          rw [show (i : Int) - 1 = ((i - 1 : Nat) : Int) by omega]
          exact iw (w64 (by omega) (by omega))
        have c150 := c138
        have c139 : (0 : Int) ≤ ((i - 1 : Nat) : Int) ∧ ((i - 1 : Nat) : Int) < (Y.length : Int) := by omega
        have c151 := c139
        have c140 : (pfx x.v x.n x.k).length = 18 ∧ ((rowX Y).drop ((i - 1) * 18)).take 18 = pfx x.v x.n x.k := ⟨pfx_length _ _ _, rowX_at hx⟩
        have c152 := c140
        have c145 := fun W (_ : Chg [] w W) => compare_N x.v x.n x.k y.v y.n y.k x.lt y.lt W
        rw [cmp_neg hxy] at c145
        have c157 := fun W (_ : Chg [] w W) => covers_N x.v x.n x.k y.v y.n y.k x.lt y.lt W
        rw [cov_no hY hxm (List.mem_of_getElem? hy) hxy] at c157
        refine ⟨[(130, .is (.bool true)), (134, .is (.bool true)), (138, .is (.int .i64 ((i - 1 : Nat) : Int))), (139, .ix), (140, .ld (.agg (pfx x.v x.n x.k).toArray)), (143, .ix), (144, .ld (.agg (pfx y.v y.n y.k).toArray)), (145, .call (.int .i64 (-1))), (150, .is (.int .i64 ((i - 1 : Nat) : Int))), (151, .ix), (152, .ld (.agg (pfx x.v x.n x.k).toArray)), (155, .ix), (156, .ld (.agg (pfx y.v y.n y.k).toArray)), (157, .call (.bool false)), (163, .ix), (164, .ld (.agg (pfx y.v y.n y.k).toArray)), (165, .call (.tuple #[.agg (pfx false 0 0).toArray, .agg (pfx false 0 0).toArray, .int .i64 5])), (174, .ix), (175, .ld (.agg (pfx y.v y.n y.k).toArray)), (132, .is (.int .i64 ((i + 1 : Nat) : Int)))], [], ?_⟩
        exact Eq.mp (by kernel_rfl) (And.intro c130 (And.intro c134 (And.intro c138 (And.intro c139 (And.intro c140 (And.intro c143 (And.intro c144 (And.intro c145 (And.intro c150 (And.intro c151 (And.intro c152 (And.intro c155 (And.intro c156 (And.intro c157 (And.intro c163 (And.intro c164 (And.intro c165 (And.intro c174 (And.intro c175 (And.intro c177 (And.intro c132 (And.intro h0 (And.intro h1 (And.intro h2 z3))))))))))))))))))))))))
  · have c130 : Value.bool (decide ((i : Int) < (Y.length : Int))) = .bool false := by rw [decide_eq_false (by omega)]
    have he : i = Y.length := by omega
    have h0 : True := trivial
    have h1 : lsFr4o = lsFr4o := rfl
    have z2 : [rX Y, rX (hvN Y i)] = [rX Y, rX (hvN Y Y.length)] := by rw [he]
    refine ⟨[(130, .is (.bool false))], [], ?_⟩
    exact Eq.mp (by kernel_rfl) (And.intro c130 (And.intro h0 (And.intro h1 z2)))
/-- A slice of the first ones of a slice. -/
theorem run_first {P : Program} {t e S : Nat} {A : Option Addr} {n c m : Nat} (hu : P.underlying t = some (.slice e)) (hs : (P.info? e).map (·.size) = some S) (hm : m ≤ c) (W : World) : (Instr.sliceAt t (.slice A n c) none (some (.int .i64 (m : Int))) none).run P W = .ok (.slice A m c) W := by
  cases hq : P.info? e with
  | none => rw [hq] at hs; cases hs
  | some inf =>
    have hA : A.map (fun x => x.add 0) = A := by
      cases A with
      | none => rfl
      | some a => simp [Addr.add]
    simp only [Instr.sliceAt, Sem.run_bind, run_underlying hu, Result.andThen_ok, Instr.slice]
    by_cases hc : c = 0
    · subst hc
      have : m = 0 := by omega
      subst this
      simp [Instr.sliceBounds, Instr.sliceBound, asIntOf, sizeOf, typeInfo, hq]
    · have hc' : ¬ c = 0 := hc
      simp [Instr.sliceBounds, Instr.sliceBound, asIntOf, hm, sizeOf, typeInfo, hq, hc', hA]
theorem Rd.takeA {w : World} {n m c : Nat} {A : Option Addr} {L : List (Bool × Nat)} (h : Rd w 17 (.slice A n c) n (L.flatMap encA)) (hm : m ≤ n) : Rd w 17 (.slice A m c) m ((L.take m).flatMap encA) := by
  obtain ⟨hl, A', c', hv, h3⟩ := h
  injection hv with h1 _ h2
  subst h1; subst h2
  rw [encA_len] at hl
  refine ⟨by rw [encA_len, List.length_take]; congr 1; omega, A, c, rfl, fun h0 => ?_⟩
  obtain ⟨g, o, ha, hg, hr⟩ := h3 (by omega)
  refine ⟨g, o, ha, hg, fun j u hu => hr j u ?_⟩
  have e : L.flatMap encA = (L.take m).flatMap encA ++ (L.drop m).flatMap encA := by rw [← List.flatMap_append, List.take_append_drop]
  rw [e, List.getElem?_append_left (List.getElem?_eq_some_iff.1 hu).1]
  exact hu
set_option maxRecDepth 100000 in
theorem least_C (L : List RP) (A : Option Addr) (c : Nat) (hn : L.length ≤ 9223372036854775807) (hg : ∀ q ∈ L, goodP q) (M : List (Bool × Nat)) (B : Option Addr) (m d : Nat) (hm : M.length = min m 40) (hmd : m ≤ d) (hm2 : m ≤ 9223372036854775807) (hgm : ∀ q ∈ M, goodA q) (w : World) (HL : Lan w)
    (h : Rd w 18 (.slice A L.length c) L.length (rowP L)) (h' : Rd w 17 (.slice B M.length d) M.length (M.flatMap encA)) (X Y : List PX) (hX : X = lsOf L (min L.length 40)) (hY : Y = mergeR X) :
    Calls Tryz.prog 6 #[.slice A L.length c, .slice B m d] w fun e w' => e = .returned (.bool true) ∧ Chg [] w w' := by
  have hXl : X.length ≤ 40 := by rw [hX, lsOf_len L _ (by omega)]; omega
  have e6 : [((5 : Nat), Sx.SV.own 0), (9, .own 1), (12, .own 3), (13, .val (.int .i64 ((0 : Nat) : Int)))] = [((5 : Nat), Sx.SV.own 0), (9, .own 1), (12, .own 3), (13, .val (.int .i64 ((0 : Nat) : Int)))] ∧ [rX X, rX Y, (⟨24, .own 17 (0 + M.length) (M.flatMap encA)⟩ : Sx.Row)] = [rX X, rX Y, rA (laL M X 0)] := ⟨rfl, by
    have e : laL M X 0 = M := by simp [laL]
    unfold rA
    rw [e, Nat.zero_add]⟩
  have h0 : 0 ≤ min L.length 40 := Nat.zero_le _
  have e1 : lsFr1 (.slice A L.length c) (.slice B m d) 0 = lsFr1 (.slice A L.length c) (.slice B m d) 0 ∧ [rX (lsOf L 0)] = [rX (lsOf L 0)] := ⟨rfl, rfl⟩
  have h5 : 0 ≤ X.length := Nat.zero_le _
  have h10 : 0 ≤ (laL M X X.length).length := Nat.zero_le _
  have e11 : lsFr3 0 = lsFr3 0 ∧ [rX X, rX Y, rA (laL M X X.length)] = [rX X, rX Y, rA (laL M X X.length)] := ⟨rfl, rfl⟩
  have h15 : 0 ≤ Y.length := Nat.zero_le _
  have e16 : lsFr4 0 = lsFr4 0 ∧ [rX Y, rX (hvN Y 0)] = [rX Y, rX (hvN Y 0)] := ⟨rfl, rfl⟩
  have h20 := h15
  have e21 : [((9 : Nat), Sx.SV.own 0), (25, .own 2), (26, .own 3), (28, .val (.int .i64 ((0 : Nat) : Int)))] = [((9 : Nat), Sx.SV.own 0), (25, .own 2), (26, .own 3), (28, .val (.int .i64 ((0 : Nat) : Int)))] ∧ [rX Y, rX Y, rX Y] = [rX Y, rX Y, rX Y] := ⟨rfl, rfl⟩
  have z25 : Value.bool true = .bool true := rfl
  have hYl : Y.length ≤ 40 := by have := mergeR_len X; rw [hY]; omega
  have hcan : CanonX Y := by rw [hY]; exact mergeR_canon X
  have hAl := laL_len M X X.length (Nat.le_refl _)
  have rd2 := ls_1 L A c (.slice B m d) hn hg w h
  have rd7 := ls_2 X Y M hXl (by omega) w
  have rd12 := ls_3 X Y (laL M X X.length) hXl hYl (by omega) (laL_good hgm X X.length) (fun v m hm => by rw [hY]; exact mergeR_has X v m hm) w
  have rd17 := ls_4 Y hcan hYl w
  have rd22 := ls_6 Y hYl w
  have c69 : ∀ W, Chg [] w W → ∀ s, Own W 29 18 s X.length (rowX X) → Calls Tryz.prog 15 #[s] W (Sx.retPost W (.tup [] 29 18 Y.length (rowX Y) [.int .i64 0])) := fun W _ s hs => by rw [hY]; exact merge_own X (by omega) s W hs
  have c77 : ∀ W, Chg [] w W → ((do let v ← Builtin.min_ #[3, 3] 3 #[.int .i64 (m : Int), .int .i64 40]; pure (Next.value v) : Sem Next)).run Tryz.prog W = .ok (.value (.int .i64 (M.length : Int))) W := fun W _ => by
    rw [Sem.run_bind, run_min_i64 #[3, 3] 3 (m : Int) 40 M.length (by omega)]
    rfl
  have c78 := fun W (_ : Chg [] w W) => run_first (P := Tryz.prog) (A := B) (n := m) (c := d) (m := M.length) Tryz.underlying51 size24 (by omega) W
  have c81 : (∀ W, Chg [] w W → ∃ A' c', Value.slice B M.length d = .slice A' M.length c' ∧ (0 < (M.flatMap encA).length → ∃ ad, A' = some ad ∧ ∀ (j : Nat) (u : Value), (M.flatMap encA)[j]? = some u → W.cell? (ad.add j) = some u)) ∧ (M.flatMap encA).length = M.length * 17 ∧ (∀ u ∈ M.flatMap encA, u.oneCell' = true) ∧ 0 + M.length ≤ maxLen ∧ (0 + M.length) * 17 ≤ 140737488355328 := by
    refine ⟨fun W hW => ⟨B, d, rfl, fun h0 => ?_⟩, encA_len M, encA_ones M, by unfold maxLen; omega, by omega⟩
    obtain ⟨_, A', c', hv, h3⟩ := h'.chg hW
    injection hv with h1 _ _
    subst h1
    obtain ⟨g, o, rfl, hr⟩ := h3 (by rw [encA_len] at h0; omega)
    exact ⟨_, rfl, fun j u hu => by rw [Addr.add_lit]; exact hr.2 j u hu⟩
  have c234 : ∀ W, Chg [] w W → ∀ s, Own W 29 18 s Y.length (rowX Y) → Calls Tryz.prog 15 #[s] W (Sx.retPost W (.tup [] 29 18 Y.length (rowX Y) [.int .i64 0])) := fun W _ s hs => by
    have := merge_own Y (by omega) s W hs
    rwa [again_same hcan] at this
  have hvl := hvN_len Y Y.length
  have c239 : ∀ W, Chg [] w W → ∀ s, Own W 29 18 s (hvN Y Y.length).length (rowX (hvN Y Y.length)) → Calls Tryz.prog 15 #[s] W (Sx.retPost W (.tup [] 29 18 Y.length (rowX Y) [.int .i64 0])) := fun W _ s hs => by
    have := merge_own (hvN Y Y.length) (by omega) s W hs
    rwa [other_same hcan] at this
  have c253 : Value.bool ((Y.length : Int) != (Y.length : Int)) = .bool false := by simp
  have c260 := c253
  have c288 := fun W (hW : Chg [] w W) => works_N W (HL.chg0 hW)
  subst hX
  refine Sx.calls_is (args := [.slice A L.length c, .slice B m d]) [(5, .nils 29 18), (69, .callO (.tup [] 29 18 Y.length (rowX Y) [.int .i64 0])), (77, .any (.int .i64 (M.length : Int))), (78, .any (.slice B M.length d)), (12, .nils 24 17), (81, .app M.length (M.flatMap encA)), (17, .nils 29 18), (234, .callO (.tup [] 29 18 Y.length (rowX Y) [.int .i64 0])), (239, .callO (.tup [] 29 18 Y.length (rowX Y) [.int .i64 0])), (253, .is (.bool false)), (260, .is (.bool false)), (288, .call (.bool true))]
    [.mk Nat 0 (fun i => i ≤ min L.length 40) (lsFr1 (.slice A L.length c) (.slice B m d)) (fun i => [rX (lsOf L i)]) (fun i => i + 1) (fun i => L.length + 2 - i) Unit (fun _ => True) (fun _ => [(1, .val (.slice B m d)), (5, .own 0)]) (fun _ => [rX (lsOf L (min L.length 40))]) (fun _ => ()), .mk Nat 0 (fun i => i ≤ (lsOf L (min L.length 40)).length) lsFr2 (fun i => [rX (lsOf L (min L.length 40)), rX Y, rA (laL M (lsOf L (min L.length 40)) i)]) (fun i => i + 1) (fun i => (lsOf L (min L.length 40)).length + 2 - i) Unit (fun _ => True) (fun _ => lsFr2o) (fun _ => [rX (lsOf L (min L.length 40)), rX Y, rA (laL M (lsOf L (min L.length 40)) (lsOf L (min L.length 40)).length)]) (fun _ => ()), .mk Nat 0 (fun i => i ≤ (laL M (lsOf L (min L.length 40)) (lsOf L (min L.length 40)).length).length) lsFr3 (fun _ => [rX (lsOf L (min L.length 40)), rX Y, rA (laL M (lsOf L (min L.length 40)) (lsOf L (min L.length 40)).length)]) (fun i => i + 1) (fun i => (laL M (lsOf L (min L.length 40)) (lsOf L (min L.length 40)).length).length + 2 - i) Unit (fun _ => True) (fun _ => [((9 : Nat), Sx.SV.own 0)]) (fun _ => [rX Y]) (fun _ => ()), .mk Nat 0 (fun i => i ≤ Y.length) lsFr4 (fun i => [rX Y, rX (hvN Y i)]) (fun i => i + 1) (fun i => Y.length + 2 - i) Unit (fun _ => True) (fun _ => lsFr4o) (fun _ => [rX Y, rX (hvN Y Y.length)]) (fun _ => ()), .mk Nat 0 (fun i => i ≤ Y.length) lsFr6 (fun _ => [rX Y, rX Y, rX Y]) (fun i => i + 1) (fun i => Y.length + 2 - i) Unit (fun _ => True) (fun _ => []) (fun _ => []) (fun _ => ())] (by kernel_rfl) Tryz.func6 rfl (Nat.le_of_ble_eq_true rfl) ?_
  exact Eq.mp (by kernel_rfl) (And.intro h0 (And.intro e1 (And.intro rd2 (fun (x3 : Unit) (hx4 : True) => (And.intro c69 (And.intro c77 (And.intro c78 (And.intro c81 (And.intro h5 (And.intro e6 (And.intro rd7 (fun (x8 : Unit) (hx9 : True) => (And.intro h10 (And.intro e11 (And.intro rd12 (fun (x13 : Unit) (hx14 : True) => (And.intro h15 (And.intro e16 (And.intro rd17 (fun (x18 : Unit) (hx19 : True) => (And.intro c234 (And.intro c239 (And.intro c253 (And.intro c260 (And.intro h20 (And.intro e21 (And.intro rd22 (fun (x23 : Unit) (hx24 : True) => (And.intro c288 z25)))))))))))))))))))))))))))))
theorem least_B (L : List RP) (A : Option Addr) (n c : Nat) (M0 : List (Bool × Nat)) (B : Option Addr) (m d : Nat) (w : World) (HL : Lan w) (hl : L.length = n) (_hnc : n ≤ c) (hn : n ≤ 9223372036854775807) (hg : ∀ q ∈ L, goodP q) (h : Rd w 18 (.slice A n c) n (rowP L))
    (hl' : M0.length = m) (hmd : m ≤ d) (hm : m ≤ 9223372036854775807) (hg' : ∀ q ∈ M0, goodA q) (h' : Rd w 17 (.slice B m d) m (M0.flatMap encA)) :
    Calls Tryz.prog 6 #[.slice A n c, .slice B m d] w fun e w' => e = .returned (.bool true) ∧ Chg [] w w' := by
  subst hl
  have hM : (M0.take (min m 40)).length = min m 40 := by rw [List.length_take]; omega
  have ht := h'.takeA (m := min m 40) (by omega)
  have ht2 : Rd w 17 (.slice B (M0.take (min m 40)).length d) (M0.take (min m 40)).length ((M0.take (min m 40)).flatMap encA) := by rw [hM]; exact ht
  exact least_C L A c hn hg (M0.take (min m 40)) B m d hM hmd hm (fun q hq => hg' q (List.mem_of_mem_take hq)) w HL h ht2 _ _ rfl rfl
end Go.Proofs.YtgpiapmbbnngpaaGreatDoor
