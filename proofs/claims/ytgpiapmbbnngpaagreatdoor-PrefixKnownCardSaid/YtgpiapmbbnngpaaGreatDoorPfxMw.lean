/- Merge walked: where one may not be. -/
import Derived.Test.YtgpiapmbbnngpaaGreatDoorPfxM
import Derived.Great.BuildSlice
namespace Go.Proofs.YtgpiapmbbnngpaaGreatDoor
open Go.RowKit Go.Lib Go.Sort

/-- A row of whatever prefixes. -/
abbrev RP := Bool × Nat × Int
def RP.enc (p : RP) : List Value := pfx p.1 p.2.1 p.2.2
def rowP (ps : List RP) : List Value := ps.flatMap RP.enc
def PX.raw (x : PX) : RP := (x.v, x.n, x.k)
theorem rowX_raw (xs : List PX) : rowX xs = rowP (xs.map PX.raw) := by
  unfold rowX rowP
  rw [List.flatMap_map]
  rfl
theorem rowP_len : ∀ ps : List RP, (rowP ps).length = ps.length * 18
  | [] => rfl
  | p :: ps => by
    have := rowP_len ps
    unfold rowP at *
    rw [List.flatMap_cons, List.length_append, this, List.length_cons, show (RP.enc p).length = 18 from pfx_length _ _ _]; omega
theorem rowP_get : ∀ (ps : List RP) (i : Nat) (p : RP) (c : Nat), ps[i]? = some p → c < 18 → (rowP ps)[i * 18 + c]? = p.enc[c]?
  | [], i, p, c, h, _ => by simp at h
  | q :: ps, 0, p, c, h, hc => by
    injection h with h
    subst h
    unfold rowP
    rw [List.flatMap_cons, List.getElem?_append_left (by rw [show (RP.enc q).length = 18 from pfx_length _ _ _]; omega)]
    simp
  | q :: ps, i + 1, p, c, h, hc => by
    have := rowP_get ps i p c (by simpa using h) hc
    unfold rowP at *
    rw [List.flatMap_cons, List.getElem?_append_right (by rw [show (RP.enc q).length = 18 from pfx_length _ _ _]; omega), show (RP.enc q).length = 18 from pfx_length _ _ _, show (i + 1) * 18 + c - 18 = i * 18 + c by omega]
    exact this
theorem RowAt.at {w : World} {g o : Nat} {ps : List RP} (h : RowAt w g o (rowP ps)) {i : Nat} {p : RP} (hp : ps[i]? = some p) : w.rangeAt g (o + i * 18) (pfx p.1 p.2.1 p.2.2) := by
  intro j u hu
  have hj : j < 18 := by
    have := (List.getElem?_eq_some_iff.1 hu).1
    rwa [pfx_length] at this
  have := h.2 (i * 18 + j) u ((rowP_get ps i p j hp hj).trans hu)
  rwa [← Nat.add_assoc] at this
theorem ldX {ops : Array Oper} {rest : List Oper} {o : Oper} {a : Act} {w : World} {Q : Exit → Act → World → Prop} (hgd : o.guard = none) (x : Operand) (ho : o.op = .load 29 x)
    (g off : Nat) (hx : a.eval x = .pointer (some ⟨g, off, none⟩)) (v : Bool) (n : Nat) (k : Int) (hb : w.rangeAt g off (pfx v n k))
    (h : wpList Tryz.prog ops Q rest (a.put o.dst (.agg (pfx v n k).toArray)) w) : wpList Tryz.prog ops Q (o :: rest) a w :=
  wpList_load_mid hgd 29 x ho g off hx _ _ hb Tryz.underlying29 rfl (size29.trans (by rw [pfx_length])) h

theorem fill1 (v : Bool) (n : Nat) (k : Int) : Instr.fill (fun i => some (i * 18, 18)) ((Array.range 18).map ((Value.agg zpfx).cells[· % (Value.agg zpfx).cells.size]!)) [(0, .agg (pfx v n k).toArray)] = some (pfx v n k).toArray := by kernel_rfl
theorem fill2 (v : Bool) (n : Nat) (k : Int) (v' : Bool) (m : Nat) (j : Int) : Instr.fill (fun i => some (i * 18, 18)) ((Array.range 36).map ((Value.agg zpfx).cells[· % (Value.agg zpfx).cells.size]!)) [(0, .agg (pfx v n k).toArray), (1, .agg (pfx v' m j).toArray)] = some (pfx v n k ++ pfx v' m j).toArray := by kernel_rfl
/-- A row of one prefix, of two. -/
theorem bs34 {ops : Array Oper} {rest : List Oper} {o : Oper} {a : Act} {w : World} {Q : Exit → Act → World → Prop} (hg : o.guard = none) (x : Operand) (ho : o.op = .buildSlice 34 1 #[(0, x)]) (v : Bool) (n : Nat) (k : Int)
    (hx : a.eval x = .agg (pfx v n k).toArray) (h : wpList Tryz.prog ops Q rest (a.put o.dst (.slice (some ⟨w.heap.size, 0, none⟩) 1 1)) (w.alloc (.cells (pfx v n k).toArray 29))) : wpList Tryz.prog ops Q (o :: rest) a w := by
  obtain ⟨i0, hi, hz0, hz1, hz2⟩ := info_parts Tryz.info29
  refine wpList_buildSlice hg 34 29 1 _ ho _ i0 _ Tryz.underlying34 hi hz0 (by rw [hz1]; decide) (by rw [hz1]; decide) ?_ h
  rw [hz1]
  simp only [List.map_toArray, List.map_cons, List.map_nil, hx]
  exact fill1 v n k
theorem bs34b {ops : Array Oper} {rest : List Oper} {o : Oper} {a : Act} {w : World} {Q : Exit → Act → World → Prop} (hg : o.guard = none) (x y : Operand) (ho : o.op = .buildSlice 34 2 #[(0, x), (1, y)]) (v : Bool) (n : Nat) (k : Int) (v' : Bool) (m : Nat) (j : Int)
    (hx : a.eval x = .agg (pfx v n k).toArray) (hy : a.eval y = .agg (pfx v' m j).toArray) (h : wpList Tryz.prog ops Q rest (a.put o.dst (.slice (some ⟨w.heap.size, 0, none⟩) 2 2)) (w.alloc (.cells (pfx v n k ++ pfx v' m j).toArray 29))) : wpList Tryz.prog ops Q (o :: rest) a w := by
  obtain ⟨i0, hi, hz0, hz1, hz2⟩ := info_parts Tryz.info29
  refine wpList_buildSlice hg 34 29 2 _ ho _ i0 _ Tryz.underlying34 hi hz0 (by rw [hz1]; decide) (by rw [hz1]; decide) ?_ h
  rw [hz1]
  simp only [List.map_toArray, List.map_cons, List.map_nil, hx, hy]
  exact fill2 v n k v' m j

theorem MS.slot {w0 w : World} {gi oi : Nat} {ys : List PX} {A : Option Go.Addr} {c : Nat} {st : List PX} (h : MS w0 w gi oi ys A c st) : Own w 29 18 (.slice A st.length c) st.length (rowX st.reverse) := h.out.own
/-- A prefix is laid on top. -/
theorem appX {ops : Array Oper} {rest : List Oper} {o : Oper} {a : Act} {w : World} {Q : Exit → Act → World → Prop} (hgd : o.guard = none) (s x : Operand)
    (ho : o.op = .call { callee := .builtin .append, args := #[s, x], argTypes := #[34, 34] }) {w0 : World} {gi oi : Nat} {ys : List PX} {A : Option Go.Addr} {c m : Nat} {st : List PX} (hm : st.length = m) (hs : a.eval s = .slice A m c) (hM : MS w0 w gi oi ys A c st)
    (p : PX) (gb : Nat) (hx : a.eval x = .slice (some ⟨gb, 0, none⟩) 1 1) (hb : Blk w gb 29 (pfx p.v p.n p.k)) (hn : m ≤ 1000000001)
    (h : ∀ A' c' w', MS w0 w' gi oi ys A' c' (p :: st) → wpList Tryz.prog ops Q rest (a.put o.dst (.slice A' (m + 1) c')) w') : wpList Tryz.prog ops Q (o :: rest) a w := by
  subst hm
  obtain ⟨i0, hi, hz0, hz1, hz2⟩ := info_parts Tryz.info29
  refine wpList_append_any _ hgd s x 34 ho 29 i0 _ 18 32 Tryz.underlying34 hi hz0 hz1 hz2 rfl (by omega) _ st.length (rowX st.reverse) hs hM.out.own ⟨gb, 0, none⟩ 1 1 p.enc hx (by rw [PX.enc_len]) (fun j u hu => hb.adds0 j u hu) p.enc_one (by unfold maxLen; omega) (by omega) ?_
  intro A' c' w' h1 h2 h3
  exact h A' c' w' (hM.append h1 h2 h3)
theorem Own.takeX' {w : World} {A : Option Go.Addr} {n c m : Nat} {xs ys : List PX} (h : Own w 29 18 (.slice A n c) n (rowX (xs ++ ys))) (hm : xs.length = m) : Own w 29 18 (.slice A m c) m (rowX xs) := by
  by_cases hp : 0 < m
  · exact h.takeX hm hp
  · have hm0 : m = 0 := by omega
    subst hm0
    have hx : xs = [] := List.eq_nil_of_length_eq_zero hm
    subst hx
    rcases h.2 with ⟨h0, hn⟩ | ⟨g, o, c', L, hv, hg, hn, hc, hL, hx⟩
    · subst hn
      rw [h0]; exact Own.nil _ _ _
    · injection hv with hA _ hcc
      subst hA hcc
      exact ⟨rfl, .inr ⟨g, o, c, L, rfl, hg, Nat.zero_le _, hc, hL, by simp [rowX]⟩⟩
/-- The two on top are taken off. -/
theorem MS.drop2 {w0 w : World} {gi oi : Nat} {ys : List PX} {A : Option Go.Addr} {c : Nat} {q p : PX} {r : List PX} (h : MS w0 w gi oi ys A c (q :: p :: r)) : MS w0 w gi oi ys A c r := by
  have h1 := h.out
  refine ⟨h.inr, ⟨?_, ?_, h1.chg⟩, ?_⟩
  · refine Own.takeX' (ys := [p, q]) (n := (q :: p :: r).length) ?_ (by rw [List.length_reverse])
    have := h1.own
    rw [show r.reverse ++ [p, q] = (q :: p :: r).reverse by simp]
    exact this
  · intro k hk
    cases A with
    | none => cases hk
    | some a => exact h1.new k hk
  · have hne := h.ne
    cases A with
    | none => exact fun hk => by cases hk
    | some a => exact hne
theorem who_val (x y : PX) : ((whoP x.v x.n x.k y.v y.n y.k).2 = false ∧ whoX x y = none) ∨ ((whoP x.v x.n x.k y.v y.n y.k).2 = true ∧ ∃ z, whoX x y = some z ∧ z.v = (whoP x.v x.n x.k y.v y.n y.k).1.1 ∧ z.n = (whoP x.v x.n x.k y.v y.n y.k).1.2.1 ∧ (z.k : Int) = (whoP x.v x.n x.k y.v y.n y.k).1.2.2) := by
  rw [whoX_some]
  cases h : whoX x y with
  | none => exact .inl ⟨rfl, rfl⟩
  | some z =>
    refine .inr ⟨rfl, z, rfl, ?_⟩
    unfold whoX at h
    split at h
    · rename_i hc
      injection h with h
      subst h
      unfold whoP
      rw [if_neg (by omega)]
      exact ⟨rfl, by rw [show ((x.k : Int) - 1).toNat = x.k - 1 by omega], by simp only; omega⟩
    · cases h
theorem putX_cov {t p : PX} {r : List PX} (h : covX t p = true) : putX (t :: r) p = t :: r := by simp [putX, h]
theorem putX_not {t p : PX} {r : List PX} (h : covX t p = false) : putX (t :: r) p = squash (p :: t :: r) := by simp [putX, h]
theorem step_bs34 {ops : Array Oper} {o : Oper} {a : Act} {w : World} {K : Act → World → Prop} {Q : Exit → Act → World → Prop} {E : Prop} (hgd : o.guard = none) (x : Operand) (ho : o.op = .buildSlice 34 1 #[(0, x)]) (v : Bool) (n : Nat) (k : Int)
    (hx : a.eval x = .agg (pfx v n k).toArray) (h : K (a.put o.dst (.slice (some ⟨w.heap.size, 0, none⟩) 1 1)) (w.alloc (.cells (pfx v n k).toArray 29))) :
    if Region.wanted o (yielded ops a.tmps) = true then Oper.wp Tryz.prog o a w K Q else E := by
  have hw : Region.wanted o (yielded ops a.tmps) = true := by simp [Region.wanted, hgd]
  rw [if_pos hw]
  obtain ⟨i0, hi, hz0, hz1, hz2⟩ := info_parts Tryz.info29
  refine wp_buildSlice 34 29 1 _ ho _ i0 _ Tryz.underlying34 hi hz0 (by rw [hz1]; decide) (by rw [hz1]; decide) ?_ h
  rw [hz1]
  simp only [List.map_toArray, List.map_cons, List.map_nil, hx]
  exact fill1 v n k
theorem step_appX {ops : Array Oper} {o : Oper} {a : Act} {w : World} {K : Act → World → Prop} {Q : Exit → Act → World → Prop} {E : Prop} (hgd : o.guard = none) (s x : Operand)
    (ho : o.op = .call { callee := .builtin .append, args := #[s, x], argTypes := #[34, 34] }) {w0 : World} {gi oi : Nat} {ys : List PX} {A : Option Go.Addr} {c m : Nat} {st : List PX} (hm : st.length = m) (hs : a.eval s = .slice A m c) (hM : MS w0 w gi oi ys A c st)
    (p : PX) (gb : Nat) (hx : a.eval x = .slice (some ⟨gb, 0, none⟩) 1 1) (hb : Blk w gb 29 (pfx p.v p.n p.k)) (hn : m ≤ 1000000001)
    (h : ∀ A' c' w', MS w0 w' gi oi ys A' c' (p :: st) → Chg (Value.slice A m c).ownBlock.toList w w' → K (a.put o.dst (.slice A' (m + 1) c')) w') :
    if Region.wanted o (yielded ops a.tmps) = true then Oper.wp Tryz.prog o a w K Q else E := by
  subst hm
  obtain ⟨i0, hi, hz0, hz1, hz2⟩ := info_parts Tryz.info29
  refine step_append_any _ hgd s x 34 ho 29 i0 _ 18 32 Tryz.underlying34 hi hz0 hz1 hz2 rfl (by omega) _ st.length (rowX st.reverse) hs hM.out.own ⟨gb, 0, none⟩ 1 1 p.enc hx (by rw [PX.enc_len]) (fun j u hu => hb.adds0 j u hu) p.enc_one (by unfold maxLen; omega) (by omega) ?_
  intro A' c' w' h1 h2 h3
  exact h A' c' w' (hM.append h1 h2 h3) h2
theorem MS.some_ {w0 w : World} {gi oi : Nat} {ys : List PX} {A : Option Go.Addr} {c : Nat} {t : PX} {r : List PX} (h : MS w0 w gi oi ys A c (t :: r)) : ∃ g o, A = some ⟨g, o, none⟩ ∧ (r.length + 1 ≤ c) ∧ c ≤ maxLen ∧ g < w.heap.size ∧ w.rangeAt g (o + r.length * 18) (pfx t.v t.n t.k) := by
  obtain ⟨g, o, c', hv, hn, hc, hg⟩ := h.out.own.some_ (by simp)
  injection hv with hA _ hcc
  subst hA hcc
  refine ⟨g, o, rfl, by simpa using hn, hc, hg, ?_⟩
  intro j u hu
  have hj : j < 18 := by
    have := (List.getElem?_eq_some_iff.1 hu).1
    rwa [pfx_length] at this
  have h2 := h.out.own.cell (a := ⟨g, o, none⟩) (j := r.length * 18 + j) (u := u) (by
    rw [rowX_get _ r.length t j (by rw [List.reverse_cons, List.getElem?_append_right (by simp)]; simp) hj]
    exact hu)
  rw [← Nat.add_assoc] at h2
  exact h2.1
theorem MS.second {w0 w : World} {gi oi : Nat} {ys : List PX} {g o : Nat} {c : Nat} {q p : PX} {r : List PX} (h : MS w0 w gi oi ys (some ⟨g, o, none⟩) c (q :: p :: r)) : w.rangeAt g (o + r.length * 18) (pfx p.v p.n p.k) := by
  intro j u hu
  have hj : j < 18 := by
    have := (List.getElem?_eq_some_iff.1 hu).1
    rwa [pfx_length] at this
  have h2 := h.out.own.cell (a := ⟨g, o, none⟩) (j := r.length * 18 + j) (u := u) (by
    rw [rowX_get _ r.length p j (by rw [List.reverse_cons, List.getElem?_append_left (by simp), List.reverse_cons, List.getElem?_append_right (by simp)]; simp) hj]
    exact hu)
  rw [← Nat.add_assoc] at h2
  exact h2.1

set_option maxHeartbeats 4000000 in
set_option maxRecDepth 100000 in
theorem merge_bad (ps : List RP) (b : Nat) (pb : RP) (hpb : ps[b]? = some pb) (hbad : okP pb.1 pb.2.1 pb.2.2 = false) (hn128 : ∀ p ∈ ps, p.2.1 < 2 ^ 128) (hok : ∀ j p, j < b → ps[j]? = some p → okP p.1 p.2.1 p.2.2 = true)
    (g o n c : Nat) (hl : ps.length = n) (hn : n ≤ 1000000000) (w : World) (h : RowAt w g o (rowP ps)) :
    Calls Tryz.prog 15 #[.slice (some ⟨g, o, none⟩) n c] w fun e w' => e = .returned (.tuple #[.slice none 0 0, .int .i64 151]) ∧ Chg [] w w' := by
  have hbn : b < n := by have := (List.getElem?_eq_some_iff.1 hpb).1; omega
  have HR := hid h
  have HL := hid hl
  have H128 := hid hn128
  have HOK := hid hok
  have HB := hid hpb
  have HBAD := hid hbad
  clear h hl hn128 hok hpb hbad
  go_enter Tryz.func15, Tryz.ntmps15
  go_wp2
  go_loopw [17] (fun iv wr => ∃ i : Nat, i ≤ b ∧ iv = .int .i64 i ∧ Chg [] w wr) (fun iv _ => n - (RowKit.intOf iv).toNat)
  case atStart => exact ⟨0, Nat.zero_le _, rfl, Chg.refl _ _⟩
  case round =>
    obtain ⟨i, hi, rfl, hC⟩ := hrel
    have hlt : (i : Int) < n := by omega
    have i0 : (0 : Int) ≤ (i : Int) := by omega
    obtain ⟨p, hp⟩ : ∃ p, ps[i]? = some p := ⟨_, List.getElem?_eq_getElem (by rw [HL.out]; omega)⟩
    have HG := hid ((HR.out.chg hC (by simp)).at hp)
    have HK := hid (check_N p.1 p.2.1 p.2.2 (H128.out p (List.mem_of_getElem? hp)))
    have HC := hid hC
    clear hC
    by_cases he : i = b
    · have e0 : errP p.1 p.2.1 p.2.2 = 151 := by
        subst he
        rw [HB.out] at hp
        injection hp with hp
        subst hp
        unfold errP
        rw [HBAD.out]; rfl
      rw [e0] at HK
      clear e0 hp he
      go_wp2_with (first | (go_at_call 30; refine (HK.out _).mono ?_; rintro e w2 ⟨rfl, C2⟩) | (refine ldX rfl _ rfl g (o + i * 18) rfl p.1 p.2.1 p.2.2 HG.out ?_) | (refine st29 rfl _ _ rfl wr.heap.size p.1 p.2.1 p.2.2 rfl rfl 29 _ (Blk.new wr 29 zpfx) rfl ?_) | (refine ld29 rfl _ rfl wr.heap.size rfl 29 p.1 p.2.1 p.2.2 ((Blk.new wr 29 zpfx).row _) ?_))
      go_ret2
      exact ⟨rfl, ((HC.out.alloc _).setRow (.inr HC.out.size) _).trans C2⟩
    · have e0 : errP p.1 p.2.1 p.2.2 = 0 := by
        unfold errP
        rw [HOK.out i p (by omega) hp]; rfl
      rw [e0] at HK
      have hi2 : i + 1 ≤ b := by omega
      clear e0 hp he
      go_wp2_with (first | (go_at_call 30; refine (HK.out _).mono ?_; rintro e w2 ⟨rfl, C2⟩) | (refine ldX rfl _ rfl g (o + i * 18) rfl p.1 p.2.1 p.2.2 HG.out ?_) | (refine st29 rfl _ _ rfl wr.heap.size p.1 p.2.1 p.2.2 rfl rfl 29 _ (Blk.new wr 29 zpfx) rfl ?_) | (refine ld29 rfl _ rfl wr.heap.size rfl 29 p.1 p.2.1 p.2.2 ((Blk.new wr 29 zpfx).row _) ?_))
      go_roundw
      case measure => simp [RowKit.intOf]; omega
      case rel => exact ⟨i + 1, hi2, by go_num, ((HC.out.alloc _).setRow (.inr HC.out.size) _).trans C2⟩
end Go.Proofs.YtgpiapmbbnngpaaGreatDoor
