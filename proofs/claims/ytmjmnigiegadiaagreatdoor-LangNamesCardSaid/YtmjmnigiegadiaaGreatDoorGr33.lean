/- LangNames: from where both long texts have been read, on: it returns true. -/
import Derived.Test.YtmjmnigiegadiaaGreatDoorGr32
import Derived.Test.YtmjmnigiegadiaaGreatDoorGr14
import Derived.Test.YtmjmnigiegadiaaGreatDoorRows
import Derived.Shelf.Vars
import Derived.Stop.LaidErr
import Derived.Lib.LaidTab
import Derived.LaidMore
import Derived.Lay
import Derived.LaidByTextLater
import Derived.LaidHandle
namespace Go.Proofs.YtmjmnigiegadiaaGreatDoor
open Go Go.RowKit Go.Lib Go.Sort Ax
set_option maxRecDepth 100000
theorem leave_end (v7 v8 : Nat × Value) (ys : List Value) : leaveC Tryz.prog (opRa (Lay.grd (Lt v7 v8)) (XL v7 v8)) (opRd (Lay.grd (Lt v7 v8)) (XL v7 v8) (ML v7 v8)) (ML v7 v8).rc Tryz.f3 .r (sR ys) = some ⟨false, .v (.bool true), (sR ys).mem⟩ := by kernel_rfl
theorem loop_B4 (v7 v8 : Nat × Value) (ys : List Value) : exL v7 v8 (.loop cB4) (sB ys) = some (.x 4, sX ys) := by
  show exC _ _ _ _ _ _ (.loop cB4) (sB ys) = _
  rw [exC_loop]
  refine loopC_on (k := 99999) (d0 v7 v8 ys) ?_
  refine loopC_on (k := 99998) (d1 v7 v8 ys) ?_
  refine loopC_on (k := 99997) (d2 v7 v8 ys) ?_
  refine loopC_on (k := 99996) (d3 v7 v8 ys) ?_
  refine loopC_on (k := 99995) (d4 v7 v8 ys) ?_
  refine loopC_on (k := 99994) (d5 v7 v8 ys) ?_
  refine loopC_on (k := 99993) (d6 v7 v8 ys) ?_
  refine loopC_on (k := 99992) (d7 v7 v8 ys) ?_
  exact loopC_off (k := 99991) (dX v7 v8 ys)
theorem exC_inv {P : Program} {op opD : Opf} {rc : Rc} {n : Nat} {jump : Code → Cst → Option (Ed × Cst)} {x y : Code} {s s' : Cst} (h : exC P op opD rc n jump (.seq x y) s = some (.n, s')) : ∃ s1, exC P op opD rc n jump x s = some (.n, s1) ∧ exC P op opD rc n jump y s1 = some (.n, s') := by
  rw [exC] at h
  split at h
  · rename_i s1 h1
    exact ⟨s1, h1, h⟩
  · rename_i hne
    exact absurd h (hne s')
theorem code5 : sndN 5 cF = .seq (fstS (sndN 5 cF)) (.seq (fstS (sndN 6 cF)) (.seq (fstS (sndN 7 cF)) (.seq (fstS (sndN 8 cF)) (.seq (fstS (sndN 9 cF)) (sndN 10 cF))))) := by kernel_rfl
theorem code10 : sndN 10 cF = .seq (fstS (sndN 10 cF)) (.seq (.seq (fstS (fstS (sndN 11 cF))) (.block 4 (.loop cB4))) (sndN 12 cF)) := by kernel_rfl
/-- From the store on: it returns true. -/
theorem rest10 (v7 v8 : Nat × Value) (ys : List Value) : exL v7 v8 (sndN 10 cF) (sA ys) = some (.r, sR ys) := by
  rw [code10]
  obtain ⟨s1, h1, h2⟩ := exC_inv (show exC _ _ _ _ _ _ _ _ = _ from dB v7 v8 ys)
  refine exC_seq h1 ?_
  refine exC_seq (exC_seq h2 (exC_block (loop_B4 v7 v8 ys))) ?_
  exact dR v7 v8 ys
/-- **From where both long texts have been read, on: it returns true.** -/
theorem rest5 (v7 v8 : Nat × Value) (x0 : Value) (ys : List Value) : exL v7 v8 (sndN 5 cF) (st1 (x0 :: ys)) = some (.r, sR ys) := by
  rw [code5]
  obtain ⟨s1, h1, h2⟩ := exC_inv (show exC _ _ _ _ _ _ _ _ = _ from dA v7 v8 x0 ys)
  obtain ⟨s2, h3, h4⟩ := exC_inv h2
  obtain ⟨s3, h5, h6⟩ := exC_inv h4
  obtain ⟨s4, h7, h8⟩ := exC_inv h6
  exact exC_seq h1 (exC_seq h3 (exC_seq h5 (exC_seq h7 (exC_seq h8 (rest10 v7 v8 ys)))))
end Go.Proofs.YtmjmnigiegadiaaGreatDoor

/- LangNames returns true, where its package variables are laid. -/
namespace Go.Proofs.YtmjmnigiegadiaaGreatDoor
open Go Go.RowKit Go.Lib Go.Sort Ax
set_option maxRecDepth 100000
theorem body3 : Tryz.f3.body = some cF := by kernel_rfl
theorem nt3 : Tryz.f3.ntmps = 157 := by kernel_rfl
theorem six : sndN 1 (sndN 4 cF) = sndN 5 cF := by kernel_rfl
def be : Env := ⟨fun _ => 0, fun _ => undef, fun _ => No⟩
theorem hd0 (W : World) : Hd ⟨[], 0, be⟩ ⟨W, No⟩ 157 be ⟨[], []⟩ ⟨Array.replicate 157 undef, []⟩ W :=
  ⟨by simp, rfl, fun t sv h => (by cases h), fun i r h => (by simp at h), fun i r k h => (by simp at h), fun i j r r' k h => (by simp at h), Cg.refl _ _, fun t sv h => (by cases h), fun i r h => (by simp at h), fun i h => absurd h (Nat.not_lt_zero i)⟩
theorem names_wp (v7 v8 : Nat × Value) (W : World) (hG : LayOk (Lt v7 v8) ⟨W, No⟩) (fil : Nat → List Value) (s s' : ByteArray) (x0 : Value) (ys em : List Value) (h00 : zerosL [.int .u8 0] 65537 = fil 0) (hst : ∀ i, i < 65537 → i + 1 ≤ (fil i).length ∧ (fil i).take i ++ ([ten] ++ (fil i).drop (i + 1)) = fil (i + 1)) (hs : s.size = 65537) (hx : fil 65537 = s.data.toList.map fun x => .int .u8 (x.toNat : Int))
    (hs' : s'.size = 65536) (hx' : ((x0 :: ys).drop (0 * 1)).take (65536 * 1) = s'.data.toList.map fun x => .int .u8 (x.toNat : Int)) (hN : CN em ⟨W, No⟩ s') (he : fil 65537 = x0 :: ys) :
    cF.wp Tryz.prog (Rz ⟨W, No⟩ 157 be 0 .r (sR ys)) ⟨Array.replicate 157 undef, []⟩ W := by
  refine ex_pre (ds := ⟨[], 0, be⟩) hmT (inD_ok hmT 4) rfl endS_n 4 cF _ _ _ ⟨[], []⟩ be _ W (hd0 W) (begin_A W fil s h00 hst hs hx) fun β1 st1' a1 w1 hk1 h1 => ?_
  obtain ⟨β2, h2⟩ := h1.same rfl hk1
  rw [he] at h2
  refine ex_pre (ds := ⟨[], 0, be⟩) hmT (inD_ok hmT 4) rfl endS_n 1 (sndN 4 cF) _ _ _ ⟨frA, memA (x0 :: ys)⟩ β2 a1 w1 h2 (begin_B W (x0 :: ys) s' em hs' hx' hN) fun β3 st3 a3 w3 hk3 h3 => ?_
  obtain ⟨β4, h4⟩ := h3.same rfl hk3
  rw [six]
  have hq : Hq ⟨W, No⟩ 157 β4 (st1 (x0 :: ys)) a3 w3 := ⟨h4.reds, h4.dn, fun d hd => by cases hd⟩
  exact Code.wp_mono (fun x a w ⟨β5, k1, _, k3⟩ => ⟨β5, k1, fun i hi => absurd hi (Nat.not_lt_zero i), k3⟩) (rest_ok (Lay.grd (Lt v7 v8)) (XL v7 v8) (ML v7 v8) hmT hG (rest5 v7 v8 x0 ys) hq)
def fillN (N i : Nat) : List Value := List.replicate i ten ++ List.replicate (N - i) (.int .u8 0)
theorem fill_zero (N : Nat) : zerosL [.int .u8 0] N = fillN N 0 := by
  unfold zerosL fillN
  rw [List.flatten_replicate_singleton]
  exact (List.nil_append _).symm
theorem fill_step (N i : Nat) (h : i < N) : i + 1 ≤ (fillN N i).length ∧ (fillN N i).take i ++ ([ten] ++ (fillN N i).drop (i + 1)) = fillN N (i + 1) := by
  obtain ⟨k, rfl⟩ : ∃ k, N = i + 1 + k := ⟨N - (i + 1), by omega⟩
  unfold fillN
  rw [show i + 1 + k - i = k + 1 by omega, show i + 1 + k - (i + 1) = k by omega]
  refine ⟨by simp, ?_⟩
  rw [List.take_append_of_le_length (by simp), List.take_of_length_le (by simp), List.drop_append, List.drop_of_length_le (by simp), List.length_replicate, show i + 1 - i = 1 by omega, List.replicate_succ, List.replicate_succ']
  simp
theorem fill_end (N : Nat) : fillN N N = (nlB N).data.toList.map fun x => .int .u8 (x.toNat : Int) := by
  unfold fillN
  rw [nl_list, List.map_replicate, Nat.sub_self]
  simp [ten]
theorem fill_cons (N : Nat) : fillN (N + 1) (N + 1) = ten :: List.replicate N ten := by
  unfold fillN
  rw [Nat.sub_self, List.replicate_succ]
  simp
theorem fill_part (N : Nat) : ((ten :: List.replicate N ten).drop (0 * 1)).take (N * 1) = (nlB N).data.toList.map fun x => .int .u8 (x.toNat : Int) := by
  rw [nl_list, List.map_replicate, Nat.zero_mul, List.drop_zero, Nat.mul_one, ← List.replicate_succ, List.take_replicate, Nat.min_eq_left (Nat.le_succ N)]
  rfl
theorem em_at (n : Nat) : ∀ i, i < n → (List.replicate n (Value.string ⟨#[]⟩))[i]? = some (.string ⟨#[]⟩) := fun i hi => by
  rw [List.getElem?_replicate, if_pos hi]
/-- **LangNames returns true.** -/
theorem names_calls (v7 v8 : Nat × Value) (W : World) (m : Int) (hG : LayOk (Lt v7 v8) ⟨W, No⟩) (h1 : 1 < W.heap.size) (h1c : W.cell? ⟨1, 0, none⟩ = some (.int .i64 m)) : Calls Tryz.prog 3 #[] W fun e W' => e = .returned (.bool true) ∧ Cg No W W' := by
  obtain ⟨fil, hf⟩ : ∃ fil, fil = fillN 65537 := ⟨_, rfl⟩
  obtain ⟨s, hs⟩ : ∃ s, s = nlB 65537 := ⟨_, rfl⟩
  obtain ⟨s', hs'⟩ : ∃ s', s' = nlB 65536 := ⟨_, rfl⟩
  obtain ⟨ys, hys⟩ : ∃ ys, ys = List.replicate 65536 ten := ⟨_, rfl⟩
  obtain ⟨em, hem⟩ : ∃ em, em = List.replicate (65536 + 1) (Value.string ⟨#[]⟩) := ⟨_, rfl⟩
  have hwp := names_wp v7 v8 W hG fil s s' ten ys em (by rw [hf]; exact fill_zero _) (fun i hi => by rw [hf]; exact fill_step _ i hi) (by rw [hs]; exact nl_size _) (by rw [hf, hs]; exact fill_end _) (by rw [hs']; exact nl_size _) (by rw [hys, hs']; exact fill_part _)
    (by rw [hs', hem]; exact ⟨nl_size _, splitIs_nl h1 (fun h => h) h1c (by omega), em_at _⟩) (by rw [hf, hys]; exact fill_cons _)
  have := callC_wp (P := Tryz.prog) (b := ⟨W, No⟩) (rc := (ML v7 v8).rc) (args := []) (mem := []) (β := be) (w := W) hNT (opRa_ok (Lay.grd (Lt v7 v8)) (XL v7 v8) hG) (opRd_ok (Lay.grd (Lt v7 v8)) (XL v7 v8) (ML v7 v8) hG) hmT ((ML v7 v8).ok _ hG) Tryz.func3 body3 (leave_end v7 v8 ys) (by rw [nt3]; exact hwp)
  refine this.mono fun e w' hp => ?_
  obtain ⟨β', k1, _, _, _, rfl⟩ := hp
  exact ⟨rfl, k1.cg⟩
end Go.Proofs.YtmjmnigiegadiaaGreatDoor

/- The package variables: from what the row lists to what the run asks; a world for a witness. -/
namespace Go.Proofs.YtmjmnigiegadiaaGreatDoor
open Go Go.RowKit Go.Lib Go.Sort Go.ChangeShapes Go.WideShapes Ax
set_option maxRecDepth 100000
theorem iface_head {P : Program} {W : World} {n nm : String} {d : DataW Unit} {r : List (String × DataW Unit)} {g ti : Nat} {ms : Array (String × TypeId)} (h : laidMet P ((n, .iface nm d) :: r) W) (hg : P.globalNamed n = some g) (ht : (P.globals[g]?).map (·.type) = some ti) (hi : P.underlying ti = some (.interface ms)) :
    ∃ te pe, W.cell? ⟨g, 0, none⟩ = some (.iface te pe) := by
  obtain ⟨ps, ⟨g0, t0, cs0, f0, p0, q0, hg0, ht0, hv0, hd0, _, e0⟩, _, hrows⟩ := h
  obtain rfl := Option.some.inj (hg.symm.trans hg0)
  obtain rfl := Option.some.inj (ht.symm.trans ht0)
  obtain ⟨l0⟩ := cs0
  obtain ⟨f1, u, v, e, _, _⟩ := iface_of_trod hi hd0
  refine ⟨u, v, ?_⟩
  simp only at e
  subst e
  simpa using World.var?_cell hg0 hv0 0
def laidL : List (String × DataW Unit) := Rows.langNamesRow.laid
theorem g1_size : 1 < Tryz.prog.globals.size := of_decide_eq_true (by kernel_rfl)
theorem g8_size : 8 < Tryz.prog.globals.size := of_decide_eq_true (by kernel_rfl)
theorem zero8 : (((begin Tryz.prog (fun _ _ => 0) default).world.heap[8]?).bind Obj.row?).isSome = true := by kernel_rfl
theorem et_global : Tryz.prog.globalNamed "errors.errorType" = some 0 := by kernel_rfl
theorem rt_type : (Tryz.prog.cutTypes.find? (·.1 == "internal/reflectlite.rtype")).map (·.2) = some 141 := by kernel_rfl
theorem types_size : Tryz.prog.types.size = 289 := by kernel_rfl
theorem oneRow : ((List.range 289).filter fun t => Tryz.prog.rowNamed t [101, 114, 114, 111, 114]) = [31] := by kernel_rfl
theorem handle_of_laid {W : World} (h : handlesMet Tryz.prog [("errors.errorType", Rows.laid_errors_errorType)] W) : W.cell? ⟨0, 0, none⟩ = some (.iface 141 (.agg #[.pointer (some ⟨9, 31, none⟩)])) := by
  obtain ⟨name, u, ty, e1, e2, e3, e4, e5⟩ := h _ (List.mem_singleton.2 rfl)
  have en : name = [101, 114, 114, 111, 114] := (Option.some.inj e1).symm
  subst en
  obtain rfl := Option.some.inj (rt_type.symm.trans e2)
  have hm : ty ∈ (List.range 289).filter fun t => Tryz.prog.rowNamed t [101, 114, 114, 111, 114] := List.mem_filter.2 ⟨List.mem_range.2 (by rw [← types_size]; exact e3), e4⟩
  rw [oneRow] at hm
  obtain rfl := List.mem_singleton.1 hm
  have hh : typeHandle Tryz.prog 31 = .pointer (some ⟨9, 31, none⟩) := by kernel_rfl
  rw [hh] at e5
  simpa using World.var?_cell et_global e5 0
def powI : List Int := [1, 10, 100, 1000, 10000, 100000, 1000000, 10000000, 100000000, 1000000000, 10000000000, 100000000000, 1000000000000, 10000000000000, 100000000000000, 1000000000000000, 10000000000000000, 100000000000000000, 1000000000000000000, 10000000000000000000]
theorem pow_at (j : Nat) (h : j < 20) : powL[j]? = some (.int .u64 (powI.getD j 0)) := by
  have e : powL = powI.map fun z => .int .u64 z := rfl
  rw [e, List.getElem?_map, List.getD_eq_getElem?_getD, List.getElem?_eq_getElem (show j < powI.length from h)]
  rfl
theorem one_cell {W : World} {g : Nat} {x : Value} (h : W.cell? ⟨g, 0, none⟩ = some x) : ∀ (j : Nat) (u : Value), [x][j]? = some u → W.cell? ⟨g, j, none⟩ = some u := fun j u hu => by
  match j, hu with
  | 0, hu => cases hu; exact h
/-- What the run asks of the world. -/
theorem lay_of {W : World} (hL : laidMetH Tryz.prog laidL W) (hS : W.ShapedOpen Tryz.prog) : ∃ (v7 v8 : Nat × Value) (m : Int), LayOk (Lt v7 v8) ⟨W, No⟩ ∧ 1 < W.heap.size ∧ W.cell? ⟨1, 0, none⟩ = some (.int .i64 m) := by
  have h' : laidMet Tryz.prog (("math/bits.deBruijn32tab", Rows.laid_math_bits_deBruijn32tab) :: ("math/bits.deBruijn64tab", Rows.laid_math_bits_deBruijn64tab) :: ("internal/strconv.uint64pow10", Rows.laid_internal_strconv_uint64pow10) :: ("unicode/utf8.acceptRanges", Rows.laid_unicode_utf8_acceptRanges) :: ("strconv.ErrRange", Rows.laid_strconv_ErrRange) :: ("strconv.ErrSyntax", Rows.laid_strconv_ErrSyntax) :: ("unicode/utf8.first", Rows.laid_unicode_utf8_first) :: []) W ∧ handlesMet Tryz.prog [("errors.errorType", Rows.laid_errors_errorType)] W := hL
  obtain ⟨t0, th⟩ := h'
  have t2 := laidMet.tail (laidMet.tail t0)
  have t4 := laidMet.tail (laidMet.tail t2)
  have t5 := laidMet.tail t4
  have h2 : Lib.TabIs Tryz.prog W "internal/strconv.uint64pow10" .u64 powI :=
    Lib.tabIs_of_head (show Tryz.prog.globalNamed "internal/strconv.uint64pow10" = some 2 by kernel_rfl) (show (Tryz.prog.globals[2]?).map (·.type) = some 224 by kernel_rfl) Tryz.underlying224 Tryz.underlying105 (by kernel_rfl) (by kernel_rfl) t2
  obtain ⟨te2, pe2, h8⟩ := iface_head t4 (show Tryz.prog.globalNamed "strconv.ErrRange" = some 8 by kernel_rfl) (show (Tryz.prog.globals[8]?).map (·.type) = some 31 by kernel_rfl) Tryz.underlying31
  obtain ⟨te1, pe1, h7⟩ := iface_head t5 (show Tryz.prog.globalNamed "strconv.ErrSyntax" = some 7 by kernel_rfl) (show (Tryz.prog.globals[7]?).map (·.type) = some 31 by kernel_rfl) Tryz.underlying31
  obtain ⟨m, h1⟩ := cell_of_shapedOpen_int (P := Tryz.prog) (g := 1) (t := 3) (zero := #[.int .i64 0]) hS g1_size (by kernel_rfl) rfl (by kernel_rfl) (by kernel_rfl) Tryz.underlying3
  have hlow : 9 ≤ W.heap.size := by
    obtain ⟨⟨z, t⟩, hz⟩ := Option.isSome_iff_exists.1 zero8
    obtain ⟨cs, hh, _⟩ := hS.1 8 z t g8_size hz
    have : 8 < W.heap.size := by
      rcases Nat.lt_or_ge 8 W.heap.size with h | h
      · exact h
      · rw [Array.getElem?_eq_none h] at hh; cases hh
    omega
  refine ⟨(te1, pe1), (te2, pe2), m, fun q hq => ?_, by omega, h1⟩
  unfold Lt at hq
  rcases List.mem_cons.1 hq with rfl | hq
  · exact ⟨Nat.lt_of_lt_of_le (by decide) hlow, fun h => h, one_cell (handle_of_laid th)⟩
  rcases List.mem_cons.1 hq with rfl | hq
  · refine ⟨Nat.lt_of_lt_of_le (by decide) hlow, fun h => h, fun j u hu => ?_⟩
    have hj : j < 20 := (List.getElem?_eq_some_iff.1 hu).1
    have := h2.cell (show Tryz.prog.globalNamed "internal/strconv.uint64pow10" = some 2 by kernel_rfl) j hj
    rw [← hu, pow_at j hj]
    exact this
  rcases List.mem_cons.1 hq with rfl | hq
  · exact ⟨Nat.lt_of_lt_of_le (show 7 < 9 by decide) hlow, fun h => h, one_cell h7⟩
  rcases List.mem_cons.1 hq with rfl | hq
  · exact ⟨Nat.lt_of_lt_of_le (show 8 < 9 by decide) hlow, fun h => h, one_cell h8⟩
  cases hq
/-- A world for a witness: the handle's cell laid, every listed variable as the row lists it. -/
noncomputable def laidStart (os : Os) : World :=
  let w0 := World.holding Tryz.prog os ⟨#[], #[], []⟩
  { w0 with heap := w0.heap.modify 0 fun
      | .cells _ t frozen => .cells #[.iface 141 (.agg #[.pointer (some ⟨9, 31, none⟩)])] t frozen
      | o => o }
def laidP : List (String × DataW Unit) := laidL.filter fun x => x.2.handleName?.isNone
noncomputable def laidWorld (os : Os) : World := (laidStart os).layVars Tryz.prog laidP
theorem laidP_met (os : Os) : laidMet Tryz.prog laidP (laidWorld os) := by
  have e1 : (laidP.filter fun x => (laidP.map (·.1)).contains x.1) = laidP := List.filter_eq_self.2 fun x hx => List.contains_iff_mem.2 (List.mem_map.2 ⟨x, hx, rfl⟩)
  have e2 : (laidP.filter fun x => !(laidP.map (·.1)).contains x.1) = [] := List.filter_eq_nil_iff.2 fun x hx => by rw [List.contains_iff_mem.2 (List.mem_map.2 ⟨x, hx, rfl⟩)]; simp
  exact laidMet_layVars (w0 := laidStart os) (laidP.map (·.1)) [] (by rw [e1]; rfl) (by rw [e1]; kernel_rfl) (by rw [e1]; kernel_rfl) (by rw [e2]; exact LaidIn.none)
theorem laid_met (os : Os) (args : Array Value) : laidMetH Tryz.prog laidL ((laidWorld os).forCall (fun _ _ => 0) ⟨#[], args, []⟩).memory :=
  laidMetH_of_parts ((laidP_met os).of_heap (by simp [World.memory, World.forCall, Input.heap])) (by kernel_rfl)
end Go.Proofs.YtmjmnigiegadiaaGreatDoor
