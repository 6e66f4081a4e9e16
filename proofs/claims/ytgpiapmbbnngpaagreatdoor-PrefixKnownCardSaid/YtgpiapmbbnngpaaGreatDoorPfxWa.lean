/- Addresses in memory; width, masked, walked. -/
import Derived.Test.YtgpiapmbbnngpaaGreatDoorRows
import Derived.Test.YtgpiapmbbnngpaaGreatDoorLibM
import Derived.Test.YtgpiapmbbnngpaaGreatDoorPfxPl
import Derived.Deep.QuietTactic
import Derived.BigQuiet
import Derived.RegionTactic
import Derived.BigRegion
import Derived.DeepKeys
import Derived.Test.YtgpiapmbbnngpaaGreatDoorShelf
import Derived.Laws.BitsAllLaws
namespace Go.Proofs.YtgpiapmbbnngpaaGreatDoor
open Go.RowKit Go.Lib

/-- An address's cells: is it of IPv6; its bytes. -/
def adrV (v : Bool) (f : Nat → Nat) : List Value := .bool v :: (List.range 16).map (fun j => .int .u8 (f j : Int))
theorem adrV_length (v : Bool) (f : Nat → Nat) : (adrV v f).length = 17 := by simp [adrV]
theorem adrV_bool (v : Bool) (f : Nat → Nat) : (adrV v f)[0]? = some (.bool v) := rfl
theorem adrV_byte (v : Bool) (f : Nat → Nat) (i : Nat) (hi : i < 16) : (adrV v f)[1 + i]? = some (.int .u8 (f i : Int)) := by
  rw [Nat.add_comm]; simp [adrV, hi]

set_option maxHeartbeats 1000000 in
theorem width_any (v : Bool) (f : Nat → Nat) (w : World) :
    Calls Tryz.prog 55 #[.agg (adrV v f).toArray] w fun e w' => e = .returned (.int .i64 (wid v : Nat)) ∧ Chg [] w w' := by
  have b0 := Blk.new w 24 (adrV v f).toArray
  have c0 := b0.cell_of (i := 0) (v := .bool v) rfl
  have fin := hid ((Chg.refl [] w).alloc (.cells (adrV v f).toArray 24))
  cases v
  · go_enter Tryz.func55, Tryz.ntmps55
    go_wp2
    go_ret
    exact ⟨rfl, fin.out⟩
  · go_enter Tryz.func55, Tryz.ntmps55
    go_wp2
    go_ret
    exact ⟨rfl, fin.out⟩

theorem size24 : (Tryz.prog.info? 24).map (·.size) = some 17 := by kernel_rfl
/-- A whole address is read out of its block. -/
theorem ld24 {ops : Array Oper} {rest : List Oper} {o : Oper} {a : Act} {w : World} {Q : Exit → Act → World → Prop} (hgd : o.guard = none) (x : Operand) (ho : o.op = .load 24 x)
    (g : Nat) (hx : a.eval x = .pointer (some ⟨g, 0, none⟩)) (t : TypeId) (v : Bool) (f : Nat → Nat) (hb : Blk w g t (adrV v f))
    (h : wpList Tryz.prog ops Q rest (a.put o.dst (.agg (adrV v f).toArray)) w) : wpList Tryz.prog ops Q (o :: rest) a w :=
  wpList_load_row hgd 24 x ho g hx t _ (0, 0) _ hb Tryz.underlying24 rfl (size24.trans (by simp [adrV])) h
theorem adrV_ones (v : Bool) (f : Nat → Nat) : (adrV v f).toArray.all (·.oneCell') = true := by
  simp [adrV, Value.oneCell']
/-- A whole address goes into its block. -/
theorem st24 {ops : Array Oper} {rest : List Oper} {o : Oper} {a : Act} {w : World} {Q : Exit → Act → World → Prop} (hgd : o.guard = none) (x y : Operand) (ho : o.op = .store 24 x y)
    (g : Nat) (v : Bool) (f : Nat → Nat) (hx : a.eval x = .pointer (some ⟨g, 0, none⟩)) (hy : a.eval y = .agg (adrV v f).toArray) (t : TypeId) (old : List Value) (hb : Blk w g t old) (hl : old.length = 17)
    (h : wpList Tryz.prog ops Q rest (a.put o.dst undef) (w.setRow g (adrV v f).toArray)) : wpList Tryz.prog ops Q (o :: rest) a w :=
  wpList_store_row hgd 24 x y ho g _ hx hy t old.toArray hb (size24.trans (by simp [adrV])) (by simp [adrV, hl]) (adrV_ones v f) h

/-- A result of type Addr, by its cell. -/
theorem rs24 {fn : Func} {p : Tmp} (h : fn.results = #[.cell p 24]) (tmps : Array Value) (w : World) (g : Nat) (v : Bool) (f : Nat → Nat) (t : TypeId)
    (hp : tmps.getD p undef = .pointer (some ⟨g, 0, none⟩)) (hb : Blk w g t (adrV v f)) : (results fn tmps).run Tryz.prog w = .ok (.agg (adrV v f).toArray) w :=
  results_cell_row h tmps w g t _ (0, 0) _ hp hb Tryz.underlying24 rfl (size24.trans (by simp [adrV]))
theorem adrV_ext (v : Bool) {f g : Nat → Nat} (h : ∀ j, j < 16 → f j = g j) : adrV v f = adrV v g := by
  unfold adrV
  congr 1
  exact List.map_congr_left fun j hj => by rw [h j (by simpa using hj)]

/-- Where the loop stands. -/
def mixF (K : Nat) (f : Nat → Nat) (i j : Nat) : Nat := if j < i then maskB K j (f j) else f j
theorem adrV_set (v : Bool) (f g : Nat → Nat) (i x : Nat) (hg : g i = x) (he : ∀ j, j < 16 → j ≠ i → g j = f j) : (adrV v f).set (1 + i) (.int .u8 (x : Int)) = adrV v g := by
  apply List.ext_getElem? 
  intro j
  rw [List.getElem?_set, adrV_length]
  by_cases h1 : 1 + i = j
  · subst h1
    rw [if_pos rfl]
    by_cases hi : i < 16
    · rw [adrV_byte v g i hi, if_pos (by omega), hg]
    · rw [if_neg (by omega), List.getElem?_eq_none (by rw [adrV_length]; omega)]
  · rw [if_neg h1]
    cases j with
    | zero => rfl
    | succ j =>
      rw [Nat.add_comm j 1]
      by_cases hj : j < 16
      · rw [adrV_byte v f j hj, adrV_byte v g j hj, he j hj (by omega)]
      · rw [List.getElem?_eq_none (by rw [adrV_length]; omega), List.getElem?_eq_none (by rw [adrV_length]; omega)]

theorem mix_at {K i x : Nat} {f : Nat → Nat} (h : maskB K i (f i) = x) : mixF K f (i + 1) i = x := by unfold mixF; rw [if_pos (by omega), h]
theorem mix_up (K : Nat) (f : Nat → Nat) (i j : Nat) (_ : j < 16) (hj : j ≠ i) : mixF K f (i + 1) j = mixF K f i j := by
  unfold mixF
  by_cases h : j < i
  · rw [if_pos h, if_pos (by omega)]
  · rw [if_neg h, if_neg (by omega)]

theorem and_top_all : ∀ (x : Fin 256) (s : Fin 8), bits BinOp.and IntKind.u8 (x.val : Int) (255 * 2 ^ s.val % 256) = ((x.val / 2 ^ s.val * 2 ^ s.val : Nat) : Int) := by decide +kernel
theorem and_top (x s : Nat) (hx : x < 256) (hs : s < 8) : bits BinOp.and IntKind.u8 (x : Int) (255 * 2 ^ s % 256) = ((x / 2 ^ s * 2 ^ s : Nat) : Int) := and_top_all ⟨x, hx⟩ ⟨s, hs⟩

set_option maxHeartbeats 2000000 in
theorem masked_any (v : Bool) (f : Nat → Nat) (K : Nat) (hf : ∀ j, f j < 256) (hK : K ≤ 128) (w : World) :
    Calls Tryz.prog 56 #[.agg (adrV v f).toArray, .int .i64 K] w fun e w' => e = .returned (.agg (adrV v fun j => maskB K j (f j)).toArray) ∧ Chg [] w w' := by
  have HS := hid (show Blk ((w.alloc (.cells (adrV v f).toArray 24)).alloc (.cells (adrV false fun _ => 0).toArray 24)) w.heap.size 24 (adrV v (mixF K f 0)) from (Blk.new w 24 (adrV v f).toArray).alloc _)
  have HR := hid (show Blk ((w.alloc (.cells (adrV v f).toArray 24)).alloc (.cells (adrV false fun _ => 0).toArray 24)) (w.heap.size + 1) 24 (adrV false fun _ => 0) from Blk.new_at _ 24 (adrV false fun _ => 0).toArray (by simp))
  have HC := hid (((Chg.refl [] w).alloc (.cells (adrV v f).toArray 24)).alloc (.cells (adrV false fun _ => 0).toArray 24))
  go_enter Tryz.func56, Tryz.ntmps56
  go_wp2
  go_loopw [7] (fun iv wr => ∃ i : Nat, i ≤ 16 ∧ iv = .int .i64 i ∧ Blk wr w.heap.size 24 (adrV v (mixF K f i)) ∧ Blk wr (w.heap.size + 1) 24 (adrV false fun _ => 0) ∧ Chg [] w wr) (fun iv _ => 16 - (RowKit.intOf iv).toNat)
  case atStart => exact ⟨0, by omega, rfl, HS.out, HR.out, HC.out⟩
  case round =>
    obtain ⟨i, hi, rfl, hS, hR, hC⟩ := hrel
    by_cases hlt : (i : Int) < 16
    · have i0 : (0 : Int) ≤ (i : Int) := by omega
      have c1 := hS.cell_of (adrV_byte v (mixF K f i) i (by omega))
      have f1 := hS.frozen (1 + i)
      by_cases h1 : (K : Int) - 8 * (i : Int) ≤ 0
      · go_wp2
        go_roundw
        case measure => simp [RowKit.intOf]; omega
        case rel =>
          refine ⟨i + 1, by omega, by go_num, ?_, hR.far (by simp) _, hC.set1 (Nat.le_refl _) _ _⟩
          have hs := hS.set_ (1 + i) (.int .u8 0)
          have e := adrV_set v (mixF K f i) (mixF K f (i + 1)) i 0 (mix_at (by unfold maskB; rw [if_pos (by omega)])) (mix_up K f i)
          exact e ▸ hs
      · by_cases h2 : (K : Int) - 8 * (i : Int) < 8
        · obtain ⟨s, hs⟩ : ∃ s : Nat, s = 8 * i + 8 - K := ⟨_, rfl⟩
          have es : (8 : Int) - ((K : Int) - 8 * (i : Int)) = (s : Int) := by omega
          have s0 : (0 : Int) ≤ (s : Int) := by omega
          go_wp2
          go_region
          go_wp2
          go_roundw
          case measure => simp [RowKit.intOf]; omega
          case rel =>
            refine ⟨i + 1, by omega, by go_num, ?_, (hR.far (by simp) _).drewN 1, (hC.set1 (Nat.le_refl _) _ _).drew⟩
            have hv : bits BinOp.and IntKind.u8 (mixF K f i i : Int) (255 * 2 ^ (8 * i + 8 - K) % 256) = ((maskB K i (f i) : Nat) : Int) := by
              rw [show mixF K f i i = f i by unfold mixF; rw [if_neg (by omega)], and_top (f i) (8 * i + 8 - K) (hf i) (by omega)]
              unfold maskB; rw [if_neg (by omega), if_pos (by omega)]
            rw [hv]
            have hs := hS.set_ (1 + i) (.int .u8 ((maskB K i (f i) : Nat) : Int))
            have e := adrV_set v (mixF K f i) (mixF K f (i + 1)) i _ (mix_at rfl) (mix_up K f i)
            exact (e ▸ hs).drewN 1
        · go_wp2
          go_roundw
          case measure => simp [RowKit.intOf]; omega
          case rel =>
            refine ⟨i + 1, by omega, by go_num, ?_, hR, hC⟩
            rwa [adrV_ext v (f := mixF K f i) (g := mixF K f (i + 1)) (fun j _ => by
              unfold mixF
              by_cases h : j < i
              · rw [if_pos h, if_pos (by omega)]
              · rw [if_neg h]
                by_cases h3 : j = i
                · subst h3; rw [if_pos (by omega)]; unfold maskB; rw [if_neg (by omega), if_neg (by omega)]
                · rw [if_neg (by omega)])] at hS
    · have hi16 : i = 16 := by omega
      subst hi16
      go_wp2_with (first | (refine ld24 rfl _ rfl w.heap.size rfl 24 v _ hS ?_) | (refine st24 rfl _ _ rfl (w.heap.size + 1) v _ rfl rfl 24 _ hR (adrV_length _ _) ?_))
      refine bodyPost_ret (rs24 rfl _ _ (w.heap.size + 1) v (fun j => maskB K j (f j)) 24 rfl ?_) rfl ⟨rfl, hC.setRow (.inr (by omega)) _⟩
      have hs := hR.row (adrV v (mixF K f 16))
      rwa [adrV_ext v (f := mixF K f 16) (g := fun j => maskB K j (f j)) (fun j hj => if_pos hj)] at hs
end Go.Proofs.YtgpiapmbbnngpaaGreatDoor

/- Addresses compared; CheckAddr walked. -/
namespace Go.Proofs.YtgpiapmbbnngpaaGreatDoor
open Go.RowKit Go.Lib Go.Sort

def bytV (f : Nat → Nat) : List Value := (List.range 16).map (fun j => .int .u8 (f j : Int))
def bytL (f : Nat → Nat) : List Lit := (List.range 16).map (fun j => .int .u8 (f j : Int))
def sameF (f g : Nat → Nat) : Bool := (List.range 16).all fun j => f j == g j
theorem sameF_iff (f g : Nat → Nat) : sameF f g = true ↔ ∀ j, j < 16 → f j = g j := by simp [sameF]
theorem bytL_eq (f g : Nat → Nat) : bytL f = bytL g ↔ sameF f g = true := by
  rw [sameF_iff]
  unfold bytL
  rw [List.map_inj_left]
  constructor
  · intro h j hj
    have := h j (by simpa using hj)
    injection this with _ h2
    omega
  · intro h j hj
    rw [h j (by simpa using hj)]
theorem mapM_all {α β : Type} (g : α → Option β) (h : α → β) : ∀ l : List α, (∀ x ∈ l, g x = some (h x)) → l.mapM g = some (l.map h)
  | [], _ => by simp
  | x :: l, H => by
    rw [List.mapM_cons, H x (by simp), mapM_all g h l (fun y hy => H y (by simp [hy]))]
    rfl
theorem flat_one {α β : Type} (h : α → β) : ∀ l : List α, (l.map fun x => [h x]).flatten = l.map h
  | [] => rfl
  | x :: l => by rw [List.map_cons, List.flatten_cons, flat_one h l]; rfl
theorem lit5 (d x : Nat) (hx : x < 256) : Tryz.prog.keyLits (d + 1) 5 [.int .u8 (x : Int)] = some [.int .u8 (x : Int)] := by
  have hw : (Lit.int .u8 (x : Int)).wf = true := by simp [Lit.wf, IntKind.min, IntKind.max, IntKind.signed, IntKind.bits]; omega
  simp [Program.keyLits, Tryz.underlying5, hw]
theorem cells5 : Tryz.prog.cellsOf 5 = 1 := by kernel_rfl
theorem cells22 : Tryz.prog.cellsOf 22 = 16 := by kernel_rfl
theorem bytV_one (f : Nat → Nat) (i : Nat) (hi : i < 16) : ((bytV f).drop (i * 1)).take 1 = [.int .u8 (f i : Int)] := by
  rw [Nat.mul_one]
  have : (bytV f)[i]? = some (.int .u8 (f i : Int)) := by simp [bytV, hi]
  have hl : i < (bytV f).length := by simp [bytV]; omega
  rw [List.drop_eq_getElem_cons hl]
  rw [List.getElem?_eq_getElem hl] at this
  injection this with this
  rw [this]; rfl
theorem lits22 (d : Nat) (f : Nat → Nat) (hf : ∀ j, f j < 256) : Tryz.prog.keyLits (d + 2) 22 (bytV f) = some (bytL f) := by
  unfold Program.keyLits
  rw [Tryz.underlying22]
  simp only
  rw [if_pos (by rw [cells22]; simp [bytV]), mapM_all _ (fun i => [Lit.int .u8 (f i : Int)]) _ (fun i hi => by rw [cells5, bytV_one f i (by simpa using hi)]; exact lit5 d _ (hf i)), Option.map_some, flat_one]
  rfl
theorem eq22 (f g : Nat → Nat) (hf : ∀ j, f j < 256) (hg : ∀ j, g j < 256) (W : World) : (Op.equalIn 10000 22 (.agg (bytV f).toArray) (.agg (bytV g).toArray)).run Tryz.prog W = .ok (sameF f g) W := by
  obtain ⟨r, h1, h2⟩ := run_equalIn_deep (P := Tryz.prog) 9995 5 22 (by kernel_rfl) W 5 5 (.agg (bytV f).toArray) (.agg (bytV g).toArray) _ _ (by simp [Value.formed, Tryz.underlying22, cells22, bytV]) (by simp [Value.formed, Tryz.underlying22, cells22, bytV]) (lits22 3 f hf) (lits22 3 g hg)
  simp only [Nat.reduceAdd] at h1
  rw [bytL_eq] at h2
  have e : r = sameF f g := by
    revert h2
    cases r <;> cases sameF f g <;> simp
  rw [h1, e]
theorem adr_bytes (v : Bool) (f : Nat → Nat) : (adrV v f).toArray.extract 1 17 = (bytV f).toArray := by
  apply Array.toList_inj.1
  simp [adrV, bytV, List.take_of_length_le]
theorem size22 : (Tryz.prog.info? 22).map (·.size) = some 16 := by kernel_rfl
theorem bytV_length (f : Nat → Nat) : (bytV f).length = 16 := by simp [bytV]
theorem guard22 (x y : Operand) (a b : Array Value) (W : World) : (eqGuard .neq 22 x y (.agg a) (.agg b)).run Tryz.prog W = .ok () W := by kernel_rfl
theorem field24 (v : Bool) (f : Nat → Nat) (W : World) : (Instr.field 24 (.agg (adrV v f).toArray) 1).run Tryz.prog W = .ok (.agg (bytV f).toArray) W := by
  have h : (Instr.field 24 (.agg (adrV v f).toArray) 1).run Tryz.prog W = .ok (.agg ((adrV v f).toArray.extract 1 17)) W := by kernel_rfl
  rw [h, adr_bytes]
theorem field24_0 (v : Bool) (f : Nat → Nat) (W : World) : (Instr.field 24 (.agg (adrV v f).toArray) 0).run Tryz.prog W = .ok (.bool v) W := by kernel_rfl

theorem range24 {w : World} {g : Nat} {t : TypeId} {v : Bool} {f : Nat → Nat} (hb : Blk w g t (adrV v f)) : ∀ W, (∃ p : Regrown, W = grow (redrawn w p.d) p.os) → W.rangeAt g 1 (bytV f) :=
  hb.range_cls 1 (bytV f) fun j x hx => by
    have hj : j < 16 := by
      have := (List.getElem?_eq_some_iff.1 hx).1
      rwa [bytV_length] at this
    rw [adrV_byte v f j hj]
    rw [← hx]; simp [bytV, hj]
attribute [local go_sem] guard22 field24 field24_0

theorem maskB_le (k i x : Nat) : maskB k i x ≤ x := by
  unfold maskB
  by_cases h : k ≤ 8 * i
  · rw [if_pos h]; exact Nat.zero_le _
  · rw [if_neg h]
    by_cases h2 : k < 8 * i + 8
    · rw [if_pos h2]; exact Nat.div_mul_le_self _ _
    · rw [if_neg h2]; exact Nat.le_refl _

set_option maxHeartbeats 2000000 in
theorem checkAddr_any (v : Bool) (f : Nat → Nat) (hf : ∀ j, f j < 256) (w : World) :
    Calls Tryz.prog 28 #[.agg (adrV v f).toArray] w fun e w' => e = .returned (.int .i64 (if sameF (fun j => maskB (wid v) j (f j)) f then 0 else 150)) ∧ Chg [] w w' := by
  have HB := hid (Blk.new w 24 (adrV v f).toArray)
  have HC := hid ((Chg.refl [] w).alloc (.cells (adrV v f).toArray 24))
  have HW := hid (cls_of (width_any v f))
  have HM := hid (cls_of (masked_any v f (wid v) hf (wid_le v)))
  have hE := eq22 (fun j => maskB (wid v) j (f j)) f (fun j => Nat.lt_of_le_of_lt (maskB_le _ _ _) (hf j)) hf
  obtain ⟨b, hb⟩ : ∃ b, b = sameF (fun j => maskB (wid v) j (f j)) f := ⟨_, rfl⟩
  rw [← hb] at hE
  rw [← hb]
  clear hb
  go_enter Tryz.func28, Tryz.ntmps28
  go_wp2
  obtain ⟨w1, hw1⟩ : ∃ w1, w1 = w.alloc (.cells (adrV v f).toArray 24) := ⟨_, rfl⟩
  rw [← hw1]
  have B1 : Blk w1 w.heap.size 24 (adrV v f) := by rw [hw1]; exact HB.out
  have C1 : Chg [] w w1 := by rw [hw1]; exact HC.out
  clear hw1 HB HC
  have R0 := B1.range_cls0
  have R1 := range24 B1
  refine wp_region_quiet_below (by kernel_rfl) (by kernel_rfl) ?_
  refine wpQuiet_load rfl 24 _ rfl w.heap.size 0 rfl (adrV v f) _ R0 Tryz.underlying24 rfl (size24.trans (by rw [adrV_length])) ?_
  refine wpQuiet_load rfl 24 _ rfl w.heap.size 0 rfl (adrV v f) _ R0 Tryz.underlying24 rfl (size24.trans (by rw [adrV_length])) ?_
  repeat (first | refine wpQuiet_load rfl 22 _ rfl w.heap.size 1 rfl (bytV f) _ R1 Tryz.underlying22 rfl (size22.trans (by rw [bytV_length])) ?_ | go_big_quiet_step ((first | (go_at_call 55; with_reducible exact HW.out _ _ _) | (go_at_call 56; with_reducible exact HM.out _ _ _))) | quiet_step ((first | (go_at_call 55; with_reducible exact HW.out _ _ _) | (go_at_call 56; with_reducible exact HM.out _ _ _))))
  refine wpQuiet_nil ?_
  intro w3 hw3
  have C3 := chg_cls hw3
  clear hw3 R0 R1
  have fin := hid (C1.trans C3)
  cases b
  · go_wp2
    go_ret
    exact ⟨rfl, fin.out⟩
  · go_wp2
    go_ret
    exact ⟨rfl, fin.out⟩

/-! By numbers. -/
/-- An address's cells, by its number. -/
def adr (v : Bool) (n : Nat) : List Value := adrV v (byteAt n)
theorem adr_length (v : Bool) (n : Nat) : (adr v n).length = 17 := adrV_length v _
theorem same_bytes {n m : Nat} (hn : n < 2 ^ 128) (hm : m < 2 ^ 128) : sameF (byteAt n) (byteAt m) = decide (n = m) := by
  by_cases h : n = m
  · rw [decide_eq_true h, h]; exact (sameF_iff _ _).2 fun _ _ => rfl
  · rw [decide_eq_false h]
    rw [← Bool.not_eq_true, sameF_iff]
    exact fun q => h (byteAt_inj hn hm q)
theorem same_mask {n k : Nat} (hn : n < 2 ^ 128) (hk : k ≤ 128) : sameF (fun j => maskB k j (byteAt n j)) (byteAt n) = decide (maskN n k = n) := by
  rw [← same_bytes (Nat.lt_of_le_of_lt (maskN_le n k) hn) hn]
  rw [Bool.eq_iff_iff, sameF_iff, sameF_iff]
  exact ⟨fun h j hj => by rw [mask_byte n k j hj hk]; exact h j hj, fun h j hj => by rw [← mask_byte n k j hj hk]; exact h j hj⟩
theorem adr_mask (v : Bool) (n k : Nat) (hk : k ≤ 128) : adrV v (fun j => maskB k j (byteAt n j)) = adr v (maskN n k) :=
  adrV_ext v fun j hj => (mask_byte n k j hj hk).symm
theorem width_N (v : Bool) (n : Nat) (w : World) : Calls Tryz.prog 55 #[.agg (adr v n).toArray] w fun e w' => e = .returned (.int .i64 (wid v : Nat)) ∧ Chg [] w w' := width_any v _ w
theorem masked_N (v : Bool) (n K : Nat) (hK : K ≤ 128) (w : World) : Calls Tryz.prog 56 #[.agg (adr v n).toArray, .int .i64 K] w fun e w' => e = .returned (.agg (adr v (maskN n K)).toArray) ∧ Chg [] w w' := by
  have h := masked_any v (byteAt n) K (byteAt_lt n) hK w
  rwa [adr_mask v n K hK] at h
def errA (v : Bool) (n : Nat) : Int := if okA v n then 0 else 150
theorem checkAddr_N (v : Bool) (n : Nat) (hn : n < 2 ^ 128) (w : World) : Calls Tryz.prog 28 #[.agg (adr v n).toArray] w fun e w' => e = .returned (.int .i64 (errA v n)) ∧ Chg [] w w' := by
  have h := checkAddr_any v (byteAt n) (byteAt_lt n) w
  rwa [same_mask hn (wid_le v)] at h
end Go.Proofs.YtgpiapmbbnngpaaGreatDoor

/- Prefixes in memory; Check, Of walked. -/
namespace Go.Proofs.YtgpiapmbbnngpaaGreatDoor
open Go.RowKit Go.Lib Go.Sort

/-- A prefix's cells. -/
def pfx (v : Bool) (n : Nat) (k : Int) : List Value := adr v n ++ [.int .i64 k]
theorem pfx_length (v : Bool) (n : Nat) (k : Int) : (pfx v n k).length = 18 := by simp [pfx, adr_length]
theorem pfx_bool (v : Bool) (n : Nat) (k : Int) : (pfx v n k)[0]? = some (.bool v) := rfl
theorem pfx_adr (v : Bool) (n : Nat) (k : Int) (j : Nat) (x : Value) (h : (adr v n)[j]? = some x) : (pfx v n k)[j]? = some x := by
  unfold pfx
  rw [List.getElem?_append_left (List.getElem?_eq_some_iff.1 h).1, h]
theorem pfx_bits (v : Bool) (n : Nat) (k : Int) : (pfx v n k)[17]? = some (.int .i64 k) := by
  unfold pfx
  rw [List.getElem?_append_right (by rw [adr_length]; omega), adr_length]; rfl
theorem adr_byt (v : Bool) (n j : Nat) (x : Value) (h : (bytV (byteAt n))[j]? = some x) : (adr v n)[1 + j]? = some x := by
  have hj : j < 16 := by
    have := (List.getElem?_eq_some_iff.1 h).1
    rwa [bytV_length] at this
  unfold adr
  rw [adrV_byte v _ j hj, ← h]; simp [bytV, hj]
theorem size29 : (Tryz.prog.info? 29).map (·.size) = some 18 := by kernel_rfl
theorem pfx_ones (v : Bool) (n : Nat) (k : Int) : (pfx v n k).toArray.all (·.oneCell') = true := by
  simp [pfx, adr, adrV, Value.oneCell']

/-- What a prefix's block gives, in every world that has grown alone. -/
structure PfxR (w : World) (g : Nat) (v : Bool) (n : Nat) (k : Int) : Prop where
  whole : ∀ W, (∃ p : Regrown, W = grow (redrawn w p.d) p.os) → W.rangeAt g 0 (pfx v n k)
  adr : ∀ W, (∃ p : Regrown, W = grow (redrawn w p.d) p.os) → W.rangeAt g 0 (adr v n)
  byt : ∀ W, (∃ p : Regrown, W = grow (redrawn w p.d) p.os) → W.rangeAt g 1 (bytV (byteAt n))
theorem Blk.pfxR {w : World} {g : Nat} {t : TypeId} {v : Bool} {n : Nat} {k : Int} (hb : Blk w g t (pfx v n k)) : PfxR w g v n k :=
  ⟨hb.range_cls0, hb.range_cls 0 _ (fun j x hx => by rw [Nat.zero_add]; exact pfx_adr v n k j x hx), hb.range_cls 1 _ (fun j x hx => pfx_adr v n k _ x (adr_byt v n j x hx))⟩

def errP (v : Bool) (n : Nat) (k : Int) : Int := if okP v n k then 0 else 151
theorem field24N (v : Bool) (n : Nat) (W : World) : (Instr.field 24 (.agg (adr v n).toArray) 1).run Tryz.prog W = .ok (.agg (bytV (byteAt n)).toArray) W := field24 v _ W
theorem field24N_0 (v : Bool) (n : Nat) (W : World) : (Instr.field 24 (.agg (adr v n).toArray) 0).run Tryz.prog W = .ok (.bool v) W := field24_0 v _ W
attribute [local go_sem] guard22 field24N field24N_0

set_option maxHeartbeats 2000000 in
theorem check_N (v : Bool) (n : Nat) (k : Int) (hn : n < 2 ^ 128) (w : World) :
    Calls Tryz.prog 30 #[.agg (pfx v n k).toArray] w fun e w' => e = .returned (.int .i64 (errP v n k)) ∧ Chg [] w w' := by
  have HB := hid (Blk.new w 29 (pfx v n k).toArray)
  have HC := hid ((Chg.refl [] w).alloc (.cells (pfx v n k).toArray 29))
  have HW := hid (cls_of (width_N v n))
  have hw128 := wid_le v
  by_cases h1 : k < 0
  · have fin : errP v n k = 151 := by unfold errP okP; rw [decide_eq_false (by omega)]; rfl
    have FIN := hid fin
    clear fin
    go_enter Tryz.func30, Tryz.ntmps30
    go_wp2
    obtain ⟨w1, hw1⟩ : ∃ w1, w1 = w.alloc (.cells (pfx v n k).toArray 29) := ⟨_, rfl⟩
    rw [← hw1]
    have B1 : Blk w1 w.heap.size 29 (pfx v n k) := by rw [hw1]; exact HB.out
    have C1 : Chg [] w w1 := by rw [hw1]; exact HC.out
    clear hw1 HB HC
    have ck := cell_regrown (B1.cell_of (pfx_bits v n k))
    refine wp_region_quiet_below (by kernel_rfl) (by kernel_rfl) ?_
    repeat (first | go_big_quiet_step (fail) | quiet_step (fail))
    refine wpQuiet_nil ?_
    intro w3 hw3
    have C3 := chg_cls hw3
    clear hw3 ck
    have HF := hid (C1.trans C3)
    go_wp2
    rw [FIN.out]
    go_ret
    exact ⟨rfl, HF.out⟩
  · obtain ⟨K, rfl⟩ : ∃ K : Nat, k = (K : Int) := ⟨k.toNat, by omega⟩
    have d1 : decide ((K : Int) < 0) = false := decide_eq_false (by omega)
    by_cases h2 : (wid v : Int) < (K : Int)
    · have d2 : decide (wid v < K) = true := decide_eq_true (by omega)
      have fin : errP v n K = 151 := by unfold errP okP; rw [decide_eq_false (p := (K : Int) ≤ (wid v : Int)) (by omega)]; simp
      have FIN := hid fin
      clear fin hw128
      go_enter Tryz.func30, Tryz.ntmps30
      go_wp2
      obtain ⟨w1, hw1⟩ : ∃ w1, w1 = w.alloc (.cells (pfx v n K).toArray 29) := ⟨_, rfl⟩
      rw [← hw1]
      have B1 : Blk w1 w.heap.size 29 (pfx v n K) := by rw [hw1]; exact HB.out
      have C1 : Chg [] w w1 := by rw [hw1]; exact HC.out
      clear hw1 HB HC
      have ck := cell_regrown (B1.cell_of (pfx_bits v n K))
      have R := B1.pfxR
      refine wp_region_quiet_below (by kernel_rfl) (by kernel_rfl) ?_
      repeat (first | (go_big_quiet_want; refine quiet_load 24 _ rfl w.heap.size 0 rfl (adr v n) _ R.adr Tryz.underlying24 rfl (size24.trans (by rw [adr_length])) ?_; go_big_quiet_on) | go_big_quiet_step ((go_at_call 55; with_reducible exact HW.out _ _ _)) | quiet_step ((go_at_call 55; with_reducible exact HW.out _ _ _)))
      refine wpQuiet_nil ?_
      intro w3 hw3
      have C3 := chg_cls hw3
      clear hw3 ck R
      have HF := hid (C1.trans C3)
      go_wp2
      rw [FIN.out]
      go_ret
      exact ⟨rfl, HF.out⟩
    · have d2 : decide (wid v < K) = false := decide_eq_false (by omega)
      obtain ⟨b, hb⟩ : ∃ b, b = decide (maskN n K = n) := ⟨_, rfl⟩
      have fin : errP v n K = if b then 0 else 151 := by unfold errP okP; rw [decide_eq_true (p := (K : Int) ≤ (wid v : Int)) (by omega), hb]; simp
      have FIN := hid fin
      have HM := hid (cls_of (masked_N v n K (by omega)))
      have hE := eq22 (byteAt (maskN n K)) (byteAt n) (byteAt_lt _) (byteAt_lt _)
      rw [same_bytes (Nat.lt_of_le_of_lt (maskN_le n K) hn) hn, ← hb] at hE
      clear hb
      clear fin hw128
      go_enter Tryz.func30, Tryz.ntmps30
      go_wp2
      obtain ⟨w1, hw1⟩ : ∃ w1, w1 = w.alloc (.cells (pfx v n K).toArray 29) := ⟨_, rfl⟩
      rw [← hw1]
      have B1 : Blk w1 w.heap.size 29 (pfx v n K) := by rw [hw1]; exact HB.out
      have C1 : Chg [] w w1 := by rw [hw1]; exact HC.out
      clear hw1 HB HC
      have ck := cell_regrown (B1.cell_of (pfx_bits v n K))
      have R := B1.pfxR
      refine wp_region_quiet_below (by kernel_rfl) (by kernel_rfl) ?_
      repeat (first | (go_big_quiet_want; refine quiet_load 24 _ rfl w.heap.size 0 rfl (adr v n) _ R.adr Tryz.underlying24 rfl (size24.trans (by rw [adr_length])) ?_; go_big_quiet_on) | (go_big_quiet_want; refine quiet_load 22 _ rfl w.heap.size 1 rfl (bytV (byteAt n)) _ R.byt Tryz.underlying22 rfl (size22.trans (by rw [bytV_length])) ?_; go_big_quiet_on) | go_big_quiet_step ((first | (go_at_call 55; with_reducible exact HW.out _ _ _) | (go_at_call 56; with_reducible exact HM.out _ _ _))) | quiet_step ((first | (go_at_call 55; with_reducible exact HW.out _ _ _) | (go_at_call 56; with_reducible exact HM.out _ _ _))))
      refine wpQuiet_nil ?_
      intro w3 hw3
      have C3 := chg_cls hw3
      clear hw3 ck R
      have HF := hid (C1.trans C3)
      cases b
      · go_wp2
        rw [FIN.out]
        go_ret
        exact ⟨rfl, HF.out⟩
      · go_wp2
        rw [FIN.out]
        go_ret
        exact ⟨rfl, HF.out⟩
end Go.Proofs.YtgpiapmbbnngpaaGreatDoor

/- Of walked. -/
namespace Go.Proofs.YtgpiapmbbnngpaaGreatDoor
open Go.RowKit Go.Lib Go.Sort

/-- A whole prefix is read, goes into its block, is handed back. -/
theorem ld29 {ops : Array Oper} {rest : List Oper} {o : Oper} {a : Act} {w : World} {Q : Exit → Act → World → Prop} (hgd : o.guard = none) (x : Operand) (ho : o.op = .load 29 x)
    (g : Nat) (hx : a.eval x = .pointer (some ⟨g, 0, none⟩)) (t : TypeId) (v : Bool) (n : Nat) (k : Int) (hb : Blk w g t (pfx v n k))
    (h : wpList Tryz.prog ops Q rest (a.put o.dst (.agg (pfx v n k).toArray)) w) : wpList Tryz.prog ops Q (o :: rest) a w :=
  wpList_load_row hgd 29 x ho g hx t _ (0, 0) _ hb Tryz.underlying29 rfl (size29.trans (by simp [pfx_length])) h
theorem st29 {ops : Array Oper} {rest : List Oper} {o : Oper} {a : Act} {w : World} {Q : Exit → Act → World → Prop} (hgd : o.guard = none) (x y : Operand) (ho : o.op = .store 29 x y)
    (g : Nat) (v : Bool) (n : Nat) (k : Int) (hx : a.eval x = .pointer (some ⟨g, 0, none⟩)) (hy : a.eval y = .agg (pfx v n k).toArray) (t : TypeId) (old : List Value) (hb : Blk w g t old) (hl : old.length = 18)
    (h : wpList Tryz.prog ops Q rest (a.put o.dst undef) (w.setRow g (pfx v n k).toArray)) : wpList Tryz.prog ops Q (o :: rest) a w :=
  wpList_store_row hgd 29 x y ho g _ hx hy t old.toArray hb (size29.trans (by simp [pfx_length])) (by simp [pfx_length, hl]) (pfx_ones v n k) h

theorem ld24n {ops : Array Oper} {rest : List Oper} {o : Oper} {a : Act} {w : World} {Q : Exit → Act → World → Prop} (hgd : o.guard = none) (x : Operand) (ho : o.op = .load 24 x)
    (g : Nat) (hx : a.eval x = .pointer (some ⟨g, 0, none⟩)) (t : TypeId) (v : Bool) (n : Nat) (hb : Blk w g t (adr v n))
    (h : wpList Tryz.prog ops Q rest (a.put o.dst (.agg (adr v n).toArray)) w) : wpList Tryz.prog ops Q (o :: rest) a w := ld24 hgd x ho g hx t v (byteAt n) hb h
/-- The same at a guarded operation. -/
theorem ld24g {ops : Array Oper} {rest : List Oper} {o : Oper} {a : Act} {w : World} {Q : Exit → Act → World → Prop} (hgd : Region.wanted o (yielded ops a.tmps) = true) (x : Operand) (ho : o.op = .load 24 x)
    (g : Nat) (hx : a.eval x = .pointer (some ⟨g, 0, none⟩)) (t : TypeId) (v : Bool) (n : Nat) (hb : Blk w g t (adr v n))
    (h : wpList Tryz.prog ops Q rest (a.put o.dst (.agg (adr v n).toArray)) w) : wpList Tryz.prog ops Q (o :: rest) a w := by
  unfold wpList
  rw [if_pos hgd]
  exact .inl (wp_load_row 24 x ho g hx t _ (0, 0) _ hb Tryz.underlying24 rfl (size24.trans (by simp [adr_length])) h)
def zpfx : Array Value := #[.bool false, .int .u8 0, .int .u8 0, .int .u8 0, .int .u8 0, .int .u8 0, .int .u8 0, .int .u8 0, .int .u8 0, .int .u8 0, .int .u8 0, .int .u8 0, .int .u8 0, .int .u8 0, .int .u8 0, .int .u8 0, .int .u8 0, .int .i64 0]
theorem zpfx_eq : zpfx = (pfx false 0 0).toArray := by kernel_rfl
theorem st29z {ops : Array Oper} {rest : List Oper} {o : Oper} {a : Act} {w : World} {Q : Exit → Act → World → Prop} (hgd : o.guard = none) (x y : Operand) (ho : o.op = .store 29 x y)
    (g : Nat) (hx : a.eval x = .pointer (some ⟨g, 0, none⟩)) (hy : a.eval y = .agg zpfx) (t : TypeId) (old : List Value) (hb : Blk w g t old) (hl : old.length = 18)
    (h : wpList Tryz.prog ops Q rest (a.put o.dst undef) (w.setRow g (pfx false 0 0).toArray)) : wpList Tryz.prog ops Q (o :: rest) a w :=
  st29 hgd x y ho g false 0 0 hx (by rw [hy, zpfx_eq]) t old hb hl h
theorem rs29t {fn : Func} {p q : Tmp} (h : fn.results = #[.cell p 29, .tmp q]) (tmps : Array Value) (w : World) (g : Nat) (v : Bool) (n : Nat) (k : Int) (t : TypeId) (u : Value)
    (hp : tmps.getD p undef = .pointer (some ⟨g, 0, none⟩)) (hq : tmps.getD q undef = u) (hb : Blk w g t (pfx v n k)) : (results fn tmps).run Tryz.prog w = .ok (.tuple #[.agg (pfx v n k).toArray, u]) w := by
  have hp' : tmps[p]?.getD undef = .pointer (some ⟨g, 0, none⟩) := by simpa using hp
  have hq' : tmps[q]?.getD undef = u := by simpa using hq
  simp [results, h, hp', hq', asAddr, run_loadVar_row w g t 29 _ (0, 0) _ hb Tryz.underlying29 rfl (size29.trans (by simp [pfx_length]))]

theorem built29 (v : Bool) (n : Nat) (k : Int) : Tryz.prog.built 29 [(0, .agg (adr v n).toArray), (1, .int .i64 k)] = some (pfx v n k).toArray := by kernel_rfl
/-- A prefix is made of an address and a number of bits. -/
theorem bd29 {ops : Array Oper} {rest : List Oper} {o : Oper} {a : Act} {w : World} {Q : Exit → Act → World → Prop} (hg : o.guard = none) (x y : Operand) (ho : o.op = .build 29 #[(0, x), (1, y)]) (v : Bool) (n : Nat) (k : Int)
    (hx : a.eval x = .agg (adr v n).toArray) (hy : a.eval y = .int .i64 k) (h : wpList Tryz.prog ops Q rest (a.put o.dst (.agg (pfx v n k).toArray)) w) : wpList Tryz.prog ops Q (o :: rest) a w := by
  have e : Tryz.prog.built 29 ((#[(0, x), (1, y)] : Array (Nat × Operand)).map fun (i, z) => (i, a.eval z)).toList = some (pfx v n k).toArray := by
    simp only [List.map_toArray, List.map_cons, List.map_nil, hx, hy]
    exact built29 v n k
  refine wpList_build hg 29 _ ho (by rw [e]; rfl) ?_
  rw [e]
  exact h

def ofP (v : Bool) (n : Nat) (k : Int) : Bool × Nat × Int × Int := if okA v n then (if 0 ≤ k ∧ k ≤ wid v then (v, maskN n k.toNat, k, 0) else (false, 0, 0, 151)) else (false, 0, 0, 150)

set_option maxHeartbeats 1000000 in
theorem of_N (v : Bool) (n : Nat) (k : Int) (hn : n < 2 ^ 128) (w : World) :
    Calls Tryz.prog 19 #[.agg (adr v n).toArray, .int .i64 k] w fun e w' => e = .returned (.tuple #[.agg (pfx (ofP v n k).1 (ofP v n k).2.1 (ofP v n k).2.2.1).toArray, .int .i64 (ofP v n k).2.2.2]) ∧ Chg [] w w' := by
  have HA := hid (show Blk ((w.alloc (.cells (adr v n).toArray 24)).alloc (.cells zpfx 29)) w.heap.size 24 (adr v n) from (Blk.new w 24 (adr v n).toArray).alloc _)
  have HR := hid (show Blk ((w.alloc (.cells (adr v n).toArray 24)).alloc (.cells zpfx 29)) (w.heap.size + 1) 29 zpfx.toList from Blk.new_at _ 29 zpfx (by simp))
  have HC := hid (show Chg [] w ((w.alloc (.cells (adr v n).toArray 24)).alloc (.cells zpfx 29)) from ((Chg.refl _ _).alloc _).alloc _)
  have HK := hid (checkAddr_N v n hn)
  by_cases h1 : okA v n = true
  · have fin : errA v n = 0 := by unfold errA; rw [if_pos h1]
    rw [fin] at HK
    have HWd := hid (cls_of (width_N v n))
    by_cases h2 : k < 0
    · have d1 : decide (k < 0) = true := decide_eq_true h2
      have HF := hid (show ofP v n k = (false, 0, 0, 151) by unfold ofP; rw [if_pos h1, if_neg (by omega)])
      rw [HF.out]
      go_enter Tryz.func19, Tryz.ntmps19
      go_wp2_with (first | (go_at_call 28; refine (HK.out _).mono ?_; rintro e w2 ⟨rfl, C2⟩) | (refine ld24n rfl _ rfl w.heap.size rfl 24 v n HA.out ?_) | (refine st29z rfl _ _ rfl (w.heap.size + 1) rfl rfl 29 _ (HR.out.chg C2 (by simp)) rfl ?_))
      have R2 := (HR.out.chg C2 (by simp)).row (pfx false 0 0)
      refine bodyPost_ret (rs29t rfl _ _ (w.heap.size + 1) false 0 0 29 _ rfl rfl R2) rfl ⟨rfl, ?_⟩
      exact (HC.out.trans C2).setRow (.inr (by omega)) _
    · obtain ⟨K, rfl⟩ : ∃ K : Nat, k = (K : Int) := ⟨k.toNat, by omega⟩
      have d1 : decide ((K : Int) < 0) = false := decide_eq_false (by omega)
      by_cases h3 : wid v < K
      · have d2 : decide (wid v < K) = true := decide_eq_true h3
        have HF := hid (show ofP v n K = (false, 0, 0, 151) by unfold ofP; rw [if_pos h1, if_neg (by omega)])
        have HWD := hid (width_N v n)
        rw [HF.out]
        go_enter Tryz.func19, Tryz.ntmps19
        go_wp2_with (first | (go_at_call 28; refine (HK.out _).mono ?_; rintro e w2 ⟨rfl, C2⟩) | (go_at_call 55; refine (HWD.out _).mono ?_; rintro e w3 ⟨rfl, C3⟩) | (refine ld24n rfl _ rfl w.heap.size rfl 24 v n HA.out ?_) | (refine ld24g rfl _ rfl w.heap.size rfl 24 v n (HA.out.chg C2 (by simp)) ?_) | (refine st29z rfl _ _ rfl (w.heap.size + 1) rfl rfl 29 _ ((HR.out.chg C2 (by simp)).chg C3 (by simp)) rfl ?_))
        have R2 := ((HR.out.chg C2 (by simp)).chg C3 (by simp)).row (pfx false 0 0)
        refine bodyPost_ret (rs29t rfl _ _ (w.heap.size + 1) false 0 0 29 _ rfl rfl R2) rfl ⟨rfl, ?_⟩
        have HC1 := HC.out
        exact ((HC1.trans C2).trans C3).setRow (.inr (by omega)) _
      · have d2 : decide (wid v < K) = false := decide_eq_false h3
        have hw := wid_le v
        have HF := hid (show ofP v n K = (v, maskN n K, (K : Int), 0) by unfold ofP; rw [if_pos h1, if_pos (by omega)]; rfl)
        have HWD := hid (width_N v n)
        have HM := hid (masked_N v n K (by omega))
        rw [HF.out]
        go_enter Tryz.func19, Tryz.ntmps19
        go_wp2_with (first | (go_at_call 28; refine (HK.out _).mono ?_; rintro e w2 ⟨rfl, C2⟩) | (go_at_call 55; refine (HWD.out _).mono ?_; rintro e w3 ⟨rfl, C3⟩) | (go_at_call 56; refine (HM.out _).mono ?_; rintro e w4 ⟨rfl, C4⟩) | (refine ld24n rfl _ rfl w.heap.size rfl 24 v n ((HA.out.chg C2 (by simp)).chg C3 (by simp)) ?_) | (refine ld24n rfl _ rfl w.heap.size rfl 24 v n HA.out ?_) | (refine ld24g rfl _ rfl w.heap.size rfl 24 v n (HA.out.chg C2 (by simp)) ?_) | (refine bd29 rfl _ _ rfl v (maskN n K) K rfl rfl ?_) | (refine st29 rfl _ _ rfl (w.heap.size + 1) v (maskN n K) K rfl rfl 29 _ (((HR.out.chg C2 (by simp)).chg C3 (by simp)).chg C4 (by simp)) rfl ?_))
        have R2 := (((HR.out.chg C2 (by simp)).chg C3 (by simp)).chg C4 (by simp)).row (pfx v (maskN n K) K)
        refine bodyPost_ret (rs29t rfl _ _ (w.heap.size + 1) v (maskN n K) K 29 _ rfl rfl R2) rfl ⟨rfl, ?_⟩
        have HC1 := HC.out
        exact (((HC1.trans C2).trans C3).trans C4).setRow (.inr (by omega)) _
  · have fin : errA v n = 150 := by unfold errA; rw [if_neg h1]
    rw [fin] at HK
    have HF := hid (show ofP v n k = (false, 0, 0, 150) by unfold ofP; rw [if_neg h1])
    rw [HF.out]
    go_enter Tryz.func19, Tryz.ntmps19
    go_wp2_with (first | (go_at_call 28; refine (HK.out _).mono ?_; rintro e w2 ⟨rfl, C2⟩) | (refine ld24n rfl _ rfl w.heap.size rfl 24 v n HA.out ?_) | (refine st29z rfl _ _ rfl (w.heap.size + 1) rfl rfl 29 _ (HR.out.chg C2 (by simp)) rfl ?_))
    have R2 := (HR.out.chg C2 (by simp)).row (pfx false 0 0)
    refine bodyPost_ret (rs29t rfl _ _ (w.heap.size + 1) false 0 0 29 _ rfl rfl R2) rfl ⟨rfl, ?_⟩
    exact (HC.out.trans C2).setRow (.inr (by omega)) _
end Go.Proofs.YtgpiapmbbnngpaaGreatDoor

/- octets.Common at two addresses' bytes, walked. -/
namespace Go.Proofs.YtgpiapmbbnngpaaGreatDoor
open Go.RowKit Go.Lib Go.Sort

/-- The bytes of an address lie in place. -/
def BytAt (w : World) (g o n : Nat) : Prop := ∀ j, j < 16 → w.cell? ⟨g, o + j, none⟩ = some (.int .u8 (byteAt n j : Int))
theorem BytAt.chg {w w' : World} {g o n : Nat} (h : BytAt w g o n) (hc : Chg [] w w') : BytAt w' g o n := fun j hj => by
  have hl := block_lt_of_cell (h j hj)
  rw [hc.cell hl (by simp)]; exact h j hj
theorem lead_W (z : Nat) (hz : z < 256) (W : World) : Calls Tryz.prog 84 #[.int .u8 (z : Int)] W fun e w' => e = .returned (.int .i64 (8 - (Lib.bitLen z : Int))) ∧ Chg [] W w' :=
  (Tryz.bits_LeadingZeros8 (z : Int) W (by omega) (by omega)).mono fun _ _ ⟨h1, h2⟩ => ⟨by rw [h1, Int.toNat_natCast], by rw [h2]; exact Chg.refl _ _⟩

set_option maxHeartbeats 1000000 in
theorem common_N (g1 o1 g2 o2 n m : Nat) (w : World) (h1 : BytAt w g1 o1 n) (h2 : BytAt w g2 o2 m) :
    Calls Tryz.prog 57 #[.slice (some ⟨g1, o1, none⟩) 16 16, .slice (some ⟨g2, o2, none⟩) 16 16] w fun e w' => e = .returned (.int .i64 (commonB (bytesN n) (bytesN m) : Nat)) ∧ Chg [] w w' := by
  have H1 := hid h1
  have H2 := hid h2
  clear h1 h2
  go_enter Tryz.func57, Tryz.ntmps57
  go_wp2
  go_region
  go_wp2
  go_loopw [6] (fun iv wr => ∃ i : Nat, i ≤ 16 ∧ iv = .int .i64 i ∧ Hid (∀ j, j < i → byteAt n j = byteAt m j) ∧ Chg [] w wr) (fun iv _ => 16 - (RowKit.intOf iv).toNat)
  case atStart => exact ⟨0, by omega, rfl, hid (fun j hj => by omega), (Chg.refl _ _).drew⟩
  case round =>
    obtain ⟨i, hi, rfl, hE, hC⟩ := hrel
    have i0 : (0 : Int) ≤ (i : Int) := by omega
    by_cases hlt : i < 16
    · have c1 := (H1.out.chg hC) i hlt
      have c2 := (H2.out.chg hC) i hlt
      have d0 : decide ((i : Int) < 16) = true := decide_eq_true (by omega)
      by_cases he : byteAt n i = byteAt m i
      · rw [he] at c1
        have c1r := cell_regrown c1
        have c2r := cell_regrown c2
        go_wp2
        refine wp_region_quiet_below (by kernel_rfl) (by kernel_rfl) ?_
        repeat (first | go_big_quiet_step (fail) | quiet_step (fail))
        refine wpQuiet_nil ?_
        intro w3 hw3
        have C3 := chg_cls hw3
        clear hw3 c1r c2r
        go_wp2
        go_roundw
        case measure => simp [RowKit.intOf]; omega
        case rel =>
          refine ⟨i + 1, by omega, by go_num, hid (fun j hj => ?_), hC.trans C3⟩
          by_cases hji : j = i
          · rw [hji]; exact he
          · exact hE.out j (by omega)
      · have d1 : decide (byteAt n i = byteAt m i) = false := decide_eq_false he
        have hx := u8_xor_nat (byteAt n i) (byteAt m i) (byteAt_lt _ _) (byteAt_lt _ _)
        have HL := hid (cls_of (lead_W (byteAt n i ^^^ byteAt m i) (Nat.xor_lt_two_pow (n := 8) (byteAt_lt _ _) (byteAt_lt _ _))))
        have c1r := cell_regrown c1
        have c2r := cell_regrown c2
        go_wp2
        refine wp_region_quiet_below (by kernel_rfl) (by kernel_rfl) ?_
        repeat (first | go_big_quiet_step (fail) | quiet_step (fail))
        refine wpQuiet_nil ?_
        intro w3 hw3
        have C3 := chg_cls hw3
        clear hw3 c1r c2r
        go_wp2
        have hb : Lib.bitLen (byteAt n i ^^^ byteAt m i) ≤ 8 := (bitLen_iff _ 8 (Nat.xor_lt_two_pow (n := 8) (byteAt_lt _ _) (byteAt_lt _ _)) (by omega)).2 (Nat.xor_lt_two_pow (n := 8) (byteAt_lt _ _) (byteAt_lt _ _))
        have hb0 : (0 : Int) ≤ (Lib.bitLen (byteAt n i ^^^ byteAt m i) : Int) := by omega
        have hb1 : (Lib.bitLen (byteAt n i ^^^ byteAt m i) : Int) ≤ 8 := by omega
        have i16 : (i : Int) ≤ 16 := by omega
        have hwr : wrap64 (8 * (i : Int) + (8 - (Lib.bitLen (byteAt n i ^^^ byteAt m i) : Int))) = 8 * (i : Int) + (8 - (Lib.bitLen (byteAt n i ^^^ byteAt m i) : Int)) := by unfold wrap64; omega
        have e1 := cell_regrown (((H1.out.chg hC).chg C3) i hlt)
        have e2 := cell_regrown (((H2.out.chg hC).chg C3) i hlt)
        refine wp_region_quiet_below (by kernel_rfl) (by kernel_rfl) ?_
        repeat (first | go_big_quiet_step ((go_at_call 84; with_reducible exact HL.out _ _ _)) | quiet_step ((go_at_call 84; with_reducible exact HL.out _ _ _)))
        refine wpQuiet_nil ?_
        intro w4 hw4
        have C4 := chg_cls hw4
        clear hw4 e1 e2
        go_wp2
        have fin := common_at n m i hlt hE.out he
        rw [fin]
        go_ret
        refine ⟨congrArg Ending.returned (congrArg (Value.int IntKind.i64) ?_), (hC.trans C3).trans C4⟩
        omega
    · have hi16 : i = 16 := by omega
      subst hi16
      have fin := hid (common_all n m hE.out)
      go_wp2
      refine wp_region_quiet_below (by kernel_rfl) (by kernel_rfl) ?_
      repeat (first | go_big_quiet_step (fail) | quiet_step (fail))
      refine wpQuiet_nil ?_
      intro w3 hw3
      have C3 := chg_cls hw3
      clear hw3
      go_wp2
      rw [fin.out]
      go_ret
      exact ⟨rfl, hC.trans C3⟩
end Go.Proofs.YtgpiapmbbnngpaaGreatDoor

/- Has walked. -/
namespace Go.Proofs.YtgpiapmbbnngpaaGreatDoor
open Go.RowKit Go.Lib Go.Sort

theorem common_W (g1 o1 g2 o2 n m : Nat) (w : World) (h1 : BytAt w g1 o1 n) (h2 : BytAt w g2 o2 m) (d : Nat) (os : Array Obj) :
    Calls Tryz.prog 57 #[.slice (some ⟨g1, o1, none⟩) 16 16, .slice (some ⟨g2, o2, none⟩) 16 16] (grow (redrawn w d) os) fun e w'' => e = .returned (.int .i64 (commonB (bytesN n) (bytesN m) : Nat)) ∧ ∃ p : Regrown, w'' = grow (redrawn w p.d) p.os :=
  Calls.regrown_of ((common_N g1 o1 g2 o2 n m _ (fun j hj => cell_regrown (h1 j hj) d os) (fun j hj => cell_regrown (h2 j hj) d os)).mono fun _ _ ⟨e1, e2⟩ => ⟨e1, e2.below (by simp) (Nat.le_refl _)⟩)
theorem Blk.bytAt {w : World} {g : Nat} {t : TypeId} {v : Bool} {n : Nat} (hb : Blk w g t (adr v n)) : BytAt w g 1 n := fun j hj => hb.cell_of (adrV_byte v _ j hj)
theorem Blk.bytAtP {w : World} {g : Nat} {t : TypeId} {v : Bool} {n : Nat} {k : Int} (hb : Blk w g t (pfx v n k)) : BytAt w g 1 n := fun j hj => hb.cell_of (pfx_adr v n k _ _ (adrV_byte v _ j hj))
set_option maxHeartbeats 1000000 in
theorem has_N (v : Bool) (n : Nat) (k : Int) (v' : Bool) (m : Nat) (hn : n < 2 ^ 128) (hm : m < 2 ^ 128) (w : World) :
    Calls Tryz.prog 22 #[.agg (pfx v n k).toArray, .agg (adr v' m).toArray] w fun e w' => e = .returned (.bool (hasP v n k v' m)) ∧ Chg [] w w' := by
  have HP := hid (show Blk ((w.alloc (.cells (pfx v n k).toArray 29)).alloc (.cells (adr v' m).toArray 24)) w.heap.size 29 (pfx v n k) from (Blk.new w 29 (pfx v n k).toArray).alloc _)
  have HA := hid (show Blk ((w.alloc (.cells (pfx v n k).toArray 29)).alloc (.cells (adr v' m).toArray 24)) (w.heap.size + 1) 24 (adr v' m) from Blk.new_at _ 24 (adr v' m).toArray (by simp))
  have HC := hid (show Chg [] w ((w.alloc (.cells (pfx v n k).toArray 29)).alloc (.cells (adr v' m).toArray 24)) from ((Chg.refl _ _).alloc _).alloc _)
  have HK := hid (cls_of (check_N v n k hn))
  have HB := hid (cls_of (checkAddr_N v' m hm))
  by_cases h1 : okP v n k = true
  · have e1 : errP v n k = 0 := by unfold errP; rw [if_pos h1]
    rw [e1] at HK
    by_cases h2 : okA v' m = true
    · have e2 : errA v' m = 0 := by unfold errA; rw [if_pos h2]
      rw [e2] at HB
      by_cases h3 : v' = v
      · subst h3
        have hk : 0 ≤ k ∧ k ≤ 128 := by
          have hw := wid_le v'
          unfold okP at h1
          simp only [Bool.and_eq_true, decide_eq_true_eq] at h1
          omega
        obtain ⟨K, rfl⟩ : ∃ K : Nat, k = (K : Int) := ⟨k.toNat, by omega⟩
        have FS := hid (common_same m n K hm hn (by omega))
        have FIN := hid (show hasP v' n K v' m = sameK m n K by unfold hasP; rw [h1, h2]; simp)
        go_enter Tryz.func22, Tryz.ntmps22
        go_wp2
        obtain ⟨w1, hw1⟩ : ∃ w1, w1 = ((w.alloc (.cells (pfx v' n K).toArray 29)).alloc (.cells (adr v' m).toArray 24)) := ⟨_, rfl⟩
        rw [← hw1]
        have P1 := HP.out
        have A1 := HA.out
        have C1 := HC.out
        rw [← hw1] at P1 A1 C1
        clear hw1 HP HA HC
        have R := P1.pfxR
        have RA := A1.range_cls0
        have HM := hid (common_W (w.heap.size + 1) 1 w.heap.size 1 m n w1 A1.bytAt P1.bytAtP)
        have ck := cell_regrown (P1.cell_of (pfx_bits v' n K))
        have b1 := cell_regrown (P1.cell_of (pfx_bool v' n K))
        have b2 := cell_regrown (A1.cell_of (adrV_bool v' (byteAt m)))
        refine wp_region_quiet_below (by kernel_rfl) (by kernel_rfl) ?_
        repeat (first | (go_big_quiet_want; refine quiet_load 24 _ rfl (w.heap.size + 1) 0 rfl (adr v' m) _ RA Tryz.underlying24 rfl (size24.trans (by rw [adr_length])) ?_; go_big_quiet_on) | (go_big_quiet_want; refine quiet_load 29 _ rfl w.heap.size 0 rfl (pfx v' n K) _ R.whole Tryz.underlying29 rfl (size29.trans (by rw [pfx_length])) ?_; go_big_quiet_on) | go_big_quiet_step ((first | (go_at_call 30; with_reducible exact HK.out _ _ _) | (go_at_call 28; with_reducible exact HB.out _ _ _) | (go_at_call 57; with_reducible exact HM.out _ _))) | quiet_step ((first | (go_at_call 30; with_reducible exact HK.out _ _ _) | (go_at_call 28; with_reducible exact HB.out _ _ _) | (go_at_call 57; with_reducible exact HM.out _ _))))
        refine wpQuiet_nil ?_
        intro w3 hw3
        have C3 := chg_cls hw3
        clear hw3 R RA b1 b2 ck
        go_wp2
        rw [FIN.out, ← FS.out]
        go_ret
        exact ⟨rfl, C1.trans C3⟩
      · have d3 : (v' == v) = false := by simpa using h3
        have d4 : decide (v' = v) = false := decide_eq_false h3
        have FIN := hid (show hasP v n k v' m = false by unfold hasP; rw [d3]; simp)
        go_enter Tryz.func22, Tryz.ntmps22
        go_wp2
        obtain ⟨w1, hw1⟩ : ∃ w1, w1 = ((w.alloc (.cells (pfx v n k).toArray 29)).alloc (.cells (adr v' m).toArray 24)) := ⟨_, rfl⟩
        rw [← hw1]
        have P1 := HP.out
        have A1 := HA.out
        have C1 := HC.out
        rw [← hw1] at P1 A1 C1
        clear hw1 HP HA HC
        have R := P1.pfxR
        have RA := A1.range_cls0
        have b1 := cell_regrown (P1.cell_of (pfx_bool v n k))
        have b2 := cell_regrown (A1.cell_of (adrV_bool v' (byteAt m)))
        refine wp_region_quiet_below (by kernel_rfl) (by kernel_rfl) ?_
        repeat (first | (go_big_quiet_want; refine quiet_load 24 _ rfl (w.heap.size + 1) 0 rfl (adr v' m) _ RA Tryz.underlying24 rfl (size24.trans (by rw [adr_length])) ?_; go_big_quiet_on) | (go_big_quiet_want; refine quiet_load 29 _ rfl w.heap.size 0 rfl (pfx v n k) _ R.whole Tryz.underlying29 rfl (size29.trans (by rw [pfx_length])) ?_; go_big_quiet_on) | go_big_quiet_step ((first | (go_at_call 30; with_reducible exact HK.out _ _ _) | (go_at_call 28; with_reducible exact HB.out _ _ _))) | quiet_step ((first | (go_at_call 30; with_reducible exact HK.out _ _ _) | (go_at_call 28; with_reducible exact HB.out _ _ _))))
        refine wpQuiet_nil ?_
        intro w3 hw3
        have C3 := chg_cls hw3
        clear hw3 R RA b1 b2
        go_wp2
        rw [FIN.out]
        go_ret
        exact ⟨rfl, C1.trans C3⟩
    · have e2 : errA v' m = 150 := by unfold errA; rw [if_neg h2]
      have FIN := hid (show hasP v n k v' m = false by unfold hasP; rw [Bool.not_eq_true] at h2; rw [h2]; simp)
      rw [e2] at HB
      go_enter Tryz.func22, Tryz.ntmps22
      go_wp2
      obtain ⟨w1, hw1⟩ : ∃ w1, w1 = ((w.alloc (.cells (pfx v n k).toArray 29)).alloc (.cells (adr v' m).toArray 24)) := ⟨_, rfl⟩
      rw [← hw1]
      have P1 := HP.out
      have A1 := HA.out
      have C1 := HC.out
      rw [← hw1] at P1 A1 C1
      clear hw1 HP HA HC
      have R := P1.pfxR
      have RA := A1.range_cls0
      refine wp_region_quiet_below (by kernel_rfl) (by kernel_rfl) ?_
      repeat (first | (go_big_quiet_want; refine quiet_load 24 _ rfl (w.heap.size + 1) 0 rfl (adr v' m) _ RA Tryz.underlying24 rfl (size24.trans (by rw [adr_length])) ?_; go_big_quiet_on) | (go_big_quiet_want; refine quiet_load 29 _ rfl w.heap.size 0 rfl (pfx v n k) _ R.whole Tryz.underlying29 rfl (size29.trans (by rw [pfx_length])) ?_; go_big_quiet_on) | go_big_quiet_step ((first | (go_at_call 30; with_reducible exact HK.out _ _ _) | (go_at_call 28; with_reducible exact HB.out _ _ _))) | quiet_step ((first | (go_at_call 30; with_reducible exact HK.out _ _ _) | (go_at_call 28; with_reducible exact HB.out _ _ _))))
      refine wpQuiet_nil ?_
      intro w3 hw3
      have C3 := chg_cls hw3
      clear hw3 R RA
      go_wp2
      rw [FIN.out]
      go_ret
      exact ⟨rfl, C1.trans C3⟩
  · have e1 : errP v n k = 151 := by unfold errP; rw [if_neg h1]
    have FIN := hid (show hasP v n k v' m = false by unfold hasP; rw [Bool.not_eq_true] at h1; rw [h1]; rfl)
    rw [e1] at HK
    go_enter Tryz.func22, Tryz.ntmps22
    go_wp2
    obtain ⟨w1, hw1⟩ : ∃ w1, w1 = ((w.alloc (.cells (pfx v n k).toArray 29)).alloc (.cells (adr v' m).toArray 24)) := ⟨_, rfl⟩
    rw [← hw1]
    have P1 := HP.out
    have A1 := HA.out
    have C1 := HC.out
    rw [← hw1] at P1 A1 C1
    clear hw1 HP HA HC
    have R := P1.pfxR
    refine wp_region_quiet_below (by kernel_rfl) (by kernel_rfl) ?_
    repeat (first | (go_big_quiet_want; refine quiet_load 29 _ rfl w.heap.size 0 rfl (pfx v n k) _ R.whole Tryz.underlying29 rfl (size29.trans (by rw [pfx_length])) ?_; go_big_quiet_on) | go_big_quiet_step ((go_at_call 30; with_reducible exact HK.out _ _ _)) | quiet_step ((go_at_call 30; with_reducible exact HK.out _ _ _)))
    refine wpQuiet_nil ?_
    intro w3 hw3
    have C3 := chg_cls hw3
    clear hw3 R
    go_wp2
    rw [FIN.out]
    go_ret
    exact ⟨rfl, C1.trans C3⟩
end Go.Proofs.YtgpiapmbbnngpaaGreatDoor

/- Covers walked. -/
namespace Go.Proofs.YtgpiapmbbnngpaaGreatDoor
open Go.RowKit Go.Lib Go.Sort

theorem ld29g {ops : Array Oper} {rest : List Oper} {o : Oper} {a : Act} {w : World} {Q : Exit → Act → World → Prop} (hgd : Region.wanted o (yielded ops a.tmps) = true) (x : Operand) (ho : o.op = .load 29 x)
    (g : Nat) (hx : a.eval x = .pointer (some ⟨g, 0, none⟩)) (t : TypeId) (v : Bool) (n : Nat) (k : Int) (hb : Blk w g t (pfx v n k))
    (h : wpList Tryz.prog ops Q rest (a.put o.dst (.agg (pfx v n k).toArray)) w) : wpList Tryz.prog ops Q (o :: rest) a w := by
  unfold wpList
  rw [if_pos hgd]
  exact .inl (wp_load_row 29 x ho g hx t _ (0, 0) _ hb Tryz.underlying29 rfl (size29.trans (by simp [pfx_length])) h)
/-- The address of a prefix is read, at a guarded operation. -/
theorem ld24p {ops : Array Oper} {rest : List Oper} {o : Oper} {a : Act} {w : World} {Q : Exit → Act → World → Prop} (hgd : Region.wanted o (yielded ops a.tmps) = true) (x : Operand) (ho : o.op = .load 24 x)
    (g : Nat) (hx : a.eval x = .pointer (some ⟨g, 0, none⟩)) (t : TypeId) (v : Bool) (n : Nat) (k : Int) (hb : Blk w g t (pfx v n k))
    (h : wpList Tryz.prog ops Q rest (a.put o.dst (.agg (adr v n).toArray)) w) : wpList Tryz.prog ops Q (o :: rest) a w := by
  unfold wpList
  rw [if_pos hgd]
  exact .inl (wp_load_mid 24 x ho g 0 hx (adr v n) _ (fun j y hy => hb.cell_of (by rw [Nat.zero_add]; exact pfx_adr v n k j y hy)) Tryz.underlying24 rfl (size24.trans (by rw [adr_length])) h)

theorem ld29p {ops : Array Oper} {rest : List Oper} {o : Oper} {a : Act} {w : World} {Q : Exit → Act → World → Prop} (hgd : o.guard = none) (x : Operand) (ho : o.op = .load 24 x)
    (g : Nat) (hx : a.eval x = .pointer (some ⟨g, 0, none⟩)) (t : TypeId) (v : Bool) (n : Nat) (k : Int) (hb : Blk w g t (pfx v n k))
    (h : wpList Tryz.prog ops Q rest (a.put o.dst (.agg (adr v n).toArray)) w) : wpList Tryz.prog ops Q (o :: rest) a w :=
  ld24p (by unfold Region.wanted; rw [hgd]) x ho g hx t v n k hb h

set_option maxHeartbeats 1000000 in
theorem covers_N (v : Bool) (n : Nat) (k : Int) (v' : Bool) (m : Nat) (j : Int) (hn : n < 2 ^ 128) (hm : m < 2 ^ 128) (w : World) :
    Calls Tryz.prog 23 #[.agg (pfx v n k).toArray, .agg (pfx v' m j).toArray] w fun e w' => e = .returned (.bool (covP v n k v' m j)) ∧ Chg [] w w' := by
  have HP := hid (show Blk ((w.alloc (.cells (pfx v n k).toArray 29)).alloc (.cells (pfx v' m j).toArray 29)) w.heap.size 29 (pfx v n k) from (Blk.new w 29 (pfx v n k).toArray).alloc _)
  have HQ := hid (show Blk ((w.alloc (.cells (pfx v n k).toArray 29)).alloc (.cells (pfx v' m j).toArray 29)) (w.heap.size + 1) 29 (pfx v' m j) from Blk.new_at _ 29 (pfx v' m j).toArray (by simp))
  have HC := hid (show Chg [] w ((w.alloc (.cells (pfx v n k).toArray 29)).alloc (.cells (pfx v' m j).toArray 29)) from ((Chg.refl _ _).alloc _).alloc _)
  have HK := hid (check_N v' m j hm)
  by_cases h1 : okP v' m j = true
  · have e1 : errP v' m j = 0 := by unfold errP; rw [if_pos h1]
    rw [e1] at HK
    by_cases h2 : k ≤ j
    · have d2 : decide (k ≤ j) = true := decide_eq_true h2
      have HH := hid (has_N v n k v' m hn hm)
      have FIN := hid (show covP v n k v' m j = hasP v n k v' m by unfold covP; rw [h1, d2]; simp)
      go_enter Tryz.func23, Tryz.ntmps23
      go_wp2_with (first | (go_at_call 30; refine (HK.out _).mono ?_; rintro e w2 ⟨rfl, C2⟩; have c2 := (HP.out.chg C2 (by simp)).cell_of (pfx_bits v n k); have c3 := (HQ.out.chg C2 (by simp)).cell_of (pfx_bits v' m j)) | (go_at_call 22; refine (HH.out _).mono ?_; rintro e w3 ⟨rfl, C3⟩) | (refine ld24p rfl _ rfl (w.heap.size + 1) rfl 29 v' m j (HQ.out.chg C2 (by simp)) ?_) | (refine ld29g rfl _ rfl w.heap.size rfl 29 v n k (HP.out.chg C2 (by simp)) ?_) | (refine ld29 rfl _ rfl (w.heap.size + 1) rfl 29 v' m j HQ.out ?_))
      rw [FIN.out]
      go_ret
      exact ⟨rfl, (HC.out.trans C2).trans C3⟩
    · have d2 : decide (k ≤ j) = false := decide_eq_false h2
      have FIN := hid (show covP v n k v' m j = false by unfold covP; rw [d2]; simp)
      go_enter Tryz.func23, Tryz.ntmps23
      go_wp2_with (first | (go_at_call 30; refine (HK.out _).mono ?_; rintro e w2 ⟨rfl, C2⟩; have c2 := (HP.out.chg C2 (by simp)).cell_of (pfx_bits v n k); have c3 := (HQ.out.chg C2 (by simp)).cell_of (pfx_bits v' m j)) | (refine ld29 rfl _ rfl (w.heap.size + 1) rfl 29 v' m j HQ.out ?_))
      rw [FIN.out]
      go_ret
      exact ⟨rfl, HC.out.trans C2⟩
  · have e1 : errP v' m j = 151 := by unfold errP; rw [if_neg h1]
    have FIN := hid (show covP v n k v' m j = false by unfold covP; rw [Bool.not_eq_true] at h1; rw [h1]; rfl)
    rw [e1] at HK
    go_enter Tryz.func23, Tryz.ntmps23
    go_wp2_with (first | (go_at_call 30; refine (HK.out _).mono ?_; rintro e w2 ⟨rfl, C2⟩) | (refine ld29 rfl _ rfl (w.heap.size + 1) rfl 29 v' m j HQ.out ?_))
    rw [FIN.out]
    go_ret
    exact ⟨rfl, HC.out.trans C2⟩
end Go.Proofs.YtgpiapmbbnngpaaGreatDoor

/- The statements' own small functions: right, width, within. -/
namespace Go.Proofs.YtgpiapmbbnngpaaGreatDoor
open Go.RowKit Go.Lib Go.Sort

def zadr : Array Value := #[.bool false, .int .u8 0, .int .u8 0, .int .u8 0, .int .u8 0, .int .u8 0, .int .u8 0, .int .u8 0, .int .u8 0, .int .u8 0, .int .u8 0, .int .u8 0, .int .u8 0, .int .u8 0, .int .u8 0, .int .u8 0, .int .u8 0]
/-- Where the clearing stands. -/
def clrF (f : Nat → Nat) (i j : Nat) : Nat := if 4 ≤ j ∧ j < i then 0 else f j
theorem clr_right (n : Nat) : adrV false (clrF (byteAt n) 16) = adr false (maskN n 32) := by
  unfold adr
  refine adrV_ext false fun j hj => ?_
  rw [mask_byte n 32 j hj (by omega)]
  unfold clrF maskB
  by_cases h : 4 ≤ j
  · rw [if_pos ⟨h, hj⟩, if_pos (by omega)]
  · rw [if_neg (by omega), if_neg (by omega), if_neg (by omega)]

set_option maxHeartbeats 2000000 in
theorem right_N (v : Bool) (n : Nat) (w : World) :
    Calls Tryz.prog 18 #[.agg (adr v n).toArray] w fun e w' => e = .returned (.agg (adr v (maskN n (wid v))).toArray) ∧ Chg [] w w' := by
  have HS := hid (show Blk ((w.alloc (.cells (adr v n).toArray 24)).alloc (.cells zadr 24)) w.heap.size 24 (adr v n) from (Blk.new w 24 (adr v n).toArray).alloc _)
  have HR := hid (show Blk ((w.alloc (.cells (adr v n).toArray 24)).alloc (.cells zadr 24)) (w.heap.size + 1) 24 (adrV false fun _ => 0) from Blk.new_at _ 24 zadr (by simp))
  have HC := hid (((Chg.refl [] w).alloc (.cells (adr v n).toArray 24)).alloc (.cells zadr 24))
  have b0 := HS.out.cell_of (i := 0) (v := .bool v) rfl
  unfold zadr at b0
  cases v
  · have HF := hid (clr_right n)
    go_enter Tryz.func18, Tryz.ntmps18
    go_wp2
    go_loopw [3] (fun iv wr => ∃ i : Nat, 4 ≤ i ∧ i ≤ 16 ∧ iv = .int .i64 i ∧ Blk wr w.heap.size 24 (adrV false (clrF (byteAt n) i)) ∧ Blk wr (w.heap.size + 1) 24 (adrV false fun _ => 0) ∧ Chg [] w wr) (fun iv _ => 16 - (RowKit.intOf iv).toNat)
    case atStart =>
      refine ⟨4, by omega, by omega, rfl, ?_, HR.out, HC.out⟩
      have := HS.out
      unfold adr at this
      rwa [adrV_ext false (f := byteAt n) (g := clrF (byteAt n) 4) (fun j _ => by unfold clrF; rw [if_neg (by omega)])] at this
    case round =>
      obtain ⟨i, hi4, hi, rfl, hS, hR, hC⟩ := hrel
      by_cases hlt : (i : Int) < 16
      · have i0 : (0 : Int) ≤ (i : Int) := by omega
        have c1 := hS.cell_of (adrV_byte false (clrF (byteAt n) i) i (by omega))
        have f1 := hS.frozen (1 + i)
        go_wp2
        go_roundw
        case measure => simp [RowKit.intOf]; omega
        case rel =>
          refine ⟨i + 1, by omega, by omega, by go_num, ?_, hR.far (by simp) _, hC.set1 (Nat.le_refl _) _ _⟩
          have hs := hS.set_ (1 + i) (.int .u8 0)
          have e := adrV_set false (clrF (byteAt n) i) (clrF (byteAt n) (i + 1)) i 0 (by unfold clrF; rw [if_pos ⟨hi4, by omega⟩]) (fun j hj hne => by
            unfold clrF
            by_cases h : 4 ≤ j ∧ j < i
            · rw [if_pos h, if_pos ⟨h.1, by omega⟩]
            · rw [if_neg h, if_neg (by omega)])
          exact e ▸ hs
      · have hi16 : i = 16 := by omega
        subst hi16
        rw [HF.out] at hS
        go_wp2_with (first | (refine ld24 rfl _ rfl w.heap.size rfl 24 false _ hS ?_) | (refine st24 rfl _ _ rfl (w.heap.size + 1) false _ rfl rfl 24 _ hR (adrV_length _ _) ?_))
        refine bodyPost_ret (rs24 rfl _ _ (w.heap.size + 1) false (byteAt (maskN n 32)) 24 rfl ?_) rfl ⟨rfl, hC.setRow (.inr (by omega)) _⟩
        exact hR.row (adr false (maskN n 32))
  · have HF := hid (show maskN n (wid true) = n from maskN_all n)
    rw [HF.out]
    go_enter Tryz.func18, Tryz.ntmps18
    go_wp2_with (first | (refine ld24 rfl _ rfl w.heap.size rfl 24 true _ HS.out ?_) | (refine st24 rfl _ _ rfl (w.heap.size + 1) true (byteAt n) rfl rfl 24 _ HR.out (adrV_length _ _) ?_))
    refine bodyPost_ret (rs24 rfl _ _ (w.heap.size + 1) true (byteAt n) 24 rfl ?_) rfl ⟨rfl, HC.out.setRow (.inr (by omega)) _⟩
    exact HR.out.row (adr true n)
set_option maxHeartbeats 1000000 in
theorem width2_N (v : Bool) (n : Nat) (w : World) :
    Calls Tryz.prog 21 #[.agg (adr v n).toArray] w fun e w' => e = .returned (.int .i64 (wid v : Nat)) ∧ Chg [] w w' := by
  have b0 := Blk.new w 24 (adr v n).toArray
  have c0 := b0.cell_of (i := 0) (v := .bool v) rfl
  have fin := hid ((Chg.refl [] w).alloc (.cells (adr v n).toArray 24))
  cases v
  · go_enter Tryz.func21, Tryz.ntmps21
    go_wp2
    go_ret
    exact ⟨rfl, fin.out⟩
  · go_enter Tryz.func21, Tryz.ntmps21
    go_wp2
    go_ret
    exact ⟨rfl, fin.out⟩
/-- A number from 0 to n. -/
def withinI (i : Int) (n : Nat) : Int := i % ((n : Int) + 1)
theorem withinI_le (i : Int) (n : Nat) : 0 ≤ withinI i n ∧ withinI i n ≤ n := by
  unfold withinI
  have := Int.emod_nonneg i (b := (n : Int) + 1) (by omega)
  have := Int.emod_lt_of_pos i (b := (n : Int) + 1) (by omega)
  omega
theorem tmod_pos (i : Int) (n : Nat) : (0 ≤ i.tmod ((n : Int) + 1) → i.tmod ((n : Int) + 1) = withinI i n) ∧ (i.tmod ((n : Int) + 1) < 0 → i.tmod ((n : Int) + 1) + n + 1 = withinI i n) ∧ -(n : Int) ≤ i.tmod ((n : Int) + 1) ∧ i.tmod ((n : Int) + 1) ≤ n := by
  unfold withinI
  rw [Int.tmod_eq_emod]
  have := Int.emod_nonneg i (b := (n : Int) + 1) (by omega)
  have := Int.emod_lt_of_pos i (b := (n : Int) + 1) (by omega)
  have e : (((n : Int) + 1).natAbs : Int) = n + 1 := by omega
  split
  · omega
  · rw [e]; omega
set_option maxHeartbeats 1000000 in
set_option maxRecDepth 100000 in
theorem within_N (i : Int) (n : Nat) (hn : n ≤ 128) (hi : -9223372036854775808 ≤ i ∧ i ≤ 9223372036854775807) (w : World) :
    Calls Tryz.prog 20 #[.int .i64 i, .int .i64 n] w fun e w' => e = .returned (.int .i64 (withinI i n)) ∧ w' = w := by
  obtain ⟨t1, t2, t3, t4⟩ := tmod_pos i n
  obtain ⟨q, hq⟩ : ∃ q, q = i.tmod ((n : Int) + 1) := ⟨_, rfl⟩
  rw [← hq] at t1 t2 t3 t4
  have eq1 : i.tmod ((n : Int) + 1) = q := hq.symm
  have n0 : ¬ ((n : Int) + 1 = 0) := by omega
  have HI := hid hi
  clear hi hq
  by_cases h : q < 0
  · have HF := hid (t2 h)
    go_enter Tryz.func20, Tryz.ntmps20
    go_wp2
    go_ret
    exact ⟨rfl, rfl⟩
  · have HF := hid (t1 (by omega))
    go_enter Tryz.func20, Tryz.ntmps20
    go_wp2
    go_ret
    exact ⟨by rw [← HF.out]; rfl, rfl⟩
end Go.Proofs.YtgpiapmbbnngpaaGreatDoor

/- '==' of addresses and prefixes. -/
namespace Go.Proofs.YtgpiapmbbnngpaaGreatDoor
open Go.RowKit Go.Lib Go.Sort

def litA (v : Bool) (n : Nat) : List Lit := .bool v :: bytL (byteAt n)
def litP (v : Bool) (n : Nat) (k : Int) : List Lit := litA v n ++ [.int .i64 k]
theorem litA_eq (v v' : Bool) (n m : Nat) (hn : n < 2 ^ 128) (hm : m < 2 ^ 128) : litA v n = litA v' m ↔ v = v' ∧ n = m := by
  unfold litA
  rw [List.cons.injEq, bytL_eq, same_bytes hn hm, decide_eq_true_eq]
  constructor
  · rintro ⟨h1, h2⟩
    injection h1 with h1
    exact ⟨h1, h2⟩
  · rintro ⟨rfl, rfl⟩
    exact ⟨rfl, rfl⟩
theorem litA_len (v : Bool) (n : Nat) : (litA v n).length = 17 := by simp [litA, bytL]
theorem litP_eq (v v' : Bool) (n m : Nat) (k j : Int) (hn : n < 2 ^ 128) (hm : m < 2 ^ 128) : litP v n k = litP v' m j ↔ v = v' ∧ n = m ∧ k = j := by
  unfold litP
  constructor
  · intro h
    obtain ⟨h1, h2⟩ := List.append_inj h (by rw [litA_len, litA_len])
    obtain ⟨h3, h4⟩ := (litA_eq v v' n m hn hm).1 h1
    injection h2 with h2
    injection h2 with _ h2
    exact ⟨h3, h4, h2⟩
  · rintro ⟨rfl, rfl, rfl⟩
    rfl
theorem cells24 : Tryz.prog.cellsOf 24 = 17 := by kernel_rfl
theorem cells29 : Tryz.prog.cellsOf 29 = 18 := by kernel_rfl
theorem cells4 : Tryz.prog.cellsOf 4 = 1 := by kernel_rfl
theorem cells3 : Tryz.prog.cellsOf 3 = 1 := by kernel_rfl
theorem lit4 (d : Nat) (v : Bool) : Tryz.prog.keyLits (d + 1) 4 [.bool v] = some [.bool v] := by
  simp [Program.keyLits, Tryz.underlying4]
theorem lit3 (d : Nat) (k : Int) (h0 : -9223372036854775808 ≤ k) (h1 : k ≤ 9223372036854775807) : Tryz.prog.keyLits (d + 1) 3 [.int .i64 k] = some [.int .i64 k] := by
  have hw : (Lit.int .i64 k).wf = true := by simp [Lit.wf, IntKind.min, IntKind.max, IntKind.signed, IntKind.bits]; omega
  simp [Program.keyLits, Tryz.underlying3, hw]
theorem adr_drop (v : Bool) (n : Nat) : ((adr v n).drop 1).take 16 = bytV (byteAt n) := by
  unfold adr adrV bytV
  rw [List.drop_one, List.tail_cons, List.take_of_length_le (by simp)]
set_option maxRecDepth 100000 in
theorem lits24 (d : Nat) (v : Bool) (n : Nat) : Tryz.prog.keyLits (d + 3) 24 (adr v n) = some (litA v n) := by
  have h1 := lit4 (d + 1) v
  have h2 := lits22 d (byteAt n) (byteAt_lt n)
  have h3 := adr_drop v n
  have h4 : ((adr v n).drop 0).take 1 = [.bool v] := rfl
  unfold Program.keyLits
  rw [Tryz.underlying24]
  simp only
  rw [if_pos ⟨by rw [cells24, adr_length], by simp⟩]
  simp only [List.mapM_cons, List.mapM_nil, cells4, cells22, h3, h4, h1, h2]
  rfl
set_option maxRecDepth 100000 in
theorem lits29 (d : Nat) (v : Bool) (n : Nat) (k : Int) (h0 : -9223372036854775808 ≤ k) (h1 : k ≤ 9223372036854775807) : Tryz.prog.keyLits (d + 4) 29 (pfx v n k) = some (litP v n k) := by
  have e1 := lits24 d v n
  have e2 := lit3 (d + 2) k h0 h1
  have e3 : ((pfx v n k).drop 0).take 17 = adr v n := by
    unfold pfx; rw [List.drop_zero, List.take_left' (adr_length v n)]
  have e4 : ((pfx v n k).drop 17).take 1 = [.int .i64 k] := by
    unfold pfx; rw [List.drop_left' (adr_length v n)]; rfl
  unfold Program.keyLits
  rw [Tryz.underlying29]
  simp only
  rw [if_pos ⟨by rw [cells29, pfx_length], by simp⟩]
  simp only [List.mapM_cons, List.mapM_nil, cells24, cells3, e1, e2, e3, e4]
  rfl
theorem eq24 (v v' : Bool) (n m : Nat) (hn : n < 2 ^ 128) (hm : m < 2 ^ 128) (W : World) : (Op.equalIn 10000 24 (.agg (adr v n).toArray) (.agg (adr v' m).toArray)).run Tryz.prog W = .ok (decide (v = v' ∧ n = m)) W := by
  obtain ⟨r, h1, h2⟩ := run_equalIn_deep (P := Tryz.prog) 9995 5 24 (by kernel_rfl) W 5 5 (.agg (adr v n).toArray) (.agg (adr v' m).toArray) _ _ (by simp [Value.formed, Tryz.underlying24, cells24, adr_length]) (by simp [Value.formed, Tryz.underlying24, cells24, adr_length]) (lits24 2 v n) (lits24 2 v' m)
  simp only [Nat.reduceAdd] at h1
  rw [litA_eq v v' n m hn hm] at h2
  have e : r = decide (v = v' ∧ n = m) := by
    rw [Bool.eq_iff_iff, h2, decide_eq_true_eq]
  rw [h1, e]
theorem eq29 (v v' : Bool) (n m : Nat) (k j : Int) (hn : n < 2 ^ 128) (hm : m < 2 ^ 128) (hk : -9223372036854775808 ≤ k ∧ k ≤ 9223372036854775807) (hj : -9223372036854775808 ≤ j ∧ j ≤ 9223372036854775807) (W : World) : (Op.equalIn 10000 29 (.agg (pfx v n k).toArray) (.agg (pfx v' m j).toArray)).run Tryz.prog W = .ok (decide (v = v' ∧ n = m ∧ k = j)) W := by
  obtain ⟨r, h1, h2⟩ := run_equalIn_deep (P := Tryz.prog) 9995 5 29 (by kernel_rfl) W 5 5 (.agg (pfx v n k).toArray) (.agg (pfx v' m j).toArray) _ _ (by simp [Value.formed, Tryz.underlying29, cells29, pfx_length]) (by simp [Value.formed, Tryz.underlying29, cells29, pfx_length]) (lits29 1 v n k hk.1 hk.2) (lits29 1 v' m j hj.1 hj.2)
  simp only [Nat.reduceAdd] at h1
  rw [litP_eq v v' n m k j hn hm] at h2
  have e : r = decide (v = v' ∧ n = m ∧ k = j) := by
    rw [Bool.eq_iff_iff, h2, decide_eq_true_eq]
  rw [h1, e]
theorem guard24 (op : BinOp) (x y : Operand) (a b : Array Value) (W : World) : (eqGuard op 24 x y (.agg a) (.agg b)).run Tryz.prog W = .ok () W := by cases op <;> kernel_rfl
theorem guard29 (op : BinOp) (x y : Operand) (a b : Array Value) (W : World) : (eqGuard op 29 x y (.agg a) (.agg b)).run Tryz.prog W = .ok () W := by cases op <;> kernel_rfl
end Go.Proofs.YtgpiapmbbnngpaaGreatDoor
