/- A reckoner of calls, part 4: stores, variables, slices. Proved over any program. No condition of its own. -/
import Derived.Test.YtcpbbgkeigbndaaGreatGr02
import Derived.Laws.MakeOwn
namespace Go.Proofs.YtcpbbgkeigbndaaGreat
open Go Go.RowKit Go.Lib Go.Sort

namespace Ax
section
variable {P : Program} {W : World}
theorem splice_in {α : Type} (L : List α) (o N off : Nat) (xs cs : List α) (hx : (L.drop o).take N = xs) (hl : xs.length = N) (hfit : off + cs.length ≤ xs.length) : ((splice L (o + off) cs).drop o).take N = xs.take off ++ (cs ++ xs.drop (off + cs.length)) := by
  have hL : o + N ≤ L.length ∨ N = 0 := by
    have := congrArg List.length hx
    rw [List.length_take, List.length_drop, hl] at this
    omega
  rcases hL with hL | hN
  · apply List.ext_getElem?
    intro j
    unfold splice
    rw [List.getElem?_take]
    by_cases hj : j < N
    · rw [if_pos hj, List.getElem?_drop]
      have hxj : ∀ i, i < N → xs[i]? = L[o + i]? := fun i hi => by rw [← hx, List.getElem?_take, if_pos hi, List.getElem?_drop]
      by_cases h1 : j < off
      · rw [List.getElem?_append_left (by rw [List.length_take]; omega), List.getElem?_append_left (by rw [List.length_take]; omega), List.getElem?_take, List.getElem?_take, if_pos (by omega), if_pos h1, hxj j hj]
      · have hl1 : (L.take (o + off) ++ (cs ++ L.drop (o + off + cs.length)))[o + j]? = (cs ++ L.drop (o + off + cs.length))[j - off]? := by
          rw [List.getElem?_append_right (by rw [List.length_take]; omega), List.length_take, Nat.min_eq_left (by omega)]
          congr 1; omega
        have hr1 : (xs.take off ++ (cs ++ xs.drop (off + cs.length)))[j]? = (cs ++ xs.drop (off + cs.length))[j - off]? := by
          rw [List.getElem?_append_right (by rw [List.length_take]; omega), List.length_take, Nat.min_eq_left (by omega)]
        rw [hl1, hr1]
        by_cases h2 : j < off + cs.length
        · rw [List.getElem?_append_left (by omega), List.getElem?_append_left (by omega)]
        · have a1 : (cs ++ L.drop (o + off + cs.length))[j - off]? = L[o + j]? := by
            rw [List.getElem?_append_right (by omega), List.getElem?_drop]
            congr 1; omega
          have a2 : (cs ++ xs.drop (off + cs.length))[j - off]? = xs[j]? := by
            rw [List.getElem?_append_right (by omega), List.getElem?_drop]
            congr 1; omega
          rw [a1, a2, hxj _ hj]
    · rw [if_neg hj]
      symm
      apply List.getElem?_eq_none
      simp only [List.length_append, List.length_take, List.length_drop]
      omega
  · subst hN
    have : xs = [] := List.eq_nil_of_length_eq_zero hl
    subst this
    have : cs = [] := List.eq_nil_of_length_eq_zero (by rw [List.length_nil] at hfit; omega)
    subst this
    simp
theorem foldl_set : ∀ (l : List Value) (k : Nat) (z : Array Value), z.size = k + l.length → (l.zipIdx k).foldl (fun (cs : Array Value) (x : Value × Nat) => cs.setIfInBounds (0 + x.2) x.1) z = (z.toList.take k ++ l).toArray
  | [], k, z, h => by
    simp only [List.length_nil, Nat.add_zero] at h
    rw [List.zipIdx_nil, List.foldl_nil, List.append_nil, List.take_of_length_le (by simp; omega)]
  | v :: l, k, z, h => by
    simp only [List.length_cons] at h
    rw [List.zipIdx_cons, List.foldl_cons, foldl_set l (k + 1) _ (by simp; omega)]
    apply congrArg List.toArray
    simp only [Nat.zero_add, Array.toList_setIfInBounds]
    rw [List.take_succ_eq_append_getElem (by simp; omega), List.getElem_set_self, List.take_set_of_le (Nat.le_refl _)]
    simp
theorem fill_one (size : Nat) (v : Value) (z : Array Value) (hz : z.size = size) (hv : v.cells.size = size) : Instr.fill (fun i => some (i * size, size)) z [(0, v)] = some v.cells := by
  have h := foldl_set v.cells.toList 0 z (by simp; omega)
  have e1 : (v.cells.size ≠ size || 0 * size + v.cells.size > z.size) = false := by simp [hv, hz]
  unfold Instr.fill
  simp only [e1, Bool.false_eq_true, if_false]
  unfold Instr.fill
  apply congrArg some
  rw [← Array.foldl_toList, show v.cells.zipIdx.toList = v.cells.toList.zipIdx 0 by simp]
  simp only [Nat.zero_mul]
  rw [h]
  simp
def appArgs (c : Call) : Option (TypeId × Operand × Operand) := match c.callee with
  | .builtin b => match b with
    | .append => match c.args.toList, c.argTypes.toList with
      | [x, y], [t, u] => match Nat.beq t u with
        | true => some (t, x, y)
        | false => none
      | _, _ => none
    | _ => none
  | _ => none
def appTy (P : Program) (t : TypeId) : Option (TypeId × Nat × Nat) := match P.underlying t with
  | some (.slice e) => match P.info? e with
    | some inf => match inf.zero with
      | some z => match Nat.beq z.cells.size inf.size && Nat.blt 0 inf.size with
        | true => some (e, inf.size, inf.bytes)
        | false => none
      | none => none
    | none => none
  | _ => none
theorem appTy_ok {t e sz bytes : Nat} (h : appTy P t = some (e, sz, bytes)) : ∃ inf z, P.underlying t = some (.slice e) ∧ P.info? e = some inf ∧ inf.zero = some z ∧ inf.size = sz ∧ inf.bytes = bytes ∧ z.cells.size = sz ∧ 0 < sz := by
  unfold appTy at h
  split at h
  · rename_i e' hu
    split at h
    · rename_i inf hi
      split at h
      · rename_i z hz
        split at h
        · rename_i hb
          rw [Bool.and_eq_true] at hb
          injection h with h
          injection h with h1 h2
          injection h2 with h2 h3
          subst h1; subst h2; subst h3
          exact ⟨inf, z, hu, hi, hz, rfl, rfl, Nat.eq_of_beq_eq_true hb.1, Nat.le_of_ble_eq_true hb.2⟩
        · cases h
      · cases h
    · cases h
  · cases h
def isBytes (P : Program) (s d : TypeId) : Bool := match P.underlying s with
  | some (.slice el) => match P.underlying d with
    | some .string => match P.underlying el with
      | some (.int .u8) => true
      | _ => false
    | _ => false
  | _ => false
def lenArg (c : Call) : Option (TypeId × Operand) := match c.callee with
  | .builtin b => match b with
    | .len => match c.args.toList, c.argTypes.toList with
      | [x], [t] => some (t, x)
      | _, _ => none
    | _ => none
  | _ => none
theorem lenArg_eq {c : Call} {t : TypeId} {x : Operand} (h : lenArg c = some (t, x)) : c = { callee := .builtin .len, args := #[x], argTypes := #[t] } := by
  obtain ⟨callee, args, ats⟩ := c
  unfold lenArg at h
  split at h
  · rename_i b hb
    split at h
    · split at h
      · rename_i y u hy hu
        simp only at hb hy hu
        injection h with h
        injection h with h1 h2
        subst h1; subst h2
        have e1 : args = #[y] := by rw [← Array.toList_inj, hy]
        have e2 : ats = #[u] := by rw [← Array.toList_inj, hu]
        rw [hb, e1, e2]
      · cases h
    · cases h
  · cases h
theorem bytes_fold : ∀ (l : List UInt8) (r : ByteArray), (l.map fun c => (c.toNat : Int)).foldl (fun r n => r.push (UInt8.ofNat n.toNat)) r = ⟨(r.data.toList ++ l).toArray⟩
  | [], r => by simp
  | c :: l, r => by
    rw [List.map_cons, List.foldl_cons, bytes_fold l]
    congr 1
    simp [ByteArray.push]
theorem run_bytes {P : Program} {W : World} {s d : TypeId} (hb : isBytes P s d = true) (b : ByteArray) (sp : Option Addr) (c m : Nat) (news : List Value) (h1 : b.size = m) (h2 : news = b.data.toList.map fun c => .int .u8 (c.toNat : Int))
    (hc : 0 < news.length → ∃ ad, sp = some ad ∧ ∀ (j : Nat) (u : Value), news[j]? = some u → W.cell? (ad.add j) = some u) : (convert s d (.slice sp m c)).run P W = .ok (.string b) W := by
  unfold isBytes at hb
  split at hb
  · rename_i el hs
    split at hb
    · rename_i hd
      split at hb
      · rename_i he
        rw [run_convert_bytes_string W s d el sp m c hs he hd]
        have hm : news.length = m := by rw [h2, List.length_map, ← h1]; rfl
        have e : news = (b.data.toList.map fun c => (c.toNat : Int)).map (Value.int .u8) := by rw [h2, List.map_map]; rfl
        cases sp with
        | none =>
          have h0 : news.length = 0 := by
            rcases Nat.eq_zero_or_pos news.length with h | h
            · exact h
            · obtain ⟨_, h, _⟩ := hc h; cases h
          have hz : b.data.toList = [] := by
            have : b.data.toList.length = 0 := by rw [h2, List.length_map] at h0; exact h0
            exact List.eq_nil_of_length_eq_zero this
          have hb0 : b = ByteArray.empty := by
            cases b with
            | mk a =>
              have : a = #[] := Array.toList_inj.1 hz
              rw [this]; rfl
          rw [hb0]; rfl
        | some a =>
          have hl : (loadCells a m).run P W = .ok ((b.data.toList.map fun c => (c.toNat : Int)).map (Value.int .u8)).toArray W := by
            rw [← hm, ← e]
            refine run_loadCells_list (P := P) W a news fun j v hj => ?_
            have hp : 0 < news.length := by
              have := (List.getElem?_eq_some_iff.1 hj).1
              omega
            obtain ⟨ad, ha, hh⟩ := hc hp
            injection ha with ha
            rw [ha]; exact hh j v hj
          rw [run_bytesToString W a m c _ hl, bytes_fold]
          rfl
      · cases hb
    · cases hb
  · cases hb
theorem appArgs_eq {c : Call} {t : TypeId} {x y : Operand} (h : appArgs c = some (t, x, y)) : c = { callee := .builtin .append, args := #[x, y], argTypes := #[t, t] } := by
  obtain ⟨callee, args, ats⟩ := c
  unfold appArgs at h
  split at h
  · rename_i b hb
    split at h
    · split at h
      · rename_i x' y' t' u' hx ht
        split at h
        · rename_i hq
          have hq := Nat.eq_of_beq_eq_true hq
          simp only at hb hx ht
          injection h with h
          injection h with h1 h2
          injection h2 with h2 h3
          subst h1; subst h2; subst h3; subst hq
          have e1 : args = #[x', y'] := by rw [← Array.toList_inj, hx]
          have e2 : ats = #[t', t'] := by rw [← Array.toList_inj, ht]
          rw [hb, e1, e2]
        · cases h
      · cases h
    · cases h
  · cases h
theorem run_append_all (w : World) (t ty e : TypeId) (i : TypeInfo) (z : Value) (size bytes : Nat) (ht : P.underlying t = some (.slice e)) (hi : P.info? e = some i) (hz : i.zero = some z)
    (hsize : i.size = size) (hby : i.bytes = bytes) (hzs : z.cells.size = size) (hsz : 0 < size)
    (v : Value) (n : Nat) (xs : List Value) (hown : Own w e size v n xs)
    (sp : Option Addr) (m c : Nat) (news : List Value) (hl : news.length = m * size) (hnews : 0 < news.length → ∃ ad, sp = some ad ∧ ∀ (j : Nat) (u : Value), news[j]? = some u → w.cell? (ad.add j) = some u) (h1 : ∀ u ∈ news, u.oneCell' = true)
    (h63 : n + m ≤ maxLen) (hbytes : (n + m) * bytes ≤ 140737488355328) :
    ∃ A' c' w', (Builtin.append_ #[t, t] ty #[v, .slice sp m c]).run P w = .ok (.slice A' (n + m) c') w' ∧ Own w' e size (.slice A' (n + m) c') (n + m) (xs ++ news) ∧ Chg v.ownBlock.toList w w' ∧
      ((Value.slice A' (n + m) c').ownBlock = v.ownBlock ∨ ∃ k, (Value.slice A' (n + m) c').ownBlock = some k ∧ w.heap.size ≤ k) := by
  cases sp with
  | some ad =>
    refine run_append_any w t ty e i z size bytes ht hi hz hsize hby hzs hsz v n xs hown ad m c news hl (fun j u hu => ?_) h1 h63 hbytes
    have hpos : 0 < news.length := by have := (List.getElem?_eq_some_iff.1 hu).1; omega
    obtain ⟨ad', ha, hc⟩ := hnews hpos
    cases ha
    exact hc j u hu
  | none =>
    have h0 : news = [] := by
      rcases Nat.eq_zero_or_pos news.length with h | h
      · exact List.eq_nil_of_length_eq_zero h
      · obtain ⟨ad, ha, _⟩ := hnews h; cases ha
    subst h0
    have hm : m = 0 := by
      rcases Nat.eq_zero_or_pos m with h | h
      · exact h
      · have := Nat.mul_pos h hsz
        simp at hl; omega
    subst hm
    obtain ⟨A, cap, rfl, hn, _⟩ := hown.form
    rw [List.append_nil, Nat.add_zero]
    refine ⟨A, cap, w, ?_, hown, Chg.refl _ _, .inl rfl⟩
    cases A <;> simp [Builtin.append_, run_underlying ht, sizeOf, typeInfo, hi, Builtin.lenOf, hn, Builtin.firstCells, storeCells]
end
def storeRow (P : Program) (t : TypeId) (i : Nat) (r : Row) (off : Nat) (sv : SV) (h : Option Hint) : OR := match shapeOf P t with
  | none => none
  | some (_, size) => match svCells sv with
    | none => none
    | some c => match Nat.beq c.length size && (allB SV.oneB c && Nat.blt 0 size) with
      | false => none
      | true => match r with
        | .c g ty cs => match h with
          | some (.st cs') => match cs with
            | .vs l => match allV c with
              | some vs => some (⟨[i], [(i, .c g ty (.vs cs'))], [], [], .v undef⟩, some (off + size ≤ l.length ∧ l.take off ++ (vs ++ l.drop (off + size)) = cs'))
              | none => none
            | .ss _ => none
          | _ => match Nat.ble (off + size) cs.svs.length with
            | true => some (⟨[i], [(i, .c g ty (mkCs (cs.svs.take off ++ (c ++ cs.svs.drop (off + size)))))], [], [], .v undef⟩, none)
            | false => none
        | .s ty sz n xs => match allV c with
          | some vs => match h with
            | some (.st cs') => some (⟨[i], [(i, .s ty sz n cs')], [], [], .v undef⟩, some (off + size ≤ xs.length ∧ xs.take off ++ (vs ++ xs.drop (off + size)) = cs'))
            | _ => match Nat.ble (off + size) xs.length with
              | true => some (⟨[i], [(i, .s ty sz n (xs.take off ++ (vs ++ xs.drop (off + size))))], [], [], .v undef⟩, none)
              | false => none
          | none => none
        | _ => none
section
variable {P : Program} {b : Base} {β : Env} {W : World} {a : Act} {o : Oper} {row : Nat → Option Row} {m : Nat} {g : Eff} {ob : Option Prop}
theorem oneCells {c : List SV} (h : allB SV.oneB c = true) : ∀ u ∈ SV.dens β c, u.oneCell' = true := by
  intro u hu
  rw [dens_map] at hu
  obtain ⟨s, hs, rfl⟩ := List.mem_map.1 hu
  exact (oneB_cells (allB_spec h s hs)).2
theorem exec_store {t : TypeId} {x y : Operand} {g' off : Nat} {rw : Bool} {size : Nat} {v : Value} {ty : TypeId} {L : List Value} (ho : o.op = .store t x y) (hx : a.eval x = .pointer (some ⟨g', off, none⟩)) (hy : a.eval y = v) (hs : shapeOf P t = some (rw, size)) (hl : v.cells.toList.length = size) (h1 : ∀ u ∈ v.cells.toList, u.oneCell' = true) (hb : Blk W g' ty L) (hf : off + size ≤ L.length) :
    (execOp a.eval o).run P W = .ok .skip (W.setCells g' off v.cells.toList) ∧ Blk (W.setCells g' off v.cells.toList) g' ty (L.take off ++ (v.cells.toList ++ L.drop (off + size))) ∧ Cg (· = g') W (W.setCells g' off v.cells.toList) := by
  have hi : (P.info? t).map (·.size) = some v.cells.size := by
    unfold shapeOf at hs
    split at hs
    · rename_i d inf hu hi
      injection hs with hs
      injection hs with _ h2
      rw [hi]
      simp at hl ⊢
      omega
    · cases hs
  have hth : W.there g' off v.cells.size := Blk_there hb (by simp at hl; omega)
  have hrun := storeVar_cells (P := P) g' off t v hth hi h1
  refine ⟨?_, ?_, Cg.of (Chg.setCells_ (S := [g']) _ (.inl (by simp)) _ _ (Chg.refl _ _)) fun k hk => .inl (List.mem_singleton.1 hk)⟩
  · unfold execOp
    simp only [ho, hx, hy, Sem.run_bind, Instr.storeAt, Instr.sureAddr, Sem.run_pure, Result.andThen_ok, hrun]
  · have := hb.setCells v.cells.toList off (by rw [hl]; exact hf)
    rw [hl] at this
    exact this
theorem storeRow_ok {t : TypeId} {x y : Operand} {i off : Nat} {r : Row} {sv pt : SV} {h : Option Hint} (ho : o.op = .store t x y) (hx : a.eval x = pt.den β) (hy : a.eval y = sv.den β) (hp : pt = .p i off ∧ isCells r = true ∨ pt = .e i off ∧ isCells r = false) (hrow : row i = some r) (hr : storeRow P t i r off sv h = some (g, ob)) (hob : ∀ p, ob = some p → p) (hs : See b β W row g.see) : Runs P o a W (EPost b β W row m g) := by
  unfold storeRow at hr
  split at hr
  · cases hr
  · rename_i rw size hsh
    split at hr
    · cases hr
    · rename_i c hc
      have hcd := svCells_den (β := β) hc
      split at hr
      · cases hr
      · rename_i hbs
        simp only [Bool.and_eq_true] at hbs
        obtain ⟨hb1, hb2, hb3⟩ := hbs
        have hl : (sv.den β).cells.toList.length = size := by rw [hcd, dens_length]; exact Nat.eq_of_beq_eq_true hb1
        have h1 : ∀ u ∈ (sv.den β).cells.toList, u.oneCell' = true := by rw [hcd]; exact oneCells hb2
        have h0 : 0 < size := Nat.le_of_ble_eq_true hb3
        split at hr
        · rename_i gg ty cs
          rcases hp with ⟨rfl, _⟩ | ⟨_, hf⟩
          · have fin : ∀ (cs' : Cs) (ob' : Option Prop), g = ⟨[i], [(i, .c gg ty cs')], [], [], .v undef⟩ → off + size ≤ (cs.den β).length → (cs.den β).take off ++ (SV.dens β c ++ (cs.den β).drop (off + size)) = cs'.den β → Runs P o a W (EPost b β W row m g) := by
              rintro cs' _ rfl hle heq
              have hb := hs.held i (by simp) _ hrow
              obtain ⟨r1, r2, r3⟩ := exec_store ho hx hy hsh hl h1 hb.2 hle
              rw [hcd, heq] at r2
              exact .inr (.inl ⟨_, r1, β, rfl, post_upd hrow (fun k hk => hk) ⟨hb.1, by rw [hcd]; exact r2⟩ r3⟩)
            split at hr
            · split at hr
              · split at hr
                · rename_i vs hvs
                  cases hr
                  obtain ⟨h2, h3⟩ := hob _ rfl
                  exact fin _ none rfl h2 (by rw [allV_den hvs]; exact h3)
                · cases hr
              · cases hr
            · split at hr
              · rename_i hle
                cases hr
                have hle := Nat.le_of_ble_eq_true hle
                refine fin _ none rfl (by rw [← svs_den, dens_length]; exact hle) ?_
                rw [mkCs_den, dens_append, dens_append, dens_take, dens_drop, svs_den]
              · cases hr
          · cases hf
        · rename_i ty sz n xs
          rcases hp with ⟨_, hf⟩ | ⟨rfl, _⟩
          · cases hf
          · split at hr
            · rename_i vs hvs
              have fin : ∀ (cs' : List Value) (ob' : Option Prop), g = ⟨[i], [(i, .s ty sz n cs')], [], [], .v undef⟩ → off + size ≤ xs.length → xs.take off ++ (vs ++ xs.drop (off + size)) = cs' → Runs P o a W (EPost b β W row m g) := by
                rintro cs' _ rfl hle heq
                obtain ⟨hown, hF, hone⟩ := hs.held i (by simp) _ hrow
                have hlen := hown.len
                have hv : (sv.den β).cells.toList = vs := by rw [hcd, allV_den hvs]
                rcases hown.2 with ⟨hvn, hn0⟩ | ⟨g', o', c', L, hvs', hg, hnc, hcm, hL, hxs⟩
                · rw [hn0, Nat.zero_mul] at hlen
                  omega
                · have hns : n * sz ≤ c' * sz := Nat.mul_le_mul_right _ hnc
                  have hx' : a.eval x = .pointer (some ⟨g', o' + off, none⟩) := by rw [hx]; simp only [SV.den, hvs', elV_slice, Option.map_some, Addr.add_mid]
                  obtain ⟨r1, r2, r3⟩ := exec_store ho hx' hy hsh hl h1 hg (by omega)
                  rw [hv] at r1 r2 r3 hl
                  refine .inr (.inl ⟨_, r1, β, rfl, post_upd hrow (fun k hk => hk) ⟨⟨?_, .inr ⟨g', o', c', _, hvs', r2, hnc, hcm, ?_, ?_⟩⟩, hF, fun u hu => ?_⟩ (r3.mono fun k hk => ?_)⟩)
                  · rw [← heq, List.length_append, List.length_append, List.length_take, List.length_drop, hl]
                    omega
                  · simp only [List.length_append, List.length_take, List.length_drop]
                    omega
                  · have := splice_in L o' (n * sz) off xs vs hxs hlen (by omega)
                    unfold splice at this
                    rw [hl] at this
                    rw [← heq]
                    exact this
                  · rw [← heq, List.mem_append, List.mem_append] at hu
                    rcases hu with hu | hu | hu
                    · exact hone u (List.mem_of_mem_take hu)
                    · exact h1 u (by rw [hv]; exact hu)
                    · exact hone u (List.mem_of_mem_drop hu)
                  · refine .inl ((hF k).2 ?_)
                    rw [hvs', hk]
                    rfl
              split at hr
              · cases hr
                obtain ⟨h2, h3⟩ := hob _ rfl
                exact fin _ none rfl h2 h3
              · split at hr
                · rename_i hle
                  cases hr
                  exact fin _ none rfl (Nat.le_of_ble_eq_true hle) rfl
                · cases hr
            · cases hr
        · cases hr
end
/-- A block that is made. -/
def newC (m : Nat) (ty : TypeId) (cs : Cs) : OR := some (⟨[], [], [], [.c none ty cs], .p m 0⟩, none)
section
variable {P : Program} {b : Base} {β : Env} {W : World} {a : Act} {o : Oper} {row : Nat → Option Row} {m : Nat}
theorem post_newC {sv : SV} {ty : TypeId} {cs : Cs} {L : List Value} {see : List Nat} (hd : ∀ β', (∀ i, i ≠ m → β.at β' i) → cs.den β' = L) : Post b β W row m ⟨see, [], [], [.c none ty cs], sv⟩ (W.alloc (.cells L.toArray ty)) (β.upd m W.heap.size undef No) := by
  refine post_new ⟨fun k hk => (by cases hk), ?_⟩ (fun x hx => .inr ?_) ((Cg.refl _ W).seq (Cg.of ((Chg.refl [] W).alloc _) (by simp)) fun k hk => .inl hk)
  · rw [upd_b, hd _ fun i hi => upd_at hi]
    exact Blk.new W ty L.toArray
  · rw [show x = _ from hx, upd_b]
    exact Nat.le_refl _
theorem idx_ne {m : Nat} {l : List Nat} (h : ltAll m l = true) : ∀ i ∈ l, i ≠ m := fun i hi => by have := ltAll_spec h i hi; omega
theorem runs_newC {ty : TypeId} {cs : Cs} {see : List Nat} (hc : ltAll m cs.idx = true) (h : (execOp a.eval o).run P W = .ok (.value (.pointer (some ⟨W.heap.size, 0, none⟩))) (W.alloc (.cells (cs.den β).toArray ty))) : Runs P o a W (EPost b β W row m ⟨see, [], [], [.c none ty cs], .p m 0⟩) := by
  refine .inl ⟨_, _, h, β.upd m W.heap.size undef No, ?_, post_newC fun β' hβ => ?_⟩
  · simp only [SV.den, upd_b]
  · cases cs with
    | vs l => rfl
    | ss l => exact (dens_congr l fun i hi => hβ i (idx_ne hc i hi)).symm
/-- A slice of the call's own that is new. -/
theorem post_newS {sv : SV} {ty : TypeId} {size n : Nat} {xs : List Value} {v : Value} {see kill : List Nat} {W' : World} (ho : Own W' ty size v n xs) (h1 : ∀ u ∈ xs, u.oneCell' = true) (hf : ∀ k, v.ownBlock = some k → Turned β row ⟨see, [], kill, [.s ty size n xs], sv⟩ k ∨ W.heap.size ≤ k) (hc : Cg (Turned β row ⟨see, [], kill, [.s ty size n xs], sv⟩) W W') : Post b β W row m ⟨see, [], kill, [.s ty size n xs], sv⟩ W' (β.upd m 0 v fun k => v.ownBlock = some k) := by
  refine post_new ⟨by rw [upd_v]; exact ho, fun k => by rw [upd_Fm, upd_v], h1⟩ (fun x hx => hf x ?_) hc
  have : (β.upd m 0 v fun k => v.ownBlock = some k).F m x := hx
  rw [upd_Fm] at this
  exact this
end
end Ax
end Go.Proofs.YtcpbbgkeigbndaaGreat

/- A reckoner of calls, part 5: slices that are read, appended to, copied, made. Proved over any program. No condition of its own. -/
namespace Go.Proofs.YtcpbbgkeigbndaaGreat
open Go Go.RowKit Go.Lib Go.Sort

namespace Ax
def lenV : Value → Nat
  | .slice _ n _ => n
  | _ => 0
/-- The cells of a slice in a world. -/
def rdV (w : World) (size : Nat) : Value → List Value
  | .slice (some a) n _ => (List.range (n * size)).map fun j => (w.cell? ⟨a.block, a.off + j, none⟩).getD undef
  | _ => []
theorem rd_is {w : World} {size n : Nat} {s : Value} {xs : List Value} (h : Rd w size s n xs) : lenV s = n ∧ rdV w size s = xs := by
  obtain ⟨hl, _, A, c, rfl, _, h3⟩ := h
  refine ⟨rfl, ?_⟩
  rcases Nat.eq_zero_or_pos n with h0 | h0
  · subst h0
    rw [Nat.zero_mul] at hl
    rw [List.eq_nil_of_length_eq_zero hl]
    cases A with
    | none => rfl
    | some a => simp [rdV]
  · obtain ⟨g, o, rfl, _, hc⟩ := h3 h0
    apply List.ext_getElem?
    intro j
    simp only [rdV, List.getElem?_map]
    by_cases hj : j < n * size
    · rw [List.getElem?_range hj, Option.map_some]
      have hx : xs[j]? = some (xs[j]'(by omega)) := List.getElem?_eq_getElem (by omega)
      rw [hc j _ hx, hx]
      rfl
    · rw [List.getElem?_eq_none (by simp; omega), List.getElem?_eq_none (by omega)]
      rfl
/-- A slice that came in may be read. -/
def GivenRd (b : Base) (size : Nat) (s : Value) : Prop := ∀ W, Cg b.S b.w W → Rd W size s (lenV s) (rdV b.w size s)
/-- A slice to be read: how many elements, its cells, what is asked, which rows. -/
def srcOf (b : Base) (row : Nat → Option Row) (size : Nat) : SV → Option (Nat × List Value × Option Prop × List Nat)
  | .o i => match row i with
    | some (.s _ sz n xs) => match Nat.beq sz size with
      | true => some (n, xs, none, [i])
      | false => none
    | some (.r sz n xs) => match Nat.beq sz size with
      | true => some (n, xs, none, [i])
      | false => none
    | some (.sw _ sz n l) => match Nat.beq sz size with
      | true => match allV l with
        | some xs => some (n, xs, none, [i])
        | none => none
      | false => none
    | some (.sr sz n l) => match Nat.beq sz size with
      | true => match allV l with
        | some xs => some (n, xs, none, [i])
        | none => none
      | false => none
    | some .z => some (0, [], none, [i])
    | _ => none
  | .sl i off m cap => match row i with
    | some (.c _ _ cs) => match allV ((cs.svs.drop off).take (m * size)) with
      | some vs => match Nat.beq vs.length (m * size) && (Nat.ble m cap && allB (·.oneCell') vs) with
        | true => some (m, vs, none, [i])
        | false => none
      | none => none
    | some (.k _ cs) => match allV ((cs.svs.drop off).take (m * size)) with
      | some vs => match Nat.beq vs.length (m * size) && (Nat.ble m cap && allB (·.oneCell') vs) with
        | true => some (m, vs, none, [i])
        | false => none
      | none => none
    | _ => none
  | .sub i off m cut => match row i with
    | some (.s _ sz n xs) => match Nat.beq sz size with
      | true => some (m, (xs.drop off).take (m * size), some (off = cut * size ∧ cut + m ≤ n), [i])
      | false => none
    | some (.r sz n xs) => match Nat.beq sz size with
      | true => some (m, (xs.drop off).take (m * size), some (off = cut * size ∧ cut + m ≤ n), [i])
      | false => none
    | _ => none
  | .v s => some (lenV s, rdV b.w size s, some (GivenRd b size s), [])
  | _ => none
section
variable {P : Program} {b : Base} {β : Env} {W : World} {a : Act} {o : Oper} {row : Nat → Option Row} {m : Nat} {g : Eff} {ob : Option Prop}
theorem Rd.sub {size n c off k cut : Nat} {A : Option Addr} {xs : List Value} (h : Rd W size (.slice A n c) n xs) (ho : off = cut * size) (hm : cut + k ≤ n) : Rd W size (subV off k cut (.slice A n c)) k ((xs.drop off).take (k * size)) := by
  obtain ⟨hl, h1, A', c', hv, hnc, h3⟩ := h
  injection hv with e1 e2 e3
  subst e1; subst e3
  have hlen : ((xs.drop off).take (k * size)).length = k * size := by
    have h1 : cut * size + k * size ≤ n * size := by rw [← Nat.add_mul]; exact Nat.mul_le_mul_right _ hm
    rw [List.length_take, List.length_drop, hl]
    omega
  refine ⟨hlen, fun u hu => h1 u (List.mem_of_mem_drop (List.mem_of_mem_take hu)), _, _, rfl, by omega, fun h0 => ?_⟩
  obtain ⟨g, o, rfl, hg, hc⟩ := h3 (by omega)
  refine ⟨g, o + off, ?_, hg, fun j u hu => ?_⟩
  · rw [if_neg (by omega)]; simp [Addr.add_lit]
  · rw [List.getElem?_take] at hu
    split at hu
    · rw [List.getElem?_drop] at hu
      rw [Nat.add_assoc]
      exact hc _ _ hu
    · cases hu
theorem Rd.form {size n : Nat} {s : Value} {xs : List Value} (h : Rd W size s n xs) : ∃ A c, s = .slice A n c ∧ n ≤ c := let ⟨_, _, A, c, h, hc, _⟩ := h; ⟨A, c, h, hc⟩
theorem rowRd {i size n : Nat} {xs : List Value} {r : Row} (h : Held b β W i r) (hc : Cg b.S b.w W) (hr : (∃ ty, r = .s ty size n xs) ∨ r = .r size n xs) : Rd W size (β.v i) n xs := by
  rcases hr with ⟨ty, rfl⟩ | rfl
  · exact Rd.of_own h.1 h.2.2
  · exact h W hc
theorem rowRd_o {i size n : Nat} {xs : List Value} {r : Row} (h : Held b β W i r) (hc : Cg b.S b.w W) (hr : (∃ ty, r = .s ty size n xs) ∨ r = .r size n xs) : Rd W size ((SV.o i).den β) n xs := by
  have := rowRd h hc hr
  obtain ⟨A, c, hv, _⟩ := this.form
  show Rd W size (oneV (β.v i)) n xs
  rw [hv] at this ⊢
  exact this
theorem rdO {i size n : Nat} {xs : List Value} (h : Rd W size (β.v i) n xs) : Rd W size ((SV.o i).den β) n xs := by
  obtain ⟨h1, h2, A, c, h3, h4⟩ := h
  exact ⟨h1, h2, A, c, by show oneV (β.v i) = _; rw [h3]; rfl, h4⟩
theorem src_ok {size n : Nat} {sv : SV} {xs : List Value} {see see' : List Nat} (h : srcOf b row size sv = some (n, xs, ob, see)) (hob : ∀ p, ob = some p → p) (hs : See b β W row see') (hsub : ∀ i ∈ see, i ∈ see') : Rd W size (sv.den β) n xs := by
  unfold srcOf at h
  split at h
  · rename_i i
    split at h
    · rename_i ty sz n' xs' hrow
      split at h
      · rename_i hb
        have hb := Nat.eq_of_beq_eq_true hb
        subst hb
        cases h
        exact rowRd_o (hs.held i (hsub i (by simp)) _ hrow) hs.cg (.inl ⟨_, rfl⟩)
      · cases h
    · rename_i sz n' xs' hrow
      split at h
      · rename_i hb
        have hb := Nat.eq_of_beq_eq_true hb
        subst hb
        cases h
        exact rowRd_o (hs.held i (hsub i (by simp)) _ hrow) hs.cg (.inr rfl)
      · cases h
    · rename_i ty sz n' l hrow
      split at h
      · rename_i hb
        have hb := Nat.eq_of_beq_eq_true hb
        subst hb
        split at h
        · rename_i xs' hv
          cases h
          rw [← allV_den (β := β) hv]
          exact rdO (Rd.of_own (hs.held i (hsub i (by simp)) _ hrow).1 (hs.held i (hsub i (by simp)) _ hrow).2.2)
        · cases h
      · cases h
    · rename_i sz n' l hrow
      split at h
      · rename_i hb
        have hb := Nat.eq_of_beq_eq_true hb
        subst hb
        split at h
        · rename_i xs' hv
          cases h
          rw [← allV_den (β := β) hv]
          exact rdO (hs.held i (hsub i (by simp)) _ hrow W hs.cg)
        · cases h
      · cases h
    · rename_i hrow
      cases h
      obtain ⟨A, c, hz⟩ := hs.held i (hsub i (by simp)) _ hrow
      exact rdO ⟨by simp, by simp, A, c, hz, Nat.zero_le _, fun h => absurd h (by simp)⟩
    · cases h
  · rename_i i off k cap
    split at h
    · rename_i gg ty cs hrow
      split at h
      · rename_i vs hvs
        split at h
        · rename_i hb
          simp only [Bool.and_eq_true] at hb
          obtain ⟨hb1, hb2, hb3⟩ := hb
          have hb1 := Nat.eq_of_beq_eq_true hb1
          cases h
          have hh := hs.held i (hsub i (by simp)) _ hrow
          refine ⟨hb1, allB_spec hb3, _, _, rfl, Nat.le_of_ble_eq_true hb2, fun _ => ⟨_, _, rfl, hh.2.lt, fun j u hu => ?_⟩⟩
          have hd := allV_den (β := β) hvs
          rw [dens_take, dens_drop, svs_den] at hd
          rw [← hd, List.getElem?_take] at hu
          split at hu
          · rw [List.getElem?_drop] at hu; exact hh.2.cell_of hu
          · cases hu
        · cases h
      · cases h
    · rename_i ty cs hrow
      split at h
      · rename_i vs hvs
        split at h
        · rename_i hb
          simp only [Bool.and_eq_true] at hb
          obtain ⟨hb1, hb2, hb3⟩ := hb
          have hb1 := Nat.eq_of_beq_eq_true hb1
          cases h
          have hh := hs.held i (hsub i (by simp)) _ hrow W hs.cg
          refine ⟨hb1, allB_spec hb3, _, _, rfl, Nat.le_of_ble_eq_true hb2, fun _ => ⟨_, _, rfl, hh.lt, fun j u hu => ?_⟩⟩
          have hd := allV_den (β := β) hvs
          rw [dens_take, dens_drop, svs_den] at hd
          rw [← hd, List.getElem?_take] at hu
          split at hu
          · rw [List.getElem?_drop] at hu; exact hh.cell_of hu
          · cases hu
        · cases h
      · cases h
    · cases h
  · rename_i i off k cut
    split at h
    · rename_i ty sz n' xs' hrow
      split at h
      · rename_i hb
        have hb := Nat.eq_of_beq_eq_true hb
        subst hb
        cases h
        have hr := rowRd (hs.held i (hsub i (by simp)) _ hrow) hs.cg (.inl ⟨_, rfl⟩)
        obtain ⟨h1, h2⟩ := hob _ rfl
        obtain ⟨A, c, hv, _⟩ := hr.form
        show Rd W _ (subV off n cut (β.v i)) n _
        rw [hv] at hr ⊢
        exact hr.sub h1 h2
      · cases h
    · rename_i sz n' xs' hrow
      split at h
      · rename_i hb
        have hb := Nat.eq_of_beq_eq_true hb
        subst hb
        cases h
        have hr := rowRd (hs.held i (hsub i (by simp)) _ hrow) hs.cg (.inr rfl)
        obtain ⟨h1, h2⟩ := hob _ rfl
        obtain ⟨A, c, hv, _⟩ := hr.form
        show Rd W _ (subV off n cut (β.v i)) n _
        rw [hv] at hr ⊢
        exact hr.sub h1 h2
      · cases h
    · cases h
  · cases h
    exact hob _ rfl W hs.cg
  · cases h
theorem Rd.add {size n c : Nat} {A : Option Addr} {xs : List Value} (h : Rd W size (.slice A n c) n xs) : 0 < xs.length → ∃ ad, A = some ad ∧ ∀ (j : Nat) (u : Value), xs[j]? = some u → W.cell? (ad.add j) = some u := by
  intro h0
  obtain ⟨hl, _, A', c', hv, _, h3⟩ := h
  injection hv with e1 e2 e3
  subst e1
  have hn : 0 < n := by
    rcases Nat.eq_zero_or_pos n with h | h
    · subst h; rw [Nat.zero_mul] at hl; omega
    · exact h
  obtain ⟨g, o, rfl, _, hc⟩ := h3 hn
  exact ⟨_, rfl, fun j u hu => by rw [Addr.add_lit]; exact hc j u hu⟩
end
/-- The bounds that an append asks for. -/
def Fits (n bytes : Nat) : Prop := n ≤ maxLen ∧ n * bytes ≤ 140737488355328
/-- Cells, said anew. -/
def anew (h : Option Hint) (l : List Value) : List Value × Option Prop := match h with
  | some (.st l') => (l', some (l = l'))
  | _ => (l, none)
theorem anew_ok {h : Option Hint} {l : List Value} (hob : ∀ p, (anew h l).2 = some p → p) : (anew h l).1 = l := by
  unfold anew at hob ⊢
  split
  · exact (hob _ rfl).symm
  · rfl
def opAppend (P : Program) (b : Base) (h : Option Hint) (row : Nat → Option Row) (m : Nat) (t : TypeId) (sx sy : SV) : OR := match appTy P t with
  | none => none
  | some (el, sz, bytes) => match srcOf b row sz sy with
    | none => none
    | some (k, ys, ob, see) => match sx with
      | .o i => match row i with
        | some (.s ty sz' n xs) => match Nat.beq ty el && Nat.beq sz' sz with
          | true => some (⟨i :: see, [], [i], [.s el sz (n + k) (anew h (xs ++ ys)).1], .o m⟩, andO (anew h (xs ++ ys)).2 (andO ob (some (Fits (n + k) bytes))))
          | false => none
        | _ => none
      | .v (.slice none 0 0) => some (⟨see, [], [], [.s el sz k (anew h ys).1], .o m⟩, andO (anew h ys).2 (andO ob (some (Fits k bytes))))
      | _ => none
section
variable {P : Program} {b : Base} {β : Env} {W : World} {a : Act} {o : Oper} {row : Nat → Option Row} {m : Nat} {g : Eff} {ob : Option Prop}
theorem opAppend_ok {h : Option Hint} {c : Call} {t : TypeId} {x y : Operand} {sx sy : SV} (ho : o.op = .call c) (hc : c = { callee := .builtin .append, args := #[x, y], argTypes := #[t, t] }) (hx : a.eval x = sx.den β) (hy : a.eval y = sy.den β)
    (hr : opAppend P b h row m t sx sy = some (g, ob)) (hob : ∀ p, ob = some p → p) (hs : See b β W row g.see) : Runs P o a W (EPost b β W row m g) := by
  unfold opAppend at hr
  split at hr
  · cases hr
  · rename_i el sz bytes hty
    obtain ⟨inf, z, hu, hi, hz, hsz, hby, hzs, hpos⟩ := appTy_ok hty
    split at hr
    · cases hr
    · rename_i k ys ob' see hsrc
      have go : ∀ (v : Value) (n : Nat) (xs : List Value), sx.den β = v → Own W el sz v n xs → (∀ u ∈ xs, u.oneCell' = true) → Rd W sz (sy.den β) k ys → Fits (n + k) bytes → ∃ v' W', (execOp a.eval o).run P W = .ok (.value v') W' ∧ oneV v' = v' ∧ Own W' el sz v' (n + k) (xs ++ ys) ∧ (∀ u ∈ xs ++ ys, u.oneCell' = true) ∧ Chg v.ownBlock.toList W W' ∧ ∀ k, v'.ownBlock = some k → v.ownBlock = some k ∨ W.heap.size ≤ k := by
        intro v n xs hv hown h1 hrd hfit
        obtain ⟨A, cp, hsl, _⟩ := hrd.form
        have h2 := hrd.2.1
        have hl := hrd.1
        rw [hsl] at hrd
        obtain ⟨A', c', w', hrun, hown', hch, hbl⟩ := run_append_all (P := P) W t o.type el inf z sz bytes hu hi hz hsz hby hzs hpos v n xs hown A k cp ys hl hrd.add h2 hfit.1 hfit.2
        refine ⟨_, w', ?_, rfl, hown', fun u hu => ?_, hch, fun k hk => ?_⟩
        · subst hc
          unfold execOp
          simp only [ho, resolve, invoke, builtin, Sem.run_bind, Sem.run_pure, Result.andThen_ok, List.map_toArray, List.map_cons, List.map_nil, hx, hv, hy, hsl, hrun]
        · rcases List.mem_append.1 hu with hu | hu
          · exact h1 u hu
          · exact h2 u hu
        · rcases hbl with hbl | ⟨k', hk', hlt⟩
          · exact .inl (hbl ▸ hk)
          · rw [hk'] at hk; cases hk; exact .inr hlt
      split at hr
      · rename_i i
        split at hr
        · rename_i ty sz' n xs hrow
          split at hr
          · rename_i hb
            rw [Bool.and_eq_true] at hb
            have hb1 := Nat.eq_of_beq_eq_true hb.1
            have hb2 := Nat.eq_of_beq_eq_true hb.2
            subst hb1; subst hb2
            cases hr
            have hcs := anew_ok (andO_l hob)
            have hob := andO_r hob
            rw [hcs] at hs ⊢
            have hrd := src_ok (β := β) (W := W) hsrc (andO_l hob) hs fun j hj => List.mem_cons_of_mem _ hj
            obtain ⟨hown, hF, h1⟩ := hs.held i (by simp) _ hrow
            have hv : (SV.o i).den β = β.v i := by
              obtain ⟨A, c', hv, _⟩ := hown.form
              show oneV _ = _
              rw [hv]; rfl
            obtain ⟨v', W', r1, r2, r3, r4, r5, r6⟩ := go _ n xs hv hown h1 hrd (andO_r hob _ rfl)
            have ht : ∀ k, (β.v i).ownBlock = some k → Turned β row ⟨i :: see, [], [i], [.s ty sz' (n + k) (xs ++ ys)], .o m⟩ k := fun k hk => ⟨i, _, .inr (by simp), hrow, (hF k).2 hk⟩
            refine .inl ⟨v', W', r1, _, ?_, post_newS r3 r4 (fun k hk => ?_) (Cg.of r5 fun k hk => ?_)⟩
            · simp only [SV.den, upd_v, r2]
            · rcases r6 k hk with h | h
              · exact .inl ⟨i, _, .inr (by simp), hrow, (hF k).2 h⟩
              · exact .inr h
            · exact .inl ⟨i, _, .inr (by simp), hrow, (hF k).2 (by simpa using hk)⟩
          · cases hr
        · cases hr
      · cases hr
        have hcs := anew_ok (andO_l hob)
        have hob := andO_r hob
        rw [hcs] at hs ⊢
        have hrd := src_ok (β := β) (W := W) hsrc (andO_l hob) hs fun j hj => hj
        obtain ⟨v', W', r1, r2, r3, r4, r5, r6⟩ := go (.slice none 0 0) 0 [] rfl (Own.nil W _ _) (by simp) hrd (by rw [Nat.zero_add]; exact andO_r hob _ rfl)
        rw [Nat.zero_add, List.nil_append] at r3
        rw [List.nil_append] at r4
        refine .inl ⟨v', W', r1, _, ?_, post_newS r3 r4 (fun k hk => ?_) (Cg.of r5 (by simp [Value.ownBlock]))⟩
        · simp only [SV.den, upd_v, r2]
        · rcases r6 k hk with h | h
          · cases h
          · exact .inr h
      · cases hr
/-- The length of a slice. -/
def svLen (row : Nat → Option Row) : SV → Option (Nat × List Nat)
  | .o i => match row i with
    | some (.s _ _ n _) => some (n, [i])
    | some (.r _ n _) => some (n, [i])
    | some (.sw _ _ n _) => some (n, [i])
    | some (.sr _ n _) => some (n, [i])
    | some .z => some (0, [i])
    | _ => none
  | .sl _ _ n _ => some (n, [])
  | .sub i _ n _ => match row i with
    | some (.s _ _ _ _) => some (n, [i])
    | some (.r _ _ _) => some (n, [i])
    | some (.sw _ _ _ _) => some (n, [i])
    | some (.sr _ _ _) => some (n, [i])
    | _ => none
  | _ => none
theorem svLen_ok {sv : SV} {n : Nat} {see see' : List Nat} (h : svLen row sv = some (n, see)) (hs : See b β W row see') (hsub : ∀ i ∈ see, i ∈ see') : ∃ A c, sv.den β = .slice A n c := by
  unfold svLen at h
  split at h
  · rename_i i
    split at h
    · rename_i hrow
      cases h
      obtain ⟨A, c, h, _⟩ := (rowRd_o (hs.held i (hsub i (by simp)) _ hrow) hs.cg (.inl ⟨_, rfl⟩)).form
      exact ⟨A, c, h⟩
    · rename_i hrow
      cases h
      obtain ⟨A, c, h, _⟩ := (rowRd_o (hs.held i (hsub i (by simp)) _ hrow) hs.cg (.inr rfl)).form
      exact ⟨A, c, h⟩
    · rename_i hrow
      cases h
      obtain ⟨A, c, h, _⟩ := (rdO (Rd.of_own (hs.held i (hsub i (by simp)) _ hrow).1 (hs.held i (hsub i (by simp)) _ hrow).2.2)).form
      exact ⟨A, c, h⟩
    · rename_i hrow
      cases h
      obtain ⟨A, c, h, _⟩ := (rdO (hs.held i (hsub i (by simp)) _ hrow W hs.cg)).form
      exact ⟨A, c, h⟩
    · rename_i hrow
      cases h
      obtain ⟨A, c, hz⟩ := hs.held i (hsub i (by simp)) _ hrow
      exact ⟨A, c, by show oneV (β.v i) = _; rw [hz]; rfl⟩
    · cases h
  · cases h; exact ⟨_, _, rfl⟩
  · rename_i i off k cut
    split at h
    · rename_i hrow
      cases h
      obtain ⟨A, c, h, _⟩ := (rowRd (hs.held i (hsub i (by simp)) _ hrow) hs.cg (.inl ⟨_, rfl⟩)).form
      exact ⟨_, _, by simp only [SV.den, h]; rfl⟩
    · rename_i hrow
      cases h
      obtain ⟨A, c, h, _⟩ := (rowRd (hs.held i (hsub i (by simp)) _ hrow) hs.cg (.inr rfl)).form
      exact ⟨_, _, by simp only [SV.den, h]; rfl⟩
    · rename_i hrow
      cases h
      obtain ⟨A, c, h, _⟩ := (Rd.of_own (hs.held i (hsub i (by simp)) _ hrow).1 (hs.held i (hsub i (by simp)) _ hrow).2.2).form
      exact ⟨_, _, by simp only [SV.den, h]; rfl⟩
    · rename_i hrow
      cases h
      obtain ⟨A, c, h, _⟩ := (hs.held i (hsub i (by simp)) _ hrow W hs.cg).form
      exact ⟨_, _, by simp only [SV.den, h]; rfl⟩
    · cases h
  · cases h
def opLen (P : Program) (row : Nat → Option Row) (t : TypeId) (sv : SV) : OR := match svLen row sv with
  | some (n, see) => match P.underlying t with
    | some (.slice _) => seeR see (.v (.int .i64 (n : Int))) none
    | _ => none
  | none => none
theorem opLen_ok {c : Call} {t : TypeId} {x : Operand} {sv : SV} (ho : o.op = .call c) (hc : c = { callee := .builtin .len, args := #[x], argTypes := #[t] }) (hx : a.eval x = sv.den β) (hr : opLen P row t sv = some (g, ob)) (hs : See b β W row g.see) : Runs P o a W (EPost b β W row m g) := by
  unfold opLen at hr
  split at hr
  · rename_i n see hl
    split at hr
    · rename_i el hu
      cases hr
      obtain ⟨A, c', hd⟩ := svLen_ok (β := β) (W := W) hl hs fun i hi => hi
      refine runs_pure ?_
      unfold execOp
      simp [ho, hc, resolve, invoke, builtin, Builtin.len_, hx, hd, run_underlying hu, goInt, SV.den]
    · cases hr
  · cases hr
/-- n elements that are zero. -/
def zerosL (z : List Value) (n : Nat) : List Value := (List.replicate n z).flatten
theorem zerosL_succ {z : List Value} {n : Nat} : zerosL z (n + 1) = zerosL z n ++ z := by
  unfold zerosL
  rw [List.replicate_succ', List.flatten_append]
  simp
theorem zerosL_length {z : List Value} : ∀ n, (zerosL z n).length = n * z.length
  | 0 => by simp [zerosL]
  | n + 1 => by rw [zerosL_succ, List.length_append, zerosL_length n, Nat.succ_mul]
theorem made_zeros {z : Array Value} (hz : 0 < z.size) : ∀ n, (madeCells z (n * z.size)).toList = zerosL z.toList n
  | 0 => by simp [madeCells, zerosL]
  | n + 1 => by
    rw [zerosL_succ, ← made_zeros hz n]
    apply List.ext_getElem?
    intro j
    have hl : (madeCells z (n * z.size)).toList.length = n * z.size := by simp [madeCells]
    by_cases h1 : j < n * z.size
    · rw [List.getElem?_append_left (by omega)]
      simp only [madeCells, Array.toList_map, Array.toList_range, List.getElem?_map]
      rw [List.getElem?_range (by rw [Nat.succ_mul]; omega), List.getElem?_range h1]
    · rw [List.getElem?_append_right (by omega), hl]
      simp only [madeCells, Array.toList_map, Array.toList_range, List.getElem?_map]
      by_cases h2 : j < (n + 1) * z.size
      · rw [List.getElem?_range h2, Option.map_some]
        have h3 : j - n * z.size < z.size := by rw [Nat.succ_mul] at h2; omega
        have h4 : j % z.size = j - n * z.size := by
          have : j = (j - n * z.size) + z.size * n := by rw [Nat.mul_comm z.size n]; omega
          rw [this, Nat.add_mul_mod_self_left, Nat.mod_eq_of_lt h3]
          rw [Nat.mul_comm z.size n]
          omega
        rw [h4, Array.getElem?_toList, Array.getElem?_eq_getElem h3, getElem!_pos z _ h3]
      · rw [List.getElem?_eq_none (by simp; omega), List.getElem?_eq_none (by rw [Nat.succ_mul] at h2; simp; omega)]
        rfl
theorem take_made {z : Array Value} {n c k : Nat} (h : n ≤ c) : (madeCells z (c * k)).toList.take (n * k) = (madeCells z (n * k)).toList := by
  have hle : n * k ≤ c * k := Nat.mul_le_mul_right _ h
  simp only [madeCells, Array.toList_map, Array.toList_range]
  rw [← List.map_take, List.take_range, Nat.min_eq_left hle]
def opMake (P : Program) (h : Option Hint) (m : Nat) (t : TypeId) (l c : Option SV) : OR := match h with
  | some (.mk n) => match appTy P t with
    | some (el, sz, bytes) => match P.info? el with
      | some inf => match inf.zero with
        | some z => match allB (·.oneCell') z.cells.toList with
          | true => match l with
            | some (.v (.int _ kl)) => match c with
              | some (.v (.int _ kc)) => some (⟨[], [], [], [.s el sz n (zerosL z.cells.toList n)], .o m⟩, some (kl = n ∧ kl ≤ kc ∧ kc ≤ 9223372036854775807 ∧ (bytes : Int) * kc ≤ 281474976710656))
              | _ => none
            | _ => none
          | false => none
        | none => none
      | none => none
    | none => none
  | _ => none
theorem opMake_ok {t : TypeId} {l c : Operand} {h : Option Hint} {e : Operand → Option SV} (ho : o.op = .makeSlice t l c) (hl : ∀ sv, e l = some sv → a.eval l = sv.den β) (hc : ∀ sv, e c = some sv → a.eval c = sv.den β) (hr : opMake P h m t (e l) (e c) = some (g, ob)) (hob : ∀ p, ob = some p → p) : Runs P o a W (EPost b β W row m g) := by
  unfold opMake at hr
  split at hr
  · rename_i n
    split at hr
    · rename_i el sz bytes hty
      obtain ⟨inf, z, hu, hi, hz, hsz, hby, hzs, hpos⟩ := appTy_ok hty
      split at hr
      · rename_i inf' hi'
        rw [hi] at hi'
        cases hi'
        split at hr
        · rename_i z' hz'
          rw [hz] at hz'
          cases hz'
          split at hr
          · rename_i hone
            have hone := allB_spec hone
            split at hr
            · rename_i kk kl hel
              split at hr
              · rename_i kk' kc hec
                cases hr
                obtain ⟨h1, h2, h3, h4⟩ := hob _ rfl
                subst h1
                have hrun := run_make (P := P) W t el inf z hu hi hz kk kk' (n : Int) kc (by omega) h2 (by rw [hby]; exact h4) h3
                obtain ⟨c', rfl⟩ : ∃ c' : Nat, kc = c' := ⟨kc.toNat, by omega⟩
                simp only [Int.toNat_natCast] at hrun
                have hmade := Own.made W el sz n c' (madeCells z.cells (c' * inf.size)).toList (by omega) (by unfold maxLen; omega) (by simp [madeCells, hsz])
                rw [hsz, take_made (by omega)] at hmade
                have hzz : (madeCells z.cells (n * sz)).toList = zerosL z.cells.toList n := by rw [← hzs]; exact made_zeros (by omega) n
                rw [hzz] at hmade
                refine .inl ⟨.slice (some ⟨W.heap.size, 0, none⟩) n c', _, ?_, _, ?_, post_newS hmade (fun u hu => ?_) (fun k hk => .inr ?_) (Cg.of ((Chg.refl [] W).alloc _) (by simp))⟩
                · unfold execOp
                  simp only [ho, Sem.run_bind, hl _ hel, hc _ hec, SV.den, hrun, Result.andThen_ok, Sem.run_pure, hsz]
                · simp only [SV.den, upd_v, oneV]
                · unfold zerosL at hu
                  obtain ⟨l', hl', hu⟩ := List.mem_flatten.1 hu
                  rw [List.eq_of_mem_replicate hl'] at hu
                  exact hone u hu
                · have : W.heap.size = k := by simpa [Value.ownBlock] using hk
                  omega
              · cases hr
            · cases hr
          · cases hr
        · cases hr
      · cases hr
    · cases hr
  · cases hr
/-- The operands of a call of the builtin copy. -/
def copyArgs (c : Call) : Option (TypeId × TypeId × Operand × Operand) := match c.callee with
  | .builtin .copy => match c.args.toList, c.argTypes.toList with
    | [x, y], [t, u] => some (t, u, x, y)
    | _, _ => none
  | _ => none
theorem copyArgs_eq {c : Call} {t u : TypeId} {x y : Operand} (h : copyArgs c = some (t, u, x, y)) : c = { callee := .builtin .copy, args := #[x, y], argTypes := #[t, u] } := by
  obtain ⟨callee, args, ats⟩ := c
  unfold copyArgs at h
  split at h
  · rename_i hb
    split at h
    · rename_i x' y' t' u' hx ht
      simp only at hb hx ht
      cases h
      have e1 : args = #[x, y] := by rw [← Array.toList_inj, hx]
      have e2 : ats = #[t, u] := by rw [← Array.toList_inj, ht]
      rw [hb, e1, e2]
    · cases h
  · cases h
def opCopy (P : Program) (b : Base) (h : Option Hint) (row : Nat → Option Row) (t : TypeId) (sx sy : SV) : OR := match appTy P t with
  | none => none
  | some (el, sz, _) => match srcOf b row sz sy with
    | none => none
    | some (k, ys, ob, see) => match sx with
      | .o i => match row i with
        | some (.s ty sz' n xs) => match Nat.beq ty el && Nat.beq sz' sz with
          | true => some (⟨i :: see, [(i, .s el sz n (anew h (ys.take (n * sz) ++ xs.drop (k * sz))).1)], [], [], .v (.int .i64 ((Nat.min k n : Nat) : Int))⟩, andO (anew h (ys.take (n * sz) ++ xs.drop (k * sz))).2 ob)
          | false => none
        | _ => none
      | .sl i off n _ => match row i with
        | some (.c gg ty cs) => match Nat.ble (off + n * sz) cs.svs.length with
          | true => some (⟨i :: see, [(i, .c gg ty (mkCs (cs.svs.take off ++ ((ys.take (n * sz)).map .v ++ cs.svs.drop (off + (ys.take (n * sz)).length)))))], [], [], .v (.int .i64 ((Nat.min k n : Nat) : Int))⟩, ob)
          | false => none
        | _ => none
      | _ => none
theorem copy_min {k n sz : Nat} {ys : List Value} (hl : ys.length = k * sz) : (ys.take (n * sz)).length = Nat.min k n * sz := by
  rw [List.length_take, hl]
  by_cases hkn : k ≤ n
  · have := Nat.mul_le_mul_right sz hkn
    rw [show Nat.min k n = k from Nat.min_eq_left hkn]
    omega
  · have := Nat.mul_le_mul_right sz (show n ≤ k by omega)
    rw [show Nat.min k n = n from Nat.min_eq_right (by omega)]
    omega
theorem opCopy_ok {h : Option Hint} {c : Call} {t u : TypeId} {x y : Operand} {sx sy : SV} (ho : o.op = .call c) (hc : c = { callee := .builtin .copy, args := #[x, y], argTypes := #[t, u] }) (hx : a.eval x = sx.den β) (hy : a.eval y = sy.den β)
    (hr : opCopy P b h row t sx sy = some (g, ob)) (hob : ∀ p, ob = some p → p) (hs : See b β W row g.see) : Runs P o a W (EPost b β W row m g) := by
  unfold opCopy at hr
  split at hr
  · cases hr
  · rename_i el sz bytes hty
    obtain ⟨inf, z, hu, hi, hz, hsz, hby, hzs, hpos⟩ := appTy_ok hty
    split at hr
    · cases hr
    · rename_i k ys ob' see hsrc
      split at hr
      · rename_i i
        split at hr
        · rename_i ty sz' n xs hrow
          split at hr
          · rename_i hb
            rw [Bool.and_eq_true] at hb
            have hb1 := Nat.eq_of_beq_eq_true hb.1
            have hb2 := Nat.eq_of_beq_eq_true hb.2
            subst hb1; subst hb2
            cases hr
            have hcs := anew_ok (andO_l hob)
            have hob := andO_r hob
            rw [hcs] at hs ⊢
            have hrd := src_ok (β := β) (W := W) hsrc hob hs fun j hj => List.mem_cons_of_mem _ hj
            obtain ⟨hown, hF, h1⟩ := hs.held i (by simp) _ hrow
            obtain ⟨A, cp, hsl, _⟩ := hrd.form
            have h2 := hrd.2.1
            have hl := hrd.1
            rw [hsl] at hrd
            have hlen := hown.len
            have hone : ∀ u ∈ ys.take (n * sz') ++ xs.drop (k * sz'), u.oneCell' = true := fun u hu => by
              rcases List.mem_append.1 hu with hu | hu
              · exact h2 u (List.mem_of_mem_take hu)
              · exact h1 u (List.mem_of_mem_drop hu)
            have hxlen : (ys.take (n * sz') ++ xs.drop (k * sz')).length = n * sz' := by
              rw [List.length_append, List.length_take, List.length_drop, hl, hlen]
              omega
            rcases hown.2 with ⟨hv, h0⟩ | ⟨g', o', c', L, hv, hg, hnc, hcm, hL, hxs⟩
            · subst h0
              have hxs : xs = [] := List.eq_nil_of_length_eq_zero (by omega)
              subst hxs
              refine .inl ⟨.int .i64 ((Nat.min k 0 : Nat) : Int), W, ?_, β, rfl, post_upd hrow (fun k hk => hk) ⟨⟨hxlen, ?_⟩, hF, hone⟩ (Cg.refl _ _)⟩
              · subst hc
                unfold execOp
                have hfc : ∀ ad, (Builtin.firstCells inf.size 0 (.slice (some ad) k cp)).run P W = .ok #[] W := fun ad => run_firstCells_some (P := P) W inf.size 0 ad k cp [] (by simp) (by simp)
                have h0 : Nat.min k 0 = 0 := Nat.min_eq_right (Nat.zero_le _)
                cases A with
                | none => simp [ho, resolve, invoke, builtin, hx, hy, hsl, SV.den, hv, oneV, Builtin.copy_, run_underlying hu, Builtin.lenOf, sizeOf, typeInfo, hi, Builtin.firstCells, goInt]
                | some ad => simp [ho, resolve, invoke, builtin, hx, hy, hsl, SV.den, hv, oneV, Builtin.copy_, run_underlying hu, Builtin.lenOf, sizeOf, typeInfo, hi, hfc, h0, goInt]
              · exact .inl ⟨hv, rfl⟩
            · have hmin : (ys.take (n * sz')).length = Nat.min k n * sz' := by
                rw [List.length_take, hl]
                by_cases hkn : k ≤ n
                · have := Nat.mul_le_mul_right sz' hkn
                  rw [show Nat.min k n = k from Nat.min_eq_left hkn]
                  omega
                · have := Nat.mul_le_mul_right sz' (show n ≤ k by omega)
                  rw [show Nat.min k n = n from Nat.min_eq_right (by omega)]
                  omega
              have hle : (ys.take (n * sz')).length ≤ n * sz' := by rw [List.length_take]; omega
              have hnc' : n * sz' ≤ c' * sz' := Nat.mul_le_mul_right _ hnc
              have hrun := run_copy_blk (P := P) (w := W) t u o.type ty sz' hu (by rw [hi]; simp [hsz]) g' o' n c' L ty hg A k cp (ys.take (n * sz')) hmin (fun h0 => by
                obtain ⟨ad, ha, hcc⟩ := hrd.add (by rw [List.length_take] at h0; omega)
                exact ⟨ad, ha, fun j v hj => hcc j v (by rw [List.getElem?_take] at hj; split at hj; exact hj; cases hj)⟩) (by omega) fun v hv => h2 v (List.mem_of_mem_take hv)
              refine .inl ⟨.int .i64 ((Nat.min k n : Nat) : Int), _, ?_, β, rfl, post_upd hrow (fun k hk => hk) ⟨⟨hxlen, .inr ⟨g', o', c', splice L o' (ys.take (n * sz')), hv, hg.row _, hnc, hcm, by rw [splice_length _ _ _ (by omega)]; exact hL, ?_⟩⟩, hF, hone⟩ (Cg.of ((Chg.refl [g'] W).setRow (.inl (by simp)) _) fun k hk => .inl ((hF k).2 ?_))⟩
              · subst hc
                unfold execOp
                simp only [ho, resolve, invoke, builtin, Sem.run_bind, Sem.run_pure, Result.andThen_ok, List.map_toArray, List.map_cons, List.map_nil, hx, hy, hsl, SV.den, hv, oneV, hrun, goInt]
              · have := splice_in L o' (n * sz') 0 xs (ys.take (n * sz')) hxs hlen (by omega)
                simp only [Nat.add_zero, List.take_zero, List.nil_append, Nat.zero_add] at this
                rw [this]
                congr 1
                rw [List.length_take, hl]
                by_cases hkn : k * sz' ≤ n * sz'
                · rw [Nat.min_eq_right hkn]
                · rw [Nat.min_eq_left (by omega), List.drop_of_length_le (by omega), List.drop_of_length_le (by omega)]
              · rw [hv, List.mem_singleton.1 hk]
                rfl
          · cases hr
        · cases hr
      · rename_i i off n cap
        split at hr
        · rename_i gg ty cs hrow
          split at hr
          · rename_i hle
            have hle : off + n * sz ≤ cs.svs.length := Nat.le_of_ble_eq_true hle
            cases hr
            have hrd := src_ok (β := β) (W := W) hsrc hob hs fun j hj => List.mem_cons_of_mem _ hj
            have hb := hs.held i (by simp) _ hrow
            obtain ⟨A, cp, hsl, _⟩ := hrd.form
            have h2 := hrd.2.1
            have hl := hrd.1
            rw [hsl] at hrd
            have hmin := copy_min (n := n) hl
            have hfit : off + (ys.take (n * sz)).length ≤ (cs.den β).length := by
              rw [← svs_den, dens_length, List.length_take]
              omega
            have hrun := run_copy_blk (P := P) (w := W) t u o.type el sz hu (by rw [hi]; simp [hsz]) (β.b i) off n cap (cs.den β) ty hb.2 A k cp (ys.take (n * sz)) hmin (fun h0 => by
              obtain ⟨ad, ha, hcc⟩ := hrd.add (by rw [List.length_take] at h0; omega)
              exact ⟨ad, ha, fun j v hj => hcc j v (by rw [List.getElem?_take] at hj; split at hj; exact hj; cases hj)⟩) hfit fun v hv => h2 v (List.mem_of_mem_take hv)
            have heq : (mkCs (cs.svs.take off ++ ((ys.take (n * sz)).map .v ++ cs.svs.drop (off + (ys.take (n * sz)).length)))).den β = splice (cs.den β) off (ys.take (n * sz)) := by
              rw [mkCs_den, dens_append, dens_append, dens_take, dens_drop, svs_den, dens_v]
              unfold splice
              simp
            refine .inl ⟨.int .i64 ((Nat.min k n : Nat) : Int), _, ?_, β, rfl, post_upd hrow (fun k hk => hk) ⟨hb.1, by rw [heq]; exact hb.2.row _⟩ (Cg.of ((Chg.refl [β.b i] W).setRow (.inl (by simp)) _) fun k hk => .inl (List.mem_singleton.1 hk))⟩
            subst hc
            unfold execOp
            simp only [ho, resolve, invoke, builtin, Sem.run_bind, Sem.run_pure, Result.andThen_ok, List.map_toArray, List.map_cons, List.map_nil, hx, hy, hsl, SV.den, hrun, goInt]
          · cases hr
        · cases hr
      · cases hr
end
end Ax
end Go.Proofs.YtcpbbgkeigbndaaGreat
