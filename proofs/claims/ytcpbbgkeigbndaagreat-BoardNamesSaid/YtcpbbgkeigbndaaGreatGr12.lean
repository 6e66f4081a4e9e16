/- A reckoner of calls, part 24: slices whose cells name rows. Proved over any program. No condition of its own. -/
import Derived.Test.YtcpbbgkeigbndaaGreatGr11
import Derived.Lib.Builder
import Derived.Lib.MakeNoZero
import Derived.Laws.Externs
import Derived.LaidEql
namespace Go.Proofs.YtcpbbgkeigbndaaGreat
open Go Go.RowKit Go.Lib Go.Sort
namespace Ax
section
variable {P : Program} {b : Base} {β : Env} {W : World} {a : Act} {o : Oper} {row : Nat → Option Row} {m : Nat} {g : Eff}
theorem readCs_vs {rw : Bool} {size off : Nat} {l : List SV} {sv : SV} (h : readCs rw size off l = some sv) : readVs rw size off (SV.dens β l) = some (sv.den β) := by
  unfold readCs at h
  unfold readVs
  cases rw with
  | true =>
    simp only at h ⊢
    rw [dens_length]
    split at h
    · cases h
      rw [mkAg_den, dens_take, dens_drop]
    · cases h
  | false =>
    simp only at h ⊢
    rw [dens_get, h]
    rfl
theorem den_o {i n c : Nat} {A : Option Addr} (h : β.v i = .slice A n c) : (SV.o i).den β = .slice A n c := by
  show oneV _ = _
  rw [h]
  rfl
theorem dens_mapv (l : List Value) : SV.dens β (l.map .v) = l := dens_v β l
theorem take_drop_one {l : List SV} {off k : Nat} (h : ∀ u ∈ SV.dens β l, u.oneCell' = true) : ∀ u ∈ SV.dens β ((l.drop off).take k), u.oneCell' = true := by
  rw [dens_take, dens_drop]
  exact fun u hu => h u (List.mem_of_mem_drop (List.mem_of_mem_take hu))
theorem srcS_ok {size n : Nat} {sv : SV} {l : List SV} {see see' : List Nat} (h : srcS row size sv = some (n, l, see)) (hs : See b β W row see') (hsub : ∀ i ∈ see, i ∈ see') : Rd W size (sv.den β) n (SV.dens β l) := by
  unfold srcS at h
  split at h
  · rename_i i
    split at h
    · rename_i ty sz n' xs hrow
      split at h
      · rename_i hb
        cases h
        cases Nat.eq_of_beq_eq_true hb
        rw [dens_mapv]
        exact rowRd_o (hs.held i (hsub i (by simp)) _ hrow) hs.cg (.inl ⟨_, rfl⟩)
      · cases h
    · rename_i sz n' xs hrow
      split at h
      · rename_i hb
        cases h
        cases Nat.eq_of_beq_eq_true hb
        rw [dens_mapv]
        exact rowRd_o (hs.held i (hsub i (by simp)) _ hrow) hs.cg (.inr rfl)
      · cases h
    · rename_i ty sz n' l' hrow
      split at h
      · rename_i hb
        cases h
        cases Nat.eq_of_beq_eq_true hb
        exact rdO (Rd.of_own (hs.held i (hsub i (by simp)) _ hrow).1 (hs.held i (hsub i (by simp)) _ hrow).2.2)
      · cases h
    · rename_i sz n' l' hrow
      split at h
      · rename_i hb
        cases h
        cases Nat.eq_of_beq_eq_true hb
        exact rdO (hs.held i (hsub i (by simp)) _ hrow W hs.cg)
      · cases h
    · rename_i hrow
      cases h
      obtain ⟨A, c, hz⟩ := hs.held i (hsub i (by simp)) _ hrow
      exact rdO ⟨by simp [SV.dens], by simp [SV.dens], A, c, hz, Nat.zero_le _, fun h => absurd h (by simp)⟩
    · cases h
  · rename_i i off k cap
    have key : ∀ {cs : Cs} {ty : TypeId}, Blk W (β.b i) ty (cs.den β) → (match Nat.beq ((cs.svs.drop off).take (k * size)).length (k * size) && (Nat.ble k cap && allB SV.oneB ((cs.svs.drop off).take (k * size))) with
      | true => some (k, (cs.svs.drop off).take (k * size), [i])
      | false => none) = some (n, l, see) → Rd W size ((SV.sl i off k cap).den β) n (SV.dens β l) := by
      intro cs ty hblk h
      split at h
      · rename_i hb
        simp only [Bool.and_eq_true] at hb
        obtain ⟨hb1, hb2, hb3⟩ := hb
        cases h
        refine ⟨by rw [dens_length]; exact Nat.eq_of_beq_eq_true hb1, oneCells hb3, _, _, rfl, Nat.le_of_ble_eq_true hb2, fun _ => ⟨_, _, rfl, hblk.lt, fun j u hu => ?_⟩⟩
        rw [dens_take, dens_drop, svs_den, List.getElem?_take] at hu
        split at hu
        · rw [List.getElem?_drop] at hu; exact hblk.cell_of hu
        · cases hu
      · cases h
    split at h
    · rename_i gg ty cs hrow
      exact key (hs.held i (by
        split at h
        · cases h; exact hsub i (by simp)
        · cases h) _ hrow).2 h
    · rename_i ty cs hrow
      exact key (hs.held i (by
        split at h
        · cases h; exact hsub i (by simp)
        · cases h) _ hrow W hs.cg) h
    · cases h
  · rename_i i off k cut
    split at h
    · rename_i ty sz n' l' hrow
      split at h
      · rename_i hb
        simp only [Bool.and_eq_true] at hb
        obtain ⟨hb1, hb2, hb3⟩ := hb
        cases h
        cases Nat.eq_of_beq_eq_true hb1
        have hr := Rd.of_own (hs.held i (hsub i (by simp)) _ hrow).1 (hs.held i (hsub i (by simp)) _ hrow).2.2
        obtain ⟨A, c, hv, _⟩ := hr.form
        rw [hv] at hr
        rw [dens_take, dens_drop]
        show Rd W _ (subV _ _ _ (β.v i)) _ _
        rw [hv]
        exact hr.sub (Nat.eq_of_beq_eq_true hb2) (Nat.le_of_ble_eq_true hb3)
      · cases h
    · rename_i sz n' l' hrow
      split at h
      · rename_i hb
        simp only [Bool.and_eq_true] at hb
        obtain ⟨hb1, hb2, hb3⟩ := hb
        cases h
        cases Nat.eq_of_beq_eq_true hb1
        have hr := hs.held i (hsub i (by simp)) _ hrow W hs.cg
        obtain ⟨A, c, hv, _⟩ := hr.form
        rw [hv] at hr
        rw [dens_take, dens_drop]
        show Rd W _ (subV _ _ _ (β.v i)) _ _
        rw [hv]
        exact hr.sub (Nat.eq_of_beq_eq_true hb2) (Nat.le_of_ble_eq_true hb3)
      · cases h
    · rename_i ty sz n' xs hrow
      split at h
      · rename_i hb
        simp only [Bool.and_eq_true] at hb
        obtain ⟨hb1, hb2, hb3⟩ := hb
        cases h
        cases Nat.eq_of_beq_eq_true hb1
        have hr := rowRd (hs.held i (hsub i (by simp)) _ hrow) hs.cg (.inl ⟨_, rfl⟩)
        obtain ⟨A, c, hv, _⟩ := hr.form
        rw [hv] at hr
        rw [dens_mapv]
        show Rd W _ (subV _ _ _ (β.v i)) _ _
        rw [hv]
        exact hr.sub (Nat.eq_of_beq_eq_true hb2) (Nat.le_of_ble_eq_true hb3)
      · cases h
    · rename_i sz n' xs hrow
      split at h
      · rename_i hb
        simp only [Bool.and_eq_true] at hb
        obtain ⟨hb1, hb2, hb3⟩ := hb
        cases h
        cases Nat.eq_of_beq_eq_true hb1
        have hr := rowRd (hs.held i (hsub i (by simp)) _ hrow) hs.cg (.inr rfl)
        obtain ⟨A, c, hv, _⟩ := hr.form
        rw [hv] at hr
        rw [dens_mapv]
        show Rd W _ (subV _ _ _ (β.v i)) _ _
        rw [hv]
        exact hr.sub (Nat.eq_of_beq_eq_true hb2) (Nat.le_of_ble_eq_true hb3)
      · cases h
    · cases h
  · split at h
    · cases h
      exact Rd.nil W size
    · cases h
  · cases h
theorem post_newW {sv : SV} {ty : TypeId} {size n : Nat} {l : List SV} {v : Value} {see kill : List Nat} {W' : World} (ho : Own W' ty size v n (SV.dens β l)) (h1 : ∀ u ∈ SV.dens β l, u.oneCell' = true) (hi : ltAll m (SV.idxs l) = true) (hf : ∀ k, v.ownBlock = some k → Turned β row ⟨see, [], kill, [.sw ty size n l], sv⟩ k ∨ W.heap.size ≤ k) (hc : Cg (Turned β row ⟨see, [], kill, [.sw ty size n l], sv⟩) W W') : Post b β W row m ⟨see, [], kill, [.sw ty size n l], sv⟩ W' (β.upd m 0 v fun k => v.ownBlock = some k) := by
  have e : SV.dens (β.upd m 0 v fun k => v.ownBlock = some k) l = SV.dens β l := (dens_congr l fun i hi' => upd_at (idx_ne hi i hi')).symm
  refine post_new ⟨by rw [upd_v, e]; exact ho, by rw [upd_v, upd_Fm]; exact fun k => Iff.rfl, by rw [e]; exact h1⟩ (fun x hx => ?_) hc
  have hx : (β.upd m 0 v fun k => v.ownBlock = some k).F m x := hx
  rw [upd_Fm] at hx
  exact hf x hx
/-- What is appended to. -/
theorem ownS_ok {el sz n : Nat} {sv : SV} {l : List SV} {see see' : List Nat} (h : ownS row el sz sv = some (n, l, see)) (hs : See b β W row see') (hsub : ∀ i ∈ see, i ∈ see') : Own W el sz (sv.den β) n (SV.dens β l) ∧ (∀ u ∈ SV.dens β l, u.oneCell' = true) ∧ ∀ k, (sv.den β).ownBlock = some k → ∃ i ∈ see, ∃ r, row i = some r ∧ foot β i r k := by
  unfold ownS at h
  split at h
  · rename_i i
    split at h
    · rename_i ty sz' n' xs hrow
      split at h
      · rename_i hb
        rw [Bool.and_eq_true] at hb
        cases h
        cases Nat.eq_of_beq_eq_true hb.1
        cases Nat.eq_of_beq_eq_true hb.2
        obtain ⟨hown, hF, h1⟩ := hs.held i (hsub i (by simp)) _ hrow
        obtain ⟨A, c, hv, _⟩ := hown.form
        rw [den_o hv, dens_mapv, ← hv]
        exact ⟨hown, h1, fun k hk => ⟨i, by simp, _, hrow, (hF k).2 hk⟩⟩
      · cases h
    · rename_i ty sz' n' l' hrow
      split at h
      · rename_i hb
        rw [Bool.and_eq_true] at hb
        cases h
        cases Nat.eq_of_beq_eq_true hb.1
        cases Nat.eq_of_beq_eq_true hb.2
        obtain ⟨hown, hF, h1⟩ := hs.held i (hsub i (by simp)) _ hrow
        obtain ⟨A, c, hv, _⟩ := hown.form
        rw [den_o hv, ← hv]
        exact ⟨hown, h1, fun k hk => ⟨i, by simp, _, hrow, (hF k).2 hk⟩⟩
      · cases h
    · cases h
  · rename_i i off n' cap
    split at h
    · rename_i g0 ty cs hrow
      split at h
      · rename_i hb
        simp only [Bool.and_eq_true] at hb
        obtain ⟨b1, b2, b3, b4, b5⟩ := hb
        cases h
        cases Nat.eq_of_beq_eq_true b1
        have hblk := (hs.held i (hsub i (by simp)) _ hrow).2
        have b2 := Nat.le_of_ble_eq_true b2
        have b4 := Nat.le_of_ble_eq_true b4
        have hle : n * sz ≤ cap * sz := Nat.mul_le_mul_right sz b2
        have hcs : (cs.den β).length = cs.svs.length := by rw [← svs_den, dens_length]
        have hd : SV.dens β ((cs.svs.drop off).take (n * sz)) = ((cs.den β).drop off).take (n * sz) := by
          rw [← svs_den, dens_map, dens_map, List.map_take, List.map_drop]
        refine ⟨⟨?_, .inr ⟨β.b i, off, cap, cs.den β, rfl, hblk, b2, Nat.le_of_ble_eq_true b3, by rw [hcs]; exact b4, hd.symm⟩⟩, oneCells b5, fun k hk => ⟨i, by simp, _, hrow, ?_⟩⟩
        · rw [dens_length, List.length_take, List.length_drop]
          omega
        · cases hk
          rfl
      · cases h
    · cases h
  · split at h
    · cases h
      exact ⟨Own.nil W _ _, by simp [SV.dens], fun k hk => by cases hk⟩
    · cases h
  · cases h
theorem appS_ok {c : Call} {t : TypeId} {x y : Operand} {sx sy : SV} (ho : o.op = .call c) (hc : c = { callee := .builtin .append, args := #[x, y], argTypes := #[t, t] }) (hx : a.eval x = sx.den β) (hy : a.eval y = sy.den β) (h : opAppS P row m t sx sy = some g) (hs : See b β W row g.see) : Runs P o a W (EPost b β W row m g) := by
  unfold opAppS at h
  split at h
  · cases h
  · rename_i q hty
    obtain ⟨el, sz, bytes⟩ := q
    obtain ⟨inf, z, hu, hi, hz, hsz, hby, hzs, hpos⟩ := appTy_ok hty
    split at h
    · cases h
    · rename_i s hsrc
      obtain ⟨k, ys, see⟩ := s
      split at h
      · cases h
      · rename_i d hown
        obtain ⟨n, xs, see1⟩ := d
        split at h
        · rename_i hb
          rw [Bool.and_eq_true] at hb
          cases h
          obtain ⟨hb, hidx⟩ := hb
          unfold fitsB at hb
          rw [Bool.and_eq_true] at hb
          have hrd := srcS_ok (β := β) (W := W) hsrc hs fun j hj => List.mem_append_right _ hj
          obtain ⟨ho1, h1, hF⟩ := ownS_ok (β := β) (W := W) hown hs fun j hj => List.mem_append_left _ hj
          obtain ⟨A, cp, hsl, _⟩ := hrd.form
          have h2 := hrd.2.1
          have hl := hrd.1
          rw [hsl] at hrd
          obtain ⟨A', c', w', hrun, hown', hch, hbl⟩ := run_append_all (P := P) W t o.type el inf z sz bytes hu hi hz hsz hby hzs hpos _ n (SV.dens β xs) ho1 A k cp (SV.dens β ys) hl hrd.add h2 (Nat.le_of_ble_eq_true hb.1) (Nat.le_of_ble_eq_true hb.2)
          have hT : ∀ k', (sx.den β).ownBlock = some k' → Turned β row ⟨see1 ++ see, [], see1, [.sw el sz (n + k) (xs ++ ys)], .o m⟩ k' := fun k' hk => by
            obtain ⟨i, hi, r, hr, hf⟩ := hF k' hk
            exact ⟨i, r, .inr hi, hr, hf⟩
          refine .inl ⟨.slice A' (n + k) c', w', ?_, β.upd m 0 (.slice A' (n + k) c') fun k' => (Value.slice A' (n + k) c').ownBlock = some k', ?_, post_newW (by rw [dens_append]; exact hown') (fun u hu => ?_) hidx (fun k' hk => ?_) (Cg.of hch fun k' hk => ?_)⟩
          · subst hc
            unfold execOp
            simp only [ho, resolve, invoke, builtin, Sem.run_bind, Sem.run_pure, Result.andThen_ok, List.map_toArray, List.map_cons, List.map_nil, hx, hy, hsl, hrun]
          · show _ = oneV _
            rw [upd_v]
            rfl
          · rw [dens_append] at hu
            rcases List.mem_append.1 hu with hu | hu
            · exact h1 u hu
            · exact h2 u hu
          · rcases hbl with hbl | ⟨k'', hk', hlt⟩
            · exact .inl (hT k' (hbl ▸ hk))
            · rw [hk'] at hk; cases hk; exact .inr hlt
          · exact .inl (hT k' (by simpa using hk))
        · cases h
theorem app0_ok {c : Call} {t : TypeId} {x y : Operand} {sx sy : SV} (ho : o.op = .call c) (hc : c = { callee := .builtin .append, args := #[x, y], argTypes := #[t, t] }) (hx : a.eval x = sx.den β) (hy : a.eval y = sy.den β) (h : opApp0 P row t sx sy = some g) (hs : See b β W row g.see) : Runs P o a W (EPost b β W row m g) := by
  unfold opApp0 at h
  split at h
  · cases h
  · rename_i q hty
    obtain ⟨el, sz, bytes⟩ := q
    obtain ⟨inf, z, hu, hi, hz, hsz, hby, hzs, hpos⟩ := appTy_ok hty
    split at h
    · rename_i l see hsrc
      have key : ∀ (A : Option Addr) (n cp : Nat) (see' : List Nat), sx.den β = .slice A n cp → n ≤ cp → See b β W row see' → (∀ i ∈ see, i ∈ see') → Runs P o a W (EPost b β W row m (.pure see' sx)) := by
        intro A n cp see' hv hn hs' hsub
        have hrd := srcS_ok (β := β) (W := W) hsrc hs' hsub
        obtain ⟨A', c', hsl, _⟩ := hrd.form
        refine runs_pure ?_
        subst hc
        unfold execOp
        simp only [ho, resolve, invoke, builtin, Sem.run_bind, Sem.run_pure, Result.andThen_ok, List.map_toArray, List.map_cons, List.map_nil, hx, hy, hsl, hv]
        have hint : ∀ k, (TypeDesc.slice el) ≠ .int k := fun k => nofun
        simp [Builtin.append_, run_underlying hu, sizeOf, typeInfo, hi, Builtin.lenOf, hn]
        cases A' with
        | none => cases A <;> simp [Builtin.firstCells, storeCells]
        | some ad => cases A <;> simp [Builtin.firstCells, storeCells, loadCells, loadCellsFrom]
      split at h
      · split at h
        · cases h
          exact key none 0 0 see rfl (Nat.le_refl _) hs fun i hi => hi
        · cases h
      · rename_i i
        split at h
        · rename_i n hn
          cases h
          obtain ⟨size, xs, hr⟩ := rowLen_ok (β := β) (W := W) hn hs (by simp [Eff.pure])
          obtain ⟨A, c', hv, hle⟩ := hr.form
          exact key A n c' _ (den_o hv) hle hs fun j hj => List.mem_cons_of_mem _ hj
        · cases h
      · split at h
        · rename_i hle
          cases h
          exact key _ _ _ see rfl (Nat.le_of_ble_eq_true hle) hs fun i hi => hi
        · cases h
      · cases h
    · cases h
theorem loadS_ok {t : TypeId} {x : Operand} {i off : Nat} (ho : o.op = .load t x) (hx : a.eval x = (SV.e i off).den β) (h : opLoadS P row t i off = some g) (hs : See b β W row g.see) : Runs P o a W (EPost b β W row m g) := by
  unfold opLoadS at h
  split at h
  · cases h
  · rename_i sh hsh
    split at h
    · cases h
    · rename_i h0
      split at h
      · rename_i ty sz n l hrow
        split at h
        · rename_i sv hrd
          cases h
          have hr := Rd.of_own (hs.held i (by simp [Eff.pure]) _ hrow).1 (hs.held i (by simp [Eff.pure]) _ hrow).2.2
          exact runs_pure (load_rd ho hx hsh (Nat.le_of_ble_eq_true h0) hr (.inr (readCs_vs hrd)))
        · cases h
      · rename_i sz n l hrow
        split at h
        · rename_i sv hrd
          cases h
          have hr := hs.held i (by simp [Eff.pure]) _ hrow W hs.cg
          exact runs_pure (load_rd ho hx hsh (Nat.le_of_ble_eq_true h0) hr (.inr (readCs_vs hrd)))
        · cases h
      · cases h
end
end Ax
end Go.Proofs.YtcpbbgkeigbndaaGreat

/- A reckoner of calls, part 25: stores into such slices, slices without elements, texts out of bytes. Proved over any program. No condition of its own. -/
namespace Go.Proofs.YtcpbbgkeigbndaaGreat
open Go Go.RowKit Go.Lib Go.Sort
namespace Ax
section
variable {P : Program} {b : Base} {β : Env} {W : World} {a : Act} {o : Oper} {row : Nat → Option Row} {m : Nat} {g : Eff}
theorem ownRowS_ok {i : Nat} {q : TypeId × Nat × Nat × List SV} {r : Row} (hr : row i = some r) (h : ownRowS (row i) = some q) : (∀ {w : World} {b' : Base}, Held b' β w i r ↔ Held b' β w i (.s q.1 q.2.1 q.2.2.1 (SV.dens β q.2.2.2))) ∧ (∀ k, foot β i r k ↔ β.F i k) := by
  rw [hr] at h
  unfold ownRowS at h
  split at h
  · rename_i ty sz n xs hh
    cases hh
    cases h
    refine ⟨fun {w b'} => ?_, fun k => Iff.rfl⟩
    rw [dens_mapv]
  · rename_i ty sz n l hh
    cases hh
    cases h
    exact ⟨Iff.rfl, fun k => Iff.rfl⟩
  · cases h
theorem storeS_ok {t : TypeId} {x y : Operand} {i off : Nat} {sv : SV} (ho : o.op = .store t x y) (hx : a.eval x = (SV.e i off).den β) (hy : a.eval y = sv.den β) (h : opStoreS P row t i off sv = some g) (hs : See b β W row g.see) : Runs P o a W (EPost b β W row m g) := by
  unfold opStoreS at h
  split at h
  · cases h
  · rename_i sh hsh
    obtain ⟨rw', size⟩ := sh
    split at h
    · cases h
    · rename_i c hc
      have hcd := svCells_den (β := β) hc
      split at h
      · cases h
      · rename_i hbs
        split at h
        · rename_i q hq
          obtain ⟨ty, sz, n, l⟩ := q
          split at h
          · rename_i hle
            cases h
            obtain ⟨r, hr⟩ : ∃ r, row i = some r := by
              cases hri : row i with
              | some r => exact ⟨r, rfl⟩
              | none => rw [hri] at hq; cases hq
            obtain ⟨h1, h2⟩ := ownRowS_ok (β := β) hr hq
            let row' : Nat → Option Row := fun k => if k = i then some (.s ty sz n (SV.dens β l)) else row k
            have hrow' : row' i = some (.s ty sz n (SV.dens β l)) := if_pos rfl
            have hs' : See b β W row' [i] := by
              have at_ : ∀ {k : Nat} {r' : Row}, k ∈ [i] → row' k = some r' → r' = .s ty sz n (SV.dens β l) ∧ k = i := fun {k r'} hk hr' => by
                cases List.mem_singleton.1 hk
                rw [hrow'] at hr'
                exact ⟨(Option.some.inj hr').symm, rfl⟩
              refine ⟨hs.cg, fun k hk r' hr' => ?_, fun k hk r' xx hr' hxx => ?_, fun k hk k' hk' r1 r2 x h1' h2' hx hx' => by rw [List.mem_singleton.1 hk, List.mem_singleton.1 hk']⟩
              · obtain ⟨rfl, rfl⟩ := at_ hk hr'
                exact h1.1 (hs.held k (by simp) r hr)
              · obtain ⟨rfl, rfl⟩ := at_ hk hr'
                exact hs.new k (by simp) r xx hr ((h2 xx).2 hxx)
            have hbs' := hbs
            simp only [Bool.and_eq_true] at hbs'
            have hvc : ∀ u ∈ SV.dens β c, u.oneCell' = true := oneCells hbs'.2.1
            have hcell : svCells (.v (sv.den β)) = some ((SV.dens β c).map .v) := by
              show some ((sv.den β).cells.toList.map SV.v) = _
              rw [hcd]
            have hall : allB SV.oneB ((SV.dens β c).map .v) = true := by
              have : ∀ (l : List Value), (∀ u ∈ l, u.oneCell' = true) → allB SV.oneB (l.map .v) = true := by
                intro l
                induction l with
                | nil => intro _; rfl
                | cons u l ih =>
                  intro hu
                  rw [List.map_cons]
                  unfold allB
                  rw [show SV.oneB (.v u) = true from hu u (by simp)]
                  exact ih fun x hx => hu x (List.mem_cons_of_mem _ hx)
              exact this _ hvc
            have hallV : ∀ (l : List Value), allV (l.map .v) = some l := by
              intro l
              induction l with
              | nil => rfl
              | cons u l ih => rw [List.map_cons]; unfold allV; simp only; rw [ih]
            have hst : storeRow P t i (.s ty sz n (SV.dens β l)) off (.v (sv.den β)) none = some (⟨[i], [(i, .s ty sz n ((SV.dens β l).take off ++ (SV.dens β c ++ (SV.dens β l).drop (off + size))))], [], [], .v undef⟩, none) := by
              unfold storeRow
              rw [hsh]
              simp only
              rw [hcell]
              simp only
              rw [show (Nat.beq ((SV.dens β c).map SV.v).length size && (allB SV.oneB ((SV.dens β c).map .v) && Nat.blt 0 size)) = true from by
                rw [List.length_map, dens_length, hall, hbs'.1, hbs'.2.2]; rfl]
              simp only
              rw [hallV]
              simp only
              rw [dens_length, hle]
            have hrun := storeRow_ok (row := row') (m := m) (b := b) (β := β) (W := W) (a := a) (o := o) (pt := .e i off) (sv := .v (sv.den β)) ho hx hy (.inr ⟨rfl, rfl⟩) hrow' hst (fun p hp => nomatch hp) hs'
            refine hrun.mono fun v W' hp => ?_
            obtain ⟨β', hv, hp⟩ := hp
            refine ⟨β', hv, ?_⟩
            have hsame : ∀ j, β.at β' j := fun j => hp.same j (by rcases Nat.lt_or_ge j m with h | h; exact .inl h; exact .inr h)
            have hd : SV.dens β' (l.take off ++ (c ++ l.drop (off + size))) = (SV.dens β l).take off ++ (SV.dens β c ++ (SV.dens β l).drop (off + size)) := by
              rw [← dens_congr _ fun j _ => hsame j, dens_append, dens_append, dens_take, dens_drop]
            have fr : ∀ {q : Nat × Row}, Eff.fresh ⟨[i], [(i, .sw ty sz n (l.take off ++ (c ++ l.drop (off + size))))], [], [], .v undef⟩ m q → q = (i, .sw ty sz n (l.take off ++ (c ++ l.drop (off + size)))) := fun {q} hq => by
              rcases hq with hq | ⟨k, hk, _⟩
              · exact List.mem_singleton.1 hq
              · simp at hk
            have fr' : Eff.fresh ⟨[i], [(i, .s ty sz n ((SV.dens β l).take off ++ (SV.dens β c ++ (SV.dens β l).drop (off + size))))], [], [], .v undef⟩ m (i, .s ty sz n ((SV.dens β l).take off ++ (SV.dens β c ++ (SV.dens β l).drop (off + size)))) := .inl (List.mem_singleton_self _)
            have tu : ∀ x, Turned β row' ⟨[i], [(i, .s ty sz n ((SV.dens β l).take off ++ (SV.dens β c ++ (SV.dens β l).drop (off + size))))], [], [], .v undef⟩ x → Turned β row ⟨[i], [(i, .sw ty sz n (l.take off ++ (c ++ l.drop (off + size))))], [], [], .v undef⟩ x := by
              rintro x ⟨k, r', hk, hr', hf⟩
              have hki : k = i := by
                rcases hk with hk | hk
                · simpa using hk
                · cases hk
              subst hki
              rw [hrow'] at hr'
              cases hr'
              exact ⟨k, r, .inl (by simp), hr, (h2 x).2 hf⟩
            refine ⟨hp.same, fun j hj hn => hp.sameF j hj hn, fun q hq => ?_, fun q hq x hx => ?_, fun q q' x hq hq' hx hx' => by rw [fr hq, fr hq'], hp.cg.mono fun x hx => .inl (tu x hx)⟩
            · cases fr hq
              have := hp.held _ fr'
              show Own _ _ _ _ _ (SV.dens β' _) ∧ _ ∧ _
              rw [hd]
              exact this
            · cases fr hq
              exact (hp.from_ _ fr' x hx).imp (tu x) id
          · cases h
        · cases h
theorem build0_ok {t : TypeId} {n : Nat} {parts : Array (Nat × Operand)} (ho : o.op = .buildSlice t n parts) (h : opBuild0 P m t n parts.toList = some g) : Runs P o a W (EPost b β W row m g) := by
  unfold opBuild0 at h
  split at h
  · cases h
  · rename_i q hty
    obtain ⟨el, sz, bytes⟩ := q
    obtain ⟨inf, z, hu, hi, hz, hsz, hby, hzs, hpos⟩ := appTy_ok hty
    split at h
    · split at h
      · rename_i hp
        cases h
        have hp : parts = #[] := by
          apply Array.toList_inj.1
          rw [hp]
        refine .inl ⟨.slice (some ⟨W.heap.size, 0, none⟩) 0 0, W.alloc (.cells #[] el), ?_, β.upd m 0 (.slice (some ⟨W.heap.size, 0, none⟩) 0 0) fun k => (Value.slice (some ⟨W.heap.size, 0, none⟩) 0 0).ownBlock = some k, ?_, post_newS ⟨by simp, .inr ⟨W.heap.size, 0, 0, [], rfl, Blk.new W el #[], Nat.le_refl _, Nat.zero_le _, by simp, by simp⟩⟩ (by simp) (fun k hk => .inr ?_) ((Cg.refl _ W).seq (Cg.of ((Chg.refl [] W).alloc _) (by simp)) fun k hk => .inl hk)⟩
        · subst hp
          unfold execOp
          simp [ho, Instr.buildSlice, run_underlying hu, sizeOf, typeInfo, hi, Instr.fill, newRow]
          rw [show Array.range 0 = #[] from by simp, Array.map_empty]
        · show _ = oneV _
          rw [upd_v]
          rfl
        · have : k = W.heap.size := by simpa [Value.ownBlock] using hk.symm
          omega
      · cases h
    · cases h
theorem bytesOf_ok : ∀ {xs : List Value} {l : List UInt8}, bytesOf xs = some l → xs = l.map fun c => .int .u8 (c.toNat : Int)
  | [], l, h => by cases h; rfl
  | v :: xs, l, h => by
    unfold bytesOf at h
    split at h
    · rename_i x hx
      split at h
      · rename_i r hr
        cases h
        rw [List.map_cons, ← bytesOf_ok hr]
        congr 1
        unfold byteOf at hx
        split at hx
        · rename_i k n
          split at hx
          · split at hx
            · rename_i hn
              cases hx
              have hn : n < 256 := Nat.le_of_ble_eq_true hn
              have : (UInt8.ofNat n).toNat = n := by simp; omega
              rw [this]
              rfl
            · cases hx
          · cases hx
        · cases hx
      · cases h
    · cases h
theorem uns_ok {s d : TypeId} {x : Operand} {sv : SV} (ho : o.op = .convert s d x) (hx : a.eval x = sv.den β) (h : opUns P row s d sv = some g) (hs : See b β W row g.see) : Runs P o a W (EPost b β W row m g) := by
  unfold opUns at h
  split at h
  · rename_i i off
    split at h
    · rename_i g0 ty cs hrow
      have fin : ∀ {sh : W.shape? (β.b i) = some (ty, cs.svs.length)}, (convert s d (.pointer (some ⟨β.b i, off, none⟩))).run P W = .ok (.pointer (some ⟨β.b i, off, none⟩)) W → g = .pure [i] (.p i off) → Runs P o a W (EPost b β W row m g) := by
        rintro _ hrun rfl
        refine runs_pure ?_
        unfold execOp
        simp only [ho, hx, SV.den, Sem.run_bind, hrun, Result.andThen_ok, Sem.run_pure]
      have shp : i ∈ g.see → W.shape? (β.b i) = some (ty, cs.svs.length) := fun hi => by
        have hblk : W.heap[β.b i]? = some (.cells (cs.den β).toArray ty (0, 0)) := (hs.held i hi _ hrow).2
        have hlen : (cs.den β).length = cs.svs.length := by rw [← svs_den, dens_length]
        simp [World.shape?, hblk, hlen]
      split at h
      · rename_i t hu
        split at h
        · rename_i hd
          split at h
          · rename_i j hj
            split at h
            · rename_i hb
              rw [Bool.and_eq_true] at hb
              cases h
              have sh := shp (List.mem_singleton_self i)
              refine fin (sh := sh) (Lib.run_to_unsafe W ⟨β.b i, off, none⟩ hu hd hj ?_ sh (Nat.le_of_ble_eq_true hb.2)) rfl
              have := Nat.le_of_ble_eq_true hb.1
              omega
            · cases h
          · cases h
        · cases h
      · rename_i hu
        split at h
        · rename_i u hd
          split at h
          · rename_i j hj
            split at h
            · rename_i hb
              cases h
              have sh := shp (List.mem_singleton_self i)
              exact fin (sh := sh) (Lib.run_from_unsafe W ⟨β.b i, off, none⟩ hu hd hj sh hb) rfl
            · cases h
          · cases h
        · cases h
      · cases h
    · cases h
  · cases h
theorem find_esc (fn : Func) (h : fn.name = "internal/abi.NoEscape") (h2 : fn.origin = "") : Extern.findNext fn = none ∧ Extern.find fn = some Extern.AbiNoEscape.same := by
  obtain ⟨⟩ := fn
  cases h
  cases h2
  exact ⟨by kernel_rfl, by kernel_rfl⟩
theorem esc_ok {c : Call} {e : Operand → Option SV} (ho : o.op = .call c) (he : Agree o a e β) (h : opEsc P e c = some g) : Runs P o a W (EPost b β W row m g) := by
  unfold opEsc at h
  split at h
  · rename_i x hcal
    split at h
    · rename_i q hp
      split at h
      · rename_i l hl
        split at h
        · rename_i y hy
          split at h
          · rename_i fn hf
            split at h
            · rename_i hb
              simp only [Bool.and_eq_true] at hb
              cases h
              obtain ⟨callee, args, ats⟩ := c
              simp only at hcal hl
              subst hcal
              obtain ⟨fst, cap, hev, hfst, hcap⟩ := callee_ok (a := a) (β := β) hp (fun sv hsv => he x (by simp [ho, Op.operands, Call.operands]) sv hsv)
              have hm := svArgs_ok (β := β) (a := a) hl (fun x hx sv hsv => he x (by
                have hx : x ∈ args := Array.mem_toList_iff.1 hx
                simp [ho, Op.operands, Call.operands, hx]) sv hsv)
              have hm2 : fst ++ (args.map a.eval ++ cap) = (SV.dens β (q.2.1 ++ (l ++ q.2.2))).toArray := by
                rw [dens_append, dens_append, ← hm, ← hcap, ← hfst, ← Array.toList_map, ← Array.toList_append, ← Array.toList_append, Array.toArray_toList]
              have hname : fn.name = "internal/abi.NoEscape" := by simpa using hb.2.1
              have hor : fn.origin = "" := by simpa using hb.2.2
              refine runs_pure ?_
              unfold execOp
              simp only [ho, resolve, hev, Deferred.ofValue, invoke, Sem.run_bind, Sem.run_pure, Result.andThen_ok]
              rw [Array.append_assoc, hm2, hy, run_callFunc_extern hf (by rw [hname]; decide) hb.1 (find_esc fn hname hor).1 (find_esc fn hname hor).2]
              rfl
            · cases h
          · cases h
        · cases h
      · cases h
    · cases h
  · cases h
theorem find_noz (fn : Func) (h : fn.name = "internal/bytealg.MakeNoZero") (h2 : fn.origin = "") : Extern.findNext fn = none ∧ Extern.find fn = some (Extern.BytealgMakeNoZero.makeNoZero fn.params fn.resultTypes) := by
  obtain ⟨⟩ := fn
  cases h
  cases h2
  exact ⟨by kernel_rfl, by kernel_rfl⟩
theorem noz_ok {c : Call} {e : Operand → Option SV} (ho : o.op = .call c) (he : Agree o a e β) (h : opNoZ P e m c = some g) : Runs P o a W (EPost b β W row m g) := by
  unfold opNoZ at h
  split at h
  · rename_i x hcal
    split at h
    · rename_i q hp
      split at h
      · rename_i l hl
        split at h
        · rename_i k hy
          split at h
          · rename_i fn hf
            split at h
            · rename_i hb
              split at h
              · rename_i t ht
                split at h
                · rename_i el hu
                  split at h
                  · rename_i hk
                    obtain ⟨hk0, hk1, hk2⟩ := of_decide_eq_true hk
                    simp only [Bool.and_eq_true] at hb
                    cases h
                    obtain ⟨callee, args, ats⟩ := c
                    simp only at hcal hl
                    subst hcal
                    obtain ⟨fst, cap, hev, hfst, hcap⟩ := callee_ok (a := a) (β := β) hp (fun sv hsv => he x (by simp [ho, Op.operands, Call.operands]) sv hsv)
                    have hm := svArgs_ok (β := β) (a := a) hl (fun x hx sv hsv => he x (by
                      have hx : x ∈ args := Array.mem_toList_iff.1 hx
                      simp [ho, Op.operands, Call.operands, hx]) sv hsv)
                    have hm2 : fst ++ (args.map a.eval ++ cap) = (SV.dens β (q.2.1 ++ (l ++ q.2.2))).toArray := by
                      rw [dens_append, dens_append, ← hm, ← hcap, ← hfst, ← Array.toList_map, ← Array.toList_append, ← Array.toList_append, Array.toArray_toList]
                    have hname : fn.name = "internal/bytealg.MakeNoZero" := by simpa using hb.2.1
                    have hor : fn.origin = "" := by simpa using hb.2.2
                    have hrt : fn.resultTypes = #[t] := by rw [← Array.toList_inj, ht]
                    obtain ⟨n, rfl⟩ := Int.eq_ofNat_of_zero_le hk0
                    simp only [Int.toNat_natCast] at hk1 hk2 ⊢
                    obtain ⟨cs, hrun, hge, hmx⟩ := Lib.run_makeNoZero (P := P) W fn.params t el hu n hk2
                    have hmade := Own.made W.drew.drew el 1 0 cs.size cs.toList (Nat.zero_le _) (hmx hk1) (by simp)
                    rw [Nat.zero_mul, List.take_zero, Array.toArray_toList] at hmade
                    refine .inl ⟨.slice (some ⟨W.heap.size, 0, none⟩) n cs.size, _, ?_, _, ?_, post_newS hmade (fun u hu => nomatch hu) (fun k hk => .inr ?_) (Cg.of (((Chg.refl [] W).drew.drew).alloc _) (by simp))⟩
                    · unfold execOp
                      simp only [ho, resolve, hev, Deferred.ofValue, invoke, Sem.run_bind, Sem.run_pure, Result.andThen_ok]
                      rw [Array.append_assoc, hm2, hy, run_callFunc_extern hf (by rw [hname]; decide) hb.1 (find_noz fn hname hor).1 (find_noz fn hname hor).2, hrt]
                      show (Result.andThen ((Extern.BytealgMakeNoZero.makeNoZero fn.params #[t] #[.int .i64 n]).run P W) _) = _
                      rw [hrun]
                      rfl
                    · simp only [SV.den, upd_v, subV]
                      have hd : W.drew.drew.heap.size = W.heap.size := rfl
                      rw [hd]
                      split <;> simp [Addr.add]
                    · have : W.heap.size = k := by
                        have hd : W.drew.drew.heap.size = W.heap.size := rfl
                        rw [← hd]
                        simpa [Value.ownBlock] using hk
                      omega
                  · cases h
                · cases h
              · cases h
            · cases h
          · cases h
        · cases h
      · cases h
    · cases h
  · cases h
theorem run_append_str (w : World) (t u ty e : TypeId) (i : TypeInfo) (ht : P.underlying t = some (.slice e)) (hu : P.underlying u = some .string) (hi : P.info? e = some i) (hz : i.zero = some (.int .u8 0)) (hsize : i.size = 1) (hby : i.bytes = 1)
    (v : Value) (n : Nat) (xs : List Value) (hown : Own w e 1 v n xs) (s : ByteArray) (h63 : n + s.size ≤ maxLen) (hbytes : n + s.size ≤ 140737488355328) :
    ∃ A' c' w', (Builtin.append_ #[t, u] ty #[v, .string s]).run P w = .ok (.slice A' (n + s.size) c') w' ∧ Own w' e 1 (.slice A' (n + s.size) c') (n + s.size) (xs ++ strCells s) ∧ Chg v.ownBlock.toList w w' ∧
      ((Value.slice A' (n + s.size) c').ownBlock = v.ownBlock ∨ ∃ k, (Value.slice A' (n + s.size) c').ownBlock = some k ∧ w.heap.size ≤ k) := by
  have hxl : xs.length = n := by simpa using hown.1
  rcases hown.2 with ⟨rfl, rfl⟩ | ⟨g, o, cap, L, rfl, hg, hnc, hcm, hcL, hxs⟩
  · obtain rfl : xs = [] := List.eq_nil_of_length_eq_zero hxl
    obtain ⟨v', w', hrun, r1, r2, _⟩ := run_append_own_string (P := P) w w.heap.size t u ty e i ht hu hi hz hsize hby (.slice none 0 0) 0 [] (World.ownsRow_nil w _ e 1) s h63 hbytes (Nat.le_refl _)
    obtain ⟨A', c', rfl, _, _⟩ := (Own.of_row r1).form
    refine ⟨A', c', w', hrun, Own.of_row r1, Chg.of_grown r2, ?_⟩
    cases hb : (Value.slice A' (0 + s.size) c').ownBlock with
    | none => exact .inl rfl
    | some k => exact .inr ⟨k, rfl, (r1.lt k hb).1⟩
  · by_cases hr : n + s.size ≤ cap
    · have hst := run_storeCells_blk (P := P) w (o + n) (strCells s) hg (by rw [strCells_length]; omega) (strCells_oneCell s)
      have hf := run_firstCells_string (P := P) w 1 s
      refine ⟨some ⟨g, o, none⟩, cap, w.setRow g (splice L (o + n) (strCells s)).toArray, ?_, ⟨by rw [List.length_append, hxl, strCells_length, Nat.mul_one], .inr ⟨g, o, cap, _, rfl, hg.row _, hr, hcm, ?_, ?_⟩⟩, (Chg.refl _ _).setRow (.inl (by simp [Value.ownBlock])) _, .inl rfl⟩
      · simp [Builtin.append_, run_underlying ht, run_underlying hu, sizeOf, typeInfo, hi, Builtin.lenOf, hr, hf, Addr.add_lit, hsize, hst]
      · rw [splice_length _ _ _ (by rw [strCells_length]; omega)]; exact hcL
      · have := take_splice L o n xs (strCells s) (by simpa using hxs) hxl (by rw [strCells_length]; omega)
        rw [strCells_length] at this
        rw [Nat.mul_one]
        exact this
    · have h63' : n + s.size ≤ 9223372036854775807 := by simp only [maxLen] at h63; omega
      have hrun := run_append_grow_string (P := P) w t u ty e i (.int .u8 0) ht hu hi hz ⟨g, o, none⟩ n cap xs (by rw [hsize]; simpa using hxl) hown.cellsAdd s (by omega) (by omega) (by rw [hby]; exact growslice_fits (by omega) (by omega))
      have hge := grownCap_ge w (n + s.size) cap e
      have hcm' := grownCap_le_maxLen w (n + s.size) cap e h63
      have hz1 : (Value.int IntKind.u8 0).cells.size = 1 := rfl
      have hmade := Own.made w.drew e 1 (n + s.size) (grownCap w (n + s.size) cap e) (xs.toArray ++ (strCells s).toArray ++ Builtin.zeroCells (Value.int .u8 0).cells (grownCap w (n + s.size) cap e - (n + s.size))).toList hge hcm' (by
        rw [Array.length_toList]
        simp only [Array.size_append, List.size_toArray, size_zeroCells, hz1, hxl, strCells_length]
        omega)
      rw [Array.toArray_toList] at hmade
      have htk : ((xs.toArray ++ (strCells s).toArray ++ Builtin.zeroCells (Value.int .u8 0).cells (grownCap w (n + s.size) cap e - (n + s.size))).toList.take ((n + s.size) * 1)) = xs ++ strCells s := by
        have hlen : (xs ++ strCells s).length = (n + s.size) * 1 := by rw [List.length_append, hxl, strCells_length, Nat.mul_one]
        simp only [Array.toList_append, List.append_assoc]
        rw [← List.append_assoc, ← hlen]
        exact List.take_left
      rw [htk] at hmade
      exact ⟨_, _, _, hrun, hmade, ((Chg.refl _ _).drew.alloc _), .inr ⟨w.heap.size, rfl, Nat.le_refl _⟩⟩
theorem appStr_ok {c : Call} {e : Operand → Option SV} (ho : o.op = .call c) (he : Agree o a e β) (h : opAppStr P e row m c = some g) (hs : See b β W row g.see) : Runs P o a W (EPost b β W row m g) := by
  unfold opAppStr at h
  split at h
  · rename_i q hq
    obtain ⟨t, u, x, y⟩ := q
    have hc := appArgs2_eq hq
    simp only at h
    split at h
    · rename_i sx hsx
      split at h
      · rename_i s hsy
        have hx := he x (by subst hc; simp [ho, Op.operands, Call.operands]) sx hsx
        have hy := he y (by subst hc; simp [ho, Op.operands, Call.operands]) _ hsy
        split at h
        · rename_i hu
          split at h
          · rename_i el ht
            split at h
            · rename_i inf hi
              split at h
              · rename_i hz
                split at h
                · rename_i hb
                  rw [Bool.and_eq_true] at hb
                  split at h
                  · rename_i d hown
                    obtain ⟨n, xs, see1⟩ := d
                    split at h
                    · rename_i hb2
                      simp only [Bool.and_eq_true] at hb2
                      cases h
                      obtain ⟨b1, b2, hidx⟩ := hb2
                      obtain ⟨ho1, h1, hF⟩ := ownS_ok (β := β) (W := W) hown hs fun j hj => hj
                      obtain ⟨A', c', w', hrun, hown', hch, hbl⟩ := run_append_str (P := P) W t u o.type el inf ht hu hi hz (Nat.eq_of_beq_eq_true hb.1) (Nat.eq_of_beq_eq_true hb.2) _ n (SV.dens β xs) ho1 s (Nat.le_of_ble_eq_true b1) (Nat.le_of_ble_eq_true b2)
                      have hT : ∀ k', (sx.den β).ownBlock = some k' → Turned β row ⟨see1, [], see1, [.sw el 1 (n + s.size) (xs ++ (strCells s).map .v)], .o m⟩ k' := fun k' hk => by
                        obtain ⟨i, hi, r, hr, hf⟩ := hF k' hk
                        exact ⟨i, r, .inr hi, hr, hf⟩
                      refine .inl ⟨.slice A' (n + s.size) c', w', ?_, β.upd m 0 (.slice A' (n + s.size) c') fun k' => (Value.slice A' (n + s.size) c').ownBlock = some k', ?_, post_newW (by rw [dens_append, dens_mapv]; exact hown') (fun u hu => ?_) hidx (fun k' hk => ?_) (Cg.of hch fun k' hk => ?_)⟩
                      · subst hc
                        unfold execOp
                        simp only [ho, resolve, invoke, builtin, Sem.run_bind, Sem.run_pure, Result.andThen_ok, List.map_toArray, List.map_cons, List.map_nil, hx, hy, SV.den, hrun]
                      · show _ = oneV _
                        rw [upd_v]
                        rfl
                      · rw [dens_append, dens_mapv] at hu
                        rcases List.mem_append.1 hu with hu | hu
                        · exact h1 u hu
                        · exact strCells_oneCell s u hu
                      · rcases hbl with hbl | ⟨k'', hk', hlt⟩
                        · exact .inl (hT k' (hbl ▸ hk))
                        · rw [hk'] at hk; cases hk; exact .inr hlt
                      · exact .inl (hT k' (by simpa using hk))
                    · cases h
                  · cases h
                · cases h
              · cases h
            · cases h
          · cases h
        · cases h
      · cases h
    · cases h
  · cases h
theorem lies_off {e : TypeId} (hc : P.cellsOf e = 1) (count off n : Nat) (hn : off + n ≤ count) : liesAt P P.depth e count off e n = true := by
  have hd : P.depth = (2 * (P.types.size + Made.depth) + 1) + 1 := rfl
  rw [hd]
  simp only [liesAt, Bool.or_eq_true]
  left
  rw [hd]
  simp [Go.rowAt, hc, hn, sameLayout, Nat.mod_one]
theorem run_uString (w : World) (pt it ty e : TypeId) (hp : P.underlying pt = some (.pointer e)) (hc : P.cellsOf e = 1) (g o cells : Nat) (hsh : w.shape? g = some (e, cells)) (l : List UInt8) (h0 : 0 < l.length) (hn : o + l.length ≤ cells) (h63 : l.length ≤ 9223372036854775807)
    (hcell : ∀ j x, l[j]? = some x → w.cell? ((⟨g, o, none⟩ : Addr).add j) = some (.int .u8 x.toNat)) :
    (Builtin.unsafeString_ #[pt, it] ty #[.pointer (some ⟨g, o, none⟩), .int .i64 l.length]).run P w = .ok (.string ⟨l.toArray⟩) (w.freeze ⟨g, o, none⟩ l.length) := by
  have hl : l.length ≠ 0 := by omega
  have hlb := run_loadBytes (P := P) w l ⟨g, o, none⟩ .empty hcell
  have hlies := lies_off (P := P) hc (cells / P.cellsOf e) o l.length (by rw [hc]; simpa using hn)
  have h63' : ¬ (9223372036854775807 : Int) < (l.length : Int) := by omega
  have hdef : Builtin.unsafeString_ #[pt, it] ty #[.pointer (some ⟨g, o, none⟩), .int .i64 l.length] =
      (do
        let n ← asInt (.int .i64 l.length)
        if n < 0 then runtimePanic (.error "unsafe.String: len out of range")
        if n > IntKind.i64.max then unsupported (.unsafePointer "String: a length above the largest int")
        if n = 0 then pure (.string .empty)
        else if ← variablesAt ⟨g, o, none⟩ (← elemOf pt) n.toNat then do
          let s ← loadBytes ⟨g, o, none⟩ .empty n.toNat
          freeze ⟨g, o, none⟩ n.toNat
          pure (.string s)
        else unsupported (.unsafePointer "String: not so many bytes at ptr")) := rfl
  rw [hdef]
  have hmax : IntKind.i64.max = 9223372036854775807 := rfl
  have hneg : ¬ (l.length : Int) < 0 := by omega
  have hne : l ≠ [] := fun hh => by rw [hh] at h0; exact absurd h0 (by simp)
  simp [asInt, asIntOf, hmax, h63', hneg, hl, variablesAt, hsh, elemOf, run_underlying hp, hlies, hlb]
theorem ownBytes_ok {i : Nat} {q : TypeId × Nat × List UInt8} (h : ownBytes row i = some q) {see : List Nat} (hs : See b β W row see) (hi : i ∈ see) : ∃ xs, Own W q.1 1 (β.v i) q.2.1 xs ∧ xs = q.2.2.map (fun c => .int .u8 (c.toNat : Int)) ∧ ∃ r, row i = some r ∧ ∀ k, (β.v i).ownBlock = some k → foot β i r k := by
  unfold ownBytes at h
  split at h
  · rename_i ty n xs hrow
    split at h
    · rename_i l hl
      cases h
      obtain ⟨hown, hF, _⟩ := hs.held i hi _ hrow
      exact ⟨xs, hown, bytesOf_ok hl, _, hrow, fun k hk => (hF k).2 hk⟩
    · cases h
  · rename_i ty n l' hrow
    split at h
    · rename_i xs hall
      split at h
      · rename_i l hl
        cases h
        obtain ⟨hown, hF, _⟩ := hs.held i hi _ hrow
        rw [allV_den hall] at hown
        exact ⟨xs, hown, bytesOf_ok hl, _, hrow, fun k hk => (hF k).2 hk⟩
      · cases h
    · cases h
  · cases h
theorem ustr_ok {c : Call} {e : Operand → Option SV} (ho : o.op = .call c) (he : Agree o a e β) (h : opUStr P e row c = some g) (hs : See b β W row g.see) : Runs P o a W (EPost b β W row m g) := by
  obtain ⟨callee, args, ats⟩ := c
  unfold opUStr at h
  simp only at h
  split at h
  · split at h
    · rename_i x hargs
      have ha : args = #[x] := by rw [← Array.toList_inj, hargs]
      subst ha
      split at h
      · rename_i i hx
        have hev := he x (by simp [ho, Op.operands, Call.operands]) _ hx
        split at h
        · rename_i q hq
          split at h
          · rename_i hb
            cases h
            obtain ⟨xs, hown, _, _⟩ := ownBytes_ok hq hs (List.mem_singleton_self i)
            have hn := Nat.le_of_ble_eq_true hb
            rcases hown.2 with ⟨_, h0⟩ | ⟨g, o', cap, L, hv, hg, hnc, hcm, hcL, _⟩
            · omega
            · have hd : (SV.e i 0).den β = .pointer (some ⟨g, o', none⟩) := by
                show elV 0 (β.v i) = _
                rw [hv]
                simp [elV, Addr.add]
              have hd2 : (SV.o i).den β = .slice (some ⟨g, o', none⟩) q.2.1 cap := den_o hv
              refine runs_pure ?_
              rw [hd]
              unfold execOp
              simp only [ho, resolve, invoke, builtin, Sem.run_bind, Sem.run_pure, Result.andThen_ok, List.map_toArray, List.map_cons, List.map_nil, hev, hd2]
              rw [run_unsafeSliceData_row W _ _ ⟨g, o', none⟩ q.2.1 cap (by omega)]
              rfl
          · cases h
        · cases h
      · cases h
    · cases h
  · split at h
    · rename_i x y hargs
      have ha : args = #[x, y] := by rw [← Array.toList_inj, hargs]
      subst ha
      split at h
      · rename_i pt it hats
        have ht : ats = #[pt, it] := by rw [← Array.toList_inj, hats]
        subst ht
        split at h
        · rename_i i hx
          split at h
          · rename_i k hy
            have hevx := he x (by simp [ho, Op.operands, Call.operands]) _ hx
            have hevy := he y (by simp [ho, Op.operands, Call.operands]) _ hy
            split at h
            · rename_i q hq
              split at h
              · rename_i el hp
                split at h
                · rename_i hb
                  simp only [Bool.and_eq_true] at hb
                  obtain ⟨b1, b2, b3, b4, b5⟩ := hb
                  have b1 := of_decide_eq_true b1
                  have b2 := Nat.eq_of_beq_eq_true b2
                  have b3 := Nat.eq_of_beq_eq_true b3
                  have b4 := Nat.le_of_ble_eq_true b4
                  cases h
                  obtain ⟨xs, hown, hxs, r, hr, hfoot⟩ := ownBytes_ok hq hs (List.mem_singleton_self i)
                  have hlen : q.2.2.length = q.2.1 := by
                    have := hown.1
                    rw [hxs, List.length_map] at this
                    omega
                  rcases hown.2 with ⟨_, h0⟩ | ⟨gg, o', cap, L, hv, hg, hnc, hcm, hcL, _⟩
                  · omega
                  · have hd : (SV.e i 0).den β = .pointer (some ⟨gg, o', none⟩) := by
                      show elV 0 (β.v i) = _
                      rw [hv]
                      simp [elV, Addr.add]
                    have hown' : Own W q.1 1 (.slice (some ⟨gg, o', none⟩) q.2.1 cap) q.2.1 xs := hv ▸ hown
                    have hblk : W.heap[gg]? = some (.cells L.toArray q.1 (0, 0)) := hg
                    have hsh : W.shape? gg = some (el, L.length) := by rw [b2]; simp [World.shape?, hblk]
                    have hrun := run_uString (P := P) W pt it o.type el hp b3 gg o' L.length hsh q.2.2 (by omega) (by omega) (by have := Nat.le_of_ble_eq_true b5; unfold maxLen at this; omega) (fun j z hz => hown'.cellsAdd j _ (by rw [hxs, List.getElem?_map, hz]; rfl))
                    rw [hlen, ← b1] at hrun
                    refine .inl ⟨.string ⟨q.2.2.toArray⟩, W.freeze ⟨gg, o', none⟩ q.2.1, ?_, β, rfl, ⟨fun _ _ => ⟨rfl, rfl⟩, fun _ _ _ => rfl, fun z hz => ?_, fun z hz => ?_, fun z z' w hz => ?_, ?_⟩⟩
                    · unfold execOp
                      simp only [ho, resolve, invoke, builtin, Sem.run_bind, Sem.run_pure, Result.andThen_ok, List.map_toArray, List.map_cons, List.map_nil, hevx, hevy, hd]
                      show (Result.andThen ((Builtin.unsafeString_ #[pt, it] o.type #[.pointer (some ⟨gg, o', none⟩), .int .i64 k]).run P W) _) = _
                      rw [hrun]
                      rfl
                    · rcases hz with hz | ⟨_, hz, _⟩ <;> cases hz
                    · rcases hz with hz | ⟨_, hz, _⟩ <;> cases hz
                    · rcases hz with hz | ⟨_, hz, _⟩ <;> cases hz
                    · have hT : Turned β row ⟨[i], [], [i], [], .v (.string ⟨q.2.2.toArray⟩)⟩ gg := ⟨i, r, .inr (List.mem_singleton_self i), hr, hfoot gg (by rw [hv]; rfl)⟩
                      unfold World.freeze
                      split
                      · exact Cg.refl _ _
                      · exact ⟨rfl, rfl, rfl, by simp, fun k' hk hS => by
                          have hne : gg ≠ k' := fun hh => hS (by rw [← hh]; exact hT)
                          simp only [Array.getElem?_modify]
                          rw [if_neg hne]⟩
                · cases h
              · cases h
            · cases h
          · cases h
        · cases h
      · cases h
    · cases h
  · cases h
theorem conv_ok {s d : TypeId} {x : Operand} {sv : SV} (ho : o.op = .convert s d x) (hx : a.eval x = sv.den β) (h : opConv P row s d sv = some g) (hs : See b β W row g.see) : Runs P o a W (EPost b β W row m g) := by
  unfold opConv at h
  split at h
  · rename_i hb
    rw [Bool.and_eq_true] at hb
    split at h
    · rename_i k xs ob see hsrc
      split at h
      · rename_i l hl
        cases h
        obtain ⟨ob', hsrc'⟩ := src_base (b' := b) hsrc hb.2
        have hrd := src_ok (β := β) (W := W) hsrc' (settle_src hsrc' hb.2) hs fun i hi => hi
        obtain ⟨A, c, hsl, _⟩ := hrd.form
        have hlen := hrd.1
        have hxs := bytesOf_ok hl
        rw [hsl] at hrd
        refine runs_pure ?_
        unfold execOp
        simp only [ho, hx, hsl, Sem.run_bind]
        rw [run_bytes hb.1 ⟨l.toArray⟩ A c k xs (by
          show l.toArray.size = k
          rw [hxs] at hlen
          simpa using hlen) (by rw [hxs]) hrd.add]
        rfl
      · cases h
    · cases h
  · exact uns_ok ho hx h hs
theorem runs_newZ {see : List Nat} {A : Option Addr} {c : Nat} (h : (execOp a.eval o).run P W = .ok (.value (.slice A 0 c)) W) : Runs P o a W (EPost b β W row m ⟨see, [], [], [.z], .o m⟩) := by
  refine .inl ⟨_, W, h, β.upd m 0 (.slice A 0 c) No, ?_, post_new ⟨A, c, upd_v⟩ (fun k hk => hk.elim) (Cg.refl _ _)⟩
  show _ = oneV _
  rw [upd_v]
  rfl
theorem cut0_ok {t : TypeId} {x : Operand} {lo hi : Option Operand} {e : Operand → Option SV} {sv : SV} (ho : o.op = .slice t x lo hi none) (he : Agree o a e β) (hx : a.eval x = sv.den β) (h : opCut0 P e row m t sv lo hi = some g) (hs : See b β W row g.see) : Runs P o a W (EPost b β W row m g) := by
  have hlo : ∀ {d : Nat} {k : Int}, bnd e d lo = some k → (lo.map a.eval = none ∧ k = d) ∨ ∃ kk, lo.map a.eval = some (.int kk k) := fun h => bnd_ok (o := o) h (fun y hy => by subst hy; simp [ho, Op.operands]) he
  have hhi : ∀ {d : Nat} {k : Int}, bnd e d hi = some k → (hi.map a.eval = none ∧ k = d) ∨ ∃ kk, hi.map a.eval = some (.int kk k) := fun h => bnd_ok (o := o) h (fun y hy => by subst hy; simp [ho, Op.operands]) he
  unfold opCut0 at h
  split at h
  · cases h
  · rename_i q hty
    obtain ⟨el, sz, by_⟩ := q
    obtain ⟨inf, z, hu, hi', _, hsz, _, _, _⟩ := appTy_ok hty
    have key : ∀ (A : Option Addr) (k cap : Nat) (kl kh : Int), a.eval x = .slice A k cap → k ≤ cap → bnd e 0 lo = some kl → bnd e k hi = some kh → 0 ≤ kl → kl = kh → kh ≤ k → ∃ A' c', (execOp a.eval o).run P W = .ok (.value (.slice A' 0 c')) W := by
      intro A k cap kl kh hv hk hl hh h1 h2 h3
      obtain ⟨l, rfl⟩ := Int.eq_ofNat_of_zero_le h1
      subst h2
      have hrun := bounds_run (P := P) (W := W) (isS := true) (cap := cap) (len := k) (l := l) (u := l) (hhi hh) (hlo hl) (Nat.le_refl _) (by omega)
      refine ⟨if cap = l then A else A.map (·.add (l * sz)), cap - l, ?_⟩
      unfold execOp
      simp only [ho, hv, Instr.sliceAt, Sem.run_bind, run_underlying hu, Result.andThen_ok, Instr.slice, hrun, sizeOf, typeInfo, Option.map_none]
      simp [hi', hsz]
    split at h
    · rename_i i off k cut
      split at h
      · rename_i N hn
        split at h
        · rename_i kl hkl
          split at h
          · rename_i kh hkh
            split at h
            · rename_i hb
              rw [Bool.and_eq_true] at hb
              have hd := of_decide_eq_true hb.1
              cases h
              obtain ⟨size, xs, hrd⟩ := rowLen_ok (β := β) (W := W) hn hs (by simp)
              obtain ⟨A, c, hv, hle⟩ := hrd.form
              have hN := Nat.le_of_ble_eq_true hb.2
              obtain ⟨A', c', hr⟩ := key _ k (c - cut) kl kh (by rw [hx]; show subV off k cut (β.v i) = _; rw [hv]; rfl) (by omega) hkl hkh hd.1 hd.2.1 hd.2.2
              exact runs_newZ hr
            · cases h
          · cases h
        · cases h
      · cases h
    · rename_i i off k cap
      split at h
      · rename_i kl hkl
        split at h
        · rename_i kh hkh
          split at h
          · rename_i hb
            rw [Bool.and_eq_true] at hb
            have hd := of_decide_eq_true hb.1
            cases h
            obtain ⟨A', c', hr⟩ := key _ k cap kl kh (by rw [hx]; rfl) (Nat.le_of_ble_eq_true hb.2) hkl hkh hd.1 hd.2.1 hd.2.2
            exact runs_newZ hr
          · cases h
        · cases h
      · cases h
    · cases h
theorem cutW_ok {t : TypeId} {x : Operand} {lo hi : Option Operand} {e : Operand → Option SV} {sv : SV} (ho : o.op = .slice t x lo hi none) (he : Agree o a e β) (hx : a.eval x = sv.den β) (h : opCutW P e row t sv lo hi = some g) (hs : See b β W row g.see) : Runs P o a W (EPost b β W row m g) := by
  have hlo : ∀ {d : Nat} {k : Int}, bnd e d lo = some k → (lo.map a.eval = none ∧ k = d) ∨ ∃ kk, lo.map a.eval = some (.int kk k) := fun h => bnd_ok (o := o) h (fun y hy => by subst hy; simp [ho, Op.operands]) he
  have hhi : ∀ {d : Nat} {k : Int}, bnd e d hi = some k → (hi.map a.eval = none ∧ k = d) ∨ ∃ kk, hi.map a.eval = some (.int kk k) := fun h => bnd_ok (o := o) h (fun y hy => by subst hy; simp [ho, Op.operands]) he
  unfold opCutW at h
  split at h
  · cases h
  · rename_i q hty
    obtain ⟨el, sz, by_⟩ := q
    obtain ⟨inf, z, hu, hi', _, hsz, _, _, _⟩ := appTy_ok hty
    split at h
    · rename_i i k
      split at h
      · rename_i ty sz' xs hrow
        split at h
        · rename_i kl hkl
          split at h
          · rename_i kh hkh
            split at h
            · rename_i hd
              obtain ⟨rfl, rfl⟩ := of_decide_eq_true hd
              cases h
              obtain ⟨hown, _, _⟩ := hs.held i (List.mem_singleton_self i) _ hrow
              obtain ⟨A, c, hv, hle, _⟩ := hown.form
              have hev : a.eval x = .slice A k c := by
                rw [hx]
                show subV 0 k 0 (β.v i) = _
                rw [hv]
                cases A <;> simp [subV, Addr.add]
              have hrun := bounds_run (P := P) (W := W) (isS := true) (cap := c) (len := k) (l := 0) (u := 0) (hhi hkh) (hlo hkl) (Nat.le_refl _) (by omega)
              refine runs_pure ?_
              rw [den_o hv]
              unfold execOp
              simp only [ho, hev, Instr.sliceAt, Sem.run_bind, run_underlying hu, Result.andThen_ok, Instr.slice, hrun, sizeOf, typeInfo, Option.map_none]
              cases A <;> simp [hi', hsz, Addr.add]
            · cases h
          · cases h
        · cases h
      · cases h
    · cases h
theorem wide_ok {t : TypeId} {x : Operand} {lo hi : Option Operand} {e : Operand → Option SV} {sv : SV} (ho : o.op = .slice t x lo hi none) (he : Agree o a e β) (hx : a.eval x = sv.den β) (h : opWide P e row t sv lo hi = some g) (hs : See b β W row g.see) : Runs P o a W (EPost b β W row m g) := by
  have hlo : ∀ {d : Nat} {k : Int}, bnd e d lo = some k → (lo.map a.eval = none ∧ k = d) ∨ ∃ kk, lo.map a.eval = some (.int kk k) := fun h => bnd_ok (o := o) h (fun y hy => by subst hy; simp [ho, Op.operands]) he
  have hhi : ∀ {d : Nat} {k : Int}, bnd e d hi = some k → (hi.map a.eval = none ∧ k = d) ∨ ∃ kk, hi.map a.eval = some (.int kk k) := fun h => bnd_ok (o := o) h (fun y hy => by subst hy; simp [ho, Op.operands]) he
  unfold opWide at h
  split at h
  · cases h
  · rename_i q hty
    obtain ⟨el, sz, by_⟩ := q
    obtain ⟨inf, z, hu, hi', _, hsz, _, _, _⟩ := appTy_ok hty
    split at h
    · rename_i i off m' cut
      split at h
      · rename_i n hn
        split at h
        · rename_i kl hkl
          split at h
          · rename_i kh hkh
            split at h
            · rename_i hd
              rw [Bool.and_eq_true] at hd
              obtain ⟨rfl, h0⟩ := of_decide_eq_true hd.1
              have hle2 := Nat.le_of_ble_eq_true hd.2
              cases h
              obtain ⟨A, c, hv, hle⟩ : ∃ A c, β.v i = .slice A n c ∧ n ≤ c := by
                unfold ownN at hn
                split at hn
                · rename_i hrow
                  cases hn
                  obtain ⟨hown, _, _⟩ := hs.held i (List.mem_singleton_self i) _ hrow
                  obtain ⟨A, c, hv, hle, _⟩ := hown.form
                  exact ⟨A, c, hv, hle⟩
                · rename_i hrow
                  cases hn
                  obtain ⟨hown, _, _⟩ := hs.held i (List.mem_singleton_self i) _ hrow
                  obtain ⟨A, c, hv, hle, _⟩ := hown.form
                  exact ⟨A, c, hv, hle⟩
                · cases hn
              obtain ⟨u, rfl⟩ : ∃ u : Nat, kh = (u : Int) := ⟨kh.toNat, by omega⟩
              rw [Int.toNat_natCast] at hle2
              obtain ⟨B, hev⟩ : ∃ B, ∀ p, subV off p cut (β.v i) = .slice B p (c - cut) := ⟨_, fun p => by
                rw [hv]
                rfl⟩
              have hevx : a.eval x = .slice B m' (c - cut) := by
                rw [hx]
                exact hev m'
              have hrun := bounds_run (P := P) (W := W) (isS := true) (cap := c - cut) (len := m') (l := 0) (u := u) (hhi hkh) (hlo hkl) (Nat.zero_le _) (by omega)
              refine runs_pure ?_
              rw [show (SV.sub i off ((u : Int).toNat) cut).den β = .slice B u (c - cut) from by rw [Int.toNat_natCast]; exact hev u]
              unfold execOp
              simp only [ho, hevx, Instr.sliceAt, Sem.run_bind, run_underlying hu, Result.andThen_ok, Instr.slice, hrun, sizeOf, typeInfo, Option.map_none]
              cases B <;> simp [hi', hsz, Addr.add]
            · cases h
          · cases h
        · cases h
      · cases h
    · cases h
theorem indexE_ok {t : TypeId} {x ix : Operand} {sv iv : SV} (ho : o.op = .indexAddr t x ix) (hx : a.eval x = sv.den β) (hi : a.eval ix = iv.den β) (h : opIndexE P row t sv iv = some g) (hs : See b β W row g.see) : Runs P o a W (EPost b β W row m g) := by
  unfold opIndexE at h
  split at h
  · rename_i kk k
    split at h
    · rename_i i off
      split at h
      · rename_i hf
        split at h
        · rename_i len elem hu
          split at h
          · rename_i inf hinf
            split at h
            · rename_i hb
              have hb := of_decide_eq_true hb
              cases h
              obtain ⟨ad, n, c, hv⟩ := filled_ok hf hs (by simp [Eff.pure])
              refine runs_pure ?_
              unfold execOp
              simp [ho, hx, hi, SV.den, hv, elV, Instr.indexAt, run_underlying hu, asIntOf, Instr.sureAddr, hb, sizeOf, typeInfo, hinf, Addr.add_add]
            · cases h
          · cases h
        · cases h
      · cases h
    · cases h
  · cases h
theorem arrC_ok {arr : TypeId} {x : Operand} {sv : SV} (ho : o.op = .sliceToArrayPointer arr x) (hx : a.eval x = sv.den β) (h : opArrC P row arr sv = some g) (hs : See b β W row g.see) : Runs P o a W (EPost b β W row m g) := by
  unfold opArrC at h
  split at h
  · rename_i hb
    split at h
    · rename_i g' ob hr
      cases h
      refine opArr_ok ho hx hr (fun p hp => ?_) hs
      unfold opArrB at hb
      unfold opArr at hr
      split at hr
      · rename_i n el hu
        rw [hu] at hb
        simp only at hb
        split at hr
        · split at hr
          · split at hr
            · rename_i N hN
              simp only at hb
              rw [hN] at hb
              cases hr
              cases hp
              exact Nat.le_of_ble_eq_true hb
            · cases hr
          · split at hr
            · rename_i N hN
              simp only at hb
              rw [hN] at hb
              cases hr
              cases hp
              rw [Bool.and_eq_true] at hb
              exact ⟨Nat.le_of_ble_eq_true hb.1, Nat.le_of_ble_eq_true hb.2⟩
            · cases hr
          · cases hr
        · cases hr
      · cases hr
    · cases h
  · cases h
end
end Ax
end Go.Proofs.YtcpbbgkeigbndaaGreat

/- A reckoner of calls, part 26: pointers held against each other; all these operations. Proved over any program. No condition of its own. -/
namespace Go.Proofs.YtcpbbgkeigbndaaGreat
open Go Go.RowKit Go.Lib Go.Sort
namespace Ax
section
variable {P : Program} {b : Base} {β : Env} {W : World} {a : Act} {o : Oper} {row : Nat → Option Row} {m : Nat} {g : Eff}
theorem ptrTy_ok {t : TypeId} (h : ptrTy P t = true) : ∃ el inf, P.underlying t = some (.pointer el) ∧ P.info? el = some inf ∧ inf.size ≠ 0 := by
  unfold ptrTy at h
  split at h
  · rename_i el hu
    split at h
    · rename_i inf hi
      exact ⟨el, inf, hu, hi, Nat.pos_iff_ne_zero.1 (Nat.le_of_ble_eq_true h)⟩
    · cases h
  · cases h
theorem ptrEq_ok {i off j off' : Nat} {r : Bool} (h : ptrEq row i off j off' = some r) {see : List Nat} (hs : See b β W row see) (hi : i ∈ see) (hj : j ∈ see) : (sameAddr ⟨β.b i, off, none⟩ ⟨β.b j, off', none⟩).run P W = .ok r W := by
  unfold ptrEq at h
  split at h
  · rename_i hij
    cases Nat.eq_of_beq_eq_true hij
    cases h
    unfold sameAddr
    simp only [beq_self_eq_true, if_true, Sem.run_pure]
    congr 1
    cases hb : Nat.beq off off' with
    | true => rw [Nat.eq_of_beq_eq_true hb]; simp
    | false =>
      have : off ≠ off' := fun hh => by rw [hh, Nat.beq_refl] at hb; cases hb
      simp
  · rename_i hij
    have hne : i ≠ j := fun hh => by rw [hh, Nat.beq_refl] at hij; cases hij
    split at h
    · rename_i g1 t1 c1 h1
      split at h
      · rename_i g2 t2 c2 h2
        cases h
        have hb : β.b i ≠ β.b j := fun hh => hne (hs.inj i hi j hj _ _ (β.b i) h1 h2 rfl hh)
        have k1 := (hs.held i hi _ h1).2
        have k2 := (hs.held j hj _ h2).2
        exact run_sameAddr_other W (fun hh => hb (congrArg Addr.block hh)) k1 k2
      · cases h
    · cases h
theorem eq_ptr {t : TypeId} {x y : Addr} {r : Bool} (ht : ptrTy P t = true) (h : (sameAddr x y).run P W = .ok r W) : (Op.equal t (.pointer (some x)) (.pointer (some y))).run P W = .ok r W := by
  obtain ⟨el, inf, hu, hi, hz⟩ := ptrTy_ok ht
  unfold Op.equal Op.maxDepth
  unfold Op.equalIn
  simp [run_underlying hu, sizeOf, typeInfo, hi, hz, h]
theorem ptrEqOp_ok {op : BinOp} {t yt : TypeId} {x y : Operand} {sx sy : SV} (ho : o.op = .binOp op t x y yt) (hx : a.eval x = sx.den β) (hy : a.eval y = sy.den β) (h : opPtrEq P row op t sx sy = some g) (hs : See b β W row g.see) : Runs P o a W (EPost b β W row m g) := by
  unfold opPtrEq at h
  split at h
  · rename_i ht
    split at h
    · rename_i i off
      split at h
      · rename_i j off'
        split at h
        · rename_i r hr
          split at h
          · cases h
            have := eq_ptr ht (ptrEq_ok (P := P) hr hs (by simp [Eff.pure]) (by simp [Eff.pure]))
            refine runs_pure ?_
            unfold execOp
            simp [ho, hx, hy, SV.den, eqGuard, binOp, this]
          · cases h
            have := eq_ptr ht (ptrEq_ok (P := P) hr hs (by simp [Eff.pure]) (by simp [Eff.pure]))
            refine runs_pure ?_
            unfold execOp
            simp [ho, hx, hy, SV.den, eqGuard, binOp, this]
          · cases h
        · cases h
      · cases h
    · cases h
  · cases h
theorem dynT_ok {s : SV} {t : TypeId} (h : dynT s = some t) : ∃ v, s.den β = .iface t v := by
  unfold dynT at h
  split at h
  · cases h; exact ⟨_, rfl⟩
  · cases h; exact ⟨_, rfl⟩
  · cases h
theorem ifEq_run {t p q : TypeId} {u v : Value} {ms : Array (String × TypeId)} (hu : P.underlying t = some (.interface ms)) (hne : p ≠ q) : (Op.equal t (.iface p u) (.iface q v)).run P W = .ok false W := by
  have h : ∀ d : Nat, (Op.equalIn (d + 1) t (.iface p u) (.iface q v)).run P W = .ok false W := fun d => by simp [Op.equalIn, run_underlying hu, hne]
  simp [Op.equal, Op.maxDepth, h 9999]
theorem ifEqOp_ok {op : BinOp} {t yt : TypeId} {x y : Operand} {sx sy : SV} (ho : o.op = .binOp op t x y yt) (hx : a.eval x = sx.den β) (hy : a.eval y = sy.den β) (h : opIfEq P op t sx sy = some g) : Runs P o a W (EPost b β W row m g) := by
  unfold opIfEq at h
  split at h
  · rename_i ms hu
    split at h
    · rename_i p hp
      split at h
      · rename_i q hq
        split at h
        · cases h
        · rename_i hb
          have hne : p ≠ q := fun hh => by rw [hh, Nat.beq_refl] at hb; cases hb
          obtain ⟨u, hu'⟩ := dynT_ok (β := β) hp
          obtain ⟨v, hv'⟩ := dynT_ok (β := β) hq
          have := ifEq_run (P := P) (W := W) (u := u) (v := v) hu hne
          split at h
          · cases h
            refine runs_pure ?_
            unfold execOp
            simp [ho, hx, hy, hu', hv', eqGuard, binOp, this]
            rfl
          · cases h
            refine runs_pure ?_
            unfold execOp
            simp [ho, hx, hy, hu', hv', eqGuard, binOp, this]
            rfl
          · cases h
      · cases h
    · cases h
  · cases h
/-- A pointer among keys that are pointers. -/
theorem ptrAt_ok {kt : TypeId} (ht : ptrTy P kt = true) {i off : Nat} {see' : List Nat} (hs : See b β W row see') (hi : i ∈ see') : ∀ {es : List (SV × SV)} {n : Nat} {r : Option Nat} {see : List Nat} {l : List MapEntry}, ptrAt row i off n es = some (r, see) → (∀ x ∈ see, x ∈ see') → (l.map fun e => (e.key, e.val)) = densE β es → ∃ r', (Instr.findAsking kt (.pointer (some ⟨β.b i, off, none⟩)) l n).run P W = .ok r' W ∧ (r = none → r' = none) ∧ ∀ k, r = some k → ∃ e, r' = some (k, e.val) ∧ n ≤ k ∧ l[k - n]? = some e
  | [], n, r, see, l, h, _, hk => by
    cases h
    have : l = [] := List.map_eq_nil_iff.1 hk
    subst this
    exact ⟨none, rfl, fun _ => rfl, fun k hk => by cases hk⟩
  | q :: es, n, r, see, [], h, _, hk => by cases hk
  | q :: es, n, r, see, e :: l, h, hsub, hk => by
    rw [List.map_cons, densE] at hk
    obtain ⟨hk1, hk2⟩ := List.cons.inj hk
    unfold ptrAt at h
    split at h
    · rename_i j off' hq
      have hkey : e.key = .pointer (some ⟨β.b j, off', none⟩) := by rw [(Prod.mk.inj hk1).1, hq]; rfl
      unfold Instr.findAsking
      split at h
      · rename_i hr
        cases h
        have := eq_ptr ht (ptrEq_ok (P := P) hr hs hi (hsub j (by simp)))
        simp only [Sem.run_bind, hkey, this, Result.andThen_ok, if_true, Sem.run_pure]
        exact ⟨_, rfl, fun hh => (by cases hh), fun k hk => by cases hk; exact ⟨e, rfl, Nat.le_refl _, by simp⟩⟩
      · rename_i hr
        split at h
        · rename_i z hz
          obtain ⟨z1, z2⟩ := z
          cases h
          have := eq_ptr ht (ptrEq_ok (P := P) hr hs hi (hsub j (by simp)))
          simp only [Sem.run_bind, hkey, this, Result.andThen_ok, Bool.false_eq_true, if_false]
          obtain ⟨r', h1, h2, h3⟩ := ptrAt_ok ht hs hi hz (fun x hx => hsub x (List.mem_cons_of_mem _ hx)) hk2
          refine ⟨r', h1, h2, fun k hk => ?_⟩
          obtain ⟨e2, h4, h5, h6⟩ := h3 k hk
          refine ⟨e2, h4, by omega, ?_⟩
          rw [show k - n = (k - (n + 1)) + 1 by omega, List.getElem?_cons_succ]
          exact h6
        · cases h
      · cases h
    · cases h
theorem findKey_ptr {kt : TypeId} {x : Addr} {l : List MapEntry} {r : Option (Nat × Value)} (ht : ptrTy P kt = true) (h : (Instr.findAsking kt (.pointer (some x)) l 0).run P W = .ok r W) : (Instr.findKey kt (.pointer (some x)) l).run P W = .ok r W := by
  obtain ⟨el, inf, hu, _, _⟩ := ptrTy_ok ht
  unfold Instr.findKey
  simp only [Sem.run_bind, run_underlying hu, Result.andThen_ok]
  cases l with
  | nil => exact h
  | cons e l => exact h
theorem checkKey_ptr {kt : TypeId} {x : Option Addr} {em : Bool} (ht : ptrTy P kt = true) : (Instr.checkKey em 10000 kt (.pointer x)).run P W = .ok () W := by
  obtain ⟨el, inf, hu, _, _⟩ := ptrTy_ok ht
  unfold Instr.checkKey
  simp [run_underlying hu]
theorem lookupP_ok {t : TypeId} {x ix : Operand} {ok : Bool} {j i off : Nat} (ho : o.op = .lookup t x ix ok) (hx : a.eval x = (SV.mp j).den β) (hi : a.eval ix = (SV.p i off).den β) (h : opLookupP P row t j i off ok = some g) (hs : See b β W row g.see) : Runs P o a W (EPost b β W row m g) := by
  unfold opLookupP at h
  split at h
  · cases h
  · rename_i q hq
    have hu := mapTy_ok hq
    split at h
    · cases h
    · rename_i ht
      split at h
      · cases h
      · rename_i es hes
        split at h
        · cases h
        · rename_i see hk
          split at h
          · cases h
          · rename_i z hz
            cases h
            obtain ⟨entries, clock, hh, hkv, _⟩ := mapRow_ok hes hs (by simp [Eff.pure])
            obtain ⟨r', h1, h2, _⟩ := ptrAt_ok (β := β) ht hs (by simp [Eff.pure]) hk (fun x hx => by simp [Eff.pure, hx]) hkv
            have h1 := findKey_ptr ht h1
            refine runs_pure ?_
            unfold execOp
            simp only [ho, hx, hi, SV.den, Instr.lookup, Sem.run_bind, run_underlying hu, Result.andThen_ok, run_getMap hh, Sem.run_pure, checkKey_ptr ht, h1, h2 rfl, zeroSV_ok (β := β) hz]
            cases ok <;> rfl
        · rename_i n see hk
          split at h
          · cases h
          · rename_i p hp
            cases h
            obtain ⟨entries, clock, hh, hkv, _⟩ := mapRow_ok hes hs (by simp [Eff.pure])
            obtain ⟨r', h1, _, h3⟩ := ptrAt_ok (β := β) ht hs (by simp [Eff.pure]) hk (fun x hx => by simp [Eff.pure, hx]) hkv
            obtain ⟨e, h4, _, h5⟩ := h3 n rfl
            have h1 := findKey_ptr ht h1
            have hv : e.val = p.2.den β := by
              have : (densE β es)[n]? = some (e.key, e.val) := by rw [← hkv, List.getElem?_map, show entries.toList[n]? = some e by simpa using h5]; rfl
              rw [densE_get, hp] at this
              exact (Prod.mk.inj (Option.some.inj this)).2.symm
            refine runs_pure ?_
            unfold execOp
            simp only [ho, hx, hi, SV.den, Instr.lookup, Sem.run_bind, run_underlying hu, Result.andThen_ok, run_getMap hh, Sem.run_pure, checkKey_ptr ht, h1, h4, hv]
            cases ok <;> rfl
theorem updP_ok {t : TypeId} {x ix y : Operand} {j i off : Nat} {v : SV} (ho : o.op = .mapUpdate t x ix y ∨ o.op = .insert t x ix y) (hx : a.eval x = (SV.mp j).den β) (hi : a.eval ix = (SV.p i off).den β) (hy : a.eval y = v.den β) (h : opUpdP P row t j i off v = some g) (hs : See b β W row g.see) : Runs P o a W (EPost b β W row m g) := by
  unfold opUpdP at h
  split at h
  · cases h
  · rename_i q hq
    have hu := mapTy_ok hq
    split at h
    · cases h
    · rename_i ht
      split at h
      · rename_i es hrow
        split at h
        · rename_i see hk
          cases h
          obtain ⟨entries, clock, hh, hkv, hb⟩ := hs.held j (by simp) _ hrow
          obtain ⟨r', h1, h2, _⟩ := ptrAt_ok (β := β) ht hs (by simp) hk (fun x hx => by simp [hx]) hkv
          have h1 := findKey_ptr ht h1
          refine .inr (.inl ⟨{ W with heap := W.heap.setIfInBounds (β.b j) (.map (entries.push { key := .pointer (some ⟨β.b i, off, none⟩), val := v.den β, born := clock }) (clock + 1)) }, ?_, β, rfl, post_upd hrow (fun k hk => hk) ⟨entries.push { key := .pointer (some ⟨β.b i, off, none⟩), val := v.den β, born := clock }, clock + 1, heap_set hh, ?_, ?_⟩ cg_set⟩)
          · unfold execOp
            rcases ho with ho | ho <;> simp only [ho, hx, hi, hy, SV.den, Instr.mapUpdate, Sem.run_bind, run_underlying hu, Result.andThen_ok, run_getMap hh, checkKey_ptr ht, h1, h2 rfl, run_setMap hh, Sem.run_pure]
          · rw [Array.toList_push, List.map_append, hkv, densE_append]
            rfl
          · intro e he
            rw [Array.toList_push] at he
            rcases List.mem_append.1 he with he | he
            · have := hb e he; omega
            · cases List.mem_singleton.1 he
              exact Nat.lt_succ_self clock
        · cases h
      · cases h
end
end Ax
end Go.Proofs.YtcpbbgkeigbndaaGreat
