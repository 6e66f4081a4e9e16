/- A reckoner of calls, part 18b: what is deferred, what is recovered; calls. Proved over any program. No condition of its own. -/
import Derived.Test.YtcpbbgkeigbndaaGreatGr09
namespace Go.Proofs.YtcpbbgkeigbndaaGreat
open Go Go.RowKit Go.Lib Go.Sort
namespace Ax
/-- What a function's end is at, as the model has it. -/
def Um.den (β : Env) : Um → FrameMode
  | .ret => .returning
  | .pan v => .panicking [{ v := v.den β, recovered := false }]
  | .took v => .panicking [{ v := v.den β, recovered := true }]
theorem Um.same {β β' : Env} {u : Um} (h : u.sv.den β = u.sv.den β') : u.den β = u.den β' := by
  cases u with
  | ret => rfl
  | pan v => exact congrArg (fun v => FrameMode.panicking [{ v := v, recovered := false }]) h
  | took v => exact congrArg (fun v => FrameMode.panicking [{ v := v, recovered := true }]) h
theorem Um.congr {β β' : Env} {m m' : Nat} {u : Um} (h : Ext β β' m m') (hu : ∀ i ∈ u.sv.idx, i < m) : u.den β = u.den β' := Um.same (den_congr u.sv fun i hi => (h i (hu i hi)).1)
theorem Um.settled {β : Env} {u : Um} : settle (u.den β) = u.done.den β := by
  cases u <;> rfl
theorem Um.done_idx {u : Um} {i : Nat} (h : i ∈ u.done.sv.idx) : i ∈ u.sv.idx := by
  cases u with
  | took v => simp [Um.done, Um.sv, SV.idx] at h
  | _ => exact h
theorem Um.run {β : Env} {u : Um} : u.den β ≠ .run := by
  cases u <;> exact nofun
section
variable {P : Program} {T0 T : Tab P} {rc : Rc} {b : Base} {n : Nat} {β β' : Env} {s s' : Cst} {a a' : Act} {w w' : World} {ops : Array Oper} {c₀ : Frame} {cs : List Frame} {Q : Exit → Act → List Frame → World → Prop}
theorem wpS_mono {Q' : Exit → Act → List Frame → World → Prop} {c : Code} (hq : ∀ e a cs w, Q e a cs w → Q' e a cs w) (h : c.wpS P Q a cs w) : c.wpS P Q' a cs w :=
  fun b k hb hr => let ⟨e, a', cs', w', q, r⟩ := h b k hb hr; ⟨e, a', cs', w', hq _ _ _ _ q, r⟩
/-- Operations of a function that was deferred, one behind the other. -/
def wpListS (P : Program) (ops : Array Oper) (Q : Exit → Act → List Frame → World → Prop) : List Oper → Act → List Frame → World → Prop
  | [], a, cs, w => Q .normal a cs w
  | o :: l, a, cs, w => (Region.wanted o (yielded ops a.tmps) = false ∧ wpListS P ops Q l (a.put o.dst undef) cs w) ∨ (Region.wanted o (yielded ops a.tmps) = true ∧ (((execOp a.eval o).run P w = .ok .recover w ∧ match recoverD cs with
    | some (v, cs') => wpListS P ops Q l (a.put o.dst v) cs' w
    | none => wpListS P ops Q l (a.put o.dst .nilIface) cs w) ∨ o.wp P a w (fun a' w' => wpListS P ops Q l a' cs w') (fun e a' w' => Q e a' cs w')))
theorem wpOpsS_of_list : ∀ (l : List Oper) (k : Nat) (a : Act) (cs : List Frame) (w : World), (∀ j, l[j]? = ops[k + j]?) → wpListS P ops Q l a cs w → wpOpsS P ops Q (List.range' k l.length) a cs w
  | [], k, a, cs, w, _, h => by
    simpa [wpOpsS, wpListS] using h
  | o :: l, k, a, cs, w, hl, h => by
    have h0 : ops[k]? = some o := by simpa using (hl 0).symm
    have ih := fun a cs w => wpOpsS_of_list l (k + 1) a cs w (fun j => by have := hl (j + 1); simpa [Nat.add_assoc, Nat.add_comm 1 j] using this)
    simp only [List.length_cons, List.range'_succ, wpOpsS, h0]
    rcases h with ⟨hw, h⟩ | ⟨hw, h⟩
    · rw [hw, if_neg (by decide)]
      exact ih _ _ _ h
    · rw [hw, if_pos rfl]
      rcases h with ⟨hr, h⟩ | h
      · rw [hr]
        simp only
        cases hd : recoverD cs with
        | none => rw [hd] at h; exact ih _ _ _ h
        | some q => rw [hd] at h; exact ih _ _ _ h
      · unfold Oper.wp at h
        generalize (execOp a.eval o).run P w = r at h ⊢
        have key : o.upon P a (fun a' w' => wpOpsS P ops Q (List.range' (k + 1) l.length) a' cs w') (fun e a' w' => Q e a' cs w') r := by
          unfold Oper.upon at h ⊢
          split at h
          · exact ih _ _ _ h
          · exact ih _ _ _ h
          · exact ih _ _ _ h
          · refine Calls.mono h fun e w' he => ?_
            cases e with
            | returned v => exact ih _ _ _ he
            | panicked ch => exact he
            | outgrown => exact he
          · exact Rows.mono h fun v w' hv => ih _ _ _ hv
          · exact h
          · exact h.elim
        split
        · exact h.elim
        · exact key
theorem wpS_list {id : Nat} (h : wpListS P ops Q ops.toList a cs w) : (Code.region id ops false).wpS P Q a cs w :=
  wpS_region (by rw [List.range_eq_range', ← Array.length_toList]; exact wpOpsS_of_list ops.toList 0 a cs w (by simp) h)
theorem isRecover_run {o : Oper} (h : isRecover o = true) : (execOp a.eval o).run P w = .ok .recover w := by
  unfold isRecover at h
  split at h
  · rename_i c ho
    split at h
    · rename_i hc
      unfold execOp
      rw [ho]
      simp only [resolve, hc, Sem.run_bind, Sem.run_pure, Result.andThen_ok, invoke, builtin]
    · cases h
  · cases h
theorem exOpsS_ok {op : Opf} (hop : OpOk P b op) (hrc : RcOk P b rc) : ∀ (l : List Oper) (u : Um) (s : Cst) (oe : Oe) (u' : Um) (β : Env) (a : Act) (w : World), exOpsS P op rc n ops l u s = some (oe, u') → Hq b n β s a w → (∀ i ∈ u.sv.idx, i < s.mem.length) →
    (∀ s' β' a' w', oe = .n s' → Hq b n β' s' a' w' → Ext β β' s.mem.length s'.mem.length → (∀ i ∈ u'.sv.idx, i < s'.mem.length) → Q .normal a' ({ c₀ with mode := u'.den β' } :: cs) w') →
    (∀ v s' β' a' w', oe = .p v s' → Hq b n β' s' a' w' → Ext β β' s.mem.length s'.mem.length → (∀ i ∈ u'.sv.idx, i < s'.mem.length) → (∀ i ∈ v.idx, i < s'.mem.length) → Q (.panic [{ v := v.den β', recovered := false }]) a' ({ c₀ with mode := u'.den β' } :: cs) w') → wpListS P ops Q l a ({ c₀ with mode := u.den β } :: cs) w
  | [], u, s, oe, u', β, a, w, hx, h, hu, hn, _ => by
    unfold exOpsS at hx
    cases hx
    exact hn s β a w rfl h Ext.refl hu
  | o :: l, u, s, oe, u', β, a, w, hx, h, hu, hn, hp => by
    unfold exOpsS at hx
    have go : ∀ {u1 : Um} {s1 : Cst} {β1 : Env} {a1 : Act} {w1 : World}, exOpsS P op rc n ops l u1 s1 = some (oe, u') → Hq b n β1 s1 a1 w1 → (∀ i ∈ u1.sv.idx, i < s1.mem.length) → Ext β β1 s.mem.length s1.mem.length → wpListS P ops Q l a1 ({ c₀ with mode := u1.den β1 } :: cs) w1 := fun {u1 s1 β1 a1 w1} hx1 h1 hu1 he => exOpsS_ok hop hrc l u1 s1 oe u' β1 a1 w1 hx1 h1 hu1 (fun s' β' a' w' e hq hE hi => hn s' β' a' w' e hq (he.trans hE) hi) (fun v s' β' a' w' e hq hE hi hv => hp v s' β' a' w' e hq (he.trans hE) hi hv)
    have keep : ∀ {dst : Option Tmp} {sv : SV}, Ext β β s.mem.length (putC n s dst sv).mem.length := fun {dst sv} => by
      rw [putC_st.2.1]
      exact Ext.refl
    have kept : ∀ {v : SV} {dst : Option Tmp} {sv : SV}, (∀ i ∈ v.idx, i < s.mem.length) → ∀ i ∈ v.idx, i < (putC n s dst sv).mem.length := fun {v dst sv} hv => by
      rw [putC_st.2.1]
      exact hv
    split at hx
    · rename_i hrec
      split at hx
      · rename_i hg
        refine .inr ⟨h.hd.guard hg, .inl ⟨isRecover_run hrec, ?_⟩⟩
        cases u with
        | pan v =>
          show wpListS P ops Q l (a.put o.dst (v.den β)) ({ c₀ with mode := (Um.took v).den β } :: cs) w
          exact go hx (h.put o.dst (sv := v) hu) (kept hu) keep
        | ret => exact go hx (h.put o.dst (sv := .v .nilIface) (by simp [SV.idx])) (kept hu) keep
        | took v => exact go hx (h.put o.dst (sv := .v .nilIface) (by simp [SV.idx])) (kept hu) keep
      · rename_i hg
        exact .inl ⟨h.hd.guard hg, go hx (h.put o.dst (sv := .v undef) (by simp [SV.idx])) (kept hu) keep⟩
      · cases hx
    · split at hx
      · rename_i s1 h1
        have := exOp_step (Q := fun e a' w' => Q e a' ({ c₀ with mode := u.den β } :: cs) w') (next := fun a' w' => wpListS P ops Q l a' ({ c₀ with mode := u.den β } :: cs) w') hop hrc h1 h (fun s2 β1 a1 w1 hx1 h2 he => by
          unfold exOpsC at hx1
          cases hx1
          rw [Um.congr he hu]
          exact go hx h2 (fun i hi => (he i (hu i hi)).2) he) (fun v s' β' a' w' e => by cases e)
        rcases this with ⟨hw, hk⟩ | ⟨hw, hk⟩
        · exact .inl ⟨hw, hk⟩
        · exact .inr ⟨hw, .inr hk⟩
      · rename_i v s1 h1
        cases hx
        have := exOp_step (Q := fun e a' w' => Q e a' ({ c₀ with mode := u.den β } :: cs) w') (next := fun a' w' => wpListS P ops Q l a' ({ c₀ with mode := u.den β } :: cs) w') hop hrc h1 h (fun s2 β1 a1 w1 hx1 h2 he => by
          unfold exOpsC at hx1
          cases hx1) (fun v' s' β' a' w' e hq hE hv => by
          cases e
          rw [Um.congr hE hu]
          exact hp v s1 β' a' w' rfl hq hE (fun i hi => (hE i (hu i hi)).2) hv)
        rcases this with ⟨hw, hk⟩ | ⟨hw, hk⟩
        · exact .inl ⟨hw, hk⟩
        · exact .inr ⟨hw, .inr hk⟩
      · cases hx
/-- How the code of a function ends that was deferred. -/
def RzS (b : Base) (n : Nat) (β : Env) (m : Nat) (c₀ : Frame) (cs : List Frame) (e : Ed) (u' : Um) (s' : Cst) (x : Exit) (a' : Act) (cs' : List Frame) (w' : World) : Prop := ∃ β', Hq b n β' s' a' w' ∧ Ext β β' m s'.mem.length ∧ ExIs β' s'.mem.length e x ∧ (∀ i ∈ u'.sv.idx, i < s'.mem.length) ∧ cs' = { c₀ with mode := u'.den β' } :: cs
theorem RzS.trans {m m' : Nat} {e : Ed} {u' : Um} {x : Exit} {cs' : List Frame} (h : RzS b n β' m' c₀ cs e u' s' x a' cs' w') (k : Ext β β' m m') : RzS b n β m c₀ cs e u' s' x a' cs' w' := by
  obtain ⟨β2, h1, h2, h3, h4, h5⟩ := h
  exact ⟨β2, h1, k.trans h2, h3, h4, h5⟩
theorem rzS_of {jump : Code → Cst → Option (Ed × Cst)} (hj : JumpOk P b n jump) {c : Code} {u : Um} {s : Cst} {e : Ed} {s' : Cst} (hx : jump c s = some (e, s')) (h : Hq b n β s a w) (hu : ∀ i ∈ u.sv.idx, i < s.mem.length) : c.wpS P (RzS b n β s.mem.length c₀ cs e u s') a ({ c₀ with mode := u.den β } :: cs) w := by
  refine wpS_of_wp (Code.wp_mono (fun x a' w' hq => ?_) (hj c s e s' β a w hx h))
  obtain ⟨β', h1, h2, h3⟩ := hq
  exact ⟨β', h1, h2, h3, fun i hi => (h2 i (hu i hi)).2, by rw [Um.congr h2 hu]⟩
theorem exS_ok {op opD : Opf} (hop : OpOk P b op) (hopD : OpOk P b opD) (hm : P.follows .mixedOrders = true) (hrc : RcOk P b rc) : ∀ (c : Code) (u : Um) (s : Cst) (e : Ed) (u' : Um) (s' : Cst) (β : Env) (a : Act) (w : World), exS P op opD rc n c u s = some (e, u', s') → Hq b n β s a w → (∀ i ∈ u.sv.idx, i < s.mem.length) → c.wpS P (RzS b n β s.mem.length c₀ cs e u' s') a ({ c₀ with mode := u.den β } :: cs) w := by
  have rest : ∀ (c : Code) (u : Um) (s : Cst) (e : Ed) (u' : Um) (s' : Cst) (β : Env) (a : Act) (w : World), (match exF P op opD rc n 3 c s with
      | some (e, s') => some (e, u, s')
      | none => none) = some (e, u', s') → Hq b n β s a w → (∀ i ∈ u.sv.idx, i < s.mem.length) → c.wpS P (RzS b n β s.mem.length c₀ cs e u' s') a ({ c₀ with mode := u.den β } :: cs) w := by
    intro c u s e u' s' β a w hx h hu
    split at hx
    · rename_i e1 s1 h1
      cases hx
      exact rzS_of (exF_ok hop hopD hm hrc 3) h1 h hu
    · cases hx
  intro c
  induction c with
  | region id ops draw =>
    intro u s e u' s' β a w hx h hu
    unfold exS at hx
    split at hx
    · split at hx
      · rename_i e1 s1 h1
        cases hx
        exact rzS_of (exC_ok (jump := fun _ _ => none) (fun _ _ _ _ _ _ _ hx _ => nomatch hx) hop hopD hm hrc) h1 h hu
      · cases hx
    · rename_i hd
      have hd : draw = false := by
        cases draw with
        | false => rfl
        | true => cases hd
      subst hd
      refine wpS_list ?_
      split at hx
      · rename_i s1 u1 h1
        cases hx
        exact exOpsS_ok hop hrc _ u s _ _ β a w h1 h hu (fun s2 β' a' w' e hq hE hi => by cases e; exact ⟨β', hq, hE, rfl, hi, rfl⟩) (fun v s2 β' a' w' e => by cases e)
      · rename_i v s1 u1 h1
        cases hx
        exact exOpsS_ok hop hrc _ u s _ _ β a w h1 h hu (fun s2 β' a' w' e => by cases e) (fun v s2 β' a' w' e hq hE hi hv => by cases e; exact ⟨β', hq, hE, ⟨rfl, hv⟩, hi, rfl⟩)
      · cases hx
  | seq x y ihx ihy =>
    intro u s e u' s' β a w hx h hu
    unfold exS at hx
    split at hx
    · rename_i u1 s1 h1
      refine wpS_seq (wpS_mono (fun x' a' cs' w' hq => ?_) (ihx u s _ u1 s1 β a w h1 h hu))
      obtain ⟨β', h2, h3, h4, h5, rfl⟩ := hq
      cases (show x' = .normal from h4)
      exact wpS_mono (fun _ _ _ _ hz => hz.trans h3) (ihy u1 s1 e u' s' β' a' w' hx h2 h5)
    · rename_i r hne
      refine wpS_seq (wpS_mono (fun x' a' cs' w' hq => ?_) (ihx u s e u' s' β a w hx h hu))
      cases x' with
      | normal =>
        obtain ⟨β', h2, h3, h4, h5⟩ := hq
        cases e with
        | n => exact absurd hx (hne u' s')
        | x i => cases h4
        | g l => cases h4
        | r => cases h4
        | p v => exact nomatch h4.1
      | _ => exact hq
  | cond c x y ihx ihy =>
    intro u s e u' s' β a w hx h hu
    unfold exS at hx
    split at hx
    · rename_i d hc
      have hv : a.eval c = .bool d := h.hd.eval hc
      refine wpS_cond hv ?_
      cases d with
      | true => exact ihx u s e u' s' β a w hx h hu
      | false => exact ihy u s e u' s' β a w hx h hu
    · cases hx
  | _ => exact fun u s e u' s' β a w hx h hu => rest _ u s e u' s' β a w (by unfold exS at hx; exact hx) h hu
theorem cutC_s {m : Nat} {r : Cr} : (cutC m r).s = r.s := by
  unfold cutC
  split
  · rfl
  · split <;> rfl
theorem cutC_pan {m : Nat} {r : Cr} : (cutC m r).pan = r.pan := by
  unfold cutC
  split
  · rfl
  · split <;> rfl
theorem callD_ok {op opD : Opf} (hN : noNum P = true) (hop : OpOk P b op) (hopD : OpOk P b opD) (hm : P.follows .mixedOrders = true) (hrc : RcOk P b rc) {f : FuncId} {args : List SV} {mem mem' : List Row} {u u' : Um} (hx : callD P op opD rc f args mem u = some (u', mem')) : okFn P f = true ∧ ∀ β w, RowsOk b β w mem → Wf mem → (∀ s ∈ args, ∀ j ∈ s.idx, j < mem.length) → (∀ i ∈ u.sv.idx, i < mem.length) →
    CallsD P f (SV.dens β args).toArray (u.den β) w fun e m w' => ∃ β', RowsOk b β' w' mem' ∧ Wf mem' ∧ Ext β β' mem.length mem'.length ∧ (∀ i ∈ u'.sv.idx, i < mem'.length) ∧ m = u'.den β' ∧ ∃ v, e = .returned v := by
  unfold callD at hx
  split at hx
  · rename_i fn hf
    split at hx
    · rename_i c hb
      split at hx
      · rename_i hok
        rw [Bool.and_eq_true] at hok
        split at hx
        · rename_i e u1 s hc
          split at hx
          · rename_i he hdf
            split at hx
            · rename_i l hl
              cases hx
              refine ⟨okB_fn hN hok.1, fun β w hF hw1 hw2 hu => ?_⟩
              have hdoor := hd_door (ds := ⟨[], mem.length, β⟩) (fn := fn) rfl (fun i hi => ⟨⟨rfl, rfl⟩, hi⟩) hF (Nat.le_of_ble_eq_true hok.2) hw1 hw2
              have hq0 : Hq b fn.ntmps β ⟨argsG 0 args, mem, []⟩ ⟨(SV.dens β args).toArray ++ Array.replicate (fn.ntmps - (SV.dens β args).toArray.size) undef, []⟩ w := ⟨hdoor, rfl, fun d hd => nomatch hd⟩
              refine callsD_of_wpS hf hb fun c₀ cs hu0 => ?_
              have hc0 : c₀ = { c₀ with mode := u.den β } := by rw [← hu0]
              have hwp := exS_ok (c₀ := c₀) (cs := cs) hop hopD hm hrc c u _ e u' s β _ w hc hq0 hu
              rw [← hc0] at hwp
              refine wpS_mono (fun x a' cs' w' hq => ?_) hwp
              obtain ⟨β', h1, h2, h3, h4, rfl⟩ := hq
              have hdn : a'.defers = [] := by rw [h1.df, hdf]; rfl
              have main : a'.defers = [] ∧ ∃ m, { c₀ with mode := u'.den β' } :: cs = { c₀ with mode := m } :: cs ∧ ∃ v, (results fn a'.tmps).run P w' = .ok v w' ∧ ∃ β'', RowsOk b β'' w' (cutC mem.length ⟨false, u'.sv, s.mem⟩).mem ∧ Wf (cutC mem.length ⟨false, u'.sv, s.mem⟩).mem ∧ Ext β β'' mem.length (cutC mem.length ⟨false, u'.sv, s.mem⟩).mem.length ∧ (∀ i ∈ u'.sv.idx, i < (cutC mem.length ⟨false, u'.sv, s.mem⟩).mem.length) ∧ m = u'.den β'' ∧ ∃ v', Ending.returned v = .returned v' := by
                obtain ⟨β'', k1, k2, k3, k4, k5⟩ := cutC_ok (r := ⟨false, u'.sv, s.mem⟩) h1.hd.rows h1.hd.wfR h2 h4 rfl
                rw [cutC_s] at k4
                refine ⟨hdn, _, rfl, _, results_run h1 hl, β'', k1, k2, k3, k4, ?_, _, rfl⟩
                unfold endC at k5
                rw [cutC_pan, cutC_s] at k5
                exact Um.same (by injection k5)
              have hxe : x = .normal ∨ x = .ret := by
                cases e with
                | n => exact .inl h3
                | r => exact .inr h3
                | _ => cases he
              rcases hxe with rfl | rfl
              · exact main
              · exact main
            · cases hx
          · cases hx
        · cases hx
      · cases hx
    · cases hx
  · cases hx
theorem leaveD_ok {op opD : Opf} (hN : noNum P = true) (hop : OpOk P b op) (hopD : OpOk P b opD) (hm : P.follows .mixedOrders = true) (hrc : RcOk P b rc) {fn : Func} {tmps : Array Value} {R : Ending → World → Prop} : ∀ (ds : List Df) (u : Um) (mem : List Row) (u' : Um) (mem' : List Row) (β : Env) (w : World), leaveD P op opD rc ds u mem = some (u', mem') → RowsOk b β w mem → Wf mem → (∀ d ∈ ds, ∀ i ∈ d.idx, i < mem.length) → (∀ i ∈ u.sv.idx, i < mem.length) →
    (∀ β' w', RowsOk b β' w' mem' → Wf mem' → Ext β β' mem.length mem'.length → (∀ i ∈ u'.sv.idx, i < mem'.length) → Leaves P fn tmps R [] (u'.den β') w') → Leaves P fn tmps R (ds.map (Df.den β)) (u.den β) w
  | [], u, mem, u', mem', β, w, hx, h1, h2, _, hu, hk => by
    unfold leaveD at hx
    cases hx
    exact hk β w h1 h2 Ext.refl hu
  | d :: ds, u, mem, u', mem', β, w, hx, h1, h2, hd, hu, hk => by
    unfold leaveD at hx
    split at hx
    · rename_i u1 mem1 hc
      obtain ⟨hf, hcall⟩ := callD_ok hN hop hopD hm hrc hc
      have hda := hd d (List.mem_cons_self ..)
      refine leaves_cons Um.run (f := d.f) (args := (SV.dens β (d.args ++ d.cap)).toArray) ?_ ((hcall β w h1 h2 (fun z hz j hj => hda j ?_) hu).mono fun e m w1 he => ?_)
      · show (callFunc d.f _).run P w = _
        rw [dens_append, ← List.append_toArray]
        exact okFn_spec hf _
      · unfold Df.idx
        rcases List.mem_append.1 hz with hz | hz
        · exact List.mem_append_right _ (idxs_mem hz hj)
        · exact List.mem_append_left _ (idxs_mem hz hj)
      · obtain ⟨β1, k1, k2, k3, k4, rfl, v, rfl⟩ := he
        simp only
        rw [Um.settled]
        have hds : ds.map (Df.den β) = ds.map (Df.den β1) := List.map_congr_left fun d' hd' => Df.congr fun i hi => (k3 i (hd d' (List.mem_cons_of_mem _ hd') i hi)).1
        show Leaves P fn tmps R (ds.map (Df.den β)) _ w1
        rw [hds]
        exact leaveD_ok hN hop hopD hm hrc ds u1.done mem1 u' mem' β1 w1 hx k1 k2 (fun d' hd' i hi => (k3 i (hd d' (List.mem_cons_of_mem _ hd') i hi)).2) (fun i hi => k4 i (Um.done_idx hi)) fun β' w' r1 r2 r3 r4 => hk β' w' r1 r2 (k3.trans r3) r4
    · cases hx
theorem rz_body {op opD : Opf} (hN : noNum P = true) (hop : OpOk P b op) (hopD : OpOk P b opD) (hm : P.follows .mixedOrders = true) (hrc : RcOk P b rc) {fn : Func} {mem : List Row} {e : Ed} {s : Cst} {r' : Cr} {β : Env} (hl : leaveC P op opD rc fn e s = some r') {x : Exit} {a : Act} {w' : World} (hq : Rz b fn.ntmps β mem.length e s x a w') : bodyPostD P fn (fun en w' => ∃ β', RowsOk b β' w' (cutC mem.length r').mem ∧ Wf (cutC mem.length r').mem ∧ Ext β β' mem.length (cutC mem.length r').mem.length ∧ (∀ i ∈ (cutC mem.length r').s.idx, i < (cutC mem.length r').mem.length) ∧ en = endC β' (cutC mem.length r')) x a w' := by
  obtain ⟨β1, h1, h2, h3⟩ := hq
  unfold leaveC at hl
  split at hl
  · rename_i u hue
    have main : (∀ i ∈ u.sv.idx, i < s.mem.length) → Leaves P fn a.tmps (fun e w' => ∃ β', RowsOk b β' w' (cutC mem.length r').mem ∧ Wf (cutC mem.length r').mem ∧ Ext β β' mem.length (cutC mem.length r').mem.length ∧ (∀ i ∈ (cutC mem.length r').s.idx, i < (cutC mem.length r').mem.length) ∧ e = endC β' (cutC mem.length r')) a.defers (u.den β1) w' := fun hui => by
      rw [h1.df]
      split at hl
      · rename_i mem2 hlv
        refine leaveD_ok hN hop hopD hm hrc s.df u s.mem .ret mem2 β1 w' hlv h1.hd.rows h1.hd.wfR h1.wd hui fun β2 w2 r1 r2 r3 r4 => ?_
        obtain ⟨h5, h6⟩ := h1.next (h1.hd.gone r1 r2 r3)
        unfold resC at hl
        split at hl
        · rename_i l hls
          split at hl
          · rename_i hlt
            cases hl
            exact ⟨_, results_run h5 hls, cutC_ok (r := ⟨false, wrapS l, mem2⟩) h5.hd.rows h5.hd.wfR (h2.trans h6) (ltAll_spec hlt) rfl⟩
          · cases hl
        · cases hl
      · rename_i v mem2 hlv
        cases hl
        refine leaveD_ok hN hop hopD hm hrc s.df u s.mem (.pan v) mem2 β1 w' hlv h1.hd.rows h1.hd.wfR h1.wd hui fun β2 w2 r1 r2 r3 r4 => ?_
        exact cutC_ok (r := ⟨true, v, mem2⟩) r1 r2 (h2.trans r3) r4 rfl
      · cases hl
    unfold umOf at hue
    split at hue
    · cases hue
      cases (show x = .normal from h3)
      exact main (by simp [Um.sv, SV.idx])
    · cases hue
      cases (show x = .ret from h3)
      exact main (by simp [Um.sv, SV.idx])
    · cases hue
      obtain ⟨rfl, h4⟩ := h3
      exact main h4
    · cases hue
  · cases hl
/-- A call whose code comes to an end that is known. -/
theorem callC_wp {op opD : Opf} (hN : noNum P = true) (hop : OpOk P b op) (hopD : OpOk P b opD) (hm : P.follows .mixedOrders = true) (hrc : RcOk P b rc) {f : FuncId} {fn : Func} {c : Code} {args : List SV} {mem : List Row} {e : Ed} {s : Cst} {r' : Cr} {β : Env} {w : World} (hf : P.funcs[f]? = some fn) (hb : fn.body = some c) (hl : leaveC P op opD rc fn e s = some r') (hwp : c.wp P (Rz b fn.ntmps β mem.length e s) ⟨(SV.dens β args).toArray ++ Array.replicate (fn.ntmps - (SV.dens β args).toArray.size) undef, []⟩ w) : Calls P f (SV.dens β args).toArray w fun en w' => ∃ β', RowsOk b β' w' (cutC mem.length r').mem ∧ Wf (cutC mem.length r').mem ∧ Ext β β' mem.length (cutC mem.length r').mem.length ∧ (∀ i ∈ (cutC mem.length r').s.idx, i < (cutC mem.length r').mem.length) ∧ en = endC β' (cutC mem.length r') :=
  calls_of_wp_defers hf hb (Code.wp_mono (fun _x _a _w' hq => rz_body hN hop hopD hm hrc hl hq) hwp)
theorem callC_ok {op opD : Opf} (hN : noNum P = true) (hop : OpOk P b op) (hopD : OpOk P b opD) (hm : P.follows .mixedOrders = true) (hrc : RcOk P b rc) : RcOk P b (callC P op opD rc) := by
  intro f args mem r hx
  unfold callC at hx
  split at hx
  · rename_i fn hf
    split at hx
    · rename_i c hb
      split at hx
      · rename_i hok
        rw [Bool.and_eq_true] at hok
        split at hx
        · rename_i e s hc
          split at hx
          · rename_i r' hl
            cases hx
            refine ⟨okB_fn hN hok.1, fun β w hF hw1 hw2 => ?_⟩
            have hdoor := hd_door (ds := ⟨[], mem.length, β⟩) (fn := fn) rfl (fun i hi => ⟨⟨rfl, rfl⟩, hi⟩) hF (Nat.le_of_ble_eq_true hok.2) hw1 hw2
            exact callC_wp hN hop hopD hm hrc hf hb hl (exF_ok hop hopD hm hrc 3 c _ e s β _ w hc ⟨hdoor, rfl, fun d hd => nomatch hd⟩)
          · cases hx
        · cases hx
      · cases hx
    · cases hx
  · cases hx
end
end Ax
end Go.Proofs.YtcpbbgkeigbndaaGreat

/- A reckoner of calls, part 19: runs do not hang on the door; calls in regions that draw. Proved over any program. No condition of its own. -/
namespace Go.Proofs.YtcpbbgkeigbndaaGreat
open Go Go.RowKit Go.Lib Go.Sort
namespace Ax
/-- The door that runs are reckoned on. -/
def bz : Base := ⟨default, fun _ => False⟩
/-- What a table says without a condition does not hang on the door. -/
def Tab.Free {P : Program} (T : Tab P) : Prop := ∀ b b' row m f args g, T.t b row m f args = some (g, none) → T.t b' row m f args = some (g, none)
section
variable {P : Program} {T : Tab P} {b b' : Base} {e : Operand → Option SV} {row : Nat → Option Row} {m : Nat} {o : Oper} {g : Eff} {ob : Option Prop}
theorem eff_base (h : ∀ c, o.op ≠ .call c) : opEffB P T b [] none e row m o = opEffB P T b' [] none e row m o := by
  unfold opEffB
  cases ho : o.op with
  | call c => exact absurd ho (h c)
  | _ => rfl
theorem src_base {size k : Nat} {sv : SV} {xs : List Value} {see : List Nat} (h : srcOf b row size sv = some (k, xs, ob, see)) (hb : srcB row size sv = true) : ∃ ob', srcOf b' row size sv = some (k, xs, ob', see) := by
  cases sv with
  | v x =>
    unfold srcB at hb
    simp only at hb
    split at hb
    · unfold srcOf at h ⊢
      cases h
      exact ⟨_, rfl⟩
    · cases hb
  | _ => exact ⟨ob, h⟩
theorem src_base0 {size k : Nat} {sv : SV} {xs : List Value} {see : List Nat} (h : srcOf b row size sv = some (k, xs, none, see)) : srcOf b' row size sv = some (k, xs, none, see) := by
  cases sv with
  | v x => unfold srcOf at h; cases h
  | _ => exact h
theorem append_base {t : TypeId} {sx sy : SV} {el sz bytes : Nat} {p : Prop} (ht : appTy P t = some (el, sz, bytes)) (hb : srcB row sz sy = true) (h : opAppend P b none row m t sx sy = some (g, some p)) : ∃ p', opAppend P b' none row m t sx sy = some (g, some p') := by
  unfold opAppend at h ⊢
  rw [ht] at h ⊢
  simp only at h ⊢
  split at h
  · cases h
  · rename_i k ys ob see hsrc
    obtain ⟨ob', hsrc'⟩ := src_base (b' := b') hsrc hb
    rw [hsrc']
    simp only
    split at h
    · split at h
      · split at h
        · simp only [Option.some.injEq, Prod.mk.injEq] at h
          obtain ⟨rfl, _⟩ := h
          cases ob' <;> exact ⟨_, rfl⟩
        · cases h
      · cases h
    · simp only [Option.some.injEq, Prod.mk.injEq] at h
      obtain ⟨rfl, _⟩ := h
      cases ob' <;> exact ⟨_, rfl⟩
    · cases h
theorem copy_base {t : TypeId} {sx sy : SV} {el sz bytes : Nat} (ht : appTy P t = some (el, sz, bytes)) (h : opCopy P b none row t sx sy = some (g, ob)) (hb : srcB row sz sy = true ∨ ob = none) : ∃ ob', opCopy P b' none row t sx sy = some (g, ob') ∧ (ob = none → ob' = none) := by
  unfold opCopy at h ⊢
  rw [ht] at h ⊢
  simp only at h ⊢
  split at h
  · cases h
  · rename_i k ys ob1 see hsrc
    have : ∃ ob', srcOf b' row sz sy = some (k, ys, ob', see) ∧ (ob1 = none → ob' = none) := by
      cases ob1 with
      | none => exact ⟨none, src_base0 hsrc, fun _ => rfl⟩
      | some q =>
        rcases hb with hb | hb
        · obtain ⟨ob', h'⟩ := src_base (b' := b') hsrc hb
          exact ⟨ob', h', fun hh => nomatch hh⟩
        · subst hb
          split at h
          · split at h
            · split at h
              · cases h
              · cases h
            · cases h
          · split at h
            · split at h
              · cases h
              · cases h
            · cases h
          · cases h
    obtain ⟨ob', hsrc', hn⟩ := this
    rw [hsrc']
    simp only
    split at h
    · split at h
      · split at h
        · simp only [Option.some.injEq, Prod.mk.injEq] at h
          obtain ⟨rfl, rfl⟩ := h
          refine ⟨ob', ?_, fun hh => hn ?_⟩
          · cases ob' <;> rfl
          · cases ob1 with
            | none => rfl
            | some q => cases hh
        · cases h
      · cases h
    · split at h
      · split at h
        · simp only [Option.some.injEq, Prod.mk.injEq] at h
          obtain ⟨rfl, rfl⟩ := h
          exact ⟨ob', rfl, hn⟩
        · cases h
      · cases h
    · cases h
theorem append_some {t : TypeId} {sx sy : SV} (h : opAppend P b none row m t sx sy = some (g, ob)) : ∃ p, ob = some p := by
  unfold opAppend at h
  split at h
  · cases h
  · split at h
    · cases h
    · rename_i k ys ob1 see hsrc
      split at h
      · split at h
        · split at h
          · cases h
            cases ob1 <;> exact ⟨_, rfl⟩
          · cases h
        · cases h
      · cases h
        cases ob1 <;> exact ⟨_, rfl⟩
      · cases h
theorem opC_base1 (hT : T.Free) (h : opC P T b e row m o = some g) : opC P T b' e row m o = some g := by
  cases ho : isCall o with
  | none =>
    have hne : ∀ c, o.op ≠ .call c := fun c hc => by unfold isCall at ho; rw [hc] at ho; cases ho
    unfold opC at h ⊢
    rw [opEff_nil] at h ⊢
    rw [← eff_base (b := b) hne]
    exact h
  | some c =>
    have ho : o.op = .call c := by
      unfold isCall at ho
      split at ho
      · rename_i hh; cases ho; exact hh
      · cases ho
    have e1 : ∀ b, opEff P T b [] e row m o = opCall P T b none e row m o c := fun b => by
      rw [opEff_nil]
      unfold opEffB
      rw [ho]
    unfold opC at h ⊢
    rw [e1] at h ⊢
    have fin : ∀ {x y : OR}, (match x with
        | some (g, none) => some g
        | some (g, some _) => match settleB P e row o g with
          | true => some g
          | false => none
        | none => none) = some g → (∀ ob, x = some (g, ob) → (ob = none ∨ settleB P e row o g = true) → ∃ ob', y = some (g, ob') ∧ (ob' = none ∨ settleB P e row o g = true)) → (match y with
        | some (g, none) => some g
        | some (g, some _) => match settleB P e row o g with
          | true => some g
          | false => none
        | none => none) = some g := by
      intro x y hx hy
      have : ∃ ob, x = some (g, ob) ∧ (ob = none ∨ settleB P e row o g = true) := by
        split at hx
        · cases hx; exact ⟨none, rfl, .inl rfl⟩
        · split at hx
          · rename_i hs
            cases hx
            exact ⟨_, rfl, .inr hs⟩
          · cases hx
        · cases hx
      obtain ⟨ob, rfl, hob⟩ := this
      obtain ⟨ob', rfl, hob'⟩ := hy ob rfl hob
      cases ob' with
      | none => rfl
      | some q =>
        rcases hob' with hh | hh
        · cases hh
        · simp only [hh]
    refine fin h fun ob hx hob => ?_
    unfold opCall at hx ⊢
    split at hx
    · rename_i t x y ha
      try rw [ha]
      try simp only
      split at hx
      · rename_i sx hsx
        try rw [hsx]
        try simp only
        split at hx
        · rename_i sy hsy
          try rw [hsy]
          try simp only
          obtain ⟨p, rfl⟩ := append_some hx
          rcases hob with hob | hob
          · cases hob
          · have hs := hob
            unfold settleB at hs
            rw [ho] at hs
            simp only at hs
            rw [ha] at hs
            simp only at hs
            split at hs
            · rename_i el sz bytes ht
              rw [hsy] at hs
              simp only at hs
              split at hs
              · simp only [Bool.and_eq_true] at hs
                obtain ⟨p', hp'⟩ := append_base (b' := b') ht hs.1 hx
                exact ⟨_, hp', .inr hob⟩
              · cases hs
            · cases hs
        · cases hx
      · cases hx
    · rename_i ha
      try rw [ha]
      try simp only
      split at hx
      · rename_i t u x y hc
        try rw [hc]
        try simp only
        split at hx
        · rename_i sx hsx
          try rw [hsx]
          try simp only
          split at hx
          · rename_i sy hsy
            try rw [hsy]
            try simp only
            cases ht : appTy P t with
            | none => unfold opCopy at hx; rw [ht] at hx; cases hx
            | some q =>
              obtain ⟨el, sz, bytes⟩ := q
              have : srcB row sz sy = true ∨ ob = none := by
                rcases hob with hob | hob
                · exact .inr hob
                · unfold settleB at hob
                  rw [ho] at hob
                  simp only at hob
                  rw [ha, hc] at hob
                  simp only at hob
                  rw [ht] at hob
                  simp only at hob
                  rw [hsy] at hob
                  exact .inl hob
              obtain ⟨ob', h1, h2⟩ := copy_base (b' := b') ht hx this
              refine ⟨ob', h1, ?_⟩
              rcases hob with hob | hob
              · exact .inl (h2 hob)
              · exact .inr hob
          · cases hx
        · cases hx
      · rename_i hc
        try rw [hc]
        try simp only
        split at hx
        · rename_i t x hl
          try rw [hl]
          try simp only
          exact ⟨ob, hx, hob⟩
        · rename_i hl
          try rw [hl]
          try simp only
          split at hx
          · rename_i p hp
            try rw [hp]
            try simp only
            rcases hob with rfl | hob
            · exact ⟨none, hT b b' _ _ _ _ _ hx, .inl rfl⟩
            · unfold settleB at hob
              rw [ho] at hob
              simp only at hob
              rw [ha, hc] at hob
              cases hob
          · rename_i hp
            try rw [hp]
            exact ⟨ob, hx, hob⟩
theorem opC_base (hT : T.Free) (b b' : Base) : opC P T b = opC P T b' := by
  funext e row m o
  cases h : opC P T b e row m o with
  | some g => exact (opC_base1 hT h).symm
  | none =>
    cases h' : opC P T b' e row m o with
    | none => rfl
    | some g => rw [opC_base1 (b' := b) hT h'] at h; cases h
end
end Ax
end Go.Proofs.YtcpbbgkeigbndaaGreat

/- A reckoner of calls, part 20: calls in regions that draw, where they only read; runs, so deep. Proved over any program. No condition of its own. -/
namespace Go.Proofs.YtcpbbgkeigbndaaGreat
open Go Go.RowKit Go.Lib Go.Sort
namespace Ax
/-- A row, to be read alone. -/
def toRO : Row → Row
  | .c _ ty cs => .k ty cs
  | .s _ size n xs => .r size n xs
  | .o t x => .q t x
  | .sw _ size n l => .sr size n l
  | .mo es => .mr es
  | .mu es => .mv es
  | .ho x => .hr x
  | .mi _ _ => .d
  | r => r
/-- The rows that are reached. -/
def reachL : Nat → (Nat → Option Row) → List Nat → List Nat → List Nat
  | 0, _, _, seen => seen
  | _, _, [], seen => seen
  | k + 1, row, i :: todo, seen => match memN i seen with
    | true => reachL k row todo seen
    | false => match row i with
      | some r => reachL k row (r.idx ++ todo) (i :: seen)
      | none => reachL k row todo (i :: seen)
def roRow (row : Nat → Option Row) (see : List Nat) (i : Nat) : Row := match memN i see with
  | true => match row i with
    | some r => toRO r
    | none => .d
  | false => .d
def roRows (row : Nat → Option Row) (see : List Nat) : Nat → Nat → List Row
  | 0, _ => []
  | k + 1, i => roRow row see i :: roRows row see k (i + 1)
/-- A call that only reads, wherever it stands. -/
def drawRO (rc : Rc) (row : Nat → Option Row) (m : Nat) (f : FuncId) (args : List SV) : OR := match reachL 10000 row (SV.idxs args) [] with
  | see => match roRows row see m 0 with
    | rows => match allB (fun r => ltAll m r.idx) rows && allB (fun s => ltAll m s.idx) args with
      | true => match rc f args rows with
        | some r => match !r.pan && allB ownRow (r.mem.drop m) with
          | true => some (⟨see, [], [], r.mem.drop m, r.s⟩, none)
          | false => none
        | none => none
      | false => none
def ownKind : Row → Bool
  | .c _ _ _ => true
  | .s _ _ _ _ => true
  | .o _ _ => true
  | .sw _ _ _ _ => true
  | .mo _ => true
  | .mu _ => true
  | .ho _ => true
  | .mi _ _ => true
  | _ => false
def isD : Row → Bool
  | .d => true
  | _ => false
def rwRow (row : Nat → Option Row) (see : List Nat) (i : Nat) : Row := match memN i see with
  | true => match row i with
    | some r => r
    | none => .d
  | false => .d
def rwRows (row : Nat → Option Row) (see : List Nat) : Nat → Nat → List Row
  | 0, _ => []
  | k + 1, i => rwRow row see i :: rwRows row see k (i + 1)
/-- The rows that were their own, as they are now. -/
def updOf (row : Nat → Option Row) (mem : List Row) : List Nat → List (Nat × Row)
  | [] => []
  | i :: l => match row i with
    | some r => match ownKind r with
      | true => match mem[i]? with
        | some r' => match ownKind r' with
          | true => (i, r') :: updOf row mem l
          | false => updOf row mem l
        | none => updOf row mem l
      | false => updOf row mem l
    | none => updOf row mem l
def killOf (row : Nat → Option Row) (mem : List Row) : List Nat → List Nat
  | [] => []
  | i :: l => match row i with
    | some r => match ownKind r with
      | true => match mem[i]? with
        | some r' => match ownKind r' with
          | true => killOf row mem l
          | false => i :: killOf row mem l
        | none => i :: killOf row mem l
      | false => killOf row mem l
    | none => killOf row mem l
/-- A call that may turn what it is handed, wherever it stands. -/
def drawRW (rc : Rc) (row : Nat → Option Row) (m : Nat) (f : FuncId) (args : List SV) : OR := match reachL 10000 row (SV.idxs args) [] with
  | see => match rwRows row see m 0 with
    | rows => match allB (fun r => ltAll m r.idx) rows && (allB (fun s => ltAll m s.idx) args && ltAll m see) with
      | true => match rc f args rows with
        | some r => match !r.pan && allB ownRow (r.mem.drop m) with
          | true => some (⟨see, updOf row r.mem see, killOf row r.mem see, r.mem.drop m, r.s⟩, none)
          | false => none
        | none => none
      | false => none
section
variable {P : Program} {b : Base} {β β' : Env} {W W' : World} {row : Nat → Option Row} {m : Nat}
theorem rwRows_get {see : List Nat} : ∀ {k i j : Nat} {r : Row}, (rwRows row see k i)[j]? = some r → r = rwRow row see (i + j) ∧ j < k
  | 0, i, j, r, h => by simp [rwRows] at h
  | k + 1, i, 0, r, h => by
    simp only [rwRows, List.getElem?_cons_zero, Option.some.injEq] at h
    exact ⟨h.symm, Nat.succ_pos k⟩
  | k + 1, i, j + 1, r, h => by
    rw [rwRows, List.getElem?_cons_succ] at h
    obtain ⟨h1, h2⟩ := rwRows_get h
    exact ⟨by rw [h1, show i + 1 + j = i + (j + 1) by omega], Nat.succ_lt_succ h2⟩
theorem rwRows_length {see : List Nat} : ∀ {k i : Nat}, (rwRows row see k i).length = k
  | 0, _ => rfl
  | k + 1, i => by rw [rwRows, List.length_cons, rwRows_length]
/-- The blocks of the rows that are seen. -/
def Feet (β : Env) (row : Nat → Option Row) (see : List Nat) (k : Nat) : Prop := ∃ i ∈ see, ∃ r, row i = some r ∧ foot β i r k
theorem feet_cg {see : List Nat} (hs : See b β W row see) {W' : World} (hc : Cg (Feet β row see) W W') : Cg b.S b.w W' :=
  hs.cg.seq hc fun k ⟨i, hi, r, hr, hk⟩ => hs.new i hi r k hr hk
theorem held_rw {see : List Nat} {i : Nat} {r : Row} (hs : See b β W row see) (h : Held b β W i r) : Held ⟨W, Feet β row see⟩ β W i r := by
  cases r with
  | c g ty cs => exact h
  | k ty cs => exact fun W' hW => h W' (feet_cg hs hW)
  | s ty size n xs => exact h
  | r size n xs => exact fun W' hW => h W' (feet_cg hs hW)
  | o t x => exact h
  | q t x => exact fun W' hW => h W' (feet_cg hs hW)
  | sw ty size n l => exact h
  | sr size n l => exact fun W' hW => h W' (feet_cg hs hW)
  | mo es => exact h
  | mr es => exact fun W' hW => h W' (feet_cg hs hW)
  | mu es => exact h
  | mv es => exact fun W' hW => h W' (feet_cg hs hW)
  | ho x => exact h
  | hr x => exact fun W' hW => h W' (feet_cg hs hW)
  | mi cur es => exact h
  | z => exact h
  | d => trivial
theorem held_kind {b' : Base} {w : World} {i : Nat} {r : Row} (h : Held b β w i r) (hr : ownKind r = true) : Held b' β w i r := by
  cases r with
  | k _ _ => cases hr
  | r _ _ _ => cases hr
  | q _ _ => cases hr
  | sr _ _ _ => cases hr
  | mr _ => cases hr
  | mv _ => cases hr
  | hr _ => cases hr
  | _ => exact h
theorem foot_kind {i k : Nat} {r : Row} (h : foot β i r k) : ownKind r = true := by
  cases r <;> first | rfl | exact h.elim
theorem updOf_mem {mem : List Row} : ∀ {l : List Nat} {q : Nat × Row}, q ∈ updOf row mem l → q.1 ∈ l ∧ mem[q.1]? = some q.2 ∧ ownKind q.2 = true
  | [], q, h => by cases h
  | i :: l, q, h => by
    unfold updOf at h
    have rec_ : q ∈ updOf row mem l → q.1 ∈ i :: l ∧ mem[q.1]? = some q.2 ∧ ownKind q.2 = true := fun h => by
      obtain ⟨h1, h2⟩ := updOf_mem h
      exact ⟨List.mem_cons_of_mem _ h1, h2⟩
    split at h
    · split at h
      · split at h
        · split at h
          · rename_i r' hr' _ ho
            rcases List.mem_cons.1 h with rfl | h
            · exact ⟨List.mem_cons_self .., hr', ho⟩
            · exact rec_ h
          · exact rec_ h
        · exact rec_ h
      · exact rec_ h
    · exact rec_ h
theorem touched {mem : List Row} : ∀ {l : List Nat} {i : Nat} {r : Row}, i ∈ l → row i = some r → ownKind r = true → i ∈ (updOf row mem l).map (·.1) ∨ i ∈ killOf row mem l
  | j :: l, i, r, h, hr, ho => by
    unfold updOf killOf
    rcases List.mem_cons.1 h with rfl | h
    · rw [hr]
      simp only
      rw [ho]
      simp only
      split
      · split
        · exact .inl (List.mem_cons_self ..)
        · exact .inr (List.mem_cons_self ..)
      · exact .inr (List.mem_cons_self ..)
    · have := touched (mem := mem) h hr ho
      split
      · split
        · split
          · split
            · exact this.imp (List.mem_cons_of_mem _) id
            · exact this.imp id (List.mem_cons_of_mem _)
          · exact this.imp id (List.mem_cons_of_mem _)
        · exact this
      · exact this
theorem roRows_get {see : List Nat} : ∀ {k i j : Nat} {r : Row}, (roRows row see k i)[j]? = some r → r = roRow row see (i + j) ∧ j < k
  | 0, i, j, r, h => by simp [roRows] at h
  | k + 1, i, 0, r, h => by
    simp only [roRows, List.getElem?_cons_zero, Option.some.injEq] at h
    exact ⟨h.symm, Nat.succ_pos k⟩
  | k + 1, i, j + 1, r, h => by
    rw [roRows, List.getElem?_cons_succ] at h
    obtain ⟨h1, h2⟩ := roRows_get h
    exact ⟨by rw [h1, show i + 1 + j = i + (j + 1) by omega], Nat.succ_lt_succ h2⟩
theorem roRows_length {see : List Nat} : ∀ {k i : Nat}, (roRows row see k i).length = k
  | 0, _ => rfl
  | k + 1, i => by rw [roRows, List.length_cons, roRows_length]
theorem foot_ro {i k : Nat} {r : Row} : ¬ foot β i (toRO r) k := by
  cases r <;> exact id
theorem held_ro {i : Nat} {r : Row} (h : Held b β W i r) (hc : Cg b.S b.w W) : Held ⟨W, No⟩ β W i (toRO r) := by
  cases r with
  | c g ty cs => exact fun W' hW => hW.blk h.2 (fun hh => hh)
  | k ty cs => exact fun W' hW => h W' (hc.seq hW fun _ hh => hh.elim)
  | s ty size n xs => exact fun W' hW => Rd.of_own (hW.own h.1 fun k _ hk => hk) h.2.2
  | r size n xs => exact fun W' hW => h W' (hc.seq hW fun _ hh => hh.elim)
  | o t x => exact fun W' hW => ⟨β.F i, (pred t x).cg h hW fun _ _ hh => hh⟩
  | q t x => exact fun W' hW => h W' (hc.seq hW fun _ hh => hh.elim)
  | sw ty size n l => exact fun W' hW => Rd.of_own (hW.own h.1 fun k _ hk => hk) h.2.2
  | sr size n l => exact fun W' hW => h W' (hc.seq hW fun _ hh => hh.elim)
  | mo es => exact fun W' hW => MapIs.cg h hW fun hh => hh
  | mr es => exact fun W' hW => h W' (hc.seq hW fun _ hh => hh.elim)
  | mu es => exact fun W' hW => MapU.cg h hW fun hh => hh
  | mv es => exact fun W' hW => h W' (hc.seq hW fun _ hh => hh.elim)
  | ho x => exact fun W' hW => ObIs.cg h hW fun hh => hh
  | hr x => exact fun W' hW => h W' (hc.seq hW fun _ hh => hh.elim)
  | mi cur es => trivial
  | z => exact h
  | d => trivial
theorem roRow_ok {see : List Nat} {i : Nat} (hs : See b β W row see) : Held ⟨W, No⟩ β W i (roRow row see i) ∧ ∀ k, ¬ foot β i (roRow row see i) k := by
  unfold roRow
  split
  · rename_i hm
    split
    · rename_i r hr
      exact ⟨held_ro (hs.held i (memN_iff.1 hm) r hr) hs.cg, fun k => foot_ro⟩
    · exact ⟨trivial, fun k hk => hk⟩
  · exact ⟨trivial, fun k hk => hk⟩
/-- The rows that are new, said of the same world from another door. -/
theorem ro_epost {see : List Nat} {mem : List Row} {sv : SV} {len : Nat} (hlen : len = mem.length) (h1 : RowsOk ⟨W, No⟩ β' W' mem) (h2 : Wf mem) (h3 : Ext β β' m len) (h4 : ∀ i ∈ sv.idx, i < len) (h5 : allB ownRow (mem.drop m) = true) : EPost b β W row m ⟨see, [], [], mem.drop m, sv⟩ (sv.den β') W' := by
  have hm := h3.le
  have hnew : (mem.drop m).length = len - m := by rw [List.length_drop, hlen]
  let β2 : Env := ⟨fun i => if m ≤ i ∧ i < len then β'.b i else β.b i, fun i => if m ≤ i ∧ i < len then β'.v i else β.v i, fun i => if m ≤ i ∧ i < len then β'.F i else β.F i⟩
  have out : ∀ i, (i < m ∨ len ≤ i) → ¬ (m ≤ i ∧ i < len) := fun i hi hh => by omega
  have at2 : ∀ i, i < len → β'.at β2 i := fun i hi => by
    by_cases hmi : m ≤ i ∧ i < len
    · exact ⟨by show β'.b i = if _ then _ else _; rw [if_pos hmi], by show β'.v i = if _ then _ else _; rw [if_pos hmi]⟩
    · have hlt : i < m := by omega
      obtain ⟨h6, _⟩ := h3 i hlt
      exact ⟨by show β'.b i = if _ then _ else _; rw [if_neg hmi, h6.1], by show β'.v i = if _ then _ else _; rw [if_neg hmi, h6.2]⟩
  have F2 : ∀ i, m ≤ i → i < len → β'.F i = β2.F i := fun i h h' => by show β'.F i = if _ then _ else _; rw [if_pos ⟨h, h'⟩]
  have fr : ∀ {q : Nat × Row}, Eff.fresh ⟨see, [], [], mem.drop m, sv⟩ m q → m ≤ q.1 ∧ q.1 < len ∧ mem[q.1]? = some q.2 := by
    rintro q (hq | ⟨k, hk, hq⟩)
    · cases hq
    · rw [List.getElem?_drop] at hk
      rw [hq]
      exact ⟨by omega, by rw [hlen]; exact (List.getElem?_eq_some_iff.1 hk).1, hk⟩
  have ft : ∀ {i : Nat} {r : Row}, m ≤ i → i < len → foot β2 i r = foot β' i r := fun h h' => (foot_congr (at2 _ h') (F2 _ h h')).symm
  refine ⟨β2, den_congr sv fun i hi => at2 i (h4 i hi), ⟨?_, ?_, ?_, ?_, ?_, ?_⟩⟩
  · intro i hi
    rw [hnew] at hi
    have hn := out i (by omega)
    exact ⟨by show β.b i = if _ then _ else _; rw [if_neg hn], by show β.v i = if _ then _ else _; rw [if_neg hn]⟩
  · intro i hi _
    rw [hnew] at hi
    have hn := out i (by omega)
    show β.F i = if _ then _ else _
    rw [if_neg hn]
  · intro q hq
    obtain ⟨q1, q2, q3⟩ := fr hq
    have hown := allB_spec h5 q.2 (by
      rw [List.mem_iff_getElem?]
      exact ⟨q.1 - m, by rw [List.getElem?_drop, show m + (q.1 - m) = q.1 by omega]; exact q3⟩)
    have hh : Held b β' W' q.1 q.2 := held_own (h1.held q.1 q.2 q3) hown
    exact Held.congr (at2 _ q2) (F2 _ q1 q2) (fun j hj => at2 j (by rw [hlen]; exact h2 q.1 q.2 q3 j hj)) hh
  · intro q hq x hx
    obtain ⟨q1, q2, q3⟩ := fr hq
    rw [ft q1 q2] at hx
    exact .inr ((h1.new q.1 q.2 x q3 hx).resolve_left fun hh => hh)
  · intro q q' x hq hq' hx hx'
    obtain ⟨q1, q2, q3⟩ := fr hq
    obtain ⟨q1', q2', q3'⟩ := fr hq'
    rw [ft q1 q2] at hx
    rw [ft q1' q2'] at hx'
    exact h1.inj q.1 q'.1 q.2 q'.2 x q3 q3' hx hx'
  · exact h1.cg.mono fun k hk => hk.elim
theorem drawRO_ok {rc : Rc} {f : FuncId} {args : List SV} {g : Eff} {ob : Option Prop} (hrc : ∀ S' : Nat → Prop, (∀ k, S' k → b.S k ∨ b.w.heap.size ≤ k) → RcOk P ⟨W, S'⟩ rc) (h : drawRO rc row m f args = some (g, ob)) (hs : See b β W row g.see) : okFn P f = true ∧ Calls P f (SV.dens β args).toArray W fun e W' => ∃ v, e = .returned v ∧ EPost b β W row m g v W' := by
  unfold drawRO at h
  simp only at h
  split at h
  · rename_i hb
    rw [Bool.and_eq_true] at hb
    split at h
    · rename_i r hr
      split at h
      · rename_i hb2
        rw [Bool.and_eq_true] at hb2
        cases h
        obtain ⟨hf, hc⟩ := hrc No (fun _ hh => hh.elim) f args _ r hr
        refine ⟨hf, ?_⟩
        have hget := fun (i : Nat) (q : Row) (hi : (roRows row (reachL 10000 row (SV.idxs args) []) m 0)[i]? = some q) => (roRows_get hi)
        have hrows : RowsOk ⟨W, No⟩ β W (roRows row (reachL 10000 row (SV.idxs args) []) m 0) := by
          refine ⟨fun i q hi => ?_, fun i q k hi hk => ?_, fun i j q q' k hi hj hk hk' => ?_, Cg.refl _ _⟩
          · obtain ⟨rfl, _⟩ := hget i q hi
            rw [Nat.zero_add]
            exact (roRow_ok hs).1
          · obtain ⟨rfl, _⟩ := hget i q hi
            rw [Nat.zero_add] at hk
            exact absurd hk ((roRow_ok hs).2 k)
          · obtain ⟨rfl, _⟩ := hget i q hi
            rw [Nat.zero_add] at hk
            exact absurd hk ((roRow_ok hs).2 k)
        refine (hc β W hrows ?_ ?_).mono fun e W' he => ?_
        · intro i q hi j hj
          rw [roRows_length]
          exact ltAll_spec (allB_spec hb.1 q (List.mem_of_getElem? hi)) j hj
        · intro s hs' j hj
          rw [roRows_length]
          exact ltAll_spec (allB_spec hb.2 s hs') j hj
        · obtain ⟨β', h1, h2, h3, h4, rfl⟩ := he
          rw [roRows_length] at h3
          have hpan : r.pan = false := by
            cases hp : r.pan with
            | true => rw [hp] at hb2; exact absurd hb2.1 (by decide)
            | false => rfl
          exact ⟨_, by unfold endC; rw [hpan], ro_epost rfl h1 h2 h3 h4 hb2.2⟩
      · cases h
    · cases h
  · cases h
/-- The rows that were turned, and those that are new, said of the same world from another door. -/
theorem rw_epost {see : List Nat} {mem : List Row} {sv : SV} {len : Nat} (hlen : len = mem.length) (hsee : ltAll m see = true) (h1 : RowsOk ⟨W, Feet β row see⟩ β' W' mem) (h2 : Wf mem) (h3 : Ext β β' m len) (h4 : ∀ i ∈ sv.idx, i < len) (h5 : allB ownRow (mem.drop m) = true) : EPost b β W row m ⟨see, updOf row mem see, killOf row mem see, mem.drop m, sv⟩ (sv.den β') W' := by
  have hm := h3.le
  have hnew : (mem.drop m).length = len - m := by rw [List.length_drop, hlen]
  have hU : ∀ i, i ∈ (updOf row mem see).map (·.1) → i < m := fun i hi => by
    obtain ⟨q, hq, rfl⟩ := List.mem_map.1 hi
    exact ltAll_spec hsee q.1 (updOf_mem hq).1
  let In (i : Nat) : Prop := (m ≤ i ∧ i < len) ∨ i ∈ (updOf row mem see).map (·.1)
  have dec : ∀ i, Decidable (In i) := fun i => inferInstance
  let β2 : Env := ⟨fun i => if m ≤ i ∧ i < len then β'.b i else β.b i, fun i => if m ≤ i ∧ i < len then β'.v i else β.v i, fun i => @ite _ (In i) (dec i) (β'.F i) (β.F i)⟩
  have at2 : ∀ i, i < len → β'.at β2 i := fun i hi => by
    by_cases hmi : m ≤ i ∧ i < len
    · exact ⟨by show β'.b i = if _ then _ else _; rw [if_pos hmi], by show β'.v i = if _ then _ else _; rw [if_pos hmi]⟩
    · have hlt : i < m := by omega
      obtain ⟨h6, _⟩ := h3 i hlt
      exact ⟨by show β'.b i = if _ then _ else _; rw [if_neg hmi, h6.1], by show β'.v i = if _ then _ else _; rw [if_neg hmi, h6.2]⟩
  have F2 : ∀ i, In i → β'.F i = β2.F i := fun i h => by show β'.F i = @ite _ (In i) (dec i) _ _; rw [if_pos h]
  have fr : ∀ {q : Nat × Row}, Eff.fresh ⟨see, updOf row mem see, killOf row mem see, mem.drop m, sv⟩ m q → In q.1 ∧ q.1 < len ∧ mem[q.1]? = some q.2 ∧ ownKind q.2 = true ∨ In q.1 ∧ q.1 < len ∧ mem[q.1]? = some q.2 ∧ ownRow q.2 = true := by
    rintro q (hq | ⟨k, hk, hq⟩)
    · obtain ⟨_, q2, q3⟩ := updOf_mem hq
      exact .inl ⟨.inr (List.mem_map_of_mem hq), by have := hU q.1 (List.mem_map_of_mem hq); omega, q2, q3⟩
    · have hmem : ownRow q.2 = true := allB_spec h5 q.2 (List.mem_of_getElem? hk)
      rw [List.getElem?_drop] at hk
      have hl := (List.getElem?_eq_some_iff.1 hk).1
      refine .inr ⟨.inl ⟨by omega, by omega⟩, by omega, by rw [hq]; exact hk, hmem⟩
  have fr1 : ∀ {q : Nat × Row}, Eff.fresh ⟨see, updOf row mem see, killOf row mem see, mem.drop m, sv⟩ m q → In q.1 ∧ q.1 < len ∧ mem[q.1]? = some q.2 := fun h => by
    rcases fr h with ⟨a, b, c, _⟩ | ⟨a, b, c, _⟩ <;> exact ⟨a, b, c⟩
  have ft : ∀ {i : Nat} {r : Row}, In i → i < len → foot β2 i r = foot β' i r := fun h h' => (foot_congr (at2 _ h') (F2 _ h)).symm
  have tu : ∀ k, Feet β row see k → Turned β row ⟨see, updOf row mem see, killOf row mem see, mem.drop m, sv⟩ k := by
    rintro k ⟨i, hi, r, hr, hk⟩
    exact ⟨i, r, touched hi hr (foot_kind hk), hr, hk⟩
  refine ⟨β2, den_congr sv fun i hi => at2 i (h4 i hi), ⟨?_, ?_, ?_, ?_, ?_, ?_⟩⟩
  · intro i hi
    rw [hnew] at hi
    have hn : ¬ (m ≤ i ∧ i < len) := by omega
    exact ⟨by show β.b i = if _ then _ else _; rw [if_neg hn], by show β.v i = if _ then _ else _; rw [if_neg hn]⟩
  · intro i hi hu
    rw [hnew] at hi
    have hn : ¬ In i := by
      rintro (h | h)
      · omega
      · exact hu h
    show β.F i = @ite _ (In i) (dec i) _ _
    rw [if_neg hn]
  · intro q hq
    have hh : In q.1 ∧ q.1 < len ∧ mem[q.1]? = some q.2 ∧ Held b β' W' q.1 q.2 := by
      rcases fr hq with ⟨q1, q2, q3, q4⟩ | ⟨q1, q2, q3, q4⟩
      · exact ⟨q1, q2, q3, held_kind (h1.held q.1 q.2 q3) q4⟩
      · exact ⟨q1, q2, q3, held_own (h1.held q.1 q.2 q3) q4⟩
    obtain ⟨q1, q2, q3, hh⟩ := hh
    exact Held.congr (at2 _ q2) (F2 _ q1) (fun j hj => at2 j (by rw [hlen]; exact h2 q.1 q.2 q3 j hj)) hh
  · intro q hq x hx
    obtain ⟨q1, q2, q3⟩ := fr1 hq
    rw [ft q1 q2] at hx
    exact (h1.new q.1 q.2 x q3 hx).imp (tu x) id
  · intro q q' x hq hq' hx hx'
    obtain ⟨q1, q2, q3⟩ := fr1 hq
    obtain ⟨q1', q2', q3'⟩ := fr1 hq'
    rw [ft q1 q2] at hx
    rw [ft q1' q2'] at hx'
    exact h1.inj q.1 q'.1 q.2 q'.2 x q3 q3' hx hx'
  · exact h1.cg.mono fun k hk => .inl (tu k hk)
theorem drawRW_ok {rc : Rc} {f : FuncId} {args : List SV} {g : Eff} {ob : Option Prop} (hrc : ∀ S' : Nat → Prop, (∀ k, S' k → b.S k ∨ b.w.heap.size ≤ k) → RcOk P ⟨W, S'⟩ rc) (h : drawRW rc row m f args = some (g, ob)) (hs : See b β W row g.see) : okFn P f = true ∧ Calls P f (SV.dens β args).toArray W fun e W' => ∃ v, e = .returned v ∧ EPost b β W row m g v W' := by
  unfold drawRW at h
  simp only at h
  split at h
  · rename_i hb
    rw [Bool.and_eq_true, Bool.and_eq_true] at hb
    split at h
    · rename_i r hr
      split at h
      · rename_i hb2
        rw [Bool.and_eq_true] at hb2
        cases h
        obtain ⟨see, hsee⟩ : ∃ see, reachL 10000 row (SV.idxs args) [] = see := ⟨_, rfl⟩
        rw [hsee] at hb hr hs ⊢
        obtain ⟨hf, hc⟩ := hrc (Feet β row see) (fun k ⟨i, hi, r, hr, hk⟩ => hs.new i hi r k hr hk) f args _ r hr
        refine ⟨hf, ?_⟩
        have hget := fun (i : Nat) (q : Row) (hi : (rwRows row see m 0)[i]? = some q) => (rwRows_get hi)
        have hrow : ∀ {i : Nat} {q : Row}, (rwRows row see m 0)[i]? = some q → q = .d ∨ (i ∈ see ∧ row i = some q) := by
          intro i q hi
          obtain ⟨rfl, _⟩ := hget i q hi
          rw [Nat.zero_add]
          unfold rwRow
          split
          · rename_i hm
            split
            · rename_i r hr
              exact .inr ⟨memN_iff.1 hm, hr⟩
            · exact .inl rfl
          · exact .inl rfl
        have hrows : RowsOk ⟨W, Feet β row see⟩ β W (rwRows row see m 0) := by
          refine ⟨fun i q hi => ?_, fun i q k hi hk => ?_, fun i j q q' k hi hj hk hk' => ?_, Cg.refl _ _⟩
          · rcases hrow hi with rfl | ⟨h1, h2⟩
            · trivial
            · exact held_rw hs (hs.held i h1 q h2)
          · rcases hrow hi with rfl | ⟨h1, h2⟩
            · exact hk.elim
            · exact .inl ⟨i, h1, q, h2, hk⟩
          · rcases hrow hi with rfl | ⟨h1, h2⟩
            · exact hk.elim
            · rcases hrow hj with rfl | ⟨h3, h4⟩
              · exact hk'.elim
              · exact hs.inj i h1 j h3 q q' k h2 h4 hk hk'
        refine (hc β W hrows ?_ ?_).mono fun e W' he => ?_
        · intro i q hi j hj
          rw [rwRows_length]
          exact ltAll_spec (allB_spec hb.1 q (List.mem_of_getElem? hi)) j hj
        · intro s hs' j hj
          rw [rwRows_length]
          exact ltAll_spec (allB_spec hb.2.1 s hs') j hj
        · obtain ⟨β', h1, h2, h3, h4, rfl⟩ := he
          rw [rwRows_length] at h3
          have hpan : r.pan = false := by
            cases hp : r.pan with
            | true => rw [hp] at hb2; exact absurd hb2.1 (by decide)
            | false => rfl
          exact ⟨_, by unfold endC; rw [hpan], rw_epost rfl hb.2.2 h1 h2 h3 h4 hb2.2⟩
      · cases h
    · cases h
  · cases h
end
/-- A table, and behind it calls that are gone through. -/
def autoT {P : Program} (T0 : Tab P) (rc : Rc) (hrc : ∀ b, RcOk P b rc) : Tab P where
  t := fun b row m f args => match T0.t b row m f args with
    | some r => some r
    | none => orElseR (drawRO rc row m f args) (drawRW rc row m f args)
  ok := fun b row m f args g ob h hob β W hs => by
    split at h
    · rename_i r hr
      cases h
      exact T0.ok b row m f args g ob hr hob β W hs
    · rcases orElse_cases h with h | h
      · exact drawRO_ok (fun _ _ => hrc _) h hs
      · exact drawRW_ok (fun _ _ => hrc _) h hs
/-- A table that does not hang on the door, whether it knows a call or not. -/
def Tab.Free2 {P : Program} (T : Tab P) : Prop := ∀ b b' row m f args, T.t b row m f args = T.t b' row m f args
theorem Tab.Free2.free {P : Program} {T : Tab P} (h : T.Free2) : T.Free := fun b b' row m f args g hg => by rw [← h b b']; exact hg
theorem autoT_free {P : Program} {T0 : Tab P} (h : T0.Free2) {rc : Rc} {hrc : ∀ b, RcOk P b rc} : (autoT T0 rc hrc).Free2 := fun b b' row m f args => by
  show (match T0.t b row m f args with
    | some r => some r
    | none => orElseR (drawRO rc row m f args) (drawRW rc row m f args)) = _
  rw [h b b']
  rfl
theorem nil_free {P : Program} : (Tab.nil P).Free2 := fun _ _ _ _ _ _ => rfl
end Ax
end Go.Proofs.YtcpbbgkeigbndaaGreat
