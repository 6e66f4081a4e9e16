/- What the closed runs of this statement lean on: package variables, errors.As, ParseUint. -/
import Derived.Test.YtmjmnigiegadiaaGreatDoorGr13
import Derived.Lib.SplitLaws
import Derived.Test.YtmjmnigiegadiaaGreatDoorGr07
import Derived.Test.YtmjmnigiegadiaaGreatDoorProg
namespace Go.Proofs.YtmjmnigiegadiaaGreatDoor
open Go Go.RowKit Go.Lib Go.Sort Ax
set_option maxRecDepth 100000
theorem hmT : Tryz.prog.follows .mixedOrders = true := by kernel_rfl
theorem hNT : noNum Tryz.prog = true := by kernel_rfl
def powL : List Value := [.int .u64 1, .int .u64 10, .int .u64 100, .int .u64 1000, .int .u64 10000, .int .u64 100000, .int .u64 1000000, .int .u64 10000000, .int .u64 100000000, .int .u64 1000000000, .int .u64 10000000000, .int .u64 100000000000, .int .u64 1000000000000, .int .u64 10000000000000, .int .u64 100000000000000, .int .u64 1000000000000000, .int .u64 10000000000000000, .int .u64 100000000000000000, .int .u64 1000000000000000000, .int .u64 10000000000000000000]
def Lt (v7 v8 : Nat × Value) : Lay := [(0, [.iface 141 (.agg #[.pointer (some ⟨9, 31, none⟩)])]), (2, powL), (7, [.iface v7.1 v7.2]), (8, [.iface v8.1 v8.2])]
def asX : List SV → (Nat → Option Row) → Nat → Option Eff
  | [.v .nilIface, _], _, _ => some (.pure [] (.v (.bool false)))
  | [.ifc 52 (.p i 0), .ifc 61 (.p j 0)], row, _ => match row j with
    | some (.c g 52 cs) => match cs.svs with
      | [_] => some ⟨[j], [(j, .c g 52 (.ss [.p i 0]))], [], [], .v (.bool true)⟩
      | _ => none
    | _ => none
  | _, _, _ => none
theorem as_ok {v7 v8 : Nat × Value} : CallOk Tryz.prog (LayOk (Lt v7 v8)) 12 asX := by
  intro b hb args row m g h β W hs
  unfold asX at h
  split at h
  · cases h
    exact (as_nil _ W).mono fun e w' ⟨he, hw⟩ => ⟨_, he, by rw [hw]; exact epost_pure (sv := .v (.bool false)) (Cg.refl _ _)⟩
  · rename_i i j
    split at h
    · rename_i g' cs hrow
      split at h
      · rename_i old hcs
        cases h
        have hB : Blk W (β.b j) 52 (cs.den β) := (hs.held j (by simp) _ hrow).2
        have hden : cs.den β = [old.den β] := by rw [← svs_den, hcs]; rfl
        rw [hden] at hB
        obtain ⟨h1, h2, h3⟩ := hb (0, [.iface 141 (.agg #[.pointer (some ⟨9, 31, none⟩)])]) (List.mem_cons_self ..)
        have hg : W.cell? ⟨0, 0, none⟩ = some (.iface 141 (.agg #[.pointer (some ⟨9, 31, none⟩)])) := (hs.cg.cell (p := ⟨0, 0, none⟩) h1 h2).trans (h3 0 _ rfl)
        refine (as_hit ⟨β.b i, 0, none⟩ ⟨β.b j, 0, none⟩ (old.den β) W hg (hB.cell_of rfl) (hB.frozen 0)).mono fun e w' ⟨he, hw⟩ => ⟨_, he, β, rfl, post_upd hrow (fun k hk => hk) ?_ ?_⟩
        · refine ⟨(hs.held j (by simp) _ hrow).1, ?_⟩
          show Blk w' (β.b j) 52 [.pointer (some ⟨β.b i, 0, none⟩)]
          rw [hw]
          refine Blk.set_ (cs := [old.den β]) ?_ 0 _
          exact (((hB.alloc _).alloc _).alloc _).alloc _
        · have : Cg No W ((((W.alloc (.cells #[.pointer (some ⟨β.b j, 0, none⟩)] 61)).alloc (.cells #[.pointer (some ⟨9, 61, none⟩), .pointer (some ⟨W.heap.size, 0, none⟩), .int .u64 150] 81)).alloc (.cells #[.pointer (some ⟨9, 61, none⟩), .pointer (some ⟨W.heap.size, 0, none⟩), .int .u64 150] 81)).alloc (.cells #[.pointer (some ⟨β.b i, 0, none⟩)] 52)) := Cg.of (L := []) (((((Chg.refl [] W).alloc _).alloc _).alloc _).alloc _) (by simp)
          rw [hw]
          exact (this.mono fun k hk => hk.elim).trans ⟨rfl, rfl, rfl, by simp [World.setCell], fun k _ hk => Below.heap_setCell _ ⟨β.b j, 0, none⟩ _ k hk⟩
      · cases h
    · cases h
  · cases h
def puX : List SV → (Nat → Option Row) → Nat → Option Eff
  | [.v (.string s), .v (.int .i64 10), .v (.int .i64 64)], _, _ => match Nat.beq s.size 0 with
    | true => some (.pure [] (.v (.tuple #[.int .u64 0, .iface 245 (.int .i64 2)])))
    | false => match Nat.ble s.size 100000 with
      | true => some (.pure [] (.v (Lib.uintTuple 245 (Lib.parseUint10 0 s.data.toList))))
      | false => none
  | _, _, _ => none
theorem pu_ok {v7 v8 : Nat × Value} : CallOk Tryz.prog (LayOk (Lt v7 v8)) 169 puX := by
  intro b hb args row m g h β W hs
  unfold puX at h
  split at h
  · rename_i s
    split at h
    · rename_i h0
      have h0 := Nat.eq_of_beq_eq_true h0
      have ht : s = ⟨#[]⟩ := by
        obtain ⟨⟨l⟩⟩ := s
        cases l with
        | nil => rfl
        | cons _ _ => simp [ByteArray.size] at h0
      subst ht
      cases h
      exact (Tryz.internal_strconv_ParseUint_empty 10 64 W).mono fun e w' ⟨he, hw⟩ => ⟨_, he, by rw [hw]; exact epost_pure (sv := .v _) (Cg.refl _ _)⟩
    · rename_i h0
      split at h
      · rename_i hn
        cases h
        have h1 : s.size ≠ 0 := fun hh => by rw [hh] at h0; cases h0
        have h2 : s.size ≤ 9223372036854775806 := by have := Nat.le_of_ble_eq_true hn; omega
        refine (Tryz.internal_strconv_ParseUint_10_b64 s h1 h2 W).mono fun e w' ⟨he, hw⟩ => ⟨_, he, ?_⟩
        rw [hw]
        exact epost_pure (sv := .v _) ⟨rfl, rfl, rfl, by rw [Lib.bytesWorld_size]; omega, fun k hk _ => Lib.bytesWorld_at_old W 5 s k hk⟩
      · cases h
  · cases h
def clX : List SV → (Nat → Option Row) → Nat → Option Eff
  | [.v (.string s)], _, _ => match Nat.ble s.size 100000 with
    | true => some (.pure [] (.v (.string s)))
    | false => none
  | _, _, _ => none
theorem cl_ok {v7 v8 : Nat × Value} : CallOk Tryz.prog (LayOk (Lt v7 v8)) 188 clX := by
  intro b hb args row m g h β W hs
  unfold clX at h
  split at h
  · rename_i s
    split at h
    · rename_i hn
      cases h
      have h2 := Nat.le_of_ble_eq_true hn
      exact (Tryz.stringslite_Clone s W (by omega)).mono fun e w' ⟨he, hw⟩ => ⟨_, he, epost_pure (sv := .v _) (Cg.of (Chg.of_below hw) (by simp))⟩
    · cases h
  · cases h
theorem ks47 : (flatT Tryz.prog 6 47).isSome = true := by kernel_rfl
noncomputable def stL : List (StT Tryz.prog) := [⟨47, (flatT Tryz.prog 6 47).getD [], by kernel_rfl, by kernel_rfl, by kernel_rfl, by kernel_rfl⟩]
/-- The calls ahead of the others. -/
noncomputable def XA (v7 v8 : Nat × Value) : Xop Tryz.prog (LayOk (Lt v7 v8)) := .or (.call 12 asX (by kernel_rfl) as_ok) (.or (.call 169 puX (by kernel_rfl) pu_ok) (.call 188 clX (by kernel_rfl) cl_ok))
/-- The operations ahead of the others, with what has been reckoned. -/
noncomputable def XM (v7 v8 : Nat × Value) (L : List (Memo Tryz.prog (LayOk (Lt v7 v8)))) : Xop Tryz.prog (LayOk (Lt v7 v8)) := .sel (.or (.memo (Lay.grd (Lt v7 v8)) L) (XA v7 v8)) (Lay.op _ (Lt v7 v8)) (.st stL)
end Go.Proofs.YtmjmnigiegadiaaGreatDoor

/- A text of newlines alone: how Split cuts it; what the reading of an empty line comes to. -/
namespace Go.Proofs.YtmjmnigiegadiaaGreatDoor
open Go Go.RowKit Go.Lib Go.Sort Ax
set_option maxRecDepth 100000
def nlB (n : Nat) : ByteArray := ⟨(List.replicate n (10 : UInt8)).toArray⟩
theorem nl_list (n : Nat) : (nlB n).data.toList = List.replicate n 10 := rfl
theorem nl_size (n : Nat) : (nlB n).size = n := by
  show (List.replicate n (10 : UInt8)).toArray.size = n
  simp
theorem index_nl (l : List UInt8) : Lib.index (10 :: l) [10] = 0 := by
  unfold Lib.index
  rw [if_pos (by rfl)]
theorem splitK_nl : ∀ n, Lib.splitK [10] 0 n (List.replicate n 10) = List.replicate (n + 1) []
  | 0 => rfl
  | n + 1 => by
    rw [List.replicate_succ, Lib.splitK, index_nl, if_neg (by decide), List.replicate_succ, ← splitK_nl n]
    rfl
theorem split_nl (n : Nat) : (Lib.splitB ⟨#[10]⟩ 0 n (nlB n)).map Value.string = List.replicate (n + 1) (.string ⟨#[]⟩) := by
  have h := Lib.splitB_data ⟨#[10]⟩ 0 n (nlB n)
  rw [nl_list, show (⟨#[10]⟩ : ByteArray).data.toList = [10] from rfl, splitK_nl] at h
  have hl : (Lib.splitB ⟨#[10]⟩ 0 n (nlB n)).length = n + 1 := by have := congrArg List.length h; simpa using this
  refine List.eq_replicate_iff.2 ⟨by rw [List.length_map, hl], fun v hv => ?_⟩
  obtain ⟨b, hb, rfl⟩ := List.mem_map.1 hv
  have : b.data.toList ∈ List.replicate (n + 1) [] := by rw [← h]; exact List.mem_map.2 ⟨b, hb, rfl⟩
  have h0 := List.eq_of_mem_replicate this
  obtain ⟨⟨l⟩⟩ := b
  have h0 : l = [] := h0
  rw [h0]
theorem count_nl (n : Nat) : Lib.countB (nlB n) ⟨#[10]⟩ = n := by
  show Lib.count (nlB n).data.toList [10] = n
  rw [Lib.count_one, nl_list, List.count_replicate_self]
/-- What Split gives of it, where the table's variable is laid. -/
def SplitIs (b : Base) (s sep : ByteArray) (n : Nat) (em : List Value) : Prop := (∃ m, 1 < b.w.heap.size ∧ ¬ b.S 1 ∧ b.w.cell? ⟨1, 0, none⟩ = some (.int .i64 m)) ∧ s.size < 4294967281 ∧ 1 ≤ sep.size ∧ Lib.countB s sep + 1 = n ∧ (Lib.splitB sep 0 (Lib.countB s sep) s).map Value.string = em ∧ n ≤ 1000000
theorem splitIs_nl {b : Base} {n : Nat} {m : Int} (h1 : 1 < b.w.heap.size) (h2 : ¬ b.S 1) (h3 : b.w.cell? ⟨1, 0, none⟩ = some (.int .i64 m)) (hn : n < 1000000) : SplitIs b (nlB n) ⟨#[10]⟩ (n + 1) (List.replicate (n + 1) (.string ⟨#[]⟩)) :=
  ⟨⟨m, h1, h2, h3⟩, by rw [nl_size]; omega, by decide, by rw [count_nl], by rw [count_nl]; exact split_nl n, hn⟩
theorem own_rt {W W' : World} {ty size n : Nat} {v : Value} {xs : List Value} {e : Ending} (he : e = .returned v) (h : Own W' ty size v n xs) (h1 : ∀ u ∈ xs, u.oneCell' = true) (hk : ∀ k, v.ownBlock = some k → W.heap.size ≤ k) (hc : Cg No W W') : RtPost W ⟨[.s ty size n xs], .o 0⟩ e W' := by
  obtain ⟨A, c, hv, _⟩ := h.form
  refine ⟨⟨fun _ => 0, fun _ => v, fun _ k => v.ownBlock = some k⟩, ?_, fun i r hi => ?_, fun i r k hi hk' => ?_, fun i j r r' k hi hj _ _ => ?_, hc⟩
  · rw [he, hv]; rfl
  · match i, hi with
    | 0, hi =>
      cases hi
      exact ⟨h, fun k => Iff.rfl, h1⟩
  · match i, hi with
    | 0, hi =>
      cases hi
      exact .inr (hk k hk')
  · match i, j, hi, hj with
    | 0, 0, _, _ => rfl
/-- Split, where it is known what it gives. -/
def splT (n : Nat) (em : List Value) (T : Tab Tryz.prog) : Tab Tryz.prog where
  t := fun b row m f args => match Nat.beq f 11 with
    | true => match args with
      | [.v (.string s), .v (.string sep)] => some (rtEff m [] ⟨[.s 9 1 n em], .o 0⟩, some (SplitIs b s sep n em))
      | _ => none
    | false => T.t b row m f args
  ok := fun b row m f args g ob h hob β W hs => by
    cases hb : Nat.beq f 11 with
    | false =>
      rw [hb] at h
      exact T.ok b row m f args g ob h hob β W hs
    | true =>
      rw [hb] at h
      obtain rfl := Nat.eq_of_beq_eq_true hb
      simp only at h
      split at h
      · rename_i s sep
        cases h
        obtain ⟨⟨mm, h1, h2, h3⟩, h4, h5, h6, h7, h8⟩ := hob _ rfl
        refine ⟨by kernel_rfl, ?_⟩
        have hm : W.cell? ⟨1, 0, none⟩ = some (.int .i64 mm) := (hs.cg.cell (p := ⟨1, 0, none⟩) h1 h2).trans h3
        have hlen : em.length = n * 1 := by rw [← h7, List.length_map, Lib.splitB_all sep h5 0 _ s rfl, h6, Nat.mul_one]
        refine (Tryz.strings_Split s sep mm W h4 hm h5).mono fun e W' ⟨he, hw⟩ => rt_epost (own_rt he ?_ (fun u hu => ?_) (fun k hk => ?_) ?_) (by kernel_rfl)
        · rw [hw, h6]
          have := Own.made W 9 1 n n em (Nat.le_refl _) (by unfold maxLen; omega) hlen
          rw [List.take_of_length_le (by omega)] at this
          rw [h7]; exact this
        · rw [← h7] at hu
          obtain ⟨x, _, rfl⟩ := List.mem_map.1 hu
          rfl
        · have : W.heap.size = k := by simpa [Value.ownBlock] using hk
          omega
        · rw [hw]; exact Cg.of ((Chg.refl [] W).alloc _) (by simp)
      · cases h
/-- A call that is known ahead, where something holds of the door. -/
def Tab.known {G : Base → Prop} (T : Tab Tryz.prog) (f : FuncId) (x : List SV → (Nat → Option Row) → Nat → Option Eff) (hf : okFn Tryz.prog f = true) (hx : CallOk Tryz.prog G f x) : Tab Tryz.prog where
  t := fun b row m f' args => match Nat.beq f' f with
    | true => match x args row m with
      | some g => some (g, some (G b))
      | none => none
    | false => T.t b row m f' args
  ok := fun b row m f' args g ob h hob β W hs => by
    cases hb : Nat.beq f' f with
    | false =>
      rw [hb] at h
      exact T.ok b row m f' args g ob h hob β W hs
    | true =>
      rw [hb] at h
      obtain rfl := Nat.eq_of_beq_eq_true hb
      simp only at h
      split at h
      · rename_i g' hg
        cases h
        exact ⟨hf, hx b (hob _ rfl) args row m _ hg β W hs⟩
      · cases h
/-- errors.As of none. -/
def asN : List SV → (Nat → Option Row) → Nat → Option Eff
  | [.v .nilIface, _], _, _ => some (.pure [] (.v (.bool false)))
  | _, _, _ => none
theorem asN_ok : CallOk Tryz.prog (fun _ => True) 12 asN := by
  intro b hb args row m g h β W hs
  unfold asN at h
  split at h
  · cases h
    exact (as_nil _ W).mono fun e w' ⟨he, hw⟩ => ⟨_, he, by rw [hw]; exact epost_pure (sv := .v (.bool false)) (Cg.refl _ _)⟩
  · cases h
/-- An empty line. -/
def oneX : List SV → (Nat → Option Row) → Nat → Option Eff
  | [.v (.string s), .p _ 0, .p _ 0], _, _ => match Nat.beq s.size 0 with
    | true => some (.pure [] (.v .nilIface))
    | false => none
  | _, _, _ => none
noncomputable def M0 : MchG Tryz.prog (Lay.grd []).G := mchG hmT hNT (Lay.grd []) Xop.nil 12
theorem run_one : (M0.rc 13 [.v (.string ⟨#[]⟩), .p 0 0, .p 1 0] [.d, .d]).map (fun r => (r.pan, r.s)) = some (false, .v .nilIface) := by kernel_rfl
theorem oneX_ok : CallOk Tryz.prog (fun _ => True) 13 oneX := by
  intro b hb args row m g h β W hs
  unfold oneX at h
  split at h
  · rename_i s i j
    split at h
    · rename_i h0
      have h0 := Nat.eq_of_beq_eq_true h0
      have ht : s = ⟨#[]⟩ := by
        obtain ⟨⟨l⟩⟩ := s
        cases l with
        | nil => rfl
        | cons _ _ => simp [ByteArray.size] at h0
      subst ht
      cases h
      have h1 := run_one
      obtain ⟨r, hr, h2⟩ := Option.map_eq_some_iff.1 h1
      have hp : r.pan = false := congrArg Prod.fst h2
      have hv : r.s = .v .nilIface := congrArg Prod.snd h2
      have := (M0.ok ⟨W, No⟩ (fun q hq => by cases hq) 13 _ _ r hr).2 ⟨fun k => match k with | 0 => β.b i | _ => β.b j, fun _ => undef, fun _ => No⟩ W
        ⟨fun k r hk => (by match k, hk with | 0, hk => cases hk; trivial | 1, hk => cases hk; trivial), fun k r x hk hx => (by match k, hk with | 0, hk => cases hk; exact hx.elim | 1, hk => cases hk; exact hx.elim), fun k k' r r' x hk _ hx _ => (by match k, hk with | 0, hk => cases hk; exact hx.elim | 1, hk => cases hk; exact hx.elim), Cg.refl _ _⟩
        (fun k r hk q hq => (by match k, hk with | 0, hk => cases hk; cases hq | 1, hk => cases hk; cases hq))
        (fun x hx q hq => (by
          rcases List.mem_cons.1 hx with rfl | hx
          · cases hq
          · rcases List.mem_cons.1 hx with rfl | hx
            · simp [SV.idx] at hq; subst hq; decide
            · rcases List.mem_cons.1 hx with rfl | hx
              · simp [SV.idx] at hq; subst hq; decide
              · cases hx))
      refine this.mono fun e w' he => ?_
      obtain ⟨β', h1, _, _, _, rfl⟩ := he
      refine ⟨.nilIface, ?_, epost_pure (sv := .v .nilIface) (h1.cg.mono fun k hk => hk.elim)⟩
      unfold endC
      rw [hp, hv]
      rfl
    · cases h
  · cases h
noncomputable def TR (n : Nat) (em : List Value) : Tab Tryz.prog := splT n em (Tab.known (Tab.known (Tab.nil _) 12 asN (by kernel_rfl) asN_ok) 13 oneX (by kernel_rfl) oneX_ok)
end Go.Proofs.YtmjmnigiegadiaaGreatDoor

/- lang.Read of a text that is too long; of a text of newlines alone. -/
namespace Go.Proofs.YtmjmnigiegadiaaGreatDoor
open Go Go.RowKit Go.Lib Go.Sort Ax
set_option maxRecDepth 100000
abbrev zc : List Value := [.slice none 0 0, .slice none 0 0, .slice none 0 0, .slice none 0 0, .slice none 0 0, .int .i64 0]
abbrev dc : List Value := [.slice none 0 0, .slice none 0 0, .slice none 0 0, .slice none 0 0, .slice none 0 0, .int .i64 2]
def rtL : Rt := ⟨[.c none 55 (.vs [.int .i64 4, .int .i64 0])], .tp [.v (.agg zc.toArray), .ifc 52 (.p 0 0)]⟩
theorem read_long (W : World) (s : ByteArray) (hs : s.size = 65537) : Calls Tryz.prog 4 #[.string s] W (RtPost W rtL) := by
  have c10 : Value.int .i64 (s.size : Int) = .int .i64 65537 := by rw [hs]; rfl
  have z0 := finR [1] rtL
  refine calls_rt (T := Tab.nil _) (ks := [.v]) (vs := [.v (.string s)]) (l := [.string s]) ⟨rfl, trivial⟩ [1] [(10, .is (.int .i64 65537))] [] (by kernel_rfl) Tryz.func4 rfl (by kernel_rfl) ?_
  exact Eq.mp (by kernel_rfl) (And.intro c10 z0)
def rdF (i : Nat) : List (Nat × SV) := [(2, .p 0 0), (3, .v .nilIface), (4, .p 1 0), (5, .p 2 0), (17, .o 3), (18, .v (.int .i64 65537)), (19, .v (.int .i64 (i : Int)))]
def rdM (em : List Value) : List Row := [.c none 29 (.vs zc), .c none 29 (.vs zc), .c none 3 (.vs [.int .i64 0]), .s 9 1 65537 em]
abbrev rdLp (em : List Value) : Lp := .mk Nat 0 (fun i => i ≤ 65537) rdF (fun _ => rdM em) (fun i => i + 1) (fun i => 65537 - i) Unit (fun _ => True) (fun _ => [(2, .p 0 0), (3, .v .nilIface), (4, .p 1 0), (5, .p 2 0)]) (fun _ => rdM em) (fun _ => ())
def rtN : Rt := ⟨[], .tp [.v (.agg dc.toArray), .v .nilIface]⟩
theorem rd_rd (W : World) (n : Nat) (em : List Value) (hem : ∀ i, i < 65537 → em[i]? = some (.string ⟨#[]⟩)) : Rounds Tryz.prog (TR n em) Tryz.f4.ntmps ⟨W, No⟩ (bodyOf Tryz.f4 0) (atEnd Tryz.prog Tryz.f4 (EndR [] rtN) .ret) (rdLp em) := by
  rintro i hi
  have hi : i ≤ 65537 := hi
  rcases Nat.lt_or_ge i 65537 with hlt | hge
  · refine ⟨[(20, .is (.bool true)), (22, .ix), (23, .ld (.string ⟨#[]⟩)), (36, .is (.int .i64 ((i + 1 : Nat) : Int)))], [], [], ?_⟩
    have c20 : Value.bool (decide ((i : Int) < 65537)) = .bool true := congrArg Value.bool (decide_eq_true (by omega))
    have c25 : (fun _ : Base => True) ⟨W, No⟩ := trivial
    have c27 := c25
    have h0 : i + 1 ≤ 65537 := hlt
    have h1 : 65537 - (i + 1) < 65537 - i := by omega
    have c22 : (0 : Int) ≤ (i : Int) ∧ (i : Int) < 65537 := by omega
    have c23 : em[i * 1]? = some (.string ⟨#[]⟩) := by rw [Nat.mul_one]; exact hem i hlt
    have c36 : Value.int .i64 (IntKind.i64.wrap ((i : Int) + 1)) = .int .i64 ((i + 1 : Nat) : Int) := congrArg (Value.int .i64) (by rw [IntKind.wrap_i64]; omega)
    exact Eq.mp (by kernel_rfl) (And.intro c20 (And.intro c22 (And.intro c23 (And.intro c25 (And.intro c27 (And.intro c36 (And.intro h0 (And.intro h1 (And.intro (rfl : ([(2, Ax.SV.p 0 0), (3, Ax.SV.v Go.Value.nilIface), (4, Ax.SV.p 1 0), (5, Ax.SV.p 2 0), (17, Ax.SV.o 3), (18, Ax.SV.v (Go.Value.int Go.IntKind.i64 (Int.ofNat 65537))), (19, Ax.SV.v (Go.Value.int Go.IntKind.i64 (Int.ofNat (i + 1))))] : List (Nat × Ax.SV)) = [(2, Ax.SV.p 0 0), (3, Ax.SV.v Go.Value.nilIface), (4, Ax.SV.p 1 0), (5, Ax.SV.p 2 0), (17, Ax.SV.o 3), (18, Ax.SV.v (Go.Value.int Go.IntKind.i64 (Int.ofNat 65537))), (19, Ax.SV.v (Go.Value.int Go.IntKind.i64 (Int.ofNat (i + 1))))]) (rfl : ([Ax.Row.c Option.none 29 (Ax.Cs.vs [Go.Value.slice Option.none 0 0, Go.Value.slice Option.none 0 0, Go.Value.slice Option.none 0 0, Go.Value.slice Option.none 0 0, Go.Value.slice Option.none 0 0, Go.Value.int Go.IntKind.i64 (Int.ofNat 0)]), Ax.Row.c Option.none 29 (Ax.Cs.vs [Go.Value.slice Option.none 0 0, Go.Value.slice Option.none 0 0, Go.Value.slice Option.none 0 0, Go.Value.slice Option.none 0 0, Go.Value.slice Option.none 0 0, Go.Value.int Go.IntKind.i64 (Int.ofNat 0)]), Ax.Row.c Option.none 3 (Ax.Cs.vs [Go.Value.int Go.IntKind.i64 (Int.ofNat 0)]), Ax.Row.s 9 1 65537 em] : List Ax.Row) = [Ax.Row.c Option.none 29 (Ax.Cs.vs [Go.Value.slice Option.none 0 0, Go.Value.slice Option.none 0 0, Go.Value.slice Option.none 0 0, Go.Value.slice Option.none 0 0, Go.Value.slice Option.none 0 0, Go.Value.int Go.IntKind.i64 (Int.ofNat 0)]), Ax.Row.c Option.none 29 (Ax.Cs.vs [Go.Value.slice Option.none 0 0, Go.Value.slice Option.none 0 0, Go.Value.slice Option.none 0 0, Go.Value.slice Option.none 0 0, Go.Value.slice Option.none 0 0, Go.Value.int Go.IntKind.i64 (Int.ofNat 0)]), Ax.Row.c Option.none 3 (Ax.Cs.vs [Go.Value.int Go.IntKind.i64 (Int.ofNat 0)]), Ax.Row.s 9 1 65537 em]))))))))))
  · refine ⟨[(20, .is (.bool false))], [], [], ?_⟩
    have c20 : Value.bool (decide ((i : Int) < 65537)) = .bool false := congrArg Value.bool (decide_eq_false (by omega))
    exact Eq.mp (by kernel_rfl) (And.intro c20 (And.intro trivial (And.intro (rfl : ([(2, Ax.SV.p 0 0), (3, Ax.SV.v Go.Value.nilIface), (4, Ax.SV.p 1 0), (5, Ax.SV.p 2 0)] : List (Nat × Ax.SV)) = [(2, Ax.SV.p 0 0), (3, Ax.SV.v Go.Value.nilIface), (4, Ax.SV.p 1 0), (5, Ax.SV.p 2 0)]) (rfl : ([Ax.Row.c Option.none 29 (Ax.Cs.vs [Go.Value.slice Option.none 0 0, Go.Value.slice Option.none 0 0, Go.Value.slice Option.none 0 0, Go.Value.slice Option.none 0 0, Go.Value.slice Option.none 0 0, Go.Value.int Go.IntKind.i64 (Int.ofNat 0)]), Ax.Row.c Option.none 29 (Ax.Cs.vs [Go.Value.slice Option.none 0 0, Go.Value.slice Option.none 0 0, Go.Value.slice Option.none 0 0, Go.Value.slice Option.none 0 0, Go.Value.slice Option.none 0 0, Go.Value.int Go.IntKind.i64 (Int.ofNat 0)]), Ax.Row.c Option.none 3 (Ax.Cs.vs [Go.Value.int Go.IntKind.i64 (Int.ofNat 0)]), Ax.Row.s 9 1 65537 em] : List Ax.Row) = [Ax.Row.c Option.none 29 (Ax.Cs.vs [Go.Value.slice Option.none 0 0, Go.Value.slice Option.none 0 0, Go.Value.slice Option.none 0 0, Go.Value.slice Option.none 0 0, Go.Value.slice Option.none 0 0, Go.Value.int Go.IntKind.i64 (Int.ofNat 0)]), Ax.Row.c Option.none 29 (Ax.Cs.vs [Go.Value.slice Option.none 0 0, Go.Value.slice Option.none 0 0, Go.Value.slice Option.none 0 0, Go.Value.slice Option.none 0 0, Go.Value.slice Option.none 0 0, Go.Value.int Go.IntKind.i64 (Int.ofNat 0)]), Ax.Row.c Option.none 3 (Ax.Cs.vs [Go.Value.int Go.IntKind.i64 (Int.ofNat 0)]), Ax.Row.s 9 1 65537 em]))))
theorem read_nl (W : World) (s : ByteArray) (em : List Value) (hs : s.size = 65536) (hsp : SplitIs ⟨W, No⟩ s ⟨#[10]⟩ 65537 em) (hem : ∀ i, i < 65537 → em[i]? = some (.string ⟨#[]⟩)) : Calls Tryz.prog 4 #[.string s] W (RtPost W rtN) := by
  have c10 : Value.int .i64 (s.size : Int) = .int .i64 65536 := by rw [hs]; rfl
  have c17 := hsp
  have z5 := finR [] rtN
  have rd2 := rd_rd W 65537 em hem
  have h0 : 0 ≤ 65537 := Nat.zero_le _
  refine calls_rt (T := TR 65537 em) (ks := [.v]) (vs := [.v (.string s)]) (l := [.string s]) ⟨rfl, trivial⟩ [] [(10, .is (.int .i64 65536))] [rdLp em] (by kernel_rfl) Tryz.func4 rfl (by kernel_rfl) ?_
  exact Eq.mp (by kernel_rfl) (And.intro c10 (And.intro c17 (And.intro h0 (And.intro (And.intro (rfl : ([(2, Ax.SV.p 0 0), (3, Ax.SV.v Go.Value.nilIface), (4, Ax.SV.p 1 0), (5, Ax.SV.p 2 0), (17, Ax.SV.o 3), (18, Ax.SV.v (Go.Value.int Go.IntKind.i64 (Int.ofNat 65537))), (19, Ax.SV.v (Go.Value.int Go.IntKind.i64 (Int.ofNat 0)))] : List (Nat × Ax.SV)) = [(2, Ax.SV.p 0 0), (3, Ax.SV.v Go.Value.nilIface), (4, Ax.SV.p 1 0), (5, Ax.SV.p 2 0), (17, Ax.SV.o 3), (18, Ax.SV.v (Go.Value.int Go.IntKind.i64 (Int.ofNat 65537))), (19, Ax.SV.v (Go.Value.int Go.IntKind.i64 (Int.ofNat 0)))]) (rfl : ([Ax.Row.c Option.none 29 (Ax.Cs.vs [Go.Value.slice Option.none 0 0, Go.Value.slice Option.none 0 0, Go.Value.slice Option.none 0 0, Go.Value.slice Option.none 0 0, Go.Value.slice Option.none 0 0, Go.Value.int Go.IntKind.i64 (Int.ofNat 0)]), Ax.Row.c Option.none 29 (Ax.Cs.vs [Go.Value.slice Option.none 0 0, Go.Value.slice Option.none 0 0, Go.Value.slice Option.none 0 0, Go.Value.slice Option.none 0 0, Go.Value.slice Option.none 0 0, Go.Value.int Go.IntKind.i64 (Int.ofNat 0)]), Ax.Row.c Option.none 3 (Ax.Cs.vs [Go.Value.int Go.IntKind.i64 (Int.ofNat 0)]), Ax.Row.s 9 1 65537 em] : List Ax.Row) = [Ax.Row.c Option.none 29 (Ax.Cs.vs [Go.Value.slice Option.none 0 0, Go.Value.slice Option.none 0 0, Go.Value.slice Option.none 0 0, Go.Value.slice Option.none 0 0, Go.Value.slice Option.none 0 0, Go.Value.int Go.IntKind.i64 (Int.ofNat 0)]), Ax.Row.c Option.none 29 (Ax.Cs.vs [Go.Value.slice Option.none 0 0, Go.Value.slice Option.none 0 0, Go.Value.slice Option.none 0 0, Go.Value.slice Option.none 0 0, Go.Value.slice Option.none 0 0, Go.Value.int Go.IntKind.i64 (Int.ofNat 0)]), Ax.Row.c Option.none 3 (Ax.Cs.vs [Go.Value.int Go.IntKind.i64 (Int.ofNat 0)]), Ax.Row.s 9 1 65537 em])) (And.intro rd2 (fun (x3 : Unit) (hx4 : True) => z5))))))
end Go.Proofs.YtmjmnigiegadiaaGreatDoor

/- A reckoner of calls, part 31: runs in pieces. Proved over any program. No condition of its own. -/
namespace Go.Proofs.YtmjmnigiegadiaaGreatDoor
open Go Go.RowKit Go.Lib Go.Sort
namespace Ax
section
variable {P : Program} {op opD : Opf} {rc : Rc} {n : Nat} {jump : Code → Cst → Option (Ed × Cst)}
theorem exC_seq {x y : Code} {s s' : Cst} {r : Option (Ed × Cst)} (h1 : exC P op opD rc n jump x s = some (.n, s')) (h2 : exC P op opD rc n jump y s' = r) : exC P op opD rc n jump (.seq x y) s = r := by
  rw [exC, h1]
  exact h2
theorem exC_out {x y : Code} {s s' : Cst} {e : Ed} (h1 : exC P op opD rc n jump x s = some (e, s')) (he : e ≠ .n) : exC P op opD rc n jump (.seq x y) s = some (e, s') := by
  rw [exC, h1]
  cases e with
  | n => exact absurd rfl he
  | _ => rfl
theorem exC_loop {c : Code} {s : Cst} : exC P op opD rc n jump (.loop c) s = loopC (fun s => exC P op opD rc n jump c s) s.fr.length 100000 s := by
  rw [exC]
theorem exC_block {id : Nat} {c : Code} {s s' : Cst} (h : exC P op opD rc n jump c s = some (.x id, s')) : exC P op opD rc n jump (.block id c) s = some (.n, s') := by
  rw [exC, h]
  simp only [Nat.beq_refl]
theorem loopC_on {body : Cst → Option (Ed × Cst)} {n0 k : Nat} {s s' : Cst} {r : Option (Ed × Cst)} (h : body s = some (.n, s')) (h2 : loopC body n0 k ⟨mergeFr (s'.fr.length - n0) s'.fr, s'.mem, s'.df⟩ = r) : loopC body n0 (k + 1) s = r := by
  rw [loopC, h]
  exact h2
theorem loopC_off {body : Cst → Option (Ed × Cst)} {n0 k i : Nat} {s s' : Cst} (h : body s = some (.x i, s')) : loopC body n0 (k + 1) s = some (.x i, s') := by
  rw [loopC, h]
end
section
variable {P : Program} (D : Grd) (X : Xop P D.G) (M : MchG P D.G)
/-- The operations of a run, one behind the other and in a region that draws. -/
def opRa : Opf := fun e row m o => orE (X.op e row m o) (opX P (Tab.nil P) bz e row m o)
def opRd : Opf := fun e row m o => orE (X.op e row m o) (orE (opX P (Tab.nil P) bz e row m o) (opDC P M.rc e row m o))
theorem opRa_ok {b : Base} (hb : D.G b) : OpOk P b (opRa D X) := by
  unfold opRa
  rw [opX_base nil_free.free bz b]
  exact orOp_ok (X.ok b hb) opX_holds
theorem opRd_ok {b : Base} (hb : D.G b) : OpOk P b (opRd D X M) := by
  unfold opRd
  rw [opX_base nil_free.free bz b]
  exact orOp_ok (X.ok b hb) (orOp_ok opX_holds (opDC_ok fun W S' hc hS => M.ok _ (D.cl b hb W S' hc hS)))
/-- What is left of a function's code, from a state on. -/
theorem rest_ok (hm : P.follows .mixedOrders = true) {n : Nat} {b : Base} {β : Env} {a : Act} {w : World} {c : Code} {s s' : Cst} {e : Ed} (hb : D.G b) (hx : exF P (opRa D X) (opRd D X M) M.rc n 3 c s = some (e, s')) (h : Hq b n β s a w) : c.wp P (Rz b n β s.mem.length e s') a w :=
  exF_ok (opRa_ok D X hb) (opRd_ok D X M hb) hm (M.ok b hb) 3 c s e s' β a w hx h
end
end Ax
end Go.Proofs.YtmjmnigiegadiaaGreatDoor

/- LangNames' code, and code of which the first parts are walked. -/
namespace Go.Proofs.YtmjmnigiegadiaaGreatDoor
open Go Go.RowKit Go.Lib Ax
set_option maxRecDepth 100000
noncomputable def cF : Code := match Tryz.prog.funcs[3]? with
  | some fn => match fn.body with
    | some c => c
    | none => .skip
  | none => .skip
def sndS : Code → Code
  | .seq _ y => y
  | c => c
def fstS : Code → Code
  | .seq x _ => x
  | c => c
def sndN : Nat → Code → Code
  | 0, c => c
  | k + 1, c => sndN k (sndS c)
/-- The first parts of a row of code. -/
def preN : Nat → Code → Code
  | 0, _ => .skip
  | k + 1, c => match c with
    | .seq x y => .seq x (preN k y)
    | _ => .exit 0
theorem ex_pre {P : Program} {T : Tab P} {b : Base} {n : Nat} {ds : Dr} {IN : Inl} {m : Nat} (hm : P.follows .mixedOrders = true) (hI : InOk P b IN) (hd : ds.m = m) {K : Exit → St → Prop} {Q : Exit → Act → World → Prop} (hK : ∀ e st, K e st → e = .normal) : ∀ (k : Nat) (c : Code) (H : List (Nat × Hint)) (L N : List Lp) (st : St) (β : Env) (a : Act) (w : World), Hd ds b n β st a w → exB P T n b IN m (preN k c) H L N st K → (∀ β' st' a' w', K .normal st' → Hd ds b n β' st' a' w' → (sndN k c).wp P Q a' w') → c.wp P Q a w
  | 0, c, H, L, N, st, β, a, w, h, hx, hq => by
    rw [preN, exB] at hx
    exact hq β st a w hx h
  | k + 1, c, H, L, N, st, β, a, w, h, hx, hq => by
    cases c with
    | seq x y =>
      have hx : exB P T n b IN m (.seq x (preN k y)) H L N st K := hx
      unfold exB at hx
      refine wp_seq (Code.wp_mono (fun e a' w' hr => ?_) (ex_ok hm hI hd x H L N st _ β a w h hx))
      cases e with
      | normal =>
        obtain ⟨β', st', hk, h'⟩ := hr
        exact ex_pre hm hI hd hK k y _ _ _ st' β' a' w' h' hk hq
      | panic c => exact hr.elim
      | exit i =>
        obtain ⟨β', st', hk, h'⟩ := hr
        cases hK _ _ hk
      | goto i =>
        obtain ⟨β', st', hk, h'⟩ := hr
        cases hK _ _ hk
      | ret =>
        obtain ⟨β', st', hk, h'⟩ := hr
        cases hK _ _ hk
      | outgrown =>
        obtain ⟨β', st', hk, h'⟩ := hr
        cases hK _ _ hk
    | _ =>
      have hx : exB P T n b IN m (.exit 0) H L N st K := hx
      rw [exB] at hx
      cases hK _ _ hx
/-- The end of the first parts: what they leave. -/
def endS (fr : List (Nat × SV)) (mem : List Row) : Exit → St → Prop
  | .normal, st => Same 0 st fr mem
  | _, _ => False
theorem endS_n {fr : List (Nat × SV)} {mem : List Row} : ∀ e st, endS fr mem e st → e = .normal
  | .normal, _, _ => rfl
end Go.Proofs.YtmjmnigiegadiaaGreatDoor

/- LangNames' beginning: the long text is filled, and read twice. -/
namespace Go.Proofs.YtmjmnigiegadiaaGreatDoor
open Go Go.RowKit Go.Lib Go.Sort Ax
set_option maxRecDepth 100000
/-- A call whose argument is a text, where something holds of it. -/
def textT (f : FuncId) (hf : okFn Tryz.prog f = true) (rt : Rt) (ht : rtOk rt = true) (C : Base → ByteArray → Prop) (hC : ∀ b s W, C b s → Cg b.S b.w W → Calls Tryz.prog f #[.string s] W (RtPost W rt)) : Tab Tryz.prog where
  t := fun b _ m f' args => match Nat.beq f' f with
    | true => match args with
      | [.v (.string s)] => some (rtEff m [] rt, some (C b s))
      | _ => none
    | false => none
  ok := fun b row m f' args g ob h hob β W hs => by
    cases hb : Nat.beq f' f with
    | false => rw [hb] at h; cases h
    | true =>
      rw [hb] at h
      obtain rfl := Nat.eq_of_beq_eq_true hb
      simp only at h
      split at h
      · rename_i s
        cases h
        exact ⟨hf, (hC b s W (hob _ rfl) hs.cg).mono fun e W' hp => rt_epost hp ht⟩
      · cases h
theorem SplitIs.at {b : Base} {s sep : ByteArray} {n : Nat} {em : List Value} {W : World} (h : SplitIs b s sep n em) (hc : Cg b.S b.w W) : SplitIs ⟨W, No⟩ s sep n em := by
  obtain ⟨⟨m, h1, h2, h3⟩, h4⟩ := h
  exact ⟨⟨m, Nat.lt_of_lt_of_le h1 hc.size, fun h => h, (hc.cell (p := ⟨1, 0, none⟩) h1 h2).trans h3⟩, h4⟩
def CL (_ : Base) (s : ByteArray) : Prop := s.size = 65537
def CN (em : List Value) (b : Base) (s : ByteArray) : Prop := s.size = 65536 ∧ SplitIs b s ⟨#[10]⟩ 65537 em ∧ ∀ i, i < 65537 → em[i]? = some (.string ⟨#[]⟩)
def TA : Tab Tryz.prog := textT 4 (by kernel_rfl) rtL (by kernel_rfl) CL fun _ s W h _ => read_long W s h
noncomputable def TB (em : List Value) : Tab Tryz.prog := textT 4 (by kernel_rfl) rtN (by kernel_rfl) (CN em) fun _ s W h hc => read_nl W s em h.1 (h.2.1.at hc) h.2.2
def ten : Value := .int .u8 10
abbrev fiLp (fil : Nat → List Value) : Lp := .mk Nat 0 (fun i => i ≤ 65537) (fun i => [(0, .v (.bool false)), (1, .o 0), (2, .v (.int .i64 (i : Int)))]) (fun i => [.s 5 1 65537 (fil i)]) (fun i => i + 1) (fun i => 65537 - i) Unit (fun _ => True) (fun _ => [(0, .v (.bool false)), (1, .o 0), (2, .v (.int .i64 65537))]) (fun _ => [.s 5 1 65537 (fil 65537)]) (fun _ => ())
theorem fi_rd (W : World) (fil : Nat → List Value) (hst : ∀ i, i < 65537 → i + 1 ≤ (fil i).length ∧ (fil i).take i ++ ([ten] ++ (fil i).drop (i + 1)) = fil (i + 1)) : Rounds Tryz.prog TA 157 ⟨W, No⟩ (bodyOf Tryz.f3 0) (endS [] [] .ret) (fiLp fil) := by
  rintro i hi
  have hi : i ≤ 65537 := hi
  rcases Nat.lt_or_ge i 65537 with hlt | hge
  · refine ⟨[(18, .is (.bool true)), (23, .ix), (100023, .st (fil (i + 1))), (20, .is (.int .i64 ((i + 1 : Nat) : Int)))], [], [], ?_⟩
    have c18 : Value.bool (decide ((i : Int) < 65537)) = .bool true := congrArg Value.bool (decide_eq_true (by omega))
    have c23 : (0 : Int) ≤ (i : Int) ∧ (i : Int) < 65537 := by omega
    have c100023 : i * 1 + 1 ≤ (fil i).length ∧ (fil i).take (i * 1) ++ ([ten] ++ (fil i).drop (i * 1 + 1)) = fil (i + 1) := by rw [Nat.mul_one]; exact hst i hlt
    have c20 : Value.int .i64 (IntKind.i64.wrap ((i : Int) + 1)) = .int .i64 ((i + 1 : Nat) : Int) := congrArg (Value.int .i64) (by rw [IntKind.wrap_i64]; omega)
    have h0 : i + 1 ≤ 65537 := hlt
    have h1 : 65537 - (i + 1) < 65537 - i := by omega
    exact Eq.mp (by kernel_rfl) (And.intro c18 (And.intro c23 (And.intro c100023 (And.intro c20 (And.intro h0 (And.intro h1 (And.intro (rfl : ([(0, Ax.SV.v (Go.Value.bool Bool.false)), (1, Ax.SV.o 0), (2, Ax.SV.v (Go.Value.int Go.IntKind.i64 (Int.ofNat (i + 1))))] : List (Nat × Ax.SV)) = [(0, Ax.SV.v (Go.Value.bool Bool.false)), (1, Ax.SV.o 0), (2, Ax.SV.v (Go.Value.int Go.IntKind.i64 (Int.ofNat (i + 1))))]) (rfl : ([Ax.Row.s 5 1 65537 (fil (i + 1))] : List Ax.Row) = [Ax.Row.s 5 1 65537 (fil (i + 1))]))))))))
  · refine ⟨[(18, .is (.bool false))], [], [], ?_⟩
    have c18 : Value.bool (decide ((i : Int) < 65537)) = .bool false := congrArg Value.bool (decide_eq_false (by omega))
    have h1 : [(0, SV.v (.bool false)), (1, SV.o 0), (2, SV.v (.int .i64 (i : Int)))] = [(0, SV.v (.bool false)), (1, SV.o 0), (2, SV.v (.int .i64 65537))] := by rw [show i = 65537 by omega]; exact congrArg (fun x => [(0, SV.v (.bool false)), (1, SV.o 0), (2, SV.v (.int .i64 x))]) (by omega)
    have z2 : [Row.s 5 1 65537 (fil i)] = [Row.s 5 1 65537 (fil 65537)] := by rw [show i = 65537 by omega]
    exact Eq.mp (by kernel_rfl) (And.intro c18 (And.intro trivial (And.intro h1 z2)))
def frA : List (Nat × SV) := [(0, .v (.bool false)), (1, .o 0), (2, .v (.int .i64 65537)), (4, .ifc 52 (.p 1 0)), (3, .p 2 0)]
def memA (xs : List Value) : List Row := [.s 5 1 65537 xs, .c none 55 (.vs [.int .i64 4, .int .i64 0]), .c none 29 (.vs zc)]
theorem begin_A (W : World) (fil : Nat → List Value) (s : ByteArray) (h00 : zerosL [.int .u8 0] 65537 = fil 0) (hst : ∀ i, i < 65537 → i + 1 ≤ (fil i).length ∧ (fil i).take i ++ ([ten] ++ (fil i).drop (i + 1)) = fil (i + 1)) (hs : s.size = 65537) (hx : fil 65537 = s.data.toList.map fun x => .int .u8 (x.toNat : Int)) :
    exB Tryz.prog TA 157 ⟨W, No⟩ (inD Tryz.prog TA ⟨W, No⟩ 4) 0 (preN 4 cF) [(14, .mk 65537), (26, .is (.string s))] [fiLp fil] [] ⟨[], []⟩ (endS frA (memA (fil 65537))) := by
  have c14 : (65537 : Int) = 65537 ∧ (65537 : Int) ≤ 65537 ∧ (65537 : Int) ≤ 9223372036854775807 ∧ ((1 : Nat) : Int) * 65537 ≤ 281474976710656 := by omega
  have e1 : [(0, SV.v (.bool false)), (1, SV.o 0), (2, SV.v (.int .i64 0))] = [(0, SV.v (.bool false)), (1, SV.o 0), (2, SV.v (.int .i64 0))] ∧ [Row.s 5 1 65537 (zerosL [.int .u8 0] 65537)] = [Row.s 5 1 65537 (fil 0)] := ⟨rfl, by rw [h00]⟩
  have h0 : 0 ≤ 65537 := Nat.zero_le _
  have rd2 := fi_rd W fil hst
  have c26 : s.size = 65537 ∧ fil 65537 = s.data.toList.map fun x => .int .u8 (x.toNat : Int) := ⟨hs, hx⟩
  have c27 : CL ⟨W, No⟩ s := hs
  exact Eq.mp (by kernel_rfl) (And.intro c14 (And.intro h0 (And.intro e1 (And.intro rd2 (fun (x3 : Unit) (hx4 : True) => (And.intro c26 (And.intro c27 (And.intro (rfl : ([(0, Ax.SV.v (Go.Value.bool Bool.false)), (1, Ax.SV.o 0), (2, Ax.SV.v (Go.Value.int Go.IntKind.i64 (Int.ofNat 65537))), (4, Ax.SV.ifc 52 (Ax.SV.p 1 0)), (3, Ax.SV.p 2 0)] : List (Nat × Ax.SV)) = [(0, Ax.SV.v (Go.Value.bool Bool.false)), (1, Ax.SV.o 0), (2, Ax.SV.v (Go.Value.int Go.IntKind.i64 (Int.ofNat 65537))), (4, Ax.SV.ifc 52 (Ax.SV.p 1 0)), (3, Ax.SV.p 2 0)]) (rfl : ([Ax.Row.s 5 1 65537 (fil 65537), Ax.Row.c Option.none 55 (Ax.Cs.vs [Go.Value.int Go.IntKind.i64 (Int.ofNat 4), Go.Value.int Go.IntKind.i64 (Int.ofNat 0)]), Ax.Row.c Option.none 29 (Ax.Cs.vs [Go.Value.slice Option.none 0 0, Go.Value.slice Option.none 0 0, Go.Value.slice Option.none 0 0, Go.Value.slice Option.none 0 0, Go.Value.slice Option.none 0 0, Go.Value.int Go.IntKind.i64 (Int.ofNat 0)])] : List Ax.Row) = [Ax.Row.s 5 1 65537 (fil 65537), Ax.Row.c Option.none 55 (Ax.Cs.vs [Go.Value.int Go.IntKind.i64 (Int.ofNat 4), Go.Value.int Go.IntKind.i64 (Int.ofNat 0)]), Ax.Row.c Option.none 29 (Ax.Cs.vs [Go.Value.slice Option.none 0 0, Go.Value.slice Option.none 0 0, Go.Value.slice Option.none 0 0, Go.Value.slice Option.none 0 0, Go.Value.slice Option.none 0 0, Go.Value.int Go.IntKind.i64 (Int.ofNat 0)])])))))))))
def frB : List (Nat × SV) := [(0, .v (.bool false)), (1, .o 0), (2, .v (.int .i64 65537)), (4, .ifc 52 (.p 1 0)), (5, .p 2 0), (6, .v .nilIface), (3, .p 3 0)]
def memB (xs : List Value) : List Row := [.s 5 1 65537 xs, .c none 55 (.vs [.int .i64 4, .int .i64 0]), .c none 29 (.vs dc), .c none 29 (.vs zc)]
theorem begin_B (W : World) (xs : List Value) (s : ByteArray) (em : List Value) (hs : s.size = 65536) (hx : (xs.drop (0 * 1)).take (65536 * 1) = s.data.toList.map fun x => .int .u8 (x.toNat : Int)) (hN : CN em ⟨W, No⟩ s) :
    exB Tryz.prog (TB em) 157 ⟨W, No⟩ (inD Tryz.prog (TB em) ⟨W, No⟩ 4) 0 (preN 1 (sndN 4 cF)) [(33, .is (.string s))] [] [] ⟨frA, memA xs⟩ (endS frB (memB xs)) := by
  have c33 : (0 * 1 = 0 * 1 ∧ 0 + (65536 - 0) ≤ 65537) ∧ s.size = 65536 - 0 ∧ (xs.drop (0 * 1)).take ((65536 - 0) * 1) = s.data.toList.map fun x => .int .u8 (x.toNat : Int) := ⟨⟨rfl, by omega⟩, hs, hx⟩
  have c34 := hN
  exact Eq.mp (by kernel_rfl) (And.intro c33 (And.intro c34 (And.intro (rfl : ([(0, Ax.SV.v (Go.Value.bool Bool.false)), (1, Ax.SV.o 0), (2, Ax.SV.v (Go.Value.int Go.IntKind.i64 (Int.ofNat 65537))), (4, Ax.SV.ifc 52 (Ax.SV.p 1 0)), (5, Ax.SV.p 3 0), (6, Ax.SV.v Go.Value.nilIface), (3, Ax.SV.p 2 0)] : List (Nat × Ax.SV)) = [(0, Ax.SV.v (Go.Value.bool Bool.false)), (1, Ax.SV.o 0), (2, Ax.SV.v (Go.Value.int Go.IntKind.i64 (Int.ofNat 65537))), (4, Ax.SV.ifc 52 (Ax.SV.p 1 0)), (5, Ax.SV.p 3 0), (6, Ax.SV.v Go.Value.nilIface), (3, Ax.SV.p 2 0)]) (rfl : ([Ax.Row.s 5 1 65537 xs, Ax.Row.c Option.none 55 (Ax.Cs.vs [Go.Value.int Go.IntKind.i64 (Int.ofNat 4), Go.Value.int Go.IntKind.i64 (Int.ofNat 0)]), Ax.Row.c Option.none 29 (Ax.Cs.vs [Go.Value.slice Option.none 0 0, Go.Value.slice Option.none 0 0, Go.Value.slice Option.none 0 0, Go.Value.slice Option.none 0 0, Go.Value.slice Option.none 0 0, Go.Value.int Go.IntKind.i64 (Int.ofNat 2)]), Ax.Row.c Option.none 29 (Ax.Cs.vs [Go.Value.slice Option.none 0 0, Go.Value.slice Option.none 0 0, Go.Value.slice Option.none 0 0, Go.Value.slice Option.none 0 0, Go.Value.slice Option.none 0 0, Go.Value.int Go.IntKind.i64 (Int.ofNat 0)])] : List Ax.Row) = [Ax.Row.s 5 1 65537 xs, Ax.Row.c Option.none 55 (Ax.Cs.vs [Go.Value.int Go.IntKind.i64 (Int.ofNat 4), Go.Value.int Go.IntKind.i64 (Int.ofNat 0)]), Ax.Row.c Option.none 29 (Ax.Cs.vs [Go.Value.slice Option.none 0 0, Go.Value.slice Option.none 0 0, Go.Value.slice Option.none 0 0, Go.Value.slice Option.none 0 0, Go.Value.slice Option.none 0 0, Go.Value.int Go.IntKind.i64 (Int.ofNat 2)]), Ax.Row.c Option.none 29 (Ax.Cs.vs [Go.Value.slice Option.none 0 0, Go.Value.slice Option.none 0 0, Go.Value.slice Option.none 0 0, Go.Value.slice Option.none 0 0, Go.Value.slice Option.none 0 0, Go.Value.int Go.IntKind.i64 (Int.ofNat 0)])]))))
end Go.Proofs.YtmjmnigiegadiaaGreatDoor
