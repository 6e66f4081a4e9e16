/- The reference's 'Merge', walked by reckoning. -/
import Derived.Test.YtgpiapmbbnngpaaGreatDoorPfxSt
import Derived.Test.YtgpiapmbbnngpaaGreatDoorSxM
namespace Go.Proofs.YtgpiapmbbnngpaaGreatDoor
open Go.RowKit Go.Lib Go.Sort

theorem onceR_nil : onceR [] = none := rfl
theorem reduceR_fuel : ∀ (f : Nat) (M : List PX), M.length ≤ f → reduceR f M = reduceR M.length M
  | 0, M, h => by
    have : M = [] := List.length_eq_zero_iff.1 (by omega)
    subst this
    rfl
  | f + 1, M, h => by
    cases hm : M.length with
    | zero =>
      have : M = [] := List.length_eq_zero_iff.1 hm
      subst this
      rfl
    | succ g =>
      unfold reduceR
      cases ho : onceR M with
      | none => rfl
      | some l =>
        have h1 := (onceR_some ho).1
        show reduceR f l = reduceR g l
        rw [reduceR_fuel f l (by omega), show g = l.length by omega]
theorem reduceR_some {M l : List PX} (h : onceR M = some l) : reduceR M.length M = reduceR l.length l := by
  have h1 := (onceR_some h).1
  rw [show M.length = l.length + 1 by omega]
  conv => lhs; unfold reduceR
  rw [h]
theorem reduceR_none {M : List PX} (h : onceR M = none) : reduceR M.length M = M := by
  cases hm : M.length with
  | zero => rfl
  | succ g => unfold reduceR; rw [h]
theorem reduceR_len : ∀ (f : Nat) (M : List PX), (reduceR f M).length ≤ M.length
  | 0, M => Nat.le_refl _
  | f + 1, M => by
    unfold reduceR
    cases ho : onceR M with
    | none => exact Nat.le_refl _
    | some l =>
      have h1 := (onceR_some ho).1
      have := reduceR_len f l
      show (reduceR f l).length ≤ _
      omega
/-- The step, where its argument is the caller's own. -/
theorem once_K (M : List PX) (s : Value) (hM : M.length ≤ 1000000) (W : World) (h : Own W 29 18 s M.length (rowX M)) :
    (∀ l, onceR M = some l → Calls Tryz.prog 54 #[s] W (Sx.retPostK W s (.tup [] 29 18 l.length (rowX l) [.bool true]))) ∧
    (onceR M = none → Calls Tryz.prog 54 #[s] W (Sx.retPostK W s (.tup [] 29 18 M.length (rowX M) [.bool false]))) := by
  have hc := once_N M s hM W (Rd.of_own h)
  refine ⟨fun l hl => ?_, fun hn => ?_⟩
  · rw [hl] at hc
    refine hc.mono fun e w' hp => ?_
    obtain ⟨t, he, ha⟩ := hp
    exact ⟨t, he, ha.own, ha.chg.mono (by simp), fun k hk => .inr (ha.new k hk)⟩
  · rw [hn] at hc
    refine hc.mono fun e w' hp => ?_
    obtain ⟨he, hch⟩ := hp
    exact ⟨s, he, h.chg hch (by simp), hch.mono (by simp), fun k hk => .inl hk⟩
def mgFr1 (s : Value) (i : Nat) : List (Nat × Sx.SV) := [(0, .val s), (4, .val (.int .i64 (i : Int)))]
def mgFr2 (p : List PX × Bool) : List (Nat × Sx.SV) := [(5, .own 0), (6, .val (.bool p.2))]
def mgMem (p : List PX × Bool) : List Sx.Row := [⟨29, .own 18 p.1.length (rowX p.1)⟩]
def mgNext (p : List PX × Bool) : List PX × Bool := match onceR p.1 with
  | some l => (l, true)
  | none => (p.1, false)
def mgMu (p : List PX × Bool) : Nat := 2 * p.1.length + (if p.2 then 1 else 0)
def mgR (F : List PX) (p : List PX × Bool) : Prop := p.1.length ≤ 1000000 ∧ reduceR p.1.length p.1 = F ∧ (p.2 = false → p.1 = F)
set_option maxRecDepth 100000 in
theorem mg_round2 (F : List PX) (w : World) (T : Sx.Ret) (p : List PX × Bool) (hp : mgR F p) : ∃ H' L', Sx.ex Tryz.prog 29 w (Sx.bodyOf Tryz.f16 1) H' L' ⟨mgFr2 p, mgMem p⟩
    (Sx.loopK (mgR F) mgFr2 mgMem mgNext mgMu (fun (_ : Unit) => True) (fun _ => [((5 : Nat), Sx.SV.own 0)]) (fun _ => mgMem (F, false)) (fun _ => ()) (Sx.outId (Sx.bodyOf Tryz.f16 1) - 1) (Sx.atEndO Tryz.prog Tryz.f16 (fun u => u = T) .ret) p) := by
  obtain ⟨M, b⟩ := p
  obtain ⟨hM, hF, hb⟩ := hp
  simp only at hM hF hb
  cases b with
  | false =>
    have h0 : True := trivial
    have h1 : [((5 : Nat), Sx.SV.own 0)] = [((5 : Nat), Sx.SV.own 0)] := rfl
    have z2 : mgMem (M, false) = mgMem (F, false) := by rw [hb rfl]
    refine ⟨[], [], ?_⟩
    exact Eq.mp (by kernel_rfl) (And.intro h0 (And.intro h1 z2))
  | true =>
    cases ho : onceR M with
    | some l =>
      have hl := (onceR_some ho).1
      have c24 := fun W (_ : Chg [] w W) s (h : Own W 29 18 s M.length (rowX M)) => (once_K M s hM W h).1 l ho
      have hn : mgNext (M, true) = (l, true) := by unfold mgNext; simp only [ho]
      have h0 : mgR F (mgNext (M, true)) := by rw [hn]; exact ⟨by simp only; omega, by rw [← hF]; exact (reduceR_some ho).symm, fun h => by cases h⟩
      have h1 : mgMu (mgNext (M, true)) < mgMu (M, true) := by rw [hn]; unfold mgMu; simp only [if_true]; omega
      have h2 : [((5 : Nat), Sx.SV.own 1), (6, .val (.bool true))] = [((5 : Nat), Sx.SV.own 1), (6, .val (.bool (mgNext (M, true)).2))] := by rw [hn]
      have z3 : [(⟨29, .own 18 l.length (rowX l)⟩ : Sx.Row)] = mgMem (mgNext (M, true)) := by rw [hn]; rfl
      refine ⟨[(24, .callK (.tup [] 29 18 l.length (rowX l) [.bool true]))], [], ?_⟩
      exact Eq.mp (by kernel_rfl) (And.intro c24 (And.intro h0 (And.intro h1 (And.intro h2 z3))))
    | none =>
      have c24 := fun W (_ : Chg [] w W) s (h : Own W 29 18 s M.length (rowX M)) => (once_K M s hM W h).2 ho
      have hn : mgNext (M, true) = (M, false) := by unfold mgNext; simp only [ho]
      have h0 : mgR F (mgNext (M, true)) := by rw [hn]; exact ⟨hM, hF, fun _ => by rw [← hF]; exact (reduceR_none ho).symm⟩
      have h1 : mgMu (mgNext (M, true)) < mgMu (M, true) := by rw [hn]; unfold mgMu; simp
      have h2 : [((5 : Nat), Sx.SV.own 1), (6, .val (.bool false))] = [((5 : Nat), Sx.SV.own 1), (6, .val (.bool (mgNext (M, true)).2))] := by rw [hn]
      have z3 : [(⟨29, .own 18 M.length (rowX M)⟩ : Sx.Row)] = mgMem (mgNext (M, true)) := by rw [hn]; rfl
      refine ⟨[(24, .callK (.tup [] 29 18 M.length (rowX M) [.bool false]))], [], ?_⟩
      exact Eq.mp (by kernel_rfl) (And.intro c24 (And.intro h0 (And.intro h1 (And.intro h2 z3))))
set_option maxRecDepth 100000 in
theorem mg_round1 (L : List PX) (A : Option Addr) (c : Nat) (hL : L.length ≤ 1000000) (w : World) (h : Rd w 18 (.slice A L.length c) L.length (rowX L)) (T : Sx.Ret) (i : Nat) (hi : i ≤ L.length) : ∃ H' L', Sx.ex Tryz.prog 29 w (Sx.bodyOf Tryz.f16 0) H' L' ⟨mgFr1 (.slice A L.length c) i, []⟩
    (Sx.loopK (fun i => i ≤ L.length) (mgFr1 (.slice A L.length c)) (fun _ => []) (fun i => i + 1) (fun i => L.length + 2 - i) (fun (_ : Unit) => True) (fun _ => [((0 : Nat), Sx.SV.val (.slice A L.length c))]) (fun _ => []) (fun _ => ()) (Sx.outId (Sx.bodyOf Tryz.f16 0) - 1) (Sx.atEndO Tryz.prog Tryz.f16 (fun u => u = T) .ret) i) := by
  by_cases hlt : i < L.length
  · obtain ⟨x, hx⟩ : ∃ x, L[i]? = some x := ⟨_, List.getElem?_eq_getElem hlt⟩
    obtain ⟨p, c15, c16⟩ := h.at hx rfl
    have c10 : Value.bool (decide ((i : Int) < (L.length : Int))) = .bool true := by rw [decide_eq_true (by omega)]
    have c12 : Value.int .i64 (IntKind.i64.wrap ((i : Int) + 1)) = .int .i64 ((i + 1 : Nat) : Int) := iw (w64 (by omega) (by omega))
    have c17 := fun W (_ : Chg [] w W) => rcheck_N x.v x.n x.k x.lt W
    have e0 : errP x.v x.n x.k = 0 := by unfold errP; rw [x.ok]; rfl
    rw [e0] at c17
    have h0 : i + 1 ≤ L.length := hlt
    have h1 : L.length + 2 - (i + 1) < L.length + 2 - i := by omega
    have h2 : mgFr1 (.slice A L.length c) (i + 1) = mgFr1 (.slice A L.length c) (i + 1) := rfl
    have z3 : ([] : List Sx.Row) = [] := rfl
    refine ⟨[(10, .is (.bool true)), (15, .any p), (16, .any (.agg (pfx x.v x.n x.k).toArray)), (17, .call (.int .i64 0)), (12, .is (.int .i64 ((i + 1 : Nat) : Int)))], [], ?_⟩
    exact Eq.mp (by kernel_rfl) (And.intro c10 (And.intro c15 (And.intro c16 (And.intro c17 (And.intro c12 (And.intro h0 (And.intro h1 (And.intro h2 z3))))))))
  · have c10 : Value.bool (decide ((i : Int) < (L.length : Int))) = .bool false := by rw [decide_eq_false (by omega)]
    have h0 : True := trivial
    have h1 : [((0 : Nat), Sx.SV.val (.slice A L.length c))] = [((0 : Nat), Sx.SV.val (.slice A L.length c))] := rfl
    have z2 : ([] : List Sx.Row) = [] := rfl
    refine ⟨[(10, .is (.bool false))], [], ?_⟩
    exact Eq.mp (by kernel_rfl) (And.intro c10 (And.intro h0 (And.intro h1 z2)))
set_option maxRecDepth 100000 in
/-- Merge, where all may be. -/
theorem rmerge_X (L : List PX) (s : Value) (hL : L.length ≤ 1000000) (w : World) (h : Rd w 18 s L.length (rowX L)) : Calls Tryz.prog 16 #[s] w (Sx.retPost w (.tup [] 29 18 (mergeR L).length (rowX (mergeR L)) [.int .i64 0])) := by
  obtain ⟨_, A, c, rfl, _⟩ := id h
  have hS := sortR_len L
  have hF := reduceR_len (sortR L).length (sortR L)
  have h0 : 0 ≤ L.length := Nat.zero_le _
  have e1 : mgFr1 (.slice A L.length c) 0 = mgFr1 (.slice A L.length c) 0 ∧ ([] : List Sx.Row) = [] := ⟨rfl, rfl⟩
  have rd2 := mg_round1 L A c hL w h (.tup [] 29 18 (mergeR L).length (rowX (mergeR L)) [.int .i64 0])
  have c20 := fun W (hW : Chg [] w W) => sorted_N L (.slice A L.length c) hL W (h.chg hW)
  have rd7 := mg_round2 (reduceR (sortR L).length (sortR L)) w (.tup [] 29 18 (mergeR L).length (rowX (mergeR L)) [.int .i64 0])
  have h5 : mgR (reduceR (sortR L).length (sortR L)) (sortR L, true) := ⟨by simp only; omega, rfl, fun h => by cases h⟩
  have e6 : mgFr2 (sortR L, true) = mgFr2 (sortR L, true) ∧ mgMem (sortR L, true) = mgMem (sortR L, true) := ⟨rfl, rfl⟩
  have c28 := fun W (_ : Chg [] w W) s (h : Own W 29 18 s (reduceR (sortR L).length (sortR L)).length (rowX (reduceR (sortR L).length (sortR L)))) => sorted_N (reduceR (sortR L).length (sortR L)) s (by omega) W (Rd.of_own h)
  have z10 : Sx.Ret.tup [] 29 18 (mergeR L).length (rowX (mergeR L)) [.int .i64 0] = .tup [] 29 18 (mergeR L).length (rowX (mergeR L)) [.int .i64 0] := rfl
  refine Sx.calls_own (args := [.slice A L.length c]) [(20, .callO (.sl 29 18 (sortR L).length (rowX (sortR L)))), (28, .callO (.sl 29 18 (mergeR L).length (rowX (mergeR L))))] [.mk Nat 0 (fun i => i ≤ L.length) (mgFr1 (.slice A L.length c)) (fun _ => []) (fun i => i + 1) (fun i => L.length + 2 - i) Unit (fun _ => True) (fun _ => [((0 : Nat), Sx.SV.val (.slice A L.length c))]) (fun _ => []) (fun _ => ()), .mk (List PX × Bool) (sortR L, true) (mgR (reduceR (sortR L).length (sortR L))) mgFr2 mgMem mgNext mgMu Unit (fun _ => True) (fun _ => [((5 : Nat), Sx.SV.own 0)]) (fun _ => mgMem (reduceR (sortR L).length (sortR L), false)) (fun _ => ())] (by kernel_rfl) Tryz.func16 rfl (Nat.le_of_ble_eq_true rfl) ?_
  exact Eq.mp (by kernel_rfl) (And.intro h0 (And.intro e1 (And.intro rd2 (fun (x : Unit) (hx4 : True) => (And.intro c20 (And.intro h5 (And.intro e6 (And.intro rd7 (fun (x : Unit) (hx9 : True) => (And.intro c28 z10))))))))))
set_option maxRecDepth 100000 in
theorem mg_bad_round (ps : List RP) (b : Nat) (pb : RP) (hpb : ps[b]? = some pb) (hbad : okP pb.1 pb.2.1 pb.2.2 = false) (hn128 : ∀ p ∈ ps, p.2.1 < 2 ^ 128) (hok : ∀ j p, j < b → ps[j]? = some p → okP p.1 p.2.1 p.2.2 = true)
    (A : Option Addr) (c : Nat) (hL : ps.length ≤ 1000000) (w : World) (h : Rd w 18 (.slice A ps.length c) ps.length (rowP ps)) (i : Nat) (hi : i ≤ b) : ∃ H' L', Sx.ex Tryz.prog 29 w (Sx.bodyOf Tryz.f16 0) H' L' ⟨mgFr1 (.slice A ps.length c) i, []⟩
    (Sx.loopK (fun i => i ≤ b) (mgFr1 (.slice A ps.length c)) (fun _ => []) (fun i => i + 1) (fun i => ps.length + 2 - i) (fun (_ : Unit) => False) (fun _ => []) (fun _ => []) (fun _ => ()) (Sx.outId (Sx.bodyOf Tryz.f16 0) - 1) (Sx.atEnd Tryz.prog Tryz.f16 (fun v => v = .tuple #[.slice none 0 0, .int .i64 151]) .ret) i) := by
  have hbl := (List.getElem?_eq_some_iff.1 hpb).1
  have c10 : Value.bool (decide ((i : Int) < (ps.length : Int))) = .bool true := by rw [decide_eq_true (by omega)]
  by_cases hlt : i < b
  · obtain ⟨x, hx⟩ : ∃ x, ps[i]? = some x := ⟨_, List.getElem?_eq_getElem (by omega)⟩
    obtain ⟨p, c15, c16⟩ := h.atP hx rfl
    have c12 : Value.int .i64 (IntKind.i64.wrap ((i : Int) + 1)) = .int .i64 ((i + 1 : Nat) : Int) := iw (w64 (by omega) (by omega))
    have c17 := fun W (_ : Chg [] w W) => rcheck_N x.1 x.2.1 x.2.2 (hn128 x (List.mem_of_getElem? hx)) W
    have e0 : errP x.1 x.2.1 x.2.2 = 0 := by unfold errP; rw [hok i x hlt hx]; rfl
    rw [e0] at c17
    have h0 : i + 1 ≤ b := hlt
    have h1 : ps.length + 2 - (i + 1) < ps.length + 2 - i := by omega
    have h2 : mgFr1 (.slice A ps.length c) (i + 1) = mgFr1 (.slice A ps.length c) (i + 1) := rfl
    have z3 : ([] : List Sx.Row) = [] := rfl
    refine ⟨[(10, .is (.bool true)), (15, .any p), (16, .any (.agg (pfx x.1 x.2.1 x.2.2).toArray)), (17, .call (.int .i64 0)), (12, .is (.int .i64 ((i + 1 : Nat) : Int)))], [], ?_⟩
    exact Eq.mp (by kernel_rfl) (And.intro c10 (And.intro c15 (And.intro c16 (And.intro c17 (And.intro c12 (And.intro h0 (And.intro h1 (And.intro h2 z3))))))))
  · obtain rfl : i = b := by omega
    obtain ⟨p, c15, c16⟩ := h.atP hpb rfl
    have c17 := fun W (_ : Chg [] w W) => rcheck_N pb.1 pb.2.1 pb.2.2 (hn128 pb (List.mem_of_getElem? hpb)) W
    have e0 : errP pb.1 pb.2.1 pb.2.2 = 151 := by unfold errP; rw [hbad]; rfl
    rw [e0] at c17
    have z0 : Value.tuple #[.slice none 0 0, .int .i64 151] = .tuple #[.slice none 0 0, .int .i64 151] := rfl
    refine ⟨[(10, .is (.bool true)), (15, .any p), (16, .any (.agg (pfx pb.1 pb.2.1 pb.2.2).toArray)), (17, .call (.int .i64 151))], [], ?_⟩
    exact Eq.mp (by kernel_rfl) (And.intro c10 (And.intro c15 (And.intro c16 (And.intro c17 z0))))
set_option maxRecDepth 100000 in
/-- Merge, where one may not be. -/
theorem rmerge_bad (ps : List RP) (b : Nat) (pb : RP) (hpb : ps[b]? = some pb) (hbad : okP pb.1 pb.2.1 pb.2.2 = false) (hn128 : ∀ p ∈ ps, p.2.1 < 2 ^ 128) (hok : ∀ j p, j < b → ps[j]? = some p → okP p.1 p.2.1 p.2.2 = true)
    (s : Value) (hL : ps.length ≤ 1000000) (w : World) (h : Rd w 18 s ps.length (rowP ps)) : Calls Tryz.prog 16 #[s] w fun e w' => e = .returned (.tuple #[.slice none 0 0, .int .i64 151]) ∧ Chg [] w w' := by
  obtain ⟨_, A, c, rfl, _⟩ := id h
  have h0 : 0 ≤ b := Nat.zero_le _
  have e1 : mgFr1 (.slice A ps.length c) 0 = mgFr1 (.slice A ps.length c) 0 ∧ ([] : List Sx.Row) = [] := ⟨rfl, rfl⟩
  have z3 : True := trivial
  have rd2 := mg_bad_round ps b pb hpb hbad hn128 hok A c hL w h
  refine Sx.calls_is (args := [.slice A ps.length c]) [] [.fin Nat 0 (fun i => i ≤ b) (mgFr1 (.slice A ps.length c)) (fun _ => []) (fun i => i + 1) (fun i => ps.length + 2 - i)] (by kernel_rfl) Tryz.func16 rfl (Nat.le_of_ble_eq_true rfl) ?_
  exact Eq.mp (by kernel_rfl) (And.intro h0 (And.intro e1 (And.intro rd2 z3)))
end Go.Proofs.YtgpiapmbbnngpaaGreatDoor
