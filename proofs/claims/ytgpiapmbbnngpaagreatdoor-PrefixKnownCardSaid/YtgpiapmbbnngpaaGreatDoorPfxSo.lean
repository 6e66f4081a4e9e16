/- The reference's 'once', walked by reckoning. -/
import Derived.Test.YtgpiapmbbnngpaaGreatDoorPfxSj
import Derived.Test.YtgpiapmbbnngpaaGreatDoorSxM
namespace Go.Proofs.YtgpiapmbbnngpaaGreatDoor
open Go.RowKit Go.Lib Go.Sort

def onRet (s : Value) : Option (List PX) → Sx.Ret
  | some l => .tup [] 29 18 l.length (rowX l) [.bool true]
  | none => .val (.tuple #[s, .bool false])
def onFr1 (s : Value) (i : Nat) : List (Nat × Sx.SV) := [(0, .val s), (4, .val (.int .i64 (i : Int)))]
def onFr2 (s : Value) (i k : Nat) : List (Nat × Sx.SV) := [(0, .val s), (4, .val (.int .i64 (i : Int))), (5, .val (.int .i64 (k : Int)))]
set_option maxRecDepth 100000 in
theorem on_inner (L : List PX) (A : Option Addr) (c : Nat) (hL : L.length ≤ 1000000) (w : World) (h : Rd w 18 (.slice A L.length c) L.length (rowX L)) (T : Option (List PX)) (i : Nat) (x : PX) (hx : L[i]? = some x) (U : Prop) (hU : innerR L i x 0 L = none → U) (hT : ∀ l, innerR L i x 0 L = some l → T = some l) (k : Nat) (hk : k ≤ L.length ∧ innerR L i x k (L.drop k) = innerR L i x 0 L) : ∃ H' L', Sx.ex Tryz.prog 59 w (Sx.inBody (Sx.bodyOf Tryz.f54 0) 0) H' L' ⟨onFr2 (.slice A L.length c) i k, []⟩
    (Sx.loopK (fun k => k ≤ L.length ∧ innerR L i x k (L.drop k) = innerR L i x 0 L) (onFr2 (.slice A L.length c) i) (fun _ => []) (fun k => k + 1) (fun k => L.length + 2 - k) (fun (_ : Unit) => U) (fun _ => onFr1 (.slice A L.length c) i) (fun _ => []) (fun _ => ()) (Sx.outId (Sx.inBody (Sx.bodyOf Tryz.f54 0) 0) - 1) (Sx.atEndO Tryz.prog Tryz.f54 (fun u => u = onRet (.slice A L.length c) T) .ret) k) := by
  obtain ⟨hk, he⟩ := hk
  by_cases hlt : k < L.length
  · obtain ⟨y, hy⟩ : ∃ y, L[k]? = some y := ⟨_, List.getElem?_eq_getElem hlt⟩
    have hdrop : L.drop k = y :: L.drop (k + 1) := by
      rw [List.drop_eq_getElem_cons hlt]
      have := List.getElem?_eq_getElem hlt
      rw [hy] at this
      rw [Option.some.inj this]
    rw [hdrop, innerR] at he
    obtain ⟨p, c26, c27⟩ := h.at hx rfl
    obtain ⟨q, c30, c31⟩ := h.at hy rfl
    have c41 := c26
    have c42 := c27
    have c45 := c30
    have c46 := c31
    have hi : i < L.length := (List.getElem?_eq_some_iff.1 hx).1
    have c17 : Value.bool (decide ((k : Int) < (L.length : Int))) = .bool true := by rw [decide_eq_true (by omega)]
    have c19 : Value.int .i64 (IntKind.i64.wrap ((k : Int) + 1)) = .int .i64 ((k + 1 : Nat) : Int) := iw (w64 (by omega) (by omega))
    have c32 := fun W (_ : Chg [] w W) => rcovers_N x.v x.n x.k y.v y.n y.k x.lt y.lt W
    by_cases hik : i = k
    · have c22 := ne_iB i k (r := false) (by simp [hik])
      cases hw : whoX x y with
      | none =>
        obtain ⟨v', n', k', hj⟩ := join_none hw
        have c47 := fun W (_ : Chg [] w W) => rjoined_N x y W
        rw [hj] at c47
        have hp : pairR L i k x y = none := by unfold pairR; rw [if_neg (fun hc => hc.1 hik), hw]
        rw [hp] at he
        have h0 : k + 1 ≤ L.length ∧ innerR L i x (k + 1) (L.drop (k + 1)) = innerR L i x 0 L := ⟨hlt, he⟩
        have h1 : L.length + 2 - (k + 1) < L.length + 2 - k := by omega
        have h2 : onFr2 (.slice A L.length c) i (k + 1) = onFr2 (.slice A L.length c) i (k + 1) := rfl
        have z3 : ([] : List Sx.Row) = [] := rfl
        refine ⟨[(17, .is (.bool true)), (22, .is (.bool false)), (41, .any p), (42, .any (.agg (pfx x.v x.n x.k).toArray)), (45, .any q), (46, .any (.agg (pfx y.v y.n y.k).toArray)), (47, .call (.tuple #[.agg (pfx v' n' k').toArray, .bool false])), (19, .is (.int .i64 ((k + 1 : Nat) : Int)))], [], ?_⟩
        exact Eq.mp (by kernel_rfl) (And.intro c17 (And.intro c22 (And.intro c41 (And.intro c42 (And.intro c45 (And.intro c46 (And.intro c47 (And.intro c19 (And.intro h0 (And.intro h1 (And.intro h2 z3)))))))))))
      | some z =>
        have c47 := fun W (_ : Chg [] w W) => rjoined_N x y W
        rw [join_some hw] at c47
        have hp : pairR L i k x y = some (woR i k L 0 ++ [z]) := by unfold pairR; rw [if_neg (fun hc => hc.1 hik), hw]
        rw [hp] at he
        have hT' := hT _ he.symm
        have c54 := fun W (hW : Chg [] w W) => without_N L (.slice A L.length c) i k hL W (h.chg hW)
        have hwl := woR_len i k L 0
        have c57 : True ∧ (pfx z.v z.n z.k).length = 1 * 18 ∧ (∀ (u : Value), u ∈ pfx z.v z.n z.k → u.oneCell' = true) ∧ (woR i k L 0).length + 1 ≤ maxLen ∧ ((woR i k L 0).length + 1) * 32 ≤ 140737488355328 := by
          refine ⟨trivial, by rw [pfx_length], fun u hu => ?_, by unfold maxLen; omega, by omega⟩
          have := pfx_ones z.v z.n z.k
          rw [Array.all_eq_true'] at this
          exact this u (by simpa using hu)
        have z0 : Sx.Ret.tup [] 29 18 ((woR i k L 0).length + 1) (rowX (woR i k L 0) ++ pfx z.v z.n z.k) [.bool true] = onRet (.slice A L.length c) T := by
          rw [hT']; unfold onRet; simp [rowX, PX.enc]
        refine ⟨[(17, .is (.bool true)), (22, .is (.bool false)), (41, .any p), (42, .any (.agg (pfx x.v x.n x.k).toArray)), (45, .any q), (46, .any (.agg (pfx y.v y.n y.k).toArray)), (47, .call (.tuple #[.agg (pfx z.v z.n z.k).toArray, .bool true])), (54, .callO (.sl 29 18 (woR i k L 0).length (rowX (woR i k L 0))))], [], ?_⟩
        exact Eq.mp (by kernel_rfl) (And.intro c17 (And.intro c22 (And.intro c41 (And.intro c42 (And.intro c45 (And.intro c46 (And.intro c47 (And.intro c54 (And.intro c57 z0)))))))))
    · have c22 := ne_iB i k (r := true) (by simp [hik])
      cases hcv : covP x.v x.n x.k y.v y.n y.k with
      | true =>
        rw [hcv] at c32
        have hp : pairR L i k x y = some (woR k k L 0) := by unfold pairR; rw [if_pos ⟨hik, hcv⟩]
        rw [hp] at he
        have hT' := hT _ he.symm
        have c37 := fun W (hW : Chg [] w W) => without_N L (.slice A L.length c) k k hL W (h.chg hW)
        have z0 : Sx.Ret.tup [] 29 18 (woR k k L 0).length (rowX (woR k k L 0)) [.bool true] = onRet (.slice A L.length c) T := by rw [hT']; rfl
        refine ⟨[(17, .is (.bool true)), (22, .is (.bool true)), (26, .any p), (27, .any (.agg (pfx x.v x.n x.k).toArray)), (30, .any q), (31, .any (.agg (pfx y.v y.n y.k).toArray)), (32, .call (.bool true)), (37, .callO (.sl 29 18 (woR k k L 0).length (rowX (woR k k L 0))))], [], ?_⟩
        exact Eq.mp (by kernel_rfl) (And.intro c17 (And.intro c22 (And.intro c26 (And.intro c27 (And.intro c30 (And.intro c31 (And.intro c32 (And.intro c37 z0))))))))
      | false =>
        rw [hcv] at c32
        cases hw : whoX x y with
        | none =>
          obtain ⟨v', n', k', hj⟩ := join_none hw
          have c47 := fun W (_ : Chg [] w W) => rjoined_N x y W
          rw [hj] at c47
          have hp : pairR L i k x y = none := by unfold pairR; rw [if_neg (fun hc => by rw [show covX x y = covP x.v x.n x.k y.v y.n y.k from rfl, hcv] at hc; cases hc.2), hw]
          rw [hp] at he
          have h0 : k + 1 ≤ L.length ∧ innerR L i x (k + 1) (L.drop (k + 1)) = innerR L i x 0 L := ⟨hlt, he⟩
          have h1 : L.length + 2 - (k + 1) < L.length + 2 - k := by omega
          have h2 : onFr2 (.slice A L.length c) i (k + 1) = onFr2 (.slice A L.length c) i (k + 1) := rfl
          have z3 : ([] : List Sx.Row) = [] := rfl
          refine ⟨[(17, .is (.bool true)), (22, .is (.bool true)), (26, .any p), (27, .any (.agg (pfx x.v x.n x.k).toArray)), (30, .any q), (31, .any (.agg (pfx y.v y.n y.k).toArray)), (32, .call (.bool false)), (41, .any p), (42, .any (.agg (pfx x.v x.n x.k).toArray)), (45, .any q), (46, .any (.agg (pfx y.v y.n y.k).toArray)), (47, .call (.tuple #[.agg (pfx v' n' k').toArray, .bool false])), (19, .is (.int .i64 ((k + 1 : Nat) : Int)))], [], ?_⟩
          exact Eq.mp (by kernel_rfl) (And.intro c17 (And.intro c22 (And.intro c26 (And.intro c27 (And.intro c30 (And.intro c31 (And.intro c32 (And.intro c41 (And.intro c42 (And.intro c45 (And.intro c46 (And.intro c47 (And.intro c19 (And.intro h0 (And.intro h1 (And.intro h2 z3))))))))))))))))
        | some z =>
          have c47 := fun W (_ : Chg [] w W) => rjoined_N x y W
          rw [join_some hw] at c47
          have hp : pairR L i k x y = some (woR i k L 0 ++ [z]) := by unfold pairR; rw [if_neg (fun hc => by rw [show covX x y = covP x.v x.n x.k y.v y.n y.k from rfl, hcv] at hc; cases hc.2), hw]
          rw [hp] at he
          have hT' := hT _ he.symm
          have c54 := fun W (hW : Chg [] w W) => without_N L (.slice A L.length c) i k hL W (h.chg hW)
          have hwl := woR_len i k L 0
          have c57 : True ∧ (pfx z.v z.n z.k).length = 1 * 18 ∧ (∀ (u : Value), u ∈ pfx z.v z.n z.k → u.oneCell' = true) ∧ (woR i k L 0).length + 1 ≤ maxLen ∧ ((woR i k L 0).length + 1) * 32 ≤ 140737488355328 := by
            refine ⟨trivial, by rw [pfx_length], fun u hu => ?_, by unfold maxLen; omega, by omega⟩
            have := pfx_ones z.v z.n z.k
            rw [Array.all_eq_true'] at this
            exact this u (by simpa using hu)
          have z0 : Sx.Ret.tup [] 29 18 ((woR i k L 0).length + 1) (rowX (woR i k L 0) ++ pfx z.v z.n z.k) [.bool true] = onRet (.slice A L.length c) T := by
            rw [hT']; unfold onRet; simp [rowX, PX.enc]
          refine ⟨[(17, .is (.bool true)), (22, .is (.bool true)), (26, .any p), (27, .any (.agg (pfx x.v x.n x.k).toArray)), (30, .any q), (31, .any (.agg (pfx y.v y.n y.k).toArray)), (32, .call (.bool false)), (41, .any p), (42, .any (.agg (pfx x.v x.n x.k).toArray)), (45, .any q), (46, .any (.agg (pfx y.v y.n y.k).toArray)), (47, .call (.tuple #[.agg (pfx z.v z.n z.k).toArray, .bool true])), (54, .callO (.sl 29 18 (woR i k L 0).length (rowX (woR i k L 0))))], [], ?_⟩
          exact Eq.mp (by kernel_rfl) (And.intro c17 (And.intro c22 (And.intro c26 (And.intro c27 (And.intro c30 (And.intro c31 (And.intro c32 (And.intro c41 (And.intro c42 (And.intro c45 (And.intro c46 (And.intro c47 (And.intro c54 (And.intro c57 z0))))))))))))))
  · have c17 : Value.bool (decide ((k : Int) < (L.length : Int))) = .bool false := by rw [decide_eq_false (by omega)]
    rw [List.drop_of_length_le (by omega), innerR] at he
    have h0 : U := hU he.symm
    have h1 : onFr1 (.slice A L.length c) i = onFr1 (.slice A L.length c) i := rfl
    have z2 : ([] : List Sx.Row) = [] := rfl
    refine ⟨[(17, .is (.bool false))], [], ?_⟩
    exact Eq.mp (by kernel_rfl) (And.intro c17 (And.intro h0 (And.intro h1 z2)))
def onR (L : List PX) (T : Option (List PX)) (i : Nat) : Prop := i ≤ L.length ∧ outerR L i (L.drop i) = T
set_option maxRecDepth 100000 in
theorem on_outer (L : List PX) (A : Option Addr) (c : Nat) (hL : L.length ≤ 1000000) (w : World) (h : Rd w 18 (.slice A L.length c) L.length (rowX L)) (T : Option (List PX)) (i : Nat) (hi : onR L T i) : ∃ H' L', Sx.ex Tryz.prog 59 w (Sx.bodyOf Tryz.f54 0) H' L' ⟨onFr1 (.slice A L.length c) i, []⟩
    (Sx.loopK (onR L T) (onFr1 (.slice A L.length c)) (fun _ => []) (fun i => i + 1) (fun i => L.length + 2 - i) (fun (_ : Unit) => T = none) (fun _ => [((0 : Nat), Sx.SV.val (.slice A L.length c))]) (fun _ => []) (fun _ => ()) (Sx.outId (Sx.bodyOf Tryz.f54 0) - 1) (Sx.atEndO Tryz.prog Tryz.f54 (fun u => u = onRet (.slice A L.length c) T) .ret) i) := by
  obtain ⟨hi, he⟩ := hi
  by_cases hlt : i < L.length
  · obtain ⟨x, hx⟩ : ∃ x, L[i]? = some x := ⟨_, List.getElem?_eq_getElem hlt⟩
    have hdrop : L.drop i = x :: L.drop (i + 1) := by
      rw [List.drop_eq_getElem_cons hlt]
      have := List.getElem?_eq_getElem hlt
      rw [hx] at this
      rw [Option.some.inj this]
    rw [hdrop, outerR] at he
    have c11 : Value.bool (decide ((i : Int) < (L.length : Int))) = .bool true := by rw [decide_eq_true (by omega)]
    have c13 : Value.int .i64 (IntKind.i64.wrap ((i : Int) + 1)) = .int .i64 ((i + 1 : Nat) : Int) := iw (w64 (by omega) (by omega))
    have hin := on_inner L A c hL w h T i x hx (outerR L (i + 1) (L.drop (i + 1)) = T) (fun hn => by rw [hn] at he; exact he) (fun l hl => by rw [hl] at he; exact he.symm)
    refine ⟨[(11, .is (.bool true)), (13, .is (.int .i64 ((i + 1 : Nat) : Int)))], [.mk Nat 0 (fun k => k ≤ L.length ∧ innerR L i x k (L.drop k) = innerR L i x 0 L) (onFr2 (.slice A L.length c) i) (fun _ => []) (fun k => k + 1) (fun k => L.length + 2 - k) Unit (fun _ => outerR L (i + 1) (L.drop (i + 1)) = T) (fun _ => onFr1 (.slice A L.length c) i) (fun _ => []) (fun _ => ())], ?_⟩
    have h0 : 0 ≤ L.length ∧ innerR L i x 0 (L.drop 0) = innerR L i x 0 L := ⟨Nat.zero_le _, rfl⟩
    have e1 : onFr2 (.slice A L.length c) i 0 = onFr2 (.slice A L.length c) i 0 ∧ ([] : List Sx.Row) = [] := ⟨rfl, rfl⟩
    have h6 : L.length + 2 - (i + 1) < L.length + 2 - i := by omega
    have h7 : onFr1 (.slice A L.length c) (i + 1) = onFr1 (.slice A L.length c) (i + 1) := rfl
    have z8 : ([] : List Sx.Row) = [] := rfl
    exact Eq.mp (by kernel_rfl) (And.intro c11 (And.intro h0 (And.intro e1 (And.intro hin (fun (_ : Unit) (hx4 : outerR L (i + 1) (L.drop (i + 1)) = T) => (And.intro c13 (And.intro (show onR L T (i + 1) from ⟨hlt, hx4⟩) (And.intro h6 (And.intro h7 z8)))))))))
  · have c11 : Value.bool (decide ((i : Int) < (L.length : Int))) = .bool false := by rw [decide_eq_false (by omega)]
    rw [List.drop_of_length_le (by omega), outerR] at he
    have h0 : T = none := he.symm
    have h1 : [((0 : Nat), Sx.SV.val (.slice A L.length c))] = [((0 : Nat), Sx.SV.val (.slice A L.length c))] := rfl
    have z2 : ([] : List Sx.Row) = [] := rfl
    refine ⟨[(11, .is (.bool false))], [], ?_⟩
    exact Eq.mp (by kernel_rfl) (And.intro c11 (And.intro h0 (And.intro h1 z2)))
set_option maxRecDepth 100000 in
/-- once: the first two that come to one, or none. -/
theorem once_N (L : List PX) (s : Value) (hL : L.length ≤ 1000000) (w : World) (h : Rd w 18 s L.length (rowX L)) : Calls Tryz.prog 54 #[s] w (Sx.retPost w (onRet s (onceR L))) := by
  obtain ⟨_, A, c, rfl, _⟩ := id h
  have h0 : onR L (onceR L) 0 := ⟨Nat.zero_le _, rfl⟩
  have e1 : onFr1 (.slice A L.length c) 0 = onFr1 (.slice A L.length c) 0 ∧ ([] : List Sx.Row) = [] := ⟨rfl, rfl⟩
  have rd2 := on_outer L A c hL w h (onceR L)
  refine Sx.calls_own (args := [.slice A L.length c]) [] [.mk Nat 0 (onR L (onceR L)) (onFr1 (.slice A L.length c)) (fun _ => []) (fun i => i + 1) (fun i => L.length + 2 - i) Unit (fun _ => onceR L = none) (fun _ => [((0 : Nat), Sx.SV.val (.slice A L.length c))]) (fun _ => []) (fun _ => ())] (by kernel_rfl) Tryz.func54 rfl (Nat.le_of_ble_eq_true rfl) ?_
  exact Eq.mp (by kernel_rfl) (And.intro h0 (And.intro e1 (And.intro rd2 (fun (_ : Unit) (hx4 : onceR L = none) => (show Sx.Ret.val (.tuple #[.slice A L.length c, .bool false]) = onRet (.slice A L.length c) (onceR L) by rw [hx4]; rfl)))))
end Go.Proofs.YtgpiapmbbnngpaaGreatDoor
