/- The reference's 'without', walked by reckoning. -/
import Derived.Test.YtgpiapmbbnngpaaGreatDoorPfxSm
import Derived.Test.YtgpiapmbbnngpaaGreatDoorSxM
import Derived.Test.YtgpiapmbbnngpaaGreatDoorPfxTn
namespace Go.Proofs.YtgpiapmbbnngpaaGreatDoor
open Go.RowKit Go.Lib Go.Sort

theorem woR_snoc (i k : Nat) (x : PX) : ∀ (L : List PX) (n : Nat), woR i k (L ++ [x]) n = woR i k L n ++ (if n + L.length ≠ i ∧ n + L.length ≠ k then [x] else [])
  | [], n => by simp only [List.nil_append, woR, List.length_nil, Nat.add_zero]
  | y :: r, n => by
    rw [List.cons_append, woR, woR, woR_snoc i k x r (n + 1), List.length_cons, show n + 1 + r.length = n + (r.length + 1) by omega]
    split <;> simp
theorem woR_len (i k : Nat) : ∀ (L : List PX) (n : Nat), (woR i k L n).length ≤ L.length
  | [], n => by simp [woR]
  | y :: r, n => by
    rw [woR]
    have := woR_len i k r (n + 1)
    split <;> simp <;> omega
def woFr (s : Value) (i k j : Nat) : List (Nat × Sx.SV) := [(0, .val s), (1, .val (.int .i64 (i : Int))), (2, .val (.int .i64 (k : Int))), (7, .own 0), (8, .val (.int .i64 (j : Int)))]
def woMem (L : List PX) (i k j : Nat) : List Sx.Row := [⟨29, .own 18 (woR i k (L.take j) 0).length (rowX (woR i k (L.take j) 0))⟩]
theorem ne_iB (a b : Nat) {r : Bool} (h : decide (a ≠ b) = r) : Value.bool ((a : Int) != (b : Int)) = .bool r := by
  rw [← h]; congr 1; rw [Bool.eq_iff_iff]; simp only [bne_iff_ne, ne_eq, decide_eq_true_eq]; omega
set_option maxRecDepth 100000 in
theorem wo_round (L : List PX) (A : Option Addr) (c i k : Nat) (hL : L.length ≤ 1000000) (w : World) (h : Rd w 18 (.slice A L.length c) L.length (rowX L)) (T : Sx.Ret) (j : Nat) (hj : j ≤ L.length) : ∃ H' L', Sx.ex Tryz.prog 31 w (Sx.bodyOf Tryz.f82 0) H' L' ⟨woFr (.slice A L.length c) i k j, woMem L i k j⟩
    (Sx.loopK (fun j => j ≤ L.length) (woFr (.slice A L.length c) i k) (woMem L i k) (fun j => j + 1) (fun j => L.length + 2 - j) (fun (_ : Unit) => True) (fun _ => [((7 : Nat), Sx.SV.own 0)]) (fun _ => woMem L i k L.length) (fun _ => ()) (Sx.outId (Sx.bodyOf Tryz.f82 0) - 1) (Sx.atEndO Tryz.prog Tryz.f82 (fun u => u = T) .ret) j) := by
  by_cases hlt : j < L.length
  · obtain ⟨x, hx⟩ : ∃ x, L[j]? = some x := ⟨_, List.getElem?_eq_getElem hlt⟩
    obtain ⟨p, hix, hld⟩ := h.at hx rfl
    have htk : L.take (j + 1) = L.take j ++ [x] := by
      have := List.getElem?_eq_getElem hlt
      rw [hx] at this
      rw [List.take_succ_eq_append_getElem hlt, Option.some.inj this]
    have hw := woR_snoc i k x (L.take j) 0
    rw [← htk, List.length_take, Nat.min_eq_left hj, Nat.zero_add] at hw
    have hwl := woR_len i k (L.take j) 0
    rw [List.length_take, Nat.min_eq_left hj] at hwl
    have c12 : Value.bool (decide ((j : Int) < (L.length : Int))) = .bool true := by rw [decide_eq_true (by omega)]
    have c14 : Value.int .i64 (IntKind.i64.wrap ((j : Int) + 1)) = .int .i64 ((j + 1 : Nat) : Int) := iw (w64 (by omega) (by omega))
    have h0 : j + 1 ≤ L.length := hlt
    have h1 : L.length + 2 - (j + 1) < L.length + 2 - j := by omega
    have h2 : woFr (.slice A L.length c) i k (j + 1) = woFr (.slice A L.length c) i k (j + 1) := rfl
    by_cases h1i : j = i
    · have c17 := ne_iB j i (r := false) (by simp [h1i])
      have z3 : woMem L i k j = woMem L i k (j + 1) := by unfold woMem; rw [hw, if_neg (by omega), List.append_nil]
      refine ⟨[(12, .is (.bool true)), (17, .is (.bool false)), (14, .is (.int .i64 ((j + 1 : Nat) : Int)))], [], ?_⟩
      exact Eq.mp (by kernel_rfl) (And.intro c12 (And.intro c17 (And.intro c14 (And.intro h0 (And.intro h1 (And.intro h2 z3))))))
    · have c17 := ne_iB j i (r := true) (by simp [h1i])
      by_cases h1k : j = k
      · have c21 := ne_iB j k (r := false) (by simp [h1k])
        have z3 : woMem L i k j = woMem L i k (j + 1) := by unfold woMem; rw [hw, if_neg (by omega), List.append_nil]
        refine ⟨[(12, .is (.bool true)), (17, .is (.bool true)), (21, .is (.bool false)), (14, .is (.int .i64 ((j + 1 : Nat) : Int)))], [], ?_⟩
        exact Eq.mp (by kernel_rfl) (And.intro c12 (And.intro c17 (And.intro c21 (And.intro c14 (And.intro h0 (And.intro h1 (And.intro h2 z3)))))))
      · have c21 := ne_iB j k (r := true) (by simp [h1k])
        have c26 := hix
        have c27 := hld
        have c29 : True ∧ (pfx x.v x.n x.k).length = 1 * 18 ∧ (∀ (u : Value), u ∈ pfx x.v x.n x.k → u.oneCell' = true) ∧ (woR i k (L.take j) 0).length + 1 ≤ maxLen ∧ ((woR i k (L.take j) 0).length + 1) * 32 ≤ 140737488355328 := by
          refine ⟨trivial, by rw [pfx_length], fun u hu => ?_, by unfold maxLen; omega, by omega⟩
          have := pfx_ones x.v x.n x.k
          rw [Array.all_eq_true'] at this
          exact this u (by simpa using hu)
        have h2 : [((0 : Nat), Sx.SV.val (.slice A L.length c)), (1, .val (.int .i64 (i : Int))), (2, .val (.int .i64 (k : Int))), (7, .own 2), (8, .val (.int .i64 ((j + 1 : Nat) : Int)))] = [((0 : Nat), Sx.SV.val (.slice A L.length c)), (1, .val (.int .i64 (i : Int))), (2, .val (.int .i64 (k : Int))), (7, .own 2), (8, .val (.int .i64 ((j + 1 : Nat) : Int)))] := rfl
        have z3 : [(⟨29, .own 18 ((woR i k (L.take j) 0).length + 1) (rowX (woR i k (L.take j) 0) ++ pfx x.v x.n x.k)⟩ : Sx.Row)] = woMem L i k (j + 1) := by
          unfold woMem
          rw [hw, if_pos ⟨h1i, h1k⟩]
          simp [rowX, PX.enc]
        refine ⟨[(12, .is (.bool true)), (17, .is (.bool true)), (21, .is (.bool true)), (26, .any p), (27, .any (.agg (pfx x.v x.n x.k).toArray)), (14, .is (.int .i64 ((j + 1 : Nat) : Int)))], [], ?_⟩
        exact Eq.mp (by kernel_rfl) (And.intro c12 (And.intro c17 (And.intro c21 (And.intro c26 (And.intro c27 (And.intro c29 (And.intro c14 (And.intro h0 (And.intro h1 (And.intro h2 z3))))))))))
  · have c12 : Value.bool (decide ((j : Int) < (L.length : Int))) = .bool false := by rw [decide_eq_false (by omega)]
    have he : j = L.length := by omega
    have h0 : True := trivial
    have h1 : [((7 : Nat), Sx.SV.own 0)] = [((7 : Nat), Sx.SV.own 0)] := rfl
    have z2 : woMem L i k j = woMem L i k L.length := by rw [he]
    refine ⟨[(12, .is (.bool false))], [], ?_⟩
    exact Eq.mp (by kernel_rfl) (And.intro c12 (And.intro h0 (And.intro h1 z2)))
set_option maxRecDepth 100000 in
/-- without: the row but for two places. -/
theorem without_N (L : List PX) (s : Value) (i k : Nat) (hL : L.length ≤ 1000000) (w : World) (h : Rd w 18 s L.length (rowX L)) : Calls Tryz.prog 82 #[s, .int .i64 (i : Int), .int .i64 (k : Int)] w (Sx.retPost w (.sl 29 18 (woR i k L 0).length (rowX (woR i k L 0)))) := by
  obtain ⟨_, A, c, rfl, _⟩ := id h
  have h0 : 0 ≤ L.length := Nat.zero_le _
  have e1 : woFr (.slice A L.length c) i k 0 = woFr (.slice A L.length c) i k 0 ∧ woMem L i k 0 = woMem L i k 0 := ⟨rfl, rfl⟩
  have rd2 := wo_round L A c i k hL w h (.sl 29 18 (woR i k L 0).length (rowX (woR i k L 0)))
  have z5 : Sx.Ret.sl 29 18 (woR i k (L.take L.length) 0).length (rowX (woR i k (L.take L.length) 0)) = .sl 29 18 (woR i k L 0).length (rowX (woR i k L 0)) := by rw [List.take_length]
  refine Sx.calls_own (args := [.slice A L.length c, .int .i64 (i : Int), .int .i64 (k : Int)]) [(7, .nils 29 18)] [.mk Nat 0 (fun j => j ≤ L.length) (woFr (.slice A L.length c) i k) (woMem L i k) (fun j => j + 1) (fun j => L.length + 2 - j) Unit (fun _ => True) (fun _ => [((7 : Nat), Sx.SV.own 0)]) (fun _ => woMem L i k L.length) (fun _ => ())] (by kernel_rfl) Tryz.func82 rfl (Nat.le_of_ble_eq_true rfl) ?_
  exact Eq.mp (by kernel_rfl) (And.intro h0 (And.intro e1 (And.intro rd2 (fun (x : Unit) (hx4 : True) => z5))))
end Go.Proofs.YtgpiapmbbnngpaaGreatDoor
