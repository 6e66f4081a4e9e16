/- The reference's Same, walked by reckoning: of rows that are the same. -/
import Derived.Test.YtgpiapmbbnngpaaGreatDoorPfxSm
import Derived.Test.YtgpiapmbbnngpaaGreatDoorSxM
import Derived.Test.YtgpiapmbbnngpaaGreatDoorPfxSw
import Derived.Test.YtgpiapmbbnngpaaGreatDoorPfxBk
namespace Go.Proofs.YtgpiapmbbnngpaaGreatDoor
open Go.RowKit Go.Lib Go.Sort

def saFr (s t : Value) (j : Nat) : List (Nat × Sx.SV) := [(0, .val s), (1, .val t), (5, .val (.int .i64 (j : Int)))]
set_option maxRecDepth 100000 in
theorem sa_round (L : List RP) (A B : Option Addr) (c d : Nat) (hL : L.length ≤ 1000000) (hb : ∀ p ∈ L, p.2.1 < 2 ^ 128 ∧ -9223372036854775808 ≤ p.2.2 ∧ p.2.2 ≤ 9223372036854775807) (w : World) (h : Rd w 18 (.slice A L.length c) L.length (rowP L)) (h' : Rd w 18 (.slice B L.length d) L.length (rowP L)) (j : Nat) (hj : j ≤ L.length) : ∃ H' L', Sx.ex Tryz.prog 26 w (Sx.bodyOf Tryz.f17 0) H' L' ⟨saFr (.slice A L.length c) (.slice B L.length d) j, []⟩
    (Sx.loopK (fun j => j ≤ L.length) (saFr (.slice A L.length c) (.slice B L.length d)) (fun _ => []) (fun j => j + 1) (fun j => L.length + 2 - j) (fun (_ : Unit) => True) (fun _ => []) (fun _ => []) (fun _ => ()) (Sx.outId (Sx.bodyOf Tryz.f17 0) - 1) (Sx.atEnd Tryz.prog Tryz.f17 (fun u => u = .bool true) .ret) j) := by
  by_cases hlt : j < L.length
  · obtain ⟨x, hx⟩ : ∃ x, L[j]? = some x := ⟨_, List.getElem?_eq_getElem hlt⟩
    obtain ⟨p, c19, c20⟩ := h.atP hx rfl
    obtain ⟨q, c23, c24⟩ := h'.atP hx rfl
    obtain ⟨b1, b2⟩ := hb x (List.mem_of_getElem? hx)
    have c14 : Value.bool (decide ((j : Int) < (L.length : Int))) = .bool true := by rw [decide_eq_true (by omega)]
    have c16 : Value.int .i64 (IntKind.i64.wrap ((j : Int) + 1)) = .int .i64 ((j + 1 : Nat) : Int) := iw (w64 (by omega) (by omega))
    have c25 := same29 (.tmp 20) (.tmp 24) x.1 x.2.1 x.2.2 b1 b2
    have h0 : j + 1 ≤ L.length := hlt
    have h1 : L.length + 2 - (j + 1) < L.length + 2 - j := by omega
    have h2 : saFr (.slice A L.length c) (.slice B L.length d) (j + 1) = saFr (.slice A L.length c) (.slice B L.length d) (j + 1) := rfl
    have z3 : ([] : List Sx.Row) = [] := rfl
    refine ⟨[(14, .is (.bool true)), (19, .any p), (20, .any (.agg (pfx x.1 x.2.1 x.2.2).toArray)), (23, .any q), (24, .any (.agg (pfx x.1 x.2.1 x.2.2).toArray)), (25, .bin (.bool false)), (16, .is (.int .i64 ((j + 1 : Nat) : Int)))], [], ?_⟩
    exact Eq.mp (by kernel_rfl) (And.intro c14 (And.intro c19 (And.intro c20 (And.intro c23 (And.intro c24 (And.intro c25 (And.intro c16 (And.intro h0 (And.intro h1 (And.intro h2 z3))))))))))
  · have c14 : Value.bool (decide ((j : Int) < (L.length : Int))) = .bool false := by rw [decide_eq_false (by omega)]
    have h0 : True := trivial
    have h1 : ([] : List (Nat × Sx.SV)) = [] := rfl
    have z2 : ([] : List Sx.Row) = [] := rfl
    refine ⟨[(14, .is (.bool false))], [], ?_⟩
    exact Eq.mp (by kernel_rfl) (And.intro c14 (And.intro h0 (And.intro h1 z2)))
set_option maxRecDepth 100000 in
theorem same_N (L : List RP) (s t : Value) (hL : L.length ≤ 1000000) (hb : ∀ p ∈ L, p.2.1 < 2 ^ 128 ∧ -9223372036854775808 ≤ p.2.2 ∧ p.2.2 ≤ 9223372036854775807) (w : World) (h : Rd w 18 s L.length (rowP L)) (h' : Rd w 18 t L.length (rowP L)) : Calls Tryz.prog 17 #[s, t] w fun e w' => e = .returned (.bool true) ∧ Chg [] w w' := by
  obtain ⟨_, A, c, rfl, _⟩ := id h
  obtain ⟨_, B, d, rfl, _⟩ := id h'
  have c10 : Value.bool ((L.length : Int) != (L.length : Int)) = .bool false := by simp
  have h1 : 0 ≤ L.length := Nat.zero_le _
  have h0 := h1
  have e2 : saFr (.slice A L.length c) (.slice B L.length d) 0 = saFr (.slice A L.length c) (.slice B L.length d) 0 ∧ ([] : List Sx.Row) = [] := ⟨rfl, rfl⟩
  have e1 := e2
  have rd2 := sa_round L A B c d hL hb w h h'
  have z5 : Value.bool true = .bool true := rfl
  refine Sx.calls_is (args := [.slice A L.length c, .slice B L.length d]) [(10, .is (.bool false))] [.mk Nat 0 (fun j => j ≤ L.length) (saFr (.slice A L.length c) (.slice B L.length d)) (fun _ => []) (fun j => j + 1) (fun j => L.length + 2 - j) Unit (fun _ => True) (fun _ => []) (fun _ => []) (fun _ => ())] (by kernel_rfl) Tryz.func17 rfl (Nat.le_of_ble_eq_true rfl) ?_
  exact Eq.mp (by kernel_rfl) (And.intro c10 (And.intro h0 (And.intro e1 (And.intro rd2 (fun (x : Unit) (hx4 : True) => z5)))))
end Go.Proofs.YtgpiapmbbnngpaaGreatDoor
