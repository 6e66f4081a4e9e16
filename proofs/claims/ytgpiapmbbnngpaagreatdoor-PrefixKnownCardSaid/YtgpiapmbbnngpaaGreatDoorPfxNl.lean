/- Merge of none, walked by reckoning. -/
import Derived.Test.YtgpiapmbbnngpaaGreatDoorPfxL3
import Derived.Test.YtgpiapmbbnngpaaGreatDoorSxM
namespace Go.Proofs.YtgpiapmbbnngpaaGreatDoor
open Go.RowKit Go.Lib Go.Sort

def nlFr (_ : Unit) : List (Nat × Sx.SV) := [(2, .val (.int .i64 0)), (8, .val (.int .i64 1))]
set_option maxRecDepth 100000 in
theorem ins_nil (w : World) : Calls Tryz.prog 100 #[.slice none 0 0, .int .i64 0, .int .i64 0, .func (.func 25) #[] #[]] w fun e w' => e = .returned (.tuple #[]) ∧ Chg [] w w' := by
  have h0 : True := trivial
  have e1 : nlFr () = nlFr () ∧ ([] : List Sx.Row) = [] := ⟨rfl, rfl⟩
  have rd2 : ∀ k : Unit, True → ∃ H' L', Sx.ex Tryz.prog 53 w (Sx.bodyOf Tryz.f100 0) H' L' ⟨nlFr k, []⟩ (Sx.loopK (fun (_ : Unit) => True) nlFr (fun _ => []) (fun k => k) (fun _ => 0) (fun (_ : Unit) => True) (fun _ => []) (fun _ => []) (fun _ => ()) (Sx.outId (Sx.bodyOf Tryz.f100 0) - 1) (Sx.atEnd Tryz.prog Tryz.f100 (fun v => v = .tuple #[]) .ret) k) := by
    intro k _
    have h0 : True := trivial
    have h1 : ([] : List (Nat × Sx.SV)) = [] := rfl
    have z2 : ([] : List Sx.Row) = [] := rfl
    refine ⟨[], [], ?_⟩
    exact Eq.mp (by kernel_rfl) (And.intro h0 (And.intro h1 z2))
  have z5 : Value.tuple #[] = .tuple #[] := rfl
  refine Sx.calls_is (args := [.slice none 0 0, .int .i64 0, .int .i64 0, .func (.func 25) #[] #[]]) [] [.mk Unit () (fun _ => True) nlFr (fun _ => []) (fun k => k) (fun _ => 0) Unit (fun _ => True) (fun _ => []) (fun _ => []) (fun _ => ())] (by kernel_rfl) Tryz.func100 rfl (Nat.le_of_ble_eq_true rfl) ?_
  exact Eq.mp (by kernel_rfl) (And.intro h0 (And.intro e1 (And.intro rd2 (fun (x : Unit) (hx4 : True) => z5))))
def nlFr2 (_ : Unit) : List (Nat × Sx.SV) := [(0, .val (.slice none 0 0)), (1, .val (.int .i64 0)), (2, .val (.int .i64 0)), (4, .val (.func (.func 25) #[] #[]))]
set_option maxRecDepth 100000 in
theorem pdq_nil (w : World) : Calls Tryz.prog 80 #[.slice none 0 0, .int .i64 0, .int .i64 0, .int .i64 0, .func (.func 25) #[] #[]] w fun e w' => e = .returned (.tuple #[]) ∧ Chg [] w w' := by
  have h0 : True := trivial
  have e1 : nlFr2 () = nlFr2 () ∧ ([] : List Sx.Row) = [] := ⟨rfl, rfl⟩
  have rd2 : ∀ k : Unit, True → ∃ H' L', Sx.ex Tryz.prog 148 w (Sx.bodyOf Tryz.f80 0) H' L' ⟨nlFr2 k, []⟩ (Sx.loopK (fun (_ : Unit) => True) nlFr2 (fun _ => []) (fun k => k) (fun _ => 0) (fun (_ : Unit) => False) (fun _ => []) (fun _ => []) (fun _ => ()) (Sx.outId (Sx.bodyOf Tryz.f80 0) - 1) (Sx.atEnd Tryz.prog Tryz.f80 (fun v => v = .tuple #[]) .ret) k) := by
    intro k _
    have c30 := fun W (_ : Chg [] w W) => ins_nil W
    have z0 : Value.tuple #[] = .tuple #[] := rfl
    refine ⟨[(30, .call (.tuple #[]))], [], ?_⟩
    exact Eq.mp (by kernel_rfl) (And.intro c30 z0)
  have z5 : Value.tuple #[] = .tuple #[] := rfl
  refine Sx.calls_is (args := [.slice none 0 0, .int .i64 0, .int .i64 0, .int .i64 0, .func (.func 25) #[] #[]]) [] [.mk Unit () (fun _ => True) nlFr2 (fun _ => []) (fun k => k) (fun _ => 0) Unit (fun _ => False) (fun _ => []) (fun _ => []) (fun _ => ())] (by kernel_rfl) Tryz.func80 rfl (Nat.le_of_ble_eq_true rfl) ?_
  exact Eq.mp (by kernel_rfl) (And.intro h0 (And.intro e1 (And.intro rd2 (fun (x : Unit) (hx4 : False) => z5))))
set_option maxRecDepth 100000 in
theorem sort_nil (w : World) : Calls Tryz.prog 51 #[.slice none 0 0, .func (.func 25) #[] #[]] w fun e w' => e = .returned (.tuple #[]) ∧ Chg [] w w' := by
  have c11 := fun W (_ : Chg [] w W) => (Tryz.bits_Len 0 W (by decide) (by decide)).mono fun e w' (h : e = .returned (.int .i64 (Lib.bitLen (0 : Int).toNat)) ∧ w' = W) => (show e = .returned (.int .i64 0) ∧ Chg [] W w' from ⟨h.1, h.2 ▸ Chg.refl _ _⟩)
  have c13 := fun W (_ : Chg [] w W) => pdq_nil W
  have z0 : Value.tuple #[] = .tuple #[] := rfl
  refine Sx.calls_is (args := [.slice none 0 0, .func (.func 25) #[] #[]]) [(11, .call (.int .i64 0)), (13, .call (.tuple #[]))] [] (by kernel_rfl) Tryz.func51 rfl (Nat.le_of_ble_eq_true rfl) ?_
  exact Eq.mp (by kernel_rfl) (And.intro c11 (And.intro c13 z0))
def nlFr3 (_ : Unit) : List (Nat × Sx.SV) := [(0, .val (.slice none 0 0)), (15, .val (.slice none 0 0)), (16, .val (.int .i64 0)), (17, .val (.int .i64 0))]
def nlFr4 (_ : Unit) : List (Nat × Sx.SV) := [(8, .val (.slice none 0 0)), (31, .val (.slice none 0 0)), (32, .val (.int .i64 0)), (33, .val (.int .i64 0))]
set_option maxRecDepth 100000 in
theorem merge_nil (w : World) : Calls Tryz.prog 15 #[.slice none 0 0] w fun e w' => e = .returned (.tuple #[.slice none 0 0, .int .i64 0]) ∧ Chg [] w w' := by
  have h0 : True := trivial
  have e1 : nlFr3 () = nlFr3 () ∧ ([] : List Sx.Row) = [] := ⟨rfl, rfl⟩
  have h5 : True := trivial
  have z10 : Value.tuple #[.slice none 0 0, .int .i64 0] = .tuple #[.slice none 0 0, .int .i64 0] := rfl
  have e6 : nlFr4 () = nlFr4 () ∧ ([] : List Sx.Row) = [] := ⟨rfl, rfl⟩
  have rd2 : ∀ k : Unit, True → ∃ H' L', Sx.ex Tryz.prog 84 w (Sx.bodyOf Tryz.f15 0) H' L' ⟨nlFr3 k, []⟩ (Sx.loopK (fun (_ : Unit) => True) nlFr3 (fun _ => []) (fun k => k) (fun _ => 0) (fun (_ : Unit) => True) (fun _ => [((0 : Nat), Sx.SV.val (.slice none 0 0))]) (fun _ => []) (fun _ => ()) (Sx.outId (Sx.bodyOf Tryz.f15 0) - 1) (Sx.atEnd Tryz.prog Tryz.f15 (fun v => v = .tuple #[.slice none 0 0, .int .i64 0]) .ret) k) := by
    intro k _
    have h0 : True := trivial
    have h1 : [((0 : Nat), Sx.SV.val (.slice none 0 0))] = [((0 : Nat), Sx.SV.val (.slice none 0 0))] := rfl
    have z2 : ([] : List Sx.Row) = [] := rfl
    refine ⟨[], [], ?_⟩
    exact Eq.mp (by kernel_rfl) (And.intro h0 (And.intro h1 z2))
  have rd7 : ∀ k : Unit, True → ∃ H' L', Sx.ex Tryz.prog 84 w (Sx.bodyOf Tryz.f15 1) H' L' ⟨nlFr4 k, []⟩ (Sx.loopK (fun (_ : Unit) => True) nlFr4 (fun _ => []) (fun k => k) (fun _ => 0) (fun (_ : Unit) => True) (fun _ => [((8 : Nat), Sx.SV.val (.slice none 0 0))]) (fun _ => []) (fun _ => ()) (Sx.outId (Sx.bodyOf Tryz.f15 1) - 1) (Sx.atEnd Tryz.prog Tryz.f15 (fun v => v = .tuple #[.slice none 0 0, .int .i64 0]) .ret) k) := by
    intro k _
    have h0 : True := trivial
    have h1 : [((8 : Nat), Sx.SV.val (.slice none 0 0))] = [((8 : Nat), Sx.SV.val (.slice none 0 0))] := rfl
    have z2 : ([] : List Sx.Row) = [] := rfl
    refine ⟨[], [], ?_⟩
    exact Eq.mp (by kernel_rfl) (And.intro h0 (And.intro h1 z2))
  have c28 := fun W (_ : Chg [] w W) => (clone_nil W).mono fun e w' (h : e = .returned (.slice none 0 0) ∧ w' = W) => (show e = .returned (.slice none 0 0) ∧ Chg [] W w' from ⟨h.1, h.2 ▸ Chg.refl _ _⟩)
  have c30 := fun W (_ : Chg [] w W) => sort_nil W
  refine Sx.calls_is (args := [.slice none 0 0]) [(28, .call (.slice none 0 0)), (30, .call (.tuple #[]))] [.mk Unit () (fun _ => True) nlFr3 (fun _ => []) (fun k => k) (fun _ => 0) Unit (fun _ => True) (fun _ => [((0 : Nat), Sx.SV.val (.slice none 0 0))]) (fun _ => []) (fun _ => ()), .mk Unit () (fun _ => True) nlFr4 (fun _ => []) (fun k => k) (fun _ => 0) Unit (fun _ => True) (fun _ => [((8 : Nat), Sx.SV.val (.slice none 0 0))]) (fun _ => []) (fun _ => ())] (by kernel_rfl) Tryz.func15 rfl (Nat.le_of_ble_eq_true rfl) ?_
  exact Eq.mp (by kernel_rfl) (And.intro h0 (And.intro e1 (And.intro rd2 (fun (x : Unit) (hx4 : True) => (And.intro c28 (And.intro c30 (And.intro h5 (And.intro e6 (And.intro rd7 (fun (x : Unit) (hx9 : True) => z10))))))))))
end Go.Proofs.YtgpiapmbbnngpaaGreatDoor
