/- The reference's texts of numbers and addresses, walked by reckoning: Digits, number. -/
import Derived.Test.YtgpiapmbbnngpaaGreatDoorPfxPl
import Derived.Test.YtgpiapmbbnngpaaGreatDoorSxM
import Derived.Test.YtgpiapmbbnngpaaGreatDoorPfxRefA
import Derived.Test.YtgpiapmbbnngpaaGreatDoorPfxWe
namespace Go.Proofs.YtgpiapmbbnngpaaGreatDoor
open Go.RowKit Go.Lib Go.Sort

theorem slice_str (s : ByteArray) (lo hi : Nat) (h : lo ≤ hi) (h2 : hi ≤ s.size) (W : World) : (Instr.sliceAt 9 (.string s) (some (.int .i64 lo)) (some (.int .i64 hi)) none).run Tryz.prog W = .ok (.string (s.extract lo hi)) W := by
  simp [Instr.sliceAt, run_underlying Tryz.underlying9, Instr.slice, Instr.sliceBounds, Instr.sliceBound, asIntOf, h, h2]
def signs : ByteArray := ⟨#[48, 49, 50, 51, 52, 53, 54, 55, 56, 57, 97, 98, 99, 100, 101, 102]⟩
theorem sign_at : ∀ d : Fin 16, signs.extract d.val (d.val + 1) = ⟨#[sig d.val]⟩ := by decide +kernel
theorem sign_N (d : Nat) (hd : d < 16) (W : World) : (Instr.sliceAt 9 (.string ⟨#[48, 49, 50, 51, 52, 53, 54, 55, 56, 57, 97, 98, 99, 100, 101, 102]⟩) (some (.int .i64 (d : Int))) (some (.int .i64 ((d + 1 : Nat) : Int))) none).run Tryz.prog W = .ok (.string ⟨#[sig d]⟩) W := by
  have h := slice_str signs d (d + 1) (by omega) (by show d + 1 ≤ 16; omega) W
  rw [sign_at ⟨d, hd⟩] at h
  exact h
theorem str_add (x y : Operand) (a b : List UInt8) (h : a.length + b.length ≤ 9000000000000000000) (W : World) : (do eqGuard .add 9 x y (.string ⟨a.toArray⟩) (.string ⟨b.toArray⟩); binOp .add 9 (.string ⟨a.toArray⟩) (.string ⟨b.toArray⟩) : Sem Value).run Tryz.prog W = .ok (.string ⟨(a ++ b).toArray⟩) W := by
  have e : ¬ (((⟨a.toArray⟩ : ByteArray).size + (⟨b.toArray⟩ : ByteArray).size : Nat) : Int) > IntKind.i64.max := by
    have : IntKind.i64.max = 9223372036854775807 := by decide
    rw [this]
    simp [ByteArray.size]
    omega
  show (Op.stringOp .add (⟨a.toArray⟩) (⟨b.toArray⟩)).run Tryz.prog W = _
  unfold Op.stringOp
  simp only [if_neg e]
  show Result.ok (Value.string (⟨a.toArray⟩ ++ ⟨b.toArray⟩)) W = _
  congr 2
theorem digs_len {b : Nat} (hb : 2 ≤ b) : ∀ (n : Nat), (digs b n).length ≤ n + 1 := by
  intro n
  induction n using Nat.strongRecOn with
  | _ n ih =>
    by_cases h : n < b
    · rw [digs_small h]; simp
    · rw [digs_big hb h]
      have h1 := ih (n / b) (Nat.div_lt_self (by omega) (by omega))
      have h2 : n / b ≤ n / 2 := Nat.div_le_div_left hb (by omega)
      simp only [List.length_append, List.length_cons, List.length_nil]
      omega
theorem iw {a b : Int} (h : a = b) : Value.int .i64 a = .int .i64 b := by rw [h]
theorem w64 {a : Int} (h0 : -9223372036854775808 ≤ a) (h1 : a ≤ 9223372036854775807) : IntKind.i64.wrap a = a := IntWalk.i64_in _ ⟨h0, h1⟩
set_option maxRecDepth 100000 in
theorem rdigits_N (b : Nat) (hb : b = 10 ∨ b = 16) : ∀ (n : Nat), n ≤ 4000000000000000000 → ∀ w, Calls Tryz.prog 68 #[.int .i64 (n : Int), .int .i64 (b : Int)] w fun e w' => e = .returned (.string ⟨(digs b n).toArray⟩) ∧ Chg [] w w' := by
  intro n
  induction n using Nat.strongRecOn with
  | _ n ih =>
    intro hn w
    by_cases h : n < b
    · have c7 : Value.bool (decide ((n : Int) < (b : Int))) = .bool true := by rw [decide_eq_true (by omega)]
      have c10 : Value.int .i64 (IntKind.i64.wrap ((n : Int) + 1)) = .int .i64 ((n + 1 : Nat) : Int) := iw (by rw [w64 (by omega) (by omega)]; rfl)
      have c11 := sign_N n (by omega)
      have z0 : Value.string ⟨#[sig n]⟩ = .string ⟨(digs b n).toArray⟩ := by rw [digs_small h]
      refine Sx.calls_is (args := [.int .i64 (n : Int), .int .i64 (b : Int)]) [(7, .is (.bool true)), (10, .is (.int .i64 ((n + 1 : Nat) : Int))), (11, .bin (.string ⟨#[sig n]⟩))] [] (by kernel_rfl) Tryz.func68 rfl (Nat.le_of_ble_eq_true rfl) ?_
      exact Eq.mp (by kernel_rfl) (And.intro c7 (And.intro c10 (And.intro c11 z0)))
    · have c7 : Value.bool (decide ((n : Int) < (b : Int))) = .bool false := by rw [decide_eq_false (by omega)]
      have hq : n / b ≤ n / 2 := Nat.div_le_div_left (by omega) (by omega)
      have hm : n % b < b := Nat.mod_lt _ (by omega)
      have c16 := fun W (_ : Chg [] w W) => ih (n / b) (Nat.div_lt_self (by omega) (by omega)) (by omega) W
      have c24 := sign_N (n % b) (by omega)
      have c23 : Value.int .i64 (IntKind.i64.wrap (((n % b : Nat) : Int) + 1)) = .int .i64 ((n % b + 1 : Nat) : Int) := iw (by rw [w64 (by omega) (by omega)]; rfl)
      have hl := digs_len (b := b) (by omega) (n / b)
      have c25 := str_add (.tmp 16) (.tmp 24) (digs b (n / b)) [sig (n % b)] (by simp only [List.length_cons, List.length_nil]; omega)
      have z0 : Value.string ⟨(digs b (n / b) ++ [sig (n % b)]).toArray⟩ = .string ⟨(digs b n).toArray⟩ := by rw [digs_big (by omega) h]
      have ed : ((n : Int).tdiv (b : Int)) = ((n / b : Nat) : Int) := by rw [Int.tdiv_eq_ediv_of_nonneg (by omega)]; rfl
      have em : ((n : Int).tmod (b : Int)) = ((n % b : Nat) : Int) := by rw [Int.tmod_eq_emod_of_nonneg (by omega)]; rfl
      rcases hb with rfl | rfl
      · have c14 : Value.int .i64 (IntKind.i64.wrap ((n : Int).tdiv 10)) = .int .i64 ((n / 10 : Nat) : Int) := iw (by rw [show ((10 : Int)) = ((10 : Nat) : Int) from rfl, ed, w64 (by omega) (by omega)])
        have c19 : Value.int .i64 ((n : Int).tmod 10) = .int .i64 ((n % 10 : Nat) : Int) := iw em
        have c22 := c19
        refine Sx.calls_is (args := [.int .i64 (n : Int), .int .i64 ((10 : Nat) : Int)]) [(7, .is (.bool false)), (14, .is (.int .i64 ((n / 10 : Nat) : Int))), (16, .call (.string ⟨(digs 10 (n / 10)).toArray⟩)), (19, .is (.int .i64 ((n % 10 : Nat) : Int))), (22, .is (.int .i64 ((n % 10 : Nat) : Int))), (23, .is (.int .i64 ((n % 10 + 1 : Nat) : Int))), (24, .bin (.string ⟨#[sig (n % 10)]⟩)), (25, .bin (.string ⟨(digs 10 (n / 10) ++ [sig (n % 10)]).toArray⟩))] [] (by kernel_rfl) Tryz.func68 rfl (Nat.le_of_ble_eq_true rfl) ?_
        exact Eq.mp (by kernel_rfl) (And.intro c7 (And.intro c14 (And.intro c16 (And.intro c19 (And.intro c22 (And.intro c23 (And.intro c24 (And.intro c25 z0))))))))
      · have c14 : Value.int .i64 (IntKind.i64.wrap ((n : Int).tdiv 16)) = .int .i64 ((n / 16 : Nat) : Int) := iw (by rw [show ((16 : Int)) = ((16 : Nat) : Int) from rfl, ed, w64 (by omega) (by omega)])
        have c19 : Value.int .i64 ((n : Int).tmod 16) = .int .i64 ((n % 16 : Nat) : Int) := iw em
        have c22 := c19
        refine Sx.calls_is (args := [.int .i64 (n : Int), .int .i64 ((16 : Nat) : Int)]) [(7, .is (.bool false)), (14, .is (.int .i64 ((n / 16 : Nat) : Int))), (16, .call (.string ⟨(digs 16 (n / 16)).toArray⟩)), (19, .is (.int .i64 ((n % 16 : Nat) : Int))), (22, .is (.int .i64 ((n % 16 : Nat) : Int))), (23, .is (.int .i64 ((n % 16 + 1 : Nat) : Int))), (24, .bin (.string ⟨#[sig (n % 16)]⟩)), (25, .bin (.string ⟨(digs 16 (n / 16) ++ [sig (n % 16)]).toArray⟩))] [] (by kernel_rfl) Tryz.func68 rfl (Nat.le_of_ble_eq_true rfl) ?_
        exact Eq.mp (by kernel_rfl) (And.intro c7 (And.intro c14 (And.intro c16 (And.intro c19 (And.intro c22 (And.intro c23 (And.intro c24 (And.intro c25 z0))))))))
theorem at_byte (v : Bool) (n j : Nat) (hj : j < 16) : (adr v n)[1 + j]? = some (.int .u8 (byteAt n j : Int)) := adrV_byte v (byteAt n) j hj
theorem byte_i (n j : Nat) : (0 : Int) ≤ (byteAt n j : Int) ∧ (byteAt n j : Int) ≤ 255 := by have := byteAt_lt n j; omega
set_option maxRecDepth 100000 in
theorem number_N (v : Bool) (n i : Nat) (hi : i < 8) (w : World) : Calls Tryz.prog 70 #[.agg (adr v n).toArray, .int .i64 (i : Int)] w fun e w' => e = .returned (.int .i64 (grp n i : Nat)) ∧ Chg [] w w' := by
  obtain ⟨a0, a1⟩ := byte_i n (2 * i)
  obtain ⟨b0, b1⟩ := byte_i n (2 * i + 1)
  have c6 : Value.int .i64 (IntKind.i64.wrap (2 * (i : Int))) = .int .i64 ((2 * i : Nat) : Int) := iw (by rw [w64 (by omega) (by omega)]; rfl)
  have c8 : (0 : Int) ≤ ((2 * i : Nat) : Int) ∧ ((2 * i : Nat) : Int) < ((16 : Nat) : Int) := by omega
  have c9 : (adr v n)[1 + ((2 * i : Nat) : Int).toNat * 1]? = some (.int .u8 (byteAt n (2 * i) : Int)) := by rw [Int.toNat_natCast, Nat.mul_one]; exact at_byte v n _ (by omega)
  have c10 : Value.int .i64 (IntKind.i64.wrap (byteAt n (2 * i) : Int)) = .int .i64 (byteAt n (2 * i) : Int) := iw (w64 (by omega) (by omega))
  have c11 : Value.int .i64 (IntKind.i64.wrap ((byteAt n (2 * i) : Int) * 256)) = .int .i64 ((byteAt n (2 * i) : Int) * 256) := iw (w64 (by omega) (by omega))
  have c13 := c6
  have c14 : Value.int .i64 (IntKind.i64.wrap (((2 * i : Nat) : Int) + 1)) = .int .i64 ((2 * i + 1 : Nat) : Int) := iw (by rw [w64 (by omega) (by omega)]; rfl)
  have c16 : (0 : Int) ≤ ((2 * i + 1 : Nat) : Int) ∧ ((2 * i + 1 : Nat) : Int) < ((16 : Nat) : Int) := by omega
  have c17 : (adr v n)[1 + ((2 * i + 1 : Nat) : Int).toNat * 1]? = some (.int .u8 (byteAt n (2 * i + 1) : Int)) := by rw [Int.toNat_natCast, Nat.mul_one]; exact at_byte v n _ (by omega)
  have c18 : Value.int .i64 (IntKind.i64.wrap (byteAt n (2 * i + 1) : Int)) = .int .i64 (byteAt n (2 * i + 1) : Int) := iw (w64 (by omega) (by omega))
  have c19 : Value.int .i64 (IntKind.i64.wrap ((byteAt n (2 * i) : Int) * 256 + (byteAt n (2 * i + 1) : Int))) = .int .i64 (grp n i : Nat) := iw (by rw [w64 (by omega) (by omega)]; unfold grp; omega)
  have z0 : Value.int .i64 (grp n i : Nat) = .int .i64 (grp n i : Nat) := rfl
  refine Sx.calls_is (args := [.agg (adr v n).toArray, .int .i64 (i : Int)]) [(6, .is (.int .i64 ((2 * i : Nat) : Int))), (8, .ix), (9, .ld (.int .u8 (byteAt n (2 * i) : Int))), (10, .is (.int .i64 (byteAt n (2 * i) : Int))), (11, .is (.int .i64 ((byteAt n (2 * i) : Int) * 256))), (13, .is (.int .i64 ((2 * i : Nat) : Int))), (14, .is (.int .i64 ((2 * i + 1 : Nat) : Int))), (16, .ix), (17, .ld (.int .u8 (byteAt n (2 * i + 1) : Int))), (18, .is (.int .i64 (byteAt n (2 * i + 1) : Int))), (19, .is (.int .i64 (grp n i : Nat)))] [] (by kernel_rfl) Tryz.func70 rfl (Nat.le_of_ble_eq_true rfl) ?_
  exact Eq.mp (by kernel_rfl) (And.intro c6 (And.intro c8 (And.intro c9 (And.intro c10 (And.intro c11 (And.intro c13 (And.intro c14 (And.intro c16 (And.intro c17 (And.intro c18 (And.intro c19 z0)))))))))))
/-! ### The longest row of noughts -/
def runI (n i : Nat) : Nat := runZ ((zs (grps n)).drop i)
theorem runI_le (n i : Nat) (hi : i ≤ 8) : i + runI n i ≤ 8 := by
  have := runZ_le ((zs (grps n)).drop i)
  have e : ((zs (grps n)).drop i).length = 8 - i := by simp [zs, grps]
  unfold runI; omega
theorem zsg_at (n j : Nat) (hj : j < 8) : (zs (grps n))[j]? = some (grp n j == 0) := by
  match j, hj with
  | 0, _ => rfl
  | 1, _ => rfl
  | 2, _ => rfl
  | 3, _ => rfl
  | 4, _ => rfl
  | 5, _ => rfl
  | 6, _ => rfl
  | 7, _ => rfl
theorem runZ_at : ∀ (l : List Bool) (m : Nat), m < runZ l → l[m]? = some true
  | true :: l, 0, _ => rfl
  | true :: l, m + 1, h => by simpa using runZ_at l m (by simpa [runZ] using h)
  | false :: l, m, h => by simp [runZ] at h
  | [], m, h => by simp [runZ] at h
theorem runZ_end : ∀ (l : List Bool), runZ l < l.length → l[runZ l]? = some false
  | true :: l, h => by simpa [runZ] using runZ_end l (by simpa [runZ] using h)
  | false :: l, _ => rfl
  | [], h => by simp at h
theorem run_in {n i m : Nat} (h : m < runI n i) (h8 : i + m < 8) : grp n (i + m) = 0 := by
  have := runZ_at _ m h
  rw [List.getElem?_drop, zsg_at n (i + m) h8] at this
  simpa using this
theorem run_out {n i : Nat} (h8 : i + runI n i < 8) : grp n (i + runI n i) ≠ 0 := by
  have := runZ_end ((zs (grps n)).drop i) (by simp [zs, grps]; exact Nat.lt_sub_of_add_lt (by rw [Nat.add_comm]; exact h8))
  rw [List.getElem?_drop, show i + runZ ((zs (grps n)).drop i) = i + runI n i from rfl, zsg_at n _ h8] at this
  simpa using this

structure RowS where
  i : Nat
  a : Nat
  l : Nat
structure RowR (n : Nat) (k : RowS) : Prop where
  i8 : k.i ≤ 8
  a8 : k.a ≤ 8
  l8 : k.l ≤ 8
  rest : rowF (zs (grps n)) (8 - k.i) k.i k.a k.l = rowN (zs (grps n))
def rowNext (n : Nat) (k : RowS) : RowS := ⟨k.i + 1, if runI n k.i > k.l then k.i else k.a, if runI n k.i > k.l then runI n k.i else k.l⟩
def rowFr (k : RowS) : List (Nat × Sx.SV) := [(1, .ptr 0 0), (4, .val (.int .i64 (k.a : Int))), (5, .val (.int .i64 (k.l : Int))), (6, .val (.int .i64 (k.i : Int)))]
def rowMem (v : Bool) (n : Nat) : List Sx.Row := [⟨24, .vals (adr v n)⟩]
def rowOut (n : Nat) : List (Nat × Sx.SV) := [(4, .val (.int .i64 ((rowN (zs (grps n))).1 : Int))), (5, .val (.int .i64 ((rowN (zs (grps n))).2 : Int)))]
def rowFr2 (k : RowS) (m : Nat) : List (Nat × Sx.SV) := (7, .val (.int .i64 (m : Int))) :: rowFr k
def rowL2 (v : Bool) (n : Nat) (k : RowS) : Sx.Loop := .mk Nat 0 (fun m => m ≤ runI n k.i) (rowFr2 k) (fun _ => rowMem v n) (fun m => m + 1) (fun m => 8 - m) Unit (fun _ => True) (fun _ => rowFr2 k (runI n k.i)) (fun _ => rowMem v n) (fun _ => ())
def rowL (v : Bool) (n : Nat) : Sx.Loop := .mk RowS ⟨0, 0, 0⟩ (RowR n) rowFr (fun _ => rowMem v n) (rowNext n) (fun k => 8 - k.i) Unit (fun _ => True) (fun _ => rowOut n) (fun _ => rowMem v n) (fun _ => ())
theorem rowR_next {n : Nat} {k : RowS} (h : RowR n k) (hi : k.i < 8) : RowR n (rowNext n k) := by
  have hr := runI_le n k.i (by omega)
  refine ⟨by show k.i + 1 ≤ 8; omega, ?_, ?_, ?_⟩
  · show (if runI n k.i > k.l then k.i else k.a) ≤ 8
    have := h.a8
    split <;> omega
  · show (if runI n k.i > k.l then runI n k.i else k.l) ≤ 8
    have := h.l8
    split <;> omega
  · rw [← h.rest]
    show rowF _ (8 - (k.i + 1)) (k.i + 1) (if runI n k.i > k.l then k.i else k.a) (if runI n k.i > k.l then runI n k.i else k.l) = _
    rw [show 8 - k.i = (8 - (k.i + 1)) + 1 by omega, rowF]
    unfold runI
    by_cases hc : runZ ((zs (grps n)).drop k.i) > k.l
    · rw [if_pos hc, if_pos hc, if_pos hc]
    · rw [if_neg hc, if_neg hc, if_neg hc]
theorem rowR_end {n : Nat} {k : RowS} (h : RowR n k) (hi : k.i = 8) : (rowN (zs (grps n))) = (k.a, k.l) := by
  have := h.rest
  rw [hi] at this
  exact this.symm
theorem bz {a b : Bool} (h : a = b) : Value.bool a = .bool b := by rw [h]
section
variable {v : Bool} {n : Nat} {w : World} {Kr : Sx.St → Prop}
set_option maxRecDepth 100000 in
theorem row_in (k : RowS) (hi : k.i < 8) (m : Nat) (hm : m ≤ runI n k.i) : ∃ H' L', Sx.ex Tryz.prog 33 w (Sx.inBody (Sx.bodyOf Tryz.f69 0) 0) H' L' ⟨rowFr2 k m, rowMem v n⟩ (Sx.loopK (fun m => m ≤ runI n k.i) (rowFr2 k) (fun _ => rowMem v n) (fun m => m + 1) (fun m => 8 - m) (fun _ => True) (fun _ => rowFr2 k (runI n k.i)) (fun _ => rowMem v n) (fun _ => ()) 2 Kr m) := by
  have hr := runI_le n k.i (by omega)
  have e14 : IntKind.i64.wrap ((k.i : Int) + (m : Int)) = ((k.i + m : Nat) : Int) := by rw [w64 (by omega) (by omega)]; rfl
  have c14 : Value.int .i64 (IntKind.i64.wrap ((k.i : Int) + (m : Int))) = .int .i64 ((k.i + m : Nat) : Int) := iw e14
  by_cases h8 : k.i + m < 8
  · have c15 : Value.bool (decide (((k.i + m : Nat) : Int) < 8)) = .bool true := bz (decide_eq_true (by omega))
    have c20 := c14
    have c21 := fun W (_ : Chg [] w W) => number_N v n (k.i + m) h8 W
    by_cases hlt : m < runI n k.i
    · rw [run_in hlt h8] at c21
      have c25 : Value.int .i64 (IntKind.i64.wrap ((m : Int) + 1)) = .int .i64 ((m + 1 : Nat) : Int) := iw (by rw [w64 (by omega) (by omega)]; rfl)
      have h0 : m + 1 ≤ runI n k.i := hlt
      have h1 : 8 - (m + 1) < 8 - m := by omega
      refine ⟨[(14, .is (.int .i64 ((k.i + m : Nat) : Int))), (15, .is (.bool true)), (20, .is (.int .i64 ((k.i + m : Nat) : Int))), (21, .call (.int .i64 ((0 : Nat) : Int))), (25, .is (.int .i64 ((m + 1 : Nat) : Int)))], [], ?_⟩
      have h2 : rowFr2 k (m + 1) = rowFr2 k (m + 1) := rfl
      have z3 : rowMem v n = rowMem v n := rfl
      exact Eq.mp (by kernel_rfl) (And.intro c14 (And.intro c15 (And.intro c20 (And.intro c21 (And.intro c25 (And.intro h0 (And.intro h1 (And.intro h2 z3))))))))
    · have e : m = runI n k.i := by omega
      have hne := run_out (n := n) (i := k.i) (by omega)
      rw [← e] at hne
      have c22 : Value.bool (((grp n (k.i + m) : Nat) : Int) == 0) = .bool false := bz (beq_eq_false_iff_ne.2 (by omega))
      refine ⟨[(14, .is (.int .i64 ((k.i + m : Nat) : Int))), (15, .is (.bool true)), (20, .is (.int .i64 ((k.i + m : Nat) : Int))), (21, .call (.int .i64 (grp n (k.i + m) : Nat))), (22, .is (.bool false))], [], ?_⟩
      have h0 : True := trivial
      have h1 : rowFr2 k m = rowFr2 k (runI n k.i) := congrArg (rowFr2 k) e
      have z2 : rowMem v n = rowMem v n := rfl
      exact Eq.mp (by kernel_rfl) (And.intro c14 (And.intro c15 (And.intro c20 (And.intro c21 (And.intro c22 (And.intro h0 (And.intro h1 z2)))))))
  · have c15 : Value.bool (decide (((k.i + m : Nat) : Int) < 8)) = .bool false := bz (decide_eq_false (by omega))
    refine ⟨[(14, .is (.int .i64 ((k.i + m : Nat) : Int))), (15, .is (.bool false))], [], ?_⟩
    have h0 : True := trivial
    have h1 : rowFr2 k m = rowFr2 k (runI n k.i) := congrArg (rowFr2 k) (by omega)
    have z2 : rowMem v n = rowMem v n := rfl
    exact Eq.mp (by kernel_rfl) (And.intro c14 (And.intro c15 (And.intro h0 (And.intro h1 z2))))
set_option maxRecDepth 100000 in
theorem row_out (k : RowS) (hk : RowR n k) : ∃ H' L', Sx.ex Tryz.prog 33 w (Sx.bodyOf Tryz.f69 0) H' L' ⟨rowFr k, rowMem v n⟩ (Sx.loopK (RowR n) rowFr (fun _ => rowMem v n) (rowNext n) (fun k => 8 - k.i) (fun _ => True) (fun _ => rowOut n) (fun _ => rowMem v n) (fun _ => ()) 0 Kr k) := by
  have i8 := hk.i8
  have a8 := hk.a8
  have l8 := hk.l8
  by_cases hi : k.i < 8
  · have hr := runI_le n k.i (by omega)
    have c9 : Value.bool (decide ((k.i : Int) < 8)) = .bool true := bz (decide_eq_true (by omega))
    have c11 : Value.int .i64 (IntKind.i64.wrap ((k.i : Int) + 1)) = .int .i64 ((k.i + 1 : Nat) : Int) := iw (by rw [w64 (by omega) (by omega)]; rfl)
    have h0 : 0 ≤ runI n k.i := Nat.zero_le _
    have e1 : rowFr2 k 0 = rowFr2 k 0 ∧ rowMem v n = rowMem v n := ⟨rfl, rfl⟩
    have rd2 := fun (m : Nat) (hm : m ≤ runI n k.i) => row_in (v := v) (w := w) (Kr := Kr) k hi m hm
    have hnext := rowR_next hk hi
    have hmu : 8 - (rowNext n k).i < 8 - k.i := by show 8 - (k.i + 1) < 8 - k.i; omega
    have hz : rowMem v n = rowMem v n := rfl
    by_cases hc : runI n k.i > k.l
    · have c28 : Value.bool (decide (((runI n k.i : Nat) : Int) > (k.l : Int))) = .bool true := bz (decide_eq_true (by omega))
      have hf : rowFr ⟨k.i + 1, k.i, runI n k.i⟩ = rowFr (rowNext n k) := by unfold rowNext; rw [if_pos hc, if_pos hc]
      refine ⟨[(9, .is (.bool true)), (11, .is (.int .i64 ((k.i + 1 : Nat) : Int))), (28, .is (.bool true))], [rowL2 v n k], ?_⟩
      have e1 : rowFr2 k 0 = rowFr2 k 0 ∧ rowMem v n = rowMem v n := ⟨rfl, rfl⟩
      have h5 := hnext
      have h6 := hmu
      have h7 := hf
      have z8 : rowMem v n = rowMem v n := rfl
      exact Eq.mp (by kernel_rfl) (And.intro c9 (And.intro h0 (And.intro e1 (And.intro rd2 (fun (x : Unit) (hx4 : True) => (And.intro c28 (And.intro c11 (And.intro h5 (And.intro h6 (And.intro h7 z8))))))))))
    · have c28 : Value.bool (decide (((runI n k.i : Nat) : Int) > (k.l : Int))) = .bool false := bz (decide_eq_false (by omega))
      have hf : rowFr ⟨k.i + 1, k.a, k.l⟩ = rowFr (rowNext n k) := by unfold rowNext; rw [if_neg hc, if_neg hc]
      refine ⟨[(9, .is (.bool true)), (11, .is (.int .i64 ((k.i + 1 : Nat) : Int))), (28, .is (.bool false))], [rowL2 v n k], ?_⟩
      have e1 : rowFr2 k 0 = rowFr2 k 0 ∧ rowMem v n = rowMem v n := ⟨rfl, rfl⟩
      have h5 := hnext
      have h6 := hmu
      have h7 := hf
      have z8 : rowMem v n = rowMem v n := rfl
      exact Eq.mp (by kernel_rfl) (And.intro c9 (And.intro h0 (And.intro e1 (And.intro rd2 (fun (x : Unit) (hx4 : True) => (And.intro c28 (And.intro c11 (And.intro h5 (And.intro h6 (And.intro h7 z8))))))))))
  · have c9 : Value.bool (decide ((k.i : Int) < 8)) = .bool false := bz (decide_eq_false (by omega))
    have he := rowR_end hk (by omega)
    have h0 : True := trivial
    have h1 : [(4, Sx.SV.val (.int .i64 (k.a : Int))), (5, Sx.SV.val (.int .i64 (k.l : Int)))] = rowOut n := by unfold rowOut; rw [he]
    have z2 : rowMem v n = rowMem v n := rfl
    refine ⟨[(9, .is (.bool false))], [], ?_⟩
    exact Eq.mp (by kernel_rfl) (And.intro c9 (And.intro h0 (And.intro h1 z2)))
set_option maxRecDepth 100000 in
theorem row_N (v : Bool) (n : Nat) (w : World) : Calls Tryz.prog 69 #[.agg (adr v n).toArray] w fun e w' => e = .returned (.tuple #[.int .i64 ((rowN (zs (grps n))).1 : Int), .int .i64 ((rowN (zs (grps n))).2 : Int)]) ∧ Chg [] w w' := by
  refine Sx.calls_is (args := [.agg (adr v n).toArray]) [] [rowL v n] (by kernel_rfl) Tryz.func69 rfl (Nat.le_of_ble_eq_true rfl) ?_
  have h0 : RowR n ⟨0, 0, 0⟩ := ⟨by simp, by simp, by simp, rfl⟩
  have e1 : rowFr ⟨0, 0, 0⟩ = rowFr ⟨0, 0, 0⟩ ∧ rowMem v n = rowMem v n := ⟨rfl, rfl⟩
  have rd2 := fun (k : RowS) (hk : RowR n k) => row_out (v := v) (w := w) (Kr := Sx.atEnd Tryz.prog Tryz.f69 (fun u => u = .tuple #[.int .i64 ((rowN (zs (grps n))).1 : Int), .int .i64 ((rowN (zs (grps n))).2 : Int)]) .ret) k hk
  have z5 : Value.tuple #[.int .i64 ((rowN (zs (grps n))).1 : Int), .int .i64 ((rowN (zs (grps n))).2 : Int)] = .tuple #[.int .i64 ((rowN (zs (grps n))).1 : Int), .int .i64 ((rowN (zs (grps n))).2 : Int)] := rfl
  exact Eq.mp (by kernel_rfl) (And.intro h0 (And.intro e1 (And.intro rd2 (fun (x : Unit) (hx4 : True) => z5))))
end

/-! ### AddrText, Text -/
set_option maxRecDepth 100000 in
theorem raddr_bad {v : Bool} {n : Nat} (hn : n < 2 ^ 128) (h : okA v n = false) (w : World) : Calls Tryz.prog 37 #[.agg (adr v n).toArray] w fun e w' => e = .returned (.tuple #[.string ⟨#[]⟩, .int .i64 150]) ∧ Chg [] w w' := by
  have c9 := fun W (_ : Chg [] w W) => rcheckAddr_N v n hn W
  rw [show errA v n = 150 by unfold errA; rw [h]; rfl] at c9
  have z0 : Value.tuple #[.string ⟨#[]⟩, .int .i64 150] = .tuple #[.string ⟨#[]⟩, .int .i64 150] := rfl
  refine Sx.calls_is (args := [.agg (adr v n).toArray]) [(9, .call (.int .i64 150))] [] (by kernel_rfl) Tryz.func37 rfl (Nat.le_of_ble_eq_true rfl) ?_
  exact Eq.mp (by kernel_rfl) (And.intro c9 z0)
theorem u8w (n j : Nat) : Value.int .i64 (IntKind.i64.wrap (byteAt n j : Int)) = .int .i64 ((byteAt n j : Nat) : Int) := iw (by have := byteAt_lt n j; exact w64 (by omega) (by omega))
set_option maxRecDepth 100000 in
theorem raddr_4 {n : Nat} (hn : n < 2 ^ 128) (h : okA false n = true) (w : World) : Calls Tryz.prog 37 #[.agg (adr false n).toArray] w fun e w' => e = .returned (.tuple #[.string ⟨(text4 n).toArray⟩, .int .i64 0]) ∧ Chg [] w w' := by
  have c9 := fun W (_ : Chg [] w W) => rcheckAddr_N false n hn W
  rw [show errA false n = 0 by unfold errA; rw [h]; rfl] at c9
  have d := fun j => digs10_len (u := byteAt n j) (by have := byteAt_lt n j; omega)
  have dn := fun j W (_ : Chg [] w W) => rdigits_N 10 (.inl rfl) (byteAt n j) (by have := byteAt_lt n j; omega) W
  have c17 := u8w n 0
  have c23 := u8w n 1
  have c30 := u8w n 2
  have c37 := u8w n 3
  have c18 := dn 0
  have c24 := dn 1
  have c31 := dn 2
  have c38 := dn 3
  obtain ⟨d0, h0⟩ : ∃ x, x = digs 10 (byteAt n 0) := ⟨_, rfl⟩
  obtain ⟨d1, h1⟩ : ∃ x, x = digs 10 (byteAt n 1) := ⟨_, rfl⟩
  obtain ⟨d2, h2⟩ : ∃ x, x = digs 10 (byteAt n 2) := ⟨_, rfl⟩
  obtain ⟨d3, h3⟩ : ∃ x, x = digs 10 (byteAt n 3) := ⟨_, rfl⟩
  have l0 := d 0
  have l1 := d 1
  have l2 := d 2
  have l3 := d 3
  rw [← h0] at c18 l0
  rw [← h1] at c24 l1
  rw [← h2] at c31 l2
  rw [← h3] at c38 l3
  have c19 := str_add (.tmp 18) (.const (.string ⟨#[46]⟩)) d0 [46] (by simp only [List.length_cons, List.length_nil]; omega)
  have c25 := str_add (.tmp 19) (.tmp 24) (d0 ++ [46]) d1 (by simp only [List.length_append, List.length_cons, List.length_nil]; omega)
  have c26 := str_add (.tmp 25) (.const (.string ⟨#[46]⟩)) (d0 ++ [46] ++ d1) [46] (by simp only [List.length_append, List.length_cons, List.length_nil]; omega)
  have c32 := str_add (.tmp 26) (.tmp 31) (d0 ++ [46] ++ d1 ++ [46]) d2 (by simp only [List.length_append, List.length_cons, List.length_nil]; omega)
  have c33 := str_add (.tmp 32) (.const (.string ⟨#[46]⟩)) (d0 ++ [46] ++ d1 ++ [46] ++ d2) [46] (by simp only [List.length_append, List.length_cons, List.length_nil]; omega)
  have c39 := str_add (.tmp 33) (.tmp 38) (d0 ++ [46] ++ d1 ++ [46] ++ d2 ++ [46]) d3 (by simp only [List.length_append, List.length_cons, List.length_nil]; omega)
  have e : d0 ++ [46] ++ d1 ++ [46] ++ d2 ++ [46] ++ d3 = text4 n := by
    unfold text4
    rw [← h0, ← h1, ← h2, ← h3]
    simp [joinC]
  have z0 : Value.tuple #[.string ⟨(d0 ++ [46] ++ d1 ++ [46] ++ d2 ++ [46] ++ d3).toArray⟩, .int .i64 0] = .tuple #[.string ⟨(text4 n).toArray⟩, .int .i64 0] := by rw [e]
  refine Sx.calls_is (args := [.agg (adr false n).toArray]) [(9, .call (.int .i64 0)), (17, .is (.int .i64 ((byteAt n 0 : Nat) : Int))), (18, .call (.string ⟨d0.toArray⟩)), (19, .bin (.string ⟨(d0 ++ [46]).toArray⟩)), (23, .is (.int .i64 ((byteAt n 1 : Nat) : Int))), (24, .call (.string ⟨d1.toArray⟩)), (25, .bin (.string ⟨(d0 ++ [46] ++ d1).toArray⟩)), (26, .bin (.string ⟨(d0 ++ [46] ++ d1 ++ [46]).toArray⟩)), (30, .is (.int .i64 ((byteAt n 2 : Nat) : Int))), (31, .call (.string ⟨d2.toArray⟩)), (32, .bin (.string ⟨(d0 ++ [46] ++ d1 ++ [46] ++ d2).toArray⟩)), (33, .bin (.string ⟨(d0 ++ [46] ++ d1 ++ [46] ++ d2 ++ [46]).toArray⟩)), (37, .is (.int .i64 ((byteAt n 3 : Nat) : Int))), (38, .call (.string ⟨d3.toArray⟩)), (39, .bin (.string ⟨(d0 ++ [46] ++ d1 ++ [46] ++ d2 ++ [46] ++ d3).toArray⟩))] [] (by kernel_rfl) Tryz.func37 rfl (Nat.le_of_ble_eq_true rfl) ?_
  exact Eq.mp (by kernel_rfl) (And.intro c9 (And.intro c17 (And.intro c18 (And.intro c19 (And.intro c23 (And.intro c24 (And.intro c25 (And.intro c26 (And.intro c30 (And.intro c31 (And.intro c32 (And.intro c33 (And.intro c37 (And.intro c38 (And.intro c39 z0)))))))))))))))
def preR (n a k i : Nat) : List UInt8 := (List.range i).flatMap fun j => bitR a k j (digs 16 (grp n j))
theorem preR_succ (n a k i : Nat) : preR n a k (i + 1) = preR n a k i ++ bitR a k i (digs 16 (grp n i)) := by
  unfold preR; rw [List.range_succ, List.flatMap_append]; simp
theorem preR_8 (n a k : Nat) : preR n a k 8 = textR a k (grps n) 0 := by
  unfold preR grps
  simp [textR, List.range, List.range.loop]
theorem bitR_len (n a k i : Nat) : (bitR a k i (digs 16 (grp n i))).length ≤ 7 := by
  have := digs16_len (grp_lt n i)
  unfold bitR
  simp only [List.length_append]
  split <;> split <;> (try split) <;> simp <;> omega
theorem preR_len (n a k : Nat) : ∀ i, (preR n a k i).length ≤ 7 * i
  | 0 => by simp [preR]
  | i + 1 => by
    have h1 := preR_len n a k i
    have h2 := bitR_len n a k i
    rw [preR_succ, List.length_append]; omega
def txFr (n a k i : Nat) : List (Nat × Sx.SV) := [(1, .ptr 0 0), (4, .val (.int .i64 (a : Int))), (5, .val (.int .i64 (k : Int))), (6, .val (.string ⟨(preR n a k i).toArray⟩)), (7, .val (.int .i64 (i : Int)))]
def txS (a k i : Nat) (s : List UInt8) : List (Nat × Sx.SV) := [(1, .ptr 0 0), (4, .val (.int .i64 (a : Int))), (5, .val (.int .i64 (k : Int))), (6, .val (.string ⟨s.toArray⟩)), (7, .val (.int .i64 (i : Int)))]
def txOut (n a k : Nat) : List (Nat × Sx.SV) := [(6, .val (.string ⟨(preR n a k 8).toArray⟩))]
def txL (n a k : Nat) : Sx.Loop := .mk Nat 0 (fun i => i ≤ 8) (txFr n a k) (fun _ => rowMem true n) (fun i => i + 1) (fun i => 8 - i) Unit (fun _ => True) (fun _ => txOut n a k) (fun _ => rowMem true n) (fun _ => ())
theorem txS_eq {n a k i : Nat} {s : List UInt8} (h : s = preR n a k i) : txS a k i s = txFr n a k i := by rw [h]; rfl
section
variable {n a k : Nat} {w : World} {Kr : Sx.St → Prop}
set_option maxRecDepth 100000 in
theorem tx_round (ha : a ≤ 8) (hk : k ≤ 8) (i : Nat) (hi : i ≤ 8) : ∃ H' L', Sx.ex Tryz.prog 95 w (Sx.bodyOf Tryz.f37 0) H' L' ⟨txFr n a k i, rowMem true n⟩ (Sx.loopK (fun i => i ≤ 8) (txFr n a k) (fun _ => rowMem true n) (fun i => i + 1) (fun i => 8 - i) (fun _ => True) (fun _ => txOut n a k) (fun _ => rowMem true n) (fun _ => ()) 0 Kr i) := by
  by_cases h8 : i < 8
  · have c46 : Value.bool (decide ((i : Int) < 8)) = .bool true := bz (decide_eq_true (by omega))
    have c48 : Value.int .i64 (IntKind.i64.wrap ((i : Int) + 1)) = .int .i64 ((i + 1 : Nat) : Int) := iw (by rw [w64 (by omega) (by omega)]; rfl)
    have c91 := fun W (_ : Chg [] w W) => number_N true n i h8 W
    have c92 := fun W (_ : Chg [] w W) => rdigits_N 16 (.inr rfl) (grp n i) (by have := grp_lt n i; omega) W
    have ld := digs16_len (grp_lt n i)
    have lp := preR_len n a k i
    have hs := preR_succ n a k i
    obtain ⟨d, hd⟩ : ∃ d, d = digs 16 (grp n i) := ⟨_, rfl⟩
    obtain ⟨s, hsd⟩ : ∃ s, s = preR n a k i := ⟨_, rfl⟩
    have hfr : txFr n a k i = txS a k i s := (txS_eq hsd).symm
    rw [← hd] at c92 ld hs
    rw [← hsd] at lp hs
    rw [hfr]
    have nx : i + 1 ≤ 8 := h8
    have mu : 8 - (i + 1) < 8 - i := by omega
    have zm : rowMem true n = rowMem true n := rfl
    have c69 : Value.int .i64 (IntKind.i64.wrap ((a : Int) + (k : Int))) = .int .i64 ((a + k : Nat) : Int) := iw (by rw [w64 (by omega) (by omega)]; rfl)
    have c81 := c69
    by_cases hL : 1 < k
    · by_cases hia : i = a
      · have c50 : Value.bool (decide ((k : Int) > 1)) = .bool true := bz (decide_eq_true (by omega))
        have c59 : Value.bool (decide ((k : Int) > 1)) = .bool true := bz (decide_eq_true (by omega))
        have c54 : Value.bool ((i : Int) == (a : Int)) = .bool true := bz (beq_iff_eq.2 (by omega))
        have c57 := str_add (.tmp 56) (.const (.string ⟨#[58, 58]⟩)) s [58, 58] (by simp only [List.length_cons, List.length_nil]; omega)
        have c63 : Value.bool (decide ((i : Int) ≥ (a : Int))) = .bool true := bz (decide_eq_true (by omega))
        have c70 : Value.bool (decide ((i : Int) < ((a + k : Nat) : Int))) = .bool true := bz (decide_eq_true (by omega))
        have h2 : txS a k (i + 1) (s ++ [58, 58]) = txFr n a k (i + 1) := txS_eq (by rw [hs]; unfold bitR; rw [if_pos (by omega), if_pos (by omega)]; simp)
        have h0 := nx
        have h1 := mu
        have z3 := zm
        refine ⟨[(46, .is (.bool true)), (48, .is (.int .i64 ((i + 1 : Nat) : Int))), (50, .is (.bool true)), (59, .is (.bool true)), (54, .is (.bool true)), (57, .bin (.string ⟨(s ++ [58, 58]).toArray⟩)), (63, .is (.bool true)), (69, .is (.int .i64 ((a + k : Nat) : Int))), (70, .is (.bool true))], [], ?_⟩
        exact Eq.mp (by kernel_rfl) (And.intro c46 (And.intro c50 (And.intro c54 (And.intro c57 (And.intro c59 (And.intro c63 (And.intro c69 (And.intro c70 (And.intro c48 (And.intro h0 (And.intro h1 (And.intro h2 z3))))))))))))
      · by_cases hge : a ≤ i
        · by_cases hlt : i < a + k
          · have c50 : Value.bool (decide ((k : Int) > 1)) = .bool true := bz (decide_eq_true (by omega))
            have c59 : Value.bool (decide ((k : Int) > 1)) = .bool true := bz (decide_eq_true (by omega))
            have c54 : Value.bool ((i : Int) == (a : Int)) = .bool false := bz (beq_eq_false_iff_ne.2 (by omega))
            have c63 : Value.bool (decide ((i : Int) ≥ (a : Int))) = .bool true := bz (decide_eq_true (by omega))
            have c70 : Value.bool (decide ((i : Int) < ((a + k : Nat) : Int))) = .bool true := bz (decide_eq_true (by omega))
            have h2 : txS a k (i + 1) s = txFr n a k (i + 1) := txS_eq (by rw [hs]; unfold bitR; rw [if_neg (by omega), if_pos (by omega)]; simp)
            have h0 := nx
            have h1 := mu
            have z3 := zm
            refine ⟨[(46, .is (.bool true)), (48, .is (.int .i64 ((i + 1 : Nat) : Int))), (50, .is (.bool true)), (59, .is (.bool true)), (54, .is (.bool false)), (63, .is (.bool true)), (69, .is (.int .i64 ((a + k : Nat) : Int))), (70, .is (.bool true))], [], ?_⟩
            exact Eq.mp (by kernel_rfl) (And.intro c46 (And.intro c50 (And.intro c54 (And.intro c59 (And.intro c63 (And.intro c69 (And.intro c70 (And.intro c48 (And.intro h0 (And.intro h1 (And.intro h2 z3)))))))))))
          · by_cases hend : i = a + k
            · have c50 : Value.bool (decide ((k : Int) > 1)) = .bool true := bz (decide_eq_true (by omega))
              have c59 : Value.bool (decide ((k : Int) > 1)) = .bool true := bz (decide_eq_true (by omega))
              have c54 : Value.bool ((i : Int) == (a : Int)) = .bool false := bz (beq_eq_false_iff_ne.2 (by omega))
              have c63 : Value.bool (decide ((i : Int) ≥ (a : Int))) = .bool true := bz (decide_eq_true (by omega))
              have c70 : Value.bool (decide ((i : Int) < ((a + k : Nat) : Int))) = .bool false := bz (decide_eq_false (by omega))
              have c73 : Value.bool (decide ((i : Int) > 0)) = .bool true := bz (decide_eq_true (by omega))
              have c76 : Value.bool (decide ((k : Int) > 1)) = .bool true := bz (decide_eq_true (by omega))
              have c82 : Value.bool ((i : Int) == ((a + k : Nat) : Int)) = .bool true := bz (beq_iff_eq.2 (by omega))
              have c93 := str_add (.tmp 88) (.tmp 92) s d (by omega)
              have h2 : txS a k (i + 1) (s ++ d) = txFr n a k (i + 1) := txS_eq (by rw [hs]; unfold bitR; rw [if_neg (by omega), if_neg (by omega), if_neg (by omega)]; simp)
              have h0 := nx
              have h1 := mu
              have z3 := zm
              refine ⟨[(46, .is (.bool true)), (48, .is (.int .i64 ((i + 1 : Nat) : Int))), (50, .is (.bool true)), (59, .is (.bool true)), (54, .is (.bool false)), (63, .is (.bool true)), (69, .is (.int .i64 ((a + k : Nat) : Int))), (70, .is (.bool false)), (73, .is (.bool true)), (76, .is (.bool true)), (81, .is (.int .i64 ((a + k : Nat) : Int))), (82, .is (.bool true)), (91, .call (.int .i64 (grp n i : Nat))), (92, .call (.string ⟨d.toArray⟩)), (93, .bin (.string ⟨(s ++ d).toArray⟩))], [], ?_⟩
              exact Eq.mp (by kernel_rfl) (And.intro c46 (And.intro c50 (And.intro c54 (And.intro c59 (And.intro c63 (And.intro c69 (And.intro c70 (And.intro c73 (And.intro c76 (And.intro c81 (And.intro c82 (And.intro c91 (And.intro c92 (And.intro c93 (And.intro c48 (And.intro h0 (And.intro h1 (And.intro h2 z3))))))))))))))))))
            · have c50 : Value.bool (decide ((k : Int) > 1)) = .bool true := bz (decide_eq_true (by omega))
              have c59 : Value.bool (decide ((k : Int) > 1)) = .bool true := bz (decide_eq_true (by omega))
              have c54 : Value.bool ((i : Int) == (a : Int)) = .bool false := bz (beq_eq_false_iff_ne.2 (by omega))
              have c63 : Value.bool (decide ((i : Int) ≥ (a : Int))) = .bool true := bz (decide_eq_true (by omega))
              have c70 : Value.bool (decide ((i : Int) < ((a + k : Nat) : Int))) = .bool false := bz (decide_eq_false (by omega))
              have c73 : Value.bool (decide ((i : Int) > 0)) = .bool true := bz (decide_eq_true (by omega))
              have c76 : Value.bool (decide ((k : Int) > 1)) = .bool true := bz (decide_eq_true (by omega))
              have c82 : Value.bool ((i : Int) == ((a + k : Nat) : Int)) = .bool false := bz (beq_eq_false_iff_ne.2 (by omega))
              have c87 := str_add (.tmp 86) (.const (.string ⟨#[58]⟩)) s [58] (by simp only [List.length_cons, List.length_nil]; omega)
              have c93 := str_add (.tmp 88) (.tmp 92) (s ++ [58]) d (by simp only [List.length_append, List.length_cons, List.length_nil]; omega)
              have h2 : txS a k (i + 1) ((s ++ [58]) ++ d) = txFr n a k (i + 1) := txS_eq (by rw [hs]; unfold bitR; rw [if_neg (by omega), if_neg (by omega), if_pos (by omega)]; simp)
              have h0 := nx
              have h1 := mu
              have z3 := zm
              refine ⟨[(46, .is (.bool true)), (48, .is (.int .i64 ((i + 1 : Nat) : Int))), (50, .is (.bool true)), (59, .is (.bool true)), (54, .is (.bool false)), (63, .is (.bool true)), (69, .is (.int .i64 ((a + k : Nat) : Int))), (70, .is (.bool false)), (73, .is (.bool true)), (76, .is (.bool true)), (81, .is (.int .i64 ((a + k : Nat) : Int))), (82, .is (.bool false)), (87, .bin (.string ⟨(s ++ [58]).toArray⟩)), (91, .call (.int .i64 (grp n i : Nat))), (92, .call (.string ⟨d.toArray⟩)), (93, .bin (.string ⟨((s ++ [58]) ++ d).toArray⟩))], [], ?_⟩
              exact Eq.mp (by kernel_rfl) (And.intro c46 (And.intro c50 (And.intro c54 (And.intro c59 (And.intro c63 (And.intro c69 (And.intro c70 (And.intro c73 (And.intro c76 (And.intro c81 (And.intro c82 (And.intro c87 (And.intro c91 (And.intro c92 (And.intro c93 (And.intro c48 (And.intro h0 (And.intro h1 (And.intro h2 z3)))))))))))))))))))
        · by_cases hp : 0 < i
          · have c50 : Value.bool (decide ((k : Int) > 1)) = .bool true := bz (decide_eq_true (by omega))
            have c59 : Value.bool (decide ((k : Int) > 1)) = .bool true := bz (decide_eq_true (by omega))
            have c54 : Value.bool ((i : Int) == (a : Int)) = .bool false := bz (beq_eq_false_iff_ne.2 (by omega))
            have c63 : Value.bool (decide ((i : Int) ≥ (a : Int))) = .bool false := bz (decide_eq_false (by omega))
            have c73 : Value.bool (decide ((i : Int) > 0)) = .bool true := bz (decide_eq_true (by omega))
            have c76 : Value.bool (decide ((k : Int) > 1)) = .bool true := bz (decide_eq_true (by omega))
            have c82 : Value.bool ((i : Int) == ((a + k : Nat) : Int)) = .bool false := bz (beq_eq_false_iff_ne.2 (by omega))
            have c87 := str_add (.tmp 86) (.const (.string ⟨#[58]⟩)) s [58] (by simp only [List.length_cons, List.length_nil]; omega)
            have c93 := str_add (.tmp 88) (.tmp 92) (s ++ [58]) d (by simp only [List.length_append, List.length_cons, List.length_nil]; omega)
            have h2 : txS a k (i + 1) ((s ++ [58]) ++ d) = txFr n a k (i + 1) := txS_eq (by rw [hs]; unfold bitR; rw [if_neg (by omega), if_neg (by omega), if_pos (by omega)]; simp)
            have h0 := nx
            have h1 := mu
            have z3 := zm
            refine ⟨[(46, .is (.bool true)), (48, .is (.int .i64 ((i + 1 : Nat) : Int))), (50, .is (.bool true)), (59, .is (.bool true)), (54, .is (.bool false)), (63, .is (.bool false)), (73, .is (.bool true)), (76, .is (.bool true)), (81, .is (.int .i64 ((a + k : Nat) : Int))), (82, .is (.bool false)), (87, .bin (.string ⟨(s ++ [58]).toArray⟩)), (91, .call (.int .i64 (grp n i : Nat))), (92, .call (.string ⟨d.toArray⟩)), (93, .bin (.string ⟨((s ++ [58]) ++ d).toArray⟩))], [], ?_⟩
            exact Eq.mp (by kernel_rfl) (And.intro c46 (And.intro c50 (And.intro c54 (And.intro c59 (And.intro c63 (And.intro c73 (And.intro c76 (And.intro c81 (And.intro c82 (And.intro c87 (And.intro c91 (And.intro c92 (And.intro c93 (And.intro c48 (And.intro h0 (And.intro h1 (And.intro h2 z3)))))))))))))))))
          · have c50 : Value.bool (decide ((k : Int) > 1)) = .bool true := bz (decide_eq_true (by omega))
            have c59 : Value.bool (decide ((k : Int) > 1)) = .bool true := bz (decide_eq_true (by omega))
            have c54 : Value.bool ((i : Int) == (a : Int)) = .bool false := bz (beq_eq_false_iff_ne.2 (by omega))
            have c63 : Value.bool (decide ((i : Int) ≥ (a : Int))) = .bool false := bz (decide_eq_false (by omega))
            have c73 : Value.bool (decide ((i : Int) > 0)) = .bool false := bz (decide_eq_false (by omega))
            have c93 := str_add (.tmp 88) (.tmp 92) s d (by omega)
            have h2 : txS a k (i + 1) (s ++ d) = txFr n a k (i + 1) := txS_eq (by rw [hs]; unfold bitR; rw [if_neg (by omega), if_neg (by omega), if_neg (by omega)]; simp)
            have h0 := nx
            have h1 := mu
            have z3 := zm
            refine ⟨[(46, .is (.bool true)), (48, .is (.int .i64 ((i + 1 : Nat) : Int))), (50, .is (.bool true)), (59, .is (.bool true)), (54, .is (.bool false)), (63, .is (.bool false)), (73, .is (.bool false)), (91, .call (.int .i64 (grp n i : Nat))), (92, .call (.string ⟨d.toArray⟩)), (93, .bin (.string ⟨(s ++ d).toArray⟩))], [], ?_⟩
            exact Eq.mp (by kernel_rfl) (And.intro c46 (And.intro c50 (And.intro c54 (And.intro c59 (And.intro c63 (And.intro c73 (And.intro c91 (And.intro c92 (And.intro c93 (And.intro c48 (And.intro h0 (And.intro h1 (And.intro h2 z3)))))))))))))
    · by_cases hp : 0 < i
      · have c50 : Value.bool (decide ((k : Int) > 1)) = .bool false := bz (decide_eq_false (by omega))
        have c59 : Value.bool (decide ((k : Int) > 1)) = .bool false := bz (decide_eq_false (by omega))
        have c73 : Value.bool (decide ((i : Int) > 0)) = .bool true := bz (decide_eq_true (by omega))
        have c76 : Value.bool (decide ((k : Int) > 1)) = .bool false := bz (decide_eq_false (by omega))
        have c87 := str_add (.tmp 86) (.const (.string ⟨#[58]⟩)) s [58] (by simp only [List.length_cons, List.length_nil]; omega)
        have c93 := str_add (.tmp 88) (.tmp 92) (s ++ [58]) d (by simp only [List.length_append, List.length_cons, List.length_nil]; omega)
        have h2 : txS a k (i + 1) ((s ++ [58]) ++ d) = txFr n a k (i + 1) := txS_eq (by rw [hs]; unfold bitR; rw [if_neg (by omega), if_neg (by omega), if_pos (by omega)]; simp)
        have h0 := nx
        have h1 := mu
        have z3 := zm
        refine ⟨[(46, .is (.bool true)), (48, .is (.int .i64 ((i + 1 : Nat) : Int))), (50, .is (.bool false)), (59, .is (.bool false)), (73, .is (.bool true)), (76, .is (.bool false)), (87, .bin (.string ⟨(s ++ [58]).toArray⟩)), (91, .call (.int .i64 (grp n i : Nat))), (92, .call (.string ⟨d.toArray⟩)), (93, .bin (.string ⟨((s ++ [58]) ++ d).toArray⟩))], [], ?_⟩
        exact Eq.mp (by kernel_rfl) (And.intro c46 (And.intro c50 (And.intro c59 (And.intro c73 (And.intro c76 (And.intro c87 (And.intro c91 (And.intro c92 (And.intro c93 (And.intro c48 (And.intro h0 (And.intro h1 (And.intro h2 z3)))))))))))))
      · have c50 : Value.bool (decide ((k : Int) > 1)) = .bool false := bz (decide_eq_false (by omega))
        have c59 : Value.bool (decide ((k : Int) > 1)) = .bool false := bz (decide_eq_false (by omega))
        have c73 : Value.bool (decide ((i : Int) > 0)) = .bool false := bz (decide_eq_false (by omega))
        have c93 := str_add (.tmp 88) (.tmp 92) s d (by omega)
        have h2 : txS a k (i + 1) (s ++ d) = txFr n a k (i + 1) := txS_eq (by rw [hs]; unfold bitR; rw [if_neg (by omega), if_neg (by omega), if_neg (by omega)]; simp)
        have h0 := nx
        have h1 := mu
        have z3 := zm
        refine ⟨[(46, .is (.bool true)), (48, .is (.int .i64 ((i + 1 : Nat) : Int))), (50, .is (.bool false)), (59, .is (.bool false)), (73, .is (.bool false)), (91, .call (.int .i64 (grp n i : Nat))), (92, .call (.string ⟨d.toArray⟩)), (93, .bin (.string ⟨(s ++ d).toArray⟩))], [], ?_⟩
        exact Eq.mp (by kernel_rfl) (And.intro c46 (And.intro c50 (And.intro c59 (And.intro c73 (And.intro c91 (And.intro c92 (And.intro c93 (And.intro c48 (And.intro h0 (And.intro h1 (And.intro h2 z3)))))))))))
  · have c46 : Value.bool (decide ((i : Int) < 8)) = .bool false := bz (decide_eq_false (by omega))
    have h0 : True := trivial
    have h1 : [(6, Sx.SV.val (.string ⟨(preR n a k i).toArray⟩))] = txOut n a k := by rw [show i = 8 by omega]; rfl
    have z2 : rowMem true n = rowMem true n := rfl
    refine ⟨[(46, .is (.bool false))], [], ?_⟩
    exact Eq.mp (by kernel_rfl) (And.intro c46 (And.intro h0 (And.intro h1 z2)))
end
set_option maxRecDepth 100000 in
theorem raddr_6 {n : Nat} (hn : n < 2 ^ 128) (h : okA true n = true) (w : World) : Calls Tryz.prog 37 #[.agg (adr true n).toArray] w fun e w' => e = .returned (.tuple #[.string ⟨(text6 (grps n)).toArray⟩, .int .i64 0]) ∧ Chg [] w w' := by
  have c9 := fun W (_ : Chg [] w W) => rcheckAddr_N true n hn W
  rw [show errA true n = 0 by unfold errA; rw [h]; rfl] at c9
  have c42 := fun W (_ : Chg [] w W) => row_N true n W
  have hb := gap_all (grp n 0 == 0) (grp n 1 == 0) (grp n 2 == 0) (grp n 3 == 0) (grp n 4 == 0) (grp n 5 == 0) (grp n 6 == 0) (grp n 7 == 0)
  have ht := textR_grps n
  have hz : zs (grps n) = [grp n 0 == 0, grp n 1 == 0, grp n 2 == 0, grp n 3 == 0, grp n 4 == 0, grp n 5 == 0, grp n 6 == 0, grp n 7 == 0] := rfl
  rw [← hz] at hb
  obtain ⟨a, ha⟩ : ∃ a, a = (rowN (zs (grps n))).1 := ⟨_, rfl⟩
  obtain ⟨k, hk⟩ : ∃ k, k = (rowN (zs (grps n))).2 := ⟨_, rfl⟩
  have hak := hb.2.1
  rw [← ha, ← hk] at hak c42 ht
  have z5 : Value.tuple #[.string ⟨(preR n a k 8).toArray⟩, .int .i64 0] = .tuple #[.string ⟨(text6 (grps n)).toArray⟩, .int .i64 0] := by rw [preR_8, ht]
  refine Sx.calls_is (args := [.agg (adr true n).toArray]) [(9, .call (.int .i64 0)), (42, .call (.tuple #[.int .i64 (a : Int), .int .i64 (k : Int)]))] [txL n a k] (by kernel_rfl) Tryz.func37 rfl (Nat.le_of_ble_eq_true rfl) ?_
  have h0 : 0 ≤ 8 := by omega
  have e1 : txFr n a k 0 = txFr n a k 0 ∧ rowMem true n = rowMem true n := ⟨rfl, rfl⟩
  have rd2 := fun (i : Nat) (hi : i ≤ 8) => tx_round (n := n) (a := a) (k := k) (w := w) (Kr := Sx.atEnd Tryz.prog Tryz.f37 (fun u => u = .tuple #[.string ⟨(text6 (grps n)).toArray⟩, .int .i64 0]) .ret) (by omega) (by omega) i hi
  exact Eq.mp (by kernel_rfl) (And.intro c9 (And.intro c42 (And.intro h0 (And.intro e1 (And.intro rd2 (fun (x : Unit) (hx4 : True) => z5))))))
theorem raddrText_N (v : Bool) (n : Nat) (hn : n < 2 ^ 128) (w : World) : Calls Tryz.prog 37 #[.agg (adr v n).toArray] w fun e w' => e = .returned (.tuple #[.string ⟨(atxt v n).toArray⟩, .int .i64 (errA v n)]) ∧ Chg [] w w' := by
  cases h : okA v n with
  | false =>
    rw [show atxt v n = [] by unfold atxt; rw [h]; rfl, show errA v n = 150 by unfold errA; rw [h]; rfl]
    exact raddr_bad hn h w
  | true =>
    rw [show atxt v n = textA v n by unfold atxt; rw [if_pos h], show errA v n = 0 by unfold errA; rw [if_pos h]]
    cases v with
    | false => exact raddr_4 hn h w
    | true => exact raddr_6 hn h w
set_option maxRecDepth 100000 in
theorem rtext_ok {v : Bool} {n K : Nat} (hn : n < 2 ^ 128) (h : okP v n K = true) (w : World) : Calls Tryz.prog 39 #[.agg (pfx v n K).toArray] w fun e w' => e = .returned (.tuple #[.string ⟨(textP v n K).toArray⟩, .int .i64 0]) ∧ Chg [] w w' := by
  have hb := okP_bits h
  have c7 := fun W (_ : Chg [] w W) => rcheck_N v n K hn W
  rw [show errP v n K = 0 by unfold errP; rw [if_pos h]] at c7
  have c12 := fun W (_ : Chg [] w W) => raddrText_N v n hn W
  have hA := okP_okA h
  rw [show atxt v n = textA v n by unfold atxt; rw [if_pos hA], show errA v n = 0 by unfold errA; rw [if_pos hA]] at c12
  have hl := textA_len v n
  have h4 := digs10_len (u := K) (by omega)
  have c16 := str_add (.tmp 15) (.const (.string ⟨#[47]⟩)) (textA v n) [47] (by simp only [List.length_cons, List.length_nil]; omega)
  have c19 := fun W (_ : Chg [] w W) => rdigits_N 10 (.inl rfl) K (by omega) W
  have c20 := str_add (.tmp 16) (.tmp 19) (textA v n ++ [47]) (digs 10 K) (by simp only [List.length_append, List.length_cons, List.length_nil]; omega)
  have z0 : Value.tuple #[.string ⟨(textA v n ++ [47] ++ digs 10 K).toArray⟩, .int .i64 0] = .tuple #[.string ⟨(textP v n K).toArray⟩, .int .i64 0] := by unfold textP; rw [Int.toNat_natCast]; simp
  refine Sx.calls_is (args := [.agg (pfx v n K).toArray]) [(7, .call (.int .i64 0)), (12, .call (.tuple #[.string ⟨(textA v n).toArray⟩, .int .i64 0])), (16, .bin (.string ⟨(textA v n ++ [47]).toArray⟩)), (19, .call (.string ⟨(digs 10 K).toArray⟩)), (20, .bin (.string ⟨(textA v n ++ [47] ++ digs 10 K).toArray⟩))] [] (by kernel_rfl) Tryz.func39 rfl (Nat.le_of_ble_eq_true rfl) ?_
  exact Eq.mp (by kernel_rfl) (And.intro c7 (And.intro c12 (And.intro c16 (And.intro c19 (And.intro c20 z0)))))
set_option maxRecDepth 100000 in
theorem rtext_bad {v : Bool} {n : Nat} {k : Int} (hn : n < 2 ^ 128) (h : okP v n k = false) (w : World) : Calls Tryz.prog 39 #[.agg (pfx v n k).toArray] w fun e w' => e = .returned (.tuple #[.string ⟨#[]⟩, .int .i64 151]) ∧ Chg [] w w' := by
  have c7 := fun W (_ : Chg [] w W) => rcheck_N v n k hn W
  rw [show errP v n k = 151 by unfold errP; rw [h]; rfl] at c7
  have z0 : Value.tuple #[.string ⟨#[]⟩, .int .i64 151] = .tuple #[.string ⟨#[]⟩, .int .i64 151] := rfl
  refine Sx.calls_is (args := [.agg (pfx v n k).toArray]) [(7, .call (.int .i64 151))] [] (by kernel_rfl) Tryz.func39 rfl (Nat.le_of_ble_eq_true rfl) ?_
  exact Eq.mp (by kernel_rfl) (And.intro c7 z0)
theorem rtext_N (v : Bool) (n : Nat) (k : Int) (hn : n < 2 ^ 128) (w : World) : Calls Tryz.prog 39 #[.agg (pfx v n k).toArray] w fun e w' => e = .returned (.tuple #[.string ⟨(ptxt v n k).toArray⟩, .int .i64 (errP v n k)]) ∧ Chg [] w w' := by
  cases h : okP v n k with
  | false =>
    rw [show ptxt v n k = [] by unfold ptxt; rw [h]; rfl, show errP v n k = 151 by unfold errP; rw [h]; rfl]
    exact rtext_bad hn h w
  | true =>
    rw [show ptxt v n k = textP v n k by unfold ptxt; rw [if_pos h], show errP v n k = 0 by unfold errP; rw [if_pos h]]
    obtain ⟨k0, _⟩ := okP_bits h
    obtain ⟨K, rfl⟩ := Int.eq_ofNat_of_zero_le k0
    exact rtext_ok hn h w
end Go.Proofs.YtgpiapmbbnngpaaGreatDoor
