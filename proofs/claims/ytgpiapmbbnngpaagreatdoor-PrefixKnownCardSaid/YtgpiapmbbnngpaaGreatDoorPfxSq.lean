/- PrefixMerges' body, walked by reckoning. -/
import Derived.Test.YtgpiapmbbnngpaaGreatDoorPfxSg
import Derived.Test.YtgpiapmbbnngpaaGreatDoorPfxNl
import Derived.Test.YtgpiapmbbnngpaaGreatDoorSxM
import Derived.Test.YtgpiapmbbnngpaaGreatDoorPfxSa
import Derived.Test.YtgpiapmbbnngpaaGreatDoorPfxWq
namespace Go.Proofs.YtgpiapmbbnngpaaGreatDoor
open Go.RowKit Go.Lib Go.Sort

theorem run_min_i64 {P : Program} (ts : Array TypeId) (t : TypeId) (a b : Int) (c : Nat) (hc : (c : Int) = min a b) (W : World) : (Builtin.min_ ts t #[.int .i64 a, .int .i64 b]).run P W = .ok (.int .i64 (c : Int)) W := by
  rw [hc]
  by_cases h : a < b
  · simp [Builtin.min_, Builtin.min2]
    omega
  · simp [Builtin.min_, Builtin.min2]
    omega
/-- A slice of the first ones of a slice. -/
theorem run_first34 {A : Option Addr} {n c m : Nat} (hm : m ≤ c) (W : World) : (Instr.sliceAt 34 (.slice A n c) none (some (.int .i64 (m : Int))) none).run Tryz.prog W = .ok (.slice A m c) W := by
  have hs : (Tryz.prog.info? 29).map (·.size) = some 18 := size29
  cases hq : Tryz.prog.info? 29 with
  | none => rw [hq] at hs; cases hs
  | some inf =>
    have e1 : (0 : Int) ≤ (m : Int) ∧ (m : Int) ≤ (c : Nat) := by omega
    have hA : A.map (fun x => x.add 0) = A := by
      cases A with
      | none => rfl
      | some a => simp [Addr.add]
    simp only [Instr.sliceAt, Sem.run_bind, run_underlying Tryz.underlying34, Result.andThen_ok, Instr.slice]
    by_cases hc : c = 0
    · subst hc
      have : m = 0 := by omega
      subst this
      simp [Instr.sliceBounds, Instr.sliceBound, asIntOf, sizeOf, typeInfo, hq]
    · have hc' : ¬ c = 0 := hc
      simp [Instr.sliceBounds, Instr.sliceBound, asIntOf, hm, sizeOf, typeInfo, hq, hc', hA]
def P77 (k : Int) : List Value := pfx false 0 k
/-- The row behind i stores. -/
def mqA (M : List Value) : Nat → List Value
  | 0 => M
  | i + 1 => (mqA M i).take (i * 18) ++ (P77 77 ++ (mqA M i).drop (i * 18 + 18))
def mqB (M : List Value) : Nat → List Value
  | 0 => M
  | j + 1 => mqB M j ++ P77 66
theorem mqA_len (M : List Value) (m : Nat) (h : M.length = m * 18) : ∀ i, i ≤ m → (mqA M i).length = m * 18
  | 0, _ => h
  | i + 1, hi => by
    have h1 := mqA_len M m h i (by omega)
    have h2 : (i + 1) * 18 ≤ m * 18 := Nat.mul_le_mul_right _ hi
    show ((mqA M i).take (i * 18) ++ (P77 77 ++ (mqA M i).drop (i * 18 + 18))).length = _
    rw [List.length_append, List.length_append, List.length_take, List.length_drop, h1, P77, pfx_length]
    omega
theorem rowP_app (a b : List RP) : rowP (a ++ b) = rowP a ++ rowP b := by simp [rowP]
theorem rowP_ones (L : List RP) : ∀ u ∈ rowP L, u.oneCell' = true := fun u hu => by
  unfold rowP at hu
  rw [List.mem_flatMap] at hu
  obtain ⟨x, _, hx⟩ := hu
  have := pfx_ones x.1 x.2.1 x.2.2
  rw [Array.all_eq_true'] at this
  exact this u (by simpa [RP.enc] using hx)
theorem p77_ones (k : Int) : ∀ u ∈ P77 k, u.oneCell' = true := fun u hu => by
  have := pfx_ones false 0 k
  rw [Array.all_eq_true'] at this
  exact this u (by simpa [P77] using hu)
/-- What 'in' holds: the prefixes, two more. -/
def mqIn (L : List RP) : List Value := [] ++ rowP L ++ (P77 99 ++ P77 98)
def mqRows (L : List RP) (lenA : Nat) (a : List Value) (M : List RP) : List Sx.Row :=
  [⟨29, .own 18 (0 + L.length + 2) (mqIn L)⟩, ⟨29, .own 18 lenA a⟩, ⟨29, .own 18 M.length (rowP M)⟩, ⟨29, .own 18 M.length (rowP M)⟩]
def mqFr1 (s : Value) (i : Nat) : List (Nat × Sx.SV) := [(0, .val s), (3, .own 0), (4, .own 1), (6, .own 2), (8, .own 3), (10, .val (.int .i64 (i : Int)))]
def mqFr2 (s : Value) (j : Nat) : List (Nat × Sx.SV) := [(0, .val s), (3, .own 0), (4, .own 1), (6, .own 2), (8, .own 3), (11, .val (.int .i64 (j : Int)))]
def mqFr0 (s : Value) : List (Nat × Sx.SV) := [(0, .val s), (3, .own 0), (4, .own 1), (6, .own 2), (8, .own 3)]
set_option maxRecDepth 100000 in
theorem mq_stores (L M : List RP) (s : Value) (hM : M.length ≤ 1000000) (w : World) (i : Nat) (hi : i ≤ M.length) : ∃ H' L', Sx.ex Tryz.prog 130 w (Sx.bodyOf Tryz.f4 0) H' L' ⟨mqFr1 s i, mqRows L M.length (mqA (rowP M) i) M⟩
    (Sx.loopK (fun i => i ≤ M.length) (mqFr1 s) (fun i => mqRows L M.length (mqA (rowP M) i) M) (fun i => i + 1) (fun i => M.length + 2 - i) (fun (_ : Unit) => True) (fun _ => mqFr0 s) (fun _ => mqRows L M.length (mqA (rowP M) M.length) M) (fun _ => ()) (Sx.outId (Sx.bodyOf Tryz.f4 0) - 1) (Sx.atEnd Tryz.prog Tryz.f4 (fun v => v = .bool true) .ret) i) := by
  by_cases hlt : i < M.length
  · have c92 : Value.bool (decide ((i : Int) < (M.length : Int))) = .bool true := by rw [decide_eq_true (by omega)]
    have c94 : Value.int .i64 (IntKind.i64.wrap ((i : Int) + 1)) = .int .i64 ((i + 1 : Nat) : Int) := iw (w64 (by omega) (by omega))
    have c98 : (0 : Int) ≤ (i : Int) ∧ (i : Int) < (M.length : Int) := by omega
    have c100098 : i * 18 + 18 ≤ (mqA (rowP M) i).length := by
      rw [mqA_len _ M.length (rowP_len M) i hi]
      have : (i + 1) * 18 ≤ M.length * 18 := Nat.mul_le_mul_right _ hlt
      omega
    have h0 : i + 1 ≤ M.length := hlt
    have h1 : M.length + 2 - (i + 1) < M.length + 2 - i := by omega
    have h2 : mqFr1 s (i + 1) = mqFr1 s (i + 1) := rfl
    have z3 : mqRows L M.length (mqA (rowP M) (i + 1)) M = mqRows L M.length (mqA (rowP M) (i + 1)) M := rfl
    refine ⟨[(92, .is (.bool true)), (98, .ix), (94, .is (.int .i64 ((i + 1 : Nat) : Int)))], [], ?_⟩
    exact Eq.mp (by kernel_rfl) (And.intro c92 (And.intro c98 (And.intro c100098 (And.intro c94 (And.intro h0 (And.intro h1 (And.intro h2 z3)))))))
  · have c92 : Value.bool (decide ((i : Int) < (M.length : Int))) = .bool false := by rw [decide_eq_false (by omega)]
    have he : i = M.length := by omega
    have h0 : True := trivial
    have h1 : mqFr0 s = mqFr0 s := rfl
    have z2 : mqRows L M.length (mqA (rowP M) i) M = mqRows L M.length (mqA (rowP M) M.length) M := by rw [he]
    refine ⟨[(92, .is (.bool false))], [], ?_⟩
    exact Eq.mp (by kernel_rfl) (And.intro c92 (And.intro h0 (And.intro h1 z2)))
set_option maxRecDepth 100000 in
theorem mq_apps (L M : List RP) (a : List Value) (s : Value) (hM : M.length ≤ 1000000) (w : World) (j : Nat) (hj : j ≤ 20) : ∃ H' L', Sx.ex Tryz.prog 130 w (Sx.bodyOf Tryz.f4 1) H' L' ⟨mqFr2 s j, mqRows L (M.length + j) (mqB a j) M⟩
    (Sx.loopK (fun j => j ≤ 20) (mqFr2 s) (fun j => mqRows L (M.length + j) (mqB a j) M) (fun j => j + 1) (fun j => 22 - j) (fun (_ : Unit) => True) (fun _ => mqFr0 s) (fun _ => mqRows L (M.length + 20) (mqB a 20) M) (fun _ => ()) (Sx.outId (Sx.bodyOf Tryz.f4 1) - 1) (Sx.atEnd Tryz.prog Tryz.f4 (fun v => v = .bool true) .ret) j) := by
  by_cases hlt : j < 20
  · have c100 : Value.bool (decide ((j : Int) < 20)) = .bool true := by rw [decide_eq_true (by omega)]
    have c102 : Value.int .i64 (IntKind.i64.wrap ((j : Int) + 1)) = .int .i64 ((j + 1 : Nat) : Int) := iw (w64 (by omega) (by omega))
    have c106 : True ∧ (P77 66).length = 1 * 18 ∧ (∀ (u : Value), u ∈ P77 66 → u.oneCell' = true) ∧ M.length + j + 1 ≤ maxLen ∧ (M.length + j + 1) * 32 ≤ 140737488355328 :=
      ⟨trivial, by rw [P77, pfx_length], p77_ones 66, by unfold maxLen; omega, by omega⟩
    have h0 : j + 1 ≤ 20 := hlt
    have h1 : 22 - (j + 1) < 22 - j := by omega
    have h2 : [((0 : Nat), Sx.SV.val s), (3, .own 0), (4, .own 5), (6, .own 2), (8, .own 3), (11, .val (.int .i64 ((j + 1 : Nat) : Int)))] = [((0 : Nat), Sx.SV.val s), (3, .own 0), (4, .own 5), (6, .own 2), (8, .own 3), (11, .val (.int .i64 ((j + 1 : Nat) : Int)))] := rfl
    have z3 : mqRows L (M.length + (j + 1)) (mqB a (j + 1)) M = mqRows L (M.length + (j + 1)) (mqB a (j + 1)) M := rfl
    refine ⟨[(100, .is (.bool true)), (102, .is (.int .i64 ((j + 1 : Nat) : Int)))], [], ?_⟩
    exact Eq.mp (by kernel_rfl) (And.intro c100 (And.intro c106 (And.intro c102 (And.intro h0 (And.intro h1 (And.intro h2 z3))))))
  · have c100 : Value.bool (decide ((j : Int) < 20)) = .bool false := by rw [decide_eq_false (by omega)]
    have he : j = 20 := by omega
    have h0 : True := trivial
    have h1 : mqFr0 s = mqFr0 s := rfl
    have z2 : mqRows L (M.length + j) (mqB a j) M = mqRows L (M.length + 20) (mqB a 20) M := by rw [he]
    refine ⟨[(100, .is (.bool false))], [], ?_⟩
    exact Eq.mp (by kernel_rfl) (And.intro c100 (And.intro h0 (And.intro h1 z2)))
theorem mqIn_first (L : List RP) : ((mqIn L).drop (0 * 18)).take ((L.length - 0) * 18) = rowP L := by
  unfold mqIn
  rw [show 0 * 18 = 0 from rfl, List.drop_zero, Nat.sub_zero, List.nil_append, ← rowP_len L, List.take_append_of_le_length (Nat.le_refl _), List.take_length]
theorem mqIn_99 (L : List RP) : (mqIn L)[L.length * 18 + 17]? = some (.int .i64 99) := by
  unfold mqIn
  rw [List.nil_append, List.getElem?_append_right (by rw [rowP_len]; omega), rowP_len, Nat.add_sub_cancel_left]
  rfl
theorem mqIn_98 (L : List RP) : (mqIn L)[(L.length + 1) * 18 + 17]? = some (.int .i64 98) := by
  unfold mqIn
  rw [List.nil_append, List.getElem?_append_right (by rw [rowP_len]; omega), rowP_len, show (L.length + 1) * 18 + 17 - L.length * 18 = 35 by omega]
  rfl
theorem Rd.take {w : World} {n m c : Nat} {A : Option Addr} {L : List RP} (h : Rd w 18 (.slice A n c) n (rowP L)) (hm : m ≤ n) : Rd w 18 (.slice A m c) m (rowP (L.take m)) := by
  obtain ⟨hl, A', c', hv, h3⟩ := h
  injection hv with h1 _ h2
  subst h1; subst h2
  rw [rowP_len] at hl
  refine ⟨by rw [rowP_len, List.length_take]; congr 1; omega, A, c, rfl, fun h0 => ?_⟩
  obtain ⟨g, o, ha, hg, hr⟩ := h3 (by omega)
  refine ⟨g, o, ha, hg, fun j u hu => hr j u ?_⟩
  have e : rowP L = rowP (L.take m) ++ rowP (L.drop m) := by rw [← rowP_app, List.take_append_drop]
  rw [e, List.getElem?_append_left (List.getElem?_eq_some_iff.1 hu).1]
  exact hu
set_option maxRecDepth 100000 in
/-- PrefixMerges, where all may be. -/
theorem mq_good (L M : List RP) (n : Nat) (A : Option Addr) (c : Nat) (hm : L.length = min n 40) (hnc : n ≤ c) (hn : n ≤ 9223372036854775807) (hM : M.length ≤ 1000000)
    (hbL : ∀ p ∈ L, p.2.1 < 2 ^ 128 ∧ -9223372036854775808 ≤ p.2.2 ∧ p.2.2 ≤ 9223372036854775807) (hbM : ∀ p ∈ M, p.2.1 < 2 ^ 128 ∧ -9223372036854775808 ≤ p.2.2 ∧ p.2.2 ≤ 9223372036854775807) (w : World) (HL : Lan w)
    (h : Rd w 18 (.slice A L.length c) L.length (rowP L))
    (H15 : ∀ W s, Chg [] w W → Own W 29 18 s L.length (rowP L) → (∃ g o c', s = .slice (some ⟨g, o, none⟩) L.length c') → Calls Tryz.prog 15 #[s] W (Sx.retPost W (.tup [] 29 18 M.length (rowP M) [.int .i64 0])))
    (H16 : ∀ W, Chg [] w W → Calls Tryz.prog 16 #[.slice A L.length c] W (Sx.retPost W (.tup [] 29 18 M.length (rowP M) [.int .i64 0]))) :
    Calls Tryz.prog 4 #[.slice A n c] w fun e w' => e = .returned (.bool true) ∧ Chg [] w w' := by
  have hL : L.length ≤ 40 := by omega
  have c15 : ∀ W, Chg [] w W → ((do let v ← Builtin.min_ #[3, 3] 3 #[.int .i64 (n : Int), .int .i64 40]; pure (Next.value v) : Sem Next)).run Tryz.prog W = .ok (.value (.int .i64 (L.length : Int))) W := fun W _ => by
    rw [Sem.run_bind, run_min_i64 #[3, 3] 3 (n : Int) 40 L.length (by omega)]
    rfl
  have c16 := fun W (_ : Chg [] w W) => run_first34 (A := A) (n := n) (c := c) (m := L.length) (by omega) W
  have c19 : (∀ W, Chg [] w W → ∃ A' c', Value.slice A L.length c = .slice A' L.length c' ∧ (0 < (rowP L).length → ∃ ad, A' = some ad ∧ ∀ (j : Nat) (u : Value), (rowP L)[j]? = some u → W.cell? (ad.add j) = some u)) ∧ (rowP L).length = L.length * 18 ∧ (∀ u ∈ rowP L, u.oneCell' = true) ∧ 0 + L.length ≤ maxLen ∧ (0 + L.length) * 32 ≤ 140737488355328 := by
    refine ⟨fun W hW => ⟨A, c, rfl, fun h0 => ?_⟩, rowP_len L, rowP_ones L, by unfold maxLen; omega, by omega⟩
    obtain ⟨_, A', c', hv, h3⟩ := h.chg hW
    injection hv with h1 _ _
    subst h1
    obtain ⟨g, o, rfl, hr⟩ := h3 (by rw [rowP_len] at h0; omega)
    exact ⟨_, rfl, fun j u hu => by rw [Addr.add_lit]; exact hr.2 j u hu⟩
  have c24 : True ∧ (P77 99 ++ P77 98).length = 2 * 18 ∧ (∀ u ∈ P77 99 ++ P77 98, u.oneCell' = true) ∧ 0 + L.length + 2 ≤ maxLen ∧ (0 + L.length + 2) * 32 ≤ 140737488355328 := by
    refine ⟨trivial, rfl, fun u hu => ?_, by unfold maxLen; omega, by omega⟩
    rcases List.mem_append.1 hu with hu | hu
    · exact p77_ones 99 u hu
    · exact p77_ones 98 u hu
  have c29 : ((0 : Nat) : Int) = ((0 : Nat) : Int) ∧ (L.length : Int) = (L.length : Int) ∧ 0 ≤ L.length ∧ L.length ≤ 0 + L.length + 2 := ⟨rfl, rfl, Nat.zero_le _, by omega⟩
  have c37 := c29
  have c65 := c29
  have c114 := c29
  have c30 : ∀ W, Chg [] w W → (0 * 18 = 0 * 18 ∧ 0 + (L.length - 0) ≤ 0 + L.length + 2) ∧ ∀ s, Own W 29 18 s (L.length - 0) (((mqIn L).drop (0 * 18)).take ((L.length - 0) * 18)) → (0 < 0 + L.length + 2 → ∃ g o c, s = .slice (some ⟨g, o, none⟩) (L.length - 0) c) → Calls Tryz.prog 15 #[s] W (Sx.retPost W (.tup [] 29 18 M.length (rowP M) [.int .i64 0])) := by
    intro W hW
    refine ⟨⟨rfl, by omega⟩, fun s hs h1 => ?_⟩
    rw [mqIn_first, Nat.sub_zero] at hs
    exact H15 W s hW hs (h1 (by omega))
  have c38 := c30
  have c43 := H16
  have hsame : ∀ W s t, Own W 29 18 s M.length (rowP M) → Own W 29 18 t M.length (rowP M) → Calls Tryz.prog 17 #[s, t] W (Sx.retPost W (.val (.bool true))) := fun W s t hs ht => same_N M s t hM hbM W (Rd.of_own hs) (Rd.of_own ht)
  have c52 : ∀ W, Chg [] w W → ∀ s, Own W 29 18 s M.length (rowP M) → ∀ t, Own W 29 18 t M.length (rowP M) → Calls Tryz.prog 17 #[s, t] W (Sx.retPost W (.val (.bool true))) := fun W _ s hs t ht => hsame W s t hs ht
  have c58 := c52
  have c109 := c52
  have c67 : ∀ W, Chg [] w W → (0 * 18 = 0 * 18 ∧ 0 + (L.length - 0) ≤ 0 + L.length + 2) ∧ ∀ s, Own W 29 18 s (L.length - 0) (((mqIn L).drop (0 * 18)).take ((L.length - 0) * 18)) → (0 < 0 + L.length + 2 → ∃ g o c, s = .slice (some ⟨g, o, none⟩) (L.length - 0) c) → Calls Tryz.prog 17 #[s, .slice A L.length c] W (Sx.retPost W (.val (.bool true))) := by
    intro W hW
    refine ⟨⟨rfl, by omega⟩, fun s hs _ => ?_⟩
    rw [mqIn_first, Nat.sub_zero] at hs
    exact same_N L s (.slice A L.length c) (by omega) hbL W (Rd.of_own hs) (h.chg hW)
  have c116 := c67
  have c74 : (0 : Int) ≤ (L.length : Int) ∧ (L.length : Int) < ((0 + L.length + 2 : Nat) : Int) := by omega
  have c122 := c74
  have c75 : 0 < 0 + L.length + 2 := by omega
  have c85 := c75
  have c123 := c75
  have c76 := mqIn_99 L
  have c124 := c76
  have c83 : Value.int .i64 (IntKind.i64.wrap ((L.length : Int) + 1)) = .int .i64 ((L.length + 1 : Nat) : Int) := iw (w64 (by omega) (by omega))
  have c84 : (0 : Int) ≤ ((L.length + 1 : Nat) : Int) ∧ ((L.length + 1 : Nat) : Int) < ((0 + L.length + 2 : Nat) : Int) := by omega
  have c86 := mqIn_98 L
  have c128 := fun W (hW : Chg [] w W) => works_N W (HL.chg0 hW)
  have rd2 := mq_stores L M (.slice A L.length c) hM w
  have rd7 := mq_apps L M (mqA (rowP M) M.length) (.slice A L.length c) hM w
  have h0 : 0 ≤ M.length := Nat.zero_le _
  have h5 : 0 ≤ 20 := Nat.zero_le _
  have e1 : [((0 : Nat), Sx.SV.val (.slice A L.length c)), (3, .own 3), (4, .own 4), (6, .own 5), (8, .own 6), (10, .val (.int .i64 ((0 : Nat) : Int)))] = [((0 : Nat), Sx.SV.val (.slice A L.length c)), (3, .own 3), (4, .own 4), (6, .own 5), (8, .own 6), (10, .val (.int .i64 ((0 : Nat) : Int)))] ∧ mqRows L M.length (mqA (rowP M) 0) M = mqRows L M.length (mqA (rowP M) 0) M := ⟨rfl, rfl⟩
  have e6 : mqFr2 (.slice A L.length c) 0 = mqFr2 (.slice A L.length c) 0 ∧ mqRows L (M.length + 0) (mqB (mqA (rowP M) M.length) 0) M = mqRows L (M.length + 0) (mqB (mqA (rowP M) M.length) 0) M := ⟨rfl, rfl⟩
  have z10 : Value.bool true = .bool true := rfl
  refine Sx.calls_is (args := [.slice A n c]) [(15, .any (.int .i64 (L.length : Int))), (16, .any (.slice A L.length c)), (3, .nils 29 18), (19, .app L.length (rowP L)), (29, .osl 0 L.length), (30, .callO (.tup [] 29 18 M.length (rowP M) [.int .i64 0])), (37, .osl 0 L.length), (38, .callO (.tup [] 29 18 M.length (rowP M) [.int .i64 0])), (43, .callO (.tup [] 29 18 M.length (rowP M) [.int .i64 0])), (52, .callO (.val (.bool true))), (58, .callO (.val (.bool true))), (65, .osl 0 L.length), (67, .callO (.val (.bool true))), (74, .ix), (76, .ld (.int .i64 99)), (83, .is (.int .i64 ((L.length + 1 : Nat) : Int))), (84, .ix), (86, .ld (.int .i64 98)), (109, .callO (.val (.bool true))), (114, .osl 0 L.length), (116, .callO (.val (.bool true))), (122, .ix), (124, .ld (.int .i64 99)), (128, .call (.bool true))] [.mk Nat 0 (fun i => i ≤ M.length) (mqFr1 (.slice A L.length c)) (fun i => mqRows L M.length (mqA (rowP M) i) M) (fun i => i + 1) (fun i => M.length + 2 - i) Unit (fun _ => True) (fun _ => mqFr0 (.slice A L.length c)) (fun _ => mqRows L M.length (mqA (rowP M) M.length) M) (fun _ => ()), .mk Nat 0 (fun j => j ≤ 20) (mqFr2 (.slice A L.length c)) (fun j => mqRows L (M.length + j) (mqB (mqA (rowP M) M.length) j) M) (fun j => j + 1) (fun j => 22 - j) Unit (fun _ => True) (fun _ => mqFr0 (.slice A L.length c)) (fun _ => mqRows L (M.length + 20) (mqB (mqA (rowP M) M.length) 20) M) (fun _ => ())] (by kernel_rfl) Tryz.func4 rfl (Nat.le_of_ble_eq_true rfl) ?_
  exact Eq.mp (by kernel_rfl) (And.intro c15 (And.intro c16 (And.intro c19 (And.intro c24 (And.intro c29 (And.intro c30 (And.intro c37 (And.intro c38 (And.intro c43 (And.intro c52 (And.intro c58 (And.intro c65 (And.intro c67 (And.intro c74 (And.intro c75 (And.intro c76 (And.intro c83 (And.intro c84 (And.intro c85 (And.intro c86 (And.intro h0 (And.intro e1 (And.intro rd2 (fun (x : Unit) (hx4 : True) => (And.intro h5 (And.intro e6 (And.intro rd7 (fun (x : Unit) (hx9 : True) => (And.intro c109 (And.intro c114 (And.intro c116 (And.intro c122 (And.intro c123 (And.intro c124 (And.intro c128 z10)))))))))))))))))))))))))))))))))))
set_option maxRecDepth 100000 in
/-- PrefixMerges, where one may not be. -/
theorem mq_bad (L : List RP) (n : Nat) (A : Option Addr) (c : Nat) (hm : L.length = min n 40) (hnc : n ≤ c) (hn : n ≤ 9223372036854775807)
    (hbL : ∀ p ∈ L, p.2.1 < 2 ^ 128 ∧ -9223372036854775808 ≤ p.2.2 ∧ p.2.2 ≤ 9223372036854775807) (w : World) (HL : Lan w)
    (h : Rd w 18 (.slice A L.length c) L.length (rowP L))
    (H15 : ∀ W s, Chg [] w W → Own W 29 18 s L.length (rowP L) → (∃ g o c', s = .slice (some ⟨g, o, none⟩) L.length c') → Calls Tryz.prog 15 #[s] W (Sx.retPost W (.val (.tuple #[.slice none 0 0, .int .i64 151]))))
    (H16 : ∀ W, Chg [] w W → Calls Tryz.prog 16 #[.slice A L.length c] W (Sx.retPost W (.val (.tuple #[.slice none 0 0, .int .i64 151])))) :
    Calls Tryz.prog 4 #[.slice A n c] w fun e w' => e = .returned (.bool true) ∧ Chg [] w w' := by
  obtain ⟨M, hM0⟩ : ∃ M : List RP, M = [] := ⟨_, rfl⟩
  have hM : M.length ≤ 1000000 := by rw [hM0]; exact Nat.zero_le _
  have hbM : ∀ p ∈ M, p.2.1 < 2 ^ 128 ∧ -9223372036854775808 ≤ p.2.2 ∧ p.2.2 ≤ 9223372036854775807 := fun p hp => by rw [hM0] at hp; cases hp
  have hL : L.length ≤ 40 := by omega
  have c15 : ∀ W, Chg [] w W → ((do let v ← Builtin.min_ #[3, 3] 3 #[.int .i64 (n : Int), .int .i64 40]; pure (Next.value v) : Sem Next)).run Tryz.prog W = .ok (.value (.int .i64 (L.length : Int))) W := fun W _ => by
    rw [Sem.run_bind, run_min_i64 #[3, 3] 3 (n : Int) 40 L.length (by omega)]
    rfl
  have c16 := fun W (_ : Chg [] w W) => run_first34 (A := A) (n := n) (c := c) (m := L.length) (by omega) W
  have c19 : (∀ W, Chg [] w W → ∃ A' c', Value.slice A L.length c = .slice A' L.length c' ∧ (0 < (rowP L).length → ∃ ad, A' = some ad ∧ ∀ (j : Nat) (u : Value), (rowP L)[j]? = some u → W.cell? (ad.add j) = some u)) ∧ (rowP L).length = L.length * 18 ∧ (∀ u ∈ rowP L, u.oneCell' = true) ∧ 0 + L.length ≤ maxLen ∧ (0 + L.length) * 32 ≤ 140737488355328 := by
    refine ⟨fun W hW => ⟨A, c, rfl, fun h0 => ?_⟩, rowP_len L, rowP_ones L, by unfold maxLen; omega, by omega⟩
    obtain ⟨_, A', c', hv, h3⟩ := h.chg hW
    injection hv with h1 _ _
    subst h1
    obtain ⟨g, o, rfl, hr⟩ := h3 (by rw [rowP_len] at h0; omega)
    exact ⟨_, rfl, fun j u hu => by rw [Addr.add_lit]; exact hr.2 j u hu⟩
  have c24 : True ∧ (P77 99 ++ P77 98).length = 2 * 18 ∧ (∀ u ∈ P77 99 ++ P77 98, u.oneCell' = true) ∧ 0 + L.length + 2 ≤ maxLen ∧ (0 + L.length + 2) * 32 ≤ 140737488355328 := by
    refine ⟨trivial, rfl, fun u hu => ?_, by unfold maxLen; omega, by omega⟩
    rcases List.mem_append.1 hu with hu | hu
    · exact p77_ones 99 u hu
    · exact p77_ones 98 u hu
  have c29 : ((0 : Nat) : Int) = ((0 : Nat) : Int) ∧ (L.length : Int) = (L.length : Int) ∧ 0 ≤ L.length ∧ L.length ≤ 0 + L.length + 2 := ⟨rfl, rfl, Nat.zero_le _, by omega⟩
  have c37 := c29
  have c65 := c29
  have c114 := c29
  have c30 : ∀ W, Chg [] w W → (0 * 18 = 0 * 18 ∧ 0 + (L.length - 0) ≤ 0 + L.length + 2) ∧ ∀ s, Own W 29 18 s (L.length - 0) (((mqIn L).drop (0 * 18)).take ((L.length - 0) * 18)) → (0 < 0 + L.length + 2 → ∃ g o c, s = .slice (some ⟨g, o, none⟩) (L.length - 0) c) → Calls Tryz.prog 15 #[s] W (Sx.retPost W (.val (.tuple #[.slice none 0 0, .int .i64 151]))) := by
    intro W hW
    refine ⟨⟨rfl, by omega⟩, fun s hs h1 => ?_⟩
    rw [mqIn_first, Nat.sub_zero] at hs
    exact H15 W s hW hs (h1 (by omega))
  have c38 := c30
  have c43 := H16
  have hsame : ∀ W s t, Own W 29 18 s M.length (rowP M) → Own W 29 18 t M.length (rowP M) → Calls Tryz.prog 17 #[s, t] W (Sx.retPost W (.val (.bool true))) := fun W s t hs ht => same_N M s t hM hbM W (Rd.of_own hs) (Rd.of_own ht)
  have c52 : ∀ W, Chg [] w W → ∀ s, Own W 29 18 s M.length (rowP M) → ∀ t, Own W 29 18 t M.length (rowP M) → Calls Tryz.prog 17 #[s, t] W (Sx.retPost W (.val (.bool true))) := fun W _ s hs t ht => hsame W s t hs ht
  have c58 := c52
  have c109 := c52
  have c67 : ∀ W, Chg [] w W → (0 * 18 = 0 * 18 ∧ 0 + (L.length - 0) ≤ 0 + L.length + 2) ∧ ∀ s, Own W 29 18 s (L.length - 0) (((mqIn L).drop (0 * 18)).take ((L.length - 0) * 18)) → (0 < 0 + L.length + 2 → ∃ g o c, s = .slice (some ⟨g, o, none⟩) (L.length - 0) c) → Calls Tryz.prog 17 #[s, .slice A L.length c] W (Sx.retPost W (.val (.bool true))) := by
    intro W hW
    refine ⟨⟨rfl, by omega⟩, fun s hs _ => ?_⟩
    rw [mqIn_first, Nat.sub_zero] at hs
    exact same_N L s (.slice A L.length c) (by omega) hbL W (Rd.of_own hs) (h.chg hW)
  have c116 := c67
  have c74 : (0 : Int) ≤ (L.length : Int) ∧ (L.length : Int) < ((0 + L.length + 2 : Nat) : Int) := by omega
  have c122 := c74
  have c75 : 0 < 0 + L.length + 2 := by omega
  have c85 := c75
  have c123 := c75
  have c76 := mqIn_99 L
  have c124 := c76
  have c83 : Value.int .i64 (IntKind.i64.wrap ((L.length : Int) + 1)) = .int .i64 ((L.length + 1 : Nat) : Int) := iw (w64 (by omega) (by omega))
  have c84 : (0 : Int) ≤ ((L.length + 1 : Nat) : Int) ∧ ((L.length + 1 : Nat) : Int) < ((0 + L.length + 2 : Nat) : Int) := by omega
  have c86 := mqIn_98 L
  have c128 := fun W (hW : Chg [] w W) => works_N W (HL.chg0 hW)
  have rd2 := mq_stores L M (.slice A L.length c) hM w
  have rd7 := mq_apps L M (mqA (rowP M) M.length) (.slice A L.length c) hM w
  have h0 : 0 ≤ M.length := Nat.zero_le _
  have h5 : 0 ≤ 20 := Nat.zero_le _
  have e1 : [((0 : Nat), Sx.SV.val (.slice A L.length c)), (3, .own 3), (4, .own 4), (6, .own 5), (8, .own 6), (10, .val (.int .i64 ((0 : Nat) : Int)))] = [((0 : Nat), Sx.SV.val (.slice A L.length c)), (3, .own 3), (4, .own 4), (6, .own 5), (8, .own 6), (10, .val (.int .i64 ((0 : Nat) : Int)))] ∧ mqRows L M.length (mqA (rowP M) 0) M = mqRows L M.length (mqA (rowP M) 0) M := ⟨rfl, rfl⟩
  have e6 : mqFr2 (.slice A L.length c) 0 = mqFr2 (.slice A L.length c) 0 ∧ mqRows L (M.length + 0) (mqB (mqA (rowP M) M.length) 0) M = mqRows L (M.length + 0) (mqB (mqA (rowP M) M.length) 0) M := ⟨rfl, rfl⟩
  have z10 : Value.bool true = .bool true := rfl
  subst hM0
  refine Sx.calls_is (args := [.slice A n c]) [(15, .any (.int .i64 (L.length : Int))), (16, .any (.slice A L.length c)), (3, .nils 29 18), (19, .app L.length (rowP L)), (29, .osl 0 L.length), (30, .callO (.val (.tuple #[.slice none 0 0, .int .i64 151]))), (37, .osl 0 L.length), (38, .callO (.val (.tuple #[.slice none 0 0, .int .i64 151]))), (43, .callO (.val (.tuple #[.slice none 0 0, .int .i64 151]))), (4, .nils 29 18), (6, .nils 29 18), (8, .nils 29 18), (52, .callO (.val (.bool true))), (58, .callO (.val (.bool true))), (65, .osl 0 L.length), (67, .callO (.val (.bool true))), (74, .ix), (76, .ld (.int .i64 99)), (83, .is (.int .i64 ((L.length + 1 : Nat) : Int))), (84, .ix), (86, .ld (.int .i64 98)), (109, .callO (.val (.bool true))), (114, .osl 0 L.length), (116, .callO (.val (.bool true))), (122, .ix), (124, .ld (.int .i64 99)), (128, .call (.bool true))] [.mk Nat 0 (fun i => i ≤ ([] : List RP).length) (mqFr1 (.slice A L.length c)) (fun i => mqRows L ([] : List RP).length (mqA (rowP []) i) []) (fun i => i + 1) (fun i => ([] : List RP).length + 2 - i) Unit (fun _ => True) (fun _ => mqFr0 (.slice A L.length c)) (fun _ => mqRows L ([] : List RP).length (mqA (rowP []) ([] : List RP).length) []) (fun _ => ()), .mk Nat 0 (fun j => j ≤ 20) (mqFr2 (.slice A L.length c)) (fun j => mqRows L (([] : List RP).length + j) (mqB (mqA (rowP []) ([] : List RP).length) j) []) (fun j => j + 1) (fun j => 22 - j) Unit (fun _ => True) (fun _ => mqFr0 (.slice A L.length c)) (fun _ => mqRows L (([] : List RP).length + 20) (mqB (mqA (rowP []) ([] : List RP).length) 20) []) (fun _ => ())] (by kernel_rfl) Tryz.func4 rfl (Nat.le_of_ble_eq_true rfl) ?_
  exact Eq.mp (by kernel_rfl) (And.intro c15 (And.intro c16 (And.intro c19 (And.intro c24 (And.intro c29 (And.intro c30 (And.intro c37 (And.intro c38 (And.intro c43 (And.intro c52 (And.intro c58 (And.intro c65 (And.intro c67 (And.intro c74 (And.intro c75 (And.intro c76 (And.intro c83 (And.intro c84 (And.intro c85 (And.intro c86 (And.intro h0 (And.intro e1 (And.intro rd2 (fun (x : Unit) (hx4 : True) => (And.intro h5 (And.intro e6 (And.intro rd7 (fun (x : Unit) (hx9 : True) => (And.intro c109 (And.intro c114 (And.intro c116 (And.intro c122 (And.intro c123 (And.intro c124 (And.intro c128 z10)))))))))))))))))))))))))))))))))))
end Go.Proofs.YtgpiapmbbnngpaaGreatDoor
