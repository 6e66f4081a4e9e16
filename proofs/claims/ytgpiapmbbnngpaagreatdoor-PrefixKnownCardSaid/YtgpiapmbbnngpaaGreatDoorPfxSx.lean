/- The reference's reader of the long texts, walked by reckoning. -/
import Derived.Test.YtgpiapmbbnngpaaGreatDoorPfxSp
import Derived.Test.YtgpiapmbbnngpaaGreatDoorSxM
import Derived.Test.YtgpiapmbbnngpaaGreatDoorPfxSf
namespace Go.Proofs.YtgpiapmbbnngpaaGreatDoor
open Go.RowKit Go.Lib Go.Sort

theorem ext_str (l : List UInt8) (a b : Nat) : (⟨l.toArray⟩ : ByteArray).extract a b = ⟨((l.take b).drop a).toArray⟩ := by
  apply ByteArray.ext
  simp [List.extract_eq_take_drop, List.drop_take]
theorem slice_to (s : List UInt8) (hi : Nat) (h2 : hi ≤ s.length) (W : World) : (Instr.sliceAt 9 (.string ⟨s.toArray⟩) none (some (.int .i64 hi)) none).run Tryz.prog W = .ok (.string ⟨(s.take hi).toArray⟩) W := by
  have hs : (⟨s.toArray⟩ : ByteArray).size = s.length := by simp [ByteArray.size]
  have := ext_str s 0 hi
  simp only [List.drop_zero] at this
  rw [← this]
  simp [Instr.sliceAt, run_underlying Tryz.underlying9, Instr.slice, Instr.sliceBounds, Instr.sliceBound, asIntOf, hs, h2]
theorem slice_from (s : List UInt8) (lo : Nat) (h2 : lo ≤ s.length) (W : World) : (Instr.sliceAt 9 (.string ⟨s.toArray⟩) (some (.int .i64 lo)) none none).run Tryz.prog W = .ok (.string ⟨(s.drop lo).toArray⟩) W := by
  have hs : (⟨s.toArray⟩ : ByteArray).size = s.length := by simp [ByteArray.size]
  have := ext_str s lo s.length
  rw [List.take_length] at this
  rw [← this]
  simp [Instr.sliceAt, run_underlying Tryz.underlying9, Instr.slice, Instr.sliceBounds, Instr.sliceBound, asIntOf, hs, h2]
theorem occ_two (s : List UInt8) (j : Nat) : Lib.occAt s [58, 58] j = true ↔ s[j]? = some 58 ∧ s[j + 1]? = some 58 := by
  unfold Lib.occAt
  rw [List.isPrefixOf_iff_prefix]
  constructor
  · rintro ⟨t, ht⟩
    have h0 : (s.drop j)[0]? = some 58 := by rw [← ht]; rfl
    have h1 : (s.drop j)[1]? = some 58 := by rw [← ht]; rfl
    rw [List.getElem?_drop] at h0 h1
    exact ⟨h0, h1⟩
  · rintro ⟨h0, h1⟩
    obtain ⟨l0, e0⟩ := List.getElem?_eq_some_iff.1 h0
    obtain ⟨l1, e1⟩ := List.getElem?_eq_some_iff.1 h1
    exact ⟨s.drop (j + 2), by rw [List.drop_eq_getElem_cons l0, e0, List.drop_eq_getElem_cons l1, e1]; rfl⟩
def dd (s : List UInt8) : Int := Lib.index s [58, 58]
theorem dd_none (s : List UInt8) (h : ∀ j, j + 1 < s.length → Lib.occAt s [58, 58] j = false) : dd s = -1 := by
  rcases Lib.index_spec s [58, 58] with ⟨h1, _⟩ | ⟨i, h1, _, h3, _⟩
  · exact h1
  · have h4 := (occ_two s i).1 h3
    have := (List.getElem?_eq_some_iff.1 h4.2).1
    rw [h i this] at h3
    cases h3
theorem dd_some (s : List UInt8) (i : Nat) (h : ∀ j, j < i → Lib.occAt s [58, 58] j = false) (h2 : Lib.occAt s [58, 58] i = true) : dd s = i := by
  rcases Lib.index_spec s [58, 58] with ⟨_, h1⟩ | ⟨k, h1, _, h3, h4⟩
  · have h5 := (occ_two s i).1 h2
    have := (List.getElem?_eq_some_iff.1 h5.2).1
    rw [h1 i (by omega)] at h2
    cases h2
  · unfold dd
    rw [h1]
    rcases Nat.lt_trichotomy k i with hk | hk | hk
    · rw [h k hk] at h3; cases h3
    · rw [hk]
    · rw [h4 i hk] at h2; cases h2
def adrL (v : Bool) (f : Nat → Nat) : Sx.Row := ⟨24, .vals (adrV v f)⟩
def ddR (s : List UInt8) (k : Nat × Int) : Prop := k.1 ≤ s.length ∧ ((k.2 = -1 ∧ ∀ j, j < k.1 → Lib.occAt s [58, 58] j = false) ∨ (k.2 = dd s ∧ 0 ≤ dd s))
def ddNext (s : List UInt8) (k : Nat × Int) : Nat × Int := if s[k.1]? = some 58 ∧ s[k.1 + 1]? = some 58 then (k.1 + 1, (k.1 : Int)) else (k.1 + 1, k.2)
def ddFr (s : List UInt8) (k : Nat × Int) : List (Nat × Sx.SV) := [(0, .val (.string ⟨s.toArray⟩)), (2, .ptr 0 0), (4, .ptr 1 0), (5, .val (.int .i64 k.2)), (6, .val (.int .i64 (k.1 : Int)))]
def ddMem : List Sx.Row := [⟨24, .vals zadL⟩, adrL true fun _ => 0]
def ddFo (s : List UInt8) : List (Nat × Sx.SV) := [(0, .val (.string ⟨s.toArray⟩)), (2, .ptr 0 0), (4, .ptr 1 0), (5, .val (.int .i64 (dd s)))]
def sixV (T : (Nat → Nat) × Bool) : Value := .tuple #[.agg (adrV true T.1).toArray, .bool T.2]
set_option maxRecDepth 100000 in
theorem six_lp1 (s : List UInt8) (T : Value) (w : World) (hs : s.length ≤ 100000000) (k : Nat × Int) (hk : ddR s k) : ∃ H' L', Sx.ex Tryz.prog 144 w (Sx.bodyOf Tryz.f46 0) H' L' ⟨ddFr s k, ddMem⟩
    (Sx.loopK (ddR s) (ddFr s) (fun _ => ddMem) (ddNext s) (fun q => s.length + 2 - q.1) (fun (_ : Unit) => True) (fun _ => ddFo s) (fun _ => ddMem) (fun _ => ()) (Sx.outId (Sx.bodyOf Tryz.f46 0) - 1) (Sx.atEnd Tryz.prog Tryz.f46 (fun u => u = T) .ret) k) := by
  obtain ⟨i, t⟩ := k
  obtain ⟨hi, hk⟩ := hk
  simp only at hi hk
  have c18 : Value.int .i64 (IntKind.i64.wrap ((i : Int) + 1)) = .int .i64 ((i + 1 : Nat) : Int) := iw (w64 (by omega) (by omega))
  have c20 := len_i s
  have c27 := c18
  have c35 := c18
  have out : t = dd s → ddFo s = ddFo s := fun _ => rfl
  have h0 : True := trivial
  by_cases h1 : i + 1 < s.length
  · have c21 : Value.bool (decide (((i + 1 : Nat) : Int) < (s.length : Int))) = .bool true := bzt (decide_eq_true (by omega))
    rcases hk with ⟨rfl, hno⟩ | ⟨rfl, hpos⟩
    · obtain ⟨c, hc⟩ : ∃ c, s[i]? = some c := ⟨_, List.getElem?_eq_getElem (by omega)⟩
      obtain ⟨d, hd⟩ : ∃ d, s[i + 1]? = some d := ⟨_, List.getElem?_eq_getElem h1⟩
      have c30 := u8_at s i c hc
      have c36 := u8_at s (i + 1) d hd
      have hlt : s.length + 2 - (i + 1) < s.length + 2 - i := by omega
      by_cases hc58 : c = 58
      · have c31 : Value.bool ((c.toNat : Int) == 58) = .bool true := bzt (by rw [hc58]; rfl)
        by_cases hd58 : d = 58
        · have c37 : Value.bool ((d.toNat : Int) == 58) = .bool true := bzt (by rw [hd58]; rfl)
          have hnx : ddNext s (i, -1) = (i + 1, (i : Int)) := by unfold ddNext; rw [if_pos ⟨by rw [← hc58]; exact hc, by rw [← hd58]; exact hd⟩]
          have hdd : dd s = i := dd_some s i hno ((occ_two s i).2 ⟨by rw [← hc58]; exact hc, by rw [← hd58]; exact hd⟩)
          have h0 : ddR s (i + 1, (i : Int)) := ⟨by show i + 1 ≤ _; omega, .inr ⟨hdd.symm, by omega⟩⟩
          have h1 := hlt
          have h2 : ddFr s (i + 1, (i : Int)) = ddFr s (i + 1, (i : Int)) := rfl
          have z3 : ddMem = ddMem := rfl
          refine ⟨[(18, .is (.int .i64 ((i + 1 : Nat) : Int))), (20, .is (.int .i64 (s.length : Int))), (21, .is (.bool true)), (30, .bin (u8 c)), (31, .is (.bool true)), (35, .is (.int .i64 ((i + 1 : Nat) : Int))), (36, .bin (u8 d)), (37, .is (.bool true)), (27, .is (.int .i64 ((i + 1 : Nat) : Int)))], [], ?_⟩
          rw [loop_next hnx]
          exact Eq.mp (by kernel_rfl) (And.intro c18 (And.intro c20 (And.intro c21 (And.intro c30 (And.intro c31 (And.intro c35 (And.intro c36 (And.intro c37 (And.intro c27 (And.intro h0 (And.intro h1 (And.intro h2 z3))))))))))))
        · have c37 : Value.bool ((d.toNat : Int) == 58) = .bool false := bzf (by
            have : d.toNat ≠ 58 := fun h => hd58 (UInt8.toNat_inj.1 (by rw [h]; rfl))
            simp; omega)
          have hnx : ddNext s (i, -1) = (i + 1, -1) := by unfold ddNext; rw [if_neg (by rintro ⟨_, h⟩; simp only at h; rw [hd] at h; exact hd58 (Option.some.inj h))]
          have h0 : ddR s (i + 1, -1) := ⟨by show i + 1 ≤ _; omega, .inl ⟨rfl, fun j hj => by
            by_cases hji : j = i
            · rw [hji, Bool.eq_false_iff]; intro h; have := ((occ_two s i).1 h).2; rw [hd] at this; exact hd58 (Option.some.inj this)
            · exact hno j (by simp only at hj; omega)⟩⟩
          have h1 := hlt
          have h2 : ddFr s (i + 1, -1) = ddFr s (i + 1, -1) := rfl
          have z3 : ddMem = ddMem := rfl
          refine ⟨[(18, .is (.int .i64 ((i + 1 : Nat) : Int))), (20, .is (.int .i64 (s.length : Int))), (21, .is (.bool true)), (30, .bin (u8 c)), (31, .is (.bool true)), (35, .is (.int .i64 ((i + 1 : Nat) : Int))), (36, .bin (u8 d)), (37, .is (.bool false)), (27, .is (.int .i64 ((i + 1 : Nat) : Int)))], [], ?_⟩
          rw [loop_next hnx]
          exact Eq.mp (by kernel_rfl) (And.intro c18 (And.intro c20 (And.intro c21 (And.intro c30 (And.intro c31 (And.intro c35 (And.intro c36 (And.intro c37 (And.intro c27 (And.intro h0 (And.intro h1 (And.intro h2 z3))))))))))))
      · have c31 : Value.bool ((c.toNat : Int) == 58) = .bool false := bzf (by
          have : c.toNat ≠ 58 := fun h => hc58 (UInt8.toNat_inj.1 (by rw [h]; rfl))
          simp; omega)
        have hnx : ddNext s (i, -1) = (i + 1, -1) := by unfold ddNext; rw [if_neg (by rintro ⟨h, _⟩; simp only at h; rw [hc] at h; exact hc58 (Option.some.inj h))]
        have h0 : ddR s (i + 1, -1) := ⟨by show i + 1 ≤ _; omega, .inl ⟨rfl, fun j hj => by
          by_cases hji : j = i
          · rw [hji, Bool.eq_false_iff]; intro h; have := ((occ_two s i).1 h).1; rw [hc] at this; exact hc58 (Option.some.inj this)
          · exact hno j (by simp only at hj; omega)⟩⟩
        have h1 := hlt
        have h2 : ddFr s (i + 1, -1) = ddFr s (i + 1, -1) := rfl
        have z3 : ddMem = ddMem := rfl
        refine ⟨[(18, .is (.int .i64 ((i + 1 : Nat) : Int))), (20, .is (.int .i64 (s.length : Int))), (21, .is (.bool true)), (30, .bin (u8 c)), (31, .is (.bool false)), (27, .is (.int .i64 ((i + 1 : Nat) : Int)))], [], ?_⟩
        rw [loop_next hnx]
        exact Eq.mp (by kernel_rfl) (And.intro c18 (And.intro c20 (And.intro c21 (And.intro c30 (And.intro c31 (And.intro c27 (And.intro h0 (And.intro h1 (And.intro h2 z3)))))))))
    · have c24 : Value.bool (decide (dd s < 0)) = .bool false := bzf (decide_eq_false (by omega))
      have h1 : ddFo s = ddFo s := rfl
      have z2 : ddMem = ddMem := rfl
      refine ⟨[(18, .is (.int .i64 ((i + 1 : Nat) : Int))), (20, .is (.int .i64 (s.length : Int))), (21, .is (.bool true)), (24, .is (.bool false))], [], ?_⟩
      exact Eq.mp (by kernel_rfl) (And.intro c18 (And.intro c20 (And.intro c21 (And.intro c24 (And.intro h0 (And.intro h1 z2))))))
  · have c21 : Value.bool (decide (((i + 1 : Nat) : Int) < (s.length : Int))) = .bool false := bzf (decide_eq_false (by omega))
    have ht : t = dd s := by
      rcases hk with ⟨rfl, hno⟩ | ⟨rfl, _⟩
      · exact (dd_none s fun j hj => hno j (by omega)).symm
      · rfl
    subst ht
    have h1 : ddFo s = ddFo s := rfl
    have z2 : ddMem = ddMem := rfl
    refine ⟨[(18, .is (.int .i64 ((i + 1 : Nat) : Int))), (20, .is (.int .i64 (s.length : Int))), (21, .is (.bool false))], [], ?_⟩
    exact Eq.mp (by kernel_rfl) (And.intro c18 (And.intro c20 (And.intro c21 (And.intro h0 (And.intro h1 z2)))))
def layR (F : Nat → Nat) (p : Nat) (l : List Nat) (k : Nat × (Nat → Nat)) : Prop := k.1 ≤ l.length ∧ layF k.2 (p + k.1) (l.drop k.1) = F
def layNext (p : Nat) (l : List Nat) (k : Nat × (Nat → Nat)) : Nat × (Nat → Nat) := (k.1 + 1, setG k.2 (p + k.1) (l.getD k.1 0))
def layFr2 (k : Nat × (Nat → Nat)) : List (Nat × Sx.SV) := [(2, .ptr 0 0), (4, .ptr 1 0), (9, .own 2), (11, .own 3), (13, .val (.int .i64 (k.1 : Int)))]
def layFr3 (k : Nat × (Nat → Nat)) : List (Nat × Sx.SV) := [(2, .ptr 0 0), (4, .ptr 1 0), (11, .own 3), (14, .val (.int .i64 (k.1 : Int)))]
def layMem (a b : List Nat) (f : Nat → Nat) : List Sx.Row := [⟨24, .vals zadL⟩, adrL true f, ⟨3, .own 1 a.length (ints a)⟩, ⟨3, .own 1 b.length (ints b)⟩]
def layFo2 : List (Nat × Sx.SV) := [(2, .ptr 0 0), (4, .ptr 1 0), (11, .own 3)]
def layFo3 : List (Nat × Sx.SV) := [(2, .ptr 0 0), (4, .ptr 1 0)]
theorem ints_at {l : List Nat} {i u : Nat} (h : l[i]? = some u) : (ints l)[i]? = some (.int .i64 (u : Int)) := by unfold ints; rw [List.getElem?_map, h]; rfl
theorem st_ob (v : Bool) (f : Nat → Nat) (k n : Nat) (hk : k < 16) : 0 + 1 + ((k : Int).toNat * 1) + 1 ≤ (adrV v f).length ∧ (adrV v f).take (0 + 1 + ((k : Int).toNat * 1)) ++ ([.int .u8 (n : Int)] ++ (adrV v f).drop (0 + 1 + ((k : Int).toNat * 1) + 1)) = adrV v (upd f k n) := by
  rw [Int.toNat_natCast, Nat.mul_one, Nat.zero_add]
  exact ⟨by rw [adrV_length]; omega, adrV_upd v f k n hk⟩
set_option maxRecDepth 100000 in
theorem six_lp2 (a b : List Nat) (hla : a.length + b.length ≤ 8) (hb : ∀ u ∈ a, u < 65536) (F : Nat → Nat) (T : Value) (w : World) (k : Nat × (Nat → Nat)) (hk : layR F (0) a k) : ∃ H' L', Sx.ex Tryz.prog 144 w (Sx.bodyOf Tryz.f46 1) H' L' ⟨layFr2 k, layMem a b k.2⟩
    (Sx.loopK (layR F (0) a) layFr2 (fun k => layMem a b k.2) (layNext (0) a) (fun q => a.length + 2 - q.1) (fun (_ : Unit) => True) (fun _ => layFo2) (fun _ => layMem a b F) (fun _ => ()) (Sx.outId (Sx.bodyOf Tryz.f46 1) - 1) (Sx.atEnd Tryz.prog Tryz.f46 (fun u => u = T) .ret) k) := by
  obtain ⟨i, f⟩ := k
  obtain ⟨hi, hk⟩ := hk
  simp only at hi hk
  by_cases h : i < a.length
  · obtain ⟨u, hu⟩ : ∃ u, a[i]? = some u := ⟨_, List.getElem?_eq_getElem h⟩
    have hu65 := hb u (List.mem_of_getElem? hu)
    have hdrop : a.drop i = u :: a.drop (i + 1) := by
      rw [List.drop_eq_getElem_cons h]
      have := List.getElem?_eq_getElem h
      rw [hu] at this
      rw [Option.some.inj this]
    rw [hdrop, layF] at hk
    have hgd : a.getD i 0 = u := by rw [List.getD_eq_getElem?_getD, hu]; rfl
    have hnx : layNext (0) a (i, f) = (i + 1, setG f (0 + i) u) := by unfold layNext; rw [hgd]
    have cwr : ∀ x : Nat, x ≤ 255 → Value.int .u8 (IntKind.u8.wrap (x : Int)) = .int .u8 (x : Int) := fun x hx => iu (wu8 (by omega) (by omega))
    have cix : (0 : Int) ≤ (i : Int) ∧ (i : Int) < (a.length : Nat) := by omega
    have cld : (ints a)[(i : Int).toNat * 1]? = some (.int .i64 (u : Int)) := by rw [Int.toNat_natCast, Nat.mul_one]; exact ints_at hu
    have h1 : a.length + 2 - (i + 1) < a.length + 2 - i := by omega
    have cq : Value.int .i64 (IntKind.i64.wrap ((u : Int).tdiv 256)) = .int .i64 ((u / 256 : Nat) : Int) := iw (by rw [show ((u : Int).tdiv 256) = ((u / 256 : Nat) : Int) by rw [Int.tdiv_eq_ediv_of_nonneg (by omega)]; rfl, w64 (by omega) (by omega)])
    have cm : Value.int .i64 ((u : Int).tmod 256) = .int .i64 ((u % 256 : Nat) : Int) := iw (by rw [Int.tmod_eq_emod_of_nonneg (by omega)]; rfl)
    have cd := cwr (u / 256) (by omega)
    have ce := cwr (u % 256) (by omega)
    have cn : Value.int .i64 (IntKind.i64.wrap ((i : Int) + 1)) = .int .i64 ((i + 1 : Nat) : Int) := iw (w64 (by omega) (by omega))
    rw [Nat.zero_add] at hk hnx
    have c87 : Value.bool (decide ((i : Int) < (a.length : Int))) = .bool true := bzt (decide_eq_true (by omega))
    have c91 : Value.int .i64 (IntKind.i64.wrap (2 * (i : Int))) = .int .i64 ((2 * i : Nat) : Int) := iw (by rw [w64 (by omega) (by omega)]; omega)
    have c94 := cix
    have c95 := cld
    have c96 := cq
    have c97 := cd
    have c99 : (0 : Int) ≤ ((2 * i : Nat) : Int) ∧ ((2 * i : Nat) : Int) < 16 := by omega
    have c100099 := st_ob true f (2 * i) (u / 256) (by omega)
    have c101 := c91
    have c102 : Value.int .i64 (IntKind.i64.wrap (((2 * i : Nat) : Int) + 1)) = .int .i64 ((2 * i + 1 : Nat) : Int) := iw (w64 (by omega) (by omega))
    have c105 := cix
    have c106 := cld
    have c107 := cm
    have c108 := ce
    have c110 : (0 : Int) ≤ ((2 * i + 1 : Nat) : Int) ∧ ((2 * i + 1 : Nat) : Int) < 16 := by omega
    have c100110 := st_ob true (upd f (2 * i) (u / 256)) (2 * i + 1) (u % 256) (by omega)
    have c89 := cn
    have h0 : layR F 0 a (i + 1, setG f i u) := ⟨h, by show layF _ (0 + (i + 1)) _ = F; rw [Nat.zero_add]; exact hk⟩
    have h2 : layFr2 (i + 1, setG f i u) = layFr2 (i + 1, setG f i u) := rfl
    have z3 : layMem a b (setG f i u) = layMem a b (setG f i u) := rfl
    refine ⟨[(87, .is (.bool true)), (91, .is (.int .i64 ((2 * i : Nat) : Int))), (94, .ix), (95, .ld (.int .i64 (u : Int))), (96, .is (.int .i64 ((u / 256 : Nat) : Int))), (97, .is (.int .u8 ((u / 256 : Nat) : Int))), (99, .ix), (100099, .st (adrV true (upd f (2 * i) (u / 256)))), (101, .is (.int .i64 ((2 * i : Nat) : Int))), (102, .is (.int .i64 ((2 * i + 1 : Nat) : Int))), (105, .ix), (106, .ld (.int .i64 (u : Int))), (107, .is (.int .i64 ((u % 256 : Nat) : Int))), (108, .is (.int .u8 ((u % 256 : Nat) : Int))), (110, .ix), (100110, .st (adrV true (setG f i u))), (89, .is (.int .i64 ((i + 1 : Nat) : Int)))], [], ?_⟩
    rw [loop_next hnx]
    exact Eq.mp (by kernel_rfl) (And.intro c87 (And.intro c91 (And.intro c94 (And.intro c95 (And.intro c96 (And.intro c97 (And.intro c99 (And.intro c100099 (And.intro c101 (And.intro c102 (And.intro c105 (And.intro c106 (And.intro c107 (And.intro c108 (And.intro c110 (And.intro c100110 (And.intro c89 (And.intro h0 (And.intro h1 (And.intro h2 z3))))))))))))))))))))
  · have c87 : Value.bool (decide ((i : Int) < (a.length : Int))) = .bool false := bzf (decide_eq_false (by omega))
    rw [List.drop_of_length_le (by omega), layF] at hk
    have h0 : True := trivial
    have h1 : layFo2 = layFo2 := rfl
    have z2 : layMem a b f = layMem a b F := by rw [hk]
    refine ⟨[(87, .is (.bool false))], [], ?_⟩
    exact Eq.mp (by kernel_rfl) (And.intro c87 (And.intro h0 (And.intro h1 z2)))
set_option maxRecDepth 100000 in
theorem six_lp3 (a b : List Nat) (hla : a.length + b.length ≤ 8) (hb : ∀ u ∈ b, u < 65536) (F : Nat → Nat) (T : Value) (w : World) (k : Nat × (Nat → Nat)) (hk : layR F (8 - b.length) b k) : ∃ H' L', Sx.ex Tryz.prog 144 w (Sx.bodyOf Tryz.f46 2) H' L' ⟨layFr3 k, layMem a b k.2⟩
    (Sx.loopK (layR F (8 - b.length) b) layFr3 (fun k => layMem a b k.2) (layNext (8 - b.length) b) (fun q => b.length + 2 - q.1) (fun (_ : Unit) => True) (fun _ => layFo3) (fun _ => layMem a b F) (fun _ => ()) (Sx.outId (Sx.bodyOf Tryz.f46 2) - 1) (Sx.atEnd Tryz.prog Tryz.f46 (fun u => u = T) .ret) k) := by
  obtain ⟨i, f⟩ := k
  obtain ⟨hi, hk⟩ := hk
  simp only at hi hk
  by_cases h : i < b.length
  · obtain ⟨u, hu⟩ : ∃ u, b[i]? = some u := ⟨_, List.getElem?_eq_getElem h⟩
    have hu65 := hb u (List.mem_of_getElem? hu)
    have hdrop : b.drop i = u :: b.drop (i + 1) := by
      rw [List.drop_eq_getElem_cons h]
      have := List.getElem?_eq_getElem h
      rw [hu] at this
      rw [Option.some.inj this]
    rw [hdrop, layF] at hk
    have hgd : b.getD i 0 = u := by rw [List.getD_eq_getElem?_getD, hu]; rfl
    have hnx : layNext (8 - b.length) b (i, f) = (i + 1, setG f (8 - b.length + i) u) := by unfold layNext; rw [hgd]
    have cwr : ∀ x : Nat, x ≤ 255 → Value.int .u8 (IntKind.u8.wrap (x : Int)) = .int .u8 (x : Int) := fun x hx => iu (wu8 (by omega) (by omega))
    have cix : (0 : Int) ≤ (i : Int) ∧ (i : Int) < (b.length : Nat) := by omega
    have cld : (ints b)[(i : Int).toNat * 1]? = some (.int .i64 (u : Int)) := by rw [Int.toNat_natCast, Nat.mul_one]; exact ints_at hu
    have h1 : b.length + 2 - (i + 1) < b.length + 2 - i := by omega
    have cq : Value.int .i64 (IntKind.i64.wrap ((u : Int).tdiv 256)) = .int .i64 ((u / 256 : Nat) : Int) := iw (by rw [show ((u : Int).tdiv 256) = ((u / 256 : Nat) : Int) by rw [Int.tdiv_eq_ediv_of_nonneg (by omega)]; rfl, w64 (by omega) (by omega)])
    have cm : Value.int .i64 ((u : Int).tmod 256) = .int .i64 ((u % 256 : Nat) : Int) := iw (by rw [Int.tmod_eq_emod_of_nonneg (by omega)]; rfl)
    have cd := cwr (u / 256) (by omega)
    have ce := cwr (u % 256) (by omega)
    have cn : Value.int .i64 (IntKind.i64.wrap ((i : Int) + 1)) = .int .i64 ((i + 1 : Nat) : Int) := iw (w64 (by omega) (by omega))
    have c114 : Value.bool (decide ((i : Int) < (b.length : Int))) = .bool true := bzt (decide_eq_true (by omega))
    have c119 : Value.int .i64 (IntKind.i64.wrap (8 - (b.length : Int))) = .int .i64 ((8 - b.length : Nat) : Int) := iw (by rw [w64 (by omega) (by omega)]; omega)
    generalize hp : 8 - b.length = p at *
    have c121 : Value.int .i64 (IntKind.i64.wrap ((p : Int) + (i : Int))) = .int .i64 ((p + i : Nat) : Int) := iw (by rw [w64 (by omega) (by omega)]; omega)
    generalize hq : p + i = q at *
    have hq8 : q < 8 := by omega
    have c123 : Value.int .i64 (IntKind.i64.wrap (2 * (q : Int))) = .int .i64 ((2 * q : Nat) : Int) := iw (by rw [w64 (by omega) (by omega)]; omega)
    have c126 := cix
    have c127 := cld
    have c128 := cq
    have c129 := cd
    have c131 : (0 : Int) ≤ ((2 * q : Nat) : Int) ∧ ((2 * q : Nat) : Int) < 16 := by omega
    have c100131 := st_ob true f (2 * q) (u / 256) (by omega)
    have c133 := c123
    have c134 : Value.int .i64 (IntKind.i64.wrap (((2 * q : Nat) : Int) + 1)) = .int .i64 ((2 * q + 1 : Nat) : Int) := iw (w64 (by omega) (by omega))
    have c137 := cix
    have c138 := cld
    have c139 := cm
    have c140 := ce
    have c142 : (0 : Int) ≤ ((2 * q + 1 : Nat) : Int) ∧ ((2 * q + 1 : Nat) : Int) < 16 := by omega
    have c100142 := st_ob true (upd f (2 * q) (u / 256)) (2 * q + 1) (u % 256) (by omega)
    have c116 := cn
    have h0 : layR F p b (i + 1, setG f q u) := ⟨h, by show layF _ (p + (i + 1)) _ = F; rw [← Nat.add_assoc, hq]; exact hk⟩
    have h2 : layFr3 (i + 1, setG f q u) = layFr3 (i + 1, setG f q u) := rfl
    have z3 : layMem a b (setG f q u) = layMem a b (setG f q u) := rfl
    refine ⟨[(114, .is (.bool true)), (119, .is (.int .i64 (p : Int))), (121, .is (.int .i64 (q : Int))), (123, .is (.int .i64 ((2 * q : Nat) : Int))), (126, .ix), (127, .ld (.int .i64 (u : Int))), (128, .is (.int .i64 ((u / 256 : Nat) : Int))), (129, .is (.int .u8 ((u / 256 : Nat) : Int))), (131, .ix), (100131, .st (adrV true (upd f (2 * q) (u / 256)))), (133, .is (.int .i64 ((2 * q : Nat) : Int))), (134, .is (.int .i64 ((2 * q + 1 : Nat) : Int))), (137, .ix), (138, .ld (.int .i64 (u : Int))), (139, .is (.int .i64 ((u % 256 : Nat) : Int))), (140, .is (.int .u8 ((u % 256 : Nat) : Int))), (142, .ix), (100142, .st (adrV true (setG f q u))), (116, .is (.int .i64 ((i + 1 : Nat) : Int)))], [], ?_⟩
    rw [loop_next hnx]
    exact Eq.mp (by kernel_rfl) (And.intro c114 (And.intro c119 (And.intro c121 (And.intro c123 (And.intro c126 (And.intro c127 (And.intro c128 (And.intro c129 (And.intro c131 (And.intro c100131 (And.intro c133 (And.intro c134 (And.intro c137 (And.intro c138 (And.intro c139 (And.intro c140 (And.intro c142 (And.intro c100142 (And.intro c116 (And.intro h0 (And.intro h1 (And.intro h2 z3))))))))))))))))))))))
  · have c114 : Value.bool (decide ((i : Int) < (b.length : Int))) = .bool false := bzf (decide_eq_false (by omega))
    rw [List.drop_of_length_le (by omega), layF] at hk
    have h0 : True := trivial
    have h1 : layFo3 = layFo3 := rfl
    have z2 : layMem a b f = layMem a b F := by rw [hk]
    refine ⟨[(114, .is (.bool false))], [], ?_⟩
    exact Eq.mp (by kernel_rfl) (And.intro c114 (And.intro h0 (And.intro h1 z2)))
/-- What numbers gives, of a text whose numbers are known. -/
theorem numbers_some {s : List UInt8} {l : List Nat} (h : numsF s = some l) (hs : s.length ≤ 100000000) (w : World) : Calls Tryz.prog 76 #[.string ⟨s.toArray⟩] w (Sx.retPost w (.tup [] 3 1 l.length (ints l) [.bool true])) := by
  have := numbers_N s hs w
  rwa [h] at this
theorem numbers_none {s : List UInt8} (h : numsF s = none) (hs : s.length ≤ 100000000) (w : World) : Calls Tryz.prog 76 #[.string ⟨s.toArray⟩] w (Sx.retPost w (.val (.tuple #[.slice none 0 0, .bool false]))) := by
  have := numbers_N s hs w
  rwa [h] at this
def badR : Sx.Ret := .val (.tuple #[.slice none 0 0, .bool false])
def sixLoops (s : List UInt8) (a b : List Nat) : List Sx.Loop :=
  [.mk (Nat × Int) (0, -1) (ddR s) (ddFr s) (fun _ => ddMem) (ddNext s) (fun q => s.length + 2 - q.1) Unit (fun _ => True) (fun _ => ddFo s) (fun _ => ddMem) (fun _ => ()),
   .mk (Nat × (Nat → Nat)) (0, fun _ => 0) (layR (layF (fun _ => 0) 0 a) 0 a) layFr2 (fun k => layMem a b k.2) (layNext 0 a) (fun q => a.length + 2 - q.1) Unit (fun _ => True) (fun _ => layFo2) (fun _ => layMem a b (layF (fun _ => 0) 0 a)) (fun _ => ()),
   .mk (Nat × (Nat → Nat)) (0, layF (fun _ => 0) 0 a) (layR (sixB a b) (8 - b.length) b) layFr3 (fun k => layMem a b k.2) (layNext (8 - b.length) b) (fun q => b.length + 2 - q.1) Unit (fun _ => True) (fun _ => layFo3) (fun _ => layMem a b (sixB a b)) (fun _ => ())]
set_option maxRecDepth 100000 in
theorem six_N (s : List UInt8) (hs : s.length ≤ 100000000) (w : World) : Calls Tryz.prog 46 #[.string ⟨s.toArray⟩] w fun e w' => e = .returned (sixV (sixF s)) ∧ Chg [] w w' := by
  have h0 : ddR s (0, -1) := ⟨Nat.zero_le _, .inl ⟨rfl, fun j hj => by simp at hj⟩⟩
  have e1 : ddFr s (0, -1) = ddFr s (0, -1) ∧ ddMem = ddMem := ⟨rfl, rfl⟩
  have rd2 := six_lp1 s (sixV (sixF s)) w hs
  have bad : ∀ {l r : List UInt8} {fnd : Bool}, Lib.cut s [58, 58] = (l, r, fnd) → sixG l r fnd = (fun _ => 0, false) → Value.tuple #[.agg (adrV true fun _ => 0).toArray, .bool false] = sixV (sixF s) := fun h1 h2 => by unfold sixF; rw [h1, h2]; rfl
  have good : ∀ {l r : List UInt8} {fnd : Bool} {a b : List Nat}, Lib.cut s [58, 58] = (l, r, fnd) → sixG l r fnd = (sixB a b, true) → Value.tuple #[.agg (adrV true (sixB a b)).toArray, .bool true] = sixV (sixF s) := fun h1 h2 => by unfold sixF; rw [h1, h2]; rfl
  have l2 : ∀ a b : List Nat, layR (layF (fun _ => 0) 0 a) 0 a (0, fun _ => 0) := fun a b => ⟨Nat.zero_le _, rfl⟩
  have l3 : ∀ a b : List Nat, layR (sixB a b) (8 - b.length) b (0, layF (fun _ => 0) 0 a) := fun a b => ⟨Nat.zero_le _, rfl⟩
  by_cases hd : dd s < 0
  · have hcut : Lib.cut s [58, 58] = (s, [], false) := by unfold Lib.cut; rw [if_neg (by unfold dd at hd; omega)]
    have c42 : Value.bool (decide (dd s ≥ 0)) = .bool false := bzf (decide_eq_false (by omega))
    have c68 : Value.bool (decide (dd s < 0)) = .bool true := bzt (decide_eq_true (by omega))
    have c57 := fun W (_ : Chg [] w W) => numbers_some numsF_nil (by simp) W
    cases ha : numsF s with
    | none =>
      have c52 := fun W (_ : Chg [] w W) => numbers_none ha hs W
      have z5 := bad hcut (by unfold sixG; rw [ha])
      refine Sx.calls_is (args := [.string ⟨s.toArray⟩]) [(42, .is (.bool false)), (52, .callO badR), (57, .callO (.tup [] 3 1 0 [] [.bool true]))] (sixLoops s [] []) (by kernel_rfl) Tryz.func46 rfl (Nat.le_of_ble_eq_true rfl) ?_
      exact Eq.mp (by kernel_rfl) (And.intro h0 (And.intro e1 (And.intro rd2 (fun (x : Unit) (hx4 : True) => (And.intro c42 (And.intro c52 (And.intro c57 z5)))))))
    | some a =>
      obtain ⟨ha65, ha8⟩ := numsF_bd ha
      have c52 := fun W (_ : Chg [] w W) => numbers_some ha hs W
      by_cases h8 : a.length = 8
      · have c72 : Value.bool ((a.length : Int) != 8) = .bool false := bzf (by simp; omega)
        have c80 : Value.int .i64 (IntKind.i64.wrap ((a.length : Int) + 0)) = .int .i64 (a.length : Int) := iw (by rw [w64 (by omega) (by omega)]; omega)
        have c81 : Value.bool (decide ((a.length : Int) > 8)) = .bool false := bzf (decide_eq_false (by omega))
        have z15 := good hcut (a := a) (b := []) (by unfold sixG; rw [ha, numsF_nil]; simp only; rw [if_neg (by simp; omega)])
        have h5 := l2 a []
        have h10 := l3 a []
        have rd7 := six_lp2 a [] (by simp; omega) (ha65) (layF (fun _ => 0) 0 a) (sixV (sixF s)) w
        have rd12 := six_lp3 a [] (by simp; omega) (by simp) (sixB a []) (sixV (sixF s)) w
        have e6 : layFr2 (0, fun _ => 0) = layFr2 (0, fun _ => 0) ∧ layMem a [] (fun _ => 0) = layMem a [] (fun _ => 0) := ⟨rfl, rfl⟩
        have e11 : layFr3 (0, layF (fun _ => 0) 0 a) = layFr3 (0, layF (fun _ => 0) 0 a) ∧ layMem a [] (layF (fun _ => 0) 0 a) = layMem a [] (layF (fun _ => 0) 0 a) := ⟨rfl, rfl⟩
        refine Sx.calls_is (args := [.string ⟨s.toArray⟩]) [(42, .is (.bool false)), (52, .callO (.tup [] 3 1 a.length (ints a) [.bool true])), (57, .callO (.tup [] 3 1 0 [] [.bool true])), (68, .is (.bool true)), (72, .is (.bool false)), (80, .is (.int .i64 (a.length : Int))), (81, .is (.bool false))] (sixLoops s a []) (by kernel_rfl) Tryz.func46 rfl (Nat.le_of_ble_eq_true rfl) ?_
        exact Eq.mp (by kernel_rfl) (And.intro h0 (And.intro e1 (And.intro rd2 (fun (x : Unit) (hx4 : True) => (And.intro c42 (And.intro c52 (And.intro c57 (And.intro c68 (And.intro c72 (And.intro c80 (And.intro c81 (And.intro h5 (And.intro e6 (And.intro rd7 (fun (x : Unit) (hx9 : True) => (And.intro h10 (And.intro e11 (And.intro rd12 (fun (x : Unit) (hx14 : True) => z15)))))))))))))))))))
      · have c72 : Value.bool ((a.length : Int) != 8) = .bool true := bzt (by simp; omega)
        have z5 := bad hcut (by unfold sixG; rw [ha, numsF_nil]; simp only; rw [if_pos (.inl ⟨trivial, h8⟩)])
        refine Sx.calls_is (args := [.string ⟨s.toArray⟩]) [(42, .is (.bool false)), (52, .callO (.tup [] 3 1 a.length (ints a) [.bool true])), (57, .callO (.tup [] 3 1 0 [] [.bool true])), (68, .is (.bool true)), (72, .is (.bool true))] (sixLoops s a []) (by kernel_rfl) Tryz.func46 rfl (Nat.le_of_ble_eq_true rfl) ?_
        exact Eq.mp (by kernel_rfl) (And.intro h0 (And.intro e1 (And.intro rd2 (fun (x : Unit) (hx4 : True) => (And.intro c42 (And.intro c52 (And.intro c57 (And.intro c68 (And.intro c72 z5)))))))))
  · obtain ⟨p, hp⟩ : ∃ p : Nat, dd s = p := ⟨(dd s).toNat, by omega⟩
    have hp2 : p + 2 ≤ s.length := by
      rcases Lib.index_spec s [58, 58] with ⟨h1, _⟩ | ⟨i, h1, _, h3, _⟩
      · unfold dd at hd; omega
      · have h4 := (occ_two s i).1 h3
        have := (List.getElem?_eq_some_iff.1 h4.2).1
        unfold dd at hp; omega
    have hcut : Lib.cut s [58, 58] = (s.take p, s.drop (p + 2), true) := by
      unfold dd at hp
      unfold Lib.cut; rw [if_pos (by omega), hp]
      rfl
    have c42 : Value.bool (decide (dd s ≥ 0)) = .bool true := bzt (decide_eq_true (by omega))
    have c68 : Value.bool (decide (dd s < 0)) = .bool false := bzf (decide_eq_false (by omega))
    have c45 : ∀ W, (Instr.sliceAt 9 (.string ⟨s.toArray⟩) none (some (.int .i64 (dd s))) none).run Tryz.prog W = .ok (.string ⟨(s.take p).toArray⟩) W := fun W => by rw [hp]; exact slice_to s p (by omega) W
    have c48 : Value.int .i64 (IntKind.i64.wrap (dd s + 2)) = .int .i64 ((p + 2 : Nat) : Int) := iw (by rw [hp, w64 (by omega) (by omega)]; rfl)
    have c49 := slice_from s (p + 2) hp2
    have hsl : (s.take p).length ≤ 100000000 := by rw [List.length_take]; omega
    have hsr : (s.drop (p + 2)).length ≤ 100000000 := by rw [List.length_drop]; omega
    cases ha : numsF (s.take p) with
    | none =>
      have c52 := fun W (_ : Chg [] w W) => numbers_none ha hsl W
      have z5 := bad hcut (by unfold sixG; rw [ha])
      cases hb : numsF (s.drop (p + 2)) with
      | none =>
        have c57 := fun W (_ : Chg [] w W) => numbers_none hb hsr W
        refine Sx.calls_is (args := [.string ⟨s.toArray⟩]) [(42, .is (.bool true)), (45, .bin (.string ⟨(s.take p).toArray⟩)), (48, .is (.int .i64 ((p + 2 : Nat) : Int))), (49, .bin (.string ⟨(s.drop (p + 2)).toArray⟩)), (52, .callO badR), (57, .callO badR)] (sixLoops s [] []) (by kernel_rfl) Tryz.func46 rfl (Nat.le_of_ble_eq_true rfl) ?_
        exact Eq.mp (by kernel_rfl) (And.intro h0 (And.intro e1 (And.intro rd2 (fun (x : Unit) (hx4 : True) => (And.intro c42 (And.intro c45 (And.intro c48 (And.intro c49 (And.intro c52 (And.intro c57 z5))))))))))
      | some b =>
        have c57 := fun W (_ : Chg [] w W) => numbers_some hb hsr W
        refine Sx.calls_is (args := [.string ⟨s.toArray⟩]) [(42, .is (.bool true)), (45, .bin (.string ⟨(s.take p).toArray⟩)), (48, .is (.int .i64 ((p + 2 : Nat) : Int))), (49, .bin (.string ⟨(s.drop (p + 2)).toArray⟩)), (52, .callO badR), (57, .callO (.tup [] 3 1 b.length (ints b) [.bool true]))] (sixLoops s [] []) (by kernel_rfl) Tryz.func46 rfl (Nat.le_of_ble_eq_true rfl) ?_
        exact Eq.mp (by kernel_rfl) (And.intro h0 (And.intro e1 (And.intro rd2 (fun (x : Unit) (hx4 : True) => (And.intro c42 (And.intro c45 (And.intro c48 (And.intro c49 (And.intro c52 (And.intro c57 z5))))))))))
    | some a =>
      obtain ⟨ha65, ha8⟩ := numsF_bd ha
      have c52 := fun W (_ : Chg [] w W) => numbers_some ha hsl W
      cases hb : numsF (s.drop (p + 2)) with
      | none =>
        have z5 := bad hcut (by unfold sixG; rw [ha, hb])
        have c57 := fun W (_ : Chg [] w W) => numbers_none hb hsr W
        refine Sx.calls_is (args := [.string ⟨s.toArray⟩]) [(42, .is (.bool true)), (45, .bin (.string ⟨(s.take p).toArray⟩)), (48, .is (.int .i64 ((p + 2 : Nat) : Int))), (49, .bin (.string ⟨(s.drop (p + 2)).toArray⟩)), (52, .callO (.tup [] 3 1 a.length (ints a) [.bool true])), (57, .callO badR)] (sixLoops s [] []) (by kernel_rfl) Tryz.func46 rfl (Nat.le_of_ble_eq_true rfl) ?_
        exact Eq.mp (by kernel_rfl) (And.intro h0 (And.intro e1 (And.intro rd2 (fun (x : Unit) (hx4 : True) => (And.intro c42 (And.intro c45 (And.intro c48 (And.intro c49 (And.intro c52 (And.intro c57 z5))))))))))
      | some b =>
        obtain ⟨hb65, hb8⟩ := numsF_bd hb
        have c57 := fun W (_ : Chg [] w W) => numbers_some hb hsr W
        have c80 : Value.int .i64 (IntKind.i64.wrap ((a.length : Int) + (b.length : Int))) = .int .i64 ((a.length + b.length : Nat) : Int) := iw (by rw [w64 (by omega) (by omega)]; rfl)
        by_cases h8 : 8 < a.length + b.length
        · have c81 : Value.bool (decide (((a.length + b.length : Nat) : Int) > 8)) = .bool true := bzt (decide_eq_true (by omega))
          have z5 := bad hcut (by unfold sixG; rw [ha, hb]; simp only; rw [if_pos (.inr h8)])
          refine Sx.calls_is (args := [.string ⟨s.toArray⟩]) [(42, .is (.bool true)), (45, .bin (.string ⟨(s.take p).toArray⟩)), (48, .is (.int .i64 ((p + 2 : Nat) : Int))), (49, .bin (.string ⟨(s.drop (p + 2)).toArray⟩)), (52, .callO (.tup [] 3 1 a.length (ints a) [.bool true])), (57, .callO (.tup [] 3 1 b.length (ints b) [.bool true])), (68, .is (.bool false)), (80, .is (.int .i64 ((a.length + b.length : Nat) : Int))), (81, .is (.bool true))] (sixLoops s [] []) (by kernel_rfl) Tryz.func46 rfl (Nat.le_of_ble_eq_true rfl) ?_
          exact Eq.mp (by kernel_rfl) (And.intro h0 (And.intro e1 (And.intro rd2 (fun (x : Unit) (hx4 : True) => (And.intro c42 (And.intro c45 (And.intro c48 (And.intro c49 (And.intro c52 (And.intro c57 (And.intro c68 (And.intro c80 (And.intro c81 z5)))))))))))))
        · have c81 : Value.bool (decide (((a.length + b.length : Nat) : Int) > 8)) = .bool false := bzf (decide_eq_false (by omega))
          have z15 := good hcut (a := a) (b := b) (by unfold sixG; rw [ha, hb]; simp only; rw [if_neg (by simp; omega)])
          have h5 := l2 a b
          have h10 := l3 a b
          have rd7 := six_lp2 a b (by omega) (ha65) (layF (fun _ => 0) 0 a) (sixV (sixF s)) w
          have rd12 := six_lp3 a b (by omega) (hb65) (sixB a b) (sixV (sixF s)) w
          have e6 : layFr2 (0, fun _ => 0) = layFr2 (0, fun _ => 0) ∧ layMem a b (fun _ => 0) = layMem a b (fun _ => 0) := ⟨rfl, rfl⟩
          have e11 : layFr3 (0, layF (fun _ => 0) 0 a) = layFr3 (0, layF (fun _ => 0) 0 a) ∧ layMem a b (layF (fun _ => 0) 0 a) = layMem a b (layF (fun _ => 0) 0 a) := ⟨rfl, rfl⟩
          refine Sx.calls_is (args := [.string ⟨s.toArray⟩]) [(42, .is (.bool true)), (45, .bin (.string ⟨(s.take p).toArray⟩)), (48, .is (.int .i64 ((p + 2 : Nat) : Int))), (49, .bin (.string ⟨(s.drop (p + 2)).toArray⟩)), (52, .callO (.tup [] 3 1 a.length (ints a) [.bool true])), (57, .callO (.tup [] 3 1 b.length (ints b) [.bool true])), (68, .is (.bool false)), (80, .is (.int .i64 ((a.length + b.length : Nat) : Int))), (81, .is (.bool false))] (sixLoops s a b) (by kernel_rfl) Tryz.func46 rfl (Nat.le_of_ble_eq_true rfl) ?_
          exact Eq.mp (by kernel_rfl) (And.intro h0 (And.intro e1 (And.intro rd2 (fun (x : Unit) (hx4 : True) => (And.intro c42 (And.intro c45 (And.intro c48 (And.intro c49 (And.intro c52 (And.intro c57 (And.intro c68 (And.intro c80 (And.intro c81 (And.intro h5 (And.intro e6 (And.intro rd7 (fun (x : Unit) (hx9 : True) => (And.intro h10 (And.intro e11 (And.intro rd12 (fun (x : Unit) (hx14 : True) => z15)))))))))))))))))))))
end Go.Proofs.YtgpiapmbbnngpaaGreatDoor
