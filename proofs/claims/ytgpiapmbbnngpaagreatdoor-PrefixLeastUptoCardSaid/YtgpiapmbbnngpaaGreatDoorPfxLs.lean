/- 'some', 'last', walked by reckoning. -/
import Derived.Test.YtgpiapmbbnngpaaGreatDoorPfxSm
import Derived.Test.YtgpiapmbbnngpaaGreatDoorSxM
import Derived.Test.YtgpiapmbbnngpaaGreatDoorPfxCm
namespace Go.Proofs.YtgpiapmbbnngpaaGreatDoor
open Go.RowKit Go.Lib Go.Sort

def smFr (s : Value) (i : Nat) : List (Nat × Sx.SV) := [(0, .val s), (3, .ptr 0 0), (5, .val (.int .i64 (i : Int)))]
def smMem (v : Bool) (m : Nat) : List Sx.Row := [⟨24, .vals (adr v m)⟩]
set_option maxRecDepth 100000 in
theorem sm_round (L : List PX) (A : Option Addr) (c : Nat) (v : Bool) (m : Nat) (hm : m < 2 ^ 128) (hL : L.length ≤ 1000000) (w : World) (h : Rd w 18 (.slice A L.length c) L.length (rowX L)) (i : Nat) (hi : i ≤ L.length ∧ hasL (L.drop i) v m = hasL L v m) : ∃ H' L', Sx.ex Tryz.prog 18 w (Sx.bodyOf Tryz.f27 0) H' L' ⟨smFr (.slice A L.length c) i, smMem v m⟩
    (Sx.loopK (fun i => i ≤ L.length ∧ hasL (L.drop i) v m = hasL L v m) (smFr (.slice A L.length c)) (fun _ => smMem v m) (fun i => i + 1) (fun i => L.length + 2 - i) (fun (_ : Unit) => hasL L v m = false) (fun _ => []) (fun _ => []) (fun _ => ()) (Sx.outId (Sx.bodyOf Tryz.f27 0) - 1) (Sx.atEnd Tryz.prog Tryz.f27 (fun u => u = .bool (hasL L v m)) .ret) i) := by
  obtain ⟨hi, he⟩ := hi
  by_cases hlt : i < L.length
  · obtain ⟨x, hx⟩ : ∃ x, L[i]? = some x := ⟨_, List.getElem?_eq_getElem hlt⟩
    obtain ⟨p, c14, c15⟩ := h.at hx rfl
    have hd : L.drop i = x :: L.drop (i + 1) := by
      rw [List.drop_eq_getElem_cons hlt]
      rw [(List.getElem?_eq_some_iff.1 hx).2]
    have c9 : Value.bool (decide ((i : Int) < (L.length : Int))) = .bool true := by rw [decide_eq_true (by omega)]
    have c17 := fun W (_ : Chg [] w W) => has_N x.v x.n x.k v m x.lt hm W
    have he' : (hasX x v m || hasL (L.drop (i + 1)) v m) = hasL L v m := by rw [← he, hd]; rfl
    cases hh : hasX x v m with
    | true =>
      rw [show hasP x.v x.n x.k v m = true from hh] at c17
      have z0 : Value.bool true = .bool (hasL L v m) := by rw [← he', hh]; rfl
      refine ⟨[(9, .is (.bool true)), (14, .any p), (15, .any (.agg (pfx x.v x.n x.k).toArray)), (17, .call (.bool true))], [], ?_⟩
      exact Eq.mp (by kernel_rfl) (And.intro c9 (And.intro c14 (And.intro c15 (And.intro c17 z0))))
    | false =>
      rw [show hasP x.v x.n x.k v m = false from hh] at c17
      have c11 : Value.int .i64 (IntKind.i64.wrap ((i : Int) + 1)) = .int .i64 ((i + 1 : Nat) : Int) := iw (w64 (by omega) (by omega))
      have h0 : i + 1 ≤ L.length ∧ hasL (L.drop (i + 1)) v m = hasL L v m := ⟨hlt, by rw [← he', hh]; rfl⟩
      have h1 : L.length + 2 - (i + 1) < L.length + 2 - i := by omega
      have h2 : smFr (.slice A L.length c) (i + 1) = smFr (.slice A L.length c) (i + 1) := rfl
      have z3 : smMem v m = smMem v m := rfl
      refine ⟨[(9, .is (.bool true)), (14, .any p), (15, .any (.agg (pfx x.v x.n x.k).toArray)), (17, .call (.bool false)), (11, .is (.int .i64 ((i + 1 : Nat) : Int)))], [], ?_⟩
      exact Eq.mp (by kernel_rfl) (And.intro c9 (And.intro c14 (And.intro c15 (And.intro c17 (And.intro c11 (And.intro h0 (And.intro h1 (And.intro h2 z3))))))))
  · have c9 : Value.bool (decide ((i : Int) < (L.length : Int))) = .bool false := by rw [decide_eq_false (by omega)]
    have h0 : hasL L v m = false := by rw [← he, List.drop_of_length_le (by omega)]; rfl
    have h1 : ([] : List (Nat × Sx.SV)) = [] := rfl
    have z2 : ([] : List Sx.Row) = [] := rfl
    refine ⟨[(9, .is (.bool false))], [], ?_⟩
    exact Eq.mp (by kernel_rfl) (And.intro c9 (And.intro h0 (And.intro h1 z2)))
set_option maxRecDepth 100000 in
theorem some_N (L : List PX) (s : Value) (v : Bool) (m : Nat) (hm : m < 2 ^ 128) (hL : L.length ≤ 1000000) (w : World) (h : Rd w 18 s L.length (rowX L)) : Calls Tryz.prog 27 #[s, .agg (adr v m).toArray] w fun e w' => e = .returned (.bool (hasL L v m)) ∧ Chg [] w w' := by
  obtain ⟨_, A, c, rfl, _⟩ := id h
  have h0 : 0 ≤ L.length ∧ hasL (L.drop 0) v m = hasL L v m := ⟨Nat.zero_le _, rfl⟩
  have e1 : smFr (.slice A L.length c) 0 = smFr (.slice A L.length c) 0 ∧ smMem v m = smMem v m := ⟨rfl, rfl⟩
  have rd2 := sm_round L A c v m hm hL w h
  refine Sx.calls_is (args := [.slice A L.length c, .agg (adr v m).toArray]) [] [.mk Nat 0 (fun i => i ≤ L.length ∧ hasL (L.drop i) v m = hasL L v m) (smFr (.slice A L.length c)) (fun _ => smMem v m) (fun i => i + 1) (fun i => L.length + 2 - i) Unit (fun _ => hasL L v m = false) (fun _ => []) (fun _ => []) (fun _ => ())] (by kernel_rfl) Tryz.func27 rfl (Nat.le_of_ble_eq_true rfl) ?_
  exact Eq.mp (by kernel_rfl) (And.intro h0 (And.intro e1 (And.intro rd2 (fun (_ : Unit) (hx4 : hasL L v m = false) => (show Value.bool false = .bool (hasL L v m) by rw [hx4])))))
/-- The address so far: all bits from the prefix's on are laid. -/
def laS (x : PX) : Nat → (Nat → Nat)
  | 0 => byteAt x.n
  | d + 1 => upd (laS x d) ((x.k + d) / 8) (laS x d ((x.k + d) / 8) ||| 2 ^ (7 - (x.k + d) % 8))
theorem upd_lt256 {f : Nat → Nat} {k n : Nat} (hf : ∀ j, f j < 256) (hn : n < 256) (j : Nat) : upd f k n j < 256 := by
  unfold upd
  split
  · exact hn
  · exact hf j
theorem two_lt (k : Nat) : 2 ^ (7 - k) < 256 := by
  have : 2 ^ (7 - k) ≤ 2 ^ 7 := Nat.pow_le_pow_right (by decide) (by omega)
  omega
theorem laS_lt (x : PX) : ∀ d j, laS x d j < 256
  | 0, j => byteAt_lt x.n j
  | d + 1, j => upd_lt256 (laS_lt x d) (Nat.or_lt_two_pow (n := 8) (laS_lt x d _) (two_lt _)) j
theorem adrV_num (v : Bool) (f : Nat → Nat) (hf : ∀ j, f j < 256) : ∃ n, n < 2 ^ 128 ∧ adrV v f = adr v n := by
  obtain ⟨n, hn, hb⟩ := bytes_num f hf
  exact ⟨n, hn, adrV_ext v fun j hj => (hb j hj).symm⟩
theorem width_F (v : Bool) (f : Nat → Nat) (hf : ∀ j, f j < 256) (W : World) : Calls Tryz.prog 21 #[.agg (adrV v f).toArray] W fun e w' => e = .returned (.int .i64 (wid v : Nat)) ∧ Chg [] W w' := by
  obtain ⟨n, _, e⟩ := adrV_num v f hf
  rw [e]
  exact width2_N v n W
theorem u8or (a b : Nat) (ha : a < 256) (hb : b < 256) : Value.int .u8 (((BitVec.ofInt 8 (a : Int) ||| BitVec.ofInt 8 (b : Int)).toNat % 256 : Nat) : Int) = .int .u8 ((a ||| b : Nat) : Int) := by
  have e : (BitVec.ofInt 8 (a : Int) ||| BitVec.ofInt 8 (b : Int)).toNat = a ||| b := by
    rw [BitVec.toNat_or, BitVec.ofInt_natCast, BitVec.ofInt_natCast, BitVec.toNat_ofNat, BitVec.toNat_ofNat, Nat.mod_eq_of_lt ha, Nat.mod_eq_of_lt hb]
  rw [e, Nat.mod_eq_of_lt (Nat.or_lt_two_pow (n := 8) ha hb)]
def laFr1 (x : PX) (d : Nat) : List (Nat × Sx.SV) := [(2, .ptr 1 0), (3, .ptr 2 0), (4, .ptr 3 0), (5, .val (.int .i64 ((x.k + d : Nat) : Int)))]
def laMem1 (x : PX) (d : Nat) : List Sx.Row := [⟨29, .vals (pfx x.v x.n x.k)⟩, ⟨24, .vals (adrV false fun _ => 0)⟩, ⟨24, .vals (adrV false fun _ => 0)⟩, ⟨24, .vals (adrV x.v (laS x d))⟩]
set_option maxRecDepth 100000 in
theorem la_round1 (x : PX) (R : Value → Prop) (w : World) (d : Nat) (hd : x.k + d ≤ wid x.v) : ∃ H' L', Sx.ex Tryz.prog 55 w (Sx.bodyOf Tryz.f26 0) H' L' ⟨laFr1 x d, laMem1 x d⟩
    (Sx.loopK (fun d => x.k + d ≤ wid x.v) (laFr1 x) (laMem1 x) (fun d => d + 1) (fun d => 200 - d) (fun (_ : Unit) => True) (fun _ => [(2, .ptr 1 0), (3, .ptr 2 0), (4, .ptr 3 0)]) (fun _ => laMem1 x (wid x.v - x.k)) (fun _ => ()) (Sx.outId (Sx.bodyOf Tryz.f26 0) - 1) (Sx.atEnd Tryz.prog Tryz.f26 R .ret) d) := by
  have hw : wid x.v ≤ 128 := by unfold wid; split <;> omega
  have c14 := fun W (_ : Chg [] w W) => width_F x.v (laS x d) (laS_lt x d) W
  by_cases hlt : x.k + d < wid x.v
  · obtain ⟨i, hi⟩ : ∃ i, i = x.k + d := ⟨_, rfl⟩
    obtain ⟨f, hf⟩ : ∃ f, f = laS x d := ⟨_, rfl⟩
    have hlf := laS_lt x d
    have hfl : ∀ j, f j < 256 := by rw [hf]; exact hlf
    have hs : laS x (d + 1) = upd f (i / 8) (f (i / 8) ||| 2 ^ (7 - i % 8)) := by rw [hf, hi]; rfl
    have c15 : Value.bool (decide ((i : Int) < (wid x.v : Int))) = .bool true := by rw [decide_eq_true (by omega)]
    have c19 : Value.int .i64 (IntKind.i64.wrap ((i : Int).tdiv 8)) = .int .i64 ((i / 8 : Nat) : Int) := iw (by rw [show (i : Int).tdiv 8 = ((i / 8 : Nat) : Int) from rfl]; exact w64 (by omega) (by omega))
    have c21 := c19
    have c23 : (0 : Int) ≤ ((i / 8 : Nat) : Int) ∧ ((i / 8 : Nat) : Int) < 16 := by omega
    have c31 := c23
    have c24 : (adrV x.v f)[0 + 1 + ((i / 8 : Nat) : Int).toNat * 1]? = some (.int .u8 (f (i / 8) : Int)) := by
      rw [Int.toNat_natCast, Nat.mul_one, Nat.zero_add]
      exact adrV_byte x.v f (i / 8) (by omega)
    have c26 : Value.int .i64 ((i % 8 : Nat) : Int) = .int .i64 ((i % 8 : Nat) : Int) := rfl
    have c27 : Value.int .i64 (IntKind.i64.wrap (7 - ((i % 8 : Nat) : Int))) = .int .i64 ((7 - i % 8 : Nat) : Int) := by
      rw [show (7 : Int) - ((i % 8 : Nat) : Int) = ((7 - i % 8 : Nat) : Int) by omega]
      exact iw (w64 (by omega) (by omega))
    have c28 : Value.int .u8 ((1 * 2 ^ min ((7 - i % 8 : Nat) : Int).toNat 8 % 256 : Nat) : Int) = .int .u8 ((2 ^ (7 - i % 8) : Nat) : Int) := by
      rw [Int.toNat_natCast, Nat.min_eq_left (by omega), Nat.one_mul, Nat.mod_eq_of_lt (two_lt _)]
    have c29 := u8or (f (i / 8)) (2 ^ (7 - i % 8)) (hfl _) (two_lt _)
    have c100031 : 0 + 1 + ((i / 8 : Nat) : Int).toNat * 1 + 1 ≤ (adrV x.v f).length ∧ (adrV x.v f).take (0 + 1 + ((i / 8 : Nat) : Int).toNat * 1) ++ ([.int .u8 ((f (i / 8) ||| 2 ^ (7 - i % 8) : Nat) : Int)] ++ (adrV x.v f).drop (0 + 1 + ((i / 8 : Nat) : Int).toNat * 1 + 1)) = adrV x.v (upd f (i / 8) (f (i / 8) ||| 2 ^ (7 - i % 8))) := by
      rw [Int.toNat_natCast, Nat.mul_one, Nat.zero_add]
      exact ⟨by rw [adrV_length]; omega, adrV_upd x.v f (i / 8) _ (by omega)⟩
    have c17 : Value.int .i64 (IntKind.i64.wrap ((i : Int) + 1)) = .int .i64 ((i + 1 : Nat) : Int) := iw (w64 (by omega) (by omega))
    have h0 : x.k + (d + 1) ≤ wid x.v := by omega
    have h1 : 200 - (d + 1) < 200 - d := by omega
    have h2 : [((2 : Nat), Sx.SV.ptr 1 0), (3, .ptr 2 0), (4, .ptr 3 0), (5, .val (.int .i64 ((i + 1 : Nat) : Int)))] = laFr1 x (d + 1) := by unfold laFr1; rw [hi]; rfl
    have z3 : [(⟨29, .vals (pfx x.v x.n x.k)⟩ : Sx.Row), ⟨24, .vals (adrV false fun _ => 0)⟩, ⟨24, .vals (adrV false fun _ => 0)⟩, ⟨24, .vals (adrV x.v (upd f (i / 8) (f (i / 8) ||| 2 ^ (7 - i % 8))))⟩] = laMem1 x (d + 1) := by unfold laMem1; rw [hs]
    refine ⟨[(14, .call (.int .i64 (wid x.v : Nat))), (15, .is (.bool true)), (19, .is (.int .i64 (i / 8 : Nat))), (21, .is (.int .i64 (i / 8 : Nat))), (23, .ix), (24, .ld (.int .u8 (f (i / 8) : Nat))), (26, .is (.int .i64 (i % 8 : Nat))), (27, .is (.int .i64 (7 - i % 8 : Nat))), (28, .is (.int .u8 (2 ^ (7 - i % 8) : Nat))), (29, .is (.int .u8 (f (i / 8) ||| 2 ^ (7 - i % 8) : Nat))), (31, .ix), (100031, .st (adrV x.v (upd f (i / 8) (f (i / 8) ||| 2 ^ (7 - i % 8))))), (17, .is (.int .i64 (i + 1 : Nat)))], [], ?_⟩
    unfold laFr1 laMem1
    rw [← hi, ← hf]
    rw [← hf] at c14
    exact Eq.mp (by kernel_rfl) (And.intro c14 (And.intro c15 (And.intro c19 (And.intro c21 (And.intro c23 (And.intro c24 (And.intro c26 (And.intro c27 (And.intro c28 (And.intro c29 (And.intro c31 (And.intro c100031 (And.intro c17 (And.intro h0 (And.intro h1 (And.intro h2 z3))))))))))))))))
  · have c15 : Value.bool (decide (((x.k + d : Nat) : Int) < (wid x.v : Int))) = .bool false := by rw [decide_eq_false (by omega)]
    have hdd : d = wid x.v - x.k := by omega
    have h0 : True := trivial
    have h1 : [((2 : Nat), Sx.SV.ptr 1 0), (3, .ptr 2 0), (4, .ptr 3 0)] = [((2 : Nat), Sx.SV.ptr 1 0), (3, .ptr 2 0), (4, .ptr 3 0)] := rfl
    have z2 : laMem1 x d = laMem1 x (wid x.v - x.k) := by rw [hdd]
    refine ⟨[(14, .call (.int .i64 (wid x.v : Nat))), (15, .is (.bool false))], [], ?_⟩
    exact Eq.mp (by kernel_rfl) (And.intro c14 (And.intro c15 (And.intro h0 (And.intro h1 z2))))
def laFr2 (b : Nat) (p : Nat × (Nat → Nat)) : List (Nat × Sx.SV) := [(2, .ptr 1 0), (3, .ptr 2 0), (4, .ptr 3 0), (6, .ptr 4 0), (7, .val (.int .i64 ((b : Int) - 1 - p.1)))]
def laMem2 (x : PX) (g : Nat → Nat) : List Sx.Row := laMem1 x (wid x.v - x.k) ++ [⟨24, .vals (adrV x.v g)⟩]
def laG (b : Nat) (p : Nat × (Nat → Nat)) : Nat → Nat := upd p.2 (b - 1 - p.1) ((p.2 (b - 1 - p.1) + 1) % 256)
/-- What the second loop ends with. -/
def laEnd (b : Nat) : Nat → Nat → (Nat → Nat) → (Nat → Nat)
  | 0, _, g => g
  | r + 1, c, g => if (g (b - 1 - c) + 1) % 256 = 0 then laEnd b r (c + 1) (laG b (c, g)) else laG b (c, g)
theorem laEnd_lt (b : Nat) : ∀ (r c : Nat) (g : Nat → Nat), (∀ j, g j < 256) → ∀ j, laEnd b r c g j < 256
  | 0, _, g, h => h
  | r + 1, c, g, h => by
    have h2 : ∀ j, laG b (c, g) j < 256 := upd_lt256 h (Nat.mod_lt _ (by decide))
    unfold laEnd
    split
    · exact laEnd_lt b r (c + 1) _ h2
    · exact h2
def laT (x : PX) : Nat → Nat := laEnd (wid x.v / 8) (wid x.v / 8) 0 (laS x (wid x.v - x.k))
def laI (b : Nat) (T : Nat → Nat) (p : Nat × (Nat → Nat)) : Prop := p.1 ≤ b ∧ (∀ j, p.2 j < 256) ∧ laEnd b (b - p.1) p.1 p.2 = T
set_option maxRecDepth 100000 in
theorem la_round2 (x : PX) (b : Nat) (hb : b ≤ 16) (T : Nat → Nat) (R : Value → Prop) (w : World) (p : Nat × (Nat → Nat)) (hp : laI b T p) : ∃ H' L', Sx.ex Tryz.prog 55 w (Sx.bodyOf Tryz.f26 1) H' L' ⟨laFr2 b p, laMem2 x p.2⟩
    (Sx.loopK (laI b T) (laFr2 b) (fun p => laMem2 x p.2) (fun p => (p.1 + 1, laG b p)) (fun p => 20 - p.1) (fun (_ : Unit) => True) (fun _ => [(2, .ptr 1 0), (3, .ptr 2 0), (4, .ptr 3 0), (6, .ptr 4 0)]) (fun _ => laMem2 x T) (fun _ => ()) (Sx.outId (Sx.bodyOf Tryz.f26 1) - 1) (Sx.atEnd Tryz.prog Tryz.f26 R .ret) p) := by
  obtain ⟨c, g⟩ := p
  obtain ⟨hc, hg, hT⟩ := hp
  simp only at hc hg hT
  have hg2 : ∀ j, laG b (c, g) j < 256 := upd_lt256 hg (Nat.mod_lt _ (by decide))
  by_cases hlt : c < b
  · obtain ⟨i, hi⟩ : ∃ i, i = b - 1 - c := ⟨_, rfl⟩
    have hii : (b : Int) - 1 - (c : Int) = (i : Int) := by omega
    have hG : laG b (c, g) = upd g i ((g i + 1) % 256) := by rw [hi]; rfl
    have c38 : Value.bool (decide ((i : Int) ≥ 0)) = .bool true := by rw [decide_eq_true (by omega)]
    have c43 : (0 : Int) ≤ (i : Int) ∧ (i : Int) < 16 := by omega
    have c47 := c43
    have c50 := c43
    have c44 : (adrV x.v g)[0 + 1 + (i : Int).toNat * 1]? = some (.int .u8 (g i : Int)) := by
      rw [Int.toNat_natCast, Nat.mul_one, Nat.zero_add]
      exact adrV_byte x.v g i (by omega)
    have c45 : Value.int .u8 (IntKind.u8.wrap ((g i : Int) + 1)) = .int .u8 (((g i + 1) % 256 : Nat) : Int) := by
      congr 1
    have c100047 : 0 + 1 + (i : Int).toNat * 1 + 1 ≤ (adrV x.v g).length ∧ (adrV x.v g).take (0 + 1 + (i : Int).toNat * 1) ++ ([.int .u8 (((g i + 1) % 256 : Nat) : Int)] ++ (adrV x.v g).drop (0 + 1 + (i : Int).toNat * 1 + 1)) = adrV x.v (upd g i ((g i + 1) % 256)) := by
      rw [Int.toNat_natCast, Nat.mul_one, Nat.zero_add]
      exact ⟨by rw [adrV_length]; omega, adrV_upd x.v g i _ (by omega)⟩
    have c51 : (adrV x.v (upd g i ((g i + 1) % 256)))[0 + 1 + (i : Int).toNat * 1]? = some (.int .u8 (((g i + 1) % 256 : Nat) : Int)) := by
      rw [Int.toNat_natCast, Nat.mul_one, Nat.zero_add]
      have := adrV_byte x.v (upd g i ((g i + 1) % 256)) i (by omega)
      rwa [upd_at] at this
    unfold laFr2
    simp only
    rw [hii]
    by_cases h0' : (g i + 1) % 256 = 0
    · have c52 : Value.bool ((((g i + 1) % 256 : Nat) : Int) != 0) = .bool false := by rw [h0']; rfl
      have c40 : Value.int .i64 (IntKind.i64.wrap ((i : Int) - 1)) = .int .i64 ((i : Int) - 1) := iw (w64 (by omega) (by omega))
      have h0 : laI b T (c + 1, laG b (c, g)) := ⟨hlt, hg2, by
        rw [show b - c = (b - (c + 1)) + 1 by omega, laEnd, ← hi, if_pos h0'] at hT
        exact hT⟩
      have h1 : 20 - (c + 1) < 20 - c := by omega
      have h2 : [((2 : Nat), Sx.SV.ptr 1 0), (3, .ptr 2 0), (4, .ptr 3 0), (6, .ptr 4 0), (7, .val (.int .i64 ((i : Int) - 1)))] = laFr2 b (c + 1, laG b (c, g)) := by
        unfold laFr2
        rw [show (b : Int) - 1 - ((c + 1 : Nat) : Int) = (i : Int) - 1 by omega]
      have z3 : laMem2 x (upd g i ((g i + 1) % 256)) = laMem2 x (laG b (c, g)) := by rw [hG]
      refine ⟨[(38, .is (.bool true)), (43, .ix), (44, .ld (.int .u8 (g i : Int))), (45, .is (.int .u8 (((g i + 1) % 256 : Nat) : Int))), (47, .ix), (100047, .st (adrV x.v (upd g i ((g i + 1) % 256)))), (50, .ix), (51, .ld (.int .u8 (((g i + 1) % 256 : Nat) : Int))), (52, .is (.bool false)), (40, .is (.int .i64 ((i : Int) - 1)))], [], ?_⟩
      exact Eq.mp (by kernel_rfl) (And.intro c38 (And.intro c43 (And.intro c44 (And.intro c45 (And.intro c47 (And.intro c100047 (And.intro c50 (And.intro c51 (And.intro c52 (And.intro c40 (And.intro h0 (And.intro h1 (And.intro h2 z3)))))))))))))
    · have c52 : Value.bool ((((g i + 1) % 256 : Nat) : Int) != 0) = .bool true := by
        rw [show (((g i + 1) % 256 : Nat) : Int) != 0 from by simp only [bne_iff_ne, ne_eq]; omega]
      have h0 : True := trivial
      have hTT : laG b (c, g) = T := by
        rw [show b - c = (b - (c + 1)) + 1 by omega, laEnd, ← hi, if_neg h0'] at hT
        exact hT
      have h1 : [((2 : Nat), Sx.SV.ptr 1 0), (3, .ptr 2 0), (4, .ptr 3 0), (6, .ptr 4 0)] = [((2 : Nat), Sx.SV.ptr 1 0), (3, .ptr 2 0), (4, .ptr 3 0), (6, .ptr 4 0)] := rfl
      have z2 : laMem2 x (upd g i ((g i + 1) % 256)) = laMem2 x T := by rw [← hTT, hG]
      refine ⟨[(38, .is (.bool true)), (43, .ix), (44, .ld (.int .u8 (g i : Int))), (45, .is (.int .u8 (((g i + 1) % 256 : Nat) : Int))), (47, .ix), (100047, .st (adrV x.v (upd g i ((g i + 1) % 256)))), (50, .ix), (51, .ld (.int .u8 (((g i + 1) % 256 : Nat) : Int))), (52, .is (.bool true))], [], ?_⟩
      exact Eq.mp (by kernel_rfl) (And.intro c38 (And.intro c43 (And.intro c44 (And.intro c45 (And.intro c47 (And.intro c100047 (And.intro c50 (And.intro c51 (And.intro c52 (And.intro h0 (And.intro h1 z2)))))))))))
  · have hii : (b : Int) - 1 - (c : Int) = -1 := by omega
    have c38 : Value.bool (decide ((-1 : Int) ≥ 0)) = .bool false := rfl
    have h0 : True := trivial
    have hTT : g = T := by
      rw [show b - c = 0 by omega, laEnd] at hT
      exact hT
    have h1 : [((2 : Nat), Sx.SV.ptr 1 0), (3, .ptr 2 0), (4, .ptr 3 0), (6, .ptr 4 0)] = [((2 : Nat), Sx.SV.ptr 1 0), (3, .ptr 2 0), (4, .ptr 3 0), (6, .ptr 4 0)] := rfl
    have z2 : laMem2 x g = laMem2 x T := by rw [hTT]
    unfold laFr2
    simp only
    rw [hii]
    refine ⟨[(38, .is (.bool false))], [], ?_⟩
    exact Eq.mp (by kernel_rfl) (And.intro c38 (And.intro h0 (And.intro h1 z2)))
set_option maxRecDepth 100000 in
theorem last_N (x : PX) (w : World) : Calls Tryz.prog 26 #[.agg (pfx x.v x.n x.k).toArray] w fun e w' => e = .returned (.tuple #[.agg (adrV x.v (laS x (wid x.v - x.k))).toArray, .agg (adrV x.v (laT x)).toArray]) ∧ Chg [] w w' := by
  have hkw := x.k_le
  have hw : wid x.v / 8 ≤ 16 := by unfold wid; split <;> omega
  have h0 : x.k + 0 ≤ wid x.v := hkw
  have e1 : laFr1 x 0 = laFr1 x 0 ∧ laMem1 x 0 = laMem1 x 0 := ⟨rfl, rfl⟩
  have rd2 := la_round1 x (fun u => u = .tuple #[.agg (adrV x.v (laS x (wid x.v - x.k))).toArray, .agg (adrV x.v (laT x)).toArray]) w
  have c34 := fun W (_ : Chg [] w W) => width_F x.v (laS x (wid x.v - x.k)) (laS_lt x _) W
  have c35 : Value.int .i64 (IntKind.i64.wrap ((wid x.v : Int).tdiv 8)) = .int .i64 ((wid x.v / 8 : Nat) : Int) := iw (by rw [show (wid x.v : Int).tdiv 8 = ((wid x.v / 8 : Nat) : Int) from rfl]; exact w64 (by omega) (by omega))
  have c36 : Value.int .i64 (IntKind.i64.wrap (((wid x.v / 8 : Nat) : Int) - 1)) = .int .i64 (((wid x.v / 8 : Nat) : Int) - 1) := iw (w64 (by omega) (by omega))
  have h5 : laI (wid x.v / 8) (laT x) (0, laS x (wid x.v - x.k)) := ⟨Nat.zero_le _, laS_lt x _, rfl⟩
  have e6 : [((2 : Nat), Sx.SV.ptr 1 0), (3, .ptr 2 0), (4, .ptr 3 0), (6, .ptr 4 0), (7, .val (.int .i64 (((wid x.v / 8 : Nat) : Int) - 1)))] = laFr2 (wid x.v / 8) (0, laS x (wid x.v - x.k)) ∧ laMem2 x (laS x (wid x.v - x.k)) = laMem2 x (laS x (wid x.v - x.k)) := ⟨by unfold laFr2; simp, rfl⟩
  have rd7 := la_round2 x (wid x.v / 8) hw (laT x) (fun u => u = .tuple #[.agg (adrV x.v (laS x (wid x.v - x.k))).toArray, .agg (adrV x.v (laT x)).toArray]) w
  have z10 : Value.tuple #[.agg (adrV x.v (laS x (wid x.v - x.k))).toArray, .agg (adrV x.v (laT x)).toArray] = .tuple #[.agg (adrV x.v (laS x (wid x.v - x.k))).toArray, .agg (adrV x.v (laT x)).toArray] := rfl
  refine Sx.calls_is (args := [.agg (pfx x.v x.n x.k).toArray]) [(34, .call (.int .i64 (wid x.v : Nat))), (35, .is (.int .i64 (wid x.v / 8 : Nat))), (36, .is (.int .i64 (((wid x.v / 8 : Nat) : Int) - 1)))] [.mk Nat 0 (fun d => x.k + d ≤ wid x.v) (laFr1 x) (laMem1 x) (fun d => d + 1) (fun d => 200 - d) Unit (fun _ => True) (fun _ => [(2, .ptr 1 0), (3, .ptr 2 0), (4, .ptr 3 0)]) (fun _ => laMem1 x (wid x.v - x.k)) (fun _ => ()), .mk (Nat × (Nat → Nat)) (0, laS x (wid x.v - x.k)) (laI (wid x.v / 8) (laT x)) (laFr2 (wid x.v / 8)) (fun p => laMem2 x p.2) (fun p => (p.1 + 1, laG (wid x.v / 8) p)) (fun p => 20 - p.1) Unit (fun _ => True) (fun _ => [(2, .ptr 1 0), (3, .ptr 2 0), (4, .ptr 3 0), (6, .ptr 4 0)]) (fun _ => laMem2 x (laT x)) (fun _ => ())] (by kernel_rfl) Tryz.func26 rfl (Nat.le_of_ble_eq_true rfl) ?_
  exact Eq.mp (by kernel_rfl) (And.intro h0 (And.intro e1 (And.intro rd2 (fun (x3 : Unit) (hx4 : True) => (And.intro c34 (And.intro c35 (And.intro c36 (And.intro h5 (And.intro e6 (And.intro rd7 (fun (x8 : Unit) (hx9 : True) => z10)))))))))))
end Go.Proofs.YtgpiapmbbnngpaaGreatDoor
