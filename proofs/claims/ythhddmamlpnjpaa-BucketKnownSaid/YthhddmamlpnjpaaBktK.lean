/- Rows of asks in memory; the bucket's ticks of asks, walked. -/
import Derived.Test.YthhddmamlpnjpaaBktJ
namespace Go.Proofs.Ythhddmamlpnjpaa
open Go.RowKit Go.Lib Go.Sort

/-- A row of asks, cell by cell. -/
def askv (L : List (Nat × Nat)) : List Value := L.flatMap fun x => [.int .u64 (x.1 : Int), .int .u64 (x.2 : Int)]
theorem askv_nil : askv [] = [] := rfl
theorem askv_cons (x : Nat × Nat) (L : List (Nat × Nat)) : askv (x :: L) = .int .u64 (x.1 : Int) :: .int .u64 (x.2 : Int) :: askv L := rfl
theorem askv_append (L M : List (Nat × Nat)) : askv (L ++ M) = askv L ++ askv M := by simp [askv]
theorem askv_len (L : List (Nat × Nat)) : (askv L).length = L.length * 2 := by
  induction L with
  | nil => rfl
  | cons x L ih => rw [askv_cons]; simp [ih]; omega
theorem askv_get : ∀ (L : List (Nat × Nat)) (k : Nat) (x : Nat × Nat), L[k]? = some x → (askv L)[k * 2]? = some (.int .u64 (x.1 : Int)) ∧ (askv L)[k * 2 + 1]? = some (.int .u64 (x.2 : Int))
  | [], k, x, h => by simp at h
  | y :: L, 0, x, h => by simp at h; subst h; exact ⟨rfl, rfl⟩
  | y :: L, k + 1, x, h => by
    have := askv_get L k x (by simpa using h)
    rw [askv_cons, show (k + 1) * 2 = k * 2 + 1 + 1 by omega]
    simpa using this

theorem get_ask (L : List (Nat × Nat)) (k : Nat) (h : k < L.length) : ∃ a b, L[k]? = some (a, b) := ⟨_, _, List.getElem?_eq_getElem h⟩

theorem Own.ask {w : World} {g o n c : Nat} {L : List (Nat × Nat)} (h : Own w 40 2 (.slice (some ⟨g, o, none⟩) n c) n (askv L)) {k : Nat} {x y : Nat} (hx : L[k]? = some (x, y)) :
    w.cell? ⟨g, o + k * 2, none⟩ = some (.int .u64 (x : Int)) ∧ w.cell? ⟨g, o + k * 2 + 1, none⟩ = some (.int .u64 (y : Int)) := by
  obtain ⟨h1, h2⟩ := askv_get L k (x, y) hx
  exact ⟨(h.cell h1).1, (h.cell h2).1⟩

def rowOf (n : Nat) (z : Value) : Array Value := Array.replicate n z
theorem rowOf_toList (n : Nat) (z : Value) : (rowOf n z).toList = List.replicate n z := by simp [rowOf]
theorem run_make_n {P : Program} (t e : TypeId) (z : Value) (B : Nat) (ht : P.underlying t = some (.slice e)) (hinfo : (P.info? e).map (fun i => (i.zero, i.size, i.bytes)) = some (some z, 1, B)) (hz1 : z.cells = #[z]) (n : Nat) (hb : B * n ≤ 281474976710656) (h63 : n ≤ 9223372036854775807) (W : World) :
    (Instr.makeSlice t (.int .i64 (n : Int)) (.int .i64 (n : Int))).run P W = .ok (.slice (some ⟨W.heap.size, 0, none⟩) n n) (W.alloc (.cells (rowOf n z) e)) := by
  obtain ⟨i, hi, hy0, hy1, hy2⟩ := info_parts hinfo
  have hb' : (i.bytes : Int) * (n : Int) ≤ 281474976710656 := by rw [hy2]; omega
  have h := run_make (P := P) W t e i z ht hi hy0 .i64 .i64 n n (by omega) (Int.le_refl _) hb' (by omega)
  simp only [Int.toNat_natCast, hy1, Nat.mul_one] at h
  rw [h]
  have e1 : madeCells z.cells n = rowOf n z := by
    rw [hz1]
    unfold madeCells rowOf
    apply Array.ext
    · simp
    · intro j h1 h2
      simp [Nat.mod_one]
  rw [e1]

/-- What ticks has laid after k asks. -/
def tickv (L : List (Nat × Nat)) (k : Nat) : List Value := u64n ((L.take k).map (·.1)) ++ List.replicate (L.length - k) (.int .u64 0)
theorem tickv_set (L : List (Nat × Nat)) (k x y : Nat) (h : L[k]? = some (x, y)) : (tickv L k).set k (.int .u64 (x : Int)) = tickv L (k + 1) := by
  have hk : k < L.length := (List.getElem?_eq_some_iff.1 h).1
  unfold tickv
  have hl : (u64n ((L.take k).map (·.1))).length = k := by rw [u64n_len]; simp; omega
  rw [List.set_append_right _ _ (by omega), hl, Nat.sub_self, List.take_add_one, h]
  have e : L.length - k = (L.length - (k + 1)) + 1 := by omega
  rw [e, List.replicate_succ, List.set_cons_zero]
  simp [u64n]
theorem tickv_all (L : List (Nat × Nat)) : tickv L L.length = u64n (L.map (·.1)) := by simp [tickv]
theorem tickv_len (L : List (Nat × Nat)) (k : Nat) (h : k ≤ L.length) : (tickv L k).length = L.length := by simp [tickv, u64n]; omega

theorem Try.info22 : (Try.prog.info? 22).map (fun i => (i.zero, i.size, i.bytes)) = some (some (.int .u64 0), 1, 8) := by kernel_rfl

set_option maxHeartbeats 1000000 in
theorem ticks_any (A : Option Addr) (n c : Nat) (L : List (Nat × Nat)) (w : World) (hO : Own w 40 2 (.slice A n c) n (askv L)) (hl : L.length = n) (hn : n ≤ 1048576) :
    Calls Try.prog 31 #[.slice A n c] w fun e w' => ∃ B c', e = .returned (.slice B n c') ∧ Own w' 22 1 (.slice B n c') n (u64n (L.map (·.1))) ∧ Chg [] w w' := by
  have n0 : (0 : Int) ≤ (n : Int) := by omega
  have n1 : (n : Int) ≤ 1048576 := by omega
  have hmk := run_make_n (P := Try.prog) 54 22 (.int .u64 0) 8 (by kernel_rfl) Try.info22 rfl n (by omega) (by omega)
  have HL := hid hl
  have B0 := Blk.new w 22 (rowOf n (.int .u64 0))
  rw [rowOf_toList] at B0
  clear hl
  go_enter Try.func31, Try.ntmps31
  go_wp2
  go_loopw [11] (fun i wr => ∃ k : Nat, k ≤ n ∧ i = .int .i64 k ∧ Chg [] w wr ∧ Blk wr w.heap.size 22 (tickv L k)) (fun i _ => n - (intOf i).toNat)
  case atStart => exact ⟨0, Nat.zero_le _, rfl, (Chg.refl [] w).alloc _, by unfold tickv; rw [HL.out]; simpa [u64n] using B0⟩
  case round =>
    obtain ⟨k, hk, rfl, hC, hB⟩ := hrel
    by_cases hlt : k < n
    · have hOr := hO.chg hC (by simp)
      obtain ⟨g, o, c1, hv, _, _, hg⟩ := hOr.some_ (by omega)
      injection hv with hA _ hc1
      subst hA; subst hc1
      obtain ⟨x, y, hxy⟩ := get_ask L k (by rw [HL.out]; exact hlt)
      obtain ⟨q0, q1⟩ := hOr.ask hxy
      have HXY := hid hxy
      clear hxy
      have k0 : (0 : Int) ≤ (k : Int) := by omega
      have k1 : (k : Int) < (n : Int) := by omega
      have hgl := hB.lt
      have hgb : g < w.heap.size := hO.lt g rfl
      have hlen : k < (tickv L k).length := by rw [tickv_len L k (by rw [HL.out]; omega), HL.out]; exact hlt
      obtain ⟨u, hu⟩ : ∃ u, (tickv L k)[k]? = some u := ⟨_, List.getElem?_eq_getElem hlen⟩
      have b0 := hB.cell_of hu
      have f0 := hB.frozen k
      clear hlen hu
      go_wp2
      go_roundw
      case measure => simp [intOf]; omega
      case rel => exact ⟨k + 1, by omega, by go_num, (hC.setCell (.inr (Nat.le_refl _)) _).alloc _, by rw [← tickv_set L k x y HXY.out]; exact (hB.set_ k _).alloc _⟩
    · obtain rfl : k = n := by omega
      go_wp2
      go_ret
      refine ⟨_, _, rfl, ⟨by rw [u64n_len]; simp [HL.out], .inr ⟨_, 0, _, _, rfl, hB, Nat.le_refl _, by unfold maxLen; omega, ?_, ?_⟩⟩, hC⟩
      · rw [tickv_len L k (by rw [HL.out]; omega), HL.out]; omega
      · have h := HL.out
        subst h
        rw [tickv_all, List.drop_zero]
        exact List.take_of_length_le (by rw [u64n_len]; simp)
end Go.Proofs.Ythhddmamlpnjpaa
