/- The reference's Come, walked: what it takes one by one, and what it leaves. -/
import Derived.Test.YtendgfbkbeapoaaLinkG
import Derived.Deep.LoopGhost
namespace Go.Proofs.Ytendgfbkbeapoaa
open Go.RowKit

/-- Has it this tick? -/
def tickIs (t : Int) (q : Int × Int) : Bool := q.1 == t
/-- The number of the first one of this tick, if there is one. -/
def firstNum (t : Int) (l : List (Int × Int)) : List Int := (l.find? (tickIs t)).toList.map (·.2)
def leftOf (t : Int) (l : List (Int × Int)) : List (Int × Int) := l.eraseP (tickIs t)
def tookIn (t : Int) (l : List (Int × Int)) : Bool := l.any (tickIs t)

theorem first_snoc_took {t : Int} {l : List (Int × Int)} (h : tookIn t l = true) (q : Int × Int) : firstNum t (l ++ [q]) = firstNum t l ∧ leftOf t (l ++ [q]) = leftOf t l ++ [q] ∧ tookIn t (l ++ [q]) = true := by
  unfold tookIn at h
  obtain ⟨x, hx, hp⟩ := List.any_eq_true.1 h
  refine ⟨?_, ?_, ?_⟩
  · unfold firstNum
    rw [List.find?_append]
    cases hf : l.find? (tickIs t) with
    | none => exact absurd hp (by simpa using List.find?_eq_none.1 hf x hx)
    | some y => rfl
  · exact List.eraseP_append_left hp _ hx
  · unfold tookIn; rw [List.any_append, h]; rfl
theorem first_snoc_hit {t : Int} {l : List (Int × Int)} (h : tookIn t l = false) {q : Int × Int} (hq : tickIs t q = true) : firstNum t (l ++ [q]) = firstNum t l ++ [q.2] ∧ leftOf t (l ++ [q]) = leftOf t l ∧ tookIn t (l ++ [q]) = true := by
  unfold tookIn at h
  have hn : ∀ x ∈ l, ¬ tickIs t x = true := by simpa using List.any_eq_false.1 h
  have hf : l.find? (tickIs t) = none := List.find?_eq_none.2 (by simpa using hn)
  refine ⟨?_, ?_, ?_⟩
  · unfold firstNum; rw [List.find?_append, hf]; simp [hq]
  · unfold leftOf; rw [List.eraseP_append_right _ hn, List.eraseP_of_forall_not hn]; simp [hq]
  · unfold tookIn; rw [List.any_append]; simp [hq]
theorem first_snoc_miss {t : Int} {l : List (Int × Int)} (h : tookIn t l = false) {q : Int × Int} (hq : tickIs t q = false) : firstNum t (l ++ [q]) = firstNum t l ∧ leftOf t (l ++ [q]) = leftOf t l ++ [q] ∧ tookIn t (l ++ [q]) = false := by
  have h' := h
  unfold tookIn at h
  have hn : ∀ x ∈ l, ¬ tickIs t x = true := by simpa using List.any_eq_false.1 h
  have hf : l.find? (tickIs t) = none := List.find?_eq_none.2 (by simpa using hn)
  refine ⟨?_, ?_, ?_⟩
  · unfold firstNum; rw [List.find?_append, hf]; simp [hq]
  · unfold leftOf; rw [List.eraseP_append_right _ hn, List.eraseP_of_forall_not hn]; simp [hq]
  · unfold tookIn at *; rw [List.any_append, h]; simp [hq]

/-- What the reference's Come takes, one by one, and what it leaves. -/
def comeR : Nat → Int → List (Int × Int) → List Int × List (Int × Int)
  | 0, _, qs => ([], qs)
  | f + 1, now, qs => if 0 < qs.length ∧ least qs ≤ now then (firstNum (least qs) qs ++ (comeR f now (leftOf (least qs) qs)).1, (comeR f now (leftOf (least qs) qs)).2) else ([], qs)

theorem fold_mem (r : List (Int × Int)) : ∀ m : Int, r.foldl (fun m x => if x.1 < m then x.1 else m) m = m ∨ ∃ x ∈ r, x.1 = r.foldl (fun m x => if x.1 < m then x.1 else m) m := by
  induction r with
  | nil => intro m; exact .inl rfl
  | cons a r ih =>
    intro m
    simp only [List.foldl_cons]
    by_cases h : a.1 < m
    · rw [if_pos h]
      rcases ih a.1 with h1 | ⟨x, hx, he⟩
      · exact .inr ⟨a, by simp, h1.symm⟩
      · exact .inr ⟨x, by simp [hx], he⟩
    · rw [if_neg h]
      rcases ih m with h1 | ⟨x, hx, he⟩
      · exact .inl h1
      · exact .inr ⟨x, by simp [hx], he⟩
theorem least_mem (q : Int × Int) (r : List (Int × Int)) : ∃ x ∈ q :: r, x.1 = least (q :: r) := by
  rcases fold_mem r q.1 with h | ⟨x, hx, he⟩
  · exact ⟨q, by simp, h.symm⟩
  · exact ⟨x, by simp [hx], he⟩
theorem left_len {qs : List (Int × Int)} (h : 0 < qs.length) : (leftOf (least qs) qs).length + 1 = qs.length := by
  cases qs with
  | nil => simp at h
  | cons q r =>
    obtain ⟨x, hx, he⟩ := least_mem q r
    have := List.length_eraseP_of_mem (p := tickIs (least (q :: r))) hx (by simp [tickIs, he])
    unfold leftOf
    rw [this]
    simp

def RefComePost (g : Nat) (d room : Int) (A : Option Addr) (c : Nat) (qs : List (Int × Int)) (r : List Int × List (Int × Int)) (w : World) (e : Ending) (w' : World) : Prop :=
  ∃ (Ao : Option Addr) (co : Nat) (A' : Option Addr) (c' : Nat), e = .returned (.tuple #[.slice Ao r.1.length co, .int .i64 0]) ∧ Own w' 3 1 (.slice Ao r.1.length co) r.1.length (ints r.1) ∧ Fresh w (.slice Ao r.1.length co) ∧
    RefAt w' g d room A' c' r.2 ∧ Chg [g] w w' ∧ ∀ j, (Value.slice A' r.2.length c').ownBlock = some j → (Value.slice A qs.length c).ownBlock = some j ∨ w.heap.size ≤ j

/-- How far the reference's Come has got. -/
def ComeAt (now : Int) (qs : List (Int × Int)) (os : List Int) (rs : List (Int × Int)) : Prop :=
  comeR qs.length now qs = (os ++ (comeR rs.length now rs).1, (comeR rs.length now rs).2) ∧ os.length + rs.length ≤ qs.length

theorem ComeAt.start (now : Int) (qs : List (Int × Int)) : ComeAt now qs [] qs := ⟨by simp, by simp⟩
theorem firstNum_len (t : Int) (l : List (Int × Int)) : (firstNum t l).length ≤ 1 := by
  unfold firstNum; cases l.find? (tickIs t) <;> simp
theorem ComeAt.step {now : Int} {qs : List (Int × Int)} {os : List Int} {rs : List (Int × Int)} (h : ComeAt now qs os rs) (h0 : 0 < rs.length) (hl : least rs ≤ now) : ComeAt now qs (os ++ firstNum (least rs) rs) (leftOf (least rs) rs) := by
  have e := left_len h0
  have e1 := firstNum_len (least rs) rs
  refine ⟨?_, by rw [List.length_append]; have := h.2; omega⟩
  rw [h.1, show rs.length = (leftOf (least rs) rs).length + 1 from e.symm, comeR, if_pos ⟨h0, hl⟩]
  simp [List.append_assoc]
theorem ComeAt.stop {now : Int} {qs : List (Int × Int)} {os : List Int} {rs : List (Int × Int)} (h : ComeAt now qs os rs) (hn : ¬ (0 < rs.length ∧ least rs ≤ now)) : comeR qs.length now qs = (os, rs) := by
  rw [h.1]
  cases hr : rs.length with
  | zero => simp [comeR]
  | succ f => rw [comeR, if_neg hn]; simp

set_option maxHeartbeats 400000 in
theorem refCome_late (g : Nat) (now : Int) (w : World) (hnow : 1099511627776 < now) :
    Calls Try.prog 12 #[.pointer (some ⟨g, 0, none⟩), .int .u64 now] w fun e w' => e = .returned (.tuple #[.slice none 0 0, .int .i64 2]) ∧ w = w' := by
  go_enter Try.func12, Try.ntmps12
  go_wp2
  go_ret2
  exact ⟨rfl, rfl⟩

set_option maxHeartbeats 1000000 in
theorem refCome_any (g : Nat) (d room now : Int) (A : Option Addr) (c : Nat) (qs : List (Int × Int)) (w : World) (hL : RefAt w g d room A c qs) (hlen : qs.length ≤ 1000000) (hnow : now ≤ 1099511627776) :
    Calls Try.prog 12 #[.pointer (some ⟨g, 0, none⟩), .int .u64 now] w (RefComePost g d room A c qs (comeR qs.length now qs) w) := by
  obtain ⟨i0, hi, hz0, hz1, hz2⟩ := info_parts Try.info3
  obtain ⟨i1, hi1, hy0, hy1, hy2⟩ := info_parts Try.info55
  have hgw := hL.blk.lt
  go_enter Try.func12, Try.ntmps12
  go_wp2
  go_loopg [6] qs.length (fun kx v wr => ∃ (os : List Int) (Ao : Option Addr) (co : Nat) (rs : List (Int × Int)) (A' : Option Addr) (c' : Nat), v = .slice Ao os.length co ∧ Own wr 3 1 (.slice Ao os.length co) os.length (ints os) ∧ Fresh w (.slice Ao os.length co) ∧
    RefAt wr g d room A' c' rs ∧ Chg [g] w wr ∧ (∀ j, (Value.slice A' rs.length c').ownBlock = some j → (Value.slice A qs.length c).ownBlock = some j ∨ w.heap.size ≤ j) ∧ ComeAt now qs os rs ∧ rs.length ≤ kx)
  case atStart => exact ⟨[], none, 0, qs, A, c, rfl, by simpa [ints] using Own.nil w 3 1, (fun j hj => by simp [Value.ownBlock] at hj), hL, Chg.refl _ _, fun j hj => .inl hj, ComeAt.start now qs, Nat.le_refl _⟩
  case round =>
    obtain ⟨os, Ao, co, rs, A', c', rfl, hO, hF, hR, hC, hA, hat, hk⟩ := hrel
    have hrl : rs.length ≤ 1000000 := by have := hat.2; omega
    by_cases hgo : 0 < rs.length ∧ least rs ≤ now
    · obtain ⟨hg0, hg1⟩ := hgo
      go_wp2_with (go_at_call 15; refine (refNext_any g d room A' c' rs wr hR hrl).mono ?_; rintro e w1 ⟨rfl, m1, rfl⟩)
      obtain ⟨wo, hwo⟩ : ∃ wo, wo = wr.drewN m1 := ⟨_, rfl⟩
      rw [← hwo]
      have RW : RefAt wo g d room A' c' rs := by rw [hwo]; exact hR.chg ((Chg.refl [] wr).drewN m1) (by simp) (by simp)
      have OW : Own wo 3 1 (.slice Ao os.length co) os.length (ints os) := by rw [hwo]; exact hO
      have CW : Chg [g] w wo := by rw [hwo]; exact hC.drewN m1
      clear hwo hR hO hC
      obtain ⟨T, hT⟩ : ∃ T, T = least rs := ⟨_, rfl⟩
      rw [← hT]
      have HT := hid hT
      have HST := hid (hat.step hg0 hg1)
      have HAT := hid hat
      clear hT hg1 hat
      have gb : g ∉ (Value.slice Ao os.length co).ownBlock.toList := by intro hm; exact OW.ne_ RW.blk (by decide) (by simpa using hm)
      have gA : ∀ k, (Value.slice A' rs.length c').ownBlock = some k → k ∉ (Value.slice Ao os.length co).ownBlock.toList := fun k hk hm => RW.own.ne_own OW (by decide) k hk (by simpa using hm)
      have GB := hid gb
      have GA := hid gA
      clear gb gA
      go_loopw [6, 9, 10, 11] (fun o l t i wi => ∃ (j : Nat) (Ao1 : Option Addr) (co1 : Nat) (Al : Option Addr) (cl : Nat), j ≤ rs.length ∧ i = .int .i64 j ∧ t = .bool (tookIn T (rs.take j)) ∧
        o = .slice Ao1 (os ++ firstNum T (rs.take j)).length co1 ∧ Own wi 3 1 (.slice Ao1 (os ++ firstNum T (rs.take j)).length co1) (os ++ firstNum T (rs.take j)).length (ints (os ++ firstNum T (rs.take j))) ∧
        (∀ k, (Value.slice Ao1 (os ++ firstNum T (rs.take j)).length co1).ownBlock = some k → (Value.slice Ao os.length co).ownBlock = some k ∨ wo.heap.size ≤ k) ∧
        l = .slice Al (leftOf T (rs.take j)).length cl ∧ Own wi 55 2 (.slice Al (leftOf T (rs.take j)).length cl) (leftOf T (rs.take j)).length (rc (leftOf T (rs.take j))) ∧ Fresh wo (.slice Al (leftOf T (rs.take j)).length cl) ∧
        Chg (Value.slice Ao os.length co).ownBlock.toList wo wi) (fun _ _ _ i _ => rs.length - (intOf i).toNat)
      case atStart => exact ⟨0, Ao, co, none, 0, Nat.zero_le _, rfl, rfl, by simp [firstNum], by simpa [firstNum] using OW, (fun k hk => .inl (by simpa [firstNum] using hk)), rfl, by simpa [rc, leftOf] using Own.nil wo 55 2, (fun j hj => by simp [Value.ownBlock] at hj), Chg.refl _ _⟩
      case round =>
        obtain ⟨j, Ao1, co1, Al, cl, hj, rfl, rfl, rfl, hO1, hb1, rfl, hO2, hF2, hC1⟩ := hrel
        have RI := RW.chg hC1 GB.out GA.out
        obtain ⟨_, _, e2⟩ := RI.cells
        have fl := firstNum_len T (rs.take j)
        have ll : (leftOf T (rs.take j)).length ≤ rs.length := by unfold leftOf; have := List.length_eraseP_le (p := tickIs T) (l := rs.take j); rw [List.length_take] at this; omega
        obtain ⟨O, hOe⟩ : ∃ O, O = os ++ firstNum T (rs.take j) := ⟨_, rfl⟩
        have hOl : O.length ≤ rs.length + os.length + 1 := by rw [hOe, List.length_append]; omega
        obtain ⟨M, hM⟩ : ∃ M, M = leftOf T (rs.take j) := ⟨_, rfl⟩
        rw [← hM] at ll
        simp only [← hOe, ← hM] at hO1 hb1 hO2 hF2 ⊢
        have HOe := hid hOe
        have HM := hid hM
        have hosl : os.length ≤ 1000000 := by have := HAT.out.2; omega
        clear hOe hM fl
        by_cases hlt : j < rs.length
        · obtain ⟨g2, o2, c2, hv, hn2, hm2, _⟩ := RI.own.some_ (by omega)
          injection hv with e3 e4 e5
          subst e3; subst e5
          have hp : rs[j]? = some rs[j] := List.getElem?_eq_getElem hlt
          obtain ⟨p, hpp⟩ : ∃ p, p = rs[j] := ⟨_, rfl⟩
          rw [← hpp] at hp
          clear hpp
          have q0 := (RI.own.cell (rc_get0 rs j p hp)).1
          have q1 := (RI.own.cell (rc_get1 rs j p hp)).1
          dsimp only at q0 q1
          rw [← Nat.add_assoc] at q1
          have hg2 := World.block_lt_of_cell? _ _ q0
          dsimp only at hg2
          have e1 : rs.take (j + 1) = rs.take j ++ [p] := by rw [List.take_add_one, hp]; rfl
          have E1 := hid e1
          clear e1 hp
          have jk0 : (0 : Int) ≤ (j : Int) := by omega
          have jk1 : (j : Int) < (rs.length : Int) := by omega
          cases ht : tookIn T (rs.take j) with
          | true =>
            have X := hid (first_snoc_took ht p)
            go_wp2_with ((with_reducible refine at_append_ (dst := some 70) ?_); go_loud (refine wpList_append_any _ rfl (.tmp 61) (.tmp 69) 31 rfl 55 i1 _ 2 16 Try.underlying31 hi1 hy0 hy1 hy2 rfl (by omega) (.slice Al M.length cl) M.length (rc M) rfl (hO2.alloc _) ⟨wr.heap.size, 0, none⟩ 1 1 [.int .i64 p.2, .int .u64 p.1] rfl rfl (Blk.new wr 55 #[.int .i64 p.2, .int .u64 p.1]).adds0 (by simp [Value.oneCell']) (by unfold maxLen; omega) (by omega) ?_; intro Al2 cl2 w2 hO3 hC2 hb2))
            go_roundw
            case measure => simp [intOf]; omega
            case rel =>
              have EO : os ++ firstNum T (rs.take (j + 1)) = O := by rw [E1.out, X.out.1, HOe.out]
              have EM : leftOf T (rs.take (j + 1)) = M ++ [p] := by rw [E1.out, X.out.2.1, HM.out]
              have ET : tookIn T (rs.take (j + 1)) = true := by rw [E1.out]; exact X.out.2.2
              refine ⟨j + 1, Ao1, co1, Al2, cl2, by omega, by go_num, by rw [ET], ?_⟩
              rw [EO, EM, show (M ++ [p]).length = M.length + 1 by simp, rc_snoc]
              refine ⟨rfl, (hO1.alloc _).chg hC2 (fun k hk hm => hO1.ne_own hO2 (by decide) k hk (by simpa using hm)), hb1, rfl, hO3, fun q hq => ?_, (hC1.alloc _).seq hC2 (fun x hx => .inr (hF2 x (by simpa using hx)))⟩
              have hs := hC1.size
              rcases hb2 with h5 | ⟨q', h5, h6⟩
              · exact hF2 q (h5.symm.trans hq)
              · rw [h5] at hq
                simp only [Option.some.injEq] at hq
                subst hq
                simp at h6
                omega
          | false =>
            cases hq : tickIs T p with
            | true =>
              have X := hid (first_snoc_hit ht hq)
              have hq1 : (p.1 == T) = true := hq
              clear hq
              go_wp2_with ((with_reducible refine at_append_ (dst := some 60) ?_); (refine wpList_append_any _ rfl (.tmp 50) (.tmp 59) 38 rfl 3 i0 _ 1 8 Try.underlying38 hi hz0 hz1 hz2 rfl (by omega) (.slice Ao1 O.length co1) O.length (ints O) rfl (hO1.alloc _) ⟨wr.heap.size, 0, none⟩ 1 1 [.int .i64 p.2] rfl rfl (Blk.new wr 3 #[.int .i64 p.2]).adds0 (by simp [Value.oneCell']) (by unfold maxLen; omega) (by omega) ?_; intro Ao2 co2 w2 hO3 hC2 hb2))
              go_roundw
              case measure => simp [intOf]; omega
              case rel =>
                have EO : os ++ firstNum T (rs.take (j + 1)) = O ++ [p.2] := by rw [E1.out, X.out.1, HOe.out, List.append_assoc]
                have EM : leftOf T (rs.take (j + 1)) = M := by rw [E1.out, X.out.2.1, HM.out]
                have ET : tookIn T (rs.take (j + 1)) = true := by rw [E1.out]; exact X.out.2.2
                refine ⟨j + 1, Ao2, co2, Al, cl, by omega, by go_num, by rw [ET], ?_⟩
                rw [EO, EM, show (O ++ [p.2]).length = O.length + 1 by simp, ints_snoc]
                refine ⟨rfl, hO3, fun q hq => ?_, rfl, (hO2.alloc _).chg hC2 (fun k hk hm => hO2.ne_own hO1 (by decide) k hk (by simpa using hm)), hF2, (hC1.alloc _).seq hC2 (fun x hx => ?_)⟩
                · have hs := hC1.size
                  rcases hb2 with h5 | ⟨q', h5, h6⟩
                  · exact hb1 q (h5.symm.trans hq)
                  · rw [h5] at hq
                    simp only [Option.some.injEq] at hq
                    subst hq
                    simp at h6
                    right
                    omega
                · rcases hb1 x (by simpa using hx) with h5 | h5
                  · exact .inl (by simpa using h5)
                  · exact .inr h5
            | false =>
              have X := hid (first_snoc_miss ht hq)
              have hq1 : (p.1 == T) = false := hq
              clear hq
              go_wp2_with ((with_reducible refine at_append_ (dst := some 70) ?_); (refine wpList_append_any _ rfl (.tmp 61) (.tmp 69) 31 rfl 55 i1 _ 2 16 Try.underlying31 hi1 hy0 hy1 hy2 rfl (by omega) (.slice Al M.length cl) M.length (rc M) rfl (hO2.alloc _) ⟨wr.heap.size, 0, none⟩ 1 1 [.int .i64 p.2, .int .u64 p.1] rfl rfl (Blk.new wr 55 #[.int .i64 p.2, .int .u64 p.1]).adds0 (by simp [Value.oneCell']) (by unfold maxLen; omega) (by omega) ?_; intro Al2 cl2 w2 hO3 hC2 hb2))
              go_roundw
              case measure => simp [intOf]; omega
              case rel =>
                have EO : os ++ firstNum T (rs.take (j + 1)) = O := by rw [E1.out, X.out.1, HOe.out]
                have EM : leftOf T (rs.take (j + 1)) = M ++ [p] := by rw [E1.out, X.out.2.1, HM.out]
                have ET : tookIn T (rs.take (j + 1)) = false := by rw [E1.out]; exact X.out.2.2
                refine ⟨j + 1, Ao1, co1, Al2, cl2, by omega, by go_num, by rw [ET], ?_⟩
                rw [EO, EM, show (M ++ [p]).length = M.length + 1 by simp, rc_snoc]
                refine ⟨rfl, (hO1.alloc _).chg hC2 (fun k hk hm => hO1.ne_own hO2 (by decide) k hk (by simpa using hm)), hb1, rfl, hO3, fun q hq => ?_, (hC1.alloc _).seq hC2 (fun x hx => .inr (hF2 x (by simpa using hx)))⟩
                have hs := hC1.size
                rcases hb2 with h5 | ⟨q', h5, h6⟩
                · exact hF2 q (h5.symm.trans hq)
                · rw [h5] at hq
                  simp only [Option.some.injEq] at hq
                  subst hq
                  simp at h6
                  omega
        · obtain rfl : j = rs.length := by omega
          have eO : os ++ firstNum T rs = O := by rw [HOe.out, List.take_length]
          have eM : leftOf T rs = M := by rw [HM.out, List.take_length]
          have EO := hid eO
          have EM := hid eM
          clear eO eM
          have BI := RI.blk
          have b3 := BI.frozen 2
          go_wp2
          go_roundg M.length
          case measure =>
            have h := left_len hg0
            rw [← HT.out, EM.out] at h
            omega
          case rel =>
            have hs := CW.size
            refine ⟨O, Ao1, co1, M, Al, cl, rfl, hO1.far (hO1.ne_ BI (by decide)) _, fun q hq => ?_, ⟨BI.set_ 2 _, hO2.far (hO2.ne_ BI (by decide)) _⟩, (CW.seq hC1 (fun x hx => .inr (hF x (by simpa using hx)))).setCell (.inl (by simp)) _, fun q hq => ?_, ?_, Nat.le_refl _⟩
            · rcases hb1 q hq with h5 | h5
              · exact hF q h5
              · omega
            · have := hF2 q hq
              right
              omega
            · have := HST.out
              rw [← HT.out, EO.out, EM.out] at this
              exact this
    · have HST := hid (hat.stop hgo)
      go_wp2_with (go_at_call 15; refine (refNext_any g d room A' c' rs wr hR hrl).mono ?_; rintro e w1 ⟨rfl, m1, rfl⟩)
      all_goals
        go_ret2
        unfold RefComePost
        rw [HST.out]
        exact ⟨Ao, co, A', c', rfl, hO, hF, ⟨hR.blk, hR.own⟩, hC.drewN m1, hA⟩
end Go.Proofs.Ytendgfbkbeapoaa
