/- The contracts of the link and of the reference's link, said of their states; what each may have changed. -/
import Derived.Test.YtendgfbkbeapoaaLinkI
namespace Go.Proofs.Ytendgfbkbeapoaa
open Go.RowKit

/-- Every whole block whose type is not among Ts is as it was. -/
def KeepT (Ts : List TypeId) (w w' : World) : Prop := ∀ g t cs, Blk w g t cs → t ∉ Ts → Blk w' g t cs
/-- Below B nothing has turned; of the blocks known whole only those of the types Ts may have. -/
structure Did (B : Nat) (Ts : List TypeId) (w w' : World) : Prop where
  below : Below B w w'
  keep : KeepT Ts w w'
theorem Did.refl (B : Nat) (Ts : List TypeId) (w : World) : Did B Ts w w := ⟨Below.refl _ _, fun _ _ _ h _ => h⟩
theorem Did.drawn {B : Nat} {Ts : List TypeId} {w w' : World} (h : Drawn w w') : Did B Ts w w' := by
  obtain ⟨m, rfl⟩ := h
  exact ⟨⟨rfl, rfl, rfl, Nat.le_refl _, fun _ _ => rfl⟩, fun _ _ _ h _ => h⟩
theorem Did.trans {B : Nat} {Ts : List TypeId} {a b c : World} (h : Did B Ts a b) (k : Did B Ts b c) : Did B Ts a c := ⟨h.below.trans k.below, fun g t cs hb ht => k.keep g t cs (h.keep g t cs hb ht) ht⟩
theorem Did.mono {B : Nat} {Ts Ts' : List TypeId} {a b : World} (h : Did B Ts a b) (hs : ∀ t ∈ Ts, t ∈ Ts') : Did B Ts' a b := ⟨h.below, fun g t cs hb ht => h.keep g t cs hb (fun hm => ht (hs t hm))⟩
theorem Did.alloc {B : Nat} {Ts : List TypeId} {a w : World} (h : Did B Ts a w) (hB : B ≤ w.heap.size) (o : Obj) : Did B Ts a (w.alloc o) := ⟨h.below.alloc hB o, fun g t cs hb ht => (h.keep g t cs hb ht).alloc o⟩
/-- A change at blocks whose types are known. -/
theorem Did.of_chg {B : Nat} {Ts : List TypeId} {S : List Nat} {w w' : World} (h : Chg S w w') (hS : ∀ k ∈ S, B ≤ k ∧ ∃ t cs, Blk w k t cs ∧ t ∈ Ts) (hB : B ≤ w.heap.size) : Did B Ts w w' := by
  refine ⟨h.below (fun k hk => (hS k hk).1) hB, fun g t cs hb ht => hb.chg h (fun hm => ?_)⟩
  obtain ⟨t', cs', hb', ht'⟩ := (hS g hm).2
  have : t = t' := by
    unfold Blk at hb hb'
    rw [hb] at hb'
    injection hb' with e
    injection e
  subst this
  exact ht ht'
theorem Own.blk {w : World} {T : TypeId} {size n : Nat} {v : Value} {xs : List Value} (h : Own w T size v n xs) : ∀ k ∈ v.ownBlock.toList, ∃ cs, Blk w k T cs := by
  intro k hk
  rcases h.2 with ⟨rfl, _⟩ | ⟨g, o, c, L, rfl, hb, _⟩
  · simp [Value.ownBlock] at hk
  · have : k = g := by simpa [Value.ownBlock] using hk
    subst this
    exact ⟨L, hb⟩
theorem Own.did {w w' : World} {T : TypeId} {size n : Nat} {v : Value} {xs : List Value} {B : Nat} {Ts : List TypeId} (h : Own w T size v n xs) (hd : Did B Ts w w') (hT : T ∉ Ts) : Own w' T size v n xs := by
  refine ⟨h.1, ?_⟩
  rcases h.2 with h0 | ⟨g, o, c, L, rfl, hb, r⟩
  · exact .inl h0
  · exact .inr ⟨g, o, c, L, rfl, hd.keep _ _ _ hb hT, r⟩

def LinkS (w : World) (B g : Nat) (d room : Int) (ps : List (Int × Int)) : Prop :=
  ∃ A c, LinkAt w g d room A c ps ∧ (∀ j, (Value.slice A ps.length c).ownBlock = some j → B ≤ j) ∧ B ≤ g
def RefS (w : World) (B g : Nat) (d room : Int) (ps : List (Int × Int)) : Prop :=
  ∃ A c, RefAt w g d room A c ps ∧ (∀ j, (Value.slice A ps.length c).ownBlock = some j → B ≤ j) ∧ B ≤ g
theorem LinkS.did {w w' : World} {B g : Nat} {d room : Int} {ps : List (Int × Int)} {B' : Nat} {Ts : List TypeId} (h : LinkS w B g d room ps) (hd : Did B' Ts w w') (h1 : 49 ∉ Ts) (h2 : 52 ∉ Ts) : LinkS w' B g d room ps := by
  obtain ⟨A, c, hL, ho, hg⟩ := h
  exact ⟨A, c, ⟨hd.keep _ _ _ hL.blk h1, hL.own.did hd h2⟩, ho, hg⟩
theorem RefS.did {w w' : World} {B g : Nat} {d room : Int} {ps : List (Int × Int)} {B' : Nat} {Ts : List TypeId} (h : RefS w B g d room ps) (hd : Did B' Ts w w') (h1 : 33 ∉ Ts) (h2 : 55 ∉ Ts) : RefS w' B g d room ps := by
  obtain ⟨A, c, hL, ho, hg⟩ := h
  exact ⟨A, c, ⟨hd.keep _ _ _ hL.blk h1, hL.own.did hd h2⟩, ho, hg⟩

def Ret (v : Value) (R : World → Prop) (e : Ending) (w' : World) : Prop := e = .returned v ∧ R w'

theorem sendS_late {w : World} {B g : Nat} {d room now num : Int} {ps : List (Int × Int)} (h : LinkS w B g d room ps) (hr : 1 ≤ room) (hnow : 1099511627776 < now) :
    Calls Try.prog 9 #[.pointer (some ⟨g, 0, none⟩), .int .u64 now, .int .i64 num] w (Ret (.tuple #[.bool false, .int .i64 2]) (Did B [] w)) := by
  obtain ⟨A, c, hL, _, _⟩ := h
  exact (send_late g d room now num A c ps w hL hr hnow).mono fun e w' ⟨h1, h2⟩ => ⟨h1, h2 ▸ Did.refl _ _ _⟩
theorem sendS_full {w : World} {B g : Nat} {d room now num : Int} {ps : List (Int × Int)} (h : LinkS w B g d room ps) (hr : 1 ≤ room) (hnow : now ≤ 1099511627776) (hf : (ps.length : Int) = room) :
    Calls Try.prog 9 #[.pointer (some ⟨g, 0, none⟩), .int .u64 now, .int .i64 num] w (Ret (.tuple #[.bool false, .int .i64 0]) (Did B [] w)) := by
  obtain ⟨A, c, hL, _, _⟩ := h
  exact (send_full g d room now num A c ps w hL hr hnow hf).mono fun e w' ⟨h1, h2⟩ => ⟨h1, Did.drawn h2⟩
def SentR (w : World) (B g : Nat) (d room t num : Int) (ps : List (Int × Int)) (w' : World) : Prop :=
  ∃ k, CntLe ps t k ∧ LinkS w' B g d room (ps.take k ++ (t, num) :: ps.drop k) ∧ Did B [49, 52] w w'
theorem sendS_ok {w : World} {B g : Nat} {d room now num : Int} {ps : List (Int × Int)} (h : LinkS w B g d room ps) (hB : B ≤ w.heap.size) (hrm : room ≤ 1024) (hnow0 : 0 ≤ now) (hnow : now ≤ 1099511627776) (hd0 : 0 ≤ d) (hd : d ≤ 1024) (hf : (ps.length : Int) < room) (hri : Rise ps) :
    Calls Try.prog 9 #[.pointer (some ⟨g, 0, none⟩), .int .u64 now, .int .i64 num] w (Ret (.tuple #[.bool true, .int .i64 0]) (SentR w B g d room (now + d) num ps)) := by
  obtain ⟨A, c, hL, ho, hg⟩ := h
  refine (send_ok g d room now num A c ps w hL hrm hnow0 hnow hd0 hd hf hri).mono fun e w' ⟨h1, A', c', k, hk, hL', hC, hb⟩ => ⟨h1, k, hk, ⟨A', c', hL', ?_, hg⟩, ?_⟩
  · have hl : (ps.take k ++ (now + d, num) :: ps.drop k).length = ps.length + 1 := by
      have := hk.1
      rw [List.length_append, List.length_take, List.length_cons, List.length_drop]; omega
    rw [hl]
    intro j hj
    rcases hb j hj with h2 | h2
    · exact ho j h2
    · omega
  · refine Did.of_chg hC (fun k hk => ?_) hB
    rcases List.mem_cons.1 hk with rfl | hk
    · exact ⟨hg, 49, _, hL.blk, by simp⟩
    · obtain ⟨cs, hb⟩ := hL.own.blk k hk
      exact ⟨ho k (by simpa using hk), 52, cs, hb, by simp⟩

theorem refSendS_late {w : World} {B g : Nat} {now num : Int} (hnow : 1099511627776 < now) :
    Calls Try.prog 10 #[.pointer (some ⟨g, 0, none⟩), .int .u64 now, .int .i64 num] w (Ret (.tuple #[.bool false, .int .i64 2]) (Did B [] w)) :=
  (refSend_late g now num w hnow).mono fun _e _w' ⟨h1, h2⟩ => ⟨h1, h2 ▸ Did.refl _ _ _⟩
theorem refSendS_full {w : World} {B g : Nat} {d room now num : Int} {ps : List (Int × Int)} (h : RefS w B g d room ps) (hnow : now ≤ 1099511627776) (hf : room ≤ (ps.length : Int)) :
    Calls Try.prog 10 #[.pointer (some ⟨g, 0, none⟩), .int .u64 now, .int .i64 num] w (Ret (.tuple #[.bool false, .int .i64 0]) (Did B [] w)) := by
  obtain ⟨A, c, hL, _, _⟩ := h
  exact (refSend_full g d room now num A c ps w hL hnow hf).mono fun e w' ⟨h1, h2⟩ => ⟨h1, Did.drawn h2⟩
def RefSentR (w : World) (B g : Nat) (d room t num : Int) (ps : List (Int × Int)) (w' : World) : Prop := RefS w' B g d room (ps ++ [(t, num)]) ∧ Did B [33, 55] w w'
theorem refSendS_ok {w : World} {B g : Nat} {d room now num : Int} {ps : List (Int × Int)} (h : RefS w B g d room ps) (hB : B ≤ w.heap.size) (hrm : room ≤ 1024) (hnow0 : 0 ≤ now) (hnow : now ≤ 1099511627776) (hd0 : 0 ≤ d) (hd : d ≤ 1024) (hf : (ps.length : Int) < room) :
    Calls Try.prog 10 #[.pointer (some ⟨g, 0, none⟩), .int .u64 now, .int .i64 num] w (Ret (.tuple #[.bool true, .int .i64 0]) (RefSentR w B g d room (now + d) num ps)) := by
  obtain ⟨A, c, hL, ho, hg⟩ := h
  refine (refSend_ok g d room now num A c ps w hL hrm hnow0 hnow hd0 hd hf).mono fun e w' ⟨h1, A', c', hL', hC, hb⟩ => ⟨h1, ⟨A', c', hL', ?_, hg⟩, ?_⟩
  · rw [show (ps ++ [(now + d, num)]).length = ps.length + 1 by simp]
    intro j hj
    rcases hb j hj with h2 | h2
    · exact ho j h2
    · omega
  · refine Did.of_chg hC (fun k hk => ?_) hB
    rcases List.mem_cons.1 hk with rfl | hk
    · exact ⟨hg, 33, _, hL.blk, by simp⟩
    · obtain ⟨cs, hb⟩ := hL.own.blk k hk
      exact ⟨ho k (by simpa using hk), 55, cs, hb, by simp⟩

theorem comeS_late {w : World} {B g : Nat} {d room now : Int} {ps : List (Int × Int)} (h : LinkS w B g d room ps) (hr : 1 ≤ room) (hnow : 1099511627776 < now) :
    Calls Try.prog 11 #[.pointer (some ⟨g, 0, none⟩), .int .u64 now] w (Ret (.tuple #[.slice none 0 0, .int .i64 2]) (Did B [] w)) := by
  obtain ⟨A, c, hL, _, _⟩ := h
  exact (come_late g d room now A c ps w hL hr hnow).mono fun e w' ⟨h1, h2⟩ => ⟨h1, h2 ▸ Did.refl _ _ _⟩
def CameR (w : World) (B g : Nat) (d room now : Int) (ps : List (Int × Int)) (e : Ending) (w' : World) : Prop :=
  ∃ k A c, CntLe ps now k ∧ e = .returned (.tuple #[.slice A k c, .int .i64 0]) ∧ Own w' 3 1 (.slice A k c) k (ints ((ps.take k).map (·.2))) ∧ Fresh w (.slice A k c) ∧ LinkS w' B g d room (ps.drop k) ∧ Did B [49, 52] w w'
theorem comeS {w : World} {B g : Nat} {d room now : Int} {ps : List (Int × Int)} (h : LinkS w B g d room ps) (hB : B ≤ w.heap.size) (hr : 1 ≤ room) (hrm : (ps.length : Int) ≤ 1024) (hnow : now ≤ 1099511627776) (hri : Rise ps) :
    Calls Try.prog 11 #[.pointer (some ⟨g, 0, none⟩), .int .u64 now] w (CameR w B g d room now ps) := by
  obtain ⟨A, c, hL, ho, hg⟩ := h
  refine (come_any g d room now A c ps w hL hr hrm hnow hri).mono fun e w' ⟨k, Ao, co, A', c', hk, he, hO, hF, hL', hC, hb⟩ => ⟨k, Ao, co, hk, he, hO, hF, ⟨A', c', hL', ?_, hg⟩, ?_⟩
  · rw [List.length_drop, hb]; exact ho
  · refine Did.of_chg hC (fun k hk => ?_) hB
    rcases List.mem_cons.1 hk with rfl | hk
    · exact ⟨hg, 49, _, hL.blk, by simp⟩
    · obtain ⟨cs, hb⟩ := hL.own.blk k hk
      exact ⟨ho k (by simpa using hk), 52, cs, hb, by simp⟩

theorem refComeS_late {w : World} {B g : Nat} {now : Int} (hnow : 1099511627776 < now) :
    Calls Try.prog 12 #[.pointer (some ⟨g, 0, none⟩), .int .u64 now] w (Ret (.tuple #[.slice none 0 0, .int .i64 2]) (Did B [] w)) :=
  (refCome_late g now w hnow).mono fun _e _w' ⟨h1, h2⟩ => ⟨h1, h2 ▸ Did.refl _ _ _⟩
def RefCameR (w : World) (B g : Nat) (d room : Int) (r : List Int × List (Int × Int)) (e : Ending) (w' : World) : Prop :=
  ∃ A c, e = .returned (.tuple #[.slice A r.1.length c, .int .i64 0]) ∧ Own w' 3 1 (.slice A r.1.length c) r.1.length (ints r.1) ∧ Fresh w (.slice A r.1.length c) ∧ RefS w' B g d room r.2 ∧ Did B [33, 55] w w'
theorem refComeS {w : World} {B g : Nat} {d room now : Int} {ps : List (Int × Int)} (h : RefS w B g d room ps) (hB : B ≤ w.heap.size) (hlen : ps.length ≤ 1000000) (hnow : now ≤ 1099511627776) :
    Calls Try.prog 12 #[.pointer (some ⟨g, 0, none⟩), .int .u64 now] w (RefCameR w B g d room (comeR ps.length now ps)) := by
  obtain ⟨A, c, hL, ho, hg⟩ := h
  refine (refCome_any g d room now A c ps w hL hlen hnow).mono fun e w' ⟨Ao, co, A', c', he, hO, hF, hL', hC, hb⟩ => ⟨Ao, co, he, hO, hF, ⟨A', c', hL', ?_, hg⟩, ?_⟩
  · intro j hj
    rcases hb j hj with h2 | h2
    · exact ho j h2
    · omega
  · refine Did.of_chg hC (fun k hk => ?_) hB
    rw [List.mem_singleton] at hk
    subst hk
    exact ⟨hg, 33, _, hL.blk, by simp⟩

/-- The tick at the head, 0 where there is none. -/
def headTick (ps : List (Int × Int)) : Int := (ps.head?.map (·.1)).getD 0
theorem nextS {w : World} {B g : Nat} {d room : Int} {ps : List (Int × Int)} (h : LinkS w B g d room ps) (hr : 1 ≤ room) :
    Calls Try.prog 14 #[.pointer (some ⟨g, 0, none⟩)] w fun e w' => e = .returned (.tuple #[.int .u64 (headTick ps), .bool (decide (0 < ps.length))]) ∧ w = w' := by
  obtain ⟨A, c, hL, _, _⟩ := h
  cases ps with
  | nil => exact next_empty g d room A c w hL hr
  | cons p r => exact next_cons g d room A c p r w hL hr
theorem refNextS {w : World} {B g : Nat} {d room : Int} {ps qs : List (Int × Int)} (h : RefS w B g d room qs) (hr : Rel ps qs) (hlen : ps.length ≤ 1000000) :
    Calls Try.prog 15 #[.pointer (some ⟨g, 0, none⟩)] w (Ret (.tuple #[.int .u64 (headTick ps), .bool (decide (0 < ps.length))]) (Did B [] w)) := by
  obtain ⟨A, c, hL, _, _⟩ := h
  refine (refNext_any g d room A c qs w hL (by rw [← hr.len]; exact hlen)).mono fun e w' ⟨h1, h2⟩ => ⟨?_, Did.drawn h2⟩
  rw [h1, ← hr.len]
  cases ps with
  | nil =>
    have : qs = [] := List.eq_nil_of_length_eq_zero hr.len.symm
    subst this
    rfl
  | cons p r => rw [rel_least hr]; rfl
theorem lenS {w : World} {B g : Nat} {d room : Int} {ps : List (Int × Int)} (h : LinkS w B g d room ps) (hr : 1 ≤ room) :
    Calls Try.prog 16 #[.pointer (some ⟨g, 0, none⟩)] w fun e w' => e = .returned (.int .i64 ps.length) ∧ w = w' := by
  obtain ⟨A, c, hL, _, _⟩ := h
  exact len_link g d room A c ps w hL hr
theorem newS {d room : Int} {w : World} (h1 : d ≤ 1024) (h2 : 1 ≤ room) (h3 : room ≤ 1024) :
    Calls Try.prog 6 #[.int .u64 d, .int .i64 room] w (Ret (.tuple #[.pointer (some ⟨w.heap.size, 0, none⟩), .int .i64 0]) fun w' => LinkS w' w.heap.size w.heap.size d room [] ∧ Did w.heap.size [] w w' ∧ w'.heap.size = w.heap.size + 1) := by
  refine (new_ok d room w h1 h2 h3).mono fun e w' ⟨he, hw⟩ => ⟨he, ?_⟩
  subst hw
  refine ⟨⟨none, 0, ⟨?_, ?_⟩, fun j hj => by simp [Value.ownBlock] at hj, Nat.le_refl _⟩, (Did.refl _ _ _).alloc (Nat.le_refl _) _, by simp⟩
  · exact Blk.new w 49 #[.int .u64 d, .int .i64 room, .slice none 0 0]
  · simpa [sc] using Own.nil _ 52 2
end Go.Proofs.Ytendgfbkbeapoaa
