import Derived.Test.YtnncigmpcdehnaaGreatDoorQf09
import Derived.Test.YtnncigmpcdehnaaGreatDoorQf11
import Derived.Lib.OthersKept
import Derived.Laws.RangeAny
import Derived.Deep.CutRange
namespace Go.Proofs.YtnncigmpcdehnaaGreatDoor
open Go.RowKit Go.Lib Go.Sort
def wu(i:Nat)(c:UInt8):Bool:=(decide (97≤c.toNat)&&decide (c.toNat≤122))||(decide (0 < i)&&(decide (48≤c.toNat)&&decide (c.toNat≤57)||decide (c.toNat=45)||decide (c.toNat=95)))
def aB(l:List UInt8):Bool:=decide (1≤l.length)&&decide (l.length≤16)&&(List.range l.length).all fun i=>wu i (l[i]?.getD 0)
theorem dP{l:List UInt8}{i:Nat}{c:UInt8}(h:l[i]?=some c)(hc:wu i c=false):aB l=false:=by
 have hlt:i < l.length:=(List.getElem?_eq_some_iff.1 h).1
 unfold aB
 rw[Bool.and_eq_false_iff]
 right
 rw[List.all_eq_false]
 exact⟨i,List.mem_range.2 hlt,by rw[h];simpa using hc⟩
theorem xl{l:List UInt8}(h1:1≤l.length)(h2:l.length≤16)(h:∀i c,l[i]?=some c→wu i c=true):aB l=true:=by
 unfold aB
 rw[decide_eq_true h1,decide_eq_true h2,Bool.true_and,Bool.true_and,List.all_eq_true]
 intro i hi
 have hlt:=List.mem_range.1 hi
 rw[List.getElem?_eq_getElem hlt]
 exact h i _ (List.getElem?_eq_getElem hlt)
theorem EI{i:Nat}{c:UInt8}{x:Int}(hx:x=(c.toNat:Int))(h1:97≤x)(h2:x≤122):wu i c=true:=by
 unfold wu
 rw[decide_eq_true (show 97≤c.toNat by omega),decide_eq_true (show c.toNat≤122 by omega)]
 rfl
theorem oq{i:Nat}{c:UInt8}{x:Int}(hx:x=(c.toNat:Int))(hi:0 < i)(h:(48≤x∧x≤57)∨x=45∨x=95):wu i c=true:=by
 unfold wu
 rw[decide_eq_true hi]
 rcases h with⟨h1,h2⟩ | h|h
 ·rw[decide_eq_true (show 48≤c.toNat by omega),decide_eq_true (show c.toNat≤57 by omega)];simp
 ·rw[decide_eq_true (show c.toNat=45 by omega)];simp
 ·rw[decide_eq_true (show c.toNat=95 by omega)];simp
theorem jO{i:Nat}{c:UInt8}{x:Int}(hx:x=(c.toNat:Int))(h1:¬(97≤x∧x≤122))(h2:¬(0 < i∧((48≤x∧x≤57)∨x=45∨x=95))):wu i c=false:=by
 unfold wu
 apply Bool.eq_false_iff.2
 intro h
 simp only[Bool.or_eq_true,Bool.and_eq_true,decide_eq_true_eq]at h
 omega
theorem My(s:ByteArray)(pos:Nat)(h:pos < s.size):((s[pos]'h).toNat < 128∧Utf8.decode s pos=((s[pos]'h).toNat,1))∨(128≤(s[pos]'h).toNat∧128≤(Utf8.decode s pos).1):=by
 by_cases ha:(s[pos]'h).toNat < 128
 ·exact .inl ⟨ha,decode_ascii s pos h ha⟩
 ·exact .inr ⟨by omega,(decode_high s pos h (by omega)).1⟩
set_option maxRecDepth 100000
open Go.RowKit Go.Lib Go.Sort _root_.Go.Proofs.Tryz
def Cm(code at_:Int)(w:World)(chain:List PanicEntry)(w':World):Prop:=
 ∃N,chain=[{ v:=.iface 103 ((pt N 0)),recovered:=false }]∧w.heap.size≤N∧au w' N 105 [.int .i64 code,.int .i64 at_]
set_option maxHeartbeats 4000000 in
theorem pw(lp:Value)(code at_:Int)(w:World):Calls prog 94 #[lp,.int .i64 code,.int .i64 at_] w fun e w'=>∃chain,e=.panicked chain∧Cm code at_ w chain w'∧ai [] w w':=by
 go_enter func94,ntmps94
 go_wp2
 refine⟨rfl,_,rfl,⟨w.heap.size,rfl,Nat.le_refl _,?_⟩,(ai.refl [] w).alloc _⟩
 exact au.new w 105 #[.int .i64 code,.int .i64 at_]
open Go Go.RowKit Go.Lib Go.Sort
section
variable{P:Program}{ops:Array Oper}{Q:Exit→Act→World→Prop}{a:Act}{w:World}{rest:List Oper}{o:Oper}{C:World→Prop}
theorem pT(cs:List Value)(b off:Nat)(ty:TypeId)(x:Operand)(d:TypeDesc)(hw:Region.wanted o (yielded ops a.tmps)=true)(ho:o.op=.load ty x)(hx:a.eval x=.pointer (some ⟨b,off,none⟩))(hc:w.rangeAt b off cs)
  (hu:P.underlying ty=some d) (hd:d.isRow=true) (hi:(P.info? ty).map (·.size)=some cs.length) (h:wpList P ops Q rest (a.put o.dst (.agg cs.toArray)) w):wpList P ops Q (o::rest) a w:=by
 unfold wpList
 rw[if_pos hw]
 exact .inl (wp_load_mid ty x ho b off hx cs d hc hu hd hi h)
end
set_option maxRecDepth 100000
open Go.RowKit Go.Lib Go.Sort _root_.Go.Proofs.Tryz
set_option maxRecDepth 100000
set_option maxHeartbeats 1000000 in
theorem pN(v:Bool)(n:Nat)(w:World) :
  Calls prog 51 #[.agg (cH v n).toArray] w fun e w'=>e=.returned (.int .i64 (wid v:Nat))∧ai [] w w':=by
 have b0:=au.new w 24 (cH v n).toArray
 have c0:=b0.cell_of (i:=0) (v:=.bool v) rfl
 have fin:=hid ((ai.refl [] w).alloc (.cells (cH v n).toArray 24))
 cases v
 ·go_enter func51,ntmps51
  go_wp2
  go_ret
  exact⟨rfl,fin.out⟩
 ·go_enter func51,ntmps51
  go_wp2
  go_ret
  exact⟨rfl,fin.out⟩
theorem Ol(n i:Nat)(hi:i < 128):((((ah n (i / 8):Nat):Int) / 2^(7 - i%8)).tmod 2==1)=lC n i:=by
 rw[←BR n i hi]
 have e:(((ah n (i / 8):Nat):Int) / 2^(7 - i%8))=((ah n (i / 8) / 2^(7 - i%8):Nat):Int):=by
  rw[Int.natCast_ediv,Int.natCast_pow];rfl
 rw[e]
 generalize ah n (i / 8) / 2^(7 - i%8)=q
 rw[Int.tmod_eq_emod_of_nonneg (by omega),Bool.eq_iff_iff,beq_iff_eq,decide_eq_true_eq]
 omega
theorem Sr(v:Bool)(n i:Nat)(hi:i < 128)(w:World) :
  Calls prog 120 #[.agg (cH v n).toArray,.int .i64 i] w fun e w'=>e=.returned (.bool (lC n i))∧ai [] w w':=by
 have b0:=au.new w 24 (cH v n).toArray
 have c0:=b0.cell_of (cB v (ah n) (i / 8) (by omega))
 have fin:=hid ((ai.refl [] w).alloc (.cells (cH v n).toArray 24))
 have hb:=hid (Ol n i hi)
 have i0:(0:Int)≤(i:Int):=by omega
 have i1:(i:Int) < 128:=by omega
 have i2:(0:Int)≤(i:Int) / 8:=by omega
 have i3:(i:Int) / 8 < 16:=by omega
 go_enter func120,ntmps120
 go_wp2
 go_ret
 exact⟨by rw[←hb.out];rfl,fin.out⟩
set_option maxHeartbeats 1000000 in
theorem gR(v:Bool)(n:Nat)(hn:n < 2^128)(w:World) :
  Calls prog 101 #[.agg (cH v n).toArray] w fun e w'=>e=.returned (.int .i64 (eY v n))∧ai [] w w':=by
 have HB:=hid (au.new w 24 (cH v n).toArray)
 have HC:=hid ((ai.refl [] w).alloc (.cells (cH v n).toArray 24))
 have HW:=hid (pN v n)
 have hq:(wid v:Int) / 8=((wid v / 8:Nat):Int):=by omega
 have hq16:wid v / 8≤16:=by have:=fA v; omega
 have HOK:=hid (Gn v n hn)
 obtain⟨q,hqq⟩:∃q,q=wid v / 8:=⟨_,rfl⟩
 rw[←hqq]at hq hq16 HOK
 clear hqq
 go_enter func101,ntmps101
 go_upto_region 2 with(first
  | (go_at_call 51;refine(HW.out _).mono ?_;rintro e w2 ⟨rfl,C2⟩)
  | (refine iY rfl _ rfl w.heap.size rfl 24 v n HB.out ?_))
 have B2:=hid (HB.out.aG C2 (by simp))
 have D2:=hid (HC.out.trans C2)
 clear HB HC C2 HW
 go_loop [3] (fun iv=>∃i:Nat,q≤i∧i≤16∧iv=.int .i64 i∧∀j,q≤j→j < i→ah n j=0) (fun iv=>16 - (RowKit.intOf iv).toNat)
 case atStart=>exact⟨q,Nat.le_refl _,hq16,rfl,fun j h1 h2=>by omega⟩
 case round=>
  obtain⟨i,hqi,hi,rfl,hz⟩:=hrel
  have HZ:=hid hz
  clear hz
  by_cases hlt:(i:Int) < 16
  ·have i0:(0:Int)≤(i:Int):=by omega
   have c1:=B2.out.cell_of (cB v (ah n) i (by omega))
   by_cases hx:ah n i=0
   ·rw[hx]at c1
    go_wp2
    go_round
    case measure=>simp[RowKit.intOf];omega
    case rel=>
     refine⟨i+1,by omega,by omega,by go_num,fun j h1 h2=>?_⟩
     by_cases hj:j=i
     ·rw[hj];exact hx
     ·exact HZ.out j h1 (by omega)
   ·have hne:(((ah n i:Nat):Int) !=0)=true:=by rw[bne_iff_ne];omega
    have fin:eY v n=150:=by
     unfold eY
     rw[if_neg (fun h=>hx (HOK.out.1 h i hqi (by omega)))]
    have FIN:=hid fin
    clear fin
    go_wp2
    go_ret
    exact⟨by rw[FIN.out];rfl,D2.out⟩
  ·have hi16:i=16:=by omega
   subst hi16
   have fin:eY v n=0:=by
    unfold eY
    rw[if_pos (HOK.out.2 fun j h1 h2=>HZ.out j h1 h2)]
   have FIN:=hid fin
   clear fin
   go_wp2
   go_ret
   exact⟨by rw[FIN.out];rfl,D2.out⟩
open Go.RowKit Go.Lib Go.Sort
attribute [local go_sem] Bn vF
theorem au.IG{w:World}{g:Nat}{t:TypeId}{v:Bool}{n:Nat}{k:Int}(hb:au w g t (dm v n k)):w.rangeAt g 0 (cH v n):=fun j x hx=>by rw[Nat.zero_add];exact hb.cell_of (tf v n k j x hx)
set_option maxHeartbeats 2000000 in
theorem CM(v:Bool)(n:Nat)(k:Int)(hn:n < 2^128)(hbad:jk v n=false∨k < 0∨(wid v:Int) < k)(w:World) :
  Calls prog 59 #[.agg (dm v n k).toArray] w fun e w'=>e=.returned (.int .i64 151)∧ai [] w w':=by
 have HB:=hid (au.new w 29 (dm v n k).toArray)
 have HC:=hid ((ai.refl [] w).alloc (.cells (dm v n k).toArray 29))
 have HW:=hid (nI (pN v n))
 have HK:=nI (gR v n hn)
 cases hA:jk v n with
 |false=>
  have he:eY v n=150:=by unfold eY;rw[hA];rfl
  rw[he]at HK
  have HK:=hid HK
  clear he hA hbad
  go_enter func59,ntmps59
  go_upto_region 1 with fail
  obtain⟨w1,hw1⟩:∃w1,w1=w.alloc (.cells (dm v n k).toArray 29):=⟨_,rfl⟩
  rw[←hw1]
  have B1:au w1 w.heap.size 29 (dm v n k):=by rw[hw1];exact HB.out
  have C1:ai [] w w1:=by rw[hw1];exact HC.out
  clear hw1 HB HC
  have ck:=cell_regrown (B1.cell_of (gU v n k))
  have R:=B1.Gg
  refine wp_region_quiet_below (by kernel_rfl) (by kernel_rfl) ?_
  repeat (first | (go_big_quiet_want;refine gD 24 _ rfl w.heap.size 0 rfl (cH v n) _ R.cH underlying24 rfl (fh.trans (by rw[bS])) ?_;go_big_quiet_on)|go_big_quiet_step ((first | (go_at_call 51;with_reducible exact HW.out _ _ _) | (go_at_call 101;with_reducible exact HK.out _ _ _)))|quiet_step ((first | (go_at_call 51;with_reducible exact HW.out _ _ _) | (go_at_call 101;with_reducible exact HK.out _ _ _))))
  refine wpQuiet_nil ?_
  intro w3 hw3
  have C3:=fw hw3
  clear hw3 ck R
  have HF:=hid (C1.trans C3)
  go_wp2
  go_ret
  exact⟨rfl,HF.out⟩
 |true=>
  have he:eY v n=0:=by unfold eY;rw[hA];rfl
  rw[he]at HK
  rw[hA]at hbad
  have HK:=hid HK
  clear he hA
  have hbad2:k < 0∨(wid v:Int) < k:=by simpa using hbad
  clear hbad
  by_cases h1:k < 0
  ·have d1:decide (k < 0)=true:=decide_eq_true h1
   clear hbad2
   go_enter func59,ntmps59
   go_upto_region 1 with fail
   obtain⟨w1,hw1⟩:∃w1,w1=w.alloc (.cells (dm v n k).toArray 29):=⟨_,rfl⟩
   rw[←hw1]
   have B1:au w1 w.heap.size 29 (dm v n k):=by rw[hw1];exact HB.out
   have C1:ai [] w w1:=by rw[hw1];exact HC.out
   clear hw1 HB HC
   have ck:=cell_regrown (B1.cell_of (gU v n k))
   have R:=B1.Gg
   refine wp_region_quiet_below (by kernel_rfl) (by kernel_rfl) ?_
   repeat (first | (go_big_quiet_want;refine gD 24 _ rfl w.heap.size 0 rfl (cH v n) _ R.cH underlying24 rfl (fh.trans (by rw[bS])) ?_;go_big_quiet_on)|go_big_quiet_step ((first | (go_at_call 51;with_reducible exact HW.out _ _ _) | (go_at_call 101;with_reducible exact HK.out _ _ _)))|quiet_step ((first | (go_at_call 51;with_reducible exact HW.out _ _ _) | (go_at_call 101;with_reducible exact HK.out _ _ _))))
   refine wpQuiet_nil ?_
   intro w3 hw3
   have C3:=fw hw3
   clear hw3 ck R
   have HF:=hid (C1.trans C3)
   go_wp2
   go_ret
   exact⟨rfl,HF.out⟩
  ·obtain⟨K,rfl⟩:∃K:Nat,k=(K:Int):=⟨k.toNat,by omega⟩
   have d1:decide ((K:Int) < 0)=false:=decide_eq_false (by omega)
   have d2:decide (wid v < K)=true:=decide_eq_true (by omega)
   clear hbad2 h1
   go_enter func59,ntmps59
   go_upto_region 1 with fail
   obtain⟨w1,hw1⟩:∃w1,w1=w.alloc (.cells (dm v n K).toArray 29):=⟨_,rfl⟩
   rw[←hw1]
   have B1:au w1 w.heap.size 29 (dm v n K):=by rw[hw1];exact HB.out
   have C1:ai [] w w1:=by rw[hw1];exact HC.out
   clear hw1 HB HC
   have ck:=cell_regrown (B1.cell_of (gU v n K))
   have R:=B1.Gg
   refine wp_region_quiet_below (by kernel_rfl) (by kernel_rfl) ?_
   repeat (first | (go_big_quiet_want;refine gD 24 _ rfl w.heap.size 0 rfl (cH v n) _ R.cH underlying24 rfl (fh.trans (by rw[bS])) ?_;go_big_quiet_on)|go_big_quiet_step ((first | (go_at_call 51;with_reducible exact HW.out _ _ _) | (go_at_call 101;with_reducible exact HK.out _ _ _)))|quiet_step ((first | (go_at_call 51;with_reducible exact HW.out _ _ _) | (go_at_call 101;with_reducible exact HK.out _ _ _))))
   refine wpQuiet_nil ?_
   intro w3 hw3
   have C3:=fw hw3
   clear hw3 ck R
   have HF:=hid (C1.trans C3)
   go_wp2
   go_ret
   exact⟨rfl,HF.out⟩
set_option maxHeartbeats 2000000 in
theorem Ae(v:Bool)(n K:Nat)(hn:n < 2^128)(hA:jk v n=true)(hK:K≤wid v)(w:World) :
  Calls prog 59 #[.agg (dm v n K).toArray] w fun e w'=>e=.returned (.int .i64 (dC v n K))∧ai [] w w':=by
 have HB:=hid (au.new w 29 (dm v n K).toArray)
 have HC:=hid ((ai.refl [] w).alloc (.cells (dm v n K).toArray 29))
 have HW:=hid (nI (pN v n))
 have HK:=nI (gR v n hn)
 have he:eY v n=0:=by unfold eY;rw[hA];rfl
 rw[he]at HK
 have HK:=hid HK
 have HOK:=hid (Gk v n K hA hK)
 have HBT:=hid (Sr v n)
 have HWW:=hid (pN v n)
 have hw128:=fA v
 clear he hA
 have d1:decide ((K:Int) < 0)=false:=decide_eq_false (by omega)
 have d2:decide (wid v < K)=false:=decide_eq_false (by omega)
 go_enter func59,ntmps59
 go_upto_region 1 with fail
 obtain⟨w1,hw1⟩:∃w1,w1=w.alloc (.cells (dm v n K).toArray 29):=⟨_,rfl⟩
 rw[←hw1]
 have B1:au w1 w.heap.size 29 (dm v n K):=by rw[hw1];exact HB.out
 have C1:ai [] w w1:=by rw[hw1];exact HC.out
 clear hw1 HB HC
 have ck:=cell_regrown (B1.cell_of (gU v n K))
 have R:=B1.Gg
 refine wp_region_quiet_below (by kernel_rfl) (by kernel_rfl) ?_
 repeat (first | (go_big_quiet_want;refine gD 24 _ rfl w.heap.size 0 rfl (cH v n) _ R.cH underlying24 rfl (fh.trans (by rw[bS])) ?_;go_big_quiet_on)|go_big_quiet_step ((first | (go_at_call 51;with_reducible exact HW.out _ _ _) | (go_at_call 101;with_reducible exact HK.out _ _ _)))|quiet_step ((first | (go_at_call 51;with_reducible exact HW.out _ _ _) | (go_at_call 101;with_reducible exact HK.out _ _ _))))
 refine wpQuiet_nil ?_
 intro w3 hw3
 have C3:=fw hw3
 clear hw3 ck R
 have B3:=hid (B1.aG C3 (by simp))
 have HF:=hid (C1.trans C3)
 clear B1 C1 C3
 have ck:=B3.out.cell_of (gU v n K)
 go_upto_region 4 with fail
 go_loopw [3] (fun iv wr=>∃i:Nat,K≤i∧i≤wid v∧iv=.int .i64 i∧au wr w.heap.size 29 (dm v n K)∧ai [] w wr∧∀j,K≤j→j < i→lC n j=false) (fun iv _=>128 - (RowKit.intOf iv).toNat)
 case atStart=>exact⟨K,Nat.le_refl _,hK,rfl,B3.out,HF.out,fun j h1 h2=>by omega⟩
 case round=>
  obtain⟨i,hKi,hi,rfl,hB,hC,hz⟩:=hrel
  have HZ:=hid hz
  have HB:=hid hB
  have HC:=hid hC
  clear hz hB hC HF B3 ck d1 d2
  by_cases hlt:i < wid v
  ·have i0:(0:Int)≤(i:Int):=by omega
   have i1:(i:Int) < 128:=by omega
   have hltz:(i:Int) < (wid v:Int):=by omega
   cases hb:lC n i with
   |false=>
    have HBi:=HBT.out i (by omega)
    rw[hb]at HBi
    have HBj:=hid HBi
    have HBB:=hid hb
    clear HBi hb
    go_wp2_with (first
     | (go_at_call 51;refine(HWW.out _).mono ?_;rintro e c1 ⟨rfl,D1⟩)
     | (go_at_call 120;refine(HBj.out _).mono ?_;rintro e c2 ⟨rfl,D2⟩)
     | (refine pT (cH v n) w.heap.size 0 24 _ _ (by rfl) rfl rfl (HB.out.aG D1 (by simp)).IG underlying24 rfl (fh.trans (by rw[bS])) ?_)
     | (refine pT (cH v n) w.heap.size 0 24 _ _ (by rfl) rfl rfl HB.out.IG underlying24 rfl (fh.trans (by rw[bS])) ?_))
    go_roundw
    case measure=>simp[RowKit.intOf];omega
    case rel=>
     refine⟨i+1,by omega,by omega,by go_num,(HB.out.aG D1 (by simp)).aG D2 (by simp),(HC.out.trans D1).trans D2,fun j h1 h2=>?_⟩
     by_cases hj:j=i
     ·rw[hj];exact HBB.out
     ·exact HZ.out j h1 (by omega)
   |true=>
    have HBi:=HBT.out i (by omega)
    rw[hb]at HBi
    have HBj:=hid HBi
    have fin:dC v n K=151:=by
     unfold dC
     rw[if_neg (fun h=>by have:=HOK.out.1 h i hKi hlt;rw[hb]at this;cases this)]
    have FIN:=hid fin
    clear HBi hb fin
    go_wp2_with (first
     | (go_at_call 51;refine(HWW.out _).mono ?_;rintro e c1 ⟨rfl,D1⟩)
     | (go_at_call 120;refine(HBj.out _).mono ?_;rintro e c2 ⟨rfl,D2⟩)
     | (refine pT (cH v n) w.heap.size 0 24 _ _ (by rfl) rfl rfl (HB.out.aG D1 (by simp)).IG underlying24 rfl (fh.trans (by rw[bS])) ?_)
     | (refine pT (cH v n) w.heap.size 0 24 _ _ (by rfl) rfl rfl HB.out.IG underlying24 rfl (fh.trans (by rw[bS])) ?_))
    go_ret
    exact⟨by rw[FIN.out];rfl,(HC.out.trans D1).trans D2⟩
  ·have hi16:i=wid v:=by omega
   subst hi16
   have fin:dC v n K=0:=by
    unfold dC
    rw[if_pos (HOK.out.2 fun j h1 h2=>HZ.out j h1 h2)]
   have FIN:=hid fin
   clear fin
   go_wp2_with (first
    | (go_at_call 51;refine(HWW.out _).mono ?_;rintro e c1 ⟨rfl,D1⟩)
    | (refine pT (cH v n) w.heap.size 0 24 _ _ (by rfl) rfl rfl HB.out.IG underlying24 rfl (fh.trans (by rw[bS])) ?_))
   go_ret
   exact⟨by rw[FIN.out];rfl,HC.out.trans D1⟩
theorem Af(v:Bool)(n:Nat)(k:Int)(hn:n < 2^128)(w:World) :
  Calls prog 59 #[.agg (dm v n k).toArray] w (Rn w (.int .i64 (dC v n k))):=by
 by_cases h:jk v n=true∧0≤k∧k≤(wid v:Int)
 ·obtain⟨K,rfl⟩:∃K:Nat,k=(K:Int):=⟨k.toNat,by omega⟩
  exact Ae v n K hn h.1 (by omega) w
 ·have e:dC v n k=151:=by
   unfold dC
   rw[if_neg]
   intro hp
   unfold gh at hp
   simp only[Bool.and_eq_true,decide_eq_true_eq]at hp
   refine h ⟨?_,hp.1⟩
   unfold jk
   rw[decide_eq_true_eq]
   conv=>lhs;rw[←hp.2,uP,Nat.min_eq_left (by omega)]
   exact hp.2
  rw[e]
  refine CM v n k hn ?_ w
  cases hA:jk v n
  ·exact .inl rfl
  ·refine .inr ?_
   have h2:¬(0≤k∧k≤(wid v:Int)):=fun h2=>h ⟨hA,h2⟩
   omega
open Go.RowKit Go.Lib Go.Sort
open Go.RowKit Go.Lib Go.Sort
open Go.RowKit Go.Lib Go.Sort
open Go.RowKit Go.Lib Go.Sort
end Go.Proofs.YtnncigmpcdehnaaGreatDoor
