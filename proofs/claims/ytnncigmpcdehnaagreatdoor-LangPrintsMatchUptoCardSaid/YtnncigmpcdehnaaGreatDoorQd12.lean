import Derived.Test.YtnncigmpcdehnaaGreatDoorQd09
import Derived.Test.YtnncigmpcdehnaaGreatDoorQd11
import Derived.Lib.OthersKept
import Derived.Laws.RangeAny
import Derived.Deep.CutRange
namespace Go.Proofs.YtnncigmpcdehnaaGreatDoor
open Go.RowKit Go.Lib Go.Sort
def Cv(i:Nat)(c:UInt8):Bool:=(decide (97≤c.toNat)&&decide (c.toNat≤122))||(decide (0 < i)&&(decide (48≤c.toNat)&&decide (c.toNat≤57)||decide (c.toNat=45)||decide (c.toNat=95)))
def aE(l:List UInt8):Bool:=decide (1≤l.length)&&decide (l.length≤16)&&(List.range l.length).all fun i=>Cv i (l[i]?.getD 0)
theorem j8{l:List UInt8}{i:Nat}{c:UInt8}(h:l[i]?=some c)(hc:Cv i c=false):aE l=false:=by
 have hlt:i < l.length:=(List.getElem?_eq_some_iff.1 h).1
 unfold aE
 rw[Bool.and_eq_false_iff]
 right
 rw[List.all_eq_false]
 exact⟨i,List.mem_range.2 hlt,by rw[h];simpa using hc⟩
theorem DV{l:List UInt8}(h1:1≤l.length)(h2:l.length≤16)(h:∀i c,l[i]?=some c→Cv i c=true):aE l=true:=by
 unfold aE
 rw[decide_eq_true h1,decide_eq_true h2,Bool.true_and,Bool.true_and,List.all_eq_true]
 intro i hi
 have hlt:=List.mem_range.1 hi
 rw[List.getElem?_eq_getElem hlt]
 exact h i _ (List.getElem?_eq_getElem hlt)
theorem J4{i:Nat}{c:UInt8}{x:Int}(hx:x=(c.toNat:Int))(h1:97≤x)(h2:x≤122):Cv i c=true:=by
 unfold Cv
 rw[decide_eq_true (show 97≤c.toNat by omega),decide_eq_true (show c.toNat≤122 by omega)]
 rfl
theorem vX{i:Nat}{c:UInt8}{x:Int}(hx:x=(c.toNat:Int))(hi:0 < i)(h:(48≤x∧x≤57)∨x=45∨x=95):Cv i c=true:=by
 unfold Cv
 rw[decide_eq_true hi]
 rcases h with⟨h1,h2⟩ | h|h
 ·rw[decide_eq_true (show 48≤c.toNat by omega),decide_eq_true (show c.toNat≤57 by omega)];simp
 ·rw[decide_eq_true (show c.toNat=45 by omega)];simp
 ·rw[decide_eq_true (show c.toNat=95 by omega)];simp
theorem uN{i:Nat}{c:UInt8}{x:Int}(hx:x=(c.toNat:Int))(h1:¬(97≤x∧x≤122))(h2:¬(0 < i∧((48≤x∧x≤57)∨x=45∨x=95))):Cv i c=false:=by
 unfold Cv
 apply Bool.eq_false_iff.2
 intro h
 simp only[Bool.or_eq_true,Bool.and_eq_true,decide_eq_true_eq]at h
 omega
theorem Jv(s:ByteArray)(pos:Nat)(h:pos < s.size):((s[pos]'h).toNat < 128∧Utf8.decode s pos=((s[pos]'h).toNat,1))∨(128≤(s[pos]'h).toNat∧128≤(Utf8.decode s pos).1):=by
 by_cases ha:(s[pos]'h).toNat < 128
 ·exact .inl ⟨ha,decode_ascii s pos h ha⟩
 ·exact .inr ⟨by omega,(decode_high s pos h (by omega)).1⟩
set_option maxRecDepth 100000
open Go.RowKit Go.Lib Go.Sort
def Ag(code at_:Int)(w:World)(chain:List PanicEntry)(w':World):Prop:=
 ∃N,chain=[{ v:=.iface 103 (.pointer (some ⟨N,0,none⟩)),recovered:=false }]∧w.heap.size≤N∧aq w' N 105 [.int .i64 code,.int .i64 at_]
set_option maxHeartbeats 4000000 in
theorem ow(lp:Value)(code at_:Int)(w:World):Calls Tryz.prog 94 #[lp,.int .i64 code,.int .i64 at_] w fun e w'=>∃chain,e=.panicked chain∧Ag code at_ w chain w'∧ag [] w w':=by
 go_enter Tryz.func94,Tryz.ntmps94
 go_wp2
 refine⟨rfl,_,rfl,⟨w.heap.size,rfl,Nat.le_refl _,?_⟩,(ag.refl [] w).alloc _⟩
 exact aq.new w 105 #[.int .i64 code,.int .i64 at_]
open Go Go.RowKit Go.Lib Go.Sort
section
variable{P:Program}{ops:Array Oper}{Q:Exit→Act→World→Prop}{a:Act}{w:World}{rest:List Oper}{o:Oper}{C:World→Prop}
theorem oN(cs:List Value)(b off:Nat)(ty:TypeId)(x:Operand)(d:TypeDesc)(hw:Region.wanted o (yielded ops a.tmps)=true)(ho:o.op=.load ty x)(hx:a.eval x=.pointer (some ⟨b,off,none⟩))(hc:w.rangeAt b off cs)
  (hu:P.underlying ty=some d) (hd:d.isRow=true) (hi:(P.info? ty).map (·.size)=some cs.length) (h:wpList P ops Q rest (a.put o.dst (.agg cs.toArray)) w):wpList P ops Q (o::rest) a w:=by
 unfold wpList
 rw[if_pos hw]
 exact .inl (wp_load_mid ty x ho b off hx cs d hc hu hd hi h)
end
set_option maxRecDepth 100000
open Go.RowKit Go.Lib Go.Sort
set_option maxHeartbeats 1000000 in
theorem oI(v:Bool)(n:Nat)(w:World) :
  Calls Tryz.prog 51 #[.agg (cx v n).toArray] w fun e w'=>e=.returned (.int .i64 (wid v:Nat))∧ag [] w w':=by
 have b0:=aq.new w 24 (cx v n).toArray
 have c0:=b0.cell_of (i:=0) (v:=.bool v) rfl
 have fin:=hid ((ag.refl [] w).alloc (.cells (cx v n).toArray 24))
 cases v
 ·go_enter Tryz.func51,Tryz.ntmps51
  go_wp2
  go_ret
  exact⟨rfl,fin.out⟩
 ·go_enter Tryz.func51,Tryz.ntmps51
  go_wp2
  go_ret
  exact⟨rfl,fin.out⟩
theorem K4(n i:Nat)(hi:i < 128):((((ah n (i / 8):Nat):Int) / 2^(7 - i%8)).tmod 2==1)=kq n i:=by
 rw[←zI n i hi]
 have e:(((ah n (i / 8):Nat):Int) / 2^(7 - i%8))=((ah n (i / 8) / 2^(7 - i%8):Nat):Int):=by
  rw[Int.natCast_ediv,Int.natCast_pow];rfl
 rw[e]
 generalize ah n (i / 8) / 2^(7 - i%8)=q
 rw[Int.tmod_eq_emod_of_nonneg (by omega),Bool.eq_iff_iff,beq_iff_eq,decide_eq_true_eq]
 omega
theorem OJ(v:Bool)(n i:Nat)(hi:i < 128)(w:World) :
  Calls Tryz.prog 120 #[.agg (cx v n).toArray,.int .i64 i] w fun e w'=>e=.returned (.bool (kq n i))∧ag [] w w':=by
 have b0:=aq.new w 24 (cx v n).toArray
 have c0:=b0.cell_of (cn v (ah n) (i / 8) (by omega))
 have fin:=hid ((ag.refl [] w).alloc (.cells (cx v n).toArray 24))
 have hb:=hid (K4 n i hi)
 have i0:(0:Int)≤(i:Int):=by omega
 have i1:(i:Int) < 128:=by omega
 have i2:(0:Int)≤(i:Int) / 8:=by omega
 have i3:(i:Int) / 8 < 16:=by omega
 go_enter Tryz.func120,Tryz.ntmps120
 go_wp2
 go_ret
 exact⟨by rw[←hb.out];rfl,fin.out⟩
set_option maxHeartbeats 1000000 in
theorem gf(v:Bool)(n:Nat)(hn:n < 2^128)(w:World) :
  Calls Tryz.prog 101 #[.agg (cx v n).toArray] w fun e w'=>e=.returned (.int .i64 (eu v n))∧ag [] w w':=by
 have HB:=hid (aq.new w 24 (cx v n).toArray)
 have HC:=hid ((ag.refl [] w).alloc (.cells (cx v n).toArray 24))
 have HW:=hid (oI v n)
 have hq:(wid v:Int) / 8=((wid v / 8:Nat):Int):=by omega
 have hq16:wid v / 8≤16:=by have:=eV v; omega
 have HOK:=hid (DT v n hn)
 obtain⟨q,hqq⟩:∃q,q=wid v / 8:=⟨_,rfl⟩
 rw[←hqq]at hq hq16 HOK
 clear hqq
 go_enter Tryz.func101,Tryz.ntmps101
 go_upto_region 2 with(first
  | (go_at_call 51;refine(HW.out _).mono ?_;rintro e w2 ⟨rfl,C2⟩)
  | (refine ik rfl _ rfl w.heap.size rfl 24 v n HB.out ?_))
 have B2:=hid (HB.out.aF C2 (by simp))
 have D2:=hid (HC.out.trans C2)
 clear HB HC C2 HW
 go_loop [3] (fun iv=>∃i:Nat,q≤i∧i≤16∧iv=.int .i64 i∧∀j,q≤j→j < i→ah n j=0) (fun iv=>16 - (RowKit.intOf iv).toNat)
 case atStart=>exact⟨q,Nat.le_refl _,hq16,rfl,fun j h1 h2=>by omega⟩
 case round=>
  obtain⟨i,hqi,hi,rfl,hz⟩:=hrel
  have HZ:=hid hz
  clear hz
  by_cases hlt:(i:Int) < 16
  ·have i0:(0:Int)≤(i:Int):=by omega
   have c1:=B2.out.cell_of (cn v (ah n) i (by omega))
   by_cases hx:ah n i=0
   ·rw[hx]at c1
    go_wp2
    go_round
    case measure=>simp[RowKit.intOf];omega
    case rel=>
     refine⟨i+1,by omega,by omega,by go_num,fun j h1 h2=>?_⟩
     by_cases hj:j=i
     ·rw[hj];exact hx
     ·exact HZ.out j h1 (by omega)
   ·have hne:(((ah n i:Nat):Int) !=0)=true:=by rw[bne_iff_ne];omega
    have fin:eu v n=150:=by
     unfold eu
     rw[if_neg (fun h=>hx (HOK.out.1 h i hqi (by omega)))]
    have FIN:=hid fin
    clear fin
    go_wp2
    go_ret
    exact⟨by rw[FIN.out];rfl,D2.out⟩
  ·have hi16:i=16:=by omega
   subst hi16
   have fin:eu v n=0:=by
    unfold eu
    rw[if_pos (HOK.out.2 fun j h1 h2=>HZ.out j h1 h2)]
   have FIN:=hid fin
   clear fin
   go_wp2
   go_ret
   exact⟨by rw[FIN.out];rfl,D2.out⟩
open Go.RowKit Go.Lib Go.Sort
attribute [local go_sem] zg tB
theorem aq.FN{w:World}{g:Nat}{t:TypeId}{v:Bool}{n:Nat}{k:Int}(hb:aq w g t (cV v n k)):w.rangeAt g 0 (cx v n):=fun j x hx=>by rw[Nat.zero_add];exact hb.cell_of (rn v n k j x hx)
set_option maxHeartbeats 2000000 in
theorem AF(v:Bool)(n:Nat)(k:Int)(hn:n < 2^128)(hbad:iG v n=false∨k < 0∨(wid v:Int) < k)(w:World) :
  Calls Tryz.prog 59 #[.agg (cV v n k).toArray] w fun e w'=>e=.returned (.int .i64 151)∧ag [] w w':=by
 have HB:=hid (aq.new w 29 (cV v n k).toArray)
 have HC:=hid ((ag.refl [] w).alloc (.cells (cV v n k).toArray 29))
 have HW:=hid (mq (oI v n))
 have HK:=mq (gf v n hn)
 cases hA:iG v n with
 |false=>
  have he:eu v n=150:=by unfold eu;rw[hA];rfl
  rw[he]at HK
  have HK:=hid HK
  clear he hA hbad
  go_enter Tryz.func59,Tryz.ntmps59
  go_upto_region 1 with fail
  obtain⟨w1,hw1⟩:∃w1,w1=w.alloc (.cells (cV v n k).toArray 29):=⟨_,rfl⟩
  rw[←hw1]
  have B1:aq w1 w.heap.size 29 (cV v n k):=by rw[hw1];exact HB.out
  have C1:ag [] w w1:=by rw[hw1];exact HC.out
  clear hw1 HB HC
  have ck:=cell_regrown (B1.cell_of (gg v n k))
  have R:=B1.DL
  refine wp_region_quiet_below (by kernel_rfl) (by kernel_rfl) ?_
  repeat (first | (go_big_quiet_want;refine fP 24 _ rfl w.heap.size 0 rfl (cx v n) _ R.cx Tryz.underlying24 rfl (eC.trans (by rw[bL])) ?_;go_big_quiet_on)|go_big_quiet_step ((first | (go_at_call 51;with_reducible exact HW.out _ _ _) | (go_at_call 101;with_reducible exact HK.out _ _ _)))|quiet_step ((first | (go_at_call 51;with_reducible exact HW.out _ _ _) | (go_at_call 101;with_reducible exact HK.out _ _ _))))
  refine wpQuiet_nil ?_
  intro w3 hw3
  have C3:=eO hw3
  clear hw3 ck R
  have HF:=hid (C1.trans C3)
  go_wp2
  go_ret
  exact⟨rfl,HF.out⟩
 |true=>
  have he:eu v n=0:=by unfold eu;rw[hA];rfl
  rw[he]at HK
  rw[hA]at hbad
  have HK:=hid HK
  clear he hA
  have hbad2:k < 0∨(wid v:Int) < k:=by simpa using hbad
  clear hbad
  by_cases h1:k < 0
  ·have d1:decide (k < 0)=true:=decide_eq_true h1
   clear hbad2
   go_enter Tryz.func59,Tryz.ntmps59
   go_upto_region 1 with fail
   obtain⟨w1,hw1⟩:∃w1,w1=w.alloc (.cells (cV v n k).toArray 29):=⟨_,rfl⟩
   rw[←hw1]
   have B1:aq w1 w.heap.size 29 (cV v n k):=by rw[hw1];exact HB.out
   have C1:ag [] w w1:=by rw[hw1];exact HC.out
   clear hw1 HB HC
   have ck:=cell_regrown (B1.cell_of (gg v n k))
   have R:=B1.DL
   refine wp_region_quiet_below (by kernel_rfl) (by kernel_rfl) ?_
   repeat (first | (go_big_quiet_want;refine fP 24 _ rfl w.heap.size 0 rfl (cx v n) _ R.cx Tryz.underlying24 rfl (eC.trans (by rw[bL])) ?_;go_big_quiet_on)|go_big_quiet_step ((first | (go_at_call 51;with_reducible exact HW.out _ _ _) | (go_at_call 101;with_reducible exact HK.out _ _ _)))|quiet_step ((first | (go_at_call 51;with_reducible exact HW.out _ _ _) | (go_at_call 101;with_reducible exact HK.out _ _ _))))
   refine wpQuiet_nil ?_
   intro w3 hw3
   have C3:=eO hw3
   clear hw3 ck R
   have HF:=hid (C1.trans C3)
   go_wp2
   go_ret
   exact⟨rfl,HF.out⟩
  ·obtain⟨K,rfl⟩:∃K:Nat,k=(K:Int):=⟨k.toNat,by omega⟩
   have d1:decide ((K:Int) < 0)=false:=decide_eq_false (by omega)
   have d2:decide (wid v < K)=true:=decide_eq_true (by omega)
   clear hbad2 h1
   go_enter Tryz.func59,Tryz.ntmps59
   go_upto_region 1 with fail
   obtain⟨w1,hw1⟩:∃w1,w1=w.alloc (.cells (cV v n K).toArray 29):=⟨_,rfl⟩
   rw[←hw1]
   have B1:aq w1 w.heap.size 29 (cV v n K):=by rw[hw1];exact HB.out
   have C1:ag [] w w1:=by rw[hw1];exact HC.out
   clear hw1 HB HC
   have ck:=cell_regrown (B1.cell_of (gg v n K))
   have R:=B1.DL
   refine wp_region_quiet_below (by kernel_rfl) (by kernel_rfl) ?_
   repeat (first | (go_big_quiet_want;refine fP 24 _ rfl w.heap.size 0 rfl (cx v n) _ R.cx Tryz.underlying24 rfl (eC.trans (by rw[bL])) ?_;go_big_quiet_on)|go_big_quiet_step ((first | (go_at_call 51;with_reducible exact HW.out _ _ _) | (go_at_call 101;with_reducible exact HK.out _ _ _)))|quiet_step ((first | (go_at_call 51;with_reducible exact HW.out _ _ _) | (go_at_call 101;with_reducible exact HK.out _ _ _))))
   refine wpQuiet_nil ?_
   intro w3 hw3
   have C3:=eO hw3
   clear hw3 ck R
   have HF:=hid (C1.trans C3)
   go_wp2
   go_ret
   exact⟨rfl,HF.out⟩
set_option maxHeartbeats 2000000 in
theorem xZ(v:Bool)(n K:Nat)(hn:n < 2^128)(hA:iG v n=true)(hK:K≤wid v)(w:World) :
  Calls Tryz.prog 59 #[.agg (cV v n K).toArray] w fun e w'=>e=.returned (.int .i64 (df v n K))∧ag [] w w':=by
 have HB:=hid (aq.new w 29 (cV v n K).toArray)
 have HC:=hid ((ag.refl [] w).alloc (.cells (cV v n K).toArray 29))
 have HW:=hid (mq (oI v n))
 have HK:=mq (gf v n hn)
 have he:eu v n=0:=by unfold eu;rw[hA];rfl
 rw[he]at HK
 have HK:=hid HK
 have HOK:=hid (DQ v n K hA hK)
 have HBT:=hid (OJ v n)
 have HWW:=hid (oI v n)
 have hw128:=eV v
 clear he hA
 have d1:decide ((K:Int) < 0)=false:=decide_eq_false (by omega)
 have d2:decide (wid v < K)=false:=decide_eq_false (by omega)
 go_enter Tryz.func59,Tryz.ntmps59
 go_upto_region 1 with fail
 obtain⟨w1,hw1⟩:∃w1,w1=w.alloc (.cells (cV v n K).toArray 29):=⟨_,rfl⟩
 rw[←hw1]
 have B1:aq w1 w.heap.size 29 (cV v n K):=by rw[hw1];exact HB.out
 have C1:ag [] w w1:=by rw[hw1];exact HC.out
 clear hw1 HB HC
 have ck:=cell_regrown (B1.cell_of (gg v n K))
 have R:=B1.DL
 refine wp_region_quiet_below (by kernel_rfl) (by kernel_rfl) ?_
 repeat (first | (go_big_quiet_want;refine fP 24 _ rfl w.heap.size 0 rfl (cx v n) _ R.cx Tryz.underlying24 rfl (eC.trans (by rw[bL])) ?_;go_big_quiet_on)|go_big_quiet_step ((first | (go_at_call 51;with_reducible exact HW.out _ _ _) | (go_at_call 101;with_reducible exact HK.out _ _ _)))|quiet_step ((first | (go_at_call 51;with_reducible exact HW.out _ _ _) | (go_at_call 101;with_reducible exact HK.out _ _ _))))
 refine wpQuiet_nil ?_
 intro w3 hw3
 have C3:=eO hw3
 clear hw3 ck R
 have B3:=hid (B1.aF C3 (by simp))
 have HF:=hid (C1.trans C3)
 clear B1 C1 C3
 have ck:=B3.out.cell_of (gg v n K)
 go_upto_region 4 with fail
 go_loopw [3] (fun iv wr=>∃i:Nat,K≤i∧i≤wid v∧iv=.int .i64 i∧aq wr w.heap.size 29 (cV v n K)∧ag [] w wr∧∀j,K≤j→j < i→kq n j=false) (fun iv _=>128 - (RowKit.intOf iv).toNat)
 case atStart=>exact⟨K,Nat.le_refl _,hK,rfl,B3.out,HF.out,fun j h1 h2=>by omega⟩
 case round=>
  obtain⟨i,hKi,hi,rfl,hB,hC,hz⟩:=hrel
  have HZ:=hid hz
  have HB:=hid hB
  have HC:=hid hC
  clear hz hB hC HF B3 ck d1 d2
  by_cases hlt:i < wid v
  ·have i0:(0:Int)≤(i:Int):=by omega
   have i1:(i:Int) < 128:=by omega
   have hltz:(i:Int) < (wid v:Int):=by omega
   cases hb:kq n i with
   |false=>
    have HBi:=HBT.out i (by omega)
    rw[hb]at HBi
    have HBj:=hid HBi
    have HBB:=hid hb
    clear HBi hb
    go_wp2_with (first
     | (go_at_call 51;refine(HWW.out _).mono ?_;rintro e c1 ⟨rfl,D1⟩)
     | (go_at_call 120;refine(HBj.out _).mono ?_;rintro e c2 ⟨rfl,D2⟩)
     | (refine oN (cx v n) w.heap.size 0 24 _ _ (by rfl) rfl rfl (HB.out.aF D1 (by simp)).FN Tryz.underlying24 rfl (eC.trans (by rw[bL])) ?_)
     | (refine oN (cx v n) w.heap.size 0 24 _ _ (by rfl) rfl rfl HB.out.FN Tryz.underlying24 rfl (eC.trans (by rw[bL])) ?_))
    go_roundw
    case measure=>simp[RowKit.intOf];omega
    case rel=>
     refine⟨i+1,by omega,by omega,by go_num,(HB.out.aF D1 (by simp)).aF D2 (by simp),(HC.out.trans D1).trans D2,fun j h1 h2=>?_⟩
     by_cases hj:j=i
     ·rw[hj];exact HBB.out
     ·exact HZ.out j h1 (by omega)
   |true=>
    have HBi:=HBT.out i (by omega)
    rw[hb]at HBi
    have HBj:=hid HBi
    have fin:df v n K=151:=by
     unfold df
     rw[if_neg (fun h=>by have:=HOK.out.1 h i hKi hlt;rw[hb]at this;cases this)]
    have FIN:=hid fin
    clear HBi hb fin
    go_wp2_with (first
     | (go_at_call 51;refine(HWW.out _).mono ?_;rintro e c1 ⟨rfl,D1⟩)
     | (go_at_call 120;refine(HBj.out _).mono ?_;rintro e c2 ⟨rfl,D2⟩)
     | (refine oN (cx v n) w.heap.size 0 24 _ _ (by rfl) rfl rfl (HB.out.aF D1 (by simp)).FN Tryz.underlying24 rfl (eC.trans (by rw[bL])) ?_)
     | (refine oN (cx v n) w.heap.size 0 24 _ _ (by rfl) rfl rfl HB.out.FN Tryz.underlying24 rfl (eC.trans (by rw[bL])) ?_))
    go_ret
    exact⟨by rw[FIN.out];rfl,(HC.out.trans D1).trans D2⟩
  ·have hi16:i=wid v:=by omega
   subst hi16
   have fin:df v n K=0:=by
    unfold df
    rw[if_pos (HOK.out.2 fun j h1 h2=>HZ.out j h1 h2)]
   have FIN:=hid fin
   clear fin
   go_wp2_with (first
    | (go_at_call 51;refine(HWW.out _).mono ?_;rintro e c1 ⟨rfl,D1⟩)
    | (refine oN (cx v n) w.heap.size 0 24 _ _ (by rfl) rfl rfl HB.out.FN Tryz.underlying24 rfl (eC.trans (by rw[bL])) ?_))
   go_ret
   exact⟨by rw[FIN.out];rfl,HC.out.trans D1⟩
theorem ya(v:Bool)(n:Nat)(k:Int)(hn:n < 2^128)(w:World) :
  Calls Tryz.prog 59 #[.agg (cV v n k).toArray] w fun e w'=>e=.returned (.int .i64 (df v n k))∧ag [] w w':=by
 by_cases h:iG v n=true∧0≤k∧k≤(wid v:Int)
 ·obtain⟨K,rfl⟩:∃K:Nat,k=(K:Int):=⟨k.toNat,by omega⟩
  exact xZ v n K hn h.1 (by omega) w
 ·have e:df v n k=151:=by
   unfold df
   rw[if_neg]
   intro hp
   unfold fA at hp
   simp only[Bool.and_eq_true,decide_eq_true_eq]at hp
   refine h ⟨?_,hp.1⟩
   unfold iG
   rw[decide_eq_true_eq]
   conv=>lhs;rw[←hp.2,sO,Nat.min_eq_left (by omega)]
   exact hp.2
  rw[e]
  refine AF v n k hn ?_ w
  cases hA:iG v n
  ·exact .inl rfl
  ·refine .inr ?_
   have h2:¬(0≤k∧k≤(wid v:Int)):=fun h2=>h ⟨hA,h2⟩
   omega
open Go.RowKit Go.Lib Go.Sort
open Go.RowKit Go.Lib Go.Sort
open Go.RowKit Go.Lib Go.Sort
open Go.RowKit Go.Lib Go.Sort
end Go.Proofs.YtnncigmpcdehnaaGreatDoor
