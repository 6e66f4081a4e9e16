import Derived.Test.YtnncigmpcdehnaaGreatDoorQi02
open Nat renaming le_refl→VE,le_of_lt→VP,le_trans→We,zero_add→Wt,zero_le→Wv
open List renaming mem_of_getElem?→VF,getElem?_eq_getElem→VG,getElem?_eq_none→VH,length_append→VI,getElem?_map→VJ,getD_eq_getElem?_getD→VK,length_replicate→VL,mem_singleton→VM,mem_append→VN,replicate→VO,length_take→VR,length_map→VS,mem_cons→VU,ext_getElem?→VW,length_drop→VY,length_cons→VZ,getElem?_append_right→Wb,mem_map→Wd,mem_of_mem_take→Wg,mem_of_mem_drop→Wh,mem_replicate→Wk,getElem?_take→Wl,range→Wm,take_left'→Wp,length_nil→Wq,length→Wu
open Go.Value renaming int→VQ,oneCell'→VT,string→Ws
open Go.IntKind renaming wrap_i64→VV,i64→VX,u16→Wc,u8→Wi,wrap_u8'→Wj
namespace Go.Proofs.YtnncigmpcdehnaaGreatDoor
set_option maxRecDepth 100000
open Go.RowKit Go.Lib Go.Sort _root_.Go.Proofs.Tryz
set_option maxRecDepth 100000
theorem fB(c:UInt8):∀(s x:List UInt8),x∈aU c s→x.length≤s.length
 | [],x,h=>by simp[aU]at h;simp[h]
 |y::s,x,h=>by
  unfold aU at h;split at h
  ·rw[VU]at h
   rcases h with rfl|h
   ·simp
   ·have:=fB c s x h;simp;omega
  ·split at h
   ·simp at h;subst h;simp
   ·rename_i p ps hp
    rw[VU]at h;rcases h with rfl|h
    ·have:=fB c s p (by rw[hp];simp);simp;omega
    ·have:=fB c s x (by rw[hp];simp[h]);simp;omega
theorem dV(c:UInt8):∀s:List UInt8,(aU c s).length≤s.length+1
 | []=>by simp[aU]
 |y::s=>by
  have ih:=dV c s;unfold aU;split
  ·simp;omega
  ·split
   ·simp
   ·rename_i p ps hp
    rw[hp]at ih;simp at ih ⊢;omega
theorem Hq(x:ByteArray):(⟨x.data.toList.toArray⟩:ByteArray)=x:=by obtain⟨⟨l⟩⟩:=x;rfl
theorem xu(s:List UInt8)(c:UInt8)(hs:s.length < 4294967281)(w:World)(HL:dD w):Calls prog 62 #[.string ⟨s.toArray⟩,.string ⟨#[c]⟩] w fun e w'=>
  e=.returned (.slice (some ⟨w.heap.size,0,none⟩) (aU c s).length (aU c s).length)∧w'=w.alloc (.cells (strs (aU c s)).toArray 9):=by
 obtain⟨m,hm⟩:=HL.m0;refine(Tryz.strings_Split ⟨s.toArray⟩ ⟨#[c]⟩ m w (by simpa[ByteArray.size]using hs) hm (VE _)).mono ?_;rintro e w' ⟨rfl,rfl⟩;have hd:=Lib.splitB_data ⟨#[c]⟩ 0 (Lib.countB ⟨s.toArray⟩ ⟨#[c]⟩) ⟨s.toArray⟩;have hk:Lib.splitK [c] 0 (Lib.countB ⟨s.toArray⟩ ⟨#[c]⟩) s=aU c s:=sD s.length c s (VE _);have hd':(Lib.splitB ⟨#[c]⟩ 0 (Lib.countB ⟨s.toArray⟩ ⟨#[c]⟩) ⟨s.toArray⟩).map (·.data.toList)=aU c s:=hd.trans hk;have hl:(Lib.splitB ⟨#[c]⟩ 0 (Lib.countB ⟨s.toArray⟩ ⟨#[c]⟩) ⟨s.toArray⟩).length=Lib.countB ⟨s.toArray⟩ ⟨#[c]⟩+1:=Lib.splitB_all ⟨#[c]⟩ (VE _) 0 _ _ rfl;have hl2:(aU c s).length=Lib.countB ⟨s.toArray⟩ ⟨#[c]⟩+1:=by rw[←hd',VS,hl]
 have hv:(Lib.splitB ⟨#[c]⟩ 0 (Lib.countB ⟨s.toArray⟩ ⟨#[c]⟩) ⟨s.toArray⟩).map Ws=strs (aU c s):=by rw[←hd'];unfold strs;rw[List.map_map];exact List.map_congr_left fun x _=>congrArg Ws (Hq x).symm
 rw[hl2,hv];exact⟨rfl,rfl⟩
theorem KW(s p:List UInt8)(hs:s.length < 4294967281)(w:World)(HL:dD w):Calls prog 48 #[.string ⟨s.toArray⟩,.string ⟨p.toArray⟩] w fun e w'=>
  e=.returned (.tuple #[.string ⟨(Lib.cut s p).1.toArray⟩,.string ⟨(Lib.cut s p).2.1.toArray⟩,.bool (Lib.cut s p).2.2])∧ah [] w w':=by
 obtain⟨m,hm⟩:=HL.m0;refine(Tryz.strings_Cut ⟨s.toArray⟩ ⟨p.toArray⟩ m w (by simpa[ByteArray.size]using hs) hm).mono ?_;rintro e w' ⟨rfl,n,rfl⟩;exact⟨rfl,(ah.refl [] w).drewN n⟩
theorem Ku(c:UInt8)(s:List UInt8):decide (0≤Lib.indexByte s c)=decide (c∈s):=by
 congr 1;apply propext;constructor
 ·intro h
  have:=(Lib.indexByte_some (l:=s) (c:=c) (o:=(Lib.indexByte s c).toNat) (by omega)).1;exact VF this
 ·intro h
  refine Decidable.byContradiction fun hn=>?_;have hg:Lib.indexByte s c = -1:=by have:=Lib.indexByte_ge s c;omega
  obtain⟨k,hk⟩:=List.getElem?_of_mem h;exact Lib.indexByte_none hg k hk
theorem Di(s:List UInt8)(c:UInt8)(w:World):Calls prog 43 #[.string ⟨s.toArray⟩,.string ⟨#[c]⟩] w fun e w'=>e=.returned (.bool (decide (c∈s)))∧w'=w:=by refine(Tryz.strings_Contains_one ⟨s.toArray⟩ c w).mono ?_;rintro e w' ⟨rfl,rfl⟩;refine⟨?_,rfl⟩;rw[←Ku]
open Go.RowKit Go.Lib Go.Sort
theorem Tryz.Ks:(prog.info? 62).map (fun i=>(i.zero,i.size,i.bytes))=some (some (.int .u16 0),1,2):=by kernel_rfl
def gK(xs:List Nat):List Value:=xs.map fun u=>.int .u16 (u:Nat)
theorem Ft(xs:List Nat)(u:Nat):gK (xs++[u])=gK xs++[.int .u16 (u:Nat)]:=by simp[gK]
def yN(s:List UInt8)(w:World)(e:Ending)(w':World):Prop:=
 ∃(A:Option Go.Addr) (n c:Nat) (xs:List Nat) (ok:Bool),e=.returned (.tuple #[.slice A n c,.bool ok])∧Acc w w' 62 1 (.slice A n c) n (gK xs)∧(∀u∈xs,u < 65536)∧n≤s.length+1∧∀l:List Nat,(∀u∈l,u < 65536)→s=cH l→ok=true∧xs=l
theorem Rq{s:List UInt8}{w w':World}(hC:ah [] w w')(h:∀l:List Nat,(∀u∈l,u < 65536)→s=cH l→False):yN s w (.returned (.tuple #[.slice none 0 0,.bool false])) w':=
 ⟨none,0,0,[],false,rfl,Acc.nil w 62 1 hC,by simp,by omega,fun l h1 h2=>(h l h1 h2).elim⟩
theorem sC{xs:List (List UInt8)}{k:Nat}{x:List UInt8}(h:xs[k]?=some x):(strs xs)[k]?=some (.string ⟨x.toArray⟩):=by unfold strs;rw[VJ,h];rfl
set_option maxHeartbeats 4000000 in
theorem AZ(s:List UInt8)(hs:s.length≤100000000)(w:World)(HL:dD w):Calls prog 96 #[.string ⟨s.toArray⟩] w (yN s w):=by
 obtain⟨i0,hi,hz0,hz1,hz2⟩:=info_parts Tryz.Ks;have HIN:=hid (Sx.t2 hi hz0 (And.intro hz1 hz2));clear hi hz0 hz1 hz2;by_cases h0:s=[]
 ·subst h0
  go_enter func96,ntmps96
  go_wp2
  go_ret2
  exact⟨none,0,0,[],true,rfl,Acc.nil w 62 1 (ah.refl _ _),by simp,by omega,fun l _ h2=>⟨rfl,((GI l).1 h2.symm).symm⟩⟩
 ·have hz:decide (s=[])=false:=decide_eq_false h0
  have HS:=hid (xu s 58 (by omega) w HL);obtain⟨P,hP⟩:∃P,P=aU 58 s:=⟨_,rfl⟩;rw[←hP]at HS;have HPL:=hid (fun(x:List UInt8) (hx:x∈P)=>(show x.length≤s.length from fB 58 s x (by rw[←hP];exact hx)));have hN:P.length≤s.length+1:=by rw[hP];exact dV 58 s
  have HCA:=hid (fun(l:List Nat) (h:s=cH l)=>(show P=l.map (ao 16)by rw[hP,h];exact As l (fun e=>h0 (by rw[h,e];rfl))));clear hP;obtain⟨N,hNl⟩:∃N,N=P.length:=⟨_,rfl⟩;rw[←hNl]at HS hN;have HNL:=hid hNl;clear hNl;have hemp:s.isEmpty=false:=by cases s with
   |nil=>exact absurd rfl h0
   |cons _ _=>rfl
  have HB:=hid (aq.new w 9 (strs P).toArray);have HC:=hid ((ah.refl [] w).alloc (.cells (strs P).toArray 9));have HL1:=hid (HL.alloc (.cells (strs P).toArray 9));have HSL:=hid hs;have hNb:N≤100000001:=by omega
  clear HL hs;go_enter func96,ntmps96
  go_wp2_with (go_at_call 62;refine HS.out.mono ?_;rintro e w2 ⟨rfl,rfl⟩)
  obtain⟨w1,hw1⟩:∃w1,w1=w.alloc (.cells (strs P).toArray 9):=⟨_,rfl⟩;have hB:=HB.out;have hC:=HC.out;have HL1':=HL1.out;rw[←hw1]at hB hC HL1' ⊢;clear hw1 HB HC HL1 HS;go_loopw [4,14] (fun sv iv wr=>∃(k:Nat) (Av:Option Go.Addr) (cv:Nat) (xs:List Nat),k≤N∧iv=.int .i64 k∧sv=.slice Av k cv∧Acc w1 wr 62 1 (.slice Av k cv) k (gK xs)∧Hid ((∀u∈xs,u < 65536)∧∀l:List Nat,(∀u∈l,u < 65536)→s=cH l→xs=l.take k)) (fun _ iv _=>N - (RowKit.intOf iv).toNat)
  case atStart=>exact⟨0,none,0,[],Wv _,rfl,rfl,Acc.nil w1 62 1 (ah.refl _ _),by simp,fun l _ _=>by simp⟩
  case round=>
   obtain⟨k,Av,cv,xs,hk,rfl,rfl,hAc,hh⟩:=hrel;by_cases hlt:k < N
   ·have hkl:k < P.length:=by rw[←HNL.out];exact hlt
    obtain⟨x,hx⟩:∃x,P[k]?=some x:=⟨_,VG hkl⟩;have cu:=(hAc.aD.cell (p:=⟨w.heap.size,k,none⟩) hB.lt (by simp)).trans (hB.cell_of (sC hx));have hxl:=HPL.out x (VF hx);have HNU:=hid (Ev 16 65535 (.inr rfl) (by omega) ⟨x.toArray⟩ (by have:=HSL.out;simp[ByteArray.size];omega) wr (HL1'.cW hAc.aD));have HLT:=hid hlt;have HX:=hid hx;have HAc:=hid hAc;clear hx hAc hxl;go_wp2_with (go_at_call 49;refine HNU.out.mono ?_)
    rintro e w2 ⟨v,ok,rfl,C2,v0,v1,hok,hcan⟩;have HCN:=hid hcan;have HOK:=hid hok;have HV:=hid (And.intro v0 v1);clear hcan hok v1;cases ok with
    |false=>
     go_wp2
     go_ret2
     refine Rq ((hC.trans HAc.out.aD).trans C2) fun l hl h=>?_;have hp:=HX.out;rw[HCA.out l h,VJ]at hp;cases hu:l[k]? with
     |none=>rw[hu]at hp;cases hp
     |some u=>rw[hu]at hp;injection hp with hp;have:=HCN.out u (by have:=hl u (VF hu);omega) hp.symm;exact absurd this.2 (by decide)
    |true=>
     obtain⟨u,rfl,hu65,hux⟩:=HOK.out rfl;have HUX:=hid hux;clear hux;have hw16:Wc.wrap (u:Int)=(u:Int):=by rw[IntKind.wrap_u16];omega
     have HS2:=hid (Ft xs u);have HT:=hid (show(∀y∈xs++[u],y < 65536)∧∀l:List Nat,(∀u∈l,u < 65536)→s=cH l→xs++[u]=l.take (k+1)from by
      refine⟨fun y hy=>?_,fun l hl h=>?_⟩
      ·rw[VN,VM]at hy
       rcases hy with hy|rfl
       ·exact hh.out.1 y hy
       ·omega
      ·have hp:=HX.out
       rw[HCA.out l h,VJ]at hp;cases hu:l[k]? with
       |none=>rw[hu]at hp;cases hp
       |some y=>
        rw[hu]at hp;injection hp with hp;have h2:=(HCN.out y (by have:=hl y (VF hu);omega) hp.symm).1;have h3:u=y:=by omega
        rw[List.take_add_one,hu,hh.out.2 l hl h,h3];rfl)
     clear hh;have HX0:0≤(u:Int):=by omega
     go_wp2_with ((with_reducible refine eW ?_);(refine dz _ rfl (.tmp 25) (.tmp 28) 158 rfl 62 i0 _ 1 2 underlying158 HIN.out.1 HIN.out.2.1 HIN.out.2.2.1 HIN.out.2.2.2 rfl (by omega) (.slice Av k cv) k (gK xs) rfl ((HAc.out.later C2).alloc _).own ⟨w2.heap.size,0,none⟩ 1 1 [.int .u16 (u:Nat)] rfl rfl (by simpa using (aq.new w2 62 #[.int .u16 (u:Nat)]).BA) (by simp[VT]) (by have:=HSL.out;unfold maxLen;omega) (by have:=HSL.out;omega) ?_);intro A' c' w3 hO3 hC3 hb3)
     go_roundw
     case measure=>have hk9:=HLT.out;simp[RowKit.intOf];omega
     case rel=>have hk9:=HLT.out;refine⟨k+1,A',c',xs++[u],by omega,by go_num,rfl,?_,HT.out⟩;rw[HS2.out];exact Acc.append ((HAc.out.later C2).alloc _) hO3 hC3 hb3
   ·have hkn:k=N:=by omega
    subst hkn;have HF:=hid (show yN s w (.returned (.tuple #[.slice Av k cv,.bool true])) wr from
     ⟨Av,k,cv,xs,true,rfl,⟨hAc.own,fun j hj=>We hC.size (hAc.new j hj),hC.trans hAc.aD⟩,hh.out.1,hN,fun l hl h=>⟨rfl,by rw[hh.out.2 l hl h,List.take_of_length_le];have:=congrArg Wu (HCA.out l h);rw[VS,←HNL.out]at this;omega⟩⟩)
    clear hh hAc;go_wp2
    go_ret2
    exact HF.out
open Go.RowKit Go.Lib Go.Sort
theorem jj{fn:Func}{p q:Tmp}(h:fn.results=#[.cell p 24,.tmp q])(tmps:Array Value)(w:World)(g:Nat)(v:Bool)(f:Nat→Nat)(t:TypeId)(u:Value)
  (hp:tmps.getD p undef=.pointer (some ⟨g,0,none⟩)) (hq:tmps.getD q undef=u) (hb:aq w g t (az v f)):(results fn tmps).run prog w=.ok (.tuple #[.agg (az v f).toArray,u]) w:=by
 have hp':tmps[p]?.getD undef=.pointer (some ⟨g,0,none⟩):=by simpa using hp
 have hq':tmps[q]?.getD undef=u:=by simpa using hq
 simp[results,h,hp',hq',asAddr,run_loadVar_row w g t 24 _ (0,0) _ hb underlying24 rfl (kK.trans (by simp[ay]))]
theorem uY(v:Bool)(f:Nat→Nat)(hf:∀j,f j < 256):∃n,n < 2^128∧az v f=eA v n∧∀j,j < 16→an n j=f j:=by obtain⟨n,hn,hb⟩:=Hp f hf;exact⟨n,hn,pZ v fun j hj=>(hb j hj).symm,hb⟩
theorem QI{n:Nat}(hn:n < 2^128):vr false n=true↔∀j,4≤j→j < 16→an n j=0:=by
 have h:=vL (n:=n) (k:=32) hn (by omega);have h2:vr false n=lR (fun j=>fi 32 j (an n j)) (an n):=h.symm;rw[h2,iu];constructor
 ·intro h j h1 h2
  have:=h j h2;unfold fi at this;rw[if_pos (by omega)]at this;exact this.symm
 ·intro h j hj
  unfold fi;by_cases h4:j < 4
  ·rw[if_neg (by omega),if_neg (by omega)]
  ·rw[if_pos (by omega),h j (by omega) hj]
def yM(s:List UInt8)(w:World)(e:Ending)(w':World):Prop:=
 ∃(n:Nat) (ok:Bool),e=.returned (.tuple #[.agg (eA false n).toArray,.bool ok])∧ah [] w w'∧n < 2^128∧(ok=true→vr false n=true∧gk n=s)∧∀m,m < 2^128→vr false m=true→s=gk m→n=m∧ok=true
theorem De{s:List UInt8}{w w':World}(f:Nat→Nat)(hf:∀j,f j < 256)(hC:ah [] w w')(h:∀m,s=gk m→False):yM s w (.returned (.tuple #[.agg (az false f).toArray,.bool false])) w':=by obtain⟨n,hn,he,_⟩:=uY false f hf;rw[he];exact⟨n,false,rfl,hC,hn,fun h=>(by cases h),fun m _ _ h2=>(h m h2).elim⟩
theorem BS(f:Nat→Nat)(k n:Nat):fI f k n k=n:=if_pos rfl
theorem xr(f:Nat→Nat)(k n j:Nat)(h:j≠k):fI f k n j=f j:=if_neg h
set_option maxHeartbeats 4000000 in
theorem KQ(s:List UInt8)(hs:s.length≤100000000)(w:World)(HL:dD w):Calls prog 44 #[.string ⟨s.toArray⟩] w (yM s w):=by
 have HS:=hid (fun W (hW:dD W)=>xu s 46 (by omega) W hW);obtain⟨P,hP⟩:∃P,P=aU 46 s:=⟨_,rfl⟩;rw[←hP]at HS;have HPL:=hid (fun(x:List UInt8) (hx:x∈P)=>(show x.length≤s.length from fB 46 s x (by rw[←hP];exact hx)));have hN:P.length≤s.length+1:=by rw[hP];exact dV 46 s
 have HCA:=hid (fun(m:Nat) (h:s=gk m)=>(show P=(Wm 4).map fun i=>ao 10 (an m i)by rw[hP,h];exact zi m));have HJ:=hid (show aE 46 P=s by rw[hP];exact rh 46 s);have hN1:1≤P.length:=by rw[hP];exact List.length_pos_iff.2 (mZ 46 s)
 clear hP;obtain⟨N,hNl⟩:∃N,N=P.length:=⟨_,rfl⟩;rw[←hNl]at HS hN hN1;have HNL:=hid hNl;clear hNl;have HR:=hid (show aq ((w.alloc (.cells (az false fun _=>0).toArray 24)).alloc (.cells (az false fun _=>0).toArray 24)) w.heap.size 24 (az false fun _=>0)from(aq.new w 24 (az false fun _=>0).toArray).alloc _);have HA:=hid (show aq ((w.alloc (.cells (az false fun _=>0).toArray 24)).alloc (.cells (az false fun _=>0).toArray 24)) (w.heap.size+1) 24 (az false fun _=>0)from aq.eO _ 24 (az false fun _=>0).toArray (by simp));have HC:=hid (((ah.refl [] w).alloc (.cells (az false fun _=>0).toArray 24)).alloc (.cells (az false fun _=>0).toArray 24));have HL1:=hid ((HL.alloc (.cells (az false fun _=>0).toArray 24)).alloc (.cells (az false fun _=>0).toArray 24));have hNb:N≤100000001:=by omega
 have HSL:=hid hs;have HLW:=hid HL.low;clear HL hs hN;go_enter func44,ntmps44
 go_wp2_with (go_at_call 62;refine(HS.out _ HL1.out).mono ?_;rintro e w2 ⟨rfl,rfl⟩)
 obtain⟨w1,hw1⟩:∃w1,w1=((w.alloc (.cells (az false fun _=>0).toArray 24)).alloc (.cells (az false fun _=>0).toArray 24)).alloc (.cells (strs P).toArray 9):=⟨_,rfl⟩;have hR:=HR.out.alloc (.cells (strs P).toArray 9);have hA:=HA.out.alloc (.cells (strs P).toArray 9);have hC:=HC.out.alloc (.cells (strs P).toArray 9);have hB:aq (((w.alloc (.cells (az false fun _=>0).toArray 24)).alloc (.cells (az false fun _=>0).toArray 24)).alloc (.cells (strs P).toArray 9)) (w.heap.size+1+1) 9 (strs P):=aq.eO _ 9 (strs P).toArray (by simp);have hL:=hid (HL1.out.alloc (.cells (strs P).toArray 9));rw[←hw1]at hR hA hC hB hL;rw[←hw1];clear hw1 HR HA HC HL1 HS;by_cases h4:N=4
 ·subst h4
  rw[show((4:Nat):Int)=4 from rfl];go_loopw [14] (fun iv wr=>∃(k:Nat) (f:Nat→Nat),k≤4∧iv=.int .i64 k∧aq wr w.heap.size 24 (az false fun _=>0)∧aq wr (w.heap.size+1) 24 (az false f)∧aq wr (w.heap.size+1+1) 9 (strs P)∧ah [] w wr∧dD wr∧Hid ((∀j,f j < 256)∧(∀j,j < k→P[j]?=some (ao 10 (f j)))∧(∀j,k≤j→f j=0)∧(True))) (fun iv _=>4 - (RowKit.intOf iv).toNat)
  case atStart=>exact⟨0,fun _=>0,Wv _,rfl,hR,hA,hB,hC,hL.out,⟨fun _=>(by show(0:Nat) < 256;omega),fun j hj=>absurd hj (by omega),fun _ _=>rfl,trivial⟩⟩
  case round=>
   obtain⟨k,f,hk,rfl,hR,hA,hB,hC,hL,hh⟩:=hrel;by_cases hlt:k < 4
   ·have hkl:k < P.length:=by rw[←HNL.out];exact hlt
    obtain⟨x,hx⟩:∃x,P[k]?=some x:=⟨_,VG hkl⟩;have cu:=hB.cell_of (sC hx);have HXL:=hid (HPL.out x (VF hx));have HNU:=hid (Ev 10 255 (.inl rfl) (by omega) ⟨x.toArray⟩ (by have:=HSL.out;have:=HXL.out;simp[ByteArray.size];omega) wr hL);have HLT:=hid hlt;have HX:=hid hx;have hR:=hid hR;have hA:=hid hA;have hB:=hid hB;have hC:=hid hC;have hL:=hid hL;clear hx;go_wp2_with (go_at_call 49;refine HNU.out.mono ?_)
    rintro e w2 ⟨v,ok,rfl,C2,v0,v1,hok,hcan⟩;have HCN:=hid hcan;have HOK:=hid hok;clear hcan hok v1;have HAX:=hid (hA.out.aD C2 (by simp));have HRX:=hid (hR.out.aD C2 (by simp));cases ok with
    |false=>
     have HF:=hid (show ∀m,s=gk m→False from fun m h=>by
      have hp:=HX.out;rw[HCA.out m h,VJ]at hp;cases hu:(Wm 4)[k]? with
      |none=>rw[hu]at hp;cases hp
      |some u=>rw[hu]at hp;injection hp with hp;have:=HCN.out (an m u) (by have:=bH m u;omega) hp.symm;exact absurd this.2 (by decide))
     have HFB:=hid hh.out.1;clear hh;go_wp2_with (first | (refine vx rfl _ rfl (w.heap.size+1) rfl 24 false f HAX.out ?_) | (refine jF rfl _ _ rfl w.heap.size false f rfl rfl 24 _ HRX.out (ay _ _) ?_))
     refine bodyPost_ret (jj rfl _ _ w.heap.size false f 24 _ rfl rfl (HRX.out.row (az false f))) rfl ?_;exact De f HFB.out ((hC.out.trans C2).setRow (.inr (VE _)) _) HF.out
    |true=>
     obtain⟨u,rfl,hu,hux⟩:=HOK.out rfl;have HUX:=hid hux;clear hux;have hk3:k≤3:=by omega
     have hw8:Wi.wrap (u:Int)=(u:Int):=by rw[Wj];omega
     have ca:=HAX.out.cell_of (cR false f k (by omega));have fa:=HAX.out.frozen (1+k);have HT:=hid (show(∀j,fI f k u j < 256)∧(∀j,j < k+1→P[j]?=some (ao 10 (fI f k u j)))∧(∀j,k+1≤j→fI f k u j=0)∧True from by
      obtain⟨q1,q2,q3,q4⟩:=hh.out;refine⟨fun j=>?_,fun j hj=>?_,fun j hj=>?_,trivial⟩
      ·by_cases hjk:j=k
       ·subst hjk;rw[BS];omega
       ·rw[xr f k u j hjk];exact q1 j
      ·by_cases hjk:j=k
       ·subst hjk;rw[BS,HX.out];exact congrArg some HUX.out
       ·rw[xr f k u j hjk];exact q2 j (by omega)
      ·rw[xr f k u j (by omega)];exact q3 j (by omega))
     have HSE:=hid (uZ false f (fI f k u) k u (BS f k u) (fun j _ hj=>xr f k u j hj));clear hh;go_wp2
     go_roundw
     case measure=>have hk9:=HLT.out;simp[RowKit.intOf];omega
     case rel=>
      have hk9:=HLT.out;have hC2:=hC.out.trans C2;have hC3:=hC2.MQ (g:=w.heap.size+1) (by omega) (1+k) (.int .u8 (u:Int));refine⟨k+1,fI f k u,by omega,by go_num,HRX.out.Mm (by show w.heap.size≠w.heap.size+1;omega) _,?_,(hB.out.aD C2 (by simp)).Mm (by show w.heap.size+1+1≠w.heap.size+1;omega) _,hC3,?_,HT.out⟩
      ·rw[←HSE.out]
       exact HAX.out.oW (1+k) _
      ·exact(hL.out.cW C2).aD (S:=[w.heap.size+1]) ((ah.refl _ _).setCell (p:=⟨w.heap.size+1,1+k,none⟩) (.inl (by simp)) _) (by intro j hj;have:=HLW.out;rw[VM]at hj;omega)
   ·have hkn:k=4:=by omega
    subst hkn;obtain⟨q1,q2,q3,q4⟩:=hh.out;obtain⟨n,hn,hen,hbn⟩:=uY false f q1;have hok:vr false n=true:=(QI hn).2 fun j h1 h2=>by rw[hbn j h2];exact q3 j (by omega)
    have hPP:P=[ao 10 (an n 0),ao 10 (an n 1),ao 10 (an n 2),ao 10 (an n 3)]:=by
     apply VW;intro j;by_cases hj:j < 4
     ·rw[q2 j (by omega)]
      match j,hj with
      | 0,_=>rw[hbn 0 (by omega)];rfl
      | 1,_=>rw[hbn 1 (by omega)];rfl
      | 2,_=>rw[hbn 2 (by omega)];rfl
      | 3,_=>rw[hbn 3 (by omega)];rfl
     ·rw[VH (by rw[←HNL.out];omega),VH (by simp;omega)]
    have HFIN:=hid (show ∀W,ah [] w W→yM s w (.returned (.tuple #[.agg (az false f).toArray,.bool true])) W from fun W hW=>by
     rw[hen];refine⟨n,true,rfl,hW,hn,fun _=>⟨hok,?_⟩,fun m hm hm2 h=>⟨?_,rfl⟩⟩
     ·rw[←HJ.out,hPP];rfl
     ·have h5:=HCA.out m h
      refine lq hn hm fun j hj=>?_;by_cases hj4:j < 4
      ·have h6:P[j]?=((Wm 4).map fun i=>ao 10 (an m i))[j]?:=by rw[h5]
       rw[q2 j (by omega),VJ,List.getElem?_range (by omega)]at h6;injection h6 with h6;rw[hbn j hj];exact AT (by omega) (by omega) h6
      ·rw[(QI hn).1 hok j (by omega) hj,(QI hm).1 hm2 j (by omega) hj])
    clear hh q1 q2 q3 q4 hPP hok hbn hen hn;go_wp2_with (first | (refine vx rfl _ rfl (w.heap.size+1) rfl 24 false f hA ?_) | (refine jF rfl _ _ rfl w.heap.size false f rfl rfl 24 _ hR (ay _ _) ?_))
    refine bodyPost_ret (jj rfl _ _ w.heap.size false f 24 _ rfl rfl (hR.row (az false f))) rfl ?_;exact HFIN.out _ (hC.setRow (.inr (VE _)) _)
 ·go_loopw [14] (fun iv wr=>wr=w1∧iv=.int .i64 0) (fun iv _=>N - (RowKit.intOf iv).toNat)
  case atStart=>exact⟨rfl,rfl⟩
  case round=>
   obtain⟨rfl,rfl⟩:=hrel;obtain⟨x,hx⟩:∃x,P[0]?=some x:=⟨_,VG (by rw[←HNL.out];omega:0 < P.length)⟩;have cu:=hB.cell_of (sC hx);have HXL:=hid (HPL.out x (VF hx));have HNU:=hid (Ev 10 255 (.inl rfl) (by omega) ⟨x.toArray⟩ (by have:=HSL.out;have:=HXL.out;simp[ByteArray.size];omega) wr hL.out);have HF:=hid (show ∀m,s=gk m→False from fun m h=>by have:=congrArg Wu (HCA.out m h);rw[←HNL.out,VS,List.length_range]at this;exact h4 this);have i4:¬(N:Int)=4:=by omega
   have i1:(0:Int) < (N:Int):=by omega
   clear hx;go_wp2_with (go_at_call 49;refine HNU.out.mono ?_)
   rintro e w2 ⟨v,ok,rfl,C2,v0,v1,hok,hcan⟩;clear hcan hok v1;have HAX:=hid (hA.aD C2 (by simp));have HRX:=hid (hR.aD C2 (by simp));cases ok with
   |false=>
    go_wp2_with (first | (refine vx rfl _ rfl (w.heap.size+1) rfl 24 false (fun _=>0) HAX.out ?_) | (refine jF rfl _ _ rfl w.heap.size false (fun _=>0) rfl rfl 24 _ HRX.out (ay _ _) ?_))
    refine bodyPost_ret (jj rfl _ _ w.heap.size false (fun _=>0) 24 _ rfl rfl (HRX.out.row (az false (fun _=>0)))) rfl ?_;exact De (fun _=>0) (fun _=>by show 0 < 256;omega) ((hC.trans C2).setRow (.inr (VE _)) _) HF.out
   |true=>
    go_wp2_with (first | (refine vx rfl _ rfl (w.heap.size+1) rfl 24 false (fun _=>0) HAX.out ?_) | (refine jF rfl _ _ rfl w.heap.size false (fun _=>0) rfl rfl 24 _ HRX.out (ay _ _) ?_))
    refine bodyPost_ret (jj rfl _ _ w.heap.size false (fun _=>0) 24 _ rfl rfl (HRX.out.row (az false (fun _=>0)))) rfl ?_;exact De (fun _=>0) (fun _=>by show 0 < 256;omega) ((hC.trans C2).setRow (.inr (VE _)) _) HF.out
open Go.RowKit Go.Lib Go.Sort
theorem Tryz.Kt:(prog.info? 5).map (fun i=>(i.zero,i.size,i.bytes))=some (some (.int .u8 0),1,1):=by kernel_rfl
set_option maxHeartbeats 4000000 in
theorem PA(u:Nat)(hu:u < 65536)(w:World):Calls prog 98 #[.slice none 0 0,.int .u16 (u:Nat)] w fun e w'=>
  ∃A c,e=.returned (.slice A 2 c)∧Acc w w' 5 1 (.slice A 2 c) 2 [.int .u8 (u / 256:Nat),.int .u8 (u%256:Nat)]:=by
 obtain⟨i0,hi,hz0,hz1,hz2⟩:=info_parts Tryz.Kt;have HIN:=hid (Sx.t2 hi hz0 (And.intro hz1 hz2));clear hi hz0 hz1 hz2;have hmk:∀W:World,(Instr.makeSlice 82 (.int .i64 0) (.int .i64 2)).run prog W=.ok (.slice (some ⟨W.heap.size,0,none⟩) 0 2) (W.alloc (.cells #[.int .u8 0,.int .u8 0] 5)):=fun W=>by have h:=run_make (P:=prog) W 82 5 i0 _ underlying82 HIN.out.1 HIN.out.2.1 .i64 .i64 0 2 (by omega) (by omega) (by rw[HIN.out.2.2.2];decide) (by omega);rw[HIN.out.2.2.1]at h;rw[h,show madeCells (VQ Wi 0).cells (Int.toNat 2*1)=#[.int .u8 0,.int .u8 0] by kernel_rfl];rfl
 have hcp:∀W:World,(Builtin.copy_ #[82,82] 3 #[.slice (some ⟨w.heap.size,0,none⟩) 0 2,.slice none 0 0]).run prog W=.ok (.int .i64 0) W:=fun W=>run_copy_none W 82 82 3 5 _ _ 0 2 0 0 underlying82 (by rw[HIN.out.1];simp[HIN.out.2.2.1]) (by decide);obtain⟨hi,hhi⟩:∃hi,hi=u / 256:=⟨_,rfl⟩;obtain⟨lo,hlo⟩:∃lo,lo=u%256:=⟨_,rfl⟩;rw[←hhi,←hlo];have e1:(u:Int) / 256=(hi:Int):=by omega
 have e2:Wi.wrap (u:Int)=(lo:Int):=by rw[Wj];omega
 have hi256:hi < 256:=by omega
 have hu0:0≤(u:Int):=by omega
 have HACC:∀W,Acc W (W.alloc (.cells #[.int .u8 0,.int .u8 0] 5)) 5 1 (.slice (some ⟨W.heap.size,0,none⟩) 0 2) 0 []:=fun W=>⟨Own.made W 5 1 0 2 [.int .u8 0,.int .u8 0] (by omega) (by unfold maxLen;omega) rfl,fun k hk=>by simp[Value.ownBlock]at hk;omega,(ah.refl [] W).alloc _⟩;have HAC:=hid (HACC w);clear hhi hlo HACC;go_enter func98,ntmps98
 go_wp2_with (go_at_call 160;refine(DM _).mono ?_;rintro e w2 ⟨rfl,hw2⟩;subst hw2)
 obtain⟨wz,hwz⟩:∃wz,wz=w2.alloc (.cells #[.int .u8 0,.int .u8 0] 5):=⟨_,rfl⟩;have hAC:=HAC.out;rw[←hwz]at hAC
 try rw[←hwz]
 clear hwz HAC;go_loopw [5,6] (fun nv sv wr=>(nv=.int .i64 1∧∃A c,sv=.slice A 0 c∧Acc w2 wr 5 1 (.slice A 0 c) 0 [])∨(nv=.int .i64 0∧∃A c,sv=.slice A 1 c∧Acc w2 wr 5 1 (.slice A 1 c) 1 [.int .u8 (hi:Nat)])∨(nv=.int .i64 (-1)∧∃A c,sv=.slice A 2 c∧Acc w2 wr 5 1 (.slice A 2 c) 2 [.int .u8 (hi:Nat),.int .u8 (lo:Nat)])) (fun nv _ _=>(RowKit.intOf nv+1).toNat)
 case atStart=>exact .inl ⟨rfl,_,_,rfl,hAC⟩
 case round=>
  rcases hrel with⟨rfl,A,c,rfl,hA⟩ | ⟨rfl,A,c,rfl,hA⟩ | ⟨rfl,A,c,rfl,hA⟩
  ·have HA:=hid hA
   clear hA;go_wp2_with ((with_reducible refine eW ?_);(refine dz _ rfl (.tmp 24) (.tmp 31) 82 rfl 5 i0 _ 1 1 underlying82 HIN.out.1 HIN.out.2.1 HIN.out.2.2.1 HIN.out.2.2.2 rfl (by omega) (.slice A 0 c) 0 [] rfl (HA.out.alloc _).own ⟨wr.heap.size,0,none⟩ 1 1 [.int .u8 (hi:Nat)] rfl rfl (by simpa using (aq.new wr 5 #[.int .u8 (hi:Nat)]).BA) (by simp[VT]) (by unfold maxLen;omega) (by omega) ?_);intro A' c' w3 hO3 hC3 hb3)
   go_roundw
   case measure=>decide
   case rel=>exact .inr (.inl ⟨rfl,A',c',rfl,Acc.append (HA.out.alloc _) hO3 hC3 hb3⟩)
  ·have HA:=hid hA
   clear hA;go_wp2_with ((with_reducible refine eW ?_);(refine dz _ rfl (.tmp 24) (.tmp 31) 82 rfl 5 i0 _ 1 1 underlying82 HIN.out.1 HIN.out.2.1 HIN.out.2.2.1 HIN.out.2.2.2 rfl (by omega) (.slice A 1 c) 1 [.int .u8 (hi:Nat)] rfl (HA.out.alloc _).own ⟨wr.heap.size,0,none⟩ 1 1 [.int .u8 (lo:Nat)] rfl rfl (by simpa using (aq.new wr 5 #[.int .u8 (lo:Nat)]).BA) (by simp[VT]) (by unfold maxLen;omega) (by omega) ?_);intro A' c' w3 hO3 hC3 hb3)
   go_roundw
   case measure=>decide
   case rel=>exact .inr (.inr ⟨rfl,A',c',rfl,Acc.append (HA.out.alloc _) hO3 hC3 hb3⟩)
  ·have HA:=hid hA
   clear hA;go_wp2
   go_ret
   exact⟨A,c,rfl,HA.out⟩
open Go.RowKit Go.Lib Go.Sort
theorem zD(t:TypeId)(g n c:Nat)(W:World)(L news:List Value)(T:TypeId)(hg:aq W g T L)(A:Option Go.Addr)(m sc:Nat)(ht:prog.underlying t=some (.slice 62))(hl:news.length=m)
  (hsrc:0 < news.length→∃ad,A=some ad∧∀j v,news[j]?=some v→W.cell? (ad.add j)=some v) (h1:∀v∈news,v.oneCell'=true) (hroom:n+m≤c) (hfit:n+news.length≤L.length) :
  (Builtin.append_ #[t,t] t #[.slice (some ⟨g,0,none⟩) n c,.slice A m sc]).run prog W=.ok (.slice (some ⟨g,0,none⟩) (n+m) c) (W.setRow g (splice L n news).toArray):=by
 have hs:(prog.info? 62).map (·.size)=some 1:=by kernel_rfl
 have h:=nG (P:=prog) W t t 62 1 ht hs g 0 n c L T hg A m sc news (by omega) hsrc h1 hroom (by omega);rwa [show 0+n*1=n by omega]at h
set_option maxHeartbeats 4000000 in
theorem Ra(w:World):Calls prog 159 #[.slice none 0 0,.int .i64 8] w fun e w'=>
  ∃c L,e=.returned (.slice (some ⟨w.heap.size,0,none⟩) 0 c)∧aq w' w.heap.size 62 L∧8≤c∧c≤L.length∧c≤maxLen∧ah [] w w':=by
 have HB:=hid (aq.new w.drew 62 (Builtin.zeroCells #[VQ .u16 0] 8++Builtin.zeroCells #[VQ .u16 0] (grownCap w 8 0 62 - 8)));have HC:=hid (((ah.refl [] w).drew).alloc (.cells (Builtin.zeroCells #[VQ .u16 0] 8++Builtin.zeroCells #[VQ .u16 0] (grownCap w 8 0 62 - 8)) 62));have hge:=grownCap_ge w 8 0 62;have hcm:=grownCap_le_maxLen w 8 0 62 (by unfold maxLen;omega);have HX:=hid (show grownCap w 8 0 62≤(Builtin.zeroCells #[VQ .u16 0] 8++Builtin.zeroCells #[VQ .u16 0] (grownCap w 8 0 62 - 8)).toList.length by rw[Array.length_toList,Array.size_append,size_zeroCells,size_zeroCells];simp;omega);have HGE:=hid hge;have HCM:=hid hcm;clear hge hcm;go_enter func159,ntmps159
 go_wp2
 go_ret
 exact⟨grownCap w 8 0 62,rfl,_,HB.out,HGE.out,HX.out,HCM.out,HC.out⟩
def mQ(w:World)(A:Option Go.Addr)(xs:List Nat):Prop:=0 < xs.length→∃ad,A=some ad∧ad.block < w.heap.size∧∀(j u:Nat),xs[j]?=some u→w.cell? (ad.add j)=some (.int .u16 (u:Nat))
theorem mQ.aD{w w':World}{A:Option Go.Addr}{xs:List Nat}(h:mQ w A xs)(hc:ah [] w w'):mQ w' A xs:=fun h0=>by
 obtain⟨ad,h1,h2,h3⟩:=h h0;refine⟨ad,h1,Nat.lt_of_lt_of_le h2 hc.size,fun j u hu=>?_⟩;have hb:(ad.add j).block=ad.block:=by unfold Addr.add;split<;>rfl
 exact(hc.cell (p:=ad.add j) (by rw[hb];exact h2) (by simp)).trans (h3 j u hu)
theorem mQ.src{w:World}{A:Option Go.Addr}{xs:List Nat}(h:mQ w A xs):0 < (gK xs).length→∃ad,A=some ad∧∀(j:Nat) (v:Value),(gK xs)[j]?=some v→w.cell? (ad.add j)=some v:=fun h0=>by
 obtain⟨ad,h1,_,h3⟩:=h (by simpa[gK]using h0);refine⟨ad,h1,fun j v hv=>?_⟩;unfold gK at hv;rw[VJ]at hv;cases hx:xs[j]? with
 |none=>rw[hx]at hv;cases hv
 |some u=>rw[hx]at hv;injection hv with hv;rw[←hv];exact h3 j u hx
theorem Iv(xs:List Nat):∀v∈gK xs,v.oneCell'=true:=by intro v hv;unfold gK at hv;rw[Wd]at hv;obtain⟨u,_,rfl⟩:=hv;rfl
theorem gJ(xs:List Nat):(gK xs).length=xs.length:=by simp[gK]
def ky(w wx:World)(G c:Nat)(pre:List Nat):Prop:=∃Lx,aq wx G 62 Lx∧c≤Lx.length∧Lx.take pre.length=gK pre∧ah [] w wx
theorem ky.app{w wx:World}{G c:Nat}{pre:List Nat}(h:ky w wx G c pre)(hG:w.heap.size≤G)(A:Option Go.Addr)(xs:List Nat)(cap m n:Nat)(hm:m=pre.length)(hn:n=xs.length)(sl:mQ w A xs)(hc:m+n≤c) :
  ∃wn,(Builtin.append_ #[158,158] 158 #[.slice (some ⟨G,0,none⟩) m c,.slice A n cap]).run prog wx=.ok (.slice (some ⟨G,0,none⟩) (m+n) c) wn∧ky w wn G c (pre++xs):=by
 subst hm hn;obtain⟨Lx,hB,hL,hT,hC⟩:=h;have hl:pre.length+(gK xs).length≤Lx.length:=by rw[gJ];omega
 refine⟨_,zD 158 G pre.length c wx Lx (gK xs) 62 hB A xs.length cap underlying158 (gJ xs) (sl.aD hC).src (Iv xs) hc hl,_,hB.row _,?_,?_,hC.setRow (.inr hG) _⟩
 ·rw[jG Lx _ _ hl];exact hL
 ·have hsp:splice Lx pre.length (gK xs)=Lx.take pre.length++gK xs++Lx.drop (pre.length+(gK xs).length):=by
   unfold splice;rw[List.append_assoc]
  rw[hsp,hT,VI,←gJ xs];rw[Wp (by rw[VI,gJ,gJ])];simp[gK]
theorem ky.at_{w wx:World}{G c:Nat}{pre:List Nat}(h:ky w wx G c pre){g i:Nat}{v:Value}(hg:g < w.heap.size)(hv:w.cell? ⟨g,i,none⟩=some v):wx.cell? ⟨g,i,none⟩=some v:=by obtain⟨_,_,_,_,hC⟩:=h;exact(hC.cell (p:=⟨g,i,none⟩) hg (by simp)).trans hv
set_option maxHeartbeats 8000000 in
theorem AY(g:Nat)(w:World)(A1 A2 A3:Option Go.Addr)(c1 c2 c3:Nat)(x1 x2 x3:List Nat)(h8:x1.length+x2.length+x3.length=8)
  (k1:w.cell? ⟨g,0,none⟩=some (.slice A1 x1.length c1)) (k2:w.cell? ⟨g,1,none⟩=some (.slice A2 x2.length c2)) (k3:w.cell? ⟨g,2,none⟩=some (.slice A3 x3.length c3)) (hg:g < w.heap.size)
  (s1:mQ w A1 x1) (s2:mQ w A2 x2) (s3:mQ w A3 x3):Calls prog 97 #[.slice (some ⟨g,0,none⟩) 3 3] w fun e w'=>
  ∃g' c Lx,e=.returned (.slice (some ⟨g',0,none⟩) 8 c)∧aq w' g' 62 Lx∧8≤c∧(∀j u:Nat,(x1++x2++x3)[j]?=some u→Lx[j]?=some (.int .u16 (u:Nat)))∧ah [] w w':=by
 obtain⟨n1,hn1⟩:∃n,n=x1.length:=⟨_,rfl⟩;obtain⟨n2,hn2⟩:∃n,n=x2.length:=⟨_,rfl⟩;obtain⟨n3,hn3⟩:∃n,n=x3.length:=⟨_,rfl⟩;rw[←hn1]at h8 k1;rw[←hn2]at h8 k2;rw[←hn3]at h8 k3;have HN1:=hid hn1;have HN2:=hid hn2;have HN3:=hid hn3;have S1:=hid s1;have S2:=hid s2;have S3:=hid s3;clear hn1 hn2 hn3 s1 s2 s3;have e3:(n1:Int)+(n2:Int)+(n3:Int)=8:=by omega
 have hf1:(n1:Int)≤8:=by omega
 have hf2:(n1:Int)+(n2:Int)≤8:=by omega
 go_enter func97,ntmps97
 go_wp2
 go_loopw [3,11] (fun sv iv wr=>w=wr∧((sv=.int .i64 0∧iv=.int .i64 0)∨(sv=.int .i64 n1∧iv=.int .i64 1)∨(sv=.int .i64 ((n1:Int)+n2)∧iv=.int .i64 2)∨(sv=.int .i64 8∧iv=.int .i64 3))) (fun _ iv _=>3 - (RowKit.intOf iv).toNat)
 case atStart=>exact⟨rfl,.inl ⟨rfl,rfl⟩⟩
 case round=>
  obtain⟨rfl,⟨rfl,rfl⟩ | ⟨rfl,rfl⟩ | ⟨rfl,rfl⟩ | ⟨rfl,rfl⟩⟩:=hrel
  ·go_wp2
   go_roundw
   case measure=>decide
   case rel=>exact⟨by first|trivial|rfl,.inr (.inl ⟨rfl,rfl⟩)⟩
  ·go_wp2
   go_roundw
   case measure=>decide
   case rel=>exact⟨by first|trivial|rfl,.inr (.inr (.inl ⟨rfl,rfl⟩))⟩
  ·go_wp2
   go_roundw
   case measure=>decide
   case rel=>exact⟨by first|trivial|rfl,.inr (.inr (.inr ⟨rfl,rfl⟩))⟩
  ·go_wp2_with (go_at_call 159;refine(Ra _).mono ?_;rintro e w2 ⟨c,L,rfl,HB,hc8,hcL,hcm,C2⟩)
   obtain⟨G,hG⟩:∃G,G=w.heap.size:=⟨_,rfl⟩;have hGle:w.heap.size≤G:=by omega
   rw[←hG]at HB
   try rw[←hG]
   have HCAT:=hid (show ky w w2 G c []from⟨L,HB,hcL,by simp[gK],C2⟩);have HGL:=hid hGle;obtain⟨wz,hwz⟩:∃wz,wz=w2:=⟨_,rfl⟩;rw[←hwz]at HCAT ⊢;clear hG hGle HB hcL hcm C2 hwz w2;have K1:=hid k1;have K2:=hid k2;have K3:=hid k3;clear k1 k2 k3;go_loopw [6,27] (fun sv iv wx=>(sv=.slice (some ⟨G,0,none⟩) 0 c∧iv=.int .i64 0∧Hid (ky w wx G c []))∨(sv=.slice (some ⟨G,0,none⟩) n1 c∧iv=.int .i64 1∧Hid (ky w wx G c x1))∨(sv=.slice (some ⟨G,0,none⟩) (n1+n2) c∧iv=.int .i64 2∧Hid (ky w wx G c (x1++x2)))∨(sv=.slice (some ⟨G,0,none⟩) 8 c∧iv=.int .i64 3∧Hid (ky w wx G c (x1++x2++x3)))) (fun _ iv _=>3 - (RowKit.intOf iv).toNat)
   case atStart=>exact .inl ⟨rfl,rfl,HCAT⟩
   case round=>
    rcases hrel with⟨rfl,rfl,hq⟩ | ⟨rfl,rfl,hq⟩ | ⟨rfl,rfl,hq⟩ | ⟨rfl,rfl,hq⟩
    ·obtain⟨wn,hap,hq2⟩:=ky.app hq.out HGL.out A1 x1 c1 0 n1 rfl HN1.out S1.out (by omega)
     have HQ2:=hid hq2;have j1:=hq.out.at_ hg K1.out;rw[Wt]at hap;have HAP:=hid hap;clear hq hq2 hap;go_wp2_with ((with_reducible refine eW ?_);refine Lib.wpList_append_run _ rfl (.tmp 31) (.tmp 32) 158 158 rfl _ _ rfl rfl _ _ HAP.out ?_)
     go_roundw
     case measure=>decide
     case rel=>exact .inr (.inl ⟨rfl,rfl,HQ2⟩)
    ·obtain⟨wn,hap,hq2⟩:=ky.app hq.out HGL.out A2 x2 c2 n1 n2 HN1.out HN2.out S2.out (by omega)
     have HQ2:=hid hq2;have j1:=hq.out.at_ hg K2.out;have HAP:=hid hap;clear hq hq2 hap;go_wp2_with ((with_reducible refine eW ?_);refine Lib.wpList_append_run _ rfl (.tmp 31) (.tmp 32) 158 158 rfl _ _ rfl rfl _ _ HAP.out ?_)
     go_roundw
     case measure=>decide
     case rel=>exact .inr (.inr (.inl ⟨rfl,rfl,HQ2⟩))
    ·obtain⟨wn,hap,hq2⟩:=ky.app hq.out HGL.out A3 x3 c3 (n1+n2) n3 (by rw[VI,←HN1.out,←HN2.out]) HN3.out S3.out (by omega)
     have HQ2:=hid hq2;have j1:=hq.out.at_ hg K3.out;rw[h8]at hap;have HAP:=hid hap;clear hq hq2 hap;go_wp2_with ((with_reducible refine eW ?_);refine Lib.wpList_append_run _ rfl (.tmp 31) (.tmp 32) 158 158 rfl _ _ rfl rfl _ _ HAP.out ?_)
     go_roundw
     case measure=>decide
     case rel=>exact .inr (.inr (.inr ⟨rfl,rfl,HQ2⟩))
    ·go_wp2
     go_ret
     obtain⟨Lx,hB,hL,hT,hC⟩:=hq.out;refine⟨G,c,Lx,rfl,hB,hc8,fun j u hu=>?_,hC⟩;have h1:(gK (x1++x2++x3))[j]?=some (.int .u16 (u:Nat)):=by unfold gK;rw[VJ,hu];rfl
     rw[←hT,Wl]at h1;split at h1
     ·exact h1
     ·cases h1
open Go.RowKit Go.Lib Go.Sort
theorem Fc(s p:List UInt8):(Lib.cut s p).1.length≤s.length∧(Lib.cut s p).2.1.length≤s.length:=by
 unfold Lib.cut;split
 ·simp only[VR,VY];omega
 ·simp
theorem Io{s:List UInt8}{x1 x2:List Nat}{o1 o2:Bool}(h1:∀l:List Nat,(∀u∈l,u < 65536)→(Lib.cut s [58,58]).1=cH l→o1=true∧x1=l)
  (h2:∀l:List Nat,(∀u∈l,u < 65536)→(Lib.cut s [58,58]).2.1=cH l→o2=true∧x2=l) (m:Nat) (hs:s=db (bD m)) :
  o1=true∧o2=true∧x1.length+x2.length≤8∧((Lib.cut s [58,58]).2.2=true∨x1.length=8)∧x1++VO (8 - x1.length - x2.length) 0++x2=bD m:=by
 have hc:=Hb (bD m);rw[←hs]at hc;obtain⟨hf1,hf2,hf3⟩:=AH (bD m) rfl;by_cases hg:(fG (zs (bD m))).1=(fG (zs (bD m))).2
 ·rw[if_pos hg]at hc
  rw[hc]at h1 h2 ⊢;obtain⟨q1,rfl⟩:=h1 (bD m) (fun u hu=>ga hu) rfl;obtain⟨q2,rfl⟩:=h2 [] (by simp) rfl;refine⟨q1,q2,by rw[ej];simp,.inr rfl,?_⟩;rw[ej];simp
 ·rw[if_neg hg]at hc
  rw[hc]at h1 h2 ⊢;obtain⟨q1,rfl⟩:=h1 _ (fun u hu=>ga (Wg hu)) rfl;obtain⟨q2,rfl⟩:=h2 _ (fun u hu=>ga (Wh hu)) rfl;refine⟨q1,q2,?_,.inl rfl,hf3⟩;rw[VR,VY,ej];omega
def bf(L:List Nat)(k j:Nat):Nat:=if j < 2*k then(if j%2=0 then L.getD (j / 2) 0 / 256 else L.getD (j / 2) 0%256)else 0
theorem Ol{L:List Nat}(h:∀u∈L,u < 65536)(j:Nat):L.getD j 0 < 65536:=by
 by_cases hj:j < L.length
 ·rw[VK,VG hj];exact h _ (List.getElem_mem hj)
 ·rw[VK,VH (by omega)];simp
theorem PR{L:List Nat}(h:∀u∈L,u < 65536)(k j:Nat):bf L k j < 256:=by
 have:=Ol h (j / 2);unfold bf;split
 ·split<;>omega
 ·omega
theorem PT(L:List Nat)(k u:Nat)(hu:L[k]?=some u):bf L (k+1) (2*k)=u / 256:=by unfold bf;rw[if_pos (by omega),if_pos (by omega),show 2*k / 2=k by omega,VK,hu]; rfl
theorem PS(L:List Nat)(k u:Nat)(hu:L[k]?=some u):bf L (k+1) (2*k+1)=u%256:=by unfold bf;rw[if_pos (by omega),if_neg (by omega),show(2*k+1) / 2=k by omega,VK,hu]; rfl
theorem Fk(L:List Nat)(k j:Nat)(h1:j≠2*k)(h2:j≠2*k+1):bf L (k+1) j=bf L k j:=by
 unfold bf;by_cases h:j < 2*k
 ·rw[if_pos h,if_pos (by omega)]
 ·rw[if_neg h,if_neg (by omega)]
theorem Kx{n:Nat}{L:List Nat}(hl:L.length=8)(h:∀j,j < 8→L[j]?=some (je n j)):bD n=L:=by
 apply VW;intro j;by_cases hj:j < 8
 ·rw[h j hj,pJ n j hj]
 ·rw[VH (by rw[ej];omega),VH (by omega)]
theorem ER{n:Nat}{L:List Nat}(hl:L.length=8)(h:∀j,j < 16→an n j=bf L 8 j):bD n=L:=by refine Kx hl fun j hj=>?_;obtain⟨u,hu⟩:∃u,L[j]?=some u:=⟨_,VG (by omega)⟩;rw[hu];unfold je;rw[h (2*j) (by omega),h (2*j+1) (by omega)];unfold bf;rw[if_pos (by omega),if_pos (by omega),if_pos (by omega),if_neg (by omega),show 2*j / 2=j by omega,show(2*j+1) / 2=j by omega,VK,hu];simp;omega
theorem Az{n m:Nat}(hn:n < 2^128)(hm:m < 2^128)(h:bD n=bD m):n=m:=by
 refine lq hn hm fun i hi=>?_;have h1:=pJ n (i / 2) (by omega);rw[h,pJ m (i / 2) (by omega)]at h1;injection h1 with h1;unfold je at h1;have b1:=bH n (2*(i / 2)+1);have b2:=bH m (2*(i / 2)+1);by_cases h2:i%2=0
 ·rw[show i=2*(i / 2)by omega]; omega
 ·rw[show i=2*(i / 2)+1 by omega]; omega
theorem xN(n:Nat):vr true n=true:=by unfold vr;rw[decide_eq_true_eq];exact Gw n
theorem MD(v:Bool)(f g:Nat→Nat)(k2 hi lo:Nat)(hk:k2≤14)(h1:g k2=hi)(h2:g (k2+1)=lo)(h3:∀j,j≠k2→j≠k2+1→g j=f j) :
  splice (az v f) (1+k2) [.int .u8 (hi:Nat),.int .u8 (lo:Nat)]=az v g:=by
 apply VW;intro j;have hsp:splice (az v f) (1+k2) [.int .u8 (hi:Nat),.int .u8 (lo:Nat)]=(az v f).take (1+k2)++([.int .u8 (hi:Nat),.int .u8 (lo:Nat)]++(az v f).drop (1+k2+2)):=rfl;rw[hsp];have hl:((az v f).take (1+k2)).length=1+k2:=by rw[VR,ay];omega
 by_cases hj:j < 1+k2
 ·rw[List.getElem?_append_left (by omega),Wl,if_pos hj]
  cases j with
  |zero=>rfl
  |succ j=>rw[Nat.add_comm j 1,cR v f j (by omega),cR v g j (by omega),h3 j (by omega) (by omega)]
 ·rw[Wb (by omega),hl]
  by_cases hj2:j=1+k2
  ·subst hj2
   rw[cR v g k2 (by omega),h1];simp
  ·by_cases hj3:j=1+k2+1
   ·subst hj3
    rw[show 1+k2+1=1+(k2+1)by omega,cR v g (k2+1) (by omega),h2,show 1+(k2+1) - (1+k2)=1 by omega];rfl
   ·rw[Wb (by simp;omega),List.getElem?_drop]
    simp only[VZ,Wq];rw[show 1+k2+2+(j - (1+k2) - (0+1+1))=j by omega];by_cases hj4:j < 17
    ·obtain⟨i,rfl⟩:∃i,j=1+i:=⟨j - 1,by omega⟩
     rw[cR v f i (by omega),cR v g i (by omega),h3 i (by omega) (by omega)]
    ·rw[VH (by rw[ay];omega),VH (by rw[ay];omega)]
theorem AX{w1:World}{g:Nat}{v:Bool}{f f':Nat→Nat}(hb:aq w1 g 24 (az v f))(k2 hi lo:Nat)(hk:k2≤14)(h1:f' k2=hi)(h2:f' (k2+1)=lo)(h3:∀j,j≠k2→j≠k2+1→f' j=f j)
  {A:Option Go.Addr} {c:Nat} (hO:Own w1 5 1 (.slice A 2 c) 2 [.int .u8 (hi:Nat),.int .u8 (lo:Nat)]) :
  (Builtin.copy_ #[82,82] 3 #[.slice (some ⟨g,1+k2,none⟩) (16 - k2) (16 - k2),.slice A 2 c]).run prog w1=.ok (.int .i64 2) (w1.setRow g (az v f').toArray):=by
 obtain⟨g2,o2,c2,hv,_⟩:=hO.some_ (by omega);injection hv with hA _ hc;subst hA hc
 have h:=xB (P:=prog) w1 82 82 3 5 1 underlying82 (by kernel_rfl) g (1+k2) (16 - k2) (16 - k2) (az v f) 24 hb (some ⟨g2,o2,none⟩) 2 c [.int .u8 (hi:Nat),.int .u8 (lo:Nat)] (by show 2=min 2 (16 - k2)*1; omega)
  (fun _=>⟨_,rfl,hO.ja⟩) (by rw[ay];simp;omega) (by simp[VT])
 rw[MD v f f' k2 hi lo hk h1 h2 h3]at h;have e:Nat.min 2 (16 - k2)=2:=by show min 2 (16 - k2)=2; omega
 rw[h,e];simp[goInt]
set_option maxRecDepth 100000
open Go.RowKit Go.Lib Go.Sort _root_.Go.Proofs.Tryz
theorem OU:prog.built 24 [(0,.bool true)]=some (az true fun _=>0).toArray:=by kernel_rfl
theorem UO{ops:Array Oper}{rest:List Oper}{o:Oper}{a:Act}{w:World}{Q:Exit→Act→World→Prop}(hg:o.guard=none)(ho:o.op=.build 24 #[(0,.const (.bool true))])
  (h:wpList prog ops Q rest (a.put o.dst (.agg (az true fun _=>0).toArray)) w):wpList prog ops Q (o::rest) a w:=by
 have e:prog.built 24 ((#[(0,.const (.bool true))]:Array (Nat×Operand)).map fun(i,z)=>(i,a.eval z)).toList=some (az true fun _=>0).toArray:=by simp only[List.map_toArray,List.map_cons,List.map_nil];exact OU
 refine wpList_build hg 24 _ ho (by rw[e];rfl) ?_;rw[e];exact h
theorem DX(g k2:Nat)(hk:k2≤14)(W:World):(Instr.sliceAt 22 (.pointer (some ⟨g,1,none⟩)) (some (.int .i64 (k2:Int))) none none).run prog W=.ok (.slice (some ⟨g,1+k2,none⟩) (16 - k2) (16 - k2)) W:=by
 have hal:prog.arrayLen 22=16:=by kernel_rfl
 rw[run_sliceAt_array_l (P:=prog) W 22 ⟨g,1,none⟩ (by kernel_rfl) .i64 (k2:Int) (by omega) (by omega)];have h16:¬16=k2:=by omega
 go_simp
theorem mQ.mj{w:World}{A:Option Go.Addr}{n c:Nat}{xs:List Nat}(h:Own w 62 1 (.slice A n c) n (gK xs)):mQ w A xs:=fun h0=>by
 have hl:xs.length=n:=by have:=h.len;rw[gJ]at this;omega
 obtain⟨g,o,c',hv,_,_,hg⟩:=h.some_ (by omega);injection hv with hA _ hc;subst hA hc;refine⟨⟨g,o,none⟩,rfl,hg,fun j u hu=>h.ja j _ ?_⟩;unfold gK;rw[VJ,hu];rfl
def rowOf(n:Nat)(z:Value):Array Value:=Array.replicate n z
theorem JY(n:Nat)(hb:n≤8)(W:World):(Instr.makeSlice 158 (.int .i64 (n:Int)) (.int .i64 (n:Int))).run prog W=.ok (.slice (some ⟨W.heap.size,0,none⟩) n n) (W.alloc (.cells (rowOf n (.int .u16 0)) 62)):=by
 obtain⟨i,hi,hy0,hy1,hy2⟩:=info_parts Tryz.Ks;have hb':(i.bytes:Int)*(n:Int)≤281474976710656:=by rw[hy2];omega
 have h:=run_make (P:=prog) W 158 62 i _ underlying158 hi hy0 .i64 .i64 n n (by omega) (Int.le_refl _) hb' (by omega);simp only[Int.toNat_natCast,hy1,Nat.mul_one]at h;rw[h];have e1:madeCells (VQ Wc 0).cells n=rowOf n (.int .u16 0):=by
  rw[show(VQ Wc 0).cells=#[.int .u16 0]from rfl];unfold madeCells rowOf;apply Array.ext
  ·simp
  ·intro j h1 h2
   simp[Nat.mod_one]
 rw[e1]
theorem mQ.Pm(W:World)(n:Nat):mQ (W.alloc (.cells (rowOf n (.int .u16 0)) 62)) (some ⟨W.heap.size,0,none⟩) (VO n 0):=fun _=>by
 have hb:=aq.new W 62 (rowOf n (.int .u16 0));refine⟨⟨W.heap.size,0,none⟩,rfl,hb.lt,fun j u hu=>?_⟩;rw[Lib.add_plain,Wt];refine hb.cell_of ?_;rw[List.getElem?_replicate]at hu;split at hu
 ·rename_i hj
  injection hu with hu;subst hu;simp[rowOf,hj]
 ·cases hu
def qa(s:List UInt8)(w:World)(e:Ending)(w':World):Prop:=
 ∃(n:Nat) (ok:Bool),e=.returned (.tuple #[.agg (eA true n).toArray,.bool ok])∧ah [] w w'∧n < 2^128∧(ok=true→db (bD n)=s)∧∀m,m < 2^128→s=db (bD m)→n=m∧ok=true
theorem rK{s:List UInt8}{w w':World}(f:Nat→Nat)(hf:∀j,f j < 256)(hC:ah [] w w')(h:∀m,s=db (bD m)→False):qa s w (.returned (.tuple #[.agg (az true f).toArray,.bool false])) w':=by obtain⟨n,hn,he,_⟩:=uY true f hf;rw[he];exact⟨n,false,rfl,hC,hn,fun h=>(by cases h),fun m _ h2=>(h m h2).elim⟩
set_option maxHeartbeats 8000000 in
theorem Qe(s:List UInt8)(hs:s.length≤100000000)(w:World)(HL:dD w):Calls prog 42 #[.string ⟨s.toArray⟩] w (qa s w):=by
 have HCUT:=hid (fun W (hW:dD W)=>KW s [58,58] (by omega) W hW);have hcl:=Fc s [58,58];have HCAN:=hid (fun(x1 x2:List Nat) (o1 o2:Bool)=>Io (s:=s) (x1:=x1) (x2:=x2) (o1:=o1) (o2:=o2));obtain⟨hd,hhd⟩:∃x,x=(Lib.cut s [58,58]).1:=⟨_,rfl⟩;obtain⟨tl,htl⟩:∃x,x=(Lib.cut s [58,58]).2.1:=⟨_,rfl⟩;obtain⟨b,hb⟩:∃x,x=(Lib.cut s [58,58]).2.2:=⟨_,rfl⟩;rw[←hhd,←htl]at hcl;rw[←hhd,←htl,←hb]at HCUT HCAN;clear hhd htl hb;have HC1:=hid (fun W (hW:dD W)=>AZ hd (by omega) W hW);have HC2:=hid (fun W (hW:dD W)=>AZ tl (by omega) W hW);have HR:=hid (show aq ((w.alloc (.cells (az false fun _=>0).toArray 24)).alloc (.cells (az false fun _=>0).toArray 24)) w.heap.size 24 (az false fun _=>0)from(aq.new w 24 (az false fun _=>0).toArray).alloc _);have HA:=hid (show aq ((w.alloc (.cells (az false fun _=>0).toArray 24)).alloc (.cells (az false fun _=>0).toArray 24)) (w.heap.size+1) 24 (az false fun _=>0)from aq.eO _ 24 (az false fun _=>0).toArray (by simp));have HR1:=hid ((show aq (((w.alloc (.cells (az false fun _=>0).toArray 24)).alloc (.cells (az false fun _=>0).toArray 24)).setRow (w.heap.size+1) (az true fun _=>0).toArray) w.heap.size 24 (az false fun _=>0)from HR.out.aD (S:=[w.heap.size+1]) ((ah.refl _ _).setRow (.inl (by simp)) _) (by simp)));have HA1:=hid (HA.out.row (az true fun _=>0));have HCH:=hid ((((ah.refl [] w).alloc (.cells (az false fun _=>0).toArray 24)).alloc (.cells (az false fun _=>0).toArray 24)).setRow (g:=w.heap.size+1) (.inr (by omega)) (az true fun _=>0).toArray);have HL1:=hid (HL.cW HCH.out);have HLW:=hid HL.low;have HSL:=hid hs;have HCL:=hid hcl;clear HL hs hcl;go_enter func42,ntmps42
 go_wp2_with (first
  | (go_at_call 48;refine(HCUT.out _ HL1.out).mono ?_;rintro e w2 ⟨rfl,C2⟩)
  | (go_at_call 96;refine(HC1.out _ (HL1.out.cW C2)).mono ?_)
  | (refine UO rfl rfl ?_)
  | (refine jF rfl _ _ rfl (w.heap.size+1) true (fun _=>0) rfl rfl 24 _ HA.out (ay _ _) ?_))
 rintro e w3 ⟨A1,n1,c1,x1,o1,rfl,hAc1,hx1,hn1,hcan1⟩;have HAc1:=hid hAc1;have HX1:=hid hx1;have HCN1:=hid hcan1;clear hAc1 hx1 hcan1;go_wp2_with (go_at_call 96;refine(HC2.out _ ((HL1.out.cW C2).cW HAc1.out.aD)).mono ?_)
 rintro e w4 ⟨A2,n2,c2,x2,o2,rfl,hAc2,hx2,hn2,hcan2⟩;have HAc2:=hid hAc2;have HX2:=hid hx2;have HCN2:=hid hcan2;clear hAc2 hx2 hcan2;have HCH4:=hid ((C2.trans HAc1.out.aD).trans HAc2.out.aD);have HA4:=hid (HA1.out.aD HCH4.out (by simp));have HR4:=hid (HR1.out.aD HCH4.out (by simp));have HC4:=hid (HCH.out.trans HCH4.out);have HL4:=hid (HL1.out.cW HCH4.out);have HW:=hid (HCAN.out x1 x2 o1 o2 HCN1.out HCN2.out);have hl1:x1.length=n1:=by have:=HAc1.out.own.len;rw[gJ]at this;omega
 have hl2:x2.length=n2:=by have:=HAc2.out.own.len;rw[gJ]at this;omega
 have S1:=hid ((mQ.mj HAc1.out.own).aD HAc2.out.aD);have S2:=hid (mQ.mj HAc2.out.own);have b1:n1≤100000001:=by have:=HSL.out;have:=HCL.out;omega
 have b2:n2≤100000001:=by have:=HSL.out;have:=HCL.out;omega
 clear HAc1 HAc2 HCN1 HCN2 hn1 hn2 HC1 HC2 HCUT HCAN HA1 HR1 HA HR HCL C2;cases o1 with
 |false=>
  have HF:=hid (show ∀m,s=db (bD m)→False from fun m h=>by have:=(HW.out m h).1;cases this);go_wp2_with (first | (refine vx rfl _ rfl (w.heap.size+1) rfl 24 true (fun _=>0) HA4.out ?_) | (refine jF rfl _ _ rfl w.heap.size true (fun _=>0) rfl rfl 24 _ HR4.out (ay _ _) ?_))
  refine bodyPost_ret (jj rfl _ _ w.heap.size true (fun _=>0) 24 _ rfl rfl (HR4.out.row (az true (fun _=>0)))) rfl ?_;exact rK (fun _=>0) (fun _=>by show 0 < 256;omega) (HC4.out.setRow (.inr (VE _)) _) HF.out
 |true=>
  cases o2 with
  |false=>
   have HF:=hid (show ∀m,s=db (bD m)→False from fun m h=>by have:=(HW.out m h).2.1;cases this);go_wp2_with (first | (refine vx rfl _ rfl (w.heap.size+1) rfl 24 true (fun _=>0) HA4.out ?_) | (refine jF rfl _ _ rfl w.heap.size true (fun _=>0) rfl rfl 24 _ HR4.out (ay _ _) ?_))
   refine bodyPost_ret (jj rfl _ _ w.heap.size true (fun _=>0) 24 _ rfl rfl (HR4.out.row (az true (fun _=>0)))) rfl ?_;exact rK (fun _=>0) (fun _=>by show 0 < 256;omega) (HC4.out.setRow (.inr (VE _)) _) HF.out
  |true=>
   by_cases h8:8 < n1+n2
   ·have i8:(8:Int) < (n1:Int)+(n2:Int):=by omega
    have HF:=hid (show ∀m,s=db (bD m)→False from fun m h=>by have:=(HW.out m h).2.2.1;omega);go_wp2_with (first | (refine vx rfl _ rfl (w.heap.size+1) rfl 24 true (fun _=>0) HA4.out ?_) | (refine jF rfl _ _ rfl w.heap.size true (fun _=>0) rfl rfl 24 _ HR4.out (ay _ _) ?_))
    refine bodyPost_ret (jj rfl _ _ w.heap.size true (fun _=>0) 24 _ rfl rfl (HR4.out.row (az true (fun _=>0)))) rfl ?_;exact rK (fun _=>0) (fun _=>by show 0 < 256;omega) (HC4.out.setRow (.inr (VE _)) _) HF.out
   ·cases b with
    |true=>
     obtain⟨z,hz⟩:∃z,z=8 - n1 - n2:=⟨_,rfl⟩;have HZ:=hid hz;clear hz;have i8:(n1:Int)+(n2:Int)≤8:=by omega
     have ez:(8:Int) - (n1:Int) - (n2:Int)=(z:Int):=by have:=HZ.out; omega
     have hmk:=JY z (by have:=HZ.out;omega)
     have HCON:=hid (AY (w4.heap.size+1) ((w4.alloc (.cells (rowOf z (.int .u16 0)) 62)).alloc (.cells #[.slice A1 n1 c1,.slice (some ⟨w4.heap.size,0,none⟩) z z,.slice A2 n2 c2] 158)) A1 (some ⟨w4.heap.size,0,none⟩) A2 c1 z c2 x1 (VO z 0) x2 (by rw[VL,hl1,hl2];have:=HZ.out;omega)
      (by rw[hl1];exact(aq.eO _ 158 #[.slice A1 n1 c1,.slice (some ⟨w4.heap.size,0,none⟩) z z,.slice A2 n2 c2] (by simp)).cell_of (i:=0) rfl)
      (by rw[VL];exact(aq.eO _ 158 #[.slice A1 n1 c1,.slice (some ⟨w4.heap.size,0,none⟩) z z,.slice A2 n2 c2] (by simp)).cell_of (i:=1) rfl)
      (by rw[hl2];exact(aq.eO _ 158 #[.slice A1 n1 c1,.slice (some ⟨w4.heap.size,0,none⟩) z z,.slice A2 n2 c2] (by simp)).cell_of (i:=2) rfl)
      (by simp)
      (S1.out.aD (((ah.refl _ _).alloc _).alloc _)) ((mQ.Pm w4 z).aD ((ah.refl _ _).alloc _)) (S2.out.aD (((ah.refl _ _).alloc _).alloc _)))
     obtain⟨L,hL⟩:∃L,L=x1++VO z 0++x2:=⟨_,rfl⟩;rw[←hL]at HCON;have HLW2:=hid (show ∀m,s=db (bD m)→L=bD m from fun m h=>by have:=(HW.out m h).2.2.2.2;rw[hl1,hl2]at this;rw[hL,←this,←HZ.out]);have hLl:L.length=8:=by rw[hL,VI,VI,VL,hl1,hl2];have:=HZ.out;omega
     have HLT:=hid (show ∀u∈L,u < 65536 from fun u hu=>by
      rw[hL,VN,VN]at hu;rcases hu with(hu|hu)|hu
      ·exact HX1.out u hu
      ·have:=(Wk.1 hu).2;omega
      ·exact HX2.out u hu)
     have HLL:=hid hLl;clear hL hLl;go_wp2_with (go_at_call 97;refine HCON.out.mono ?_)
     rintro e w5 ⟨G,cG,Lx,rfl,hG,hcG,hLx,C5⟩;have HA5:=hid (((HA4.out.alloc (.cells (rowOf z (.int .u16 0)) 62)).alloc (.cells #[.slice A1 n1 c1,.slice (some ⟨w4.heap.size,0,none⟩) z z,.slice A2 n2 c2] 158)).aD C5 (by simp));have HR5:=hid (((HR4.out.alloc (.cells (rowOf z (.int .u16 0)) 62)).alloc (.cells #[.slice A1 n1 c1,.slice (some ⟨w4.heap.size,0,none⟩) z z,.slice A2 n2 c2] 158)).aD C5 (by simp));have HC5:=hid (((HC4.out.alloc (.cells (rowOf z (.int .u16 0)) 62)).alloc (.cells #[.slice A1 n1 c1,.slice (some ⟨w4.heap.size,0,none⟩) z z,.slice A2 n2 c2] 158)).trans C5);have HL5:=hid (((HL4.out.alloc (.cells (rowOf z (.int .u16 0)) 62)).alloc (.cells #[.slice A1 n1 c1,.slice (some ⟨w4.heap.size,0,none⟩) z z,.slice A2 n2 c2] 158)).cW C5);have HG:=hid hG;have HLX:=hid hLx;clear hG hLx C5 HCON;go_wp2
     obtain⟨wq,hwq⟩:∃wq,wq=w5:=⟨_,rfl⟩;rw[←hwq]at HA5 HR5 HC5 HL5 HG ⊢;clear hwq;go_loopw [71] (fun iv wr=>∃k:Nat,k≤8∧iv=.int .i64 k∧aq wr w.heap.size 24 (az false fun _=>0)∧aq wr (w.heap.size+1) 24 (az true (bf L k))∧aq wr G 62 Lx∧ah [] w wr∧dD wr) (fun iv _=>8 - (RowKit.intOf iv).toNat)
     case atStart=>exact⟨0,by omega,rfl,HR5.out,HA5.out,HG.out,HC5.out,HL5.out⟩
     case round=>
      obtain⟨k,hk,rfl,hR,hA,hG,hC,hLN⟩:=hrel;by_cases hlt:k < 8
      ·obtain⟨u,hu⟩:∃u,L[k]?=some u:=⟨_,VG (by rw[HLL.out];exact hlt)⟩
       have cu:=hG.cell_of (HLX.out k u hu);have hu65:=HLT.out u (VF hu);have HPUT:=hid (PA u hu65);obtain⟨k2,hk2⟩:∃k2:Nat,k2=2*k:=⟨_,rfl⟩;have e2:(2:Int)*(k:Int)=(k2:Int):=by omega
       have k14:k2≤14:=by omega
       have w2k:VX.wrap (k2:Int)=(k2:Int):=by rw[VV];omega
       have h1:=PT L k u hu;have h2:=PS L k u hu;have h3:=Fk L k;rw[←hk2]at h1 h2 h3;have hsl:=DX (w.heap.size+1) k2 k14;have HQ1:=hid h1;have HQ2:=hid h2;have HQ3:=hid h3;have HR6:=hid hR;have HA6:=hid hA;have HG6:=hid hG;have HC6:=hid hC;have HL6:=hid hLN;have hne:w.heap.size+1≠G:=fun h=>by have:=aq.Ez hG hA (by decide);omega
       have HNE:=hid hne;clear hu h1 h2 h3 hR hA hG hC hLN hne hk2;go_wp2
       go_region_with (go_at_call 98; refine(HPUT.out _).mono ?_; rintro e w1 ⟨A,c,rfl,hP⟩; have hb1:aq w1 (w.heap.size+1) 24 (az true (bf L k)):=aq.aD (by exact HA6.out) hP.aD (by simp); have hcp:=AX hb1 k2 (u / 256) (u%256) k14 HQ1.out HQ2.out HQ3.out hP.own)
       all_goals go_wp2
       all_goals go_roundw
       all_goals first | (case measure=>simp[RowKit.intOf];omega)|skip
       all_goals refine⟨k+1,by omega,by go_num,?_,?_,?_,?_,?_⟩
       ·exact(aq.aD (by exact HR6.out) hP.aD (by simp)).aD (S:=[w.heap.size+1]) ((ah.refl _ _).setRow (.inl (by simp)) _) (by simp)
       ·exact hb1.row _
       ·exact(aq.aD (by exact HG6.out) hP.aD (by simp)).aD (S:=[w.heap.size+1]) ((ah.refl _ _).setRow (.inl (by simp)) _) (by simpa using fun h=>HNE.out h.symm)
       ·exact(ah.trans (by exact HC6.out.drew) hP.aD).setRow (.inr (by omega)) _
       ·exact(dD.cW (dD.cW HL6.out ((ah.refl [] _).drew)) hP.aD).aD (S:=[w.heap.size+1]) ((ah.refl _ _).setRow (.inl (by simp)) _) (by intro j hj;have:=HLW.out;rw[VM]at hj;omega)
      ·have hk8:k=8:=by omega
       subst hk8;obtain⟨n,hn,hen,hbn⟩:=uY true (bf L 8) (PR HLT.out 8);have hgr:=ER HLL.out hbn;rw[hen]at hA;have HAT:=hid (oK true n hn wr hLN);rw[show uQ true n=db (bD n)by unfold uQ;rw[xN];rfl]at HAT;obtain⟨T,hT⟩:∃T,T=db (bD n):=⟨_,rfl⟩;rw[←hT]at HAT;have HTT:=hid hT;have HFI:=hid (show ∀W,ah [] w W→qa s w (.returned (.tuple #[.agg (eA true n).toArray,.bool (T==s)])) W from fun W hW=>by
        refine⟨n,(T==s),rfl,hW,hn,fun h=>?_,fun m hm h=>?_⟩
        ·rw[←hT];exact eq_of_beq h
        ·have h1:n=m:=Az hn hm (by rw[hgr];exact HLW2.out m h)
         refine⟨h1,?_⟩;rw[hT,h1,h];exact beq_self_eq_true _)
       have HA7:=hid hA;have HR7:=hid hR;have HC7:=hid hC;clear hA hR hC hG hLN hT hgr hbn hen hn
       go_wp2_with (first
        | (go_at_call 53;refine HAT.out.mono ?_;rintro e w6 ⟨rfl,C6⟩)
        | (refine ib rfl _ rfl (w.heap.size+1) rfl 24 true n (HA7.out.aD C6 (by simp)) ?_)
        | (refine ib rfl _ rfl (w.heap.size+1) rfl 24 true n HA7.out ?_)
        | (refine jF rfl _ _ rfl w.heap.size true (an n) rfl rfl 24 _ (HR7.out.aD C6 (by simp)) (ay _ _) ?_))
       refine bodyPost_ret (jj rfl _ _ w.heap.size true (an n) 24 _ rfl rfl ((HR7.out.aD C6 (by simp)).row (eA true n))) rfl ?_;exact HFI.out _ ((HC7.out.trans C6).setRow (.inr (VE _)) _)
    |false=>
     by_cases h88:n1=8
     ·have h00:n2=0:=by omega
      subst h88 h00;have hmk:∀W:World,(Instr.makeSlice 158 (.int .i64 0) (.int .i64 0)).run prog W=.ok (.slice (some ⟨W.heap.size,0,none⟩) 0 0) (W.alloc (.cells (rowOf 0 (.int .u16 0)) 62)):=JY 0 (by omega)
      have HCON:=hid (AY (w4.heap.size+1) ((w4.alloc (.cells (rowOf 0 (.int .u16 0)) 62)).alloc (.cells #[.slice A1 8 c1,.slice (some ⟨w4.heap.size,0,none⟩) 0 0,.slice A2 0 c2] 158)) A1 (some ⟨w4.heap.size,0,none⟩) A2 c1 0 c2 x1 (VO 0 0) x2 (by rw[VL,hl1,hl2]<;>omega)
       (by rw[hl1];exact(aq.eO _ 158 #[.slice A1 8 c1,.slice (some ⟨w4.heap.size,0,none⟩) 0 0,.slice A2 0 c2] (by simp)).cell_of (i:=0) rfl)
       (by rw[VL];exact(aq.eO _ 158 #[.slice A1 8 c1,.slice (some ⟨w4.heap.size,0,none⟩) 0 0,.slice A2 0 c2] (by simp)).cell_of (i:=1) rfl)
       (by rw[hl2];exact(aq.eO _ 158 #[.slice A1 8 c1,.slice (some ⟨w4.heap.size,0,none⟩) 0 0,.slice A2 0 c2] (by simp)).cell_of (i:=2) rfl)
       (by simp)
       (S1.out.aD (((ah.refl _ _).alloc _).alloc _)) ((mQ.Pm w4 0).aD ((ah.refl _ _).alloc _)) (S2.out.aD (((ah.refl _ _).alloc _).alloc _)))
      obtain⟨L,hL⟩:∃L,L=x1++VO 0 0++x2:=⟨_,rfl⟩;rw[←hL]at HCON;have HLW2:=hid (show ∀m,s=db (bD m)→L=bD m from fun m h=>by have:=(HW.out m h).2.2.2.2;rw[hl1,hl2]at this;rw[hL,←this]);have hLl:L.length=8:=by rw[hL,VI,VI,VL,hl1,hl2]<;>omega
      have HLT:=hid (show ∀u∈L,u < 65536 from fun u hu=>by
       rw[hL,VN,VN]at hu;rcases hu with(hu|hu)|hu
       ·exact HX1.out u hu
       ·have:=(Wk.1 hu).2;omega
       ·exact HX2.out u hu)
      have HLL:=hid hLl;clear hL hLl;go_wp2_with (go_at_call 97;refine HCON.out.mono ?_)
      rintro e w5 ⟨G,cG,Lx,rfl,hG,hcG,hLx,C5⟩;have HA5:=hid (((HA4.out.alloc (.cells (rowOf 0 (.int .u16 0)) 62)).alloc (.cells #[.slice A1 8 c1,.slice (some ⟨w4.heap.size,0,none⟩) 0 0,.slice A2 0 c2] 158)).aD C5 (by simp));have HR5:=hid (((HR4.out.alloc (.cells (rowOf 0 (.int .u16 0)) 62)).alloc (.cells #[.slice A1 8 c1,.slice (some ⟨w4.heap.size,0,none⟩) 0 0,.slice A2 0 c2] 158)).aD C5 (by simp));have HC5:=hid (((HC4.out.alloc (.cells (rowOf 0 (.int .u16 0)) 62)).alloc (.cells #[.slice A1 8 c1,.slice (some ⟨w4.heap.size,0,none⟩) 0 0,.slice A2 0 c2] 158)).trans C5);have HL5:=hid (((HL4.out.alloc (.cells (rowOf 0 (.int .u16 0)) 62)).alloc (.cells #[.slice A1 8 c1,.slice (some ⟨w4.heap.size,0,none⟩) 0 0,.slice A2 0 c2] 158)).cW C5);have HG:=hid hG;have HLX:=hid hLx;clear hG hLx C5 HCON;go_wp2
      obtain⟨wq,hwq⟩:∃wq,wq=w5:=⟨_,rfl⟩;rw[←hwq]at HA5 HR5 HC5 HL5 HG ⊢;clear hwq;go_loopw [71] (fun iv wr=>∃k:Nat,k≤8∧iv=.int .i64 k∧aq wr w.heap.size 24 (az false fun _=>0)∧aq wr (w.heap.size+1) 24 (az true (bf L k))∧aq wr G 62 Lx∧ah [] w wr∧dD wr) (fun iv _=>8 - (RowKit.intOf iv).toNat)
      case atStart=>exact⟨0,by omega,rfl,HR5.out,HA5.out,HG.out,HC5.out,HL5.out⟩
      case round=>
       obtain⟨k,hk,rfl,hR,hA,hG,hC,hLN⟩:=hrel;by_cases hlt:k < 8
       ·obtain⟨u,hu⟩:∃u,L[k]?=some u:=⟨_,VG (by rw[HLL.out];exact hlt)⟩
        have cu:=hG.cell_of (HLX.out k u hu);have hu65:=HLT.out u (VF hu);have HPUT:=hid (PA u hu65);obtain⟨k2,hk2⟩:∃k2:Nat,k2=2*k:=⟨_,rfl⟩;have e2:(2:Int)*(k:Int)=(k2:Int):=by omega
        have k14:k2≤14:=by omega
        have w2k:VX.wrap (k2:Int)=(k2:Int):=by rw[VV];omega
        have h1:=PT L k u hu;have h2:=PS L k u hu;have h3:=Fk L k;rw[←hk2]at h1 h2 h3;have hsl:=DX (w.heap.size+1) k2 k14;have HQ1:=hid h1;have HQ2:=hid h2;have HQ3:=hid h3;have HR6:=hid hR;have HA6:=hid hA;have HG6:=hid hG;have HC6:=hid hC;have HL6:=hid hLN;have hne:w.heap.size+1≠G:=fun h=>by have:=aq.Ez hG hA (by decide);omega
        have HNE:=hid hne;clear hu h1 h2 h3 hR hA hG hC hLN hne hk2;go_wp2
        go_region_with (go_at_call 98; refine(HPUT.out _).mono ?_; rintro e w1 ⟨A,c,rfl,hP⟩; have hb1:aq w1 (w.heap.size+1) 24 (az true (bf L k)):=aq.aD (by exact HA6.out) hP.aD (by simp); have hcp:=AX hb1 k2 (u / 256) (u%256) k14 HQ1.out HQ2.out HQ3.out hP.own)
        all_goals go_wp2
        all_goals go_roundw
        all_goals first | (case measure=>simp[RowKit.intOf];omega)|skip
        all_goals refine⟨k+1,by omega,by go_num,?_,?_,?_,?_,?_⟩
        ·exact(aq.aD (by exact HR6.out) hP.aD (by simp)).aD (S:=[w.heap.size+1]) ((ah.refl _ _).setRow (.inl (by simp)) _) (by simp)
        ·exact hb1.row _
        ·exact(aq.aD (by exact HG6.out) hP.aD (by simp)).aD (S:=[w.heap.size+1]) ((ah.refl _ _).setRow (.inl (by simp)) _) (by simpa using fun h=>HNE.out h.symm)
        ·exact(ah.trans (by exact HC6.out.drew) hP.aD).setRow (.inr (by omega)) _
        ·exact(dD.cW (dD.cW HL6.out ((ah.refl [] _).drew)) hP.aD).aD (S:=[w.heap.size+1]) ((ah.refl _ _).setRow (.inl (by simp)) _) (by intro j hj;have:=HLW.out;rw[VM]at hj;omega)
       ·have hk8:k=8:=by omega
        subst hk8;obtain⟨n,hn,hen,hbn⟩:=uY true (bf L 8) (PR HLT.out 8);have hgr:=ER HLL.out hbn;rw[hen]at hA;have HAT:=hid (oK true n hn wr hLN);rw[show uQ true n=db (bD n)by unfold uQ;rw[xN];rfl]at HAT;obtain⟨T,hT⟩:∃T,T=db (bD n):=⟨_,rfl⟩;rw[←hT]at HAT;have HTT:=hid hT;have HFI:=hid (show ∀W,ah [] w W→qa s w (.returned (.tuple #[.agg (eA true n).toArray,.bool (T==s)])) W from fun W hW=>by
         refine⟨n,(T==s),rfl,hW,hn,fun h=>?_,fun m hm h=>?_⟩
         ·rw[←hT];exact eq_of_beq h
         ·have h1:n=m:=Az hn hm (by rw[hgr];exact HLW2.out m h)
          refine⟨h1,?_⟩;rw[hT,h1,h];exact beq_self_eq_true _)
        have HA7:=hid hA;have HR7:=hid hR;have HC7:=hid hC;clear hA hR hC hG hLN hT hgr hbn hen hn
        go_wp2_with (first
         | (go_at_call 53;refine HAT.out.mono ?_;rintro e w6 ⟨rfl,C6⟩)
         | (refine ib rfl _ rfl (w.heap.size+1) rfl 24 true n (HA7.out.aD C6 (by simp)) ?_)
         | (refine ib rfl _ rfl (w.heap.size+1) rfl 24 true n HA7.out ?_)
         | (refine jF rfl _ _ rfl w.heap.size true (an n) rfl rfl 24 _ (HR7.out.aD C6 (by simp)) (ay _ _) ?_))
        refine bodyPost_ret (jj rfl _ _ w.heap.size true (an n) 24 _ rfl rfl ((HR7.out.aD C6 (by simp)).row (eA true n))) rfl ?_;exact HFI.out _ ((HC7.out.trans C6).setRow (.inr (VE _)) _)
     ·have i88:decide ((n1:Int)=8)=false:=decide_eq_false (by omega)
      have i89:((n1:Int)==8)=false:=by rw[beq_eq_false_iff_ne];omega
      have i87:((n1:Int) !=8)=true:=by rw[bne_iff_ne];omega
      have i8:(n1:Int)+(n2:Int)≤8:=by omega
      have HF:=hid (show ∀m,s=db (bD m)→False from fun m h=>by
       have:=(HW.out m h).2.2.2.1;rcases this with h|h
       ·cases h
       ·omega)
      go_wp2_with (first | (refine vx rfl _ rfl (w.heap.size+1) rfl 24 true (fun _=>0) HA4.out ?_) | (refine jF rfl _ _ rfl w.heap.size true (fun _=>0) rfl rfl 24 _ HR4.out (ay _ _) ?_))
      refine bodyPost_ret (jj rfl _ _ w.heap.size true (fun _=>0) 24 _ rfl rfl (HR4.out.row (az true (fun _=>0)))) rfl ?_;exact rK (fun _=>0) (fun _=>by show 0 < 256;omega) (HC4.out.setRow (.inr (VE _)) _) HF.out
set_option maxRecDepth 100000
open Go.RowKit Go.Lib Go.Sort _root_.Go.Proofs.Tryz
set_option maxRecDepth 100000
def LU(s:List UInt8)(v:Bool)(n:Nat):Prop:=n < 2^128∧vr v n=true∧iI v n=s
def RN(s:List UInt8)(w:World)(e:Ending)(w':World):Prop:=
 ∃(v:Bool) (n:Nat) (er:Int),e=.returned (.tuple #[.agg (eA v n).toArray,.int .i64 er])∧ah [] w w'∧((er=0∧LU s v n∧∀v' m,LU s v' m→v'=v∧m=n)∨(er=150∧v=false∧n=0∧∀v' m,¬LU s v' m))
theorem Ll:prog.built 24 []=some (eA false 0).toArray:=by kernel_rfl
theorem PU{ops:Array Oper}{rest:List Oper}{o:Oper}{a:Act}{w:World}{Q:Exit→Act→World→Prop}(hg:o.guard=none)(ho:o.op=.build 24 #[])
  (h:wpList prog ops Q rest (a.put o.dst (.agg (eA false 0).toArray)) w):wpList prog ops Q (o::rest) a w:=by
 have e:prog.built 24 ((#[]:Array (Nat×Operand)).map fun(i,z)=>(i,a.eval z)).toList=some (eA false 0).toArray:=by rw[Array.map_empty];exact Ll
 refine wpList_build hg 24 _ ho (by rw[e];rfl) ?_;rw[e];exact h
theorem wJ{s:List UInt8}{m:Nat}(h:LU s true m):(58:UInt8)∈s:=by rw[←h.2.2];exact Dk m
theorem wI{s:List UInt8}{m:Nat}(h:LU s false m):(58:UInt8)∉s:=by rw[←h.2.2];exact Bb m
theorem Jj{w w3:World}{v:Bool}{n:Nat}(h:aq w3 w.heap.size 24 (az false fun _=>0)):aq ((w3.alloc (.cells (az false fun _=>0).toArray 24)).setRow w3.heap.size (az v (an n)).toArray) w.heap.size 24 (az false fun _=>0):=
 (h.alloc _).aD (S:=[w3.heap.size]) ((ah.refl _ _).setRow (.inl (by simp)) _) (by have:=h.lt;simp;omega)
set_option maxHeartbeats 4000000 in
theorem Cn(s:List UInt8)(hs:s.length≤100000000)(w:World)(HL:dD w):Calls prog 14 #[.string ⟨s.toArray⟩] w (RN s w):=by
 have HR:=hid (aq.new w 24 (az false fun _=>0).toArray);have HC:=hid ((ah.refl [] w).alloc (.cells (az false fun _=>0).toArray 24));have HL1:=hid (HL.alloc (.cells (az false fun _=>0).toArray 24));have HCT:=hid (Di s 58);have HW:=hid (fun W (hW:dD W)=>Qe s hs W hW);have HD:=hid (fun W (hW:dD W)=>KQ s hs W hW);clear HL;by_cases hc:(58:UInt8)∈s
 ·rw[decide_eq_true hc]at HCT
  have HCC:=hid hc;clear hc;go_enter func14,ntmps14
  go_wp2_with (first | (go_at_call 43;refine(HCT.out _).mono ?_;rintro e w2 ⟨rfl,hw2⟩;subst hw2) | (go_at_call 42;refine(HW.out _ HL1.out).mono ?_))
  rintro e w3 ⟨n,ok,rfl,C3,hn,hok,hcan⟩;have HN:=hid hn;have HOK:=hid hok;have HCAN:=hid hcan;have HW3:=hid (We (VP (HR.out.lt)) C3.size);have HC3:=hid ((HC.out.trans C3).alloc (.cells (az false fun _=>0).toArray 24));have HRW:=hid (Jj (w:=w) (v:=true) (n:=n) (HR.out.aD C3 (by simp)));clear hn hok hcan HR HC HW HD HCT;cases ok with
  |true=>
   have HF:=hid (show LU s true n∧∀v' m,LU s v' m→v'=true∧m=n from⟨⟨HN.out,xN n,HOK.out rfl⟩,fun v' m hm=>by
    cases v' with
    |true=>exact⟨rfl,(HCAN.out m hm.1 hm.2.2.symm).1.symm⟩
    |false=>exact absurd HCC.out (wI hm)⟩)
   go_wp2_with (first
    | (refine jF rfl _ _ rfl w3.heap.size true (an n) rfl rfl 24 _ (aq.new w3 24 (az false fun _=>0).toArray) (ay _ _) ?_)
    | (refine ib rfl _ rfl w3.heap.size rfl 24 true n ((aq.new w3 24 (az false fun _=>0).toArray).row _) ?_)
    | (refine jF rfl _ _ rfl w.heap.size true (an n) rfl rfl 24 (az false fun _=>0) HRW.out (ay _ _) ?_))
   refine bodyPost_ret (jj rfl _ _ w.heap.size true (an n) 24 _ rfl rfl (HRW.out.row (eA true n))) rfl ?_;exact⟨true,n,0,rfl,(HC3.out.setRow (.inr HW3.out) _).setRow (.inr (VE _)) _,.inl ⟨rfl,HF.out.1,HF.out.2⟩⟩
  |false=>
   have HF:=hid (show ∀v' m,¬LU s v' m from fun v' m hm=>by
    cases v' with
    |true=>exact absurd (HCAN.out m hm.1 hm.2.2.symm).2 (by decide)
    |false=>exact absurd HCC.out (wI hm))
   go_wp2_with (first
    | (refine jF rfl _ _ rfl w3.heap.size true (an n) rfl rfl 24 _ (aq.new w3 24 (az false fun _=>0).toArray) (ay _ _) ?_)
    | (refine PU rfl rfl ?_)
    | (refine jF rfl _ _ rfl w.heap.size false (an 0) rfl rfl 24 (az false fun _=>0) HRW.out (ay _ _) ?_))
   refine bodyPost_ret (jj rfl _ _ w.heap.size false (an 0) 24 _ rfl rfl (HRW.out.row (eA false 0))) rfl ?_;exact⟨false,0,150,rfl,(HC3.out.setRow (.inr HW3.out) _).setRow (.inr (VE _)) _,.inr ⟨rfl,rfl,rfl,HF.out⟩⟩
 ·rw[decide_eq_false hc]at HCT
  have HCC:=hid hc;clear hc;go_enter func14,ntmps14
  go_wp2_with (first | (go_at_call 43;refine(HCT.out _).mono ?_;rintro e w2 ⟨rfl,hw2⟩;subst hw2) | (go_at_call 44;refine(HD.out _ HL1.out).mono ?_))
  rintro e w3 ⟨n,ok,rfl,C3,hn,hok,hcan⟩;have HN:=hid hn;have HOK:=hid hok;have HCAN:=hid hcan;have HW3:=hid (We (VP (HR.out.lt)) C3.size);have HC3:=hid ((HC.out.trans C3).alloc (.cells (az false fun _=>0).toArray 24));have HRW:=hid (Jj (w:=w) (v:=false) (n:=n) (HR.out.aD C3 (by simp)));clear hn hok hcan HR HC HW HD HCT;cases ok with
  |true=>
   have HF:=hid (show LU s false n∧∀v' m,LU s v' m→v'=false∧m=n from⟨⟨HN.out,(HOK.out rfl).1,(HOK.out rfl).2⟩,fun v' m hm=>by
    cases v' with
    |false=>exact⟨rfl,(HCAN.out m hm.1 hm.2.1 hm.2.2.symm).1.symm⟩
    |true=>exact absurd (wJ hm) HCC.out⟩)
   go_wp2_with (first
    | (refine jF rfl _ _ rfl w3.heap.size false (an n) rfl rfl 24 _ (aq.new w3 24 (az false fun _=>0).toArray) (ay _ _) ?_)
    | (refine ib rfl _ rfl w3.heap.size rfl 24 false n ((aq.new w3 24 (az false fun _=>0).toArray).row _) ?_)
    | (refine jF rfl _ _ rfl w.heap.size false (an n) rfl rfl 24 (az false fun _=>0) HRW.out (ay _ _) ?_))
   refine bodyPost_ret (jj rfl _ _ w.heap.size false (an n) 24 _ rfl rfl (HRW.out.row (eA false n))) rfl ?_;exact⟨false,n,0,rfl,(HC3.out.setRow (.inr HW3.out) _).setRow (.inr (VE _)) _,.inl ⟨rfl,HF.out.1,HF.out.2⟩⟩
  |false=>
   have HF:=hid (show ∀v' m,¬LU s v' m from fun v' m hm=>by
    cases v' with
    |false=>exact absurd (HCAN.out m hm.1 hm.2.1 hm.2.2.symm).2 (by decide)
    |true=>exact absurd (wJ hm) HCC.out)
   go_wp2_with (first
    | (refine jF rfl _ _ rfl w3.heap.size false (an n) rfl rfl 24 _ (aq.new w3 24 (az false fun _=>0).toArray) (ay _ _) ?_)
    | (refine PU rfl rfl ?_)
    | (refine jF rfl _ _ rfl w.heap.size false (an 0) rfl rfl 24 (az false fun _=>0) HRW.out (ay _ _) ?_))
   refine bodyPost_ret (jj rfl _ _ w.heap.size false (an 0) 24 _ rfl rfl (HRW.out.row (eA false 0))) rfl ?_;exact⟨false,0,150,rfl,(HC3.out.setRow (.inr HW3.out) _).setRow (.inr (VE _)) _,.inr ⟨rfl,rfl,rfl,HF.out⟩⟩
open Go.RowKit Go.Lib Go.Sort
theorem rX{v:Bool}{n:Nat}{k:Int}(h:gv v n k=true):vr v n=true:=by unfold gv at h;simp only[Bool.and_eq_true,decide_eq_true_eq]at h;obtain⟨⟨h1,h2⟩,h3⟩:=h;have:=zP v n k.toNat (by omega);rwa [h3]at this
theorem tB{v:Bool}{n:Nat}{k:Int}(h:gv v n k=true):0≤k∧k≤128:=by have hw:=nU v;unfold gv at h;simp only[Bool.and_eq_true,decide_eq_true_eq]at h;omega
theorem vG(v:Bool)(n:Nat):(iI v n).length≤8000:=by
 cases v with
 |false=>have h:=iB 46 3 [ao 10 (an n 0),ao 10 (an n 1),ao 10 (an n 2),ao 10 (an n 3)] (fun x hx=>by simp at hx;rcases hx with rfl|rfl|rfl|rfl<;>exact gA (by have:=bH n 0;have:=bH n 1;have:=bH n 2;have:=bH n 3;omega));show(gk n).length≤8000;unfold gk;simp only[VZ,Wq]at h;omega
 |true=>
  have hj:∀m:List Nat,(∀u∈m,u < 65536)→m.length≤8→(cH m).length≤40:=fun m hm hm8=>by have:=iB 58 4 (m.map (ao 16)) (fun x hx=>by rw[Wd]at hx;obtain⟨u,hu,rfl⟩:=hx;exact iX (hm u hu));rw[VS]at this;unfold cH;omega
  show(db (bD n)).length≤8000;unfold db;split
  ·have:=hj (bD n) (fun u hu=>ga hu) (by rw[ej];omega)
   omega
  ·have h1:=hj ((bD n).take (fG (zs (bD n))).1) (fun u hu=>ga (Wg hu)) (by rw[VR,ej];omega)
   have h2:=hj ((bD n).drop (fG (zs (bD n))).2) (fun u hu=>ga (Wh hu)) (by rw[VY,ej];omega);simp only[VI,VZ];omega
def oT(v:Bool)(n:Nat)(k:Int):List UInt8:=iI v n++(47::ao 10 k.toNat)
def tm(v:Bool)(n:Nat)(k:Int):List UInt8:=if gv v n k then oT v n k else []
set_option maxHeartbeats 4000000 in
theorem BT(v:Bool)(n:Nat)(k:Int)(hn:n < 2^128)(w:World)(HL:dD w):Calls prog 72 #[.agg (ep v n k).toArray] w fun e w'=>e=.returned (.tuple #[.string ⟨(tm v n k).toArray⟩,.int .i64 (fH v n k)])∧ah [] w w':=by
 have HB:=hid (aq.new w 29 (ep v n k).toArray);have HC:=hid ((ah.refl [] w).alloc (.cells (ep v n k).toArray 29));have HL1:=hid (HL.alloc (.cells (ep v n k).toArray 29));have HK:=hid (sb v n k hn);have HAT:=hid (fun W (hW:dD W)=>oK v n hn W hW);clear HL;by_cases h1:gv v n k=true
 ·have hb:=tB h1
  have HE:=hid (show fH v n k=0 by unfold fH;rw[if_pos h1]);rw[show pR v n=0 by unfold pR;rw[if_pos (rX h1)],show uQ v n=iI v n by unfold uQ;rw[if_pos (rX h1)]]at HAT;obtain⟨K,rfl⟩:∃K:Nat,k=(K:Int):=⟨k.toNat,by omega⟩;have HT:=hid (show tm v n K=iI v n++(47::ao 10 K)by unfold tm;rw[if_pos h1];rfl);have hlen:=vG v n;obtain⟨X,hX⟩:∃X,X=iI v n:=⟨_,rfl⟩;rw[←hX]at HAT HT hlen;have hd:(ao 10 K).length≤3:=gA (by omega);have had1:∀W,(Op.stringOp .add ⟨X.toArray⟩ ⟨#[47]⟩).run prog W=.ok (.string ⟨(X++[47]).toArray⟩) W:=fun W=>run_string_add_lists W X [47] (by omega) (by decide);have had2:∀W,(Op.stringOp .add ⟨(X++[47]).toArray⟩ ⟨(ao 10 K).toArray⟩).run prog W=.ok (.string ⟨(X++(47::ao 10 K)).toArray⟩) W:=fun W=>by have:=run_string_add_lists (P:=prog) W (X++[47]) (ao 10 K) (by simp;omega) (by omega);rw[this];simp
  have HIT:=hid (fun W (hW:dD W)=>Kn K (by omega) W hW);clear hX hlen hd;rw[HE.out]at HK ⊢;rw[HT.out];go_enter func72,ntmps72
  go_wp2_with (first
   | (go_at_call 50;refine(HK.out _).mono ?_;rintro e w2 ⟨rfl,C2⟩)
   | (go_at_call 53;refine(HAT.out _ (HL1.out.cW C2)).mono ?_;rintro e w3 ⟨rfl,C3⟩;have ck:=((HB.out.aD C2 (by simp)).aD C3 (by simp)).cell_of (ph v n K))
   | (go_at_call 71;refine(HIT.out _ ((HL1.out.cW C2).cW C3)).mono ?_;rintro e w4 ⟨rfl,C4⟩)
   | (refine Td rfl _ rfl w.heap.size rfl 29 v n K (HB.out.aD C2 (by simp)) ?_)
   | (refine QU rfl _ rfl w.heap.size rfl 29 v n K HB.out ?_))
  go_ret2
  exact⟨rfl,((HC.out.trans C2).trans C3).trans C4⟩
 ·have HE:=hid (show fH v n k=151 by unfold fH;rw[if_neg h1])
  have HT:=hid (show tm v n k=[] by unfold tm;rw[if_neg h1]);rw[HE.out]at HK ⊢;rw[HT.out];go_enter func72,ntmps72
  go_wp2_with (first
   | (go_at_call 50;refine(HK.out _).mono ?_;rintro e w2 ⟨rfl,C2⟩)
   | (refine QU rfl _ rfl w.heap.size rfl 29 v n k HB.out ?_))
  go_ret2
  exact⟨rfl,HC.out.trans C2⟩
open Go.RowKit Go.Lib Go.Sort
def BL(s:List UInt8)(v:Bool)(n:Nat)(k:Int):Prop:=n < 2^128∧gv v n k=true∧oT v n k=s
def RM(s:List UInt8)(w:World)(e:Ending)(w':World):Prop:=
 ∃(v:Bool) (n:Nat) (k:Int) (er:Int),e=.returned (.tuple #[.agg (ep v n k).toArray,.int .i64 er])∧ah [] w w'∧((er=0∧BL s v n k∧∀v' m j,BL s v' m j→v'=v∧m=n∧j=k)∨(er=151∧v=false∧n=0∧k=0∧∀v' m j,¬BL s v' m j))
theorem zp(v:Bool)(n:Nat):(47:UInt8)∉iI v n:=by
 have hd:∀u,(47:UInt8)∉ao 10 u:=fun u=>iD (by omega) (by omega) (.inl (by decide));have hx:∀u,(47:UInt8)∉ao 16 u:=fun u=>iD (by omega) (by omega) (.inl (by decide));have hj:∀l:List Nat,(47:UInt8)∉cH l:=fun l h=>by
  rcases fe h with h|⟨x,hx2,h⟩
  ·exact absurd h (by decide)
  ·rw[Wd]at hx2
   obtain⟨u,_,rfl⟩:=hx2;exact hx u h
 cases v with
 |false=>
  intro h;rcases fe (show(47:UInt8)∈gk n from h)with h|⟨x,hx,h⟩
  ·exact absurd h (by decide)
  ·simp at hx
   rcases hx with rfl|rfl|rfl|rfl<;>exact hd _ h
 |true=>
  show(47:UInt8)∉db (bD n);unfold db;split
  ·exact hj _
  ·intro h
   rw[VN,VU,VU]at h;rcases h with h|h|h|h
   ·exact hj _ h
   ·exact absurd h (by decide)
   ·exact absurd h (by decide)
   ·exact hj _ h
theorem wW(l m:List UInt8)(h:(47:UInt8)∉l):Lib.cut (l++47::m) [47]=(l,m,true):=by unfold Lib.cut;rw[oB 47 l m h,if_pos (by omega)];simp only[Int.toNat_natCast];rw[Wp rfl];congr 2;rw[show l++47::m=(l++[47])++m by simp];exact List.drop_left' (by simp)
theorem KV(s:List UInt8):((Lib.cut s [47]).2.1=[])∨s=(Lib.cut s [47]).1++47::(Lib.cut s [47]).2.1:=by
 by_cases h:(47:UInt8)∈s
 ·obtain⟨a,b,rfl,ha⟩:=uC 47 s h
  rw[wW a b ha];exact .inr rfl
 ·left
  unfold Lib.cut;rcases Lib.index_spec s [47]with⟨h1,_⟩ | ⟨i,_,_,h3,_⟩
  ·rw[h1];rfl
  ·exact absurd (VF ((Eu s 47 i).1 h3)) h
set_option maxHeartbeats 8000000 in
theorem Jf(s:List UInt8)(hs:s.length≤100000000)(w:World)(HL:dD w):Calls prog 16 #[.string ⟨s.toArray⟩] w (RM s w):=by
 have HCUT:=hid (fun W (hW:dD W)=>KW s [47] (by omega) W hW);have hcl:=Fc s [47];have hcb:=KV s;have HCS:=hid (fun v n k (h:BL s v n k)=>(show(Lib.cut s [47]).1=iI v n∧(Lib.cut s [47]).2.1=ao 10 k.toNat by have:=wW (iI v n) (ao 10 k.toNat) (zp v n);rw[←h.2.2];unfold oT;rw[this];exact⟨rfl,rfl⟩));obtain⟨at_,hat⟩:∃x,x=(Lib.cut s [47]).1:=⟨_,rfl⟩;obtain⟨bt,hbt⟩:∃x,x=(Lib.cut s [47]).2.1:=⟨_,rfl⟩;obtain⟨b,hb⟩:∃x,x=(Lib.cut s [47]).2.2:=⟨_,rfl⟩;rw[←hat,←hbt]at hcl hcb HCS;rw[←hat,←hbt,←hb]at HCUT;clear hat hbt hb;have HCB:=hid hcb;have HRA:=hid (fun W (hW:dD W)=>Cn at_ (by omega) W hW);have HNU:=hid (fun W (hW:dD W)=>Ev 10 128 (.inl rfl) (by omega) ⟨bt.toArray⟩ (by simp[ByteArray.size];omega) W hW);have HR:=hid (aq.new w 29 gR);have HC:=hid ((ah.refl [] w).alloc (.cells gR 29));have HL1:=hid (HL.alloc (.cells gR 29));clear HL hs hcl hcb;go_enter func16,ntmps16
 go_wp2_with (first
  | (go_at_call 48;refine(HCUT.out _ HL1.out).mono ?_;rintro e w1 ⟨rfl,C1⟩)
  | (go_at_call 14;refine(HRA.out _ (HL1.out.cW C1)).mono ?_))
 rintro e w2 ⟨v,n,er,rfl,C2,hra⟩;have HR2:=hid ((HR.out.aD C1 (by simp)).aD C2 (by simp));have HC2:=hid ((HC.out.trans C1).trans C2);have HL2:=hid ((HL1.out.cW C1).cW C2);have HLT:=hid (show w.heap.size < w2.heap.size from HR2.out.lt);clear HR HC HL1 C1 C2;have HB3:=hid ((aq.new w2 24 (az false fun _=>0).toArray).row (eA v n));have HR3:=hid (show aq ((w2.alloc (.cells (az false fun _=>0).toArray 24)).setRow w2.heap.size (eA v n).toArray) w.heap.size 29 gR.toList from(HR2.out.alloc _).aD (S:=[w2.heap.size]) ((ah.refl _ _).setRow (g:=w2.heap.size) (.inl (by simp)) _) (by have:=HLT.out;simp;omega));have HC3:=hid ((HC2.out.alloc (.cells (az false fun _=>0).toArray 24)).setRow (g:=w2.heap.size) (.inr (VP HLT.out)) (eA v n).toArray);have HL3:=hid ((HL2.out.alloc (.cells (az false fun _=>0).toArray 24)).aD (S:=[w2.heap.size]) ((ah.refl _ _).setRow (g:=w2.heap.size) (.inl (by simp)) (eA v n).toArray) (by intro j hj;have:=HL2.out.low;rw[VM]at hj;omega));have HRAW:=hid hra;clear hra
 go_wp2_with (first
  | (go_at_call 49;refine(HNU.out _ HL3.out).mono ?_)
  | (refine jF rfl _ _ rfl w2.heap.size v (an n) rfl rfl 24 (az false fun _=>0) (aq.new w2 24 (az false fun _=>0).toArray) (ay _ _) ?_))
 rintro e w3 ⟨u,ok,rfl,C3,u0,u1,hok,hcan⟩;have HOK:=hid hok;have HCAN:=hid hcan;have HB4:=hid (HB3.out.aD C3 (by simp));have HR4:=hid (HR3.out.aD C3 (by simp));have HC4:=hid (HC3.out.trans C3);have HLT4:=hid (show w.heap.size < w3.heap.size from HR4.out.lt);clear hok hcan HB3 HR3 HC3 HL3 C3 HR2 HC2 HL2 HLT HCUT HRA HNU;have hra:=HRAW.out;clear HRAW;obtain⟨kk,hkk⟩:∃kk,kk=VX.wrap u:=⟨_,rfl⟩;rcases hra with⟨rfl,hia,hun⟩ | ⟨rfl,rfl,rfl,hno⟩
 ·have HIA:=hid hia
  have HUN:=hid hun;clear hia hun;cases ok with
  |false=>
   have HF:=hid (show ∀v' m j,¬BL s v' m j from fun v' m j h=>by have h2:=(HCS.out v' m j h).2;have hb:=tB h.2.1;have:=(HCAN.out j.toNat (by omega) h2).2;cases this);have hkk':=hkk.symm;clear hkk u1;have HR5:=hid (show aq ((w3.alloc (.cells gR 29)).setRow w3.heap.size (ep v n kk).toArray) w.heap.size 29 gR.toList from(HR4.out.alloc _).aD (S:=[w3.heap.size]) ((ah.refl _ _).setRow (g:=w3.heap.size) (.inl (by simp)) _) (by have:=HLT4.out;simp;omega));have HC5:=hid ((HC4.out.alloc (.cells gR 29)).setRow (g:=w3.heap.size) (.inr (VP HLT4.out)) (ep v n kk).toArray)
   go_wp2_with (first
    | (refine ib rfl _ rfl w2.heap.size rfl 24 v n HB4.out ?_)
    | (refine OX rfl _ _ rfl v n kk rfl rfl ?_)
    | (refine Fw rfl _ _ rfl w3.heap.size v n kk rfl rfl 29 _ (aq.new w3 29 gR) rfl ?_)
    | (refine IJ rfl _ _ rfl w.heap.size rfl rfl 29 _ HR5.out rfl ?_))
   refine bodyPost_ret (Ee rfl _ _ w.heap.size false 0 0 29 _ rfl rfl (HR5.out.row (ep false 0 0))) rfl ?_;exact⟨false,0,0,151,rfl,HC5.out.setRow (.inr (VE _)) _,.inr ⟨rfl,rfl,rfl,rfl,HF.out⟩⟩
  |true=>
   obtain⟨N,rfl,hN,hNt⟩:=HOK.out rfl;have hkk':VX.wrap (N:Int)=(N:Int):=by rw[VV];omega
   rw[hkk']at hkk;subst hkk;have hNN:(N:Int)≤128:=by omega
   have HNT:=hid hNt;clear u1 hNt;have HSS:=hid (show s=iI v n++47::ao 10 N from by
    rcases HCB.out with h|h
    ·have h5:bt=ao 10 N:=HNT.out
     rw[h]at h5;exact absurd h5.symm (js N)
    ·rw[h,←HIA.out.2.2]
     have h5:bt=ao 10 N:=HNT.out;rw[h5])
   have HCH:=hid (fun v' m j (h:BL s v' m j)=>(show v'=v∧m=n∧j=(N:Int)from by obtain⟨h1,h2⟩:=HCS.out v' m j h;have hb:=tB h.2.1;have h3:=HUN.out v' m ⟨h.1,rX h.2.1,h1.symm⟩;have h4:bt=ao 10 N:=HNT.out;have h5:j.toNat=N:=AT (by omega) (by omega) (h2.symm.trans h4);exact⟨h3.1,h3.2,by omega⟩));have HK:=hid (sb v n N HIA.out.1);by_cases hP:gv v n N=true
   ·have HF:=hid (show BL s v n N∧∀v' m j,BL s v' m j→v'=v∧m=n∧j=(N:Int)from⟨⟨HIA.out.1,hP,HSS.out.symm⟩,HCH.out⟩)
    rw[show fH v n N=0 by unfold fH;rw[if_pos hP]]at HK;have HR5:=hid (show aq ((w3.alloc (.cells gR 29)).setRow w3.heap.size (ep v n N).toArray) w.heap.size 29 gR.toList from(HR4.out.alloc _).aD (S:=[w3.heap.size]) ((ah.refl _ _).setRow (g:=w3.heap.size) (.inl (by simp)) _) (by have:=HLT4.out;simp;omega));have HC5:=hid ((HC4.out.alloc (.cells gR 29)).setRow (g:=w3.heap.size) (.inr (VP HLT4.out)) (ep v n N).toArray)
    go_wp2_with (first
     | (go_at_call 50;refine(HK.out _).mono ?_;rintro e w6 ⟨rfl,C6⟩)
     | (refine ib rfl _ rfl w2.heap.size rfl 24 v n HB4.out ?_)
     | (refine OX rfl _ _ rfl v n N rfl rfl ?_)
     | (refine Fw rfl _ _ rfl w3.heap.size v n N rfl rfl 29 _ (aq.new w3 29 gR) rfl ?_)
     | (refine PJ rfl _ rfl w3.heap.size rfl 29 v n N ((aq.new w3 29 gR).row _) ?_)
     | (refine QU rfl _ rfl w3.heap.size rfl 29 v n N (((aq.new w3 29 gR).row _).aD C6 (by simp)) ?_)
     | (refine Fw rfl _ _ rfl w.heap.size v n N rfl rfl 29 _ (HR5.out.aD C6 (by simp)) rfl ?_))
    refine bodyPost_ret (Ee rfl _ _ w.heap.size v n N 29 _ rfl rfl ((HR5.out.aD C6 (by simp)).row (ep v n N))) rfl ?_;exact⟨v,n,N,0,rfl,(HC5.out.trans C6).setRow (.inr (VE _)) _,.inl ⟨rfl,HF.out.1,HF.out.2⟩⟩
   ·have HF:=hid (show ∀v' m j,¬BL s v' m j from fun v' m j h=>by
     obtain⟨rfl,rfl,rfl⟩:=HCH.out v' m j h;exact hP h.2.1)
    rw[show fH v n N=151 by unfold fH;rw[if_neg hP]]at HK;have HR5:=hid (show aq ((w3.alloc (.cells gR 29)).setRow w3.heap.size (ep v n N).toArray) w.heap.size 29 gR.toList from(HR4.out.alloc _).aD (S:=[w3.heap.size]) ((ah.refl _ _).setRow (g:=w3.heap.size) (.inl (by simp)) _) (by have:=HLT4.out;simp;omega));have HC5:=hid ((HC4.out.alloc (.cells gR 29)).setRow (g:=w3.heap.size) (.inr (VP HLT4.out)) (ep v n N).toArray)
    go_wp2_with (first
     | (go_at_call 50;refine(HK.out _).mono ?_;rintro e w6 ⟨rfl,C6⟩)
     | (refine ib rfl _ rfl w2.heap.size rfl 24 v n HB4.out ?_)
     | (refine OX rfl _ _ rfl v n N rfl rfl ?_)
     | (refine Fw rfl _ _ rfl w3.heap.size v n N rfl rfl 29 _ (aq.new w3 29 gR) rfl ?_)
     | (refine PJ rfl _ rfl w3.heap.size rfl 29 v n N ((aq.new w3 29 gR).row _) ?_)
     | (refine IJ rfl _ _ rfl w.heap.size rfl rfl 29 _ (HR5.out.aD C6 (by simp)) rfl ?_))
    refine bodyPost_ret (Ee rfl _ _ w.heap.size false 0 0 29 _ rfl rfl ((HR5.out.aD C6 (by simp)).row (ep false 0 0))) rfl ?_;exact⟨false,0,0,151,rfl,(HC5.out.trans C6).setRow (.inr (VE _)) _,.inr ⟨rfl,rfl,rfl,rfl,HF.out⟩⟩
 ·have HF:=hid (show ∀v' m j,¬BL s v' m j from fun v' m j h=>by
   have h1:=(HCS.out v' m j h).1;exact hno v' m ⟨h.1,rX h.2.1,h1.symm⟩)
  have hkk':=hkk.symm;clear hkk u1 hno;have HR5:=hid (show aq ((w3.alloc (.cells gR 29)).setRow w3.heap.size (ep false 0 kk).toArray) w.heap.size 29 gR.toList from(HR4.out.alloc _).aD (S:=[w3.heap.size]) ((ah.refl _ _).setRow (g:=w3.heap.size) (.inl (by simp)) _) (by have:=HLT4.out;simp;omega));have HC5:=hid ((HC4.out.alloc (.cells gR 29)).setRow (g:=w3.heap.size) (.inr (VP HLT4.out)) (ep false 0 kk).toArray)
  go_wp2_with (first
   | (refine ib rfl _ rfl w2.heap.size rfl 24 false 0 HB4.out ?_)
   | (refine OX rfl _ _ rfl false 0 kk rfl rfl ?_)
   | (refine Fw rfl _ _ rfl w3.heap.size false 0 kk rfl rfl 29 _ (aq.new w3 29 gR) rfl ?_)
   | (refine IJ rfl _ _ rfl w.heap.size rfl rfl 29 _ HR5.out rfl ?_))
  refine bodyPost_ret (Ee rfl _ _ w.heap.size false 0 0 29 _ rfl rfl (HR5.out.row (ep false 0 0))) rfl ?_;exact⟨false,0,0,151,rfl,HC5.out.setRow (.inr (VE _)) _,.inr ⟨rfl,rfl,rfl,rfl,HF.out⟩⟩
open Go.RowKit Go.Lib Go.Sort _root_.Go.Proofs.Tryz
theorem pn:∀(l:List UInt8) (acc:Nat),(∀c∈l,∃d,d < 10∧c=sig d)→l.foldl (fun a c=>10*a+nB c) acc < 18446744073709551616→Lib.parseUint10 acc l=.ok (l.foldl (fun a c=>10*a+nB c) acc)
 | [],acc,_,_=>rfl
 |c::l,acc,h,hn=>by obtain⟨d,hd,rfl⟩:=h c (by simp);have h1:=eZ (d:=d) (by omega);rw[if_pos hd]at h1;rw[List.foldl_cons]at hn ⊢;have h2:=yk (b:=10) (by omega) l (10*acc+nB (sig d));have h3:nB (sig d)=d:=pT (by omega);unfold Lib.parseUint10;rw[if_pos (by omega),if_neg (by omega),if_neg (by omega)];rw[show acc*10+((sig d).toNat - 48)=10*acc+nB (sig d)by omega];exact pn l _ (fun c hc=>h c (by simp[hc])) hn
theorem zL(n:Nat)(hn:n < 18446744073709551616):Lib.parseUint10 0 (ao 10 n)=.ok n:=by have hv:(ao 10 n).foldl (fun a c=>10*a+nB c) 0=n:=iF (b:=10) (by omega) (by omega) n;rw[pn (ao 10 n) 0 (iW (by omega) n) (by rw[hv];exact hn),hv]
theorem EU(n:Nat)(hn:n < 18446744073709551616)(w:World)(hl:dD w):Calls prog 73 #[.int .u64 n,.int .i64 10] w fun e w'=>e=.returned (.string ⟨(ao 10 n).toArray⟩)∧ah [] w w':=by
 have H:Calls prog 143 #[.int .u64 n,.int .i64 10] w fun e w'=>e=.returned (.string ⟨(ao 10 n).toArray⟩)∧ah [] w w':=by
  by_cases h:n < 100
  ·exact zo n h w
  ·exact Lr n (by omega) hn w hl
 go_enter func73,ntmps73
 go_wp2_with (go_at_call 143;refine H.mono ?_;rintro e w2 ⟨rfl,C2⟩)
 go_ret
 exact⟨rfl,C2⟩
end Go.Proofs.YtnncigmpcdehnaaGreatDoor
