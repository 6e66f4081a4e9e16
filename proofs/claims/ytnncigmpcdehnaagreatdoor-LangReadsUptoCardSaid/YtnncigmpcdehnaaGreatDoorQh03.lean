import Derived.Test.YtnncigmpcdehnaaGreatDoorQh02
open Nat renaming le_refl→Xy,le_of_lt→XJ,le_trans→XZ,zero_add→Yd,zero_le→Yf
open List renaming mem_of_getElem?→Xz,getElem?_eq_getElem→XA,getElem?_eq_none→XB,length_append→XC,getElem?_map→XD,getD_eq_getElem?_getD→XE,length_replicate→XF,mem_singleton→XG,mem_append→XH,replicate→XI,length_take→XM,length_map→XN,mem_cons→XP,ext_getElem?→XR,length_drop→XT,length_cons→XU,getElem?_append_right→XW,mem_map→XY,mem_of_mem_take→X0,mem_of_mem_drop→X1,mem_replicate→X4,getElem?_take→X5,range→X6,take_left'→X9,length_nil→Ya,length→Ye
open Go.Value renaming int→XL,oneCell'→XO,string→Yc
open Go.IntKind renaming wrap_i64→XQ,i64→XS,u16→XX,u8→X2,wrap_u8'→X3
namespace Go.Proofs.YtnncigmpcdehnaaGreatDoor
set_option maxRecDepth 100000
open Go.RowKit Go.Lib Go.Sort _root_.Go.Proofs.Tryz
set_option maxRecDepth 100000
theorem gW(c:UInt8):∀(s x:List UInt8),x∈bH c s→x.length≤s.length
 | [],x,h=>by simp[bH]at h;simp[h]
 |y::s,x,h=>by
  unfold bH at h;split at h
  ·rw[XP]at h
   rcases h with rfl|h
   ·simp
   ·have:=gW c s x h;simp;omega
  ·split at h
   ·simp at h;subst h;simp
   ·rename_i p ps hp
    rw[XP]at h;rcases h with rfl|h
    ·have:=gW c s p (by rw[hp];simp);simp;omega
    ·have:=gW c s x (by rw[hp];simp[h]);simp;omega
theorem eZ(c:UInt8):∀s:List UInt8,(bH c s).length≤s.length+1
 | []=>by simp[bH]
 |y::s=>by
  have ih:=eZ c s;unfold bH;split
  ·simp;omega
  ·split
   ·simp
   ·rename_i p ps hp
    rw[hp]at ih;simp at ih ⊢;omega
theorem Ko(x:ByteArray):(⟨x.data.toList.toArray⟩:ByteArray)=x:=by obtain⟨⟨l⟩⟩:=x;rfl
theorem Ar(s:List UInt8)(c:UInt8)(hs:s.length < 4294967281)(w:World)(HL:eF w):Calls prog 62 #[.string ⟨s.toArray⟩,.string ⟨#[c]⟩] w fun e w'=>
  e=.returned (.slice (some ⟨w.heap.size,0,none⟩) (bH c s).length (bH c s).length)∧w'=w.alloc (.cells (strs (bH c s)).toArray 9):=by
 obtain⟨m,hm⟩:=HL.m0;refine(Tryz.strings_Split ⟨s.toArray⟩ ⟨#[c]⟩ m w (by simpa[ByteArray.size]using hs) hm (Xy _)).mono ?_;rintro e w' ⟨rfl,rfl⟩;have hd:=Lib.splitB_data ⟨#[c]⟩ 0 (Lib.countB ⟨s.toArray⟩ ⟨#[c]⟩) ⟨s.toArray⟩;have hk:Lib.splitK [c] 0 (Lib.countB ⟨s.toArray⟩ ⟨#[c]⟩) s=bH c s:=vM s.length c s (Xy _);have hd':(Lib.splitB ⟨#[c]⟩ 0 (Lib.countB ⟨s.toArray⟩ ⟨#[c]⟩) ⟨s.toArray⟩).map (·.data.toList)=bH c s:=hd.trans hk;have hl:(Lib.splitB ⟨#[c]⟩ 0 (Lib.countB ⟨s.toArray⟩ ⟨#[c]⟩) ⟨s.toArray⟩).length=Lib.countB ⟨s.toArray⟩ ⟨#[c]⟩+1:=Lib.splitB_all ⟨#[c]⟩ (Xy _) 0 _ _ rfl;have hl2:(bH c s).length=Lib.countB ⟨s.toArray⟩ ⟨#[c]⟩+1:=by rw[←hd',XN,hl]
 have hv:(Lib.splitB ⟨#[c]⟩ 0 (Lib.countB ⟨s.toArray⟩ ⟨#[c]⟩) ⟨s.toArray⟩).map Yc=strs (bH c s):=by rw[←hd'];unfold strs;rw[List.map_map];exact List.map_congr_left fun x _=>congrArg Yc (Ko x).symm
 rw[hl2,hv];exact⟨rfl,rfl⟩
theorem NL(s p:List UInt8)(hs:s.length < 4294967281)(w:World)(HL:eF w):Calls prog 48 #[.string ⟨s.toArray⟩,.string ⟨p.toArray⟩] w fun e w'=>
  e=.returned (.tuple #[.string ⟨(Lib.cut s p).1.toArray⟩,.string ⟨(Lib.cut s p).2.1.toArray⟩,.bool (Lib.cut s p).2.2])∧ai [] w w':=by
 obtain⟨m,hm⟩:=HL.m0;refine(Tryz.strings_Cut ⟨s.toArray⟩ ⟨p.toArray⟩ m w (by simpa[ByteArray.size]using hs) hm).mono ?_;rintro e w' ⟨rfl,n,rfl⟩;exact⟨rfl,(ai.refl [] w).drewN n⟩
theorem Nf(c:UInt8)(s:List UInt8):decide (0≤Lib.indexByte s c)=decide (c∈s):=by
 congr 1;apply propext;constructor
 ·intro h
  have:=(Lib.indexByte_some (l:=s) (c:=c) (o:=(Lib.indexByte s c).toNat) (by omega)).1;exact Xz this
 ·intro h
  refine Decidable.byContradiction fun hn=>?_;have hg:Lib.indexByte s c = -1:=by have:=Lib.indexByte_ge s c;omega
  obtain⟨k,hk⟩:=List.getElem?_of_mem h;exact Lib.indexByte_none hg k hk
theorem F6(s:List UInt8)(c:UInt8)(w:World):Calls prog 43 #[.string ⟨s.toArray⟩,.string ⟨#[c]⟩] w fun e w'=>e=.returned (.bool (decide (c∈s)))∧w'=w:=by refine(Tryz.strings_Contains_one ⟨s.toArray⟩ c w).mono ?_;rintro e w' ⟨rfl,rfl⟩;refine⟨?_,rfl⟩;rw[←Nf]
open Go.RowKit Go.Lib Go.Sort
theorem Tryz.Nc:(prog.info? 62).map (fun i=>(i.zero,i.size,i.bytes))=some (some (.int .u16 0),1,2):=by kernel_rfl
def jC(xs:List Nat):List Value:=xs.map fun u=>.int .u16 (u:Nat)
theorem Iz(xs:List Nat)(u:Nat):jC (xs++[u])=jC xs++[.int .u16 (u:Nat)]:=by simp[jC]
def BV(s:List UInt8)(w:World)(e:Ending)(w':World):Prop:=
 ∃(A:Option Go.Addr) (n c:Nat) (xs:List Nat) (ok:Bool),e=.returned (.tuple #[.slice A n c,.bool ok])∧Acc w w' 62 1 (.slice A n c) n (jC xs)∧(∀u∈xs,u < 65536)∧n≤s.length+1∧∀l:List Nat,(∀u∈l,u < 65536)→s=aU l→ok=true∧xs=l
theorem TM{s:List UInt8}{w w':World}(hC:ai [] w w')(h:∀l:List Nat,(∀u∈l,u < 65536)→s=aU l→False):BV s w (.returned (.tuple #[.slice none 0 0,.bool false])) w':=
 ⟨none,0,0,[],false,rfl,Acc.nil w 62 1 hC,by simp,by omega,fun l h1 h2=>(h l h1 h2).elim⟩
theorem vL{xs:List (List UInt8)}{k:Nat}{x:List UInt8}(h:xs[k]?=some x):(strs xs)[k]?=some (.string ⟨x.toArray⟩):=by unfold strs;rw[XD,h];rfl
set_option maxHeartbeats 4000000 in
theorem DY(s:List UInt8)(hs:s.length≤100000000)(w:World)(HL:eF w):Calls prog 96 #[.string ⟨s.toArray⟩] w (BV s w):=by
 obtain⟨i0,hi,hz0,hz1,hz2⟩:=info_parts Tryz.Nc;have HIN:=hid (Sx.t2 hi hz0 (And.intro hz1 hz2));clear hi hz0 hz1 hz2;by_cases h0:s=[]
 ·subst h0
  go_enter func96,ntmps96
  go_wp2
  go_ret2
  exact⟨none,0,0,[],true,rfl,Acc.nil w 62 1 (ai.refl _ _),by simp,by omega,fun l _ h2=>⟨rfl,((tS l).1 h2.symm).symm⟩⟩
 ·have hz:decide (s=[])=false:=decide_eq_false h0
  have HS:=hid (Ar s 58 (by omega) w HL);obtain⟨P,hP⟩:∃P,P=bH 58 s:=⟨_,rfl⟩;rw[←hP]at HS;have HPL:=hid (fun(x:List UInt8) (hx:x∈P)=>(show x.length≤s.length from gW 58 s x (by rw[←hP];exact hx)));have hN:P.length≤s.length+1:=by rw[hP];exact eZ 58 s
  have HCA:=hid (fun(l:List Nat) (h:s=aU l)=>(show P=l.map (aq 16)by rw[hP,h];exact Dt l (fun e=>h0 (by rw[h,e];rfl))));clear hP;obtain⟨N,hNl⟩:∃N,N=P.length:=⟨_,rfl⟩;rw[←hNl]at HS hN;have HNL:=hid hNl;clear hNl;have hemp:s.isEmpty=false:=by cases s with
   |nil=>exact absurd rfl h0
   |cons _ _=>rfl
  have HB:=hid (aw.new w 9 (strs P).toArray);have HC:=hid ((ai.refl [] w).alloc (.cells (strs P).toArray 9));have HL1:=hid (HL.alloc (.cells (strs P).toArray 9));have HSL:=hid hs;have hNb:N≤100000001:=by omega
  clear HL hs;go_enter func96,ntmps96
  go_wp2_with (go_at_call 62;refine HS.out.mono ?_;rintro e w2 ⟨rfl,rfl⟩)
  obtain⟨w1,hw1⟩:∃w1,w1=w.alloc (.cells (strs P).toArray 9):=⟨_,rfl⟩;have hB:=HB.out;have hC:=HC.out;have HL1':=HL1.out;rw[←hw1]at hB hC HL1' ⊢;clear hw1 HB HC HL1 HS;go_loopw [4,14] (fun sv iv wr=>∃(k:Nat) (Av:Option Go.Addr) (cv:Nat) (xs:List Nat),k≤N∧iv=.int .i64 k∧sv=.slice Av k cv∧Acc w1 wr 62 1 (.slice Av k cv) k (jC xs)∧Hid ((∀u∈xs,u < 65536)∧∀l:List Nat,(∀u∈l,u < 65536)→s=aU l→xs=l.take k)) (fun _ iv _=>N - (RowKit.intOf iv).toNat)
  case atStart=>exact⟨0,none,0,[],Yf _,rfl,rfl,Acc.nil w1 62 1 (ai.refl _ _),by simp,fun l _ _=>by simp⟩
  case round=>
   obtain⟨k,Av,cv,xs,hk,rfl,rfl,hAc,hh⟩:=hrel;by_cases hlt:k < N
   ·have hkl:k < P.length:=by rw[←HNL.out];exact hlt
    obtain⟨x,hx⟩:∃x,P[k]?=some x:=⟨_,XA hkl⟩;have cu:=(hAc.aJ.cell (p:=⟨w.heap.size,k,none⟩) hB.lt (by simp)).trans (hB.cell_of (vL hx));have hxl:=HPL.out x (Xz hx);have HNU:=hid (Hi 16 65535 (.inr rfl) (by omega) ⟨x.toArray⟩ (by have:=HSL.out;simp[ByteArray.size];omega) wr (HL1'.dO hAc.aJ));have HLT:=hid hlt;have HX:=hid hx;have HAc:=hid hAc;clear hx hAc hxl;go_wp2_with (go_at_call 49;refine HNU.out.mono ?_)
    rintro e w2 ⟨v,ok,rfl,C2,v0,v1,hok,hcan⟩;have HCN:=hid hcan;have HOK:=hid hok;have HV:=hid (And.intro v0 v1);clear hcan hok v1;cases ok with
    |false=>
     go_wp2
     go_ret2
     refine TM ((hC.trans HAc.out.aJ).trans C2) fun l hl h=>?_;have hp:=HX.out;rw[HCA.out l h,XD]at hp;cases hu:l[k]? with
     |none=>rw[hu]at hp;cases hp
     |some u=>rw[hu]at hp;injection hp with hp;have:=HCN.out u (by have:=hl u (Xz hu);omega) hp.symm;exact absurd this.2 (by decide)
    |true=>
     obtain⟨u,rfl,hu65,hux⟩:=HOK.out rfl;have HUX:=hid hux;clear hux;have hw16:XX.wrap (u:Int)=(u:Int):=by rw[IntKind.wrap_u16];omega
     have HS2:=hid (Iz xs u);have HT:=hid (show(∀y∈xs++[u],y < 65536)∧∀l:List Nat,(∀u∈l,u < 65536)→s=aU l→xs++[u]=l.take (k+1)from by
      refine⟨fun y hy=>?_,fun l hl h=>?_⟩
      ·rw[XH,XG]at hy
       rcases hy with hy|rfl
       ·exact hh.out.1 y hy
       ·omega
      ·have hp:=HX.out
       rw[HCA.out l h,XD]at hp;cases hu:l[k]? with
       |none=>rw[hu]at hp;cases hp
       |some y=>
        rw[hu]at hp;injection hp with hp;have h2:=(HCN.out y (by have:=hl y (Xz hu);omega) hp.symm).1;have h3:u=y:=by omega
        rw[List.take_add_one,hu,hh.out.2 l hl h,h3];rfl)
     clear hh;have HX0:0≤(u:Int):=by omega
     go_wp2_with ((with_reducible refine gn ?_);(refine ew _ rfl (.tmp 25) (.tmp 28) 158 rfl 62 i0 _ 1 2 underlying158 HIN.out.1 HIN.out.2.1 HIN.out.2.2.1 HIN.out.2.2.2 rfl (by omega) (.slice Av k cv) k (jC xs) rfl ((HAc.out.later C2).alloc _).own ⟨w2.heap.size,0,none⟩ 1 1 [.int .u16 (u:Nat)] rfl rfl (by simpa using (aw.new w2 62 #[.int .u16 (u:Nat)]).Eo) (by simp[XO]) (by have:=HSL.out;unfold maxLen;omega) (by have:=HSL.out;omega) ?_);intro A' c' w3 hO3 hC3 hb3)
     go_roundw
     case measure=>have hk9:=HLT.out;simp[RowKit.intOf];omega
     case rel=>have hk9:=HLT.out;refine⟨k+1,A',c',xs++[u],by omega,by go_num,rfl,?_,HT.out⟩;rw[HS2.out];exact Acc.append ((HAc.out.later C2).alloc _) hO3 hC3 hb3
   ·have hkn:k=N:=by omega
    subst hkn;have HF:=hid (show BV s w (.returned (.tuple #[.slice Av k cv,.bool true])) wr from
     ⟨Av,k,cv,xs,true,rfl,⟨hAc.own,fun j hj=>XZ hC.size (hAc.new j hj),hC.trans hAc.aJ⟩,hh.out.1,hN,fun l hl h=>⟨rfl,by rw[hh.out.2 l hl h,List.take_of_length_le];have:=congrArg Ye (HCA.out l h);rw[XN,←HNL.out]at this;omega⟩⟩)
    clear hh hAc;go_wp2
    go_ret2
    exact HF.out
open Go.RowKit Go.Lib Go.Sort
theorem lC{fn:Func}{p q:Tmp}(h:fn.results=#[.cell p 24,.tmp q])(tmps:Array Value)(w:World)(g:Nat)(v:Bool)(f:Nat→Nat)(t:TypeId)(u:Value)
  (hp:tmps.getD p undef=.pointer (some ⟨g,0,none⟩)) (hq:tmps.getD q undef=u) (hb:aw w g t (ax v f)):(results fn tmps).run prog w=.ok (.tuple #[.agg (ax v f).toArray,u]) w:=by
 have hp':tmps[p]?.getD undef=.pointer (some ⟨g,0,none⟩):=by simpa using hp
 have hq':tmps[q]?.getD undef=u:=by simpa using hq
 simp[results,h,hp',hq',asAddr,run_loadVar_row w g t 24 _ (0,0) _ hb underlying24 rfl (fH.trans (by simp[aE]))]
theorem rW(v:Bool)(f:Nat→Nat)(hf:∀j,f j < 256):∃n,n < 2^128∧ax v f=cD v n∧∀j,j < 16→ah n j=f j:=by obtain⟨n,hn,hb⟩:=Kn f hf;exact⟨n,hn,ni v fun j hj=>(hb j hj).symm,hb⟩
theorem Qm{n:Nat}(hn:n < 2^128):jt false n=true↔∀j,4≤j→j < 16→ah n j=0:=by
 have h:=yY (n:=n) (k:=32) hn (by omega);have h2:jt false n=oL (fun j=>fR 32 j (ah n j)) (ah n):=h.symm;rw[h2,kt];constructor
 ·intro h j h1 h2
  have:=h j h2;unfold fR at this;rw[if_pos (by omega)]at this;exact this.symm
 ·intro h j hj
  unfold fR;by_cases h4:j < 4
  ·rw[if_neg (by omega),if_neg (by omega)]
  ·rw[if_pos (by omega),h j (by omega) hj]
def BU(s:List UInt8)(w:World)(e:Ending)(w':World):Prop:=
 ∃(n:Nat) (ok:Bool),e=.returned (.tuple #[.agg (cD false n).toArray,.bool ok])∧ai [] w w'∧n < 2^128∧(ok=true→jt false n=true∧fq n=s)∧∀m,m < 2^128→jt false m=true→s=fq m→n=m∧ok=true
theorem F3{s:List UInt8}{w w':World}(f:Nat→Nat)(hf:∀j,f j < 256)(hC:ai [] w w')(h:∀m,s=fq m→False):BU s w (.returned (.tuple #[.agg (ax false f).toArray,.bool false])) w':=by obtain⟨n,hn,he,_⟩:=rW false f hf;rw[he];exact⟨n,false,rfl,hC,hn,fun h=>(by cases h),fun m _ _ h2=>(h m h2).elim⟩
theorem EH(f:Nat→Nat)(k n:Nat):dW f k n k=n:=if_pos rfl
theorem Ao(f:Nat→Nat)(k n j:Nat)(h:j≠k):dW f k n j=f j:=if_neg h
set_option maxHeartbeats 4000000 in
theorem ND(s:List UInt8)(hs:s.length≤100000000)(w:World)(HL:eF w):Calls prog 44 #[.string ⟨s.toArray⟩] w (BU s w):=by
 have HS:=hid (fun W (hW:eF W)=>Ar s 46 (by omega) W hW);obtain⟨P,hP⟩:∃P,P=bH 46 s:=⟨_,rfl⟩;rw[←hP]at HS;have HPL:=hid (fun(x:List UInt8) (hx:x∈P)=>(show x.length≤s.length from gW 46 s x (by rw[←hP];exact hx)));have hN:P.length≤s.length+1:=by rw[hP];exact eZ 46 s
 have HCA:=hid (fun(m:Nat) (h:s=fq m)=>(show P=(X6 4).map fun i=>aq 10 (ah m i)by rw[hP,h];exact Ch m));have HJ:=hid (show ay 46 P=s by rw[hP];exact uI 46 s);have hN1:1≤P.length:=by rw[hP];exact List.length_pos_iff.2 (ts 46 s)
 clear hP;obtain⟨N,hNl⟩:∃N,N=P.length:=⟨_,rfl⟩;rw[←hNl]at HS hN hN1;have HNL:=hid hNl;clear hNl;have HR:=hid (show aw ((w.alloc (.cells (ax false fun _=>0).toArray 24)).alloc (.cells (ax false fun _=>0).toArray 24)) w.heap.size 24 (ax false fun _=>0)from(aw.new w 24 (ax false fun _=>0).toArray).alloc _);have HA:=hid (show aw ((w.alloc (.cells (ax false fun _=>0).toArray 24)).alloc (.cells (ax false fun _=>0).toArray 24)) (w.heap.size+1) 24 (ax false fun _=>0)from aw.ga _ 24 (ax false fun _=>0).toArray (by simp));have HC:=hid (((ai.refl [] w).alloc (.cells (ax false fun _=>0).toArray 24)).alloc (.cells (ax false fun _=>0).toArray 24));have HL1:=hid ((HL.alloc (.cells (ax false fun _=>0).toArray 24)).alloc (.cells (ax false fun _=>0).toArray 24));have hNb:N≤100000001:=by omega
 have HSL:=hid hs;have HLW:=hid HL.low;clear HL hs hN;go_enter func44,ntmps44
 go_wp2_with (go_at_call 62;refine(HS.out _ HL1.out).mono ?_;rintro e w2 ⟨rfl,rfl⟩)
 obtain⟨w1,hw1⟩:∃w1,w1=((w.alloc (.cells (ax false fun _=>0).toArray 24)).alloc (.cells (ax false fun _=>0).toArray 24)).alloc (.cells (strs P).toArray 9):=⟨_,rfl⟩;have hR:=HR.out.alloc (.cells (strs P).toArray 9);have hA:=HA.out.alloc (.cells (strs P).toArray 9);have hC:=HC.out.alloc (.cells (strs P).toArray 9);have hB:aw (((w.alloc (.cells (ax false fun _=>0).toArray 24)).alloc (.cells (ax false fun _=>0).toArray 24)).alloc (.cells (strs P).toArray 9)) (w.heap.size+1+1) 9 (strs P):=aw.ga _ 9 (strs P).toArray (by simp);have hL:=hid (HL1.out.alloc (.cells (strs P).toArray 9));rw[←hw1]at hR hA hC hB hL;rw[←hw1];clear hw1 HR HA HC HL1 HS;by_cases h4:N=4
 ·subst h4
  rw[show((4:Nat):Int)=4 from rfl];go_loopw [14] (fun iv wr=>∃(k:Nat) (f:Nat→Nat),k≤4∧iv=.int .i64 k∧aw wr w.heap.size 24 (ax false fun _=>0)∧aw wr (w.heap.size+1) 24 (ax false f)∧aw wr (w.heap.size+1+1) 9 (strs P)∧ai [] w wr∧eF wr∧Hid ((∀j,f j < 256)∧(∀j,j < k→P[j]?=some (aq 10 (f j)))∧(∀j,k≤j→f j=0)∧(True))) (fun iv _=>4 - (RowKit.intOf iv).toNat)
  case atStart=>exact⟨0,fun _=>0,Yf _,rfl,hR,hA,hB,hC,hL.out,⟨fun _=>(by show(0:Nat) < 256;omega),fun j hj=>absurd hj (by omega),fun _ _=>rfl,trivial⟩⟩
  case round=>
   obtain⟨k,f,hk,rfl,hR,hA,hB,hC,hL,hh⟩:=hrel;by_cases hlt:k < 4
   ·have hkl:k < P.length:=by rw[←HNL.out];exact hlt
    obtain⟨x,hx⟩:∃x,P[k]?=some x:=⟨_,XA hkl⟩;have cu:=hB.cell_of (vL hx);have HXL:=hid (HPL.out x (Xz hx));have HNU:=hid (Hi 10 255 (.inl rfl) (by omega) ⟨x.toArray⟩ (by have:=HSL.out;have:=HXL.out;simp[ByteArray.size];omega) wr hL);have HLT:=hid hlt;have HX:=hid hx;have hR:=hid hR;have hA:=hid hA;have hB:=hid hB;have hC:=hid hC;have hL:=hid hL;clear hx;go_wp2_with (go_at_call 49;refine HNU.out.mono ?_)
    rintro e w2 ⟨v,ok,rfl,C2,v0,v1,hok,hcan⟩;have HCN:=hid hcan;have HOK:=hid hok;clear hcan hok v1;have HAX:=hid (hA.out.aJ C2 (by simp));have HRX:=hid (hR.out.aJ C2 (by simp));cases ok with
    |false=>
     have HF:=hid (show ∀m,s=fq m→False from fun m h=>by
      have hp:=HX.out;rw[HCA.out m h,XD]at hp;cases hu:(X6 4)[k]? with
      |none=>rw[hu]at hp;cases hp
      |some u=>rw[hu]at hp;injection hp with hp;have:=HCN.out (ah m u) (by have:=ba m u;omega) hp.symm;exact absurd this.2 (by decide))
     have HFB:=hid hh.out.1;clear hh;go_wp2_with (first | (refine yF rfl _ rfl (w.heap.size+1) rfl 24 false f HAX.out ?_) | (refine lY rfl _ _ rfl w.heap.size false f rfl rfl 24 _ HRX.out (aE _ _) ?_))
     refine bodyPost_ret (lC rfl _ _ w.heap.size false f 24 _ rfl rfl (HRX.out.row (ax false f))) rfl ?_;exact F3 f HFB.out ((hC.out.trans C2).setRow (.inr (Xy _)) _) HF.out
    |true=>
     obtain⟨u,rfl,hu,hux⟩:=HOK.out rfl;have HUX:=hid hux;clear hux;have hk3:k≤3:=by omega
     have hw8:X2.wrap (u:Int)=(u:Int):=by rw[X3];omega
     have ca:=HAX.out.cell_of (cM false f k (by omega));have fa:=HAX.out.frozen (1+k);have HT:=hid (show(∀j,dW f k u j < 256)∧(∀j,j < k+1→P[j]?=some (aq 10 (dW f k u j)))∧(∀j,k+1≤j→dW f k u j=0)∧True from by
      obtain⟨q1,q2,q3,q4⟩:=hh.out;refine⟨fun j=>?_,fun j hj=>?_,fun j hj=>?_,trivial⟩
      ·by_cases hjk:j=k
       ·subst hjk;rw[EH];omega
       ·rw[Ao f k u j hjk];exact q1 j
      ·by_cases hjk:j=k
       ·subst hjk;rw[EH,HX.out];exact congrArg some HUX.out
       ·rw[Ao f k u j hjk];exact q2 j (by omega)
      ·rw[Ao f k u j (by omega)];exact q3 j (by omega))
     have HSE:=hid (s6 false f (dW f k u) k u (EH f k u) (fun j _ hj=>Ao f k u j hj));clear hh;go_wp2
     go_roundw
     case measure=>have hk9:=HLT.out;simp[RowKit.intOf];omega
     case rel=>
      have hk9:=HLT.out;have hC2:=hC.out.trans C2;have hC3:=hC2.Pp (g:=w.heap.size+1) (by omega) (1+k) (.int .u8 (u:Int));refine⟨k+1,dW f k u,by omega,by go_num,HRX.out.OU (by show w.heap.size≠w.heap.size+1;omega) _,?_,(hB.out.aJ C2 (by simp)).OU (by show w.heap.size+1+1≠w.heap.size+1;omega) _,hC3,?_,HT.out⟩
      ·rw[←HSE.out]
       exact HAX.out.sh (1+k) _
      ·exact(hL.out.dO C2).aJ (S:=[w.heap.size+1]) ((ai.refl _ _).setCell (p:=⟨w.heap.size+1,1+k,none⟩) (.inl (by simp)) _) (by intro j hj;have:=HLW.out;rw[XG]at hj;omega)
   ·have hkn:k=4:=by omega
    subst hkn;obtain⟨q1,q2,q3,q4⟩:=hh.out;obtain⟨n,hn,hen,hbn⟩:=rW false f q1;have hok:jt false n=true:=(Qm hn).2 fun j h1 h2=>by rw[hbn j h2];exact q3 j (by omega)
    have hPP:P=[aq 10 (ah n 0),aq 10 (ah n 1),aq 10 (ah n 2),aq 10 (ah n 3)]:=by
     apply XR;intro j;by_cases hj:j < 4
     ·rw[q2 j (by omega)]
      match j,hj with
      | 0,_=>rw[hbn 0 (by omega)];rfl
      | 1,_=>rw[hbn 1 (by omega)];rfl
      | 2,_=>rw[hbn 2 (by omega)];rfl
      | 3,_=>rw[hbn 3 (by omega)];rfl
     ·rw[XB (by rw[←HNL.out];omega),XB (by simp;omega)]
    have HFIN:=hid (show ∀W,ai [] w W→BU s w (.returned (.tuple #[.agg (ax false f).toArray,.bool true])) W from fun W hW=>by
     rw[hen];refine⟨n,true,rfl,hW,hn,fun _=>⟨hok,?_⟩,fun m hm hm2 h=>⟨?_,rfl⟩⟩
     ·rw[←HJ.out,hPP];rfl
     ·have h5:=HCA.out m h
      refine lk hn hm fun j hj=>?_;by_cases hj4:j < 4
      ·have h6:P[j]?=((X6 4).map fun i=>aq 10 (ah m i))[j]?:=by rw[h5]
       rw[q2 j (by omega),XD,List.getElem?_range (by omega)]at h6;injection h6 with h6;rw[hbn j hj];exact ya (by omega) (by omega) h6
      ·rw[(Qm hn).1 hok j (by omega) hj,(Qm hm).1 hm2 j (by omega) hj])
    clear hh q1 q2 q3 q4 hPP hok hbn hen hn;go_wp2_with (first | (refine yF rfl _ rfl (w.heap.size+1) rfl 24 false f hA ?_) | (refine lY rfl _ _ rfl w.heap.size false f rfl rfl 24 _ hR (aE _ _) ?_))
    refine bodyPost_ret (lC rfl _ _ w.heap.size false f 24 _ rfl rfl (hR.row (ax false f))) rfl ?_;exact HFIN.out _ (hC.setRow (.inr (Xy _)) _)
 ·go_loopw [14] (fun iv wr=>wr=w1∧iv=.int .i64 0) (fun iv _=>N - (RowKit.intOf iv).toNat)
  case atStart=>exact⟨rfl,rfl⟩
  case round=>
   obtain⟨rfl,rfl⟩:=hrel;obtain⟨x,hx⟩:∃x,P[0]?=some x:=⟨_,XA (by rw[←HNL.out];omega:0 < P.length)⟩;have cu:=hB.cell_of (vL hx);have HXL:=hid (HPL.out x (Xz hx));have HNU:=hid (Hi 10 255 (.inl rfl) (by omega) ⟨x.toArray⟩ (by have:=HSL.out;have:=HXL.out;simp[ByteArray.size];omega) wr hL.out);have HF:=hid (show ∀m,s=fq m→False from fun m h=>by have:=congrArg Ye (HCA.out m h);rw[←HNL.out,XN,List.length_range]at this;exact h4 this);have i4:¬(N:Int)=4:=by omega
   have i1:(0:Int) < (N:Int):=by omega
   clear hx;go_wp2_with (go_at_call 49;refine HNU.out.mono ?_)
   rintro e w2 ⟨v,ok,rfl,C2,v0,v1,hok,hcan⟩;clear hcan hok v1;have HAX:=hid (hA.aJ C2 (by simp));have HRX:=hid (hR.aJ C2 (by simp));cases ok with
   |false=>
    go_wp2_with (first | (refine yF rfl _ rfl (w.heap.size+1) rfl 24 false (fun _=>0) HAX.out ?_) | (refine lY rfl _ _ rfl w.heap.size false (fun _=>0) rfl rfl 24 _ HRX.out (aE _ _) ?_))
    refine bodyPost_ret (lC rfl _ _ w.heap.size false (fun _=>0) 24 _ rfl rfl (HRX.out.row (ax false (fun _=>0)))) rfl ?_;exact F3 (fun _=>0) (fun _=>by show 0 < 256;omega) ((hC.trans C2).setRow (.inr (Xy _)) _) HF.out
   |true=>
    go_wp2_with (first | (refine yF rfl _ rfl (w.heap.size+1) rfl 24 false (fun _=>0) HAX.out ?_) | (refine lY rfl _ _ rfl w.heap.size false (fun _=>0) rfl rfl 24 _ HRX.out (aE _ _) ?_))
    refine bodyPost_ret (lC rfl _ _ w.heap.size false (fun _=>0) 24 _ rfl rfl (HRX.out.row (ax false (fun _=>0)))) rfl ?_;exact F3 (fun _=>0) (fun _=>by show 0 < 256;omega) ((hC.trans C2).setRow (.inr (Xy _)) _) HF.out
open Go.RowKit Go.Lib Go.Sort
theorem Tryz.Nd:(prog.info? 5).map (fun i=>(i.zero,i.size,i.bytes))=some (some (.int .u8 0),1,1):=by kernel_rfl
set_option maxHeartbeats 4000000 in
theorem R3(u:Nat)(hu:u < 65536)(w:World):Calls prog 98 #[.slice none 0 0,.int .u16 (u:Nat)] w fun e w'=>
  ∃A c,e=.returned (.slice A 2 c)∧Acc w w' 5 1 (.slice A 2 c) 2 [.int .u8 (u / 256:Nat),.int .u8 (u%256:Nat)]:=by
 obtain⟨i0,hi,hz0,hz1,hz2⟩:=info_parts Tryz.Nd;have HIN:=hid (Sx.t2 hi hz0 (And.intro hz1 hz2));clear hi hz0 hz1 hz2;have hmk:∀W:World,(Instr.makeSlice 82 (.int .i64 0) (.int .i64 2)).run prog W=.ok (.slice (some ⟨W.heap.size,0,none⟩) 0 2) (W.alloc (.cells #[.int .u8 0,.int .u8 0] 5)):=fun W=>by have h:=run_make (P:=prog) W 82 5 i0 _ underlying82 HIN.out.1 HIN.out.2.1 .i64 .i64 0 2 (by omega) (by omega) (by rw[HIN.out.2.2.2];decide) (by omega);rw[HIN.out.2.2.1]at h;rw[h,show madeCells (XL X2 0).cells (Int.toNat 2*1)=#[.int .u8 0,.int .u8 0] by kernel_rfl];rfl
 have hcp:∀W:World,(Builtin.copy_ #[82,82] 3 #[.slice (some ⟨w.heap.size,0,none⟩) 0 2,.slice none 0 0]).run prog W=.ok (.int .i64 0) W:=fun W=>run_copy_none W 82 82 3 5 _ _ 0 2 0 0 underlying82 (by rw[HIN.out.1];simp[HIN.out.2.2.1]) (by decide);obtain⟨hi,hhi⟩:∃hi,hi=u / 256:=⟨_,rfl⟩;obtain⟨lo,hlo⟩:∃lo,lo=u%256:=⟨_,rfl⟩;rw[←hhi,←hlo];have e1:(u:Int) / 256=(hi:Int):=by omega
 have e2:X2.wrap (u:Int)=(lo:Int):=by rw[X3];omega
 have hi256:hi < 256:=by omega
 have hu0:0≤(u:Int):=by omega
 have HACC:∀W,Acc W (W.alloc (.cells #[.int .u8 0,.int .u8 0] 5)) 5 1 (.slice (some ⟨W.heap.size,0,none⟩) 0 2) 0 []:=fun W=>⟨Own.made W 5 1 0 2 [.int .u8 0,.int .u8 0] (by omega) (by unfold maxLen;omega) rfl,fun k hk=>by simp[Value.ownBlock]at hk;omega,(ai.refl [] W).alloc _⟩;have HAC:=hid (HACC w);clear hhi hlo HACC;go_enter func98,ntmps98
 go_wp2_with (go_at_call 160;refine(Gx _).mono ?_;rintro e w2 ⟨rfl,hw2⟩;subst hw2)
 obtain⟨wz,hwz⟩:∃wz,wz=w2.alloc (.cells #[.int .u8 0,.int .u8 0] 5):=⟨_,rfl⟩;have hAC:=HAC.out;rw[←hwz]at hAC
 try rw[←hwz]
 clear hwz HAC;go_loopw [5,6] (fun nv sv wr=>(nv=.int .i64 1∧∃A c,sv=.slice A 0 c∧Acc w2 wr 5 1 (.slice A 0 c) 0 [])∨(nv=.int .i64 0∧∃A c,sv=.slice A 1 c∧Acc w2 wr 5 1 (.slice A 1 c) 1 [.int .u8 (hi:Nat)])∨(nv=.int .i64 (-1)∧∃A c,sv=.slice A 2 c∧Acc w2 wr 5 1 (.slice A 2 c) 2 [.int .u8 (hi:Nat),.int .u8 (lo:Nat)])) (fun nv _ _=>(RowKit.intOf nv+1).toNat)
 case atStart=>exact .inl ⟨rfl,_,_,rfl,hAC⟩
 case round=>
  rcases hrel with⟨rfl,A,c,rfl,hA⟩ | ⟨rfl,A,c,rfl,hA⟩ | ⟨rfl,A,c,rfl,hA⟩
  ·have HA:=hid hA
   clear hA;go_wp2_with ((with_reducible refine gn ?_);(refine ew _ rfl (.tmp 24) (.tmp 31) 82 rfl 5 i0 _ 1 1 underlying82 HIN.out.1 HIN.out.2.1 HIN.out.2.2.1 HIN.out.2.2.2 rfl (by omega) (.slice A 0 c) 0 [] rfl (HA.out.alloc _).own ⟨wr.heap.size,0,none⟩ 1 1 [.int .u8 (hi:Nat)] rfl rfl (by simpa using (aw.new wr 5 #[.int .u8 (hi:Nat)]).Eo) (by simp[XO]) (by unfold maxLen;omega) (by omega) ?_);intro A' c' w3 hO3 hC3 hb3)
   go_roundw
   case measure=>decide
   case rel=>exact .inr (.inl ⟨rfl,A',c',rfl,Acc.append (HA.out.alloc _) hO3 hC3 hb3⟩)
  ·have HA:=hid hA
   clear hA;go_wp2_with ((with_reducible refine gn ?_);(refine ew _ rfl (.tmp 24) (.tmp 31) 82 rfl 5 i0 _ 1 1 underlying82 HIN.out.1 HIN.out.2.1 HIN.out.2.2.1 HIN.out.2.2.2 rfl (by omega) (.slice A 1 c) 1 [.int .u8 (hi:Nat)] rfl (HA.out.alloc _).own ⟨wr.heap.size,0,none⟩ 1 1 [.int .u8 (lo:Nat)] rfl rfl (by simpa using (aw.new wr 5 #[.int .u8 (lo:Nat)]).Eo) (by simp[XO]) (by unfold maxLen;omega) (by omega) ?_);intro A' c' w3 hO3 hC3 hb3)
   go_roundw
   case measure=>decide
   case rel=>exact .inr (.inr ⟨rfl,A',c',rfl,Acc.append (HA.out.alloc _) hO3 hC3 hb3⟩)
  ·have HA:=hid hA
   clear hA;go_wp2
   go_ret
   exact⟨A,c,rfl,HA.out⟩
open Go.RowKit Go.Lib Go.Sort
theorem Cx(t:TypeId)(g n c:Nat)(W:World)(L news:List Value)(T:TypeId)(hg:aw W g T L)(A:Option Go.Addr)(m sc:Nat)(ht:prog.underlying t=some (.slice 62))(hl:news.length=m)
  (hsrc:0 < news.length→∃ad,A=some ad∧∀j v,news[j]?=some v→W.cell? (ad.add j)=some v) (h1:∀v∈news,v.oneCell'=true) (hroom:n+m≤c) (hfit:n+news.length≤L.length) :
  (Builtin.append_ #[t,t] t #[.slice (some ⟨g,0,none⟩) n c,.slice A m sc]).run prog W=.ok (.slice (some ⟨g,0,none⟩) (n+m) c) (W.setRow g (splice L n news).toArray):=by
 have hs:(prog.info? 62).map (·.size)=some 1:=by kernel_rfl
 have h:=qE (P:=prog) W t t 62 1 ht hs g 0 n c L T hg A m sc news (by omega) hsrc h1 hroom (by omega);rwa [show 0+n*1=n by omega]at h
set_option maxHeartbeats 4000000 in
theorem Tz(w:World):Calls prog 159 #[.slice none 0 0,.int .i64 8] w fun e w'=>
  ∃c L,e=.returned (.slice (some ⟨w.heap.size,0,none⟩) 0 c)∧aw w' w.heap.size 62 L∧8≤c∧c≤L.length∧c≤maxLen∧ai [] w w':=by
 have HB:=hid (aw.new w.drew 62 (Builtin.zeroCells #[XL .u16 0] 8++Builtin.zeroCells #[XL .u16 0] (grownCap w 8 0 62 - 8)));have HC:=hid (((ai.refl [] w).drew).alloc (.cells (Builtin.zeroCells #[XL .u16 0] 8++Builtin.zeroCells #[XL .u16 0] (grownCap w 8 0 62 - 8)) 62));have hge:=grownCap_ge w 8 0 62;have hcm:=grownCap_le_maxLen w 8 0 62 (by unfold maxLen;omega);have HX:=hid (show grownCap w 8 0 62≤(Builtin.zeroCells #[XL .u16 0] 8++Builtin.zeroCells #[XL .u16 0] (grownCap w 8 0 62 - 8)).toList.length by rw[Array.length_toList,Array.size_append,size_zeroCells,size_zeroCells];simp;omega);have HGE:=hid hge;have HCM:=hid hcm;clear hge hcm;go_enter func159,ntmps159
 go_wp2
 go_ret
 exact⟨grownCap w 8 0 62,rfl,_,HB.out,HGE.out,HX.out,HCM.out,HC.out⟩
def pU(w:World)(A:Option Go.Addr)(xs:List Nat):Prop:=0 < xs.length→∃ad,A=some ad∧ad.block < w.heap.size∧∀(j u:Nat),xs[j]?=some u→w.cell? (ad.add j)=some (.int .u16 (u:Nat))
theorem pU.aJ{w w':World}{A:Option Go.Addr}{xs:List Nat}(h:pU w A xs)(hc:ai [] w w'):pU w' A xs:=fun h0=>by
 obtain⟨ad,h1,h2,h3⟩:=h h0;refine⟨ad,h1,Nat.lt_of_lt_of_le h2 hc.size,fun j u hu=>?_⟩;have hb:(ad.add j).block=ad.block:=by unfold Addr.add;split<;>rfl
 exact(hc.cell (p:=ad.add j) (by rw[hb];exact h2) (by simp)).trans (h3 j u hu)
theorem pU.src{w:World}{A:Option Go.Addr}{xs:List Nat}(h:pU w A xs):0 < (jC xs).length→∃ad,A=some ad∧∀(j:Nat) (v:Value),(jC xs)[j]?=some v→w.cell? (ad.add j)=some v:=fun h0=>by
 obtain⟨ad,h1,_,h3⟩:=h (by simpa[jC]using h0);refine⟨ad,h1,fun j v hv=>?_⟩;unfold jC at hv;rw[XD]at hv;cases hx:xs[j]? with
 |none=>rw[hx]at hv;cases hv
 |some u=>rw[hx]at hv;injection hv with hv;rw[←hv];exact h3 j u hx
theorem KV(xs:List Nat):∀v∈jC xs,v.oneCell'=true:=by intro v hv;unfold jC at hv;rw[XY]at hv;obtain⟨u,_,rfl⟩:=hv;rfl
theorem jB(xs:List Nat):(jC xs).length=xs.length:=by simp[jC]
def nj(w wx:World)(G c:Nat)(pre:List Nat):Prop:=∃Lx,aw wx G 62 Lx∧c≤Lx.length∧Lx.take pre.length=jC pre∧ai [] w wx
theorem nj.app{w wx:World}{G c:Nat}{pre:List Nat}(h:nj w wx G c pre)(hG:w.heap.size≤G)(A:Option Go.Addr)(xs:List Nat)(cap m n:Nat)(hm:m=pre.length)(hn:n=xs.length)(sl:pU w A xs)(hc:m+n≤c) :
  ∃wn,(Builtin.append_ #[158,158] 158 #[.slice (some ⟨G,0,none⟩) m c,.slice A n cap]).run prog wx=.ok (.slice (some ⟨G,0,none⟩) (m+n) c) wn∧nj w wn G c (pre++xs):=by
 subst hm hn;obtain⟨Lx,hB,hL,hT,hC⟩:=h;have hl:pre.length+(jC xs).length≤Lx.length:=by rw[jB];omega
 refine⟨_,Cx 158 G pre.length c wx Lx (jC xs) 62 hB A xs.length cap underlying158 (jB xs) (sl.aJ hC).src (KV xs) hc hl,_,hB.row _,?_,?_,hC.setRow (.inr hG) _⟩
 ·rw[lZ Lx _ _ hl];exact hL
 ·have hsp:splice Lx pre.length (jC xs)=Lx.take pre.length++jC xs++Lx.drop (pre.length+(jC xs).length):=by
   unfold splice;rw[List.append_assoc]
  rw[hsp,hT,XC,←jB xs];rw[X9 (by rw[XC,jB,jB])];simp[jC]
theorem nj.at_{w wx:World}{G c:Nat}{pre:List Nat}(h:nj w wx G c pre){g i:Nat}{v:Value}(hg:g < w.heap.size)(hv:w.cell? ⟨g,i,none⟩=some v):wx.cell? ⟨g,i,none⟩=some v:=by obtain⟨_,_,_,_,hC⟩:=h;exact(hC.cell (p:=⟨g,i,none⟩) hg (by simp)).trans hv
set_option maxHeartbeats 8000000 in
theorem DX(g:Nat)(w:World)(A1 A2 A3:Option Go.Addr)(c1 c2 c3:Nat)(x1 x2 x3:List Nat)(h8:x1.length+x2.length+x3.length=8)
  (k1:w.cell? ⟨g,0,none⟩=some (.slice A1 x1.length c1)) (k2:w.cell? ⟨g,1,none⟩=some (.slice A2 x2.length c2)) (k3:w.cell? ⟨g,2,none⟩=some (.slice A3 x3.length c3)) (hg:g < w.heap.size)
  (s1:pU w A1 x1) (s2:pU w A2 x2) (s3:pU w A3 x3):Calls prog 97 #[.slice (some ⟨g,0,none⟩) 3 3] w fun e w'=>
  ∃g' c Lx,e=.returned (.slice (some ⟨g',0,none⟩) 8 c)∧aw w' g' 62 Lx∧8≤c∧(∀j u:Nat,(x1++x2++x3)[j]?=some u→Lx[j]?=some (.int .u16 (u:Nat)))∧ai [] w w':=by
 obtain⟨n1,hn1⟩:∃n,n=x1.length:=⟨_,rfl⟩;obtain⟨n2,hn2⟩:∃n,n=x2.length:=⟨_,rfl⟩;obtain⟨n3,hn3⟩:∃n,n=x3.length:=⟨_,rfl⟩;rw[←hn1]at h8 k1;rw[←hn2]at h8 k2;rw[←hn3]at h8 k3;have HN1:=hid hn1;have HN2:=hid hn2;have HN3:=hid hn3;have S1:=hid s1;have S2:=hid s2;have S3:=hid s3;clear hn1 hn2 hn3 s1 s2 s3;have e3:(n1:Int)+(n2:Int)+(n3:Int)=8:=by omega
 have hf1:(n1:Int)≤8:=by omega
 have hf2:(n1:Int)+(n2:Int)≤8:=by omega
 go_enter func97,ntmps97
 go_wp2
 go_loopw [3,11] (fun sv iv wr=>w=wr∧((sv=.int .i64 0∧iv=.int .i64 0)∨(sv=.int .i64 n1∧iv=.int .i64 1)∨(sv=.int .i64 ((n1:Int)+n2)∧iv=.int .i64 2)∨(sv=.int .i64 8∧iv=.int .i64 3))) (fun _ iv _=>3 - (RowKit.intOf iv).toNat)
 case atStart=>exact⟨rfl,.inl ⟨rfl,rfl⟩⟩
 case round=>
  obtain⟨rfl,⟨rfl,rfl⟩ | ⟨rfl,rfl⟩ | ⟨rfl,rfl⟩ | ⟨rfl,rfl⟩⟩:=hrel
  ·go_wp2
   go_roundw
   case measure=>decide
   case rel=>exact⟨by first|trivial|rfl,.inr (.inl ⟨rfl,rfl⟩)⟩
  ·go_wp2
   go_roundw
   case measure=>decide
   case rel=>exact⟨by first|trivial|rfl,.inr (.inr (.inl ⟨rfl,rfl⟩))⟩
  ·go_wp2
   go_roundw
   case measure=>decide
   case rel=>exact⟨by first|trivial|rfl,.inr (.inr (.inr ⟨rfl,rfl⟩))⟩
  ·go_wp2_with (go_at_call 159;refine(Tz _).mono ?_;rintro e w2 ⟨c,L,rfl,HB,hc8,hcL,hcm,C2⟩)
   obtain⟨G,hG⟩:∃G,G=w.heap.size:=⟨_,rfl⟩;have hGle:w.heap.size≤G:=by omega
   rw[←hG]at HB
   try rw[←hG]
   have HCAT:=hid (show nj w w2 G c []from⟨L,HB,hcL,by simp[jC],C2⟩);have HGL:=hid hGle;obtain⟨wz,hwz⟩:∃wz,wz=w2:=⟨_,rfl⟩;rw[←hwz]at HCAT ⊢;clear hG hGle HB hcL hcm C2 hwz w2;have K1:=hid k1;have K2:=hid k2;have K3:=hid k3;clear k1 k2 k3;go_loopw [6,27] (fun sv iv wx=>(sv=.slice (some ⟨G,0,none⟩) 0 c∧iv=.int .i64 0∧Hid (nj w wx G c []))∨(sv=.slice (some ⟨G,0,none⟩) n1 c∧iv=.int .i64 1∧Hid (nj w wx G c x1))∨(sv=.slice (some ⟨G,0,none⟩) (n1+n2) c∧iv=.int .i64 2∧Hid (nj w wx G c (x1++x2)))∨(sv=.slice (some ⟨G,0,none⟩) 8 c∧iv=.int .i64 3∧Hid (nj w wx G c (x1++x2++x3)))) (fun _ iv _=>3 - (RowKit.intOf iv).toNat)
   case atStart=>exact .inl ⟨rfl,rfl,HCAT⟩
   case round=>
    rcases hrel with⟨rfl,rfl,hq⟩ | ⟨rfl,rfl,hq⟩ | ⟨rfl,rfl,hq⟩ | ⟨rfl,rfl,hq⟩
    ·obtain⟨wn,hap,hq2⟩:=nj.app hq.out HGL.out A1 x1 c1 0 n1 rfl HN1.out S1.out (by omega)
     have HQ2:=hid hq2;have j1:=hq.out.at_ hg K1.out;rw[Yd]at hap;have HAP:=hid hap;clear hq hq2 hap;go_wp2_with ((with_reducible refine gn ?_);refine Lib.wpList_append_run _ rfl (.tmp 31) (.tmp 32) 158 158 rfl _ _ rfl rfl _ _ HAP.out ?_)
     go_roundw
     case measure=>decide
     case rel=>exact .inr (.inl ⟨rfl,rfl,HQ2⟩)
    ·obtain⟨wn,hap,hq2⟩:=nj.app hq.out HGL.out A2 x2 c2 n1 n2 HN1.out HN2.out S2.out (by omega)
     have HQ2:=hid hq2;have j1:=hq.out.at_ hg K2.out;have HAP:=hid hap;clear hq hq2 hap;go_wp2_with ((with_reducible refine gn ?_);refine Lib.wpList_append_run _ rfl (.tmp 31) (.tmp 32) 158 158 rfl _ _ rfl rfl _ _ HAP.out ?_)
     go_roundw
     case measure=>decide
     case rel=>exact .inr (.inr (.inl ⟨rfl,rfl,HQ2⟩))
    ·obtain⟨wn,hap,hq2⟩:=nj.app hq.out HGL.out A3 x3 c3 (n1+n2) n3 (by rw[XC,←HN1.out,←HN2.out]) HN3.out S3.out (by omega)
     have HQ2:=hid hq2;have j1:=hq.out.at_ hg K3.out;rw[h8]at hap;have HAP:=hid hap;clear hq hq2 hap;go_wp2_with ((with_reducible refine gn ?_);refine Lib.wpList_append_run _ rfl (.tmp 31) (.tmp 32) 158 158 rfl _ _ rfl rfl _ _ HAP.out ?_)
     go_roundw
     case measure=>decide
     case rel=>exact .inr (.inr (.inr ⟨rfl,rfl,HQ2⟩))
    ·go_wp2
     go_ret
     obtain⟨Lx,hB,hL,hT,hC⟩:=hq.out;refine⟨G,c,Lx,rfl,hB,hc8,fun j u hu=>?_,hC⟩;have h1:(jC (x1++x2++x3))[j]?=some (.int .u16 (u:Nat)):=by unfold jC;rw[XD,hu];rfl
     rw[←hT,X5]at h1;split at h1
     ·exact h1
     ·cases h1
open Go.RowKit Go.Lib Go.Sort
theorem Ij(s p:List UInt8):(Lib.cut s p).1.length≤s.length∧(Lib.cut s p).2.1.length≤s.length:=by
 unfold Lib.cut;split
 ·simp only[XM,XT];omega
 ·simp
theorem KP{s:List UInt8}{x1 x2:List Nat}{o1 o2:Bool}(h1:∀l:List Nat,(∀u∈l,u < 65536)→(Lib.cut s [58,58]).1=aU l→o1=true∧x1=l)
  (h2:∀l:List Nat,(∀u∈l,u < 65536)→(Lib.cut s [58,58]).2.1=aU l→o2=true∧x2=l) (m:Nat) (hs:s=cK (aP m)) :
  o1=true∧o2=true∧x1.length+x2.length≤8∧((Lib.cut s [58,58]).2.2=true∨x1.length=8)∧x1++XI (8 - x1.length - x2.length) 0++x2=aP m:=by
 have hc:=Af (aP m);rw[←hs]at hc;obtain⟨hf1,hf2,hf3⟩:=xS (aP m) rfl;by_cases hg:(fK (zs (aP m))).1=(fK (zs (aP m))).2
 ·rw[if_pos hg]at hc
  rw[hc]at h1 h2 ⊢;obtain⟨q1,rfl⟩:=h1 (aP m) (fun u hu=>gT hu) rfl;obtain⟨q2,rfl⟩:=h2 [] (by simp) rfl;refine⟨q1,q2,by rw[eQ];simp,.inr rfl,?_⟩;rw[eQ];simp
 ·rw[if_neg hg]at hc
  rw[hc]at h1 h2 ⊢;obtain⟨q1,rfl⟩:=h1 _ (fun u hu=>gT (X0 hu)) rfl;obtain⟨q2,rfl⟩:=h2 _ (fun u hu=>gT (X1 hu)) rfl;refine⟨q1,q2,?_,.inl rfl,hf3⟩;rw[XM,XT,eQ];omega
def bf(L:List Nat)(k j:Nat):Nat:=if j < 2*k then(if j%2=0 then L.getD (j / 2) 0 / 256 else L.getD (j / 2) 0%256)else 0
theorem QT{L:List Nat}(h:∀u∈L,u < 65536)(j:Nat):L.getD j 0 < 65536:=by
 by_cases hj:j < L.length
 ·rw[XE,XA hj];exact h _ (List.getElem_mem hj)
 ·rw[XE,XB (by omega)];simp
theorem Sj{L:List Nat}(h:∀u∈L,u < 65536)(k j:Nat):bf L k j < 256:=by
 have:=QT h (j / 2);unfold bf;split
 ·split<;>omega
 ·omega
theorem Sm(L:List Nat)(k u:Nat)(hu:L[k]?=some u):bf L (k+1) (2*k)=u / 256:=by unfold bf;rw[if_pos (by omega),if_pos (by omega),show 2*k / 2=k by omega,XE,hu]; rfl
theorem Sk(L:List Nat)(k u:Nat)(hu:L[k]?=some u):bf L (k+1) (2*k+1)=u%256:=by unfold bf;rw[if_pos (by omega),if_neg (by omega),show(2*k+1) / 2=k by omega,XE,hu]; rfl
theorem Ir(L:List Nat)(k j:Nat)(h1:j≠2*k)(h2:j≠2*k+1):bf L (k+1) j=bf L k j:=by
 unfold bf;by_cases h:j < 2*k
 ·rw[if_pos h,if_pos (by omega)]
 ·rw[if_neg h,if_neg (by omega)]
theorem Ni{n:Nat}{L:List Nat}(hl:L.length=8)(h:∀j,j < 8→L[j]?=some (eE n j)):aP n=L:=by
 apply XR;intro j;by_cases hj:j < 8
 ·rw[h j hj,pC n j hj]
 ·rw[XB (by rw[eQ];omega),XB (by omega)]
theorem H5{n:Nat}{L:List Nat}(hl:L.length=8)(h:∀j,j < 16→ah n j=bf L 8 j):aP n=L:=by refine Ni hl fun j hj=>?_;obtain⟨u,hu⟩:∃u,L[j]?=some u:=⟨_,XA (by omega)⟩;rw[hu];unfold eE;rw[h (2*j) (by omega),h (2*j+1) (by omega)];unfold bf;rw[if_pos (by omega),if_pos (by omega),if_pos (by omega),if_neg (by omega),show 2*j / 2=j by omega,show(2*j+1) / 2=j by omega,XE,hu];simp;omega
theorem DA{n m:Nat}(hn:n < 2^128)(hm:m < 2^128)(h:aP n=aP m):n=m:=by
 refine lk hn hm fun i hi=>?_;have h1:=pC n (i / 2) (by omega);rw[h,pC m (i / 2) (by omega)]at h1;injection h1 with h1;unfold eE at h1;have b1:=ba n (2*(i / 2)+1);have b2:=ba m (2*(i / 2)+1);by_cases h2:i%2=0
 ·rw[show i=2*(i / 2)by omega]; omega
 ·rw[show i=2*(i / 2)+1 by omega]; omega
theorem AU(n:Nat):jt true n=true:=by unfold jt;rw[decide_eq_true_eq];exact JI n
theorem O9(v:Bool)(f g:Nat→Nat)(k2 hi lo:Nat)(hk:k2≤14)(h1:g k2=hi)(h2:g (k2+1)=lo)(h3:∀j,j≠k2→j≠k2+1→g j=f j) :
  splice (ax v f) (1+k2) [.int .u8 (hi:Nat),.int .u8 (lo:Nat)]=ax v g:=by
 apply XR;intro j;have hsp:splice (ax v f) (1+k2) [.int .u8 (hi:Nat),.int .u8 (lo:Nat)]=(ax v f).take (1+k2)++([.int .u8 (hi:Nat),.int .u8 (lo:Nat)]++(ax v f).drop (1+k2+2)):=rfl;rw[hsp];have hl:((ax v f).take (1+k2)).length=1+k2:=by rw[XM,aE];omega
 by_cases hj:j < 1+k2
 ·rw[List.getElem?_append_left (by omega),X5,if_pos hj]
  cases j with
  |zero=>rfl
  |succ j=>rw[Nat.add_comm j 1,cM v f j (by omega),cM v g j (by omega),h3 j (by omega) (by omega)]
 ·rw[XW (by omega),hl]
  by_cases hj2:j=1+k2
  ·subst hj2
   rw[cM v g k2 (by omega),h1];simp
  ·by_cases hj3:j=1+k2+1
   ·subst hj3
    rw[show 1+k2+1=1+(k2+1)by omega,cM v g (k2+1) (by omega),h2,show 1+(k2+1) - (1+k2)=1 by omega];rfl
   ·rw[XW (by simp;omega),List.getElem?_drop]
    simp only[XU,Ya];rw[show 1+k2+2+(j - (1+k2) - (0+1+1))=j by omega];by_cases hj4:j < 17
    ·obtain⟨i,rfl⟩:∃i,j=1+i:=⟨j - 1,by omega⟩
     rw[cM v f i (by omega),cM v g i (by omega),h3 i (by omega) (by omega)]
    ·rw[XB (by rw[aE];omega),XB (by rw[aE];omega)]
theorem DW{w1:World}{g:Nat}{v:Bool}{f f':Nat→Nat}(hb:aw w1 g 24 (ax v f))(k2 hi lo:Nat)(hk:k2≤14)(h1:f' k2=hi)(h2:f' (k2+1)=lo)(h3:∀j,j≠k2→j≠k2+1→f' j=f j)
  {A:Option Go.Addr} {c:Nat} (hO:Own w1 5 1 (.slice A 2 c) 2 [.int .u8 (hi:Nat),.int .u8 (lo:Nat)]) :
  (Builtin.copy_ #[82,82] 3 #[.slice (some ⟨g,1+k2,none⟩) (16 - k2) (16 - k2),.slice A 2 c]).run prog w1=.ok (.int .i64 2) (w1.setRow g (ax v f').toArray):=by
 obtain⟨g2,o2,c2,hv,_⟩:=hO.some_ (by omega);injection hv with hA _ hc;subst hA hc
 have h:=Az (P:=prog) w1 82 82 3 5 1 underlying82 (by kernel_rfl) g (1+k2) (16 - k2) (16 - k2) (ax v f) 24 hb (some ⟨g2,o2,none⟩) 2 c [.int .u8 (hi:Nat),.int .u8 (lo:Nat)] (by show 2=min 2 (16 - k2)*1; omega)
  (fun _=>⟨_,rfl,hO.lj⟩) (by rw[aE];simp;omega) (by simp[XO])
 rw[O9 v f f' k2 hi lo hk h1 h2 h3]at h;have e:Nat.min 2 (16 - k2)=2:=by show min 2 (16 - k2)=2; omega
 rw[h,e];simp[goInt]
set_option maxRecDepth 100000
open Go.RowKit Go.Lib Go.Sort _root_.Go.Proofs.Tryz
theorem Ru:prog.built 24 [(0,.bool true)]=some (ax true fun _=>0).toArray:=by kernel_rfl
theorem WS{ops:Array Oper}{rest:List Oper}{o:Oper}{a:Act}{w:World}{Q:Exit→Act→World→Prop}(hg:o.guard=none)(ho:o.op=.build 24 #[(0,.const (.bool true))])
  (h:wpList prog ops Q rest (a.put o.dst (.agg (ax true fun _=>0).toArray)) w):wpList prog ops Q (o::rest) a w:=by
 have e:prog.built 24 ((#[(0,.const (.bool true))]:Array (Nat×Operand)).map fun(i,z)=>(i,a.eval z)).toList=some (ax true fun _=>0).toArray:=by simp only[List.map_toArray,List.map_cons,List.map_nil];exact Ru
 refine wpList_build hg 24 _ ho (by rw[e];rfl) ?_;rw[e];exact h
theorem GJ(g k2:Nat)(hk:k2≤14)(W:World):(Instr.sliceAt 22 (.pointer (some ⟨g,1,none⟩)) (some (.int .i64 (k2:Int))) none none).run prog W=.ok (.slice (some ⟨g,1+k2,none⟩) (16 - k2) (16 - k2)) W:=by
 have hal:prog.arrayLen 22=16:=by kernel_rfl
 rw[run_sliceAt_array_l (P:=prog) W 22 ⟨g,1,none⟩ (by kernel_rfl) .i64 (k2:Int) (by omega) (by omega)];have h16:¬16=k2:=by omega
 go_simp
theorem pU.o8{w:World}{A:Option Go.Addr}{n c:Nat}{xs:List Nat}(h:Own w 62 1 (.slice A n c) n (jC xs)):pU w A xs:=fun h0=>by
 have hl:xs.length=n:=by have:=h.len;rw[jB]at this;omega
 obtain⟨g,o,c',hv,_,_,hg⟩:=h.some_ (by omega);injection hv with hA _ hc;subst hA hc;refine⟨⟨g,o,none⟩,rfl,hg,fun j u hu=>h.lj j _ ?_⟩;unfold jC;rw[XD,hu];rfl
def rowOf(n:Nat)(z:Value):Array Value:=Array.replicate n z
theorem MO(n:Nat)(hb:n≤8)(W:World):(Instr.makeSlice 158 (.int .i64 (n:Int)) (.int .i64 (n:Int))).run prog W=.ok (.slice (some ⟨W.heap.size,0,none⟩) n n) (W.alloc (.cells (rowOf n (.int .u16 0)) 62)):=by
 obtain⟨i,hi,hy0,hy1,hy2⟩:=info_parts Tryz.Nc;have hb':(i.bytes:Int)*(n:Int)≤281474976710656:=by rw[hy2];omega
 have h:=run_make (P:=prog) W 158 62 i _ underlying158 hi hy0 .i64 .i64 n n (by omega) (Int.le_refl _) hb' (by omega);simp only[Int.toNat_natCast,hy1,Nat.mul_one]at h;rw[h];have e1:madeCells (XL XX 0).cells n=rowOf n (.int .u16 0):=by
  rw[show(XL XX 0).cells=#[.int .u16 0]from rfl];unfold madeCells rowOf;apply Array.ext
  ·simp
  ·intro j h1 h2
   simp[Nat.mod_one]
 rw[e1]
theorem pU.RL(W:World)(n:Nat):pU (W.alloc (.cells (rowOf n (.int .u16 0)) 62)) (some ⟨W.heap.size,0,none⟩) (XI n 0):=fun _=>by
 have hb:=aw.new W 62 (rowOf n (.int .u16 0));refine⟨⟨W.heap.size,0,none⟩,rfl,hb.lt,fun j u hu=>?_⟩;rw[Lib.add_plain,Yd];refine hb.cell_of ?_;rw[List.getElem?_replicate]at hu;split at hu
 ·rename_i hj
  injection hu with hu;subst hu;simp[rowOf,hj]
 ·cases hu
def s7(s:List UInt8)(w:World)(e:Ending)(w':World):Prop:=
 ∃(n:Nat) (ok:Bool),e=.returned (.tuple #[.agg (cD true n).toArray,.bool ok])∧ai [] w w'∧n < 2^128∧(ok=true→cK (aP n)=s)∧∀m,m < 2^128→s=cK (aP m)→n=m∧ok=true
theorem vf{s:List UInt8}{w w':World}(f:Nat→Nat)(hf:∀j,f j < 256)(hC:ai [] w w')(h:∀m,s=cK (aP m)→False):s7 s w (.returned (.tuple #[.agg (ax true f).toArray,.bool false])) w':=by obtain⟨n,hn,he,_⟩:=rW true f hf;rw[he];exact⟨n,false,rfl,hC,hn,fun h=>(by cases h),fun m _ h2=>(h m h2).elim⟩
set_option maxHeartbeats 8000000 in
theorem Sy(s:List UInt8)(hs:s.length≤100000000)(w:World)(HL:eF w):Calls prog 42 #[.string ⟨s.toArray⟩] w (s7 s w):=by
 have HCUT:=hid (fun W (hW:eF W)=>NL s [58,58] (by omega) W hW);have hcl:=Ij s [58,58];have HCAN:=hid (fun(x1 x2:List Nat) (o1 o2:Bool)=>KP (s:=s) (x1:=x1) (x2:=x2) (o1:=o1) (o2:=o2));obtain⟨hd,hhd⟩:∃x,x=(Lib.cut s [58,58]).1:=⟨_,rfl⟩;obtain⟨tl,htl⟩:∃x,x=(Lib.cut s [58,58]).2.1:=⟨_,rfl⟩;obtain⟨b,hb⟩:∃x,x=(Lib.cut s [58,58]).2.2:=⟨_,rfl⟩;rw[←hhd,←htl]at hcl;rw[←hhd,←htl,←hb]at HCUT HCAN;clear hhd htl hb;have HC1:=hid (fun W (hW:eF W)=>DY hd (by omega) W hW);have HC2:=hid (fun W (hW:eF W)=>DY tl (by omega) W hW);have HR:=hid (show aw ((w.alloc (.cells (ax false fun _=>0).toArray 24)).alloc (.cells (ax false fun _=>0).toArray 24)) w.heap.size 24 (ax false fun _=>0)from(aw.new w 24 (ax false fun _=>0).toArray).alloc _);have HA:=hid (show aw ((w.alloc (.cells (ax false fun _=>0).toArray 24)).alloc (.cells (ax false fun _=>0).toArray 24)) (w.heap.size+1) 24 (ax false fun _=>0)from aw.ga _ 24 (ax false fun _=>0).toArray (by simp));have HR1:=hid ((show aw (((w.alloc (.cells (ax false fun _=>0).toArray 24)).alloc (.cells (ax false fun _=>0).toArray 24)).setRow (w.heap.size+1) (ax true fun _=>0).toArray) w.heap.size 24 (ax false fun _=>0)from HR.out.aJ (S:=[w.heap.size+1]) ((ai.refl _ _).setRow (.inl (by simp)) _) (by simp)));have HA1:=hid (HA.out.row (ax true fun _=>0));have HCH:=hid ((((ai.refl [] w).alloc (.cells (ax false fun _=>0).toArray 24)).alloc (.cells (ax false fun _=>0).toArray 24)).setRow (g:=w.heap.size+1) (.inr (by omega)) (ax true fun _=>0).toArray);have HL1:=hid (HL.dO HCH.out);have HLW:=hid HL.low;have HSL:=hid hs;have HCL:=hid hcl;clear HL hs hcl;go_enter func42,ntmps42
 go_wp2_with (first
  | (go_at_call 48;refine(HCUT.out _ HL1.out).mono ?_;rintro e w2 ⟨rfl,C2⟩)
  | (go_at_call 96;refine(HC1.out _ (HL1.out.dO C2)).mono ?_)
  | (refine WS rfl rfl ?_)
  | (refine lY rfl _ _ rfl (w.heap.size+1) true (fun _=>0) rfl rfl 24 _ HA.out (aE _ _) ?_))
 rintro e w3 ⟨A1,n1,c1,x1,o1,rfl,hAc1,hx1,hn1,hcan1⟩;have HAc1:=hid hAc1;have HX1:=hid hx1;have HCN1:=hid hcan1;clear hAc1 hx1 hcan1;go_wp2_with (go_at_call 96;refine(HC2.out _ ((HL1.out.dO C2).dO HAc1.out.aJ)).mono ?_)
 rintro e w4 ⟨A2,n2,c2,x2,o2,rfl,hAc2,hx2,hn2,hcan2⟩;have HAc2:=hid hAc2;have HX2:=hid hx2;have HCN2:=hid hcan2;clear hAc2 hx2 hcan2;have HCH4:=hid ((C2.trans HAc1.out.aJ).trans HAc2.out.aJ);have HA4:=hid (HA1.out.aJ HCH4.out (by simp));have HR4:=hid (HR1.out.aJ HCH4.out (by simp));have HC4:=hid (HCH.out.trans HCH4.out);have HL4:=hid (HL1.out.dO HCH4.out);have HW:=hid (HCAN.out x1 x2 o1 o2 HCN1.out HCN2.out);have hl1:x1.length=n1:=by have:=HAc1.out.own.len;rw[jB]at this;omega
 have hl2:x2.length=n2:=by have:=HAc2.out.own.len;rw[jB]at this;omega
 have S1:=hid ((pU.o8 HAc1.out.own).aJ HAc2.out.aJ);have S2:=hid (pU.o8 HAc2.out.own);have b1:n1≤100000001:=by have:=HSL.out;have:=HCL.out;omega
 have b2:n2≤100000001:=by have:=HSL.out;have:=HCL.out;omega
 clear HAc1 HAc2 HCN1 HCN2 hn1 hn2 HC1 HC2 HCUT HCAN HA1 HR1 HA HR HCL C2;cases o1 with
 |false=>
  have HF:=hid (show ∀m,s=cK (aP m)→False from fun m h=>by have:=(HW.out m h).1;cases this);go_wp2_with (first | (refine yF rfl _ rfl (w.heap.size+1) rfl 24 true (fun _=>0) HA4.out ?_) | (refine lY rfl _ _ rfl w.heap.size true (fun _=>0) rfl rfl 24 _ HR4.out (aE _ _) ?_))
  refine bodyPost_ret (lC rfl _ _ w.heap.size true (fun _=>0) 24 _ rfl rfl (HR4.out.row (ax true (fun _=>0)))) rfl ?_;exact vf (fun _=>0) (fun _=>by show 0 < 256;omega) (HC4.out.setRow (.inr (Xy _)) _) HF.out
 |true=>
  cases o2 with
  |false=>
   have HF:=hid (show ∀m,s=cK (aP m)→False from fun m h=>by have:=(HW.out m h).2.1;cases this);go_wp2_with (first | (refine yF rfl _ rfl (w.heap.size+1) rfl 24 true (fun _=>0) HA4.out ?_) | (refine lY rfl _ _ rfl w.heap.size true (fun _=>0) rfl rfl 24 _ HR4.out (aE _ _) ?_))
   refine bodyPost_ret (lC rfl _ _ w.heap.size true (fun _=>0) 24 _ rfl rfl (HR4.out.row (ax true (fun _=>0)))) rfl ?_;exact vf (fun _=>0) (fun _=>by show 0 < 256;omega) (HC4.out.setRow (.inr (Xy _)) _) HF.out
  |true=>
   by_cases h8:8 < n1+n2
   ·have i8:(8:Int) < (n1:Int)+(n2:Int):=by omega
    have HF:=hid (show ∀m,s=cK (aP m)→False from fun m h=>by have:=(HW.out m h).2.2.1;omega);go_wp2_with (first | (refine yF rfl _ rfl (w.heap.size+1) rfl 24 true (fun _=>0) HA4.out ?_) | (refine lY rfl _ _ rfl w.heap.size true (fun _=>0) rfl rfl 24 _ HR4.out (aE _ _) ?_))
    refine bodyPost_ret (lC rfl _ _ w.heap.size true (fun _=>0) 24 _ rfl rfl (HR4.out.row (ax true (fun _=>0)))) rfl ?_;exact vf (fun _=>0) (fun _=>by show 0 < 256;omega) (HC4.out.setRow (.inr (Xy _)) _) HF.out
   ·cases b with
    |true=>
     obtain⟨z,hz⟩:∃z,z=8 - n1 - n2:=⟨_,rfl⟩;have HZ:=hid hz;clear hz;have i8:(n1:Int)+(n2:Int)≤8:=by omega
     have ez:(8:Int) - (n1:Int) - (n2:Int)=(z:Int):=by have:=HZ.out; omega
     have hmk:=MO z (by have:=HZ.out;omega)
     have HCON:=hid (DX (w4.heap.size+1) ((w4.alloc (.cells (rowOf z (.int .u16 0)) 62)).alloc (.cells #[.slice A1 n1 c1,.slice (some ⟨w4.heap.size,0,none⟩) z z,.slice A2 n2 c2] 158)) A1 (some ⟨w4.heap.size,0,none⟩) A2 c1 z c2 x1 (XI z 0) x2 (by rw[XF,hl1,hl2];have:=HZ.out;omega)
      (by rw[hl1];exact(aw.ga _ 158 #[.slice A1 n1 c1,.slice (some ⟨w4.heap.size,0,none⟩) z z,.slice A2 n2 c2] (by simp)).cell_of (i:=0) rfl)
      (by rw[XF];exact(aw.ga _ 158 #[.slice A1 n1 c1,.slice (some ⟨w4.heap.size,0,none⟩) z z,.slice A2 n2 c2] (by simp)).cell_of (i:=1) rfl)
      (by rw[hl2];exact(aw.ga _ 158 #[.slice A1 n1 c1,.slice (some ⟨w4.heap.size,0,none⟩) z z,.slice A2 n2 c2] (by simp)).cell_of (i:=2) rfl)
      (by simp)
      (S1.out.aJ (((ai.refl _ _).alloc _).alloc _)) ((pU.RL w4 z).aJ ((ai.refl _ _).alloc _)) (S2.out.aJ (((ai.refl _ _).alloc _).alloc _)))
     obtain⟨L,hL⟩:∃L,L=x1++XI z 0++x2:=⟨_,rfl⟩;rw[←hL]at HCON;have HLW2:=hid (show ∀m,s=cK (aP m)→L=aP m from fun m h=>by have:=(HW.out m h).2.2.2.2;rw[hl1,hl2]at this;rw[hL,←this,←HZ.out]);have hLl:L.length=8:=by rw[hL,XC,XC,XF,hl1,hl2];have:=HZ.out;omega
     have HLT:=hid (show ∀u∈L,u < 65536 from fun u hu=>by
      rw[hL,XH,XH]at hu;rcases hu with(hu|hu)|hu
      ·exact HX1.out u hu
      ·have:=(X4.1 hu).2;omega
      ·exact HX2.out u hu)
     have HLL:=hid hLl;clear hL hLl;go_wp2_with (go_at_call 97;refine HCON.out.mono ?_)
     rintro e w5 ⟨G,cG,Lx,rfl,hG,hcG,hLx,C5⟩;have HA5:=hid (((HA4.out.alloc (.cells (rowOf z (.int .u16 0)) 62)).alloc (.cells #[.slice A1 n1 c1,.slice (some ⟨w4.heap.size,0,none⟩) z z,.slice A2 n2 c2] 158)).aJ C5 (by simp));have HR5:=hid (((HR4.out.alloc (.cells (rowOf z (.int .u16 0)) 62)).alloc (.cells #[.slice A1 n1 c1,.slice (some ⟨w4.heap.size,0,none⟩) z z,.slice A2 n2 c2] 158)).aJ C5 (by simp));have HC5:=hid (((HC4.out.alloc (.cells (rowOf z (.int .u16 0)) 62)).alloc (.cells #[.slice A1 n1 c1,.slice (some ⟨w4.heap.size,0,none⟩) z z,.slice A2 n2 c2] 158)).trans C5);have HL5:=hid (((HL4.out.alloc (.cells (rowOf z (.int .u16 0)) 62)).alloc (.cells #[.slice A1 n1 c1,.slice (some ⟨w4.heap.size,0,none⟩) z z,.slice A2 n2 c2] 158)).dO C5);have HG:=hid hG;have HLX:=hid hLx;clear hG hLx C5 HCON;go_wp2
     obtain⟨wq,hwq⟩:∃wq,wq=w5:=⟨_,rfl⟩;rw[←hwq]at HA5 HR5 HC5 HL5 HG ⊢;clear hwq;go_loopw [71] (fun iv wr=>∃k:Nat,k≤8∧iv=.int .i64 k∧aw wr w.heap.size 24 (ax false fun _=>0)∧aw wr (w.heap.size+1) 24 (ax true (bf L k))∧aw wr G 62 Lx∧ai [] w wr∧eF wr) (fun iv _=>8 - (RowKit.intOf iv).toNat)
     case atStart=>exact⟨0,by omega,rfl,HR5.out,HA5.out,HG.out,HC5.out,HL5.out⟩
     case round=>
      obtain⟨k,hk,rfl,hR,hA,hG,hC,hLN⟩:=hrel;by_cases hlt:k < 8
      ·obtain⟨u,hu⟩:∃u,L[k]?=some u:=⟨_,XA (by rw[HLL.out];exact hlt)⟩
       have cu:=hG.cell_of (HLX.out k u hu);have hu65:=HLT.out u (Xz hu);have HPUT:=hid (R3 u hu65);obtain⟨k2,hk2⟩:∃k2:Nat,k2=2*k:=⟨_,rfl⟩;have e2:(2:Int)*(k:Int)=(k2:Int):=by omega
       have k14:k2≤14:=by omega
       have w2k:XS.wrap (k2:Int)=(k2:Int):=by rw[XQ];omega
       have h1:=Sm L k u hu;have h2:=Sk L k u hu;have h3:=Ir L k;rw[←hk2]at h1 h2 h3;have hsl:=GJ (w.heap.size+1) k2 k14;have HQ1:=hid h1;have HQ2:=hid h2;have HQ3:=hid h3;have HR6:=hid hR;have HA6:=hid hA;have HG6:=hid hG;have HC6:=hid hC;have HL6:=hid hLN;have hne:w.heap.size+1≠G:=fun h=>by have:=aw.Hm hG hA (by decide);omega
       have HNE:=hid hne;clear hu h1 h2 h3 hR hA hG hC hLN hne hk2;go_wp2
       go_region_with (go_at_call 98; refine(HPUT.out _).mono ?_; rintro e w1 ⟨A,c,rfl,hP⟩; have hb1:aw w1 (w.heap.size+1) 24 (ax true (bf L k)):=aw.aJ (by exact HA6.out) hP.aJ (by simp); have hcp:=DW hb1 k2 (u / 256) (u%256) k14 HQ1.out HQ2.out HQ3.out hP.own)
       all_goals go_wp2
       all_goals go_roundw
       all_goals first | (case measure=>simp[RowKit.intOf];omega)|skip
       all_goals refine⟨k+1,by omega,by go_num,?_,?_,?_,?_,?_⟩
       ·exact(aw.aJ (by exact HR6.out) hP.aJ (by simp)).aJ (S:=[w.heap.size+1]) ((ai.refl _ _).setRow (.inl (by simp)) _) (by simp)
       ·exact hb1.row _
       ·exact(aw.aJ (by exact HG6.out) hP.aJ (by simp)).aJ (S:=[w.heap.size+1]) ((ai.refl _ _).setRow (.inl (by simp)) _) (by simpa using fun h=>HNE.out h.symm)
       ·exact(ai.trans (by exact HC6.out.drew) hP.aJ).setRow (.inr (by omega)) _
       ·exact(eF.dO (eF.dO HL6.out ((ai.refl [] _).drew)) hP.aJ).aJ (S:=[w.heap.size+1]) ((ai.refl _ _).setRow (.inl (by simp)) _) (by intro j hj;have:=HLW.out;rw[XG]at hj;omega)
      ·have hk8:k=8:=by omega
       subst hk8;obtain⟨n,hn,hen,hbn⟩:=rW true (bf L 8) (Sj HLT.out 8);have hgr:=H5 HLL.out hbn;rw[hen]at hA;have HAT:=hid (rX true n hn wr hLN);rw[show gk true n=cK (aP n)by unfold gk;rw[AU];rfl]at HAT;obtain⟨T,hT⟩:∃T,T=cK (aP n):=⟨_,rfl⟩;rw[←hT]at HAT;have HTT:=hid hT;have HFI:=hid (show ∀W,ai [] w W→s7 s w (.returned (.tuple #[.agg (cD true n).toArray,.bool (T==s)])) W from fun W hW=>by
        refine⟨n,(T==s),rfl,hW,hn,fun h=>?_,fun m hm h=>?_⟩
        ·rw[←hT];exact eq_of_beq h
        ·have h1:n=m:=DA hn hm (by rw[hgr];exact HLW2.out m h)
         refine⟨h1,?_⟩;rw[hT,h1,h];exact beq_self_eq_true _)
       have HA7:=hid hA;have HR7:=hid hR;have HC7:=hid hC;clear hA hR hC hG hLN hT hgr hbn hen hn
       go_wp2_with (first
        | (go_at_call 53;refine HAT.out.mono ?_;rintro e w6 ⟨rfl,C6⟩)
        | (refine jH rfl _ rfl (w.heap.size+1) rfl 24 true n (HA7.out.aJ C6 (by simp)) ?_)
        | (refine jH rfl _ rfl (w.heap.size+1) rfl 24 true n HA7.out ?_)
        | (refine lY rfl _ _ rfl w.heap.size true (ah n) rfl rfl 24 _ (HR7.out.aJ C6 (by simp)) (aE _ _) ?_))
       refine bodyPost_ret (lC rfl _ _ w.heap.size true (ah n) 24 _ rfl rfl ((HR7.out.aJ C6 (by simp)).row (cD true n))) rfl ?_;exact HFI.out _ ((HC7.out.trans C6).setRow (.inr (Xy _)) _)
    |false=>
     by_cases h88:n1=8
     ·have h00:n2=0:=by omega
      subst h88 h00;have hmk:∀W:World,(Instr.makeSlice 158 (.int .i64 0) (.int .i64 0)).run prog W=.ok (.slice (some ⟨W.heap.size,0,none⟩) 0 0) (W.alloc (.cells (rowOf 0 (.int .u16 0)) 62)):=MO 0 (by omega)
      have HCON:=hid (DX (w4.heap.size+1) ((w4.alloc (.cells (rowOf 0 (.int .u16 0)) 62)).alloc (.cells #[.slice A1 8 c1,.slice (some ⟨w4.heap.size,0,none⟩) 0 0,.slice A2 0 c2] 158)) A1 (some ⟨w4.heap.size,0,none⟩) A2 c1 0 c2 x1 (XI 0 0) x2 (by rw[XF,hl1,hl2]<;>omega)
       (by rw[hl1];exact(aw.ga _ 158 #[.slice A1 8 c1,.slice (some ⟨w4.heap.size,0,none⟩) 0 0,.slice A2 0 c2] (by simp)).cell_of (i:=0) rfl)
       (by rw[XF];exact(aw.ga _ 158 #[.slice A1 8 c1,.slice (some ⟨w4.heap.size,0,none⟩) 0 0,.slice A2 0 c2] (by simp)).cell_of (i:=1) rfl)
       (by rw[hl2];exact(aw.ga _ 158 #[.slice A1 8 c1,.slice (some ⟨w4.heap.size,0,none⟩) 0 0,.slice A2 0 c2] (by simp)).cell_of (i:=2) rfl)
       (by simp)
       (S1.out.aJ (((ai.refl _ _).alloc _).alloc _)) ((pU.RL w4 0).aJ ((ai.refl _ _).alloc _)) (S2.out.aJ (((ai.refl _ _).alloc _).alloc _)))
      obtain⟨L,hL⟩:∃L,L=x1++XI 0 0++x2:=⟨_,rfl⟩;rw[←hL]at HCON;have HLW2:=hid (show ∀m,s=cK (aP m)→L=aP m from fun m h=>by have:=(HW.out m h).2.2.2.2;rw[hl1,hl2]at this;rw[hL,←this]);have hLl:L.length=8:=by rw[hL,XC,XC,XF,hl1,hl2]<;>omega
      have HLT:=hid (show ∀u∈L,u < 65536 from fun u hu=>by
       rw[hL,XH,XH]at hu;rcases hu with(hu|hu)|hu
       ·exact HX1.out u hu
       ·have:=(X4.1 hu).2;omega
       ·exact HX2.out u hu)
      have HLL:=hid hLl;clear hL hLl;go_wp2_with (go_at_call 97;refine HCON.out.mono ?_)
      rintro e w5 ⟨G,cG,Lx,rfl,hG,hcG,hLx,C5⟩;have HA5:=hid (((HA4.out.alloc (.cells (rowOf 0 (.int .u16 0)) 62)).alloc (.cells #[.slice A1 8 c1,.slice (some ⟨w4.heap.size,0,none⟩) 0 0,.slice A2 0 c2] 158)).aJ C5 (by simp));have HR5:=hid (((HR4.out.alloc (.cells (rowOf 0 (.int .u16 0)) 62)).alloc (.cells #[.slice A1 8 c1,.slice (some ⟨w4.heap.size,0,none⟩) 0 0,.slice A2 0 c2] 158)).aJ C5 (by simp));have HC5:=hid (((HC4.out.alloc (.cells (rowOf 0 (.int .u16 0)) 62)).alloc (.cells #[.slice A1 8 c1,.slice (some ⟨w4.heap.size,0,none⟩) 0 0,.slice A2 0 c2] 158)).trans C5);have HL5:=hid (((HL4.out.alloc (.cells (rowOf 0 (.int .u16 0)) 62)).alloc (.cells #[.slice A1 8 c1,.slice (some ⟨w4.heap.size,0,none⟩) 0 0,.slice A2 0 c2] 158)).dO C5);have HG:=hid hG;have HLX:=hid hLx;clear hG hLx C5 HCON;go_wp2
      obtain⟨wq,hwq⟩:∃wq,wq=w5:=⟨_,rfl⟩;rw[←hwq]at HA5 HR5 HC5 HL5 HG ⊢;clear hwq;go_loopw [71] (fun iv wr=>∃k:Nat,k≤8∧iv=.int .i64 k∧aw wr w.heap.size 24 (ax false fun _=>0)∧aw wr (w.heap.size+1) 24 (ax true (bf L k))∧aw wr G 62 Lx∧ai [] w wr∧eF wr) (fun iv _=>8 - (RowKit.intOf iv).toNat)
      case atStart=>exact⟨0,by omega,rfl,HR5.out,HA5.out,HG.out,HC5.out,HL5.out⟩
      case round=>
       obtain⟨k,hk,rfl,hR,hA,hG,hC,hLN⟩:=hrel;by_cases hlt:k < 8
       ·obtain⟨u,hu⟩:∃u,L[k]?=some u:=⟨_,XA (by rw[HLL.out];exact hlt)⟩
        have cu:=hG.cell_of (HLX.out k u hu);have hu65:=HLT.out u (Xz hu);have HPUT:=hid (R3 u hu65);obtain⟨k2,hk2⟩:∃k2:Nat,k2=2*k:=⟨_,rfl⟩;have e2:(2:Int)*(k:Int)=(k2:Int):=by omega
        have k14:k2≤14:=by omega
        have w2k:XS.wrap (k2:Int)=(k2:Int):=by rw[XQ];omega
        have h1:=Sm L k u hu;have h2:=Sk L k u hu;have h3:=Ir L k;rw[←hk2]at h1 h2 h3;have hsl:=GJ (w.heap.size+1) k2 k14;have HQ1:=hid h1;have HQ2:=hid h2;have HQ3:=hid h3;have HR6:=hid hR;have HA6:=hid hA;have HG6:=hid hG;have HC6:=hid hC;have HL6:=hid hLN;have hne:w.heap.size+1≠G:=fun h=>by have:=aw.Hm hG hA (by decide);omega
        have HNE:=hid hne;clear hu h1 h2 h3 hR hA hG hC hLN hne hk2;go_wp2
        go_region_with (go_at_call 98; refine(HPUT.out _).mono ?_; rintro e w1 ⟨A,c,rfl,hP⟩; have hb1:aw w1 (w.heap.size+1) 24 (ax true (bf L k)):=aw.aJ (by exact HA6.out) hP.aJ (by simp); have hcp:=DW hb1 k2 (u / 256) (u%256) k14 HQ1.out HQ2.out HQ3.out hP.own)
        all_goals go_wp2
        all_goals go_roundw
        all_goals first | (case measure=>simp[RowKit.intOf];omega)|skip
        all_goals refine⟨k+1,by omega,by go_num,?_,?_,?_,?_,?_⟩
        ·exact(aw.aJ (by exact HR6.out) hP.aJ (by simp)).aJ (S:=[w.heap.size+1]) ((ai.refl _ _).setRow (.inl (by simp)) _) (by simp)
        ·exact hb1.row _
        ·exact(aw.aJ (by exact HG6.out) hP.aJ (by simp)).aJ (S:=[w.heap.size+1]) ((ai.refl _ _).setRow (.inl (by simp)) _) (by simpa using fun h=>HNE.out h.symm)
        ·exact(ai.trans (by exact HC6.out.drew) hP.aJ).setRow (.inr (by omega)) _
        ·exact(eF.dO (eF.dO HL6.out ((ai.refl [] _).drew)) hP.aJ).aJ (S:=[w.heap.size+1]) ((ai.refl _ _).setRow (.inl (by simp)) _) (by intro j hj;have:=HLW.out;rw[XG]at hj;omega)
       ·have hk8:k=8:=by omega
        subst hk8;obtain⟨n,hn,hen,hbn⟩:=rW true (bf L 8) (Sj HLT.out 8);have hgr:=H5 HLL.out hbn;rw[hen]at hA;have HAT:=hid (rX true n hn wr hLN);rw[show gk true n=cK (aP n)by unfold gk;rw[AU];rfl]at HAT;obtain⟨T,hT⟩:∃T,T=cK (aP n):=⟨_,rfl⟩;rw[←hT]at HAT;have HTT:=hid hT;have HFI:=hid (show ∀W,ai [] w W→s7 s w (.returned (.tuple #[.agg (cD true n).toArray,.bool (T==s)])) W from fun W hW=>by
         refine⟨n,(T==s),rfl,hW,hn,fun h=>?_,fun m hm h=>?_⟩
         ·rw[←hT];exact eq_of_beq h
         ·have h1:n=m:=DA hn hm (by rw[hgr];exact HLW2.out m h)
          refine⟨h1,?_⟩;rw[hT,h1,h];exact beq_self_eq_true _)
        have HA7:=hid hA;have HR7:=hid hR;have HC7:=hid hC;clear hA hR hC hG hLN hT hgr hbn hen hn
        go_wp2_with (first
         | (go_at_call 53;refine HAT.out.mono ?_;rintro e w6 ⟨rfl,C6⟩)
         | (refine jH rfl _ rfl (w.heap.size+1) rfl 24 true n (HA7.out.aJ C6 (by simp)) ?_)
         | (refine jH rfl _ rfl (w.heap.size+1) rfl 24 true n HA7.out ?_)
         | (refine lY rfl _ _ rfl w.heap.size true (ah n) rfl rfl 24 _ (HR7.out.aJ C6 (by simp)) (aE _ _) ?_))
        refine bodyPost_ret (lC rfl _ _ w.heap.size true (ah n) 24 _ rfl rfl ((HR7.out.aJ C6 (by simp)).row (cD true n))) rfl ?_;exact HFI.out _ ((HC7.out.trans C6).setRow (.inr (Xy _)) _)
     ·have i88:decide ((n1:Int)=8)=false:=decide_eq_false (by omega)
      have i89:((n1:Int)==8)=false:=by rw[beq_eq_false_iff_ne];omega
      have i87:((n1:Int) !=8)=true:=by rw[bne_iff_ne];omega
      have i8:(n1:Int)+(n2:Int)≤8:=by omega
      have HF:=hid (show ∀m,s=cK (aP m)→False from fun m h=>by
       have:=(HW.out m h).2.2.2.1;rcases this with h|h
       ·cases h
       ·omega)
      go_wp2_with (first | (refine yF rfl _ rfl (w.heap.size+1) rfl 24 true (fun _=>0) HA4.out ?_) | (refine lY rfl _ _ rfl w.heap.size true (fun _=>0) rfl rfl 24 _ HR4.out (aE _ _) ?_))
      refine bodyPost_ret (lC rfl _ _ w.heap.size true (fun _=>0) 24 _ rfl rfl (HR4.out.row (ax true (fun _=>0)))) rfl ?_;exact vf (fun _=>0) (fun _=>by show 0 < 256;omega) (HC4.out.setRow (.inr (Xy _)) _) HF.out
set_option maxRecDepth 100000
open Go.RowKit Go.Lib Go.Sort _root_.Go.Proofs.Tryz
set_option maxRecDepth 100000
def BS(s:List UInt8)(v:Bool)(n:Nat):Prop:=n < 2^128∧jt v n=true∧eL v n=s
def Ub(s:List UInt8)(w:World)(e:Ending)(w':World):Prop:=
 ∃(v:Bool) (n:Nat) (er:Int),e=.returned (.tuple #[.agg (cD v n).toArray,.int .i64 er])∧ai [] w w'∧((er=0∧BS s v n∧∀v' m,BS s v' m→v'=v∧m=n)∨(er=150∧v=false∧n=0∧∀v' m,¬BS s v' m))
theorem N1:prog.built 24 []=some (cD false 0).toArray:=by kernel_rfl
theorem Sn{ops:Array Oper}{rest:List Oper}{o:Oper}{a:Act}{w:World}{Q:Exit→Act→World→Prop}(hg:o.guard=none)(ho:o.op=.build 24 #[])
  (h:wpList prog ops Q rest (a.put o.dst (.agg (cD false 0).toArray)) w):wpList prog ops Q (o::rest) a w:=by
 have e:prog.built 24 ((#[]:Array (Nat×Operand)).map fun(i,z)=>(i,a.eval z)).toList=some (cD false 0).toArray:=by rw[Array.map_empty];exact N1
 refine wpList_build hg 24 _ ho (by rw[e];rfl) ?_;rw[e];exact h
theorem zR{s:List UInt8}{m:Nat}(h:BS s true m):(58:UInt8)∈s:=by rw[←h.2.2];exact yf m
theorem zQ{s:List UInt8}{m:Nat}(h:BS s false m):(58:UInt8)∉s:=by rw[←h.2.2];exact D0 m
theorem L2{w w3:World}{v:Bool}{n:Nat}(h:aw w3 w.heap.size 24 (ax false fun _=>0)):aw ((w3.alloc (.cells (ax false fun _=>0).toArray 24)).setRow w3.heap.size (ax v (ah n)).toArray) w.heap.size 24 (ax false fun _=>0):=
 (h.alloc _).aJ (S:=[w3.heap.size]) ((ai.refl _ _).setRow (.inl (by simp)) _) (by have:=h.lt;simp;omega)
set_option maxHeartbeats 4000000 in
theorem Fh(s:List UInt8)(hs:s.length≤100000000)(w:World)(HL:eF w):Calls prog 14 #[.string ⟨s.toArray⟩] w (Ub s w):=by
 have HR:=hid (aw.new w 24 (ax false fun _=>0).toArray);have HC:=hid ((ai.refl [] w).alloc (.cells (ax false fun _=>0).toArray 24));have HL1:=hid (HL.alloc (.cells (ax false fun _=>0).toArray 24));have HCT:=hid (F6 s 58);have HW:=hid (fun W (hW:eF W)=>Sy s hs W hW);have HD:=hid (fun W (hW:eF W)=>ND s hs W hW);clear HL;by_cases hc:(58:UInt8)∈s
 ·rw[decide_eq_true hc]at HCT
  have HCC:=hid hc;clear hc;go_enter func14,ntmps14
  go_wp2_with (first | (go_at_call 43;refine(HCT.out _).mono ?_;rintro e w2 ⟨rfl,hw2⟩;subst hw2) | (go_at_call 42;refine(HW.out _ HL1.out).mono ?_))
  rintro e w3 ⟨n,ok,rfl,C3,hn,hok,hcan⟩;have HN:=hid hn;have HOK:=hid hok;have HCAN:=hid hcan;have HW3:=hid (XZ (XJ (HR.out.lt)) C3.size);have HC3:=hid ((HC.out.trans C3).alloc (.cells (ax false fun _=>0).toArray 24));have HRW:=hid (L2 (w:=w) (v:=true) (n:=n) (HR.out.aJ C3 (by simp)));clear hn hok hcan HR HC HW HD HCT;cases ok with
  |true=>
   have HF:=hid (show BS s true n∧∀v' m,BS s v' m→v'=true∧m=n from⟨⟨HN.out,AU n,HOK.out rfl⟩,fun v' m hm=>by
    cases v' with
    |true=>exact⟨rfl,(HCAN.out m hm.1 hm.2.2.symm).1.symm⟩
    |false=>exact absurd HCC.out (zQ hm)⟩)
   go_wp2_with (first
    | (refine lY rfl _ _ rfl w3.heap.size true (ah n) rfl rfl 24 _ (aw.new w3 24 (ax false fun _=>0).toArray) (aE _ _) ?_)
    | (refine jH rfl _ rfl w3.heap.size rfl 24 true n ((aw.new w3 24 (ax false fun _=>0).toArray).row _) ?_)
    | (refine lY rfl _ _ rfl w.heap.size true (ah n) rfl rfl 24 (ax false fun _=>0) HRW.out (aE _ _) ?_))
   refine bodyPost_ret (lC rfl _ _ w.heap.size true (ah n) 24 _ rfl rfl (HRW.out.row (cD true n))) rfl ?_;exact⟨true,n,0,rfl,(HC3.out.setRow (.inr HW3.out) _).setRow (.inr (Xy _)) _,.inl ⟨rfl,HF.out.1,HF.out.2⟩⟩
  |false=>
   have HF:=hid (show ∀v' m,¬BS s v' m from fun v' m hm=>by
    cases v' with
    |true=>exact absurd (HCAN.out m hm.1 hm.2.2.symm).2 (by decide)
    |false=>exact absurd HCC.out (zQ hm))
   go_wp2_with (first
    | (refine lY rfl _ _ rfl w3.heap.size true (ah n) rfl rfl 24 _ (aw.new w3 24 (ax false fun _=>0).toArray) (aE _ _) ?_)
    | (refine Sn rfl rfl ?_)
    | (refine lY rfl _ _ rfl w.heap.size false (ah 0) rfl rfl 24 (ax false fun _=>0) HRW.out (aE _ _) ?_))
   refine bodyPost_ret (lC rfl _ _ w.heap.size false (ah 0) 24 _ rfl rfl (HRW.out.row (cD false 0))) rfl ?_;exact⟨false,0,150,rfl,(HC3.out.setRow (.inr HW3.out) _).setRow (.inr (Xy _)) _,.inr ⟨rfl,rfl,rfl,HF.out⟩⟩
 ·rw[decide_eq_false hc]at HCT
  have HCC:=hid hc;clear hc;go_enter func14,ntmps14
  go_wp2_with (first | (go_at_call 43;refine(HCT.out _).mono ?_;rintro e w2 ⟨rfl,hw2⟩;subst hw2) | (go_at_call 44;refine(HD.out _ HL1.out).mono ?_))
  rintro e w3 ⟨n,ok,rfl,C3,hn,hok,hcan⟩;have HN:=hid hn;have HOK:=hid hok;have HCAN:=hid hcan;have HW3:=hid (XZ (XJ (HR.out.lt)) C3.size);have HC3:=hid ((HC.out.trans C3).alloc (.cells (ax false fun _=>0).toArray 24));have HRW:=hid (L2 (w:=w) (v:=false) (n:=n) (HR.out.aJ C3 (by simp)));clear hn hok hcan HR HC HW HD HCT;cases ok with
  |true=>
   have HF:=hid (show BS s false n∧∀v' m,BS s v' m→v'=false∧m=n from⟨⟨HN.out,(HOK.out rfl).1,(HOK.out rfl).2⟩,fun v' m hm=>by
    cases v' with
    |false=>exact⟨rfl,(HCAN.out m hm.1 hm.2.1 hm.2.2.symm).1.symm⟩
    |true=>exact absurd (zR hm) HCC.out⟩)
   go_wp2_with (first
    | (refine lY rfl _ _ rfl w3.heap.size false (ah n) rfl rfl 24 _ (aw.new w3 24 (ax false fun _=>0).toArray) (aE _ _) ?_)
    | (refine jH rfl _ rfl w3.heap.size rfl 24 false n ((aw.new w3 24 (ax false fun _=>0).toArray).row _) ?_)
    | (refine lY rfl _ _ rfl w.heap.size false (ah n) rfl rfl 24 (ax false fun _=>0) HRW.out (aE _ _) ?_))
   refine bodyPost_ret (lC rfl _ _ w.heap.size false (ah n) 24 _ rfl rfl (HRW.out.row (cD false n))) rfl ?_;exact⟨false,n,0,rfl,(HC3.out.setRow (.inr HW3.out) _).setRow (.inr (Xy _)) _,.inl ⟨rfl,HF.out.1,HF.out.2⟩⟩
  |false=>
   have HF:=hid (show ∀v' m,¬BS s v' m from fun v' m hm=>by
    cases v' with
    |false=>exact absurd (HCAN.out m hm.1 hm.2.1 hm.2.2.symm).2 (by decide)
    |true=>exact absurd (zR hm) HCC.out)
   go_wp2_with (first
    | (refine lY rfl _ _ rfl w3.heap.size false (ah n) rfl rfl 24 _ (aw.new w3 24 (ax false fun _=>0).toArray) (aE _ _) ?_)
    | (refine Sn rfl rfl ?_)
    | (refine lY rfl _ _ rfl w.heap.size false (ah 0) rfl rfl 24 (ax false fun _=>0) HRW.out (aE _ _) ?_))
   refine bodyPost_ret (lC rfl _ _ w.heap.size false (ah 0) 24 _ rfl rfl (HRW.out.row (cD false 0))) rfl ?_;exact⟨false,0,150,rfl,(HC3.out.setRow (.inr HW3.out) _).setRow (.inr (Xy _)) _,.inr ⟨rfl,rfl,rfl,HF.out⟩⟩
open Go.RowKit Go.Lib Go.Sort
theorem qj{v:Bool}{n:Nat}{k:Int}(h:gy v n k=true):jt v n=true:=by unfold gy at h;simp only[Bool.and_eq_true,decide_eq_true_eq]at h;obtain⟨⟨h1,h2⟩,h3⟩:=h;have:=CM v n k.toNat (by omega);rwa [h3]at this
theorem o6{v:Bool}{n:Nat}{k:Int}(h:gy v n k=true):0≤k∧k≤128:=by have hw:=fG v;unfold gy at h;simp only[Bool.and_eq_true,decide_eq_true_eq]at h;omega
theorem tp(v:Bool)(n:Nat):(eL v n).length≤8000:=by
 cases v with
 |false=>have h:=kB 46 3 [aq 10 (ah n 0),aq 10 (ah n 1),aq 10 (ah n 2),aq 10 (ah n 3)] (fun x hx=>by simp at hx;rcases hx with rfl|rfl|rfl|rfl<;>exact gh (by have:=ba n 0;have:=ba n 1;have:=ba n 2;have:=ba n 3;omega));show(fq n).length≤8000;unfold fq;simp only[XU,Ya]at h;omega
 |true=>
  have hj:∀m:List Nat,(∀u∈m,u < 65536)→m.length≤8→(aU m).length≤40:=fun m hm hm8=>by have:=kB 58 4 (m.map (aq 16)) (fun x hx=>by rw[XY]at hx;obtain⟨u,hu,rfl⟩:=hx;exact fk (hm u hu));rw[XN]at this;unfold aU;omega
  show(cK (aP n)).length≤8000;unfold cK;split
  ·have:=hj (aP n) (fun u hu=>gT hu) (by rw[eQ];omega)
   omega
  ·have h1:=hj ((aP n).take (fK (zs (aP n))).1) (fun u hu=>gT (X0 hu)) (by rw[XM,eQ];omega)
   have h2:=hj ((aP n).drop (fK (zs (aP n))).2) (fun u hu=>gT (X1 hu)) (by rw[XT,eQ];omega);simp only[XC,XU];omega
def iX(v:Bool)(n:Nat)(k:Int):List UInt8:=eL v n++(47::aq 10 k.toNat)
def j8(v:Bool)(n:Nat)(k:Int):List UInt8:=if gy v n k then iX v n k else []
set_option maxHeartbeats 4000000 in
theorem EJ(v:Bool)(n:Nat)(k:Int)(hn:n < 2^128)(w:World)(HL:eF w):Calls prog 72 #[.agg (dt v n k).toArray] w fun e w'=>e=.returned (.tuple #[.string ⟨(j8 v n k).toArray⟩,.int .i64 (dh v n k)])∧ai [] w w':=by
 have HB:=hid (aw.new w 29 (dt v n k).toArray);have HC:=hid ((ai.refl [] w).alloc (.cells (dt v n k).toArray 29));have HL1:=hid (HL.alloc (.cells (dt v n k).toArray 29));have HK:=hid (vx v n k hn);have HAT:=hid (fun W (hW:eF W)=>rX v n hn W hW);clear HL;by_cases h1:gy v n k=true
 ·have hb:=o6 h1
  have HE:=hid (show dh v n k=0 by unfold dh;rw[if_pos h1]);rw[show dM v n=0 by unfold dM;rw[if_pos (qj h1)],show gk v n=eL v n by unfold gk;rw[if_pos (qj h1)]]at HAT;obtain⟨K,rfl⟩:∃K:Nat,k=(K:Int):=⟨k.toNat,by omega⟩;have HT:=hid (show j8 v n K=eL v n++(47::aq 10 K)by unfold j8;rw[if_pos h1];rfl);have hlen:=tp v n;obtain⟨X,hX⟩:∃X,X=eL v n:=⟨_,rfl⟩;rw[←hX]at HAT HT hlen;have hd:(aq 10 K).length≤3:=gh (by omega);have had1:∀W,(Op.stringOp .add ⟨X.toArray⟩ ⟨#[47]⟩).run prog W=.ok (.string ⟨(X++[47]).toArray⟩) W:=fun W=>run_string_add_lists W X [47] (by omega) (by decide);have had2:∀W,(Op.stringOp .add ⟨(X++[47]).toArray⟩ ⟨(aq 10 K).toArray⟩).run prog W=.ok (.string ⟨(X++(47::aq 10 K)).toArray⟩) W:=fun W=>by have:=run_string_add_lists (P:=prog) W (X++[47]) (aq 10 K) (by simp;omega) (by omega);rw[this];simp
  have HIT:=hid (fun W (hW:eF W)=>M6 K (by omega) W hW);clear hX hlen hd;rw[HE.out]at HK ⊢;rw[HT.out];go_enter func72,ntmps72
  go_wp2_with (first
   | (go_at_call 50;refine(HK.out _).mono ?_;rintro e w2 ⟨rfl,C2⟩)
   | (go_at_call 53;refine(HAT.out _ (HL1.out.dO C2)).mono ?_;rintro e w3 ⟨rfl,C3⟩;have ck:=((HB.out.aJ C2 (by simp)).aJ C3 (by simp)).cell_of (iK v n K))
   | (go_at_call 71;refine(HIT.out _ ((HL1.out.dO C2).dO C3)).mono ?_;rintro e w4 ⟨rfl,C4⟩)
   | (refine Vt rfl _ rfl w.heap.size rfl 29 v n K (HB.out.aJ C2 (by simp)) ?_)
   | (refine Tt rfl _ rfl w.heap.size rfl 29 v n K HB.out ?_))
  go_ret2
  exact⟨rfl,((HC.out.trans C2).trans C3).trans C4⟩
 ·have HE:=hid (show dh v n k=151 by unfold dh;rw[if_neg h1])
  have HT:=hid (show j8 v n k=[] by unfold j8;rw[if_neg h1]);rw[HE.out]at HK ⊢;rw[HT.out];go_enter func72,ntmps72
  go_wp2_with (first
   | (go_at_call 50;refine(HK.out _).mono ?_;rintro e w2 ⟨rfl,C2⟩)
   | (refine Tt rfl _ rfl w.heap.size rfl 29 v n k HB.out ?_))
  go_ret2
  exact⟨rfl,HC.out.trans C2⟩
open Go.RowKit Go.Lib Go.Sort
def tb(s:List UInt8)(v:Bool)(n:Nat)(k:Int):Prop:=n < 2^128∧gy v n k=true∧iX v n k=s
def Ua(s:List UInt8)(w:World)(e:Ending)(w':World):Prop:=
 ∃(v:Bool) (n:Nat) (k:Int) (er:Int),e=.returned (.tuple #[.agg (dt v n k).toArray,.int .i64 er])∧ai [] w w'∧((er=0∧tb s v n k∧∀v' m j,tb s v' m j→v'=v∧m=n∧j=k)∨(er=151∧v=false∧n=0∧k=0∧∀v' m j,¬tb s v' m j))
theorem Ck(v:Bool)(n:Nat):(47:UInt8)∉eL v n:=by
 have hd:∀u,(47:UInt8)∉aq 10 u:=fun u=>jl (by omega) (by omega) (.inl (by decide));have hx:∀u,(47:UInt8)∉aq 16 u:=fun u=>jl (by omega) (by omega) (.inl (by decide));have hj:∀l:List Nat,(47:UInt8)∉aU l:=fun l h=>by
  rcases gw h with h|⟨x,hx2,h⟩
  ·exact absurd h (by decide)
  ·rw[XY]at hx2
   obtain⟨u,_,rfl⟩:=hx2;exact hx u h
 cases v with
 |false=>
  intro h;rcases gw (show(47:UInt8)∈fq n from h)with h|⟨x,hx,h⟩
  ·exact absurd h (by decide)
  ·simp at hx
   rcases hx with rfl|rfl|rfl|rfl<;>exact hd _ h
 |true=>
  show(47:UInt8)∉cK (aP n);unfold cK;split
  ·exact hj _
  ·intro h
   rw[XH,XP,XP]at h;rcases h with h|h|h|h
   ·exact hj _ h
   ·exact absurd h (by decide)
   ·exact absurd h (by decide)
   ·exact hj _ h
theorem Ag(l m:List UInt8)(h:(47:UInt8)∉l):Lib.cut (l++47::m) [47]=(l,m,true):=by unfold Lib.cut;rw[rH 47 l m h,if_pos (by omega)];simp only[Int.toNat_natCast];rw[X9 rfl];congr 2;rw[show l++47::m=(l++[47])++m by simp];exact List.drop_left' (by simp)
theorem NK(s:List UInt8):((Lib.cut s [47]).2.1=[])∨s=(Lib.cut s [47]).1++47::(Lib.cut s [47]).2.1:=by
 by_cases h:(47:UInt8)∈s
 ·obtain⟨a,b,rfl,ha⟩:=xP 47 s h
  rw[Ag a b ha];exact .inr rfl
 ·left
  unfold Lib.cut;rcases Lib.index_spec s [47]with⟨h1,_⟩ | ⟨i,_,_,h3,_⟩
  ·rw[h1];rfl
  ·exact absurd (Xz ((Hh s 47 i).1 h3)) h
set_option maxHeartbeats 8000000 in
theorem LZ(s:List UInt8)(hs:s.length≤100000000)(w:World)(HL:eF w):Calls prog 16 #[.string ⟨s.toArray⟩] w (Ua s w):=by
 have HCUT:=hid (fun W (hW:eF W)=>NL s [47] (by omega) W hW);have hcl:=Ij s [47];have hcb:=NK s;have HCS:=hid (fun v n k (h:tb s v n k)=>(show(Lib.cut s [47]).1=eL v n∧(Lib.cut s [47]).2.1=aq 10 k.toNat by have:=Ag (eL v n) (aq 10 k.toNat) (Ck v n);rw[←h.2.2];unfold iX;rw[this];exact⟨rfl,rfl⟩));obtain⟨at_,hat⟩:∃x,x=(Lib.cut s [47]).1:=⟨_,rfl⟩;obtain⟨bt,hbt⟩:∃x,x=(Lib.cut s [47]).2.1:=⟨_,rfl⟩;obtain⟨b,hb⟩:∃x,x=(Lib.cut s [47]).2.2:=⟨_,rfl⟩;rw[←hat,←hbt]at hcl hcb HCS;rw[←hat,←hbt,←hb]at HCUT;clear hat hbt hb;have HCB:=hid hcb;have HRA:=hid (fun W (hW:eF W)=>Fh at_ (by omega) W hW);have HNU:=hid (fun W (hW:eF W)=>Hi 10 128 (.inl rfl) (by omega) ⟨bt.toArray⟩ (by simp[ByteArray.size];omega) W hW);have HR:=hid (aw.new w 29 jO);have HC:=hid ((ai.refl [] w).alloc (.cells jO 29));have HL1:=hid (HL.alloc (.cells jO 29));clear HL hs hcl hcb;go_enter func16,ntmps16
 go_wp2_with (first
  | (go_at_call 48;refine(HCUT.out _ HL1.out).mono ?_;rintro e w1 ⟨rfl,C1⟩)
  | (go_at_call 14;refine(HRA.out _ (HL1.out.dO C1)).mono ?_))
 rintro e w2 ⟨v,n,er,rfl,C2,hra⟩;have HR2:=hid ((HR.out.aJ C1 (by simp)).aJ C2 (by simp));have HC2:=hid ((HC.out.trans C1).trans C2);have HL2:=hid ((HL1.out.dO C1).dO C2);have HLT:=hid (show w.heap.size < w2.heap.size from HR2.out.lt);clear HR HC HL1 C1 C2;have HB3:=hid ((aw.new w2 24 (ax false fun _=>0).toArray).row (cD v n));have HR3:=hid (show aw ((w2.alloc (.cells (ax false fun _=>0).toArray 24)).setRow w2.heap.size (cD v n).toArray) w.heap.size 29 jO.toList from(HR2.out.alloc _).aJ (S:=[w2.heap.size]) ((ai.refl _ _).setRow (g:=w2.heap.size) (.inl (by simp)) _) (by have:=HLT.out;simp;omega));have HC3:=hid ((HC2.out.alloc (.cells (ax false fun _=>0).toArray 24)).setRow (g:=w2.heap.size) (.inr (XJ HLT.out)) (cD v n).toArray);have HL3:=hid ((HL2.out.alloc (.cells (ax false fun _=>0).toArray 24)).aJ (S:=[w2.heap.size]) ((ai.refl _ _).setRow (g:=w2.heap.size) (.inl (by simp)) (cD v n).toArray) (by intro j hj;have:=HL2.out.low;rw[XG]at hj;omega));have HRAW:=hid hra;clear hra
 go_wp2_with (first
  | (go_at_call 49;refine(HNU.out _ HL3.out).mono ?_)
  | (refine lY rfl _ _ rfl w2.heap.size v (ah n) rfl rfl 24 (ax false fun _=>0) (aw.new w2 24 (ax false fun _=>0).toArray) (aE _ _) ?_))
 rintro e w3 ⟨u,ok,rfl,C3,u0,u1,hok,hcan⟩;have HOK:=hid hok;have HCAN:=hid hcan;have HB4:=hid (HB3.out.aJ C3 (by simp));have HR4:=hid (HR3.out.aJ C3 (by simp));have HC4:=hid (HC3.out.trans C3);have HLT4:=hid (show w.heap.size < w3.heap.size from HR4.out.lt);clear hok hcan HB3 HR3 HC3 HL3 C3 HR2 HC2 HL2 HLT HCUT HRA HNU;have hra:=HRAW.out;clear HRAW;obtain⟨kk,hkk⟩:∃kk,kk=XS.wrap u:=⟨_,rfl⟩;rcases hra with⟨rfl,hia,hun⟩ | ⟨rfl,rfl,rfl,hno⟩
 ·have HIA:=hid hia
  have HUN:=hid hun;clear hia hun;cases ok with
  |false=>
   have HF:=hid (show ∀v' m j,¬tb s v' m j from fun v' m j h=>by have h2:=(HCS.out v' m j h).2;have hb:=o6 h.2.1;have:=(HCAN.out j.toNat (by omega) h2).2;cases this);have hkk':=hkk.symm;clear hkk u1;have HR5:=hid (show aw ((w3.alloc (.cells jO 29)).setRow w3.heap.size (dt v n kk).toArray) w.heap.size 29 jO.toList from(HR4.out.alloc _).aJ (S:=[w3.heap.size]) ((ai.refl _ _).setRow (g:=w3.heap.size) (.inl (by simp)) _) (by have:=HLT4.out;simp;omega));have HC5:=hid ((HC4.out.alloc (.cells jO 29)).setRow (g:=w3.heap.size) (.inr (XJ HLT4.out)) (dt v n kk).toArray)
   go_wp2_with (first
    | (refine jH rfl _ rfl w2.heap.size rfl 24 v n HB4.out ?_)
    | (refine Ry rfl _ _ rfl v n kk rfl rfl ?_)
    | (refine IC rfl _ _ rfl w3.heap.size v n kk rfl rfl 29 _ (aw.new w3 29 jO) rfl ?_)
    | (refine Lf rfl _ _ rfl w.heap.size rfl rfl 29 _ HR5.out rfl ?_))
   refine bodyPost_ret (GV rfl _ _ w.heap.size false 0 0 29 _ rfl rfl (HR5.out.row (dt false 0 0))) rfl ?_;exact⟨false,0,0,151,rfl,HC5.out.setRow (.inr (Xy _)) _,.inr ⟨rfl,rfl,rfl,rfl,HF.out⟩⟩
  |true=>
   obtain⟨N,rfl,hN,hNt⟩:=HOK.out rfl;have hkk':XS.wrap (N:Int)=(N:Int):=by rw[XQ];omega
   rw[hkk']at hkk;subst hkk;have hNN:(N:Int)≤128:=by omega
   have HNT:=hid hNt;clear u1 hNt;have HSS:=hid (show s=eL v n++47::aq 10 N from by
    rcases HCB.out with h|h
    ·have h5:bt=aq 10 N:=HNT.out
     rw[h]at h5;exact absurd h5.symm (jz N)
    ·rw[h,←HIA.out.2.2]
     have h5:bt=aq 10 N:=HNT.out;rw[h5])
   have HCH:=hid (fun v' m j (h:tb s v' m j)=>(show v'=v∧m=n∧j=(N:Int)from by obtain⟨h1,h2⟩:=HCS.out v' m j h;have hb:=o6 h.2.1;have h3:=HUN.out v' m ⟨h.1,qj h.2.1,h1.symm⟩;have h4:bt=aq 10 N:=HNT.out;have h5:j.toNat=N:=ya (by omega) (by omega) (h2.symm.trans h4);exact⟨h3.1,h3.2,by omega⟩));have HK:=hid (vx v n N HIA.out.1);by_cases hP:gy v n N=true
   ·have HF:=hid (show tb s v n N∧∀v' m j,tb s v' m j→v'=v∧m=n∧j=(N:Int)from⟨⟨HIA.out.1,hP,HSS.out.symm⟩,HCH.out⟩)
    rw[show dh v n N=0 by unfold dh;rw[if_pos hP]]at HK;have HR5:=hid (show aw ((w3.alloc (.cells jO 29)).setRow w3.heap.size (dt v n N).toArray) w.heap.size 29 jO.toList from(HR4.out.alloc _).aJ (S:=[w3.heap.size]) ((ai.refl _ _).setRow (g:=w3.heap.size) (.inl (by simp)) _) (by have:=HLT4.out;simp;omega));have HC5:=hid ((HC4.out.alloc (.cells jO 29)).setRow (g:=w3.heap.size) (.inr (XJ HLT4.out)) (dt v n N).toArray)
    go_wp2_with (first
     | (go_at_call 50;refine(HK.out _).mono ?_;rintro e w6 ⟨rfl,C6⟩)
     | (refine jH rfl _ rfl w2.heap.size rfl 24 v n HB4.out ?_)
     | (refine Ry rfl _ _ rfl v n N rfl rfl ?_)
     | (refine IC rfl _ _ rfl w3.heap.size v n N rfl rfl 29 _ (aw.new w3 29 jO) rfl ?_)
     | (refine Sc rfl _ rfl w3.heap.size rfl 29 v n N ((aw.new w3 29 jO).row _) ?_)
     | (refine Tt rfl _ rfl w3.heap.size rfl 29 v n N (((aw.new w3 29 jO).row _).aJ C6 (by simp)) ?_)
     | (refine IC rfl _ _ rfl w.heap.size v n N rfl rfl 29 _ (HR5.out.aJ C6 (by simp)) rfl ?_))
    refine bodyPost_ret (GV rfl _ _ w.heap.size v n N 29 _ rfl rfl ((HR5.out.aJ C6 (by simp)).row (dt v n N))) rfl ?_;exact⟨v,n,N,0,rfl,(HC5.out.trans C6).setRow (.inr (Xy _)) _,.inl ⟨rfl,HF.out.1,HF.out.2⟩⟩
   ·have HF:=hid (show ∀v' m j,¬tb s v' m j from fun v' m j h=>by
     obtain⟨rfl,rfl,rfl⟩:=HCH.out v' m j h;exact hP h.2.1)
    rw[show dh v n N=151 by unfold dh;rw[if_neg hP]]at HK;have HR5:=hid (show aw ((w3.alloc (.cells jO 29)).setRow w3.heap.size (dt v n N).toArray) w.heap.size 29 jO.toList from(HR4.out.alloc _).aJ (S:=[w3.heap.size]) ((ai.refl _ _).setRow (g:=w3.heap.size) (.inl (by simp)) _) (by have:=HLT4.out;simp;omega));have HC5:=hid ((HC4.out.alloc (.cells jO 29)).setRow (g:=w3.heap.size) (.inr (XJ HLT4.out)) (dt v n N).toArray)
    go_wp2_with (first
     | (go_at_call 50;refine(HK.out _).mono ?_;rintro e w6 ⟨rfl,C6⟩)
     | (refine jH rfl _ rfl w2.heap.size rfl 24 v n HB4.out ?_)
     | (refine Ry rfl _ _ rfl v n N rfl rfl ?_)
     | (refine IC rfl _ _ rfl w3.heap.size v n N rfl rfl 29 _ (aw.new w3 29 jO) rfl ?_)
     | (refine Sc rfl _ rfl w3.heap.size rfl 29 v n N ((aw.new w3 29 jO).row _) ?_)
     | (refine Lf rfl _ _ rfl w.heap.size rfl rfl 29 _ (HR5.out.aJ C6 (by simp)) rfl ?_))
    refine bodyPost_ret (GV rfl _ _ w.heap.size false 0 0 29 _ rfl rfl ((HR5.out.aJ C6 (by simp)).row (dt false 0 0))) rfl ?_;exact⟨false,0,0,151,rfl,(HC5.out.trans C6).setRow (.inr (Xy _)) _,.inr ⟨rfl,rfl,rfl,rfl,HF.out⟩⟩
 ·have HF:=hid (show ∀v' m j,¬tb s v' m j from fun v' m j h=>by
   have h1:=(HCS.out v' m j h).1;exact hno v' m ⟨h.1,qj h.2.1,h1.symm⟩)
  have hkk':=hkk.symm;clear hkk u1 hno;have HR5:=hid (show aw ((w3.alloc (.cells jO 29)).setRow w3.heap.size (dt false 0 kk).toArray) w.heap.size 29 jO.toList from(HR4.out.alloc _).aJ (S:=[w3.heap.size]) ((ai.refl _ _).setRow (g:=w3.heap.size) (.inl (by simp)) _) (by have:=HLT4.out;simp;omega));have HC5:=hid ((HC4.out.alloc (.cells jO 29)).setRow (g:=w3.heap.size) (.inr (XJ HLT4.out)) (dt false 0 kk).toArray)
  go_wp2_with (first
   | (refine jH rfl _ rfl w2.heap.size rfl 24 false 0 HB4.out ?_)
   | (refine Ry rfl _ _ rfl false 0 kk rfl rfl ?_)
   | (refine IC rfl _ _ rfl w3.heap.size false 0 kk rfl rfl 29 _ (aw.new w3 29 jO) rfl ?_)
   | (refine Lf rfl _ _ rfl w.heap.size rfl rfl 29 _ HR5.out rfl ?_))
  refine bodyPost_ret (GV rfl _ _ w.heap.size false 0 0 29 _ rfl rfl (HR5.out.row (dt false 0 0))) rfl ?_;exact⟨false,0,0,151,rfl,HC5.out.setRow (.inr (Xy _)) _,.inr ⟨rfl,rfl,rfl,rfl,HF.out⟩⟩
open Go.RowKit Go.Lib Go.Sort _root_.Go.Proofs.Tryz
theorem sE:∀(l:List UInt8) (acc:Nat),(∀c∈l,∃d,d < 10∧c=sig d)→l.foldl (fun a c=>10*a+mq c) acc < 18446744073709551616→Lib.parseUint10 acc l=.ok (l.foldl (fun a c=>10*a+mq c) acc)
 | [],acc,_,_=>rfl
 |c::l,acc,h,hn=>by obtain⟨d,hd,rfl⟩:=h c (by simp);have h1:=fb (d:=d) (by omega);rw[if_pos hd]at h1;rw[List.foldl_cons]at hn ⊢;have h2:=vt (b:=10) (by omega) l (10*acc+mq (sig d));have h3:mq (sig d)=d:=nY (by omega);unfold Lib.parseUint10;rw[if_pos (by omega),if_neg (by omega),if_neg (by omega)];rw[show acc*10+((sig d).toNat - 48)=10*acc+mq (sig d)by omega];exact sE l _ (fun c hc=>h c (by simp[hc])) hn
theorem CJ(n:Nat)(hn:n < 18446744073709551616):Lib.parseUint10 0 (aq 10 n)=.ok n:=by have hv:(aq 10 n).foldl (fun a c=>10*a+mq c) 0=n:=iD (b:=10) (by omega) (by omega) n;rw[sE (aq 10 n) 0 (iQ (by omega) n) (by rw[hv];exact hn),hv]
theorem H9(n:Nat)(hn:n < 18446744073709551616)(w:World)(hl:eF w):Calls prog 73 #[.int .u64 n,.int .i64 10] w fun e w'=>e=.returned (.string ⟨(aq 10 n).toArray⟩)∧ai [] w w':=by
 have H:Calls prog 143 #[.int .u64 n,.int .i64 10] w fun e w'=>e=.returned (.string ⟨(aq 10 n).toArray⟩)∧ai [] w w':=by
  by_cases h:n < 100
  ·exact Cj n h w
  ·exact N6 n (by omega) hn w hl
 go_enter func73,ntmps73
 go_wp2_with (go_at_call 143;refine H.mono ?_;rintro e w2 ⟨rfl,C2⟩)
 go_ret
 exact⟨rfl,C2⟩
end Go.Proofs.YtnncigmpcdehnaaGreatDoor
