import Derived.Test.YtnncigmpcdehnaaGreatDoorQf06
namespace Go.Proofs.YtnncigmpcdehnaaGreatDoor
set_option maxRecDepth 100000
open Go.RowKit Go.Lib Go.Sort _root_.Go.Proofs.Tryz
set_option maxRecDepth 100000
theorem iC(c:UInt8):∀(s x:List UInt8),x∈bR c s→x.length≤s.length
 | [],x,h=>by simp[bR]at h;simp[h]
 |y::s,x,h=>by
  unfold bR at h
  split at h
  ·rw[List.mem_cons]at h
   rcases h with rfl|h
   ·simp
   ·have:=iC c s x h;simp;omega
  ·split at h
   ·simp at h;subst h;simp
   ·rename_i p ps hp
    rw[List.mem_cons]at h
    rcases h with rfl|h
    ·have:=iC c s p (by rw[hp];simp);simp;omega
    ·have:=iC c s x (by rw[hp];simp[h]);simp;omega
theorem gM(c:UInt8):∀s:List UInt8,(bR c s).length≤s.length+1
 | []=>by simp[bR]
 |y::s=>by
  have ih:=gM c s
  unfold bR
  split
  ·simp;omega
  ·split
   ·simp
   ·rename_i p ps hp
    rw[hp]at ih;simp at ih ⊢;omega
theorem Hc(x:ByteArray):(⟨x.data.toList.toArray⟩:ByteArray)=x:=by
 obtain⟨⟨l⟩⟩:=x;rfl
theorem xW(s:List UInt8)(c:UInt8)(hs:s.length < 4294967281)(w:World)(HL:eb w):Calls prog 62 #[.string ⟨s.toArray⟩,.string ⟨#[c]⟩] w fun e w'=>
  e=.returned (.slice (some ⟨w.heap.size,0,none⟩) (bR c s).length (bR c s).length)∧w'=w.alloc (.cells (strs (bR c s)).toArray 9):=by
 obtain⟨m,hm⟩:=HL.m0
 refine(Tryz.strings_Split ⟨s.toArray⟩ ⟨#[c]⟩ m w (by simpa[ByteArray.size]using hs) hm (Nat.le_refl _)).mono ?_
 rintro e w' ⟨rfl,rfl⟩
 have hd:=Lib.splitB_data ⟨#[c]⟩ 0 (Lib.countB ⟨s.toArray⟩ ⟨#[c]⟩) ⟨s.toArray⟩
 have hk:Lib.splitK [c] 0 (Lib.countB ⟨s.toArray⟩ ⟨#[c]⟩) s=bR c s:=tM s.length c s (Nat.le_refl _)
 have hd':(Lib.splitB ⟨#[c]⟩ 0 (Lib.countB ⟨s.toArray⟩ ⟨#[c]⟩) ⟨s.toArray⟩).map (·.data.toList)=bR c s:=hd.trans hk
 have hl:(Lib.splitB ⟨#[c]⟩ 0 (Lib.countB ⟨s.toArray⟩ ⟨#[c]⟩) ⟨s.toArray⟩).length=Lib.countB ⟨s.toArray⟩ ⟨#[c]⟩+1:=Lib.splitB_all ⟨#[c]⟩ (Nat.le_refl _) 0 _ _ rfl
 have hl2:(bR c s).length=Lib.countB ⟨s.toArray⟩ ⟨#[c]⟩+1:=by rw[←hd',List.length_map,hl]
 have hv:(Lib.splitB ⟨#[c]⟩ 0 (Lib.countB ⟨s.toArray⟩ ⟨#[c]⟩) ⟨s.toArray⟩).map Value.string=strs (bR c s):=by
  rw[←hd']
  unfold strs
  rw[List.map_map]
  exact List.map_congr_left fun x _=>congrArg Value.string (Hc x).symm
 rw[hl2,hv]
 exact⟨rfl,rfl⟩
theorem KA(s p:List UInt8)(hs:s.length < 4294967281)(w:World)(HL:eb w):Calls prog 48 #[.string ⟨s.toArray⟩,.string ⟨p.toArray⟩] w fun e w'=>
  e=.returned (.tuple #[.string ⟨(Lib.cut s p).1.toArray⟩,.string ⟨(Lib.cut s p).2.1.toArray⟩,.bool (Lib.cut s p).2.2])∧ai [] w w':=by
 obtain⟨m,hm⟩:=HL.m0
 refine(Tryz.strings_Cut ⟨s.toArray⟩ ⟨p.toArray⟩ m w (by simpa[ByteArray.size]using hs) hm).mono ?_
 rintro e w' ⟨rfl,n,rfl⟩
 exact⟨rfl,(ai.refl [] w).drewN n⟩
theorem J0(c:UInt8)(s:List UInt8):decide (0≤Lib.indexByte s c)=decide (c∈s):=by
 congr 1
 apply propext
 constructor
 ·intro h
  have:=(Lib.indexByte_some (l:=s) (c:=c) (o:=(Lib.indexByte s c).toNat) (by omega)).1
  exact List.mem_of_getElem? this
 ·intro h
  refine Decidable.byContradiction fun hn=>?_
  have hg:Lib.indexByte s c = -1:=by
   have:=Lib.indexByte_ge s c
   omega
  obtain⟨k,hk⟩:=List.getElem?_of_mem h
  exact Lib.indexByte_none hg k hk
theorem DF(s:List UInt8)(c:UInt8)(w:World):Calls prog 43 #[.string ⟨s.toArray⟩,.string ⟨#[c]⟩] w fun e w'=>e=.returned (.bool (decide (c∈s)))∧w'=w:=by
 refine(Tryz.strings_Contains_one ⟨s.toArray⟩ c w).mono ?_
 rintro e w' ⟨rfl,rfl⟩
 refine⟨?_,rfl⟩
 rw[←J0]
open Go.RowKit Go.Lib Go.Sort
theorem Tryz.JY:(prog.info? 62).map (fun i=>(i.zero,i.size,i.bytes))=some (some (.int .u16 0),1,2):=by kernel_rfl
def iT(xs:List Nat):List Value:=xs.map fun u=>.int .u16 (u:Nat)
theorem FG(xs:List Nat)(u:Nat):iT (xs++[u])=iT xs++[.int .u16 (u:Nat)]:=by simp[iT]
def zv(s:List UInt8)(w:World)(e:Ending)(w':World):Prop:=
 ∃(A:Option Go.Addr) (n c:Nat) (xs:List Nat) (ok:Bool),e=.returned (.tuple #[.slice A n c,.bool ok])∧Acc w w' 62 1 (.slice A n c) n (iT xs)∧(∀u∈xs,u < 65536)∧n≤s.length+1∧∀l:List Nat,(∀u∈l,u < 65536)→s=aR l→ok=true∧xs=l
theorem Qt{s:List UInt8}{w w':World}(hC:ai [] w w')(h:∀l:List Nat,(∀u∈l,u < 65536)→s=aR l→False):zv s w (.returned (.tuple #[.slice none 0 0,.bool false])) w':=
 ⟨none,0,0,[],false,rfl,Acc.nil w 62 1 hC,by simp,by omega,fun l h1 h2=>(h l h1 h2).elim⟩
theorem tK{xs:List (List UInt8)}{k:Nat}{x:List UInt8}(h:xs[k]?=some x):(strs xs)[k]?=some (.string ⟨x.toArray⟩):=by
 unfold strs
 rw[List.getElem?_map,h];rfl
set_option maxHeartbeats 4000000 in
theorem BD(s:List UInt8)(hs:s.length≤100000000)(w:World)(HL:eb w):Calls prog 96 #[.string ⟨s.toArray⟩] w (zv s w):=by
 obtain⟨i0,hi,hz0,hz1,hz2⟩:=info_parts Tryz.JY
 have HIN:=hid (Sx.t2 hi hz0 (And.intro hz1 hz2))
 clear hi hz0 hz1 hz2
 by_cases h0:s=[]
 ·subst h0
  go_enter func96,ntmps96
  go_wp2
  go_ret2
  exact⟨none,0,0,[],true,rfl,Acc.nil w 62 1 (ai.refl _ _),by simp,by omega,fun l _ h2=>⟨rfl,((GH l).1 h2.symm).symm⟩⟩
 ·have hz:decide (s=[])=false:=decide_eq_false h0
  have HS:=hid (xW s 58 (by omega) w HL)
  obtain⟨P,hP⟩:∃P,P=bR 58 s:=⟨_,rfl⟩
  rw[←hP]at HS
  have HPL:=hid (fun(x:List UInt8) (hx:x∈P)=>(show x.length≤s.length from iC 58 s x (by rw[←hP];exact hx)))
  have hN:P.length≤s.length+1:=by rw[hP];exact gM 58 s
  have HCA:=hid (fun(l:List Nat) (h:s=aR l)=>(show P=l.map (aj 16)by rw[hP,h];exact A5 l (fun e=>h0 (by rw[h,e];rfl))))
  clear hP
  obtain⟨N,hNl⟩:∃N,N=P.length:=⟨_,rfl⟩
  rw[←hNl]at HS hN
  have HNL:=hid hNl
  clear hNl
  have hemp:s.isEmpty=false:=by cases s with
   |nil=>exact absurd rfl h0
   |cons _ _=>rfl
  have HB:=hid (au.new w 9 (strs P).toArray)
  have HC:=hid ((ai.refl [] w).alloc (.cells (strs P).toArray 9))
  have HL1:=hid (HL.alloc (.cells (strs P).toArray 9))
  have HSL:=hid hs
  have hNb:N≤100000001:=by omega
  clear HL hs
  go_enter func96,ntmps96
  go_wp2_with (go_at_call 62;refine HS.out.mono ?_;rintro e w2 ⟨rfl,rfl⟩)
  obtain⟨w1,hw1⟩:∃w1,w1=w.alloc (.cells (strs P).toArray 9):=⟨_,rfl⟩
  have hB:=HB.out
  have hC:=HC.out
  have HL1':=HL1.out
  rw[←hw1]at hB hC HL1' ⊢
  clear hw1 HB HC HL1 HS
  go_loopw [4,14] (fun sv iv wr=>∃(k:Nat) (Av:Option Go.Addr) (cv:Nat) (xs:List Nat),k≤N∧iv=.int .i64 k∧sv=.slice Av k cv∧Acc w1 wr 62 1 (.slice Av k cv) k (iT xs)∧Hid ((∀u∈xs,u < 65536)∧∀l:List Nat,(∀u∈l,u < 65536)→s=aR l→xs=l.take k)) (fun _ iv _=>N - (RowKit.intOf iv).toNat)
  case atStart=>exact⟨0,none,0,[],Nat.zero_le _,rfl,rfl,Acc.nil w1 62 1 (ai.refl _ _),by simp,fun l _ _=>by simp⟩
  case round=>
   obtain⟨k,Av,cv,xs,hk,rfl,rfl,hAc,hh⟩:=hrel
   by_cases hlt:k < N
   ·have hkl:k < P.length:=by rw[←HNL.out];exact hlt
    obtain⟨x,hx⟩:∃x,P[k]?=some x:=⟨_,List.getElem?_eq_getElem hkl⟩
    have cu:=(hAc.aG.cell (p:=⟨w.heap.size,k,none⟩) hB.lt (by simp)).trans (hB.cell_of (tK hx))
    have hxl:=HPL.out x (List.mem_of_getElem? hx)
    have HNU:=hid (EG 16 65535 (.inr rfl) (by omega) ⟨x.toArray⟩ (by have:=HSL.out;simp[ByteArray.size];omega) wr (HL1'.df hAc.aG))
    have HLT:=hid hlt
    have HX:=hid hx
    have HAc:=hid hAc
    clear hx hAc hxl
    go_wp2_with (go_at_call 49;refine HNU.out.mono ?_)
    rintro e w2 ⟨v,ok,rfl,C2,v0,v1,hok,hcan⟩
    have HCN:=hid hcan
    have HOK:=hid hok
    have HV:=hid (And.intro v0 v1)
    clear hcan hok v1
    cases ok with
    |false=>
     go_wp2
     go_ret2
     refine Qt ((hC.trans HAc.out.aG).trans C2) fun l hl h=>?_
     have hp:=HX.out
     rw[HCA.out l h,List.getElem?_map]at hp
     cases hu:l[k]? with
     |none=>rw[hu]at hp;cases hp
     |some u=>
      rw[hu]at hp
      injection hp with hp
      have:=HCN.out u (by have:=hl u (List.mem_of_getElem? hu);omega) hp.symm
      exact absurd this.2 (by decide)
    |true=>
     obtain⟨u,rfl,hu65,hux⟩:=HOK.out rfl
     have HUX:=hid hux
     clear hux
     have hw16:IntKind.u16.wrap (u:Int)=(u:Int):=by rw[IntKind.wrap_u16];omega
     have HS2:=hid (FG xs u)
     have HT:=hid (show(∀y∈xs++[u],y < 65536)∧∀l:List Nat,(∀u∈l,u < 65536)→s=aR l→xs++[u]=l.take (k+1)from by
      refine⟨fun y hy=>?_,fun l hl h=>?_⟩
      ·rw[List.mem_append,List.mem_singleton]at hy
       rcases hy with hy|rfl
       ·exact hh.out.1 y hy
       ·omega
      ·have hp:=HX.out
       rw[HCA.out l h,List.getElem?_map]at hp
       cases hu:l[k]? with
       |none=>rw[hu]at hp;cases hp
       |some y=>
        rw[hu]at hp
        injection hp with hp
        have h2:=(HCN.out y (by have:=hl y (List.mem_of_getElem? hu);omega) hp.symm).1
        have h3:u=y:=by omega
        rw[List.take_add_one,hu,hh.out.2 l hl h,h3];rfl)
     clear hh
     have HX0:0≤(u:Int):=by omega
     go_wp2_with ((with_reducible refine fS ?_);(refine dY _ rfl (.tmp 25) (.tmp 28) 158 rfl 62 i0 _ 1 2 underlying158 HIN.out.1 HIN.out.2.1 HIN.out.2.2.1 HIN.out.2.2.2 rfl (by omega) (.slice Av k cv) k (iT xs) rfl ((HAc.out.later C2).alloc _).own ⟨w2.heap.size,0,none⟩ 1 1 [.int .u16 (u:Nat)] rfl rfl (by simpa using (au.new w2 62 #[.int .u16 (u:Nat)]).B8) (by simp[Value.oneCell']) (by have:=HSL.out;unfold maxLen;omega) (by have:=HSL.out;omega) ?_);intro A' c' w3 hO3 hC3 hb3)
     go_roundw
     case measure=>
      have hk9:=HLT.out;simp[RowKit.intOf];omega
     case rel=>
      have hk9:=HLT.out
      refine⟨k+1,A',c',xs++[u],by omega,by go_num,rfl,?_,HT.out⟩
      rw[HS2.out]
      exact Acc.append ((HAc.out.later C2).alloc _) hO3 hC3 hb3
   ·have hkn:k=N:=by omega
    subst hkn
    have HF:=hid (show zv s w (.returned (.tuple #[.slice Av k cv,.bool true])) wr from
     ⟨Av,k,cv,xs,true,rfl,⟨hAc.own,fun j hj=>Nat.le_trans hC.size (hAc.new j hj),hC.trans hAc.aG⟩,hh.out.1,hN,fun l hl h=>⟨rfl,by
      rw[hh.out.2 l hl h,List.take_of_length_le]
      have:=congrArg List.length (HCA.out l h)
      rw[List.length_map,←HNL.out]at this
      omega⟩⟩)
    clear hh hAc
    go_wp2
    go_ret2
    exact HF.out
open Go.RowKit Go.Lib Go.Sort
theorem j9{fn:Func}{p q:Tmp}(h:fn.results=#[.cell p 24,.tmp q])(tmps:Array Value)(w:World)(g:Nat)(v:Bool)(f:Nat→Nat)(t:TypeId)(u:Value)
  (hp:tmps.getD p undef=.pointer (some ⟨g,0,none⟩)) (hq:tmps.getD q undef=u) (hb:au w g t (aE v f)):(results fn tmps).run prog w=.ok (.tuple #[.agg (aE v f).toArray,u]) w:=by
 have hp':tmps[p]?.getD undef=.pointer (some ⟨g,0,none⟩):=by simpa using hp
 have hq':tmps[q]?.getD undef=u:=by simpa using hq
 simp[results,h,hp',hq',asAddr,run_loadVar_row w g t 24 _ (0,0) _ hb underlying24 rfl (fh.trans (by simp[aD]))]
theorem vX(v:Bool)(f:Nat→Nat)(hf:∀j,f j < 256):∃n,n < 2^128∧aE v f=cH v n∧∀j,j < 16→ah n j=f j:=by
 obtain⟨n,hn,hb⟩:=xO f hf
 exact⟨n,hn,qM v fun j hj=>(hb j hj).symm,hb⟩
theorem P4{n:Nat}(hn:n < 2^128):jk false n=true↔∀j,4≤j→j < 16→ah n j=0:=by
 have h:=wN (n:=n) (k:=32) hn (by omega)
 have h2:jk false n=mT (fun j=>fq 32 j (ah n j)) (ah n):=h.symm
 rw[h2,jw]
 constructor
 ·intro h j h1 h2
  have:=h j h2
  unfold fq at this
  rw[if_pos (by omega)]at this
  exact this.symm
 ·intro h j hj
  unfold fq
  by_cases h4:j < 4
  ·rw[if_neg (by omega),if_neg (by omega)]
  ·rw[if_pos (by omega),h j (by omega) hj]
def zu(s:List UInt8)(w:World)(e:Ending)(w':World):Prop:=
 ∃(n:Nat) (ok:Bool),e=.returned (.tuple #[.agg (cH false n).toArray,.bool ok])∧ai [] w w'∧n < 2^128∧(ok=true→jk false n=true∧gb n=s)∧∀m,m < 2^128→jk false m=true→s=gb m→n=m∧ok=true
theorem Dz{s:List UInt8}{w w':World}(f:Nat→Nat)(hf:∀j,f j < 256)(hC:ai [] w w')(h:∀m,s=gb m→False):zu s w (.returned (.tuple #[.agg (aE false f).toArray,.bool false])) w':=by
 obtain⟨n,hn,he,_⟩:=vX false f hf
 rw[he]
 exact⟨n,false,rfl,hC,hn,fun h=>(by cases h),fun m _ _ h2=>(h m h2).elim⟩
theorem Co(f:Nat→Nat)(k n:Nat):gk f k n k=n:=if_pos rfl
theorem xV(f:Nat→Nat)(k n j:Nat)(h:j≠k):gk f k n j=f j:=if_neg h
set_option maxHeartbeats 4000000 in
theorem Ku(s:List UInt8)(hs:s.length≤100000000)(w:World)(HL:eb w):Calls prog 44 #[.string ⟨s.toArray⟩] w (zu s w):=by
 have HS:=hid (fun W (hW:eb W)=>xW s 46 (by omega) W hW)
 obtain⟨P,hP⟩:∃P,P=bR 46 s:=⟨_,rfl⟩
 rw[←hP]at HS
 have HPL:=hid (fun(x:List UInt8) (hx:x∈P)=>(show x.length≤s.length from iC 46 s x (by rw[←hP];exact hx)))
 have hN:P.length≤s.length+1:=by rw[hP];exact gM 46 s
 have HCA:=hid (fun(m:Nat) (h:s=gb m)=>(show P=(List.range 4).map fun i=>aj 10 (ah m i)by rw[hP,h];exact zO m))
 have HJ:=hid (show ao 46 P=s by rw[hP];exact sq 46 s)
 have hN1:1≤P.length:=by rw[hP];exact List.length_pos_iff.2 (qZ 46 s)
 clear hP
 obtain⟨N,hNl⟩:∃N,N=P.length:=⟨_,rfl⟩
 rw[←hNl]at HS hN hN1
 have HNL:=hid hNl
 clear hNl
 have HR:=hid (show au ((w.alloc (.cells (aE false fun _=>0).toArray 24)).alloc (.cells (aE false fun _=>0).toArray 24)) w.heap.size 24 (aE false fun _=>0)from(au.new w 24 (aE false fun _=>0).toArray).alloc _)
 have HA:=hid (show au ((w.alloc (.cells (aE false fun _=>0).toArray 24)).alloc (.cells (aE false fun _=>0).toArray 24)) (w.heap.size+1) 24 (aE false fun _=>0)from au.fJ _ 24 (aE false fun _=>0).toArray (by simp))
 have HC:=hid (((ai.refl [] w).alloc (.cells (aE false fun _=>0).toArray 24)).alloc (.cells (aE false fun _=>0).toArray 24))
 have HL1:=hid ((HL.alloc (.cells (aE false fun _=>0).toArray 24)).alloc (.cells (aE false fun _=>0).toArray 24))
 have hNb:N≤100000001:=by omega
 have HSL:=hid hs
 have HLW:=hid HL.low
 clear HL hs hN
 go_enter func44,ntmps44
 go_wp2_with (go_at_call 62;refine(HS.out _ HL1.out).mono ?_;rintro e w2 ⟨rfl,rfl⟩)
 obtain⟨w1,hw1⟩:∃w1,w1=((w.alloc (.cells (aE false fun _=>0).toArray 24)).alloc (.cells (aE false fun _=>0).toArray 24)).alloc (.cells (strs P).toArray 9):=⟨_,rfl⟩
 have hR:=HR.out.alloc (.cells (strs P).toArray 9)
 have hA:=HA.out.alloc (.cells (strs P).toArray 9)
 have hC:=HC.out.alloc (.cells (strs P).toArray 9)
 have hB:au (((w.alloc (.cells (aE false fun _=>0).toArray 24)).alloc (.cells (aE false fun _=>0).toArray 24)).alloc (.cells (strs P).toArray 9)) (w.heap.size+1+1) 9 (strs P):=au.fJ _ 9 (strs P).toArray (by simp)
 have hL:=hid (HL1.out.alloc (.cells (strs P).toArray 9))
 rw[←hw1]at hR hA hC hB hL
 rw[←hw1]
 clear hw1 HR HA HC HL1 HS
 by_cases h4:N=4
 ·subst h4
  rw[show((4:Nat):Int)=4 from rfl]
  go_loopw [14] (fun iv wr=>∃(k:Nat) (f:Nat→Nat),k≤4∧iv=.int .i64 k∧au wr w.heap.size 24 (aE false fun _=>0)∧au wr (w.heap.size+1) 24 (aE false f)∧au wr (w.heap.size+1+1) 9 (strs P)∧ai [] w wr∧eb wr∧Hid ((∀j,f j < 256)∧(∀j,j < k→P[j]?=some (aj 10 (f j)))∧(∀j,k≤j→f j=0)∧(True))) (fun iv _=>4 - (RowKit.intOf iv).toNat)
  case atStart=>exact⟨0,fun _=>0,Nat.zero_le _,rfl,hR,hA,hB,hC,hL.out,⟨fun _=>(by show(0:Nat) < 256;omega),fun j hj=>absurd hj (by omega),fun _ _=>rfl,trivial⟩⟩
  case round=>
   obtain⟨k,f,hk,rfl,hR,hA,hB,hC,hL,hh⟩:=hrel
   by_cases hlt:k < 4
   ·have hkl:k < P.length:=by rw[←HNL.out];exact hlt
    obtain⟨x,hx⟩:∃x,P[k]?=some x:=⟨_,List.getElem?_eq_getElem hkl⟩
    have cu:=hB.cell_of (tK hx)
    have HXL:=hid (HPL.out x (List.mem_of_getElem? hx))
    have HNU:=hid (EG 10 255 (.inl rfl) (by omega) ⟨x.toArray⟩ (by have:=HSL.out;have:=HXL.out;simp[ByteArray.size];omega) wr hL)
    have HLT:=hid hlt
    have HX:=hid hx
    have hR:=hid hR
    have hA:=hid hA
    have hB:=hid hB
    have hC:=hid hC
    have hL:=hid hL
    clear hx
    go_wp2_with (go_at_call 49;refine HNU.out.mono ?_)
    rintro e w2 ⟨v,ok,rfl,C2,v0,v1,hok,hcan⟩
    have HCN:=hid hcan
    have HOK:=hid hok
    clear hcan hok v1
    have HAX:=hid (hA.out.aG C2 (by simp))
    have HRX:=hid (hR.out.aG C2 (by simp))
    cases ok with
    |false=>
     have HF:=hid (show ∀m,s=gb m→False from fun m h=>by
      have hp:=HX.out
      rw[HCA.out m h,List.getElem?_map]at hp
      cases hu:(List.range 4)[k]? with
      |none=>rw[hu]at hp;cases hp
      |some u=>
       rw[hu]at hp
       injection hp with hp
       have:=HCN.out (ah m u) (by have:=a7 m u;omega) hp.symm
       exact absurd this.2 (by decide))
     have HFB:=hid hh.out.1
     clear hh
     go_wp2_with (first | (refine wA rfl _ rfl (w.heap.size+1) rfl 24 false f HAX.out ?_) | (refine kK rfl _ _ rfl w.heap.size false f rfl rfl 24 _ HRX.out (aD _ _) ?_))
     refine bodyPost_ret (j9 rfl _ _ w.heap.size false f 24 _ rfl rfl (HRX.out.row (aE false f))) rfl ?_
     exact Dz f HFB.out ((hC.out.trans C2).setRow (.inr (Nat.le_refl _)) _) HF.out
    |true=>
     obtain⟨u,rfl,hu,hux⟩:=HOK.out rfl
     have HUX:=hid hux
     clear hux
     have hk3:k≤3:=by omega
     have hw8:IntKind.u8.wrap (u:Int)=(u:Int):=by rw[IntKind.wrap_u8'];omega
     have ca:=HAX.out.cell_of (cB false f k (by omega))
     have fa:=HAX.out.frozen (1+k)
     have HT:=hid (show(∀j,gk f k u j < 256)∧(∀j,j < k+1→P[j]?=some (aj 10 (gk f k u j)))∧(∀j,k+1≤j→gk f k u j=0)∧True from by
      obtain⟨q1,q2,q3,q4⟩:=hh.out
      refine⟨fun j=>?_,fun j hj=>?_,fun j hj=>?_,trivial⟩
      ·by_cases hjk:j=k
       ·subst hjk;rw[Co];omega
       ·rw[xV f k u j hjk];exact q1 j
      ·by_cases hjk:j=k
       ·subst hjk;rw[Co,HX.out];exact congrArg some HUX.out
       ·rw[xV f k u j hjk];exact q2 j (by omega)
      ·rw[xV f k u j (by omega)];exact q3 j (by omega))
     have HSE:=hid (vY false f (gk f k u) k u (Co f k u) (fun j _ hj=>xV f k u j hj))
     clear hh
     go_wp2
     go_roundw
     case measure=>have hk9:=HLT.out;simp[RowKit.intOf];omega
     case rel=>
      have hk9:=HLT.out
      have hC2:=hC.out.trans C2
      have hC3:=hC2.Mn (g:=w.heap.size+1) (by omega) (1+k) (.int .u8 (u:Int))
      refine⟨k+1,gk f k u,by omega,by go_num,HRX.out.LK (by show w.heap.size≠w.heap.size+1;omega) _,?_,(hB.out.aG C2 (by simp)).LK (by show w.heap.size+1+1≠w.heap.size+1;omega) _,hC3,?_,HT.out⟩
      ·rw[←HSE.out]
       exact HAX.out.pU (1+k) _
      ·exact(hL.out.df C2).aG (S:=[w.heap.size+1]) ((ai.refl _ _).setCell (p:=⟨w.heap.size+1,1+k,none⟩) (.inl (by simp)) _) (by intro j hj;have:=HLW.out;rw[List.mem_singleton]at hj;omega)
   ·have hkn:k=4:=by omega
    subst hkn
    obtain⟨q1,q2,q3,q4⟩:=hh.out
    obtain⟨n,hn,hen,hbn⟩:=vX false f q1
    have hok:jk false n=true:=(P4 hn).2 fun j h1 h2=>by rw[hbn j h2];exact q3 j (by omega)
    have hPP:P=[aj 10 (ah n 0),aj 10 (ah n 1),aj 10 (ah n 2),aj 10 (ah n 3)]:=by
     apply List.ext_getElem?
     intro j
     by_cases hj:j < 4
     ·rw[q2 j (by omega)]
      match j,hj with
      | 0,_=>rw[hbn 0 (by omega)];rfl
      | 1,_=>rw[hbn 1 (by omega)];rfl
      | 2,_=>rw[hbn 2 (by omega)];rfl
      | 3,_=>rw[hbn 3 (by omega)];rfl
     ·rw[List.getElem?_eq_none (by rw[←HNL.out];omega),List.getElem?_eq_none (by simp;omega)]
    have HFIN:=hid (show ∀W,ai [] w W→zu s w (.returned (.tuple #[.agg (aE false f).toArray,.bool true])) W from fun W hW=>by
     rw[hen]
     refine⟨n,true,rfl,hW,hn,fun _=>⟨hok,?_⟩,fun m hm hm2 h=>⟨?_,rfl⟩⟩
     ·rw[←HJ.out,hPP];rfl
     ·have h5:=HCA.out m h
      refine jZ hn hm fun j hj=>?_
      by_cases hj4:j < 4
      ·have h6:P[j]?=((List.range 4).map fun i=>aj 10 (ah m i))[j]?:=by rw[h5]
       rw[q2 j (by omega),List.getElem?_map,List.getElem?_range (by omega)]at h6
       injection h6 with h6
       rw[hbn j hj]
       exact Bw (by omega) (by omega) h6
      ·rw[(P4 hn).1 hok j (by omega) hj,(P4 hm).1 hm2 j (by omega) hj])
    clear hh q1 q2 q3 q4 hPP hok hbn hen hn
    go_wp2_with (first | (refine wA rfl _ rfl (w.heap.size+1) rfl 24 false f hA ?_) | (refine kK rfl _ _ rfl w.heap.size false f rfl rfl 24 _ hR (aD _ _) ?_))
    refine bodyPost_ret (j9 rfl _ _ w.heap.size false f 24 _ rfl rfl (hR.row (aE false f))) rfl ?_
    exact HFIN.out _ (hC.setRow (.inr (Nat.le_refl _)) _)
 ·go_loopw [14] (fun iv wr=>wr=w1∧iv=.int .i64 0) (fun iv _=>N - (RowKit.intOf iv).toNat)
  case atStart=>exact⟨rfl,rfl⟩
  case round=>
   obtain⟨rfl,rfl⟩:=hrel
   obtain⟨x,hx⟩:∃x,P[0]?=some x:=⟨_,List.getElem?_eq_getElem (by rw[←HNL.out];omega:0 < P.length)⟩
   have cu:=hB.cell_of (tK hx)
   have HXL:=hid (HPL.out x (List.mem_of_getElem? hx))
   have HNU:=hid (EG 10 255 (.inl rfl) (by omega) ⟨x.toArray⟩ (by have:=HSL.out;have:=HXL.out;simp[ByteArray.size];omega) wr hL.out)
   have HF:=hid (show ∀m,s=gb m→False from fun m h=>by
    have:=congrArg List.length (HCA.out m h)
    rw[←HNL.out,List.length_map,List.length_range]at this
    exact h4 this)
   have i4:¬(N:Int)=4:=by omega
   have i1:(0:Int) < (N:Int):=by omega
   clear hx
   go_wp2_with (go_at_call 49;refine HNU.out.mono ?_)
   rintro e w2 ⟨v,ok,rfl,C2,v0,v1,hok,hcan⟩
   clear hcan hok v1
   have HAX:=hid (hA.aG C2 (by simp))
   have HRX:=hid (hR.aG C2 (by simp))
   cases ok with
   |false=>
    go_wp2_with (first | (refine wA rfl _ rfl (w.heap.size+1) rfl 24 false (fun _=>0) HAX.out ?_) | (refine kK rfl _ _ rfl w.heap.size false (fun _=>0) rfl rfl 24 _ HRX.out (aD _ _) ?_))
    refine bodyPost_ret (j9 rfl _ _ w.heap.size false (fun _=>0) 24 _ rfl rfl (HRX.out.row (aE false (fun _=>0)))) rfl ?_
    exact Dz (fun _=>0) (fun _=>by show 0 < 256;omega) ((hC.trans C2).setRow (.inr (Nat.le_refl _)) _) HF.out
   |true=>
    go_wp2_with (first | (refine wA rfl _ rfl (w.heap.size+1) rfl 24 false (fun _=>0) HAX.out ?_) | (refine kK rfl _ _ rfl w.heap.size false (fun _=>0) rfl rfl 24 _ HRX.out (aD _ _) ?_))
    refine bodyPost_ret (j9 rfl _ _ w.heap.size false (fun _=>0) 24 _ rfl rfl (HRX.out.row (aE false (fun _=>0)))) rfl ?_
    exact Dz (fun _=>0) (fun _=>by show 0 < 256;omega) ((hC.trans C2).setRow (.inr (Nat.le_refl _)) _) HF.out
open Go.RowKit Go.Lib Go.Sort
theorem Tryz.JZ:(prog.info? 5).map (fun i=>(i.zero,i.size,i.bytes))=some (some (.int .u8 0),1,1):=by kernel_rfl
set_option maxHeartbeats 4000000 in
theorem OQ(u:Nat)(hu:u < 65536)(w:World):Calls prog 98 #[.slice none 0 0,.int .u16 (u:Nat)] w fun e w'=>
  ∃A c,e=.returned (.slice A 2 c)∧Acc w w' 5 1 (.slice A 2 c) 2 [.int .u8 (u / 256:Nat),.int .u8 (u%256:Nat)]:=by
 obtain⟨i0,hi,hz0,hz1,hz2⟩:=info_parts Tryz.JZ
 have HIN:=hid (Sx.t2 hi hz0 (And.intro hz1 hz2))
 clear hi hz0 hz1 hz2
 have hmk:∀W:World,(Instr.makeSlice 82 (.int .i64 0) (.int .i64 2)).run prog W=.ok (.slice (some ⟨W.heap.size,0,none⟩) 0 2) (W.alloc (.cells #[.int .u8 0,.int .u8 0] 5)):=fun W=>by
  have h:=run_make (P:=prog) W 82 5 i0 _ underlying82 HIN.out.1 HIN.out.2.1 .i64 .i64 0 2 (by omega) (by omega) (by rw[HIN.out.2.2.2];decide) (by omega)
  rw[HIN.out.2.2.1]at h
  rw[h,show madeCells (Value.int IntKind.u8 0).cells (Int.toNat 2*1)=#[.int .u8 0,.int .u8 0] by kernel_rfl]
  rfl
 have hcp:∀W:World,(Builtin.copy_ #[82,82] 3 #[.slice (some ⟨w.heap.size,0,none⟩) 0 2,.slice none 0 0]).run prog W=.ok (.int .i64 0) W:=fun W=>run_copy_none W 82 82 3 5 _ _ 0 2 0 0 underlying82 (by rw[HIN.out.1];simp[HIN.out.2.2.1]) (by decide)
 obtain⟨hi,hhi⟩:∃hi,hi=u / 256:=⟨_,rfl⟩
 obtain⟨lo,hlo⟩:∃lo,lo=u%256:=⟨_,rfl⟩
 rw[←hhi,←hlo]
 have e1:(u:Int) / 256=(hi:Int):=by omega
 have e2:IntKind.u8.wrap (u:Int)=(lo:Int):=by rw[IntKind.wrap_u8'];omega
 have hi256:hi < 256:=by omega
 have hu0:0≤(u:Int):=by omega
 have HACC:∀W,Acc W (W.alloc (.cells #[.int .u8 0,.int .u8 0] 5)) 5 1 (.slice (some ⟨W.heap.size,0,none⟩) 0 2) 0 []:=fun W=>
  ⟨Own.made W 5 1 0 2 [.int .u8 0,.int .u8 0] (by omega) (by unfold maxLen;omega) rfl,fun k hk=>by simp[Value.ownBlock]at hk;omega,(ai.refl [] W).alloc _⟩
 have HAC:=hid (HACC w)
 clear hhi hlo HACC
 go_enter func98,ntmps98
 go_wp2_with (go_at_call 160;refine(D6 _).mono ?_;rintro e w2 ⟨rfl,hw2⟩;subst hw2)
 obtain⟨wz,hwz⟩:∃wz,wz=w2.alloc (.cells #[.int .u8 0,.int .u8 0] 5):=⟨_,rfl⟩
 have hAC:=HAC.out
 rw[←hwz]at hAC
 try rw[←hwz]
 clear hwz HAC
 go_loopw [5,6] (fun nv sv wr=>(nv=.int .i64 1∧∃A c,sv=.slice A 0 c∧Acc w2 wr 5 1 (.slice A 0 c) 0 [])∨(nv=.int .i64 0∧∃A c,sv=.slice A 1 c∧Acc w2 wr 5 1 (.slice A 1 c) 1 [.int .u8 (hi:Nat)])∨(nv=.int .i64 (-1)∧∃A c,sv=.slice A 2 c∧Acc w2 wr 5 1 (.slice A 2 c) 2 [.int .u8 (hi:Nat),.int .u8 (lo:Nat)])) (fun nv _ _=>(RowKit.intOf nv+1).toNat)
 case atStart=>exact .inl ⟨rfl,_,_,rfl,hAC⟩
 case round=>
  rcases hrel with⟨rfl,A,c,rfl,hA⟩ | ⟨rfl,A,c,rfl,hA⟩ | ⟨rfl,A,c,rfl,hA⟩
  ·have HA:=hid hA
   clear hA
   go_wp2_with ((with_reducible refine fS ?_);(refine dY _ rfl (.tmp 24) (.tmp 31) 82 rfl 5 i0 _ 1 1 underlying82 HIN.out.1 HIN.out.2.1 HIN.out.2.2.1 HIN.out.2.2.2 rfl (by omega) (.slice A 0 c) 0 [] rfl (HA.out.alloc _).own ⟨wr.heap.size,0,none⟩ 1 1 [.int .u8 (hi:Nat)] rfl rfl (by simpa using (au.new wr 5 #[.int .u8 (hi:Nat)]).B8) (by simp[Value.oneCell']) (by unfold maxLen;omega) (by omega) ?_);intro A' c' w3 hO3 hC3 hb3)
   go_roundw
   case measure=>decide
   case rel=>exact .inr (.inl ⟨rfl,A',c',rfl,Acc.append (HA.out.alloc _) hO3 hC3 hb3⟩)
  ·have HA:=hid hA
   clear hA
   go_wp2_with ((with_reducible refine fS ?_);(refine dY _ rfl (.tmp 24) (.tmp 31) 82 rfl 5 i0 _ 1 1 underlying82 HIN.out.1 HIN.out.2.1 HIN.out.2.2.1 HIN.out.2.2.2 rfl (by omega) (.slice A 1 c) 1 [.int .u8 (hi:Nat)] rfl (HA.out.alloc _).own ⟨wr.heap.size,0,none⟩ 1 1 [.int .u8 (lo:Nat)] rfl rfl (by simpa using (au.new wr 5 #[.int .u8 (lo:Nat)]).B8) (by simp[Value.oneCell']) (by unfold maxLen;omega) (by omega) ?_);intro A' c' w3 hO3 hC3 hb3)
   go_roundw
   case measure=>decide
   case rel=>exact .inr (.inr ⟨rfl,A',c',rfl,Acc.append (HA.out.alloc _) hO3 hC3 hb3⟩)
  ·have HA:=hid hA
   clear hA
   go_wp2
   go_ret
   exact⟨A,c,rfl,HA.out⟩
open Go.RowKit Go.Lib Go.Sort
theorem Aa(t:TypeId)(g n c:Nat)(W:World)(L news:List Value)(T:TypeId)(hg:au W g T L)(A:Option Go.Addr)(m sc:Nat)(ht:prog.underlying t=some (.slice 62))(hl:news.length=m)
  (hsrc:0 < news.length→∃ad,A=some ad∧∀j v,news[j]?=some v→W.cell? (ad.add j)=some v) (h1:∀v∈news,v.oneCell'=true) (hroom:n+m≤c) (hfit:n+news.length≤L.length) :
  (Builtin.append_ #[t,t] t #[.slice (some ⟨g,0,none⟩) n c,.slice A m sc]).run prog W=.ok (.slice (some ⟨g,0,none⟩) (n+m) c) (W.setRow g (splice L n news).toArray):=by
 have hs:(prog.info? 62).map (·.size)=some 1:=by kernel_rfl
 have h:=oG (P:=prog) W t t 62 1 ht hs g 0 n c L T hg A m sc news (by omega) hsrc h1 hroom (by omega)
 rwa [show 0+n*1=n by omega]at h
set_option maxHeartbeats 4000000 in
theorem Qk(w:World):Calls prog 159 #[.slice none 0 0,.int .i64 8] w fun e w'=>
  ∃c L,e=.returned (.slice (some ⟨w.heap.size,0,none⟩) 0 c)∧au w' w.heap.size 62 L∧8≤c∧c≤L.length∧c≤maxLen∧ai [] w w':=by
 have HB:=hid (au.new w.drew 62 (Builtin.zeroCells #[Value.int .u16 0] 8++Builtin.zeroCells #[Value.int .u16 0] (grownCap w 8 0 62 - 8)))
 have HC:=hid (((ai.refl [] w).drew).alloc (.cells (Builtin.zeroCells #[Value.int .u16 0] 8++Builtin.zeroCells #[Value.int .u16 0] (grownCap w 8 0 62 - 8)) 62))
 have hge:=grownCap_ge w 8 0 62
 have hcm:=grownCap_le_maxLen w 8 0 62 (by unfold maxLen;omega)
 have HX:=hid (show grownCap w 8 0 62≤(Builtin.zeroCells #[Value.int .u16 0] 8++Builtin.zeroCells #[Value.int .u16 0] (grownCap w 8 0 62 - 8)).toList.length by
  rw[Array.length_toList,Array.size_append,size_zeroCells,size_zeroCells]
  simp
  omega)
 have HGE:=hid hge
 have HCM:=hid hcm
 clear hge hcm
 go_enter func159,ntmps159
 go_wp2
 go_ret
 exact⟨grownCap w 8 0 62,rfl,_,HB.out,HGE.out,HX.out,HCM.out,HC.out⟩
def nQ(w:World)(A:Option Go.Addr)(xs:List Nat):Prop:=0 < xs.length→∃ad,A=some ad∧ad.block < w.heap.size∧∀(j u:Nat),xs[j]?=some u→w.cell? (ad.add j)=some (.int .u16 (u:Nat))
theorem nQ.aG{w w':World}{A:Option Go.Addr}{xs:List Nat}(h:nQ w A xs)(hc:ai [] w w'):nQ w' A xs:=fun h0=>by
 obtain⟨ad,h1,h2,h3⟩:=h h0
 refine⟨ad,h1,Nat.lt_of_lt_of_le h2 hc.size,fun j u hu=>?_⟩
 have hb:(ad.add j).block=ad.block:=by unfold Addr.add;split<;>rfl
 exact(hc.cell (p:=ad.add j) (by rw[hb];exact h2) (by simp)).trans (h3 j u hu)
theorem nQ.src{w:World}{A:Option Go.Addr}{xs:List Nat}(h:nQ w A xs):0 < (iT xs).length→∃ad,A=some ad∧∀(j:Nat) (v:Value),(iT xs)[j]?=some v→w.cell? (ad.add j)=some v:=fun h0=>by
 obtain⟨ad,h1,_,h3⟩:=h (by simpa[iT]using h0)
 refine⟨ad,h1,fun j v hv=>?_⟩
 unfold iT at hv
 rw[List.getElem?_map]at hv
 cases hx:xs[j]? with
 |none=>rw[hx]at hv;cases hv
 |some u=>rw[hx]at hv;injection hv with hv;rw[←hv];exact h3 j u hx
theorem H6(xs:List Nat):∀v∈iT xs,v.oneCell'=true:=by
 intro v hv
 unfold iT at hv
 rw[List.mem_map]at hv
 obtain⟨u,_,rfl⟩:=hv
 rfl
theorem iS(xs:List Nat):(iT xs).length=xs.length:=by simp[iT]
def lF(w wx:World)(G c:Nat)(pre:List Nat):Prop:=∃Lx,au wx G 62 Lx∧c≤Lx.length∧Lx.take pre.length=iT pre∧ai [] w wx
theorem lF.app{w wx:World}{G c:Nat}{pre:List Nat}(h:lF w wx G c pre)(hG:w.heap.size≤G)(A:Option Go.Addr)(xs:List Nat)(cap m n:Nat)(hm:m=pre.length)(hn:n=xs.length)(sl:nQ w A xs)(hc:m+n≤c) :
  ∃wn,(Builtin.append_ #[158,158] 158 #[.slice (some ⟨G,0,none⟩) m c,.slice A n cap]).run prog wx=.ok (.slice (some ⟨G,0,none⟩) (m+n) c) wn∧lF w wn G c (pre++xs):=by
 subst hm hn
 obtain⟨Lx,hB,hL,hT,hC⟩:=h
 have hl:pre.length+(iT xs).length≤Lx.length:=by rw[iS];omega
 refine⟨_,Aa 158 G pre.length c wx Lx (iT xs) 62 hB A xs.length cap underlying158 (iS xs) (sl.aG hC).src (H6 xs) hc hl,_,hB.row _,?_,?_,hC.setRow (.inr hG) _⟩
 ·rw[kN Lx _ _ hl];exact hL
 ·have hsp:splice Lx pre.length (iT xs)=Lx.take pre.length++iT xs++Lx.drop (pre.length+(iT xs).length):=by
   unfold splice
   rw[List.append_assoc]
  rw[hsp,hT,List.length_append,←iS xs]
  rw[List.take_left' (by rw[List.length_append,iS,iS])]
  simp[iT]
theorem lF.at_{w wx:World}{G c:Nat}{pre:List Nat}(h:lF w wx G c pre){g i:Nat}{v:Value}(hg:g < w.heap.size)(hv:w.cell? ⟨g,i,none⟩=some v):wx.cell? ⟨g,i,none⟩=some v:=by
 obtain⟨_,_,_,_,hC⟩:=h
 exact(hC.cell (p:=⟨g,i,none⟩) hg (by simp)).trans hv
set_option maxHeartbeats 8000000 in
theorem BC(g:Nat)(w:World)(A1 A2 A3:Option Go.Addr)(c1 c2 c3:Nat)(x1 x2 x3:List Nat)(h8:x1.length+x2.length+x3.length=8)
  (k1:w.cell? ⟨g,0,none⟩=some (.slice A1 x1.length c1)) (k2:w.cell? ⟨g,1,none⟩=some (.slice A2 x2.length c2)) (k3:w.cell? ⟨g,2,none⟩=some (.slice A3 x3.length c3)) (hg:g < w.heap.size)
  (s1:nQ w A1 x1) (s2:nQ w A2 x2) (s3:nQ w A3 x3):Calls prog 97 #[.slice (some ⟨g,0,none⟩) 3 3] w fun e w'=>
  ∃g' c Lx,e=.returned (.slice (some ⟨g',0,none⟩) 8 c)∧au w' g' 62 Lx∧8≤c∧(∀j u:Nat,(x1++x2++x3)[j]?=some u→Lx[j]?=some (.int .u16 (u:Nat)))∧ai [] w w':=by
 obtain⟨n1,hn1⟩:∃n,n=x1.length:=⟨_,rfl⟩
 obtain⟨n2,hn2⟩:∃n,n=x2.length:=⟨_,rfl⟩
 obtain⟨n3,hn3⟩:∃n,n=x3.length:=⟨_,rfl⟩
 rw[←hn1]at h8 k1
 rw[←hn2]at h8 k2
 rw[←hn3]at h8 k3
 have HN1:=hid hn1
 have HN2:=hid hn2
 have HN3:=hid hn3
 have S1:=hid s1
 have S2:=hid s2
 have S3:=hid s3
 clear hn1 hn2 hn3 s1 s2 s3
 have e3:(n1:Int)+(n2:Int)+(n3:Int)=8:=by omega
 have hf1:(n1:Int)≤8:=by omega
 have hf2:(n1:Int)+(n2:Int)≤8:=by omega
 go_enter func97,ntmps97
 go_wp2
 go_loopw [3,11] (fun sv iv wr=>w=wr∧((sv=.int .i64 0∧iv=.int .i64 0)∨(sv=.int .i64 n1∧iv=.int .i64 1)∨(sv=.int .i64 ((n1:Int)+n2)∧iv=.int .i64 2)∨(sv=.int .i64 8∧iv=.int .i64 3))) (fun _ iv _=>3 - (RowKit.intOf iv).toNat)
 case atStart=>exact⟨rfl,.inl ⟨rfl,rfl⟩⟩
 case round=>
  obtain⟨rfl,⟨rfl,rfl⟩ | ⟨rfl,rfl⟩ | ⟨rfl,rfl⟩ | ⟨rfl,rfl⟩⟩:=hrel
  ·go_wp2
   go_roundw
   case measure=>decide
   case rel=>exact⟨by first|trivial|rfl,.inr (.inl ⟨rfl,rfl⟩)⟩
  ·go_wp2
   go_roundw
   case measure=>decide
   case rel=>exact⟨by first|trivial|rfl,.inr (.inr (.inl ⟨rfl,rfl⟩))⟩
  ·go_wp2
   go_roundw
   case measure=>decide
   case rel=>exact⟨by first|trivial|rfl,.inr (.inr (.inr ⟨rfl,rfl⟩))⟩
  ·go_wp2_with (go_at_call 159;refine(Qk _).mono ?_;rintro e w2 ⟨c,L,rfl,HB,hc8,hcL,hcm,C2⟩)
   obtain⟨G,hG⟩:∃G,G=w.heap.size:=⟨_,rfl⟩
   have hGle:w.heap.size≤G:=by omega
   rw[←hG]at HB
   try rw[←hG]
   have HCAT:=hid (show lF w w2 G c []from⟨L,HB,hcL,by simp[iT],C2⟩)
   have HGL:=hid hGle
   obtain⟨wz,hwz⟩:∃wz,wz=w2:=⟨_,rfl⟩
   rw[←hwz]at HCAT ⊢
   clear hG hGle HB hcL hcm C2 hwz w2
   have K1:=hid k1
   have K2:=hid k2
   have K3:=hid k3
   clear k1 k2 k3
   go_loopw [6,27] (fun sv iv wx=>(sv=.slice (some ⟨G,0,none⟩) 0 c∧iv=.int .i64 0∧Hid (lF w wx G c []))∨(sv=.slice (some ⟨G,0,none⟩) n1 c∧iv=.int .i64 1∧Hid (lF w wx G c x1))∨(sv=.slice (some ⟨G,0,none⟩) (n1+n2) c∧iv=.int .i64 2∧Hid (lF w wx G c (x1++x2)))∨(sv=.slice (some ⟨G,0,none⟩) 8 c∧iv=.int .i64 3∧Hid (lF w wx G c (x1++x2++x3)))) (fun _ iv _=>3 - (RowKit.intOf iv).toNat)
   case atStart=>exact .inl ⟨rfl,rfl,HCAT⟩
   case round=>
    rcases hrel with⟨rfl,rfl,hq⟩ | ⟨rfl,rfl,hq⟩ | ⟨rfl,rfl,hq⟩ | ⟨rfl,rfl,hq⟩
    ·obtain⟨wn,hap,hq2⟩:=lF.app hq.out HGL.out A1 x1 c1 0 n1 rfl HN1.out S1.out (by omega)
     have HQ2:=hid hq2
     have j1:=hq.out.at_ hg K1.out
     rw[Nat.zero_add]at hap
     have HAP:=hid hap
     clear hq hq2 hap
     go_wp2_with ((with_reducible refine fS ?_);refine Lib.wpList_append_run _ rfl (.tmp 31) (.tmp 32) 158 158 rfl _ _ rfl rfl _ _ HAP.out ?_)
     go_roundw
     case measure=>decide
     case rel=>exact .inr (.inl ⟨rfl,rfl,HQ2⟩)
    ·obtain⟨wn,hap,hq2⟩:=lF.app hq.out HGL.out A2 x2 c2 n1 n2 HN1.out HN2.out S2.out (by omega)
     have HQ2:=hid hq2
     have j1:=hq.out.at_ hg K2.out
     have HAP:=hid hap
     clear hq hq2 hap
     go_wp2_with ((with_reducible refine fS ?_);refine Lib.wpList_append_run _ rfl (.tmp 31) (.tmp 32) 158 158 rfl _ _ rfl rfl _ _ HAP.out ?_)
     go_roundw
     case measure=>decide
     case rel=>exact .inr (.inr (.inl ⟨rfl,rfl,HQ2⟩))
    ·obtain⟨wn,hap,hq2⟩:=lF.app hq.out HGL.out A3 x3 c3 (n1+n2) n3 (by rw[List.length_append,←HN1.out,←HN2.out]) HN3.out S3.out (by omega)
     have HQ2:=hid hq2
     have j1:=hq.out.at_ hg K3.out
     rw[h8]at hap
     have HAP:=hid hap
     clear hq hq2 hap
     go_wp2_with ((with_reducible refine fS ?_);refine Lib.wpList_append_run _ rfl (.tmp 31) (.tmp 32) 158 158 rfl _ _ rfl rfl _ _ HAP.out ?_)
     go_roundw
     case measure=>decide
     case rel=>exact .inr (.inr (.inr ⟨rfl,rfl,HQ2⟩))
    ·go_wp2
     go_ret
     obtain⟨Lx,hB,hL,hT,hC⟩:=hq.out
     refine⟨G,c,Lx,rfl,hB,hc8,fun j u hu=>?_,hC⟩
     have h1:(iT (x1++x2++x3))[j]?=some (.int .u16 (u:Nat)):=by unfold iT;rw[List.getElem?_map,hu];rfl
     rw[←hT,List.getElem?_take]at h1
     split at h1
     ·exact h1
     ·cases h1
open Go.RowKit Go.Lib Go.Sort
theorem Fl(s p:List UInt8):(Lib.cut s p).1.length≤s.length∧(Lib.cut s p).2.1.length≤s.length:=by
 unfold Lib.cut
 split
 ·simp only[List.length_take,List.length_drop];omega
 ·simp
theorem Hx{s:List UInt8}{x1 x2:List Nat}{o1 o2:Bool}(h1:∀l:List Nat,(∀u∈l,u < 65536)→(Lib.cut s [58,58]).1=aR l→o1=true∧x1=l)
  (h2:∀l:List Nat,(∀u∈l,u < 65536)→(Lib.cut s [58,58]).2.1=aR l→o2=true∧x2=l) (m:Nat) (hs:s=cM (aL m)) :
  o1=true∧o2=true∧x1.length+x2.length≤8∧((Lib.cut s [58,58]).2.2=true∨x1.length=8)∧x1++List.replicate (8 - x1.length - x2.length) 0++x2=aL m:=by
 have hc:=G0 (aL m)
 rw[←hs]at hc
 obtain⟨hf1,hf2,hf3⟩:=Bg (aL m) rfl
 by_cases hg:(gH (zs (aL m))).1=(gH (zs (aL m))).2
 ·rw[if_pos hg]at hc
  rw[hc]at h1 h2 ⊢
  obtain⟨q1,rfl⟩:=h1 (aL m) (fun u hu=>gY hu) rfl
  obtain⟨q2,rfl⟩:=h2 [] (by simp) rfl
  refine⟨q1,q2,by rw[eX];simp,.inr rfl,?_⟩
  rw[eX];simp
 ·rw[if_neg hg]at hc
  rw[hc]at h1 h2 ⊢
  obtain⟨q1,rfl⟩:=h1 _ (fun u hu=>gY (List.mem_of_mem_take hu)) rfl
  obtain⟨q2,rfl⟩:=h2 _ (fun u hu=>gY (List.mem_of_mem_drop hu)) rfl
  refine⟨q1,q2,?_,.inl rfl,hf3⟩
  rw[List.length_take,List.length_drop,eX];omega
def bf(L:List Nat)(k j:Nat):Nat:=if j < 2*k then(if j%2=0 then L.getD (j / 2) 0 / 256 else L.getD (j / 2) 0%256)else 0
theorem NM{L:List Nat}(h:∀u∈L,u < 65536)(j:Nat):L.getD j 0 < 65536:=by
 by_cases hj:j < L.length
 ·rw[List.getD_eq_getElem?_getD,List.getElem?_eq_getElem hj];exact h _ (List.getElem_mem hj)
 ·rw[List.getD_eq_getElem?_getD,List.getElem?_eq_none (by omega)];simp
theorem Pd{L:List Nat}(h:∀u∈L,u < 65536)(k j:Nat):bf L k j < 256:=by
 have:=NM h (j / 2)
 unfold bf
 split
 ·split<;>omega
 ·omega
theorem Pf(L:List Nat)(k u:Nat)(hu:L[k]?=some u):bf L (k+1) (2*k)=u / 256:=by
 unfold bf
 rw[if_pos (by omega),if_pos (by omega),show 2*k / 2=k by omega,List.getD_eq_getElem?_getD,hu]; rfl
theorem Pe(L:List Nat)(k u:Nat)(hu:L[k]?=some u):bf L (k+1) (2*k+1)=u%256:=by
 unfold bf
 rw[if_pos (by omega),if_neg (by omega),show(2*k+1) / 2=k by omega,List.getD_eq_getElem?_getD,hu]; rfl
theorem Fz(L:List Nat)(k j:Nat)(h1:j≠2*k)(h2:j≠2*k+1):bf L (k+1) j=bf L k j:=by
 unfold bf
 by_cases h:j < 2*k
 ·rw[if_pos h,if_pos (by omega)]
 ·rw[if_neg h,if_neg (by omega)]
theorem J3{n:Nat}{L:List Nat}(hl:L.length=8)(h:∀j,j < 8→L[j]?=some (eu n j)):aL n=L:=by
 apply List.ext_getElem?
 intro j
 by_cases hj:j < 8
 ·rw[h j hj,qA n j hj]
 ·rw[List.getElem?_eq_none (by rw[eX];omega),List.getElem?_eq_none (by omega)]
theorem E8{n:Nat}{L:List Nat}(hl:L.length=8)(h:∀j,j < 16→ah n j=bf L 8 j):aL n=L:=by
 refine J3 hl fun j hj=>?_
 obtain⟨u,hu⟩:∃u,L[j]?=some u:=⟨_,List.getElem?_eq_getElem (by omega)⟩
 rw[hu]
 unfold eu
 rw[h (2*j) (by omega),h (2*j+1) (by omega)]
 unfold bf
 rw[if_pos (by omega),if_pos (by omega),if_pos (by omega),if_neg (by omega),show 2*j / 2=j by omega,show(2*j+1) / 2=j by omega,List.getD_eq_getElem?_getD,hu]
 simp;omega
theorem Ba{n m:Nat}(hn:n < 2^128)(hm:m < 2^128)(h:aL n=aL m):n=m:=by
 refine jZ hn hm fun i hi=>?_
 have h1:=qA n (i / 2) (by omega)
 rw[h,qA m (i / 2) (by omega)]at h1
 injection h1 with h1
 unfold eu at h1
 have b1:=a7 n (2*(i / 2)+1)
 have b2:=a7 m (2*(i / 2)+1)
 by_cases h2:i%2=0
 ·rw[show i=2*(i / 2)by omega]; omega
 ·rw[show i=2*(i / 2)+1 by omega]; omega
theorem yv(n:Nat):jk true n=true:=by
 unfold jk
 rw[decide_eq_true_eq]
 exact Gt n
theorem LW(v:Bool)(f g:Nat→Nat)(k2 hi lo:Nat)(hk:k2≤14)(h1:g k2=hi)(h2:g (k2+1)=lo)(h3:∀j,j≠k2→j≠k2+1→g j=f j) :
  splice (aE v f) (1+k2) [.int .u8 (hi:Nat),.int .u8 (lo:Nat)]=aE v g:=by
 apply List.ext_getElem?
 intro j
 have hsp:splice (aE v f) (1+k2) [.int .u8 (hi:Nat),.int .u8 (lo:Nat)]=(aE v f).take (1+k2)++([.int .u8 (hi:Nat),.int .u8 (lo:Nat)]++(aE v f).drop (1+k2+2)):=rfl
 rw[hsp]
 have hl:((aE v f).take (1+k2)).length=1+k2:=by rw[List.length_take,aD];omega
 by_cases hj:j < 1+k2
 ·rw[List.getElem?_append_left (by omega),List.getElem?_take,if_pos hj]
  cases j with
  |zero=>rfl
  |succ j=>
   rw[Nat.add_comm j 1,cB v f j (by omega),cB v g j (by omega),h3 j (by omega) (by omega)]
 ·rw[List.getElem?_append_right (by omega),hl]
  by_cases hj2:j=1+k2
  ·subst hj2
   rw[cB v g k2 (by omega),h1]
   simp
  ·by_cases hj3:j=1+k2+1
   ·subst hj3
    rw[show 1+k2+1=1+(k2+1)by omega,cB v g (k2+1) (by omega),h2,show 1+(k2+1) - (1+k2)=1 by omega]
    rfl
   ·rw[List.getElem?_append_right (by simp;omega),List.getElem?_drop]
    simp only[List.length_cons,List.length_nil]
    rw[show 1+k2+2+(j - (1+k2) - (0+1+1))=j by omega]
    by_cases hj4:j < 17
    ·obtain⟨i,rfl⟩:∃i,j=1+i:=⟨j - 1,by omega⟩
     rw[cB v f i (by omega),cB v g i (by omega),h3 i (by omega) (by omega)]
    ·rw[List.getElem?_eq_none (by rw[aD];omega),List.getElem?_eq_none (by rw[aD];omega)]
theorem BB{w1:World}{g:Nat}{v:Bool}{f f':Nat→Nat}(hb:au w1 g 24 (aE v f))(k2 hi lo:Nat)(hk:k2≤14)(h1:f' k2=hi)(h2:f' (k2+1)=lo)(h3:∀j,j≠k2→j≠k2+1→f' j=f j)
  {A:Option Go.Addr} {c:Nat} (hO:Own w1 5 1 (.slice A 2 c) 2 [.int .u8 (hi:Nat),.int .u8 (lo:Nat)]) :
  (Builtin.copy_ #[82,82] 3 #[.slice (some ⟨g,1+k2,none⟩) (16 - k2) (16 - k2),.slice A 2 c]).run prog w1=.ok (.int .i64 2) (w1.setRow g (aE v f').toArray):=by
 obtain⟨g2,o2,c2,hv,_⟩:=hO.some_ (by omega)
 injection hv with hA _ hc
 subst hA hc
 have h:=yd (P:=prog) w1 82 82 3 5 1 underlying82 (by kernel_rfl) g (1+k2) (16 - k2) (16 - k2) (aE v f) 24 hb (some ⟨g2,o2,none⟩) 2 c [.int .u8 (hi:Nat),.int .u8 (lo:Nat)] (by show 2=min 2 (16 - k2)*1; omega)
  (fun _=>⟨_,rfl,hO.jX⟩) (by rw[aD];simp;omega) (by simp[Value.oneCell'])
 rw[LW v f f' k2 hi lo hk h1 h2 h3]at h
 have e:Nat.min 2 (16 - k2)=2:=by show min 2 (16 - k2)=2; omega
 rw[h,e]
 simp[goInt]
end Go.Proofs.YtnncigmpcdehnaaGreatDoor
