import Derived.Test.YtnncigmpcdehnaaGreatDoorQi09
open List renaming mem_cons_of_mem→VE,length_append→VG,length_cons→VH,mem_singleton→VJ,mem_append→VK,foldl_cons→VP,getElem?_append_right→VQ,getElem?_eq_getElem→VR,append_assoc→VS,mem_cons→VT,cons_append→VU,nodup_cons→VV,drop_zero→VW,drop_drop→VX,map_cons→VY,flatMap_cons→Wa,exists_cons_of_ne_nil→We,take_append_drop→Wi,mem_of_getElem?→Wk,flatten_cons→Wm,not_mem_nil→Wo,mem_filter→Wq,map_append→Wr,append_nil→Ws,mapM_cons→Wt,flatten→Wv,range'→Wz
open Nat renaming eq_of_beq_eq_true→VF,le_refl→VL,le_trans→VM,beq→Wb,zero_le→Wd,succ_mul→Wj,zero_mul→Wx,sub_self→Wy
open Go.Value renaming bool→VI,int→Wn
open Bool renaming and_eq_true→VN,false_or→Wu
open Option renaming some→VO
open And renaming intro→VZ
open Go.Sem renaming run_bind→Wc
open Eq renaming mp→Wg
namespace Go.Proofs.YtnncigmpcdehnaaGreatDoor
open Go.RowKit Go.Lib Go.Sort
def LN:Prop:=∀p:Px,p.n < 2^128→gv p.v p.n p.k=true→oM (tb p)=some p
theorem nr(n:Nat):dM (ao 10 n)=n:=iF (by omega) (by omega) n
theorem ou{most n:Nat}(h:n≤most):bR most (ao 10 n)=true:=by unfold bR;rw[nr,decide_eq_true h,decide_eq_true rfl];rfl
theorem gG{ws:List Bs}{i:Nat}{x:Bs}(h:ws[i]?=some x):aP ws i=.ok x (i+1):=by unfold aP;rw[h]
theorem kg{ws:List Bs}{i n most:Nat}(h:ws[i]?=some (ao 10 n))(hn:n≤most):bc most ws i=.ok n (i+1):=by unfold bc;rw[gG h];show aK (bR most (ao 10 n)) 200 (dM (ao 10 n)) (i+1)=_;rw[ou hn,nr];rfl
theorem wF{n:Int}(h:0≤n):cx n=ao 10 n.toNat:=by unfold cx;rw[if_neg (by omega)]
theorem um{ws:List Bs}{i:Nat}{n:Int}(h:ws[i]?=some (cx n))(h0:0≤n)(hn:n≤9223372036854775807):gz ws i=.ok n.toNat (i+1):=
 kg (by rw[h,wF h0]) (by omega)
theorem rZ{ws:List Bs}{i:Nat}{x:Bs}(h:ws[i]?=some x)(hx:aJ x=true):fh ws i=.ok x (i+1):=by unfold fh;rw[gG h];show aK (aJ x) 201 x (i+1)=_;rw[hx];rfl
theorem prefix_at(hU:LN){ws:List Bs}{i:Nat}{p:Px}(h:ws[i]?=some (tb p))(hn:p.n < 2^128)(hk:gv p.v p.n p.k=true):cZ ws i=.ok p (i+1):=by unfold cZ;rw[gG h];show aK (oM (tb p)).isSome 151 ((oM (tb p)).getD oN) (i+1)=_;rw[hU p hn hk];rfl
theorem wV(u:Nat):(45:UInt8)∉ao 10 u:=iD (by omega) (by omega) (.inl (by decide))
theorem KU(l m:List UInt8)(h:(45:UInt8)∉l):Lib.cut (l++45::m) [45]=(l,m,true):=by unfold Lib.cut;rw[oB 45 l m h,if_pos (by omega)];simp only[Int.toNat_natCast];rw[List.take_left' rfl];congr 2;rw[show l++45::m=(l++[45])++m by simp];exact List.drop_left' (by simp)
theorem Dh(s:List UInt8)(h:(45:UInt8)∉s):Lib.cut s [45]=(s,[],false):=by
 unfold Lib.cut;rcases Lib.index_spec s [45]with⟨h1,_⟩ | ⟨i,_,_,h3,_⟩
 ·rw[h1];rfl
 ·exact absurd (Wk ((Eu s 45 i).1 h3)) h
theorem MM(s:Nat×Nat):dI (ef s)=(ao 10 s.1,ao 10 s.2):=by
 unfold dI ef;by_cases h:s.1=s.2
 ·rw[if_pos h,Dh _ (wV _),←h]
 ·rw[if_neg h,KU _ _ (wV _)]
theorem xx{ws:List Bs}{i:Nat}{s:Nat×Nat}(h:ws[i]?=some (ef s))(h1:s.1≤65535)(h2:s.2≤65535):gZ ws i=.ok s (i+1):=by unfold gZ;rw[gG h];show aK (bR 65535 (dI (ef s)).1&&bR 65535 (dI (ef s)).2) 200 (dM (dI (ef s)).1,dM (dI (ef s)).2) (i+1)=_;rw[MM];show aK (bR 65535 (ao 10 s.1)&&bR 65535 (ao 10 s.2)) 200 (dM (ao 10 s.1),dM (ao 10 s.2)) (i+1)=_;rw[ou h1,ou h2,nr,nr];rfl
theorem jh{ws:List Bs}{i:Nat}{s:Bs}(h:ws[i]?=some s):dd ws i s=.ok true (i+1):=by unfold dd;rw[if_pos h]
theorem iH{ws:List Bs}{i:Nat}{s:Bs}(h:ws[i]?≠some s):dd ws i s=.ok false i:=by unfold dd;rw[if_neg h]
theorem uJ(u:Nat)(c:UInt8)(l:Bs)(h:¬(48≤c.toNat∧c.toNat≤57)):ao 10 u≠c::l:=fun he=>by obtain⟨d,hd,hc⟩:=iW (b:=10) (by omega) u c (by rw[he];simp);rw[hc,eZ (by omega),if_pos hd]at h;omega
theorem Js{ws:List Bs}{i n:Nat}(h:ws[i]?=some (dw n))(hn:n≤255):dL ws i=.ok n (i+1):=by
 unfold dL;by_cases h6:n=6
 ·have:dw n=lC:=by unfold dw;rw[if_pos h6]
  rw[jh (by rw[h,this]),h6];rfl
 ·by_cases h17:n=17
  ·have e:dw n=mv:=by unfold dw;rw[if_neg h6,if_pos h17]
   rw[iH (by rw[h,e];decide)];show(dd ws i mv).bind _=_;rw[jh (by rw[h,e]),h17];rfl
  ·have e:dw n=ao 10 n:=by unfold dw;rw[if_neg h6,if_neg h17]
   rw[e]at h;rw[iH (by rw[h];exact fun hh=>uJ n 116 _ (by decide) (VO.inj hh))];show(dd ws i mv).bind _=_;rw[iH (by rw[h];exact fun hh=>uJ n 117 _ (by decide) (VO.inj hh))];exact kg h hn
def MP(M m:Mt)(k:Nat):Mt:=match k with
 | 0=>{ m with fE:=M.fE }
 | 1=>{ m with src:=M.src }
 | 2=>{ m with dst:=M.dst }
 | 3=>{ m with bE:=M.bE }
 | 4=>{ m with sp:=M.sp }
 |_=>{ m with dp:=M.dp }
def fQ(M m:Mt)(k:Nat):Mt:=MP M { m with asks:=m.asks|||2^k } k
structure DG(M:Mt):Prop where
 i1:M.fE.1≤65535
 i2:M.fE.2≤65535
 s1:M.sp.1≤65535
 s2:M.sp.2≤65535
 d1:M.dp.1≤65535
 d2:M.dp.2≤65535
 pr:M.bE≤255
 sn:M.src.n < 2^128
 dn:M.dst.n < 2^128
theorem Ji(hU:LN){M m:Mt}(hM:DG M)(hs:M.asks.testBit 1=true→gv M.src.v M.src.n M.src.k=true)(hd:M.asks.testBit 2=true→gv M.dst.v M.dst.n M.dst.k=true){k:Nat}(hk:k < 6)(hb:M.asks.testBit k=true){ws:List Bs}{i:Nat}{y:Bs}(hy:(bA M k)[1]?=some y)(h:ws[i]?=some y):bZ k m ws i=.ok (MP M m k) (i+1):=by
 match k,hk with
 | 0,_=>cases hy;unfold bZ;rw[xx h hM.i1 hM.i2];rfl
 | 1,_=>cases hy;unfold bZ;rw[prefix_at hU h hM.sn (hs hb)];rfl
 | 2,_=>cases hy;unfold bZ;rw[prefix_at hU h hM.dn (hd hb)];rfl
 | 3,_=>cases hy;unfold bZ;rw[Js h hM.pr];rfl
 | 4,_=>cases hy;unfold bZ;rw[xx h hM.s1 hM.s2];rfl
 | 5,_=>cases hy;unfold bZ;rw[xx h hM.d1 hM.d2];rfl
theorem pM(M:Mt){k:Nat}(hk:k < 6):∃x y,bA M k=[x,y]∧AE x=some k:=by
 match k,hk with
 | 0,_=>exact⟨_,_,rfl,by decide⟩
 | 1,_=>exact⟨_,_,rfl,by decide⟩
 | 2,_=>exact⟨_,_,rfl,by decide⟩
 | 3,_=>exact⟨_,_,rfl,by decide⟩
 | 4,_=>exact⟨_,_,rfl,by decide⟩
 | 5,_=>exact⟨_,_,rfl,by decide⟩
theorem qk(M m:Mt)(k:Nat):(MP M m k).asks=m.asks:=by unfold MP;split<;>rfl
theorem AM(hU:LN){M m:Mt}(hM:DG M)(hs:M.asks.testBit 1=true→gv M.src.v M.src.n M.src.k=true)(hd:M.asks.testBit 2=true→gv M.dst.v M.dst.n M.dst.k=true){k:Nat}(hk:k < 6)(hb:M.asks.testBit k=true)(hm:m.asks.testBit k=false){pre r:List Bs}:aZ (pre++(bA M k++r)) pre.length m=.ok (true,fQ M m k) (pre.length+2):=by
 obtain⟨x,y,e,hx⟩:=pM M hk;have h0:(pre++(bA M k++r))[pre.length]?=some x:=by rw[e];simp
 have h1:(pre++(bA M k++r))[pre.length+1]?=some y:=by rw[e,VQ (by omega)];simp
 unfold aZ;rw[h0];show(match AE x with|none=>_|some k=>_)=_;rw[hx];show(match m.asks.testBit k with|true=>_|false=>_)=_;rw[hm];show(bZ k { m with asks:=m.asks|||2^k } _ (pre.length+1)).bind _=_;rw[Ji hU hM hs hd hk hb (y:=y) (by rw[e];rfl) h1];rfl
def TQ(r:List Bs):Prop:=∀x,r[0]?=some x→AE x=none
theorem AK{pre r:List Bs}{m:Mt}(h:TQ r):aZ (pre++r) pre.length m=.ok (false,m) pre.length:=by
 unfold aZ;have e:(pre++r)[pre.length]?=r[0]?:=by rw[VQ (by omega),Wy]
 rw[e];cases hx:r[0]? with
 |none=>rfl
 |some x=>show(match AE x with|none=>_|some k=>_)=_;rw[h x hx]
theorem oU{a k j:Nat}(h:j≠k):(a|||2^k).testBit j=a.testBit j:=by rw[Nat.testBit_or,Nat.testBit_two_pow_of_ne (Ne.symm h),Bool.or_false]
theorem wQ(hU:LN){M:Mt}(hM:DG M)(hs:M.asks.testBit 1=true→gv M.src.v M.src.n M.src.k=true)(hd:M.asks.testBit 2=true→gv M.dst.v M.dst.n M.dst.k=true){r:List Bs}(hr:TQ r) :
  ∀(ks:List Nat) (pre:List Bs) (m:Mt) (f:Nat),(∀k∈ks,k < 6∧M.asks.testBit k=true∧m.asks.testBit k=false)→ks.Nodup→ks.length+1≤f→
   dY (pre++(ks.flatMap (bA M)++r)) f pre.length m=.ok (ks.foldl (fQ M) m) (pre.length+2*ks.length)
 | [],pre,m,f+1,_,_,_=>by unfold dY;rw[show pre++(([]:List Nat).flatMap (bA M)++r)=pre++r by simp,AK hr];rfl
 |k::ks,pre,m,f+1,h,hn,hf=>by
  have hk:=h k (by simp);rw[VV]at hn;unfold dY;have e:pre++((k::ks).flatMap (bA M)++r)=pre++(bA M k++(ks.flatMap (bA M)++r)):=by simp
  rw[e,AM hU hM hs hd hk.1 hk.2.1 hk.2.2];obtain⟨x,y,e2,_⟩:=pM M hk.1;have hl:(bA M k).length=2:=by rw[e2];rfl
  have ih:=wQ hU hM hs hd hr ks (pre++bA M k) (fQ M m k) f (fun j hj=>by have h1:=h j (VE _ hj);refine⟨h1.1,h1.2.1,?_⟩;unfold fQ;rw[qk];show(m.asks|||2^k).testBit j=false;rw[oU (show j≠k from fun he=>hn.1 (by rw[←he];exact hj))];exact h1.2.2) hn.2 (by simp only[VH]at hf;omega);have hpl:(pre++bA M k).length=pre.length+2:=by rw[VG,hl]
  rw[VS,hpl]at ih;show dY _ f (pre.length+2) (fQ M m k)=_;rw[ih];simp only[VP,VH];congr 1;omega
 |_,_,_,0,_,_,hf=>by omega
def kY(M:Mt):List Nat:=[0,1,2,3,4,5].filter fun k=>M.asks.testBit k
theorem rp(M:Mt):∀l:List Nat,l.flatMap (ma M)=(l.filter fun k=>M.asks.testBit k).flatMap (bA M)
 | []=>rfl
 |k::l=>by rw[Wa,rp M l,List.filter_cons];unfold ma;cases M.asks.testBit k<;>simp
theorem ov(M:Mt):fA M=(kY M).flatMap (bA M):=by unfold kY;rw[←rp];simp[fA]
theorem iS{M:Mt}{k:Nat}(h:k∈kY M):k < 6∧M.asks.testBit k=true:=by unfold kY at h;rw[Wq]at h;refine⟨?_,h.2⟩;have:=h.1;simp at this;omega
theorem Am(M:Mt):(kY M).Nodup:=by unfold kY;exact List.Pairwise.filter _ (by decide:([0,1,2,3,4,5]:List Nat).Nodup)
theorem JM{a b:Mt}(h0:a.asks=b.asks)(h1:a.fE=b.fE)(h2:a.src=b.src)(h3:a.dst=b.dst)(h4:a.bE=b.bE)(h5:a.sp=b.sp)(h6:a.dp=b.dp):a=b:=by cases a;cases b;simp_all
theorem wN(M:Mt):∀(ks:List Nat) (m:Mt),(ks.foldl (fQ M) m).asks=ks.foldl (fun a k=>a|||2^k) m.asks
 | [],_=>rfl
 |k::ks,m=>by rw[VP,VP,wN M ks];unfold fQ;rw[qk]
theorem Bp:∀a:Fin 64,([0,1,2,3,4,5].filter fun k=>a.val.testBit k).foldl (fun a k=>a|||2^k) 0=a.val:=by decide+kernel
theorem wM{α:Type}(M:Mt)(f:Mt→α)(j:Nat)(h1:∀m,f (fQ M m j)=f M)(h2:∀m k,k < 6→k≠j→f (fQ M m k)=f m):∀(ks:List Nat) (m:Mt),(∀k∈ks,k < 6)→ks.Nodup→(j∈ks→f (ks.foldl (fQ M) m)=f M)∧(j∉ks→f (ks.foldl (fQ M) m)=f m)
 | [],m,_,_=>⟨fun h=>absurd h (by simp),fun _=>rfl⟩
 |k::ks,m,hk,hn=>by
  rw[VV]at hn;have ih:=wM M f j h1 h2 ks (fQ M m k) (fun x hx=>hk x (VE _ hx)) hn.2;rw[VP];by_cases he:k=j
  ·subst he
   refine⟨fun _=>?_,fun h=>absurd (List.mem_cons_self) h⟩;rw[ih.2 hn.1];exact h1 m
  ·refine⟨fun h=>ih.1 ?_,fun h=>?_⟩
   ·rcases VT.1 h with h|h
    ·exact absurd h.symm he
    ·exact h
   ·rw[ih.2 fun hh=>h (VE _ hh)]
    exact h2 m k (hk k (by simp)) he
theorem JS{M:Mt}{k:Nat}(hk:k < 6):k∈kY M↔M.asks.testBit k=true:=by unfold kY;rw[Wq];refine⟨fun h=>h.2,fun h=>⟨?_,h⟩⟩;simp;omega
theorem Jo{p:Px}(h:BI p=true):p=oN:=by unfold BI at h;have:=of_decide_eq_true h;cases p;simp_all[oN]
theorem Rc{M:Mt}(ha:M.asks < 64)(z0:M.asks.testBit 0=false→M.fE=(0,0))(z1:M.asks.testBit 1=false→M.src=oN)(z2:M.asks.testBit 2=false→M.dst=oN)(z3:M.asks.testBit 3=false→M.bE=0)(z4:M.asks.testBit 4=false→M.sp=(0,0))(z5:M.asks.testBit 5=false→M.dp=(0,0)):(kY M).foldl (fQ M) lG=M:=by
 have part:∀{α:Type} (f:Mt→α) (j:Nat),j < 6→(∀m,f (fQ M m j)=f M)→(∀m k,k < 6→k≠j→f (fQ M m k)=f m)→(M.asks.testBit j=false→f M=f lG)→f ((kY M).foldl (fQ M) lG)=f M:=fun f j hj h1 h2 h3=>by
  have:=wM M f j h1 h2 (kY M) lG (fun k hk=>(iS hk).1) (Am M);cases hb:M.asks.testBit j with
  |true=>exact this.1 ((JS hj).2 hb)
  |false=>rw[this.2 (fun hh=>by rw[(JS hj).1 hh]at hb;cases hb)];exact(h3 hb).symm
 have cas:∀{P:Nat→Prop} (j:Nat),(∀k,k < 6→k≠j→P k)→∀k,k < 6→k≠j→P k:=fun _ h=>h;refine JM ?_ (part (·.fE) 0 (by omega) (fun _=>rfl) (fun m k hk hj=>?_) z0) (part (·.src) 1 (by omega) (fun _=>rfl) (fun m k hk hj=>?_) z1) (part (·.dst) 2 (by omega) (fun _=>rfl) (fun m k hk hj=>?_) z2) (part (·.bE) 3 (by omega) (fun _=>rfl) (fun m k hk hj=>?_) z3) (part (·.sp) 4 (by omega) (fun _=>rfl) (fun m k hk hj=>?_) z4) (part (·.dp) 5 (by omega) (fun _=>rfl) (fun m k hk hj=>?_) z5)
 ·rw[wN]
  exact Bp ⟨M.asks,ha⟩
 all_goals (match k,hk,hj with
  | 0,_,hj=>first|rfl|exact absurd rfl hj
  | 1,_,hj=>first|rfl|exact absurd rfl hj
  | 2,_,hj=>first|rfl|exact absurd rfl hj
  | 3,_,hj=>first|rfl|exact absurd rfl hj
  | 4,_,hj=>first|rfl|exact absurd rfl hj
  | 5,_,hj=>first|rfl|exact absurd rfl hj)
theorem mF{M:Mt}(h:bp M=true):M.asks < 64∧(M.asks.testBit 0=false→M.fE=(0,0))∧(M.asks.testBit 1=false→M.src=oN)∧(M.asks.testBit 2=false→M.dst=oN)∧(M.asks.testBit 3=false→M.bE=0)∧(M.asks.testBit 4=false→M.sp=(0,0))∧(M.asks.testBit 5=false→M.dp=(0,0))∧
  (M.asks.testBit 1=true→gv M.src.v M.src.n M.src.k=true)∧(M.asks.testBit 2=true→gv M.dst.v M.dst.n M.dst.k=true):=by
 unfold bp at h;simp only[VN]at h;obtain⟨⟨h0,h1,h2,h3,h4,h5,h6⟩,⟨_,_,_,_⟩,⟨g1,g2,_⟩,_⟩:=h;refine⟨by simpa using h0,fun hb=>?_,fun hb=>?_,fun hb=>?_,fun hb=>?_,fun hb=>?_,fun hb=>?_,fun hb=>?_,fun hb=>?_⟩
 ·rw[hb]at h1;exact of_decide_eq_true h1
 ·rw[hb]at h2;exact Jo h2
 ·rw[hb]at h3;exact Jo h3
 ·rw[hb]at h4;exact of_decide_eq_true h4
 ·rw[hb]at h5;exact of_decide_eq_true h5
 ·rw[hb]at h6;exact of_decide_eq_true h6
 ·rw[hb]at g1;exact g1
 ·rw[hb]at g2;exact g2
def wm(M:Mt):List Bs:=if M.asks=0 then [kZ] else fA M
theorem CB(M:Mt):iP M=aE 32 (wm M):=by unfold iP wm;split<;>rfl
theorem PK{M:Mt}(h0:M.asks≠0)(h:M.asks < 64):kY M≠[]:=fun he=>by have:=Bp ⟨M.asks,h⟩;have he':([0,1,2,3,4,5].filter fun k=>M.asks.testBit k)=[]:=he;rw[he']at this;exact h0 this.symm
theorem Ow:AE kZ=none:=by decide
theorem JV(hU:LN){M:Mt}(hM:DG M)(hc:bp M=true){pre r:List Bs}(hr:TQ r):fk (pre++(wm M++r)) pre.length=.ok M (pre.length+(wm M).length):=by
 obtain⟨ha,z0,z1,z2,z3,z4,z5,hs,hd⟩:=mF hc;unfold fk;by_cases h0:M.asks=0
 ·have e:wm M=[kZ]:=by unfold wm;rw[if_pos h0]
  rw[e,jh (by simp)];have:M=lG:=by refine JM h0 (z0 (by rw[h0];rfl)) (z1 (by rw[h0];rfl)) (z2 (by rw[h0];rfl)) (z3 (by rw[h0];rfl)) (z4 (by rw[h0];rfl)) (z5 (by rw[h0];rfl))
  rw[this];rfl
 ·have e:wm M=(kY M).flatMap (bA M):=by unfold wm;rw[if_neg h0,ov]
  rw[e];obtain⟨k,ks,hks⟩:=We (PK h0 ha);have hkm:k∈kY M:=by rw[hks];simp
  obtain⟨x,y,e2,hx⟩:=pM M (iS hkm).1;have hat:(pre++((kY M).flatMap (bA M)++r))[pre.length]?=some x:=by rw[hks,Wa,e2,VQ (by omega)];simp
  rw[iH (by rw[hat];intro hh;rw[VO.inj hh]at hx;rw[Ow]at hx;cases hx)];show(aZ (pre++((kY M).flatMap (bA M)++r)) pre.length lG).bind _=_;have e3:pre++((kY M).flatMap (bA M)++r)=pre++(bA M k++(ks.flatMap (bA M)++r)):=by rw[hks];simp
  have nb:∀j,lG.asks.testBit j=false:=fun j=>Nat.zero_testBit j;have hn:=Am M;rw[hks,VV]at hn;have hf:=AM hU (m:=lG) hM hs hd (iS hkm).1 (iS hkm).2 (nb k) (pre:=pre) (r:=ks.flatMap (bA M)++r);have hlen2:(bA M k).length=2:=by rw[e2];rfl
  have hll:∀l:List Nat,(∀j∈l,j < 6)→(l.flatMap (bA M)).length=2*l.length:=by
   intro l;induction l with
   |nil=>intro _;rfl
   |cons j l ih=>intro hj;obtain⟨_,_,e4,_⟩:=pM M (hj j (by simp));rw[Wa,VG,ih (fun i hi=>hj i (VE _ hi)),e4];simp only[VH,List.length_nil];omega
  have hm:=wQ hU hM hs hd hr ks (pre++bA M k) (fQ M lG k) ((pre++((kY M).flatMap (bA M)++r)).length+1 - (pre.length+2)) (fun j hj=>by
   have hj2:j∈kY M:=by rw[hks];exact VE _ hj
   refine⟨(iS hj2).1,(iS hj2).2,?_⟩;unfold fQ;rw[qk];show(lG.asks|||2^k).testBit j=false;rw[oU (show j≠k from fun he=>hn.1 (by rw[←he];exact hj))];exact nb j) hn.2 (by rw[e3];simp only[VG,hlen2,hll ks (fun j hj=>(iS (M:=M) (by rw[hks];exact VE _ hj)).1)];omega)
  have hpl:(pre++bA M k).length=pre.length+2:=by rw[VG,hlen2]
  rw[VS,←e3,hpl]at hm;rw[←e3]at hf;rw[hf];show dY _ _ (pre.length+2) (fQ M lG k)=_;rw[hm,hll _ (fun j hj=>(iS hj).1),hks];have:=Rc ha z0 z1 z2 z3 z4 z5;rw[hks,VP]at this;rw[this];simp only[VH];congr 1;omega
open Go Go.RowKit Go.Lib Go.Sort
theorem sS{most:Nat}{s:Bs}:zE most s≤most:=by
 unfold zE;cases h:bR most s with
 |true=>exact(Gp.1 h).1
 |false=>exact Wd _
open Go Go.RowKit Go.Lib Go.Sort
theorem Ci{n most:Nat}{ws:List Bs}(h:ws.length=n):LP n (Ef most ws):=fU (iM h) fun _=>xG (by decide)
theorem sO{n:Nat}{ws:List Bs}(h:ws.length=n):LP n (rQ ws):=fU (iM h) fun _=>xG (by decide)
theorem sI{n:Nat}{ws:List Bs}(h:ws.length=n):LP n (sM ws):=fU (iM h) fun _=>xG (by decide)
theorem FL{n:Nat}{ws:List Bs}(h:ws.length=n):LP n (od ws):=fun st h1 h2=>by
 unfold od;cases Cj ws lC st with
 |true=>exact iM h st h1 h2
 |false=>
  cases Cj ws mv st with
  |true=>exact iM h st h1 h2
  |false=>exact Ci h st h1 h2
open Go Go.RowKit Go.Lib Go.Sort
def Mo{α:Type}(q:RA α):Prop:=∀st:RS,(q st).2.e=0→st.e=0∧st.at_≤(q st).2.at_
theorem qm{ws:List Bs}(st:RS)(h:(dJ ws st).2.e=0):st.e=0∧(dJ ws st).2.at_=st.at_+1:=by
 cases he:Wb st.e 0 with
 |false=>rw[Nc he]at h;have h:st.e=0:=h;rw[h]at he;cases he
 |true=>
  rw[Nb he]at h ⊢;cases hx:ws[st.at_]? with
  |none=>rw[hx]at h;cases h
  |some x=>exact⟨VF he,rfl⟩
theorem lV(ws:List Bs):Mo (dJ ws):=fun st h=>⟨(qm st h).1,by rw[(qm st h).2];exact Nat.le_succ _⟩
theorem FC{code:Nat}(hc:code≠0)(st:RS)(h:(jH code st).e=0):False:=by
 unfold jH at h;cases he:Wb st.e 0 with
 |false=>rw[he]at h;have h:st.e=0:=h;rw[h]at he;cases he
 |true=>rw[he]at h;exact hc h
theorem xH{α:Type}{ok:Bool}{code:Nat}{a:α}(hc:code≠0):Mo (Co ok code a):=fun st h=>by
 cases ok with
 |true=>exact⟨h,VL _⟩
 |false=>exact(FC hc st h).elim
theorem jX{α:Type}{a:α}:Mo (oZ a):=fun _ h=>⟨h,VL _⟩
theorem fV{α β:Type}{q:RA α}{f:α→RA β}(h:Mo q)(hf:∀a,Mo (f a)):Mo (iO q f):=fun st hh=>by obtain⟨h1,h2⟩:=hf _ _ hh;obtain⟨h3,h4⟩:=h st h1;exact⟨h3,VM h4 h2⟩
theorem FM(ws:List Bs):Mo (od ws):=fun st h=>by
 unfold od at h ⊢;cases h1:Cj ws lC st with
 |true=>rw[h1]at h;exact lV ws st h
 |false=>
  rw[h1]at h;cases h2:Cj ws mv st with
  |true=>rw[h2]at h;exact lV ws st h
  |false=>rw[h2]at h;exact fV (lV ws) (fun _=>xH (by decide)) st h
theorem sJ(ws:List Bs):Mo (sM ws):=fV (lV ws) fun _=>xH (by decide)
theorem sP(ws:List Bs):Mo (rQ ws):=fV (lV ws) fun _=>xH (by decide)
theorem FK(k:Nat)(m:Mt)(ws:List Bs):Mo (sN k m ws):=by
 rcases k with _|_|_|_|_|k
 ·exact fV (sJ ws) fun _=>jX
 ·exact fV (sP ws) fun _=>jX
 ·exact fV (sP ws) fun _=>jX
 ·exact fV (FM ws) fun _=>jX
 ·exact fV (sJ ws) fun _=>jX
 ·exact fV (sJ ws) fun _=>jX
theorem FJ{n:Nat}(k:Nat)(m:Mt){ws:List Bs}(h:ws.length=n):LP n (sN k m ws):=by
 rcases k with _|_|_|_|_|k
 ·exact fU (sI h) fun _=>jW
 ·exact fU (sO h) fun _=>jW
 ·exact fU (sO h) fun _=>jW
 ·exact fU (FL h) fun _=>jW
 ·exact fU (sI h) fun _=>jW
 ·exact fU (sI h) fun _=>jW
theorem sK(ws:List Bs)(st:RS):(sM ws st).1.1≤65535∧(sM ws st).1.2≤65535:=⟨sS,sS⟩
theorem FN(ws:List Bs)(st:RS):(od ws st).1≤255:=by
 unfold od;cases Cj ws lC st with
 |true=>exact(by decide:6≤255)
 |false=>
  cases Cj ws mv st with
  |true=>exact(by decide:17≤255)
  |false=>exact sS
theorem zA(k:Nat){m:Mt}{ws:List Bs}{st:RS}(hm:m.Good):(sN k m ws st).1.Good:=by
 obtain⟨hw,ha⟩:=hm;rcases k with _|_|_|_|_|k
 ·exact⟨{ hw with fE:=sK ws st },ha⟩
 ·exact⟨{ hw with sn:=(sX _).1,sk:=(sX _).2 },ha⟩
 ·exact⟨{ hw with dn:=(sX _).1,dk:=(sX _).2 },ha⟩
 ·exact⟨{ hw with pr:=FN ws st },ha⟩
 ·exact⟨{ hw with sp:=sK ws st },ha⟩
 ·exact⟨{ hw with dp:=sK ws st },ha⟩
theorem NA{m:Mt}{k:Nat}(hm:m.Good)(hk:k < 6):({ m with asks:=m.asks|||2^k }:Mt).Good:=by have:m.asks|||2^k < 2^6:=Nat.or_lt_two_pow hm.2 (Nat.pow_lt_pow_right (by omega) hk);exact⟨{ hm.1 with asks:=by show m.asks|||2^k < 256;omega },this⟩
theorem zF{ws:List Bs}{m:Mt}{st:RS}(hm:m.Good):(dH ws m st).1.1.Good:=by
 unfold dH;cases h:AE (dJ ws st).1 with
 |none=>exact hm
 |some k=>
  simp only;cases m.asks.testBit k with
  |true=>exact hm
  |false=>exact zA k (NA hm (CU h))
theorem FP{n:Nat}{ws:List Bs}(h:ws.length=n)(m:Mt){st:RS}(h1:st.at_≤n)(h2:st.e≤1000):(dH ws m st).2.at_≤n∧(dH ws m st).2.e≤1000:=by
 obtain⟨h3,h4⟩:=iM h st h1 h2;unfold dH;cases AE (dJ ws st).1 with
 |none=>exact ql (by decide) h3 h4
 |some k=>
  simp only;cases m.asks.testBit k with
  |true=>exact ql (by decide) h3 h4
  |false=>exact FJ k _ h _ h3 h4
structure MS where
 first:Bool
 m:Mt
 st:RS
 f:Nat
def MS.cond(ws:List Bs)(k:MS):Bool:=k.first||Eg ws k.st
noncomputable def MS.out(ws:List Bs)(k:MS):Mt×RS:=match k.cond ws with
 |true=>rR ws k.f k.m k.st
 |false=>(k.m,k.st)
noncomputable def MS.nx(ws:List Bs)(k:MS):MS:=⟨false,(dH ws k.m k.st).1.1,(dH ws k.m k.st).2,k.f - 1⟩
structure Qb(n:Nat)(ws:List Bs)(R:Mt×RS)(k:MS):Prop where
 le:k.st.at_≤n
 eb:k.st.e≤1000
 good:k.m.Good
 fu:k.st.e=0→n+1≤k.f+k.st.at_
 fp:k.first=true→1≤k.f
 eq:k.out ws=R
theorem Qb.pos{n:Nat}{ws:List Bs}{R:Mt×RS}{k:MS}(_hn:ws.length=n)(h:Qb n ws R k)(hc:k.cond ws=true):1≤k.f:=by
 cases hf:k.first with
 |true=>exact h.fp hf
 |false=>unfold MS.cond at hc;rw[hf,Wu]at hc;unfold Eg at hc;rw[VN]at hc;have he:=VF hc.1;have h1:=h.fu he;have h2:=h.le;omega
theorem Qb.next{n:Nat}{ws:List Bs}{R:Mt×RS}{k:MS}(hn:ws.length=n)(h:Qb n ws R k)(hc:k.cond ws=true)(hs:(dH ws k.m k.st).1.2=true):Qb n ws R (k.nx ws)∧(k.nx ws).f < k.f:=by
 have h1:=h.pos hn hc;have h2:=h.eq;unfold MS.out at h2;rw[hc]at h2;obtain⟨f,hf⟩:∃f,k.f=f+1:=⟨k.f - 1,by omega⟩;rw[hf]at h2;unfold rR at h2;rw[hs]at h2;obtain⟨h3,h4⟩:=FP hn k.m h.le h.eb;refine⟨⟨h3,h4,zF h.good,fun he=>?_,(fun hh=>by cases hh),?_⟩,by show k.f - 1 < k.f; omega⟩
 ·
  have he:(dH ws k.m k.st).2.e=0:=he;show n+1≤(k.f - 1)+(dH ws k.m k.st).2.at_;have key:k.st.e=0∧k.st.at_+1≤(dH ws k.m k.st).2.at_:=by
   unfold dH at he hs ⊢;cases hx:AE (dJ ws k.st).1 with
   |none=>rw[hx]at hs;cases hs
   |some j=>
    rw[hx]at he hs;simp only at he hs ⊢;cases hb:k.m.asks.testBit j with
    |true=>rw[hb]at hs;cases hs
    |false=>rw[hb]at he;obtain⟨h5,h6⟩:=FK j _ ws _ he;obtain⟨h7,h8⟩:=qm k.st h5;rw[h8]at h6;exact⟨h7,h6⟩
  have:=h.fu key.1;omega
 ·show(match false||Eg ws (dH ws k.m k.st).2 with|true=>rR ws (k.f - 1) _ _|false=>_)=R
  rw[Wu,hf];exact h2
theorem Qb.done{n:Nat}{ws:List Bs}{R:Mt×RS}{k:MS}(h:Qb n ws R k)(hc:k.cond ws=false):R=(k.m,k.st):=by have h2:=h.eq;unfold MS.out at h2;rw[hc]at h2;exact h2.symm
open Go Go.RowKit Go.Lib Go.Sort _root_.Go.Proofs.Tryz
def Vr(b0:Bool):List (Nat×Sx.SV):=[(0,.ptr 0 0),(2,.ptr 1 0),(3,.ptr 2 0),(4,.val (.bool b0))]
def SZ(g:Nat)(A:Option Go.Addr)(n c:Nat)(st:RS)(m:Mt):List Sx.Row:=[⟨114,.dj g (Qo A n c st)⟩,⟨66,.ai lG.cells⟩,⟨66,.ai m.cells⟩]
abbrev mK(n:Nat)(ws:List Bs)(g:Nat)(A:Option Go.Addr)(c:Nat)(R:Mt×RS):=Sx.ia (Qb n ws R) (fun k=>Vr k.first) (fun k=>SZ g A n c k.st k.m) (MS.nx ws) (fun k=>k.f) (fun(_:Unit)=>True) (fun _=>[(2,.ptr 1 0),(3,.ptr 2 0)]) (fun _=>SZ g A n c R.2 R.1) (fun _=>()) (Sx.fX (Sx.dr f95 0) - 1) (Sx.uR prog f95 (VC g A n c oO R) .ret)
section
variable{w:World}{g:Nat}{A:Option Go.Addr}{n c:Nat}{st0:RS}{ws:List Bs}{R:Mt×RS}{k:MS}{lt fo:Bool}{p:Value}{y:Bs}{v:Int}
end
open Go Go.RowKit Go.Lib Go.Sort
def Vl{α:Type}(b:Bool)(x y:α):α:=match b with
 |true=>x
 |false=>y
open Go Go.RowKit Go.Lib Go.Sort
def VB(g gc:Nat)(A:Option Go.Addr)(n c:Nat)(R:CF×RS)(l:List Sx.SV)(mem:List Sx.Row):Prop:=
 ∃(cf:CF) (st:RS) (k0 k1 k2 k3 k4:Nat),R=(cf,st)∧l=[]∧mem[1]?=some ⟨114,.dj g (Qo A n c st)⟩∧mem[0]?=some ⟨46,.iC gc (ig k0 k1 k2 k3 k4 cf)⟩∧
 mem[k0]?=some ⟨3,.own 1 cf.ag.length cf.cp⟩∧mem[k1]?=some ⟨118,.own 19 cf.ae.length cf.cr⟩∧mem[k2]?=some ⟨81,.own 49 cf.rules.length cf.cl⟩∧mem[k3]?=some ⟨122,.own 4 cf.af.length cf.cm⟩∧mem[k4]?=some ⟨124,.own 3 cf.aa.length cf.ci⟩
def LM(g gc:Nat)(A:Option Go.Addr)(n c:Nat)(R:CF×RS)(S:List Nat)(w:World)(e:Ending)(w':World):Prop:=
 ∃s',e=.returned (.tuple #[])∧aq w' g 114 (Qo A n c R.2)∧oL w' gc R.1 s'∧(cA gc g s').Nodup∧(∀k∈cA gc g s',k∈S∨w.heap.size≤k)∧ah S w w'
theorem LM.gw{g gc:Nat}{A:Option Go.Addr}{n c:Nat}{R:CF×RS}{S:List Nat}{w:World}{e:Ending}{w':World}(h:Sx.cI ⟨w,S,fun _ _=>False⟩ (VB g gc A n c R) e w'):LM g gc A n c R S w e w':=by
 rcases h with⟨β,l,mem,⟨cf,st,k0,k1,k2,k3,k4,rfl,rfl,m1,m0,q0,q1,q2,q3,q4⟩,he,hR⟩ | ⟨_,_,hf,_⟩
 ·have r0:=hR.held 0 _ m0
  have r1:=hR.held 1 _ m1;have o0:β.n k0=cf.ag.length∧Own w' 3 1 (.slice (β.a k0) cf.ag.length (β.c k0)) cf.ag.length cf.cp:=hR.held k0 _ q0;have o1:β.n k1=cf.ae.length∧Own w' 118 19 (.slice (β.a k1) cf.ae.length (β.c k1)) cf.ae.length cf.cr:=hR.held k1 _ q1;have o2:β.n k2=cf.rules.length∧Own w' 81 49 (.slice (β.a k2) cf.rules.length (β.c k2)) cf.rules.length cf.cl:=hR.held k2 _ q2;have o3:β.n k3=cf.af.length∧Own w' 122 4 (.slice (β.a k3) cf.af.length (β.c k3)) cf.af.length cf.cm:=hR.held k3 _ q3;have o4:β.n k4=cf.aa.length∧Own w' 124 3 (.slice (β.a k4) cf.aa.length (β.c k4)) cf.aa.length cf.ci:=hR.held k4 _ q4;have e0:β 0=gc:=r0.1;have e1:β 1=g:=r1.1;have b1:aq w' gc 46 [.slice (β.a k0) cf.ag.length (β.c k0),.slice (β.a k1) cf.ae.length (β.c k1),.slice (β.a k2) cf.rules.length (β.c k2),.slice (β.a k3) cf.af.length (β.c k3),.slice (β.a k4) cf.aa.length (β.c k4),.int .i64 cf.aR]:=by have:=r0.2;rw[e0]at this;have hh:(ig k0 k1 k2 k3 k4 cf).map (Sx.SV.den β)=[β.sl k0,β.sl k1,β.sl k2,β.sl k3,β.sl k4,.int .i64 cf.aR]:=rfl;rw[hh]at this;unfold Sx.Env.sl at this;rw[o0.1,o1.1,o2.1,o3.1,o4.1]at this;exact this
  have rows:∀x∈[(0,some gc),(1,some g),(k0,(β.a k0).map (·.block)),(k1,(β.a k1).map (·.block)),(k2,(β.a k2).map (·.block)),(k3,(β.a k3).map (·.block)),(k4,(β.a k4).map (·.block))],∀k,x.2=some k→∃r,mem[x.1]?=some r∧Sx.av β x.1 r=some k:=by
   intro x hx k hk;simp only[VT,Wo,or_false]at hx;rcases hx with rfl|rfl|rfl|rfl|rfl|rfl|rfl
   ·exact⟨_,m0,by show some (β 0)=_;rw[e0];exact hk⟩
   ·exact⟨_,m1,by show some (β 1)=_;rw[e1];exact hk⟩
   ·exact⟨_,q0,hk⟩
   ·exact⟨_,q1,hk⟩
   ·exact⟨_,q2,hk⟩
   ·exact⟨_,q3,hk⟩
   ·exact⟨_,q4,hk⟩
  have d:∀{a b:Nat} {r r':Sx.Row},mem[a]?=some r→mem[b]?=some r'→Wb r.ty r'.ty=false→a≠b:=fun {a b r r'} ha hb hne he=>by subst he;rw[ha]at hb;rw[VO.inj hb,Nat.beq_refl]at hne;cases hne
  have nd:[0,1,k0,k1,k2,k3,k4].Nodup:=by simp only[VV,VT,Wo,or_false,not_or,not_false_eq_true,List.nodup_nil,and_true];exact⟨⟨d m0 m1 rfl,d m0 q0 rfl,d m0 q1 rfl,d m0 q2 rfl,d m0 q3 rfl,d m0 q4 rfl⟩,⟨d m1 q0 rfl,d m1 q1 rfl,d m1 q2 rfl,d m1 q3 rfl,d m1 q4 rfl⟩,⟨d q0 q1 rfl,d q0 q2 rfl,d q0 q3 rfl,d q0 q4 rfl⟩,⟨d q1 q2 rfl,d q1 q3 rfl,d q1 q4 rfl⟩,⟨d q2 q3 rfl,d q2 q4 rfl⟩,d q3 q4 rfl⟩
  refine⟨⟨⟨β.a k0,β.c k0⟩,⟨β.a k1,β.c k1⟩,⟨β.a k2,β.c k2⟩,⟨β.a k3,β.c k3⟩,⟨β.a k4,β.c k4⟩⟩,he,e1 ▸ r1.2,⟨b1,o0.2,o1.2,o2.2,o3.2,o4.2⟩,?_,fun k hk=>?_,hR.aD⟩
  ·exact tL hR.inj [(0,some gc),(1,some g),(k0,(β.a k0).map (·.block)),(k1,(β.a k1).map (·.block)),(k2,(β.a k2).map (·.block)),(k3,(β.a k3).map (·.block)),(k4,(β.a k4).map (·.block))] nd rows
  ·obtain⟨o,ho,hok⟩:=List.mem_filterMap.1 hk
   have hm:o∈([(0,some gc),(1,some g),(k0,(β.a k0).map (·.block)),(k1,(β.a k1).map (·.block)),(k2,(β.a k2).map (·.block)),(k3,(β.a k3).map (·.block)),(k4,(β.a k4).map (·.block))]:List (Nat×Option Nat)).map (·.2):=ho;obtain⟨x,hx,rfl⟩:=List.mem_map.1 hm;obtain⟨r,hr,hb⟩:=rows x hx k hok;exact hR.new x.1 r k hr hb
 ·exact hf.elim
set_option maxRecDepth 100000
open Go Go.RowKit Go.Lib Go.Sort _root_.Go.Proofs.Tryz
set_option maxRecDepth 100000
def Kg(k:Nat)(s:Bs)(b i:Nat):List (Nat×Sx.SV):=[(0,.val (ab s)),(3,.own k),(4,.val (.int .i64 (b:Int))),(5,.val (.int .i64 (i:Int)))]
def CN(s:Bs)(b i:Nat):List (Nat×Sx.SV):=Kg 0 s b i
def eG(out:List Bs):List Sx.Row:=[⟨9,.own 1 out.length (strs out)⟩]
theorem ub(out:List Bs)(x:Bs):eG (out++[x])=[⟨9,.own 1 (out.length+1) (strs out++[ab x])⟩]:=by unfold eG;rw[qj,VG];rfl
theorem yG{x:Bs}{len:Nat}(hn:len≤1100000):True∧([ab x]:List Value).length=1*1∧(∀u:Value,u∈[ab x]→u.oneCell'=true)∧len+1≤maxLen∧(len+1)*16≤140737488355328:=
 ⟨trivial,rfl,fun u hu=>by rw[VJ.1 hu];rfl,by unfold maxLen;omega,by omega⟩
theorem Tb(s:Bs)(hs:s.length≤1050000)(w:World)(T:Sx.jy)(i:Nat)(hi:i≤s.length):∃H' L',Sx.ex prog f35.ntmps w (Sx.dr f35 0) H' L' ⟨CN s (gy s i).2 i,eG (gy s i).1⟩
  (Sx.ia (fun i=>i≤s.length) (fun i=>CN s (gy s i).2 i) (fun i=>eG (gy s i).1) (fun i=>i+1) (fun i=>s.length - i) (fun(_:Unit)=>True) (fun _=>[(0,.val (ab s)),(3,.own 0),(4,.val (.int .i64 ((gy s s.length).2:Int)))]) (fun _=>eG (gy s s.length).1) (fun _=>()) (Sx.fX (Sx.dr f35 0) - 1) (Sx.qG prog f35 (fun r=>r=T) .ret) i):=by
 have c8:=lz s;obtain⟨hb,hn⟩:=xU s i;have nx:gy s (i+1)=match decide (s[i]?=some 10)with|true=>((gy s i).1++[jV s (gy s i).2 i],i+1)|false=>gy s i:=rfl
 by_cases hlt:i < s.length
 ·have c9:=Bk (decide_eq_true (show(i:Int) < (s.length:Int)by omega))
  obtain⟨c,hc⟩:∃c,s[i]?=some c:=⟨_,VR hlt⟩;have c14:=ss s i c hc;have yB:=uh (i:=i) (by omega);have c24:=yB;have c20:=fun W=>jT s (gy s i).2 i hb (by omega) W;have h1:s.length - (i+1) < s.length - i:=by omega
  have h0:i+1≤s.length:=hlt;rw[hc]at nx;generalize gy s i=q at*;obtain⟨out,b⟩:=q;dsimp only at*;have c22:=yG (x:=(s.take i).drop b) (len:=out.length) (by omega);by_cases h10:c=10
  ·have c15:VI ((c.toNat:Int)==10)=.bool true:=by rw[h10];rfl
   rw[decide_eq_true (by rw[h10])]at nx;have h2:Kg 2 s (i+1) (i+1)=Kg 2 s (gy s (i+1)).2 (i+1):=by rw[nx]
   have z3:[⟨9,.own 1 (out.length+1) (strs out++[ab (jV s b i)])⟩]=eG (gy s (i+1)).1:=by rw[nx];exact(ub _ _).symm
   refine⟨[(8,.is (.int .i64 (s.length:Int))),bq 9 true,(14,.bin (u8 c)),bq 15 true,(20,.bin (ab ((s.take i).drop b))),oP 24 (i+1),oP 11 (i+1)],[],?_⟩;exact Wg (by kernel_rfl) (Sx.t8 c8 c9 c14 c15 c20 c22 c24 yB (Sx.t2 h0 h1 (VZ h2 z3)))
  ·have c15:VI ((c.toNat:Int)==10)=.bool false:=xl (by
    rw[beq_eq_false_iff_ne];intro hh;exact h10 (UInt8.toNat_inj.1 (by show c.toNat=10;omega)))
   rw[decide_eq_false (fun h=>h10 (VO.inj h))]at nx;have h2:CN s b (i+1)=CN s (gy s (i+1)).2 (i+1):=by rw[nx]
   have z3:eG out=eG (gy s (i+1)).1:=by rw[nx]
   refine⟨[(8,.is (.int .i64 (s.length:Int))),bq 9 true,(14,.bin (u8 c)),bq 15 false,oP 11 (i+1)],[],?_⟩;exact Wg (by kernel_rfl) (Sx.t8 c8 c9 c14 c15 yB h0 h1 h2 z3)
 ·have c9:=xl (decide_eq_false (show ¬(i:Int) < (s.length:Int)by omega))
  obtain rfl:i=s.length:=by omega
  have h0:True:=trivial;have h1:([(0,.val (ab s)),(3,.own 0),(4,.val (.int .i64 ((gy s s.length).2:Int)))]:List (Nat×Sx.SV))=[(0,.val (ab s)),(3,.own 0),(4,.val (.int .i64 ((gy s s.length).2:Int)))]:=rfl;have z2:eG (gy s s.length).1=eG (gy s s.length).1:=rfl;refine⟨[(8,.is (.int .i64 (s.length:Int))),bq 9 false],[],?_⟩;exact Wg (by kernel_rfl) (Sx.t4 c8 c9 h0 h1 z2)
theorem IX(s:Bs)(hs:s.length≤1050000)(w:World):Calls prog 35 #[ab s] w (Sx.eC w (.sl 9 1 (aw s).length (strs (aw s)))):=by have vq:=Tb s hs w (.sl 9 1 (aw s).length (strs (aw s)));have hb:=xU s s.length;have E:=NL s;have h0:0≤s.length:=Wd _;have e1:CN s 0 0=CN s (gy s 0).2 0∧eG []=eG (gy s 0).1:=⟨rfl,rfl⟩;have c28:=fun W=>Cd s (gy s s.length).2 hb.1 W;have c30:=yG (x:=s.drop (gy s s.length).2) (len:=(gy s s.length).1.length) (by omega);have z5f:=fun(_:Unit) (_:True)=>(show Sx.jy.sl 9 1 ((gy s s.length).1.length+1) (strs (gy s s.length).1++[ab (s.drop (gy s s.length).2)])=.sl 9 1 (aw s).length (strs (aw s))from by rw[←E,qj,VG];rfl);refine Sx.xk (args:=[ab s]) [(3,.ij 9 1),(28,.bin (ab (s.drop (gy s s.length).2)))] [.mk Nat 0 (fun i=>i≤s.length) (fun i=>CN s (gy s i).2 i) (fun i=>eG (gy s i).1) (fun i=>i+1) (fun i=>s.length - i) Unit (fun _=>True) (fun _=>[(0,.val (ab s)),(3,.own 0),(4,.val (.int .i64 ((gy s s.length).2:Int)))]) (fun _=>eG (gy s s.length).1) (fun _=>())] (by kernel_rfl) func35 rfl (dR rfl) ?_;exact Wg (by kernel_rfl) (Sx.t2 h0 e1 (VZ vq (fun(x3:Unit) (hx4:True)=>(Sx.t2 c28 c30 (z5f x3 hx4)))))
set_option maxRecDepth 100000
open Go Go.RowKit Go.Lib Go.Sort _root_.Go.Proofs.Tryz
set_option maxRecDepth 100000
def qL(k:Nat)(s:Bs)(cm:Bool)(b i:Nat):List (Nat×Sx.SV):=[(0,.val (ab s)),(1,.val (.bool cm)),(5,.own k),(6,.val (.int .i64 (b:Int))),(7,.val (.int .i64 (i:Int)))]
def BO(s:Bs)(cm:Bool)(i:Nat):List (Nat×Sx.SV):=qL 0 s cm (fM s i).2 i
def PW(s:Bs)(cm:Bool)(i:Nat):Prop:=i≤s.length∧∀j < i,s[j]?=some 35→cm=false
theorem Lg{c:UInt8}{k:Nat}(d:UInt8)(hd:d.toNat=k):VI ((c.toNat:Int) !=(k:Int))=.bool (decide (c≠d)):=by have h:=ll (c:=c) d hd;injection h with h;show VI (!((c.toNat:Int)==(k:Int)))=_;rw[h];by_cases hc:c=d<;>simp[hc]
theorem UE(i b:Nat):VI (decide ((i:Int) > (b:Int)))=.bool (decide (b < i)):=by congr 1;rw[decide_eq_decide];omega
abbrev Uc(w:World)(s:Bs)(cm:Bool)(T:Sx.jy)(i:Nat):Prop:=∃H' L',Sx.ex prog f36.ntmps w (Sx.dr f36 0) H' L' ⟨BO s cm i,eG (fM s i).1⟩
  (Sx.ia (PW s cm) (BO s cm) (fun i=>eG (fM s i).1) (fun i=>i+1) (fun i=>s.length+1 - i) (fun(_:Unit)=>False) (fun _=>[]) (fun _=>[]) (fun _=>()) (Sx.fX (Sx.dr f36 0) - 1) (Sx.qG prog f36 (fun r=>r=T) .ret) i)
abbrev Sg(_w:World)(s:Bs)(out:List Bs)(b i:Nat)(bb:Bool)(Z1 Z2:Prop):Prop:=
 VI (decide ((i:Int) > (b:Int)))=.bool bb∧dt (!bb) (∀W:World,(Instr.sliceAt 9 (ab s) (some (.int .i64 (b:Int))) (some (.int .i64 (i:Int))) none).run prog W=.ok (ab (jV s b i)) W) (dt (!bb) (True∧([ab (jV s b i)]:List Value).length=1*1∧(∀u:Value,u∈[ab (jV s b i)]→u.oneCell'=true)∧out.length+1≤maxLen∧(out.length+1)*16≤140737488355328)
  (Wn .i64 (IntKind.i64.wrap ((i:Int)+1))=.int .i64 ((i+1:Nat):Int)∧ir bb Z1 Z2))
theorem Im{w:World}{s:Bs}{out:List Bs}{b i:Nat}{bb:Bool}{Z1 Z2:Prop}(hb:b≤i)(hi:i≤s.length)(hn:out.length≤i)(hs:s.length≤1050000)(hbb:decide (b < i)=bb)(z1:bb=true→Z1)(z2:bb=false→Z2):Sg w s out b i bb Z1 Z2:=
 ⟨(UE i b).trans (by rw[hbb]),dt.mk (fun _ W=>jT s b i hb hi W) (dt.mk (fun _=>yG (by omega)) ⟨iw (by rw[Fs (by omega) (by omega)];rfl),ir.mk z1 z2⟩)⟩
theorem Ms{s:Bs}{i:Nat}{out:List Bs}{b:Nat}{ws:List Bs}(hw:fM s i=(out,b))(h:TM s i=ws){bb:Bool}(hb:decide (b < i)=bb) :
  (bb=true→Sx.jy.sl 9 1 (out.length+1) (strs out++[ab (jV s b i)])=.sl 9 1 ws.length (strs ws))∧(bb=false→Sx.jy.sl 9 1 out.length (strs out)=.sl 9 1 ws.length (strs ws)):=by
 unfold TM at h;rw[hw]at h;dsimp only at h;rw[hb]at h;constructor
 ·intro e;rw[e]at h;rw[←h]
  show _=Sx.jy.sl 9 1 (out++[jV s b i]).length (strs (out++[jV s b i]));rw[qj,VG];rfl
 ·intro e;rw[e]at h;rw[←h]
theorem Il(s:Bs)(hs:s.length≤1050000)(cm:Bool)(w:World)(i:Nat)(hi:PW s cm i)(he:i=s.length∨(cm=true∧s[i]?=some 35)):Uc w s cm (.sl 9 1 (aj cm s).length (strs (aj cm s))) i:=by
 have yB:=lz s;have hE:=Mr hi.1 hi.2 he;have c12:=Bk (decide_eq_true (show(i:Int)≤(s.length:Int)by have:=hi.1;omega));obtain⟨hb,hn⟩:=sh s i;obtain⟨bb,hbb⟩:∃bb,decide ((fM s i).2 < i)=bb:=⟨_,rfl⟩;obtain⟨z1,z2⟩:=Ms rfl hE hbb;have cut:=Im (w:=w) hb hi.1 hn hs hbb z1 z2;by_cases hl:i=s.length
 ·have c18:VI ((i:Int)==(s.length:Int))=.bool true:=Bk (by rw[hl];simp)
  refine⟨[(11,.is (.int .i64 (s.length:Int))),bq 12 true,(17,.is (.int .i64 (s.length:Int))),bq 18 true,bq 44 bb,(49,.bin (ab (jV s (fM s i).2 i))),oP 53 (i+1)],[],?_⟩;have CH:=Sx.t4 yB c12 yB c18 cut;unfold BO;generalize fM s i=q at*;cases bb<;>exact Wg (by kernel_rfl) CH
 ·obtain⟨rfl,h35⟩:=he.resolve_left hl
  have c18:VI ((i:Int)==(s.length:Int))=.bool false:=xl (by rw[beq_eq_false_iff_ne];omega);have c24:=ss s i 35 h35;have c25:VI (((35:UInt8).toNat:Int)==35)=.bool true:=rfl;refine⟨[(11,.is (.int .i64 (s.length:Int))),bq 12 true,(17,.is (.int .i64 (s.length:Int))),bq 18 false,(24,.bin (u8 35)),bq 25 true,bq 44 bb,(49,.bin (ab (jV s (fM s i).2 i))),oP 53 (i+1)],[],?_⟩;have CH:=Sx.t4 yB c12 yB c18 (Sx.t2 c24 c25 cut);unfold BO;generalize fM s i=q at*;cases bb<;>exact Wg (by kernel_rfl) CH
theorem Sf(s:Bs)(hs:s.length≤1050000)(cm:Bool)(w:World)(i:Nat)(hi:PW s cm i):Uc w s cm (.sl 9 1 (aj cm s).length (strs (aj cm s))) i:=by
 by_cases hl:i=s.length
 ·exact Il s hs cm w i hi (.inl hl)
 have hlt:i < s.length:=by have:=hi.1;omega
 obtain⟨c,hc⟩:∃c,s[i]?=some c:=⟨_,VR hlt⟩;by_cases h35:cm=true∧c=35
 ·exact Il s hs cm w i hi (.inr ⟨h35.1,by rw[hc,h35.2]⟩)
 have yB:=lz s;have c12:=Bk (decide_eq_true (show(i:Int)≤(s.length:Int)by omega));have c18:VI ((i:Int)==(s.length:Int))=.bool false:=xl (by rw[beq_eq_false_iff_ne];omega);have c24:=ss s i c hc;have c25:cm=true→VI ((c.toNat:Int)==35)=.bool false:=fun h=>(ll (c:=c) 35 rfl).trans (by rw[decide_eq_false (fun e=>h35 ⟨h,e⟩)]);have c34:=Lg (c:=c) 32 rfl;have c40:=Lg (c:=c) 9 rfl;have nx:fM s (i+1)=match decide (c=32∨c=9)with|false=>fM s i|true=>match decide ((fM s i).2 < i)with|true=>((fM s i).1++[jV s (fM s i).2 i],i+1)|false=>((fM s i).1,i+1):=by rw[fM,hc];rfl
 have hbl:decide (c=32∨c=9)=!(decide (c≠32)&&decide (c≠9)):=by by_cases h1:c=32<;>by_cases h2:c=9<;>simp[h1,h2]
 rw[hbl]at nx;obtain⟨hb,hn⟩:=sh s i;have h0:PW s cm (i+1):=⟨hlt,fun j hj h=>by
  by_cases hji:j=i
  ·subst hji
   rw[hc]at h;cases hcm:cm with
   |false=>rfl
   |true=>exact absurd ⟨hcm,VO.inj h⟩ h35
  ·exact hi.2 j (by omega) h⟩
 have h1:s.length+1 - (i+1) < s.length+1 - i:=by omega
 have c14:=uh (i:=i) (by omega);obtain⟨bb,hbb⟩:∃bb,decide ((fM s i).2 < i)=bb:=⟨_,rfl⟩;rw[hbb]at nx;have hi':=hi.1;generalize decide (c≠32)=n1 at*;generalize decide (c≠9)=n2 at*;unfold Uc BO;generalize fM s i=q at*;obtain⟨out,b⟩:=q;dsimp only at hb hn hbb nx ⊢;have wn:(n1&&n2)=true→qL 0 s cm b (i+1)=qL 0 s cm (fM s (i+1)).2 (i+1)∧eG out=eG (fM s (i+1)).1:=fun h=>by rw[nx,h];exact⟨rfl,rfl⟩
 have cut:=fun(h:(n1&&n2)=false)=>Im (w:=w) (s:=s) (out:=out) hb hi' hn hs hbb
  (Z1:=Wn .i64 (IntKind.i64.wrap ((i:Int)+1))=.int .i64 ((i+1:Nat):Int)∧PW s cm (i+1)∧s.length+1 - (i+1) < s.length+1 - i∧qL 2 s cm (i+1) (i+1)=qL 2 s cm (fM s (i+1)).2 (i+1)∧[⟨9,.own 1 (out.length+1) (strs out++[ab (jV s b i)])⟩]=eG (fM s (i+1)).1)
  (Z2:=Wn .i64 (IntKind.i64.wrap ((i:Int)+1))=.int .i64 ((i+1:Nat):Int)∧PW s cm (i+1)∧s.length+1 - (i+1) < s.length+1 - i∧qL 0 s cm (i+1) (i+1)=qL 0 s cm (fM s (i+1)).2 (i+1)∧eG out=eG (fM s (i+1)).1)
  (fun e=>⟨c14,h0,h1,by rw[nx,h,e];rfl,by rw[nx,h,e];exact(ub _ _).symm⟩) (fun e=>⟨c14,h0,h1,by rw[nx,h,e];rfl,by rw[nx,h,e];rfl⟩)
 have CH:=Sx.t4 yB c12 yB c18 (dt.mk (b:=!cm) (fun _=>c24) (dt.mk (b:=!cm) (fun h=>c25 (by cases cm;cases h;rfl)) (Sx.t2 c24 c34 (dt.mk (b:=!n1) (fun _=>c24) (dt.mk (b:=!n1) (fun _=>c40) (ir.mk (b:=n1&&n2) (fun h=>Sx.t2 c14 h0 (VZ h1 (wn h))) cut))))));clear c25 cut wn nx hbb;refine⟨[(11,.is (.int .i64 (s.length:Int))),bq 12 true,(17,.is (.int .i64 (s.length:Int))),bq 18 false,(24,.bin (u8 c)),bq 25 false,(33,.bin (u8 c)),bq 34 n1,(39,.bin (u8 c)),bq 40 n2,bq 44 bb,(49,.bin (ab (jV s b i))),oP 53 (i+1),oP 14 (i+1)],[],?_⟩;cases cm<;>cases n1<;>cases n2<;>cases bb<;>exact Wg (by kernel_rfl) CH
theorem IQ(s:Bs)(cm:Bool)(hs:s.length≤1050000)(w:World):Calls prog 36 #[ab s,.bool cm] w (Sx.eC w (.sl 9 1 (aj cm s).length (strs (aj cm s)))):=by have vq:=Sf s hs cm w;have h0:PW s cm 0:=⟨Wd _,fun j hj=>by omega⟩;have e1:qL 0 s cm 0 0=BO s cm 0∧eG []=eG (fM s 0).1:=⟨rfl,rfl⟩;have CH:=Sx.t2 h0 e1 (VZ vq trivial);refine Sx.xk (args:=[ab s,.bool cm]) [(5,.ij 9 1)] [.fin Nat 0 (PW s cm) (BO s cm) (fun i=>eG (fM s i).1) (fun i=>i+1) (fun i=>s.length+1 - i)] (by kernel_rfl) func36 rfl (dR rfl) ?_;exact Wg (by kernel_rfl) CH
set_option maxRecDepth 100000
open Go.RowKit Go.Lib Go.Sort _root_.Go.Proofs.Tryz
def eD:List Value:=[.slice none 0 0,.slice none 0 0,.slice none 0 0,.slice none 0 0,.slice none 0 0,.int .i64 0]
def Jl(n i:Nat):List (Nat×Sx.SV):=[(2,.ptr 0 0),(4,.ptr 1 0),(5,.ptr 2 0),(17,.own 8),(18,.val (.int .i64 (n:Int))),(19,.val (.int .i64 (i:Int)))]
def Qr(cf:CF)(d:Nat):List Sx.Row:=⟨46,.ai eD⟩::eH none (ig 3 4 5 6 7 cf)::kr none d::cF cf
def qS(ls:List Bs)(cf:CF)(d:Nat):List Sx.Row:=Qr cf d++[⟨9,.own 1 ls.length (ls.map ab)⟩]
structure LO where
 i:Nat
 cf:CF
 d:Nat
structure Ik(ls:List Bs)(T:Pk)(k:LO):Prop where
 le:k.i≤ls.length
 nQ:k.cf.ag.length≤k.i∧k.cf.ae.length≤k.i∧k.cf.rules.length≤k.i∧k.cf.af.length≤k.i∧k.cf.aa.length≤k.i
 TU:k.d≤k.i
 run:T=bJ (ls.drop k.i) (k.i+1) k.cf k.d
noncomputable def jI(ls:List Bs)(k:LO):LO:=⟨k.i+1,(cY (aj true (ls.getD k.i [])) k.cf k.d).val,dN (aj true (ls.getD k.i [])) k.d⟩
def PZ(T:Pk)(l:List Sx.SV)(mem:List Sx.Row):Prop:=match T with
 |.no code line=>∃j,l=[.val (.agg eD.toArray),.jK 103 j 0]∧mem[j]?=some ⟨105,.ai [.int .i64 (code:Int),.int .i64 (line:Int)]⟩
 |.ok cf=>∃k0 k1 k2 k3 k4,l=[.dG [.o k0,.o k1,.o k2,.o k3,.o k4,.v (.int .i64 cf.aR)],.val .nilIface]∧mem[k0]?=some ⟨3,.own 1 cf.ag.length cf.cp⟩∧mem[k1]?=some ⟨118,.own 19 cf.ae.length cf.cr⟩∧mem[k2]?=some ⟨81,.own 49 cf.rules.length cf.cl⟩∧mem[k3]?=some ⟨122,.own 4 cf.af.length cf.cm⟩∧mem[k4]?=some ⟨124,.own 3 cf.aa.length cf.ci⟩
theorem Kq{ws:List Bs}{i:Nat}{cf cf':CF}{d j:Nat}(h:pG ws i cf d=.ok cf' j):cf'.ag.length≤cf.ag.length+1∧cf'.ae.length≤cf.ae.length+1∧cf'.rules.length≤cf.rules.length+1∧cf'.af.length≤cf.af.length+1∧cf'.aa.length≤cf.aa.length+1:=by
 obtain⟨x,k,_,h⟩:=Out.aB h;obtain⟨c,k2,hb,h⟩:=Out.aB h;have hc:cf'=c:=by
  unfold pS at h;split at h
  ·cases h
  ·injection h with h _;exact h.symm
 subst hc;unfold eV at hb;split at hb
 ·obtain⟨_,_,_,hb⟩:=Out.aB hb
  injection hb with hb _;subst hb;simp
 split at hb
 ·obtain⟨_,_,_,hb⟩:=Out.aB hb
  obtain⟨_,_,_,hb⟩:=Out.aB hb;injection hb with hb _;subst hb;simp
 split at hb
 ·obtain⟨_,_,_,hb⟩:=Out.aB hb
  obtain⟨_,_,_,hb⟩:=Out.aB hb;obtain⟨_,_,_,hb⟩:=Out.aB hb;obtain⟨_,_,_,hb⟩:=Out.aB hb;injection hb with hb _;subst hb;simp
 split at hb
 ·obtain⟨_,_,_,hb⟩:=Out.aB hb
  obtain⟨_,_,_,hb⟩:=Out.aB hb;obtain⟨_,_,_,hb⟩:=Out.aB hb;injection hb with hb _;subst hb;simp
 split at hb
 ·obtain⟨_,_,_,hb⟩:=Out.aB hb
  injection hb with hb _;subst hb;simp
 split at hb
 ·obtain⟨_,_,_,hb⟩:=Out.aB hb
  obtain⟨_,_,_,hb⟩:=Out.aB hb;injection hb with hb _;subst hb;simp
 ·cases hb
theorem Kf{ws:List Bs}{cf cf':CF}{d j:Nat}(h:cY ws cf d=.ok cf' j):cf'.ag.length≤cf.ag.length+1∧cf'.ae.length≤cf.ae.length+1∧cf'.rules.length≤cf.rules.length+1∧cf'.af.length≤cf.af.length+1∧cf'.aa.length≤cf.aa.length+1:=by
 unfold cY at h;split at h
 ·injection h with h _;subst h;simp
 ·exact Kq h
theorem Tr(ws:List Bs)(d:Nat):dN ws d≤d+1:=by unfold dN;split<;>omega
theorem Jk{w:World}(hlan:ku w)(ls:List Bs)(hls:ls.length≤1100000)(hsz:∀x∈ls,x.length≤1100000)(T:Pk)(k:LO)(hk:Ik ls T k) :
  ∃H' L',Sx.lj prog f22.ntmps ⟨w,[],fun _ _=>False⟩ (Sx.dr f22 0) H' L' ⟨Jl ls.length k.i,qS ls k.cf k.d⟩
   (Sx.ia (Ik ls T) (fun k=>Jl ls.length k.i) (fun k=>qS ls k.cf k.d) (jI ls) (fun k=>ls.length+1 - k.i) (fun(x:LO)=>Ik ls T x∧x.i=ls.length) (fun _=>[(2,.ptr 0 0),(4,.ptr 1 0),(5,.ptr 2 0)]) (fun k=>qS ls k.cf k.d) id (Sx.fX (Sx.dr f22 0) - 1) (Sx.eX prog f22 (PZ T) .ret) k):=by
 obtain⟨i,cf,d⟩:=k;have hk0:=hk;obtain⟨hle,hfew,hdle,hrun⟩:=hk;have hle:i≤ls.length:=hle;have nQ:cf.ag.length≤1100000∧cf.ae.length≤1100000∧cf.rules.length≤1100000∧cf.af.length≤1100000∧cf.aa.length≤1100000:=⟨VM hfew.1 (by omega),VM hfew.2.1 (by omega),VM hfew.2.2.1 (by omega),VM hfew.2.2.2.1 (by omega),VM hfew.2.2.2.2 (by omega)⟩;have hd:d≤1100000:=VM hdle (by omega);have hrun:T=bJ (ls.drop i) (i+1) cf d:=hrun;by_cases hlt:i < ls.length
 ·have c20:=bT ((i:Int) < (ls.length:Int)) (by omega)
  obtain⟨x,hx⟩:∃x,ls[i]?=some x:=⟨_,VR hlt⟩;have hxl:=hsz x (Wk hx);have hdrop:ls.drop i=x::ls.drop (i+1):=by obtain⟨h1,rfl⟩:=List.getElem?_eq_some_iff.1 hx;exact List.drop_eq_getElem_cons h1
  have hgd:ls.getD i []=x:=by rw[List.getD_eq_getElem?_getD,hx];rfl
  rw[hdrop]at hrun;have c22:0≤(i:Int)∧(i:Int) < (ls.length:Int):=⟨by omega,by omega⟩;have c23:(ls.map ab)[((i:Int)).toNat*1]?=some (ab x):=by rw[Int.toNat_natCast,Nat.mul_one,List.getElem?_map,hx];rfl
  have hrows:vf (Sx.rowAt (qS ls cf d++[⟨103,.ai [.pointer none]⟩])) none none 1 2 3 4 5 6 7 cf d:=⟨rfl,rfl,rfl,rfl,rfl,rfl,rfl⟩;cases hT:cY (aj true x) cf d with
  |ok cf' j=>
   have e:T=bJ (ls.drop (i+1)) (i+1+1) cf' (dN (aj true x) d):=by
    rw[hrun]
    conv=>lhs;unfold bJ
    rw[hT]
   have hnx:jI ls ⟨i,cf,d⟩=⟨i+1,cf',dN (aj true x) d⟩:=by unfold jI;rw[hgd,hT];rfl
   have hll:=Kf hT;have hdn:=Tr (aj true x) d;have c25:=QG (b:=⟨w,[],fun _ _=>False⟩) 10 rfl hlan (by simp) hxl nQ hd hrows hT;have c27:=fun W (β:Sx.Env) (hS:Sx.dS ⟨w,[],fun _ _=>False⟩ β W (Sx.rowAt (⟨46,.ai eD⟩::eH none (ig 10 11 12 13 14 cf')::kr none (dN (aj true x) d)::([Sx.ak,Sx.ak,Sx.ak,Sx.ak,Sx.ak]++[⟨9,.own 1 ls.length (ls.map ab)⟩,⟨103,.ai [.pointer none]⟩]++cF cf'))) [])=>Pa (m:=15) (k:=9) W β hS;have Mn:=uh (i:=i) (by omega);have h0:Ik ls T (jI ls ⟨i,cf,d⟩):=by rw[hnx];obtain⟨f0,f1,f2,f3,f4⟩:cf.ag.length≤i∧cf.ae.length≤i∧cf.rules.length≤i∧cf.af.length≤i∧cf.aa.length≤i:=hfew;obtain⟨g0,g1,g2,g3,g4⟩:=hll;have hdi:d≤i:=hdle;exact⟨hlt,⟨show cf'.ag.length≤i+1 by omega,show cf'.ae.length≤i+1 by omega,show cf'.rules.length≤i+1 by omega,show cf'.af.length≤i+1 by omega,show cf'.aa.length≤i+1 by omega⟩,show dN (aj true x) d≤i+1 by omega,e⟩
   have h1:ls.length+1 - (jI ls ⟨i,cf,d⟩).i < ls.length+1 - i:=by rw[hnx]; show ls.length+1 - (i+1) < _; omega
   have h2:Jl ls.length (i+1)=Jl ls.length (jI ls ⟨i,cf,d⟩).i:=by rw[hnx]
   have z3:(⟨46,.ai eD⟩::eH none (ig 10 11 12 13 14 cf')::kr none (dN (aj true x) d)::(cF cf'++[⟨9,.own 1 ls.length (ls.map ab)⟩]):List Sx.Row)=⟨46,.ai eD⟩::eH none (ig 10 11 12 13 14 (jI ls ⟨i,cf,d⟩).cf)::kr none (jI ls ⟨i,cf,d⟩).d::(cF (jI ls ⟨i,cf,d⟩).cf++[⟨9,.own 1 ls.length (ls.map ab)⟩]):=by rw[hnx]
   refine⟨[bq 20 true,(22,.ix),(23,.ld (ab x)),(25,.au (UL none none [] 1 2 3 4 5 6 7 10 cf' (dN (aj true x) d) .nilIface none)),(27,.au ⟨[],[],[],[],.val (.bool false),none⟩),oP 36 (i+1)],[],?_⟩;exact Wg (by kernel_rfl) (Sx.t8 c20 c22 c23 c25 c27 Mn h0 h1 (VZ h2 z3))
  |no code p=>
   have e:T=.no code (i+1):=by
    rw[hrun]
    conv=>lhs;unfold bJ
    rw[hT]
   have c25:=NB (b:=⟨w,[],fun _ _=>False⟩) 10 rfl hlan (by simp) hxl nQ hd hrows hT;have c27:=fun W (β:Sx.Env) (hS:Sx.dS ⟨w,[],fun _ _=>False⟩ β W (Sx.rowAt (⟨46,.ai eD⟩::([Sx.ak,Sx.ak,Sx.ak,Sx.ak,Sx.ak,Sx.ak,Sx.ak]++[⟨9,.own 1 ls.length (ls.map ab)⟩,⟨103,.ai [.pointer none]⟩,⟨105,.ai [.int .i64 (code:Int),.int .i64 (p:Int)]⟩]))) [9])=>Fl (m:=11) (k:=9) (N:=10) hlan (by simp) rfl W β hS;have c30:=uh (i:=i) (by omega);have z0:PZ T [.val (.agg eD.toArray),.jK 103 10 0] (⟨46,.ai eD⟩::([Sx.ak,Sx.ak,Sx.ak,Sx.ak,Sx.ak,Sx.ak,Sx.ak]++[⟨9,.own 1 ls.length (ls.map ab)⟩,⟨103,.cU [.ptr 10 0]⟩,⟨105,.ai [.int .i64 (code:Int),.int .i64 ((i+1:Nat):Int)]⟩])):=by rw[e];exact⟨10,rfl,rfl⟩
   refine⟨[bq 20 true,(22,.ix),(23,.ld (ab x)),(25,.au (TC 10 code p)),(27,.au ⟨[9],[(9,⟨103,.cU [.ptr 10 0]⟩)],[],[],.val (.bool true),none⟩),oP 30 (i+1)],[],?_⟩;exact Wg (by kernel_rfl) (Sx.t4 c20 c22 c23 c25 (Sx.t2 c27 c30 z0))
 ·have c20:=bF ((i:Int) < (ls.length:Int)) (by omega)
  have h0:Ik ls T ⟨i,cf,d⟩∧i=ls.length:=⟨hk0,by omega⟩;have h1:([(2,.ptr 0 0),(4,.ptr 1 0),(5,.ptr 2 0)]:List (Nat×Sx.SV))=[(2,.ptr 0 0),(4,.ptr 1 0),(5,.ptr 2 0)]:=rfl;have z2:qS ls cf d=qS ls cf d:=rfl;refine⟨[bq 20 false],[],?_⟩;exact Wg (by kernel_rfl) (Sx.t2 c20 h0 (VZ h1 z2))
set_option maxRecDepth 100000
open Go.RowKit Go.Lib Go.Sort _root_.Go.Proofs.Tryz
set_option maxRecDepth 100000
noncomputable def cX(s:Bs):Pk:=if 65536 < s.length then .no 4 0 else bJ (aw s) 1 wZ 0
theorem vN(w:World):Sx.Rows ⟨w,[],fun _ _=>False⟩ (Sx.cD []) w []:=Sx.fT (w:=w) (S:=[]) (PP:=fun _ _=>False) (G:=[]) (fun q hq=>by cases hq) (fun q hq=>by cases hq) (by simp)
theorem FY(w:World)(s:Bs)(hs:65536 < s.length):Calls prog 22 #[ab s] w (Sx.cI ⟨w,[],fun _ _=>False⟩ (PZ (cX s))):=by
 have hT:cX s=.no 4 0:=by unfold cX;rw[if_pos hs]
 have c10:=lz s;have yB:=bT ((s.length:Int) > 65536) (by omega);have z0:PZ (cX s) [.val (.agg eD.toArray),.jK 103 1 0] [⟨46,.ai eD⟩,⟨105,.ai [.int .i64 4,.int .i64 0]⟩]:=by rw[hT];exact⟨1,rfl,rfl⟩
 refine Sx.bO (args:=[.val (ab s)]) (vN w) [(10,.is (.int .i64 (s.length:Int))),bq 11 true] [] (by kernel_rfl) func22 rfl (dR rfl) rfl ?_;exact Wg (by kernel_rfl) (Sx.t2 c10 yB z0)
theorem Ck(w:World)(hlan:ku w)(s:Bs)(hs:s.length≤65536):Calls prog 22 #[ab s] w (Sx.cI ⟨w,[],fun _ _=>False⟩ (PZ (cX s))):=by
 have hT:cX s=bJ (aw s) 1 wZ 0:=by unfold cX;rw[if_neg (by omega)]
 generalize cX s=T at hT;have c10:=lz s;have yB:=bF ((s.length:Int) > 65536) (by omega);have hcount:=dV 10 s;have c17:=fun W (hW:ah [] w W)=>ML W s (by omega) (hlan.aD hW (by simp)).vk;have h0:Ik (aw s) T ⟨0,wZ,0⟩:=⟨Wd _,⟨VL _,VL _,VL _,VL _,VL _⟩,VL _,hT⟩;have vq:=Jk hlan (aw s) (by show(aU 10 s).length≤_;omega) (fun x hx=>by have:=fB 10 s x hx;omega) T;have e1:([(2,.ptr 0 0),(4,.ptr 1 0),(5,.ptr 7 0),(17,.own 8),(18,.val (.int .i64 ((aw s).length:Int))),(19,.val (.int .i64 ((0:Nat):Int)))]:List (Nat×Sx.SV))=[(2,.ptr 0 0),(4,.ptr 1 0),(5,.ptr 7 0),(17,.own 8),(18,.val (.int .i64 ((aw s).length:Int))),(19,.val (.int .i64 ((0:Nat):Int)))]∧
   (⟨46,.ai eD⟩::eH none (ig 2 3 4 5 6 wZ)::kr none 0::(cF wZ++[⟨9,.own 1 (aw s).length ((aw s).map ab)⟩]):List Sx.Row)=⟨46,.ai eD⟩::eH none (ig 2 3 4 5 6 wZ)::kr none 0::(cF wZ++[⟨9,.own 1 (aw s).length ((aw s).map ab)⟩]):=⟨rfl,rfl⟩
 have fin:∀x:LO,Ik (aw s) T x→x.i=(aw s).length→T=.ok (if x.d=0 then { x.cf with aR:=2 }else x.cf):=fun x hx hi=>by rw[hx.run,hi,List.drop_length];rfl
 have z6f:=fun(x:LO) (hx:Ik (aw s) T x∧x.i=(aw s).length) (hb:(((x.d:Nat):Int)==0)=true)=>(show PZ T [.dG [.o 3,.o 4,.o 5,.o 6,.o 7,.v (.int .i64 2)],.val .nilIface] (⟨46,.cU [.own 3,.own 4,.own 5,.own 6,.own 7,.val (.int .i64 2)]⟩::⟨46,.cU [.own 3,.own 4,.own 5,.own 6,.own 7,.val (.int .i64 2)]⟩::kr none x.d::(cF x.cf++[⟨9,.own 1 (aw s).length ((aw s).map ab)⟩]))from by
  have hd:x.d=0:=by have:=beq_iff_eq.1 hb;omega
  rw[fin x hx.1 hx.2,if_pos hd];exact⟨3,4,5,6,7,rfl,rfl,rfl,rfl,rfl,rfl⟩)
 have z7f:=fun(x:LO) (hx:Ik (aw s) T x∧x.i=(aw s).length) (hb:(((x.d:Nat):Int)==0)=false)=>(show PZ T [.dG [.o 3,.o 4,.o 5,.o 6,.o 7,.v (.int .i64 x.cf.aR)],.val .nilIface] (⟨46,.cU [.own 3,.own 4,.own 5,.own 6,.own 7,.val (.int .i64 x.cf.aR)]⟩::eH none (ig 3 4 5 6 7 x.cf)::kr none x.d::(cF x.cf++[⟨9,.own 1 (aw s).length ((aw s).map ab)⟩]))from by
  have hd:x.d≠0:=by intro h0;rw[h0]at hb;cases hb
  rw[fin x hx.1 hx.2,if_neg hd];exact⟨3,4,5,6,7,rfl,rfl,rfl,rfl,rfl,rfl⟩)
 refine Sx.bO (args:=[.val (ab s)]) (vN w) [(10,.is (.int .i64 (s.length:Int))),bq 11 false,(4,.tM [(0,3,1),(1,118,19),(2,81,49),(3,122,4),(4,124,3)]),(17,.dc (.sl 9 1 (aw s).length ((aw s).map ab)))]
  [.mk LO ⟨0,wZ,0⟩ (Ik (aw s) T) (fun k=>Jl (aw s).length k.i) (fun k=>qS (aw s) k.cf k.d) (jI (aw s)) (fun k=>(aw s).length+1 - k.i) LO (fun x=>Ik (aw s) T x∧x.i=(aw s).length) (fun _=>[(2,.ptr 0 0),(4,.ptr 1 0),(5,.ptr 2 0)]) (fun k=>qS (aw s) k.cf k.d) id] (by kernel_rfl) func22 rfl (dR rfl) rfl ?_
 exact Wg (by kernel_rfl) (Sx.t4 c10 yB c17 h0 (Sx.t2 e1 vq (fun(x3:LO) (hx4:Ik (aw s) T x3∧x3.i=(aw s).length)=>(Sx.aL (b:=x3.d.cast==OfNat.ofNat (nat_lit 0)) (fun hb5=>(z6f x3 hx4 hb5)) (fun hb5=>(z7f x3 hx4 hb5))))))
theorem ED(w:World)(hlan:ku w)(s:Bs):Calls prog 22 #[ab s] w (Sx.cI ⟨w,[],fun _ _=>False⟩ (PZ (cX s))):=by
 by_cases hs:65536 < s.length
 ·exact FY w s hs
 ·exact Ck w hlan s (by omega)
open Go.RowKit Go.Lib Go.Sort
def fW(r:Int):Bs:=if r=1 then [9] else if r=2 then [32,32] else if r=3 then [32,9,32,9] else [32]
def nK(r:Int):List Bs:=if r=1 then [[32,35,32,112,111,114,116,32,57]] else if r=2 then [[35],[]] else if r=3 then [[9],[32,9]] else if r=4 then [[],[35,32,120,255,32,45,62,32,97,110,121]] else [[]]
def Ii(l:List Bs):Bs:=l.flatMap (·++[10])
def uI(r:Int):Bs:=Ii (nK r)
theorem rW(r:Int):fW r≠[]∧∀c∈fW r,c=32∨c=9:=by
 unfold fW;split
 ·exact⟨by simp,by simp⟩
 split
 ·exact⟨by simp,by simp⟩
 split
 ·exact⟨by simp,by simp⟩
 ·exact⟨by simp,by simp⟩
theorem Fb(r:Int):∃x l,nK r=x::l∧(∀y∈nK r,(10:UInt8)∉y∧aj true y=[]):=by
 unfold nK;split
 ·exact⟨_,_,rfl,by simp;decide⟩
 split
 ·exact⟨_,_,rfl,by simp;decide⟩
 split
 ·exact⟨_,_,rfl,by simp;decide⟩
 split
 ·exact⟨_,_,rfl,by simp;decide⟩
 ·exact⟨_,_,rfl,by simp;decide⟩
def vJ(pd:Nat→Int):Nat→List Bs→Bs
 |_,[]=>[]
 |n,w::ws=>w++(fW (pd n)++vJ pd (n+1) ws)
def vj(p0:Nat→Int)(pd:Nat→Int)(en:Nat→Int)(n i:Nat)(ws:List Bs):Bs:=fW (p0 n)++(vJ pd n ws++uI (en i))
def DV(p0 pd en:Nat→Int):Nat→Nat→List (List Bs)→Bs
 |_,_,[]=>[]
 |n,i,ws::l=>vj p0 pd en n i ws++DV p0 pd en (n+ws.length) (i+1) l
def Cc(en:Nat→Int):Nat→Nat→List (List Bs)→List Nat
 |_,_,[]=>[]
 |k,i,_::l=>k::Cc en (k+(nK (en i)).length) (i+1) l
theorem jD(cm:Bool)(x:Bs):∀(b:Bs),(∀c∈b,c=32∨c=9)→aG cm [] (b++x)=aG cm [] x
 | [],_=>rfl
 |c::b,h=>by
  have hc:=h c (by simp);have:aG cm [] (c::(b++x))=aG cm [] (b++x):=by rw[aG,if_neg (fun hh=>by rcases hc with rfl|rfl<;>exact absurd hh.2 (by decide)),if_pos hc,if_pos rfl]
  rw[VU,this,jD cm x b fun d hd=>h d (by simp[hd])]
theorem yS(cm:Bool)(x cur:Bs)(hc:cur≠[]){b:Bs}(hb:b≠[])(h:∀c∈b,c=32∨c=9):aG cm cur (b++x)=cur::aG cm [] x:=by
 obtain⟨c,l,rfl⟩:=We hb;have hcc:=h c (by simp);have:aG cm cur (c::(l++x))=cur::aG cm [] (l++x):=by rw[aG,if_neg (fun hh=>by rcases hcc with rfl|rfl<;>exact absurd hh.2 (by decide)),if_pos hcc,if_neg hc]
 rw[VU,this,jD cm x l fun d hd=>h d (by simp[hd])]
theorem vB(pd:Nat→Int)(x:Bs):∀(ws:List Bs) (n:Nat),(∀w∈ws,du w)→aG true [] (vJ pd n ws++x)=ws++aG true [] x
 | [],_,_=>rfl
 |w::ws,n,h=>by have hw:=h w (by simp);have hp:=rW (pd n);show aG true [] ((w++(fW (pd n)++vJ pd (n+1) ws))++x)=_;rw[VS,VS,jg true _ w [] hw.2,List.nil_append,yS true _ w hw.1 hp.1 hp.2,vB pd x ws (n+1) fun v hv=>h v (VE _ hv)];rfl
theorem kC:∀(l cur:Bs),(∀c∈cur,c≠32∧c≠9∧c≠35)→∀w∈aG true cur l,w≠[]∧∀c∈w,(c≠32∧c≠9∧c≠35)∧(c∈cur∨c∈l)
 | [],cur,hc,w,hw=>by
  unfold aG at hw;split at hw
  ·cases hw
  ·rename_i h0
   rw[VJ.1 hw];exact⟨h0,fun c h=>⟨hc c h,.inl h⟩⟩
 |d::l,cur,hc,w,hw=>by
  unfold aG at hw;split at hw
  ·split at hw
   ·cases hw
   ·rename_i h0
    rw[VJ.1 hw];exact⟨h0,fun c h=>⟨hc c h,.inl h⟩⟩
  ·rename_i h35
   split at hw
   ·have ih:=kC l [] (by simp)
    split at hw
    ·have:=ih w hw
     exact⟨this.1,fun c h=>⟨(this.2 c h).1,.inr (by
      rcases(this.2 c h).2 with h1|h1
      ·cases h1
      ·exact VE _ h1)⟩⟩
    ·rename_i h0
     rcases VT.1 hw with rfl|hw
     ·exact⟨h0,fun c h=>⟨hc c h,.inl h⟩⟩
     ·have:=ih w hw
      exact⟨this.1,fun c h=>⟨(this.2 c h).1,.inr (by
       rcases(this.2 c h).2 with h1|h1
       ·cases h1
       ·exact VE _ h1)⟩⟩
   ·rename_i hb
    have hd:d≠32∧d≠9∧d≠35:=⟨fun h=>hb (.inl h),fun h=>hb (.inr h),fun h=>h35 ⟨rfl,h⟩⟩;have ih:=kC l (cur++[d]) (fun c h=>by
     rcases VK.1 h with h|h
     ·exact hc c h
     ·rw[VJ.1 h];exact hd) w hw
    refine⟨ih.1,fun c h=>⟨(ih.2 c h).1,?_⟩⟩;rcases(ih.2 c h).2 with h1|h1
    ·rcases VK.1 h1 with h1|h1
     ·exact .inl h1
     ·rw[VJ.1 h1];exact .inr (by simp)
    ·exact .inr (VE _ h1)
theorem sj{l:Bs}(h:(10:UInt8)∉l):∀w∈aj true l,du w:=fun w hw=>by
 have:=kC l [] (by simp) w hw;refine⟨this.1,fun c hc=>⟨(this.2 c hc).1.1,(this.2 c hc).1.2.1,(this.2 c hc).1.2.2,fun he=>?_⟩⟩;rcases(this.2 c hc).2 with h1|h1
 ·cases h1
 ·exact h (he ▸ h1)
theorem Cv(pd:Nat→Int):∀(ws:List Bs) (n:Nat),(∀w∈ws,du w)→(10:UInt8)∉vJ pd n ws
 | [],_,_,h=>by cases h
 |w::ws,n,hg,h=>by
  have h:(10:UInt8)∈w++(fW (pd n)++vJ pd (n+1) ws):=h;rcases VK.1 h with h|h
  ·exact(hg w (by simp)).2 _ h |>.2.2.2 rfl
  ·rcases VK.1 h with h|h
   ·rcases(rW (pd n)).2 _ h with h|h<;>exact absurd h (by decide)
   ·exact Cv pd ws (n+1) (fun v hv=>hg v (VE _ hv)) h
theorem tW(x:Bs):∀(l:List Bs),(∀y∈l,(10:UInt8)∉y)→aw (Ii l++x)=l++aw x
 | [],_=>rfl
 |y::l,h=>by
  have ih:=tW x l fun z hz=>h z (VE _ hz);have e:Ii (y::l)++x=y++10::(Ii l++x):=by simp[Ii]
  unfold aw at ih ⊢;rw[e,gr 10 y _ (h y (by simp)),ih];rfl
theorem oe{ls:List Bs}{cf:CF}{d:Nat}:∀(l:List Bs) (k:Nat),(∀y∈l,aj true y=[])→bJ (l++ls) k cf d=bJ ls (k+l.length) cf d
 | [],_,_=>rfl
 |y::l,k,h=>by have hy:=h y (by simp);rw[VU,bJ,hy];show bJ (l++ls) (k+1) cf d=_;rw[oe l (k+1) fun z hz=>h z (VE _ hz),VH];congr 1;omega
theorem nh:∀(ls:List Bs) (k:Nat) (cf:CF) (d:Nat) (code p:Nat),bJ ls k cf d=.no code p→k≤p∧p < k+ls.length
 | [],k,cf,d,code,p,h=>by unfold bJ at h;cases h
 |l::ls,k,cf,d,code,p,h=>by
  unfold bJ at h;cases hl:cY (aj true l) cf d with
  |ok c i=>rw[hl]at h;have:=nh ls _ c _ code p h;simp only[VH];omega
  |no c q=>rw[hl]at h;injection h with _ h;subst h;simp only[VH];omega
def NI(F:List Nat)(k:Nat):Pk→Pk
 |.ok cf=>.ok cf
 |.no code p=>.no code (F.getD (p - k) 0)
theorem zm(p0 pd en:Nat→Int):∀(ls:List Bs) (n i k k':Nat) (cf:CF) (d:Nat),(∀l∈ls,(10:UInt8)∉l)→
  bJ (aw (DV p0 pd en n i (ls.map (aj true)))) k' cf d=NI (Cc en k' i (ls.map (aj true))) k (bJ ls k cf d)
 | [],n,i,k,k',cf,d,_=>by show bJ (aw []) k' cf d=NI _ k (bJ [] k cf d);have e:aw []=[[]]:=rfl;rw[e];have hv:=oe (ls:=[]) (cf:=cf) (d:=d) [[]] k' (by simp[aj,aG]);rw[Ws]at hv;rw[hv];unfold bJ;rfl
 |l::ls,n,i,k,k',cf,d,h=>by
  have hl:=sj (h l (by simp));obtain⟨y,m,he,hy⟩:=Fb (en i);have hp:=rW (p0 n);have h0:(10:UInt8)∉fW (p0 n)++(vJ pd n (aj true l)++y):=fun hh=>by
   rcases VK.1 hh with hh|hh
   ·rcases hp.2 _ hh with hh|hh<;>exact absurd hh (by decide)
   ·rcases VK.1 hh with hh|hh
    ·exact Cv pd _ n hl hh
    ·exact(hy y (by rw[he];simp)).1 hh
  obtain⟨r,hr⟩:∃r,r=DV p0 pd en (n+(aj true l).length) (i+1) (ls.map (aj true)):=⟨_,rfl⟩;have e1:DV p0 pd en n i ((l::ls).map (aj true))=Ii ((fW (p0 n)++(vJ pd n (aj true l)++y))::m)++r:=by rw[VY,DV,←hr];unfold vj uI;rw[he];simp[Ii]
  have hw:aj true (fW (p0 n)++(vJ pd n (aj true l)++y))=aj true l:=by have h1:=(hy y (by rw[he];simp)).2;have h2:=vB pd y _ n hl;unfold aj at h1;rw[h1,Ws]at h2;show aG true [] (fW (p0 n)++(vJ pd n (aj true l)++y))=_;rw[jD true _ _ hp.2,h2]
  rw[e1,tW r _ (fun z hz=>by
   rcases VT.1 hz with rfl|hz
   ·exact h0
   ·exact(hy z (by rw[he];exact VE _ hz)).1),VU,VY,Cc]
  rw[bJ,hw]
  conv=>rhs;rw[bJ]
  cases hT:cY (aj true l) cf d with
  |no code p=>show Pk.no code k'=.no code _;rw[Wy];rfl
  |ok c j=>
   show bJ (m++aw r) (k'+1) c _=NI _ k (bJ ls (k+1) c _);have ih:=zm p0 pd en ls (n+(aj true l).length) (i+1) (k+1) (k'+(nK (en i)).length) c (dN (aj true l) d) fun z hz=>h z (VE _ hz);rw[oe m (k'+1) (fun z hz=>(hy z (by rw[he];exact VE _ hz)).2),hr,show k'+1+m.length=k'+(nK (en i)).length by rw[he,VH];omega,ih];cases hq:bJ ls (k+1) c (dN (aj true l) d)with
   |ok cf'=>rfl
   |no code p=>have:=nh ls (k+1) c (dN (aj true l) d) code p hq;show Pk.no code ((Cc en (k'+(nK (en i)).length) (i+1) (ls.map (aj true))).getD (p - (k+1)) 0)=.no code ((k'::Cc en (k'+(nK (en i)).length) (i+1) (ls.map (aj true))).getD (p - k) 0);obtain⟨q,hq⟩:∃q,p - k=q+1:=⟨p - k - 1,by omega⟩;rw[hq,show p - (k+1)=q by omega];rfl
open Go Go.RowKit Go.Lib Go.Sort
inductive Kd where
 |b
 |i (q:IntKind)
 |s
def AG(P:Program)(f:TypeId→Option (List Kd)):Nat→List Field→Option (List Kd)
 |_,[]=>some []
 |off,x::fs=>match Wb x.offset off&&x.name != "_" with
  |true=>match f x.type with
   |some ks=>match Wb ks.length (P.cellsOf x.type)with
    |true=>match AG P f (off+ks.length) fs with
     |some r=>some (ks++r)
     |none=>none
    |false=>none
   |none=>none
  |false=>none
def xD:Nat→List Kd→List Kd
 | 0,_=>[]
 |n+1,ks=>ks++xD n ks
def ie(P:Program):Nat→TypeId→Option (List Kd)
 | 0,_=>none
 |d+1,t=>match P.underlying t with
  |some .bool=>some [.b]
  |some (.int q)=>some [.i q]
  |some .string=>some [.s]
  |some (.array n e)=>match ie P d e with
   |some ks=>match Wb ks.length (P.cellsOf e)&&Wb (n*ks.length) (P.cellsOf t)with
    |true=>some (xD n ks)
    |false=>none
   |none=>none
  |some (.struct fs)=>match AG P (ie P d) 0 fs.toList with
   |some ks=>match Wb ks.length (P.cellsOf t)with
    |true=>some ks
    |false=>none
   |none=>none
  |_=>none
def PF:Kd→Value→Prop
 |.b,.bool _=>True
 |.i q,.int q' n=>q'=q∧(Lit.int q n).wf=true
 |.s,.string s=>s.size≤maxLen
 |_,_=>False
def ox:Value→Lit
 |.bool b=>.bool b
 |.int q n=>.int q n
 |.string s=>.string s.data.toList
 |_=>.bool false
def cz:List Kd→List Value→Prop
 | [],[]=>True
 |k::ks,v::vs=>PF k v∧cz ks vs
 |_,_=>False
theorem cz.len:∀{ks:List Kd} {vs:List Value},cz ks vs→vs.length=ks.length
 | [],[],_=>rfl
 |_::_,_::_,h=>by simp only[VH,h.2.len]
 | [],_::_,h=>h.elim
 |_::_,[],h=>h.elim
theorem cz.split:∀{k1 k2:List Kd} {vs:List Value},cz (k1++k2) vs→cz k1 (vs.take k1.length)∧cz k2 (vs.drop k1.length)
 | [],_,_,h=>⟨by simp[cz],h⟩
 |_::_,_,_::_,h=>by have:=cz.split (k1:=_) (k2:=_) h.2;exact⟨⟨h.1,this.1⟩,this.2⟩
 |_::_,_,[],h=>h.elim
theorem cz.app:∀{k1 k2:List Kd} {v1 v2:List Value},cz k1 v1→cz k2 v2→cz (k1++k2) (v1++v2)
 | [],_,[],_,_,h=>h
 |_::_,_,_::_,_,h,h2=>⟨h.1,h.2.app h2⟩
 | [],_,_::_,_,h,_=>h.elim
 |_::_,_,[],_,h,_=>h.elim
theorem NC{k:Kd}{a b:Value}(ha:PF k a)(hb:PF k b)(h:ox a=ox b):a=b:=by
 cases k with
 |b=>cases a<;>first|exact ha.elim | (cases b<;>first|exact hb.elim | (injection h with h;subst h;rfl))
 |i q=>cases a<;>first|exact ha.elim | (cases b<;>first|exact hb.elim | (injection h with h1 h2;subst h1 h2;rfl))
 |s=>
  cases a<;>first|exact ha.elim|skip
  cases b<;>first|exact hb.elim|skip
  rename_i s t;injection h with h;have:s.data=t.data:=Array.toList_inj.1 h;cases s;cases t;simp only at this;rw[this]
theorem cz.inj:∀{ks:List Kd} {al bs:List Value},cz ks al→cz ks bs→al.map ox=bs.map ox→al=bs
 | [],[],[],_,_,_=>rfl
 |_::_,_::_,_::_,ha,hb,h=>by rw[VY,VY]at h;injection h with h1 h2;rw[NC ha.1 hb.1 h1,ha.2.inj hb.2 h2]
 | [],_::_,_,ha,_,_=>ha.elim
 |_::_,[],_,ha,_,_=>ha.elim
 | [],[],_::_,_,hb,_=>hb.elim
 |_::_,_::_,[],_,hb,_=>hb.elim
theorem lY(ks:List Kd):∀n,(xD n ks).length=n*ks.length
 | 0=>by simp[xD]
 |n+1=>by rw[xD,VG,lY ks n,Wj];omega
section
variable{P:Program}
theorem rq{d:Nat}(ih:∀t ks cs,ie P d t=some ks→cz ks cs→P.keyLits d t cs=some (cs.map ox))(cs:List Value):∀(fs:List Field) (off:Nat) (ks:List Kd),AG P (ie P d) off fs=some ks→cz ks (cs.drop off)→
  (∃l,fs.mapM (fun f=>P.keyLits d f.type ((cs.drop f.offset).take (P.cellsOf f.type)))=some l∧l.flatten=(cs.drop off).map ox)∧fs.all (fun f=>f.name != "_")=true
 | [],off,ks,h,ha=>by
  simp only[AG,VO.injEq]at h;subst h;refine⟨⟨[],rfl,?_⟩,rfl⟩;cases hd:cs.drop off with
  |nil=>rfl
  |cons a l=>rw[hd]at ha;exact ha.elim
 |x::fs,off,ks,h,ha=>by
  unfold AG at h;split at h
  ·rename_i hb
   rw[VN]at hb;have ho:x.offset=off:=VF hb.1;split at h
   ·rename_i kx hx
    split at h
    ·rename_i hl
     have hl:kx.length=P.cellsOf x.type:=VF hl;split at h
     ·rename_i r hr
      injection h with h;subst h;obtain⟨h1,h2⟩:=ha.split;rw[VX]at h2;obtain⟨⟨l,e1,e2⟩,e3⟩:=rq ih cs fs (off+kx.length) r hr h2;have hk:=ih _ _ _ hx h1;refine⟨⟨((cs.drop off).take kx.length).map ox::l,?_,?_⟩,?_⟩
      ·rw[Wt,ho,←hl,hk]
       show(do let al ←fs.mapM (fun(f:Field)=>P.keyLits d f.type ((cs.drop f.offset).take (P.cellsOf f.type)));pure (((cs.drop off).take kx.length).map ox::al))=_;rw[e1];rfl
      ·rw[Wm,e2,←VX,←Wr,Wi]
      ·rw[List.all_cons,e3,hb.2];rfl
     ·cases h
    ·cases h
   ·cases h
  ·cases h
theorem uj{d e:Nat}(ih:∀cs,∀ks,ie P d e=some ks→cz ks cs→P.keyLits d e cs=some (cs.map ox)){ke:List Kd}(he:ie P d e=some ke)(hl:ke.length=P.cellsOf e)(cs:List Value):∀(n k:Nat),cz (xD n ke) (cs.drop (k*P.cellsOf e))→
  ∃l,((Wz k n).mapM fun i=>P.keyLits d e ((cs.drop (i*P.cellsOf e)).take (P.cellsOf e)))=some l∧l.flatten=(cs.drop (k*P.cellsOf e)).map ox
 | 0,k,ha=>by
  refine⟨[],rfl,?_⟩;cases hd:cs.drop (k*P.cellsOf e)with
  |nil=>rfl
  |cons a l=>rw[hd]at ha;exact ha.elim
 |n+1,k,ha=>by
  obtain⟨h1,h2⟩:=ha.split;rw[VX,hl,show k*P.cellsOf e+P.cellsOf e=(k+1)*P.cellsOf e by rw[Wj]]at h2;obtain⟨l,e1,e2⟩:=uj ih he hl cs n (k+1) h2;have hk:=ih _ _ he h1;refine⟨((cs.drop (k*P.cellsOf e)).take ke.length).map ox::l,?_,?_⟩
  ·rw[List.range'_succ,Wt,←hl]
   rw[hl]at hk ⊢;rw[hk];show(do let al ←(Wz (k+1) n).mapM (fun i=>P.keyLits d e ((cs.drop (i*P.cellsOf e)).take (P.cellsOf e)));pure (((cs.drop (k*P.cellsOf e)).take (P.cellsOf e)).map ox::al))=_;rw[e1];rfl
  ·rw[Wm,e2,hl,show(k+1)*P.cellsOf e=k*P.cellsOf e+P.cellsOf e by rw[Wj],←VX,←Wr,Wi]
theorem ik:∀(d:Nat) (t:TypeId) (ks:List Kd) (cs:List Value),ie P d t=some ks→cz ks cs→P.keyLits d t cs=some (cs.map ox)
 | 0,_,_,_,h,_=>by cases h
 |d+1,t,ks,cs,h,ha=>by
  unfold ie at h;split at h
  ·rename_i hu
   injection h with h;subst h;match cs,ha with
   | [.bool b],_=>unfold Program.keyLits;rw[hu];rfl
  ·rename_i q hu
   injection h with h;subst h;match cs,ha with
   | [.int q' n],ha=>have hq:q'=q∧(Lit.int q n).wf=true:=ha.1;unfold Program.keyLits;rw[hu];show(if q'=q∧(Lit.int q n).wf=true then some [Lit.int q n] else none)=_;rw[if_pos hq,hq.1];rfl
  ·rename_i hu
   injection h with h;subst h;match cs,ha with
   | [.string s],ha=>have hs:s.size≤maxLen:=ha.1;unfold Program.keyLits;rw[hu];show(if s.size≤maxLen then some [Lit.string s.data.toList] else none)=_;rw[if_pos hs];rfl
  ·rename_i n e hu
   split at h
   ·rename_i ke he
    split at h
    ·rename_i hb
     injection h with h;subst h;rw[VN]at hb;have hl:ke.length=P.cellsOf e:=VF hb.1;have ht:n*ke.length=P.cellsOf t:=VF hb.2;have hlen:cs.length=P.cellsOf t:=by rw[ha.len,lY,ht]
     obtain⟨l,e1,e2⟩:=uj (fun c k hk hc=>ik d e k c hk hc) he hl cs n 0 (by rw[Wx,VW];exact ha);rw[Wx,VW]at e2;unfold Program.keyLits;rw[hu];show(if cs.length=P.cellsOf t then((List.range n).mapM fun i=>P.keyLits d e ((cs.drop (i*P.cellsOf e)).take (P.cellsOf e))).map Wv else none)=_;rw[if_pos hlen,List.range_eq_range',e1,←e2];rfl
    ·cases h
   ·cases h
  ·rename_i fs hu
   split at h
   ·rename_i kf hf
    split at h
    ·rename_i hb
     injection h with h;subst h;have ht:kf.length=P.cellsOf t:=VF hb;have hlen:cs.length=P.cellsOf t:=by rw[ha.len,ht]
     obtain⟨⟨l,e1,e2⟩,e3⟩:=rq (fun t k c=>ik d t k c) cs fs.toList 0 kf hf (by rw[VW];exact ha);rw[VW]at e2;unfold Program.keyLits;rw[hu];show(if cs.length=P.cellsOf t∧fs.all (·.name != "_")=true then(fs.toList.mapM fun f=>P.keyLits d f.type ((cs.drop f.offset).take (P.cellsOf f.type))).map Wv else none)=_;rw[if_pos ⟨hlen,by rw[←Array.all_toList];exact e3⟩,e1,←e2];rfl
    ·cases h
   ·cases h
  ·cases h
def Hy(P:Program)(t:TypeId):Bool:=match P.underlying t with
 |some (.struct _)=>true
 |some (.array _ _)=>true
 |_=>false
theorem KF{d:Nat}{t:TypeId}{ks:List Kd}(h:ie P d t=some ks)(ha:Hy P t=true):ks.length=P.cellsOf t:=by
 cases d with
 |zero=>cases h
 |succ d=>
  unfold ie at h;unfold Hy at ha;split at h
  ·rename_i hu;rw[hu]at ha;cases ha
  ·rename_i hu;rw[hu]at ha;cases ha
  ·rename_i hu;rw[hu]at ha;cases ha
  ·split at h
   ·split at h
    ·rename_i hb
     injection h with h;subst h;rw[VN]at hb;rw[lY];exact VF hb.2
    ·cases h
   ·cases h
  ·split at h
   ·split at h
    ·rename_i hb
     injection h with h;subst h;exact VF hb
    ·cases h
   ·cases h
  ·cases h
theorem uy{t:TypeId}{cs:List Value}(ha:Hy P t=true)(hl:cs.length=P.cellsOf t):(Value.agg cs.toArray).formed P t=true:=by
 unfold Hy at ha;unfold Value.formed;split at ha
 ·rename_i h;rw[h];simp[hl]
 ·rename_i h;rw[h];simp[hl]
 ·cases ha
theorem KN{t:TypeId}{ks:List Kd}{al bs:List Value}(W:World)(hk:P.keyTypeAt 6 t=true)(hf:ie P 6 t=some ks)(hg:Hy P t=true)(ha:cz ks al)(hb:cz ks bs) :
  ∃r,(Op.equalIn 10000 t (.agg al.toArray) (.agg bs.toArray)).run P W=.ok r W∧(r=true↔al=bs):=by
 have hl:=KF hf hg;obtain⟨r,h1,h2⟩:=run_equalIn_deep (P:=P) 9994 6 t hk W 6 6 (.agg al.toArray) (.agg bs.toArray) (al.map ox) (bs.map ox) (uy hg (by rw[ha.len,hl])) (uy hg (by rw[hb.len,hl])) (ik 6 t ks al hf ha) (ik 6 t ks bs hf hb);refine⟨r,h1,h2.trans ⟨fun h=>ha.inj hb h,fun h=>by rw[h]⟩⟩
theorem yq{t:TypeId}{ks:List Kd}{al bs:List Value}{r:Bool}(x y:Operand)(hk:P.keyTypeAt 6 t=true)(hf:ie P 6 t=some ks)(hg:Hy P t=true)(hq:P.eqGuardType P.depth t=false)(ha:cz ks al)(hb:cz ks bs)(hr:r=true↔al=bs)(W:World) :
  (do eqGuard .eql t x y (.agg al.toArray) (.agg bs.toArray);binOp .eql t (.agg al.toArray) (.agg bs.toArray):Sem Value).run P W=.ok (.bool r) W∧
  (do eqGuard .neq t x y (.agg al.toArray) (.agg bs.toArray);binOp .neq t (.agg al.toArray) (.agg bs.toArray):Sem Value).run P W=.ok (.bool (!r)) W:=by
 obtain⟨q,h1,h2⟩:=KN W hk hf hg ha hb;have hqr:q=r:=by rw[Bool.eq_iff_iff,h2,hr]
 subst hqr;have h1:(Op.equal t (.agg al.toArray) (.agg bs.toArray)).run P W=.ok q W:=h1;have g1:(eqGuard .eql t x y (.agg al.toArray) (.agg bs.toArray)).run P W=.ok () W:=by simp[eqGuard,hq]
 have g2:(eqGuard .neq t x y (.agg al.toArray) (.agg bs.toArray)).run P W=.ok () W:=by simp[eqGuard,hq]
 constructor
 ·rw[Wc,g1,Result.andThen_ok]
  show(do pure (.bool (←Op.equal t (.agg al.toArray) (.agg bs.toArray))):Sem Value).run P W=_;rw[Wc,h1];rfl
 ·rw[Wc,g2,Result.andThen_ok]
  show(do pure (.bool (!(←Op.equal t (.agg al.toArray) (.agg bs.toArray)))):Sem Value).run P W=_;rw[Wc,h1];rfl
end
end Go.Proofs.YtnncigmpcdehnaaGreatDoor
