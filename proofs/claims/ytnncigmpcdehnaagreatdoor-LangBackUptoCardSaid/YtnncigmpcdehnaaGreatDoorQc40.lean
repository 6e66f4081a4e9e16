import Derived.Test.YtnncigmpcdehnaaGreatDoorQc39
namespace Go.Proofs.YtnncigmpcdehnaaGreatDoor
set_option maxRecDepth 100000
open Go Go.RowKit Go.Lib Go.Sort
def wB:Px:=⟨false,10*2^120,8⟩
def wD:Mt:=⟨40,(0,0),ow,ow,6,(0,0),(80,90)⟩
def dc:CF:=⟨[3,4],[⟨wB,3⟩],[⟨[97],wD,3,4,[109],[99]⟩,⟨[98],fL,2,0,[],[]⟩],[⟨[109],5,2,9⟩],[⟨[99],4,16⟩],1⟩
def P5(cf:CF)(l:List Sx.SV)(mem:List Sx.Row):Prop:=∃k0 k1 k2 k3 k4,l=[.db [.o k0,.o k1,.o k2,.o k3,.o k4,.v (.int .i64 cf.a8)]]∧mem[k0]?=some ⟨3,.own 1 cf.ag.length cf.cp⟩∧mem[k1]?=some ⟨118,.own 19 cf.ae.length cf.cr⟩∧mem[k2]?=some ⟨81,.own 49 cf.rules.length cf.cl⟩∧mem[k3]?=some ⟨122,.own 4 cf.af.length cf.cm⟩∧mem[k4]?=some ⟨124,.own 3 cf.aa.length cf.ci⟩
theorem Eg(w:World):Calls Tryz.prog 67 #[] w (Sx.bJ ⟨w,[],fun _ _=>False⟩ (P5 dc)):=by
 have z0:P5 dc [.db [.o 3,.o 4,.o 7,.o 5,.o 6,.v (.int .i64 1)]] [⟨46,.dm [.own 3,.own 4,.own 7,.own 5,.own 6,.val (.int .i64 1)]⟩,⟨29,.aj wB.cells⟩,⟨66,.aj wD.cells⟩,⟨3,.own 1 2 dc.cp⟩,⟨118,.own 19 1 dc.cr⟩,⟨122,.own 4 1 dc.cm⟩,⟨124,.own 3 1 dc.ci⟩,⟨81,.own 49 2 dc.cl⟩]:=⟨3,4,7,5,6,rfl,rfl,rfl,rfl,rfl,rfl⟩
 refine Sx.aW (args:=[]) (dE w) [(9,.iy 3 1),(12,.iy 118 19),(15,.iy 122 4),(17,.iy 124 3),(21,.iy 81 49)] [] (by kernel_rfl) Tryz.func67 rfl (Nat.le_of_ble_eq_true rfl) rfl ?_
 exact Eq.mp (by kernel_rfl) z0
open Go.RowKit Go.Lib Go.Sort
def EN:Prop:=∀p:Px,p.n < 2^128→gr p.v p.n p.k=true→pG (rU p)=some p
theorem mT(n:Nat):gf (au 10 n)=n:=iT (by omega) (by omega) n
theorem nP{most n:Nat}(h:n≤most):cI most (au 10 n)=true:=by
 unfold cI
 rw[mT,decide_eq_true h,decide_eq_true rfl];rfl
theorem gV{ws:List Bs}{i:Nat}{x:Bs}(h:ws[i]?=some x):aY ws i=.ok x (i+1):=by unfold aY;rw[h]
theorem j6{ws:List Bs}{i n most:Nat}(h:ws[i]?=some (au 10 n))(hn:n≤most):bw most ws i=.ok n (i+1):=by
 unfold bw
 rw[gV h]
 show ak (cI most (au 10 n)) 200 (gf (au 10 n)) (i+1)=_
 rw[nP hn,mT];rfl
theorem uN{n:Int}(h:0≤n):cn n=au 10 n.toNat:=by unfold cn;rw[if_neg (by omega)]
theorem sS{ws:List Bs}{i:Nat}{n:Int}(h:ws[i]?=some (cn n))(h0:0≤n)(hn:n≤9223372036854775807):ic ws i=.ok n.toNat (i+1):=
 j6 (by rw[h,uN h0]) (by omega)
theorem qW{ws:List Bs}{i:Nat}{x:Bs}(h:ws[i]?=some x)(hx:aG x=true):ed ws i=.ok x (i+1):=by
 unfold ed
 rw[gV h]
 show ak (aG x) 201 x (i+1)=_
 rw[hx];rfl
theorem prefix_at(hU:EN){ws:List Bs}{i:Nat}{p:Px}(h:ws[i]?=some (rU p))(hn:p.n < 2^128)(hk:gr p.v p.n p.k=true):dD ws i=.ok p (i+1):=by
 unfold dD
 rw[gV h]
 show ak (pG (rU p)).isSome 151 ((pG (rU p)).getD ow) (i+1)=_
 rw[hU p hn hk];rfl
theorem u7(u:Nat):(45:UInt8)∉au 10 u:=iR (by omega) (by omega) (.inl (by decide))
theorem Hq(l m:List UInt8)(h:(45:UInt8)∉l):Lib.cut (l++45::m) [45]=(l,m,true):=by
 unfold Lib.cut
 rw[nZ 45 l m h,if_pos (by omega)]
 simp only[Int.toNat_natCast]
 rw[List.take_left' rfl]
 congr 2
 rw[show l++45::m=(l++[45])++m by simp]
 exact List.drop_left' (by simp)
theorem Ba(s:List UInt8)(h:(45:UInt8)∉s):Lib.cut s [45]=(s,[],false):=by
 unfold Lib.cut
 rcases Lib.index_spec s [45]with⟨h1,_⟩ | ⟨i,_,_,h3,_⟩
 ·rw[h1];rfl
 ·exact absurd (List.mem_of_getElem? ((Cm s 45 i).1 h3)) h
theorem Jh(s:Nat×Nat):eO (eu s)=(au 10 s.1,au 10 s.2):=by
 unfold eO eu
 by_cases h:s.1=s.2
 ·rw[if_pos h,Ba _ (u7 _),←h]
 ·rw[if_neg h,Hq _ _ (u7 _)]
theorem vy{ws:List Bs}{i:Nat}{s:Nat×Nat}(h:ws[i]?=some (eu s))(h1:s.1≤65535)(h2:s.2≤65535):iC ws i=.ok s (i+1):=by
 unfold iC
 rw[gV h]
 show ak (cI 65535 (eO (eu s)).1&&cI 65535 (eO (eu s)).2) 200 (gf (eO (eu s)).1,gf (eO (eu s)).2) (i+1)=_
 rw[Jh]
 show ak (cI 65535 (au 10 s.1)&&cI 65535 (au 10 s.2)) 200 (gf (au 10 s.1),gf (au 10 s.2)) (i+1)=_
 rw[nP h1,nP h2,mT,mT];rfl
theorem jw{ws:List Bs}{i:Nat}{s:Bs}(h:ws[i]?=some s):cH ws i s=.ok true (i+1):=by unfold cH;rw[if_pos h]
theorem iV{ws:List Bs}{i:Nat}{s:Bs}(h:ws[i]?≠some s):cH ws i s=.ok false i:=by unfold cH;rw[if_neg h]
theorem ts(u:Nat)(c:UInt8)(l:Bs)(h:¬(48≤c.toNat∧c.toNat≤57)):au 10 u≠c::l:=fun he=>by
 obtain⟨d,hd,hc⟩:=kn (b:=10) (by omega) u c (by rw[he];simp)
 rw[hc,gR (by omega),if_pos hd]at h
 omega
theorem F1{ws:List Bs}{i n:Nat}(h:ws[i]?=some (dK n))(hn:n≤255):dX ws i=.ok n (i+1):=by
 unfold dX
 by_cases h6:n=6
 ·have:dK n=oQ:=by unfold dK;rw[if_pos h6]
  rw[jw (by rw[h,this]),h6];rfl
 ·by_cases h17:n=17
  ·have e:dK n=pY:=by unfold dK;rw[if_neg h6,if_pos h17]
   rw[iV (by rw[h,e];decide)]
   show(cH ws i pY).bind _=_
   rw[jw (by rw[h,e]),h17];rfl
  ·have e:dK n=au 10 n:=by unfold dK;rw[if_neg h6,if_neg h17]
   rw[e]at h
   rw[iV (by rw[h];exact fun hh=>ts n 116 _ (by decide) (Option.some.inj hh))]
   show(cH ws i pY).bind _=_
   rw[iV (by rw[h];exact fun hh=>ts n 117 _ (by decide) (Option.some.inj hh))]
   exact j6 h hn
def Ji(M m:Mt)(k:Nat):Mt:=match k with
 | 0=>{ m with fU:=M.fU }
 | 1=>{ m with src:=M.src }
 | 2=>{ m with dst:=M.dst }
 | 3=>{ m with bS:=M.bS }
 | 4=>{ m with sp:=M.sp }
 |_=>{ m with dp:=M.dp }
def fX(M m:Mt)(k:Nat):Mt:=Ji M { m with asks:=m.asks|||2^k } k
structure zI(M:Mt):Prop where
 i1:M.fU.1≤65535
 i2:M.fU.2≤65535
 s1:M.sp.1≤65535
 s2:M.sp.2≤65535
 d1:M.dp.1≤65535
 d2:M.dp.2≤65535
 pr:M.bS≤255
 sn:M.src.n < 2^128
 dn:M.dst.n < 2^128
theorem FP(hU:EN){M m:Mt}(hM:zI M)(hs:M.asks.testBit 1=true→gr M.src.v M.src.n M.src.k=true)(hd:M.asks.testBit 2=true→gr M.dst.v M.dst.n M.dst.k=true){k:Nat}(hk:k < 6)(hb:M.asks.testBit k=true){ws:List Bs}{i:Nat}{y:Bs}(hy:(bF M k)[1]?=some y)(h:ws[i]?=some y):br k m ws i=.ok (Ji M m k) (i+1):=by
 match k,hk with
 | 0,_=>cases hy;unfold br;rw[vy h hM.i1 hM.i2];rfl
 | 1,_=>cases hy;unfold br;rw[prefix_at hU h hM.sn (hs hb)];rfl
 | 2,_=>cases hy;unfold br;rw[prefix_at hU h hM.dn (hd hb)];rfl
 | 3,_=>cases hy;unfold br;rw[F1 h hM.pr];rfl
 | 4,_=>cases hy;unfold br;rw[vy h hM.s1 hM.s2];rfl
 | 5,_=>cases hy;unfold br;rw[vy h hM.d1 hM.d2];rfl
theorem oV(M:Mt){k:Nat}(hk:k < 6):∃x y,bF M k=[x,y]∧tf x=some k:=by
 match k,hk with
 | 0,_=>exact⟨_,_,rfl,by decide⟩
 | 1,_=>exact⟨_,_,rfl,by decide⟩
 | 2,_=>exact⟨_,_,rfl,by decide⟩
 | 3,_=>exact⟨_,_,rfl,by decide⟩
 | 4,_=>exact⟨_,_,rfl,by decide⟩
 | 5,_=>exact⟨_,_,rfl,by decide⟩
theorem pF(M m:Mt)(k:Nat):(Ji M m k).asks=m.asks:=by unfold Ji;split<;>rfl
theorem yQ(hU:EN){M m:Mt}(hM:zI M)(hs:M.asks.testBit 1=true→gr M.src.v M.src.n M.src.k=true)(hd:M.asks.testBit 2=true→gr M.dst.v M.dst.n M.dst.k=true){k:Nat}(hk:k < 6)(hb:M.asks.testBit k=true)(hm:m.asks.testBit k=false){pre r:List Bs}:bp (pre++(bF M k++r)) pre.length m=.ok (true,fX M m k) (pre.length+2):=by
 obtain⟨x,y,e,hx⟩:=oV M hk
 have h0:(pre++(bF M k++r))[pre.length]?=some x:=by rw[e];simp
 have h1:(pre++(bF M k++r))[pre.length+1]?=some y:=by rw[e,List.getElem?_append_right (by omega)];simp
 unfold bp
 rw[h0]
 show(match tf x with|none=>_|some k=>_)=_
 rw[hx]
 show(match m.asks.testBit k with|true=>_|false=>_)=_
 rw[hm]
 show(br k { m with asks:=m.asks|||2^k } _ (pre.length+1)).bind _=_
 rw[FP hU hM hs hd hk hb (y:=y) (by rw[e];rfl) h1]
 rfl
def O4(r:List Bs):Prop:=∀x,r[0]?=some x→tf x=none
theorem yO{pre r:List Bs}{m:Mt}(h:O4 r):bp (pre++r) pre.length m=.ok (false,m) pre.length:=by
 unfold bp
 have e:(pre++r)[pre.length]?=r[0]?:=by rw[List.getElem?_append_right (by omega),Nat.sub_self]
 rw[e]
 cases hx:r[0]? with
 |none=>rfl
 |some x=>
  show(match tf x with|none=>_|some k=>_)=_
  rw[h x hx]
theorem oA{a k j:Nat}(h:j≠k):(a|||2^k).testBit j=a.testBit j:=by
 rw[Nat.testBit_or,Nat.testBit_two_pow_of_ne (Ne.symm h),Bool.or_false]
theorem uZ(hU:EN){M:Mt}(hM:zI M)(hs:M.asks.testBit 1=true→gr M.src.v M.src.n M.src.k=true)(hd:M.asks.testBit 2=true→gr M.dst.v M.dst.n M.dst.k=true){r:List Bs}(hr:O4 r) :
  ∀(ks:List Nat) (pre:List Bs) (m:Mt) (f:Nat),(∀k∈ks,k < 6∧M.asks.testBit k=true∧m.asks.testBit k=false)→ks.Nodup→ks.length+1≤f→
   ei (pre++(ks.flatMap (bF M)++r)) f pre.length m=.ok (ks.foldl (fX M) m) (pre.length+2*ks.length)
 | [],pre,m,f+1,_,_,_=>by
  unfold ei
  rw[show pre++(([]:List Nat).flatMap (bF M)++r)=pre++r by simp,yO hr]
  rfl
 |k::ks,pre,m,f+1,h,hn,hf=>by
  have hk:=h k (by simp)
  rw[List.nodup_cons]at hn
  unfold ei
  have e:pre++((k::ks).flatMap (bF M)++r)=pre++(bF M k++(ks.flatMap (bF M)++r)):=by simp
  rw[e,yQ hU hM hs hd hk.1 hk.2.1 hk.2.2]
  obtain⟨x,y,e2,_⟩:=oV M hk.1
  have hl:(bF M k).length=2:=by rw[e2];rfl
  have ih:=uZ hU hM hs hd hr ks (pre++bF M k) (fX M m k) f (fun j hj=>by
   have h1:=h j (List.mem_cons_of_mem _ hj)
   refine⟨h1.1,h1.2.1,?_⟩
   unfold fX
   rw[pF]
   show(m.asks|||2^k).testBit j=false
   rw[oA (show j≠k from fun he=>hn.1 (by rw[←he];exact hj))]
   exact h1.2.2) hn.2 (by simp only[List.length_cons]at hf;omega)
  have hpl:(pre++bF M k).length=pre.length+2:=by rw[List.length_append,hl]
  rw[List.append_assoc,hpl]at ih
  show ei _ f (pre.length+2) (fX M m k)=_
  rw[ih]
  simp only[List.foldl_cons,List.length_cons]
  congr 1
  omega
 |_,_,_,0,_,_,hf=>by omega
def kY(M:Mt):List Nat:=[0,1,2,3,4,5].filter fun k=>M.asks.testBit k
theorem qD(M:Mt):∀l:List Nat,l.flatMap (lR M)=(l.filter fun k=>M.asks.testBit k).flatMap (bF M)
 | []=>rfl
 |k::l=>by
  rw[List.flatMap_cons,qD M l,List.filter_cons]
  unfold lR
  cases M.asks.testBit k<;>simp
theorem nR(M:Mt):fJ M=(kY M).flatMap (bF M):=by
 unfold kY
 rw[←qD]
 simp[fJ]
theorem jc{M:Mt}{k:Nat}(h:k∈kY M):k < 6∧M.asks.testBit k=true:=by
 unfold kY at h
 rw[List.mem_filter]at h
 refine⟨?_,h.2⟩
 have:=h.1
 simp at this
 omega
theorem yq(M:Mt):(kY M).Nodup:=by
 unfold kY
 exact List.Pairwise.filter _ (by decide:([0,1,2,3,4,5]:List Nat).Nodup)
theorem Gk{a b:Mt}(h0:a.asks=b.asks)(h1:a.fU=b.fU)(h2:a.src=b.src)(h3:a.dst=b.dst)(h4:a.bS=b.bS)(h5:a.sp=b.sp)(h6:a.dp=b.dp):a=b:=by
 cases a;cases b;simp_all
theorem uV(M:Mt):∀(ks:List Nat) (m:Mt),(ks.foldl (fX M) m).asks=ks.foldl (fun a k=>a|||2^k) m.asks
 | [],_=>rfl
 |k::ks,m=>by
  rw[List.foldl_cons,List.foldl_cons,uV M ks]
  unfold fX
  rw[pF]
theorem zr:∀a:Fin 64,([0,1,2,3,4,5].filter fun k=>a.val.testBit k).foldl (fun a k=>a|||2^k) 0=a.val:=by decide+kernel
theorem uU{α:Type}(M:Mt)(f:Mt→α)(j:Nat)(h1:∀m,f (fX M m j)=f M)(h2:∀m k,k < 6→k≠j→f (fX M m k)=f m):∀(ks:List Nat) (m:Mt),(∀k∈ks,k < 6)→ks.Nodup→(j∈ks→f (ks.foldl (fX M) m)=f M)∧(j∉ks→f (ks.foldl (fX M) m)=f m)
 | [],m,_,_=>⟨fun h=>absurd h (by simp),fun _=>rfl⟩
 |k::ks,m,hk,hn=>by
  rw[List.nodup_cons]at hn
  have ih:=uU M f j h1 h2 ks (fX M m k) (fun x hx=>hk x (List.mem_cons_of_mem _ hx)) hn.2
  rw[List.foldl_cons]
  by_cases he:k=j
  ·subst he
   refine⟨fun _=>?_,fun h=>absurd (List.mem_cons_self) h⟩
   rw[ih.2 hn.1];exact h1 m
  ·refine⟨fun h=>ih.1 ?_,fun h=>?_⟩
   ·rcases List.mem_cons.1 h with h|h
    ·exact absurd h.symm he
    ·exact h
   ·rw[ih.2 fun hh=>h (List.mem_cons_of_mem _ hh)]
    exact h2 m k (hk k (by simp)) he
theorem Gq{M:Mt}{k:Nat}(hk:k < 6):k∈kY M↔M.asks.testBit k=true:=by
 unfold kY
 rw[List.mem_filter]
 refine⟨fun h=>h.2,fun h=>⟨?_,h⟩⟩
 simp;omega
theorem FX{p:Px}(h:zL p=true):p=ow:=by
 unfold zL at h
 have:=of_decide_eq_true h
 cases p
 simp_all[ow]
theorem ML{M:Mt}(ha:M.asks < 64)(z0:M.asks.testBit 0=false→M.fU=(0,0))(z1:M.asks.testBit 1=false→M.src=ow)(z2:M.asks.testBit 2=false→M.dst=ow)(z3:M.asks.testBit 3=false→M.bS=0)(z4:M.asks.testBit 4=false→M.sp=(0,0))(z5:M.asks.testBit 5=false→M.dp=(0,0)):(kY M).foldl (fX M) fL=M:=by
 have part:∀{α:Type} (f:Mt→α) (j:Nat),j < 6→(∀m,f (fX M m j)=f M)→(∀m k,k < 6→k≠j→f (fX M m k)=f m)→(M.asks.testBit j=false→f M=f fL)→f ((kY M).foldl (fX M) fL)=f M:=fun f j hj h1 h2 h3=>by
  have:=uU M f j h1 h2 (kY M) fL (fun k hk=>(jc hk).1) (yq M)
  cases hb:M.asks.testBit j with
  |true=>exact this.1 ((Gq hj).2 hb)
  |false=>rw[this.2 (fun hh=>by rw[(Gq hj).1 hh]at hb;cases hb)];exact(h3 hb).symm
 have cas:∀{P:Nat→Prop} (j:Nat),(∀k,k < 6→k≠j→P k)→∀k,k < 6→k≠j→P k:=fun _ h=>h
 refine Gk ?_ (part (·.fU) 0 (by omega) (fun _=>rfl) (fun m k hk hj=>?_) z0) (part (·.src) 1 (by omega) (fun _=>rfl) (fun m k hk hj=>?_) z1) (part (·.dst) 2 (by omega) (fun _=>rfl) (fun m k hk hj=>?_) z2) (part (·.bS) 3 (by omega) (fun _=>rfl) (fun m k hk hj=>?_) z3) (part (·.sp) 4 (by omega) (fun _=>rfl) (fun m k hk hj=>?_) z4) (part (·.dp) 5 (by omega) (fun _=>rfl) (fun m k hk hj=>?_) z5)
 ·rw[uV]
  exact zr ⟨M.asks,ha⟩
 all_goals (match k,hk,hj with
  | 0,_,hj=>first|rfl|exact absurd rfl hj
  | 1,_,hj=>first|rfl|exact absurd rfl hj
  | 2,_,hj=>first|rfl|exact absurd rfl hj
  | 3,_,hj=>first|rfl|exact absurd rfl hj
  | 4,_,hj=>first|rfl|exact absurd rfl hj
  | 5,_,hj=>first|rfl|exact absurd rfl hj)
theorem mq{M:Mt}(h:bj M=true):M.asks < 64∧(M.asks.testBit 0=false→M.fU=(0,0))∧(M.asks.testBit 1=false→M.src=ow)∧(M.asks.testBit 2=false→M.dst=ow)∧(M.asks.testBit 3=false→M.bS=0)∧(M.asks.testBit 4=false→M.sp=(0,0))∧(M.asks.testBit 5=false→M.dp=(0,0))∧
  (M.asks.testBit 1=true→gr M.src.v M.src.n M.src.k=true)∧(M.asks.testBit 2=true→gr M.dst.v M.dst.n M.dst.k=true):=by
 unfold bj at h
 simp only[Bool.and_eq_true]at h
 obtain⟨⟨h0,h1,h2,h3,h4,h5,h6⟩,⟨_,_,_,_⟩,⟨g1,g2,_⟩,_⟩:=h
 refine⟨by simpa using h0,fun hb=>?_,fun hb=>?_,fun hb=>?_,fun hb=>?_,fun hb=>?_,fun hb=>?_,fun hb=>?_,fun hb=>?_⟩
 ·rw[hb]at h1;exact of_decide_eq_true h1
 ·rw[hb]at h2;exact FX h2
 ·rw[hb]at h3;exact FX h3
 ·rw[hb]at h4;exact of_decide_eq_true h4
 ·rw[hb]at h5;exact of_decide_eq_true h5
 ·rw[hb]at h6;exact of_decide_eq_true h6
 ·rw[hb]at g1;exact g1
 ·rw[hb]at g2;exact g2
def qX(M:Mt):List Bs:=if M.asks=0 then [kZ] else fJ M
theorem sE(M:Mt):eK M=aJ 32 (qX M):=by unfold eK qX;split<;>rfl
theorem LD{M:Mt}(h0:M.asks≠0)(h:M.asks < 64):kY M≠[]:=fun he=>by
 have:=zr ⟨M.asks,h⟩
 have he':([0,1,2,3,4,5].filter fun k=>M.asks.testBit k)=[]:=he
 rw[he']at this
 exact h0 this.symm
theorem Kz:tf kZ=none:=by decide
theorem xY(hU:EN){M:Mt}(hM:zI M)(hc:bj M=true){pre r:List Bs}(hr:O4 r):dR (pre++(qX M++r)) pre.length=.ok M (pre.length+(qX M).length):=by
 obtain⟨ha,z0,z1,z2,z3,z4,z5,hs,hd⟩:=mq hc
 unfold dR
 by_cases h0:M.asks=0
 ·have e:qX M=[kZ]:=by unfold qX;rw[if_pos h0]
  rw[e,jw (by simp)]
  have:M=fL:=by
   refine Gk h0 (z0 (by rw[h0];rfl)) (z1 (by rw[h0];rfl)) (z2 (by rw[h0];rfl)) (z3 (by rw[h0];rfl)) (z4 (by rw[h0];rfl)) (z5 (by rw[h0];rfl))
  rw[this];rfl
 ·have e:qX M=(kY M).flatMap (bF M):=by unfold qX;rw[if_neg h0,nR]
  rw[e]
  obtain⟨k,ks,hks⟩:=List.exists_cons_of_ne_nil (LD h0 ha)
  have hkm:k∈kY M:=by rw[hks];simp
  obtain⟨x,y,e2,hx⟩:=oV M (jc hkm).1
  have hat:(pre++((kY M).flatMap (bF M)++r))[pre.length]?=some x:=by
   rw[hks,List.flatMap_cons,e2,List.getElem?_append_right (by omega)];simp
  rw[iV (by rw[hat];intro hh;rw[Option.some.inj hh]at hx;rw[Kz]at hx;cases hx)]
  show(bp (pre++((kY M).flatMap (bF M)++r)) pre.length fL).bind _=_
  have e3:pre++((kY M).flatMap (bF M)++r)=pre++(bF M k++(ks.flatMap (bF M)++r)):=by rw[hks];simp
  have nb:∀j,fL.asks.testBit j=false:=fun j=>Nat.zero_testBit j
  have hn:=yq M
  rw[hks,List.nodup_cons]at hn
  have hf:=yQ hU (m:=fL) hM hs hd (jc hkm).1 (jc hkm).2 (nb k) (pre:=pre) (r:=ks.flatMap (bF M)++r)
  have hlen2:(bF M k).length=2:=by rw[e2];rfl
  have hll:∀l:List Nat,(∀j∈l,j < 6)→(l.flatMap (bF M)).length=2*l.length:=by
   intro l
   induction l with
   |nil=>intro _;rfl
   |cons j l ih=>
    intro hj
    obtain⟨_,_,e4,_⟩:=oV M (hj j (by simp))
    rw[List.flatMap_cons,List.length_append,ih (fun i hi=>hj i (List.mem_cons_of_mem _ hi)),e4]
    simp only[List.length_cons,List.length_nil];omega
  have hm:=uZ hU hM hs hd hr ks (pre++bF M k) (fX M fL k) ((pre++((kY M).flatMap (bF M)++r)).length+1 - (pre.length+2)) (fun j hj=>by
   have hj2:j∈kY M:=by rw[hks];exact List.mem_cons_of_mem _ hj
   refine⟨(jc hj2).1,(jc hj2).2,?_⟩
   unfold fX
   rw[pF]
   show(fL.asks|||2^k).testBit j=false
   rw[oA (show j≠k from fun he=>hn.1 (by rw[←he];exact hj))]
   exact nb j) hn.2 (by
    rw[e3]
    simp only[List.length_append,hlen2,hll ks (fun j hj=>(jc (M:=M) (by rw[hks];exact List.mem_cons_of_mem _ hj)).1)]
    omega)
  have hpl:(pre++bF M k).length=pre.length+2:=by rw[List.length_append,hlen2]
  rw[List.append_assoc,←e3,hpl]at hm
  rw[←e3]at hf
  rw[hf]
  show ei _ _ (pre.length+2) (fX M fL k)=_
  rw[hm,hll _ (fun j hj=>(jc hj).1),hks]
  have:=ML ha z0 z1 z2 z3 z4 z5
  rw[hks,List.foldl_cons]at this
  rw[this]
  simp only[List.length_cons]
  congr 1
  omega
end Go.Proofs.YtnncigmpcdehnaaGreatDoor
