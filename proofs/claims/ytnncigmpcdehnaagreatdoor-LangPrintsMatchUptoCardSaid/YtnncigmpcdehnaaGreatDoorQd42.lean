import Derived.Test.YtnncigmpcdehnaaGreatDoorQd41
namespace Go.Proofs.YtnncigmpcdehnaaGreatDoor
set_option maxRecDepth 100000
open Go Go.RowKit Go.Lib Go.Sort
def wP:Px:=⟨false,10*2^120,8⟩
def wQ:Mt:=⟨40,(0,0),nz,nz,6,(0,0),(80,90)⟩
def cW:CF:=⟨[3,4],[⟨wP,3⟩],[⟨[97],wQ,3,4,[109],[99]⟩,⟨[98],lz,2,0,[],[]⟩],[⟨[109],5,2,9⟩],[⟨[99],4,16⟩],1⟩
def PY(cf:CF)(l:List Sx.SV)(mem:List Sx.Row):Prop:=∃k0 k1 k2 k3 k4,l=[.dV [.o k0,.o k1,.o k2,.o k3,.o k4,.v (.int .i64 cf.br)]]∧mem[k0]?=some ⟨3,.own 1 cf.ai.length cf.cp⟩∧mem[k1]?=some ⟨118,.own 19 cf.ae.length cf.cr⟩∧mem[k2]?=some ⟨81,.own 49 cf.rules.length cf.cl⟩∧mem[k3]?=some ⟨122,.own 4 cf.af.length cf.cm⟩∧mem[k4]?=some ⟨124,.own 3 cf.aa.length cf.ci⟩
theorem Ek(w:World):Calls Tryz.prog 67 #[] w (Sx.cd ⟨w,[],fun _ _=>False⟩ (PY cW)):=by
 have z0:PY cW [.dV [.o 3,.o 4,.o 7,.o 5,.o 6,.v (.int .i64 1)]] [⟨46,.dA [.own 3,.own 4,.own 7,.own 5,.own 6,.val (.int .i64 1)]⟩,⟨29,.aj wP.cells⟩,⟨66,.aj wQ.cells⟩,⟨3,.own 1 2 cW.cp⟩,⟨118,.own 19 1 cW.cr⟩,⟨122,.own 4 1 cW.cm⟩,⟨124,.own 3 1 cW.ci⟩,⟨81,.own 49 2 cW.cl⟩]:=⟨3,4,7,5,6,rfl,rfl,rfl,rfl,rfl,rfl⟩
 refine Sx.aY (args:=[]) (ec w) [(9,.gL 3 1),(12,.gL 118 19),(15,.gL 122 4),(17,.gL 124 3),(21,.gL 81 49)] [] (by kernel_rfl) Tryz.func67 rfl (Nat.le_of_ble_eq_true rfl) rfl ?_
 exact Eq.mp (by kernel_rfl) z0
open Go.RowKit Go.Lib Go.Sort
def IH:Prop:=∀p:Px,p.n < 2^128→fA p.v p.n p.k=true→pZ (qV p)=some p
theorem nc(n:Nat):gh (ak 10 n)=n:=iV (by omega) (by omega) n
theorem oc{most n:Nat}(h:n≤most):cD most (ak 10 n)=true:=by
 unfold cD
 rw[nc,decide_eq_true h,decide_eq_true rfl];rfl
theorem gX{ws:List Bs}{i:Nat}{x:Bs}(h:ws[i]?=some x):aR ws i=.ok x (i+1):=by unfold aR;rw[h]
theorem j7{ws:List Bs}{i n most:Nat}(h:ws[i]?=some (ak 10 n))(hn:n≤most):bn most ws i=.ok n (i+1):=by
 unfold bn
 rw[gX h]
 show ax (cD most (ak 10 n)) 200 (gh (ak 10 n)) (i+1)=_
 rw[oc hn,nc];rfl
theorem uY{n:Int}(h:0≤n):cE n=ak 10 n.toNat:=by unfold cE;rw[if_neg (by omega)]
theorem s5{ws:List Bs}{i:Nat}{n:Int}(h:ws[i]?=some (cE n))(h0:0≤n)(hn:n≤9223372036854775807):il ws i=.ok n.toNat (i+1):=
 j7 (by rw[h,uY h0]) (by omega)
theorem rp{ws:List Bs}{i:Nat}{x:Bs}(h:ws[i]?=some x)(hx:aE x=true):fG ws i=.ok x (i+1):=by
 unfold fG
 rw[gX h]
 show ax (aE x) 201 x (i+1)=_
 rw[hx];rfl
theorem prefix_at(hU:IH){ws:List Bs}{i:Nat}{p:Px}(h:ws[i]?=some (qV p))(hn:p.n < 2^128)(hk:fA p.v p.n p.k=true):dB ws i=.ok p (i+1):=by
 unfold dB
 rw[gX h]
 show ax (pZ (qV p)).isSome 151 ((pZ (qV p)).getD nz) (i+1)=_
 rw[hU p hn hk];rfl
theorem vm(u:Nat):(45:UInt8)∉ak 10 u:=iT (by omega) (by omega) (.inl (by decide))
theorem Hz(l m:List UInt8)(h:(45:UInt8)∉l):Lib.cut (l++45::m) [45]=(l,m,true):=by
 unfold Lib.cut
 rw[ou 45 l m h,if_pos (by omega)]
 simp only[Int.toNat_natCast]
 rw[List.take_left' rfl]
 congr 2
 rw[show l++45::m=(l++[45])++m by simp]
 exact List.drop_left' (by simp)
theorem Bn(s:List UInt8)(h:(45:UInt8)∉s):Lib.cut s [45]=(s,[],false):=by
 unfold Lib.cut
 rcases Lib.index_spec s [45]with⟨h1,_⟩ | ⟨i,_,_,h3,_⟩
 ·rw[h1];rfl
 ·exact absurd (List.mem_of_getElem? ((Cs s 45 i).1 h3)) h
theorem Jk(s:Nat×Nat):eF (cX s)=(ak 10 s.1,ak 10 s.2):=by
 unfold eF cX
 by_cases h:s.1=s.2
 ·rw[if_pos h,Bn _ (vm _),←h]
 ·rw[if_neg h,Hz _ _ (vm _)]
theorem vE{ws:List Bs}{i:Nat}{s:Nat×Nat}(h:ws[i]?=some (cX s))(h1:s.1≤65535)(h2:s.2≤65535):iF ws i=.ok s (i+1):=by
 unfold iF
 rw[gX h]
 show ax (cD 65535 (eF (cX s)).1&&cD 65535 (eF (cX s)).2) 200 (gh (eF (cX s)).1,gh (eF (cX s)).2) (i+1)=_
 rw[Jk]
 show ax (cD 65535 (ak 10 s.1)&&cD 65535 (ak 10 s.2)) 200 (gh (ak 10 s.1),gh (ak 10 s.2)) (i+1)=_
 rw[oc h1,oc h2,nc,nc];rfl
theorem jw{ws:List Bs}{i:Nat}{s:Bs}(h:ws[i]?=some s):dt ws i s=.ok true (i+1):=by unfold dt;rw[if_pos h]
theorem iX{ws:List Bs}{i:Nat}{s:Bs}(h:ws[i]?≠some s):dt ws i s=.ok false i:=by unfold dt;rw[if_neg h]
theorem tD(u:Nat)(c:UInt8)(l:Bs)(h:¬(48≤c.toNat∧c.toNat≤57)):ak 10 u≠c::l:=fun he=>by
 obtain⟨d,hd,hc⟩:=ko (b:=10) (by omega) u c (by rw[he];simp)
 rw[hc,gU (by omega),if_pos hd]at h
 omega
theorem Gc{ws:List Bs}{i n:Nat}(h:ws[i]?=some (cQ n))(hn:n≤255):dR ws i=.ok n (i+1):=by
 unfold dR
 by_cases h6:n=6
 ·have:cQ n=oo:=by unfold cQ;rw[if_pos h6]
  rw[jw (by rw[h,this]),h6];rfl
 ·by_cases h17:n=17
  ·have e:cQ n=ph:=by unfold cQ;rw[if_neg h6,if_pos h17]
   rw[iX (by rw[h,e];decide)]
   show(dt ws i ph).bind _=_
   rw[jw (by rw[h,e]),h17];rfl
  ·have e:cQ n=ak 10 n:=by unfold cQ;rw[if_neg h6,if_neg h17]
   rw[e]at h
   rw[iX (by rw[h];exact fun hh=>tD n 116 _ (by decide) (Option.some.inj hh))]
   show(dt ws i ph).bind _=_
   rw[iX (by rw[h];exact fun hh=>tD n 117 _ (by decide) (Option.some.inj hh))]
   exact j7 h hn
def Jm(M m:Mt)(k:Nat):Mt:=match k with
 | 0=>{ m with eQ:=M.eQ }
 | 1=>{ m with src:=M.src }
 | 2=>{ m with dst:=M.dst }
 | 3=>{ m with aV:=M.aV }
 | 4=>{ m with sp:=M.sp }
 |_=>{ m with dp:=M.dp }
def fX(M m:Mt)(k:Nat):Mt:=Jm M { m with asks:=m.asks|||2^k } k
structure BJ(M:Mt):Prop where
 i1:M.eQ.1≤65535
 i2:M.eQ.2≤65535
 s1:M.sp.1≤65535
 s2:M.sp.2≤65535
 d1:M.dp.1≤65535
 d2:M.dp.2≤65535
 pr:M.aV≤255
 sn:M.src.n < 2^128
 dn:M.dst.n < 2^128
theorem FZ(hU:IH){M m:Mt}(hM:BJ M)(hs:M.asks.testBit 1=true→fA M.src.v M.src.n M.src.k=true)(hd:M.asks.testBit 2=true→fA M.dst.v M.dst.n M.dst.k=true){k:Nat}(hk:k < 6)(hb:M.asks.testBit k=true){ws:List Bs}{i:Nat}{y:Bs}(hy:(bG M k)[1]?=some y)(h:ws[i]?=some y):bh k m ws i=.ok (Jm M m k) (i+1):=by
 match k,hk with
 | 0,_=>cases hy;unfold bh;rw[vE h hM.i1 hM.i2];rfl
 | 1,_=>cases hy;unfold bh;rw[prefix_at hU h hM.sn (hs hb)];rfl
 | 2,_=>cases hy;unfold bh;rw[prefix_at hU h hM.dn (hd hb)];rfl
 | 3,_=>cases hy;unfold bh;rw[Gc h hM.pr];rfl
 | 4,_=>cases hy;unfold bh;rw[vE h hM.s1 hM.s2];rfl
 | 5,_=>cases hy;unfold bh;rw[vE h hM.d1 hM.d2];rfl
theorem pw(M:Mt){k:Nat}(hk:k < 6):∃x y,bG M k=[x,y]∧tr x=some k:=by
 match k,hk with
 | 0,_=>exact⟨_,_,rfl,by decide⟩
 | 1,_=>exact⟨_,_,rfl,by decide⟩
 | 2,_=>exact⟨_,_,rfl,by decide⟩
 | 3,_=>exact⟨_,_,rfl,by decide⟩
 | 4,_=>exact⟨_,_,rfl,by decide⟩
 | 5,_=>exact⟨_,_,rfl,by decide⟩
theorem pX(M m:Mt)(k:Nat):(Jm M m k).asks=m.asks:=by unfold Jm;split<;>rfl
theorem zd(hU:IH){M m:Mt}(hM:BJ M)(hs:M.asks.testBit 1=true→fA M.src.v M.src.n M.src.k=true)(hd:M.asks.testBit 2=true→fA M.dst.v M.dst.n M.dst.k=true){k:Nat}(hk:k < 6)(hb:M.asks.testBit k=true)(hm:m.asks.testBit k=false){pre r:List Bs}:a7 (pre++(bG M k++r)) pre.length m=.ok (true,fX M m k) (pre.length+2):=by
 obtain⟨x,y,e,hx⟩:=pw M hk
 have h0:(pre++(bG M k++r))[pre.length]?=some x:=by rw[e];simp
 have h1:(pre++(bG M k++r))[pre.length+1]?=some y:=by rw[e,List.getElem?_append_right (by omega)];simp
 unfold a7
 rw[h0]
 show(match tr x with|none=>_|some k=>_)=_
 rw[hx]
 show(match m.asks.testBit k with|true=>_|false=>_)=_
 rw[hm]
 show(bh k { m with asks:=m.asks|||2^k } _ (pre.length+1)).bind _=_
 rw[FZ hU hM hs hd hk hb (y:=y) (by rw[e];rfl) h1]
 rfl
def O0(r:List Bs):Prop:=∀x,r[0]?=some x→tr x=none
theorem zb{pre r:List Bs}{m:Mt}(h:O0 r):a7 (pre++r) pre.length m=.ok (false,m) pre.length:=by
 unfold a7
 have e:(pre++r)[pre.length]?=r[0]?:=by rw[List.getElem?_append_right (by omega),Nat.sub_self]
 rw[e]
 cases hx:r[0]? with
 |none=>rfl
 |some x=>
  show(match tr x with|none=>_|some k=>_)=_
  rw[h x hx]
theorem oK{a k j:Nat}(h:j≠k):(a|||2^k).testBit j=a.testBit j:=by
 rw[Nat.testBit_or,Nat.testBit_two_pow_of_ne (Ne.symm h),Bool.or_false]
theorem vg(hU:IH){M:Mt}(hM:BJ M)(hs:M.asks.testBit 1=true→fA M.src.v M.src.n M.src.k=true)(hd:M.asks.testBit 2=true→fA M.dst.v M.dst.n M.dst.k=true){r:List Bs}(hr:O0 r) :
  ∀(ks:List Nat) (pre:List Bs) (m:Mt) (f:Nat),(∀k∈ks,k < 6∧M.asks.testBit k=true∧m.asks.testBit k=false)→ks.Nodup→ks.length+1≤f→
   ee (pre++(ks.flatMap (bG M)++r)) f pre.length m=.ok (ks.foldl (fX M) m) (pre.length+2*ks.length)
 | [],pre,m,f+1,_,_,_=>by
  unfold ee
  rw[show pre++(([]:List Nat).flatMap (bG M)++r)=pre++r by simp,zb hr]
  rfl
 |k::ks,pre,m,f+1,h,hn,hf=>by
  have hk:=h k (by simp)
  rw[List.nodup_cons]at hn
  unfold ee
  have e:pre++((k::ks).flatMap (bG M)++r)=pre++(bG M k++(ks.flatMap (bG M)++r)):=by simp
  rw[e,zd hU hM hs hd hk.1 hk.2.1 hk.2.2]
  obtain⟨x,y,e2,_⟩:=pw M hk.1
  have hl:(bG M k).length=2:=by rw[e2];rfl
  have ih:=vg hU hM hs hd hr ks (pre++bG M k) (fX M m k) f (fun j hj=>by
   have h1:=h j (List.mem_cons_of_mem _ hj)
   refine⟨h1.1,h1.2.1,?_⟩
   unfold fX
   rw[pX]
   show(m.asks|||2^k).testBit j=false
   rw[oK (show j≠k from fun he=>hn.1 (by rw[←he];exact hj))]
   exact h1.2.2) hn.2 (by simp only[List.length_cons]at hf;omega)
  have hpl:(pre++bG M k).length=pre.length+2:=by rw[List.length_append,hl]
  rw[List.append_assoc,hpl]at ih
  show ee _ f (pre.length+2) (fX M m k)=_
  rw[ih]
  simp only[List.foldl_cons,List.length_cons]
  congr 1
  omega
 |_,_,_,0,_,_,hf=>by omega
def kX(M:Mt):List Nat:=[0,1,2,3,4,5].filter fun k=>M.asks.testBit k
theorem qN(M:Mt):∀l:List Nat,l.flatMap (ig M)=(l.filter fun k=>M.asks.testBit k).flatMap (bG M)
 | []=>rfl
 |k::l=>by
  rw[List.flatMap_cons,qN M l,List.filter_cons]
  unfold ig
  cases M.asks.testBit k<;>simp
theorem oe(M:Mt):iK M=(kX M).flatMap (bG M):=by
 unfold kX
 rw[←qN]
 simp[iK]
theorem jf{M:Mt}{k:Nat}(h:k∈kX M):k < 6∧M.asks.testBit k=true:=by
 unfold kX at h
 rw[List.mem_filter]at h
 refine⟨?_,h.2⟩
 have:=h.1
 simp at this
 omega
theorem yL(M:Mt):(kX M).Nodup:=by
 unfold kX
 exact List.Pairwise.filter _ (by decide:([0,1,2,3,4,5]:List Nat).Nodup)
theorem Gv{a b:Mt}(h0:a.asks=b.asks)(h1:a.eQ=b.eQ)(h2:a.src=b.src)(h3:a.dst=b.dst)(h4:a.aV=b.aV)(h5:a.sp=b.sp)(h6:a.dp=b.dp):a=b:=by
 cases a;cases b;simp_all
theorem vd(M:Mt):∀(ks:List Nat) (m:Mt),(ks.foldl (fX M) m).asks=ks.foldl (fun a k=>a|||2^k) m.asks
 | [],_=>rfl
 |k::ks,m=>by
  rw[List.foldl_cons,List.foldl_cons,vd M ks]
  unfold fX
  rw[pX]
theorem zK:∀a:Fin 64,([0,1,2,3,4,5].filter fun k=>a.val.testBit k).foldl (fun a k=>a|||2^k) 0=a.val:=by decide+kernel
theorem vc{α:Type}(M:Mt)(f:Mt→α)(j:Nat)(h1:∀m,f (fX M m j)=f M)(h2:∀m k,k < 6→k≠j→f (fX M m k)=f m):∀(ks:List Nat) (m:Mt),(∀k∈ks,k < 6)→ks.Nodup→(j∈ks→f (ks.foldl (fX M) m)=f M)∧(j∉ks→f (ks.foldl (fX M) m)=f m)
 | [],m,_,_=>⟨fun h=>absurd h (by simp),fun _=>rfl⟩
 |k::ks,m,hk,hn=>by
  rw[List.nodup_cons]at hn
  have ih:=vc M f j h1 h2 ks (fX M m k) (fun x hx=>hk x (List.mem_cons_of_mem _ hx)) hn.2
  rw[List.foldl_cons]
  by_cases he:k=j
  ·subst he
   refine⟨fun _=>?_,fun h=>absurd (List.mem_cons_self) h⟩
   rw[ih.2 hn.1];exact h1 m
  ·refine⟨fun h=>ih.1 ?_,fun h=>?_⟩
   ·rcases List.mem_cons.1 h with h|h
    ·exact absurd h.symm he
    ·exact h
   ·rw[ih.2 fun hh=>h (List.mem_cons_of_mem _ hh)]
    exact h2 m k (hk k (by simp)) he
theorem GA{M:Mt}{k:Nat}(hk:k < 6):k∈kX M↔M.asks.testBit k=true:=by
 unfold kX
 rw[List.mem_filter]
 refine⟨fun h=>h.2,fun h=>⟨?_,h⟩⟩
 simp;omega
theorem F8{p:Px}(h:Ad p=true):p=nz:=by
 unfold Ad at h
 have:=of_decide_eq_true h
 cases p
 simp_all[nz]
theorem MO{M:Mt}(ha:M.asks < 64)(z0:M.asks.testBit 0=false→M.eQ=(0,0))(z1:M.asks.testBit 1=false→M.src=nz)(z2:M.asks.testBit 2=false→M.dst=nz)(z3:M.asks.testBit 3=false→M.aV=0)(z4:M.asks.testBit 4=false→M.sp=(0,0))(z5:M.asks.testBit 5=false→M.dp=(0,0)):(kX M).foldl (fX M) lz=M:=by
 have part:∀{α:Type} (f:Mt→α) (j:Nat),j < 6→(∀m,f (fX M m j)=f M)→(∀m k,k < 6→k≠j→f (fX M m k)=f m)→(M.asks.testBit j=false→f M=f lz)→f ((kX M).foldl (fX M) lz)=f M:=fun f j hj h1 h2 h3=>by
  have:=vc M f j h1 h2 (kX M) lz (fun k hk=>(jf hk).1) (yL M)
  cases hb:M.asks.testBit j with
  |true=>exact this.1 ((GA hj).2 hb)
  |false=>rw[this.2 (fun hh=>by rw[(GA hj).1 hh]at hb;cases hb)];exact(h3 hb).symm
 have cas:∀{P:Nat→Prop} (j:Nat),(∀k,k < 6→k≠j→P k)→∀k,k < 6→k≠j→P k:=fun _ h=>h
 refine Gv ?_ (part (·.eQ) 0 (by omega) (fun _=>rfl) (fun m k hk hj=>?_) z0) (part (·.src) 1 (by omega) (fun _=>rfl) (fun m k hk hj=>?_) z1) (part (·.dst) 2 (by omega) (fun _=>rfl) (fun m k hk hj=>?_) z2) (part (·.aV) 3 (by omega) (fun _=>rfl) (fun m k hk hj=>?_) z3) (part (·.sp) 4 (by omega) (fun _=>rfl) (fun m k hk hj=>?_) z4) (part (·.dp) 5 (by omega) (fun _=>rfl) (fun m k hk hj=>?_) z5)
 ·rw[vd]
  exact zK ⟨M.asks,ha⟩
 all_goals (match k,hk,hj with
  | 0,_,hj=>first|rfl|exact absurd rfl hj
  | 1,_,hj=>first|rfl|exact absurd rfl hj
  | 2,_,hj=>first|rfl|exact absurd rfl hj
  | 3,_,hj=>first|rfl|exact absurd rfl hj
  | 4,_,hj=>first|rfl|exact absurd rfl hj
  | 5,_,hj=>first|rfl|exact absurd rfl hj)
theorem mr{M:Mt}(h:ba M=true):M.asks < 64∧(M.asks.testBit 0=false→M.eQ=(0,0))∧(M.asks.testBit 1=false→M.src=nz)∧(M.asks.testBit 2=false→M.dst=nz)∧(M.asks.testBit 3=false→M.aV=0)∧(M.asks.testBit 4=false→M.sp=(0,0))∧(M.asks.testBit 5=false→M.dp=(0,0))∧
  (M.asks.testBit 1=true→fA M.src.v M.src.n M.src.k=true)∧(M.asks.testBit 2=true→fA M.dst.v M.dst.n M.dst.k=true):=by
 unfold ba at h
 simp only[Bool.and_eq_true]at h
 obtain⟨⟨h0,h1,h2,h3,h4,h5,h6⟩,⟨_,_,_,_⟩,⟨g1,g2,_⟩,_⟩:=h
 refine⟨by simpa using h0,fun hb=>?_,fun hb=>?_,fun hb=>?_,fun hb=>?_,fun hb=>?_,fun hb=>?_,fun hb=>?_,fun hb=>?_⟩
 ·rw[hb]at h1;exact of_decide_eq_true h1
 ·rw[hb]at h2;exact F8 h2
 ·rw[hb]at h3;exact F8 h3
 ·rw[hb]at h4;exact of_decide_eq_true h4
 ·rw[hb]at h5;exact of_decide_eq_true h5
 ·rw[hb]at h6;exact of_decide_eq_true h6
 ·rw[hb]at g1;exact g1
 ·rw[hb]at g2;exact g2
def uQ(M:Mt):List Bs:=if M.asks=0 then [kZ] else iK M
theorem AW(M:Mt):dw M=ao 32 (uQ M):=by unfold dw uQ;split<;>rfl
theorem LH{M:Mt}(h0:M.asks≠0)(h:M.asks < 64):kX M≠[]:=fun he=>by
 have:=zK ⟨M.asks,h⟩
 have he':([0,1,2,3,4,5].filter fun k=>M.asks.testBit k)=[]:=he
 rw[he']at this
 exact h0 this.symm
theorem KD:tr kZ=none:=by decide
theorem GD(hU:IH){M:Mt}(hM:BJ M)(hc:ba M=true){pre r:List Bs}(hr:O0 r):fu (pre++(uQ M++r)) pre.length=.ok M (pre.length+(uQ M).length):=by
 obtain⟨ha,z0,z1,z2,z3,z4,z5,hs,hd⟩:=mr hc
 unfold fu
 by_cases h0:M.asks=0
 ·have e:uQ M=[kZ]:=by unfold uQ;rw[if_pos h0]
  rw[e,jw (by simp)]
  have:M=lz:=by
   refine Gv h0 (z0 (by rw[h0];rfl)) (z1 (by rw[h0];rfl)) (z2 (by rw[h0];rfl)) (z3 (by rw[h0];rfl)) (z4 (by rw[h0];rfl)) (z5 (by rw[h0];rfl))
  rw[this];rfl
 ·have e:uQ M=(kX M).flatMap (bG M):=by unfold uQ;rw[if_neg h0,oe]
  rw[e]
  obtain⟨k,ks,hks⟩:=List.exists_cons_of_ne_nil (LH h0 ha)
  have hkm:k∈kX M:=by rw[hks];simp
  obtain⟨x,y,e2,hx⟩:=pw M (jf hkm).1
  have hat:(pre++((kX M).flatMap (bG M)++r))[pre.length]?=some x:=by
   rw[hks,List.flatMap_cons,e2,List.getElem?_append_right (by omega)];simp
  rw[iX (by rw[hat];intro hh;rw[Option.some.inj hh]at hx;rw[KD]at hx;cases hx)]
  show(a7 (pre++((kX M).flatMap (bG M)++r)) pre.length lz).bind _=_
  have e3:pre++((kX M).flatMap (bG M)++r)=pre++(bG M k++(ks.flatMap (bG M)++r)):=by rw[hks];simp
  have nb:∀j,lz.asks.testBit j=false:=fun j=>Nat.zero_testBit j
  have hn:=yL M
  rw[hks,List.nodup_cons]at hn
  have hf:=zd hU (m:=lz) hM hs hd (jf hkm).1 (jf hkm).2 (nb k) (pre:=pre) (r:=ks.flatMap (bG M)++r)
  have hlen2:(bG M k).length=2:=by rw[e2];rfl
  have hll:∀l:List Nat,(∀j∈l,j < 6)→(l.flatMap (bG M)).length=2*l.length:=by
   intro l
   induction l with
   |nil=>intro _;rfl
   |cons j l ih=>
    intro hj
    obtain⟨_,_,e4,_⟩:=pw M (hj j (by simp))
    rw[List.flatMap_cons,List.length_append,ih (fun i hi=>hj i (List.mem_cons_of_mem _ hi)),e4]
    simp only[List.length_cons,List.length_nil];omega
  have hm:=vg hU hM hs hd hr ks (pre++bG M k) (fX M lz k) ((pre++((kX M).flatMap (bG M)++r)).length+1 - (pre.length+2)) (fun j hj=>by
   have hj2:j∈kX M:=by rw[hks];exact List.mem_cons_of_mem _ hj
   refine⟨(jf hj2).1,(jf hj2).2,?_⟩
   unfold fX
   rw[pX]
   show(lz.asks|||2^k).testBit j=false
   rw[oK (show j≠k from fun he=>hn.1 (by rw[←he];exact hj))]
   exact nb j) hn.2 (by
    rw[e3]
    simp only[List.length_append,hlen2,hll ks (fun j hj=>(jf (M:=M) (by rw[hks];exact List.mem_cons_of_mem _ hj)).1)]
    omega)
  have hpl:(pre++bG M k).length=pre.length+2:=by rw[List.length_append,hlen2]
  rw[List.append_assoc,←e3,hpl]at hm
  rw[←e3]at hf
  rw[hf]
  show ee _ _ (pre.length+2) (fX M lz k)=_
  rw[hm,hll _ (fun j hj=>(jf hj).1),hks]
  have:=MO ha z0 z1 z2 z3 z4 z5
  rw[hks,List.foldl_cons]at this
  rw[this]
  simp only[List.length_cons]
  congr 1
  omega
end Go.Proofs.YtnncigmpcdehnaaGreatDoor
