import Derived.Test.YtnncigmpcdehnaaGreatDoorQf38
namespace Go.Proofs.YtnncigmpcdehnaaGreatDoor
set_option maxRecDepth 100000
open Go Go.RowKit Go.Lib Go.Sort _root_.Go.Proofs.Tryz
def yX:Px:=⟨false,10*2^120,8⟩
def yY:Mt:=⟨40,(0,0),oc,oc,6,(0,0),(80,90)⟩
def dr:CF:=⟨[3,4],[⟨yX,3⟩],[⟨[97],yY,3,4,[109],[99]⟩,⟨[98],mF,2,0,[],[]⟩],[⟨[109],5,2,9⟩],[⟨[99],4,16⟩],1⟩
def TQ(cf:CF)(l:List Sx.SV)(mem:List Sx.Row):Prop:=∃k0 k1 k2 k3 k4,l=[.dD [.o k0,.o k1,.o k2,.o k3,.o k4,.v (.int .i64 cf.aS)]]∧mem[k0]?=some ⟨3,.own 1 cf.ag.length cf.cp⟩∧mem[k1]?=some ⟨118,.own 19 cf.ae.length cf.cr⟩∧mem[k2]?=some ⟨81,.own 49 cf.rules.length cf.cl⟩∧mem[k3]?=some ⟨122,.own 4 cf.af.length cf.cm⟩∧mem[k4]?=some ⟨124,.own 3 cf.aa.length cf.ci⟩
theorem GR(w:World):Calls prog 67 #[] w (Sx.cq ⟨w,[],fun _ _=>False⟩ (TQ dr)):=by
 have z0:TQ dr [.dD [.o 3,.o 4,.o 7,.o 5,.o 6,.v (.int .i64 1)]] [⟨46,.dK [.own 3,.own 4,.own 7,.own 5,.own 6,.val (.int .i64 1)]⟩,⟨29,.ak yX.cells⟩,⟨66,.ak yY.cells⟩,⟨3,.own 1 2 dr.cp⟩,⟨118,.own 19 1 dr.cr⟩,⟨122,.own 4 1 dr.cm⟩,⟨124,.own 3 1 dr.ci⟩,⟨81,.own 49 2 dr.cl⟩]:=⟨3,4,7,5,6,rfl,rfl,rfl,rfl,rfl,rfl⟩
 refine Sx.aZ (args:=[]) (eo w) [(9,.iG 3 1),(12,.iG 118 19),(15,.iG 122 4),(17,.iG 124 3),(21,.iG 81 49)] [] (by kernel_rfl) func67 rfl (cn rfl) rfl ?_
 exact Eq.mp (by kernel_rfl) z0
open Go.RowKit Go.Lib Go.Sort
def Lm:Prop:=∀p:Px,p.n < 2^128→gh p.v p.n p.k=true→rf (pK p)=some p
theorem oo(n:Nat):gV (aj 10 n)=n:=jE (by omega) (by omega) n
theorem o9{most n:Nat}(h:n≤most):cN most (aj 10 n)=true:=by
 unfold cN
 rw[oo,decide_eq_true h,decide_eq_true rfl];rfl
theorem iP{ws:List Bs}{i:Nat}{x:Bs}(h:ws[i]?=some x):aV ws i=.ok x (i+1):=by unfold aV;rw[h]
theorem lh{ws:List Bs}{i n most:Nat}(h:ws[i]?=some (aj 10 n))(hn:n≤most):bw most ws i=.ok n (i+1):=by
 unfold bw
 rw[iP h]
 show ay (cN most (aj 10 n)) 200 (gV (aj 10 n)) (i+1)=_
 rw[o9 hn,oo];rfl
theorem xt{n:Int}(h:0≤n):cz n=aj 10 n.toNat:=by unfold cz;rw[if_neg (by omega)]
theorem vh{ws:List Bs}{i:Nat}{n:Int}(h:ws[i]?=some (cz n))(h0:0≤n)(hn:n≤9223372036854775807):iZ ws i=.ok n.toNat (i+1):=
 lh (by rw[h,xt h0]) (by omega)
theorem tj{ws:List Bs}{i:Nat}{x:Bs}(h:ws[i]?=some x)(hx:aB x=true):gu ws i=.ok x (i+1):=by
 unfold gu
 rw[iP h]
 show ay (aB x) 201 x (i+1)=_
 rw[hx];rfl
theorem prefix_at(hU:Lm){ws:List Bs}{i:Nat}{p:Px}(h:ws[i]?=some (pK p))(hn:p.n < 2^128)(hk:gh p.v p.n p.k=true):dV ws i=.ok p (i+1):=by
 unfold dV
 rw[iP h]
 show ay (rf (pK p)).isSome 151 ((rf (pK p)).getD oc) (i+1)=_
 rw[hU p hn hk];rfl
theorem xJ(u:Nat):(45:UInt8)∉aj 10 u:=jC (by omega) (by omega) (.inl (by decide))
theorem Ky(l m:List UInt8)(h:(45:UInt8)∉l):Lib.cut (l++45::m) [45]=(l,m,true):=by
 unfold Lib.cut
 rw[pq 45 l m h,if_pos (by omega)]
 simp only[Int.toNat_natCast]
 rw[List.take_left' rfl]
 congr 2
 rw[show l++45::m=(l++[45])++m by simp]
 exact List.drop_left' (by simp)
theorem DD(s:List UInt8)(h:(45:UInt8)∉s):Lib.cut s [45]=(s,[],false):=by
 unfold Lib.cut
 rcases Lib.index_spec s [45]with⟨h1,_⟩ | ⟨i,_,_,h3,_⟩
 ·rw[h1];rfl
 ·exact absurd (List.mem_of_getElem? ((EF s 45 i).1 h3)) h
theorem Mk(s:Nat×Nat):fk (dt s)=(aj 10 s.1,aj 10 s.2):=by
 unfold fk dt
 by_cases h:s.1=s.2
 ·rw[if_pos h,DD _ (xJ _),←h]
 ·rw[if_neg h,Ky _ _ (xJ _)]
theorem xZ{ws:List Bs}{i:Nat}{s:Nat×Nat}(h:ws[i]?=some (dt s))(h1:s.1≤65535)(h2:s.2≤65535):jj ws i=.ok s (i+1):=by
 unfold jj
 rw[iP h]
 show ay (cN 65535 (fk (dt s)).1&&cN 65535 (fk (dt s)).2) 200 (gV (fk (dt s)).1,gV (fk (dt s)).2) (i+1)=_
 rw[Mk]
 show ay (cN 65535 (aj 10 s.1)&&cN 65535 (aj 10 s.2)) 200 (gV (aj 10 s.1),gV (aj 10 s.2)) (i+1)=_
 rw[o9 h1,o9 h2,oo,oo];rfl
theorem j7{ws:List Bs}{i:Nat}{s:Bs}(h:ws[i]?=some s):dL ws i s=.ok true (i+1):=by unfold dL;rw[if_pos h]
theorem jG{ws:List Bs}{i:Nat}{s:Bs}(h:ws[i]?≠some s):dL ws i s=.ok false i:=by unfold dL;rw[if_neg h]
theorem vH(u:Nat)(c:UInt8)(l:Bs)(h:¬(48≤c.toNat∧c.toNat≤57)):aj 10 u≠c::l:=fun he=>by
 obtain⟨d,hd,hc⟩:=lz (b:=10) (by omega) u c (by rw[he];simp)
 rw[hc,iM (by omega),if_pos hd]at h
 omega
theorem I9{ws:List Bs}{i n:Nat}(h:ws[i]?=some (dc n))(hn:n≤255):eB ws i=.ok n (i+1):=by
 unfold eB
 by_cases h6:n=6
 ·have:dc n=pj:=by unfold dc;rw[if_pos h6]
  rw[j7 (by rw[h,this]),h6];rfl
 ·by_cases h17:n=17
  ·have e:dc n=qu:=by unfold dc;rw[if_neg h6,if_pos h17]
   rw[jG (by rw[h,e];decide)]
   show(dL ws i qu).bind _=_
   rw[j7 (by rw[h,e]),h17];rfl
  ·have e:dc n=aj 10 n:=by unfold dc;rw[if_neg h6,if_neg h17]
   rw[e]at h
   rw[jG (by rw[h];exact fun hh=>vH n 116 _ (by decide) (Option.some.inj hh))]
   show(dL ws i qu).bind _=_
   rw[jG (by rw[h];exact fun hh=>vH n 117 _ (by decide) (Option.some.inj hh))]
   exact lh h hn
def Mm(M m:Mt)(k:Nat):Mt:=match k with
 | 0=>{ m with ff:=M.ff }
 | 1=>{ m with src:=M.src }
 | 2=>{ m with dst:=M.dst }
 | 3=>{ m with bb:=M.bb }
 | 4=>{ m with sp:=M.sp }
 |_=>{ m with dp:=M.dp }
def gL(M m:Mt)(k:Nat):Mt:=Mm M { m with asks:=m.asks|||2^k } k
structure DZ(M:Mt):Prop where
 i1:M.ff.1≤65535
 i2:M.ff.2≤65535
 s1:M.sp.1≤65535
 s2:M.sp.2≤65535
 d1:M.dp.1≤65535
 d2:M.dp.2≤65535
 pr:M.bb≤255
 sn:M.src.n < 2^128
 dn:M.dst.n < 2^128
theorem IU(hU:Lm){M m:Mt}(hM:DZ M)(hs:M.asks.testBit 1=true→gh M.src.v M.src.n M.src.k=true)(hd:M.asks.testBit 2=true→gh M.dst.v M.dst.n M.dst.k=true){k:Nat}(hk:k < 6)(hb:M.asks.testBit k=true){ws:List Bs}{i:Nat}{y:Bs}(hy:(bH M k)[1]?=some y)(h:ws[i]?=some y):bu k m ws i=.ok (Mm M m k) (i+1):=by
 match k,hk with
 | 0,_=>cases hy;unfold bu;rw[xZ h hM.i1 hM.i2];rfl
 | 1,_=>cases hy;unfold bu;rw[prefix_at hU h hM.sn (hs hb)];rfl
 | 2,_=>cases hy;unfold bu;rw[prefix_at hU h hM.dn (hd hb)];rfl
 | 3,_=>cases hy;unfold bu;rw[I9 h hM.pr];rfl
 | 4,_=>cases hy;unfold bu;rw[xZ h hM.s1 hM.s2];rfl
 | 5,_=>cases hy;unfold bu;rw[xZ h hM.d1 hM.d2];rfl
theorem qC(M:Mt){k:Nat}(hk:k < 6):∃x y,bH M k=[x,y]∧vz x=some k:=by
 match k,hk with
 | 0,_=>exact⟨_,_,rfl,by decide⟩
 | 1,_=>exact⟨_,_,rfl,by decide⟩
 | 2,_=>exact⟨_,_,rfl,by decide⟩
 | 3,_=>exact⟨_,_,rfl,by decide⟩
 | 4,_=>exact⟨_,_,rfl,by decide⟩
 | 5,_=>exact⟨_,_,rfl,by decide⟩
theorem q9(M m:Mt)(k:Nat):(Mm M m k).asks=m.asks:=by unfold Mm;split<;>rfl
theorem Bm(hU:Lm){M m:Mt}(hM:DZ M)(hs:M.asks.testBit 1=true→gh M.src.v M.src.n M.src.k=true)(hd:M.asks.testBit 2=true→gh M.dst.v M.dst.n M.dst.k=true){k:Nat}(hk:k < 6)(hb:M.asks.testBit k=true)(hm:m.asks.testBit k=false){pre r:List Bs}:bn (pre++(bH M k++r)) pre.length m=.ok (true,gL M m k) (pre.length+2):=by
 obtain⟨x,y,e,hx⟩:=qC M hk
 have h0:(pre++(bH M k++r))[pre.length]?=some x:=by rw[e];simp
 have h1:(pre++(bH M k++r))[pre.length+1]?=some y:=by rw[e,List.getElem?_append_right (by omega)];simp
 unfold bn
 rw[h0]
 show(match vz x with|none=>_|some k=>_)=_
 rw[hx]
 show(match m.asks.testBit k with|true=>_|false=>_)=_
 rw[hm]
 show(bu k { m with asks:=m.asks|||2^k } _ (pre.length+1)).bind _=_
 rw[IU hU hM hs hd hk hb (y:=y) (by rw[e];rfl) h1]
 rfl
def SL(r:List Bs):Prop:=∀x,r[0]?=some x→vz x=none
theorem Bk{pre r:List Bs}{m:Mt}(h:SL r):bn (pre++r) pre.length m=.ok (false,m) pre.length:=by
 unfold bn
 have e:(pre++r)[pre.length]?=r[0]?:=by rw[List.getElem?_append_right (by omega),Nat.sub_self]
 rw[e]
 cases hx:r[0]? with
 |none=>rfl
 |some x=>
  show(match vz x with|none=>_|some k=>_)=_
  rw[h x hx]
theorem pR{a k j:Nat}(h:j≠k):(a|||2^k).testBit j=a.testBit j:=by
 rw[Nat.testBit_or,Nat.testBit_two_pow_of_ne (Ne.symm h),Bool.or_false]
theorem xD(hU:Lm){M:Mt}(hM:DZ M)(hs:M.asks.testBit 1=true→gh M.src.v M.src.n M.src.k=true)(hd:M.asks.testBit 2=true→gh M.dst.v M.dst.n M.dst.k=true){r:List Bs}(hr:SL r) :
  ∀(ks:List Nat) (pre:List Bs) (m:Mt) (f:Nat),(∀k∈ks,k < 6∧M.asks.testBit k=true∧m.asks.testBit k=false)→ks.Nodup→ks.length+1≤f→
   eO (pre++(ks.flatMap (bH M)++r)) f pre.length m=.ok (ks.foldl (gL M) m) (pre.length+2*ks.length)
 | [],pre,m,f+1,_,_,_=>by
  unfold eO
  rw[show pre++(([]:List Nat).flatMap (bH M)++r)=pre++r by simp,Bk hr]
  rfl
 |k::ks,pre,m,f+1,h,hn,hf=>by
  have hk:=h k (by simp)
  rw[List.nodup_cons]at hn
  unfold eO
  have e:pre++((k::ks).flatMap (bH M)++r)=pre++(bH M k++(ks.flatMap (bH M)++r)):=by simp
  rw[e,Bm hU hM hs hd hk.1 hk.2.1 hk.2.2]
  obtain⟨x,y,e2,_⟩:=qC M hk.1
  have hl:(bH M k).length=2:=by rw[e2];rfl
  have ih:=xD hU hM hs hd hr ks (pre++bH M k) (gL M m k) f (fun j hj=>by
   have h1:=h j (List.mem_cons_of_mem _ hj)
   refine⟨h1.1,h1.2.1,?_⟩
   unfold gL
   rw[q9]
   show(m.asks|||2^k).testBit j=false
   rw[pR (show j≠k from fun he=>hn.1 (by rw[←he];exact hj))]
   exact h1.2.2) hn.2 (by simp only[List.length_cons]at hf;omega)
  have hpl:(pre++bH M k).length=pre.length+2:=by rw[List.length_append,hl]
  rw[List.append_assoc,hpl]at ih
  show eO _ f (pre.length+2) (gL M m k)=_
  rw[ih]
  simp only[List.foldl_cons,List.length_cons]
  congr 1
  omega
 |_,_,_,0,_,_,hf=>by omega
def ma(M:Mt):List Nat:=[0,1,2,3,4,5].filter fun k=>M.asks.testBit k
theorem sD(M:Mt):∀l:List Nat,l.flatMap (il M)=(l.filter fun k=>M.asks.testBit k).flatMap (bH M)
 | []=>rfl
 |k::l=>by
  rw[List.flatMap_cons,sD M l,List.filter_cons]
  unfold il
  cases M.asks.testBit k<;>simp
theorem pc(M:Mt):fY M=(ma M).flatMap (bH M):=by
 unfold ma
 rw[←sD]
 simp[fY]
theorem jQ{M:Mt}{k:Nat}(h:k∈ma M):k < 6∧M.asks.testBit k=true:=by
 unfold ma at h
 rw[List.mem_filter]at h
 refine⟨?_,h.2⟩
 have:=h.1
 simp at this
 omega
theorem AS(M:Mt):(ma M).Nodup:=by
 unfold ma
 exact List.Pairwise.filter _ (by decide:([0,1,2,3,4,5]:List Nat).Nodup)
theorem Jr{a b:Mt}(h0:a.asks=b.asks)(h1:a.ff=b.ff)(h2:a.src=b.src)(h3:a.dst=b.dst)(h4:a.bb=b.bb)(h5:a.sp=b.sp)(h6:a.dp=b.dp):a=b:=by
 cases a;cases b;simp_all
theorem xA(M:Mt):∀(ks:List Nat) (m:Mt),(ks.foldl (gL M) m).asks=ks.foldl (fun a k=>a|||2^k) m.asks
 | [],_=>rfl
 |k::ks,m=>by
  rw[List.foldl_cons,List.foldl_cons,xA M ks]
  unfold gL
  rw[q9]
theorem BT:∀a:Fin 64,([0,1,2,3,4,5].filter fun k=>a.val.testBit k).foldl (fun a k=>a|||2^k) 0=a.val:=by decide+kernel
theorem xz{α:Type}(M:Mt)(f:Mt→α)(j:Nat)(h1:∀m,f (gL M m j)=f M)(h2:∀m k,k < 6→k≠j→f (gL M m k)=f m):∀(ks:List Nat) (m:Mt),(∀k∈ks,k < 6)→ks.Nodup→(j∈ks→f (ks.foldl (gL M) m)=f M)∧(j∉ks→f (ks.foldl (gL M) m)=f m)
 | [],m,_,_=>⟨fun h=>absurd h (by simp),fun _=>rfl⟩
 |k::ks,m,hk,hn=>by
  rw[List.nodup_cons]at hn
  have ih:=xz M f j h1 h2 ks (gL M m k) (fun x hx=>hk x (List.mem_cons_of_mem _ hx)) hn.2
  rw[List.foldl_cons]
  by_cases he:k=j
  ·subst he
   refine⟨fun _=>?_,fun h=>absurd (List.mem_cons_self) h⟩
   rw[ih.2 hn.1];exact h1 m
  ·refine⟨fun h=>ih.1 ?_,fun h=>?_⟩
   ·rcases List.mem_cons.1 h with h|h
    ·exact absurd h.symm he
    ·exact h
   ·rw[ih.2 fun hh=>h (List.mem_cons_of_mem _ hh)]
    exact h2 m k (hk k (by simp)) he
theorem Jw{M:Mt}{k:Nat}(hk:k < 6):k∈ma M↔M.asks.testBit k=true:=by
 unfold ma
 rw[List.mem_filter]
 refine⟨fun h=>h.2,fun h=>⟨?_,h⟩⟩
 simp;omega
theorem I5{p:Px}(h:Ci p=true):p=oc:=by
 unfold Ci at h
 have:=of_decide_eq_true h
 cases p
 simp_all[oc]
theorem Qm{M:Mt}(ha:M.asks < 64)(z0:M.asks.testBit 0=false→M.ff=(0,0))(z1:M.asks.testBit 1=false→M.src=oc)(z2:M.asks.testBit 2=false→M.dst=oc)(z3:M.asks.testBit 3=false→M.bb=0)(z4:M.asks.testBit 4=false→M.sp=(0,0))(z5:M.asks.testBit 5=false→M.dp=(0,0)):(ma M).foldl (gL M) mF=M:=by
 have part:∀{α:Type} (f:Mt→α) (j:Nat),j < 6→(∀m,f (gL M m j)=f M)→(∀m k,k < 6→k≠j→f (gL M m k)=f m)→(M.asks.testBit j=false→f M=f mF)→f ((ma M).foldl (gL M) mF)=f M:=fun f j hj h1 h2 h3=>by
  have:=xz M f j h1 h2 (ma M) mF (fun k hk=>(jQ hk).1) (AS M)
  cases hb:M.asks.testBit j with
  |true=>exact this.1 ((Jw hj).2 hb)
  |false=>rw[this.2 (fun hh=>by rw[(Jw hj).1 hh]at hb;cases hb)];exact(h3 hb).symm
 have cas:∀{P:Nat→Prop} (j:Nat),(∀k,k < 6→k≠j→P k)→∀k,k < 6→k≠j→P k:=fun _ h=>h
 refine Jr ?_ (part (·.ff) 0 (by omega) (fun _=>rfl) (fun m k hk hj=>?_) z0) (part (·.src) 1 (by omega) (fun _=>rfl) (fun m k hk hj=>?_) z1) (part (·.dst) 2 (by omega) (fun _=>rfl) (fun m k hk hj=>?_) z2) (part (·.bb) 3 (by omega) (fun _=>rfl) (fun m k hk hj=>?_) z3) (part (·.sp) 4 (by omega) (fun _=>rfl) (fun m k hk hj=>?_) z4) (part (·.dp) 5 (by omega) (fun _=>rfl) (fun m k hk hj=>?_) z5)
 ·rw[xA]
  exact BT ⟨M.asks,ha⟩
 all_goals (match k,hk,hj with
  | 0,_,hj=>first|rfl|exact absurd rfl hj
  | 1,_,hj=>first|rfl|exact absurd rfl hj
  | 2,_,hj=>first|rfl|exact absurd rfl hj
  | 3,_,hj=>first|rfl|exact absurd rfl hj
  | 4,_,hj=>first|rfl|exact absurd rfl hj
  | 5,_,hj=>first|rfl|exact absurd rfl hj)
theorem nJ{M:Mt}(h:bp M=true):M.asks < 64∧(M.asks.testBit 0=false→M.ff=(0,0))∧(M.asks.testBit 1=false→M.src=oc)∧(M.asks.testBit 2=false→M.dst=oc)∧(M.asks.testBit 3=false→M.bb=0)∧(M.asks.testBit 4=false→M.sp=(0,0))∧(M.asks.testBit 5=false→M.dp=(0,0))∧
  (M.asks.testBit 1=true→gh M.src.v M.src.n M.src.k=true)∧(M.asks.testBit 2=true→gh M.dst.v M.dst.n M.dst.k=true):=by
 unfold bp at h
 simp only[Bool.and_eq_true]at h
 obtain⟨⟨h0,h1,h2,h3,h4,h5,h6⟩,⟨_,_,_,_⟩,⟨g1,g2,_⟩,_⟩:=h
 refine⟨by simpa using h0,fun hb=>?_,fun hb=>?_,fun hb=>?_,fun hb=>?_,fun hb=>?_,fun hb=>?_,fun hb=>?_,fun hb=>?_⟩
 ·rw[hb]at h1;exact of_decide_eq_true h1
 ·rw[hb]at h2;exact I5 h2
 ·rw[hb]at h3;exact I5 h3
 ·rw[hb]at h4;exact of_decide_eq_true h4
 ·rw[hb]at h5;exact of_decide_eq_true h5
 ·rw[hb]at h6;exact of_decide_eq_true h6
 ·rw[hb]at g1;exact g1
 ·rw[hb]at g2;exact g2
def xn(M:Mt):List Bs:=if M.asks=0 then [mf] else fY M
theorem Dc(M:Mt):dQ M=ao 32 (xn M):=by unfold dQ xn;split<;>rfl
theorem OZ{M:Mt}(h0:M.asks≠0)(h:M.asks < 64):ma M≠[]:=fun he=>by
 have:=BT ⟨M.asks,h⟩
 have he':([0,1,2,3,4,5].filter fun k=>M.asks.testBit k)=[]:=he
 rw[he']at this
 exact h0 this.symm
theorem NT:vz mf=none:=by decide
theorem Jz(hU:Lm){M:Mt}(hM:DZ M)(hc:bp M=true){pre r:List Bs}(hr:SL r):gi (pre++(xn M++r)) pre.length=.ok M (pre.length+(xn M).length):=by
 obtain⟨ha,z0,z1,z2,z3,z4,z5,hs,hd⟩:=nJ hc
 unfold gi
 by_cases h0:M.asks=0
 ·have e:xn M=[mf]:=by unfold xn;rw[if_pos h0]
  rw[e,j7 (by simp)]
  have:M=mF:=by
   refine Jr h0 (z0 (by rw[h0];rfl)) (z1 (by rw[h0];rfl)) (z2 (by rw[h0];rfl)) (z3 (by rw[h0];rfl)) (z4 (by rw[h0];rfl)) (z5 (by rw[h0];rfl))
  rw[this];rfl
 ·have e:xn M=(ma M).flatMap (bH M):=by unfold xn;rw[if_neg h0,pc]
  rw[e]
  obtain⟨k,ks,hks⟩:=List.exists_cons_of_ne_nil (OZ h0 ha)
  have hkm:k∈ma M:=by rw[hks];simp
  obtain⟨x,y,e2,hx⟩:=qC M (jQ hkm).1
  have hat:(pre++((ma M).flatMap (bH M)++r))[pre.length]?=some x:=by
   rw[hks,List.flatMap_cons,e2,List.getElem?_append_right (by omega)];simp
  rw[jG (by rw[hat];intro hh;rw[Option.some.inj hh]at hx;rw[NT]at hx;cases hx)]
  show(bn (pre++((ma M).flatMap (bH M)++r)) pre.length mF).bind _=_
  have e3:pre++((ma M).flatMap (bH M)++r)=pre++(bH M k++(ks.flatMap (bH M)++r)):=by rw[hks];simp
  have nb:∀j,mF.asks.testBit j=false:=fun j=>Nat.zero_testBit j
  have hn:=AS M
  rw[hks,List.nodup_cons]at hn
  have hf:=Bm hU (m:=mF) hM hs hd (jQ hkm).1 (jQ hkm).2 (nb k) (pre:=pre) (r:=ks.flatMap (bH M)++r)
  have hlen2:(bH M k).length=2:=by rw[e2];rfl
  have hll:∀l:List Nat,(∀j∈l,j < 6)→(l.flatMap (bH M)).length=2*l.length:=by
   intro l
   induction l with
   |nil=>intro _;rfl
   |cons j l ih=>
    intro hj
    obtain⟨_,_,e4,_⟩:=qC M (hj j (by simp))
    rw[List.flatMap_cons,List.length_append,ih (fun i hi=>hj i (List.mem_cons_of_mem _ hi)),e4]
    simp only[List.length_cons,List.length_nil];omega
  have hm:=xD hU hM hs hd hr ks (pre++bH M k) (gL M mF k) ((pre++((ma M).flatMap (bH M)++r)).length+1 - (pre.length+2)) (fun j hj=>by
   have hj2:j∈ma M:=by rw[hks];exact List.mem_cons_of_mem _ hj
   refine⟨(jQ hj2).1,(jQ hj2).2,?_⟩
   unfold gL
   rw[q9]
   show(mF.asks|||2^k).testBit j=false
   rw[pR (show j≠k from fun he=>hn.1 (by rw[←he];exact hj))]
   exact nb j) hn.2 (by
    rw[e3]
    simp only[List.length_append,hlen2,hll ks (fun j hj=>(jQ (M:=M) (by rw[hks];exact List.mem_cons_of_mem _ hj)).1)]
    omega)
  have hpl:(pre++bH M k).length=pre.length+2:=by rw[List.length_append,hlen2]
  rw[List.append_assoc,←e3,hpl]at hm
  rw[←e3]at hf
  rw[hf]
  show eO _ _ (pre.length+2) (gL M mF k)=_
  rw[hm,hll _ (fun j hj=>(jQ hj).1),hks]
  have:=Qm ha z0 z1 z2 z3 z4 z5
  rw[hks,List.foldl_cons]at this
  rw[this]
  simp only[List.length_cons]
  congr 1
  omega
end Go.Proofs.YtnncigmpcdehnaaGreatDoor
