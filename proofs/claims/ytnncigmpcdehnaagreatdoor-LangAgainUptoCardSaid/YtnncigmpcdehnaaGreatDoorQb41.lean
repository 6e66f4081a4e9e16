import Derived.Test.YtnncigmpcdehnaaGreatDoorQb40
namespace Go.Proofs.YtnncigmpcdehnaaGreatDoor
set_option maxRecDepth 100000
open Go Go.RowKit Go.Lib Go.Sort
def wG:Px:=⟨false,10*2^120,8⟩
def wI:Mt:=⟨40,(0,0),oB,oB,6,(0,0),(80,90)⟩
def dr:CF:=⟨[3,4],[⟨wG,3⟩],[⟨[97],wI,3,4,[109],[99]⟩,⟨[98],kZ,2,0,[],[]⟩],[⟨[109],5,2,9⟩],[⟨[99],4,16⟩],1⟩
def Ot(cf:CF)(l:List Sx.SV)(mem:List Sx.Row):Prop:=∃k0 k1 k2 k3 k4,l=[.cX [.o k0,.o k1,.o k2,.o k3,.o k4,.v (.int .i64 cf.aL)]]∧mem[k0]?=some ⟨3,.own 1 cf.ao.length cf.cp⟩∧mem[k1]?=some ⟨118,.own 19 cf.ah.length cf.cr⟩∧mem[k2]?=some ⟨81,.own 49 cf.rules.length cf.cl⟩∧mem[k3]?=some ⟨122,.own 4 cf.aj.length cf.cm⟩∧mem[k4]?=some ⟨124,.own 3 cf.ab.length cf.ci⟩
theorem DO(w:World):Calls Tryz.prog 67 #[] w (Sx.bc ⟨w,[],fun _ _=>False⟩ (Ot dr)):=by
 have z0:Ot dr [.cX [.o 3,.o 4,.o 7,.o 5,.o 6,.v (.int .i64 1)]] [⟨46,.dm [.own 3,.own 4,.own 7,.own 5,.own 6,.val (.int .i64 1)]⟩,⟨29,.ag wG.cells⟩,⟨66,.ag wI.cells⟩,⟨3,.own 1 2 dr.cp⟩,⟨118,.own 19 1 dr.cr⟩,⟨122,.own 4 1 dr.cm⟩,⟨124,.own 3 1 dr.ci⟩,⟨81,.own 49 2 dr.cl⟩]:=⟨3,4,7,5,6,rfl,rfl,rfl,rfl,rfl,rfl⟩
 refine Sx.aT (args:=[]) (ct w) [(9,.cC 3 1),(12,.cC 118 19),(15,.cC 122 4),(17,.cC 124 3),(21,.cC 81 49)] [] (by kernel_rfl) Tryz.func67 rfl (Nat.le_of_ble_eq_true rfl) rfl ?_
 exact Eq.mp (by kernel_rfl) z0
open Go.RowKit Go.Lib Go.Sort
def Et:Prop:=∀p:Px,p.n < 2^128→gg p.v p.n p.k=true→pI (rW p)=some p
theorem mO(n:Nat):gp (az 10 n)=n:=iY (by omega) (by omega) n
theorem nU{most n:Nat}(h:n≤most):cP most (az 10 n)=true:=by
 unfold cP
 rw[mO,decide_eq_true h,decide_eq_true rfl];rfl
theorem ic{ws:List Bs}{i:Nat}{x:Bs}(h:ws[i]?=some x):bj ws i=.ok x (i+1):=by unfold bj;rw[h]
theorem kg{ws:List Bs}{i n most:Nat}(h:ws[i]?=some (az 10 n))(hn:n≤most):bF most ws i=.ok n (i+1):=by
 unfold bF
 rw[ic h]
 show ax (cP most (az 10 n)) 200 (gp (az 10 n)) (i+1)=_
 rw[nU hn,mO];rfl
theorem uY{n:Int}(h:0≤n):bb n=az 10 n.toNat:=by unfold bb;rw[if_neg (by omega)]
theorem sQ{ws:List Bs}{i:Nat}{n:Int}(h:ws[i]?=some (bb n))(h0:0≤n)(hn:n≤9223372036854775807):gQ ws i=.ok n.toNat (i+1):=
 kg (by rw[h,uY h0]) (by omega)
theorem ri{ws:List Bs}{i:Nat}{x:Bs}(h:ws[i]?=some x)(hx:aM x=true):eh ws i=.ok x (i+1):=by
 unfold eh
 rw[ic h]
 show ax (aM x) 201 x (i+1)=_
 rw[hx];rfl
theorem prefix_at(hU:Et){ws:List Bs}{i:Nat}{p:Px}(h:ws[i]?=some (rW p))(hn:p.n < 2^128)(hk:gg p.v p.n p.k=true):dA ws i=.ok p (i+1):=by
 unfold dA
 rw[ic h]
 show ax (pI (rW p)).isSome 151 ((pI (rW p)).getD oB) (i+1)=_
 rw[hU p hn hk];rfl
theorem vl(u:Nat):(45:UInt8)∉az 10 u:=iW (by omega) (by omega) (.inl (by decide))
theorem G0(l m:List UInt8)(h:(45:UInt8)∉l):Lib.cut (l++45::m) [45]=(l,m,true):=by
 unfold Lib.cut
 rw[od 45 l m h,if_pos (by omega)]
 simp only[Int.toNat_natCast]
 rw[List.take_left' rfl]
 congr 2
 rw[show l++45::m=(l++[45])++m by simp]
 exact List.drop_left' (by simp)
theorem AP(s:List UInt8)(h:(45:UInt8)∉s):Lib.cut s [45]=(s,[],false):=by
 unfold Lib.cut
 rcases Lib.index_spec s [45]with⟨h1,_⟩ | ⟨i,_,_,h3,_⟩
 ·rw[h1];rfl
 ·exact absurd (List.mem_of_getElem? ((BQ s 45 i).1 h3)) h
theorem IE(s:Nat×Nat):eV (eE s)=(az 10 s.1,az 10 s.2):=by
 unfold eV eE
 by_cases h:s.1=s.2
 ·rw[if_pos h,AP _ (vl _),←h]
 ·rw[if_neg h,G0 _ _ (vl _)]
theorem vF{ws:List Bs}{i:Nat}{s:Nat×Nat}(h:ws[i]?=some (eE s))(h1:s.1≤65535)(h2:s.2≤65535):iH ws i=.ok s (i+1):=by
 unfold iH
 rw[ic h]
 show ax (cP 65535 (eV (eE s)).1&&cP 65535 (eV (eE s)).2) 200 (gp (eV (eE s)).1,gp (eV (eE s)).2) (i+1)=_
 rw[IE]
 show ax (cP 65535 (az 10 s.1)&&cP 65535 (az 10 s.2)) 200 (gp (az 10 s.1),gp (az 10 s.2)) (i+1)=_
 rw[nU h1,nU h2,mO,mO];rfl
theorem jB{ws:List Bs}{i:Nat}{s:Bs}(h:ws[i]?=some s):cM ws i s=.ok true (i+1):=by unfold cM;rw[if_pos h]
theorem ja{ws:List Bs}{i:Nat}{s:Bs}(h:ws[i]?≠some s):cM ws i s=.ok false i:=by unfold cM;rw[if_neg h]
theorem tm(u:Nat)(c:UInt8)(l:Bs)(h:¬(48≤c.toNat∧c.toNat≤57)):az 10 u≠c::l:=fun he=>by
 obtain⟨d,hd,hc⟩:=kq (b:=10) (by omega) u c (by rw[he];simp)
 rw[hc,gY (by omega),if_pos hd]at h
 omega
theorem FC{ws:List Bs}{i n:Nat}(h:ws[i]?=some (dS n))(hn:n≤255):eg ws i=.ok n (i+1):=by
 unfold eg
 by_cases h6:n=6
 ·have:dS n=oZ:=by unfold dS;rw[if_pos h6]
  rw[jB (by rw[h,this]),h6];rfl
 ·by_cases h17:n=17
  ·have e:dS n=p9:=by unfold dS;rw[if_neg h6,if_pos h17]
   rw[ja (by rw[h,e];decide)]
   show(cM ws i p9).bind _=_
   rw[jB (by rw[h,e]),h17];rfl
  ·have e:dS n=az 10 n:=by unfold dS;rw[if_neg h6,if_neg h17]
   rw[e]at h
   rw[ja (by rw[h];exact fun hh=>tm n 116 _ (by decide) (Option.some.inj hh))]
   show(cM ws i p9).bind _=_
   rw[ja (by rw[h];exact fun hh=>tm n 117 _ (by decide) (Option.some.inj hh))]
   exact kg h hn
def IF(M m:Mt)(k:Nat):Mt:=match k with
 | 0=>{ m with gf:=M.gf }
 | 1=>{ m with src:=M.src }
 | 2=>{ m with dst:=M.dst }
 | 3=>{ m with bV:=M.bV }
 | 4=>{ m with sp:=M.sp }
 |_=>{ m with dp:=M.dp }
def gh(M m:Mt)(k:Nat):Mt:=IF M { m with asks:=m.asks|||2^k } k
structure Bg(M:Mt):Prop where
 i1:M.gf.1≤65535
 i2:M.gf.2≤65535
 s1:M.sp.1≤65535
 s2:M.sp.2≤65535
 d1:M.dp.1≤65535
 d2:M.dp.2≤65535
 pr:M.bV≤255
 sn:M.src.n < 2^128
 dn:M.dst.n < 2^128
theorem Fq(hU:Et){M m:Mt}(hM:Bg M)(hs:M.asks.testBit 1=true→gg M.src.v M.src.n M.src.k=true)(hd:M.asks.testBit 2=true→gg M.dst.v M.dst.n M.dst.k=true){k:Nat}(hk:k < 6)(hb:M.asks.testBit k=true){ws:List Bs}{i:Nat}{y:Bs}(hy:(bN M k)[1]?=some y)(h:ws[i]?=some y):bA k m ws i=.ok (IF M m k) (i+1):=by
 match k,hk with
 | 0,_=>cases hy;unfold bA;rw[vF h hM.i1 hM.i2];rfl
 | 1,_=>cases hy;unfold bA;rw[prefix_at hU h hM.sn (hs hb)];rfl
 | 2,_=>cases hy;unfold bA;rw[prefix_at hU h hM.dn (hd hb)];rfl
 | 3,_=>cases hy;unfold bA;rw[FC h hM.pr];rfl
 | 4,_=>cases hy;unfold bA;rw[vF h hM.s1 hM.s2];rfl
 | 5,_=>cases hy;unfold bA;rw[vF h hM.d1 hM.d2];rfl
theorem pg(M:Mt){k:Nat}(hk:k < 6):∃x y,bN M k=[x,y]∧s6 x=some k:=by
 match k,hk with
 | 0,_=>exact⟨_,_,rfl,by decide⟩
 | 1,_=>exact⟨_,_,rfl,by decide⟩
 | 2,_=>exact⟨_,_,rfl,by decide⟩
 | 3,_=>exact⟨_,_,rfl,by decide⟩
 | 4,_=>exact⟨_,_,rfl,by decide⟩
 | 5,_=>exact⟨_,_,rfl,by decide⟩
theorem pQ(M m:Mt)(k:Nat):(IF M m k).asks=m.asks:=by unfold IF;split<;>rfl
theorem yQ(hU:Et){M m:Mt}(hM:Bg M)(hs:M.asks.testBit 1=true→gg M.src.v M.src.n M.src.k=true)(hd:M.asks.testBit 2=true→gg M.dst.v M.dst.n M.dst.k=true){k:Nat}(hk:k < 6)(hb:M.asks.testBit k=true)(hm:m.asks.testBit k=false){pre r:List Bs}:bB (pre++(bN M k++r)) pre.length m=.ok (true,gh M m k) (pre.length+2):=by
 obtain⟨x,y,e,hx⟩:=pg M hk
 have h0:(pre++(bN M k++r))[pre.length]?=some x:=by rw[e];simp
 have h1:(pre++(bN M k++r))[pre.length+1]?=some y:=by rw[e,List.getElem?_append_right (by omega)];simp
 unfold bB
 rw[h0]
 show(match s6 x with|none=>_|some k=>_)=_
 rw[hx]
 show(match m.asks.testBit k with|true=>_|false=>_)=_
 rw[hm]
 show(bA k { m with asks:=m.asks|||2^k } _ (pre.length+1)).bind _=_
 rw[Fq hU hM hs hd hk hb (y:=y) (by rw[e];rfl) h1]
 rfl
def NL(r:List Bs):Prop:=∀x,r[0]?=some x→s6 x=none
theorem yO{pre r:List Bs}{m:Mt}(h:NL r):bB (pre++r) pre.length m=.ok (false,m) pre.length:=by
 unfold bB
 have e:(pre++r)[pre.length]?=r[0]?:=by rw[List.getElem?_append_right (by omega),Nat.sub_self]
 rw[e]
 cases hx:r[0]? with
 |none=>rfl
 |some x=>
  show(match s6 x with|none=>_|some k=>_)=_
  rw[h x hx]
theorem oG{a k j:Nat}(h:j≠k):(a|||2^k).testBit j=a.testBit j:=by
 rw[Nat.testBit_or,Nat.testBit_two_pow_of_ne (Ne.symm h),Bool.or_false]
theorem ve(hU:Et){M:Mt}(hM:Bg M)(hs:M.asks.testBit 1=true→gg M.src.v M.src.n M.src.k=true)(hd:M.asks.testBit 2=true→gg M.dst.v M.dst.n M.dst.k=true){r:List Bs}(hr:NL r) :
  ∀(ks:List Nat) (pre:List Bs) (m:Mt) (f:Nat),(∀k∈ks,k < 6∧M.asks.testBit k=true∧m.asks.testBit k=false)→ks.Nodup→ks.length+1≤f→
   ey (pre++(ks.flatMap (bN M)++r)) f pre.length m=.ok (ks.foldl (gh M) m) (pre.length+2*ks.length)
 | [],pre,m,f+1,_,_,_=>by
  unfold ey
  rw[show pre++(([]:List Nat).flatMap (bN M)++r)=pre++r by simp,yO hr]
  rfl
 |k::ks,pre,m,f+1,h,hn,hf=>by
  have hk:=h k (by simp)
  rw[List.nodup_cons]at hn
  unfold ey
  have e:pre++((k::ks).flatMap (bN M)++r)=pre++(bN M k++(ks.flatMap (bN M)++r)):=by simp
  rw[e,yQ hU hM hs hd hk.1 hk.2.1 hk.2.2]
  obtain⟨x,y,e2,_⟩:=pg M hk.1
  have hl:(bN M k).length=2:=by rw[e2];rfl
  have ih:=ve hU hM hs hd hr ks (pre++bN M k) (gh M m k) f (fun j hj=>by
   have h1:=h j (List.mem_cons_of_mem _ hj)
   refine⟨h1.1,h1.2.1,?_⟩
   unfold gh
   rw[pQ]
   show(m.asks|||2^k).testBit j=false
   rw[oG (show j≠k from fun he=>hn.1 (by rw[←he];exact hj))]
   exact h1.2.2) hn.2 (by simp only[List.length_cons]at hf;omega)
  have hpl:(pre++bN M k).length=pre.length+2:=by rw[List.length_append,hl]
  rw[List.append_assoc,hpl]at ih
  show ey _ f (pre.length+2) (gh M m k)=_
  rw[ih]
  simp only[List.foldl_cons,List.length_cons]
  congr 1
  omega
 |_,_,_,0,_,_,hf=>by omega
def k7(M:Mt):List Nat:=[0,1,2,3,4,5].filter fun k=>M.asks.testBit k
theorem qJ(M:Mt):∀l:List Nat,l.flatMap (lR M)=(l.filter fun k=>M.asks.testBit k).flatMap (bN M)
 | []=>rfl
 |k::l=>by
  rw[List.flatMap_cons,qJ M l,List.filter_cons]
  unfold lR
  cases M.asks.testBit k<;>simp
theorem nX(M:Mt):fR M=(k7 M).flatMap (bN M):=by
 unfold k7
 rw[←qJ]
 simp[fR]
theorem jj{M:Mt}{k:Nat}(h:k∈k7 M):k < 6∧M.asks.testBit k=true:=by
 unfold k7 at h
 rw[List.mem_filter]at h
 refine⟨?_,h.2⟩
 have:=h.1
 simp at this
 omega
theorem yr(M:Mt):(k7 M).Nodup:=by
 unfold k7
 exact List.Pairwise.filter _ (by decide:([0,1,2,3,4,5]:List Nat).Nodup)
theorem FW{a b:Mt}(h0:a.asks=b.asks)(h1:a.gf=b.gf)(h2:a.src=b.src)(h3:a.dst=b.dst)(h4:a.bV=b.bV)(h5:a.sp=b.sp)(h6:a.dp=b.dp):a=b:=by
 cases a;cases b;simp_all
theorem u9(M:Mt):∀(ks:List Nat) (m:Mt),(ks.foldl (gh M) m).asks=ks.foldl (fun a k=>a|||2^k) m.asks
 | [],_=>rfl
 |k::ks,m=>by
  rw[List.foldl_cons,List.foldl_cons,u9 M ks]
  unfold gh
  rw[pQ]
theorem zi:∀a:Fin 64,([0,1,2,3,4,5].filter fun k=>a.val.testBit k).foldl (fun a k=>a|||2^k) 0=a.val:=by decide+kernel
theorem u7{α:Type}(M:Mt)(f:Mt→α)(j:Nat)(h1:∀m,f (gh M m j)=f M)(h2:∀m k,k < 6→k≠j→f (gh M m k)=f m):∀(ks:List Nat) (m:Mt),(∀k∈ks,k < 6)→ks.Nodup→(j∈ks→f (ks.foldl (gh M) m)=f M)∧(j∉ks→f (ks.foldl (gh M) m)=f m)
 | [],m,_,_=>⟨fun h=>absurd h (by simp),fun _=>rfl⟩
 |k::ks,m,hk,hn=>by
  rw[List.nodup_cons]at hn
  have ih:=u7 M f j h1 h2 ks (gh M m k) (fun x hx=>hk x (List.mem_cons_of_mem _ hx)) hn.2
  rw[List.foldl_cons]
  by_cases he:k=j
  ·subst he
   refine⟨fun _=>?_,fun h=>absurd (List.mem_cons_self) h⟩
   rw[ih.2 hn.1];exact h1 m
  ·refine⟨fun h=>ih.1 ?_,fun h=>?_⟩
   ·rcases List.mem_cons.1 h with h|h
    ·exact absurd h.symm he
    ·exact h
   ·rw[ih.2 fun hh=>h (List.mem_cons_of_mem _ hh)]
    exact h2 m k (hk k (by simp)) he
theorem F2{M:Mt}{k:Nat}(hk:k < 6):k∈k7 M↔M.asks.testBit k=true:=by
 unfold k7
 rw[List.mem_filter]
 refine⟨fun h=>h.2,fun h=>⟨?_,h⟩⟩
 simp;omega
theorem Fy{p:Px}(h:zA p=true):p=oB:=by
 unfold zA at h
 have:=of_decide_eq_true h
 cases p
 simp_all[oB]
theorem LY{M:Mt}(ha:M.asks < 64)(z0:M.asks.testBit 0=false→M.gf=(0,0))(z1:M.asks.testBit 1=false→M.src=oB)(z2:M.asks.testBit 2=false→M.dst=oB)(z3:M.asks.testBit 3=false→M.bV=0)(z4:M.asks.testBit 4=false→M.sp=(0,0))(z5:M.asks.testBit 5=false→M.dp=(0,0)):(k7 M).foldl (gh M) kZ=M:=by
 have part:∀{α:Type} (f:Mt→α) (j:Nat),j < 6→(∀m,f (gh M m j)=f M)→(∀m k,k < 6→k≠j→f (gh M m k)=f m)→(M.asks.testBit j=false→f M=f kZ)→f ((k7 M).foldl (gh M) kZ)=f M:=fun f j hj h1 h2 h3=>by
  have:=u7 M f j h1 h2 (k7 M) kZ (fun k hk=>(jj hk).1) (yr M)
  cases hb:M.asks.testBit j with
  |true=>exact this.1 ((F2 hj).2 hb)
  |false=>rw[this.2 (fun hh=>by rw[(F2 hj).1 hh]at hb;cases hb)];exact(h3 hb).symm
 have cas:∀{P:Nat→Prop} (j:Nat),(∀k,k < 6→k≠j→P k)→∀k,k < 6→k≠j→P k:=fun _ h=>h
 refine FW ?_ (part (·.gf) 0 (by omega) (fun _=>rfl) (fun m k hk hj=>?_) z0) (part (·.src) 1 (by omega) (fun _=>rfl) (fun m k hk hj=>?_) z1) (part (·.dst) 2 (by omega) (fun _=>rfl) (fun m k hk hj=>?_) z2) (part (·.bV) 3 (by omega) (fun _=>rfl) (fun m k hk hj=>?_) z3) (part (·.sp) 4 (by omega) (fun _=>rfl) (fun m k hk hj=>?_) z4) (part (·.dp) 5 (by omega) (fun _=>rfl) (fun m k hk hj=>?_) z5)
 ·rw[u9]
  exact zi ⟨M.asks,ha⟩
 all_goals (match k,hk,hj with
  | 0,_,hj=>first|rfl|exact absurd rfl hj
  | 1,_,hj=>first|rfl|exact absurd rfl hj
  | 2,_,hj=>first|rfl|exact absurd rfl hj
  | 3,_,hj=>first|rfl|exact absurd rfl hj
  | 4,_,hj=>first|rfl|exact absurd rfl hj
  | 5,_,hj=>first|rfl|exact absurd rfl hj)
theorem ml{M:Mt}(h:bL M=true):M.asks < 64∧(M.asks.testBit 0=false→M.gf=(0,0))∧(M.asks.testBit 1=false→M.src=oB)∧(M.asks.testBit 2=false→M.dst=oB)∧(M.asks.testBit 3=false→M.bV=0)∧(M.asks.testBit 4=false→M.sp=(0,0))∧(M.asks.testBit 5=false→M.dp=(0,0))∧
  (M.asks.testBit 1=true→gg M.src.v M.src.n M.src.k=true)∧(M.asks.testBit 2=true→gg M.dst.v M.dst.n M.dst.k=true):=by
 unfold bL at h
 simp only[Bool.and_eq_true]at h
 obtain⟨⟨h0,h1,h2,h3,h4,h5,h6⟩,⟨_,_,_,_⟩,⟨g1,g2,_⟩,_⟩:=h
 refine⟨by simpa using h0,fun hb=>?_,fun hb=>?_,fun hb=>?_,fun hb=>?_,fun hb=>?_,fun hb=>?_,fun hb=>?_,fun hb=>?_⟩
 ·rw[hb]at h1;exact of_decide_eq_true h1
 ·rw[hb]at h2;exact Fy h2
 ·rw[hb]at h3;exact Fy h3
 ·rw[hb]at h4;exact of_decide_eq_true h4
 ·rw[hb]at h5;exact of_decide_eq_true h5
 ·rw[hb]at h6;exact of_decide_eq_true h6
 ·rw[hb]at g1;exact g1
 ·rw[hb]at g2;exact g2
def uS(M:Mt):List Bs:=if M.asks=0 then [k8] else fR M
theorem Al(M:Mt):ji M=aQ 32 (uS M):=by unfold ji uS;split<;>rfl
theorem KI{M:Mt}(h0:M.asks≠0)(h:M.asks < 64):k7 M≠[]:=fun he=>by
 have:=zi ⟨M.asks,h⟩
 have he':([0,1,2,3,4,5].filter fun k=>M.asks.testBit k)=[]:=he
 rw[he']at this
 exact h0 this.symm
theorem JP:s6 k8=none:=by decide
theorem F5(hU:Et){M:Mt}(hM:Bg M)(hc:bL M=true){pre r:List Bs}(hr:NL r):fF (pre++(uS M++r)) pre.length=.ok M (pre.length+(uS M).length):=by
 obtain⟨ha,z0,z1,z2,z3,z4,z5,hs,hd⟩:=ml hc
 unfold fF
 by_cases h0:M.asks=0
 ·have e:uS M=[k8]:=by unfold uS;rw[if_pos h0]
  rw[e,jB (by simp)]
  have:M=kZ:=by
   refine FW h0 (z0 (by rw[h0];rfl)) (z1 (by rw[h0];rfl)) (z2 (by rw[h0];rfl)) (z3 (by rw[h0];rfl)) (z4 (by rw[h0];rfl)) (z5 (by rw[h0];rfl))
  rw[this];rfl
 ·have e:uS M=(k7 M).flatMap (bN M):=by unfold uS;rw[if_neg h0,nX]
  rw[e]
  obtain⟨k,ks,hks⟩:=List.exists_cons_of_ne_nil (KI h0 ha)
  have hkm:k∈k7 M:=by rw[hks];simp
  obtain⟨x,y,e2,hx⟩:=pg M (jj hkm).1
  have hat:(pre++((k7 M).flatMap (bN M)++r))[pre.length]?=some x:=by
   rw[hks,List.flatMap_cons,e2,List.getElem?_append_right (by omega)];simp
  rw[ja (by rw[hat];intro hh;rw[Option.some.inj hh]at hx;rw[JP]at hx;cases hx)]
  show(bB (pre++((k7 M).flatMap (bN M)++r)) pre.length kZ).bind _=_
  have e3:pre++((k7 M).flatMap (bN M)++r)=pre++(bN M k++(ks.flatMap (bN M)++r)):=by rw[hks];simp
  have nb:∀j,kZ.asks.testBit j=false:=fun j=>Nat.zero_testBit j
  have hn:=yr M
  rw[hks,List.nodup_cons]at hn
  have hf:=yQ hU (m:=kZ) hM hs hd (jj hkm).1 (jj hkm).2 (nb k) (pre:=pre) (r:=ks.flatMap (bN M)++r)
  have hlen2:(bN M k).length=2:=by rw[e2];rfl
  have hll:∀l:List Nat,(∀j∈l,j < 6)→(l.flatMap (bN M)).length=2*l.length:=by
   intro l
   induction l with
   |nil=>intro _;rfl
   |cons j l ih=>
    intro hj
    obtain⟨_,_,e4,_⟩:=pg M (hj j (by simp))
    rw[List.flatMap_cons,List.length_append,ih (fun i hi=>hj i (List.mem_cons_of_mem _ hi)),e4]
    simp only[List.length_cons,List.length_nil];omega
  have hm:=ve hU hM hs hd hr ks (pre++bN M k) (gh M kZ k) ((pre++((k7 M).flatMap (bN M)++r)).length+1 - (pre.length+2)) (fun j hj=>by
   have hj2:j∈k7 M:=by rw[hks];exact List.mem_cons_of_mem _ hj
   refine⟨(jj hj2).1,(jj hj2).2,?_⟩
   unfold gh
   rw[pQ]
   show(kZ.asks|||2^k).testBit j=false
   rw[oG (show j≠k from fun he=>hn.1 (by rw[←he];exact hj))]
   exact nb j) hn.2 (by
    rw[e3]
    simp only[List.length_append,hlen2,hll ks (fun j hj=>(jj (M:=M) (by rw[hks];exact List.mem_cons_of_mem _ hj)).1)]
    omega)
  have hpl:(pre++bN M k).length=pre.length+2:=by rw[List.length_append,hlen2]
  rw[List.append_assoc,←e3,hpl]at hm
  rw[←e3]at hf
  rw[hf]
  show ey _ _ (pre.length+2) (gh M kZ k)=_
  rw[hm,hll _ (fun j hj=>(jj hj).1),hks]
  have:=LY ha z0 z1 z2 z3 z4 z5
  rw[hks,List.foldl_cons]at this
  rw[this]
  simp only[List.length_cons]
  congr 1
  omega
end Go.Proofs.YtnncigmpcdehnaaGreatDoor
