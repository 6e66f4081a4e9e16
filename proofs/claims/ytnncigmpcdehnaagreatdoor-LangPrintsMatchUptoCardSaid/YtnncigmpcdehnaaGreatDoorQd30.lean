import Derived.Test.YtnncigmpcdehnaaGreatDoorQd29
namespace Go.Proofs.YtnncigmpcdehnaaGreatDoor
open Go.RowKit Go.Lib Go.Sort
structure lu(w:World):Prop where
 sW:dJ w
 et:w.cell? ⟨0,0,none⟩=some (.iface 242 (.agg #[.pointer (some ⟨9,48,none⟩)]))
theorem lu.aF{S:List Nat}{w w':World}(h:lu w)(hc:ag S w w')(hS:∀k∈S,9≤k):lu w':=
 ⟨h.sW.aF hc hS,(hc.cell (p:=⟨0,0,none⟩) (Nat.lt_of_lt_of_le (show 0 < 9 by omega) h.sW.low) (fun hk=>by have:=hS 0 hk;omega)).trans h.et⟩
def bq(s:Bs):List Bs:=bK 10 s
theorem Jj(w:World)(s:Bs)(hs:s.length≤1000000)(hl:dJ w):Calls Tryz.prog 62 #[ab s,.string ⟨#[10]⟩] w (Sx.fj w (.sl 9 1 (bq s).length ((bq s).map ab))):=by
 refine(vB s 10 (by omega) w hl).mono ?_
 rintro e w' ⟨rfl,rfl⟩
 have hc:=fY 10 s
 refine⟨_,rfl,⟨by simp,.inr ⟨w.heap.size,0,_,strs (bK 10 s),rfl,aq.new w 9 (strs (bK 10 s)).toArray,Nat.le_refl _,by unfold maxLen;omega,by simp[strs],?_⟩⟩,fun k hk=>(by cases hk;exact Nat.le_refl _),(ag.refl [] w).alloc _⟩
 rw[List.drop_zero,List.take_of_length_le (by simp[strs,bq])]
 rfl
theorem Mv{b:Sx.bb}{mem:List Sx.Row}{l:Bs}{cf cf':CF}{d i:Nat}(m:Nat)(hm:m=mem.length)(hlan:lu b.w)(hS9:∀k∈b.S,9≤k)(hl:l.length≤1000000)(vk:cf.ai.length≤1000000∧cf.ae.length≤1000000∧cf.rules.length≤1000000∧cf.af.length≤1000000∧cf.aa.length≤1000000)(hd:d≤1000000)
  (hr:tX (Sx.rowAt mem) none none 1 2 3 4 5 6 7 cf d) (hT:eL (aJ true l) cf d=.ok cf' i) (W:World) (β:Sx.Env) (hS:Sx.dP b β W (Sx.rowAt mem) [1,2,3,4,5,6,7]) :
  Calls Tryz.prog 64 (([.val (ab l),.ptr 1 0,.ptr 2 0]:List Sx.SV).map (Sx.SV.den β)).toArray W (Sx.aP b β W (Sx.rowAt mem) m (O7 none none [] 1 2 3 4 5 6 7 m cf' (dN (aJ true l) d) .nilIface none)):=by
 subst hm
 obtain⟨hat,hbd,hnd,hnew⟩:=H6 hS hr (by simp) (by decide)
 have hC:OV W (β 1) (β 2) cf d (qt β 3 4 5 6 7):=⟨hat,hbd,hnd,vk,hd,hlan.sW.aF hS.aF hS9,fun k hk=>by
  rcases hnew k hk with hx|hx
  ·exact hS9 k hx
  ·exact Nat.le_trans hlan.sW.low hx⟩
 show Calls Tryz.prog 64 #[ab l,.pointer (some ⟨β 1,0,none⟩),.pointer (some ⟨β 2,0,none⟩)] W _
 refine(LB l hl hC).mono fun e w' hp=>?_
 rcases hp with⟨cf2,i2,s',hT2,he,hcf,hb',hn',hf',hc⟩ | ⟨code,p,N,hT2,_⟩
 ·rw[hT]at hT2
  injection hT2 with h1 _
  subst h1
  exact .inl ⟨fun p hp=>(by cases hp),aI β mem.length cf' s',KU (X:=[]) hr (fun g hg=>(by cases hg)) (fun g hg=>(by cases hg)) he hcf hb' hn' (fun k hk=>(by cases hk)) (fun k hk=>by simpa using hf' k hk) (by simpa using hc)⟩
 ·rw[hT]at hT2;cases hT2
def OM(m:Nat)(code p:Nat):Sx.cB:=⟨[1,2,3,4,5,6,7],[],[1,2,3,4,5,6,7],[⟨105,.aj [.int .i64 (code:Int),.int .i64 (p:Int)]⟩],.jZ 103 m 0,none⟩
theorem J2{b:Sx.bb}{mem:List Sx.Row}{l:Bs}{cf:CF}{d code p:Nat}(m:Nat)(hm:m=mem.length)(hlan:lu b.w)(hS9:∀k∈b.S,9≤k)(hl:l.length≤1000000)(vk:cf.ai.length≤1000000∧cf.ae.length≤1000000∧cf.rules.length≤1000000∧cf.af.length≤1000000∧cf.aa.length≤1000000)(hd:d≤1000000)
  (hr:tX (Sx.rowAt mem) none none 1 2 3 4 5 6 7 cf d) (hT:eL (aJ true l) cf d=.no code p) (W:World) (β:Sx.Env) (hS:Sx.dP b β W (Sx.rowAt mem) [1,2,3,4,5,6,7]) :
  Calls Tryz.prog 64 (([.val (ab l),.ptr 1 0,.ptr 2 0]:List Sx.SV).map (Sx.SV.den β)).toArray W (Sx.aP b β W (Sx.rowAt mem) m (OM m code p)):=by
 obtain⟨hat,hbd,hnd,hnew⟩:=H6 hS hr (by simp) (by decide)
 have hC:OV W (β 1) (β 2) cf d (qt β 3 4 5 6 7):=⟨hat,hbd,hnd,vk,hd,hlan.sW.aF hS.aF hS9,fun k hk=>by
  rcases hnew k hk with hx|hx
  ·exact hS9 k hx
  ·exact Nat.le_trans hlan.sW.low hx⟩
 show Calls Tryz.prog 64 #[ab l,.pointer (some ⟨β 1,0,none⟩),.pointer (some ⟨β 2,0,none⟩)] W _
 refine(LB l hl hC).mono fun e w' hp=>?_
 rcases hp with⟨cf2,i2,s',hT2,_⟩ | ⟨code2,p2,N,hT2,he,hN,hB,hc⟩
 ·rw[hT]at hT2;cases hT2
 ·rw[hT]at hT2
  injection hT2 with h1 h2
  subst h1 h2
  refine .inl ⟨fun p hp=>(by cases hp),⟨fun i=>if i=m then N else β.b i,β.a,β.n,β.c⟩,fun i hi=>⟨by show _=if i=m then N else β.b i;rw[if_neg (by omega)],rfl,rfl,rfl⟩,?_,fun q hq=>(by cases hq),fun k r hk=>?_,fun k r x hk hx=>?_,fun k k' r r' x hk hk' _ _=>?_,hc.mono fun k hk=>.inl ?_⟩
  ·rw[he]
   show _=Ending.returned (.iface 103 (.pointer (some ⟨if m=m then N else β.b m,0,none⟩)))
   rw[if_pos rfl]
  ·match k,hk with
   | 0,hk=>
    cases hk
    show aq w' (if m+0=m then N else β.b (m+0)) 105 _
    rw[Nat.add_zero,if_pos rfl]
    exact hB
  ·match k,hk with
   | 0,hk=>
    cases hk
    have hx:some (if m+0=m then N else β.b (m+0))=some x:=hx
    rw[Nat.add_zero,if_pos rfl]at hx
    cases hx
    exact .inr hN
  ·match k,k',hk,hk' with
   | 0,0,_,_=>rfl
  ·show k∈([]++[1,2,3,4,5,6,7]).filterMap (Sx.cA β (Sx.rowAt mem))
   have bk:∀{i:Nat} {r:Sx.Row} {k:Nat},Sx.rowAt mem i=some r→Sx.av β i r=some k→Sx.cA β (Sx.rowAt mem) i=some k:=fun {i r k} hi hk=>by unfold Sx.cA;rw[hi];exact hk
   rcases dQ.1 hk with hx|hx|hx|hx|hx|hx|hx
   ·exact List.mem_filterMap.2 ⟨1,by simp,bk hr.c (by rw[hx];exact tG)⟩
   ·exact List.mem_filterMap.2 ⟨2,by simp,bk hr.d (by rw[hx];exact Bc)⟩
   ·exact List.mem_filterMap.2 ⟨3,by simp,bk hr.p hx⟩
   ·exact List.mem_filterMap.2 ⟨4,by simp,bk hr.r hx⟩
   ·exact List.mem_filterMap.2 ⟨5,by simp,bk hr.l hx⟩
   ·exact List.mem_filterMap.2 ⟨6,by simp,bk hr.m hx⟩
   ·exact List.mem_filterMap.2 ⟨7,by simp,bk hr.i hx⟩
theorem La{b:Sx.bb}{row:Nat→Option Sx.Row}{m k:Nat}(W:World)(β:Sx.Env)(_:Sx.dP b β W row []) :
  Calls Tryz.prog 63 (([.val .nilIface,.jZ 111 k 0]:List Sx.SV).map (Sx.SV.den β)).toArray W (Sx.aP b β W row m ⟨[],[],[],[],.val (.bool false),none⟩):=
 (M9 _ W).mono fun e w' ⟨he,hw⟩=>.inl ⟨fun p hp=>(by cases hp),β,Sx.dF (v:=.bool false) rfl rfl he (fun q hq=>by cases hq) (by rw[hw];exact ag.refl _ _)⟩
theorem Dd{b:Sx.bb}{row:Nat→Option Sx.Row}{m k N:Nat}(hlan:lu b.w)(hS9:∀k∈b.S,9≤k)(hk:row k=some ⟨103,.aj [.pointer none]⟩)(W:World)(β:Sx.Env)(hS:Sx.dP b β W row [k]) :
  Calls Tryz.prog 63 (([.jZ 103 N 0,.jZ 111 k 0]:List Sx.SV).map (Sx.SV.den β)).toArray W (Sx.aP b β W row m ⟨[k],[(k,⟨103,.dA [.ptr N 0]⟩)],[],[],.val (.bool true),none⟩):=by
 have hB:aq W (β k) 103 [.pointer none]:=hS.held k (by simp) _ hk
 refine(Na ⟨β N,0,none⟩ ⟨β k,0,none⟩ (.pointer none) W (hlan.aF hS.aF hS9).et (hB.cell_of rfl) (hB.frozen 0)).mono fun e w' ⟨he,hw⟩=>.inl ⟨fun p hp=>(by cases hp),β,Sx.dF (v:=.bool true) rfl rfl he (fun q hq=>?_) ?_⟩
 ·have hq:q=(k,⟨103,.dA [.ptr N 0]⟩):=List.mem_singleton.1 hq
  subst hq
  show aq w' (β k) 103 [.pointer (some ⟨β N,0,none⟩)]
  rw[hw]
  refine aq.oO (cs:=[.pointer none]) ?_ 0 _
  exact(((hB.aF ((ag.refl [] W).alloc _) (by simp)).aF ((ag.refl [] _).alloc _) (by simp)).aF ((ag.refl [] _).alloc _) (by simp)).aF ((ag.refl [] _).alloc _) (by simp)
 ·have ht:Sx.cB.dK β row ⟨[k],[(k,⟨103,.dA [.ptr N 0]⟩)],[],[],.val (.bool true),none⟩=[β k]:=by
   have:Sx.cA β row k=some (β k):=by unfold Sx.cA;rw[hk];rfl
   show([k]++[]).filterMap (Sx.cA β row)=_
   simp[this]
  rw[ht,hw]
  exact((((ag.refl _ W).alloc _).alloc _).alloc _ |>.alloc _).setCell (.inl (by simp)) _
open Go.RowKit Go.Lib Go.Sort
def cX(s:Nat×Nat):Bs:=if s.1=s.2 then ak 10 s.1 else ak 10 s.1++45::ak 10 s.2
def cQ(n:Nat):Bs:=if n=6 then oo else if n=17 then ph else ak 10 n
def qV(p:Px):Bs:=nY p.v p.n p.k
def bG(m:Mt)(k:Nat):List Bs:=match k with
 | 0=>[kY,cX m.eQ]
 | 1=>[fp,qV m.src]
 | 2=>[gk,qV m.dst]
 | 3=>[dc,cQ m.aV]
 | 4=>[eg,cX m.sp]
 |_=>[fR,cX m.dp]
def ig(m:Mt)(k:Nat):List Bs:=match m.asks.testBit k with
 |true=>bG m k
 |false=>[]
def iK(m:Mt):List Bs:=ig m 0++ig m 1++ig m 2++ig m 3++ig m 4++ig m 5
def dw(m:Mt):Bs:=if m.asks=0 then kZ else ao 32 (iK m)
def yd(m:Mt):Bs:=match ba m with
 |true=>dw m
 |false=>[]
def cE(n:Int):Bs:=if n < 0 then 45::ak 10 n.natAbs else ak 10 n.toNat
def aW(act out:Int):List Bs:=if act=1 then [dx] else if act=2 then [lA] else if act=3 then [oq,cE out] else if act=4 then [gj] else []
def du(k s:Bs):List Bs:=if s=[] then [] else [k,s]
def eD(r:Rl):List Bs:=[gi,r.name,yd r.mt,uU]++aW r.act r.out++du bU r.dm++du bp r.cj
def eb(n:Int):List Bs:=[km,cE n]
def eG(r:Rt):List Bs:=[dx,qV r.pf,cE r.out]
def eJ(m:Me):List Bs:=[bU,m.name,ak 10 m.num,ak 10 m.den,ak 10 m.pH]
def cR(m:Mi):List Bs:=[bp,m.name,cE m.out,cE m.room]
def j2(d:Int):List Bs:=bD::aW d 0
def ry(cf:CF):List (List Bs):=cf.ai.map eb++cf.ae.map eG++cf.af.map eJ++cf.aa.map cR++cf.rules.map eD++[j2 cf.br]
def iD(ws:List Bs):Bs:=ao 32 ws++[10]
def di(l:List (List Bs)):Bs:=l.flatMap iD
def fy(cf:CF):Bs:=di (ry cf)
def aB(is:Bool)(code e:Int):Int:=match is with
 |true=>e
 |false=>match decide (e=0)with
  |true=>code
  |false=>e
def Ck(e:Int)(n:Int):Int:=aB (decide (n≥0)) 2 e
def vN(e:Int)(r:Rt):Int:=aB (decide (r.out≥0)) 2 (aB (fA r.pf.v r.pf.n r.pf.k) 151 e)
def we(e:Int)(m:Me):Int:=aB (aE m.name) 201 e
def jE(e:Int)(m:Mi):Int:=aB (decide (m.out≥0)&&decide (m.room≥0)) 2 (aB (aE m.name) 201 e)
def mD(act out:Int):Bool:=(decide (1≤act)&&decide (act≤4))&&(decide (out≥0)&&(decide (out=0)||decide (act=3)))
def ju(s:Bs):Bool:=decide (s=[])||aE s
def qv(e:Int)(r:Rl):Int:=aB (ju r.cj) 201 (aB (ju r.dm) 201 (aB (mD r.act r.out) 2 (aB (ba r.mt) 190 (aB (aE r.name) 201 e))))
def Hy(e:Int)(d:Int):Int:=aB (decide (d=1)||(decide (d=2)||decide (d=4))) 2 e
def tJ(cf:CF):Int:=Hy (cf.rules.foldl qv (cf.aa.foldl jE (cf.af.foldl we (cf.ae.foldl vN (cf.ai.foldl Ck 0))))) cf.br
def ui(cf:CF):Int:=aB (decide ((fy cf).length≤65536)) 4 (tJ cf)
def iB(cf:CF):Bs×Int:=if ui cf=0 then(fy cf,0)else([],ui cf)
def um(c:UInt8):Prop:=c≠32∧c≠9∧c≠35∧c≠10
def dW(x:Bs):Prop:=x≠[]∧∀c∈x,um c
theorem lI(cm:Bool)(r:Bs):∀(x cur:Bs),(∀c∈x,um c)→bW cm cur (x++r)=bW cm (cur++x) r
 | [],cur,_=>by simp
 |c::x,cur,h=>by
  have hc:=h c (by simp)
  have e:bW cm cur (c::(x++r))=bW cm (cur++[c]) (x++r):=by
   rw[bW,if_neg (fun hh=>hc.2.2.1 hh.2),if_neg (fun hh=>by
    rcases hh with hh|hh
    ·exact hc.1 hh
    ·exact hc.2.1 hh)]
  rw[List.cons_append,e,lI cm r x (cur++[c]) (fun d hd=>h d (by simp[hd]))]
  simp
theorem vy(cm:Bool)(r cur:Bs)(hc:cur≠[]):bW cm cur (32::r)=cur::bW cm [] r:=by
 rw[bW,if_neg (fun hh=>absurd hh.2 (by decide)),if_pos (.inl rfl),if_neg hc]
theorem nP(cm:Bool):∀ws:List Bs,(∀x∈ws,dW x)→aJ cm (ao 32 ws)=ws
 | [],_=>by simp[aJ,ao,bW]
 | [x],h=>by
  have hx:=h x (by simp)
  have:=lI cm [] x [] hx.2
  simp only[List.append_nil,List.nil_append]at this
  show bW cm [] x=[x]
  rw[this,bW,if_neg hx.1]
 |x::y::r,h=>by
  have hx:=h x (by simp)
  show bW cm [] (x++32::ao 32 (y::r))=_
  rw[lI cm _ x [] hx.2,List.nil_append,vy cm _ x hx.1]
  congr 1
  exact nP cm (y::r) fun z hz=>h z (List.mem_cons_of_mem _ hz)
theorem J5:∀ws:List Bs,(∀x∈ws,∀c∈x,um c)→(10:UInt8)∉ao 32 ws:=fun ws h hm=>by
 rcases fm hm with h1|⟨x,hx,h1⟩
 ·exact absurd h1 (by decide)
 ·exact(h x hx _ h1).2.2.2 rfl
theorem qE:∀l:List (List Bs),(∀ws∈l,∀x∈ws,∀c∈x,um c)→bq (di l)=l.map (ao 32)++[[]]
 | [],_=>by simp[di,bq,bK]
 |ws::l,h=>by
  have ih:=qE l fun v hv=>h v (List.mem_cons_of_mem _ hv)
  have e:di (ws::l)=ao 32 ws++10::di l:=by simp[di,iD]
  unfold bq at ih ⊢
  rw[e,kH 10 _ _ (J5 ws (h ws (by simp))),ih]
  rfl
theorem D9(c:UInt8)(x:Bs)(ws r:List Bs)(hw:ws≠[]):ao c (x::ao c ws::r)=ao c (x::(ws++r)):=by
 have aux:∀(ws r:List Bs),ws≠[]→ao c (ao c ws::r)=ao c (ws++r):=by
  intro ws
  induction ws with
  |nil=>intro r h;exact absurd rfl h
  |cons a l ih=>
   intro r _
   cases l with
   |nil=>rfl
   |cons b l=>
    have h1:=ih r (by simp)
    cases r with
    |nil=>simp[ao]
    |cons d r=>
     show(a++c::ao c (b::l))++c::ao c (d::r)=a++c::ao c (b::(l++d::r))
     have h1:ao c (b::l)++c::ao c (d::r)=ao c (b::(l++d::r)):=h1
     rw[←h1];simp
 have h1:=aux ws r hw
 obtain⟨a,l,rfl⟩:=List.exists_cons_of_ne_nil hw
 show x++c::ao c (ao c (a::l)::r)=x++c::ao c (a::(l++r))
 rw[h1];rfl
set_option maxRecDepth 100000
open Go Go.RowKit Go.Lib Go.Sort
def cN(og:Option Nat)(cs:List Sx.SV):Sx.Row:=match og with
 |some g=>⟨132,.jg g cs⟩
 |none=>⟨132,.dA cs⟩
structure mF(row:Nat→Option Sx.Row)(i j:Nat)(og:Option Nat)(p:Bool)(tx:Bs)(e:Int):Prop where
 b:row i=some (cN og [.cw p i 0,.own j,.val (.int .i64 e)])
 o:row j=some ⟨5,.own 1 tx.length (iU tx)⟩
theorem kE{β:Sx.Env}{W:World}{i:Nat}{og:Option Nat}{cs:List Sx.SV}:Sx.aS β W i (cN og cs)↔(∀g,og=some g→β i=g)∧aq W (β i) 132 (cs.map (Sx.SV.den β)):=by
 cases og with
 |none=>exact⟨fun h=>⟨fun g hg=>(by cases hg),h⟩,fun h=>h.2⟩
 |some g=>exact⟨fun h=>⟨fun g' hg=>by cases hg;exact h.1,h.2⟩,fun h=>⟨h.1 g rfl,h.2⟩⟩
theorem mL{β:Sx.Env}{i:Nat}{og:Option Nat}{cs:List Sx.SV}:Sx.av β i (cN og cs)=some (β i):=by cases og<;>rfl
theorem nS{b:Sx.bb}{β:Sx.Env}{W:World}{row:Nat→Option Sx.Row}{gJ:List Nat}{i j:Nat}{og:Option Nat}{p:Bool}{tx:Bs}{e:Int}(hS:Sx.dP b β W row gJ)(h:mF row i j og p tx e)(hi:i∈gJ)(hj:j∈gJ) :
  Tx W (β i) p (β.a j) (β.c j) tx e∧∀g,og=some g→β i=g:=by
 have h1:=kE.1 (hS.held i hi _ h.b)
 have h2:β.n j=tx.length∧Own W 5 1 (.slice (β.a j) tx.length (β.c j)) tx.length (iU tx):=hS.held j hj _ h.o
 refine⟨⟨?_,h2.2⟩,h1.1⟩
 have hb:=h1.2
 have e1:([Sx.SV.cw p i 0,.own j,.val (.int .i64 e)].map (Sx.SV.den β))=[pV p (β i),β.sl j,.int .i64 e]:=rfl
 rw[e1]at hb
 unfold Sx.Env.sl at hb
 rw[h2.1]at hb
 exact hb
def xx(X:List Nat)(i j m:Nat)(og:Option Nat)(tx:Bs)(e:Int)(v:Value):Sx.cB:=⟨i::j::X,[(i,cN og [.cw true i 0,.own m,.val (.int .i64 e)])],[j],[⟨5,.own 1 tx.length (iU tx)⟩],.val v,none⟩
def Ln(β:Sx.Env)(m:Nat)(A:Option Go.Addr)(n c:Nat):Sx.Env:=⟨β.b,fun i=>if i=m then A else β.a i,fun i=>if i=m then n else β.n i,fun i=>if i=m then c else β.c i⟩
theorem ri{b:Sx.bb}{β:Sx.Env}{W w':World}{row:Nat→Option Sx.Row}{X:List Nat}{i j m:Nat}{og:Option Nat}{p:Bool}{tx tx':Bs}{e e':Int}{v:Value}{en:Ending}(h:mF row i j og p tx e)(_hi:i < m)(_hj:j < m)(hg:∀g,og=some g→β i=g)
  (hp:lr (β i) (β.a j) v tx' e' W en w'):Sx.aP b β W row m (xx X i j m og tx' e' v) en w':=by
 obtain⟨A',c',he,ht,hc,hk⟩:=hp
 refine .inl ⟨fun p hp=>(by cases hp),Ln β m A' tx'.length c',fun k hk=>⟨rfl,?_,?_,?_⟩,he,fun q hq=>?_,fun k r hr=>?_,fun k r x hr hx=>?_,fun k k' r r' x hr hr' _ _=>?_,hc.mono fun k hk=>.inl ?_⟩
 ·show β.a k=if k=m then A' else β.a k
  rw[if_neg (by omega)]
 ·show β.n k=if k=m then tx'.length else β.n k
  rw[if_neg (by omega)]
 ·show β.c k=if k=m then c' else β.c k
  rw[if_neg (by omega)]
 ·have hq:q=(i,cN og [.cw true i 0,.own m,.val (.int .i64 e')]):=List.mem_singleton.1 hq
  subst hq
  refine kE.2 ⟨hg,?_⟩
  show aq w' (β i) 132 [pV true (β i),.slice (if m=m then A' else β.a m) (if m=m then tx'.length else β.n m) (if m=m then c' else β.c m),.int .i64 e']
  rw[if_pos rfl,if_pos rfl,if_pos rfl]
  exact ht.bZ
 ·match k,hr with
  | 0,hr=>
   cases hr
   show(if m+0=m then tx'.length else β.n (m+0))=tx'.length∧Own w' 5 1 (.slice (if m+0=m then A' else β.a (m+0)) tx'.length (if m+0=m then c' else β.c (m+0))) tx'.length (iU tx')
   rw[Nat.add_zero,if_pos rfl,if_pos rfl,if_pos rfl]
   exact⟨rfl,ht.own⟩
 ·match k,hr with
  | 0,hr=>
   cases hr
   have hx:(if m+0=m then A' else β.a (m+0)).map (·.block)=some x:=hx
   rw[Nat.add_zero,if_pos rfl]at hx
   rcases hk x hx with h1|h1
   ·refine .inl (List.mem_filterMap.2 ⟨j,by simp[xx],?_⟩)
    unfold Sx.cA
    rw[h.o]
    exact h1
   ·exact .inr h1
 ·match k,k',hr,hr' with
  | 0,0,_,_=>rfl
 ·show k∈([i]++[j]).filterMap (Sx.cA β row)
  rcases List.mem_cons.1 hk with rfl|hk
  ·refine List.mem_filterMap.2 ⟨i,by simp,?_⟩
   unfold Sx.cA
   rw[h.b]
   exact mL
  ·refine List.mem_filterMap.2 ⟨j,by simp,?_⟩
   unfold Sx.cA
   rw[h.o]
   show(β.a j).map (·.block)=some k
   simpa using hk
theorem Ja{w:World}{g:Nat}{p:Bool}{A:Option Go.Addr}{c:Nat}{tx:Bs}{e:Int}(is:Bool)(code:Int)(h:Tx w g p A c tx e) :
  Calls Tryz.prog 69 #[.pointer (some ⟨g,0,none⟩),.bool is,.int .i64 code] w fun e' w'=>e'=.returned (.tuple #[])∧Tx w' g p A c tx (aB is code e)∧ag [g] w w':=by
 have d1:w.cell? ⟨g,2,none⟩=some (.int .i64 e):=h.bZ.cell_of rfl
 have f1:w.frozen? ⟨g,2,none⟩=false:=h.bZ.frozen 2
 have hb2:=h.bZ.oO 2 (.int .i64 code)
 have ho2:=h.own.I0 (p:=⟨g,2,none⟩) h.ne (.int .i64 code)
 have HH:=hid h
 clear h
 cases is with
 |true=>
  go_enter Tryz.func69,Tryz.ntmps69
  go_wp2
  go_end0
  exact⟨rfl,HH.out,ag.refl _ _⟩
 |false=>
  by_cases he:e=0
  ·have hw:aB false code e=code:=by unfold aB;rw[decide_eq_true he]
   have hb:(e==0)=true:=by rw[he];rfl
   rw[hw]
   go_enter Tryz.func69,Tryz.ntmps69
   go_wp2
   go_end0
   exact⟨rfl,⟨by simpa[NC]using hb2,ho2⟩,(ag.refl _ w).setCell (.inl (by simp)) _⟩
  ·have hw:aB false code e=e:=by unfold aB;rw[decide_eq_false he]
   have hb:(e==0)=false:=beq_eq_false_iff_ne.2 he
   rw[hw]
   go_enter Tryz.func69,Tryz.ntmps69
   go_wp2
   go_end0
   exact⟨rfl,HH.out,ag.refl _ _⟩
def fq(X:List Nat)(i j:Nat)(og:Option Nat)(p:Bool)(e:Int):Sx.cB:=⟨i::j::X,[(i,cN og [.cw p i 0,.own j,.val (.int .i64 e)])],[],[],.val (.tuple #[]),none⟩
theorem ey{b:Sx.bb}{row:Nat→Option Sx.Row}{i j m:Nat}{og:Option Nat}{p:Bool}{tx:Bs}{e:Int}(is:Bool)(code:Int)(h:mF row i j og p tx e)(W:World)(β:Sx.Env)(hS:Sx.dP b β W row [i,j]) :
  Calls Tryz.prog 69 (([.ptr i 0,.val (.bool is),.val (.int .i64 code)]:List Sx.SV).map (Sx.SV.den β)).toArray W (Sx.aP b β W row m (fq [] i j og p (aB is code e))):=by
 obtain⟨ht,hg⟩:=nS hS h (by simp) (by simp)
 show Calls Tryz.prog 69 #[.pointer (some ⟨β i,0,none⟩),.bool is,.int .i64 code] W _
 refine(Ja is code ht).mono fun en w' ⟨he,ht',hc⟩=>.inl ⟨fun p hp=>(by cases hp),β,Sx.dF (v:=.tuple #[]) rfl rfl he (fun q hq=>?_) ?_⟩
 ·have hq:q=(i,cN og [.cw p i 0,.own j,.val (.int .i64 (aB is code e))]):=List.mem_singleton.1 hq
  subst hq
  refine kE.2 ⟨hg,?_⟩
  have h2:β.n j=tx.length:=(hS.held j (by simp) _ h.o).1
  show aq w' (β i) 132 [pV p (β i),.slice (β.a j) (β.n j) (β.c j),.int .i64 (aB is code e)]
  rw[h2]
  exact ht'.bZ
 ·refine hc.mono fun k hk=>.inl ?_
  show k∈([i]++[]).filterMap (Sx.cA β row)
  refine List.mem_filterMap.2 ⟨i,by simp,?_⟩
  unfold Sx.cA
  rw[h.b,List.mem_singleton.1 hk]
  exact mL
theorem Oi{w:World}{g:Nat}{p:Bool}{A:Option Go.Addr}{c:Nat}{tx:Bs}{e:Int}(h:Tx w g p A c tx e):Calls Tryz.prog 76 #[.pointer (some ⟨g,0,none⟩)] w fun e' w'=>e'=.returned (.int .i64 (tx.length:Int))∧w'=w:=by
 have d1:w.cell? ⟨g,1,none⟩=some (.slice A tx.length c):=h.bZ.cell_of rfl
 clear h
 go_enter Tryz.func76,Tryz.ntmps76
 go_wp2
 go_ret
 exact⟨rfl,rfl⟩
theorem Kg{P:Program}{e:TypeId}(hc:P.cellsOf e=1)(count o n:Nat)(hn:o+n≤count):liesAt P P.depth e count o e n=true:=by
 have hd:P.depth=(2*(P.types.size+Made.depth)+1)+1:=rfl
 rw[hd]
 simp only[liesAt,Bool.or_eq_true]
 left
 rw[hd]
 simp[rowAt,hc,sameLayout,Nat.mod_one]
 omega
theorem nu{P:Program}(w:World)(pt it ty e:TypeId)(hp:P.underlying pt=some (.pointer e))(hc:P.cellsOf e=1)(g o cells:Nat)(hsh:w.shape? g=some (e,cells))(l:List UInt8)(h0:l≠[])(hn:o+l.length≤cells)(h63:l.length≤9223372036854775807)
  (hcell:∀j x,l[j]?=some x→w.cell? ((⟨g,o,none⟩:Addr).add j)=some (.int .u8 x.toNat)) :
  (Builtin.unsafeString_ #[pt,it] ty #[.pointer (some ⟨g,o,none⟩),.int .i64 l.length]).run P w=.ok (.string ⟨l.toArray⟩) (w.freeze ⟨g,o,none⟩ l.length):=by
 have hl:l.length≠0:=by simpa using h0
 have hlb:=run_loadBytes (P:=P) w l ⟨g,o,none⟩ .empty hcell
 have hlies:=Kg (P:=P) hc (cells / P.cellsOf e) o l.length (by rw[hc]; simpa using hn)
 have h63':¬(9223372036854775807:Int) < (l.length:Int):=by omega
 have hdef:Builtin.unsafeString_ #[pt,it] ty #[.pointer (some ⟨g,o,none⟩),.int .i64 l.length]=
   (do
    let n ←asInt (.int .i64 l.length)
    if n < 0 then runtimePanic (.error "unsafe.String: len out of range")
    if n > IntKind.i64.max then unsupported (.unsafePointer "String: a length above the largest int")
    if n=0 then pure (.string .empty)
    else if ←variablesAt ⟨g,o,none⟩ (←elemOf pt) n.toNat then do
     let s ←loadBytes ⟨g,o,none⟩ .empty n.toNat
     freeze ⟨g,o,none⟩ n.toNat
     pure (.string s)
    else unsupported (.unsafePointer "String: not so many bytes at ptr")):=rfl
 rw[hdef]
 have hmax:IntKind.i64.max=9223372036854775807:=rfl
 have hneg:¬(l.length:Int) < 0:=by omega
 simp[asInt,asIntOf,hmax,h63',hneg,hl,variablesAt,hsh,elemOf,run_underlying hp,hlies,hlb]
set_option maxHeartbeats 1000000 in
theorem Fx{w:World}{g:Nat}{p:Bool}{A:Option Go.Addr}{c:Nat}{tx:Bs}{e:Int}(h:Tx w g p A c tx e)(h0:tx≠[]):Calls Tryz.prog 77 #[.pointer (some ⟨g,0,none⟩)] w fun e' w'=>e'=.returned (ab tx)∧ag (oJ g A) w w':=by
 have hl0:tx.length≠0:=by simpa using h0
 obtain⟨b,o,cap,L,hv,hb,hnc,hcm,hcl,htake⟩:∃b o cap L,Value.slice A tx.length c=.slice (some ⟨b,o,none⟩) tx.length cap∧aq w b 5 L∧tx.length≤cap∧cap≤maxLen∧o+cap*1≤L.length∧(L.drop o).take (tx.length*1)=iU tx:=by
  rcases h.own.2 with⟨_,hz⟩ | ⟨b,o,cap,L,hv,r⟩
  ·exact absurd hz hl0
  ·exact⟨b,o,cap,L,hv,r⟩
 injection hv with hA _ hc
 subst hA hc
 have c1:w.drew.cell? ⟨g,1,none⟩=some (.slice (some ⟨b,o,none⟩) tx.length c):=h.bZ.cell_of rfl
 have hSD:(Builtin.unsafeSliceData_ #[82] 210 #[.slice (some ⟨b,o,none⟩) tx.length c]).run Tryz.prog w.drew=.ok (.pointer (some ⟨b,o,none⟩)) w.drew:=run_unsafeSliceData_row _ _ _ _ _ _ (by omega)
 have hsh:w.drew.shape? b=some (5,L.length):=hb.shape
 have hUS:(Builtin.unsafeString_ #[210,3] 9 #[.pointer (some ⟨b,o,none⟩),.int .i64 tx.length]).run Tryz.prog w.drew=.ok (.string ⟨tx.toArray⟩) (w.drew.freeze ⟨b,o,none⟩ tx.length):=
  nu w.drew 210 3 9 5 Tryz.underlying210 (by kernel_rfl) b o L.length hsh tx h0 (by omega) (by unfold maxLen at hcm;omega) fun j x hx=>by
   have:=h.own.jn j (.int .u8 x.toNat) (by simp[iU,hx])
   exact this
 have hgb:ag (oJ g (some ⟨b,o,none⟩)) w (w.drew.freeze ⟨b,o,none⟩ tx.length):=by
  have hf:=below_freeze (B:=0) (Below.drew (Below.refl 0 w)) (p:=⟨b,o,none⟩) (Nat.zero_le _) tx.length
  refine⟨hf.os,hf.tape,hf.output,hf.size,fun k hk hS=>?_⟩
  have hne:k≠b:=fun hh=>hS (by simp[oJ,hh])
  unfold World.freeze
  rw[if_neg hl0]
  show(w.heap.modify b _)[k]?=_
  rw[Array.getElem?_modify,if_neg (fun hh=>hne hh.symm)]
 have mixed:Tryz.prog.follows .mixedOrders=true:=by kernel_rfl
 clear h hb
 go_enter Tryz.func77,Tryz.ntmps77
 go_wp2
 go_region_o
 all_goals (go_wp2;go_ret;exact⟨rfl,hgb⟩)
end Go.Proofs.YtnncigmpcdehnaaGreatDoor
