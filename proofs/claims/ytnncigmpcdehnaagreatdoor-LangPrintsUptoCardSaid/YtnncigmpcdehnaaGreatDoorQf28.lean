import Derived.Test.YtnncigmpcdehnaaGreatDoorQf27
namespace Go.Proofs.YtnncigmpcdehnaaGreatDoor
open Go.RowKit Go.Lib Go.Sort _root_.Go.Proofs.Tryz
structure lD(w:World):Prop where
 u5:eb w
 et:w.cell? ⟨0,0,none⟩=some (.iface 242 (.agg #[(pt 9 48)]))
theorem lD.aG{S:List Nat}{w w':World}(h:lD w)(hc:ai S w w')(hS:∀k∈S,9≤k):lD w':=
 ⟨h.u5.aG hc hS,(hc.cell (p:=⟨0,0,none⟩) (Nat.lt_of_lt_of_le (show 0 < 9 by omega) h.u5.low) (fun hk=>by have:=hS 0 hk;omega)).trans h.et⟩
def bA(s:Bs):List Bs:=bR 10 s
theorem Mj(w:World)(s:Bs)(hs:s.length≤1000000)(hl:eb w):Calls prog 62 #[ab s,.string ⟨#[10]⟩] w (Sx.fU w (.sl 9 1 (bA s).length ((bA s).map ab))):=by
 refine(xW s 10 (by omega) w hl).mono ?_
 rintro e w' ⟨rfl,rfl⟩
 have hc:=gM 10 s
 refine⟨_,rfl,⟨by simp,.inr ⟨w.heap.size,0,_,strs (bR 10 s),rfl,au.new w 9 (strs (bR 10 s)).toArray,Nat.le_refl _,by unfold maxLen;omega,by simp[strs],?_⟩⟩,fun k hk=>(by cases hk;exact Nat.le_refl _),(ai.refl [] w).alloc _⟩
 rw[List.drop_zero,List.take_of_length_le (by simp[strs,bA])]
 rfl
theorem P2{b:Sx.aU}{mem:List Sx.Row}{l:Bs}{cf cf':CF}{d i:Nat}(m:Nat)(hm:m=mem.length)(hlan:lD b.w)(hS9:∀k∈b.S,9≤k)(hl:l.length≤1000000)(xG:cf.ag.length≤1000000∧cf.ae.length≤1000000∧cf.rules.length≤1000000∧cf.af.length≤1000000∧cf.aa.length≤1000000)(hd:d≤1000000)
  (hr:we (Sx.rowAt mem) none none 1 2 3 4 5 6 7 cf d) (hT:ft (aK true l) cf d=.ok cf' i) (W:World) (β:Sx.Env) (hS:Sx.eF b β W (Sx.rowAt mem) [1,2,3,4,5,6,7]) :
  Calls prog 64 (([.val (ab l),.ptr 1 0,.ptr 2 0]:List Sx.SV).map (Sx.SV.den β)).toArray W (Sx.aY b β W (Sx.rowAt mem) m (Ts none none [] 1 2 3 4 5 6 7 m cf' (dN (aK true l) d) .nilIface none)):=by
 subst hm
 obtain⟨hat,hbd,hnd,hnew⟩:=KH hS hr (by simp) (by decide)
 have hC:SF W (β 1) (β 2) cf d (kY β 3 4 5 6 7):=⟨hat,hbd,hnd,xG,hd,hlan.u5.aG hS.aG hS9,fun k hk=>by
  rcases hnew k hk with hx|hx
  ·exact hS9 k hx
  ·exact Nat.le_trans hlan.u5.low hx⟩
 show Calls prog 64 #[ab l,.pointer (some ⟨β 1,0,none⟩),.pointer (some ⟨β 2,0,none⟩)] W _
 refine(OU l hl hC).mono fun e w' hp=>?_
 rcases hp with⟨cf2,i2,s',hT2,he,hcf,hb',hn',hf',hc⟩ | ⟨code,p,N,hT2,_⟩
 ·rw[hT]at hT2
  injection hT2 with h1 _
  subst h1
  exact .inl ⟨fun p hp=>(by cases hp),aJ β mem.length cf' s',Oc (X:=[]) hr (fun g hg=>(by cases hg)) (fun g hg=>(by cases hg)) he hcf hb' hn' (fun k hk=>(by cases hk)) (fun k hk=>by simpa using hf' k hk) (by simpa using hc)⟩
 ·rw[hT]at hT2;cases hT2
def Sv(m:Nat)(code p:Nat):Sx.cC:=⟨[1,2,3,4,5,6,7],[],[1,2,3,4,5,6,7],[⟨105,.ak [.int .i64 (code:Int),.int .i64 (p:Int)]⟩],.kT 103 m 0,none⟩
theorem Ng{b:Sx.aU}{mem:List Sx.Row}{l:Bs}{cf:CF}{d code p:Nat}(m:Nat)(hm:m=mem.length)(hlan:lD b.w)(hS9:∀k∈b.S,9≤k)(hl:l.length≤1000000)(xG:cf.ag.length≤1000000∧cf.ae.length≤1000000∧cf.rules.length≤1000000∧cf.af.length≤1000000∧cf.aa.length≤1000000)(hd:d≤1000000)
  (hr:we (Sx.rowAt mem) none none 1 2 3 4 5 6 7 cf d) (hT:ft (aK true l) cf d=.no code p) (W:World) (β:Sx.Env) (hS:Sx.eF b β W (Sx.rowAt mem) [1,2,3,4,5,6,7]) :
  Calls prog 64 (([.val (ab l),.ptr 1 0,.ptr 2 0]:List Sx.SV).map (Sx.SV.den β)).toArray W (Sx.aY b β W (Sx.rowAt mem) m (Sv m code p)):=by
 obtain⟨hat,hbd,hnd,hnew⟩:=KH hS hr (by simp) (by decide)
 have hC:SF W (β 1) (β 2) cf d (kY β 3 4 5 6 7):=⟨hat,hbd,hnd,xG,hd,hlan.u5.aG hS.aG hS9,fun k hk=>by
  rcases hnew k hk with hx|hx
  ·exact hS9 k hx
  ·exact Nat.le_trans hlan.u5.low hx⟩
 show Calls prog 64 #[ab l,.pointer (some ⟨β 1,0,none⟩),.pointer (some ⟨β 2,0,none⟩)] W _
 refine(OU l hl hC).mono fun e w' hp=>?_
 rcases hp with⟨cf2,i2,s',hT2,_⟩ | ⟨code2,p2,N,hT2,he,hN,hB,hc⟩
 ·rw[hT]at hT2;cases hT2
 ·rw[hT]at hT2
  injection hT2 with h1 h2
  subst h1 h2
  refine .inl ⟨fun p hp=>(by cases hp),⟨fun i=>if i=m then N else β.b i,β.a,β.n,β.c⟩,fun i hi=>⟨by show _=if i=m then N else β.b i;rw[if_neg (by omega)],rfl,rfl,rfl⟩,?_,fun q hq=>(by cases hq),fun k r hk=>?_,fun k r x hk hx=>?_,fun k k' r r' x hk hk' _ _=>?_,hc.mono fun k hk=>.inl ?_⟩
  ·rw[he]
   show _=Ending.returned (.iface 103 (.pointer (some ⟨if m=m then N else β.b m,0,none⟩)))
   rw[if_pos rfl]
  ·match k,hk with
   | 0,hk=>
    cases hk
    show au w' (if m+0=m then N else β.b (m+0)) 105 _
    rw[Nat.add_zero,if_pos rfl]
    exact hB
  ·match k,hk with
   | 0,hk=>
    cases hk
    have hx:some (if m+0=m then N else β.b (m+0))=some x:=hx
    rw[Nat.add_zero,if_pos rfl]at hx
    cases hx
    exact .inr hN
  ·match k,k',hk,hk' with
   | 0,0,_,_=>rfl
  ·show k∈([]++[1,2,3,4,5,6,7]).filterMap (Sx.cE β (Sx.rowAt mem))
   have bk:∀{i:Nat} {r:Sx.Row} {k:Nat},Sx.rowAt mem i=some r→Sx.av β i r=some k→Sx.cE β (Sx.rowAt mem) i=some k:=fun {i r k} hi hk=>by unfold Sx.cE;rw[hi];exact hk
   rcases eA.1 hk with hx|hx|hx|hx|hx|hx|hx
   ·exact List.mem_filterMap.2 ⟨1,by simp,bk hr.c (by rw[hx];exact vN)⟩
   ·exact List.mem_filterMap.2 ⟨2,by simp,bk hr.d (by rw[hx];exact Ds)⟩
   ·exact List.mem_filterMap.2 ⟨3,by simp,bk hr.p hx⟩
   ·exact List.mem_filterMap.2 ⟨4,by simp,bk hr.r hx⟩
   ·exact List.mem_filterMap.2 ⟨5,by simp,bk hr.l hx⟩
   ·exact List.mem_filterMap.2 ⟨6,by simp,bk hr.m hx⟩
   ·exact List.mem_filterMap.2 ⟨7,by simp,bk hr.i hx⟩
theorem Ou{b:Sx.aU}{row:Nat→Option Sx.Row}{m k:Nat}(W:World)(β:Sx.Env)(_:Sx.eF b β W row []) :
  Calls prog 63 (([.val .nilIface,.kT 111 k 0]:List Sx.SV).map (Sx.SV.den β)).toArray W (Sx.aY b β W row m ⟨[],[],[],[],.val (.bool false),none⟩):=
 (QH _ W).mono fun e w' ⟨he,hw⟩=>.inl ⟨fun p hp=>(by cases hp),β,Sx.du (v:=.bool false) rfl rfl he (fun q hq=>by cases hq) (by rw[hw];exact ai.refl _ _)⟩
theorem FB{b:Sx.aU}{row:Nat→Option Sx.Row}{m k N:Nat}(hlan:lD b.w)(hS9:∀k∈b.S,9≤k)(hk:row k=some ⟨103,.ak [.pointer none]⟩)(W:World)(β:Sx.Env)(hS:Sx.eF b β W row [k]) :
  Calls prog 63 (([.kT 103 N 0,.kT 111 k 0]:List Sx.SV).map (Sx.SV.den β)).toArray W (Sx.aY b β W row m ⟨[k],[(k,⟨103,.dK [.ptr N 0]⟩)],[],[],.val (.bool true),none⟩):=by
 have hB:au W (β k) 103 [.pointer none]:=hS.held k (by simp) _ hk
 refine(QI ⟨β N,0,none⟩ ⟨β k,0,none⟩ (.pointer none) W (hlan.aG hS.aG hS9).et (hB.cell_of rfl) (hB.frozen 0)).mono fun e w' ⟨he,hw⟩=>.inl ⟨fun p hp=>(by cases hp),β,Sx.du (v:=.bool true) rfl rfl he (fun q hq=>?_) ?_⟩
 ·have hq:q=(k,⟨103,.dK [.ptr N 0]⟩):=List.mem_singleton.1 hq
  subst hq
  show au w' (β k) 103 [.pointer (some ⟨β N,0,none⟩)]
  rw[hw]
  refine au.pU (cs:=[.pointer none]) ?_ 0 _
  exact(((hB.aG ((ai.refl [] W).alloc _) (by simp)).aG ((ai.refl [] _).alloc _) (by simp)).aG ((ai.refl [] _).alloc _) (by simp)).aG ((ai.refl [] _).alloc _) (by simp)
 ·have ht:Sx.cC.ec β row ⟨[k],[(k,⟨103,.dK [.ptr N 0]⟩)],[],[],.val (.bool true),none⟩=[β k]:=by
   have:Sx.cE β row k=some (β k):=by unfold Sx.cE;rw[hk];rfl
   show([k]++[]).filterMap (Sx.cE β row)=_
   simp[this]
  rw[ht,hw]
  exact((((ai.refl _ W).alloc _).alloc _).alloc _ |>.alloc _).setCell (.inl (by simp)) _
open Go.RowKit Go.Lib Go.Sort
def dt(s:Nat×Nat):Bs:=if s.1=s.2 then aj 10 s.1 else aj 10 s.1++45::aj 10 s.2
def dc(n:Nat):Bs:=if n=6 then pj else if n=17 then qu else aj 10 n
def pK(p:Px):Bs:=nh p.v p.n p.k
def bH(m:Mt)(k:Nat):List Bs:=match k with
 | 0=>[mb,dt m.ff]
 | 1=>[fZ,pK m.src]
 | 2=>[gX,pK m.dst]
 | 3=>[dB,dc m.bb]
 | 4=>[eQ,dt m.sp]
 |_=>[gF,dt m.dp]
def il(m:Mt)(k:Nat):List Bs:=match m.asks.testBit k with
 |true=>bH m k
 |false=>[]
def fY(m:Mt):List Bs:=il m 0++il m 1++il m 2++il m 3++il m 4++il m 5
def dQ(m:Mt):Bs:=if m.asks=0 then mf else ao 32 (fY m)
def Ak(m:Mt):Bs:=match bp m with
 |true=>dQ m
 |false=>[]
def cz(n:Int):Bs:=if n < 0 then 45::aj 10 n.natAbs else aj 10 n.toNat
def aM(act out:Int):List Bs:=if act=1 then [de] else if act=2 then [kq] else if act=3 then [nC,cz out] else if act=4 then [ga] else []
def cR(k s:Bs):List Bs:=if s=[] then [] else [k,s]
def db(r:Rl):List Bs:=[gg,r.name,Ak r.mt,u6]++aM r.act r.out++cR bK r.bC++cR bh r.aP
def eg(n:Int):List Bs:=[kp,cz n]
def ek(r:Rt):List Bs:=[de,pK r.pf,cz r.out]
def ep(m:Me):List Bs:=[bK,m.name,aj 10 m.num,aj 10 m.den,aj 10 m.iu]
def cI(m:Mi):List Bs:=[bh,m.name,cz m.out,cz m.room]
def iI(d:Int):List Bs:=bL::aM d 0
def kC(cf:CF):List (List Bs):=cf.ag.map eg++cf.ae.map ek++cf.af.map ep++cf.aa.map cI++cf.rules.map db++[iI cf.aS]
def eW(ws:List Bs):Bs:=ao 32 ws++[10]
def dd(l:List (List Bs)):Bs:=l.flatMap eW
def eh(cf:CF):Bs:=dd (kC cf)
def aI(is:Bool)(code e:Int):Int:=match is with
 |true=>e
 |false=>match decide (e=0)with
  |true=>code
  |false=>e
def Aj(e:Int)(n:Int):Int:=aI (decide (n≥0)) 2 e
def tY(e:Int)(r:Rt):Int:=aI (decide (r.out≥0)) 2 (aI (gh r.pf.v r.pf.n r.pf.k) 151 e)
def uL(e:Int)(m:Me):Int:=aI (aB m.name) 201 e
def jq(e:Int)(m:Mi):Int:=aI (decide (m.out≥0)&&decide (m.room≥0)) 2 (aI (aB m.name) 201 e)
def ju(act out:Int):Bool:=(decide (1≤act)&&decide (act≤4))&&(decide (out≥0)&&(decide (out=0)||decide (act=3)))
def iW(s:Bs):Bool:=decide (s=[])||aB s
def pY(e:Int)(r:Rl):Int:=aI (iW r.aP) 201 (aI (iW r.bC) 201 (aI (ju r.act r.out) 2 (aI (bp r.mt) 190 (aI (aB r.name) 201 e))))
def Fk(e:Int)(d:Int):Int:=aI (decide (d=1)||(decide (d=2)||decide (d=4))) 2 e
def lB(cf:CF):Int:=Fk (cf.rules.foldl pY (cf.aa.foldl jq (cf.af.foldl uL (cf.ae.foldl tY (cf.ag.foldl Aj 0))))) cf.aS
def rK(cf:CF):Int:=aI (decide ((eh cf).length≤65536)) 4 (lB cf)
def dG(cf:CF):Bs×Int:=if rK cf=0 then(eh cf,0)else([],rK cf)
def wG(c:UInt8):Prop:=c≠32∧c≠9∧c≠35∧c≠10
def eH(x:Bs):Prop:=x≠[]∧∀c∈x,wG c
theorem mH(cm:Bool)(r:Bs):∀(x cur:Bs),(∀c∈x,wG c)→cd cm cur (x++r)=cd cm (cur++x) r
 | [],cur,_=>by simp
 |c::x,cur,h=>by
  have hc:=h c (by simp)
  have e:cd cm cur (c::(x++r))=cd cm (cur++[c]) (x++r):=by
   rw[cd,if_neg (fun hh=>hc.2.2.1 hh.2),if_neg (fun hh=>by
    rcases hh with hh|hh
    ·exact hc.1 hh
    ·exact hc.2.1 hh)]
  rw[List.cons_append,e,mH cm r x (cur++[c]) (fun d hd=>h d (by simp[hd]))]
  simp
theorem xS(cm:Bool)(r cur:Bs)(hc:cur≠[]):cd cm cur (32::r)=cur::cd cm [] r:=by
 rw[cd,if_neg (fun hh=>absurd hh.2 (by decide)),if_pos (.inl rfl),if_neg hc]
theorem oS(cm:Bool):∀ws:List Bs,(∀x∈ws,eH x)→aK cm (ao 32 ws)=ws
 | [],_=>by simp[aK,ao,cd]
 | [x],h=>by
  have hx:=h x (by simp)
  have:=mH cm [] x [] hx.2
  simp only[List.append_nil,List.nil_append]at this
  show cd cm [] x=[x]
  rw[this,cd,if_neg hx.1]
 |x::y::r,h=>by
  have hx:=h x (by simp)
  show cd cm [] (x++32::ao 32 (y::r))=_
  rw[mH cm _ x [] hx.2,List.nil_append,xS cm _ x hx.1]
  congr 1
  exact oS cm (y::r) fun z hz=>h z (List.mem_cons_of_mem _ hz)
theorem Nk:∀ws:List Bs,(∀x∈ws,∀c∈x,wG c)→(10:UInt8)∉ao 32 ws:=fun ws h hm=>by
 rcases fX hm with h1|⟨x,hx,h1⟩
 ·exact absurd h1 (by decide)
 ·exact(h x hx _ h1).2.2.2 rfl
theorem sh:∀l:List (List Bs),(∀ws∈l,∀x∈ws,∀c∈x,wG c)→bA (dd l)=l.map (ao 32)++[[]]
 | [],_=>by simp[dd,bA,bR]
 |ws::l,h=>by
  have ih:=sh l fun v hv=>h v (List.mem_cons_of_mem _ hv)
  have e:dd (ws::l)=ao 32 ws++10::dd l:=by simp[dd,eW]
  unfold bA at ih ⊢
  rw[e,lS 10 _ _ (Nk ws (h ws (by simp))),ih]
  rfl
theorem GF(c:UInt8)(x:Bs)(ws r:List Bs)(hw:ws≠[]):ao c (x::ao c ws::r)=ao c (x::(ws++r)):=by
 have aux:∀(ws r:List Bs),ws≠[]→ao c (ao c ws::r)=ao c (ws++r):=by
  intro ws
  induction ws with
  |nil=>intro r h;exact absurd rfl h
  |cons a l ih=>
   intro r _
   cases l with
   |nil=>rfl
   |cons b l=>
    have h1:=ih r (by simp)
    cases r with
    |nil=>simp[ao]
    |cons d r=>
     show(a++c::ao c (b::l))++c::ao c (d::r)=a++c::ao c (b::(l++d::r))
     have h1:ao c (b::l)++c::ao c (d::r)=ao c (b::(l++d::r)):=h1
     rw[←h1];simp
 have h1:=aux ws r hw
 obtain⟨a,l,rfl⟩:=List.exists_cons_of_ne_nil hw
 show x++c::ao c (ao c (a::l)::r)=x++c::ao c (a::(l++r))
 rw[h1];rfl
set_option maxRecDepth 100000
open Go Go.RowKit Go.Lib Go.Sort _root_.Go.Proofs.Tryz
set_option maxRecDepth 100000
def ji(og:Option Nat)(cs:List Sx.SV):Sx.Row:=match og with
 |some g=>⟨132,.jR g cs⟩
 |none=>⟨132,.dK cs⟩
structure nP(row:Nat→Option Sx.Row)(i j:Nat)(og:Option Nat)(p:Bool)(tx:Bs)(e:Int):Prop where
 b:row i=some (ji og [.eG p i 0,.own j,.val (.int .i64 e)])
 o:row j=some ⟨5,.own 1 tx.length (qT tx)⟩
theorem lO{β:Sx.Env}{W:World}{i:Nat}{og:Option Nat}{cs:List Sx.SV}:Sx.aX β W i (ji og cs)↔(∀g,og=some g→β i=g)∧au W (β i) 132 (cs.map (Sx.SV.den β)):=by
 cases og with
 |none=>exact⟨fun h=>⟨fun g hg=>(by cases hg),h⟩,fun h=>h.2⟩
 |some g=>exact⟨fun h=>⟨fun g' hg=>by cases hg;exact h.1,h.2⟩,fun h=>⟨h.1 g rfl,h.2⟩⟩
theorem nT{β:Sx.Env}{i:Nat}{og:Option Nat}{cs:List Sx.SV}:Sx.av β i (ji og cs)=some (β i):=by cases og<;>rfl
theorem oV{b:Sx.aU}{β:Sx.Env}{W:World}{row:Nat→Option Sx.Row}{see:List Nat}{i j:Nat}{og:Option Nat}{p:Bool}{tx:Bs}{e:Int}(hS:Sx.eF b β W row see)(h:nP row i j og p tx e)(hi:i∈see)(hj:j∈see) :
  Tx W (β i) p (β.a j) (β.c j) tx e∧∀g,og=some g→β i=g:=by
 have h1:=lO.1 (hS.held i hi _ h.b)
 have h2:β.n j=tx.length∧Own W 5 1 (.slice (β.a j) tx.length (β.c j)) tx.length (qT tx):=hS.held j hj _ h.o
 refine⟨⟨?_,h2.2⟩,h1.1⟩
 have hb:=h1.2
 have e1:([Sx.SV.eG p i 0,.own j,.val (.int .i64 e)].map (Sx.SV.den β))=[pV p (β i),β.sl j,.int .i64 e]:=rfl
 rw[e1]at hb
 unfold Sx.Env.sl at hb
 rw[h2.1]at hb
 exact hb
def zx(X:List Nat)(i j m:Nat)(og:Option Nat)(tx:Bs)(e:Int)(v:Value):Sx.cC:=⟨i::j::X,[(i,ji og [.eG true i 0,.own m,.val (.int .i64 e)])],[j],[⟨5,.own 1 tx.length (qT tx)⟩],.val v,none⟩
def OI(β:Sx.Env)(m:Nat)(A:Option Go.Addr)(n c:Nat):Sx.Env:=⟨β.b,fun i=>if i=m then A else β.a i,fun i=>if i=m then n else β.n i,fun i=>if i=m then c else β.c i⟩
theorem sX{b:Sx.aU}{β:Sx.Env}{W w':World}{row:Nat→Option Sx.Row}{X:List Nat}{i j m:Nat}{og:Option Nat}{p:Bool}{tx tx':Bs}{e e':Int}{v:Value}{en:Ending}(h:nP row i j og p tx e)(_hi:i < m)(_hj:j < m)(hg:∀g,og=some g→β i=g)
  (hp:mr (β i) (β.a j) v tx' e' W en w'):Sx.aY b β W row m (zx X i j m og tx' e' v) en w':=by
 obtain⟨A',c',he,ht,hc,hk⟩:=hp
 refine .inl ⟨fun p hp=>(by cases hp),OI β m A' tx'.length c',fun k hk=>⟨rfl,?_,?_,?_⟩,he,fun q hq=>?_,fun k r hr=>?_,fun k r x hr hx=>?_,fun k k' r r' x hr hr' _ _=>?_,hc.mono fun k hk=>.inl ?_⟩
 ·show β.a k=if k=m then A' else β.a k
  rw[if_neg (by omega)]
 ·show β.n k=if k=m then tx'.length else β.n k
  rw[if_neg (by omega)]
 ·show β.c k=if k=m then c' else β.c k
  rw[if_neg (by omega)]
 ·have hq:q=(i,ji og [.eG true i 0,.own m,.val (.int .i64 e')]):=List.mem_singleton.1 hq
  subst hq
  refine lO.2 ⟨hg,?_⟩
  show au w' (β i) 132 [pV true (β i),.slice (if m=m then A' else β.a m) (if m=m then tx'.length else β.n m) (if m=m then c' else β.c m),.int .i64 e']
  rw[if_pos rfl,if_pos rfl,if_pos rfl]
  exact ht.b9
 ·match k,hr with
  | 0,hr=>
   cases hr
   show(if m+0=m then tx'.length else β.n (m+0))=tx'.length∧Own w' 5 1 (.slice (if m+0=m then A' else β.a (m+0)) tx'.length (if m+0=m then c' else β.c (m+0))) tx'.length (qT tx')
   rw[Nat.add_zero,if_pos rfl,if_pos rfl,if_pos rfl]
   exact⟨rfl,ht.own⟩
 ·match k,hr with
  | 0,hr=>
   cases hr
   have hx:(if m+0=m then A' else β.a (m+0)).map (·.block)=some x:=hx
   rw[Nat.add_zero,if_pos rfl]at hx
   rcases hk x hx with h1|h1
   ·refine .inl (List.mem_filterMap.2 ⟨j,by simp[zx],?_⟩)
    unfold Sx.cE
    rw[h.o]
    exact h1
   ·exact .inr h1
 ·match k,k',hr,hr' with
  | 0,0,_,_=>rfl
 ·show k∈([i]++[j]).filterMap (Sx.cE β row)
  rcases List.mem_cons.1 hk with rfl|hk
  ·refine List.mem_filterMap.2 ⟨i,by simp,?_⟩
   unfold Sx.cE
   rw[h.b]
   exact nT
  ·refine List.mem_filterMap.2 ⟨j,by simp,?_⟩
   unfold Sx.cE
   rw[h.o]
   show(β.a j).map (·.block)=some k
   simpa using hk
theorem LU{w:World}{g:Nat}{p:Bool}{A:Option Go.Addr}{c:Nat}{tx:Bs}{e:Int}(is:Bool)(code:Int)(h:Tx w g p A c tx e) :
  Calls prog 69 #[.pointer (some ⟨g,0,none⟩),.bool is,.int .i64 code] w fun e' w'=>e'=.returned (.tuple #[])∧Tx w' g p A c tx (aI is code e)∧ai [g] w w':=by
 have d1:w.cell? ⟨g,2,none⟩=some (.int .i64 e):=h.b9.cell_of rfl
 have f1:w.frozen? ⟨g,2,none⟩=false:=h.b9.frozen 2
 have hb2:=h.b9.pU 2 (.int .i64 code)
 have ho2:=h.own.LK (p:=⟨g,2,none⟩) h.ne (.int .i64 code)
 have HH:=hid h
 clear h
 cases is with
 |true=>
  go_enter func69,ntmps69
  go_wp2
  go_end0
  exact⟨rfl,HH.out,ai.refl _ _⟩
 |false=>
  by_cases he:e=0
  ·have hw:aI false code e=code:=by unfold aI;rw[decide_eq_true he]
   have hb:(e==0)=true:=by rw[he];rfl
   rw[hw]
   go_enter func69,ntmps69
   go_wp2
   go_end0
   exact⟨rfl,⟨by simpa[Q8]using hb2,ho2⟩,(ai.refl _ w).setCell (.inl (by simp)) _⟩
  ·have hw:aI false code e=e:=by unfold aI;rw[decide_eq_false he]
   have hb:(e==0)=false:=beq_eq_false_iff_ne.2 he
   rw[hw]
   go_enter func69,ntmps69
   go_wp2
   go_end0
   exact⟨rfl,HH.out,ai.refl _ _⟩
def jD(X:List Nat)(i j:Nat)(og:Option Nat)(p:Bool)(e:Int):Sx.cC:=⟨i::j::X,[(i,ji og [.eG p i 0,.own j,.val (.int .i64 e)])],[],[],.val (.tuple #[]),none⟩
theorem qU{b:Sx.aU}{row:Nat→Option Sx.Row}{i j m:Nat}{og:Option Nat}{p:Bool}{tx:Bs}{e:Int}(is:Bool)(code:Int)(h:nP row i j og p tx e)(W:World)(β:Sx.Env)(hS:Sx.eF b β W row [i,j]) :
  Calls prog 69 (([.ptr i 0,.val (.bool is),.val (.int .i64 code)]:List Sx.SV).map (Sx.SV.den β)).toArray W (Sx.aY b β W row m (jD [] i j og p (aI is code e))):=by
 obtain⟨ht,hg⟩:=oV hS h (by simp) (by simp)
 show Calls prog 69 #[.pointer (some ⟨β i,0,none⟩),.bool is,.int .i64 code] W _
 refine(LU is code ht).mono fun en w' ⟨he,ht',hc⟩=>.inl ⟨fun p hp=>(by cases hp),β,Sx.du (v:=.tuple #[]) rfl rfl he (fun q hq=>?_) ?_⟩
 ·have hq:q=(i,ji og [.eG p i 0,.own j,.val (.int .i64 (aI is code e))]):=List.mem_singleton.1 hq
  subst hq
  refine lO.2 ⟨hg,?_⟩
  have h2:β.n j=tx.length:=(hS.held j (by simp) _ h.o).1
  show au w' (β i) 132 [pV p (β i),.slice (β.a j) (β.n j) (β.c j),.int .i64 (aI is code e)]
  rw[h2]
  exact ht'.b9
 ·refine hc.mono fun k hk=>.inl ?_
  show k∈([i]++[]).filterMap (Sx.cE β row)
  refine List.mem_filterMap.2 ⟨i,by simp,?_⟩
  unfold Sx.cE
  rw[h.b,List.mem_singleton.1 hk]
  exact nT
theorem R3{w:World}{g:Nat}{p:Bool}{A:Option Go.Addr}{c:Nat}{tx:Bs}{e:Int}(h:Tx w g p A c tx e):Calls prog 76 #[.pointer (some ⟨g,0,none⟩)] w fun e' w'=>e'=.returned (.int .i64 (tx.length:Int))∧w'=w:=by
 have d1:w.cell? ⟨g,1,none⟩=some (.slice A tx.length c):=h.b9.cell_of rfl
 clear h
 go_enter func76,ntmps76
 go_wp2
 go_ret
 exact⟨rfl,rfl⟩
theorem Nv{P:Program}{e:TypeId}(hc:P.cellsOf e=1)(count o n:Nat)(hn:o+n≤count):liesAt P P.depth e count o e n=true:=by
 have hd:P.depth=(2*(P.types.size+Made.depth)+1)+1:=rfl
 rw[hd]
 simp only[liesAt,Bool.or_eq_true]
 left
 rw[hd]
 simp[rowAt,hc,sameLayout,Nat.mod_one]
 omega
theorem oF{P:Program}(w:World)(pt it ty e:TypeId)(hp:P.underlying pt=some (.pointer e))(hc:P.cellsOf e=1)(g o cells:Nat)(hsh:w.shape? g=some (e,cells))(l:List UInt8)(h0:l≠[])(hn:o+l.length≤cells)(h63:l.length≤9223372036854775807)
  (hcell:∀j x,l[j]?=some x→w.cell? ((⟨g,o,none⟩:Addr).add j)=some (.int .u8 x.toNat)) :
  (Builtin.unsafeString_ #[pt,it] ty #[.pointer (some ⟨g,o,none⟩),.int .i64 l.length]).run P w=.ok (.string ⟨l.toArray⟩) (w.freeze ⟨g,o,none⟩ l.length):=by
 have hl:l.length≠0:=by simpa using h0
 have hlb:=run_loadBytes (P:=P) w l ⟨g,o,none⟩ .empty hcell
 have hlies:=Nv (P:=P) hc (cells / P.cellsOf e) o l.length (by rw[hc]; simpa using hn)
 have h63':¬(9223372036854775807:Int) < (l.length:Int):=by omega
 have hdef:Builtin.unsafeString_ #[pt,it] ty #[.pointer (some ⟨g,o,none⟩),.int .i64 l.length]=
   (do
    let n ←asInt (.int .i64 l.length)
    if n < 0 then runtimePanic (.error "unsafe.String: len out of range")
    if n > IntKind.i64.max then unsupported (.unsafePointer "String: a length above the largest int")
    if n=0 then pure (.string .empty)
    else if ←variablesAt ⟨g,o,none⟩ (←elemOf pt) n.toNat then do
     let s ←loadBytes ⟨g,o,none⟩ .empty n.toNat
     freeze ⟨g,o,none⟩ n.toNat
     pure (.string s)
    else unsupported (.unsafePointer "String: not so many bytes at ptr")):=rfl
 rw[hdef]
 have hmax:IntKind.i64.max=9223372036854775807:=rfl
 have hneg:¬(l.length:Int) < 0:=by omega
 simp[asInt,asIntOf,hmax,h63',hneg,hl,variablesAt,hsh,elemOf,run_underlying hp,hlies,hlb]
set_option maxHeartbeats 1000000 in
theorem Il{w:World}{g:Nat}{p:Bool}{A:Option Go.Addr}{c:Nat}{tx:Bs}{e:Int}(h:Tx w g p A c tx e)(h0:tx≠[]):Calls prog 77 #[.pointer (some ⟨g,0,none⟩)] w fun e' w'=>e'=.returned (ab tx)∧ai (pP g A) w w':=by
 have hl0:tx.length≠0:=by simpa using h0
 obtain⟨b,o,cap,L,hv,hb,hnc,hcm,hcl,htake⟩:∃b o cap L,Value.slice A tx.length c=.slice (some ⟨b,o,none⟩) tx.length cap∧au w b 5 L∧tx.length≤cap∧cap≤maxLen∧o+cap*1≤L.length∧(L.drop o).take (tx.length*1)=qT tx:=by
  rcases h.own.2 with⟨_,hz⟩ | ⟨b,o,cap,L,hv,r⟩
  ·exact absurd hz hl0
  ·exact⟨b,o,cap,L,hv,r⟩
 injection hv with hA _ hc
 subst hA hc
 have c1:w.drew.cell? ⟨g,1,none⟩=some (.slice (some ⟨b,o,none⟩) tx.length c):=h.b9.cell_of rfl
 have hSD:(Builtin.unsafeSliceData_ #[82] 210 #[.slice (some ⟨b,o,none⟩) tx.length c]).run prog w.drew=.ok (.pointer (some ⟨b,o,none⟩)) w.drew:=run_unsafeSliceData_row _ _ _ _ _ _ (by omega)
 have hsh:w.drew.shape? b=some (5,L.length):=hb.shape
 have hUS:(Builtin.unsafeString_ #[210,3] 9 #[.pointer (some ⟨b,o,none⟩),.int .i64 tx.length]).run prog w.drew=.ok (.string ⟨tx.toArray⟩) (w.drew.freeze ⟨b,o,none⟩ tx.length):=
  oF w.drew 210 3 9 5 underlying210 (by kernel_rfl) b o L.length hsh tx h0 (by omega) (by unfold maxLen at hcm;omega) fun j x hx=>by
   have:=h.own.jX j (.int .u8 x.toNat) (by simp[qT,hx])
   exact this
 have hgb:ai (pP g (some ⟨b,o,none⟩)) w (w.drew.freeze ⟨b,o,none⟩ tx.length):=by
  have hf:=below_freeze (B:=0) (Below.drew (Below.refl 0 w)) (p:=⟨b,o,none⟩) (Nat.zero_le _) tx.length
  refine⟨hf.os,hf.tape,hf.output,hf.size,fun k hk hS=>?_⟩
  have hne:k≠b:=fun hh=>hS (by simp[pP,hh])
  unfold World.freeze
  rw[if_neg hl0]
  show(w.heap.modify b _)[k]?=_
  rw[Array.getElem?_modify,if_neg (fun hh=>hne hh.symm)]
 have mixed:prog.follows .mixedOrders=true:=by kernel_rfl
 clear h hb
 go_enter func77,ntmps77
 go_wp2
 go_region_o
 all_goals (go_wp2;go_ret;exact⟨rfl,hgb⟩)
end Go.Proofs.YtnncigmpcdehnaaGreatDoor
