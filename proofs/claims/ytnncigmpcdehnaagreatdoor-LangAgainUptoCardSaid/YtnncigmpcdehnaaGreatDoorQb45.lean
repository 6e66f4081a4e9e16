import Derived.Test.YtnncigmpcdehnaaGreatDoorQb44
import Derived.Barred
namespace Go.Proofs.YtnncigmpcdehnaaGreatDoor
open Go Go.RowKit Go.Lib Go.Sort
theorem zb{P:Program}{f:FuncId}{args:Array Value}{w:World}{v v':Value}(h:Calls P f args w fun e w'=>e=.returned v∧aw [] w w')(h':Calls P f args w fun e w'=>e=.returned v'∧aw [] w w')(hi:P.inits.idxOf? f=none):v=v':=by
 have k1:Calls P f args w fun | .returned u,_=>u=v|_,_=>False:=h.mono fun e w' ⟨he,_⟩=>by subst he;rfl
 have k2:Calls P f args w fun | .returned u,_=>u=v' | _,_=>False:=h'.mono fun e w' ⟨he,_⟩=>by subst he;rfl
 obtain⟨n,u,w1,e1,r1⟩:=k1.done hi
 obtain⟨m,u',w2,e2,r2⟩:=k2.done hi
 have a:=runN_ended e1 m
 have b:=runN_ended e2 n
 rw[Nat.add_comm,a]at b
 injection b with ho _
 injection ho with hv
 rw[←r1,←r2,hv]
theorem Fu{w:World}(hl:dG w):Et:=fun p hn hk=>by
 have e:rW p=oF p.v p.n p.k:=by unfold rW r7;rw[if_pos hk]
 have hp:zC (rW p) p.v p.n p.k:=⟨hn,hk,e.symm⟩
 cases hr:pI (rW p)with
 |none=>exact absurd hp (xL hr p.v p.n p.k)
 |some q=>
  have hq:=lQ hr
  have h1:=rT hp (q9 p) w hl
  have h2:=rT hq (q9 p) w hl
  have hv:=zb h1 h2 (by kernel_rfl)
  injection hv with hv
  have hv:#[Value.agg (eM p.v p.n p.k).toArray,.int .i64 0]=#[Value.agg (eM q.v q.n q.k).toArray,.int .i64 0]:=hv
  have hv:=congrArg Array.toList hv
  injection hv with hv _
  injection hv with hv
  have hv:eM p.v p.n p.k=eM q.v q.n q.k:=by simpa using hv
  rw[Px.dt (p:=p) (q:=q) hn hq.1 hv]
def qW(m:Nat)(cf:CF):List Sx.Atom:=[.o m,.o (m+1),.o (m+2),.o (m+3),.o (m+4),.v (.int .i64 cf.aL)]
structure zz(w:World)(cf:CF)(s:fI):Prop where
 p:Own w 3 1 (.slice s.p.A cf.ao.length s.p.c) cf.ao.length cf.cp
 r:Own w 118 19 (.slice s.r.A cf.ah.length s.r.c) cf.ah.length cf.cr
 l:Own w 81 49 (.slice s.l.A cf.rules.length s.l.c) cf.rules.length cf.cl
 m:Own w 122 4 (.slice s.m.A cf.aj.length s.m.c) cf.aj.length cf.cm
 i:Own w 124 3 (.slice s.i.A cf.ab.length s.i.c) cf.ab.length cf.ci
def fI.new(s:fI)(N:Nat):Prop:=∀A∈[s.p.A,s.r.A,s.l.A,s.m.A,s.i.A],∀k,A.map (·.block)=some k→N≤k
theorem zz.rd{w:World}{cf:CF}{s:fI}{S:List Nat}(h:zz w cf s)(hS:∀A∈[s.p.A,s.r.A,s.l.A,s.m.A,s.i.A],∀k,A.map (·.block)=some k→k∉S):eo w S cf s:=by
 have hh:∀A∈[s.p.A,s.r.A,s.l.A,s.m.A,s.i.A],∀n c k,(Value.slice A n c).ownBlock=some k→k∉S:=fun A hA n c k hk=>hS A hA k (by rw[CL]at hk;exact hk)
 exact⟨kB.gO h.p (hh _ (by simp) _ _),kB.gO h.r (hh _ (by simp) _ _),kB.gO h.l (hh _ (by simp) _ _),kB.gO h.m (hh _ (by simp) _ _),kB.gO h.i (hh _ (by simp) _ _)⟩
theorem bT{w:World}{T T' size size' n n' c c':Nat}{A A':Option Go.Addr}{xs xs':List Value}(h:Own w T size (.slice A n c) n xs)(h':Own w T' size' (.slice A' n' c') n' xs')(hne:T≠T'){x:Nat}(hx:A.map (·.block)=some x)(hx':A'.map (·.block)=some x):False:=
 h.FV h' hne x (by rw[CL];exact hx) (by rw[CL];exact hx')
theorem vo{β:Sx.Env}{W w':World}{row:Nat→Option Sx.Row}{m:Nat}{X:List Nat}{cf:CF}{s:fI}{ret:Sx.SV}{e:Ending}(h:zz w' cf s)(hn:s.new W.heap.size)(hret:e=.returned (ret.den (aV β m cf s)))(hc:aw [] W w') :
  Sx.Bh β W row m ⟨X,[],[],bg cf,ret,none⟩ e w' (aV β m cf s):=by
 have hold:∀i,i < m→β i=(aV β m cf s) i∧β.a i=(aV β m cf s).a i∧β.n i=(aV β m cf s).n i∧β.c i=(aV β m cf s).c i:=fun i hi=>by
  refine⟨rfl,?_,?_,?_⟩
  ·show β.a i=if i=m then s.p.A else if i=m+1 then s.r.A else if i=m+2 then s.l.A else if i=m+3 then s.m.A else if i=m+4 then s.i.A else β.a i
   rw[if_neg (by omega),if_neg (by omega),if_neg (by omega),if_neg (by omega),if_neg (by omega)]
  ·show β.n i=if i=m then cf.ao.length else if i=m+1 then cf.ah.length else if i=m+2 then cf.rules.length else if i=m+3 then cf.aj.length else if i=m+4 then cf.ab.length else β.n i
   rw[if_neg (by omega),if_neg (by omega),if_neg (by omega),if_neg (by omega),if_neg (by omega)]
  ·show β.c i=if i=m then s.p.c else if i=m+1 then s.r.c else if i=m+2 then s.l.c else if i=m+3 then s.m.c else if i=m+4 then s.i.c else β.c i
   rw[if_neg (by omega),if_neg (by omega),if_neg (by omega),if_neg (by omega),if_neg (by omega)]
 have a1:∀j k:Nat,m+j=m+k↔j=k:=fun j k=>by omega
 have a2:∀k:Nat,m+(k+1)≠m:=fun k=>by omega
 have aA:(aV β m cf s).a m=s.p.A∧(aV β m cf s).a (m+1)=s.r.A∧(aV β m cf s).a (m+2)=s.l.A∧(aV β m cf s).a (m+3)=s.m.A∧(aV β m cf s).a (m+4)=s.i.A:=by
  simp[aV]
 have aN:(aV β m cf s).n m=cf.ao.length∧(aV β m cf s).n (m+1)=cf.ah.length∧(aV β m cf s).n (m+2)=cf.rules.length∧(aV β m cf s).n (m+3)=cf.aj.length∧(aV β m cf s).n (m+4)=cf.ab.length:=by
  simp[aV]
 have aC:(aV β m cf s).c m=s.p.c∧(aV β m cf s).c (m+1)=s.r.c∧(aV β m cf s).c (m+2)=s.l.c∧(aV β m cf s).c (m+3)=s.m.c∧(aV β m cf s).c (m+4)=s.i.c:=by
  simp[aV]
 have bY:∀(k:Nat) (r:Sx.Row) (x:Nat),(bg cf)[k]?=some r→Sx.aE (aV β m cf s) (m+k) r=some x→(k=0∧s.p.A.map (·.block)=some x)∨(k=1∧s.r.A.map (·.block)=some x)∨(k=2∧s.l.A.map (·.block)=some x)∨(k=3∧s.m.A.map (·.block)=some x)∨(k=4∧s.i.A.map (·.block)=some x):=by
  intro k r x hr hx
  match k,hr with
  | 0,hr=>cases hr;have hx:((aV β m cf s).a (m+0)).map (·.block)=some x:=hx;rw[Nat.add_zero,aA.1]at hx;exact .inl ⟨rfl,hx⟩
  | 1,hr=>cases hr;have hx:((aV β m cf s).a (m+1)).map (·.block)=some x:=hx;rw[aA.2.1]at hx;exact .inr (.inl ⟨rfl,hx⟩)
  | 2,hr=>cases hr;have hx:((aV β m cf s).a (m+2)).map (·.block)=some x:=hx;rw[aA.2.2.1]at hx;exact .inr (.inr (.inl ⟨rfl,hx⟩))
  | 3,hr=>cases hr;have hx:((aV β m cf s).a (m+3)).map (·.block)=some x:=hx;rw[aA.2.2.2.1]at hx;exact .inr (.inr (.inr (.inl ⟨rfl,hx⟩)))
  | 4,hr=>cases hr;have hx:((aV β m cf s).a (m+4)).map (·.block)=some x:=hx;rw[aA.2.2.2.2]at hx;exact .inr (.inr (.inr (.inr ⟨rfl,hx⟩)))
 refine⟨hold,hret,fun q hq=>(by cases hq),fun k r hr=>?_,fun k r x hr hx=>?_,fun k k' r r' x hr hr' hx hx'=>?_,hc⟩
 ·match k,hr with
  | 0,hr=>
   cases hr
   show(aV β m cf s).n (m+0)=cf.ao.length∧Own w' 3 1 (.slice ((aV β m cf s).a (m+0)) cf.ao.length ((aV β m cf s).c (m+0))) cf.ao.length cf.cp
   rw[Nat.add_zero,aA.1,aN.1,aC.1];exact⟨rfl,h.p⟩
  | 1,hr=>
   cases hr
   show(aV β m cf s).n (m+1)=cf.ah.length∧Own w' 118 19 (.slice ((aV β m cf s).a (m+1)) cf.ah.length ((aV β m cf s).c (m+1))) cf.ah.length cf.cr
   rw[aA.2.1,aN.2.1,aC.2.1];exact⟨rfl,h.r⟩
  | 2,hr=>
   cases hr
   show(aV β m cf s).n (m+2)=cf.rules.length∧Own w' 81 49 (.slice ((aV β m cf s).a (m+2)) cf.rules.length ((aV β m cf s).c (m+2))) cf.rules.length cf.cl
   rw[aA.2.2.1,aN.2.2.1,aC.2.2.1];exact⟨rfl,h.l⟩
  | 3,hr=>
   cases hr
   show(aV β m cf s).n (m+3)=cf.aj.length∧Own w' 122 4 (.slice ((aV β m cf s).a (m+3)) cf.aj.length ((aV β m cf s).c (m+3))) cf.aj.length cf.cm
   rw[aA.2.2.2.1,aN.2.2.2.1,aC.2.2.2.1];exact⟨rfl,h.m⟩
  | 4,hr=>
   cases hr
   show(aV β m cf s).n (m+4)=cf.ab.length∧Own w' 124 3 (.slice ((aV β m cf s).a (m+4)) cf.ab.length ((aV β m cf s).c (m+4))) cf.ab.length cf.ci
   rw[aA.2.2.2.2,aN.2.2.2.2,aC.2.2.2.2];exact⟨rfl,h.i⟩
 ·rcases bY k r x hr hx with⟨_,h1⟩ | ⟨_,h1⟩ | ⟨_,h1⟩ | ⟨_,h1⟩ | ⟨_,h1⟩<;>exact .inr (hn _ (by simp) x h1)
 ·have b1:=bY k r x hr hx
  have b2:=bY k' r' x hr' hx'
  rcases b1 with⟨rfl,h1⟩ | ⟨rfl,h1⟩ | ⟨rfl,h1⟩ | ⟨rfl,h1⟩ | ⟨rfl,h1⟩<;>rcases b2 with⟨rfl,h2⟩ | ⟨rfl,h2⟩ | ⟨rfl,h2⟩ | ⟨rfl,h2⟩ | ⟨rfl,h2⟩
  ·rfl
  ·exact(bT h.p h.r (by decide) h1 h2).elim
  ·exact(bT h.p h.l (by decide) h1 h2).elim
  ·exact(bT h.p h.m (by decide) h1 h2).elim
  ·exact(bT h.p h.i (by decide) h1 h2).elim
  ·exact(bT h.r h.p (by decide) h1 h2).elim
  ·rfl
  ·exact(bT h.r h.l (by decide) h1 h2).elim
  ·exact(bT h.r h.m (by decide) h1 h2).elim
  ·exact(bT h.r h.i (by decide) h1 h2).elim
  ·exact(bT h.l h.p (by decide) h1 h2).elim
  ·exact(bT h.l h.r (by decide) h1 h2).elim
  ·rfl
  ·exact(bT h.l h.m (by decide) h1 h2).elim
  ·exact(bT h.l h.i (by decide) h1 h2).elim
  ·exact(bT h.m h.p (by decide) h1 h2).elim
  ·exact(bT h.m h.r (by decide) h1 h2).elim
  ·exact(bT h.m h.l (by decide) h1 h2).elim
  ·rfl
  ·exact(bT h.m h.i (by decide) h1 h2).elim
  ·exact(bT h.i h.p (by decide) h1 h2).elim
  ·exact(bT h.i h.r (by decide) h1 h2).elim
  ·exact(bT h.i h.l (by decide) h1 h2).elim
  ·exact(bT h.i h.m (by decide) h1 h2).elim
  ·rfl
structure En(mem:List Sx.Row)(k0 k1 k2 k3 k4:Nat)(cf:CF):Prop where
 p:mem[k0]?=some ⟨3,.own 1 cf.ao.length cf.cp⟩
 r:mem[k1]?=some ⟨118,.own 19 cf.ah.length cf.cr⟩
 l:mem[k2]?=some ⟨81,.own 49 cf.rules.length cf.cl⟩
 m:mem[k3]?=some ⟨122,.own 4 cf.aj.length cf.cm⟩
 i:mem[k4]?=some ⟨124,.own 3 cf.ab.length cf.ci⟩
def iB(β:Sx.Env)(k0 k1 k2 k3 k4:Nat):fI:=⟨⟨β.a k0,β.c k0⟩,⟨β.a k1,β.c k1⟩,⟨β.a k2,β.c k2⟩,⟨β.a k3,β.c k3⟩,⟨β.a k4,β.c k4⟩⟩
theorem y9{β:Sx.Env}{b:Sx.bw}{w':World}{mem:List Sx.Row}{k0 k1 k2 k3 k4:Nat}{cf:CF}(hR:Sx.Rows b β w' mem)(h:En mem k0 k1 k2 k3 k4 cf)(hS:b.S=[]) :
  zz w' cf (iB β k0 k1 k2 k3 k4)∧(iB β k0 k1 k2 k3 k4).new b.w.heap.size∧β.n k0=cf.ao.length∧β.n k1=cf.ah.length∧β.n k2=cf.rules.length∧β.n k3=cf.aj.length∧β.n k4=cf.ab.length:=by
 have o0:β.n k0=cf.ao.length∧Own w' 3 1 (.slice (β.a k0) cf.ao.length (β.c k0)) cf.ao.length cf.cp:=hR.held k0 _ h.p
 have o1:β.n k1=cf.ah.length∧Own w' 118 19 (.slice (β.a k1) cf.ah.length (β.c k1)) cf.ah.length cf.cr:=hR.held k1 _ h.r
 have o2:β.n k2=cf.rules.length∧Own w' 81 49 (.slice (β.a k2) cf.rules.length (β.c k2)) cf.rules.length cf.cl:=hR.held k2 _ h.l
 have o3:β.n k3=cf.aj.length∧Own w' 122 4 (.slice (β.a k3) cf.aj.length (β.c k3)) cf.aj.length cf.cm:=hR.held k3 _ h.m
 have o4:β.n k4=cf.ab.length∧Own w' 124 3 (.slice (β.a k4) cf.ab.length (β.c k4)) cf.ab.length cf.ci:=hR.held k4 _ h.i
 refine⟨⟨o0.2,o1.2,o2.2,o3.2,o4.2⟩,fun A hA k hk=>?_,o0.1,o1.1,o2.1,o3.1,o4.1⟩
 have key:∀(i:Nat) (r:Sx.Row),mem[i]?=some r→Sx.aE β i r=some k→b.w.heap.size≤k:=fun i r hi hr=>by
  rcases hR.new i r k hi hr with hh|hh
  ·rw[hS]at hh;cases hh
  ·exact hh
 simp only[iB,List.mem_cons,List.not_mem_nil,or_false]at hA
 rcases hA with rfl|rfl|rfl|rfl|rfl
 ·exact key k0 _ h.p hk
 ·exact key k1 _ h.r hk
 ·exact key k2 _ h.l hk
 ·exact key k3 _ h.m hk
 ·exact key k4 _ h.i hk
theorem pv{b:Sx.bw}{β:Sx.Env}{W:World}{mem:List Sx.Row}{fS:List Nat}{m:Nat}{cf:CF}(hS:Sx.cw b β W (Sx.rowAt mem) fS)(h:En mem m (m+1) (m+2) (m+3) (m+4) cf)(hs:∀k∈[m,m+1,m+2,m+3,m+4],k∈fS) :
  eo W [] cf (iB β m (m+1) (m+2) (m+3) (m+4))∧(Sx.SV.cX (qW m cf)).den β=.agg (an cf (iB β m (m+1) (m+2) (m+3) (m+4))).toArray:=by
 have o0:β.n m=cf.ao.length∧Own W 3 1 (.slice (β.a m) cf.ao.length (β.c m)) cf.ao.length cf.cp:=hS.held m (hs _ (by simp)) _ h.p
 have o1:β.n (m+1)=cf.ah.length∧Own W 118 19 (.slice (β.a (m+1)) cf.ah.length (β.c (m+1))) cf.ah.length cf.cr:=hS.held (m+1) (hs _ (by simp)) _ h.r
 have o2:β.n (m+2)=cf.rules.length∧Own W 81 49 (.slice (β.a (m+2)) cf.rules.length (β.c (m+2))) cf.rules.length cf.cl:=hS.held (m+2) (hs _ (by simp)) _ h.l
 have o3:β.n (m+3)=cf.aj.length∧Own W 122 4 (.slice (β.a (m+3)) cf.aj.length (β.c (m+3))) cf.aj.length cf.cm:=hS.held (m+3) (hs _ (by simp)) _ h.m
 have o4:β.n (m+4)=cf.ab.length∧Own W 124 3 (.slice (β.a (m+4)) cf.ab.length (β.c (m+4))) cf.ab.length cf.ci:=hS.held (m+4) (hs _ (by simp)) _ h.i
 refine⟨zz.rd ⟨o0.2,o1.2,o2.2,o3.2,o4.2⟩ (fun _ _ _ _ h=>by cases h),?_⟩
 show Value.agg ([β.sl m,β.sl (m+1),β.sl (m+2),β.sl (m+3),β.sl (m+4),.int .i64 cf.aL]:List Value).toArray=_
 unfold Sx.Env.sl
 rw[o0.1,o1.1,o2.1,o3.1,o4.1]
 rfl
end Go.Proofs.YtnncigmpcdehnaaGreatDoor
