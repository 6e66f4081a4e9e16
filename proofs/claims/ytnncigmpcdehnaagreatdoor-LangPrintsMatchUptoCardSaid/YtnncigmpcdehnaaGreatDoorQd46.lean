import Derived.Test.YtnncigmpcdehnaaGreatDoorQd45
import Derived.Barred
namespace Go.Proofs.YtnncigmpcdehnaaGreatDoor
open Go Go.RowKit Go.Lib Go.Sort
theorem zC{P:Program}{f:FuncId}{args:Array Value}{w:World}{v v':Value}(h:Calls P f args w fun e w'=>e=.returned v∧ag [] w w')(h':Calls P f args w fun e w'=>e=.returned v'∧ag [] w w')(hi:P.inits.idxOf? f=none):v=v':=by
 have k1:Calls P f args w fun | .returned u,_=>u=v|_,_=>False:=h.mono fun e w' ⟨he,_⟩=>by subst he;rfl
 have k2:Calls P f args w fun | .returned u,_=>u=v' | _,_=>False:=h'.mono fun e w' ⟨he,_⟩=>by subst he;rfl
 obtain⟨n,u,w1,e1,r1⟩:=k1.done hi
 obtain⟨m,u',w2,e2,r2⟩:=k2.done hi
 have a:=runN_ended e1 m
 have b:=runN_ended e2 n
 rw[Nat.add_comm,a]at b
 injection b with ho _
 injection ho with hv
 rw[←r1,←r2,hv]
theorem Md{w:World}(hl:dJ w):IH:=fun p hn hk=>by
 have e:qV p=ly p.v p.n p.k:=by unfold qV nY;rw[if_pos hk]
 have hp:Af (qV p) p.v p.n p.k:=⟨hn,hk,e.symm⟩
 cases hr:pZ (qV p)with
 |none=>exact absurd hp (xY hr p.v p.n p.k)
 |some q=>
  have hq:=sa hr
  have h1:=r9 hp (mW p) w hl
  have h2:=r9 hq (mW p) w hl
  have hv:=zC h1 h2 (by kernel_rfl)
  injection hv with hv
  have hv:#[Value.agg (cV p.v p.n p.k).toArray,.int .i64 0]=#[Value.agg (cV q.v q.n q.k).toArray,.int .i64 0]:=hv
  have hv:=congrArg Array.toList hv
  injection hv with hv _
  injection hv with hv
  have hv:cV p.v p.n p.k=cV q.v q.n q.k:=by simpa using hv
  rw[Px.cY (p:=p) (q:=q) hn hq.1 hv]
def zA(m:Nat)(cf:CF):List Sx.Atom:=[.o m,.o (m+1),.o (m+2),.o (m+3),.o (m+4),.v (.int .i64 cf.br)]
structure Ac(w:World)(cf:CF)(s:fU):Prop where
 p:Own w 3 1 (.slice s.p.A cf.ai.length s.p.c) cf.ai.length cf.cp
 r:Own w 118 19 (.slice s.r.A cf.ae.length s.r.c) cf.ae.length cf.cr
 l:Own w 81 49 (.slice s.l.A cf.rules.length s.l.c) cf.rules.length cf.cl
 m:Own w 122 4 (.slice s.m.A cf.af.length s.m.c) cf.af.length cf.cm
 i:Own w 124 3 (.slice s.i.A cf.aa.length s.i.c) cf.aa.length cf.ci
def fU.new(s:fU)(N:Nat):Prop:=∀A∈[s.p.A,s.r.A,s.l.A,s.m.A,s.i.A],∀k,A.map (·.block)=some k→N≤k
theorem Ac.rd{w:World}{cf:CF}{s:fU}{S:List Nat}(h:Ac w cf s)(hS:∀A∈[s.p.A,s.r.A,s.l.A,s.m.A,s.i.A],∀k,A.map (·.block)=some k→k∉S):eU w S cf s:=by
 have hh:∀A∈[s.p.A,s.r.A,s.l.A,s.m.A,s.i.A],∀n c k,(Value.slice A n c).ownBlock=some k→k∉S:=fun A hA n c k hk=>hS A hA k (by rw[Dq]at hk;exact hk)
 exact⟨oH.l9 h.p (hh _ (by simp) _ _),oH.l9 h.r (hh _ (by simp) _ _),oH.l9 h.l (hh _ (by simp) _ _),oH.l9 h.m (hh _ (by simp) _ _),oH.l9 h.i (hh _ (by simp) _ _)⟩
theorem bO{w:World}{T T' size size' n n' c c':Nat}{A A':Option Go.Addr}{xs xs':List Value}(h:Own w T size (.slice A n c) n xs)(h':Own w T' size' (.slice A' n' c') n' xs')(hne:T≠T'){x:Nat}(hx:A.map (·.block)=some x)(hx':A'.map (·.block)=some x):False:=
 h.Gu h' hne x (by rw[Dq];exact hx) (by rw[Dq];exact hx')
theorem vp{β:Sx.Env}{W w':World}{row:Nat→Option Sx.Row}{m:Nat}{X:List Nat}{cf:CF}{s:fU}{ret:Sx.SV}{e:Ending}(h:Ac w' cf s)(hn:s.new W.heap.size)(hret:e=.returned (ret.den (aI β m cf s)))(hc:ag [] W w') :
  Sx.ES β W row m ⟨X,[],[],dj cf,ret,none⟩ e w' (aI β m cf s):=by
 have hold:∀i,i < m→β i=(aI β m cf s) i∧β.a i=(aI β m cf s).a i∧β.n i=(aI β m cf s).n i∧β.c i=(aI β m cf s).c i:=fun i hi=>by
  refine⟨rfl,?_,?_,?_⟩
  ·show β.a i=if i=m then s.p.A else if i=m+1 then s.r.A else if i=m+2 then s.l.A else if i=m+3 then s.m.A else if i=m+4 then s.i.A else β.a i
   rw[if_neg (by omega),if_neg (by omega),if_neg (by omega),if_neg (by omega),if_neg (by omega)]
  ·show β.n i=if i=m then cf.ai.length else if i=m+1 then cf.ae.length else if i=m+2 then cf.rules.length else if i=m+3 then cf.af.length else if i=m+4 then cf.aa.length else β.n i
   rw[if_neg (by omega),if_neg (by omega),if_neg (by omega),if_neg (by omega),if_neg (by omega)]
  ·show β.c i=if i=m then s.p.c else if i=m+1 then s.r.c else if i=m+2 then s.l.c else if i=m+3 then s.m.c else if i=m+4 then s.i.c else β.c i
   rw[if_neg (by omega),if_neg (by omega),if_neg (by omega),if_neg (by omega),if_neg (by omega)]
 have a1:∀j k:Nat,m+j=m+k↔j=k:=fun j k=>by omega
 have a2:∀k:Nat,m+(k+1)≠m:=fun k=>by omega
 have aA:(aI β m cf s).a m=s.p.A∧(aI β m cf s).a (m+1)=s.r.A∧(aI β m cf s).a (m+2)=s.l.A∧(aI β m cf s).a (m+3)=s.m.A∧(aI β m cf s).a (m+4)=s.i.A:=by
  simp[aI]
 have aN:(aI β m cf s).n m=cf.ai.length∧(aI β m cf s).n (m+1)=cf.ae.length∧(aI β m cf s).n (m+2)=cf.rules.length∧(aI β m cf s).n (m+3)=cf.af.length∧(aI β m cf s).n (m+4)=cf.aa.length:=by
  simp[aI]
 have aC:(aI β m cf s).c m=s.p.c∧(aI β m cf s).c (m+1)=s.r.c∧(aI β m cf s).c (m+2)=s.l.c∧(aI β m cf s).c (m+3)=s.m.c∧(aI β m cf s).c (m+4)=s.i.c:=by
  simp[aI]
 have bZ:∀(k:Nat) (r:Sx.Row) (x:Nat),(dj cf)[k]?=some r→Sx.av (aI β m cf s) (m+k) r=some x→(k=0∧s.p.A.map (·.block)=some x)∨(k=1∧s.r.A.map (·.block)=some x)∨(k=2∧s.l.A.map (·.block)=some x)∨(k=3∧s.m.A.map (·.block)=some x)∨(k=4∧s.i.A.map (·.block)=some x):=by
  intro k r x hr hx
  match k,hr with
  | 0,hr=>cases hr;have hx:((aI β m cf s).a (m+0)).map (·.block)=some x:=hx;rw[Nat.add_zero,aA.1]at hx;exact .inl ⟨rfl,hx⟩
  | 1,hr=>cases hr;have hx:((aI β m cf s).a (m+1)).map (·.block)=some x:=hx;rw[aA.2.1]at hx;exact .inr (.inl ⟨rfl,hx⟩)
  | 2,hr=>cases hr;have hx:((aI β m cf s).a (m+2)).map (·.block)=some x:=hx;rw[aA.2.2.1]at hx;exact .inr (.inr (.inl ⟨rfl,hx⟩))
  | 3,hr=>cases hr;have hx:((aI β m cf s).a (m+3)).map (·.block)=some x:=hx;rw[aA.2.2.2.1]at hx;exact .inr (.inr (.inr (.inl ⟨rfl,hx⟩)))
  | 4,hr=>cases hr;have hx:((aI β m cf s).a (m+4)).map (·.block)=some x:=hx;rw[aA.2.2.2.2]at hx;exact .inr (.inr (.inr (.inr ⟨rfl,hx⟩)))
 refine⟨hold,hret,fun q hq=>(by cases hq),fun k r hr=>?_,fun k r x hr hx=>?_,fun k k' r r' x hr hr' hx hx'=>?_,hc⟩
 ·match k,hr with
  | 0,hr=>
   cases hr
   show(aI β m cf s).n (m+0)=cf.ai.length∧Own w' 3 1 (.slice ((aI β m cf s).a (m+0)) cf.ai.length ((aI β m cf s).c (m+0))) cf.ai.length cf.cp
   rw[Nat.add_zero,aA.1,aN.1,aC.1];exact⟨rfl,h.p⟩
  | 1,hr=>
   cases hr
   show(aI β m cf s).n (m+1)=cf.ae.length∧Own w' 118 19 (.slice ((aI β m cf s).a (m+1)) cf.ae.length ((aI β m cf s).c (m+1))) cf.ae.length cf.cr
   rw[aA.2.1,aN.2.1,aC.2.1];exact⟨rfl,h.r⟩
  | 2,hr=>
   cases hr
   show(aI β m cf s).n (m+2)=cf.rules.length∧Own w' 81 49 (.slice ((aI β m cf s).a (m+2)) cf.rules.length ((aI β m cf s).c (m+2))) cf.rules.length cf.cl
   rw[aA.2.2.1,aN.2.2.1,aC.2.2.1];exact⟨rfl,h.l⟩
  | 3,hr=>
   cases hr
   show(aI β m cf s).n (m+3)=cf.af.length∧Own w' 122 4 (.slice ((aI β m cf s).a (m+3)) cf.af.length ((aI β m cf s).c (m+3))) cf.af.length cf.cm
   rw[aA.2.2.2.1,aN.2.2.2.1,aC.2.2.2.1];exact⟨rfl,h.m⟩
  | 4,hr=>
   cases hr
   show(aI β m cf s).n (m+4)=cf.aa.length∧Own w' 124 3 (.slice ((aI β m cf s).a (m+4)) cf.aa.length ((aI β m cf s).c (m+4))) cf.aa.length cf.ci
   rw[aA.2.2.2.2,aN.2.2.2.2,aC.2.2.2.2];exact⟨rfl,h.i⟩
 ·rcases bZ k r x hr hx with⟨_,h1⟩ | ⟨_,h1⟩ | ⟨_,h1⟩ | ⟨_,h1⟩ | ⟨_,h1⟩<;>exact .inr (hn _ (by simp) x h1)
 ·have b1:=bZ k r x hr hx
  have b2:=bZ k' r' x hr' hx'
  rcases b1 with⟨rfl,h1⟩ | ⟨rfl,h1⟩ | ⟨rfl,h1⟩ | ⟨rfl,h1⟩ | ⟨rfl,h1⟩<;>rcases b2 with⟨rfl,h2⟩ | ⟨rfl,h2⟩ | ⟨rfl,h2⟩ | ⟨rfl,h2⟩ | ⟨rfl,h2⟩
  ·rfl
  ·exact(bO h.p h.r (by decide) h1 h2).elim
  ·exact(bO h.p h.l (by decide) h1 h2).elim
  ·exact(bO h.p h.m (by decide) h1 h2).elim
  ·exact(bO h.p h.i (by decide) h1 h2).elim
  ·exact(bO h.r h.p (by decide) h1 h2).elim
  ·rfl
  ·exact(bO h.r h.l (by decide) h1 h2).elim
  ·exact(bO h.r h.m (by decide) h1 h2).elim
  ·exact(bO h.r h.i (by decide) h1 h2).elim
  ·exact(bO h.l h.p (by decide) h1 h2).elim
  ·exact(bO h.l h.r (by decide) h1 h2).elim
  ·rfl
  ·exact(bO h.l h.m (by decide) h1 h2).elim
  ·exact(bO h.l h.i (by decide) h1 h2).elim
  ·exact(bO h.m h.p (by decide) h1 h2).elim
  ·exact(bO h.m h.r (by decide) h1 h2).elim
  ·exact(bO h.m h.l (by decide) h1 h2).elim
  ·rfl
  ·exact(bO h.m h.i (by decide) h1 h2).elim
  ·exact(bO h.i h.p (by decide) h1 h2).elim
  ·exact(bO h.i h.r (by decide) h1 h2).elim
  ·exact(bO h.i h.l (by decide) h1 h2).elim
  ·exact(bO h.i h.m (by decide) h1 h2).elim
  ·rfl
structure IP(mem:List Sx.Row)(k0 k1 k2 k3 k4:Nat)(cf:CF):Prop where
 p:mem[k0]?=some ⟨3,.own 1 cf.ai.length cf.cp⟩
 r:mem[k1]?=some ⟨118,.own 19 cf.ae.length cf.cr⟩
 l:mem[k2]?=some ⟨81,.own 49 cf.rules.length cf.cl⟩
 m:mem[k3]?=some ⟨122,.own 4 cf.af.length cf.cm⟩
 i:mem[k4]?=some ⟨124,.own 3 cf.aa.length cf.ci⟩
def kI(β:Sx.Env)(k0 k1 k2 k3 k4:Nat):fU:=⟨⟨β.a k0,β.c k0⟩,⟨β.a k1,β.c k1⟩,⟨β.a k2,β.c k2⟩,⟨β.a k3,β.c k3⟩,⟨β.a k4,β.c k4⟩⟩
theorem zz{β:Sx.Env}{b:Sx.bb}{w':World}{mem:List Sx.Row}{k0 k1 k2 k3 k4:Nat}{cf:CF}(hR:Sx.Rows b β w' mem)(h:IP mem k0 k1 k2 k3 k4 cf)(hS:b.S=[]) :
  Ac w' cf (kI β k0 k1 k2 k3 k4)∧(kI β k0 k1 k2 k3 k4).new b.w.heap.size∧β.n k0=cf.ai.length∧β.n k1=cf.ae.length∧β.n k2=cf.rules.length∧β.n k3=cf.af.length∧β.n k4=cf.aa.length:=by
 have o0:β.n k0=cf.ai.length∧Own w' 3 1 (.slice (β.a k0) cf.ai.length (β.c k0)) cf.ai.length cf.cp:=hR.held k0 _ h.p
 have o1:β.n k1=cf.ae.length∧Own w' 118 19 (.slice (β.a k1) cf.ae.length (β.c k1)) cf.ae.length cf.cr:=hR.held k1 _ h.r
 have o2:β.n k2=cf.rules.length∧Own w' 81 49 (.slice (β.a k2) cf.rules.length (β.c k2)) cf.rules.length cf.cl:=hR.held k2 _ h.l
 have o3:β.n k3=cf.af.length∧Own w' 122 4 (.slice (β.a k3) cf.af.length (β.c k3)) cf.af.length cf.cm:=hR.held k3 _ h.m
 have o4:β.n k4=cf.aa.length∧Own w' 124 3 (.slice (β.a k4) cf.aa.length (β.c k4)) cf.aa.length cf.ci:=hR.held k4 _ h.i
 refine⟨⟨o0.2,o1.2,o2.2,o3.2,o4.2⟩,fun A hA k hk=>?_,o0.1,o1.1,o2.1,o3.1,o4.1⟩
 have key:∀(i:Nat) (r:Sx.Row),mem[i]?=some r→Sx.av β i r=some k→b.w.heap.size≤k:=fun i r hi hr=>by
  rcases hR.new i r k hi hr with hh|hh
  ·rw[hS]at hh;cases hh
  ·exact hh
 simp only[kI,List.mem_cons,List.not_mem_nil,or_false]at hA
 rcases hA with rfl|rfl|rfl|rfl|rfl
 ·exact key k0 _ h.p hk
 ·exact key k1 _ h.r hk
 ·exact key k2 _ h.l hk
 ·exact key k3 _ h.m hk
 ·exact key k4 _ h.i hk
theorem tH{b:Sx.bb}{β:Sx.Env}{W:World}{mem:List Sx.Row}{gJ:List Nat}{m:Nat}{cf:CF}(hS:Sx.dP b β W (Sx.rowAt mem) gJ)(h:IP mem m (m+1) (m+2) (m+3) (m+4) cf)(hs:∀k∈[m,m+1,m+2,m+3,m+4],k∈gJ) :
  eU W [] cf (kI β m (m+1) (m+2) (m+3) (m+4))∧(Sx.SV.dV (zA m cf)).den β=.agg (au cf (kI β m (m+1) (m+2) (m+3) (m+4))).toArray:=by
 have o0:β.n m=cf.ai.length∧Own W 3 1 (.slice (β.a m) cf.ai.length (β.c m)) cf.ai.length cf.cp:=hS.held m (hs _ (by simp)) _ h.p
 have o1:β.n (m+1)=cf.ae.length∧Own W 118 19 (.slice (β.a (m+1)) cf.ae.length (β.c (m+1))) cf.ae.length cf.cr:=hS.held (m+1) (hs _ (by simp)) _ h.r
 have o2:β.n (m+2)=cf.rules.length∧Own W 81 49 (.slice (β.a (m+2)) cf.rules.length (β.c (m+2))) cf.rules.length cf.cl:=hS.held (m+2) (hs _ (by simp)) _ h.l
 have o3:β.n (m+3)=cf.af.length∧Own W 122 4 (.slice (β.a (m+3)) cf.af.length (β.c (m+3))) cf.af.length cf.cm:=hS.held (m+3) (hs _ (by simp)) _ h.m
 have o4:β.n (m+4)=cf.aa.length∧Own W 124 3 (.slice (β.a (m+4)) cf.aa.length (β.c (m+4))) cf.aa.length cf.ci:=hS.held (m+4) (hs _ (by simp)) _ h.i
 refine⟨Ac.rd ⟨o0.2,o1.2,o2.2,o3.2,o4.2⟩ (fun _ _ _ _ h=>by cases h),?_⟩
 show Value.agg ([β.sl m,β.sl (m+1),β.sl (m+2),β.sl (m+3),β.sl (m+4),.int .i64 cf.br]:List Value).toArray=_
 unfold Sx.Env.sl
 rw[o0.1,o1.1,o2.1,o3.1,o4.1]
 rfl
end Go.Proofs.YtnncigmpcdehnaaGreatDoor
