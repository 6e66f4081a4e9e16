import Derived.Test.YtnncigmpcdehnaaGreatDoorQd24
namespace Go.Proofs.YtnncigmpcdehnaaGreatDoor
open Go.RowKit Go.Lib Go.Sort
structure Sl where
 A:Option Go.Addr
 c:Nat
structure fU where
 p:Sl
 r:Sl
 l:Sl
 m:Sl
 i:Sl
def CF.cp(cf:CF):List Value:=cf.ai.map (.int .i64 ·)
def CF.cr(cf:CF):List Value:=cf.ae.flatMap Rt.cells
def CF.cl(cf:CF):List Value:=cf.rules.flatMap Rl.cells
def CF.cm(cf:CF):List Value:=cf.af.flatMap Me.cells
def CF.ci(cf:CF):List Value:=cf.aa.flatMap Mi.cells
def P7(g gc gd:Nat)(s:fU):List (Option Nat):=[some g,some gc,some gd,s.p.A.map (·.block),s.r.A.map (·.block),s.l.A.map (·.block),s.m.A.map (·.block),s.i.A.map (·.block)]
def yU(g gc gd:Nat)(s:fU):List Nat:=(P7 g gc gd s).filterMap id
structure re(w:World)(gc:Nat)(cf:CF)(s:fU):Prop where
 bZ:aq w gc 46 [.slice s.p.A cf.ai.length s.p.c,.slice s.r.A cf.ae.length s.r.c,.slice s.l.A cf.rules.length s.l.c,.slice s.m.A cf.af.length s.m.c,.slice s.i.A cf.aa.length s.i.c,.int .i64 cf.br]
 p:Own w 3 1 (.slice s.p.A cf.ai.length s.p.c) cf.ai.length cf.cp
 r:Own w 118 19 (.slice s.r.A cf.ae.length s.r.c) cf.ae.length cf.cr
 l:Own w 81 49 (.slice s.l.A cf.rules.length s.l.c) cf.rules.length cf.cl
 m:Own w 122 4 (.slice s.m.A cf.af.length s.m.c) cf.af.length cf.cm
 i:Own w 124 3 (.slice s.i.A cf.aa.length s.i.c) cf.aa.length cf.ci
structure O8(w:World)(g gc gd:Nat)(A:Option Go.Addr)(n c i:Nat)(ws:List Bs)(cf:CF)(d:Nat)(s:fU):Prop where
 qX:pN w (yU g gc gd s) g A n c i ws
 at_:re w gc cf s
 bd:aq w gd 3 [.int .i64 (d:Int)]
 nd:(yU g gc gd s).Nodup
 vk:cf.ai.length≤1000000∧cf.ae.length≤1000000∧cf.rules.length≤1000000∧cf.af.length≤1000000∧cf.aa.length≤1000000
 O3:d≤1000000
def Oo(g gc gd:Nat)(A:Option Go.Addr)(n c i:Nat)(cf:CF)(d:Nat):List Sx.Row:=
 [⟨154,.dC g (dr A n c i)⟩,⟨46,.jg gc [.own 3,.own 4,.own 5,.own 6,.own 7,.val (.int .i64 cf.br)]⟩,⟨3,.dC gd [.int .i64 (d:Int)]⟩,
  ⟨3,.own 1 cf.ai.length cf.cp⟩,⟨118,.own 19 cf.ae.length cf.cr⟩,⟨81,.own 49 cf.rules.length cf.cl⟩,⟨122,.own 4 cf.af.length cf.cm⟩,⟨124,.own 3 cf.aa.length cf.ci⟩]
def LW(g gc gd:Nat)(A:Option Go.Addr)(n c:Nat)(T:Out CF)(d:Nat)(l:List Sx.SV)(mem:List Sx.Row):Prop:=
 ∃(cf:CF) (i k0 k1 k2 k3 k4:Nat),T=.ok cf i∧i≤n∧l=[]∧mem[0]?=some ⟨154,.dC g (dr A n c i)⟩∧mem[1]?=some ⟨46,.jg gc [.own k0,.own k1,.own k2,.own k3,.own k4,.val (.int .i64 cf.br)]⟩∧mem[2]?=some ⟨3,.dC gd [.int .i64 (d:Int)]⟩∧
 mem[k0]?=some ⟨3,.own 1 cf.ai.length cf.cp⟩∧mem[k1]?=some ⟨118,.own 19 cf.ae.length cf.cr⟩∧mem[k2]?=some ⟨81,.own 49 cf.rules.length cf.cl⟩∧mem[k3]?=some ⟨122,.own 4 cf.af.length cf.cm⟩∧mem[k4]?=some ⟨124,.own 3 cf.aa.length cf.ci⟩
def ql(g gc gd:Nat)(A:Option Go.Addr)(n c:Nat)(T:Out CF)(d:Nat)(S:List Nat)(w:World)(e:Ending)(w':World):Prop:=
 (∃cf i s,T=.ok cf i∧i≤n∧e=.returned (.tuple #[])∧aq w' g 154 (dr A n c i)∧re w' gc cf s∧aq w' gd 3 [.int .i64 (d:Int)]∧(yU g gc gd s).Nodup∧(∀k∈yU g gc gd s,k∈S∨w.heap.size≤k)∧ag S w w')∨
 (∃code p chain,T=.no code p∧e=.panicked chain∧Ag code p w chain w'∧ag S w w')
theorem yn{mem:List Sx.Row}{β:Sx.Env}(inj:∀(i j:Nat) (r r':Sx.Row) (k:Nat),mem[i]?=some r→mem[j]?=some r'→Sx.av β i r=some k→Sx.av β j r'=some k→i=j) :
  ∀(l:List (Nat×Option Nat)),(l.map (·.1)).Nodup→(∀x∈l,∀k,x.2=some k→∃r,mem[x.1]?=some r∧Sx.av β x.1 r=some k)→((l.map (·.2)).filterMap id).Nodup
 | [],_,_=>by simp
 |x::l,hn,hr=>by
  rw[List.map_cons,List.nodup_cons]at hn
  have ih:=yn inj l hn.2 fun y hy=>hr y (List.mem_cons_of_mem _ hy)
  cases hx:x.2 with
  |none=>simpa[hx]using ih
  |some k=>
   have e:((x::l).map (·.2)).filterMap id=k::(l.map (·.2)).filterMap id:=by simp[hx]
   rw[e,List.nodup_cons]
   refine⟨fun hk=>?_,ih⟩
   obtain⟨o,ho,hok⟩:=List.mem_filterMap.1 hk
   obtain⟨y,hy,rfl⟩:=List.mem_map.1 ho
   obtain⟨r,h1,h2⟩:=hr x (by simp) k hx
   obtain⟨r',h3,h4⟩:=hr y (List.mem_cons_of_mem _ hy) k hok
   have:=inj _ _ _ _ _ h1 h3 h2 h4
   exact hn.1 (List.mem_map.2 ⟨y,hy,this.symm⟩)
theorem ql.iC{g gc gd:Nat}{A:Option Go.Addr}{n c:Nat}{T:Out CF}{d:Nat}{S:List Nat}{w:World}{e:Ending}{w':World}(h:Sx.cd ⟨w,S,js T w⟩ (LW g gc gd A n c T d) e w'):ql g gc gd A n c T d S w e w':=by
 rcases h with⟨β,l,mem,⟨cf,i,k0,k1,k2,k3,k4,h1,h2,rfl,m0,m1,m2,q0,q1,q2,q3,q4⟩,he,hR⟩ | ⟨chain,he,⟨code,p,h1,hf⟩,hc⟩
 ·have r0:=hR.held 0 _ m0
  have r1:=hR.held 1 _ m1
  have r2:=hR.held 2 _ m2
  have o0:=hR.held k0 _ q0
  have o1:=hR.held k1 _ q1
  have o2:=hR.held k2 _ q2
  have o3:=hR.held k3 _ q3
  have o4:=hR.held k4 _ q4
  have e0:β 0=g:=r0.1
  have e1:β 1=gc:=r1.1
  have e2:β 2=gd:=r2.1
  have o0:β.n k0=cf.ai.length∧Own w' 3 1 (.slice (β.a k0) cf.ai.length (β.c k0)) cf.ai.length cf.cp:=o0
  have o1:β.n k1=cf.ae.length∧Own w' 118 19 (.slice (β.a k1) cf.ae.length (β.c k1)) cf.ae.length cf.cr:=o1
  have o2:β.n k2=cf.rules.length∧Own w' 81 49 (.slice (β.a k2) cf.rules.length (β.c k2)) cf.rules.length cf.cl:=o2
  have o3:β.n k3=cf.af.length∧Own w' 122 4 (.slice (β.a k3) cf.af.length (β.c k3)) cf.af.length cf.cm:=o3
  have o4:β.n k4=cf.aa.length∧Own w' 124 3 (.slice (β.a k4) cf.aa.length (β.c k4)) cf.aa.length cf.ci:=o4
  have b1:aq w' gc 46 [.slice (β.a k0) cf.ai.length (β.c k0),.slice (β.a k1) cf.ae.length (β.c k1),.slice (β.a k2) cf.rules.length (β.c k2),.slice (β.a k3) cf.af.length (β.c k3),.slice (β.a k4) cf.aa.length (β.c k4),.int .i64 cf.br]:=by
   have:=r1.2
   rw[e1]at this
   have hh:([Sx.SV.own k0,.own k1,.own k2,.own k3,.own k4,.val (.int .i64 cf.br)].map (Sx.SV.den β))=[β.sl k0,β.sl k1,β.sl k2,β.sl k3,β.sl k4,.int .i64 cf.br]:=rfl
   rw[hh]at this
   unfold Sx.Env.sl at this
   rw[o0.1,o1.1,o2.1,o3.1,o4.1]at this
   exact this
  have rows:∀x∈[(0,some g),(1,some gc),(2,some gd),(k0,(β.a k0).map (·.block)),(k1,(β.a k1).map (·.block)),(k2,(β.a k2).map (·.block)),(k3,(β.a k3).map (·.block)),(k4,(β.a k4).map (·.block))],∀k,x.2=some k→∃r,mem[x.1]?=some r∧Sx.av β x.1 r=some k:=by
   intro x hx k hk
   simp only[List.mem_cons,List.not_mem_nil,or_false]at hx
   rcases hx with rfl|rfl|rfl|rfl|rfl|rfl|rfl|rfl
   ·exact⟨_,m0,by show some (β 0)=_;rw[e0];exact hk⟩
   ·exact⟨_,m1,by show some (β 1)=_;rw[e1];exact hk⟩
   ·exact⟨_,m2,by show some (β 2)=_;rw[e2];exact hk⟩
   ·exact⟨_,q0,hk⟩
   ·exact⟨_,q1,hk⟩
   ·exact⟨_,q2,hk⟩
   ·exact⟨_,q3,hk⟩
   ·exact⟨_,q4,hk⟩
  have d:∀{a b:Nat} {r r':Sx.Row},mem[a]?=some r→mem[b]?=some r'→r≠r'→a≠b:=fun {a b r r'} ha hb hne he=>by
   subst he
   rw[ha]at hb
   exact hne (Option.some.inj hb)
  have nd:[0,1,2,k0,k1,k2,k3,k4].Nodup:=by
   simp only[List.nodup_cons,List.mem_cons,List.not_mem_nil,or_false,not_or,not_false_eq_true,List.nodup_nil,and_true]
   exact⟨⟨(d m0 m1 (fun h=>by cases h)),(d m0 m2 (fun h=>by cases h)),(d m0 q0 (fun h=>by cases h)),(d m0 q1 (fun h=>by cases h)),(d m0 q2 (fun h=>by cases h)),(d m0 q3 (fun h=>by cases h)),(d m0 q4 (fun h=>by cases h))⟩,⟨(d m1 m2 (fun h=>by cases h)),(d m1 q0 (fun h=>by cases h)),(d m1 q1 (fun h=>by cases h)),(d m1 q2 (fun h=>by cases h)),(d m1 q3 (fun h=>by cases h)),(d m1 q4 (fun h=>by cases h))⟩,⟨(d m2 q0 (fun h=>by cases h)),(d m2 q1 (fun h=>by cases h)),(d m2 q2 (fun h=>by cases h)),(d m2 q3 (fun h=>by cases h)),(d m2 q4 (fun h=>by cases h))⟩,⟨(d q0 q1 (fun h=>by cases h)),(d q0 q2 (fun h=>by cases h)),(d q0 q3 (fun h=>by cases h)),(d q0 q4 (fun h=>by cases h))⟩,⟨(d q1 q2 (fun h=>by cases h)),(d q1 q3 (fun h=>by cases h)),(d q1 q4 (fun h=>by cases h))⟩,⟨(d q2 q3 (fun h=>by cases h)),(d q2 q4 (fun h=>by cases h))⟩,(d q3 q4 (fun h=>by cases h))⟩
  refine .inl ⟨cf,i,⟨⟨β.a k0,β.c k0⟩,⟨β.a k1,β.c k1⟩,⟨β.a k2,β.c k2⟩,⟨β.a k3,β.c k3⟩,⟨β.a k4,β.c k4⟩⟩,h1,h2,he,e0 ▸ r0.2,⟨b1,o0.2,o1.2,o2.2,o3.2,o4.2⟩,e2 ▸ r2.2,?_,fun k hk=>?_,hR.aF⟩
  ·exact yn hR.inj [(0,some g),(1,some gc),(2,some gd),(k0,(β.a k0).map (·.block)),(k1,(β.a k1).map (·.block)),(k2,(β.a k2).map (·.block)),(k3,(β.a k3).map (·.block)),(k4,(β.a k4).map (·.block))] nd rows
  ·obtain⟨o,ho,hok⟩:=List.mem_filterMap.1 hk
   have hm:o∈([(0,some g),(1,some gc),(2,some gd),(k0,(β.a k0).map (·.block)),(k1,(β.a k1).map (·.block)),(k2,(β.a k2).map (·.block)),(k3,(β.a k3).map (·.block)),(k4,(β.a k4).map (·.block))]:List (Nat×Option Nat)).map (·.2):=ho
   obtain⟨x,hx,rfl⟩:=List.mem_map.1 hm
   obtain⟨r,hr,hb⟩:=rows x hx k hok
   exact hR.new x.1 r k hr hb
 ·exact .inr ⟨code,p,chain,h1,he,hf,hc⟩
def PA(g gc gd:Nat)(A:Option Go.Addr)(n c i:Nat)(cf:CF)(d:Nat)(s:fU):List Sx.jP:=
 [.bZ g 154 (dr A n c i),.mz gc 46 [.own 3,.own 4,.own 5,.own 6,.own 7,.val (.int .i64 cf.br)],.bZ gd 3 [.int .i64 (d:Int)],
  .own 3 1 s.p.A cf.ai.length s.p.c cf.cp,.own 118 19 s.r.A cf.ae.length s.r.c cf.cr,.own 81 49 s.l.A cf.rules.length s.l.c cf.cl,.own 122 4 s.m.A cf.af.length s.m.c cf.cm,.own 124 3 s.i.A cf.aa.length s.i.c cf.ci]
theorem lf{P:Program}{w:World}{f:FuncId}{fn:Func}{co:Code}{g gc gd:Nat}{A:Option Go.Addr}{n c i:Nat}{ws:List Bs}{cf:CF}{d d':Nat}{s:fU}{T:Out CF}(h:O8 w g gc gd A n c i ws cf d s)(H:List (Nat×Sx.Hint))(L:List Sx.Loop)
  (hm:P.follows .mixedOrders=true) (hf:P.funcs[f]?=some fn) (hbd:fn.body=some co) (hn:3≤fn.ntmps)
  (hx:Sx.jk P fn.ntmps ⟨w,yU g gc gd s,js T w⟩ co H L ⟨Sx.lB 0 [.ptr 0 0,.ptr 1 0,.ptr 2 0],Oo g gc gd A n c i cf d⟩ (Sx.bR P fn (LW g gc gd A n c T d'))) :
  Calls P f #[.pointer (some ⟨g,0,none⟩),.pointer (some ⟨gc,0,none⟩),.pointer (some ⟨gd,0,none⟩)] w (ql g gc gd A n c T d' (yU g gc gd s) w):=by
 have hF:=Sx.gb (w:=w) (S:=yU g gc gd s) (PP:=js T w) (G:=PA g gc gd A n c i cf d s) (fun q hq=>by
  simp only[PA,List.mem_cons,List.not_mem_nil,or_false]at hq
  rcases hq with rfl|rfl|rfl|rfl|rfl|rfl|rfl|rfl
  ·exact h.qX.bZ
  ·exact h.at_.bZ
  ·exact h.bd
  ·exact h.at_.p
  ·exact h.at_.r
  ·exact h.at_.l
  ·exact h.at_.m
  ·exact h.at_.i) (fun q hq k hk=>by
  have:yU g gc gd s=(PA g gc gd A n c i cf d s).filterMap Sx.jP.block:=rfl
  rw[this]
  exact List.mem_filterMap.2 ⟨q,hq,hk⟩) h.nd
 exact(Sx.aY (args:=[.ptr 0 0,.ptr 1 0,.ptr 2 0]) hF H L hm hf hbd hn rfl hx).mono fun _ _=>ql.iC
end Go.Proofs.YtnncigmpcdehnaaGreatDoor
