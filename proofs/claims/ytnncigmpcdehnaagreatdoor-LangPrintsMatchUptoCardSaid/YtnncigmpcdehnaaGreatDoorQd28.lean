import Derived.Test.YtnncigmpcdehnaaGreatDoorQd27
import Derived.Defers
import Derived.Recover
namespace Go.Proofs.YtnncigmpcdehnaaGreatDoor
set_option maxRecDepth 100000
open Go.RowKit Go.Lib Go.Sort
theorem ky(cm:Bool):∀(l cur:Bs),(bW cm cur l).length≤l.length+(if cur=[] then 0 else 1)∧∀x∈bW cm cur l,x.length≤cur.length+l.length
 | [],cur=>by
  unfold bW
  by_cases h:cur=[]
  ·simp[h]
  ·simp[h]
 |c::l,cur=>by
  unfold bW
  have h0:=ky cm l []
  have h1:=ky cm l (cur++[c])
  rw[if_neg (by simp:¬cur++[c]=[])]at h1
  rw[if_pos rfl]at h0
  simp only[List.length_append,List.length_singleton,List.length_nil]at h0 h1
  split
  ·by_cases h:cur=[]
   ·simp[h]
   ·rw[if_neg h]
    refine⟨by simp[h],fun x hx=>?_⟩
    rw[List.mem_singleton.1 hx];simp
  ·split
   ·by_cases h:cur=[]
    ·rw[if_pos h]
     refine⟨by simp[h];omega,fun x hx=>?_⟩
     have:=h0.2 x hx
     simp[h];omega
    ·rw[if_neg h]
     refine⟨by simp[h];omega,fun x hx=>?_⟩
     rcases List.mem_cons.1 hx with rfl|hx
     ·omega
     ·have:=h0.2 x hx;simp;omega
   ·refine⟨by have:=h1.1;simp;split<;>omega,fun x hx=>?_⟩
    have:=h1.2 x hx
    simp;omega
theorem xv(cm:Bool)(s:Bs):(aJ cm s).length≤s.length∧∀x∈aJ cm s,x.length≤s.length:=by
 have:=ky cm s []
 simpa[aJ]using this
theorem Ej(N:Nat)(w:World):Calls Tryz.prog 92 #[.iface 103 (.pointer (some ⟨N,0,none⟩))] w fun e w'=>e=.returned (.iface 103 (.pointer (some ⟨N,0,none⟩)))∧w'=w:=by
 have hta:∀w,(Instr.typeAssert (.iface 103 (.pointer (some ⟨N,0,none⟩))) 20 103 true).run Tryz.prog w=.ok (.tuple #[.pointer (some ⟨N,0,none⟩),.bool true]) w:=fun w=>by kernel_rfl
 go_enter Tryz.func92,Tryz.ntmps92
 go_wp2
 go_ret
 exact⟨rfl,rfl⟩
theorem EB(p:Go.Addr)(N:Nat)(older:List PanicEntry)(w:World)(hc:w.cell? p=some .nilIface)(hz:w.frozen? p=false) :
  CallsD Tryz.prog 130 #[.pointer (some p)] (.panicking ({ v:=.iface 103 (.pointer (some ⟨N,0,none⟩)),recovered:=false }::older)) w fun e u' w'=>
   e=.returned (.tuple #[])∧u'=.panicking ({ v:=.iface 103 (.pointer (some ⟨N,0,none⟩)),recovered:=true }::older)∧w'=w.setCell p (.iface 103 (.pointer (some ⟨N,0,none⟩))):=by
 refine callsD_of_wpS Tryz.func130 rfl fun c₀ cs hu=>?_
 apply wpS_seq
 apply wpS_region
 simp[wpOpsS,go_sem,recoverD,hu,Tryz.ntmps130,Exit.thenS]
 apply wpS_seq
 apply wpS_region
 simp[wpOpsS,go_sem,Exit.thenS]
 refine wpS_cond (t:=true) (by simp[Act.eval,Array.replicate]) ?_
 simp only[if_true]
 refine wpS_of_wp ?_
 go_wp2_with (go_at_call 92;refine(Ej N _).mono ?_;rintro e w2 ⟨rfl,rfl⟩)
 cases c₀
 simp_all[bodyPostS,results,Tryz.results130]
theorem zB(p:Go.Addr)(w:World) :
  CallsD Tryz.prog 130 #[.pointer (some p)] .returning w fun e u' w'=>e=.returned (.tuple #[])∧u'=.returning∧w'=w:=by
 refine callsD_of_wpS Tryz.func130 rfl fun c₀ cs hu=>?_
 apply wpS_seq
 apply wpS_region
 simp[wpOpsS,go_sem,recoverD,hu,Tryz.ntmps130,Exit.thenS]
 apply wpS_seq
 apply wpS_region
 simp[wpOpsS,go_sem,Exit.thenS]
 refine wpS_cond (t:=false) (by simp[Act.eval,Array.replicate]) ?_
 simp only[Bool.false_eq_true,if_false]
 refine wpS_of_wp (wp_skip ?_)
 cases c₀
 simp_all[bodyPostS,results,Tryz.results130]
open Go.RowKit Go.Lib Go.Sort
def dD(gc gd:Nat)(s:fU):List Nat:=[some gc,some gd,s.p.A.map (·.block),s.r.A.map (·.block),s.l.A.map (·.block),s.m.A.map (·.block),s.i.A.map (·.block)].filterMap id
theorem im(g gc gd:Nat)(s:fU):yU g gc gd s=g::dD gc gd s:=rfl
structure OV(w:World)(gc gd:Nat)(cf:CF)(d:Nat)(s:fU):Prop where
 at_:re w gc cf s
 bd:aq w gd 3 [.int .i64 (d:Int)]
 nd:(dD gc gd s).Nodup
 vk:cf.ai.length≤1000000∧cf.ae.length≤1000000∧cf.rules.length≤1000000∧cf.af.length≤1000000∧cf.aa.length≤1000000
 O3:d≤1000000
 sW:dJ w
 s9:∀k∈dD gc gd s,9≤k
theorem dQ{gc gd:Nat}{s:fU}{k:Nat}:k∈dD gc gd s↔k=gc∨k=gd∨s.p.A.map (·.block)=some k∨s.r.A.map (·.block)=some k∨s.l.A.map (·.block)=some k∨s.m.A.map (·.block)=some k∨s.i.A.map (·.block)=some k:=by
 unfold dD
 simp only[List.mem_filterMap,List.mem_cons,List.not_mem_nil,or_false,id_eq]
 constructor
 ·rintro⟨o,ho,hk⟩
  subst hk
  rcases ho with h|h|h|h|h|h|h
  ·injection h with h;exact .inl h
  ·injection h with h;exact .inr (.inl h)
  ·exact .inr (.inr (.inl h.symm))
  ·exact .inr (.inr (.inr (.inl h.symm)))
  ·exact .inr (.inr (.inr (.inr (.inl h.symm))))
  ·exact .inr (.inr (.inr (.inr (.inr (.inl h.symm)))))
  ·exact .inr (.inr (.inr (.inr (.inr (.inr h.symm)))))
 ·rintro(rfl|rfl|h|h|h|h|h)
  ·exact⟨_,.inl rfl,rfl⟩
  ·exact⟨_,.inr (.inl rfl),rfl⟩
  ·exact⟨_,.inr (.inr (.inl rfl)),h⟩
  ·exact⟨_,.inr (.inr (.inr (.inl rfl))),h⟩
  ·exact⟨_,.inr (.inr (.inr (.inr (.inl rfl)))),h⟩
  ·exact⟨_,.inr (.inr (.inr (.inr (.inr (.inl rfl))))),h⟩
  ·exact⟨_,.inr (.inr (.inr (.inr (.inr (.inr rfl))))),h⟩
theorem fk(A:Option Go.Addr)(n c:Nat):(Value.slice A n c).ownBlock=A.map (·.block):=by cases A<;>rfl
theorem re.lt{w:World}{gc gd:Nat}{cf:CF}{d:Nat}{s:fU}(h:re w gc cf s)(hb:aq w gd 3 [.int .i64 (d:Int)]):∀k∈dD gc gd s,k < w.heap.size:=fun k hk=>by
 rcases dQ.1 hk with rfl|rfl|hk|hk|hk|hk|hk
 ·exact h.bZ.lt
 ·exact hb.lt
 ·exact h.p.lt k ((fk _ _ _).trans hk)
 ·exact h.r.lt k ((fk _ _ _).trans hk)
 ·exact h.l.lt k ((fk _ _ _).trans hk)
 ·exact h.m.lt k ((fk _ _ _).trans hk)
 ·exact h.i.lt k ((fk _ _ _).trans hk)
theorem re.aF{w w':World}{gc gd:Nat}{cf:CF}{s:fU}(h:re w gc cf s){S:List Nat}(hc:ag S w w')(hS:∀k∈dD gc gd s,k∉S):re w' gc cf s:=
 ⟨h.bZ.aF hc (hS _ (dQ.2 (.inl rfl))),h.p.aF hc fun k hk=>hS k (dQ.2 (.inr (.inr (.inl ((fk _ _ _).symm.trans hk))))),h.r.aF hc fun k hk=>hS k (dQ.2 (.inr (.inr (.inr (.inl ((fk _ _ _).symm.trans hk)))))),
  h.l.aF hc fun k hk=>hS k (dQ.2 (.inr (.inr (.inr (.inr (.inl ((fk _ _ _).symm.trans hk))))))),h.m.aF hc fun k hk=>hS k (dQ.2 (.inr (.inr (.inr (.inr (.inr (.inl ((fk _ _ _).symm.trans hk)))))))),h.i.aF hc fun k hk=>hS k (dQ.2 (.inr (.inr (.inr (.inr (.inr (.inr ((fk _ _ _).symm.trans hk)))))))) ⟩
def xp(l:Bs)(gc gd:Nat)(cf:CF)(d:Nat)(s:fU)(w:World)(e:Ending)(w':World):Prop:=
 (∃cf' i s',eL (aJ true l) cf d=.ok cf' i∧e=.returned .nilIface∧re w' gc cf' s'∧aq w' gd 3 [.int .i64 (dN (aJ true l) d:Nat)]∧(dD gc gd s').Nodup∧(∀k∈dD gc gd s',k∈dD gc gd s∨w.heap.size≤k)∧ag (dD gc gd s) w w')∨
 (∃code p N:Nat,eL (aJ true l) cf d=.no code p∧e=.returned (.iface 103 (.pointer (some ⟨N,0,none⟩)))∧w.heap.size≤N∧aq w' N 105 [.int .i64 (code:Int),.int .i64 (p:Int)]∧ag (dD gc gd s) w w')
theorem I6{w w':World}{A:Option Go.Addr}{n c:Nat}{ws:List Bs}{S:List Nat}(h:Own w 9 1 (.slice A n c) n (ws.map ab))(hl:ws.length=n)(hc:ag [] w w')(hS:∀k,A.map (·.block)=some k→k∉S):zZ w' S A n ws:=by
 refine⟨hl,fun h0=>?_⟩
 rcases h.2 with⟨hv,h1⟩ | ⟨g,o,c',L,hv,hg,hn,hcm,hL,hx⟩
 ·omega
 ·injection hv with h1 h2 h3
  subst h1
  refine⟨g,o,rfl,hS g rfl,Nat.lt_of_lt_of_le hg.lt hc.size,fun j x hj=>?_⟩
  have hg':=hg.aF hc (by simp)
  have hjn:j < n:=by rw[←hl];exact(List.getElem?_eq_some_iff.1 hj).1
  refine hg'.cell_of ?_
  have e1:((L.drop o).take (n*1))[j]?=some (ab x):=by rw[hx,List.getElem?_map,hj];rfl
  rw[List.getElem?_take,if_pos (by omega),List.getElem?_drop]at e1
  exact e1
def eM(tg:Option Nat)(cs:List Sx.SV):Sx.Row:=match tg with
 |some g=>⟨46,.jg g cs⟩
 |none=>⟨46,.dA cs⟩
def jh(tg:Option Nat)(d:Nat):Sx.Row:=match tg with
 |some g=>⟨3,.dC g [.int .i64 (d:Int)]⟩
 |none=>⟨3,.aj [.int .i64 (d:Int)]⟩
def jM(k0 k1 k2 k3 k4:Nat)(cf:CF):List Sx.SV:=[.own k0,.own k1,.own k2,.own k3,.own k4,.val (.int .i64 cf.br)]
structure tX(row:Nat→Option Sx.Row)(tc td:Option Nat)(kc kd k0 k1 k2 k3 k4:Nat)(cf:CF)(d:Nat):Prop where
 c:row kc=some (eM tc (jM k0 k1 k2 k3 k4 cf))
 d:row kd=some (jh td d)
 p:row k0=some ⟨3,.own 1 cf.ai.length cf.cp⟩
 r:row k1=some ⟨118,.own 19 cf.ae.length cf.cr⟩
 l:row k2=some ⟨81,.own 49 cf.rules.length cf.cl⟩
 m:row k3=some ⟨122,.own 4 cf.af.length cf.cm⟩
 i:row k4=some ⟨124,.own 3 cf.aa.length cf.ci⟩
def qt(β:Sx.Env)(k0 k1 k2 k3 k4:Nat):fU:=⟨⟨β.a k0,β.c k0⟩,⟨β.a k1,β.c k1⟩,⟨β.a k2,β.c k2⟩,⟨β.a k3,β.c k3⟩,⟨β.a k4,β.c k4⟩⟩
theorem Eu{β:Sx.Env}{W:World}{tc:Option Nat}{kc:Nat}{cs:List Sx.SV}(h:Sx.aS β W kc (eM tc cs)):aq W (β kc) 46 (cs.map (Sx.SV.den β))∧∀g,tc=some g→β kc=g:=by
 cases tc with
 |some g=>exact⟨h.2,fun g' hg=>by cases hg;exact h.1⟩
 |none=>exact⟨h,fun g hg=>by cases hg⟩
theorem Ee{β:Sx.Env}{W:World}{tc:Option Nat}{kc:Nat}{cs:List Sx.SV}(h:aq W (β kc) 46 (cs.map (Sx.SV.den β)))(ht:∀g,tc=some g→β kc=g):Sx.aS β W kc (eM tc cs):=by
 cases tc with
 |some g=>exact⟨ht g rfl,h⟩
 |none=>exact h
theorem Ky{β:Sx.Env}{W:World}{td:Option Nat}{kd d:Nat}(h:Sx.aS β W kd (jh td d)):aq W (β kd) 3 [.int .i64 (d:Int)]∧∀g,td=some g→β kd=g:=by
 cases td with
 |some g=>exact⟨h.2,fun g' hg=>by cases hg;exact h.1⟩
 |none=>exact⟨h,fun g hg=>by cases hg⟩
theorem Kt{β:Sx.Env}{W:World}{td:Option Nat}{kd d:Nat}(h:aq W (β kd) 3 [.int .i64 (d:Int)])(ht:∀g,td=some g→β kd=g):Sx.aS β W kd (jh td d):=by
 cases td with
 |some g=>exact⟨ht g rfl,h⟩
 |none=>exact h
theorem tG{β:Sx.Env}{tc:Option Nat}{kc:Nat}{cs:List Sx.SV}:Sx.av β kc (eM tc cs)=some (β kc):=by cases tc<;>rfl
theorem Bc{β:Sx.Env}{td:Option Nat}{kd d:Nat}:Sx.av β kd (jh td d)=some (β kd):=by cases td<;>rfl
def O6(β:Sx.Env)(kc kd k0 k1 k2 k3 k4:Nat):List (Nat×Option Nat):=[(kc,some (β kc)),(kd,some (β kd)),(k0,(β.a k0).map (·.block)),(k1,(β.a k1).map (·.block)),(k2,(β.a k2).map (·.block)),(k3,(β.a k3).map (·.block)),(k4,(β.a k4).map (·.block))]
theorem H6{b:Sx.bb}{β:Sx.Env}{W:World}{row:Nat→Option Sx.Row}{gJ:List Nat}{tc td:Option Nat}{kc kd k0 k1 k2 k3 k4:Nat}{cf:CF}{d:Nat}(hS:Sx.dP b β W row gJ)(h:tX row tc td kc kd k0 k1 k2 k3 k4 cf d)(hs:∀k∈[kc,kd,k0,k1,k2,k3,k4],k∈gJ)(hn:[kc,kd,k0,k1,k2,k3,k4].Nodup) :
  re W (β kc) cf (qt β k0 k1 k2 k3 k4)∧aq W (β kd) 3 [.int .i64 (d:Int)]∧(dD (β kc) (β kd) (qt β k0 k1 k2 k3 k4)).Nodup∧(∀k∈dD (β kc) (β kd) (qt β k0 k1 k2 k3 k4),k∈b.S∨b.w.heap.size≤k):=by
 have c:=Eu (hS.held kc (hs _ (by simp)) _ h.c)
 have dd:=Ky (hS.held kd (hs _ (by simp)) _ h.d)
 have p:β.n k0=cf.ai.length∧Own W 3 1 (.slice (β.a k0) cf.ai.length (β.c k0)) cf.ai.length cf.cp:=hS.held k0 (hs _ (by simp)) _ h.p
 have r:β.n k1=cf.ae.length∧Own W 118 19 (.slice (β.a k1) cf.ae.length (β.c k1)) cf.ae.length cf.cr:=hS.held k1 (hs _ (by simp)) _ h.r
 have l:β.n k2=cf.rules.length∧Own W 81 49 (.slice (β.a k2) cf.rules.length (β.c k2)) cf.rules.length cf.cl:=hS.held k2 (hs _ (by simp)) _ h.l
 have m:β.n k3=cf.af.length∧Own W 122 4 (.slice (β.a k3) cf.af.length (β.c k3)) cf.af.length cf.cm:=hS.held k3 (hs _ (by simp)) _ h.m
 have i:β.n k4=cf.aa.length∧Own W 124 3 (.slice (β.a k4) cf.aa.length (β.c k4)) cf.aa.length cf.ci:=hS.held k4 (hs _ (by simp)) _ h.i
 have hb:aq W (β kc) 46 [.slice (β.a k0) cf.ai.length (β.c k0),.slice (β.a k1) cf.ae.length (β.c k1),.slice (β.a k2) cf.rules.length (β.c k2),.slice (β.a k3) cf.af.length (β.c k3),.slice (β.a k4) cf.aa.length (β.c k4),.int .i64 cf.br]:=by
  have:=c.1
  have hh:(jM k0 k1 k2 k3 k4 cf).map (Sx.SV.den β)=[β.sl k0,β.sl k1,β.sl k2,β.sl k3,β.sl k4,.int .i64 cf.br]:=rfl
  rw[hh]at this
  unfold Sx.Env.sl at this
  rw[p.1,r.1,l.1,m.1,i.1]at this
  exact this
 have rows:∀x∈O6 β kc kd k0 k1 k2 k3 k4,∀k,x.2=some k→x.1∈gJ∧∃r,row x.1=some r∧Sx.av β x.1 r=some k:=by
  intro x hx k hk
  simp only[O6,List.mem_cons,List.not_mem_nil,or_false]at hx
  rcases hx with rfl|rfl|rfl|rfl|rfl|rfl|rfl
  ·exact⟨hs _ (by simp),_,h.c,tG.trans hk⟩
  ·exact⟨hs _ (by simp),_,h.d,Bc.trans hk⟩
  ·exact⟨hs _ (by simp),_,h.p,hk⟩
  ·exact⟨hs _ (by simp),_,h.r,hk⟩
  ·exact⟨hs _ (by simp),_,h.l,hk⟩
  ·exact⟨hs _ (by simp),_,h.m,hk⟩
  ·exact⟨hs _ (by simp),_,h.i,hk⟩
 have nd:∀(l:List (Nat×Option Nat)),(l.map (·.1)).Nodup→(∀x∈l,∀k,x.2=some k→x.1∈gJ∧∃r,row x.1=some r∧Sx.av β x.1 r=some k)→((l.map (·.2)).filterMap id).Nodup:=by
  intro l
  induction l with
  |nil=>intro _ _;simp
  |cons x l ih=>
   intro hn hr
   rw[List.map_cons,List.nodup_cons]at hn
   have ih:=ih hn.2 fun y hy=>hr y (List.mem_cons_of_mem _ hy)
   cases hx:x.2 with
   |none=>simpa[hx]using ih
   |some k=>
    have e:((x::l).map (·.2)).filterMap id=k::(l.map (·.2)).filterMap id:=by simp[hx]
    rw[e,List.nodup_cons]
    refine⟨fun hk=>?_,ih⟩
    obtain⟨o,ho,hok⟩:=List.mem_filterMap.1 hk
    obtain⟨y,hy,rfl⟩:=List.mem_map.1 ho
    obtain⟨s1,r1,h1,h2⟩:=hr x (by simp) k hx
    obtain⟨s2,r2,h3,h4⟩:=hr y (List.mem_cons_of_mem _ hy) k hok
    have:=hS.inj _ s1 _ s2 _ _ _ h1 h3 h2 h4
    exact hn.1 (List.mem_map.2 ⟨y,hy,this.symm⟩)
 refine⟨⟨hb,p.2,r.2,l.2,m.2,i.2⟩,dd.1,nd (O6 β kc kd k0 k1 k2 k3 k4) hn rows,fun k hk=>?_⟩
 obtain⟨o,ho,hok⟩:=List.mem_filterMap.1 hk
 have hm:o∈(O6 β kc kd k0 k1 k2 k3 k4).map (·.2):=ho
 obtain⟨x,hx,rfl⟩:=List.mem_map.1 hm
 obtain⟨hsee,r,hr,hbk⟩:=rows x hx k hok
 exact hS.new x.1 hsee r k hr hbk
def aI(β:Sx.Env)(m:Nat)(cf:CF)(s:fU):Sx.Env:=
 ⟨β.b,fun i=>if i=m then s.p.A else if i=m+1 then s.r.A else if i=m+2 then s.l.A else if i=m+3 then s.m.A else if i=m+4 then s.i.A else β.a i,
  fun i=>if i=m then cf.ai.length else if i=m+1 then cf.ae.length else if i=m+2 then cf.rules.length else if i=m+3 then cf.af.length else if i=m+4 then cf.aa.length else β.n i,
  fun i=>if i=m then s.p.c else if i=m+1 then s.r.c else if i=m+2 then s.l.c else if i=m+3 then s.m.c else if i=m+4 then s.i.c else β.c i⟩
def O7(tc td:Option Nat)(kx:List Nat)(kc kd k0 k1 k2 k3 k4 m:Nat)(cf:CF)(d:Nat)(v:Value)(Gf:Option Prop):Sx.cB:=
 ⟨kx++[kc,kd,k0,k1,k2,k3,k4],[(kc,eM tc (jM m (m+1) (m+2) (m+3) (m+4) cf)),(kd,jh td d)],kx++[k0,k1,k2,k3,k4],dj cf,.val v,Gf⟩
theorem KU{β:Sx.Env}{W w':World}{row:Nat→Option Sx.Row}{tc td:Option Nat}{kx:List Nat}{kc kd k0 k1 k2 k3 k4 m:Nat}{cf cf':CF}{d d':Nat}{s':fU}{v:Value}{e:Ending}{Gf:Option Prop}{X:List Nat}
  (h:tX row tc td kc kd k0 k1 k2 k3 k4 cf d) (htc:∀g,tc=some g→β kc=g) (htd:∀g,td=some g→β kd=g)
  (he:e=.returned v) (hcf:re w' (β kc) cf' s') (hbd:aq w' (β kd) 3 [.int .i64 (d':Int)]) (hnd:(dD (β kc) (β kd) s').Nodup)
  (hX:∀k∈X,∃i∈kx,Sx.cA β row i=some k)
  (hfrom:∀k∈dD (β kc) (β kd) s',k∈X++dD (β kc) (β kd) (qt β k0 k1 k2 k3 k4)∨W.heap.size≤k) (hc:ag (X++dD (β kc) (β kd) (qt β k0 k1 k2 k3 k4)) W w') :
  Sx.ES β W row m (O7 tc td kx kc kd k0 k1 k2 k3 k4 m cf' d' v Gf) e w' (aI β m cf' s'):=by
 have bk:∀{i:Nat} {r:Sx.Row} {k:Nat},row i=some r→Sx.av β i r=some k→Sx.cA β row i=some k:=fun {i r k} hi hk=>by unfold Sx.cA;rw[hi];exact hk
 have dK:∀k∈X++dD (β kc) (β kd) (qt β k0 k1 k2 k3 k4),k∈Sx.cB.dK β row (O7 tc td kx kc kd k0 k1 k2 k3 k4 m cf' d' v Gf):=fun k hk=>by
  show k∈([kc,kd]++(kx++[k0,k1,k2,k3,k4])).filterMap (Sx.cA β row)
  rcases List.mem_append.1 hk with hk|hk
  ·obtain⟨i,hi,hb⟩:=hX k hk
   exact List.mem_filterMap.2 ⟨i,by simp[hi],hb⟩
  ·rcases dQ.1 hk with rfl|rfl|hk|hk|hk|hk|hk
   ·exact List.mem_filterMap.2 ⟨kc,by simp,bk h.c tG⟩
   ·exact List.mem_filterMap.2 ⟨kd,by simp,bk h.d Bc⟩
   ·exact List.mem_filterMap.2 ⟨k0,by simp,bk h.p hk⟩
   ·exact List.mem_filterMap.2 ⟨k1,by simp,bk h.r hk⟩
   ·exact List.mem_filterMap.2 ⟨k2,by simp,bk h.l hk⟩
   ·exact List.mem_filterMap.2 ⟨k3,by simp,bk h.m hk⟩
   ·exact List.mem_filterMap.2 ⟨k4,by simp,bk h.i hk⟩
 have ea:∀j,j < 5→(aI β m cf' s').a (m+j)=[s'.p.A,s'.r.A,s'.l.A,s'.m.A,s'.i.A].getD j none:=fun j hj=>by
  match j,hj with
  | 0,_=>simp[aI]
  | 1,_=>simp[aI]
  | 2,_=>simp[aI]
  | 3,_=>simp[aI]
  | 4,_=>simp[aI]
 have cells:(jM m (m+1) (m+2) (m+3) (m+4) cf').map (Sx.SV.den (aI β m cf' s'))=[.slice s'.p.A cf'.ai.length s'.p.c,.slice s'.r.A cf'.ae.length s'.r.c,.slice s'.l.A cf'.rules.length s'.l.c,.slice s'.m.A cf'.af.length s'.m.c,.slice s'.i.A cf'.aa.length s'.i.c,.int .i64 cf'.br]:=by
  simp[jM,Sx.SV.den,Sx.Env.sl,aI]
 have own5:∀(j:Nat) (r:Sx.Row) (x:Nat),(dj cf')[j]?=some r→Sx.av (aI β m cf' s') (m+j) r=some x→j < 5∧([s'.p.A,s'.r.A,s'.l.A,s'.m.A,s'.i.A].getD j none).map (·.block)=some x:=fun j r x hr hx=>by
  have hj:j < 5:=(List.getElem?_eq_some_iff.1 hr).1
  refine⟨hj,?_⟩
  rw[←ea j hj]
  match j,hj,hr with
  | 0,_,hr=>cases hr;exact hx
  | 1,_,hr=>cases hr;exact hx
  | 2,_,hr=>cases hr;exact hx
  | 3,_,hr=>cases hr;exact hx
  | 4,_,hr=>cases hr;exact hx
 have mem5:∀(j x:Nat),j < 5→([s'.p.A,s'.r.A,s'.l.A,s'.m.A,s'.i.A].getD j none).map (·.block)=some x→x∈dD (β kc) (β kd) s':=fun j x hj hx=>by
  refine dQ.2 ?_
  match j,hj,hx with
  | 0,_,hx=>exact .inr (.inr (.inl hx))
  | 1,_,hx=>exact .inr (.inr (.inr (.inl hx)))
  | 2,_,hx=>exact .inr (.inr (.inr (.inr (.inl hx))))
  | 3,_,hx=>exact .inr (.inr (.inr (.inr (.inr (.inl hx)))))
  | 4,_,hx=>exact .inr (.inr (.inr (.inr (.inr (.inr hx)))))
 have ne2:∀x,(∃j,j < 5∧([s'.p.A,s'.r.A,s'.l.A,s'.m.A,s'.i.A].getD j none).map (·.block)=some x)→x≠β kc∧x≠β kd:=fun x ⟨j,hj,hx⟩=>by
  have h1:dD (β kc) (β kd) s'=β kc::β kd::([s'.p.A,s'.r.A,s'.l.A,s'.m.A,s'.i.A].map (Option.map (·.block))).filterMap id:=rfl
  rw[h1,List.nodup_cons,List.nodup_cons]at hnd
  have hin:x∈([s'.p.A,s'.r.A,s'.l.A,s'.m.A,s'.i.A].map (Option.map (·.block))).filterMap id:=by
   refine List.mem_filterMap.2 ⟨some x,?_,rfl⟩
   rw[←hx]
   refine List.mem_map.2 ⟨_,?_,rfl⟩
   match j,hj with
   | 0,_=>simp
   | 1,_=>simp
   | 2,_=>simp
   | 3,_=>simp
   | 4,_=>simp
  exact⟨fun he=>hnd.1 (by rw[←he];exact List.mem_cons_of_mem _ hin),fun he=>hnd.2.1 (by rw[←he];exact hin)⟩
 refine⟨fun i hi=>⟨rfl,?_,?_,?_⟩,he,fun q hq=>?_,fun k r hr=>?_,fun k r x hr hx=>?_,fun k k' r r' x hr hr' hx hx'=>?_,hc.mono fun k hk=>.inl (dK k hk)⟩
 ·simp[aI,show i≠m by omega,show i≠m+1 by omega,show i≠m+2 by omega,show i≠m+3 by omega,show i≠m+4 by omega]
 ·simp[aI,show i≠m by omega,show i≠m+1 by omega,show i≠m+2 by omega,show i≠m+3 by omega,show i≠m+4 by omega]
 ·simp[aI,show i≠m by omega,show i≠m+1 by omega,show i≠m+2 by omega,show i≠m+3 by omega,show i≠m+4 by omega]
 ·have hq:q=(kc,eM tc (jM m (m+1) (m+2) (m+3) (m+4) cf'))∨q=(kd,jh td d'):=by
   have:q∈[(kc,eM tc (jM m (m+1) (m+2) (m+3) (m+4) cf')),(kd,jh td d')]:=hq
   simpa using this
  rcases hq with rfl|rfl
  ·refine Ee ?_ htc
   show aq w' (β kc) 46 _
   rw[cells]
   exact hcf.bZ
  ·exact Kt hbd htd
 ·have hj:k < 5:=(List.getElem?_eq_some_iff.1 (show(dj cf')[k]?=some r from hr)).1
  match k,hj,hr with
  | 0,_,hr=>
   cases hr
   refine⟨by simp[aI],?_⟩
   have:=hcf.p
   simpa[aI]using this
  | 1,_,hr=>
   cases hr
   refine⟨by simp[aI],?_⟩
   have:=hcf.r
   simpa[aI]using this
  | 2,_,hr=>
   cases hr
   refine⟨by simp[aI],?_⟩
   have:=hcf.l
   simpa[aI]using this
  | 3,_,hr=>
   cases hr
   refine⟨by simp[aI],?_⟩
   have:=hcf.m
   simpa[aI]using this
  | 4,_,hr=>
   cases hr
   refine⟨by simp[aI],?_⟩
   have:=hcf.i
   simpa[aI]using this
 ·obtain⟨hj,hb⟩:=own5 k r x hr hx
  have hne:=ne2 x ⟨k,hj,hb⟩
  rcases hfrom x (mem5 k x hj hb)with hx|hx
  ·refine .inl ?_
   show x∈(kx++[k0,k1,k2,k3,k4]).filterMap (Sx.cA β row)
   rcases List.mem_append.1 hx with hx|hx
   ·obtain⟨i,hi,hbk⟩:=hX x hx
    exact List.mem_filterMap.2 ⟨i,by simp[hi],hbk⟩
   ·rcases dQ.1 hx with hx|hx|hk|hk|hk|hk|hk
    ·exact absurd hx hne.1
    ·exact absurd hx hne.2
    ·exact List.mem_filterMap.2 ⟨k0,by simp,bk h.p hk⟩
    ·exact List.mem_filterMap.2 ⟨k1,by simp,bk h.r hk⟩
    ·exact List.mem_filterMap.2 ⟨k2,by simp,bk h.l hk⟩
    ·exact List.mem_filterMap.2 ⟨k3,by simp,bk h.m hk⟩
    ·exact List.mem_filterMap.2 ⟨k4,by simp,bk h.i hk⟩
  ·exact .inr hx
 ·obtain⟨hj,hb⟩:=own5 k r x hr hx
  obtain⟨hj',hb'⟩:=own5 k' r' x hr' hx'
  have h1:dD (β kc) (β kd) s'=β kc::β kd::([s'.p.A,s'.r.A,s'.l.A,s'.m.A,s'.i.A].map (Option.map (·.block))).filterMap id:=rfl
  rw[h1,List.nodup_cons,List.nodup_cons]at hnd
  have key:∀(l:List (Option Go.Addr)) (j j':Nat),((l.map (Option.map (·.block))).filterMap id).Nodup→j < l.length→j' < l.length→(l.getD j none).map (·.block)=some x→(l.getD j' none).map (·.block)=some x→j=j':=by
   intro l
   induction l with
   |nil=>intro j j' _ hj;simp at hj
   |cons o l ih=>
    intro j j' hn hj hj' hb hb'
    have no:o.map (·.block)=some x→∀i,i < l.length→(l.getD i none).map (·.block)=some x→False:=fun ho i hi hbi=>by
     have e:((o::l).map (Option.map (·.block))).filterMap id=x::(l.map (Option.map (·.block))).filterMap id:=by rw[List.map_cons,ho];rfl
     rw[e,List.nodup_cons]at hn
     refine hn.1 (List.mem_filterMap.2 ⟨some x,List.mem_map.2 ⟨l.getD i none,?_,hbi⟩,rfl⟩)
     rw[List.getD_eq_getElem?_getD,List.getElem?_eq_getElem hi]
     exact List.getElem_mem hi
    have hn':((l.map (Option.map (·.block))).filterMap id).Nodup:=by
     rw[List.map_cons]at hn
     cases ho:o.map (·.block)with
     |none=>rw[ho]at hn;exact hn
     |some y=>rw[ho]at hn;exact(List.nodup_cons.1 hn).2
    cases j with
    |zero=>
     cases j' with
     |zero=>rfl
     |succ j'=>exact(no hb j' (by simpa using hj') hb').elim
    |succ j=>
     cases j' with
     |zero=>exact(no hb' j (by simpa using hj) hb).elim
     |succ j'=>rw[ih j j' hn' (by simpa using hj) (by simpa using hj') hb hb']
  exact key _ k k' hnd.2.2 hj hj' hb hb'
end Go.Proofs.YtnncigmpcdehnaaGreatDoor
