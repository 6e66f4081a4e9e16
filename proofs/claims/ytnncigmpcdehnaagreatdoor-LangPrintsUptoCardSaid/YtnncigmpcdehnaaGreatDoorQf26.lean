import Derived.Test.YtnncigmpcdehnaaGreatDoorQf25
import Derived.Defers
import Derived.Recover
namespace Go.Proofs.YtnncigmpcdehnaaGreatDoor
set_option maxRecDepth 100000
open Go.RowKit Go.Lib Go.Sort _root_.Go.Proofs.Tryz
set_option maxRecDepth 100000
theorem lI(cm:Bool):∀(l cur:Bs),(cd cm cur l).length≤l.length+(if cur=[] then 0 else 1)∧∀x∈cd cm cur l,x.length≤cur.length+l.length
 | [],cur=>by
  unfold cd
  by_cases h:cur=[]
  ·simp[h]
  ·simp[h]
 |c::l,cur=>by
  unfold cd
  have h0:=lI cm l []
  have h1:=lI cm l (cur++[c])
  rw[if_neg (by simp:¬cur++[c]=[])]at h1
  rw[if_pos rfl]at h0
  simp only[List.length_append,List.length_singleton,List.length_nil]at h0 h1
  split
  ·by_cases h:cur=[]
   ·simp[h]
   ·rw[if_neg h]
    refine⟨by simp[h],fun x hx=>?_⟩
    rw[List.mem_singleton.1 hx];simp
  ·split
   ·by_cases h:cur=[]
    ·rw[if_pos h]
     refine⟨by simp[h];omega,fun x hx=>?_⟩
     have:=h0.2 x hx
     simp[h];omega
    ·rw[if_neg h]
     refine⟨by simp[h];omega,fun x hx=>?_⟩
     rcases List.mem_cons.1 hx with rfl|hx
     ·omega
     ·have:=h0.2 x hx;simp;omega
   ·refine⟨by have:=h1.1;simp;split<;>omega,fun x hx=>?_⟩
    have:=h1.2 x hx
    simp;omega
theorem zB(cm:Bool)(s:Bs):(aK cm s).length≤s.length∧∀x∈aK cm s,x.length≤s.length:=by
 have:=lI cm s []
 simpa[aK]using this
theorem GQ(N:Nat)(w:World):Calls prog 92 #[.iface 103 (.pointer (some ⟨N,0,none⟩))] w fun e w'=>e=.returned (.iface 103 (.pointer (some ⟨N,0,none⟩)))∧w'=w:=by
 have hta:∀w,(Instr.typeAssert (.iface 103 (.pointer (some ⟨N,0,none⟩))) 20 103 true).run prog w=.ok (.tuple #[.pointer (some ⟨N,0,none⟩),.bool true]) w:=fun w=>by kernel_rfl
 go_enter func92,ntmps92
 go_wp2
 go_ret
 exact⟨rfl,rfl⟩
theorem G9(p:Go.Addr)(N:Nat)(older:List PanicEntry)(w:World)(hc:w.cell? p=some .nilIface)(hz:w.frozen? p=false) :
  CallsD prog 130 #[.pointer (some p)] (.panicking ({ v:=.iface 103 (.pointer (some ⟨N,0,none⟩)),recovered:=false }::older)) w fun e u' w'=>
   e=.returned (.tuple #[])∧u'=.panicking ({ v:=.iface 103 (.pointer (some ⟨N,0,none⟩)),recovered:=true }::older)∧w'=w.setCell p (.iface 103 (.pointer (some ⟨N,0,none⟩))):=by
 refine callsD_of_wpS func130 rfl fun c₀ cs hu=>?_
 apply wpS_seq
 apply wpS_region
 simp[wpOpsS,go_sem,recoverD,hu,ntmps130,Exit.thenS]
 apply wpS_seq
 apply wpS_region
 simp[wpOpsS,go_sem,Exit.thenS]
 refine wpS_cond (t:=true) (by simp[Act.eval,Array.replicate]) ?_
 simp only[if_true]
 refine wpS_of_wp ?_
 go_wp2_with (go_at_call 92;refine(GQ N _).mono ?_;rintro e w2 ⟨rfl,rfl⟩)
 cases c₀
 simp_all[bodyPostS,results,results130]
theorem BK(p:Go.Addr)(w:World) :
  CallsD prog 130 #[.pointer (some p)] .returning w fun e u' w'=>e=.returned (.tuple #[])∧u'=.returning∧w'=w:=by
 refine callsD_of_wpS func130 rfl fun c₀ cs hu=>?_
 apply wpS_seq
 apply wpS_region
 simp[wpOpsS,go_sem,recoverD,hu,ntmps130,Exit.thenS]
 apply wpS_seq
 apply wpS_region
 simp[wpOpsS,go_sem,Exit.thenS]
 refine wpS_cond (t:=false) (by simp[Act.eval,Array.replicate]) ?_
 simp only[Bool.false_eq_true,if_false]
 refine wpS_of_wp (wp_skip ?_)
 cases c₀
 simp_all[bodyPostS,results,results130]
open Go.RowKit Go.Lib Go.Sort
def cX(gc gd:Nat)(s:ey):List Nat:=[some gc,some gd,s.p.A.map (·.block),s.r.A.map (·.block),s.l.A.map (·.block),s.m.A.map (·.block),s.i.A.map (·.block)].filterMap id
theorem ja(g gc gd:Nat)(s:ey):A8 g gc gd s=g::cX gc gd s:=rfl
structure SF(w:World)(gc gd:Nat)(cf:CF)(d:Nat)(s:ey):Prop where
 at_:qS w gc cf s
 bd:au w gd 3 [.int .i64 (d:Int)]
 nd:(cX gc gd s).Nodup
 xG:cf.ag.length≤1000000∧cf.ae.length≤1000000∧cf.rules.length≤1000000∧cf.af.length≤1000000∧cf.aa.length≤1000000
 SP:d≤1000000
 u5:eb w
 s9:∀k∈cX gc gd s,9≤k
theorem eA{gc gd:Nat}{s:ey}{k:Nat}:k∈cX gc gd s↔k=gc∨k=gd∨s.p.A.map (·.block)=some k∨s.r.A.map (·.block)=some k∨s.l.A.map (·.block)=some k∨s.m.A.map (·.block)=some k∨s.i.A.map (·.block)=some k:=by
 unfold cX
 simp only[List.mem_filterMap,List.mem_cons,List.not_mem_nil,or_false,id_eq]
 constructor
 ·rintro⟨o,ho,hk⟩
  subst hk
  rcases ho with h|h|h|h|h|h|h
  ·injection h with h;exact .inl h
  ·injection h with h;exact .inr (.inl h)
  ·exact .inr (.inr (.inl h.symm))
  ·exact .inr (.inr (.inr (.inl h.symm)))
  ·exact .inr (.inr (.inr (.inr (.inl h.symm))))
  ·exact .inr (.inr (.inr (.inr (.inr (.inl h.symm)))))
  ·exact .inr (.inr (.inr (.inr (.inr (.inr h.symm)))))
 ·rintro(rfl|rfl|h|h|h|h|h)
  ·exact⟨_,.inl rfl,rfl⟩
  ·exact⟨_,.inr (.inl rfl),rfl⟩
  ·exact⟨_,.inr (.inr (.inl rfl)),h⟩
  ·exact⟨_,.inr (.inr (.inr (.inl rfl))),h⟩
  ·exact⟨_,.inr (.inr (.inr (.inr (.inl rfl)))),h⟩
  ·exact⟨_,.inr (.inr (.inr (.inr (.inr (.inl rfl))))),h⟩
  ·exact⟨_,.inr (.inr (.inr (.inr (.inr (.inr rfl))))),h⟩
theorem fW(A:Option Go.Addr)(n c:Nat):(Value.slice A n c).ownBlock=A.map (·.block):=by cases A<;>rfl
theorem qS.lt{w:World}{gc gd:Nat}{cf:CF}{d:Nat}{s:ey}(h:qS w gc cf s)(hb:au w gd 3 [.int .i64 (d:Int)]):∀k∈cX gc gd s,k < w.heap.size:=fun k hk=>by
 rcases eA.1 hk with rfl|rfl|hk|hk|hk|hk|hk
 ·exact h.b9.lt
 ·exact hb.lt
 ·exact h.p.lt k ((fW _ _ _).trans hk)
 ·exact h.r.lt k ((fW _ _ _).trans hk)
 ·exact h.l.lt k ((fW _ _ _).trans hk)
 ·exact h.m.lt k ((fW _ _ _).trans hk)
 ·exact h.i.lt k ((fW _ _ _).trans hk)
theorem qS.aG{w w':World}{gc gd:Nat}{cf:CF}{s:ey}(h:qS w gc cf s){S:List Nat}(hc:ai S w w')(hS:∀k∈cX gc gd s,k∉S):qS w' gc cf s:=
 ⟨h.b9.aG hc (hS _ (eA.2 (.inl rfl))),h.p.aG hc fun k hk=>hS k (eA.2 (.inr (.inr (.inl ((fW _ _ _).symm.trans hk))))),h.r.aG hc fun k hk=>hS k (eA.2 (.inr (.inr (.inr (.inl ((fW _ _ _).symm.trans hk)))))),
  h.l.aG hc fun k hk=>hS k (eA.2 (.inr (.inr (.inr (.inr (.inl ((fW _ _ _).symm.trans hk))))))),h.m.aG hc fun k hk=>hS k (eA.2 (.inr (.inr (.inr (.inr (.inr (.inl ((fW _ _ _).symm.trans hk)))))))),h.i.aG hc fun k hk=>hS k (eA.2 (.inr (.inr (.inr (.inr (.inr (.inr ((fW _ _ _).symm.trans hk)))))))) ⟩
def zt(l:Bs)(gc gd:Nat)(cf:CF)(d:Nat)(s:ey)(w:World)(e:Ending)(w':World):Prop:=
 (∃cf' i s',ft (aK true l) cf d=.ok cf' i∧e=.returned .nilIface∧qS w' gc cf' s'∧au w' gd 3 [.int .i64 (dN (aK true l) d:Nat)]∧(cX gc gd s').Nodup∧(∀k∈cX gc gd s',k∈cX gc gd s∨w.heap.size≤k)∧ai (cX gc gd s) w w')∨
 (∃code p N:Nat,ft (aK true l) cf d=.no code p∧e=.returned (.iface 103 ((pt N 0)))∧w.heap.size≤N∧au w' N 105 [.int .i64 (code:Int),.int .i64 (p:Int)]∧ai (cX gc gd s) w w')
theorem LP{w w':World}{A:Option Go.Addr}{n c:Nat}{ws:List Bs}{S:List Nat}(h:Own w 9 1 (.slice A n c) n (ws.map ab))(hl:ws.length=n)(hc:ai [] w w')(hS:∀k,A.map (·.block)=some k→k∉S):Cd w' S A n ws:=by
 refine⟨hl,fun h0=>?_⟩
 rcases h.2 with⟨hv,h1⟩ | ⟨g,o,c',L,hv,hg,hn,hcm,hL,hx⟩
 ·omega
 ·injection hv with h1 h2 h3
  subst h1
  refine⟨g,o,rfl,hS g rfl,Nat.lt_of_lt_of_le hg.lt hc.size,fun j x hj=>?_⟩
  have hg':=hg.aG hc (by simp)
  have hjn:j < n:=by rw[←hl];exact(List.getElem?_eq_some_iff.1 hj).1
  refine hg'.cell_of ?_
  have e1:((L.drop o).take (n*1))[j]?=some (ab x):=by rw[hx,List.getElem?_map,hj];rfl
  rw[List.getElem?_take,if_pos (by omega),List.getElem?_drop]at e1
  exact e1
def fu(tg:Option Nat)(cs:List Sx.SV):Sx.Row:=match tg with
 |some g=>⟨46,.jR g cs⟩
 |none=>⟨46,.dK cs⟩
def ly(tg:Option Nat)(d:Nat):Sx.Row:=match tg with
 |some g=>⟨3,.dF g [.int .i64 (d:Int)]⟩
 |none=>⟨3,.ak [.int .i64 (d:Int)]⟩
def kB(k0 k1 k2 k3 k4:Nat)(cf:CF):List Sx.SV:=[.own k0,.own k1,.own k2,.own k3,.own k4,.val (.int .i64 cf.aS)]
structure zw(row:Nat→Option Sx.Row)(tc:Option Nat)(rd:Sx.Row)(kc kd k0 k1 k2 k3 k4:Nat)(cf:CF):Prop where
 c:row kc=some (fu tc (kB k0 k1 k2 k3 k4 cf))
 d:row kd=some rd
 p:row k0=some ⟨3,.own 1 cf.ag.length cf.cp⟩
 r:row k1=some ⟨118,.own 19 cf.ae.length cf.cr⟩
 l:row k2=some ⟨81,.own 49 cf.rules.length cf.cl⟩
 m:row k3=some ⟨122,.own 4 cf.af.length cf.cm⟩
 i:row k4=some ⟨124,.own 3 cf.aa.length cf.ci⟩
abbrev we(row:Nat→Option Sx.Row)(tc td:Option Nat)(kc kd k0 k1 k2 k3 k4:Nat)(cf:CF)(d:Nat):Prop:=zw row tc (ly td d) kc kd k0 k1 k2 k3 k4 cf
def kY(β:Sx.Env)(k0 k1 k2 k3 k4:Nat):ey:=⟨⟨β.a k0,β.c k0⟩,⟨β.a k1,β.c k1⟩,⟨β.a k2,β.c k2⟩,⟨β.a k3,β.c k3⟩,⟨β.a k4,β.c k4⟩⟩
theorem G2{β:Sx.Env}{W:World}{tc:Option Nat}{kc:Nat}{cs:List Sx.SV}(h:Sx.aX β W kc (fu tc cs)):au W (β kc) 46 (cs.map (Sx.SV.den β))∧∀g,tc=some g→β kc=g:=by
 cases tc with
 |some g=>exact⟨h.2,fun g' hg=>by cases hg;exact h.1⟩
 |none=>exact⟨h,fun g hg=>by cases hg⟩
theorem GL{β:Sx.Env}{W:World}{tc:Option Nat}{kc:Nat}{cs:List Sx.SV}(h:au W (β kc) 46 (cs.map (Sx.SV.den β)))(ht:∀g,tc=some g→β kc=g):Sx.aX β W kc (fu tc cs):=by
 cases tc with
 |some g=>exact⟨ht g rfl,h⟩
 |none=>exact h
theorem NN{β:Sx.Env}{W:World}{td:Option Nat}{kd d:Nat}(h:Sx.aX β W kd (ly td d)):au W (β kd) 3 [.int .i64 (d:Int)]∧∀g,td=some g→β kd=g:=by
 cases td with
 |some g=>exact⟨h.2,fun g' hg=>by cases hg;exact h.1⟩
 |none=>exact⟨h,fun g hg=>by cases hg⟩
theorem NI{β:Sx.Env}{W:World}{td:Option Nat}{kd d:Nat}(h:au W (β kd) 3 [.int .i64 (d:Int)])(ht:∀g,td=some g→β kd=g):Sx.aX β W kd (ly td d):=by
 cases td with
 |some g=>exact⟨ht g rfl,h⟩
 |none=>exact h
theorem vN{β:Sx.Env}{tc:Option Nat}{kc:Nat}{cs:List Sx.SV}:Sx.av β kc (fu tc cs)=some (β kc):=by cases tc<;>rfl
theorem Ds{β:Sx.Env}{td:Option Nat}{kd d:Nat}:Sx.av β kd (ly td d)=some (β kd):=by cases td<;>rfl
def SS(β:Sx.Env)(kc kd k0 k1 k2 k3 k4:Nat):List (Nat×Option Nat):=[(kc,some (β kc)),(kd,some (β kd)),(k0,(β.a k0).map (·.block)),(k1,(β.a k1).map (·.block)),(k2,(β.a k2).map (·.block)),(k3,(β.a k3).map (·.block)),(k4,(β.a k4).map (·.block))]
theorem Ob{b:Sx.aU}{β:Sx.Env}{W:World}{row:Nat→Option Sx.Row}{see:List Nat}{tc:Option Nat}{rd:Sx.Row}{kc kd k0 k1 k2 k3 k4:Nat}{cf:CF}(hS:Sx.eF b β W row see)(h:zw row tc rd kc kd k0 k1 k2 k3 k4 cf)(hrd:Sx.av β kd rd=some (β kd))(hs:∀k∈[kc,kd,k0,k1,k2,k3,k4],k∈see)(hn:[kc,kd,k0,k1,k2,k3,k4].Nodup) :
  qS W (β kc) cf (kY β k0 k1 k2 k3 k4)∧(cX (β kc) (β kd) (kY β k0 k1 k2 k3 k4)).Nodup∧(∀k∈cX (β kc) (β kd) (kY β k0 k1 k2 k3 k4),k∈b.S∨b.w.heap.size≤k):=by
 have c:=G2 (hS.held kc (hs _ (by simp)) _ h.c)
 have p:β.n k0=cf.ag.length∧Own W 3 1 (.slice (β.a k0) cf.ag.length (β.c k0)) cf.ag.length cf.cp:=hS.held k0 (hs _ (by simp)) _ h.p
 have r:β.n k1=cf.ae.length∧Own W 118 19 (.slice (β.a k1) cf.ae.length (β.c k1)) cf.ae.length cf.cr:=hS.held k1 (hs _ (by simp)) _ h.r
 have l:β.n k2=cf.rules.length∧Own W 81 49 (.slice (β.a k2) cf.rules.length (β.c k2)) cf.rules.length cf.cl:=hS.held k2 (hs _ (by simp)) _ h.l
 have m:β.n k3=cf.af.length∧Own W 122 4 (.slice (β.a k3) cf.af.length (β.c k3)) cf.af.length cf.cm:=hS.held k3 (hs _ (by simp)) _ h.m
 have i:β.n k4=cf.aa.length∧Own W 124 3 (.slice (β.a k4) cf.aa.length (β.c k4)) cf.aa.length cf.ci:=hS.held k4 (hs _ (by simp)) _ h.i
 have hb:au W (β kc) 46 [.slice (β.a k0) cf.ag.length (β.c k0),.slice (β.a k1) cf.ae.length (β.c k1),.slice (β.a k2) cf.rules.length (β.c k2),.slice (β.a k3) cf.af.length (β.c k3),.slice (β.a k4) cf.aa.length (β.c k4),.int .i64 cf.aS]:=by
  have:=c.1
  have hh:(kB k0 k1 k2 k3 k4 cf).map (Sx.SV.den β)=[β.sl k0,β.sl k1,β.sl k2,β.sl k3,β.sl k4,.int .i64 cf.aS]:=rfl
  rw[hh]at this
  unfold Sx.Env.sl at this
  rw[p.1,r.1,l.1,m.1,i.1]at this
  exact this
 have rows:∀x∈SS β kc kd k0 k1 k2 k3 k4,∀k,x.2=some k→x.1∈see∧∃r,row x.1=some r∧Sx.av β x.1 r=some k:=by
  intro x hx k hk
  simp only[SS,List.mem_cons,List.not_mem_nil,or_false]at hx
  rcases hx with rfl|rfl|rfl|rfl|rfl|rfl|rfl
  ·exact⟨hs _ (by simp),_,h.c,vN.trans hk⟩
  ·exact⟨hs _ (by simp),_,h.d,hrd.trans hk⟩
  ·exact⟨hs _ (by simp),_,h.p,hk⟩
  ·exact⟨hs _ (by simp),_,h.r,hk⟩
  ·exact⟨hs _ (by simp),_,h.l,hk⟩
  ·exact⟨hs _ (by simp),_,h.m,hk⟩
  ·exact⟨hs _ (by simp),_,h.i,hk⟩
 have nd:∀(l:List (Nat×Option Nat)),(l.map (·.1)).Nodup→(∀x∈l,∀k,x.2=some k→x.1∈see∧∃r,row x.1=some r∧Sx.av β x.1 r=some k)→((l.map (·.2)).filterMap id).Nodup:=by
  intro l
  induction l with
  |nil=>intro _ _;simp
  |cons x l ih=>
   intro hn hr
   rw[List.map_cons,List.nodup_cons]at hn
   have ih:=ih hn.2 fun y hy=>hr y (List.mem_cons_of_mem _ hy)
   cases hx:x.2 with
   |none=>simpa[hx]using ih
   |some k=>
    have e:((x::l).map (·.2)).filterMap id=k::(l.map (·.2)).filterMap id:=by simp[hx]
    rw[e,List.nodup_cons]
    refine⟨fun hk=>?_,ih⟩
    obtain⟨o,ho,hok⟩:=List.mem_filterMap.1 hk
    obtain⟨y,hy,rfl⟩:=List.mem_map.1 ho
    obtain⟨s1,r1,h1,h2⟩:=hr x (by simp) k hx
    obtain⟨s2,r2,h3,h4⟩:=hr y (List.mem_cons_of_mem _ hy) k hok
    have:=hS.inj _ s1 _ s2 _ _ _ h1 h3 h2 h4
    exact hn.1 (List.mem_map.2 ⟨y,hy,this.symm⟩)
 refine⟨⟨hb,p.2,r.2,l.2,m.2,i.2⟩,nd (SS β kc kd k0 k1 k2 k3 k4) hn rows,fun k hk=>?_⟩
 obtain⟨o,ho,hok⟩:=List.mem_filterMap.1 hk
 have hm:o∈(SS β kc kd k0 k1 k2 k3 k4).map (·.2):=ho
 obtain⟨x,hx,rfl⟩:=List.mem_map.1 hm
 obtain⟨hsee,r,hr,hbk⟩:=rows x hx k hok
 exact hS.new x.1 hsee r k hr hbk
theorem KH{b:Sx.aU}{β:Sx.Env}{W:World}{row:Nat→Option Sx.Row}{see:List Nat}{tc td:Option Nat}{kc kd k0 k1 k2 k3 k4:Nat}{cf:CF}{d:Nat}(hS:Sx.eF b β W row see)(h:we row tc td kc kd k0 k1 k2 k3 k4 cf d)(hs:∀k∈[kc,kd,k0,k1,k2,k3,k4],k∈see)(hn:[kc,kd,k0,k1,k2,k3,k4].Nodup) :
  qS W (β kc) cf (kY β k0 k1 k2 k3 k4)∧au W (β kd) 3 [.int .i64 (d:Int)]∧(cX (β kc) (β kd) (kY β k0 k1 k2 k3 k4)).Nodup∧(∀k∈cX (β kc) (β kd) (kY β k0 k1 k2 k3 k4),k∈b.S∨b.w.heap.size≤k):=
 let ⟨a,c,e⟩:=Ob hS h Ds hs hn
 ⟨a,(NN (hS.held kd (hs _ (by simp)) _ h.d)).1,c,e⟩
def aJ(β:Sx.Env)(m:Nat)(cf:CF)(s:ey):Sx.Env:=
 ⟨β.b,fun i=>if i=m then s.p.A else if i=m+1 then s.r.A else if i=m+2 then s.l.A else if i=m+3 then s.m.A else if i=m+4 then s.i.A else β.a i,
  fun i=>if i=m then cf.ag.length else if i=m+1 then cf.ae.length else if i=m+2 then cf.rules.length else if i=m+3 then cf.af.length else if i=m+4 then cf.aa.length else β.n i,
  fun i=>if i=m then s.p.c else if i=m+1 then s.r.c else if i=m+2 then s.l.c else if i=m+3 then s.m.c else if i=m+4 then s.i.c else β.c i⟩
def Qw(tc:Option Nat)(rd:Sx.Row)(kx:List Nat)(kc kd k0 k1 k2 k3 k4 m:Nat)(cf:CF)(v:Value)(CO:Option Prop):Sx.cC:=
 ⟨kx++[kc,kd,k0,k1,k2,k3,k4],[(kc,fu tc (kB m (m+1) (m+2) (m+3) (m+4) cf)),(kd,rd)],kx++[k0,k1,k2,k3,k4],dI cf,.val v,CO⟩
theorem KI{β:Sx.Env}{W w':World}{row:Nat→Option Sx.Row}{tc:Option Nat}{rd rd':Sx.Row}{kx:List Nat}{kc kd k0 k1 k2 k3 k4 m:Nat}{cf cf':CF}{s':ey}{v:Value}{e:Ending}{CO:Option Prop}{X:List Nat}
  (h:zw row tc rd kc kd k0 k1 k2 k3 k4 cf) (hrd:Sx.av β kd rd=some (β kd)) (htc:∀g,tc=some g→β kc=g)
  (he:e=.returned v) (hcf:qS w' (β kc) cf' s') (hbd:Sx.aX (aJ β m cf' s') w' kd rd') (hnd:(cX (β kc) (β kd) s').Nodup)
  (hX:∀k∈X,∃i∈kx,Sx.cE β row i=some k)
  (hfrom:∀k∈cX (β kc) (β kd) s',k∈X++cX (β kc) (β kd) (kY β k0 k1 k2 k3 k4)∨W.heap.size≤k) (hc:ai (X++cX (β kc) (β kd) (kY β k0 k1 k2 k3 k4)) W w') :
  Sx.Cf β W row m (Qw tc rd' kx kc kd k0 k1 k2 k3 k4 m cf' v CO) e w' (aJ β m cf' s'):=by
 have bk:∀{i:Nat} {r:Sx.Row} {k:Nat},row i=some r→Sx.av β i r=some k→Sx.cE β row i=some k:=fun {i r k} hi hk=>by unfold Sx.cE;rw[hi];exact hk
 have ec:∀k∈X++cX (β kc) (β kd) (kY β k0 k1 k2 k3 k4),k∈Sx.cC.ec β row (Qw tc rd' kx kc kd k0 k1 k2 k3 k4 m cf' v CO):=fun k hk=>by
  show k∈([kc,kd]++(kx++[k0,k1,k2,k3,k4])).filterMap (Sx.cE β row)
  rcases List.mem_append.1 hk with hk|hk
  ·obtain⟨i,hi,hb⟩:=hX k hk
   exact List.mem_filterMap.2 ⟨i,by simp[hi],hb⟩
  ·rcases eA.1 hk with rfl|rfl|hk|hk|hk|hk|hk
   ·exact List.mem_filterMap.2 ⟨kc,by simp,bk h.c vN⟩
   ·exact List.mem_filterMap.2 ⟨kd,by simp,bk h.d hrd⟩
   ·exact List.mem_filterMap.2 ⟨k0,by simp,bk h.p hk⟩
   ·exact List.mem_filterMap.2 ⟨k1,by simp,bk h.r hk⟩
   ·exact List.mem_filterMap.2 ⟨k2,by simp,bk h.l hk⟩
   ·exact List.mem_filterMap.2 ⟨k3,by simp,bk h.m hk⟩
   ·exact List.mem_filterMap.2 ⟨k4,by simp,bk h.i hk⟩
 have ea:∀j,j < 5→(aJ β m cf' s').a (m+j)=[s'.p.A,s'.r.A,s'.l.A,s'.m.A,s'.i.A].getD j none:=fun j hj=>by
  match j,hj with
  | 0,_=>simp[aJ]
  | 1,_=>simp[aJ]
  | 2,_=>simp[aJ]
  | 3,_=>simp[aJ]
  | 4,_=>simp[aJ]
 have cells:(kB m (m+1) (m+2) (m+3) (m+4) cf').map (Sx.SV.den (aJ β m cf' s'))=[.slice s'.p.A cf'.ag.length s'.p.c,.slice s'.r.A cf'.ae.length s'.r.c,.slice s'.l.A cf'.rules.length s'.l.c,.slice s'.m.A cf'.af.length s'.m.c,.slice s'.i.A cf'.aa.length s'.i.c,.int .i64 cf'.aS]:=by
  simp[kB,Sx.SV.den,Sx.Env.sl,aJ]
 have own5:∀(j:Nat) (r:Sx.Row) (x:Nat),(dI cf')[j]?=some r→Sx.av (aJ β m cf' s') (m+j) r=some x→j < 5∧([s'.p.A,s'.r.A,s'.l.A,s'.m.A,s'.i.A].getD j none).map (·.block)=some x:=fun j r x hr hx=>by
  have hj:j < 5:=(List.getElem?_eq_some_iff.1 hr).1
  refine⟨hj,?_⟩
  rw[←ea j hj]
  match j,hj,hr with
  | 0,_,hr=>cases hr;exact hx
  | 1,_,hr=>cases hr;exact hx
  | 2,_,hr=>cases hr;exact hx
  | 3,_,hr=>cases hr;exact hx
  | 4,_,hr=>cases hr;exact hx
 have mem5:∀(j x:Nat),j < 5→([s'.p.A,s'.r.A,s'.l.A,s'.m.A,s'.i.A].getD j none).map (·.block)=some x→x∈cX (β kc) (β kd) s':=fun j x hj hx=>by
  refine eA.2 ?_
  match j,hj,hx with
  | 0,_,hx=>exact .inr (.inr (.inl hx))
  | 1,_,hx=>exact .inr (.inr (.inr (.inl hx)))
  | 2,_,hx=>exact .inr (.inr (.inr (.inr (.inl hx))))
  | 3,_,hx=>exact .inr (.inr (.inr (.inr (.inr (.inl hx)))))
  | 4,_,hx=>exact .inr (.inr (.inr (.inr (.inr (.inr hx)))))
 have ne2:∀x,(∃j,j < 5∧([s'.p.A,s'.r.A,s'.l.A,s'.m.A,s'.i.A].getD j none).map (·.block)=some x)→x≠β kc∧x≠β kd:=fun x ⟨j,hj,hx⟩=>by
  have h1:cX (β kc) (β kd) s'=β kc::β kd::([s'.p.A,s'.r.A,s'.l.A,s'.m.A,s'.i.A].map (Option.map (·.block))).filterMap id:=rfl
  rw[h1,List.nodup_cons,List.nodup_cons]at hnd
  have hin:x∈([s'.p.A,s'.r.A,s'.l.A,s'.m.A,s'.i.A].map (Option.map (·.block))).filterMap id:=by
   refine List.mem_filterMap.2 ⟨some x,?_,rfl⟩
   rw[←hx]
   refine List.mem_map.2 ⟨_,?_,rfl⟩
   match j,hj with
   | 0,_=>simp
   | 1,_=>simp
   | 2,_=>simp
   | 3,_=>simp
   | 4,_=>simp
  exact⟨fun he=>hnd.1 (by rw[←he];exact List.mem_cons_of_mem _ hin),fun he=>hnd.2.1 (by rw[←he];exact hin)⟩
 refine⟨fun i hi=>⟨rfl,?_,?_,?_⟩,he,fun q hq=>?_,fun k r hr=>?_,fun k r x hr hx=>?_,fun k k' r r' x hr hr' hx hx'=>?_,hc.mono fun k hk=>.inl (ec k hk)⟩
 ·simp[aJ,show i≠m by omega,show i≠m+1 by omega,show i≠m+2 by omega,show i≠m+3 by omega,show i≠m+4 by omega]
 ·simp[aJ,show i≠m by omega,show i≠m+1 by omega,show i≠m+2 by omega,show i≠m+3 by omega,show i≠m+4 by omega]
 ·simp[aJ,show i≠m by omega,show i≠m+1 by omega,show i≠m+2 by omega,show i≠m+3 by omega,show i≠m+4 by omega]
 ·have hq:q=(kc,fu tc (kB m (m+1) (m+2) (m+3) (m+4) cf'))∨q=(kd,rd'):=by
   have:q∈[(kc,fu tc (kB m (m+1) (m+2) (m+3) (m+4) cf')),(kd,rd')]:=hq
   simpa using this
  rcases hq with rfl|rfl
  ·refine GL ?_ htc
   show au w' (β kc) 46 _
   rw[cells]
   exact hcf.b9
  ·exact hbd
 ·have hj:k < 5:=(List.getElem?_eq_some_iff.1 (show(dI cf')[k]?=some r from hr)).1
  match k,hj,hr with
  | 0,_,hr=>
   cases hr
   refine⟨by simp[aJ],?_⟩
   have:=hcf.p
   simpa[aJ]using this
  | 1,_,hr=>
   cases hr
   refine⟨by simp[aJ],?_⟩
   have:=hcf.r
   simpa[aJ]using this
  | 2,_,hr=>
   cases hr
   refine⟨by simp[aJ],?_⟩
   have:=hcf.l
   simpa[aJ]using this
  | 3,_,hr=>
   cases hr
   refine⟨by simp[aJ],?_⟩
   have:=hcf.m
   simpa[aJ]using this
  | 4,_,hr=>
   cases hr
   refine⟨by simp[aJ],?_⟩
   have:=hcf.i
   simpa[aJ]using this
 ·obtain⟨hj,hb⟩:=own5 k r x hr hx
  have hne:=ne2 x ⟨k,hj,hb⟩
  rcases hfrom x (mem5 k x hj hb)with hx|hx
  ·refine .inl ?_
   show x∈(kx++[k0,k1,k2,k3,k4]).filterMap (Sx.cE β row)
   rcases List.mem_append.1 hx with hx|hx
   ·obtain⟨i,hi,hbk⟩:=hX x hx
    exact List.mem_filterMap.2 ⟨i,by simp[hi],hbk⟩
   ·rcases eA.1 hx with hx|hx|hk|hk|hk|hk|hk
    ·exact absurd hx hne.1
    ·exact absurd hx hne.2
    ·exact List.mem_filterMap.2 ⟨k0,by simp,bk h.p hk⟩
    ·exact List.mem_filterMap.2 ⟨k1,by simp,bk h.r hk⟩
    ·exact List.mem_filterMap.2 ⟨k2,by simp,bk h.l hk⟩
    ·exact List.mem_filterMap.2 ⟨k3,by simp,bk h.m hk⟩
    ·exact List.mem_filterMap.2 ⟨k4,by simp,bk h.i hk⟩
  ·exact .inr hx
 ·obtain⟨hj,hb⟩:=own5 k r x hr hx
  obtain⟨hj',hb'⟩:=own5 k' r' x hr' hx'
  have h1:cX (β kc) (β kd) s'=β kc::β kd::([s'.p.A,s'.r.A,s'.l.A,s'.m.A,s'.i.A].map (Option.map (·.block))).filterMap id:=rfl
  rw[h1,List.nodup_cons,List.nodup_cons]at hnd
  have key:∀(l:List (Option Go.Addr)) (j j':Nat),((l.map (Option.map (·.block))).filterMap id).Nodup→j < l.length→j' < l.length→(l.getD j none).map (·.block)=some x→(l.getD j' none).map (·.block)=some x→j=j':=by
   intro l
   induction l with
   |nil=>intro j j' _ hj;simp at hj
   |cons o l ih=>
    intro j j' hn hj hj' hb hb'
    have no:o.map (·.block)=some x→∀i,i < l.length→(l.getD i none).map (·.block)=some x→False:=fun ho i hi hbi=>by
     have e:((o::l).map (Option.map (·.block))).filterMap id=x::(l.map (Option.map (·.block))).filterMap id:=by rw[List.map_cons,ho];rfl
     rw[e,List.nodup_cons]at hn
     refine hn.1 (List.mem_filterMap.2 ⟨some x,List.mem_map.2 ⟨l.getD i none,?_,hbi⟩,rfl⟩)
     rw[List.getD_eq_getElem?_getD,List.getElem?_eq_getElem hi]
     exact List.getElem_mem hi
    have hn':((l.map (Option.map (·.block))).filterMap id).Nodup:=by
     rw[List.map_cons]at hn
     cases ho:o.map (·.block)with
     |none=>rw[ho]at hn;exact hn
     |some y=>rw[ho]at hn;exact(List.nodup_cons.1 hn).2
    cases j with
    |zero=>
     cases j' with
     |zero=>rfl
     |succ j'=>exact(no hb j' (by simpa using hj') hb').elim
    |succ j=>
     cases j' with
     |zero=>exact(no hb' j (by simpa using hj) hb).elim
     |succ j'=>rw[ih j j' hn' (by simpa using hj) (by simpa using hj') hb hb']
  exact key _ k k' hnd.2.2 hj hj' hb hb'
abbrev Ts(tc td:Option Nat)(kx:List Nat)(kc kd k0 k1 k2 k3 k4 m:Nat)(cf:CF)(d:Nat)(v:Value)(CO:Option Prop):Sx.cC:=Qw tc (ly td d) kx kc kd k0 k1 k2 k3 k4 m cf v CO
theorem Oc{β:Sx.Env}{W w':World}{row:Nat→Option Sx.Row}{tc td:Option Nat}{kx:List Nat}{kc kd k0 k1 k2 k3 k4 m:Nat}{cf cf':CF}{d d':Nat}{s':ey}{v:Value}{e:Ending}{CO:Option Prop}{X:List Nat}
  (h:we row tc td kc kd k0 k1 k2 k3 k4 cf d) (htc:∀g,tc=some g→β kc=g) (htd:∀g,td=some g→β kd=g)
  (he:e=.returned v) (hcf:qS w' (β kc) cf' s') (hbd:au w' (β kd) 3 [.int .i64 (d':Int)]) (hnd:(cX (β kc) (β kd) s').Nodup)
  (hX:∀k∈X,∃i∈kx,Sx.cE β row i=some k)
  (hfrom:∀k∈cX (β kc) (β kd) s',k∈X++cX (β kc) (β kd) (kY β k0 k1 k2 k3 k4)∨W.heap.size≤k) (hc:ai (X++cX (β kc) (β kd) (kY β k0 k1 k2 k3 k4)) W w') :
  Sx.Cf β W row m (Ts tc td kx kc kd k0 k1 k2 k3 k4 m cf' d' v CO) e w' (aJ β m cf' s'):=
 KI h Ds htc he hcf (NI hbd htd) hnd hX hfrom hc
end Go.Proofs.YtnncigmpcdehnaaGreatDoor
