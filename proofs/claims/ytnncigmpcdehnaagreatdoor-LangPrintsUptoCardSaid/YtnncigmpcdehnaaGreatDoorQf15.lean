import Derived.Test.YtnncigmpcdehnaaGreatDoorQf14
namespace Go.Proofs.YtnncigmpcdehnaaGreatDoor
open Go.RowKit Go.Lib Go.Sort
def qP(b:Bool)(X T:Prop):Prop:=match b with
 |true=>T
 |false=>X∧T
theorem qP.mk{b:Bool}{X T:Prop}(hx:b=false→X)(ht:T):qP b X T:=by
 cases b
 ·exact⟨hx rfl,ht⟩
 ·exact ht
def Hq(b:Bool)(X Y:Prop):Prop:=match b with
 |true=>X
 |false=>Y
theorem Hq.mk{b:Bool}{X Y:Prop}(hx:b=true→X)(hy:b=false→Y):Hq b X Y:=by
 cases b
 ·exact hy rfl
 ·exact hx rfl
abbrev Bs:=List UInt8
inductive Out (α:Type) where
 |ok (a:α) (i:Nat)
 |no (code:Nat) (place:Nat)
def Out.bind{α β:Type}(r:Out α)(f:α→Nat→Out β):Out β:=match r with
 |.ok a i=>f a i
 |.no c p=>.no c p
def Out.okB{α:Type}:Out α→Bool
 |.ok _ _=>true
 |.no _ _=>false
def Out.val{α:Type} [Inhabited α]:Out α→α
 |.ok a _=>a
 |.no _ _=>default
def Out.pos{α:Type}:Out α→Nat
 |.ok _ i=>i
 |.no _ p=>p
theorem Out.EE{α:Type} [Inhabited α]{r:Out α}(h:r.okB=true):r=.ok r.val r.pos:=by
 cases r with
 |ok a i=>rfl
 |no c p=>cases h
def mf:Bs:=[97,110,121]
def mb:Bs:=[105,110]
def fZ:Bs:=[115,114,99]
def gX:Bs:=[100,115,116]
def dB:Bs:=[112,114,111,116,111]
def eQ:Bs:=[115,112,111,114,116]
def gF:Bs:=[100,112,111,114,116]
def pj:Bs:=[116,99,112]
def qu:Bs:=[117,100,112]
def de:Bs:=[114,111,117,116,101]
def kq:Bs:=[100,114,111,112]
def ga:Bs:=[114,101,106,101,99,116]
def nC:Bs:=[111,117,116]
def u6:Bs:=[45,62]
def bK:Bs:=[109,101,116,101,114]
def bh:Bs:=[109,105,114,114,111,114]
def kp:Bs:=[112,111,114,116]
def gg:Bs:=[114,117,108,101]
def bL:Bs:=[100,101,102,97,117,108,116]
structure Px where
 v:Bool
 n:Nat
 k:Int
def oc:Px:=⟨false,0,0⟩
instance:Inhabited Px:=⟨oc⟩
def Px.cells(p:Px):List Value:=dm p.v p.n p.k
noncomputable def rf(s:Bs):Option Px:=by
 classical
 exact if h:∃p:Px,Cl s p.v p.n p.k then some h.choose else none
def gV(s:Bs):Nat:=s.foldl (fun a c=>10*a+tn c) 0
def cN(most:Nat)(s:Bs):Bool:=decide (gV s≤most)&&decide (aj 10 (gV s)=s)
def aV(ws:List Bs)(i:Nat):Out Bs:=match ws[i]? with
 |some x=>.ok x (i+1)
 |none=>.no 200 (i+1)
def dL(ws:List Bs)(i:Nat)(s:Bs):Out Bool:=if ws[i]?=some s then .ok true (i+1)else .ok false i
def ay{α:Type}(b:Bool)(code:Nat)(a:α)(i:Nat):Out α:=match b with
 |true=>.ok a i
 |false=>.no code i
def bw(most:Nat)(ws:List Bs)(i:Nat):Out Nat:=(aV ws i).bind fun x j=>ay (cN most x) 200 (gV x) j
def iZ(ws:List Bs)(i:Nat):Out Nat:=bw 9223372036854775807 ws i
def gu(ws:List Bs)(i:Nat):Out Bs:=(aV ws i).bind fun x j=>ay (aB x) 201 x j
noncomputable def dV(ws:List Bs)(i:Nat):Out Px:=(aV ws i).bind fun x j=>ay (rf x).isSome 151 ((rf x).getD oc) j
def fk(x:Bs):Bs×Bs:=match(Lib.cut x [45]).2.2 with
 |true=>((Lib.cut x [45]).1,(Lib.cut x [45]).2.1)
 |false=>((Lib.cut x [45]).1,(Lib.cut x [45]).1)
def jj(ws:List Bs)(i:Nat):Out (Nat×Nat):=(aV ws i).bind fun x j=>ay (cN 65535 (fk x).1&&cN 65535 (fk x).2) 200 (gV (fk x).1,gV (fk x).2) j
def eB(ws:List Bs)(i:Nat):Out Nat:=(dL ws i pj).bind fun a j=>match a with
 |true=>.ok 6 j
 |false=>(dL ws j qu).bind fun b k=>match b with
  |true=>.ok 17 k
  |false=>bw 255 ws k
structure Mt where
 asks:Nat
 ff:Nat×Nat
 src:Px
 dst:Px
 bb:Nat
 sp:Nat×Nat
 dp:Nat×Nat
def mF:Mt:=⟨0,(0,0),oc,oc,0,(0,0),(0,0)⟩
instance:Inhabited Mt:=⟨mF⟩
def Mt.cells(m:Mt):List Value:=
 [.int .u8 (m.asks:Int),.int .u16 (m.ff.1:Int),.int .u16 (m.ff.2:Int)]++(m.src.cells++(m.dst.cells++[.int .u8 (m.bb:Int),.int .u16 (m.sp.1:Int),.int .u16 (m.sp.2:Int),.int .u16 (m.dp.1:Int),.int .u16 (m.dp.2:Int)]))
def vz(x:Bs):Option Nat:=
 if x=mb then some 0 else if x=fZ then some 1 else if x=gX then some 2 else if x=dB then some 3 else if x=eQ then some 4 else if x=gF then some 5 else none
noncomputable def bu(k:Nat)(m:Mt)(ws:List Bs)(i:Nat):Out Mt:=match k with
 | 0=>(jj ws i).bind fun s j=>.ok { m with ff:=s } j
 | 1=>(dV ws i).bind fun s j=>.ok { m with src:=s } j
 | 2=>(dV ws i).bind fun s j=>.ok { m with dst:=s } j
 | 3=>(eB ws i).bind fun s j=>.ok { m with bb:=s } j
 | 4=>(jj ws i).bind fun s j=>.ok { m with sp:=s } j
 |_=>(jj ws i).bind fun s j=>.ok { m with dp:=s } j
noncomputable def bn(ws:List Bs)(i:Nat)(m:Mt):Out (Bool×Mt):=match ws[i]? with
 |none=>.ok (false,m) i
 |some x=>match vz x with
  |none=>.ok (false,m) i
  |some k=>match m.asks.testBit k with
   |true=>.no 200 (i+1)
   |false=>(bu k { m with asks:=m.asks|||2^k } ws (i+1)).bind fun m' j=>.ok (true,m') j
noncomputable def eO(ws:List Bs):Nat→Nat→Mt→Out Mt
 | 0,i,m=>.ok m i
 |f+1,i,m=>(bn ws i m).bind fun r j=>match r.1 with
  |true=>eO ws f j r.2
  |false=>.ok m j
noncomputable def gi(ws:List Bs)(i:Nat):Out Mt:=(dL ws i mf).bind fun a j=>match a with
 |true=>.ok mF j
 |false=>(bn ws j mF).bind fun r k=>match r.1 with
  |true=>eO ws (ws.length+1 - k) k r.2
  |false=>(aV ws k).bind fun _ l=>.no 200 l
def pI(out:Bool)(ws:List Bs)(i:Nat):Out (Int×Int):=(aV ws i).bind fun x j=>
 if x=de then .ok (1,0) j else if x=kq then .ok (2,0) j else if x=ga then .ok (4,0) j else
 if x=nC∧out=true then(iZ ws j).bind fun n k=>.ok (3,(n:Int)) k else .no 200 j
def gO(s:Nat×Nat):Bool:=decide (s=(0,0))
def Ci(p:Px):Bool:=decide (p.v=false∧p.n=0∧p.k=0)
def bp(m:Mt):Bool:=
 (decide (m.asks < 64)&&((m.asks.testBit 0||gO m.ff)&&((m.asks.testBit 1||Ci m.src)&&((m.asks.testBit 2||Ci m.dst)&&((m.asks.testBit 3||decide (m.bb=0))&&((m.asks.testBit 4||gO m.sp)&&(m.asks.testBit 5||gO m.dp)))))))&&
 ((decide (m.ff.1≤m.ff.2)&&(decide (m.ff.2≤255)&&(decide (m.sp.1≤m.sp.2)&&decide (m.dp.1≤m.dp.2))))&&
 (((!m.asks.testBit 1||gh m.src.v m.src.n m.src.k)&&((!m.asks.testBit 2||gh m.dst.v m.dst.n m.dst.k)&&(!(m.asks.testBit 1&&m.asks.testBit 2)||decide (m.src.v=m.dst.v))))&&
 (!(m.asks.testBit 4||m.asks.testBit 5)||(decide (m.bb=6)||decide (m.bb=17)))))
structure Rl where
 name:Bs
 mt:Mt
 act:Int
 out:Int
 bC:Bs
 aP:Bs
def TF:Rl:=⟨[],mF,0,0,[],[]⟩
instance:Inhabited Rl:=⟨TF⟩
def Rl.cells(r:Rl):List Value:=.string ⟨r.name.toArray⟩::(r.mt.cells++[.int .i64 r.act,.int .i64 r.out,.string ⟨r.bC.toArray⟩,.string ⟨r.aP.toArray⟩])
def o7(s:Bs)(ws:List Bs)(i:Nat):Out Bs:=(dL ws i s).bind fun b j=>match b with
 |true=>gu ws j
 |false=>.ok [] j
def No(m:Mt)(ws:List Bs)(i:Nat):Out Unit:=(aV ws i).bind fun x i=>(ay (decide (x=u6)) 200 () i).bind fun _ i=>ay (bp m) 190 () i
noncomputable def oJ(ws:List Bs)(i:Nat):Out Rl:=(gu ws i).bind fun nm i=>(gi ws i).bind fun m i=>(No m ws i).bind fun _ i=>(pI true ws i).bind fun a i=>
 (o7 bK ws i).bind fun me i=>(o7 bh ws i).bind fun mi i=>.ok ⟨nm,m,a.1,a.2,me,mi⟩ i
structure Rt where
 pf:Px
 out:Int
instance:Inhabited Rt:=⟨⟨oc,0⟩⟩
def Rt.cells(r:Rt):List Value:=r.pf.cells++[.int .i64 r.out]
structure Me where
 name:Bs
 num:Nat
 den:Nat
 iu:Nat
instance:Inhabited Me:=⟨⟨[],0,0,0⟩⟩
def Me.cells(m:Me):List Value:=[.string ⟨m.name.toArray⟩,.int .u64 (m.num:Int),.int .u64 (m.den:Int),.int .u64 (m.iu:Int)]
structure Mi where
 name:Bs
 out:Int
 room:Int
instance:Inhabited Mi:=⟨⟨[],0,0⟩⟩
def Mi.cells(m:Mi):List Value:=[.string ⟨m.name.toArray⟩,.int .i64 m.out,.int .i64 m.room]
structure CF where
 ag:List Int
 ae:List Rt
 rules:List Rl
 af:List Me
 aa:List Mi
 aS:Int
def Fq:CF:=⟨[],[],[],[],[],0⟩
instance:Inhabited CF:=⟨Fq⟩
noncomputable def gx(x:Bs)(ws:List Bs)(i:Nat)(cf:CF)(d:Nat):Out CF:=
 if x=kp then(iZ ws i).bind fun n i=>.ok { cf with ag:=cf.ag++[(n:Int)] } i
 else if x=de then(dV ws i).bind fun p i=>(iZ ws i).bind fun n i=>.ok { cf with ae:=cf.ae++[⟨p,(n:Int)⟩] } i
 else if x=bK then(gu ws i).bind fun nm i=>(bw 18446744073709551615 ws i).bind fun a i=>(bw 18446744073709551615 ws i).bind fun b i=>(bw 18446744073709551615 ws i).bind fun c i=>.ok { cf with af:=cf.af++[⟨nm,a,b,c⟩] } i
 else if x=bh then(gu ws i).bind fun nm i=>(iZ ws i).bind fun a i=>(iZ ws i).bind fun b i=>.ok { cf with aa:=cf.aa++[⟨nm,(a:Int),(b:Int)⟩] } i
 else if x=gg then(oJ ws i).bind fun r i=>.ok { cf with rules:=cf.rules++[r] } i
 else if x=bL then(ay (decide (d=0)) 200 () i).bind fun _ i=>(pI false ws i).bind fun a i=>.ok { cf with aS:=a.1 } i
 else .no 200 i
def sO{α:Type}(ws:List Bs)(a:α)(i:Nat):Out α:=match decide (i < ws.length)with
 |true=>.no 200 (i+1)
 |false=>.ok a i
noncomputable def qx(ws:List Bs)(i:Nat)(cf:CF)(d:Nat):Out CF:=(aV ws i).bind fun x i=>(gx x ws i cf d).bind fun c i=>sO ws c i
noncomputable def ft(ws:List Bs)(cf:CF)(d:Nat):Out CF:=match ws with
 | []=>.ok cf 0
 |_=>qx ws 0 cf d
def dN(ws:List Bs)(d:Nat):Nat:=if ws[0]?=some bL then d+1 else d
def cd(cm:Bool):Bs→Bs→List Bs
 |cur,[]=>if cur=[] then [] else [cur]
 |cur,c::r=>if cm=true∧c=35 then(if cur=[] then [] else [cur])else
  if c=32∨c=9 then(if cur=[] then cd cm [] r else cur::cd cm [] r)else cd cm (cur++[c]) r
def aK(cm:Bool)(s:Bs):List Bs:=cd cm [] s
inductive SA where
 |ok (cf:CF)
 |no (code line:Nat)
noncomputable def gr:List Bs→Nat→CF→Nat→SA
 | [],_,cf,d=>.ok (if d=0 then { cf with aS:=2 }else cf)
 |l::ls,k,cf,d=>match ft (aK true l) cf d with
  |.ok c _=>gr ls (k+1) c (dN (aK true l) d)
  |.no code _=>.no code k
open Go.RowKit Go.Lib Go.Sort _root_.Go.Proofs.Tryz
def bU{α:Type}(g:Nat)(A:Option Go.Addr)(n c:Nat)(V:α→Value)(r:Out α)(w:World)(e:Ending)(w':World):Prop:=
 (∃a i,r=.ok a i∧i≤n∧e=.returned (V a)∧au w' g 154 (dJ A n c i)∧ai [g] w w')∨
 (∃code p chain,r=.no code p∧e=.panicked chain∧Cm code p w chain w'∧ai [g] w w')
def j2{α:Type}(r:Out α)(w:World)(chain:List PanicEntry)(w':World):Prop:=∃code p:Nat,r=.no code p∧Cm code p w chain w'
def zy{α:Type}(g:Nat)(A:Option Go.Addr)(n c:Nat)(V:α→Value)(r:Out α)(u:Sx.j6)(gl:List (Nat×TypeId×List Value)):Prop:=∃a i,r=.ok a i∧i≤n∧u=.val (V a)∧gl=[(g,154,dJ A n c i)]
theorem bU.uC{α:Type}{g:Nat}{A:Option Go.Addr}{n c:Nat}{V:α→Value}{r:Out α}{w:World}{e:Ending}{w':World}(h:Sx.ew ⟨w,[g],j2 r w⟩ (zy g A n c V r) e w'):bU g A n c V r w e w':=by
 rcases h with⟨u,gl,⟨a,i,h1,hi,h2,h3⟩,hp,hb⟩ | ⟨chain,he,⟨code,p,h1,hf⟩,hc⟩
 ·subst h2 h3
  exact .inl ⟨a,i,h1,hi,hp.1,hb (g,154,dJ A n c i) (by simp),hp.2⟩
 ·exact .inr ⟨code,p,chain,h1,he,hf,hc⟩
theorem cZ{α:Type}{P:Program}{w:World}{f:FuncId}{fn:Func}{co:Code}{g:Nat}{A:Option Go.Addr}{n c i:Nat}{V:α→Value}{r:Out α}(rest:List Value)(hb:au w g 154 (dJ A n c i))(H:List (Nat×Sx.Hint))(L:List Sx.Loop)
  (hm:P.follows .mixedOrders=true) (hf:P.funcs[f]?=some fn) (hbd:fn.body=some co) (hn:(rest.length+1)≤fn.ntmps)
  (hx:Sx.jU P fn.ntmps ⟨w,[g],j2 r w⟩ co H L ⟨Sx.mz 0 (.ptr 0 0::rest.map .val),Sx.pZ [(g,154,dJ A n c i)]⟩ (Sx.zj P fn (zy g A n c V r))) :
  Calls P f (.pointer (some ⟨g,0,none⟩)::rest).toArray w (bU g A n c V r w):=by
 have h:=Sx.dx (args:=.ptr 0 0::rest.map .val) [(g,154,dJ A n c i)] (by simpa using hb) (by simp) (j2 r w) H L hm hf hbd (by simpa using hn) (by
  have:∀l:List Value,Sx.fj (Sx.Sw 1) (l.map .val)=true:=fun l=>by
   induction l with
   |nil=>rfl
   |cons x l ih=>exact ih
  exact this rest) hx
 have e:(Sx.SV.ptr 0 0::rest.map .val).map (Sx.SV.den (Sx.y7 [(g,154,dJ A n c i)]))=.pointer (some ⟨g,0,none⟩)::rest:=by
  rw[List.map_cons,List.map_map]
  have:(Sx.SV.den (Sx.y7 [(g,154,dJ A n c i)]) ∘ Sx.SV.val)=id:=rfl
  rw[this,List.map_id]
  rfl
 rw[e]at h
 exact h.mono fun _ _=>bU.uC
theorem yE{α:Type} [Inhabited α]{P:Program}{b:Sx.aU}{β:Sx.Env}{W:World}{row:Nat→Option Sx.Row}{m k f g n c i:Nat}{A:Option Go.Addr}{V:α→Value}{r:Out α}{see:List Nat}(rest:List Value)
  (hS:Sx.eF b β W row see) (hk:k∈see) (hrow:row k=some ⟨154,.dF g (dJ A n c i)⟩)
  (h:au W g 154 (dJ A n c i)→Calls P f (.pointer (some ⟨g,0,none⟩)::rest).toArray W (bU g A n c V r W))
  (hP:∀(code p:Nat) chain w',r=.no code p→Cm code p W chain w'→b.PP chain w') :
  Calls P f ((Sx.SV.ptr k 0::rest.map .val).map (Sx.SV.den β)).toArray W (Sx.aY b β W row m ⟨see,[(k,⟨154,.dF g (dJ A n c r.pos)⟩)],[],[],.val (V r.val),some (r.okB=true∧r.pos≤n)⟩):=by
 have hh:=hS.held k hk _ hrow
 have hg:β k=g:=hh.1
 have hB:au W g 154 (dJ A n c i):=hg ▸ hh.2
 have e:(Sx.SV.ptr k 0::rest.map .val).map (Sx.SV.den β)=.pointer (some ⟨g,0,none⟩)::rest:=by
  rw[List.map_cons,List.map_map]
  have:(Sx.SV.den β ∘ Sx.SV.val)=id:=rfl
  rw[this,List.map_id]
  show Value.pointer (some ⟨β k,0,none⟩)::rest=_
  rw[hg]
 have ht:([k]:List Nat).filterMap (Sx.cE β row)=[g]:=by
  have:Sx.cE β row k=some g:=by unfold Sx.cE;rw[hrow];exact congrArg some hg
  simp[this]
 rw[e]
 refine(h hB).mono fun e w' hp=>?_
 rcases hp with⟨a,j,rfl,hj,he,hb,hc⟩ | ⟨code,p,chain,rfl,he,hf,hc⟩
 ·refine .inl ⟨fun p hp=>by cases hp;exact⟨rfl,hj⟩,β,Sx.du (v:=V a) rfl rfl he (fun q hq=>?_) ?_⟩
  ·have:q=(k,⟨154,.dF g (dJ A n c j)⟩):=List.mem_singleton.1 hq
   subst this
   exact⟨hg,by show au w' (β k) 154 _;rw[hg];exact hb⟩
  ·show ai (([k]++[]).filterMap (Sx.cE β row)) W w'
   rw[List.append_nil,ht];exact hc
 ·refine .inr ⟨rfl,chain,he,hP code p chain w' rfl hf,?_⟩
  show ai (([k]++[]).filterMap (Sx.cE β row)) W w'
  rw[List.append_nil,ht];exact hc
structure eJ(w:World)(g:Nat)(A:Option Go.Addr)(n c i:Nat)(ws:List Bs):Prop where
 b9:au w g 154 (dJ A n c i)
 pJ:Cd w [g] A n ws
 le:i≤n
 bd:n≤1000000
 u5:eb w
 g9:9≤g
 sz:∀x∈ws,x.length≤100000000
def ab(x:Bs):Value:=.string ⟨x.toArray⟩
theorem ns{w:World}{g:Nat}{A:Option Go.Addr}{n c i:Nat}{ws:List Bs}(h:eJ w g A n c i ws):Calls prog 154 #[(pt g 0)] w (bU g A n c ab (aV ws i) w):=by
 have hlen:=h.pJ.len
 cases hx:ws[i]? with
 |some x=>
  have hr:aV ws i=.ok x (i+1):=by unfold aV;rw[hx]
  have hi:i < n:=by rw[←hlen];exact(List.getElem?_eq_some_iff.1 hx).1
  refine(Jp g A n c i ws x h.bd w h.b9 h.pJ hx (j2 (aV ws i) w)).mono fun e w' hp=>bU.uC ?_
  rcases hp with⟨u,gl,⟨h1,h2⟩,hp⟩ | hp
  ·exact .inl ⟨u,gl,⟨x,i+1,hr,hi,h1,h2⟩,hp⟩
  ·exact .inr hp
 |none=>
  have hi:i=n:=by have:=List.getElem?_eq_none_iff.1 hx;have:=h.le;omega
  have hr:aV ws i=.no 200 (i+1):=by unfold aV;rw[hx]
  subst hi
  refine(Nl g A i c h.bd w h.b9).mono fun e w' hp=>bU.uC ?_
  rcases hp with⟨_,_,hf,_⟩ | ⟨chain,he,hf,hc⟩
  ·exact hf.elim
  ·exact .inr ⟨chain,he,⟨200,i+1,hr,hf⟩,hc⟩
theorem kJ{w:World}{g:Nat}{A:Option Go.Addr}{n c i:Nat}{ws:List Bs}(s:Bs)(h:eJ w g A n c i ws):Calls prog 152 #[.pointer (some ⟨g,0,none⟩),ab s] w (bU g A n c (fun b=>.bool b) (dL ws i s) w):=by
 have hlen:=h.pJ.len
 have up:∀{b:Bool} {j:Nat},dL ws i s=.ok b j→j≤n→∀{e w'},Sx.ew ⟨w,[g],j2 (dL ws i s) w⟩ (SD g (.bool b) (dJ A n c j)) e w'→bU g A n c (fun b=>.bool b) (dL ws i s) w e w':=by
  intro b j hr hj e w' hp
  refine bU.uC ?_
  rcases hp with⟨u,gl,⟨h1,h2⟩,hp⟩ | hp
  ·exact .inl ⟨u,gl,⟨b,j,hr,hj,h1,h2⟩,hp⟩
  ·exact .inr hp
 cases hx:ws[i]? with
 |some x=>
  have hi:i < n:=by rw[←hlen];exact(List.getElem?_eq_some_iff.1 hx).1
  by_cases hs:x=s
  ·exact(Ie g A n c i ws x s h.bd w h.b9 h.pJ hx hs _).mono fun e w'=>up (by unfold dL;rw[hx,hs,if_pos rfl]) hi
  ·exact(Md g A n c i ws x s h.bd w h.b9 h.pJ hx hs _).mono fun e w'=>up (by unfold dL;rw[hx,if_neg (by simpa using hs)]) h.le
 |none=>
  have hi:i=n:=by have:=List.getElem?_eq_none_iff.1 hx;have:=h.le;omega
  subst hi
  exact(Ig g A i c s w h.b9 _).mono fun e w'=>up (by unfold dL;rw[hx,if_neg (by simp)]) (Nat.le_refl _)
theorem iy{α:Type}{w:World}{g:Nat}{A:Option Go.Addr}{n c i:Nat}{ws:List Bs}(b:Bool)(code:Nat)(a:α)(h:eJ w g A n c i ws):Calls prog 191 #[.pointer (some ⟨g,0,none⟩),.bool b,.int .i64 (code:Int)] w (bU g A n c (fun _=>.tuple #[]) (ay b code a i) w):=by
 cases b with
 |true=>exact(Hz _ _ w).mono fun e w' ⟨he,hc⟩=>.inl ⟨a,i,rfl,h.le,he,h.b9.aG hc (by simp),hc.mono (by simp)⟩
 |false=>
  refine(LS g (.slice A n c) i code w h.b9).mono fun e w' hp=>bU.uC ?_
  rcases hp with⟨_,_,hf,_⟩ | ⟨chain,he,hf,hc⟩
  ·exact hf.elim
  ·exact .inr ⟨chain,he,⟨code,i,rfl,hf⟩,hc⟩
theorem eJ.at{w W:World}{g:Nat}{A:Option Go.Addr}{n c i j:Nat}{ws:List Bs}(h:eJ w g A n c i ws)(hc:ai [g] w W)(hj:j≤n)(hb:au W g 154 (dJ A n c j)):eJ W g A n c j ws:=⟨hb,h.pJ.aG hc,hj,h.bd,h.u5.aG hc (by simpa using h.g9),h.g9,h.sz⟩
theorem eJ.AR{w W:World}{g:Nat}{A:Option Go.Addr}{n c i:Nat}{ws:List Bs}(h:eJ w g A n c i ws)(hc:ai [g] w W):eb W:=h.u5.aG hc (by simpa using h.g9)
theorem eJ.len{w:World}{g:Nat}{A:Option Go.Addr}{n c i:Nat}{ws:List Bs}(h:eJ w g A n c i ws):ws.length=n:=h.pJ.len
theorem uI{ws:List Bs}{i:Nat}(h:∀x∈ws,x.length≤100000000):((aV ws i).val).length≤100000000:=by
 unfold aV
 cases hx:ws[i]? with
 |some x=>exact h x (List.mem_of_getElem? hx)
 |none=>exact Nat.zero_le _
theorem cj{α β:Type}{T:Out β}{r:Out α}{f:α→Nat→Out β}(e:T=r.bind f):∀code p,r=.no code p→T=.no code p:=fun code p h=>by rw[e,h];rfl
theorem bZ{α β:Type} [Inhabited α]{T:Out β}{r:Out α}{f:α→Nat→Out β}(e:T=r.bind f)(h:r.okB=true):T=f r.val r.pos:=by
 rw[e]
 cases r with
 |ok a i=>rfl
 |no c p=>cases h
theorem xj{α:Type}{T r:Out α}(e:T=r):∀code p,r=.no code p→T=.no code p:=fun code p h=>by rw[e,h]
def eV{α:Type} [Inhabited α](k g:Nat)(A:Option Go.Addr)(n c:Nat)(r:Out α)(V:α→Value):Sx.cC:=⟨[k],[(k,⟨154,.dF g (dJ A n c r.pos)⟩)],[],[],.val (V r.val),some (r.okB=true∧r.pos≤n)⟩
theorem lr{α γ:Type} [Inhabited α]{P:Program}{w:World}{f g n c i j:Nat}{A:Option Go.Addr}{V:α→Value}{r:Out α}{T:Out γ}{ws:List Bs}(rest:List Value)(h0:eJ w g A n c i ws)(hj:j≤n)(hT:∀code p,r=.no code p→T=.no code p)
  (h:∀W,eJ W g A n c j ws→Calls P f (.pointer (some ⟨g,0,none⟩)::rest).toArray W (bU g A n c V r W)) (W:World) (β:Sx.Env) (hS:Sx.eF ⟨w,[g],j2 T w⟩ β W (Sx.rowAt (Sx.pZ [(g,154,dJ A n c j)])) [0]) :
  Calls P f ((Sx.SV.ptr 0 0::rest.map .val).map (Sx.SV.den β)).toArray W (Sx.aY ⟨w,[g],j2 T w⟩ β W (Sx.rowAt (Sx.pZ [(g,154,dJ A n c j)])) 1 (eV 0 g A n c r V)):=
 yE rest hS (by simp) rfl (fun hB=>h W (h0.at hS.aG hj hB)) fun code p chain w' hr hf=>⟨code,p,hT code p hr,hf.up hS.aG.size⟩
theorem l9{α γ:Type} [Inhabited α]{P:Program}{w:World}{f g n c i j:Nat}{A:Option Go.Addr}{V:α→Value}{r:Out α}{T:Out γ}{ws:List Bs}(ms:List Sx.Row)(rest:List Value)(h0:eJ w g A n c i ws)(hj:j≤n)(hT:∀code p,r=.no code p→T=.no code p)
  (h:∀W,eJ W g A n c j ws→Calls P f (.pointer (some ⟨g,0,none⟩)::rest).toArray W (bU g A n c V r W)) (W:World) (β:Sx.Env) (hS:Sx.eF ⟨w,[g],j2 T w⟩ β W (Sx.rowAt (⟨154,.dF g (dJ A n c j)⟩::ms)) [0]) :
  Calls P f ((Sx.SV.ptr 0 0::rest.map .val).map (Sx.SV.den β)).toArray W (Sx.aY ⟨w,[g],j2 T w⟩ β W (Sx.rowAt (⟨154,.dF g (dJ A n c j)⟩::ms)) (ms.length+1) (eV 0 g A n c r V)):=
 yE rest hS (by simp) rfl (fun hB=>h W (h0.at hS.aG hj hB)) fun code p chain w' hr hf=>⟨code,p,hT code p hr,hf.up hS.aG.size⟩
end Go.Proofs.YtnncigmpcdehnaaGreatDoor
