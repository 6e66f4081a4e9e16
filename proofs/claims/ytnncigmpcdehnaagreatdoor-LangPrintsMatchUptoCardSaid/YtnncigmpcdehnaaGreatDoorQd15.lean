import Derived.Test.YtnncigmpcdehnaaGreatDoorQd14
namespace Go.Proofs.YtnncigmpcdehnaaGreatDoor
open Go.RowKit Go.Lib Go.Sort
def q9(b:Bool)(X T:Prop):Prop:=match b with
 |true=>T
 |false=>X∧T
theorem q9.mk{b:Bool}{X T:Prop}(hx:b=false→X)(ht:T):q9 b X T:=by
 cases b
 ·exact⟨hx rfl,ht⟩
 ·exact ht
def ET(b:Bool)(X Y:Prop):Prop:=match b with
 |true=>X
 |false=>Y
theorem ET.mk{b:Bool}{X Y:Prop}(hx:b=true→X)(hy:b=false→Y):ET b X Y:=by
 cases b
 ·exact hy rfl
 ·exact hx rfl
abbrev Bs:=List UInt8
inductive Out (α:Type) where
 |ok (a:α) (i:Nat)
 |no (code:Nat) (place:Nat)
def Out.bind{α β:Type}(r:Out α)(f:α→Nat→Out β):Out β:=match r with
 |.ok a i=>f a i
 |.no c p=>.no c p
def Out.okB{α:Type}:Out α→Bool
 |.ok _ _=>true
 |.no _ _=>false
def Out.val{α:Type} [Inhabited α]:Out α→α
 |.ok a _=>a
 |.no _ _=>default
def Out.pos{α:Type}:Out α→Nat
 |.ok _ i=>i
 |.no _ p=>p
theorem Out.Cr{α:Type} [Inhabited α]{r:Out α}(h:r.okB=true):r=.ok r.val r.pos:=by
 cases r with
 |ok a i=>rfl
 |no c p=>cases h
def kZ:Bs:=[97,110,121]
def kY:Bs:=[105,110]
def fp:Bs:=[115,114,99]
def gk:Bs:=[100,115,116]
def dc:Bs:=[112,114,111,116,111]
def eg:Bs:=[115,112,111,114,116]
def fR:Bs:=[100,112,111,114,116]
def oo:Bs:=[116,99,112]
def ph:Bs:=[117,100,112]
def dx:Bs:=[114,111,117,116,101]
def lA:Bs:=[100,114,111,112]
def gj:Bs:=[114,101,106,101,99,116]
def oq:Bs:=[111,117,116]
def uU:Bs:=[45,62]
def bU:Bs:=[109,101,116,101,114]
def bp:Bs:=[109,105,114,114,111,114]
def km:Bs:=[112,111,114,116]
def gi:Bs:=[114,117,108,101]
def bD:Bs:=[100,101,102,97,117,108,116]
structure Px where
 v:Bool
 n:Nat
 k:Int
def nz:Px:=⟨false,0,0⟩
instance:Inhabited Px:=⟨nz⟩
def Px.cells(p:Px):List Value:=cV p.v p.n p.k
noncomputable def pZ(s:Bs):Option Px:=by
 classical
 exact if h:∃p:Px,Af s p.v p.n p.k then some h.choose else none
def gh(s:Bs):Nat:=s.foldl (fun a c=>10*a+ru c) 0
def cD(most:Nat)(s:Bs):Bool:=decide (gh s≤most)&&decide (ak 10 (gh s)=s)
def aR(ws:List Bs)(i:Nat):Out Bs:=match ws[i]? with
 |some x=>.ok x (i+1)
 |none=>.no 200 (i+1)
def dt(ws:List Bs)(i:Nat)(s:Bs):Out Bool:=if ws[i]?=some s then .ok true (i+1)else .ok false i
def ax{α:Type}(b:Bool)(code:Nat)(a:α)(i:Nat):Out α:=match b with
 |true=>.ok a i
 |false=>.no code i
def bn(most:Nat)(ws:List Bs)(i:Nat):Out Nat:=(aR ws i).bind fun x j=>ax (cD most x) 200 (gh x) j
def il(ws:List Bs)(i:Nat):Out Nat:=bn 9223372036854775807 ws i
def fG(ws:List Bs)(i:Nat):Out Bs:=(aR ws i).bind fun x j=>ax (aE x) 201 x j
noncomputable def dB(ws:List Bs)(i:Nat):Out Px:=(aR ws i).bind fun x j=>ax (pZ x).isSome 151 ((pZ x).getD nz) j
def eF(x:Bs):Bs×Bs:=match(Lib.cut x [45]).2.2 with
 |true=>((Lib.cut x [45]).1,(Lib.cut x [45]).2.1)
 |false=>((Lib.cut x [45]).1,(Lib.cut x [45]).1)
def iF(ws:List Bs)(i:Nat):Out (Nat×Nat):=(aR ws i).bind fun x j=>ax (cD 65535 (eF x).1&&cD 65535 (eF x).2) 200 (gh (eF x).1,gh (eF x).2) j
def dR(ws:List Bs)(i:Nat):Out Nat:=(dt ws i oo).bind fun a j=>match a with
 |true=>.ok 6 j
 |false=>(dt ws j ph).bind fun b k=>match b with
  |true=>.ok 17 k
  |false=>bn 255 ws k
structure Mt where
 asks:Nat
 eQ:Nat×Nat
 src:Px
 dst:Px
 aV:Nat
 sp:Nat×Nat
 dp:Nat×Nat
def lz:Mt:=⟨0,(0,0),nz,nz,0,(0,0),(0,0)⟩
instance:Inhabited Mt:=⟨lz⟩
def Mt.cells(m:Mt):List Value:=
 [.int .u8 (m.asks:Int),.int .u16 (m.eQ.1:Int),.int .u16 (m.eQ.2:Int)]++(m.src.cells++(m.dst.cells++[.int .u8 (m.aV:Int),.int .u16 (m.sp.1:Int),.int .u16 (m.sp.2:Int),.int .u16 (m.dp.1:Int),.int .u16 (m.dp.2:Int)]))
def tr(x:Bs):Option Nat:=
 if x=kY then some 0 else if x=fp then some 1 else if x=gk then some 2 else if x=dc then some 3 else if x=eg then some 4 else if x=fR then some 5 else none
noncomputable def bh(k:Nat)(m:Mt)(ws:List Bs)(i:Nat):Out Mt:=match k with
 | 0=>(iF ws i).bind fun s j=>.ok { m with eQ:=s } j
 | 1=>(dB ws i).bind fun s j=>.ok { m with src:=s } j
 | 2=>(dB ws i).bind fun s j=>.ok { m with dst:=s } j
 | 3=>(dR ws i).bind fun s j=>.ok { m with aV:=s } j
 | 4=>(iF ws i).bind fun s j=>.ok { m with sp:=s } j
 |_=>(iF ws i).bind fun s j=>.ok { m with dp:=s } j
noncomputable def a7(ws:List Bs)(i:Nat)(m:Mt):Out (Bool×Mt):=match ws[i]? with
 |none=>.ok (false,m) i
 |some x=>match tr x with
  |none=>.ok (false,m) i
  |some k=>match m.asks.testBit k with
   |true=>.no 200 (i+1)
   |false=>(bh k { m with asks:=m.asks|||2^k } ws (i+1)).bind fun m' j=>.ok (true,m') j
noncomputable def ee(ws:List Bs):Nat→Nat→Mt→Out Mt
 | 0,i,m=>.ok m i
 |f+1,i,m=>(a7 ws i m).bind fun r j=>match r.1 with
  |true=>ee ws f j r.2
  |false=>.ok m j
noncomputable def fu(ws:List Bs)(i:Nat):Out Mt:=(dt ws i kZ).bind fun a j=>match a with
 |true=>.ok lz j
 |false=>(a7 ws j lz).bind fun r k=>match r.1 with
  |true=>ee ws (ws.length+1 - k) k r.2
  |false=>(aR ws k).bind fun _ l=>.no 200 l
def oE(out:Bool)(ws:List Bs)(i:Nat):Out (Int×Int):=(aR ws i).bind fun x j=>
 if x=dx then .ok (1,0) j else if x=lA then .ok (2,0) j else if x=gj then .ok (4,0) j else
 if x=oq∧out=true then(il ws j).bind fun n k=>.ok (3,(n:Int)) k else .no 200 j
def fZ(s:Nat×Nat):Bool:=decide (s=(0,0))
def Ad(p:Px):Bool:=decide (p.v=false∧p.n=0∧p.k=0)
def ba(m:Mt):Bool:=
 (decide (m.asks < 64)&&((m.asks.testBit 0||fZ m.eQ)&&((m.asks.testBit 1||Ad m.src)&&((m.asks.testBit 2||Ad m.dst)&&((m.asks.testBit 3||decide (m.aV=0))&&((m.asks.testBit 4||fZ m.sp)&&(m.asks.testBit 5||fZ m.dp)))))))&&
 ((decide (m.eQ.1≤m.eQ.2)&&(decide (m.eQ.2≤255)&&(decide (m.sp.1≤m.sp.2)&&decide (m.dp.1≤m.dp.2))))&&
 (((!m.asks.testBit 1||fA m.src.v m.src.n m.src.k)&&((!m.asks.testBit 2||fA m.dst.v m.dst.n m.dst.k)&&(!(m.asks.testBit 1&&m.asks.testBit 2)||decide (m.src.v=m.dst.v))))&&
 (!(m.asks.testBit 4||m.asks.testBit 5)||(decide (m.aV=6)||decide (m.aV=17)))))
structure Rl where
 name:Bs
 mt:Mt
 act:Int
 out:Int
 dm:Bs
 cj:Bs
def PM:Rl:=⟨[],lz,0,0,[],[]⟩
instance:Inhabited Rl:=⟨PM⟩
def Rl.cells(r:Rl):List Value:=.string ⟨r.name.toArray⟩::(r.mt.cells++[.int .i64 r.act,.int .i64 r.out,.string ⟨r.dm.toArray⟩,.string ⟨r.cj.toArray⟩])
def n6(s:Bs)(ws:List Bs)(i:Nat):Out Bs:=(dt ws i s).bind fun b j=>match b with
 |true=>fG ws j
 |false=>.ok [] j
def J8(m:Mt)(ws:List Bs)(i:Nat):Out Unit:=(aR ws i).bind fun x i=>(ax (decide (x=uU)) 200 () i).bind fun _ i=>ax (ba m) 190 () i
noncomputable def nF(ws:List Bs)(i:Nat):Out Rl:=(fG ws i).bind fun nm i=>(fu ws i).bind fun m i=>(J8 m ws i).bind fun _ i=>(oE true ws i).bind fun a i=>
 (n6 bU ws i).bind fun me i=>(n6 bp ws i).bind fun mi i=>.ok ⟨nm,m,a.1,a.2,me,mi⟩ i
structure Rt where
 pf:Px
 out:Int
instance:Inhabited Rt:=⟨⟨nz,0⟩⟩
def Rt.cells(r:Rt):List Value:=r.pf.cells++[.int .i64 r.out]
structure Me where
 name:Bs
 num:Nat
 den:Nat
 pH:Nat
instance:Inhabited Me:=⟨⟨[],0,0,0⟩⟩
def Me.cells(m:Me):List Value:=[.string ⟨m.name.toArray⟩,.int .u64 (m.num:Int),.int .u64 (m.den:Int),.int .u64 (m.pH:Int)]
structure Mi where
 name:Bs
 out:Int
 room:Int
instance:Inhabited Mi:=⟨⟨[],0,0⟩⟩
def Mi.cells(m:Mi):List Value:=[.string ⟨m.name.toArray⟩,.int .i64 m.out,.int .i64 m.room]
structure CF where
 ai:List Int
 ae:List Rt
 rules:List Rl
 af:List Me
 aa:List Mi
 br:Int
def EY:CF:=⟨[],[],[],[],[],0⟩
instance:Inhabited CF:=⟨EY⟩
noncomputable def fJ(x:Bs)(ws:List Bs)(i:Nat)(cf:CF)(d:Nat):Out CF:=
 if x=km then(il ws i).bind fun n i=>.ok { cf with ai:=cf.ai++[(n:Int)] } i
 else if x=dx then(dB ws i).bind fun p i=>(il ws i).bind fun n i=>.ok { cf with ae:=cf.ae++[⟨p,(n:Int)⟩] } i
 else if x=bU then(fG ws i).bind fun nm i=>(bn 18446744073709551615 ws i).bind fun a i=>(bn 18446744073709551615 ws i).bind fun b i=>(bn 18446744073709551615 ws i).bind fun c i=>.ok { cf with af:=cf.af++[⟨nm,a,b,c⟩] } i
 else if x=bp then(fG ws i).bind fun nm i=>(il ws i).bind fun a i=>(il ws i).bind fun b i=>.ok { cf with aa:=cf.aa++[⟨nm,(a:Int),(b:Int)⟩] } i
 else if x=gi then(nF ws i).bind fun r i=>.ok { cf with rules:=cf.rules++[r] } i
 else if x=bD then(ax (decide (d=0)) 200 () i).bind fun _ i=>(oE false ws i).bind fun a i=>.ok { cf with br:=a.1 } i
 else .no 200 i
def qY{α:Type}(ws:List Bs)(a:α)(i:Nat):Out α:=match decide (i < ws.length)with
 |true=>.no 200 (i+1)
 |false=>.ok a i
noncomputable def pj(ws:List Bs)(i:Nat)(cf:CF)(d:Nat):Out CF:=(aR ws i).bind fun x i=>(fJ x ws i cf d).bind fun c i=>qY ws c i
noncomputable def eL(ws:List Bs)(cf:CF)(d:Nat):Out CF:=match ws with
 | []=>.ok cf 0
 |_=>pj ws 0 cf d
def dN(ws:List Bs)(d:Nat):Nat:=if ws[0]?=some bD then d+1 else d
def bW(cm:Bool):Bs→Bs→List Bs
 |cur,[]=>if cur=[] then [] else [cur]
 |cur,c::r=>if cm=true∧c=35 then(if cur=[] then [] else [cur])else
  if c=32∨c=9 then(if cur=[] then bW cm [] r else cur::bW cm [] r)else bW cm (cur++[c]) r
def aJ(cm:Bool)(s:Bs):List Bs:=bW cm [] s
inductive OR where
 |ok (cf:CF)
 |no (code line:Nat)
noncomputable def fF:List Bs→Nat→CF→Nat→OR
 | [],_,cf,d=>.ok (if d=0 then { cf with br:=2 }else cf)
 |l::ls,k,cf,d=>match eL (aJ true l) cf d with
  |.ok c _=>fF ls (k+1) c (dN (aJ true l) d)
  |.no code _=>.no code k
open Go.RowKit Go.Lib Go.Sort
def bM{α:Type}(g:Nat)(A:Option Go.Addr)(n c:Nat)(V:α→Value)(r:Out α)(w:World)(e:Ending)(w':World):Prop:=
 (∃a i,r=.ok a i∧i≤n∧e=.returned (V a)∧aq w' g 154 (dr A n c i)∧ag [g] w w')∨
 (∃code p chain,r=.no code p∧e=.panicked chain∧Ag code p w chain w'∧ag [g] w w')
def js{α:Type}(r:Out α)(w:World)(chain:List PanicEntry)(w':World):Prop:=∃code p:Nat,r=.no code p∧Ag code p w chain w'
def xu{α:Type}(g:Nat)(A:Option Go.Addr)(n c:Nat)(V:α→Value)(r:Out α)(u:Sx.lC)(gl:List (Nat×TypeId×List Value)):Prop:=∃a i,r=.ok a i∧i≤n∧u=.val (V a)∧gl=[(g,154,dr A n c i)]
theorem bM.sD{α:Type}{g:Nat}{A:Option Go.Addr}{n c:Nat}{V:α→Value}{r:Out α}{w:World}{e:Ending}{w':World}(h:Sx.gp ⟨w,[g],js r w⟩ (xu g A n c V r) e w'):bM g A n c V r w e w':=by
 rcases h with⟨u,gl,⟨a,i,h1,hi,h2,h3⟩,hp,hb⟩ | ⟨chain,he,⟨code,p,h1,hf⟩,hc⟩
 ·subst h2 h3
  exact .inl ⟨a,i,h1,hi,hp.1,hb (g,154,dr A n c i) (by simp),hp.2⟩
 ·exact .inr ⟨code,p,chain,h1,he,hf,hc⟩
theorem cP{α:Type}{P:Program}{w:World}{f:FuncId}{fn:Func}{co:Code}{g:Nat}{A:Option Go.Addr}{n c i:Nat}{V:α→Value}{r:Out α}(rest:List Value)(hb:aq w g 154 (dr A n c i))(H:List (Nat×Sx.Hint))(L:List Sx.Loop)
  (hm:P.follows .mixedOrders=true) (hf:P.funcs[f]?=some fn) (hbd:fn.body=some co) (hn:(rest.length+1)≤fn.ntmps)
  (hx:Sx.jk P fn.ntmps ⟨w,[g],js r w⟩ co H L ⟨Sx.lB 0 (.ptr 0 0::rest.map .val),Sx.oS [(g,154,dr A n c i)]⟩ (Sx.xj P fn (xu g A n c V r))) :
  Calls P f (.pointer (some ⟨g,0,none⟩)::rest).toArray w (bM g A n c V r w):=by
 have h:=Sx.gQ (args:=.ptr 0 0::rest.map .val) [(g,154,dr A n c i)] (by simpa using hb) (by simp) (js r w) H L hm hf hbd (by simpa using hn) (by
  have:∀l:List Value,Sx.eR (Sx.ON 1) (l.map .val)=true:=fun l=>by
   induction l with
   |nil=>rfl
   |cons x l ih=>exact ih
  exact this rest) hx
 have e:(Sx.SV.ptr 0 0::rest.map .val).map (Sx.SV.den (Sx.wT [(g,154,dr A n c i)]))=.pointer (some ⟨g,0,none⟩)::rest:=by
  rw[List.map_cons,List.map_map]
  have:(Sx.SV.den (Sx.wT [(g,154,dr A n c i)]) ∘ Sx.SV.val)=id:=rfl
  rw[this,List.map_id]
  rfl
 rw[e]at h
 exact h.mono fun _ _=>bM.sD
theorem wj{α:Type} [Inhabited α]{P:Program}{b:Sx.bb}{β:Sx.Env}{W:World}{row:Nat→Option Sx.Row}{m k f g n c i:Nat}{A:Option Go.Addr}{V:α→Value}{r:Out α}{gJ:List Nat}(rest:List Value)
  (hS:Sx.dP b β W row gJ) (hk:k∈gJ) (hrow:row k=some ⟨154,.dC g (dr A n c i)⟩)
  (h:aq W g 154 (dr A n c i)→Calls P f (.pointer (some ⟨g,0,none⟩)::rest).toArray W (bM g A n c V r W))
  (hP:∀(code p:Nat) chain w',r=.no code p→Ag code p W chain w'→b.PP chain w') :
  Calls P f ((Sx.SV.ptr k 0::rest.map .val).map (Sx.SV.den β)).toArray W (Sx.aP b β W row m ⟨gJ,[(k,⟨154,.dC g (dr A n c r.pos)⟩)],[],[],.val (V r.val),some (r.okB=true∧r.pos≤n)⟩):=by
 have hh:=hS.held k hk _ hrow
 have hg:β k=g:=hh.1
 have hB:aq W g 154 (dr A n c i):=hg ▸ hh.2
 have e:(Sx.SV.ptr k 0::rest.map .val).map (Sx.SV.den β)=.pointer (some ⟨g,0,none⟩)::rest:=by
  rw[List.map_cons,List.map_map]
  have:(Sx.SV.den β ∘ Sx.SV.val)=id:=rfl
  rw[this,List.map_id]
  show Value.pointer (some ⟨β k,0,none⟩)::rest=_
  rw[hg]
 have ht:([k]:List Nat).filterMap (Sx.cA β row)=[g]:=by
  have:Sx.cA β row k=some g:=by unfold Sx.cA;rw[hrow];exact congrArg some hg
  simp[this]
 rw[e]
 refine(h hB).mono fun e w' hp=>?_
 rcases hp with⟨a,j,rfl,hj,he,hb,hc⟩ | ⟨code,p,chain,rfl,he,hf,hc⟩
 ·refine .inl ⟨fun p hp=>by cases hp;exact⟨rfl,hj⟩,β,Sx.dF (v:=V a) rfl rfl he (fun q hq=>?_) ?_⟩
  ·have:q=(k,⟨154,.dC g (dr A n c j)⟩):=List.mem_singleton.1 hq
   subst this
   exact⟨hg,by show aq w' (β k) 154 _;rw[hg];exact hb⟩
  ·show ag (([k]++[]).filterMap (Sx.cA β row)) W w'
   rw[List.append_nil,ht];exact hc
 ·refine .inr ⟨rfl,chain,he,hP code p chain w' rfl hf,?_⟩
  show ag (([k]++[]).filterMap (Sx.cA β row)) W w'
  rw[List.append_nil,ht];exact hc
structure dX(w:World)(g:Nat)(A:Option Go.Addr)(n c i:Nat)(ws:List Bs):Prop where
 bZ:aq w g 154 (dr A n c i)
 oF:zZ w [g] A n ws
 le:i≤n
 bd:n≤1000000
 sW:dJ w
 g9:9≤g
 sz:∀x∈ws,x.length≤100000000
def ab(x:Bs):Value:=.string ⟨x.toArray⟩
theorem mb{w:World}{g:Nat}{A:Option Go.Addr}{n c i:Nat}{ws:List Bs}(h:dX w g A n c i ws):Calls Tryz.prog 154 #[.pointer (some ⟨g,0,none⟩)] w (bM g A n c ab (aR ws i) w):=by
 have hlen:=h.oF.len
 cases hx:ws[i]? with
 |some x=>
  have hr:aR ws i=.ok x (i+1):=by unfold aR;rw[hx]
  have hi:i < n:=by rw[←hlen];exact(List.getElem?_eq_some_iff.1 hx).1
  refine(Gt g A n c i ws x h.bd w h.bZ h.oF hx (js (aR ws i) w)).mono fun e w' hp=>bM.sD ?_
  rcases hp with⟨u,gl,⟨h1,h2⟩,hp⟩ | hp
  ·exact .inl ⟨u,gl,⟨x,i+1,hr,hi,h1,h2⟩,hp⟩
  ·exact .inr hp
 |none=>
  have hi:i=n:=by have:=List.getElem?_eq_none_iff.1 hx;have:=h.le;omega
  have hr:aR ws i=.no 200 (i+1):=by unfold aR;rw[hx]
  subst hi
  refine(J6 g A i c h.bd w h.bZ).mono fun e w' hp=>bM.sD ?_
  rcases hp with⟨_,_,hf,_⟩ | ⟨chain,he,hf,hc⟩
  ·exact hf.elim
  ·exact .inr ⟨chain,he,⟨200,i+1,hr,hf⟩,hc⟩
theorem jS{w:World}{g:Nat}{A:Option Go.Addr}{n c i:Nat}{ws:List Bs}(s:Bs)(h:dX w g A n c i ws):Calls Tryz.prog 152 #[.pointer (some ⟨g,0,none⟩),ab s] w (bM g A n c (fun b=>.bool b) (dt ws i s) w):=by
 have hlen:=h.oF.len
 have up:∀{b:Bool} {j:Nat},dt ws i s=.ok b j→j≤n→∀{e w'},Sx.gp ⟨w,[g],js (dt ws i s) w⟩ (OT g (.bool b) (dr A n c j)) e w'→bM g A n c (fun b=>.bool b) (dt ws i s) w e w':=by
  intro b j hr hj e w' hp
  refine bM.sD ?_
  rcases hp with⟨u,gl,⟨h1,h2⟩,hp⟩ | hp
  ·exact .inl ⟨u,gl,⟨b,j,hr,hj,h1,h2⟩,hp⟩
  ·exact .inr hp
 cases hx:ws[i]? with
 |some x=>
  have hi:i < n:=by rw[←hlen];exact(List.getElem?_eq_some_iff.1 hx).1
  by_cases hs:x=s
  ·exact(Fq g A n c i ws x s h.bd w h.bZ h.oF hx hs _).mono fun e w'=>up (by unfold dt;rw[hx,hs,if_pos rfl]) hi
  ·exact(Jf g A n c i ws x s h.bd w h.bZ h.oF hx hs _).mono fun e w'=>up (by unfold dt;rw[hx,if_neg (by simpa using hs)]) h.le
 |none=>
  have hi:i=n:=by have:=List.getElem?_eq_none_iff.1 hx;have:=h.le;omega
  subst hi
  exact(Fs g A i c s w h.bZ _).mono fun e w'=>up (by unfold dt;rw[hx,if_neg (by simp)]) (Nat.le_refl _)
theorem gD{α:Type}{w:World}{g:Nat}{A:Option Go.Addr}{n c i:Nat}{ws:List Bs}(b:Bool)(code:Nat)(a:α)(h:dX w g A n c i ws):Calls Tryz.prog 191 #[.pointer (some ⟨g,0,none⟩),.bool b,.int .i64 (code:Int)] w (bM g A n c (fun _=>.tuple #[]) (ax b code a i) w):=by
 cases b with
 |true=>exact(Fb _ _ w).mono fun e w' ⟨he,hc⟩=>.inl ⟨a,i,rfl,h.le,he,h.bZ.aF hc (by simp),hc.mono (by simp)⟩
 |false=>
  refine(I9 g (.slice A n c) i code w h.bZ).mono fun e w' hp=>bM.sD ?_
  rcases hp with⟨_,_,hf,_⟩ | ⟨chain,he,hf,hc⟩
  ·exact hf.elim
  ·exact .inr ⟨chain,he,⟨code,i,rfl,hf⟩,hc⟩
theorem dX.at{w W:World}{g:Nat}{A:Option Go.Addr}{n c i j:Nat}{ws:List Bs}(h:dX w g A n c i ws)(hc:ag [g] w W)(hj:j≤n)(hb:aq W g 154 (dr A n c j)):dX W g A n c j ws:=⟨hb,h.oF.aF hc,hj,h.bd,h.sW.aF hc (by simpa using h.g9),h.g9,h.sz⟩
theorem dX.yK{w W:World}{g:Nat}{A:Option Go.Addr}{n c i:Nat}{ws:List Bs}(h:dX w g A n c i ws)(hc:ag [g] w W):dJ W:=h.sW.aF hc (by simpa using h.g9)
theorem dX.len{w:World}{g:Nat}{A:Option Go.Addr}{n c i:Nat}{ws:List Bs}(h:dX w g A n c i ws):ws.length=n:=h.oF.len
theorem sJ{ws:List Bs}{i:Nat}(h:∀x∈ws,x.length≤100000000):((aR ws i).val).length≤100000000:=by
 unfold aR
 cases hx:ws[i]? with
 |some x=>exact h x (List.mem_of_getElem? hx)
 |none=>exact Nat.zero_le _
theorem bY{α β:Type}{T:Out β}{r:Out α}{f:α→Nat→Out β}(e:T=r.bind f):∀code p,r=.no code p→T=.no code p:=fun code p h=>by rw[e,h];rfl
theorem bS{α β:Type} [Inhabited α]{T:Out β}{r:Out α}{f:α→Nat→Out β}(e:T=r.bind f)(h:r.okB=true):T=f r.val r.pos:=by
 rw[e]
 cases r with
 |ok a i=>rfl
 |no c p=>cases h
theorem uL{α:Type}{T r:Out α}(e:T=r):∀code p,r=.no code p→T=.no code p:=fun code p h=>by rw[e,h]
def eo{α:Type} [Inhabited α](k g:Nat)(A:Option Go.Addr)(n c:Nat)(r:Out α)(V:α→Value):Sx.cB:=⟨[k],[(k,⟨154,.dC g (dr A n c r.pos)⟩)],[],[],.val (V r.val),some (r.okB=true∧r.pos≤n)⟩
theorem kj{α γ:Type} [Inhabited α]{P:Program}{w:World}{f g n c i j:Nat}{A:Option Go.Addr}{V:α→Value}{r:Out α}{T:Out γ}{ws:List Bs}(rest:List Value)(h0:dX w g A n c i ws)(hj:j≤n)(hT:∀code p,r=.no code p→T=.no code p)
  (h:∀W,dX W g A n c j ws→Calls P f (.pointer (some ⟨g,0,none⟩)::rest).toArray W (bM g A n c V r W)) (W:World) (β:Sx.Env) (hS:Sx.dP ⟨w,[g],js T w⟩ β W (Sx.rowAt (Sx.oS [(g,154,dr A n c j)])) [0]) :
  Calls P f ((Sx.SV.ptr 0 0::rest.map .val).map (Sx.SV.den β)).toArray W (Sx.aP ⟨w,[g],js T w⟩ β W (Sx.rowAt (Sx.oS [(g,154,dr A n c j)])) 1 (eo 0 g A n c r V)):=
 wj rest hS (by simp) rfl (fun hB=>h W (h0.at hS.aF hj hB)) fun code p chain w' hr hf=>⟨code,p,hT code p hr,hf.up hS.aF.size⟩
theorem kU{α γ:Type} [Inhabited α]{P:Program}{w:World}{f g n c i j:Nat}{A:Option Go.Addr}{V:α→Value}{r:Out α}{T:Out γ}{ws:List Bs}(ms:List Sx.Row)(rest:List Value)(h0:dX w g A n c i ws)(hj:j≤n)(hT:∀code p,r=.no code p→T=.no code p)
  (h:∀W,dX W g A n c j ws→Calls P f (.pointer (some ⟨g,0,none⟩)::rest).toArray W (bM g A n c V r W)) (W:World) (β:Sx.Env) (hS:Sx.dP ⟨w,[g],js T w⟩ β W (Sx.rowAt (⟨154,.dC g (dr A n c j)⟩::ms)) [0]) :
  Calls P f ((Sx.SV.ptr 0 0::rest.map .val).map (Sx.SV.den β)).toArray W (Sx.aP ⟨w,[g],js T w⟩ β W (Sx.rowAt (⟨154,.dC g (dr A n c j)⟩::ms)) (ms.length+1) (eo 0 g A n c r V)):=
 wj rest hS (by simp) rfl (fun hB=>h W (h0.at hS.aF hj hB)) fun code p chain w' hr hf=>⟨code,p,hT code p hr,hf.up hS.aF.size⟩
end Go.Proofs.YtnncigmpcdehnaaGreatDoor
