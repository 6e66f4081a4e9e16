import Derived.Test.YtnncigmpcdehnaaGreatDoorQd18
namespace Go.Proofs.YtnncigmpcdehnaaGreatDoor
open Go.RowKit Go.Lib Go.Sort
structure pN(w:World)(S:List Nat)(g:Nat)(A:Option Go.Addr)(n c i:Nat)(ws:List Bs):Prop where
 bZ:aq w g 154 (dr A n c i)
 oF:zZ w S A n ws
 le:i≤n
 bd:n≤1000000
 sW:dJ w
 s9:∀k∈S,9≤k
 gS:g∈S
 sz:∀x∈ws,x.length≤100000000
section
variable{w W:World}{S:List Nat}{g:Nat}{A:Option Go.Addr}{n c i j:Nat}{ws:List Bs}
theorem pN.P6(h:pN w S g A n c i ws):dX w g A n c i ws:=
 ⟨h.bZ,h.oF.sub fun x hx=>by rw[List.mem_singleton.1 hx];exact h.gS,h.le,h.bd,h.sW,h.s9 g h.gS,h.sz⟩
theorem dX.qX(h:dX w g A n c i ws):pN w [g] g A n c i ws:=
 ⟨h.bZ,h.oF,h.le,h.bd,h.sW,fun k hk=>by rw[List.mem_singleton.1 hk];exact h.g9,by simp,h.sz⟩
theorem pN.at(h:pN w S g A n c i ws)(hc:ag S w W)(hj:j≤n)(hb:aq W g 154 (dr A n c j)):pN W S g A n c j ws:=
 ⟨hb,h.oF.aF hc,hj,h.bd,h.sW.aF hc h.s9,h.s9,h.gS,h.sz⟩
theorem pN.add{S':List Nat}(h:pN w S g A n c i ws)(hc:ag S w W)(hj:j≤n)(hb:aq W g 154 (dr A n c j))(hs:∀x∈S',x∈S∨w.heap.size≤x)(hg:g∈S'):pN W S' g A n c j ws:=by
 refine⟨hb,⟨h.oF.len,fun h0=>?_⟩,hj,h.bd,h.sW.aF hc h.s9,fun k hk=>?_,hg,h.sz⟩
 ·obtain⟨b,o,h1,h2,h3,h4⟩:=h.oF.row h0
  refine⟨b,o,h1,fun hb=>?_,Nat.lt_of_lt_of_le h3 hc.size,fun k y hy=>(hc.cell (p:=⟨b,o+k,none⟩) h3 h2).trans (h4 k y hy)⟩
  rcases hs b hb with hx|hx
  ·exact h2 hx
  ·omega
 ·rcases hs k hk with hx|hx
  ·exact h.s9 k hx
  ·have:=h.sW.low;omega
theorem fw{α γ:Type} [Inhabited α]{P:Program}{f:FuncId}{V:α→Value}{r:Out α}{T:Out γ}(k:Nat)(mem:List Sx.Row)(rest:List Value)(h0:pN w S g A n c i ws)(hj:j≤n)(hT:∀code p,r=.no code p→T=.no code p)
  (hrow:mem[k]?=some ⟨154,.dC g (dr A n c j)⟩)
  (h:∀W,dX W g A n c j ws→Calls P f (.pointer (some ⟨g,0,none⟩)::rest).toArray W (bM g A n c V r W)) (W:World) (β:Sx.Env) (hS:Sx.dP ⟨w,S,js T w⟩ β W (Sx.rowAt mem) [k]) :
  Calls P f ((Sx.SV.ptr k 0::rest.map .val).map (Sx.SV.den β)).toArray W (Sx.aP ⟨w,S,js T w⟩ β W (Sx.rowAt mem) mem.length (eo k g A n c r V)):=
 wj rest hS (by simp) hrow (fun hB=>h W (h0.at hS.aF hj hB).P6) fun code p chain w' hr hf=>⟨code,p,hT code p hr,hf.up hS.aF.size⟩
end
def mH(g gm b2 b3:Nat)(A:Option Go.Addr)(n c:Nat)(T:Out Mt)(w:World)(e:Ending)(w':World):Prop:=
 (∃m i,T=.ok m i∧i≤n∧e=.returned (.tuple #[])∧aq w' g 154 (dr A n c i)∧aq w' gm 66 m.cells∧aq w' b2 152 [.pointer (some ⟨g,0,none⟩)]∧aq w' b3 217 [.pointer (some ⟨gm,0,none⟩)]∧ag [g,gm,b2,b3] w w')∨
 (∃code p chain,T=.no code p∧e=.panicked chain∧Ag code p w chain w'∧ag [g,gm,b2,b3] w w')
def jL(g gm b2 b3:Nat)(A:Option Go.Addr)(n c i:Nat)(cs:List Value):List Sx.Row:=
 [⟨154,.dC g (dr A n c i)⟩,⟨66,.dC gm cs⟩,⟨152,.jg b2 [.ptr 0 0]⟩,⟨217,.jg b3 [.ptr 1 0]⟩]
def Np(g gm b2 b3:Nat)(A:Option Go.Addr)(n c:Nat)(T:Out Mt)(l:List Sx.SV)(mem:List Sx.Row):Prop:=∃m i,T=.ok m i∧i≤n∧l=[]∧mem=jL g gm b2 b3 A n c i m.cells
structure BL(w:World)(g gm b2 b3:Nat)(A:Option Go.Addr)(n c i:Nat)(ws:List Bs)(m:Mt):Prop where
 qX:pN w [g,gm,b2,b3] g A n c i ws
 bm:aq w gm 66 m.cells
 bx:aq w b2 152 [.pointer (some ⟨g,0,none⟩)]
 PT:aq w b3 217 [.pointer (some ⟨gm,0,none⟩)]
 nd:[g,gm,b2,b3].Nodup
theorem np{P:Program}{w:World}{f:FuncId}{fn:Func}{co:Code}{g gm b2 b3:Nat}{A:Option Go.Addr}{n c i:Nat}{ws:List Bs}{m:Mt}{T:Out Mt}(h:BL w g gm b2 b3 A n c i ws m)(H:List (Nat×Sx.Hint))(L:List Sx.Loop)
  (hm:P.follows .mixedOrders=true) (hf:P.funcs[f]?=some fn) (hbd:fn.body=some co) (hn:2≤fn.ntmps)
  (hx:Sx.jk P fn.ntmps ⟨w,[g,gm,b2,b3],js T w⟩ co H L ⟨Sx.lB 0 [.ptr 2 0,.ptr 3 0],jL g gm b2 b3 A n c i m.cells⟩ (Sx.bR P fn (Np g gm b2 b3 A n c T))) :
  Calls P f #[.pointer (some ⟨b2,0,none⟩),.pointer (some ⟨b3,0,none⟩)] w (mH g gm b2 b3 A n c T w):=by
 have hF:=Sx.gb (w:=w) (S:=[g,gm,b2,b3]) (PP:=js T w) (G:=[.bZ g 154 (dr A n c i),.bZ gm 66 m.cells,.mz b2 152 [.ptr 0 0],.mz b3 217 [.ptr 1 0]]) (fun q hq=>by
  simp only[List.mem_cons,List.not_mem_nil,or_false]at hq
  rcases hq with rfl|rfl|rfl|rfl
  ·exact h.qX.bZ
  ·exact h.bm
  ·exact h.bx
  ·exact h.PT) (fun q hq k hk=>by
  simp only[List.mem_cons,List.not_mem_nil,or_false]at hq
  rcases hq with rfl|rfl|rfl|rfl<;>cases hk<;>simp) h.nd
 refine(Sx.aY (args:=[.ptr 2 0,.ptr 3 0]) hF H L hm hf hbd hn rfl hx).mono fun e w' hp=>?_
 rcases hp with⟨β,l,mem,⟨m',i',h1,h2,rfl,rfl⟩,he,hR⟩ | ⟨chain,he,⟨code,p,h1,hf⟩,hc⟩
 ·have r0:=hR.held 0 _ rfl
  have r1:=hR.held 1 _ rfl
  have r2:=hR.held 2 _ rfl
  have r3:=hR.held 3 _ rfl
  have e0:β 0=g:=r0.1
  have e1:β 1=gm:=r1.1
  have e2:β 2=b2:=r2.1
  have e3:β 3=b3:=r3.1
  refine .inl ⟨m',i',h1,h2,he,e0 ▸ r0.2,e1 ▸ r1.2,?_,?_,hR.aF⟩
  ·have:=r2.2
   rw[e2]at this
   have hh:([Sx.SV.ptr 0 0].map (Sx.SV.den β))=[.pointer (some ⟨g,0,none⟩)]:=by show [Value.pointer (some ⟨β 0,0,none⟩)]=_;rw[e0]
   rw[hh]at this
   exact this
  ·have:=r3.2
   rw[e3]at this
   have hh:([Sx.SV.ptr 1 0].map (Sx.SV.den β))=[.pointer (some ⟨gm,0,none⟩)]:=by show [Value.pointer (some ⟨β 1,0,none⟩)]=_;rw[e1]
   rw[hh]at this
   exact this
 ·exact .inr ⟨code,p,chain,h1,he,hf,hc⟩
def C0(g gm:Nat)(A:Option Go.Addr)(n c:Nat)(T:Out Mt):Sx.cB:=⟨[0,1,2,3],[(0,⟨154,.dC g (dr A n c T.pos)⟩),(1,⟨66,.dC gm T.val.cells⟩),(2,⟨152,.dA [.ptr 0 0]⟩),(3,⟨217,.dA [.ptr 1 0]⟩)],[],[],.val (.tuple #[]),some (T.okB=true∧T.pos≤n)⟩
def dE(g gm:Nat)(A:Option Go.Addr)(n c i:Nat)(cs:List Value):List Sx.Row:=[⟨154,.dC g (dr A n c i)⟩,⟨66,.dC gm cs⟩,⟨152,.dA [.ptr 0 0]⟩,⟨217,.dA [.ptr 1 0]⟩]
theorem vq{γ:Type}{P:Program}{w:World}{f g gm n c i j:Nat}{A:Option Go.Addr}{ws:List Bs}{m:Mt}{T:Out Mt}{TT:Out γ}(h0:pN w [g,gm] g A n c i ws)(hj:j≤n)(hT:∀code p,T=.no code p→TT=.no code p)
  (h:∀W b2 b3,BL W g gm b2 b3 A n c j ws m→Calls P f #[.pointer (some ⟨b2,0,none⟩),.pointer (some ⟨b3,0,none⟩)] W (mH g gm b2 b3 A n c T W)) (W:World) (β:Sx.Env) (hS:Sx.dP ⟨w,[g,gm],js TT w⟩ β W (Sx.rowAt (dE g gm A n c j m.cells)) [0,1,2,3]) :
  Calls P f (([.ptr 2 0,.ptr 3 0]:List Sx.SV).map (Sx.SV.den β)).toArray W (Sx.aP ⟨w,[g,gm],js TT w⟩ β W (Sx.rowAt (dE g gm A n c j m.cells)) 4 (C0 g gm A n c T)):=by
 have r0:=hS.held 0 (by simp) _ rfl
 have r1:=hS.held 1 (by simp) _ rfl
 have r2:aq W (β 2) 152 [.pointer (some ⟨β 0,0,none⟩)]:=hS.held 2 (by simp) _ rfl
 have r3:aq W (β 3) 217 [.pointer (some ⟨β 1,0,none⟩)]:=hS.held 3 (by simp) _ rfl
 have e0:β 0=g:=r0.1
 have e1:β 1=gm:=r1.1
 have r0:aq W g 154 (dr A n c j):=e0 ▸ r0.2
 have r1:aq W gm 66 m.cells:=e1 ▸ r1.2
 rw[e0]at r2
 rw[e1]at r3
 have hne:∀{a b:Nat},a∈[0,1,2,3]→b∈[0,1,2,3]→a≠b→β a≠β b:=fun {a b} ha hb hab he=>by
  have bl:∀k∈[0,1,2,3],∃r,Sx.rowAt (dE g gm A n c j m.cells) k=some r∧Sx.av β k r=some (β k):=fun k hk=>by
   simp only[List.mem_cons,List.not_mem_nil,or_false]at hk
   rcases hk with rfl|rfl|rfl|rfl<;>exact⟨_,rfl,rfl⟩
  obtain⟨ra,h1,h2⟩:=bl a ha
  obtain⟨rb,h3,h4⟩:=bl b hb
  exact hab (hS.inj a ha b hb ra rb (β a) h1 h3 h2 (by rw[h4,he]))
 have h01:=hne (a:=0) (b:=1) (by simp) (by simp) (by decide)
 have h02:=hne (a:=0) (b:=2) (by simp) (by simp) (by decide)
 have h03:=hne (a:=0) (b:=3) (by simp) (by simp) (by decide)
 have h12:=hne (a:=1) (b:=2) (by simp) (by simp) (by decide)
 have h13:=hne (a:=1) (b:=3) (by simp) (by simp) (by decide)
 have h23:=hne (a:=2) (b:=3) (by simp) (by simp) (by decide)
 rw[e0]at h01 h02 h03
 rw[e1]at h01 h12 h13
 have n2:=hS.new 2 (by simp) _ (β 2) rfl rfl
 have n3:=hS.new 3 (by simp) _ (β 3) rfl rfl
 have hC:BL W g gm (β 2) (β 3) A n c j ws m:=⟨h0.add hS.aF hj r0 (fun x hx=>by
  simp only[List.mem_cons,List.not_mem_nil,or_false]at hx
  rcases hx with rfl|rfl|rfl|rfl
  ·exact .inl (by simp)
  ·exact .inl (by simp)
  ·exact n2
  ·exact n3) (by simp),r1,r2,r3,by simp[h01,h02,h03,h12,h13,h23]⟩
 have ht:Sx.cB.dK β (Sx.rowAt (dE g gm A n c j m.cells)) (C0 g gm A n c T)=[g,gm,β 2,β 3]:=by
  show [β 0,β 1,β 2,β 3]=_
  rw[e0,e1]
 refine(h W (β 2) (β 3) hC).mono fun e w' hp=>?_
 rcases hp with⟨m',i',rfl,hi,he,b0,b1,b2,b3,hc⟩ | ⟨code,p,chain,hT',he,hf,hc⟩
 ·refine .inl ⟨fun p hp=>by cases hp;exact⟨rfl,hi⟩,β,Sx.dF (v:=.tuple #[]) rfl rfl he (fun q hq=>?_) (by rw[ht];exact hc)⟩
  have hq:q=(0,⟨154,.dC g (dr A n c i')⟩)∨q=(1,⟨66,.dC gm m'.cells⟩)∨q=(2,⟨152,.dA [.ptr 0 0]⟩)∨q=(3,⟨217,.dA [.ptr 1 0]⟩):=by
   have:q∈[(0,(⟨154,.dC g (dr A n c i')⟩:Sx.Row)),(1,⟨66,.dC gm m'.cells⟩),(2,⟨152,.dA [.ptr 0 0]⟩),(3,⟨217,.dA [.ptr 1 0]⟩)]:=hq
   simpa using this
  rcases hq with rfl|rfl|rfl|rfl
  ·exact⟨e0,by show aq w' (β 0) _ _;rw[e0];exact b0⟩
  ·exact⟨e1,by show aq w' (β 1) _ _;rw[e1];exact b1⟩
  ·show aq w' (β 2) 152 [.pointer (some ⟨β 0,0,none⟩)]
   rw[e0];exact b2
  ·show aq w' (β 3) 217 [.pointer (some ⟨β 1,0,none⟩)]
   rw[e1];exact b3
 ·exact .inr ⟨rfl,chain,he,⟨code,p,hT code p hT',hf.up hS.aF.size⟩,by rw[ht];exact hc⟩
def gT(g gm:Nat)(A:Option Go.Addr)(n c:Nat)(T:Out (Bool×Mt))(w:World)(e:Ending)(w':World):Prop:=
 (∃q i,T=.ok q i∧i≤n∧e=.returned (.bool q.1)∧aq w' g 154 (dr A n c i)∧aq w' gm 66 q.2.cells∧ag [g,gm] w w')∨
 (∃code p chain,T=.no code p∧e=.panicked chain∧Ag code p w chain w'∧ag [g,gm] w w')
def Li(g gm:Nat)(A:Option Go.Addr)(n c:Nat)(T:Out (Bool×Mt))(l:List Sx.SV)(mem:List Sx.Row):Prop:=∃b m i ms,T=.ok (b,m) i∧i≤n∧l=[.val (.bool b)]∧mem=⟨154,.dC g (dr A n c i)⟩::⟨66,.dC gm m.cells⟩::ms
theorem jJ{P:Program}{w:World}{f:FuncId}{fn:Func}{co:Code}{g gm:Nat}{A:Option Go.Addr}{n c i:Nat}{ws:List Bs}{m:Mt}{T:Out (Bool×Mt)}(h:pN w [g,gm] g A n c i ws)(hbm:aq w gm 66 m.cells)(hne:g≠gm)(H:List (Nat×Sx.Hint))(L:List Sx.Loop)
  (hm:P.follows .mixedOrders=true) (hf:P.funcs[f]?=some fn) (hbd:fn.body=some co) (hn:2≤fn.ntmps)
  (hx:Sx.jk P fn.ntmps ⟨w,[g,gm],js T w⟩ co H L ⟨Sx.lB 0 [.ptr 0 0,.ptr 1 0],[⟨154,.dC g (dr A n c i)⟩,⟨66,.dC gm m.cells⟩]⟩ (Sx.bR P fn (Li g gm A n c T))) :
  Calls P f #[.pointer (some ⟨g,0,none⟩),.pointer (some ⟨gm,0,none⟩)] w (gT g gm A n c T w):=by
 have hF:=Sx.gb (w:=w) (S:=[g,gm]) (PP:=js T w) (G:=[.bZ g 154 (dr A n c i),.bZ gm 66 m.cells]) (fun q hq=>by
  simp only[List.mem_cons,List.not_mem_nil,or_false]at hq
  rcases hq with rfl|rfl
  ·exact h.bZ
  ·exact hbm) (fun q hq k hk=>by
  simp only[List.mem_cons,List.not_mem_nil,or_false]at hq
  rcases hq with rfl|rfl<;>cases hk<;>simp) (by simpa[Sx.jP.block]using hne)
 refine(Sx.aY (args:=[.ptr 0 0,.ptr 1 0]) hF H L hm hf hbd hn rfl hx).mono fun e w' hp=>?_
 rcases hp with⟨β,l,mem,⟨b,m',i',ms,h1,h2,rfl,rfl⟩,he,hR⟩ | ⟨chain,he,⟨code,p,h1,hf⟩,hc⟩
 ·have r0:=hR.held 0 _ rfl
  have r1:=hR.held 1 _ rfl
  have e0:β 0=g:=r0.1
  have e1:β 1=gm:=r1.1
  exact .inl ⟨(b,m'),i',h1,h2,he,e0 ▸ r0.2,e1 ▸ r1.2,hR.aF⟩
 ·exact .inr ⟨code,p,chain,h1,he,hf,hc⟩
set_option maxRecDepth 100000
open Go.RowKit Go.Lib Go.Sort
theorem DH{w:World}{g gm b2 b3:Nat}{A:Option Go.Addr}{n c i:Nat}{ws:List Bs}{m:Mt}(h:BL w g gm b2 b3 A n c i ws m):Calls Tryz.prog 204 #[.pointer (some ⟨b2,0,none⟩),.pointer (some ⟨b3,0,none⟩)] w (mH g gm b2 b3 A n c (bh 0 m ws i) w):=by
 have e1:bh 0 m ws i=(iF ws i).bind fun s j=>.ok { m with eQ:=s } j:=rfl
 have n1:=fun W (hL:dX W g A n c i ws)=>wi hL
 generalize bh 0 m ws i=T at e1 ⊢
 generalize iF ws i=r at e1 n1
 have c4:=fw 0 (jL g gm b2 b3 A n c i m.cells) [] h.qX h.qX.le (bY e1) rfl n1
 have z1f:=fun(hp:r.okB=true∧r.pos≤n)=>(show Np g gm b2 b3 A n c T [] (jL g gm b2 b3 A n c r.pos ({ m with eQ:=r.val }:Mt).cells)from⟨({ m with eQ:=r.val }:Mt),r.pos,bS e1 hp.1,hp.2,rfl,rfl⟩)
 have z3f:=fun(_:¬(r.okB=true∧r.pos≤n))=>trivial
 refine np h [(4,.an (eo 0 g A n c r ie))] [] (by kernel_rfl) Tryz.func204 rfl (Nat.le_of_ble_eq_true rfl) ?_
 exact Eq.mp (by kernel_rfl) (Sx.t2 c4 (fun(hx0:r.okB=true∧r.pos≤n)=>(z1f hx0)) (fun(hx2:¬(r.okB=true∧r.pos≤n))=>(z3f hx2)))
theorem DG{w:World}{g gm b2 b3:Nat}{A:Option Go.Addr}{n c i:Nat}{ws:List Bs}{m:Mt}(h:BL w g gm b2 b3 A n c i ws m):Calls Tryz.prog 206 #[.pointer (some ⟨b2,0,none⟩),.pointer (some ⟨b3,0,none⟩)] w (mH g gm b2 b3 A n c (bh 1 m ws i) w):=by
 have e1:bh 1 m ws i=(dB ws i).bind fun s j=>.ok { m with src:=s } j:=rfl
 have n1:=fun W (hL:dX W g A n c i ws)=>qf hL
 generalize bh 1 m ws i=T at e1 ⊢
 generalize dB ws i=r at e1 n1
 have c4:=fw 0 (jL g gm b2 b3 A n c i m.cells) [] h.qX h.qX.le (bY e1) rfl n1
 have z1f:=fun(hp:r.okB=true∧r.pos≤n)=>(show Np g gm b2 b3 A n c T [] (jL g gm b2 b3 A n c r.pos ({ m with src:=r.val }:Mt).cells)from⟨({ m with src:=r.val }:Mt),r.pos,bS e1 hp.1,hp.2,rfl,rfl⟩)
 have z3f:=fun(_:¬(r.okB=true∧r.pos≤n))=>trivial
 refine np h [(4,.an (eo 0 g A n c r mV))] [] (by kernel_rfl) Tryz.func206 rfl (Nat.le_of_ble_eq_true rfl) ?_
 exact Eq.mp (by kernel_rfl) (Sx.t2 c4 (fun(hx0:r.okB=true∧r.pos≤n)=>(z1f hx0)) (fun(hx2:¬(r.okB=true∧r.pos≤n))=>(z3f hx2)))
theorem DF{w:World}{g gm b2 b3:Nat}{A:Option Go.Addr}{n c i:Nat}{ws:List Bs}{m:Mt}(h:BL w g gm b2 b3 A n c i ws m):Calls Tryz.prog 207 #[.pointer (some ⟨b2,0,none⟩),.pointer (some ⟨b3,0,none⟩)] w (mH g gm b2 b3 A n c (bh 2 m ws i) w):=by
 have e1:bh 2 m ws i=(dB ws i).bind fun s j=>.ok { m with dst:=s } j:=rfl
 have n1:=fun W (hL:dX W g A n c i ws)=>qf hL
 generalize bh 2 m ws i=T at e1 ⊢
 generalize dB ws i=r at e1 n1
 have c4:=fw 0 (jL g gm b2 b3 A n c i m.cells) [] h.qX h.qX.le (bY e1) rfl n1
 have z1f:=fun(hp:r.okB=true∧r.pos≤n)=>(show Np g gm b2 b3 A n c T [] (jL g gm b2 b3 A n c r.pos ({ m with dst:=r.val }:Mt).cells)from⟨({ m with dst:=r.val }:Mt),r.pos,bS e1 hp.1,hp.2,rfl,rfl⟩)
 have z3f:=fun(_:¬(r.okB=true∧r.pos≤n))=>trivial
 refine np h [(4,.an (eo 0 g A n c r mV))] [] (by kernel_rfl) Tryz.func207 rfl (Nat.le_of_ble_eq_true rfl) ?_
 exact Eq.mp (by kernel_rfl) (Sx.t2 c4 (fun(hx0:r.okB=true∧r.pos≤n)=>(z1f hx0)) (fun(hx2:¬(r.okB=true∧r.pos≤n))=>(z3f hx2)))
theorem DE{w:World}{g gm b2 b3:Nat}{A:Option Go.Addr}{n c i:Nat}{ws:List Bs}{m:Mt}(h:BL w g gm b2 b3 A n c i ws m):Calls Tryz.prog 208 #[.pointer (some ⟨b2,0,none⟩),.pointer (some ⟨b3,0,none⟩)] w (mH g gm b2 b3 A n c (bh 3 m ws i) w):=by
 have e1:bh 3 m ws i=(dR ws i).bind fun s j=>.ok { m with aV:=s } j:=rfl
 have n1:=fun W (hL:dX W g A n c i ws)=>GK hL
 generalize bh 3 m ws i=T at e1 ⊢
 generalize dR ws i=r at e1 n1
 have c4:=fw 0 (jL g gm b2 b3 A n c i m.cells) [] h.qX h.qX.le (bY e1) rfl n1
 have z1f:=fun(hp:r.okB=true∧r.pos≤n)=>(show Np g gm b2 b3 A n c T [] (jL g gm b2 b3 A n c r.pos ({ m with aV:=r.val }:Mt).cells)from⟨({ m with aV:=r.val }:Mt),r.pos,bS e1 hp.1,hp.2,rfl,rfl⟩)
 have z3f:=fun(_:¬(r.okB=true∧r.pos≤n))=>trivial
 refine np h [(4,.an (eo 0 g A n c r Lm))] [] (by kernel_rfl) Tryz.func208 rfl (Nat.le_of_ble_eq_true rfl) ?_
 exact Eq.mp (by kernel_rfl) (Sx.t2 c4 (fun(hx0:r.okB=true∧r.pos≤n)=>(z1f hx0)) (fun(hx2:¬(r.okB=true∧r.pos≤n))=>(z3f hx2)))
theorem DD{w:World}{g gm b2 b3:Nat}{A:Option Go.Addr}{n c i:Nat}{ws:List Bs}{m:Mt}(h:BL w g gm b2 b3 A n c i ws m):Calls Tryz.prog 210 #[.pointer (some ⟨b2,0,none⟩),.pointer (some ⟨b3,0,none⟩)] w (mH g gm b2 b3 A n c (bh 4 m ws i) w):=by
 have e1:bh 4 m ws i=(iF ws i).bind fun s j=>.ok { m with sp:=s } j:=rfl
 have n1:=fun W (hL:dX W g A n c i ws)=>wi hL
 generalize bh 4 m ws i=T at e1 ⊢
 generalize iF ws i=r at e1 n1
 have c4:=fw 0 (jL g gm b2 b3 A n c i m.cells) [] h.qX h.qX.le (bY e1) rfl n1
 have z1f:=fun(hp:r.okB=true∧r.pos≤n)=>(show Np g gm b2 b3 A n c T [] (jL g gm b2 b3 A n c r.pos ({ m with sp:=r.val }:Mt).cells)from⟨({ m with sp:=r.val }:Mt),r.pos,bS e1 hp.1,hp.2,rfl,rfl⟩)
 have z3f:=fun(_:¬(r.okB=true∧r.pos≤n))=>trivial
 refine np h [(4,.an (eo 0 g A n c r ie))] [] (by kernel_rfl) Tryz.func210 rfl (Nat.le_of_ble_eq_true rfl) ?_
 exact Eq.mp (by kernel_rfl) (Sx.t2 c4 (fun(hx0:r.okB=true∧r.pos≤n)=>(z1f hx0)) (fun(hx2:¬(r.okB=true∧r.pos≤n))=>(z3f hx2)))
theorem DC{w:World}{g gm b2 b3:Nat}{A:Option Go.Addr}{n c i:Nat}{ws:List Bs}{m:Mt}(h:BL w g gm b2 b3 A n c i ws m):Calls Tryz.prog 211 #[.pointer (some ⟨b2,0,none⟩),.pointer (some ⟨b3,0,none⟩)] w (mH g gm b2 b3 A n c (bh 5 m ws i) w):=by
 have e1:bh 5 m ws i=(iF ws i).bind fun s j=>.ok { m with dp:=s } j:=rfl
 have n1:=fun W (hL:dX W g A n c i ws)=>wi hL
 generalize bh 5 m ws i=T at e1 ⊢
 generalize iF ws i=r at e1 n1
 have c4:=fw 0 (jL g gm b2 b3 A n c i m.cells) [] h.qX h.qX.le (bY e1) rfl n1
 have z1f:=fun(hp:r.okB=true∧r.pos≤n)=>(show Np g gm b2 b3 A n c T [] (jL g gm b2 b3 A n c r.pos ({ m with dp:=r.val }:Mt).cells)from⟨({ m with dp:=r.val }:Mt),r.pos,bS e1 hp.1,hp.2,rfl,rfl⟩)
 have z3f:=fun(_:¬(r.okB=true∧r.pos≤n))=>trivial
 refine np h [(4,.an (eo 0 g A n c r ie))] [] (by kernel_rfl) Tryz.func211 rfl (Nat.le_of_ble_eq_true rfl) ?_
 exact Eq.mp (by kernel_rfl) (Sx.t2 c4 (fun(hx0:r.okB=true∧r.pos≤n)=>(z1f hx0)) (fun(hx2:¬(r.okB=true∧r.pos≤n))=>(z3f hx2)))
end Go.Proofs.YtnncigmpcdehnaaGreatDoor
