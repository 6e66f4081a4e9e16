import Derived.Test.YtnncigmpcdehnaaGreatDoorQf17
namespace Go.Proofs.YtnncigmpcdehnaaGreatDoor
open Go.RowKit Go.Lib Go.Sort
structure qQ(w:World)(S:List Nat)(g:Nat)(A:Option Go.Addr)(n c i:Nat)(ws:List Bs):Prop where
 b9:au w g 154 (dJ A n c i)
 pJ:Cd w S A n ws
 le:i≤n
 bd:n≤1000000
 u5:eb w
 s9:∀k∈S,9≤k
 gS:g∈S
 sz:∀x∈ws,x.length≤100000000
section
variable{w W:World}{S:List Nat}{g:Nat}{A:Option Go.Addr}{n c i j:Nat}{ws:List Bs}
theorem qQ.TZ(h:qQ w S g A n c i ws):eJ w g A n c i ws:=
 ⟨h.b9,h.pJ.sub fun x hx=>by rw[List.mem_singleton.1 hx];exact h.gS,h.le,h.bd,h.u5,h.s9 g h.gS,h.sz⟩
theorem eJ.sM(h:eJ w g A n c i ws):qQ w [g] g A n c i ws:=
 ⟨h.b9,h.pJ,h.le,h.bd,h.u5,fun k hk=>by rw[List.mem_singleton.1 hk];exact h.g9,by simp,h.sz⟩
theorem qQ.at(h:qQ w S g A n c i ws)(hc:ai S w W)(hj:j≤n)(hb:au W g 154 (dJ A n c j)):qQ W S g A n c j ws:=
 ⟨hb,h.pJ.aG hc,hj,h.bd,h.u5.aG hc h.s9,h.s9,h.gS,h.sz⟩
theorem qQ.add{S':List Nat}(h:qQ w S g A n c i ws)(hc:ai S w W)(hj:j≤n)(hb:au W g 154 (dJ A n c j))(hs:∀x∈S',x∈S∨w.heap.size≤x)(hg:g∈S'):qQ W S' g A n c j ws:=by
 refine⟨hb,⟨h.pJ.len,fun h0=>?_⟩,hj,h.bd,h.u5.aG hc h.s9,fun k hk=>?_,hg,h.sz⟩
 ·obtain⟨b,o,h1,h2,h3,h4⟩:=h.pJ.row h0
  refine⟨b,o,h1,fun hb=>?_,Nat.lt_of_lt_of_le h3 hc.size,fun k y hy=>(hc.cell (p:=⟨b,o+k,none⟩) h3 h2).trans (h4 k y hy)⟩
  rcases hs b hb with hx|hx
  ·exact h2 hx
  ·omega
 ·rcases hs k hk with hx|hx
  ·exact h.s9 k hx
  ·have:=h.u5.low;omega
theorem gj{α γ:Type} [Inhabited α]{P:Program}{f:FuncId}{V:α→Value}{r:Out α}{T:Out γ}(k:Nat)(mem:List Sx.Row)(rest:List Value)(h0:qQ w S g A n c i ws)(hj:j≤n)(hT:∀code p,r=.no code p→T=.no code p)
  (hrow:mem[k]?=some ⟨154,.dF g (dJ A n c j)⟩)
  (h:∀W,eJ W g A n c j ws→Calls P f (.pointer (some ⟨g,0,none⟩)::rest).toArray W (bU g A n c V r W)) (W:World) (β:Sx.Env) (hS:Sx.eF ⟨w,S,j2 T w⟩ β W (Sx.rowAt mem) [k]) :
  Calls P f ((Sx.SV.ptr k 0::rest.map .val).map (Sx.SV.den β)).toArray W (Sx.aY ⟨w,S,j2 T w⟩ β W (Sx.rowAt mem) mem.length (eV k g A n c r V)):=
 yE rest hS (by simp) hrow (fun hB=>h W (h0.at hS.aG hj hB).TZ) fun code p chain w' hr hf=>⟨code,p,hT code p hr,hf.up hS.aG.size⟩
end
def nR(g gm b2 b3:Nat)(A:Option Go.Addr)(n c:Nat)(T:Out Mt)(w:World)(e:Ending)(w':World):Prop:=
 (∃m i,T=.ok m i∧i≤n∧e=.returned (.tuple #[])∧au w' g 154 (dJ A n c i)∧au w' gm 66 m.cells∧au w' b2 152 [(pt g 0)]∧au w' b3 217 [(pt gm 0)]∧ai [g,gm,b2,b3] w w')∨
 (∃code p chain,T=.no code p∧e=.panicked chain∧Cm code p w chain w'∧ai [g,gm,b2,b3] w w')
def kA(g gm b2 b3:Nat)(A:Option Go.Addr)(n c i:Nat)(cs:List Value):List Sx.Row:=
 [⟨154,.dF g (dJ A n c i)⟩,⟨66,.dF gm cs⟩,⟨152,.jR b2 [.ptr 0 0]⟩,⟨217,.jR b3 [.ptr 1 0]⟩]
def QV(g gm b2 b3:Nat)(A:Option Go.Addr)(n c:Nat)(T:Out Mt)(l:List Sx.SV)(mem:List Sx.Row):Prop:=∃m i,T=.ok m i∧i≤n∧l=[]∧mem=kA g gm b2 b3 A n c i m.cells
structure D3(w:World)(g gm b2 b3:Nat)(A:Option Go.Addr)(n c i:Nat)(ws:List Bs)(m:Mt):Prop where
 sM:qQ w [g,gm,b2,b3] g A n c i ws
 bm:au w gm 66 m.cells
 bx:au w b2 152 [(pt g 0)]
 TL:au w b3 217 [(pt gm 0)]
 nd:[g,gm,b2,b3].Nodup
theorem oz{P:Program}{w:World}{f:FuncId}{fn:Func}{co:Code}{g gm b2 b3:Nat}{A:Option Go.Addr}{n c i:Nat}{ws:List Bs}{m:Mt}{T:Out Mt}(h:D3 w g gm b2 b3 A n c i ws m)(H:List (Nat×Sx.Hint))(L:List Sx.Loop)
  (hm:P.follows .mixedOrders=true) (hf:P.funcs[f]?=some fn) (hbd:fn.body=some co) (hn:2≤fn.ntmps)
  (hx:Sx.jU P fn.ntmps ⟨w,[g,gm,b2,b3],j2 T w⟩ co H L ⟨Sx.mz 0 [.ptr 2 0,.ptr 3 0],kA g gm b2 b3 A n c i m.cells⟩ (Sx.bY P fn (QV g gm b2 b3 A n c T))) :
  Calls P f #[.pointer (some ⟨b2,0,none⟩),.pointer (some ⟨b3,0,none⟩)] w (nR g gm b2 b3 A n c T w):=by
 have hF:=Sx.gP (w:=w) (S:=[g,gm,b2,b3]) (PP:=j2 T w) (G:=[.b9 g 154 (dJ A n c i),.b9 gm 66 m.cells,.nM b2 152 [.ptr 0 0],.nM b3 217 [.ptr 1 0]]) (fun q hq=>by
  simp only[List.mem_cons,List.not_mem_nil,or_false]at hq
  rcases hq with rfl|rfl|rfl|rfl
  ·exact h.sM.b9
  ·exact h.bm
  ·exact h.bx
  ·exact h.TL) (fun q hq k hk=>by
  simp only[List.mem_cons,List.not_mem_nil,or_false]at hq
  rcases hq with rfl|rfl|rfl|rfl<;>cases hk<;>simp) h.nd
 refine(Sx.aZ (args:=[.ptr 2 0,.ptr 3 0]) hF H L hm hf hbd hn rfl hx).mono fun e w' hp=>?_
 rcases hp with⟨β,l,mem,⟨m',i',h1,h2,rfl,rfl⟩,he,hR⟩ | ⟨chain,he,⟨code,p,h1,hf⟩,hc⟩
 ·have r0:=hR.held 0 _ rfl
  have r1:=hR.held 1 _ rfl
  have r2:=hR.held 2 _ rfl
  have r3:=hR.held 3 _ rfl
  have e0:β 0=g:=r0.1
  have e1:β 1=gm:=r1.1
  have e2:β 2=b2:=r2.1
  have e3:β 3=b3:=r3.1
  refine .inl ⟨m',i',h1,h2,he,e0 ▸ r0.2,e1 ▸ r1.2,?_,?_,hR.aG⟩
  ·have:=r2.2
   rw[e2]at this
   have hh:([Sx.SV.ptr 0 0].map (Sx.SV.den β))=[.pointer (some ⟨g,0,none⟩)]:=by show [Value.pointer (some ⟨β 0,0,none⟩)]=_;rw[e0]
   rw[hh]at this
   exact this
  ·have:=r3.2
   rw[e3]at this
   have hh:([Sx.SV.ptr 1 0].map (Sx.SV.den β))=[.pointer (some ⟨gm,0,none⟩)]:=by show [Value.pointer (some ⟨β 1,0,none⟩)]=_;rw[e1]
   rw[hh]at this
   exact this
 ·exact .inr ⟨code,p,chain,h1,he,hf,hc⟩
def Fo(g gm:Nat)(A:Option Go.Addr)(n c:Nat)(T:Out Mt):Sx.cC:=⟨[0,1,2,3],[(0,⟨154,.dF g (dJ A n c T.pos)⟩),(1,⟨66,.dF gm T.val.cells⟩),(2,⟨152,.dK [.ptr 0 0]⟩),(3,⟨217,.dK [.ptr 1 0]⟩)],[],[],.val (.tuple #[]),some (T.okB=true∧T.pos≤n)⟩
def dW(g gm:Nat)(A:Option Go.Addr)(n c i:Nat)(cs:List Value):List Sx.Row:=[⟨154,.dF g (dJ A n c i)⟩,⟨66,.dF gm cs⟩,⟨152,.dK [.ptr 0 0]⟩,⟨217,.dK [.ptr 1 0]⟩]
theorem xM{γ:Type}{P:Program}{w:World}{f g gm n c i j:Nat}{A:Option Go.Addr}{ws:List Bs}{m:Mt}{T:Out Mt}{TT:Out γ}(h0:qQ w [g,gm] g A n c i ws)(hj:j≤n)(hT:∀code p,T=.no code p→TT=.no code p)
  (h:∀W b2 b3,D3 W g gm b2 b3 A n c j ws m→Calls P f #[.pointer (some ⟨b2,0,none⟩),.pointer (some ⟨b3,0,none⟩)] W (nR g gm b2 b3 A n c T W)) (W:World) (β:Sx.Env) (hS:Sx.eF ⟨w,[g,gm],j2 TT w⟩ β W (Sx.rowAt (dW g gm A n c j m.cells)) [0,1,2,3]) :
  Calls P f (([.ptr 2 0,.ptr 3 0]:List Sx.SV).map (Sx.SV.den β)).toArray W (Sx.aY ⟨w,[g,gm],j2 TT w⟩ β W (Sx.rowAt (dW g gm A n c j m.cells)) 4 (Fo g gm A n c T)):=by
 have r0:=hS.held 0 (by simp) _ rfl
 have r1:=hS.held 1 (by simp) _ rfl
 have r2:au W (β 2) 152 [.pointer (some ⟨β 0,0,none⟩)]:=hS.held 2 (by simp) _ rfl
 have r3:au W (β 3) 217 [.pointer (some ⟨β 1,0,none⟩)]:=hS.held 3 (by simp) _ rfl
 have e0:β 0=g:=r0.1
 have e1:β 1=gm:=r1.1
 have r0:au W g 154 (dJ A n c j):=e0 ▸ r0.2
 have r1:au W gm 66 m.cells:=e1 ▸ r1.2
 rw[e0]at r2
 rw[e1]at r3
 have hne:∀{a b:Nat},a∈[0,1,2,3]→b∈[0,1,2,3]→a≠b→β a≠β b:=fun {a b} ha hb hab he=>by
  have bl:∀k∈[0,1,2,3],∃r,Sx.rowAt (dW g gm A n c j m.cells) k=some r∧Sx.av β k r=some (β k):=fun k hk=>by
   simp only[List.mem_cons,List.not_mem_nil,or_false]at hk
   rcases hk with rfl|rfl|rfl|rfl<;>exact⟨_,rfl,rfl⟩
  obtain⟨ra,h1,h2⟩:=bl a ha
  obtain⟨rb,h3,h4⟩:=bl b hb
  exact hab (hS.inj a ha b hb ra rb (β a) h1 h3 h2 (by rw[h4,he]))
 have h01:=hne (a:=0) (b:=1) (by simp) (by simp) (by decide)
 have h02:=hne (a:=0) (b:=2) (by simp) (by simp) (by decide)
 have h03:=hne (a:=0) (b:=3) (by simp) (by simp) (by decide)
 have h12:=hne (a:=1) (b:=2) (by simp) (by simp) (by decide)
 have h13:=hne (a:=1) (b:=3) (by simp) (by simp) (by decide)
 have h23:=hne (a:=2) (b:=3) (by simp) (by simp) (by decide)
 rw[e0]at h01 h02 h03
 rw[e1]at h01 h12 h13
 have n2:=hS.new 2 (by simp) _ (β 2) rfl rfl
 have n3:=hS.new 3 (by simp) _ (β 3) rfl rfl
 have hC:D3 W g gm (β 2) (β 3) A n c j ws m:=⟨h0.add hS.aG hj r0 (fun x hx=>by
  simp only[List.mem_cons,List.not_mem_nil,or_false]at hx
  rcases hx with rfl|rfl|rfl|rfl
  ·exact .inl (by simp)
  ·exact .inl (by simp)
  ·exact n2
  ·exact n3) (by simp),r1,r2,r3,by simp[h01,h02,h03,h12,h13,h23]⟩
 have ht:Sx.cC.ec β (Sx.rowAt (dW g gm A n c j m.cells)) (Fo g gm A n c T)=[g,gm,β 2,β 3]:=by
  show [β 0,β 1,β 2,β 3]=_
  rw[e0,e1]
 refine(h W (β 2) (β 3) hC).mono fun e w' hp=>?_
 rcases hp with⟨m',i',rfl,hi,he,b0,b1,b2,b3,hc⟩ | ⟨code,p,chain,hT',he,hf,hc⟩
 ·refine .inl ⟨fun p hp=>by cases hp;exact⟨rfl,hi⟩,β,Sx.du (v:=.tuple #[]) rfl rfl he (fun q hq=>?_) (by rw[ht];exact hc)⟩
  have hq:q=(0,⟨154,.dF g (dJ A n c i')⟩)∨q=(1,⟨66,.dF gm m'.cells⟩)∨q=(2,⟨152,.dK [.ptr 0 0]⟩)∨q=(3,⟨217,.dK [.ptr 1 0]⟩):=by
   have:q∈[(0,(⟨154,.dF g (dJ A n c i')⟩:Sx.Row)),(1,⟨66,.dF gm m'.cells⟩),(2,⟨152,.dK [.ptr 0 0]⟩),(3,⟨217,.dK [.ptr 1 0]⟩)]:=hq
   simpa using this
  rcases hq with rfl|rfl|rfl|rfl
  ·exact⟨e0,by show au w' (β 0) _ _;rw[e0];exact b0⟩
  ·exact⟨e1,by show au w' (β 1) _ _;rw[e1];exact b1⟩
  ·show au w' (β 2) 152 [.pointer (some ⟨β 0,0,none⟩)]
   rw[e0];exact b2
  ·show au w' (β 3) 217 [.pointer (some ⟨β 1,0,none⟩)]
   rw[e1];exact b3
 ·exact .inr ⟨rfl,chain,he,⟨code,p,hT code p hT',hf.up hS.aG.size⟩,by rw[ht];exact hc⟩
def iL(g gm:Nat)(A:Option Go.Addr)(n c:Nat)(T:Out (Bool×Mt))(w:World)(e:Ending)(w':World):Prop:=
 (∃q i,T=.ok q i∧i≤n∧e=.returned (.bool q.1)∧au w' g 154 (dJ A n c i)∧au w' gm 66 q.2.cells∧ai [g,gm] w w')∨
 (∃code p chain,T=.no code p∧e=.panicked chain∧Cm code p w chain w'∧ai [g,gm] w w')
def OC(g gm:Nat)(A:Option Go.Addr)(n c:Nat)(T:Out (Bool×Mt))(l:List Sx.SV)(mem:List Sx.Row):Prop:=∃b m i ms,T=.ok (b,m) i∧i≤n∧l=[.val (.bool b)]∧mem=⟨154,.dF g (dJ A n c i)⟩::⟨66,.dF gm m.cells⟩::ms
theorem ky{P:Program}{w:World}{f:FuncId}{fn:Func}{co:Code}{g gm:Nat}{A:Option Go.Addr}{n c i:Nat}{ws:List Bs}{m:Mt}{T:Out (Bool×Mt)}(h:qQ w [g,gm] g A n c i ws)(hbm:au w gm 66 m.cells)(hne:g≠gm)(H:List (Nat×Sx.Hint))(L:List Sx.Loop)
  (hm:P.follows .mixedOrders=true) (hf:P.funcs[f]?=some fn) (hbd:fn.body=some co) (hn:2≤fn.ntmps)
  (hx:Sx.jU P fn.ntmps ⟨w,[g,gm],j2 T w⟩ co H L ⟨Sx.mz 0 [.ptr 0 0,.ptr 1 0],[⟨154,.dF g (dJ A n c i)⟩,⟨66,.dF gm m.cells⟩]⟩ (Sx.bY P fn (OC g gm A n c T))) :
  Calls P f #[.pointer (some ⟨g,0,none⟩),.pointer (some ⟨gm,0,none⟩)] w (iL g gm A n c T w):=by
 have hF:=Sx.gP (w:=w) (S:=[g,gm]) (PP:=j2 T w) (G:=[.b9 g 154 (dJ A n c i),.b9 gm 66 m.cells]) (fun q hq=>by
  simp only[List.mem_cons,List.not_mem_nil,or_false]at hq
  rcases hq with rfl|rfl
  ·exact h.b9
  ·exact hbm) (fun q hq k hk=>by
  simp only[List.mem_cons,List.not_mem_nil,or_false]at hq
  rcases hq with rfl|rfl<;>cases hk<;>simp) (by simpa[Sx.kF.block]using hne)
 refine(Sx.aZ (args:=[.ptr 0 0,.ptr 1 0]) hF H L hm hf hbd hn rfl hx).mono fun e w' hp=>?_
 rcases hp with⟨β,l,mem,⟨b,m',i',ms,h1,h2,rfl,rfl⟩,he,hR⟩ | ⟨chain,he,⟨code,p,h1,hf⟩,hc⟩
 ·have r0:=hR.held 0 _ rfl
  have r1:=hR.held 1 _ rfl
  have e0:β 0=g:=r0.1
  have e1:β 1=gm:=r1.1
  exact .inl ⟨(b,m'),i',h1,h2,he,e0 ▸ r0.2,e1 ▸ r1.2,hR.aG⟩
 ·exact .inr ⟨code,p,chain,h1,he,hf,hc⟩
set_option maxRecDepth 100000
open Go.RowKit Go.Lib Go.Sort _root_.Go.Proofs.Tryz
set_option maxRecDepth 100000
theorem Ga{w:World}{g gm b2 b3:Nat}{A:Option Go.Addr}{n c i:Nat}{ws:List Bs}{m:Mt}(h:D3 w g gm b2 b3 A n c i ws m):Calls prog 204 #[(pt b2 0),(pt b3 0)] w (nR g gm b2 b3 A n c (bu 0 m ws i) w):=by
 have e1:bu 0 m ws i=(jj ws i).bind fun s j=>.ok { m with ff:=s } j:=rfl
 have n1:=fun W (hL:eJ W g A n c i ws)=>yD hL
 generalize bu 0 m ws i=T at e1 ⊢
 generalize jj ws i=r at e1 n1
 have c4:=gj 0 (kA g gm b2 b3 A n c i m.cells) [] h.sM h.sM.le (cj e1) rfl n1
 have z1f:=fun(hp:r.okB=true∧r.pos≤n)=>(show QV g gm b2 b3 A n c T [] (kA g gm b2 b3 A n c r.pos ({ m with ff:=r.val }:Mt).cells)from⟨({ m with ff:=r.val }:Mt),r.pos,bZ e1 hp.1,hp.2,rfl,rfl⟩)
 have z3f:=fun(_:¬(r.okB=true∧r.pos≤n))=>trivial
 refine oz h [(4,.aq (eV 0 g A n c r iV))] [] (by kernel_rfl) func204 rfl (cn rfl) ?_
 exact Eq.mp (by kernel_rfl) (Sx.t2 c4 (fun(hx0:r.okB=true∧r.pos≤n)=>(z1f hx0)) (fun(hx2:¬(r.okB=true∧r.pos≤n))=>(z3f hx2)))
theorem F9{w:World}{g gm b2 b3:Nat}{A:Option Go.Addr}{n c i:Nat}{ws:List Bs}{m:Mt}(h:D3 w g gm b2 b3 A n c i ws m):Calls prog 206 #[(pt b2 0),(pt b3 0)] w (nR g gm b2 b3 A n c (bu 1 m ws i) w):=by
 have e1:bu 1 m ws i=(dV ws i).bind fun s j=>.ok { m with src:=s } j:=rfl
 have n1:=fun W (hL:eJ W g A n c i ws)=>ry hL
 generalize bu 1 m ws i=T at e1 ⊢
 generalize dV ws i=r at e1 n1
 have c4:=gj 0 (kA g gm b2 b3 A n c i m.cells) [] h.sM h.sM.le (cj e1) rfl n1
 have z1f:=fun(hp:r.okB=true∧r.pos≤n)=>(show QV g gm b2 b3 A n c T [] (kA g gm b2 b3 A n c r.pos ({ m with src:=r.val }:Mt).cells)from⟨({ m with src:=r.val }:Mt),r.pos,bZ e1 hp.1,hp.2,rfl,rfl⟩)
 have z3f:=fun(_:¬(r.okB=true∧r.pos≤n))=>trivial
 refine oz h [(4,.aq (eV 0 g A n c r n9))] [] (by kernel_rfl) func206 rfl (cn rfl) ?_
 exact Eq.mp (by kernel_rfl) (Sx.t2 c4 (fun(hx0:r.okB=true∧r.pos≤n)=>(z1f hx0)) (fun(hx2:¬(r.okB=true∧r.pos≤n))=>(z3f hx2)))
theorem F8{w:World}{g gm b2 b3:Nat}{A:Option Go.Addr}{n c i:Nat}{ws:List Bs}{m:Mt}(h:D3 w g gm b2 b3 A n c i ws m):Calls prog 207 #[(pt b2 0),(pt b3 0)] w (nR g gm b2 b3 A n c (bu 2 m ws i) w):=by
 have e1:bu 2 m ws i=(dV ws i).bind fun s j=>.ok { m with dst:=s } j:=rfl
 have n1:=fun W (hL:eJ W g A n c i ws)=>ry hL
 generalize bu 2 m ws i=T at e1 ⊢
 generalize dV ws i=r at e1 n1
 have c4:=gj 0 (kA g gm b2 b3 A n c i m.cells) [] h.sM h.sM.le (cj e1) rfl n1
 have z1f:=fun(hp:r.okB=true∧r.pos≤n)=>(show QV g gm b2 b3 A n c T [] (kA g gm b2 b3 A n c r.pos ({ m with dst:=r.val }:Mt).cells)from⟨({ m with dst:=r.val }:Mt),r.pos,bZ e1 hp.1,hp.2,rfl,rfl⟩)
 have z3f:=fun(_:¬(r.okB=true∧r.pos≤n))=>trivial
 refine oz h [(4,.aq (eV 0 g A n c r n9))] [] (by kernel_rfl) func207 rfl (cn rfl) ?_
 exact Eq.mp (by kernel_rfl) (Sx.t2 c4 (fun(hx0:r.okB=true∧r.pos≤n)=>(z1f hx0)) (fun(hx2:¬(r.okB=true∧r.pos≤n))=>(z3f hx2)))
theorem F7{w:World}{g gm b2 b3:Nat}{A:Option Go.Addr}{n c i:Nat}{ws:List Bs}{m:Mt}(h:D3 w g gm b2 b3 A n c i ws m):Calls prog 208 #[(pt b2 0),(pt b3 0)] w (nR g gm b2 b3 A n c (bu 3 m ws i) w):=by
 have e1:bu 3 m ws i=(eB ws i).bind fun s j=>.ok { m with bb:=s } j:=rfl
 have n1:=fun W (hL:eJ W g A n c i ws)=>JF hL
 generalize bu 3 m ws i=T at e1 ⊢
 generalize eB ws i=r at e1 n1
 have c4:=gj 0 (kA g gm b2 b3 A n c i m.cells) [] h.sM h.sM.le (cj e1) rfl n1
 have z1f:=fun(hp:r.okB=true∧r.pos≤n)=>(show QV g gm b2 b3 A n c T [] (kA g gm b2 b3 A n c r.pos ({ m with bb:=r.val }:Mt).cells)from⟨({ m with bb:=r.val }:Mt),r.pos,bZ e1 hp.1,hp.2,rfl,rfl⟩)
 have z3f:=fun(_:¬(r.okB=true∧r.pos≤n))=>trivial
 refine oz h [(4,.aq (eV 0 g A n c r OH))] [] (by kernel_rfl) func208 rfl (cn rfl) ?_
 exact Eq.mp (by kernel_rfl) (Sx.t2 c4 (fun(hx0:r.okB=true∧r.pos≤n)=>(z1f hx0)) (fun(hx2:¬(r.okB=true∧r.pos≤n))=>(z3f hx2)))
theorem F6{w:World}{g gm b2 b3:Nat}{A:Option Go.Addr}{n c i:Nat}{ws:List Bs}{m:Mt}(h:D3 w g gm b2 b3 A n c i ws m):Calls prog 210 #[(pt b2 0),(pt b3 0)] w (nR g gm b2 b3 A n c (bu 4 m ws i) w):=by
 have e1:bu 4 m ws i=(jj ws i).bind fun s j=>.ok { m with sp:=s } j:=rfl
 have n1:=fun W (hL:eJ W g A n c i ws)=>yD hL
 generalize bu 4 m ws i=T at e1 ⊢
 generalize jj ws i=r at e1 n1
 have c4:=gj 0 (kA g gm b2 b3 A n c i m.cells) [] h.sM h.sM.le (cj e1) rfl n1
 have z1f:=fun(hp:r.okB=true∧r.pos≤n)=>(show QV g gm b2 b3 A n c T [] (kA g gm b2 b3 A n c r.pos ({ m with sp:=r.val }:Mt).cells)from⟨({ m with sp:=r.val }:Mt),r.pos,bZ e1 hp.1,hp.2,rfl,rfl⟩)
 have z3f:=fun(_:¬(r.okB=true∧r.pos≤n))=>trivial
 refine oz h [(4,.aq (eV 0 g A n c r iV))] [] (by kernel_rfl) func210 rfl (cn rfl) ?_
 exact Eq.mp (by kernel_rfl) (Sx.t2 c4 (fun(hx0:r.okB=true∧r.pos≤n)=>(z1f hx0)) (fun(hx2:¬(r.okB=true∧r.pos≤n))=>(z3f hx2)))
theorem F5{w:World}{g gm b2 b3:Nat}{A:Option Go.Addr}{n c i:Nat}{ws:List Bs}{m:Mt}(h:D3 w g gm b2 b3 A n c i ws m):Calls prog 211 #[(pt b2 0),(pt b3 0)] w (nR g gm b2 b3 A n c (bu 5 m ws i) w):=by
 have e1:bu 5 m ws i=(jj ws i).bind fun s j=>.ok { m with dp:=s } j:=rfl
 have n1:=fun W (hL:eJ W g A n c i ws)=>yD hL
 generalize bu 5 m ws i=T at e1 ⊢
 generalize jj ws i=r at e1 n1
 have c4:=gj 0 (kA g gm b2 b3 A n c i m.cells) [] h.sM h.sM.le (cj e1) rfl n1
 have z1f:=fun(hp:r.okB=true∧r.pos≤n)=>(show QV g gm b2 b3 A n c T [] (kA g gm b2 b3 A n c r.pos ({ m with dp:=r.val }:Mt).cells)from⟨({ m with dp:=r.val }:Mt),r.pos,bZ e1 hp.1,hp.2,rfl,rfl⟩)
 have z3f:=fun(_:¬(r.okB=true∧r.pos≤n))=>trivial
 refine oz h [(4,.aq (eV 0 g A n c r iV))] [] (by kernel_rfl) func211 rfl (cn rfl) ?_
 exact Eq.mp (by kernel_rfl) (Sx.t2 c4 (fun(hx0:r.okB=true∧r.pos≤n)=>(z1f hx0)) (fun(hx2:¬(r.okB=true∧r.pos≤n))=>(z3f hx2)))
end Go.Proofs.YtnncigmpcdehnaaGreatDoor
