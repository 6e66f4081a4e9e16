import Derived.Test.YtnncigmpcdehnaaGreatDoorQc16
namespace Go.Proofs.YtnncigmpcdehnaaGreatDoor
open Go.RowKit Go.Lib Go.Sort
structure py(w:World)(S:List Nat)(g:Nat)(A:Option Go.Addr)(n c i:Nat)(ws:List Bs):Prop where
 bM:aq w g 154 (cW A n c i)
 kt:zG w S A n ws
 le:i≤n
 bd:n≤1000000
 pX:dy w
 s9:∀k∈S,9≤k
 gS:g∈S
 sz:∀x∈ws,x.length≤100000000
section
variable{w W:World}{S:List Nat}{g:Nat}{A:Option Go.Addr}{n c i j:Nat}{ws:List Bs}
theorem py.Qb(h:py w S g A n c i ws):dw w g A n c i ws:=
 ⟨h.bM,h.kt.sub fun x hx=>by rw[List.mem_singleton.1 hx];exact h.gS,h.le,h.bd,h.pX,h.s9 g h.gS,h.sz⟩
theorem dw.dS(h:dw w g A n c i ws):py w [g] g A n c i ws:=
 ⟨h.bM,h.kt,h.le,h.bd,h.pX,fun k hk=>by rw[List.mem_singleton.1 hk];exact h.g9,by simp,h.sz⟩
theorem py.at(h:py w S g A n c i ws)(hc:ah S w W)(hj:j≤n)(hb:aq W g 154 (cW A n c j)):py W S g A n c j ws:=
 ⟨hb,h.kt.az hc,hj,h.bd,h.pX.az hc h.s9,h.s9,h.gS,h.sz⟩
theorem py.add{S':List Nat}(h:py w S g A n c i ws)(hc:ah S w W)(hj:j≤n)(hb:aq W g 154 (cW A n c j))(hs:∀x∈S',x∈S∨w.heap.size≤x)(hg:g∈S'):py W S' g A n c j ws:=by
 refine⟨hb,⟨h.kt.len,fun h0=>?_⟩,hj,h.bd,h.pX.az hc h.s9,fun k hk=>?_,hg,h.sz⟩
 ·obtain⟨b,o,h1,h2,h3,h4⟩:=h.kt.row h0
  refine⟨b,o,h1,fun hb=>?_,Nat.lt_of_lt_of_le h3 hc.size,fun k y hy=>(hc.cell (p:=⟨b,o+k,none⟩) h3 h2).trans (h4 k y hy)⟩
  rcases hs b hb with hx|hx
  ·exact h2 hx
  ·omega
 ·rcases hs k hk with hx|hx
  ·exact h.s9 k hx
  ·have:=h.pX.low;omega
theorem aS{α γ:Type} [Inhabited α]{P:Program}{f:FuncId}{V:α→Value}{r:Out α}{T:Out γ}(k:Nat)(mem:List Sx.Row)(rest:List Value)(h0:py w S g A n c i ws)(hj:j≤n)(hT:∀code p,r=.no code p→T=.no code p)
  (hrow:mem[k]?=some ⟨154,.cx g (cW A n c j)⟩)
  (h:∀W,dw W g A n c j ws→Calls P f (.pointer (some ⟨g,0,none⟩)::rest).toArray W (aO g A n c V r W)) (W:World) (β:Sx.Env) (hS:Sx.dz ⟨w,S,jr T w⟩ β W (Sx.rowAt mem) [k]) :
  Calls P f ((Sx.SV.ptr k 0::rest.map .val).map (Sx.SV.den β)).toArray W (Sx.aQ ⟨w,S,jr T w⟩ β W (Sx.rowAt mem) mem.length (cB k g A n c r V)):=
 vU rest hS (by simp) hrow (fun hB=>h W (h0.at hS.az hj hB).Qb) fun code p chain w' hr hf=>⟨code,p,hT code p hr,hf.up hS.az.size⟩
end
def mC(g gm b2 b3:Nat)(A:Option Go.Addr)(n c:Nat)(T:Out Mt)(w:World)(e:Ending)(w':World):Prop:=
 (∃m i,T=.ok m i∧i≤n∧e=.returned (.tuple #[])∧aq w' g 154 (cW A n c i)∧aq w' gm 66 m.cells∧aq w' b2 152 [.pointer (some ⟨g,0,none⟩)]∧aq w' b3 217 [.pointer (some ⟨gm,0,none⟩)]∧ah [g,gm,b2,b3] w w')∨
 (∃code p chain,T=.no code p∧e=.panicked chain∧wZ code p w chain w'∧ah [g,gm,b2,b3] w w')
def jJ(g gm b2 b3:Nat)(A:Option Go.Addr)(n c i:Nat)(cs:List Value):List Sx.Row:=
 [⟨154,.cx g (cW A n c i)⟩,⟨66,.cx gm cs⟩,⟨152,.fW b2 [.ptr 0 0]⟩,⟨217,.fW b3 [.ptr 1 0]⟩]
def Ns(g gm b2 b3:Nat)(A:Option Go.Addr)(n c:Nat)(T:Out Mt)(l:List Sx.SV)(mem:List Sx.Row):Prop:=∃m i,T=.ok m i∧i≤n∧l=[]∧mem=jJ g gm b2 b3 A n c i m.cells
structure BB(w:World)(g gm b2 b3:Nat)(A:Option Go.Addr)(n c i:Nat)(ws:List Bs)(m:Mt):Prop where
 dS:py w [g,gm,b2,b3] g A n c i ws
 bm:aq w gm 66 m.cells
 bx:aq w b2 152 [.pointer (some ⟨g,0,none⟩)]
 P1:aq w b3 217 [.pointer (some ⟨gm,0,none⟩)]
 nd:[g,gm,b2,b3].Nodup
theorem nf{P:Program}{w:World}{f:FuncId}{fn:Func}{co:Code}{g gm b2 b3:Nat}{A:Option Go.Addr}{n c i:Nat}{ws:List Bs}{m:Mt}{T:Out Mt}(h:BB w g gm b2 b3 A n c i ws m)(H:List (Nat×Sx.Hint))(L:List Sx.Loop)
  (hm:P.follows .mixedOrders=true) (hf:P.funcs[f]?=some fn) (hbd:fn.body=some co) (hn:2≤fn.ntmps)
  (hx:Sx.iz P fn.ntmps ⟨w,[g,gm,b2,b3],jr T w⟩ co H L ⟨Sx.lu 0 [.ptr 2 0,.ptr 3 0],jJ g gm b2 b3 A n c i m.cells⟩ (Sx.bN P fn (Ns g gm b2 b3 A n c T))) :
  Calls P f #[.pointer (some ⟨b2,0,none⟩),.pointer (some ⟨b3,0,none⟩)] w (mC g gm b2 b3 A n c T w):=by
 have hF:=Sx.ga (w:=w) (S:=[g,gm,b2,b3]) (PP:=jr T w) (G:=[.bM g 154 (cW A n c i),.bM gm 66 m.cells,.mu b2 152 [.ptr 0 0],.mu b3 217 [.ptr 1 0]]) (fun q hq=>by
  simp only[List.mem_cons,List.not_mem_nil,or_false]at hq
  rcases hq with rfl|rfl|rfl|rfl
  ·exact h.dS.bM
  ·exact h.bm
  ·exact h.bx
  ·exact h.P1) (fun q hq k hk=>by
  simp only[List.mem_cons,List.not_mem_nil,or_false]at hq
  rcases hq with rfl|rfl|rfl|rfl<;>cases hk<;>simp) h.nd
 refine(Sx.aW (args:=[.ptr 2 0,.ptr 3 0]) hF H L hm hf hbd hn rfl hx).mono fun e w' hp=>?_
 rcases hp with⟨β,l,mem,⟨m',i',h1,h2,rfl,rfl⟩,he,hR⟩ | ⟨chain,he,⟨code,p,h1,hf⟩,hc⟩
 ·have r0:=hR.held 0 _ rfl
  have r1:=hR.held 1 _ rfl
  have r2:=hR.held 2 _ rfl
  have r3:=hR.held 3 _ rfl
  have e0:β 0=g:=r0.1
  have e1:β 1=gm:=r1.1
  have e2:β 2=b2:=r2.1
  have e3:β 3=b3:=r3.1
  refine .inl ⟨m',i',h1,h2,he,e0 ▸ r0.2,e1 ▸ r1.2,?_,?_,hR.az⟩
  ·have:=r2.2
   rw[e2]at this
   have hh:([Sx.SV.ptr 0 0].map (Sx.SV.den β))=[.pointer (some ⟨g,0,none⟩)]:=by show [Value.pointer (some ⟨β 0,0,none⟩)]=_;rw[e0]
   rw[hh]at this
   exact this
  ·have:=r3.2
   rw[e3]at this
   have hh:([Sx.SV.ptr 1 0].map (Sx.SV.den β))=[.pointer (some ⟨gm,0,none⟩)]:=by show [Value.pointer (some ⟨β 1,0,none⟩)]=_;rw[e1]
   rw[hh]at this
   exact this
 ·exact .inr ⟨code,p,chain,h1,he,hf,hc⟩
def CV(g gm:Nat)(A:Option Go.Addr)(n c:Nat)(T:Out Mt):Sx.cj:=⟨[0,1,2,3],[(0,⟨154,.cx g (cW A n c T.pos)⟩),(1,⟨66,.cx gm T.val.cells⟩),(2,⟨152,.dm [.ptr 0 0]⟩),(3,⟨217,.dm [.ptr 1 0]⟩)],[],[],.val (.tuple #[]),some (T.okB=true∧T.pos≤n)⟩
def dG(g gm:Nat)(A:Option Go.Addr)(n c i:Nat)(cs:List Value):List Sx.Row:=[⟨154,.cx g (cW A n c i)⟩,⟨66,.cx gm cs⟩,⟨152,.dm [.ptr 0 0]⟩,⟨217,.dm [.ptr 1 0]⟩]
theorem vd{γ:Type}{P:Program}{w:World}{f g gm n c i j:Nat}{A:Option Go.Addr}{ws:List Bs}{m:Mt}{T:Out Mt}{TT:Out γ}(h0:py w [g,gm] g A n c i ws)(hj:j≤n)(hT:∀code p,T=.no code p→TT=.no code p)
  (h:∀W b2 b3,BB W g gm b2 b3 A n c j ws m→Calls P f #[.pointer (some ⟨b2,0,none⟩),.pointer (some ⟨b3,0,none⟩)] W (mC g gm b2 b3 A n c T W)) (W:World) (β:Sx.Env) (hS:Sx.dz ⟨w,[g,gm],jr TT w⟩ β W (Sx.rowAt (dG g gm A n c j m.cells)) [0,1,2,3]) :
  Calls P f (([.ptr 2 0,.ptr 3 0]:List Sx.SV).map (Sx.SV.den β)).toArray W (Sx.aQ ⟨w,[g,gm],jr TT w⟩ β W (Sx.rowAt (dG g gm A n c j m.cells)) 4 (CV g gm A n c T)):=by
 have r0:=hS.held 0 (by simp) _ rfl
 have r1:=hS.held 1 (by simp) _ rfl
 have r2:aq W (β 2) 152 [.pointer (some ⟨β 0,0,none⟩)]:=hS.held 2 (by simp) _ rfl
 have r3:aq W (β 3) 217 [.pointer (some ⟨β 1,0,none⟩)]:=hS.held 3 (by simp) _ rfl
 have e0:β 0=g:=r0.1
 have e1:β 1=gm:=r1.1
 have r0:aq W g 154 (cW A n c j):=e0 ▸ r0.2
 have r1:aq W gm 66 m.cells:=e1 ▸ r1.2
 rw[e0]at r2
 rw[e1]at r3
 have hne:∀{a b:Nat},a∈[0,1,2,3]→b∈[0,1,2,3]→a≠b→β a≠β b:=fun {a b} ha hb hab he=>by
  have bl:∀k∈[0,1,2,3],∃r,Sx.rowAt (dG g gm A n c j m.cells) k=some r∧Sx.aw β k r=some (β k):=fun k hk=>by
   simp only[List.mem_cons,List.not_mem_nil,or_false]at hk
   rcases hk with rfl|rfl|rfl|rfl<;>exact⟨_,rfl,rfl⟩
  obtain⟨ra,h1,h2⟩:=bl a ha
  obtain⟨rb,h3,h4⟩:=bl b hb
  exact hab (hS.inj a ha b hb ra rb (β a) h1 h3 h2 (by rw[h4,he]))
 have h01:=hne (a:=0) (b:=1) (by simp) (by simp) (by decide)
 have h02:=hne (a:=0) (b:=2) (by simp) (by simp) (by decide)
 have h03:=hne (a:=0) (b:=3) (by simp) (by simp) (by decide)
 have h12:=hne (a:=1) (b:=2) (by simp) (by simp) (by decide)
 have h13:=hne (a:=1) (b:=3) (by simp) (by simp) (by decide)
 have h23:=hne (a:=2) (b:=3) (by simp) (by simp) (by decide)
 rw[e0]at h01 h02 h03
 rw[e1]at h01 h12 h13
 have n2:=hS.new 2 (by simp) _ (β 2) rfl rfl
 have n3:=hS.new 3 (by simp) _ (β 3) rfl rfl
 have hC:BB W g gm (β 2) (β 3) A n c j ws m:=⟨h0.add hS.az hj r0 (fun x hx=>by
  simp only[List.mem_cons,List.not_mem_nil,or_false]at hx
  rcases hx with rfl|rfl|rfl|rfl
  ·exact .inl (by simp)
  ·exact .inl (by simp)
  ·exact n2
  ·exact n3) (by simp),r1,r2,r3,by simp[h01,h02,h03,h12,h13,h23]⟩
 have ht:Sx.cj.dI β (Sx.rowAt (dG g gm A n c j m.cells)) (CV g gm A n c T)=[g,gm,β 2,β 3]:=by
  show [β 0,β 1,β 2,β 3]=_
  rw[e0,e1]
 refine(h W (β 2) (β 3) hC).mono fun e w' hp=>?_
 rcases hp with⟨m',i',rfl,hi,he,b0,b1,b2,b3,hc⟩ | ⟨code,p,chain,hT',he,hf,hc⟩
 ·refine .inl ⟨fun p hp=>by cases hp;exact⟨rfl,hi⟩,β,Sx.cN (v:=.tuple #[]) rfl rfl he (fun q hq=>?_) (by rw[ht];exact hc)⟩
  have hq:q=(0,⟨154,.cx g (cW A n c i')⟩)∨q=(1,⟨66,.cx gm m'.cells⟩)∨q=(2,⟨152,.dm [.ptr 0 0]⟩)∨q=(3,⟨217,.dm [.ptr 1 0]⟩):=by
   have:q∈[(0,(⟨154,.cx g (cW A n c i')⟩:Sx.Row)),(1,⟨66,.cx gm m'.cells⟩),(2,⟨152,.dm [.ptr 0 0]⟩),(3,⟨217,.dm [.ptr 1 0]⟩)]:=hq
   simpa using this
  rcases hq with rfl|rfl|rfl|rfl
  ·exact⟨e0,by show aq w' (β 0) _ _;rw[e0];exact b0⟩
  ·exact⟨e1,by show aq w' (β 1) _ _;rw[e1];exact b1⟩
  ·show aq w' (β 2) 152 [.pointer (some ⟨β 0,0,none⟩)]
   rw[e0];exact b2
  ·show aq w' (β 3) 217 [.pointer (some ⟨β 1,0,none⟩)]
   rw[e1];exact b3
 ·exact .inr ⟨rfl,chain,he,⟨code,p,hT code p hT',hf.up hS.az.size⟩,by rw[ht];exact hc⟩
def gQ(g gm:Nat)(A:Option Go.Addr)(n c:Nat)(T:Out (Bool×Mt))(w:World)(e:Ending)(w':World):Prop:=
 (∃q i,T=.ok q i∧i≤n∧e=.returned (.bool q.1)∧aq w' g 154 (cW A n c i)∧aq w' gm 66 q.2.cells∧ah [g,gm] w w')∨
 (∃code p chain,T=.no code p∧e=.panicked chain∧wZ code p w chain w'∧ah [g,gm] w w')
def Le(g gm:Nat)(A:Option Go.Addr)(n c:Nat)(T:Out (Bool×Mt))(l:List Sx.SV)(mem:List Sx.Row):Prop:=∃b m i ms,T=.ok (b,m) i∧i≤n∧l=[.val (.bool b)]∧mem=⟨154,.cx g (cW A n c i)⟩::⟨66,.cx gm m.cells⟩::ms
theorem jH{P:Program}{w:World}{f:FuncId}{fn:Func}{co:Code}{g gm:Nat}{A:Option Go.Addr}{n c i:Nat}{ws:List Bs}{m:Mt}{T:Out (Bool×Mt)}(h:py w [g,gm] g A n c i ws)(hbm:aq w gm 66 m.cells)(hne:g≠gm)(H:List (Nat×Sx.Hint))(L:List Sx.Loop)
  (hm:P.follows .mixedOrders=true) (hf:P.funcs[f]?=some fn) (hbd:fn.body=some co) (hn:2≤fn.ntmps)
  (hx:Sx.iz P fn.ntmps ⟨w,[g,gm],jr T w⟩ co H L ⟨Sx.lu 0 [.ptr 0 0,.ptr 1 0],[⟨154,.cx g (cW A n c i)⟩,⟨66,.cx gm m.cells⟩]⟩ (Sx.bN P fn (Le g gm A n c T))) :
  Calls P f #[.pointer (some ⟨g,0,none⟩),.pointer (some ⟨gm,0,none⟩)] w (gQ g gm A n c T w):=by
 have hF:=Sx.ga (w:=w) (S:=[g,gm]) (PP:=jr T w) (G:=[.bM g 154 (cW A n c i),.bM gm 66 m.cells]) (fun q hq=>by
  simp only[List.mem_cons,List.not_mem_nil,or_false]at hq
  rcases hq with rfl|rfl
  ·exact h.bM
  ·exact hbm) (fun q hq k hk=>by
  simp only[List.mem_cons,List.not_mem_nil,or_false]at hq
  rcases hq with rfl|rfl<;>cases hk<;>simp) (by simpa[Sx.jO.block]using hne)
 refine(Sx.aW (args:=[.ptr 0 0,.ptr 1 0]) hF H L hm hf hbd hn rfl hx).mono fun e w' hp=>?_
 rcases hp with⟨β,l,mem,⟨b,m',i',ms,h1,h2,rfl,rfl⟩,he,hR⟩ | ⟨chain,he,⟨code,p,h1,hf⟩,hc⟩
 ·have r0:=hR.held 0 _ rfl
  have r1:=hR.held 1 _ rfl
  have e0:β 0=g:=r0.1
  have e1:β 1=gm:=r1.1
  exact .inl ⟨(b,m'),i',h1,h2,he,e0 ▸ r0.2,e1 ▸ r1.2,hR.az⟩
 ·exact .inr ⟨code,p,chain,h1,he,hf,hc⟩
set_option maxRecDepth 100000
open Go.RowKit Go.Lib Go.Sort
theorem DF{w:World}{g gm b2 b3:Nat}{A:Option Go.Addr}{n c i:Nat}{ws:List Bs}{m:Mt}(h:BB w g gm b2 b3 A n c i ws m):Calls Tryz.prog 204 #[.pointer (some ⟨b2,0,none⟩),.pointer (some ⟨b3,0,none⟩)] w (mC g gm b2 b3 A n c (br 0 m ws i) w):=by
 have e1:br 0 m ws i=(iC ws i).bind fun s j=>.ok { m with fU:=s } j:=rfl
 have n1:=fun W (hL:dw W g A n c i ws)=>vT hL
 generalize br 0 m ws i=T at e1 ⊢
 generalize iC ws i=r at e1 n1
 have c4:=aS 0 (jJ g gm b2 b3 A n c i m.cells) [] h.dS h.dS.le (aM e1) rfl n1
 have z1f:=fun(hp:r.okB=true∧r.pos≤n)=>(show Ns g gm b2 b3 A n c T [] (jJ g gm b2 b3 A n c r.pos ({ m with fU:=r.val }:Mt).cells)from⟨({ m with fU:=r.val }:Mt),r.pos,bu e1 hp.1,hp.2,rfl,rfl⟩)
 have z3f:=fun(_:¬(r.okB=true∧r.pos≤n))=>trivial
 refine nf h [(4,.ai (cB 0 g A n c r ll))] [] (by kernel_rfl) Tryz.func204 rfl (Nat.le_of_ble_eq_true rfl) ?_
 exact Eq.mp (by kernel_rfl) (Sx.t2 c4 (fun(hx0:r.okB=true∧r.pos≤n)=>(z1f hx0)) (fun(hx2:¬(r.okB=true∧r.pos≤n))=>(z3f hx2)))
theorem DE{w:World}{g gm b2 b3:Nat}{A:Option Go.Addr}{n c i:Nat}{ws:List Bs}{m:Mt}(h:BB w g gm b2 b3 A n c i ws m):Calls Tryz.prog 206 #[.pointer (some ⟨b2,0,none⟩),.pointer (some ⟨b3,0,none⟩)] w (mC g gm b2 b3 A n c (br 1 m ws i) w):=by
 have e1:br 1 m ws i=(dD ws i).bind fun s j=>.ok { m with src:=s } j:=rfl
 have n1:=fun W (hL:dw W g A n c i ws)=>pU hL
 generalize br 1 m ws i=T at e1 ⊢
 generalize dD ws i=r at e1 n1
 have c4:=aS 0 (jJ g gm b2 b3 A n c i m.cells) [] h.dS h.dS.le (aM e1) rfl n1
 have z1f:=fun(hp:r.okB=true∧r.pos≤n)=>(show Ns g gm b2 b3 A n c T [] (jJ g gm b2 b3 A n c r.pos ({ m with src:=r.val }:Mt).cells)from⟨({ m with src:=r.val }:Mt),r.pos,bu e1 hp.1,hp.2,rfl,rfl⟩)
 have z3f:=fun(_:¬(r.okB=true∧r.pos≤n))=>trivial
 refine nf h [(4,.ai (cB 0 g A n c r pH))] [] (by kernel_rfl) Tryz.func206 rfl (Nat.le_of_ble_eq_true rfl) ?_
 exact Eq.mp (by kernel_rfl) (Sx.t2 c4 (fun(hx0:r.okB=true∧r.pos≤n)=>(z1f hx0)) (fun(hx2:¬(r.okB=true∧r.pos≤n))=>(z3f hx2)))
theorem DD{w:World}{g gm b2 b3:Nat}{A:Option Go.Addr}{n c i:Nat}{ws:List Bs}{m:Mt}(h:BB w g gm b2 b3 A n c i ws m):Calls Tryz.prog 207 #[.pointer (some ⟨b2,0,none⟩),.pointer (some ⟨b3,0,none⟩)] w (mC g gm b2 b3 A n c (br 2 m ws i) w):=by
 have e1:br 2 m ws i=(dD ws i).bind fun s j=>.ok { m with dst:=s } j:=rfl
 have n1:=fun W (hL:dw W g A n c i ws)=>pU hL
 generalize br 2 m ws i=T at e1 ⊢
 generalize dD ws i=r at e1 n1
 have c4:=aS 0 (jJ g gm b2 b3 A n c i m.cells) [] h.dS h.dS.le (aM e1) rfl n1
 have z1f:=fun(hp:r.okB=true∧r.pos≤n)=>(show Ns g gm b2 b3 A n c T [] (jJ g gm b2 b3 A n c r.pos ({ m with dst:=r.val }:Mt).cells)from⟨({ m with dst:=r.val }:Mt),r.pos,bu e1 hp.1,hp.2,rfl,rfl⟩)
 have z3f:=fun(_:¬(r.okB=true∧r.pos≤n))=>trivial
 refine nf h [(4,.ai (cB 0 g A n c r pH))] [] (by kernel_rfl) Tryz.func207 rfl (Nat.le_of_ble_eq_true rfl) ?_
 exact Eq.mp (by kernel_rfl) (Sx.t2 c4 (fun(hx0:r.okB=true∧r.pos≤n)=>(z1f hx0)) (fun(hx2:¬(r.okB=true∧r.pos≤n))=>(z3f hx2)))
theorem DC{w:World}{g gm b2 b3:Nat}{A:Option Go.Addr}{n c i:Nat}{ws:List Bs}{m:Mt}(h:BB w g gm b2 b3 A n c i ws m):Calls Tryz.prog 208 #[.pointer (some ⟨b2,0,none⟩),.pointer (some ⟨b3,0,none⟩)] w (mC g gm b2 b3 A n c (br 3 m ws i) w):=by
 have e1:br 3 m ws i=(dX ws i).bind fun s j=>.ok { m with bS:=s } j:=rfl
 have n1:=fun W (hL:dw W g A n c i ws)=>Gx hL
 generalize br 3 m ws i=T at e1 ⊢
 generalize dX ws i=r at e1 n1
 have c4:=aS 0 (jJ g gm b2 b3 A n c i m.cells) [] h.dS h.dS.le (aM e1) rfl n1
 have z1f:=fun(hp:r.okB=true∧r.pos≤n)=>(show Ns g gm b2 b3 A n c T [] (jJ g gm b2 b3 A n c r.pos ({ m with bS:=r.val }:Mt).cells)from⟨({ m with bS:=r.val }:Mt),r.pos,bu e1 hp.1,hp.2,rfl,rfl⟩)
 have z3f:=fun(_:¬(r.okB=true∧r.pos≤n))=>trivial
 refine nf h [(4,.ai (cB 0 g A n c r Lj))] [] (by kernel_rfl) Tryz.func208 rfl (Nat.le_of_ble_eq_true rfl) ?_
 exact Eq.mp (by kernel_rfl) (Sx.t2 c4 (fun(hx0:r.okB=true∧r.pos≤n)=>(z1f hx0)) (fun(hx2:¬(r.okB=true∧r.pos≤n))=>(z3f hx2)))
theorem DB{w:World}{g gm b2 b3:Nat}{A:Option Go.Addr}{n c i:Nat}{ws:List Bs}{m:Mt}(h:BB w g gm b2 b3 A n c i ws m):Calls Tryz.prog 210 #[.pointer (some ⟨b2,0,none⟩),.pointer (some ⟨b3,0,none⟩)] w (mC g gm b2 b3 A n c (br 4 m ws i) w):=by
 have e1:br 4 m ws i=(iC ws i).bind fun s j=>.ok { m with sp:=s } j:=rfl
 have n1:=fun W (hL:dw W g A n c i ws)=>vT hL
 generalize br 4 m ws i=T at e1 ⊢
 generalize iC ws i=r at e1 n1
 have c4:=aS 0 (jJ g gm b2 b3 A n c i m.cells) [] h.dS h.dS.le (aM e1) rfl n1
 have z1f:=fun(hp:r.okB=true∧r.pos≤n)=>(show Ns g gm b2 b3 A n c T [] (jJ g gm b2 b3 A n c r.pos ({ m with sp:=r.val }:Mt).cells)from⟨({ m with sp:=r.val }:Mt),r.pos,bu e1 hp.1,hp.2,rfl,rfl⟩)
 have z3f:=fun(_:¬(r.okB=true∧r.pos≤n))=>trivial
 refine nf h [(4,.ai (cB 0 g A n c r ll))] [] (by kernel_rfl) Tryz.func210 rfl (Nat.le_of_ble_eq_true rfl) ?_
 exact Eq.mp (by kernel_rfl) (Sx.t2 c4 (fun(hx0:r.okB=true∧r.pos≤n)=>(z1f hx0)) (fun(hx2:¬(r.okB=true∧r.pos≤n))=>(z3f hx2)))
theorem DA{w:World}{g gm b2 b3:Nat}{A:Option Go.Addr}{n c i:Nat}{ws:List Bs}{m:Mt}(h:BB w g gm b2 b3 A n c i ws m):Calls Tryz.prog 211 #[.pointer (some ⟨b2,0,none⟩),.pointer (some ⟨b3,0,none⟩)] w (mC g gm b2 b3 A n c (br 5 m ws i) w):=by
 have e1:br 5 m ws i=(iC ws i).bind fun s j=>.ok { m with dp:=s } j:=rfl
 have n1:=fun W (hL:dw W g A n c i ws)=>vT hL
 generalize br 5 m ws i=T at e1 ⊢
 generalize iC ws i=r at e1 n1
 have c4:=aS 0 (jJ g gm b2 b3 A n c i m.cells) [] h.dS h.dS.le (aM e1) rfl n1
 have z1f:=fun(hp:r.okB=true∧r.pos≤n)=>(show Ns g gm b2 b3 A n c T [] (jJ g gm b2 b3 A n c r.pos ({ m with dp:=r.val }:Mt).cells)from⟨({ m with dp:=r.val }:Mt),r.pos,bu e1 hp.1,hp.2,rfl,rfl⟩)
 have z3f:=fun(_:¬(r.okB=true∧r.pos≤n))=>trivial
 refine nf h [(4,.ai (cB 0 g A n c r ll))] [] (by kernel_rfl) Tryz.func211 rfl (Nat.le_of_ble_eq_true rfl) ?_
 exact Eq.mp (by kernel_rfl) (Sx.t2 c4 (fun(hx0:r.okB=true∧r.pos≤n)=>(z1f hx0)) (fun(hx2:¬(r.okB=true∧r.pos≤n))=>(z3f hx2)))
end Go.Proofs.YtnncigmpcdehnaaGreatDoor
