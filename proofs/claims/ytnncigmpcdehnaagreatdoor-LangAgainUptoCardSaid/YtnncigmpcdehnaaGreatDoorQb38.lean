import Derived.Test.YtnncigmpcdehnaaGreatDoorQb37
namespace Go.Proofs.YtnncigmpcdehnaaGreatDoor
set_option maxRecDepth 100000
open Go Go.RowKit Go.Lib Go.Sort
theorem L5(v:Bool)(n:Nat)(k:Int):Value.bool (fW v n k==0)=.bool (gg v n k):=by unfold fW;cases gg v n k<;>rfl
def bI(b0:Bool):Nat→Bool
 | 0=>b0
 |_+1=>true
def tI(t0:Bs)(ws:Nat→List Bs):Nat→Bs
 | 0=>t0
 |i+1=>tI t0 ws i++bR (ws i)
def eI(e0:Int)(E:Nat→Int→Int):Nat→Int
 | 0=>e0
 |i+1=>E i (eI e0 E i)
theorem rB{t0:Bs}{ws:Nat→List Bs}{B:Nat}:∀{n i:Nat},i < n→(tI t0 ws n).length≤B→(tI t0 ws i).length+(bR (ws i)).length≤B
 | 0,_,h,_=>by omega
 |n+1,i,h,hb=>by
  have e:(tI t0 ws (n+1)).length=(tI t0 ws n).length+(bR (ws n)).length:=by rw[tI,List.length_append]
  by_cases hi:i=n
  ·subst hi;omega
  ·exact rB (n:=n) (by omega) (by omega)
theorem xq{α:Type} [Inhabited α](f:α→List Bs)(t0:Bs)(l:List α):tI t0 (fun i=>f (l.getD i default)) l.length=t0++di (l.map f):=by
 have key:∀k,k≤l.length→tI t0 (fun i=>f (l.getD i default)) k=t0++di ((l.take k).map f):=by
  intro k
  induction k with
  |zero=>intro _;simp[tI,di]
  |succ k ih=>
   intro hk
   rw[tI,ih (by omega),List.take_add_one]
   have:l[k]?=some (l.getD k default):=by rw[List.getD_eq_getElem?_getD,List.getElem?_eq_getElem (by omega)];rfl
   rw[this]
   simp[di]
 have:=key l.length (Nat.le_refl _)
 rwa [List.take_length]at this
theorem yU{α:Type} [Inhabited α](E:Int→α→Int)(e0:Int)(l:List α):eI e0 (fun i e=>E e (l.getD i default)) l.length=l.foldl E e0:=by
 have key:∀k,k≤l.length→eI e0 (fun i e=>E e (l.getD i default)) k=(l.take k).foldl E e0:=by
  intro k
  induction k with
  |zero=>intro _;simp[eI]
  |succ k ih=>
   intro hk
   rw[eI,ih (by omega),List.take_add_one]
   have:l[k]?=some (l.getD k default):=by rw[List.getD_eq_getElem?_getD,List.getElem?_eq_getElem (by omega)];rfl
   rw[this]
   simp
 have:=key l.length (Nat.le_refl _)
 rwa [List.take_length]at this
theorem getD_at{α:Type} [Inhabited α]{l:List α}{i:Nat}(h:i < l.length):l[i]?=some (l.getD i default):=by
 rw[List.getD_eq_getElem?_getD,List.getElem?_eq_getElem h];rfl
theorem dz{α:Type} [Inhabited α]{l:List α}{i:Nat}(h:i < l.length):l.getD i default∈l:=List.mem_of_getElem? (getD_at h)
def gL(k:Nat)(b:Bool)(t:Bs)(e:Int):List Sx.Row:=[db none [.cI b 1 0,.own k,.val (.int .i64 e)],⟨5,.own 1 t.length (iX t)⟩]
def xo(b:Bool)(t:Bs)(e:Int):List Sx.Row:=gL 2 b t e
def w8(T:Bs×Int)(l:List Sx.SV)(_:List Sx.Row):Prop:=l=[.val (af T.1),.val (.int .i64 T.2)]
theorem gj{P:Program}{t:TypeId}{n:Nat}(h:(P.info? t).map (·.size)=some n):∃inf,P.info? t=some inf∧inf.size=n:=Option.map_eq_some_iff.1 h
theorem Me.aW(m:Me):m.cells.length=4:=rfl
theorem Mi.aW(m:Mi):m.cells.length=3:=rfl
theorem Rt.aW(m:Rt):m.cells.length=19:=by unfold Rt.cells;rw[List.length_append,Px.aW];rfl
theorem Rl.aW(m:Rl):m.cells.length=49:=by
 unfold Rl.cells
 rw[List.length_cons,List.length_append,Mt.aW];rfl
def Aa(A:Option Go.Addr)(n c i:Nat):List (Nat×Sx.SV):=[(1,.ptr 0 0),(4,.ptr 1 0),(20,.val (.slice A n c)),(21,.val (.int .i64 (n:Int))),(22,.val (.int .i64 (i:Int)))]
def BG(t0:Bs)(l:List Int):Nat→Bs:=tI t0 fun i=>ew (l.getD i default)
def Es(e0:Int)(l:List Int):Nat→Int:=eI e0 fun i e=>BJ e (l.getD i default)
def Ja(cs:List Value)(b0:Bool)(t0:Bs)(e0:Int)(l:List Int)(i:Nat):List Sx.Row:=⟨46,.ag cs⟩::xo (bI b0 i) (BG t0 l i) (Es e0 l i)
def z8(A:Option Go.Addr)(n c i:Nat):List (Nat×Sx.SV):=[(1,.ptr 0 0),(4,.ptr 1 0),(37,.val (.slice A n c)),(38,.val (.int .i64 (n:Int))),(39,.val (.int .i64 (i:Int)))]
def xl(t0:Bs)(l:List Rt):Nat→Bs:=tI t0 fun i=>eW (l.getD i default)
def xN(e0:Int)(l:List Rt):Nat→Int:=eI e0 fun i e=>vK e (l.getD i default)
def I9(cs:List Value)(b0:Bool)(t0:Bs)(e0:Int)(l:List Rt)(i:Nat):List Sx.Row:=⟨46,.ag cs⟩::xo (bI b0 i) (xl t0 l i) (xN e0 l i)
def zZ(A:Option Go.Addr)(n c i:Nat):List (Nat×Sx.SV):=[(1,.ptr 0 0),(4,.ptr 1 0),(67,.val (.slice A n c)),(68,.val (.int .i64 (n:Int))),(69,.val (.int .i64 (i:Int)))]
def BF(t0:Bs)(l:List Me):Nat→Bs:=tI t0 fun i=>eY (l.getD i default)
def Df(e0:Int)(l:List Me):Nat→Int:=eI e0 fun i e=>vY e (l.getD i default)
def I8(cs:List Value)(b0:Bool)(t0:Bs)(e0:Int)(l:List Me)(i:Nat):List Sx.Row:=⟨46,.ag cs⟩::xo (bI b0 i) (BF t0 l i) (Df e0 l i)
def vR(A:Option Go.Addr)(n c i:Nat):List (Nat×Sx.SV):=[(1,.ptr 0 0),(4,.ptr 1 0),(97,.val (.slice A n c)),(98,.val (.int .i64 (n:Int))),(99,.val (.int .i64 (i:Int)))]
def ns(t0:Bs)(l:List Mi):Nat→Bs:=tI t0 fun i=>dh (l.getD i default)
def ni(e0:Int)(l:List Mi):Nat→Int:=eI e0 fun i e=>jH e (l.getD i default)
def I7(cs:List Value)(b0:Bool)(t0:Bs)(e0:Int)(l:List Mi)(i:Nat):List Sx.Row:=⟨46,.ag cs⟩::xo (bI b0 i) (ns t0 l i) (ni e0 l i)
def zY(A:Option Go.Addr)(n c i:Nat):List (Nat×Sx.SV):=[(1,.ptr 0 0),(4,.ptr 1 0),(131,.val (.slice A n c)),(132,.val (.int .i64 (n:Int))),(133,.val (.int .i64 (i:Int)))]
def Ie(t0:Bs)(l:List Rl):Nat→Bs:=tI t0 fun i=>dR (l.getD i default)
def KA(e0:Int)(l:List Rl):Nat→Int:=eI e0 fun i e=>oM e (l.getD i default)
def I6(cs:List Value)(b0:Bool)(t0:Bs)(e0:Int)(l:List Rl)(i:Nat):List Sx.Row:=⟨46,.ag cs⟩::xo (bI b0 i) (Ie t0 l i) (KA e0 l i)
theorem CQ{b:Sx.bw}{row:Nat→Option Sx.Row}{i j m:Nat}{og:Option Nat}{p:Bool}{tx:Bs}{e:Int}(r:Rl)(h:mu row i j og p tx e)(hi:i < m)(hj:j < m)(hlan:dG b.w)(h9:∀k∈b.S,9≤k)(hr:r.Wf)(hl:tx.length+(bR (dR r)).length≤140737488355328)
  (W:World) (β:Sx.Env) (hS:Sx.cw b β W row [i,j]) :
  Calls Tryz.prog 74 (([.ptr i 0,.val (.agg r.cells.toArray)]:List Sx.SV).map (Sx.SV.den β)).toArray W (Sx.a7 b β W row m (il [] i j m og (tx++bR (dR r)) (oM e r) (.tuple #[]))):=by
 obtain⟨ht,hg⟩:=nM hS h (by simp) (by simp)
 have hlow:=hlan.low
 have old:∀x r k,x∈[i,j]→row x=some r→Sx.aE β x r=some k→9≤k:=fun x r k hx hr hk=>by
  rcases hS.new x hx r k hr hk with h|h
  ·exact h9 k h
  ·omega
 refine(Iy ht (hlan.aP hS.aP h9) (fun k hk=>?_) hr hl).mono fun en w' hp=>q7 h hi hj hg hp
 rcases List.mem_cons.1 hk with rfl|hk
 ·exact old i _ _ (by simp) h.b mz
 ·exact old j _ _ (by simp) h.o (by show(β.a j).map (·.block)=some k;simpa using hk)
theorem nz{w:World}(hlan:dG w)(cs:List Value)(l:List Int)(A:Option Go.Addr)(c:Nat)(hs:kB w [] 1 (.slice A l.length c) l.length (l.map fun n=>Value.int .i64 n))(hwf:∀n∈l,nG n)(hl:l.length≤1000000000)(b0:Bool)(t0:Bs)(e0:Int)(hB:(BG t0 l l.length).length≤140737488355328)(T:Bs×Int)(i:Nat)(hi:i≤l.length) :
  ∃H' L',Sx.jn Tryz.prog Tryz.f28.ntmps ⟨w,[],fun _ _=>False⟩ (Sx.cR Tryz.f28 0) H' L' ⟨Aa A l.length c i,Ja cs b0 t0 e0 l i⟩
   (Sx.gI (fun i=>i≤l.length) (fun i=>Aa A l.length c i) (fun i=>Ja cs b0 t0 e0 l i) (fun i=>i+1) (fun i=>l.length - i) (fun(_:Unit)=>True) (fun _=>[(1,.ptr 0 0),(4,.ptr 1 0)]) (fun _=>Ja cs b0 t0 e0 l l.length) (fun _=>()) (Sx.fK (Sx.cR Tryz.f28 0) - 1) (Sx.bX Tryz.prog Tryz.f28 (w8 T) .ret) i):=by
 by_cases hlt:i < l.length
 ·skip
  have c23:Value.bool (decide ((i:Int) < (l.length:Int)))=.bool true:=dQ (decide_eq_true (by omega))
  have hy:=getD_at hlt
  have hw:=hwf _ (dz hlt)
  obtain⟨inf,hi1,hi2⟩:=gj (P:=Tryz.prog) (t:=3) (n:=1) (by kernel_rfl)
  obtain⟨pp,hp1,hp2⟩:=hs.ME Tryz.underlying40 hi1 hi2 Tryz.underlying3 rfl hy
  clear hi1 hi2 hy
  have c24:=hp1
  have c25:=hp2
  have c35:Value.int .i64 (IntKind.i64.wrap ((i:Int)+1))=.int .i64 ((i+1:Nat):Int):=iw (by rw[j5 (by omega) (by omega)];rfl)
  have c28:Value.bool (decide ((l.getD i default)≥0))=.bool (decide ((l.getD i default)≥0)):=rfl
  have c29:=fun W β (hS:Sx.cw ⟨w,[],fun _ _=>False⟩ β W (Sx.rowAt [⟨46,.ag cs⟩,db none [.cI (bI b0 i) 1 0,.own 2,.val (.int .i64 (Es e0 l i))],⟨5,.own 1 (BG t0 l i).length (iX (BG t0 l i))⟩]) [1,2])=>(show Calls Tryz.prog 69 (([.ptr 1 0,.val (.bool (decide ((l.getD i default)≥0))),.val (.int .i64 2)]:List Sx.SV).map (Sx.SV.den β)).toArray W (Sx.a7 ⟨w,[],fun _ _=>False⟩ β W (Sx.rowAt [⟨46,.ag cs⟩,db none [.cI (bI b0 i) 1 0,.own 2,.val (.int .i64 (Es e0 l i))],⟨5,.own 1 (BG t0 l i).length (iX (BG t0 l i))⟩]) 3 (cD [] 1 2 none (bI b0 i) (aG (decide ((l.getD i default)≥0)) 2 (Es e0 l i))))from eK (decide ((l.getD i default)≥0)) 2 ⟨rfl,rfl⟩ W β hS)
  have c32:=fun W (hW:aw [] w W)=>j2 (l.getD i default) hw.1 hw.2 W (hlan.cy hW)
  have c34:=fun W β (hS:Sx.cw ⟨w,[],fun _ _=>False⟩ β W (Sx.rowAt [⟨46,.ag cs⟩,db none [.cI (bI b0 i) 1 0,.own 2,.val (.int .i64 (aG (decide ((l.getD i default)≥0)) 2 (Es e0 l i)))],⟨5,.own 1 (BG t0 l i).length (iX (BG t0 l i))⟩,⟨9,.ag (strs (ew (l.getD i default)))⟩]) [1,2,3])=>l9 (m:=4) (og:=none) (p:=(bI b0 i)) (tx:=(BG t0 l i)) (e:=(aG (decide ((l.getD i default)≥0)) 2 (Es e0 l i))) (ew (l.getD i default)) ⟨rfl,rfl⟩ (by omega) (by omega) rfl (Nat.le_of_ble_eq_true rfl) (rB hlt hB) W β hS
  have h0:i+1≤l.length:=hlt
  have h1:l.length - (i+1) < l.length - i:=by omega
  have h2:Aa A l.length c (i+1)=Aa A l.length c (i+1):=rfl
  have z3:⟨46,.ag cs⟩::gL 4 true (BG t0 l (i+1)) (Es e0 l (i+1))=⟨46,.ag cs⟩::gL 4 true (BG t0 l (i+1)) (Es e0 l (i+1)):=rfl
  refine⟨[(23,.is (.bool true)),(24,.any pp),(25,.any (.int .i64 (l.getD i default))),(35,.is (.int .i64 ((i+1:Nat):Int))),(28,.is (.bool (decide ((l.getD i default)≥0)))),(29,.al (cD [] 1 2 none (bI b0 i) (aG (decide ((l.getD i default)≥0)) 2 (Es e0 l i)))),(32,.call (af (bb (l.getD i default)))),(34,.al (il [3] 1 2 4 none ((BG t0 l i)++bR (ew (l.getD i default))) (aG (decide ((l.getD i default)≥0)) 2 (Es e0 l i)) (.tuple #[])))],[],?_⟩
  exact Eq.mp (by kernel_rfl) (Sx.t8 c23 c24 c25 c28 c29 c32 c34 c35 (Sx.t2 h0 h1 (And.intro h2 z3)))
 ·have hin:i=l.length:=by omega
  subst hin
  have c23:Value.bool (decide ((l.length:Int) < (l.length:Int)))=.bool false:=dY (decide_eq_false (by omega))
  have h0:True:=trivial
  have h1:([(1,.ptr 0 0),(4,.ptr 1 0)]:List (Nat×Sx.SV))=[(1,.ptr 0 0),(4,.ptr 1 0)]:=rfl
  have z2:Ja cs b0 t0 e0 l l.length=Ja cs b0 t0 e0 l l.length:=rfl
  refine⟨[(23,.is (.bool false))],[],?_⟩
  exact Eq.mp (by kernel_rfl) (Sx.t2 c23 h0 (And.intro h1 z2))
theorem ny{w:World}(hlan:dG w)(cs:List Value)(l:List Rt)(A:Option Go.Addr)(c:Nat)(hs:kB w [] 19 (.slice A l.length c) l.length (l.flatMap Rt.cells))(hwf:∀n∈l,n.Wf)(hl:l.length≤1000000000)(b0:Bool)(t0:Bs)(e0:Int)(hB:(xl t0 l l.length).length≤140737488355328)(T:Bs×Int)(i:Nat)(hi:i≤l.length) :
  ∃H' L',Sx.jn Tryz.prog Tryz.f28.ntmps ⟨w,[],fun _ _=>False⟩ (Sx.cR Tryz.f28 1) H' L' ⟨z8 A l.length c i,I9 cs b0 t0 e0 l i⟩
   (Sx.gI (fun i=>i≤l.length) (fun i=>z8 A l.length c i) (fun i=>I9 cs b0 t0 e0 l i) (fun i=>i+1) (fun i=>l.length - i) (fun(_:Unit)=>True) (fun _=>[(1,.ptr 0 0),(4,.ptr 1 0)]) (fun _=>I9 cs b0 t0 e0 l l.length) (fun _=>()) (Sx.fK (Sx.cR Tryz.f28 1) - 1) (Sx.bX Tryz.prog Tryz.f28 (w8 T) .ret) i):=by
 by_cases hlt:i < l.length
 ·skip
  have c40:Value.bool (decide ((i:Int) < (l.length:Int)))=.bool true:=dQ (decide_eq_true (by omega))
  have hy:=getD_at hlt
  have hw:=hwf _ (dz hlt)
  obtain⟨inf,hi1,hi2⟩:=gj (P:=Tryz.prog) (t:=118) (n:=19) (by kernel_rfl)
  obtain⟨pp,hp1,hp2⟩:=hs.Eb Rt.aW Tryz.underlying41 hi1 hi2 Tryz.underlying118 rfl (by omega) hy
  clear hi1 hi2 hy
  have c41:=hp1
  have c42:=hp2
  have c65:Value.int .i64 (IntKind.i64.wrap ((i:Int)+1))=.int .i64 ((i+1:Nat):Int):=iw (by rw[j5 (by omega) (by omega)];rfl)
  have c46:=fun W (hW:aw [] w W)=>zH (l.getD i default).pf.v (l.getD i default).pf.n (l.getD i default).pf.k hw.n W (hlan.cy hW)
  have c51:=L5 (l.getD i default).pf.v (l.getD i default).pf.n (l.getD i default).pf.k
  have c52:=fun W β (hS:Sx.cw ⟨w,[],fun _ _=>False⟩ β W (Sx.rowAt [⟨46,.ag cs⟩,db none [.cI (bI b0 i) 1 0,.own 2,.val (.int .i64 (xN e0 l i))],⟨5,.own 1 (xl t0 l i).length (iX (xl t0 l i))⟩,⟨118,.ag (l.getD i default).cells⟩]) [1,2])=>(show Calls Tryz.prog 69 (([.ptr 1 0,.val (.bool (gg (l.getD i default).pf.v (l.getD i default).pf.n (l.getD i default).pf.k)),.val (.int .i64 151)]:List Sx.SV).map (Sx.SV.den β)).toArray W (Sx.a7 ⟨w,[],fun _ _=>False⟩ β W (Sx.rowAt [⟨46,.ag cs⟩,db none [.cI (bI b0 i) 1 0,.own 2,.val (.int .i64 (xN e0 l i))],⟨5,.own 1 (xl t0 l i).length (iX (xl t0 l i))⟩,⟨118,.ag (l.getD i default).cells⟩]) 4 (cD [] 1 2 none (bI b0 i) (aG (gg (l.getD i default).pf.v (l.getD i default).pf.n (l.getD i default).pf.k) 151 (xN e0 l i))))from eK (gg (l.getD i default).pf.v (l.getD i default).pf.n (l.getD i default).pf.k) 151 ⟨rfl,rfl⟩ W β hS)
  have c56:Value.bool (decide ((l.getD i default).out≥0))=.bool (decide ((l.getD i default).out≥0)):=rfl
  have c57:=fun W β (hS:Sx.cw ⟨w,[],fun _ _=>False⟩ β W (Sx.rowAt [⟨46,.ag cs⟩,db none [.cI (bI b0 i) 1 0,.own 2,.val (.int .i64 (aG (gg (l.getD i default).pf.v (l.getD i default).pf.n (l.getD i default).pf.k) 151 (xN e0 l i)))],⟨5,.own 1 (xl t0 l i).length (iX (xl t0 l i))⟩,⟨118,.ag (l.getD i default).cells⟩]) [1,2])=>(show Calls Tryz.prog 69 (([.ptr 1 0,.val (.bool (decide ((l.getD i default).out≥0))),.val (.int .i64 2)]:List Sx.SV).map (Sx.SV.den β)).toArray W (Sx.a7 ⟨w,[],fun _ _=>False⟩ β W (Sx.rowAt [⟨46,.ag cs⟩,db none [.cI (bI b0 i) 1 0,.own 2,.val (.int .i64 (aG (gg (l.getD i default).pf.v (l.getD i default).pf.n (l.getD i default).pf.k) 151 (xN e0 l i)))],⟨5,.own 1 (xl t0 l i).length (iX (xl t0 l i))⟩,⟨118,.ag (l.getD i default).cells⟩]) 4 (cD [] 1 2 none (bI b0 i) (aG (decide ((l.getD i default).out≥0)) 2 (aG (gg (l.getD i default).pf.v (l.getD i default).pf.n (l.getD i default).pf.k) 151 (xN e0 l i)))))from eK (decide ((l.getD i default).out≥0)) 2 ⟨rfl,rfl⟩ W β hS)
  have c62:=fun W (hW:aw [] w W)=>j2 (l.getD i default).out hw.o.1 hw.o.2 W (hlan.cy hW)
  have iQ:=fun W β (hS:Sx.cw ⟨w,[],fun _ _=>False⟩ β W (Sx.rowAt [⟨46,.ag cs⟩,db none [.cI (bI b0 i) 1 0,.own 2,.val (.int .i64 (aG (decide ((l.getD i default).out≥0)) 2 (aG (gg (l.getD i default).pf.v (l.getD i default).pf.n (l.getD i default).pf.k) 151 (xN e0 l i))))],⟨5,.own 1 (xl t0 l i).length (iX (xl t0 l i))⟩,⟨118,.ag (l.getD i default).cells⟩,⟨9,.ag (strs (eW (l.getD i default)))⟩]) [1,2,4])=>l9 (m:=5) (og:=none) (p:=(bI b0 i)) (tx:=(xl t0 l i)) (e:=(aG (decide ((l.getD i default).out≥0)) 2 (aG (gg (l.getD i default).pf.v (l.getD i default).pf.n (l.getD i default).pf.k) 151 (xN e0 l i)))) (eW (l.getD i default)) ⟨rfl,rfl⟩ (by omega) (by omega) rfl (Nat.le_of_ble_eq_true rfl) (rB hlt hB) W β hS
  have h0:i+1≤l.length:=hlt
  have h1:l.length - (i+1) < l.length - i:=by omega
  have h2:z8 A l.length c (i+1)=z8 A l.length c (i+1):=rfl
  have z3:⟨46,.ag cs⟩::gL 5 true (xl t0 l (i+1)) (xN e0 l (i+1))=⟨46,.ag cs⟩::gL 5 true (xl t0 l (i+1)) (xN e0 l (i+1)):=rfl
  refine⟨[(40,.is (.bool true)),(41,.any pp),(42,.any (.agg (l.getD i default).cells.toArray)),(65,.is (.int .i64 ((i+1:Nat):Int))),(46,.call (.tuple #[af (rW (l.getD i default).pf),.int .i64 (fW (l.getD i default).pf.v (l.getD i default).pf.n (l.getD i default).pf.k)])),(51,.is (.bool (gg (l.getD i default).pf.v (l.getD i default).pf.n (l.getD i default).pf.k))),(52,.al (cD [] 1 2 none (bI b0 i) (aG (gg (l.getD i default).pf.v (l.getD i default).pf.n (l.getD i default).pf.k) 151 (xN e0 l i)))),(56,.is (.bool (decide ((l.getD i default).out≥0)))),(57,.al (cD [] 1 2 none (bI b0 i) (aG (decide ((l.getD i default).out≥0)) 2 (aG (gg (l.getD i default).pf.v (l.getD i default).pf.n (l.getD i default).pf.k) 151 (xN e0 l i))))),(62,.call (af (bb (l.getD i default).out))),(64,.al (il [4] 1 2 5 none ((xl t0 l i)++bR (eW (l.getD i default))) (aG (decide ((l.getD i default).out≥0)) 2 (aG (gg (l.getD i default).pf.v (l.getD i default).pf.n (l.getD i default).pf.k) 151 (xN e0 l i))) (.tuple #[])))],[],?_⟩
  exact Eq.mp (by kernel_rfl) (Sx.t8 c40 c41 c42 c46 c51 c52 c56 c57 (Sx.t4 c62 iQ c65 h0 (Sx.t2 h1 h2 z3)))
 ·have hin:i=l.length:=by omega
  subst hin
  have c40:Value.bool (decide ((l.length:Int) < (l.length:Int)))=.bool false:=dY (decide_eq_false (by omega))
  have h0:True:=trivial
  have h1:([(1,.ptr 0 0),(4,.ptr 1 0)]:List (Nat×Sx.SV))=[(1,.ptr 0 0),(4,.ptr 1 0)]:=rfl
  have z2:I9 cs b0 t0 e0 l l.length=I9 cs b0 t0 e0 l l.length:=rfl
  refine⟨[(40,.is (.bool false))],[],?_⟩
  exact Eq.mp (by kernel_rfl) (Sx.t2 c40 h0 (And.intro h1 z2))
theorem nx{w:World}(hlan:dG w)(cs:List Value)(l:List Me)(A:Option Go.Addr)(c:Nat)(hs:kB w [] 4 (.slice A l.length c) l.length (l.flatMap Me.cells))(hwf:∀n∈l,n.Wf)(hl:l.length≤1000000000)(b0:Bool)(t0:Bs)(e0:Int)(hB:(BF t0 l l.length).length≤140737488355328)(T:Bs×Int)(i:Nat)(hi:i≤l.length) :
  ∃H' L',Sx.jn Tryz.prog Tryz.f28.ntmps ⟨w,[],fun _ _=>False⟩ (Sx.cR Tryz.f28 2) H' L' ⟨zZ A l.length c i,I8 cs b0 t0 e0 l i⟩
   (Sx.gI (fun i=>i≤l.length) (fun i=>zZ A l.length c i) (fun i=>I8 cs b0 t0 e0 l i) (fun i=>i+1) (fun i=>l.length - i) (fun(_:Unit)=>True) (fun _=>[(1,.ptr 0 0),(4,.ptr 1 0)]) (fun _=>I8 cs b0 t0 e0 l l.length) (fun _=>()) (Sx.fK (Sx.cR Tryz.f28 2) - 1) (Sx.bX Tryz.prog Tryz.f28 (w8 T) .ret) i):=by
 by_cases hlt:i < l.length
 ·skip
  have c70:Value.bool (decide ((i:Int) < (l.length:Int)))=.bool true:=dQ (decide_eq_true (by omega))
  have hy:=getD_at hlt
  have hw:=hwf _ (dz hlt)
  obtain⟨inf,hi1,hi2⟩:=gj (P:=Tryz.prog) (t:=122) (n:=4) (by kernel_rfl)
  obtain⟨pp,hp1,hp2⟩:=hs.Eb Me.aW Tryz.underlying43 hi1 hi2 Tryz.underlying122 rfl (by omega) hy
  clear hi1 hi2 hy
  have c71:=hp1
  have c72:=hp2
  have c95:Value.int .i64 (IntKind.i64.wrap ((i:Int)+1))=.int .i64 ((i+1:Nat):Int):=iw (by rw[j5 (by omega) (by omega)];rfl)
  have c76:=fun W (_:aw [] w W)=>nV (l.getD i default).name W
  have c77:=fun W β (hS:Sx.cw ⟨w,[],fun _ _=>False⟩ β W (Sx.rowAt [⟨46,.ag cs⟩,db none [.cI (bI b0 i) 1 0,.own 2,.val (.int .i64 (Df e0 l i))],⟨5,.own 1 (BF t0 l i).length (iX (BF t0 l i))⟩,⟨122,.ag (l.getD i default).cells⟩]) [1,2])=>(show Calls Tryz.prog 69 (([.ptr 1 0,.val (.bool (aM (l.getD i default).name)),.val (.int .i64 201)]:List Sx.SV).map (Sx.SV.den β)).toArray W (Sx.a7 ⟨w,[],fun _ _=>False⟩ β W (Sx.rowAt [⟨46,.ag cs⟩,db none [.cI (bI b0 i) 1 0,.own 2,.val (.int .i64 (Df e0 l i))],⟨5,.own 1 (BF t0 l i).length (iX (BF t0 l i))⟩,⟨122,.ag (l.getD i default).cells⟩]) 4 (cD [] 1 2 none (bI b0 i) (aG (aM (l.getD i default).name) 201 (Df e0 l i))))from eK (aM (l.getD i default).name) 201 ⟨rfl,rfl⟩ W β hS)
  have c84:=fun W (hW:aw [] w W)=>Ci (l.getD i default).num (by have:=hw.a;omega) W (hlan.cy hW)
  have c88:=fun W (hW:aw [] w W)=>Ci (l.getD i default).den (by have:=hw.b;omega) W (hlan.cy hW)
  have c92:=fun W (hW:aw [] w W)=>Ci (l.getD i default).nF (by have:=hw.c;omega) W (hlan.cy hW)
  have c94:=fun W β (hS:Sx.cw ⟨w,[],fun _ _=>False⟩ β W (Sx.rowAt [⟨46,.ag cs⟩,db none [.cI (bI b0 i) 1 0,.own 2,.val (.int .i64 (aG (aM (l.getD i default).name) 201 (Df e0 l i)))],⟨5,.own 1 (BF t0 l i).length (iX (BF t0 l i))⟩,⟨122,.ag (l.getD i default).cells⟩,⟨9,.ag (strs (eY (l.getD i default)))⟩]) [1,2,4])=>l9 (m:=5) (og:=none) (p:=(bI b0 i)) (tx:=(BF t0 l i)) (e:=(aG (aM (l.getD i default).name) 201 (Df e0 l i))) (eY (l.getD i default)) ⟨rfl,rfl⟩ (by omega) (by omega) rfl (Nat.le_of_ble_eq_true rfl) (rB hlt hB) W β hS
  have h0:i+1≤l.length:=hlt
  have h1:l.length - (i+1) < l.length - i:=by omega
  have h2:zZ A l.length c (i+1)=zZ A l.length c (i+1):=rfl
  have z3:⟨46,.ag cs⟩::gL 5 true (BF t0 l (i+1)) (Df e0 l (i+1))=⟨46,.ag cs⟩::gL 5 true (BF t0 l (i+1)) (Df e0 l (i+1)):=rfl
  refine⟨[(70,.is (.bool true)),(71,.any pp),(72,.any (.agg (l.getD i default).cells.toArray)),(95,.is (.int .i64 ((i+1:Nat):Int))),(76,.call (.bool (aM (l.getD i default).name))),(77,.al (cD [] 1 2 none (bI b0 i) (aG (aM (l.getD i default).name) 201 (Df e0 l i)))),(84,.call (af (az 10 (l.getD i default).num))),(88,.call (af (az 10 (l.getD i default).den))),(92,.call (af (az 10 (l.getD i default).nF))),(94,.al (il [4] 1 2 5 none ((BF t0 l i)++bR (eY (l.getD i default))) (aG (aM (l.getD i default).name) 201 (Df e0 l i)) (.tuple #[])))],[],?_⟩
  exact Eq.mp (by kernel_rfl) (Sx.t8 c70 c71 c72 c76 c77 c84 c88 c92 (Sx.t4 c94 c95 h0 h1 (And.intro h2 z3)))
 ·have hin:i=l.length:=by omega
  subst hin
  have c70:Value.bool (decide ((l.length:Int) < (l.length:Int)))=.bool false:=dY (decide_eq_false (by omega))
  have h0:True:=trivial
  have h1:([(1,.ptr 0 0),(4,.ptr 1 0)]:List (Nat×Sx.SV))=[(1,.ptr 0 0),(4,.ptr 1 0)]:=rfl
  have z2:I8 cs b0 t0 e0 l l.length=I8 cs b0 t0 e0 l l.length:=rfl
  refine⟨[(70,.is (.bool false))],[],?_⟩
  exact Eq.mp (by kernel_rfl) (Sx.t2 c70 h0 (And.intro h1 z2))
theorem nu{w:World}(hlan:dG w)(cs:List Value)(l:List Mi)(A:Option Go.Addr)(c:Nat)(hs:kB w [] 3 (.slice A l.length c) l.length (l.flatMap Mi.cells))(hwf:∀n∈l,n.Wf)(hl:l.length≤1000000000)(b0:Bool)(t0:Bs)(e0:Int)(hB:(ns t0 l l.length).length≤140737488355328)(T:Bs×Int)(i:Nat)(hi:i≤l.length) :
  ∃H' L',Sx.jn Tryz.prog Tryz.f28.ntmps ⟨w,[],fun _ _=>False⟩ (Sx.cR Tryz.f28 3) H' L' ⟨vR A l.length c i,I7 cs b0 t0 e0 l i⟩
   (Sx.gI (fun i=>i≤l.length) (fun i=>vR A l.length c i) (fun i=>I7 cs b0 t0 e0 l i) (fun i=>i+1) (fun i=>l.length - i) (fun(_:Unit)=>True) (fun _=>[(1,.ptr 0 0),(4,.ptr 1 0)]) (fun _=>I7 cs b0 t0 e0 l l.length) (fun _=>()) (Sx.fK (Sx.cR Tryz.f28 3) - 1) (Sx.bX Tryz.prog Tryz.f28 (w8 T) .ret) i):=by
 by_cases hlt:i < l.length
 ·by_cases hg:(l.getD i default).out≥0
  ·skip
   have c100:Value.bool (decide ((i:Int) < (l.length:Int)))=.bool true:=dQ (decide_eq_true (by omega))
   have hy:=getD_at hlt
   have hw:=hwf _ (dz hlt)
   obtain⟨inf,hi1,hi2⟩:=gj (P:=Tryz.prog) (t:=124) (n:=3) (by kernel_rfl)
   obtain⟨pp,hp1,hp2⟩:=hs.Eb Mi.aW Tryz.underlying44 hi1 hi2 Tryz.underlying124 rfl (by omega) hy
   clear hi1 hi2 hy
   have c101:=hp1
   have c102:=hp2
   have c129:Value.int .i64 (IntKind.i64.wrap ((i:Int)+1))=.int .i64 ((i+1:Nat):Int):=iw (by rw[j5 (by omega) (by omega)];rfl)
   have c106:=fun W (_:aw [] w W)=>nV (l.getD i default).name W
   have c107:=fun W β (hS:Sx.cw ⟨w,[],fun _ _=>False⟩ β W (Sx.rowAt [⟨46,.ag cs⟩,db none [.cI (bI b0 i) 1 0,.own 2,.val (.int .i64 (ni e0 l i))],⟨5,.own 1 (ns t0 l i).length (iX (ns t0 l i))⟩,⟨124,.ag (l.getD i default).cells⟩]) [1,2])=>(show Calls Tryz.prog 69 (([.ptr 1 0,.val (.bool (aM (l.getD i default).name)),.val (.int .i64 201)]:List Sx.SV).map (Sx.SV.den β)).toArray W (Sx.a7 ⟨w,[],fun _ _=>False⟩ β W (Sx.rowAt [⟨46,.ag cs⟩,db none [.cI (bI b0 i) 1 0,.own 2,.val (.int .i64 (ni e0 l i))],⟨5,.own 1 (ns t0 l i).length (iX (ns t0 l i))⟩,⟨124,.ag (l.getD i default).cells⟩]) 4 (cD [] 1 2 none (bI b0 i) (aG (aM (l.getD i default).name) 201 (ni e0 l i))))from eK (aM (l.getD i default).name) 201 ⟨rfl,rfl⟩ W β hS)
   have c111:Value.bool (decide ((l.getD i default).out≥0))=.bool true:=dQ (decide_eq_true hg)
   have c115:Value.bool (decide ((l.getD i default).room≥0))=.bool (decide ((l.getD i default).room≥0)):=rfl
   have c117:=fun W β (hS:Sx.cw ⟨w,[],fun _ _=>False⟩ β W (Sx.rowAt [⟨46,.ag cs⟩,db none [.cI (bI b0 i) 1 0,.own 2,.val (.int .i64 (aG (aM (l.getD i default).name) 201 (ni e0 l i)))],⟨5,.own 1 (ns t0 l i).length (iX (ns t0 l i))⟩,⟨124,.ag (l.getD i default).cells⟩]) [1,2])=>(show Calls Tryz.prog 69 (([.ptr 1 0,.val (.bool (decide ((l.getD i default).room≥0))),.val (.int .i64 2)]:List Sx.SV).map (Sx.SV.den β)).toArray W (Sx.a7 ⟨w,[],fun _ _=>False⟩ β W (Sx.rowAt [⟨46,.ag cs⟩,db none [.cI (bI b0 i) 1 0,.own 2,.val (.int .i64 (aG (aM (l.getD i default).name) 201 (ni e0 l i)))],⟨5,.own 1 (ns t0 l i).length (iX (ns t0 l i))⟩,⟨124,.ag (l.getD i default).cells⟩]) 4 (cD [] 1 2 none (bI b0 i) (aG (decide ((l.getD i default).room≥0)) 2 (aG (aM (l.getD i default).name) 201 (ni e0 l i)))))from eK (decide ((l.getD i default).room≥0)) 2 ⟨rfl,rfl⟩ W β hS)
   have c123:=fun W (hW:aw [] w W)=>j2 (l.getD i default).out hw.o.1 hw.o.2 W (hlan.cy hW)
   have c126:=fun W (hW:aw [] w W)=>j2 (l.getD i default).room hw.r.1 hw.r.2 W (hlan.cy hW)
   have c128:=fun W β (hS:Sx.cw ⟨w,[],fun _ _=>False⟩ β W (Sx.rowAt [⟨46,.ag cs⟩,db none [.cI (bI b0 i) 1 0,.own 2,.val (.int .i64 (aG (decide ((l.getD i default).room≥0)) 2 (aG (aM (l.getD i default).name) 201 (ni e0 l i))))],⟨5,.own 1 (ns t0 l i).length (iX (ns t0 l i))⟩,⟨124,.ag (l.getD i default).cells⟩,⟨9,.ag (strs (dh (l.getD i default)))⟩]) [1,2,4])=>l9 (m:=5) (og:=none) (p:=(bI b0 i)) (tx:=(ns t0 l i)) (e:=(aG (decide ((l.getD i default).room≥0)) 2 (aG (aM (l.getD i default).name) 201 (ni e0 l i)))) (dh (l.getD i default)) ⟨rfl,rfl⟩ (by omega) (by omega) rfl (Nat.le_of_ble_eq_true rfl) (rB hlt hB) W β hS
   have hE:(aG (decide ((l.getD i default).room≥0)) 2 (aG (aM (l.getD i default).name) 201 (ni e0 l i)))=jH (ni e0 l i) (l.getD i default):=by unfold jH;rw[decide_eq_true hg];rfl
   have h0:i+1≤l.length:=hlt
   have h1:l.length - (i+1) < l.length - i:=by omega
   have h2:vR A l.length c (i+1)=vR A l.length c (i+1):=rfl
   have z3:⟨46,.ag cs⟩::gL 5 true (ns t0 l (i+1)) (aG (decide ((l.getD i default).room≥0)) 2 (aG (aM (l.getD i default).name) 201 (ni e0 l i)))=⟨46,.ag cs⟩::gL 5 true (ns t0 l (i+1)) (ni e0 l (i+1)):=by rw[hE];rfl
   refine⟨[(100,.is (.bool true)),(101,.any pp),(102,.any (.agg (l.getD i default).cells.toArray)),(129,.is (.int .i64 ((i+1:Nat):Int))),(106,.call (.bool (aM (l.getD i default).name))),(107,.al (cD [] 1 2 none (bI b0 i) (aG (aM (l.getD i default).name) 201 (ni e0 l i)))),(111,.is (.bool true)),(115,.is (.bool (decide ((l.getD i default).room≥0)))),(117,.al (cD [] 1 2 none (bI b0 i) (aG (decide ((l.getD i default).room≥0)) 2 (aG (aM (l.getD i default).name) 201 (ni e0 l i))))),(123,.call (af (bb (l.getD i default).out))),(126,.call (af (bb (l.getD i default).room))),(128,.al (il [4] 1 2 5 none ((ns t0 l i)++bR (dh (l.getD i default))) (aG (decide ((l.getD i default).room≥0)) 2 (aG (aM (l.getD i default).name) 201 (ni e0 l i))) (.tuple #[])))],[],?_⟩
   exact Eq.mp (by kernel_rfl) (Sx.t8 c100 c101 c102 c106 c107 c111 c115 c117 (Sx.t4 c123 c126 c128 c129 (Sx.t2 h0 h1 (And.intro h2 z3))))
  ·skip
   have c100:Value.bool (decide ((i:Int) < (l.length:Int)))=.bool true:=dQ (decide_eq_true (by omega))
   have hy:=getD_at hlt
   have hw:=hwf _ (dz hlt)
   obtain⟨inf,hi1,hi2⟩:=gj (P:=Tryz.prog) (t:=124) (n:=3) (by kernel_rfl)
   obtain⟨pp,hp1,hp2⟩:=hs.Eb Mi.aW Tryz.underlying44 hi1 hi2 Tryz.underlying124 rfl (by omega) hy
   clear hi1 hi2 hy
   have c101:=hp1
   have c102:=hp2
   have c129:Value.int .i64 (IntKind.i64.wrap ((i:Int)+1))=.int .i64 ((i+1:Nat):Int):=iw (by rw[j5 (by omega) (by omega)];rfl)
   have c106:=fun W (_:aw [] w W)=>nV (l.getD i default).name W
   have c107:=fun W β (hS:Sx.cw ⟨w,[],fun _ _=>False⟩ β W (Sx.rowAt [⟨46,.ag cs⟩,db none [.cI (bI b0 i) 1 0,.own 2,.val (.int .i64 (ni e0 l i))],⟨5,.own 1 (ns t0 l i).length (iX (ns t0 l i))⟩,⟨124,.ag (l.getD i default).cells⟩]) [1,2])=>(show Calls Tryz.prog 69 (([.ptr 1 0,.val (.bool (aM (l.getD i default).name)),.val (.int .i64 201)]:List Sx.SV).map (Sx.SV.den β)).toArray W (Sx.a7 ⟨w,[],fun _ _=>False⟩ β W (Sx.rowAt [⟨46,.ag cs⟩,db none [.cI (bI b0 i) 1 0,.own 2,.val (.int .i64 (ni e0 l i))],⟨5,.own 1 (ns t0 l i).length (iX (ns t0 l i))⟩,⟨124,.ag (l.getD i default).cells⟩]) 4 (cD [] 1 2 none (bI b0 i) (aG (aM (l.getD i default).name) 201 (ni e0 l i))))from eK (aM (l.getD i default).name) 201 ⟨rfl,rfl⟩ W β hS)
   have c111:Value.bool (decide ((l.getD i default).out≥0))=.bool false:=dY (decide_eq_false hg)
   have c117:=fun W β (hS:Sx.cw ⟨w,[],fun _ _=>False⟩ β W (Sx.rowAt [⟨46,.ag cs⟩,db none [.cI (bI b0 i) 1 0,.own 2,.val (.int .i64 (aG (aM (l.getD i default).name) 201 (ni e0 l i)))],⟨5,.own 1 (ns t0 l i).length (iX (ns t0 l i))⟩,⟨124,.ag (l.getD i default).cells⟩]) [1,2])=>(show Calls Tryz.prog 69 (([.ptr 1 0,.val (.bool false),.val (.int .i64 2)]:List Sx.SV).map (Sx.SV.den β)).toArray W (Sx.a7 ⟨w,[],fun _ _=>False⟩ β W (Sx.rowAt [⟨46,.ag cs⟩,db none [.cI (bI b0 i) 1 0,.own 2,.val (.int .i64 (aG (aM (l.getD i default).name) 201 (ni e0 l i)))],⟨5,.own 1 (ns t0 l i).length (iX (ns t0 l i))⟩,⟨124,.ag (l.getD i default).cells⟩]) 4 (cD [] 1 2 none (bI b0 i) (aG false 2 (aG (aM (l.getD i default).name) 201 (ni e0 l i)))))from eK false 2 ⟨rfl,rfl⟩ W β hS)
   have c123:=fun W (hW:aw [] w W)=>j2 (l.getD i default).out hw.o.1 hw.o.2 W (hlan.cy hW)
   have c126:=fun W (hW:aw [] w W)=>j2 (l.getD i default).room hw.r.1 hw.r.2 W (hlan.cy hW)
   have c128:=fun W β (hS:Sx.cw ⟨w,[],fun _ _=>False⟩ β W (Sx.rowAt [⟨46,.ag cs⟩,db none [.cI (bI b0 i) 1 0,.own 2,.val (.int .i64 (aG false 2 (aG (aM (l.getD i default).name) 201 (ni e0 l i))))],⟨5,.own 1 (ns t0 l i).length (iX (ns t0 l i))⟩,⟨124,.ag (l.getD i default).cells⟩,⟨9,.ag (strs (dh (l.getD i default)))⟩]) [1,2,4])=>l9 (m:=5) (og:=none) (p:=(bI b0 i)) (tx:=(ns t0 l i)) (e:=(aG false 2 (aG (aM (l.getD i default).name) 201 (ni e0 l i)))) (dh (l.getD i default)) ⟨rfl,rfl⟩ (by omega) (by omega) rfl (Nat.le_of_ble_eq_true rfl) (rB hlt hB) W β hS
   have hE:(aG false 2 (aG (aM (l.getD i default).name) 201 (ni e0 l i)))=jH (ni e0 l i) (l.getD i default):=by unfold jH;rw[decide_eq_false hg];rfl
   have h0:i+1≤l.length:=hlt
   have h1:l.length - (i+1) < l.length - i:=by omega
   have h2:vR A l.length c (i+1)=vR A l.length c (i+1):=rfl
   have z3:⟨46,.ag cs⟩::gL 5 true (ns t0 l (i+1)) (aG false 2 (aG (aM (l.getD i default).name) 201 (ni e0 l i)))=⟨46,.ag cs⟩::gL 5 true (ns t0 l (i+1)) (ni e0 l (i+1)):=by rw[hE];rfl
   refine⟨[(100,.is (.bool true)),(101,.any pp),(102,.any (.agg (l.getD i default).cells.toArray)),(129,.is (.int .i64 ((i+1:Nat):Int))),(106,.call (.bool (aM (l.getD i default).name))),(107,.al (cD [] 1 2 none (bI b0 i) (aG (aM (l.getD i default).name) 201 (ni e0 l i)))),(111,.is (.bool false)),(117,.al (cD [] 1 2 none (bI b0 i) (aG false 2 (aG (aM (l.getD i default).name) 201 (ni e0 l i))))),(123,.call (af (bb (l.getD i default).out))),(126,.call (af (bb (l.getD i default).room))),(128,.al (il [4] 1 2 5 none ((ns t0 l i)++bR (dh (l.getD i default))) (aG false 2 (aG (aM (l.getD i default).name) 201 (ni e0 l i))) (.tuple #[])))],[],?_⟩
   exact Eq.mp (by kernel_rfl) (Sx.t8 c100 c101 c102 c106 c107 c111 c117 c123 (Sx.t4 c126 c128 c129 h0 (Sx.t2 h1 h2 z3)))
 ·have hin:i=l.length:=by omega
  subst hin
  have c100:Value.bool (decide ((l.length:Int) < (l.length:Int)))=.bool false:=dY (decide_eq_false (by omega))
  have h0:True:=trivial
  have h1:([(1,.ptr 0 0),(4,.ptr 1 0)]:List (Nat×Sx.SV))=[(1,.ptr 0 0),(4,.ptr 1 0)]:=rfl
  have z2:I7 cs b0 t0 e0 l l.length=I7 cs b0 t0 e0 l l.length:=rfl
  refine⟨[(100,.is (.bool false))],[],?_⟩
  exact Eq.mp (by kernel_rfl) (Sx.t2 c100 h0 (And.intro h1 z2))
theorem nt{w:World}(hlan:dG w)(cs:List Value)(l:List Rl)(A:Option Go.Addr)(c:Nat)(hs:kB w [] 49 (.slice A l.length c) l.length (l.flatMap Rl.cells))(hwf:∀n∈l,n.Wf)(hl:l.length≤1000000000)(b0:Bool)(t0:Bs)(e0:Int)(hB:(Ie t0 l l.length).length≤140737488355328)(T:Bs×Int)(i:Nat)(hi:i≤l.length) :
  ∃H' L',Sx.jn Tryz.prog Tryz.f28.ntmps ⟨w,[],fun _ _=>False⟩ (Sx.cR Tryz.f28 4) H' L' ⟨zY A l.length c i,I6 cs b0 t0 e0 l i⟩
   (Sx.gI (fun i=>i≤l.length) (fun i=>zY A l.length c i) (fun i=>I6 cs b0 t0 e0 l i) (fun i=>i+1) (fun i=>l.length - i) (fun(_:Unit)=>True) (fun _=>[(1,.ptr 0 0),(4,.ptr 1 0)]) (fun _=>I6 cs b0 t0 e0 l l.length) (fun _=>()) (Sx.fK (Sx.cR Tryz.f28 4) - 1) (Sx.bX Tryz.prog Tryz.f28 (w8 T) .ret) i):=by
 by_cases hlt:i < l.length
 ·skip
  have c134:Value.bool (decide ((i:Int) < (l.length:Int)))=.bool true:=dQ (decide_eq_true (by omega))
  have hy:=getD_at hlt
  have hw:=hwf _ (dz hlt)
  obtain⟨inf,hi1,hi2⟩:=gj (P:=Tryz.prog) (t:=81) (n:=49) (by kernel_rfl)
  obtain⟨pp,hp1,hp2⟩:=hs.Eb Rl.aW Tryz.underlying42 hi1 hi2 Tryz.underlying81 rfl (by omega) hy
  clear hi1 hi2 hy
  have c135:=hp1
  have c136:=hp2
  have c140:Value.int .i64 (IntKind.i64.wrap ((i:Int)+1))=.int .i64 ((i+1:Nat):Int):=iw (by rw[j5 (by omega) (by omega)];rfl)
  have c139:=fun W β (hS:Sx.cw ⟨w,[],fun _ _=>False⟩ β W (Sx.rowAt [⟨46,.ag cs⟩,db none [.cI (bI b0 i) 1 0,.own 2,.val (.int .i64 (KA e0 l i))],⟨5,.own 1 (Ie t0 l i).length (iX (Ie t0 l i))⟩,⟨81,.ag (l.getD i default).cells⟩]) [1,2])=>CQ (m:=4) (og:=none) (p:=(bI b0 i)) (tx:=(Ie t0 l i)) (e:=(KA e0 l i)) (l.getD i default) ⟨rfl,rfl⟩ (by omega) (by omega) hlan (fun k hk=>(by cases hk)) hw (rB hlt hB) W β hS
  have h0:i+1≤l.length:=hlt
  have h1:l.length - (i+1) < l.length - i:=by omega
  have h2:zY A l.length c (i+1)=zY A l.length c (i+1):=rfl
  have z3:⟨46,.ag cs⟩::gL 4 true (Ie t0 l (i+1)) (KA e0 l (i+1))=⟨46,.ag cs⟩::gL 4 true (Ie t0 l (i+1)) (KA e0 l (i+1)):=rfl
  refine⟨[(134,.is (.bool true)),(135,.any pp),(136,.any (.agg (l.getD i default).cells.toArray)),(140,.is (.int .i64 ((i+1:Nat):Int))),(139,.al (il [] 1 2 4 none ((Ie t0 l i)++bR (dR (l.getD i default))) (oM (KA e0 l i) (l.getD i default)) (.tuple #[])))],[],?_⟩
  exact Eq.mp (by kernel_rfl) (Sx.t8 c134 c135 c136 c139 c140 h0 h1 h2 z3)
 ·have hin:i=l.length:=by omega
  subst hin
  have c134:Value.bool (decide ((l.length:Int) < (l.length:Int)))=.bool false:=dY (decide_eq_false (by omega))
  have h0:True:=trivial
  have h1:([(1,.ptr 0 0),(4,.ptr 1 0)]:List (Nat×Sx.SV))=[(1,.ptr 0 0),(4,.ptr 1 0)]:=rfl
  have z2:I6 cs b0 t0 e0 l l.length=I6 cs b0 t0 e0 l l.length:=rfl
  refine⟨[(134,.is (.bool false))],[],?_⟩
  exact Eq.mp (by kernel_rfl) (Sx.t2 c134 h0 (And.intro h1 z2))
end Go.Proofs.YtnncigmpcdehnaaGreatDoor
