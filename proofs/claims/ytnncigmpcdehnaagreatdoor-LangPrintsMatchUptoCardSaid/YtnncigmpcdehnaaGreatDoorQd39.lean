import Derived.Test.YtnncigmpcdehnaaGreatDoorQd38
namespace Go.Proofs.YtnncigmpcdehnaaGreatDoor
set_option maxRecDepth 100000
open Go Go.RowKit Go.Lib Go.Sort
theorem MQ(v:Bool)(n:Nat)(k:Int):Value.bool (df v n k==0)=.bool (fA v n k):=by unfold df;cases fA v n k<;>rfl
def bI(b0:Bool):Nat→Bool
 | 0=>b0
 |_+1=>true
def tI(t0:Bs)(ws:Nat→List Bs):Nat→Bs
 | 0=>t0
 |i+1=>tI t0 ws i++iD (ws i)
def eI(e0:Int)(E:Nat→Int→Int):Nat→Int
 | 0=>e0
 |i+1=>E i (eI e0 E i)
theorem rN{t0:Bs}{ws:Nat→List Bs}{B:Nat}:∀{n i:Nat},i < n→(tI t0 ws n).length≤B→(tI t0 ws i).length+(iD (ws i)).length≤B
 | 0,_,h,_=>by omega
 |n+1,i,h,hb=>by
  have e:(tI t0 ws (n+1)).length=(tI t0 ws n).length+(iD (ws n)).length:=by rw[tI,List.length_append]
  by_cases hi:i=n
  ·subst hi;omega
  ·exact rN (n:=n) (by omega) (by omega)
theorem xD{α:Type} [Inhabited α](f:α→List Bs)(t0:Bs)(l:List α):tI t0 (fun i=>f (l.getD i default)) l.length=t0++di (l.map f):=by
 have key:∀k,k≤l.length→tI t0 (fun i=>f (l.getD i default)) k=t0++di ((l.take k).map f):=by
  intro k
  induction k with
  |zero=>intro _;simp[tI,di]
  |succ k ih=>
   intro hk
   rw[tI,ih (by omega),List.take_add_one]
   have:l[k]?=some (l.getD k default):=by rw[List.getD_eq_getElem?_getD,List.getElem?_eq_getElem (by omega)];rfl
   rw[this]
   simp[di]
 have:=key l.length (Nat.le_refl _)
 rwa [List.take_length]at this
theorem zo{α:Type} [Inhabited α](E:Int→α→Int)(e0:Int)(l:List α):eI e0 (fun i e=>E e (l.getD i default)) l.length=l.foldl E e0:=by
 have key:∀k,k≤l.length→eI e0 (fun i e=>E e (l.getD i default)) k=(l.take k).foldl E e0:=by
  intro k
  induction k with
  |zero=>intro _;simp[eI]
  |succ k ih=>
   intro hk
   rw[eI,ih (by omega),List.take_add_one]
   have:l[k]?=some (l.getD k default):=by rw[List.getD_eq_getElem?_getD,List.getElem?_eq_getElem (by omega)];rfl
   rw[this]
   simp
 have:=key l.length (Nat.le_refl _)
 rwa [List.take_length]at this
theorem getD_at{α:Type} [Inhabited α]{l:List α}{i:Nat}(h:i < l.length):l[i]?=some (l.getD i default):=by
 rw[List.getD_eq_getElem?_getD,List.getElem?_eq_getElem h];rfl
theorem de{α:Type} [Inhabited α]{l:List α}{i:Nat}(h:i < l.length):l.getD i default∈l:=List.mem_of_getElem? (getD_at h)
def gH(k:Nat)(b:Bool)(t:Bs)(e:Int):List Sx.Row:=[cN none [.cw b 1 0,.own k,.val (.int .i64 e)],⟨5,.own 1 t.length (iU t)⟩]
def xB(b:Bool)(t:Bs)(e:Int):List Sx.Row:=gH 2 b t e
def Nx(T:Bs×Int)(l:List Sx.SV)(_:List Sx.Row):Prop:=l=[.val (ab T.1),.val (.int .i64 T.2)]
theorem ga{P:Program}{t:TypeId}{n:Nat}(h:(P.info? t).map (·.size)=some n):∃inf,P.info? t=some inf∧inf.size=n:=Option.map_eq_some_iff.1 h
theorem Me.aL(m:Me):m.cells.length=4:=rfl
theorem Mi.aL(m:Mi):m.cells.length=3:=rfl
theorem Rt.aL(m:Rt):m.cells.length=19:=by unfold Rt.cells;rw[List.length_append,Px.aL];rfl
theorem Rl.aL(m:Rl):m.cells.length=49:=by
 unfold Rl.cells
 rw[List.length_cons,List.length_append,Mt.aL];rfl
def AK(A:Option Go.Addr)(n c i:Nat):List (Nat×Sx.SV):=[(1,.ptr 0 0),(4,.ptr 1 0),(20,.val (.slice A n c)),(21,.val (.int .i64 (n:Int))),(22,.val (.int .i64 (i:Int)))]
def Ci(t0:Bs)(l:List Int):Nat→Bs:=tI t0 fun i=>eb (l.getD i default)
def EX(e0:Int)(l:List Int):Nat→Int:=eI e0 fun i e=>Ck e (l.getD i default)
def JW(cs:List Value)(b0:Bool)(t0:Bs)(e0:Int)(l:List Int)(i:Nat):List Sx.Row:=⟨46,.aj cs⟩::xB (bI b0 i) (Ci t0 l i) (EX e0 l i)
def AJ(A:Option Go.Addr)(n c i:Nat):List (Nat×Sx.SV):=[(1,.ptr 0 0),(4,.ptr 1 0),(37,.val (.slice A n c)),(38,.val (.int .i64 (n:Int))),(39,.val (.int .i64 (i:Int)))]
def xt(t0:Bs)(l:List Rt):Nat→Bs:=tI t0 fun i=>eG (l.getD i default)
def yf(e0:Int)(l:List Rt):Nat→Int:=eI e0 fun i e=>vN e (l.getD i default)
def JV(cs:List Value)(b0:Bool)(t0:Bs)(e0:Int)(l:List Rt)(i:Nat):List Sx.Row:=⟨46,.aj cs⟩::xB (bI b0 i) (xt t0 l i) (yf e0 l i)
def AI(A:Option Go.Addr)(n c i:Nat):List (Nat×Sx.SV):=[(1,.ptr 0 0),(4,.ptr 1 0),(67,.val (.slice A n c)),(68,.val (.int .i64 (n:Int))),(69,.val (.int .i64 (i:Int)))]
def Ch(t0:Bs)(l:List Me):Nat→Bs:=tI t0 fun i=>eJ (l.getD i default)
def DM(e0:Int)(l:List Me):Nat→Int:=eI e0 fun i e=>we e (l.getD i default)
def JU(cs:List Value)(b0:Bool)(t0:Bs)(e0:Int)(l:List Me)(i:Nat):List Sx.Row:=⟨46,.aj cs⟩::xB (bI b0 i) (Ch t0 l i) (DM e0 l i)
def vT(A:Option Go.Addr)(n c i:Nat):List (Nat×Sx.SV):=[(1,.ptr 0 0),(4,.ptr 1 0),(97,.val (.slice A n c)),(98,.val (.int .i64 (n:Int))),(99,.val (.int .i64 (i:Int)))]
def nH(t0:Bs)(l:List Mi):Nat→Bs:=tI t0 fun i=>cR (l.getD i default)
def nA(e0:Int)(l:List Mi):Nat→Int:=eI e0 fun i e=>jE e (l.getD i default)
def JT(cs:List Value)(b0:Bool)(t0:Bs)(e0:Int)(l:List Mi)(i:Nat):List Sx.Row:=⟨46,.aj cs⟩::xB (bI b0 i) (nH t0 l i) (nA e0 l i)
def AH(A:Option Go.Addr)(n c i:Nat):List (Nat×Sx.SV):=[(1,.ptr 0 0),(4,.ptr 1 0),(131,.val (.slice A n c)),(132,.val (.int .i64 (n:Int))),(133,.val (.int .i64 (i:Int)))]
def IT(t0:Bs)(l:List Rl):Nat→Bs:=tI t0 fun i=>eD (l.getD i default)
def Ly(e0:Int)(l:List Rl):Nat→Int:=eI e0 fun i e=>qv e (l.getD i default)
def JS(cs:List Value)(b0:Bool)(t0:Bs)(e0:Int)(l:List Rl)(i:Nat):List Sx.Row:=⟨46,.aj cs⟩::xB (bI b0 i) (IT t0 l i) (Ly e0 l i)
theorem Dx{b:Sx.bb}{row:Nat→Option Sx.Row}{i j m:Nat}{og:Option Nat}{p:Bool}{tx:Bs}{e:Int}(r:Rl)(h:mF row i j og p tx e)(hi:i < m)(hj:j < m)(hlan:dJ b.w)(h9:∀k∈b.S,9≤k)(hr:r.Wf)(hl:tx.length+(iD (eD r)).length≤140737488355328)
  (W:World) (β:Sx.Env) (hS:Sx.dP b β W row [i,j]) :
  Calls Tryz.prog 74 (([.ptr i 0,.val (.agg r.cells.toArray)]:List Sx.SV).map (Sx.SV.den β)).toArray W (Sx.aP b β W row m (xx [] i j m og (tx++iD (eD r)) (qv e r) (.tuple #[]))):=by
 obtain⟨ht,hg⟩:=nS hS h (by simp) (by simp)
 have hlow:=hlan.low
 have old:∀x r k,x∈[i,j]→row x=some r→Sx.av β x r=some k→9≤k:=fun x r k hx hr hk=>by
  rcases hS.new x hx r k hr hk with h|h
  ·exact h9 k h
  ·omega
 refine(Jd ht (hlan.aF hS.aF h9) (fun k hk=>?_) hr hl).mono fun en w' hp=>ri h hi hj hg hp
 rcases List.mem_cons.1 hk with rfl|hk
 ·exact old i _ _ (by simp) h.b mL
 ·exact old j _ _ (by simp) h.o (by show(β.a j).map (·.block)=some k;simpa using hk)
theorem N3{w:World}(hlan:dJ w)(cs:List Value)(l:List Int)(A:Option Go.Addr)(c:Nat)(hs:oH w [] 1 (.slice A l.length c) l.length (l.map fun n=>Value.int .i64 n))(hwf:∀n∈l,qT n)(hl:l.length≤1000000000)(b0:Bool)(t0:Bs)(e0:Int)(hB:(Ci t0 l l.length).length≤140737488355328)(T:Bs×Int)(i:Nat)(hi:i≤l.length) :
  ∃H' L',Sx.jk Tryz.prog Tryz.f28.ntmps ⟨w,[],fun _ _=>False⟩ (Sx.bB Tryz.f28 0) H' L' ⟨AK A l.length c i,JW cs b0 t0 e0 l i⟩
   (Sx.ek (fun i=>i≤l.length) (fun i=>AK A l.length c i) (fun i=>JW cs b0 t0 e0 l i) (fun i=>i+1) (fun i=>l.length - i) (fun(_:Unit)=>True) (fun _=>[(1,.ptr 0 0),(4,.ptr 1 0)]) (fun _=>JW cs b0 t0 e0 l l.length) (fun _=>()) (Sx.ei (Sx.bB Tryz.f28 0) - 1) (Sx.bR Tryz.prog Tryz.f28 (Nx T) .ret) i):=by
 by_cases hlt:i < l.length
 ·skip
  have c23:Value.bool (decide ((i:Int) < (l.length:Int)))=.bool true:=gv (decide_eq_true (by omega))
  have hy:=getD_at hlt
  have hw:=hwf _ (de hlt)
  obtain⟨inf,hi1,hi2⟩:=ga (P:=Tryz.prog) (t:=3) (n:=1) (by kernel_rfl)
  obtain⟨pp,hp1,hp2⟩:=hs.Nv Tryz.underlying40 hi1 hi2 Tryz.underlying3 rfl hy
  clear hi1 hi2 hy
  have c24:=hp1
  have c25:=hp2
  have c35:Value.int .i64 (IntKind.i64.wrap ((i:Int)+1))=.int .i64 ((i+1:Nat):Int):=iw (by rw[gE (by omega) (by omega)];rfl)
  have c28:Value.bool (decide ((l.getD i default)≥0))=.bool (decide ((l.getD i default)≥0)):=rfl
  have c29:=fun W β (hS:Sx.dP ⟨w,[],fun _ _=>False⟩ β W (Sx.rowAt [⟨46,.aj cs⟩,cN none [.cw (bI b0 i) 1 0,.own 2,.val (.int .i64 (EX e0 l i))],⟨5,.own 1 (Ci t0 l i).length (iU (Ci t0 l i))⟩]) [1,2])=>(show Calls Tryz.prog 69 (([.ptr 1 0,.val (.bool (decide ((l.getD i default)≥0))),.val (.int .i64 2)]:List Sx.SV).map (Sx.SV.den β)).toArray W (Sx.aP ⟨w,[],fun _ _=>False⟩ β W (Sx.rowAt [⟨46,.aj cs⟩,cN none [.cw (bI b0 i) 1 0,.own 2,.val (.int .i64 (EX e0 l i))],⟨5,.own 1 (Ci t0 l i).length (iU (Ci t0 l i))⟩]) 3 (fq [] 1 2 none (bI b0 i) (aB (decide ((l.getD i default)≥0)) 2 (EX e0 l i))))from ey (decide ((l.getD i default)≥0)) 2 ⟨rfl,rfl⟩ W β hS)
  have c32:=fun W (hW:ag [] w W)=>jY (l.getD i default) hw.1 hw.2 W (hlan.cS hW)
  have c34:=fun W β (hS:Sx.dP ⟨w,[],fun _ _=>False⟩ β W (Sx.rowAt [⟨46,.aj cs⟩,cN none [.cw (bI b0 i) 1 0,.own 2,.val (.int .i64 (aB (decide ((l.getD i default)≥0)) 2 (EX e0 l i)))],⟨5,.own 1 (Ci t0 l i).length (iU (Ci t0 l i))⟩,⟨9,.aj (strs (eb (l.getD i default)))⟩]) [1,2,3])=>mg (m:=4) (og:=none) (p:=(bI b0 i)) (tx:=(Ci t0 l i)) (e:=(aB (decide ((l.getD i default)≥0)) 2 (EX e0 l i))) (eb (l.getD i default)) ⟨rfl,rfl⟩ (by omega) (by omega) rfl (Nat.le_of_ble_eq_true rfl) (rN hlt hB) W β hS
  have h0:i+1≤l.length:=hlt
  have h1:l.length - (i+1) < l.length - i:=by omega
  have h2:AK A l.length c (i+1)=AK A l.length c (i+1):=rfl
  have z3:⟨46,.aj cs⟩::gH 4 true (Ci t0 l (i+1)) (EX e0 l (i+1))=⟨46,.aj cs⟩::gH 4 true (Ci t0 l (i+1)) (EX e0 l (i+1)):=rfl
  refine⟨[(23,.is (.bool true)),(24,.any pp),(25,.any (.int .i64 (l.getD i default))),(35,.is (.int .i64 ((i+1:Nat):Int))),(28,.is (.bool (decide ((l.getD i default)≥0)))),(29,.an (fq [] 1 2 none (bI b0 i) (aB (decide ((l.getD i default)≥0)) 2 (EX e0 l i)))),(32,.call (ab (cE (l.getD i default)))),(34,.an (xx [3] 1 2 4 none ((Ci t0 l i)++iD (eb (l.getD i default))) (aB (decide ((l.getD i default)≥0)) 2 (EX e0 l i)) (.tuple #[])))],[],?_⟩
  exact Eq.mp (by kernel_rfl) (Sx.t8 c23 c24 c25 c28 c29 c32 c34 c35 (Sx.t2 h0 h1 (And.intro h2 z3)))
 ·have hin:i=l.length:=by omega
  subst hin
  have c23:Value.bool (decide ((l.length:Int) < (l.length:Int)))=.bool false:=gZ (decide_eq_false (by omega))
  have h0:True:=trivial
  have h1:([(1,.ptr 0 0),(4,.ptr 1 0)]:List (Nat×Sx.SV))=[(1,.ptr 0 0),(4,.ptr 1 0)]:=rfl
  have z2:JW cs b0 t0 e0 l l.length=JW cs b0 t0 e0 l l.length:=rfl
  refine⟨[(23,.is (.bool false))],[],?_⟩
  exact Eq.mp (by kernel_rfl) (Sx.t2 c23 h0 (And.intro h1 z2))
theorem N2{w:World}(hlan:dJ w)(cs:List Value)(l:List Rt)(A:Option Go.Addr)(c:Nat)(hs:oH w [] 19 (.slice A l.length c) l.length (l.flatMap Rt.cells))(hwf:∀n∈l,n.Wf)(hl:l.length≤1000000000)(b0:Bool)(t0:Bs)(e0:Int)(hB:(xt t0 l l.length).length≤140737488355328)(T:Bs×Int)(i:Nat)(hi:i≤l.length) :
  ∃H' L',Sx.jk Tryz.prog Tryz.f28.ntmps ⟨w,[],fun _ _=>False⟩ (Sx.bB Tryz.f28 1) H' L' ⟨AJ A l.length c i,JV cs b0 t0 e0 l i⟩
   (Sx.ek (fun i=>i≤l.length) (fun i=>AJ A l.length c i) (fun i=>JV cs b0 t0 e0 l i) (fun i=>i+1) (fun i=>l.length - i) (fun(_:Unit)=>True) (fun _=>[(1,.ptr 0 0),(4,.ptr 1 0)]) (fun _=>JV cs b0 t0 e0 l l.length) (fun _=>()) (Sx.ei (Sx.bB Tryz.f28 1) - 1) (Sx.bR Tryz.prog Tryz.f28 (Nx T) .ret) i):=by
 by_cases hlt:i < l.length
 ·skip
  have c40:Value.bool (decide ((i:Int) < (l.length:Int)))=.bool true:=gv (decide_eq_true (by omega))
  have hy:=getD_at hlt
  have hw:=hwf _ (de hlt)
  obtain⟨inf,hi1,hi2⟩:=ga (P:=Tryz.prog) (t:=118) (n:=19) (by kernel_rfl)
  obtain⟨pp,hp1,hp2⟩:=hs.EG Rt.aL Tryz.underlying41 hi1 hi2 Tryz.underlying118 rfl (by omega) hy
  clear hi1 hi2 hy
  have c41:=hp1
  have c42:=hp2
  have c65:Value.int .i64 (IntKind.i64.wrap ((i:Int)+1))=.int .i64 ((i+1:Nat):Int):=iw (by rw[gE (by omega) (by omega)];rfl)
  have c46:=fun W (hW:ag [] w W)=>Ak (l.getD i default).pf.v (l.getD i default).pf.n (l.getD i default).pf.k hw.n W (hlan.cS hW)
  have c51:=MQ (l.getD i default).pf.v (l.getD i default).pf.n (l.getD i default).pf.k
  have c52:=fun W β (hS:Sx.dP ⟨w,[],fun _ _=>False⟩ β W (Sx.rowAt [⟨46,.aj cs⟩,cN none [.cw (bI b0 i) 1 0,.own 2,.val (.int .i64 (yf e0 l i))],⟨5,.own 1 (xt t0 l i).length (iU (xt t0 l i))⟩,⟨118,.aj (l.getD i default).cells⟩]) [1,2])=>(show Calls Tryz.prog 69 (([.ptr 1 0,.val (.bool (fA (l.getD i default).pf.v (l.getD i default).pf.n (l.getD i default).pf.k)),.val (.int .i64 151)]:List Sx.SV).map (Sx.SV.den β)).toArray W (Sx.aP ⟨w,[],fun _ _=>False⟩ β W (Sx.rowAt [⟨46,.aj cs⟩,cN none [.cw (bI b0 i) 1 0,.own 2,.val (.int .i64 (yf e0 l i))],⟨5,.own 1 (xt t0 l i).length (iU (xt t0 l i))⟩,⟨118,.aj (l.getD i default).cells⟩]) 4 (fq [] 1 2 none (bI b0 i) (aB (fA (l.getD i default).pf.v (l.getD i default).pf.n (l.getD i default).pf.k) 151 (yf e0 l i))))from ey (fA (l.getD i default).pf.v (l.getD i default).pf.n (l.getD i default).pf.k) 151 ⟨rfl,rfl⟩ W β hS)
  have c56:Value.bool (decide ((l.getD i default).out≥0))=.bool (decide ((l.getD i default).out≥0)):=rfl
  have c57:=fun W β (hS:Sx.dP ⟨w,[],fun _ _=>False⟩ β W (Sx.rowAt [⟨46,.aj cs⟩,cN none [.cw (bI b0 i) 1 0,.own 2,.val (.int .i64 (aB (fA (l.getD i default).pf.v (l.getD i default).pf.n (l.getD i default).pf.k) 151 (yf e0 l i)))],⟨5,.own 1 (xt t0 l i).length (iU (xt t0 l i))⟩,⟨118,.aj (l.getD i default).cells⟩]) [1,2])=>(show Calls Tryz.prog 69 (([.ptr 1 0,.val (.bool (decide ((l.getD i default).out≥0))),.val (.int .i64 2)]:List Sx.SV).map (Sx.SV.den β)).toArray W (Sx.aP ⟨w,[],fun _ _=>False⟩ β W (Sx.rowAt [⟨46,.aj cs⟩,cN none [.cw (bI b0 i) 1 0,.own 2,.val (.int .i64 (aB (fA (l.getD i default).pf.v (l.getD i default).pf.n (l.getD i default).pf.k) 151 (yf e0 l i)))],⟨5,.own 1 (xt t0 l i).length (iU (xt t0 l i))⟩,⟨118,.aj (l.getD i default).cells⟩]) 4 (fq [] 1 2 none (bI b0 i) (aB (decide ((l.getD i default).out≥0)) 2 (aB (fA (l.getD i default).pf.v (l.getD i default).pf.n (l.getD i default).pf.k) 151 (yf e0 l i)))))from ey (decide ((l.getD i default).out≥0)) 2 ⟨rfl,rfl⟩ W β hS)
  have c62:=fun W (hW:ag [] w W)=>jY (l.getD i default).out hw.o.1 hw.o.2 W (hlan.cS hW)
  have c64:=fun W β (hS:Sx.dP ⟨w,[],fun _ _=>False⟩ β W (Sx.rowAt [⟨46,.aj cs⟩,cN none [.cw (bI b0 i) 1 0,.own 2,.val (.int .i64 (aB (decide ((l.getD i default).out≥0)) 2 (aB (fA (l.getD i default).pf.v (l.getD i default).pf.n (l.getD i default).pf.k) 151 (yf e0 l i))))],⟨5,.own 1 (xt t0 l i).length (iU (xt t0 l i))⟩,⟨118,.aj (l.getD i default).cells⟩,⟨9,.aj (strs (eG (l.getD i default)))⟩]) [1,2,4])=>mg (m:=5) (og:=none) (p:=(bI b0 i)) (tx:=(xt t0 l i)) (e:=(aB (decide ((l.getD i default).out≥0)) 2 (aB (fA (l.getD i default).pf.v (l.getD i default).pf.n (l.getD i default).pf.k) 151 (yf e0 l i)))) (eG (l.getD i default)) ⟨rfl,rfl⟩ (by omega) (by omega) rfl (Nat.le_of_ble_eq_true rfl) (rN hlt hB) W β hS
  have h0:i+1≤l.length:=hlt
  have h1:l.length - (i+1) < l.length - i:=by omega
  have h2:AJ A l.length c (i+1)=AJ A l.length c (i+1):=rfl
  have z3:⟨46,.aj cs⟩::gH 5 true (xt t0 l (i+1)) (yf e0 l (i+1))=⟨46,.aj cs⟩::gH 5 true (xt t0 l (i+1)) (yf e0 l (i+1)):=rfl
  refine⟨[(40,.is (.bool true)),(41,.any pp),(42,.any (.agg (l.getD i default).cells.toArray)),(65,.is (.int .i64 ((i+1:Nat):Int))),(46,.call (.tuple #[ab (qV (l.getD i default).pf),.int .i64 (df (l.getD i default).pf.v (l.getD i default).pf.n (l.getD i default).pf.k)])),(51,.is (.bool (fA (l.getD i default).pf.v (l.getD i default).pf.n (l.getD i default).pf.k))),(52,.an (fq [] 1 2 none (bI b0 i) (aB (fA (l.getD i default).pf.v (l.getD i default).pf.n (l.getD i default).pf.k) 151 (yf e0 l i)))),(56,.is (.bool (decide ((l.getD i default).out≥0)))),(57,.an (fq [] 1 2 none (bI b0 i) (aB (decide ((l.getD i default).out≥0)) 2 (aB (fA (l.getD i default).pf.v (l.getD i default).pf.n (l.getD i default).pf.k) 151 (yf e0 l i))))),(62,.call (ab (cE (l.getD i default).out))),(64,.an (xx [4] 1 2 5 none ((xt t0 l i)++iD (eG (l.getD i default))) (aB (decide ((l.getD i default).out≥0)) 2 (aB (fA (l.getD i default).pf.v (l.getD i default).pf.n (l.getD i default).pf.k) 151 (yf e0 l i))) (.tuple #[])))],[],?_⟩
  exact Eq.mp (by kernel_rfl) (Sx.t8 c40 c41 c42 c46 c51 c52 c56 c57 (Sx.t4 c62 c64 c65 h0 (Sx.t2 h1 h2 z3)))
 ·have hin:i=l.length:=by omega
  subst hin
  have c40:Value.bool (decide ((l.length:Int) < (l.length:Int)))=.bool false:=gZ (decide_eq_false (by omega))
  have h0:True:=trivial
  have h1:([(1,.ptr 0 0),(4,.ptr 1 0)]:List (Nat×Sx.SV))=[(1,.ptr 0 0),(4,.ptr 1 0)]:=rfl
  have z2:JV cs b0 t0 e0 l l.length=JV cs b0 t0 e0 l l.length:=rfl
  refine⟨[(40,.is (.bool false))],[],?_⟩
  exact Eq.mp (by kernel_rfl) (Sx.t2 c40 h0 (And.intro h1 z2))
theorem N1{w:World}(hlan:dJ w)(cs:List Value)(l:List Me)(A:Option Go.Addr)(c:Nat)(hs:oH w [] 4 (.slice A l.length c) l.length (l.flatMap Me.cells))(hwf:∀n∈l,n.Wf)(hl:l.length≤1000000000)(b0:Bool)(t0:Bs)(e0:Int)(hB:(Ch t0 l l.length).length≤140737488355328)(T:Bs×Int)(i:Nat)(hi:i≤l.length) :
  ∃H' L',Sx.jk Tryz.prog Tryz.f28.ntmps ⟨w,[],fun _ _=>False⟩ (Sx.bB Tryz.f28 2) H' L' ⟨AI A l.length c i,JU cs b0 t0 e0 l i⟩
   (Sx.ek (fun i=>i≤l.length) (fun i=>AI A l.length c i) (fun i=>JU cs b0 t0 e0 l i) (fun i=>i+1) (fun i=>l.length - i) (fun(_:Unit)=>True) (fun _=>[(1,.ptr 0 0),(4,.ptr 1 0)]) (fun _=>JU cs b0 t0 e0 l l.length) (fun _=>()) (Sx.ei (Sx.bB Tryz.f28 2) - 1) (Sx.bR Tryz.prog Tryz.f28 (Nx T) .ret) i):=by
 by_cases hlt:i < l.length
 ·skip
  have c70:Value.bool (decide ((i:Int) < (l.length:Int)))=.bool true:=gv (decide_eq_true (by omega))
  have hy:=getD_at hlt
  have hw:=hwf _ (de hlt)
  obtain⟨inf,hi1,hi2⟩:=ga (P:=Tryz.prog) (t:=122) (n:=4) (by kernel_rfl)
  obtain⟨pp,hp1,hp2⟩:=hs.EG Me.aL Tryz.underlying43 hi1 hi2 Tryz.underlying122 rfl (by omega) hy
  clear hi1 hi2 hy
  have c71:=hp1
  have c72:=hp2
  have c95:Value.int .i64 (IntKind.i64.wrap ((i:Int)+1))=.int .i64 ((i+1:Nat):Int):=iw (by rw[gE (by omega) (by omega)];rfl)
  have c76:=fun W (_:ag [] w W)=>od (l.getD i default).name W
  have c77:=fun W β (hS:Sx.dP ⟨w,[],fun _ _=>False⟩ β W (Sx.rowAt [⟨46,.aj cs⟩,cN none [.cw (bI b0 i) 1 0,.own 2,.val (.int .i64 (DM e0 l i))],⟨5,.own 1 (Ch t0 l i).length (iU (Ch t0 l i))⟩,⟨122,.aj (l.getD i default).cells⟩]) [1,2])=>(show Calls Tryz.prog 69 (([.ptr 1 0,.val (.bool (aE (l.getD i default).name)),.val (.int .i64 201)]:List Sx.SV).map (Sx.SV.den β)).toArray W (Sx.aP ⟨w,[],fun _ _=>False⟩ β W (Sx.rowAt [⟨46,.aj cs⟩,cN none [.cw (bI b0 i) 1 0,.own 2,.val (.int .i64 (DM e0 l i))],⟨5,.own 1 (Ch t0 l i).length (iU (Ch t0 l i))⟩,⟨122,.aj (l.getD i default).cells⟩]) 4 (fq [] 1 2 none (bI b0 i) (aB (aE (l.getD i default).name) 201 (DM e0 l i))))from ey (aE (l.getD i default).name) 201 ⟨rfl,rfl⟩ W β hS)
  have c84:=fun W (hW:ag [] w W)=>CS (l.getD i default).num (by have:=hw.a;omega) W (hlan.cS hW)
  have c88:=fun W (hW:ag [] w W)=>CS (l.getD i default).den (by have:=hw.b;omega) W (hlan.cS hW)
  have c92:=fun W (hW:ag [] w W)=>CS (l.getD i default).pH (by have:=hw.c;omega) W (hlan.cS hW)
  have c94:=fun W β (hS:Sx.dP ⟨w,[],fun _ _=>False⟩ β W (Sx.rowAt [⟨46,.aj cs⟩,cN none [.cw (bI b0 i) 1 0,.own 2,.val (.int .i64 (aB (aE (l.getD i default).name) 201 (DM e0 l i)))],⟨5,.own 1 (Ch t0 l i).length (iU (Ch t0 l i))⟩,⟨122,.aj (l.getD i default).cells⟩,⟨9,.aj (strs (eJ (l.getD i default)))⟩]) [1,2,4])=>mg (m:=5) (og:=none) (p:=(bI b0 i)) (tx:=(Ch t0 l i)) (e:=(aB (aE (l.getD i default).name) 201 (DM e0 l i))) (eJ (l.getD i default)) ⟨rfl,rfl⟩ (by omega) (by omega) rfl (Nat.le_of_ble_eq_true rfl) (rN hlt hB) W β hS
  have h0:i+1≤l.length:=hlt
  have h1:l.length - (i+1) < l.length - i:=by omega
  have h2:AI A l.length c (i+1)=AI A l.length c (i+1):=rfl
  have z3:⟨46,.aj cs⟩::gH 5 true (Ch t0 l (i+1)) (DM e0 l (i+1))=⟨46,.aj cs⟩::gH 5 true (Ch t0 l (i+1)) (DM e0 l (i+1)):=rfl
  refine⟨[(70,.is (.bool true)),(71,.any pp),(72,.any (.agg (l.getD i default).cells.toArray)),(95,.is (.int .i64 ((i+1:Nat):Int))),(76,.call (.bool (aE (l.getD i default).name))),(77,.an (fq [] 1 2 none (bI b0 i) (aB (aE (l.getD i default).name) 201 (DM e0 l i)))),(84,.call (ab (ak 10 (l.getD i default).num))),(88,.call (ab (ak 10 (l.getD i default).den))),(92,.call (ab (ak 10 (l.getD i default).pH))),(94,.an (xx [4] 1 2 5 none ((Ch t0 l i)++iD (eJ (l.getD i default))) (aB (aE (l.getD i default).name) 201 (DM e0 l i)) (.tuple #[])))],[],?_⟩
  exact Eq.mp (by kernel_rfl) (Sx.t8 c70 c71 c72 c76 c77 c84 c88 c92 (Sx.t4 c94 c95 h0 h1 (And.intro h2 z3)))
 ·have hin:i=l.length:=by omega
  subst hin
  have c70:Value.bool (decide ((l.length:Int) < (l.length:Int)))=.bool false:=gZ (decide_eq_false (by omega))
  have h0:True:=trivial
  have h1:([(1,.ptr 0 0),(4,.ptr 1 0)]:List (Nat×Sx.SV))=[(1,.ptr 0 0),(4,.ptr 1 0)]:=rfl
  have z2:JU cs b0 t0 e0 l l.length=JU cs b0 t0 e0 l l.length:=rfl
  refine⟨[(70,.is (.bool false))],[],?_⟩
  exact Eq.mp (by kernel_rfl) (Sx.t2 c70 h0 (And.intro h1 z2))
theorem N0{w:World}(hlan:dJ w)(cs:List Value)(l:List Mi)(A:Option Go.Addr)(c:Nat)(hs:oH w [] 3 (.slice A l.length c) l.length (l.flatMap Mi.cells))(hwf:∀n∈l,n.Wf)(hl:l.length≤1000000000)(b0:Bool)(t0:Bs)(e0:Int)(hB:(nH t0 l l.length).length≤140737488355328)(T:Bs×Int)(i:Nat)(hi:i≤l.length) :
  ∃H' L',Sx.jk Tryz.prog Tryz.f28.ntmps ⟨w,[],fun _ _=>False⟩ (Sx.bB Tryz.f28 3) H' L' ⟨vT A l.length c i,JT cs b0 t0 e0 l i⟩
   (Sx.ek (fun i=>i≤l.length) (fun i=>vT A l.length c i) (fun i=>JT cs b0 t0 e0 l i) (fun i=>i+1) (fun i=>l.length - i) (fun(_:Unit)=>True) (fun _=>[(1,.ptr 0 0),(4,.ptr 1 0)]) (fun _=>JT cs b0 t0 e0 l l.length) (fun _=>()) (Sx.ei (Sx.bB Tryz.f28 3) - 1) (Sx.bR Tryz.prog Tryz.f28 (Nx T) .ret) i):=by
 by_cases hlt:i < l.length
 ·by_cases hg:(l.getD i default).out≥0
  ·skip
   have c100:Value.bool (decide ((i:Int) < (l.length:Int)))=.bool true:=gv (decide_eq_true (by omega))
   have hy:=getD_at hlt
   have hw:=hwf _ (de hlt)
   obtain⟨inf,hi1,hi2⟩:=ga (P:=Tryz.prog) (t:=124) (n:=3) (by kernel_rfl)
   obtain⟨pp,hp1,hp2⟩:=hs.EG Mi.aL Tryz.underlying44 hi1 hi2 Tryz.underlying124 rfl (by omega) hy
   clear hi1 hi2 hy
   have c101:=hp1
   have c102:=hp2
   have c129:Value.int .i64 (IntKind.i64.wrap ((i:Int)+1))=.int .i64 ((i+1:Nat):Int):=iw (by rw[gE (by omega) (by omega)];rfl)
   have c106:=fun W (_:ag [] w W)=>od (l.getD i default).name W
   have c107:=fun W β (hS:Sx.dP ⟨w,[],fun _ _=>False⟩ β W (Sx.rowAt [⟨46,.aj cs⟩,cN none [.cw (bI b0 i) 1 0,.own 2,.val (.int .i64 (nA e0 l i))],⟨5,.own 1 (nH t0 l i).length (iU (nH t0 l i))⟩,⟨124,.aj (l.getD i default).cells⟩]) [1,2])=>(show Calls Tryz.prog 69 (([.ptr 1 0,.val (.bool (aE (l.getD i default).name)),.val (.int .i64 201)]:List Sx.SV).map (Sx.SV.den β)).toArray W (Sx.aP ⟨w,[],fun _ _=>False⟩ β W (Sx.rowAt [⟨46,.aj cs⟩,cN none [.cw (bI b0 i) 1 0,.own 2,.val (.int .i64 (nA e0 l i))],⟨5,.own 1 (nH t0 l i).length (iU (nH t0 l i))⟩,⟨124,.aj (l.getD i default).cells⟩]) 4 (fq [] 1 2 none (bI b0 i) (aB (aE (l.getD i default).name) 201 (nA e0 l i))))from ey (aE (l.getD i default).name) 201 ⟨rfl,rfl⟩ W β hS)
   have c111:Value.bool (decide ((l.getD i default).out≥0))=.bool true:=gv (decide_eq_true hg)
   have c115:Value.bool (decide ((l.getD i default).room≥0))=.bool (decide ((l.getD i default).room≥0)):=rfl
   have c117:=fun W β (hS:Sx.dP ⟨w,[],fun _ _=>False⟩ β W (Sx.rowAt [⟨46,.aj cs⟩,cN none [.cw (bI b0 i) 1 0,.own 2,.val (.int .i64 (aB (aE (l.getD i default).name) 201 (nA e0 l i)))],⟨5,.own 1 (nH t0 l i).length (iU (nH t0 l i))⟩,⟨124,.aj (l.getD i default).cells⟩]) [1,2])=>(show Calls Tryz.prog 69 (([.ptr 1 0,.val (.bool (decide ((l.getD i default).room≥0))),.val (.int .i64 2)]:List Sx.SV).map (Sx.SV.den β)).toArray W (Sx.aP ⟨w,[],fun _ _=>False⟩ β W (Sx.rowAt [⟨46,.aj cs⟩,cN none [.cw (bI b0 i) 1 0,.own 2,.val (.int .i64 (aB (aE (l.getD i default).name) 201 (nA e0 l i)))],⟨5,.own 1 (nH t0 l i).length (iU (nH t0 l i))⟩,⟨124,.aj (l.getD i default).cells⟩]) 4 (fq [] 1 2 none (bI b0 i) (aB (decide ((l.getD i default).room≥0)) 2 (aB (aE (l.getD i default).name) 201 (nA e0 l i)))))from ey (decide ((l.getD i default).room≥0)) 2 ⟨rfl,rfl⟩ W β hS)
   have c123:=fun W (hW:ag [] w W)=>jY (l.getD i default).out hw.o.1 hw.o.2 W (hlan.cS hW)
   have c126:=fun W (hW:ag [] w W)=>jY (l.getD i default).room hw.r.1 hw.r.2 W (hlan.cS hW)
   have c128:=fun W β (hS:Sx.dP ⟨w,[],fun _ _=>False⟩ β W (Sx.rowAt [⟨46,.aj cs⟩,cN none [.cw (bI b0 i) 1 0,.own 2,.val (.int .i64 (aB (decide ((l.getD i default).room≥0)) 2 (aB (aE (l.getD i default).name) 201 (nA e0 l i))))],⟨5,.own 1 (nH t0 l i).length (iU (nH t0 l i))⟩,⟨124,.aj (l.getD i default).cells⟩,⟨9,.aj (strs (cR (l.getD i default)))⟩]) [1,2,4])=>mg (m:=5) (og:=none) (p:=(bI b0 i)) (tx:=(nH t0 l i)) (e:=(aB (decide ((l.getD i default).room≥0)) 2 (aB (aE (l.getD i default).name) 201 (nA e0 l i)))) (cR (l.getD i default)) ⟨rfl,rfl⟩ (by omega) (by omega) rfl (Nat.le_of_ble_eq_true rfl) (rN hlt hB) W β hS
   have hE:(aB (decide ((l.getD i default).room≥0)) 2 (aB (aE (l.getD i default).name) 201 (nA e0 l i)))=jE (nA e0 l i) (l.getD i default):=by unfold jE;rw[decide_eq_true hg];rfl
   have h0:i+1≤l.length:=hlt
   have h1:l.length - (i+1) < l.length - i:=by omega
   have h2:vT A l.length c (i+1)=vT A l.length c (i+1):=rfl
   have z3:⟨46,.aj cs⟩::gH 5 true (nH t0 l (i+1)) (aB (decide ((l.getD i default).room≥0)) 2 (aB (aE (l.getD i default).name) 201 (nA e0 l i)))=⟨46,.aj cs⟩::gH 5 true (nH t0 l (i+1)) (nA e0 l (i+1)):=by rw[hE];rfl
   refine⟨[(100,.is (.bool true)),(101,.any pp),(102,.any (.agg (l.getD i default).cells.toArray)),(129,.is (.int .i64 ((i+1:Nat):Int))),(106,.call (.bool (aE (l.getD i default).name))),(107,.an (fq [] 1 2 none (bI b0 i) (aB (aE (l.getD i default).name) 201 (nA e0 l i)))),(111,.is (.bool true)),(115,.is (.bool (decide ((l.getD i default).room≥0)))),(117,.an (fq [] 1 2 none (bI b0 i) (aB (decide ((l.getD i default).room≥0)) 2 (aB (aE (l.getD i default).name) 201 (nA e0 l i))))),(123,.call (ab (cE (l.getD i default).out))),(126,.call (ab (cE (l.getD i default).room))),(128,.an (xx [4] 1 2 5 none ((nH t0 l i)++iD (cR (l.getD i default))) (aB (decide ((l.getD i default).room≥0)) 2 (aB (aE (l.getD i default).name) 201 (nA e0 l i))) (.tuple #[])))],[],?_⟩
   exact Eq.mp (by kernel_rfl) (Sx.t8 c100 c101 c102 c106 c107 c111 c115 c117 (Sx.t4 c123 c126 c128 c129 (Sx.t2 h0 h1 (And.intro h2 z3))))
  ·skip
   have c100:Value.bool (decide ((i:Int) < (l.length:Int)))=.bool true:=gv (decide_eq_true (by omega))
   have hy:=getD_at hlt
   have hw:=hwf _ (de hlt)
   obtain⟨inf,hi1,hi2⟩:=ga (P:=Tryz.prog) (t:=124) (n:=3) (by kernel_rfl)
   obtain⟨pp,hp1,hp2⟩:=hs.EG Mi.aL Tryz.underlying44 hi1 hi2 Tryz.underlying124 rfl (by omega) hy
   clear hi1 hi2 hy
   have c101:=hp1
   have c102:=hp2
   have c129:Value.int .i64 (IntKind.i64.wrap ((i:Int)+1))=.int .i64 ((i+1:Nat):Int):=iw (by rw[gE (by omega) (by omega)];rfl)
   have c106:=fun W (_:ag [] w W)=>od (l.getD i default).name W
   have c107:=fun W β (hS:Sx.dP ⟨w,[],fun _ _=>False⟩ β W (Sx.rowAt [⟨46,.aj cs⟩,cN none [.cw (bI b0 i) 1 0,.own 2,.val (.int .i64 (nA e0 l i))],⟨5,.own 1 (nH t0 l i).length (iU (nH t0 l i))⟩,⟨124,.aj (l.getD i default).cells⟩]) [1,2])=>(show Calls Tryz.prog 69 (([.ptr 1 0,.val (.bool (aE (l.getD i default).name)),.val (.int .i64 201)]:List Sx.SV).map (Sx.SV.den β)).toArray W (Sx.aP ⟨w,[],fun _ _=>False⟩ β W (Sx.rowAt [⟨46,.aj cs⟩,cN none [.cw (bI b0 i) 1 0,.own 2,.val (.int .i64 (nA e0 l i))],⟨5,.own 1 (nH t0 l i).length (iU (nH t0 l i))⟩,⟨124,.aj (l.getD i default).cells⟩]) 4 (fq [] 1 2 none (bI b0 i) (aB (aE (l.getD i default).name) 201 (nA e0 l i))))from ey (aE (l.getD i default).name) 201 ⟨rfl,rfl⟩ W β hS)
   have c111:Value.bool (decide ((l.getD i default).out≥0))=.bool false:=gZ (decide_eq_false hg)
   have c117:=fun W β (hS:Sx.dP ⟨w,[],fun _ _=>False⟩ β W (Sx.rowAt [⟨46,.aj cs⟩,cN none [.cw (bI b0 i) 1 0,.own 2,.val (.int .i64 (aB (aE (l.getD i default).name) 201 (nA e0 l i)))],⟨5,.own 1 (nH t0 l i).length (iU (nH t0 l i))⟩,⟨124,.aj (l.getD i default).cells⟩]) [1,2])=>(show Calls Tryz.prog 69 (([.ptr 1 0,.val (.bool false),.val (.int .i64 2)]:List Sx.SV).map (Sx.SV.den β)).toArray W (Sx.aP ⟨w,[],fun _ _=>False⟩ β W (Sx.rowAt [⟨46,.aj cs⟩,cN none [.cw (bI b0 i) 1 0,.own 2,.val (.int .i64 (aB (aE (l.getD i default).name) 201 (nA e0 l i)))],⟨5,.own 1 (nH t0 l i).length (iU (nH t0 l i))⟩,⟨124,.aj (l.getD i default).cells⟩]) 4 (fq [] 1 2 none (bI b0 i) (aB false 2 (aB (aE (l.getD i default).name) 201 (nA e0 l i)))))from ey false 2 ⟨rfl,rfl⟩ W β hS)
   have c123:=fun W (hW:ag [] w W)=>jY (l.getD i default).out hw.o.1 hw.o.2 W (hlan.cS hW)
   have c126:=fun W (hW:ag [] w W)=>jY (l.getD i default).room hw.r.1 hw.r.2 W (hlan.cS hW)
   have c128:=fun W β (hS:Sx.dP ⟨w,[],fun _ _=>False⟩ β W (Sx.rowAt [⟨46,.aj cs⟩,cN none [.cw (bI b0 i) 1 0,.own 2,.val (.int .i64 (aB false 2 (aB (aE (l.getD i default).name) 201 (nA e0 l i))))],⟨5,.own 1 (nH t0 l i).length (iU (nH t0 l i))⟩,⟨124,.aj (l.getD i default).cells⟩,⟨9,.aj (strs (cR (l.getD i default)))⟩]) [1,2,4])=>mg (m:=5) (og:=none) (p:=(bI b0 i)) (tx:=(nH t0 l i)) (e:=(aB false 2 (aB (aE (l.getD i default).name) 201 (nA e0 l i)))) (cR (l.getD i default)) ⟨rfl,rfl⟩ (by omega) (by omega) rfl (Nat.le_of_ble_eq_true rfl) (rN hlt hB) W β hS
   have hE:(aB false 2 (aB (aE (l.getD i default).name) 201 (nA e0 l i)))=jE (nA e0 l i) (l.getD i default):=by unfold jE;rw[decide_eq_false hg];rfl
   have h0:i+1≤l.length:=hlt
   have h1:l.length - (i+1) < l.length - i:=by omega
   have h2:vT A l.length c (i+1)=vT A l.length c (i+1):=rfl
   have z3:⟨46,.aj cs⟩::gH 5 true (nH t0 l (i+1)) (aB false 2 (aB (aE (l.getD i default).name) 201 (nA e0 l i)))=⟨46,.aj cs⟩::gH 5 true (nH t0 l (i+1)) (nA e0 l (i+1)):=by rw[hE];rfl
   refine⟨[(100,.is (.bool true)),(101,.any pp),(102,.any (.agg (l.getD i default).cells.toArray)),(129,.is (.int .i64 ((i+1:Nat):Int))),(106,.call (.bool (aE (l.getD i default).name))),(107,.an (fq [] 1 2 none (bI b0 i) (aB (aE (l.getD i default).name) 201 (nA e0 l i)))),(111,.is (.bool false)),(117,.an (fq [] 1 2 none (bI b0 i) (aB false 2 (aB (aE (l.getD i default).name) 201 (nA e0 l i))))),(123,.call (ab (cE (l.getD i default).out))),(126,.call (ab (cE (l.getD i default).room))),(128,.an (xx [4] 1 2 5 none ((nH t0 l i)++iD (cR (l.getD i default))) (aB false 2 (aB (aE (l.getD i default).name) 201 (nA e0 l i))) (.tuple #[])))],[],?_⟩
   exact Eq.mp (by kernel_rfl) (Sx.t8 c100 c101 c102 c106 c107 c111 c117 c123 (Sx.t4 c126 c128 c129 h0 (Sx.t2 h1 h2 z3)))
 ·have hin:i=l.length:=by omega
  subst hin
  have c100:Value.bool (decide ((l.length:Int) < (l.length:Int)))=.bool false:=gZ (decide_eq_false (by omega))
  have h0:True:=trivial
  have h1:([(1,.ptr 0 0),(4,.ptr 1 0)]:List (Nat×Sx.SV))=[(1,.ptr 0 0),(4,.ptr 1 0)]:=rfl
  have z2:JT cs b0 t0 e0 l l.length=JT cs b0 t0 e0 l l.length:=rfl
  refine⟨[(100,.is (.bool false))],[],?_⟩
  exact Eq.mp (by kernel_rfl) (Sx.t2 c100 h0 (And.intro h1 z2))
theorem NZ{w:World}(hlan:dJ w)(cs:List Value)(l:List Rl)(A:Option Go.Addr)(c:Nat)(hs:oH w [] 49 (.slice A l.length c) l.length (l.flatMap Rl.cells))(hwf:∀n∈l,n.Wf)(hl:l.length≤1000000000)(b0:Bool)(t0:Bs)(e0:Int)(hB:(IT t0 l l.length).length≤140737488355328)(T:Bs×Int)(i:Nat)(hi:i≤l.length) :
  ∃H' L',Sx.jk Tryz.prog Tryz.f28.ntmps ⟨w,[],fun _ _=>False⟩ (Sx.bB Tryz.f28 4) H' L' ⟨AH A l.length c i,JS cs b0 t0 e0 l i⟩
   (Sx.ek (fun i=>i≤l.length) (fun i=>AH A l.length c i) (fun i=>JS cs b0 t0 e0 l i) (fun i=>i+1) (fun i=>l.length - i) (fun(_:Unit)=>True) (fun _=>[(1,.ptr 0 0),(4,.ptr 1 0)]) (fun _=>JS cs b0 t0 e0 l l.length) (fun _=>()) (Sx.ei (Sx.bB Tryz.f28 4) - 1) (Sx.bR Tryz.prog Tryz.f28 (Nx T) .ret) i):=by
 by_cases hlt:i < l.length
 ·skip
  have c134:Value.bool (decide ((i:Int) < (l.length:Int)))=.bool true:=gv (decide_eq_true (by omega))
  have hy:=getD_at hlt
  have hw:=hwf _ (de hlt)
  obtain⟨inf,hi1,hi2⟩:=ga (P:=Tryz.prog) (t:=81) (n:=49) (by kernel_rfl)
  obtain⟨pp,hp1,hp2⟩:=hs.EG Rl.aL Tryz.underlying42 hi1 hi2 Tryz.underlying81 rfl (by omega) hy
  clear hi1 hi2 hy
  have c135:=hp1
  have c136:=hp2
  have c140:Value.int .i64 (IntKind.i64.wrap ((i:Int)+1))=.int .i64 ((i+1:Nat):Int):=iw (by rw[gE (by omega) (by omega)];rfl)
  have c139:=fun W β (hS:Sx.dP ⟨w,[],fun _ _=>False⟩ β W (Sx.rowAt [⟨46,.aj cs⟩,cN none [.cw (bI b0 i) 1 0,.own 2,.val (.int .i64 (Ly e0 l i))],⟨5,.own 1 (IT t0 l i).length (iU (IT t0 l i))⟩,⟨81,.aj (l.getD i default).cells⟩]) [1,2])=>Dx (m:=4) (og:=none) (p:=(bI b0 i)) (tx:=(IT t0 l i)) (e:=(Ly e0 l i)) (l.getD i default) ⟨rfl,rfl⟩ (by omega) (by omega) hlan (fun k hk=>(by cases hk)) hw (rN hlt hB) W β hS
  have h0:i+1≤l.length:=hlt
  have h1:l.length - (i+1) < l.length - i:=by omega
  have h2:AH A l.length c (i+1)=AH A l.length c (i+1):=rfl
  have z3:⟨46,.aj cs⟩::gH 4 true (IT t0 l (i+1)) (Ly e0 l (i+1))=⟨46,.aj cs⟩::gH 4 true (IT t0 l (i+1)) (Ly e0 l (i+1)):=rfl
  refine⟨[(134,.is (.bool true)),(135,.any pp),(136,.any (.agg (l.getD i default).cells.toArray)),(140,.is (.int .i64 ((i+1:Nat):Int))),(139,.an (xx [] 1 2 4 none ((IT t0 l i)++iD (eD (l.getD i default))) (qv (Ly e0 l i) (l.getD i default)) (.tuple #[])))],[],?_⟩
  exact Eq.mp (by kernel_rfl) (Sx.t8 c134 c135 c136 c139 c140 h0 h1 h2 z3)
 ·have hin:i=l.length:=by omega
  subst hin
  have c134:Value.bool (decide ((l.length:Int) < (l.length:Int)))=.bool false:=gZ (decide_eq_false (by omega))
  have h0:True:=trivial
  have h1:([(1,.ptr 0 0),(4,.ptr 1 0)]:List (Nat×Sx.SV))=[(1,.ptr 0 0),(4,.ptr 1 0)]:=rfl
  have z2:JS cs b0 t0 e0 l l.length=JS cs b0 t0 e0 l l.length:=rfl
  refine⟨[(134,.is (.bool false))],[],?_⟩
  exact Eq.mp (by kernel_rfl) (Sx.t2 c134 h0 (And.intro h1 z2))
end Go.Proofs.YtnncigmpcdehnaaGreatDoor
