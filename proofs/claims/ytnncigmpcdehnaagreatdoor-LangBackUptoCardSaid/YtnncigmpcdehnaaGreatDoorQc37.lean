import Derived.Test.YtnncigmpcdehnaaGreatDoorQc36
namespace Go.Proofs.YtnncigmpcdehnaaGreatDoor
set_option maxRecDepth 100000
open Go Go.RowKit Go.Lib Go.Sort
theorem MT(v:Bool)(n:Nat)(k:Int):Value.bool (fP v n k==0)=.bool (gr v n k):=by unfold fP;cases gr v n k<;>rfl
def bI(b0:Bool):Nat→Bool
 | 0=>b0
 |_+1=>true
def tI(t0:Bs)(ws:Nat→List Bs):Nat→Bs
 | 0=>t0
 |i+1=>tI t0 ws i++fV (ws i)
def eI(e0:Int)(E:Nat→Int→Int):Nat→Int
 | 0=>e0
 |i+1=>E i (eI e0 E i)
theorem rq{t0:Bs}{ws:Nat→List Bs}{B:Nat}:∀{n i:Nat},i < n→(tI t0 ws n).length≤B→(tI t0 ws i).length+(fV (ws i)).length≤B
 | 0,_,h,_=>by omega
 |n+1,i,h,hb=>by
  have e:(tI t0 ws (n+1)).length=(tI t0 ws n).length+(fV (ws n)).length:=by rw[tI,List.length_append]
  by_cases hi:i=n
  ·subst hi;omega
  ·exact rq (n:=n) (by omega) (by omega)
theorem xn{α:Type} [Inhabited α](f:α→List Bs)(t0:Bs)(l:List α):tI t0 (fun i=>f (l.getD i default)) l.length=t0++cY (l.map f):=by
 have key:∀k,k≤l.length→tI t0 (fun i=>f (l.getD i default)) k=t0++cY ((l.take k).map f):=by
  intro k
  induction k with
  |zero=>intro _;simp[tI,cY]
  |succ k ih=>
   intro hk
   rw[tI,ih (by omega),List.take_add_one]
   have:l[k]?=some (l.getD k default):=by rw[List.getD_eq_getElem?_getD,List.getElem?_eq_getElem (by omega)];rfl
   rw[this]
   simp[cY]
 have:=key l.length (Nat.le_refl _)
 rwa [List.take_length]at this
theorem yU{α:Type} [Inhabited α](E:Int→α→Int)(e0:Int)(l:List α):eI e0 (fun i e=>E e (l.getD i default)) l.length=l.foldl E e0:=by
 have key:∀k,k≤l.length→eI e0 (fun i e=>E e (l.getD i default)) k=(l.take k).foldl E e0:=by
  intro k
  induction k with
  |zero=>intro _;simp[eI]
  |succ k ih=>
   intro hk
   rw[eI,ih (by omega),List.take_add_one]
   have:l[k]?=some (l.getD k default):=by rw[List.getD_eq_getElem?_getD,List.getElem?_eq_getElem (by omega)];rfl
   rw[this]
   simp
 have:=key l.length (Nat.le_refl _)
 rwa [List.take_length]at this
theorem getD_at{α:Type} [Inhabited α]{l:List α}{i:Nat}(h:i < l.length):l[i]?=some (l.getD i default):=by
 rw[List.getD_eq_getElem?_getD,List.getElem?_eq_getElem h];rfl
theorem cZ{α:Type} [Inhabited α]{l:List α}{i:Nat}(h:i < l.length):l.getD i default∈l:=List.mem_of_getElem? (getD_at h)
def gH(k:Nat)(b:Bool)(t:Bs)(e:Int):List Sx.Row:=[cS none [.cD b 1 0,.own k,.val (.int .i64 e)],⟨5,.own 1 t.length (iS t)⟩]
def xl(b:Bool)(t:Bs)(e:Int):List Sx.Row:=gH 2 b t e
def Nz(T:Bs×Int)(l:List Sx.SV)(_:List Sx.Row):Prop:=l=[.val (ab T.1),.val (.int .i64 T.2)]
theorem fH{P:Program}{t:TypeId}{n:Nat}(h:(P.info? t).map (·.size)=some n):∃inf,P.info? t=some inf∧inf.size=n:=Option.map_eq_some_iff.1 h
theorem Me.aF(m:Me):m.cells.length=4:=rfl
theorem Mi.aF(m:Mi):m.cells.length=3:=rfl
theorem Rt.aF(m:Rt):m.cells.length=19:=by unfold Rt.cells;rw[List.length_append,Px.aF];rfl
theorem Rl.aF(m:Rl):m.cells.length=49:=by
 unfold Rl.cells
 rw[List.length_cons,List.length_append,Mt.aF];rfl
def Ao(A:Option Go.Addr)(n c i:Nat):List (Nat×Sx.SV):=[(1,.ptr 0 0),(4,.ptr 1 0),(20,.val (.slice A n c)),(21,.val (.int .i64 (n:Int))),(22,.val (.int .i64 (i:Int)))]
def Cb(t0:Bs)(l:List Int):Nat→Bs:=tI t0 fun i=>eh (l.getD i default)
def ES(e0:Int)(l:List Int):Nat→Int:=eI e0 fun i e=>Ce e (l.getD i default)
def JP(cs:List Value)(b0:Bool)(t0:Bs)(e0:Int)(l:List Int)(i:Nat):List Sx.Row:=⟨46,.aj cs⟩::xl (bI b0 i) (Cb t0 l i) (ES e0 l i)
def An(A:Option Go.Addr)(n c i:Nat):List (Nat×Sx.SV):=[(1,.ptr 0 0),(4,.ptr 1 0),(37,.val (.slice A n c)),(38,.val (.int .i64 (n:Int))),(39,.val (.int .i64 (i:Int)))]
def wY(t0:Bs)(l:List Rt):Nat→Bs:=tI t0 fun i=>eP (l.getD i default)
def xK(e0:Int)(l:List Rt):Nat→Int:=eI e0 fun i e=>vD e (l.getD i default)
def JO(cs:List Value)(b0:Bool)(t0:Bs)(e0:Int)(l:List Rt)(i:Nat):List Sx.Row:=⟨46,.aj cs⟩::xl (bI b0 i) (wY t0 l i) (xK e0 l i)
def Am(A:Option Go.Addr)(n c i:Nat):List (Nat×Sx.SV):=[(1,.ptr 0 0),(4,.ptr 1 0),(67,.val (.slice A n c)),(68,.val (.int .i64 (n:Int))),(69,.val (.int .i64 (i:Int)))]
def Ca(t0:Bs)(l:List Me):Nat→Bs:=tI t0 fun i=>eR (l.getD i default)
def DI(e0:Int)(l:List Me):Nat→Int:=eI e0 fun i e=>vR e (l.getD i default)
def JN(cs:List Value)(b0:Bool)(t0:Bs)(e0:Int)(l:List Me)(i:Nat):List Sx.Row:=⟨46,.aj cs⟩::xl (bI b0 i) (Ca t0 l i) (DI e0 l i)
def vK(A:Option Go.Addr)(n c i:Nat):List (Nat×Sx.SV):=[(1,.ptr 0 0),(4,.ptr 1 0),(97,.val (.slice A n c)),(98,.val (.int .i64 (n:Int))),(99,.val (.int .i64 (i:Int)))]
def nx(t0:Bs)(l:List Mi):Nat→Bs:=tI t0 fun i=>cX (l.getD i default)
def nr(e0:Int)(l:List Mi):Nat→Int:=eI e0 fun i e=>jC e (l.getD i default)
def JM(cs:List Value)(b0:Bool)(t0:Bs)(e0:Int)(l:List Mi)(i:Nat):List Sx.Row:=⟨46,.aj cs⟩::xl (bI b0 i) (nx t0 l i) (nr e0 l i)
def Al(A:Option Go.Addr)(n c i:Nat):List (Nat×Sx.SV):=[(1,.ptr 0 0),(4,.ptr 1 0),(131,.val (.slice A n c)),(132,.val (.int .i64 (n:Int))),(133,.val (.int .i64 (i:Int)))]
def IL(t0:Bs)(l:List Rl):Nat→Bs:=tI t0 fun i=>dJ (l.getD i default)
def Lt(e0:Int)(l:List Rl):Nat→Int:=eI e0 fun i e=>qh e (l.getD i default)
def JL(cs:List Value)(b0:Bool)(t0:Bs)(e0:Int)(l:List Rl)(i:Nat):List Sx.Row:=⟨46,.aj cs⟩::xl (bI b0 i) (IL t0 l i) (Lt e0 l i)
theorem Dy{b:Sx.a7}{row:Nat→Option Sx.Row}{i j m:Nat}{og:Option Nat}{p:Bool}{tx:Bs}{e:Int}(r:Rl)(h:mz row i j og p tx e)(hi:i < m)(hj:j < m)(hlan:dy b.w)(h9:∀k∈b.S,9≤k)(hr:r.Wf)(hl:tx.length+(fV (dJ r)).length≤140737488355328)
  (W:World) (β:Sx.Env) (hS:Sx.dz b β W row [i,j]) :
  Calls Tryz.prog 74 (([.ptr i 0,.val (.agg r.cells.toArray)]:List Sx.SV).map (Sx.SV.den β)).toArray W (Sx.aQ b β W row m (w8 [] i j m og (tx++fV (dJ r)) (qh e r) (.tuple #[]))):=by
 obtain⟨ht,hg⟩:=nI hS h (by simp) (by simp)
 have hlow:=hlan.low
 have old:∀x r k,x∈[i,j]→row x=some r→Sx.aw β x r=some k→9≤k:=fun x r k hx hr hk=>by
  rcases hS.new x hx r k hr hk with h|h
  ·exact h9 k h
  ·omega
 refine(I4 ht (hlan.az hS.az h9) (fun k hk=>?_) hr hl).mono fun en w' hp=>qR h hi hj hg hp
 rcases List.mem_cons.1 hk with rfl|hk
 ·exact old i _ _ (by simp) h.b mF
 ·exact old j _ _ (by simp) h.o (by show(β.a j).map (·.block)=some k;simpa using hk)
theorem Oa{w:World}(hlan:dy w)(cs:List Value)(l:List Int)(A:Option Go.Addr)(c:Nat)(hs:kp w [] 1 (.slice A l.length c) l.length (l.map fun n=>Value.int .i64 n))(hwf:∀n∈l,nD n)(hl:l.length≤1000000000)(b0:Bool)(t0:Bs)(e0:Int)(hB:(Cb t0 l l.length).length≤140737488355328)(T:Bs×Int)(i:Nat)(hi:i≤l.length) :
  ∃H' L',Sx.iz Tryz.prog Tryz.f28.ntmps ⟨w,[],fun _ _=>False⟩ (Sx.cA Tryz.f28 0) H' L' ⟨Ao A l.length c i,JP cs b0 t0 e0 l i⟩
   (Sx.gg (fun i=>i≤l.length) (fun i=>Ao A l.length c i) (fun i=>JP cs b0 t0 e0 l i) (fun i=>i+1) (fun i=>l.length - i) (fun(_:Unit)=>True) (fun _=>[(1,.ptr 0 0),(4,.ptr 1 0)]) (fun _=>JP cs b0 t0 e0 l l.length) (fun _=>()) (Sx.fq (Sx.cA Tryz.f28 0) - 1) (Sx.bN Tryz.prog Tryz.f28 (Nz T) .ret) i):=by
 by_cases hlt:i < l.length
 ·skip
  have c23:Value.bool (decide ((i:Int) < (l.length:Int)))=.bool true:=gF (decide_eq_true (by omega))
  have hy:=getD_at hlt
  have hw:=hwf _ (cZ hlt)
  obtain⟨inf,hi1,hi2⟩:=fH (P:=Tryz.prog) (t:=3) (n:=1) (by kernel_rfl)
  obtain⟨pp,hp1,hp2⟩:=hs.Nx Tryz.underlying40 hi1 hi2 Tryz.underlying3 rfl hy
  clear hi1 hi2 hy
  have c24:=hp1
  have c25:=hp2
  have c35:Value.int .i64 (IntKind.i64.wrap ((i:Int)+1))=.int .i64 ((i+1:Nat):Int):=iw (by rw[jR (by omega) (by omega)];rfl)
  have c28:Value.bool (decide ((l.getD i default)≥0))=.bool (decide ((l.getD i default)≥0)):=rfl
  have c29:=fun W β (hS:Sx.dz ⟨w,[],fun _ _=>False⟩ β W (Sx.rowAt [⟨46,.aj cs⟩,cS none [.cD (bI b0 i) 1 0,.own 2,.val (.int .i64 (ES e0 l i))],⟨5,.own 1 (Cb t0 l i).length (iS (Cb t0 l i))⟩]) [1,2])=>(show Calls Tryz.prog 69 (([.ptr 1 0,.val (.bool (decide ((l.getD i default)≥0))),.val (.int .i64 2)]:List Sx.SV).map (Sx.SV.den β)).toArray W (Sx.aQ ⟨w,[],fun _ _=>False⟩ β W (Sx.rowAt [⟨46,.aj cs⟩,cS none [.cD (bI b0 i) 1 0,.own 2,.val (.int .i64 (ES e0 l i))],⟨5,.own 1 (Cb t0 l i).length (iS (Cb t0 l i))⟩]) 3 (fp [] 1 2 none (bI b0 i) (aE (decide ((l.getD i default)≥0)) 2 (ES e0 l i))))from eF (decide ((l.getD i default)≥0)) 2 ⟨rfl,rfl⟩ W β hS)
  have c32:=fun W (hW:ah [] w W)=>jW (l.getD i default) hw.1 hw.2 W (hlan.cP hW)
  have c34:=fun W β (hS:Sx.dz ⟨w,[],fun _ _=>False⟩ β W (Sx.rowAt [⟨46,.aj cs⟩,cS none [.cD (bI b0 i) 1 0,.own 2,.val (.int .i64 (aE (decide ((l.getD i default)≥0)) 2 (ES e0 l i)))],⟨5,.own 1 (Cb t0 l i).length (iS (Cb t0 l i))⟩,⟨9,.aj (strs (eh (l.getD i default)))⟩]) [1,2,3])=>l9 (m:=4) (og:=none) (p:=(bI b0 i)) (tx:=(Cb t0 l i)) (e:=(aE (decide ((l.getD i default)≥0)) 2 (ES e0 l i))) (eh (l.getD i default)) ⟨rfl,rfl⟩ (by omega) (by omega) rfl (Nat.le_of_ble_eq_true rfl) (rq hlt hB) W β hS
  have h0:i+1≤l.length:=hlt
  have h1:l.length - (i+1) < l.length - i:=by omega
  have h2:Ao A l.length c (i+1)=Ao A l.length c (i+1):=rfl
  have z3:⟨46,.aj cs⟩::gH 4 true (Cb t0 l (i+1)) (ES e0 l (i+1))=⟨46,.aj cs⟩::gH 4 true (Cb t0 l (i+1)) (ES e0 l (i+1)):=rfl
  refine⟨[(23,.is (.bool true)),(24,.any pp),(25,.any (.int .i64 (l.getD i default))),(35,.is (.int .i64 ((i+1:Nat):Int))),(28,.is (.bool (decide ((l.getD i default)≥0)))),(29,.ai (fp [] 1 2 none (bI b0 i) (aE (decide ((l.getD i default)≥0)) 2 (ES e0 l i)))),(32,.call (ab (cn (l.getD i default)))),(34,.ai (w8 [3] 1 2 4 none ((Cb t0 l i)++fV (eh (l.getD i default))) (aE (decide ((l.getD i default)≥0)) 2 (ES e0 l i)) (.tuple #[])))],[],?_⟩
  exact Eq.mp (by kernel_rfl) (Sx.t8 c23 c24 c25 c28 c29 c32 c34 c35 (Sx.t2 h0 h1 (And.intro h2 z3)))
 ·have hin:i=l.length:=by omega
  subst hin
  have c23:Value.bool (decide ((l.length:Int) < (l.length:Int)))=.bool false:=iB (decide_eq_false (by omega))
  have h0:True:=trivial
  have h1:([(1,.ptr 0 0),(4,.ptr 1 0)]:List (Nat×Sx.SV))=[(1,.ptr 0 0),(4,.ptr 1 0)]:=rfl
  have z2:JP cs b0 t0 e0 l l.length=JP cs b0 t0 e0 l l.length:=rfl
  refine⟨[(23,.is (.bool false))],[],?_⟩
  exact Eq.mp (by kernel_rfl) (Sx.t2 c23 h0 (And.intro h1 z2))
theorem N9{w:World}(hlan:dy w)(cs:List Value)(l:List Rt)(A:Option Go.Addr)(c:Nat)(hs:kp w [] 19 (.slice A l.length c) l.length (l.flatMap Rt.cells))(hwf:∀n∈l,n.Wf)(hl:l.length≤1000000000)(b0:Bool)(t0:Bs)(e0:Int)(hB:(wY t0 l l.length).length≤140737488355328)(T:Bs×Int)(i:Nat)(hi:i≤l.length) :
  ∃H' L',Sx.iz Tryz.prog Tryz.f28.ntmps ⟨w,[],fun _ _=>False⟩ (Sx.cA Tryz.f28 1) H' L' ⟨An A l.length c i,JO cs b0 t0 e0 l i⟩
   (Sx.gg (fun i=>i≤l.length) (fun i=>An A l.length c i) (fun i=>JO cs b0 t0 e0 l i) (fun i=>i+1) (fun i=>l.length - i) (fun(_:Unit)=>True) (fun _=>[(1,.ptr 0 0),(4,.ptr 1 0)]) (fun _=>JO cs b0 t0 e0 l l.length) (fun _=>()) (Sx.fq (Sx.cA Tryz.f28 1) - 1) (Sx.bN Tryz.prog Tryz.f28 (Nz T) .ret) i):=by
 by_cases hlt:i < l.length
 ·skip
  have c40:Value.bool (decide ((i:Int) < (l.length:Int)))=.bool true:=gF (decide_eq_true (by omega))
  have hy:=getD_at hlt
  have hw:=hwf _ (cZ hlt)
  obtain⟨inf,hi1,hi2⟩:=fH (P:=Tryz.prog) (t:=118) (n:=19) (by kernel_rfl)
  obtain⟨pp,hp1,hp2⟩:=hs.EC Rt.aF Tryz.underlying41 hi1 hi2 Tryz.underlying118 rfl (by omega) hy
  clear hi1 hi2 hy
  have c41:=hp1
  have c42:=hp2
  have c65:Value.int .i64 (IntKind.i64.wrap ((i:Int)+1))=.int .i64 ((i+1:Nat):Int):=iw (by rw[jR (by omega) (by omega)];rfl)
  have c46:=fun W (hW:ah [] w W)=>zS (l.getD i default).pf.v (l.getD i default).pf.n (l.getD i default).pf.k hw.n W (hlan.cP hW)
  have c51:=MT (l.getD i default).pf.v (l.getD i default).pf.n (l.getD i default).pf.k
  have c52:=fun W β (hS:Sx.dz ⟨w,[],fun _ _=>False⟩ β W (Sx.rowAt [⟨46,.aj cs⟩,cS none [.cD (bI b0 i) 1 0,.own 2,.val (.int .i64 (xK e0 l i))],⟨5,.own 1 (wY t0 l i).length (iS (wY t0 l i))⟩,⟨118,.aj (l.getD i default).cells⟩]) [1,2])=>(show Calls Tryz.prog 69 (([.ptr 1 0,.val (.bool (gr (l.getD i default).pf.v (l.getD i default).pf.n (l.getD i default).pf.k)),.val (.int .i64 151)]:List Sx.SV).map (Sx.SV.den β)).toArray W (Sx.aQ ⟨w,[],fun _ _=>False⟩ β W (Sx.rowAt [⟨46,.aj cs⟩,cS none [.cD (bI b0 i) 1 0,.own 2,.val (.int .i64 (xK e0 l i))],⟨5,.own 1 (wY t0 l i).length (iS (wY t0 l i))⟩,⟨118,.aj (l.getD i default).cells⟩]) 4 (fp [] 1 2 none (bI b0 i) (aE (gr (l.getD i default).pf.v (l.getD i default).pf.n (l.getD i default).pf.k) 151 (xK e0 l i))))from eF (gr (l.getD i default).pf.v (l.getD i default).pf.n (l.getD i default).pf.k) 151 ⟨rfl,rfl⟩ W β hS)
  have c56:Value.bool (decide ((l.getD i default).out≥0))=.bool (decide ((l.getD i default).out≥0)):=rfl
  have c57:=fun W β (hS:Sx.dz ⟨w,[],fun _ _=>False⟩ β W (Sx.rowAt [⟨46,.aj cs⟩,cS none [.cD (bI b0 i) 1 0,.own 2,.val (.int .i64 (aE (gr (l.getD i default).pf.v (l.getD i default).pf.n (l.getD i default).pf.k) 151 (xK e0 l i)))],⟨5,.own 1 (wY t0 l i).length (iS (wY t0 l i))⟩,⟨118,.aj (l.getD i default).cells⟩]) [1,2])=>(show Calls Tryz.prog 69 (([.ptr 1 0,.val (.bool (decide ((l.getD i default).out≥0))),.val (.int .i64 2)]:List Sx.SV).map (Sx.SV.den β)).toArray W (Sx.aQ ⟨w,[],fun _ _=>False⟩ β W (Sx.rowAt [⟨46,.aj cs⟩,cS none [.cD (bI b0 i) 1 0,.own 2,.val (.int .i64 (aE (gr (l.getD i default).pf.v (l.getD i default).pf.n (l.getD i default).pf.k) 151 (xK e0 l i)))],⟨5,.own 1 (wY t0 l i).length (iS (wY t0 l i))⟩,⟨118,.aj (l.getD i default).cells⟩]) 4 (fp [] 1 2 none (bI b0 i) (aE (decide ((l.getD i default).out≥0)) 2 (aE (gr (l.getD i default).pf.v (l.getD i default).pf.n (l.getD i default).pf.k) 151 (xK e0 l i)))))from eF (decide ((l.getD i default).out≥0)) 2 ⟨rfl,rfl⟩ W β hS)
  have c62:=fun W (hW:ah [] w W)=>jW (l.getD i default).out hw.o.1 hw.o.2 W (hlan.cP hW)
  have c64:=fun W β (hS:Sx.dz ⟨w,[],fun _ _=>False⟩ β W (Sx.rowAt [⟨46,.aj cs⟩,cS none [.cD (bI b0 i) 1 0,.own 2,.val (.int .i64 (aE (decide ((l.getD i default).out≥0)) 2 (aE (gr (l.getD i default).pf.v (l.getD i default).pf.n (l.getD i default).pf.k) 151 (xK e0 l i))))],⟨5,.own 1 (wY t0 l i).length (iS (wY t0 l i))⟩,⟨118,.aj (l.getD i default).cells⟩,⟨9,.aj (strs (eP (l.getD i default)))⟩]) [1,2,4])=>l9 (m:=5) (og:=none) (p:=(bI b0 i)) (tx:=(wY t0 l i)) (e:=(aE (decide ((l.getD i default).out≥0)) 2 (aE (gr (l.getD i default).pf.v (l.getD i default).pf.n (l.getD i default).pf.k) 151 (xK e0 l i)))) (eP (l.getD i default)) ⟨rfl,rfl⟩ (by omega) (by omega) rfl (Nat.le_of_ble_eq_true rfl) (rq hlt hB) W β hS
  have h0:i+1≤l.length:=hlt
  have h1:l.length - (i+1) < l.length - i:=by omega
  have h2:An A l.length c (i+1)=An A l.length c (i+1):=rfl
  have z3:⟨46,.aj cs⟩::gH 5 true (wY t0 l (i+1)) (xK e0 l (i+1))=⟨46,.aj cs⟩::gH 5 true (wY t0 l (i+1)) (xK e0 l (i+1)):=rfl
  refine⟨[(40,.is (.bool true)),(41,.any pp),(42,.any (.agg (l.getD i default).cells.toArray)),(65,.is (.int .i64 ((i+1:Nat):Int))),(46,.call (.tuple #[ab (rU (l.getD i default).pf),.int .i64 (fP (l.getD i default).pf.v (l.getD i default).pf.n (l.getD i default).pf.k)])),(51,.is (.bool (gr (l.getD i default).pf.v (l.getD i default).pf.n (l.getD i default).pf.k))),(52,.ai (fp [] 1 2 none (bI b0 i) (aE (gr (l.getD i default).pf.v (l.getD i default).pf.n (l.getD i default).pf.k) 151 (xK e0 l i)))),(56,.is (.bool (decide ((l.getD i default).out≥0)))),(57,.ai (fp [] 1 2 none (bI b0 i) (aE (decide ((l.getD i default).out≥0)) 2 (aE (gr (l.getD i default).pf.v (l.getD i default).pf.n (l.getD i default).pf.k) 151 (xK e0 l i))))),(62,.call (ab (cn (l.getD i default).out))),(64,.ai (w8 [4] 1 2 5 none ((wY t0 l i)++fV (eP (l.getD i default))) (aE (decide ((l.getD i default).out≥0)) 2 (aE (gr (l.getD i default).pf.v (l.getD i default).pf.n (l.getD i default).pf.k) 151 (xK e0 l i))) (.tuple #[])))],[],?_⟩
  exact Eq.mp (by kernel_rfl) (Sx.t8 c40 c41 c42 c46 c51 c52 c56 c57 (Sx.t4 c62 c64 c65 h0 (Sx.t2 h1 h2 z3)))
 ·have hin:i=l.length:=by omega
  subst hin
  have c40:Value.bool (decide ((l.length:Int) < (l.length:Int)))=.bool false:=iB (decide_eq_false (by omega))
  have h0:True:=trivial
  have h1:([(1,.ptr 0 0),(4,.ptr 1 0)]:List (Nat×Sx.SV))=[(1,.ptr 0 0),(4,.ptr 1 0)]:=rfl
  have z2:JO cs b0 t0 e0 l l.length=JO cs b0 t0 e0 l l.length:=rfl
  refine⟨[(40,.is (.bool false))],[],?_⟩
  exact Eq.mp (by kernel_rfl) (Sx.t2 c40 h0 (And.intro h1 z2))
theorem N8{w:World}(hlan:dy w)(cs:List Value)(l:List Me)(A:Option Go.Addr)(c:Nat)(hs:kp w [] 4 (.slice A l.length c) l.length (l.flatMap Me.cells))(hwf:∀n∈l,n.Wf)(hl:l.length≤1000000000)(b0:Bool)(t0:Bs)(e0:Int)(hB:(Ca t0 l l.length).length≤140737488355328)(T:Bs×Int)(i:Nat)(hi:i≤l.length) :
  ∃H' L',Sx.iz Tryz.prog Tryz.f28.ntmps ⟨w,[],fun _ _=>False⟩ (Sx.cA Tryz.f28 2) H' L' ⟨Am A l.length c i,JN cs b0 t0 e0 l i⟩
   (Sx.gg (fun i=>i≤l.length) (fun i=>Am A l.length c i) (fun i=>JN cs b0 t0 e0 l i) (fun i=>i+1) (fun i=>l.length - i) (fun(_:Unit)=>True) (fun _=>[(1,.ptr 0 0),(4,.ptr 1 0)]) (fun _=>JN cs b0 t0 e0 l l.length) (fun _=>()) (Sx.fq (Sx.cA Tryz.f28 2) - 1) (Sx.bN Tryz.prog Tryz.f28 (Nz T) .ret) i):=by
 by_cases hlt:i < l.length
 ·skip
  have c70:Value.bool (decide ((i:Int) < (l.length:Int)))=.bool true:=gF (decide_eq_true (by omega))
  have hy:=getD_at hlt
  have hw:=hwf _ (cZ hlt)
  obtain⟨inf,hi1,hi2⟩:=fH (P:=Tryz.prog) (t:=122) (n:=4) (by kernel_rfl)
  obtain⟨pp,hp1,hp2⟩:=hs.EC Me.aF Tryz.underlying43 hi1 hi2 Tryz.underlying122 rfl (by omega) hy
  clear hi1 hi2 hy
  have c71:=hp1
  have c72:=hp2
  have c95:Value.int .i64 (IntKind.i64.wrap ((i:Int)+1))=.int .i64 ((i+1:Nat):Int):=iw (by rw[jR (by omega) (by omega)];rfl)
  have c76:=fun W (_:ah [] w W)=>nQ (l.getD i default).name W
  have c77:=fun W β (hS:Sx.dz ⟨w,[],fun _ _=>False⟩ β W (Sx.rowAt [⟨46,.aj cs⟩,cS none [.cD (bI b0 i) 1 0,.own 2,.val (.int .i64 (DI e0 l i))],⟨5,.own 1 (Ca t0 l i).length (iS (Ca t0 l i))⟩,⟨122,.aj (l.getD i default).cells⟩]) [1,2])=>(show Calls Tryz.prog 69 (([.ptr 1 0,.val (.bool (aG (l.getD i default).name)),.val (.int .i64 201)]:List Sx.SV).map (Sx.SV.den β)).toArray W (Sx.aQ ⟨w,[],fun _ _=>False⟩ β W (Sx.rowAt [⟨46,.aj cs⟩,cS none [.cD (bI b0 i) 1 0,.own 2,.val (.int .i64 (DI e0 l i))],⟨5,.own 1 (Ca t0 l i).length (iS (Ca t0 l i))⟩,⟨122,.aj (l.getD i default).cells⟩]) 4 (fp [] 1 2 none (bI b0 i) (aE (aG (l.getD i default).name) 201 (DI e0 l i))))from eF (aG (l.getD i default).name) 201 ⟨rfl,rfl⟩ W β hS)
  have c84:=fun W (hW:ah [] w W)=>CL (l.getD i default).num (by have:=hw.a;omega) W (hlan.cP hW)
  have c88:=fun W (hW:ah [] w W)=>CL (l.getD i default).den (by have:=hw.b;omega) W (hlan.cP hW)
  have c92:=fun W (hW:ah [] w W)=>CL (l.getD i default).pj (by have:=hw.c;omega) W (hlan.cP hW)
  have c94:=fun W β (hS:Sx.dz ⟨w,[],fun _ _=>False⟩ β W (Sx.rowAt [⟨46,.aj cs⟩,cS none [.cD (bI b0 i) 1 0,.own 2,.val (.int .i64 (aE (aG (l.getD i default).name) 201 (DI e0 l i)))],⟨5,.own 1 (Ca t0 l i).length (iS (Ca t0 l i))⟩,⟨122,.aj (l.getD i default).cells⟩,⟨9,.aj (strs (eR (l.getD i default)))⟩]) [1,2,4])=>l9 (m:=5) (og:=none) (p:=(bI b0 i)) (tx:=(Ca t0 l i)) (e:=(aE (aG (l.getD i default).name) 201 (DI e0 l i))) (eR (l.getD i default)) ⟨rfl,rfl⟩ (by omega) (by omega) rfl (Nat.le_of_ble_eq_true rfl) (rq hlt hB) W β hS
  have h0:i+1≤l.length:=hlt
  have h1:l.length - (i+1) < l.length - i:=by omega
  have h2:Am A l.length c (i+1)=Am A l.length c (i+1):=rfl
  have z3:⟨46,.aj cs⟩::gH 5 true (Ca t0 l (i+1)) (DI e0 l (i+1))=⟨46,.aj cs⟩::gH 5 true (Ca t0 l (i+1)) (DI e0 l (i+1)):=rfl
  refine⟨[(70,.is (.bool true)),(71,.any pp),(72,.any (.agg (l.getD i default).cells.toArray)),(95,.is (.int .i64 ((i+1:Nat):Int))),(76,.call (.bool (aG (l.getD i default).name))),(77,.ai (fp [] 1 2 none (bI b0 i) (aE (aG (l.getD i default).name) 201 (DI e0 l i)))),(84,.call (ab (au 10 (l.getD i default).num))),(88,.call (ab (au 10 (l.getD i default).den))),(92,.call (ab (au 10 (l.getD i default).pj))),(94,.ai (w8 [4] 1 2 5 none ((Ca t0 l i)++fV (eR (l.getD i default))) (aE (aG (l.getD i default).name) 201 (DI e0 l i)) (.tuple #[])))],[],?_⟩
  exact Eq.mp (by kernel_rfl) (Sx.t8 c70 c71 c72 c76 c77 c84 c88 c92 (Sx.t4 c94 c95 h0 h1 (And.intro h2 z3)))
 ·have hin:i=l.length:=by omega
  subst hin
  have c70:Value.bool (decide ((l.length:Int) < (l.length:Int)))=.bool false:=iB (decide_eq_false (by omega))
  have h0:True:=trivial
  have h1:([(1,.ptr 0 0),(4,.ptr 1 0)]:List (Nat×Sx.SV))=[(1,.ptr 0 0),(4,.ptr 1 0)]:=rfl
  have z2:JN cs b0 t0 e0 l l.length=JN cs b0 t0 e0 l l.length:=rfl
  refine⟨[(70,.is (.bool false))],[],?_⟩
  exact Eq.mp (by kernel_rfl) (Sx.t2 c70 h0 (And.intro h1 z2))
theorem N7{w:World}(hlan:dy w)(cs:List Value)(l:List Mi)(A:Option Go.Addr)(c:Nat)(hs:kp w [] 3 (.slice A l.length c) l.length (l.flatMap Mi.cells))(hwf:∀n∈l,n.Wf)(hl:l.length≤1000000000)(b0:Bool)(t0:Bs)(e0:Int)(hB:(nx t0 l l.length).length≤140737488355328)(T:Bs×Int)(i:Nat)(hi:i≤l.length) :
  ∃H' L',Sx.iz Tryz.prog Tryz.f28.ntmps ⟨w,[],fun _ _=>False⟩ (Sx.cA Tryz.f28 3) H' L' ⟨vK A l.length c i,JM cs b0 t0 e0 l i⟩
   (Sx.gg (fun i=>i≤l.length) (fun i=>vK A l.length c i) (fun i=>JM cs b0 t0 e0 l i) (fun i=>i+1) (fun i=>l.length - i) (fun(_:Unit)=>True) (fun _=>[(1,.ptr 0 0),(4,.ptr 1 0)]) (fun _=>JM cs b0 t0 e0 l l.length) (fun _=>()) (Sx.fq (Sx.cA Tryz.f28 3) - 1) (Sx.bN Tryz.prog Tryz.f28 (Nz T) .ret) i):=by
 by_cases hlt:i < l.length
 ·by_cases hg:(l.getD i default).out≥0
  ·skip
   have c100:Value.bool (decide ((i:Int) < (l.length:Int)))=.bool true:=gF (decide_eq_true (by omega))
   have hy:=getD_at hlt
   have hw:=hwf _ (cZ hlt)
   obtain⟨inf,hi1,hi2⟩:=fH (P:=Tryz.prog) (t:=124) (n:=3) (by kernel_rfl)
   obtain⟨pp,hp1,hp2⟩:=hs.EC Mi.aF Tryz.underlying44 hi1 hi2 Tryz.underlying124 rfl (by omega) hy
   clear hi1 hi2 hy
   have c101:=hp1
   have c102:=hp2
   have c129:Value.int .i64 (IntKind.i64.wrap ((i:Int)+1))=.int .i64 ((i+1:Nat):Int):=iw (by rw[jR (by omega) (by omega)];rfl)
   have c106:=fun W (_:ah [] w W)=>nQ (l.getD i default).name W
   have c107:=fun W β (hS:Sx.dz ⟨w,[],fun _ _=>False⟩ β W (Sx.rowAt [⟨46,.aj cs⟩,cS none [.cD (bI b0 i) 1 0,.own 2,.val (.int .i64 (nr e0 l i))],⟨5,.own 1 (nx t0 l i).length (iS (nx t0 l i))⟩,⟨124,.aj (l.getD i default).cells⟩]) [1,2])=>(show Calls Tryz.prog 69 (([.ptr 1 0,.val (.bool (aG (l.getD i default).name)),.val (.int .i64 201)]:List Sx.SV).map (Sx.SV.den β)).toArray W (Sx.aQ ⟨w,[],fun _ _=>False⟩ β W (Sx.rowAt [⟨46,.aj cs⟩,cS none [.cD (bI b0 i) 1 0,.own 2,.val (.int .i64 (nr e0 l i))],⟨5,.own 1 (nx t0 l i).length (iS (nx t0 l i))⟩,⟨124,.aj (l.getD i default).cells⟩]) 4 (fp [] 1 2 none (bI b0 i) (aE (aG (l.getD i default).name) 201 (nr e0 l i))))from eF (aG (l.getD i default).name) 201 ⟨rfl,rfl⟩ W β hS)
   have c111:Value.bool (decide ((l.getD i default).out≥0))=.bool true:=gF (decide_eq_true hg)
   have c115:Value.bool (decide ((l.getD i default).room≥0))=.bool (decide ((l.getD i default).room≥0)):=rfl
   have c117:=fun W β (hS:Sx.dz ⟨w,[],fun _ _=>False⟩ β W (Sx.rowAt [⟨46,.aj cs⟩,cS none [.cD (bI b0 i) 1 0,.own 2,.val (.int .i64 (aE (aG (l.getD i default).name) 201 (nr e0 l i)))],⟨5,.own 1 (nx t0 l i).length (iS (nx t0 l i))⟩,⟨124,.aj (l.getD i default).cells⟩]) [1,2])=>(show Calls Tryz.prog 69 (([.ptr 1 0,.val (.bool (decide ((l.getD i default).room≥0))),.val (.int .i64 2)]:List Sx.SV).map (Sx.SV.den β)).toArray W (Sx.aQ ⟨w,[],fun _ _=>False⟩ β W (Sx.rowAt [⟨46,.aj cs⟩,cS none [.cD (bI b0 i) 1 0,.own 2,.val (.int .i64 (aE (aG (l.getD i default).name) 201 (nr e0 l i)))],⟨5,.own 1 (nx t0 l i).length (iS (nx t0 l i))⟩,⟨124,.aj (l.getD i default).cells⟩]) 4 (fp [] 1 2 none (bI b0 i) (aE (decide ((l.getD i default).room≥0)) 2 (aE (aG (l.getD i default).name) 201 (nr e0 l i)))))from eF (decide ((l.getD i default).room≥0)) 2 ⟨rfl,rfl⟩ W β hS)
   have c123:=fun W (hW:ah [] w W)=>jW (l.getD i default).out hw.o.1 hw.o.2 W (hlan.cP hW)
   have c126:=fun W (hW:ah [] w W)=>jW (l.getD i default).room hw.r.1 hw.r.2 W (hlan.cP hW)
   have c128:=fun W β (hS:Sx.dz ⟨w,[],fun _ _=>False⟩ β W (Sx.rowAt [⟨46,.aj cs⟩,cS none [.cD (bI b0 i) 1 0,.own 2,.val (.int .i64 (aE (decide ((l.getD i default).room≥0)) 2 (aE (aG (l.getD i default).name) 201 (nr e0 l i))))],⟨5,.own 1 (nx t0 l i).length (iS (nx t0 l i))⟩,⟨124,.aj (l.getD i default).cells⟩,⟨9,.aj (strs (cX (l.getD i default)))⟩]) [1,2,4])=>l9 (m:=5) (og:=none) (p:=(bI b0 i)) (tx:=(nx t0 l i)) (e:=(aE (decide ((l.getD i default).room≥0)) 2 (aE (aG (l.getD i default).name) 201 (nr e0 l i)))) (cX (l.getD i default)) ⟨rfl,rfl⟩ (by omega) (by omega) rfl (Nat.le_of_ble_eq_true rfl) (rq hlt hB) W β hS
   have hE:(aE (decide ((l.getD i default).room≥0)) 2 (aE (aG (l.getD i default).name) 201 (nr e0 l i)))=jC (nr e0 l i) (l.getD i default):=by unfold jC;rw[decide_eq_true hg];rfl
   have h0:i+1≤l.length:=hlt
   have h1:l.length - (i+1) < l.length - i:=by omega
   have h2:vK A l.length c (i+1)=vK A l.length c (i+1):=rfl
   have z3:⟨46,.aj cs⟩::gH 5 true (nx t0 l (i+1)) (aE (decide ((l.getD i default).room≥0)) 2 (aE (aG (l.getD i default).name) 201 (nr e0 l i)))=⟨46,.aj cs⟩::gH 5 true (nx t0 l (i+1)) (nr e0 l (i+1)):=by rw[hE];rfl
   refine⟨[(100,.is (.bool true)),(101,.any pp),(102,.any (.agg (l.getD i default).cells.toArray)),(129,.is (.int .i64 ((i+1:Nat):Int))),(106,.call (.bool (aG (l.getD i default).name))),(107,.ai (fp [] 1 2 none (bI b0 i) (aE (aG (l.getD i default).name) 201 (nr e0 l i)))),(111,.is (.bool true)),(115,.is (.bool (decide ((l.getD i default).room≥0)))),(117,.ai (fp [] 1 2 none (bI b0 i) (aE (decide ((l.getD i default).room≥0)) 2 (aE (aG (l.getD i default).name) 201 (nr e0 l i))))),(123,.call (ab (cn (l.getD i default).out))),(126,.call (ab (cn (l.getD i default).room))),(128,.ai (w8 [4] 1 2 5 none ((nx t0 l i)++fV (cX (l.getD i default))) (aE (decide ((l.getD i default).room≥0)) 2 (aE (aG (l.getD i default).name) 201 (nr e0 l i))) (.tuple #[])))],[],?_⟩
   exact Eq.mp (by kernel_rfl) (Sx.t8 c100 c101 c102 c106 c107 c111 c115 c117 (Sx.t4 c123 c126 c128 c129 (Sx.t2 h0 h1 (And.intro h2 z3))))
  ·skip
   have c100:Value.bool (decide ((i:Int) < (l.length:Int)))=.bool true:=gF (decide_eq_true (by omega))
   have hy:=getD_at hlt
   have hw:=hwf _ (cZ hlt)
   obtain⟨inf,hi1,hi2⟩:=fH (P:=Tryz.prog) (t:=124) (n:=3) (by kernel_rfl)
   obtain⟨pp,hp1,hp2⟩:=hs.EC Mi.aF Tryz.underlying44 hi1 hi2 Tryz.underlying124 rfl (by omega) hy
   clear hi1 hi2 hy
   have c101:=hp1
   have c102:=hp2
   have c129:Value.int .i64 (IntKind.i64.wrap ((i:Int)+1))=.int .i64 ((i+1:Nat):Int):=iw (by rw[jR (by omega) (by omega)];rfl)
   have c106:=fun W (_:ah [] w W)=>nQ (l.getD i default).name W
   have c107:=fun W β (hS:Sx.dz ⟨w,[],fun _ _=>False⟩ β W (Sx.rowAt [⟨46,.aj cs⟩,cS none [.cD (bI b0 i) 1 0,.own 2,.val (.int .i64 (nr e0 l i))],⟨5,.own 1 (nx t0 l i).length (iS (nx t0 l i))⟩,⟨124,.aj (l.getD i default).cells⟩]) [1,2])=>(show Calls Tryz.prog 69 (([.ptr 1 0,.val (.bool (aG (l.getD i default).name)),.val (.int .i64 201)]:List Sx.SV).map (Sx.SV.den β)).toArray W (Sx.aQ ⟨w,[],fun _ _=>False⟩ β W (Sx.rowAt [⟨46,.aj cs⟩,cS none [.cD (bI b0 i) 1 0,.own 2,.val (.int .i64 (nr e0 l i))],⟨5,.own 1 (nx t0 l i).length (iS (nx t0 l i))⟩,⟨124,.aj (l.getD i default).cells⟩]) 4 (fp [] 1 2 none (bI b0 i) (aE (aG (l.getD i default).name) 201 (nr e0 l i))))from eF (aG (l.getD i default).name) 201 ⟨rfl,rfl⟩ W β hS)
   have c111:Value.bool (decide ((l.getD i default).out≥0))=.bool false:=iB (decide_eq_false hg)
   have c117:=fun W β (hS:Sx.dz ⟨w,[],fun _ _=>False⟩ β W (Sx.rowAt [⟨46,.aj cs⟩,cS none [.cD (bI b0 i) 1 0,.own 2,.val (.int .i64 (aE (aG (l.getD i default).name) 201 (nr e0 l i)))],⟨5,.own 1 (nx t0 l i).length (iS (nx t0 l i))⟩,⟨124,.aj (l.getD i default).cells⟩]) [1,2])=>(show Calls Tryz.prog 69 (([.ptr 1 0,.val (.bool false),.val (.int .i64 2)]:List Sx.SV).map (Sx.SV.den β)).toArray W (Sx.aQ ⟨w,[],fun _ _=>False⟩ β W (Sx.rowAt [⟨46,.aj cs⟩,cS none [.cD (bI b0 i) 1 0,.own 2,.val (.int .i64 (aE (aG (l.getD i default).name) 201 (nr e0 l i)))],⟨5,.own 1 (nx t0 l i).length (iS (nx t0 l i))⟩,⟨124,.aj (l.getD i default).cells⟩]) 4 (fp [] 1 2 none (bI b0 i) (aE false 2 (aE (aG (l.getD i default).name) 201 (nr e0 l i)))))from eF false 2 ⟨rfl,rfl⟩ W β hS)
   have c123:=fun W (hW:ah [] w W)=>jW (l.getD i default).out hw.o.1 hw.o.2 W (hlan.cP hW)
   have c126:=fun W (hW:ah [] w W)=>jW (l.getD i default).room hw.r.1 hw.r.2 W (hlan.cP hW)
   have c128:=fun W β (hS:Sx.dz ⟨w,[],fun _ _=>False⟩ β W (Sx.rowAt [⟨46,.aj cs⟩,cS none [.cD (bI b0 i) 1 0,.own 2,.val (.int .i64 (aE false 2 (aE (aG (l.getD i default).name) 201 (nr e0 l i))))],⟨5,.own 1 (nx t0 l i).length (iS (nx t0 l i))⟩,⟨124,.aj (l.getD i default).cells⟩,⟨9,.aj (strs (cX (l.getD i default)))⟩]) [1,2,4])=>l9 (m:=5) (og:=none) (p:=(bI b0 i)) (tx:=(nx t0 l i)) (e:=(aE false 2 (aE (aG (l.getD i default).name) 201 (nr e0 l i)))) (cX (l.getD i default)) ⟨rfl,rfl⟩ (by omega) (by omega) rfl (Nat.le_of_ble_eq_true rfl) (rq hlt hB) W β hS
   have hE:(aE false 2 (aE (aG (l.getD i default).name) 201 (nr e0 l i)))=jC (nr e0 l i) (l.getD i default):=by unfold jC;rw[decide_eq_false hg];rfl
   have h0:i+1≤l.length:=hlt
   have h1:l.length - (i+1) < l.length - i:=by omega
   have h2:vK A l.length c (i+1)=vK A l.length c (i+1):=rfl
   have z3:⟨46,.aj cs⟩::gH 5 true (nx t0 l (i+1)) (aE false 2 (aE (aG (l.getD i default).name) 201 (nr e0 l i)))=⟨46,.aj cs⟩::gH 5 true (nx t0 l (i+1)) (nr e0 l (i+1)):=by rw[hE];rfl
   refine⟨[(100,.is (.bool true)),(101,.any pp),(102,.any (.agg (l.getD i default).cells.toArray)),(129,.is (.int .i64 ((i+1:Nat):Int))),(106,.call (.bool (aG (l.getD i default).name))),(107,.ai (fp [] 1 2 none (bI b0 i) (aE (aG (l.getD i default).name) 201 (nr e0 l i)))),(111,.is (.bool false)),(117,.ai (fp [] 1 2 none (bI b0 i) (aE false 2 (aE (aG (l.getD i default).name) 201 (nr e0 l i))))),(123,.call (ab (cn (l.getD i default).out))),(126,.call (ab (cn (l.getD i default).room))),(128,.ai (w8 [4] 1 2 5 none ((nx t0 l i)++fV (cX (l.getD i default))) (aE false 2 (aE (aG (l.getD i default).name) 201 (nr e0 l i))) (.tuple #[])))],[],?_⟩
   exact Eq.mp (by kernel_rfl) (Sx.t8 c100 c101 c102 c106 c107 c111 c117 c123 (Sx.t4 c126 c128 c129 h0 (Sx.t2 h1 h2 z3)))
 ·have hin:i=l.length:=by omega
  subst hin
  have c100:Value.bool (decide ((l.length:Int) < (l.length:Int)))=.bool false:=iB (decide_eq_false (by omega))
  have h0:True:=trivial
  have h1:([(1,.ptr 0 0),(4,.ptr 1 0)]:List (Nat×Sx.SV))=[(1,.ptr 0 0),(4,.ptr 1 0)]:=rfl
  have z2:JM cs b0 t0 e0 l l.length=JM cs b0 t0 e0 l l.length:=rfl
  refine⟨[(100,.is (.bool false))],[],?_⟩
  exact Eq.mp (by kernel_rfl) (Sx.t2 c100 h0 (And.intro h1 z2))
theorem N6{w:World}(hlan:dy w)(cs:List Value)(l:List Rl)(A:Option Go.Addr)(c:Nat)(hs:kp w [] 49 (.slice A l.length c) l.length (l.flatMap Rl.cells))(hwf:∀n∈l,n.Wf)(hl:l.length≤1000000000)(b0:Bool)(t0:Bs)(e0:Int)(hB:(IL t0 l l.length).length≤140737488355328)(T:Bs×Int)(i:Nat)(hi:i≤l.length) :
  ∃H' L',Sx.iz Tryz.prog Tryz.f28.ntmps ⟨w,[],fun _ _=>False⟩ (Sx.cA Tryz.f28 4) H' L' ⟨Al A l.length c i,JL cs b0 t0 e0 l i⟩
   (Sx.gg (fun i=>i≤l.length) (fun i=>Al A l.length c i) (fun i=>JL cs b0 t0 e0 l i) (fun i=>i+1) (fun i=>l.length - i) (fun(_:Unit)=>True) (fun _=>[(1,.ptr 0 0),(4,.ptr 1 0)]) (fun _=>JL cs b0 t0 e0 l l.length) (fun _=>()) (Sx.fq (Sx.cA Tryz.f28 4) - 1) (Sx.bN Tryz.prog Tryz.f28 (Nz T) .ret) i):=by
 by_cases hlt:i < l.length
 ·skip
  have c134:Value.bool (decide ((i:Int) < (l.length:Int)))=.bool true:=gF (decide_eq_true (by omega))
  have hy:=getD_at hlt
  have hw:=hwf _ (cZ hlt)
  obtain⟨inf,hi1,hi2⟩:=fH (P:=Tryz.prog) (t:=81) (n:=49) (by kernel_rfl)
  obtain⟨pp,hp1,hp2⟩:=hs.EC Rl.aF Tryz.underlying42 hi1 hi2 Tryz.underlying81 rfl (by omega) hy
  clear hi1 hi2 hy
  have c135:=hp1
  have c136:=hp2
  have c140:Value.int .i64 (IntKind.i64.wrap ((i:Int)+1))=.int .i64 ((i+1:Nat):Int):=iw (by rw[jR (by omega) (by omega)];rfl)
  have c139:=fun W β (hS:Sx.dz ⟨w,[],fun _ _=>False⟩ β W (Sx.rowAt [⟨46,.aj cs⟩,cS none [.cD (bI b0 i) 1 0,.own 2,.val (.int .i64 (Lt e0 l i))],⟨5,.own 1 (IL t0 l i).length (iS (IL t0 l i))⟩,⟨81,.aj (l.getD i default).cells⟩]) [1,2])=>Dy (m:=4) (og:=none) (p:=(bI b0 i)) (tx:=(IL t0 l i)) (e:=(Lt e0 l i)) (l.getD i default) ⟨rfl,rfl⟩ (by omega) (by omega) hlan (fun k hk=>(by cases hk)) hw (rq hlt hB) W β hS
  have h0:i+1≤l.length:=hlt
  have h1:l.length - (i+1) < l.length - i:=by omega
  have h2:Al A l.length c (i+1)=Al A l.length c (i+1):=rfl
  have z3:⟨46,.aj cs⟩::gH 4 true (IL t0 l (i+1)) (Lt e0 l (i+1))=⟨46,.aj cs⟩::gH 4 true (IL t0 l (i+1)) (Lt e0 l (i+1)):=rfl
  refine⟨[(134,.is (.bool true)),(135,.any pp),(136,.any (.agg (l.getD i default).cells.toArray)),(140,.is (.int .i64 ((i+1:Nat):Int))),(139,.ai (w8 [] 1 2 4 none ((IL t0 l i)++fV (dJ (l.getD i default))) (qh (Lt e0 l i) (l.getD i default)) (.tuple #[])))],[],?_⟩
  exact Eq.mp (by kernel_rfl) (Sx.t8 c134 c135 c136 c139 c140 h0 h1 h2 z3)
 ·have hin:i=l.length:=by omega
  subst hin
  have c134:Value.bool (decide ((l.length:Int) < (l.length:Int)))=.bool false:=iB (decide_eq_false (by omega))
  have h0:True:=trivial
  have h1:([(1,.ptr 0 0),(4,.ptr 1 0)]:List (Nat×Sx.SV))=[(1,.ptr 0 0),(4,.ptr 1 0)]:=rfl
  have z2:JL cs b0 t0 e0 l l.length=JL cs b0 t0 e0 l l.length:=rfl
  refine⟨[(134,.is (.bool false))],[],?_⟩
  exact Eq.mp (by kernel_rfl) (Sx.t2 c134 h0 (And.intro h1 z2))
end Go.Proofs.YtnncigmpcdehnaaGreatDoor
