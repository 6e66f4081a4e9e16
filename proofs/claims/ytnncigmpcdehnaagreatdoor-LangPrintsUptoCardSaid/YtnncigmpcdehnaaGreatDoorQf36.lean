import Derived.Test.YtnncigmpcdehnaaGreatDoorQf35
namespace Go.Proofs.YtnncigmpcdehnaaGreatDoor
set_option maxRecDepth 100000
open Go Go.RowKit Go.Lib Go.Sort _root_.Go.Proofs.Tryz
set_option maxRecDepth 100000
theorem Ko(v:Bool)(n:Nat)(k:Int):Value.bool (dC v n k==0)=.bool (gh v n k):=by unfold dC;cases gh v n k<;>rfl
def bI(b0:Bool):Nat→Bool
 | 0=>b0
 |_+1=>true
def tI(t0:Bs)(ws:Nat→List Bs):Nat→Bs
 | 0=>t0
 |i+1=>tI t0 ws i++eW (ws i)
def eI(e0:Int)(E:Nat→Int→Int):Nat→Int
 | 0=>e0
 |i+1=>E i (eI e0 E i)
theorem tF{t0:Bs}{ws:Nat→List Bs}{B:Nat}:∀{n i:Nat},i < n→(tI t0 ws n).length≤B→(tI t0 ws i).length+(eW (ws i)).length≤B
 | 0,_,h,_=>by omega
 |n+1,i,h,hb=>by
  have e:(tI t0 ws (n+1)).length=(tI t0 ws n).length+(eW (ws n)).length:=by rw[tI,List.length_append]
  by_cases hi:i=n
  ·subst hi;omega
  ·exact tF (n:=n) (by omega) (by omega)
theorem zI{α:Type} [Inhabited α](f:α→List Bs)(t0:Bs)(l:List α):tI t0 (fun i=>f (l.getD i default)) l.length=t0++dd (l.map f):=by
 have key:∀k,k≤l.length→tI t0 (fun i=>f (l.getD i default)) k=t0++dd ((l.take k).map f):=by
  intro k
  induction k with
  |zero=>intro _;simp[tI,dd]
  |succ k ih=>
   intro hk
   rw[tI,ih (by omega),List.take_add_one]
   have:l[k]?=some (l.getD k default):=by rw[List.getD_eq_getElem?_getD,List.getElem?_eq_getElem (by omega)];rfl
   rw[this]
   simp[dd]
 have:=key l.length (Nat.le_refl _)
 rwa [List.take_length]at this
theorem Bv{α:Type} [Inhabited α](E:Int→α→Int)(e0:Int)(l:List α):eI e0 (fun i e=>E e (l.getD i default)) l.length=l.foldl E e0:=by
 have key:∀k,k≤l.length→eI e0 (fun i e=>E e (l.getD i default)) k=(l.take k).foldl E e0:=by
  intro k
  induction k with
  |zero=>intro _;simp[eI]
  |succ k ih=>
   intro hk
   rw[eI,ih (by omega),List.take_add_one]
   have:l[k]?=some (l.getD k default):=by rw[List.getD_eq_getElem?_getD,List.getElem?_eq_getElem (by omega)];rfl
   rw[this]
   simp
 have:=key l.length (Nat.le_refl _)
 rwa [List.take_length]at this
theorem getD_at{α:Type} [Inhabited α]{l:List α}{i:Nat}(h:i < l.length):l[i]?=some (l.getD i default):=by
 rw[List.getD_eq_getElem?_getD,List.getElem?_eq_getElem h];rfl
theorem bX{α:Type} [Inhabited α]{l:List α}{i:Nat}(h:i < l.length):l.getD i default∈l:=List.mem_of_getElem? (getD_at h)
def iB(k:Nat)(b:Bool)(t:Bs)(e:Int):List Sx.Row:=[ji none [.eG b 1 0,.own k,.val (.int .i64 e)],⟨5,.own 1 t.length (qT t)⟩]
def zG(b:Bool)(t:Bs)(e:Int):List Sx.Row:=iB 2 b t e
def Q2(T:Bs×Int)(l:List Sx.SV)(_:List Sx.Row):Prop:=l=[.val (ab T.1),.val (.int .i64 T.2)]
theorem cY{P:Program}{t:TypeId}{n:Nat}(h:(P.info? t).map (·.size)=some n):∃inf,P.info? t=some inf∧inf.size=n:=Option.map_eq_some_iff.1 h
theorem Me.az(m:Me):m.cells.length=4:=rfl
theorem Mi.az(m:Mi):m.cells.length=3:=rfl
theorem Rt.az(m:Rt):m.cells.length=19:=by unfold Rt.cells;rw[List.length_append,Px.az];rfl
theorem Rl.az(m:Rl):m.cells.length=49:=by
 unfold Rl.cells
 rw[List.length_cons,List.length_append,Mt.az];rfl
def CS(A:Option Go.Addr)(n c i:Nat):List (Nat×Sx.SV):=[(1,.ptr 0 0),(4,.ptr 1 0),(20,.val (.slice A n c)),(21,.val (.int .i64 (n:Int))),(22,.val (.int .i64 (i:Int)))]
def MS(t0:Bs)(l:List Int):Nat→Bs:=tI t0 fun i=>eg (l.getD i default)
def Na(e0:Int)(l:List Int):Nat→Int:=eI e0 fun i e=>Aj e (l.getD i default)
def M6(cs:List Value)(b0:Bool)(t0:Bs)(e0:Int)(l:List Int)(i:Nat):List Sx.Row:=⟨46,.ak cs⟩::zG (bI b0 i) (MS t0 l i) (Na e0 l i)
def CR(A:Option Go.Addr)(n c i:Nat):List (Nat×Sx.SV):=[(1,.ptr 0 0),(4,.ptr 1 0),(37,.val (.slice A n c)),(38,.val (.int .i64 (n:Int))),(39,.val (.int .i64 (i:Int)))]
def LA(t0:Bs)(l:List Rt):Nat→Bs:=tI t0 fun i=>ek (l.getD i default)
def Hu(e0:Int)(l:List Rt):Nat→Int:=eI e0 fun i e=>tY e (l.getD i default)
def M5(cs:List Value)(b0:Bool)(t0:Bs)(e0:Int)(l:List Rt)(i:Nat):List Sx.Row:=⟨46,.ak cs⟩::zG (bI b0 i) (LA t0 l i) (Hu e0 l i)
def CQ(A:Option Go.Addr)(n c i:Nat):List (Nat×Sx.SV):=[(1,.ptr 0 0),(4,.ptr 1 0),(67,.val (.slice A n c)),(68,.val (.int .i64 (n:Int))),(69,.val (.int .i64 (i:Int)))]
def MR(t0:Bs)(l:List Me):Nat→Bs:=tI t0 fun i=>ep (l.getD i default)
def LC(e0:Int)(l:List Me):Nat→Int:=eI e0 fun i e=>uL e (l.getD i default)
def M4(cs:List Value)(b0:Bool)(t0:Bs)(e0:Int)(l:List Me)(i:Nat):List Sx.Row:=⟨46,.ak cs⟩::zG (bI b0 i) (MR t0 l i) (LC e0 l i)
def yq(A:Option Go.Addr)(n c i:Nat):List (Nat×Sx.SV):=[(1,.ptr 0 0),(4,.ptr 1 0),(97,.val (.slice A n c)),(98,.val (.int .i64 (n:Int))),(99,.val (.int .i64 (i:Int)))]
def Cj(t0:Bs)(l:List Mi):Nat→Bs:=tI t0 fun i=>cI (l.getD i default)
def uo(e0:Int)(l:List Mi):Nat→Int:=eI e0 fun i e=>jq e (l.getD i default)
def M3(cs:List Value)(b0:Bool)(t0:Bs)(e0:Int)(l:List Mi)(i:Nat):List Sx.Row:=⟨46,.ak cs⟩::zG (bI b0 i) (Cj t0 l i) (uo e0 l i)
def CP(A:Option Go.Addr)(n c i:Nat):List (Nat×Sx.SV):=[(1,.ptr 0 0),(4,.ptr 1 0),(131,.val (.slice A n c)),(132,.val (.int .i64 (n:Int))),(133,.val (.int .i64 (i:Int)))]
def Lz(t0:Bs)(l:List Rl):Nat→Bs:=tI t0 fun i=>db (l.getD i default)
def OR(e0:Int)(l:List Rl):Nat→Int:=eI e0 fun i e=>pY e (l.getD i default)
def M1(cs:List Value)(b0:Bool)(t0:Bs)(e0:Int)(l:List Rl)(i:Nat):List Sx.Row:=⟨46,.ak cs⟩::zG (bI b0 i) (Lz t0 l i) (OR e0 l i)
abbrev pQ(cs:List Value)(p:Bool)(tx:Bs)(e:Int)(mem:List Sx.Row):List Sx.Row:=⟨46,.ak cs⟩::ji none [.eG p 1 0,.own 2,.val (.int .i64 e)]::⟨5,.own 1 tx.length (qT tx)⟩::mem
theorem rS(w:World)(cs:List Value)(p:Bool)(tx:Bs)(e:Int)(mem:List Sx.Row)(m:Nat)(b:Bool)(code:Int)(W:World)(β:Sx.Env)(hS:Sx.eF ⟨w,[],fun _ _=>False⟩ β W (Sx.rowAt (pQ cs p tx e mem)) [1,2]) :
  Calls prog 69 (([.ptr 1 0,.val (.bool b),.val (.int .i64 code)]:List Sx.SV).map (Sx.SV.den β)).toArray W (Sx.aY ⟨w,[],fun _ _=>False⟩ β W (Sx.rowAt (pQ cs p tx e mem)) m (jD [] 1 2 none p (aI b code e))):=qU b code ⟨rfl,rfl⟩ W β hS
theorem AH(w:World)(cs:List Value)(p:Bool)(tx:Bs)(e:Int)(mem:List Sx.Row)(k m:Nat)(ws:List Bs)(rk:Sx.rowAt (pQ cs p tx e mem) k=some ⟨9,.ak (strs ws)⟩)(hm:2 < m)(hn:ws.length≤1000000)(hl:tx.length+(eW ws).length≤140737488355328)(W:World)(β:Sx.Env)(hS:Sx.eF ⟨w,[],fun _ _=>False⟩ β W (Sx.rowAt (pQ cs p tx e mem)) [1,2,k]) :
  Calls prog 70 (([.ptr 1 0,.mP k 0 ws.length ws.length]:List Sx.SV).map (Sx.SV.den β)).toArray W (Sx.aY ⟨w,[],fun _ _=>False⟩ β W (Sx.rowAt (pQ cs p tx e mem)) m (zx [k] 1 2 m none (tx++eW ws) e (.tuple #[]))):=JJ ws ⟨rfl,rfl⟩ (by omega) hm rk hn hl W β hS
theorem FY{b:Sx.aU}{row:Nat→Option Sx.Row}{i j m:Nat}{og:Option Nat}{p:Bool}{tx:Bs}{e:Int}(r:Rl)(h:nP row i j og p tx e)(hi:i < m)(hj:j < m)(hlan:eb b.w)(h9:∀k∈b.S,9≤k)(hr:r.Wf)(hl:tx.length+(eW (db r)).length≤140737488355328)
  (W:World) (β:Sx.Env) (hS:Sx.eF b β W row [i,j]) :
  Calls prog 74 (([.ptr i 0,.val (.agg r.cells.toArray)]:List Sx.SV).map (Sx.SV.den β)).toArray W (Sx.aY b β W row m (zx [] i j m og (tx++eW (db r)) (pY e r) (.tuple #[]))):=by
 obtain⟨ht,hg⟩:=oV hS h (by simp) (by simp)
 have hlow:=hlan.low
 have old:∀x r k,x∈[i,j]→row x=some r→Sx.av β x r=some k→9≤k:=fun x r k hx hr hk=>by
  rcases hS.new x hx r k hr hk with h|h
  ·exact h9 k h
  ·omega
 refine(LX ht (hlan.aG hS.aG h9) (fun k hk=>?_) hr hl).mono fun en w' hp=>sX h hi hj hg hp
 rcases List.mem_cons.1 hk with rfl|hk
 ·exact old i _ _ (by simp) h.b nT
 ·exact old j _ _ (by simp) h.o (by show(β.a j).map (·.block)=some k;simpa using hk)
theorem RE{w:World}(hlan:eb w)(cs:List Value)(l:List Int)(A:Option Go.Addr)(c:Nat)(hs:kV w [] 1 (.slice A l.length c) l.length (l.map fun n=>Value.int .i64 n))(hwf:∀n∈l,mD n)(hl:l.length≤1000000000)(b0:Bool)(t0:Bs)(e0:Int)(hB:(MS t0 l l.length).length≤140737488355328)(T:Bs×Int)(i:Nat)(hi:i≤l.length) :
  ∃H' L',Sx.jU prog f28.ntmps ⟨w,[],fun _ _=>False⟩ (Sx.aQ f28 0) H' L' ⟨CS A l.length c i,M6 cs b0 t0 e0 l i⟩
   (Sx.dR (fun i=>i≤l.length) (fun i=>CS A l.length c i) (fun i=>M6 cs b0 t0 e0 l i) (fun i=>i+1) (fun i=>l.length - i) (fun(_:Unit)=>True) (fun _=>[(1,.ptr 0 0),(4,.ptr 1 0)]) (fun _=>M6 cs b0 t0 e0 l l.length) (fun _=>()) (Sx.dM (Sx.aQ f28 0) - 1) (Sx.bY prog f28 (Q2 T) .ret) i):=by
 by_cases hlt:i < l.length
 ·skip
  have c23:=bT ((i:Int) < (l.length:Int)) (by omega)
  have hy:=getD_at hlt
  have hw:=hwf _ (bX hlt)
  obtain⟨inf,hi1,hi2⟩:=cY (P:=prog) (t:=3) (n:=1) (by kernel_rfl)
  obtain⟨pp,hp1,hp2⟩:=hs.QG underlying40 hi1 hi2 underlying3 rfl hy
  clear hi1 hi2 hy
  have c24:=hp1
  have c25:=hp2
  have c35:=my (i:=i) (by omega)
  have c28:Value.bool (decide ((l.getD i default)≥0))=.bool (decide ((l.getD i default)≥0)):=rfl
  have c29:=rS w cs (bI b0 i) (MS t0 l i) (Na e0 l i) [] 3 (decide ((l.getD i default)≥0)) 2
  have c32:=fun W (hW:ai [] w W)=>kS (l.getD i default) hw.1 hw.2 W (hlan.df hW)
  have c34:=AH w cs (bI b0 i) (MS t0 l i) (aI (decide ((l.getD i default)≥0)) 2 (Na e0 l i)) [⟨9,.ak (strs (eg (l.getD i default)))⟩] 3 4 (eg (l.getD i default)) rfl (by omega) (cn rfl) (tF hlt hB)
  have h0:i+1≤l.length:=hlt
  have h1:l.length - (i+1) < l.length - i:=by omega
  have h2:CS A l.length c (i+1)=CS A l.length c (i+1):=rfl
  have z3:⟨46,.ak cs⟩::iB 4 true (MS t0 l (i+1)) (Na e0 l (i+1))=⟨46,.ak cs⟩::iB 4 true (MS t0 l (i+1)) (Na e0 l (i+1)):=rfl
  refine⟨[(23,.is (.bool true)),(24,.any pp),(25,.any (.int .i64 (l.getD i default))),(35,.is (.int .i64 ((i+1:Nat):Int))),(28,.is (.bool (decide ((l.getD i default)≥0)))),(29,.aq (jD [] 1 2 none (bI b0 i) (aI (decide ((l.getD i default)≥0)) 2 (Na e0 l i)))),(32,.call (ab (cz (l.getD i default)))),(34,.aq (zx [3] 1 2 4 none ((MS t0 l i)++eW (eg (l.getD i default))) (aI (decide ((l.getD i default)≥0)) 2 (Na e0 l i)) (.tuple #[])))],[],?_⟩
  exact Eq.mp (by kernel_rfl) (Sx.t8 c23 c24 c25 c28 c29 c32 c34 c35 (Sx.t2 h0 h1 (And.intro h2 z3)))
 ·have hin:i=l.length:=by omega
  subst hin
  have c23:=bF ((l.length:Int) < (l.length:Int)) (by omega)
  have h0:True:=trivial
  have h1:([(1,.ptr 0 0),(4,.ptr 1 0)]:List (Nat×Sx.SV))=[(1,.ptr 0 0),(4,.ptr 1 0)]:=rfl
  have z2:M6 cs b0 t0 e0 l l.length=M6 cs b0 t0 e0 l l.length:=rfl
  refine⟨[(23,.is (.bool false))],[],?_⟩
  exact Eq.mp (by kernel_rfl) (Sx.t2 c23 h0 (And.intro h1 z2))
theorem RD{w:World}(hlan:eb w)(cs:List Value)(l:List Rt)(A:Option Go.Addr)(c:Nat)(hs:kV w [] 19 (.slice A l.length c) l.length (l.flatMap Rt.cells))(hwf:∀n∈l,n.Wf)(hl:l.length≤1000000000)(b0:Bool)(t0:Bs)(e0:Int)(hB:(LA t0 l l.length).length≤140737488355328)(T:Bs×Int)(i:Nat)(hi:i≤l.length) :
  ∃H' L',Sx.jU prog f28.ntmps ⟨w,[],fun _ _=>False⟩ (Sx.aQ f28 1) H' L' ⟨CR A l.length c i,M5 cs b0 t0 e0 l i⟩
   (Sx.dR (fun i=>i≤l.length) (fun i=>CR A l.length c i) (fun i=>M5 cs b0 t0 e0 l i) (fun i=>i+1) (fun i=>l.length - i) (fun(_:Unit)=>True) (fun _=>[(1,.ptr 0 0),(4,.ptr 1 0)]) (fun _=>M5 cs b0 t0 e0 l l.length) (fun _=>()) (Sx.dM (Sx.aQ f28 1) - 1) (Sx.bY prog f28 (Q2 T) .ret) i):=by
 by_cases hlt:i < l.length
 ·skip
  have c40:=bT ((i:Int) < (l.length:Int)) (by omega)
  have hy:=getD_at hlt
  have hw:=hwf _ (bX hlt)
  obtain⟨inf,hi1,hi2⟩:=cY (P:=prog) (t:=118) (n:=19) (by kernel_rfl)
  obtain⟨pp,hp1,hp2⟩:=hs.FA Rt.az underlying41 hi1 hi2 underlying118 rfl (by omega) hy
  clear hi1 hi2 hy
  have c41:=hp1
  have c42:=hp2
  have c65:=my (i:=i) (by omega)
  have c46:=fun W (hW:ai [] w W)=>Cq (l.getD i default).pf.v (l.getD i default).pf.n (l.getD i default).pf.k hw.n W (hlan.df hW)
  have c51:=Ko (l.getD i default).pf.v (l.getD i default).pf.n (l.getD i default).pf.k
  have c52:=rS w cs (bI b0 i) (LA t0 l i) (Hu e0 l i) [⟨118,.ak (l.getD i default).cells⟩] 4 (gh (l.getD i default).pf.v (l.getD i default).pf.n (l.getD i default).pf.k) 151
  have c56:Value.bool (decide ((l.getD i default).out≥0))=.bool (decide ((l.getD i default).out≥0)):=rfl
  have c57:=rS w cs (bI b0 i) (LA t0 l i) (aI (gh (l.getD i default).pf.v (l.getD i default).pf.n (l.getD i default).pf.k) 151 (Hu e0 l i)) [⟨118,.ak (l.getD i default).cells⟩] 4 (decide ((l.getD i default).out≥0)) 2
  have c62:=fun W (hW:ai [] w W)=>kS (l.getD i default).out hw.o.1 hw.o.2 W (hlan.df hW)
  have c64:=AH w cs (bI b0 i) (LA t0 l i) (aI (decide ((l.getD i default).out≥0)) 2 (aI (gh (l.getD i default).pf.v (l.getD i default).pf.n (l.getD i default).pf.k) 151 (Hu e0 l i))) [⟨118,.ak (l.getD i default).cells⟩,⟨9,.ak (strs (ek (l.getD i default)))⟩] 4 5 (ek (l.getD i default)) rfl (by omega) (cn rfl) (tF hlt hB)
  have h0:i+1≤l.length:=hlt
  have h1:l.length - (i+1) < l.length - i:=by omega
  have h2:CR A l.length c (i+1)=CR A l.length c (i+1):=rfl
  have z3:⟨46,.ak cs⟩::iB 5 true (LA t0 l (i+1)) (Hu e0 l (i+1))=⟨46,.ak cs⟩::iB 5 true (LA t0 l (i+1)) (Hu e0 l (i+1)):=rfl
  refine⟨[(40,.is (.bool true)),(41,.any pp),(42,.any (.agg (l.getD i default).cells.toArray)),(65,.is (.int .i64 ((i+1:Nat):Int))),(46,.call (.tuple #[ab (pK (l.getD i default).pf),.int .i64 (dC (l.getD i default).pf.v (l.getD i default).pf.n (l.getD i default).pf.k)])),(51,.is (.bool (gh (l.getD i default).pf.v (l.getD i default).pf.n (l.getD i default).pf.k))),(52,.aq (jD [] 1 2 none (bI b0 i) (aI (gh (l.getD i default).pf.v (l.getD i default).pf.n (l.getD i default).pf.k) 151 (Hu e0 l i)))),(56,.is (.bool (decide ((l.getD i default).out≥0)))),(57,.aq (jD [] 1 2 none (bI b0 i) (aI (decide ((l.getD i default).out≥0)) 2 (aI (gh (l.getD i default).pf.v (l.getD i default).pf.n (l.getD i default).pf.k) 151 (Hu e0 l i))))),(62,.call (ab (cz (l.getD i default).out))),(64,.aq (zx [4] 1 2 5 none ((LA t0 l i)++eW (ek (l.getD i default))) (aI (decide ((l.getD i default).out≥0)) 2 (aI (gh (l.getD i default).pf.v (l.getD i default).pf.n (l.getD i default).pf.k) 151 (Hu e0 l i))) (.tuple #[])))],[],?_⟩
  exact Eq.mp (by kernel_rfl) (Sx.t8 c40 c41 c42 c46 c51 c52 c56 c57 (Sx.t4 c62 c64 c65 h0 (Sx.t2 h1 h2 z3)))
 ·have hin:i=l.length:=by omega
  subst hin
  have c40:=bF ((l.length:Int) < (l.length:Int)) (by omega)
  have h0:True:=trivial
  have h1:([(1,.ptr 0 0),(4,.ptr 1 0)]:List (Nat×Sx.SV))=[(1,.ptr 0 0),(4,.ptr 1 0)]:=rfl
  have z2:M5 cs b0 t0 e0 l l.length=M5 cs b0 t0 e0 l l.length:=rfl
  refine⟨[(40,.is (.bool false))],[],?_⟩
  exact Eq.mp (by kernel_rfl) (Sx.t2 c40 h0 (And.intro h1 z2))
theorem RC{w:World}(hlan:eb w)(cs:List Value)(l:List Me)(A:Option Go.Addr)(c:Nat)(hs:kV w [] 4 (.slice A l.length c) l.length (l.flatMap Me.cells))(hwf:∀n∈l,n.Wf)(hl:l.length≤1000000000)(b0:Bool)(t0:Bs)(e0:Int)(hB:(MR t0 l l.length).length≤140737488355328)(T:Bs×Int)(i:Nat)(hi:i≤l.length) :
  ∃H' L',Sx.jU prog f28.ntmps ⟨w,[],fun _ _=>False⟩ (Sx.aQ f28 2) H' L' ⟨CQ A l.length c i,M4 cs b0 t0 e0 l i⟩
   (Sx.dR (fun i=>i≤l.length) (fun i=>CQ A l.length c i) (fun i=>M4 cs b0 t0 e0 l i) (fun i=>i+1) (fun i=>l.length - i) (fun(_:Unit)=>True) (fun _=>[(1,.ptr 0 0),(4,.ptr 1 0)]) (fun _=>M4 cs b0 t0 e0 l l.length) (fun _=>()) (Sx.dM (Sx.aQ f28 2) - 1) (Sx.bY prog f28 (Q2 T) .ret) i):=by
 by_cases hlt:i < l.length
 ·skip
  have c70:=bT ((i:Int) < (l.length:Int)) (by omega)
  have hy:=getD_at hlt
  have hw:=hwf _ (bX hlt)
  obtain⟨inf,hi1,hi2⟩:=cY (P:=prog) (t:=122) (n:=4) (by kernel_rfl)
  obtain⟨pp,hp1,hp2⟩:=hs.FA Me.az underlying43 hi1 hi2 underlying122 rfl (by omega) hy
  clear hi1 hi2 hy
  have c71:=hp1
  have c72:=hp2
  have c95:=my (i:=i) (by omega)
  have c76:=fun W (_:ai [] w W)=>pb (l.getD i default).name W
  have c77:=rS w cs (bI b0 i) (MR t0 l i) (LC e0 l i) [⟨122,.ak (l.getD i default).cells⟩] 4 (aB (l.getD i default).name) 201
  have c84:=fun W (hW:ai [] w W)=>Fc (l.getD i default).num (by have:=hw.a;omega) W (hlan.df hW)
  have c88:=fun W (hW:ai [] w W)=>Fc (l.getD i default).den (by have:=hw.b;omega) W (hlan.df hW)
  have c92:=fun W (hW:ai [] w W)=>Fc (l.getD i default).iu (by have:=hw.c;omega) W (hlan.df hW)
  have c94:=AH w cs (bI b0 i) (MR t0 l i) (aI (aB (l.getD i default).name) 201 (LC e0 l i)) [⟨122,.ak (l.getD i default).cells⟩,⟨9,.ak (strs (ep (l.getD i default)))⟩] 4 5 (ep (l.getD i default)) rfl (by omega) (cn rfl) (tF hlt hB)
  have h0:i+1≤l.length:=hlt
  have h1:l.length - (i+1) < l.length - i:=by omega
  have h2:CQ A l.length c (i+1)=CQ A l.length c (i+1):=rfl
  have z3:⟨46,.ak cs⟩::iB 5 true (MR t0 l (i+1)) (LC e0 l (i+1))=⟨46,.ak cs⟩::iB 5 true (MR t0 l (i+1)) (LC e0 l (i+1)):=rfl
  refine⟨[(70,.is (.bool true)),(71,.any pp),(72,.any (.agg (l.getD i default).cells.toArray)),(95,.is (.int .i64 ((i+1:Nat):Int))),(76,.call (.bool (aB (l.getD i default).name))),(77,.aq (jD [] 1 2 none (bI b0 i) (aI (aB (l.getD i default).name) 201 (LC e0 l i)))),(84,.call (ab (aj 10 (l.getD i default).num))),(88,.call (ab (aj 10 (l.getD i default).den))),(92,.call (ab (aj 10 (l.getD i default).iu))),(94,.aq (zx [4] 1 2 5 none ((MR t0 l i)++eW (ep (l.getD i default))) (aI (aB (l.getD i default).name) 201 (LC e0 l i)) (.tuple #[])))],[],?_⟩
  exact Eq.mp (by kernel_rfl) (Sx.t8 c70 c71 c72 c76 c77 c84 c88 c92 (Sx.t4 c94 c95 h0 h1 (And.intro h2 z3)))
 ·have hin:i=l.length:=by omega
  subst hin
  have c70:=bF ((l.length:Int) < (l.length:Int)) (by omega)
  have h0:True:=trivial
  have h1:([(1,.ptr 0 0),(4,.ptr 1 0)]:List (Nat×Sx.SV))=[(1,.ptr 0 0),(4,.ptr 1 0)]:=rfl
  have z2:M4 cs b0 t0 e0 l l.length=M4 cs b0 t0 e0 l l.length:=rfl
  refine⟨[(70,.is (.bool false))],[],?_⟩
  exact Eq.mp (by kernel_rfl) (Sx.t2 c70 h0 (And.intro h1 z2))
theorem RB{w:World}(hlan:eb w)(cs:List Value)(l:List Mi)(A:Option Go.Addr)(c:Nat)(hs:kV w [] 3 (.slice A l.length c) l.length (l.flatMap Mi.cells))(hwf:∀n∈l,n.Wf)(hl:l.length≤1000000000)(b0:Bool)(t0:Bs)(e0:Int)(hB:(Cj t0 l l.length).length≤140737488355328)(T:Bs×Int)(i:Nat)(hi:i≤l.length) :
  ∃H' L',Sx.jU prog f28.ntmps ⟨w,[],fun _ _=>False⟩ (Sx.aQ f28 3) H' L' ⟨yq A l.length c i,M3 cs b0 t0 e0 l i⟩
   (Sx.dR (fun i=>i≤l.length) (fun i=>yq A l.length c i) (fun i=>M3 cs b0 t0 e0 l i) (fun i=>i+1) (fun i=>l.length - i) (fun(_:Unit)=>True) (fun _=>[(1,.ptr 0 0),(4,.ptr 1 0)]) (fun _=>M3 cs b0 t0 e0 l l.length) (fun _=>()) (Sx.dM (Sx.aQ f28 3) - 1) (Sx.bY prog f28 (Q2 T) .ret) i):=by
 by_cases hlt:i < l.length
 ·by_cases hg:(l.getD i default).out≥0
  ·skip
   have c100:=bT ((i:Int) < (l.length:Int)) (by omega)
   have hy:=getD_at hlt
   have hw:=hwf _ (bX hlt)
   obtain⟨inf,hi1,hi2⟩:=cY (P:=prog) (t:=124) (n:=3) (by kernel_rfl)
   obtain⟨pp,hp1,hp2⟩:=hs.FA Mi.az underlying44 hi1 hi2 underlying124 rfl (by omega) hy
   clear hi1 hi2 hy
   have c101:=hp1
   have c102:=hp2
   have c129:=my (i:=i) (by omega)
   have c106:=fun W (_:ai [] w W)=>pb (l.getD i default).name W
   have c107:=rS w cs (bI b0 i) (Cj t0 l i) (uo e0 l i) [⟨124,.ak (l.getD i default).cells⟩] 4 (aB (l.getD i default).name) 201
   have c111:Value.bool (decide ((l.getD i default).out≥0))=.bool true:=j4 (decide_eq_true hg)
   have c115:Value.bool (decide ((l.getD i default).room≥0))=.bool (decide ((l.getD i default).room≥0)):=rfl
   have c117:=rS w cs (bI b0 i) (Cj t0 l i) (aI (aB (l.getD i default).name) 201 (uo e0 l i)) [⟨124,.ak (l.getD i default).cells⟩] 4 (decide ((l.getD i default).room≥0)) 2
   have c123:=fun W (hW:ai [] w W)=>kS (l.getD i default).out hw.o.1 hw.o.2 W (hlan.df hW)
   have c126:=fun W (hW:ai [] w W)=>kS (l.getD i default).room hw.r.1 hw.r.2 W (hlan.df hW)
   have c128:=AH w cs (bI b0 i) (Cj t0 l i) (aI (decide ((l.getD i default).room≥0)) 2 (aI (aB (l.getD i default).name) 201 (uo e0 l i))) [⟨124,.ak (l.getD i default).cells⟩,⟨9,.ak (strs (cI (l.getD i default)))⟩] 4 5 (cI (l.getD i default)) rfl (by omega) (cn rfl) (tF hlt hB)
   have hE:(aI (decide ((l.getD i default).room≥0)) 2 (aI (aB (l.getD i default).name) 201 (uo e0 l i)))=jq (uo e0 l i) (l.getD i default):=by unfold jq;rw[decide_eq_true hg];rfl
   have h0:i+1≤l.length:=hlt
   have h1:l.length - (i+1) < l.length - i:=by omega
   have h2:yq A l.length c (i+1)=yq A l.length c (i+1):=rfl
   have z3:⟨46,.ak cs⟩::iB 5 true (Cj t0 l (i+1)) (aI (decide ((l.getD i default).room≥0)) 2 (aI (aB (l.getD i default).name) 201 (uo e0 l i)))=⟨46,.ak cs⟩::iB 5 true (Cj t0 l (i+1)) (uo e0 l (i+1)):=by rw[hE];rfl
   refine⟨[(100,.is (.bool true)),(101,.any pp),(102,.any (.agg (l.getD i default).cells.toArray)),(129,.is (.int .i64 ((i+1:Nat):Int))),(106,.call (.bool (aB (l.getD i default).name))),(107,.aq (jD [] 1 2 none (bI b0 i) (aI (aB (l.getD i default).name) 201 (uo e0 l i)))),(111,.is (.bool true)),(115,.is (.bool (decide ((l.getD i default).room≥0)))),(117,.aq (jD [] 1 2 none (bI b0 i) (aI (decide ((l.getD i default).room≥0)) 2 (aI (aB (l.getD i default).name) 201 (uo e0 l i))))),(123,.call (ab (cz (l.getD i default).out))),(126,.call (ab (cz (l.getD i default).room))),(128,.aq (zx [4] 1 2 5 none ((Cj t0 l i)++eW (cI (l.getD i default))) (aI (decide ((l.getD i default).room≥0)) 2 (aI (aB (l.getD i default).name) 201 (uo e0 l i))) (.tuple #[])))],[],?_⟩
   exact Eq.mp (by kernel_rfl) (Sx.t8 c100 c101 c102 c106 c107 c111 c115 c117 (Sx.t4 c123 c126 c128 c129 (Sx.t2 h0 h1 (And.intro h2 z3))))
  ·skip
   have c100:=bT ((i:Int) < (l.length:Int)) (by omega)
   have hy:=getD_at hlt
   have hw:=hwf _ (bX hlt)
   obtain⟨inf,hi1,hi2⟩:=cY (P:=prog) (t:=124) (n:=3) (by kernel_rfl)
   obtain⟨pp,hp1,hp2⟩:=hs.FA Mi.az underlying44 hi1 hi2 underlying124 rfl (by omega) hy
   clear hi1 hi2 hy
   have c101:=hp1
   have c102:=hp2
   have c129:=my (i:=i) (by omega)
   have c106:=fun W (_:ai [] w W)=>pb (l.getD i default).name W
   have c107:=rS w cs (bI b0 i) (Cj t0 l i) (uo e0 l i) [⟨124,.ak (l.getD i default).cells⟩] 4 (aB (l.getD i default).name) 201
   have c111:Value.bool (decide ((l.getD i default).out≥0))=.bool false:=ib (decide_eq_false hg)
   have c117:=rS w cs (bI b0 i) (Cj t0 l i) (aI (aB (l.getD i default).name) 201 (uo e0 l i)) [⟨124,.ak (l.getD i default).cells⟩] 4 false 2
   have c123:=fun W (hW:ai [] w W)=>kS (l.getD i default).out hw.o.1 hw.o.2 W (hlan.df hW)
   have c126:=fun W (hW:ai [] w W)=>kS (l.getD i default).room hw.r.1 hw.r.2 W (hlan.df hW)
   have c128:=AH w cs (bI b0 i) (Cj t0 l i) (aI false 2 (aI (aB (l.getD i default).name) 201 (uo e0 l i))) [⟨124,.ak (l.getD i default).cells⟩,⟨9,.ak (strs (cI (l.getD i default)))⟩] 4 5 (cI (l.getD i default)) rfl (by omega) (cn rfl) (tF hlt hB)
   have hE:(aI false 2 (aI (aB (l.getD i default).name) 201 (uo e0 l i)))=jq (uo e0 l i) (l.getD i default):=by unfold jq;rw[decide_eq_false hg];rfl
   have h0:i+1≤l.length:=hlt
   have h1:l.length - (i+1) < l.length - i:=by omega
   have h2:yq A l.length c (i+1)=yq A l.length c (i+1):=rfl
   have z3:⟨46,.ak cs⟩::iB 5 true (Cj t0 l (i+1)) (aI false 2 (aI (aB (l.getD i default).name) 201 (uo e0 l i)))=⟨46,.ak cs⟩::iB 5 true (Cj t0 l (i+1)) (uo e0 l (i+1)):=by rw[hE];rfl
   refine⟨[(100,.is (.bool true)),(101,.any pp),(102,.any (.agg (l.getD i default).cells.toArray)),(129,.is (.int .i64 ((i+1:Nat):Int))),(106,.call (.bool (aB (l.getD i default).name))),(107,.aq (jD [] 1 2 none (bI b0 i) (aI (aB (l.getD i default).name) 201 (uo e0 l i)))),(111,.is (.bool false)),(117,.aq (jD [] 1 2 none (bI b0 i) (aI false 2 (aI (aB (l.getD i default).name) 201 (uo e0 l i))))),(123,.call (ab (cz (l.getD i default).out))),(126,.call (ab (cz (l.getD i default).room))),(128,.aq (zx [4] 1 2 5 none ((Cj t0 l i)++eW (cI (l.getD i default))) (aI false 2 (aI (aB (l.getD i default).name) 201 (uo e0 l i))) (.tuple #[])))],[],?_⟩
   exact Eq.mp (by kernel_rfl) (Sx.t8 c100 c101 c102 c106 c107 c111 c117 c123 (Sx.t4 c126 c128 c129 h0 (Sx.t2 h1 h2 z3)))
 ·have hin:i=l.length:=by omega
  subst hin
  have c100:=bF ((l.length:Int) < (l.length:Int)) (by omega)
  have h0:True:=trivial
  have h1:([(1,.ptr 0 0),(4,.ptr 1 0)]:List (Nat×Sx.SV))=[(1,.ptr 0 0),(4,.ptr 1 0)]:=rfl
  have z2:M3 cs b0 t0 e0 l l.length=M3 cs b0 t0 e0 l l.length:=rfl
  refine⟨[(100,.is (.bool false))],[],?_⟩
  exact Eq.mp (by kernel_rfl) (Sx.t2 c100 h0 (And.intro h1 z2))
theorem Rz{w:World}(hlan:eb w)(cs:List Value)(l:List Rl)(A:Option Go.Addr)(c:Nat)(hs:kV w [] 49 (.slice A l.length c) l.length (l.flatMap Rl.cells))(hwf:∀n∈l,n.Wf)(hl:l.length≤1000000000)(b0:Bool)(t0:Bs)(e0:Int)(hB:(Lz t0 l l.length).length≤140737488355328)(T:Bs×Int)(i:Nat)(hi:i≤l.length) :
  ∃H' L',Sx.jU prog f28.ntmps ⟨w,[],fun _ _=>False⟩ (Sx.aQ f28 4) H' L' ⟨CP A l.length c i,M1 cs b0 t0 e0 l i⟩
   (Sx.dR (fun i=>i≤l.length) (fun i=>CP A l.length c i) (fun i=>M1 cs b0 t0 e0 l i) (fun i=>i+1) (fun i=>l.length - i) (fun(_:Unit)=>True) (fun _=>[(1,.ptr 0 0),(4,.ptr 1 0)]) (fun _=>M1 cs b0 t0 e0 l l.length) (fun _=>()) (Sx.dM (Sx.aQ f28 4) - 1) (Sx.bY prog f28 (Q2 T) .ret) i):=by
 by_cases hlt:i < l.length
 ·skip
  have c134:=bT ((i:Int) < (l.length:Int)) (by omega)
  have hy:=getD_at hlt
  have hw:=hwf _ (bX hlt)
  obtain⟨inf,hi1,hi2⟩:=cY (P:=prog) (t:=81) (n:=49) (by kernel_rfl)
  obtain⟨pp,hp1,hp2⟩:=hs.FA Rl.az underlying42 hi1 hi2 underlying81 rfl (by omega) hy
  clear hi1 hi2 hy
  have c135:=hp1
  have c136:=hp2
  have c140:=my (i:=i) (by omega)
  have c139:=fun W β (hS:Sx.eF ⟨w,[],fun _ _=>False⟩ β W (Sx.rowAt [⟨46,.ak cs⟩,ji none [.eG (bI b0 i) 1 0,.own 2,.val (.int .i64 (OR e0 l i))],⟨5,.own 1 (Lz t0 l i).length (qT (Lz t0 l i))⟩,⟨81,.ak (l.getD i default).cells⟩]) [1,2])=>FY (m:=4) (og:=none) (p:=(bI b0 i)) (tx:=(Lz t0 l i)) (e:=(OR e0 l i)) (l.getD i default) ⟨rfl,rfl⟩ (by omega) (by omega) hlan (fun k hk=>(by cases hk)) hw (tF hlt hB) W β hS
  have h0:i+1≤l.length:=hlt
  have h1:l.length - (i+1) < l.length - i:=by omega
  have h2:CP A l.length c (i+1)=CP A l.length c (i+1):=rfl
  have z3:⟨46,.ak cs⟩::iB 4 true (Lz t0 l (i+1)) (OR e0 l (i+1))=⟨46,.ak cs⟩::iB 4 true (Lz t0 l (i+1)) (OR e0 l (i+1)):=rfl
  refine⟨[(134,.is (.bool true)),(135,.any pp),(136,.any (.agg (l.getD i default).cells.toArray)),(140,.is (.int .i64 ((i+1:Nat):Int))),(139,.aq (zx [] 1 2 4 none ((Lz t0 l i)++eW (db (l.getD i default))) (pY (OR e0 l i) (l.getD i default)) (.tuple #[])))],[],?_⟩
  exact Eq.mp (by kernel_rfl) (Sx.t8 c134 c135 c136 c139 c140 h0 h1 h2 z3)
 ·have hin:i=l.length:=by omega
  subst hin
  have c134:=bF ((l.length:Int) < (l.length:Int)) (by omega)
  have h0:True:=trivial
  have h1:([(1,.ptr 0 0),(4,.ptr 1 0)]:List (Nat×Sx.SV))=[(1,.ptr 0 0),(4,.ptr 1 0)]:=rfl
  have z2:M1 cs b0 t0 e0 l l.length=M1 cs b0 t0 e0 l l.length:=rfl
  refine⟨[(134,.is (.bool false))],[],?_⟩
  exact Eq.mp (by kernel_rfl) (Sx.t2 c134 h0 (And.intro h1 z2))
end Go.Proofs.YtnncigmpcdehnaaGreatDoor
