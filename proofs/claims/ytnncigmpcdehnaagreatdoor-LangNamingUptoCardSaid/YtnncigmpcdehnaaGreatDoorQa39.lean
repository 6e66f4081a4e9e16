import Derived.Test.YtnncigmpcdehnaaGreatDoorQa38
namespace Go.Proofs.YtnncigmpcdehnaaGreatDoor
set_option maxRecDepth 100000
open Go Go.RowKit Go.Lib Go.Sort
theorem errp_b(v:Bool)(n:Nat)(k:Int):Value.bool (errP v n k==0)=.bool (okP v n k):=by unfold errP;cases okP v n k<;>rfl
def bI(b0:Bool):Nat→Bool
 | 0=>b0
 |_+1=>true
def tI(t0:Bs)(ws:Nat→List Bs):Nat→Bs
 | 0=>t0
 |i+1=>tI t0 ws i++lnB (ws i)
def eI(e0:Int)(E:Nat→Int→Int):Nat→Int
 | 0=>e0
 |i+1=>E i (eI e0 E i)
theorem tI_le{t0:Bs}{ws:Nat→List Bs}{B:Nat}:∀{n i:Nat},i < n→(tI t0 ws n).length≤B→(tI t0 ws i).length+(lnB (ws i)).length≤B
 | 0,_,h,_=>by omega
 |n+1,i,h,hb=>by
  have e:(tI t0 ws (n+1)).length=(tI t0 ws n).length+(lnB (ws n)).length:=by rw[tI,List.length_append]
  by_cases hi:i=n
  ·subst hi;omega
  ·exact tI_le (n:=n) (by omega) (by omega)
theorem tI_eq{α:Type} [Inhabited α](f:α→List Bs)(t0:Bs)(l:List α):tI t0 (fun i=>f (l.getD i default)) l.length=t0++linesT (l.map f):=by
 have key:∀k,k≤l.length→tI t0 (fun i=>f (l.getD i default)) k=t0++linesT ((l.take k).map f):=by
  intro k
  induction k with
  |zero=>intro _;simp[tI,linesT]
  |succ k ih=>
   intro hk
   rw[tI,ih (by omega),List.take_add_one]
   have:l[k]?=some (l.getD k default):=by rw[List.getD_eq_getElem?_getD,List.getElem?_eq_getElem (by omega)];rfl
   rw[this]
   simp[linesT]
 have:=key l.length (Nat.le_refl _)
 rwa [List.take_length]at this
theorem eI_eq{α:Type} [Inhabited α](E:Int→α→Int)(e0:Int)(l:List α):eI e0 (fun i e=>E e (l.getD i default)) l.length=l.foldl E e0:=by
 have key:∀k,k≤l.length→eI e0 (fun i e=>E e (l.getD i default)) k=(l.take k).foldl E e0:=by
  intro k
  induction k with
  |zero=>intro _;simp[eI]
  |succ k ih=>
   intro hk
   rw[eI,ih (by omega),List.take_add_one]
   have:l[k]?=some (l.getD k default):=by rw[List.getD_eq_getElem?_getD,List.getElem?_eq_getElem (by omega)];rfl
   rw[this]
   simp
 have:=key l.length (Nat.le_refl _)
 rwa [List.take_length]at this
theorem getD_at{α:Type} [Inhabited α]{l:List α}{i:Nat}(h:i < l.length):l[i]?=some (l.getD i default):=by
 rw[List.getD_eq_getElem?_getD,List.getElem?_eq_getElem h];rfl
theorem getD_mem{α:Type} [Inhabited α]{l:List α}{i:Nat}(h:i < l.length):l.getD i default∈l:=List.mem_of_getElem? (getD_at h)
def tRowsK(k:Nat)(b:Bool)(t:Bs)(e:Int):List Sx.Row:=[txRow none [.nptr b 1 0,.own k,.val (.int .i64 e)],⟨5,.own 1 t.length (byC t)⟩]
def tRows(b:Bool)(t:Bs)(e:Int):List Sx.Row:=tRowsK 2 b t e
def PrR(T:Bs×Int)(l:List Sx.SV)(_:List Sx.Row):Prop:=l=[.val (strV T.1),.val (.int .i64 T.2)]
theorem size_of{P:Program}{t:TypeId}{n:Nat}(h:(P.info? t).map (·.size)=some n):∃inf,P.info? t=some inf∧inf.size=n:=Option.map_eq_some_iff.1 h
theorem Me.cells_len(m:Me):m.cells.length=4:=rfl
theorem Mi.cells_len(m:Mi):m.cells.length=3:=rfl
theorem Rt.cells_len(m:Rt):m.cells.length=19:=by unfold Rt.cells;rw[List.length_append,Px.cells_len];rfl
theorem Rl.cells_len(m:Rl):m.cells.length=49:=by
 unfold Rl.cells
 rw[List.length_cons,List.length_append,Mt.cells_len];rfl
def pfr0(A:Option Go.Addr)(n c i:Nat):List (Nat×Sx.SV):=[(1,.ptr 0 0),(4,.ptr 1 0),(20,.val (.slice A n c)),(21,.val (.int .i64 (n:Int))),(22,.val (.int .i64 (i:Int)))]
def pt0(t0:Bs)(l:List Int):Nat→Bs:=tI t0 fun i=>portWs (l.getD i default)
def pe0(e0:Int)(l:List Int):Nat→Int:=eI e0 fun i e=>portE e (l.getD i default)
def pm0(cs:List Value)(b0:Bool)(t0:Bs)(e0:Int)(l:List Int)(i:Nat):List Sx.Row:=⟨46,.vals cs⟩::tRows (bI b0 i) (pt0 t0 l i) (pe0 e0 l i)
def pfr1(A:Option Go.Addr)(n c i:Nat):List (Nat×Sx.SV):=[(1,.ptr 0 0),(4,.ptr 1 0),(37,.val (.slice A n c)),(38,.val (.int .i64 (n:Int))),(39,.val (.int .i64 (i:Int)))]
def pt1(t0:Bs)(l:List Rt):Nat→Bs:=tI t0 fun i=>routeWs (l.getD i default)
def pe1(e0:Int)(l:List Rt):Nat→Int:=eI e0 fun i e=>routeE e (l.getD i default)
def pm1(cs:List Value)(b0:Bool)(t0:Bs)(e0:Int)(l:List Rt)(i:Nat):List Sx.Row:=⟨46,.vals cs⟩::tRows (bI b0 i) (pt1 t0 l i) (pe1 e0 l i)
def pfr2(A:Option Go.Addr)(n c i:Nat):List (Nat×Sx.SV):=[(1,.ptr 0 0),(4,.ptr 1 0),(67,.val (.slice A n c)),(68,.val (.int .i64 (n:Int))),(69,.val (.int .i64 (i:Int)))]
def pt2(t0:Bs)(l:List Me):Nat→Bs:=tI t0 fun i=>meterWs (l.getD i default)
def pe2(e0:Int)(l:List Me):Nat→Int:=eI e0 fun i e=>meterE e (l.getD i default)
def pm2(cs:List Value)(b0:Bool)(t0:Bs)(e0:Int)(l:List Me)(i:Nat):List Sx.Row:=⟨46,.vals cs⟩::tRows (bI b0 i) (pt2 t0 l i) (pe2 e0 l i)
def pfr3(A:Option Go.Addr)(n c i:Nat):List (Nat×Sx.SV):=[(1,.ptr 0 0),(4,.ptr 1 0),(97,.val (.slice A n c)),(98,.val (.int .i64 (n:Int))),(99,.val (.int .i64 (i:Int)))]
def pt3(t0:Bs)(l:List Mi):Nat→Bs:=tI t0 fun i=>mirrorWs (l.getD i default)
def pe3(e0:Int)(l:List Mi):Nat→Int:=eI e0 fun i e=>mirrorE e (l.getD i default)
def pm3(cs:List Value)(b0:Bool)(t0:Bs)(e0:Int)(l:List Mi)(i:Nat):List Sx.Row:=⟨46,.vals cs⟩::tRows (bI b0 i) (pt3 t0 l i) (pe3 e0 l i)
def pfr4(A:Option Go.Addr)(n c i:Nat):List (Nat×Sx.SV):=[(1,.ptr 0 0),(4,.ptr 1 0),(131,.val (.slice A n c)),(132,.val (.int .i64 (n:Int))),(133,.val (.int .i64 (i:Int)))]
def pt4(t0:Bs)(l:List Rl):Nat→Bs:=tI t0 fun i=>ruleWs (l.getD i default)
def pe4(e0:Int)(l:List Rl):Nat→Int:=eI e0 fun i e=>ruleE e (l.getD i default)
def pm4(cs:List Value)(b0:Bool)(t0:Bs)(e0:Int)(l:List Rl)(i:Nat):List Sx.Row:=⟨46,.vals cs⟩::tRows (bI b0 i) (pt4 t0 l i) (pe4 e0 l i)
theorem rule_call{b:Sx.Base}{row:Nat→Option Sx.Row}{i j m:Nat}{og:Option Nat}{p:Bool}{tx:Bs}{e:Int}(r:Rl)(h:TxRows row i j og p tx e)(hi:i < m)(hj:j < m)(hlan:Lan b.w)(h9:∀k∈b.S,9≤k)(hr:r.Wf)(hl:tx.length+(lnB (ruleWs r)).length≤140737488355328)
  (W:World) (β:Sx.Env) (hS:Sx.See b β W row [i,j]) :
  Calls Tryz.prog 74 (([.ptr i 0,.val (.agg r.cells.toArray)]:List Sx.SV).map (Sx.SV.den β)).toArray W (Sx.gPost b β W row m (txG [] i j m og (tx++lnB (ruleWs r)) (ruleE e r) (.tuple #[]))):=by
 obtain⟨ht,hg⟩:=tx_see hS h (by simp) (by simp)
 have hlow:=hlan.low
 have old:∀x r k,x∈[i,j]→row x=some r→Sx.rowBlk β x r=some k→9≤k:=fun x r k hx hr hk=>by
  rcases hS.new x hx r k hr hk with h|h
  ·exact h9 k h
  ·omega
 refine(trule_N ht (hlan.chg hS.chg h9) (fun k hk=>?_) hr hl).mono fun en w' hp=>tx_gret h hi hj hg hp
 rcases List.mem_cons.1 hk with rfl|hk
 ·exact old i _ _ (by simp) h.b txRow_blk
 ·exact old j _ _ (by simp) h.o (by show(β.a j).map (·.block)=some k;simpa using hk)
theorem pr_r0{w:World}(hlan:Lan w)(cs:List Value)(l:List Int)(A:Option Go.Addr)(c:Nat)(hs:Rds w [] 1 (.slice A l.length c) l.length (l.map fun n=>Value.int .i64 n))(hwf:∀n∈l,I64 n)(hl:l.length≤1000000000)(b0:Bool)(t0:Bs)(e0:Int)(hB:(pt0 t0 l l.length).length≤140737488355328)(T:Bs×Int)(i:Nat)(hi:i≤l.length) :
  ∃H' L',Sx.exB Tryz.prog Tryz.f28.ntmps ⟨w,[],fun _ _=>False⟩ (Sx.bodyOf Tryz.f28 0) H' L' ⟨pfr0 A l.length c i,pm0 cs b0 t0 e0 l i⟩
   (Sx.loopK (fun i=>i≤l.length) (fun i=>pfr0 A l.length c i) (fun i=>pm0 cs b0 t0 e0 l i) (fun i=>i+1) (fun i=>l.length - i) (fun(_:Unit)=>True) (fun _=>[(1,.ptr 0 0),(4,.ptr 1 0)]) (fun _=>pm0 cs b0 t0 e0 l l.length) (fun _=>()) (Sx.outId (Sx.bodyOf Tryz.f28 0) - 1) (Sx.atEndA Tryz.prog Tryz.f28 (PrR T) .ret) i):=by
 by_cases hlt:i < l.length
 ·skip
  have c23:Value.bool (decide ((i:Int) < (l.length:Int)))=.bool true:=bzt (decide_eq_true (by omega))
  have hy:=getD_at hlt
  have hw:=hwf _ (getD_mem hlt)
  obtain⟨inf,hi1,hi2⟩:=size_of (P:=Tryz.prog) (t:=3) (n:=1) (by kernel_rfl)
  obtain⟨pp,hp1,hp2⟩:=hs.at1 Tryz.underlying40 hi1 hi2 Tryz.underlying3 rfl hy
  clear hi1 hi2 hy
  have c24:=hp1
  have c25:=hp2
  have c35:Value.int .i64 (IntKind.i64.wrap ((i:Int)+1))=.int .i64 ((i+1:Nat):Int):=iw (by rw[w64 (by omega) (by omega)];rfl)
  have c28:Value.bool (decide ((l.getD i default)≥0))=.bool (decide ((l.getD i default)≥0)):=rfl
  have c29:=fun W β (hS:Sx.See ⟨w,[],fun _ _=>False⟩ β W (Sx.rowAt [⟨46,.vals cs⟩,txRow none [.nptr (bI b0 i) 1 0,.own 2,.val (.int .i64 (pe0 e0 l i))],⟨5,.own 1 (pt0 t0 l i).length (byC (pt0 t0 l i))⟩]) [1,2])=>(show Calls Tryz.prog 69 (([.ptr 1 0,.val (.bool (decide ((l.getD i default)≥0))),.val (.int .i64 2)]:List Sx.SV).map (Sx.SV.den β)).toArray W (Sx.gPost ⟨w,[],fun _ _=>False⟩ β W (Sx.rowAt [⟨46,.vals cs⟩,txRow none [.nptr (bI b0 i) 1 0,.own 2,.val (.int .i64 (pe0 e0 l i))],⟨5,.own 1 (pt0 t0 l i).length (byC (pt0 t0 l i))⟩]) 3 (wantG [] 1 2 none (bI b0 i) (wantE (decide ((l.getD i default)≥0)) 2 (pe0 e0 l i))))from want_call (decide ((l.getD i default)≥0)) 2 ⟨rfl,rfl⟩ W β hS)
  have c32:=fun W (hW:Chg [] w W)=>itoa64 (l.getD i default) hw.1 hw.2 W (hlan.chg0 hW)
  have c34:=fun W β (hS:Sx.See ⟨w,[],fun _ _=>False⟩ β W (Sx.rowAt [⟨46,.vals cs⟩,txRow none [.nptr (bI b0 i) 1 0,.own 2,.val (.int .i64 (wantE (decide ((l.getD i default)≥0)) 2 (pe0 e0 l i)))],⟨5,.own 1 (pt0 t0 l i).length (byC (pt0 t0 l i))⟩,⟨9,.vals (strs (portWs (l.getD i default)))⟩]) [1,2,3])=>line_lit (m:=4) (og:=none) (p:=(bI b0 i)) (tx:=(pt0 t0 l i)) (e:=(wantE (decide ((l.getD i default)≥0)) 2 (pe0 e0 l i))) (portWs (l.getD i default)) ⟨rfl,rfl⟩ (by omega) (by omega) rfl (Nat.le_of_ble_eq_true rfl) (tI_le hlt hB) W β hS
  have h0:i+1≤l.length:=hlt
  have h1:l.length - (i+1) < l.length - i:=by omega
  have h2:pfr0 A l.length c (i+1)=pfr0 A l.length c (i+1):=rfl
  have z3:⟨46,.vals cs⟩::tRowsK 4 true (pt0 t0 l (i+1)) (pe0 e0 l (i+1))=⟨46,.vals cs⟩::tRowsK 4 true (pt0 t0 l (i+1)) (pe0 e0 l (i+1)):=rfl
  refine⟨[(23,.is (.bool true)),(24,.any pp),(25,.any (.int .i64 (l.getD i default))),(35,.is (.int .i64 ((i+1:Nat):Int))),(28,.is (.bool (decide ((l.getD i default)≥0)))),(29,.callG (wantG [] 1 2 none (bI b0 i) (wantE (decide ((l.getD i default)≥0)) 2 (pe0 e0 l i)))),(32,.call (strV (itoaT (l.getD i default)))),(34,.callG (txG [3] 1 2 4 none ((pt0 t0 l i)++lnB (portWs (l.getD i default))) (wantE (decide ((l.getD i default)≥0)) 2 (pe0 e0 l i)) (.tuple #[])))],[],?_⟩
  exact Eq.mp (by kernel_rfl) (Sx.t8 c23 c24 c25 c28 c29 c32 c34 c35 (Sx.t2 h0 h1 (And.intro h2 z3)))
 ·have hin:i=l.length:=by omega
  subst hin
  have c23:Value.bool (decide ((l.length:Int) < (l.length:Int)))=.bool false:=bzf (decide_eq_false (by omega))
  have h0:True:=trivial
  have h1:([(1,.ptr 0 0),(4,.ptr 1 0)]:List (Nat×Sx.SV))=[(1,.ptr 0 0),(4,.ptr 1 0)]:=rfl
  have z2:pm0 cs b0 t0 e0 l l.length=pm0 cs b0 t0 e0 l l.length:=rfl
  refine⟨[(23,.is (.bool false))],[],?_⟩
  exact Eq.mp (by kernel_rfl) (Sx.t2 c23 h0 (And.intro h1 z2))
theorem pr_r1{w:World}(hlan:Lan w)(cs:List Value)(l:List Rt)(A:Option Go.Addr)(c:Nat)(hs:Rds w [] 19 (.slice A l.length c) l.length (l.flatMap Rt.cells))(hwf:∀n∈l,n.Wf)(hl:l.length≤1000000000)(b0:Bool)(t0:Bs)(e0:Int)(hB:(pt1 t0 l l.length).length≤140737488355328)(T:Bs×Int)(i:Nat)(hi:i≤l.length) :
  ∃H' L',Sx.exB Tryz.prog Tryz.f28.ntmps ⟨w,[],fun _ _=>False⟩ (Sx.bodyOf Tryz.f28 1) H' L' ⟨pfr1 A l.length c i,pm1 cs b0 t0 e0 l i⟩
   (Sx.loopK (fun i=>i≤l.length) (fun i=>pfr1 A l.length c i) (fun i=>pm1 cs b0 t0 e0 l i) (fun i=>i+1) (fun i=>l.length - i) (fun(_:Unit)=>True) (fun _=>[(1,.ptr 0 0),(4,.ptr 1 0)]) (fun _=>pm1 cs b0 t0 e0 l l.length) (fun _=>()) (Sx.outId (Sx.bodyOf Tryz.f28 1) - 1) (Sx.atEndA Tryz.prog Tryz.f28 (PrR T) .ret) i):=by
 by_cases hlt:i < l.length
 ·skip
  have c40:Value.bool (decide ((i:Int) < (l.length:Int)))=.bool true:=bzt (decide_eq_true (by omega))
  have hy:=getD_at hlt
  have hw:=hwf _ (getD_mem hlt)
  obtain⟨inf,hi1,hi2⟩:=size_of (P:=Tryz.prog) (t:=118) (n:=19) (by kernel_rfl)
  obtain⟨pp,hp1,hp2⟩:=hs.atW Rt.cells_len Tryz.underlying41 hi1 hi2 Tryz.underlying118 rfl (by omega) hy
  clear hi1 hi2 hy
  have c41:=hp1
  have c42:=hp2
  have c65:Value.int .i64 (IntKind.i64.wrap ((i:Int)+1))=.int .i64 ((i+1:Nat):Int):=iw (by rw[w64 (by omega) (by omega)];rfl)
  have c46:=fun W (hW:Chg [] w W)=>text_N (l.getD i default).pf.v (l.getD i default).pf.n (l.getD i default).pf.k hw.n W (hlan.chg0 hW)
  have c51:=errp_b (l.getD i default).pf.v (l.getD i default).pf.n (l.getD i default).pf.k
  have c52:=fun W β (hS:Sx.See ⟨w,[],fun _ _=>False⟩ β W (Sx.rowAt [⟨46,.vals cs⟩,txRow none [.nptr (bI b0 i) 1 0,.own 2,.val (.int .i64 (pe1 e0 l i))],⟨5,.own 1 (pt1 t0 l i).length (byC (pt1 t0 l i))⟩,⟨118,.vals (l.getD i default).cells⟩]) [1,2])=>(show Calls Tryz.prog 69 (([.ptr 1 0,.val (.bool (okP (l.getD i default).pf.v (l.getD i default).pf.n (l.getD i default).pf.k)),.val (.int .i64 151)]:List Sx.SV).map (Sx.SV.den β)).toArray W (Sx.gPost ⟨w,[],fun _ _=>False⟩ β W (Sx.rowAt [⟨46,.vals cs⟩,txRow none [.nptr (bI b0 i) 1 0,.own 2,.val (.int .i64 (pe1 e0 l i))],⟨5,.own 1 (pt1 t0 l i).length (byC (pt1 t0 l i))⟩,⟨118,.vals (l.getD i default).cells⟩]) 4 (wantG [] 1 2 none (bI b0 i) (wantE (okP (l.getD i default).pf.v (l.getD i default).pf.n (l.getD i default).pf.k) 151 (pe1 e0 l i))))from want_call (okP (l.getD i default).pf.v (l.getD i default).pf.n (l.getD i default).pf.k) 151 ⟨rfl,rfl⟩ W β hS)
  have c56:Value.bool (decide ((l.getD i default).out≥0))=.bool (decide ((l.getD i default).out≥0)):=rfl
  have c57:=fun W β (hS:Sx.See ⟨w,[],fun _ _=>False⟩ β W (Sx.rowAt [⟨46,.vals cs⟩,txRow none [.nptr (bI b0 i) 1 0,.own 2,.val (.int .i64 (wantE (okP (l.getD i default).pf.v (l.getD i default).pf.n (l.getD i default).pf.k) 151 (pe1 e0 l i)))],⟨5,.own 1 (pt1 t0 l i).length (byC (pt1 t0 l i))⟩,⟨118,.vals (l.getD i default).cells⟩]) [1,2])=>(show Calls Tryz.prog 69 (([.ptr 1 0,.val (.bool (decide ((l.getD i default).out≥0))),.val (.int .i64 2)]:List Sx.SV).map (Sx.SV.den β)).toArray W (Sx.gPost ⟨w,[],fun _ _=>False⟩ β W (Sx.rowAt [⟨46,.vals cs⟩,txRow none [.nptr (bI b0 i) 1 0,.own 2,.val (.int .i64 (wantE (okP (l.getD i default).pf.v (l.getD i default).pf.n (l.getD i default).pf.k) 151 (pe1 e0 l i)))],⟨5,.own 1 (pt1 t0 l i).length (byC (pt1 t0 l i))⟩,⟨118,.vals (l.getD i default).cells⟩]) 4 (wantG [] 1 2 none (bI b0 i) (wantE (decide ((l.getD i default).out≥0)) 2 (wantE (okP (l.getD i default).pf.v (l.getD i default).pf.n (l.getD i default).pf.k) 151 (pe1 e0 l i)))))from want_call (decide ((l.getD i default).out≥0)) 2 ⟨rfl,rfl⟩ W β hS)
  have c62:=fun W (hW:Chg [] w W)=>itoa64 (l.getD i default).out hw.o.1 hw.o.2 W (hlan.chg0 hW)
  have c64:=fun W β (hS:Sx.See ⟨w,[],fun _ _=>False⟩ β W (Sx.rowAt [⟨46,.vals cs⟩,txRow none [.nptr (bI b0 i) 1 0,.own 2,.val (.int .i64 (wantE (decide ((l.getD i default).out≥0)) 2 (wantE (okP (l.getD i default).pf.v (l.getD i default).pf.n (l.getD i default).pf.k) 151 (pe1 e0 l i))))],⟨5,.own 1 (pt1 t0 l i).length (byC (pt1 t0 l i))⟩,⟨118,.vals (l.getD i default).cells⟩,⟨9,.vals (strs (routeWs (l.getD i default)))⟩]) [1,2,4])=>line_lit (m:=5) (og:=none) (p:=(bI b0 i)) (tx:=(pt1 t0 l i)) (e:=(wantE (decide ((l.getD i default).out≥0)) 2 (wantE (okP (l.getD i default).pf.v (l.getD i default).pf.n (l.getD i default).pf.k) 151 (pe1 e0 l i)))) (routeWs (l.getD i default)) ⟨rfl,rfl⟩ (by omega) (by omega) rfl (Nat.le_of_ble_eq_true rfl) (tI_le hlt hB) W β hS
  have h0:i+1≤l.length:=hlt
  have h1:l.length - (i+1) < l.length - i:=by omega
  have h2:pfr1 A l.length c (i+1)=pfr1 A l.length c (i+1):=rfl
  have z3:⟨46,.vals cs⟩::tRowsK 5 true (pt1 t0 l (i+1)) (pe1 e0 l (i+1))=⟨46,.vals cs⟩::tRowsK 5 true (pt1 t0 l (i+1)) (pe1 e0 l (i+1)):=rfl
  refine⟨[(40,.is (.bool true)),(41,.any pp),(42,.any (.agg (l.getD i default).cells.toArray)),(65,.is (.int .i64 ((i+1:Nat):Int))),(46,.call (.tuple #[strV (pxT (l.getD i default).pf),.int .i64 (errP (l.getD i default).pf.v (l.getD i default).pf.n (l.getD i default).pf.k)])),(51,.is (.bool (okP (l.getD i default).pf.v (l.getD i default).pf.n (l.getD i default).pf.k))),(52,.callG (wantG [] 1 2 none (bI b0 i) (wantE (okP (l.getD i default).pf.v (l.getD i default).pf.n (l.getD i default).pf.k) 151 (pe1 e0 l i)))),(56,.is (.bool (decide ((l.getD i default).out≥0)))),(57,.callG (wantG [] 1 2 none (bI b0 i) (wantE (decide ((l.getD i default).out≥0)) 2 (wantE (okP (l.getD i default).pf.v (l.getD i default).pf.n (l.getD i default).pf.k) 151 (pe1 e0 l i))))),(62,.call (strV (itoaT (l.getD i default).out))),(64,.callG (txG [4] 1 2 5 none ((pt1 t0 l i)++lnB (routeWs (l.getD i default))) (wantE (decide ((l.getD i default).out≥0)) 2 (wantE (okP (l.getD i default).pf.v (l.getD i default).pf.n (l.getD i default).pf.k) 151 (pe1 e0 l i))) (.tuple #[])))],[],?_⟩
  exact Eq.mp (by kernel_rfl) (Sx.t8 c40 c41 c42 c46 c51 c52 c56 c57 (Sx.t4 c62 c64 c65 h0 (Sx.t2 h1 h2 z3)))
 ·have hin:i=l.length:=by omega
  subst hin
  have c40:Value.bool (decide ((l.length:Int) < (l.length:Int)))=.bool false:=bzf (decide_eq_false (by omega))
  have h0:True:=trivial
  have h1:([(1,.ptr 0 0),(4,.ptr 1 0)]:List (Nat×Sx.SV))=[(1,.ptr 0 0),(4,.ptr 1 0)]:=rfl
  have z2:pm1 cs b0 t0 e0 l l.length=pm1 cs b0 t0 e0 l l.length:=rfl
  refine⟨[(40,.is (.bool false))],[],?_⟩
  exact Eq.mp (by kernel_rfl) (Sx.t2 c40 h0 (And.intro h1 z2))
theorem pr_r2{w:World}(hlan:Lan w)(cs:List Value)(l:List Me)(A:Option Go.Addr)(c:Nat)(hs:Rds w [] 4 (.slice A l.length c) l.length (l.flatMap Me.cells))(hwf:∀n∈l,n.Wf)(hl:l.length≤1000000000)(b0:Bool)(t0:Bs)(e0:Int)(hB:(pt2 t0 l l.length).length≤140737488355328)(T:Bs×Int)(i:Nat)(hi:i≤l.length) :
  ∃H' L',Sx.exB Tryz.prog Tryz.f28.ntmps ⟨w,[],fun _ _=>False⟩ (Sx.bodyOf Tryz.f28 2) H' L' ⟨pfr2 A l.length c i,pm2 cs b0 t0 e0 l i⟩
   (Sx.loopK (fun i=>i≤l.length) (fun i=>pfr2 A l.length c i) (fun i=>pm2 cs b0 t0 e0 l i) (fun i=>i+1) (fun i=>l.length - i) (fun(_:Unit)=>True) (fun _=>[(1,.ptr 0 0),(4,.ptr 1 0)]) (fun _=>pm2 cs b0 t0 e0 l l.length) (fun _=>()) (Sx.outId (Sx.bodyOf Tryz.f28 2) - 1) (Sx.atEndA Tryz.prog Tryz.f28 (PrR T) .ret) i):=by
 by_cases hlt:i < l.length
 ·skip
  have c70:Value.bool (decide ((i:Int) < (l.length:Int)))=.bool true:=bzt (decide_eq_true (by omega))
  have hy:=getD_at hlt
  have hw:=hwf _ (getD_mem hlt)
  obtain⟨inf,hi1,hi2⟩:=size_of (P:=Tryz.prog) (t:=122) (n:=4) (by kernel_rfl)
  obtain⟨pp,hp1,hp2⟩:=hs.atW Me.cells_len Tryz.underlying43 hi1 hi2 Tryz.underlying122 rfl (by omega) hy
  clear hi1 hi2 hy
  have c71:=hp1
  have c72:=hp2
  have c95:Value.int .i64 (IntKind.i64.wrap ((i:Int)+1))=.int .i64 ((i+1:Nat):Int):=iw (by rw[w64 (by omega) (by omega)];rfl)
  have c76:=fun W (_:Chg [] w W)=>name_N (l.getD i default).name W
  have c77:=fun W β (hS:Sx.See ⟨w,[],fun _ _=>False⟩ β W (Sx.rowAt [⟨46,.vals cs⟩,txRow none [.nptr (bI b0 i) 1 0,.own 2,.val (.int .i64 (pe2 e0 l i))],⟨5,.own 1 (pt2 t0 l i).length (byC (pt2 t0 l i))⟩,⟨122,.vals (l.getD i default).cells⟩]) [1,2])=>(show Calls Tryz.prog 69 (([.ptr 1 0,.val (.bool (nameB (l.getD i default).name)),.val (.int .i64 201)]:List Sx.SV).map (Sx.SV.den β)).toArray W (Sx.gPost ⟨w,[],fun _ _=>False⟩ β W (Sx.rowAt [⟨46,.vals cs⟩,txRow none [.nptr (bI b0 i) 1 0,.own 2,.val (.int .i64 (pe2 e0 l i))],⟨5,.own 1 (pt2 t0 l i).length (byC (pt2 t0 l i))⟩,⟨122,.vals (l.getD i default).cells⟩]) 4 (wantG [] 1 2 none (bI b0 i) (wantE (nameB (l.getD i default).name) 201 (pe2 e0 l i))))from want_call (nameB (l.getD i default).name) 201 ⟨rfl,rfl⟩ W β hS)
  have c84:=fun W (hW:Chg [] w W)=>fmt64 (l.getD i default).num (by have:=hw.a;omega) W (hlan.chg0 hW)
  have c88:=fun W (hW:Chg [] w W)=>fmt64 (l.getD i default).den (by have:=hw.b;omega) W (hlan.chg0 hW)
  have c92:=fun W (hW:Chg [] w W)=>fmt64 (l.getD i default).burst (by have:=hw.c;omega) W (hlan.chg0 hW)
  have c94:=fun W β (hS:Sx.See ⟨w,[],fun _ _=>False⟩ β W (Sx.rowAt [⟨46,.vals cs⟩,txRow none [.nptr (bI b0 i) 1 0,.own 2,.val (.int .i64 (wantE (nameB (l.getD i default).name) 201 (pe2 e0 l i)))],⟨5,.own 1 (pt2 t0 l i).length (byC (pt2 t0 l i))⟩,⟨122,.vals (l.getD i default).cells⟩,⟨9,.vals (strs (meterWs (l.getD i default)))⟩]) [1,2,4])=>line_lit (m:=5) (og:=none) (p:=(bI b0 i)) (tx:=(pt2 t0 l i)) (e:=(wantE (nameB (l.getD i default).name) 201 (pe2 e0 l i))) (meterWs (l.getD i default)) ⟨rfl,rfl⟩ (by omega) (by omega) rfl (Nat.le_of_ble_eq_true rfl) (tI_le hlt hB) W β hS
  have h0:i+1≤l.length:=hlt
  have h1:l.length - (i+1) < l.length - i:=by omega
  have h2:pfr2 A l.length c (i+1)=pfr2 A l.length c (i+1):=rfl
  have z3:⟨46,.vals cs⟩::tRowsK 5 true (pt2 t0 l (i+1)) (pe2 e0 l (i+1))=⟨46,.vals cs⟩::tRowsK 5 true (pt2 t0 l (i+1)) (pe2 e0 l (i+1)):=rfl
  refine⟨[(70,.is (.bool true)),(71,.any pp),(72,.any (.agg (l.getD i default).cells.toArray)),(95,.is (.int .i64 ((i+1:Nat):Int))),(76,.call (.bool (nameB (l.getD i default).name))),(77,.callG (wantG [] 1 2 none (bI b0 i) (wantE (nameB (l.getD i default).name) 201 (pe2 e0 l i)))),(84,.call (strV (digs 10 (l.getD i default).num))),(88,.call (strV (digs 10 (l.getD i default).den))),(92,.call (strV (digs 10 (l.getD i default).burst))),(94,.callG (txG [4] 1 2 5 none ((pt2 t0 l i)++lnB (meterWs (l.getD i default))) (wantE (nameB (l.getD i default).name) 201 (pe2 e0 l i)) (.tuple #[])))],[],?_⟩
  exact Eq.mp (by kernel_rfl) (Sx.t8 c70 c71 c72 c76 c77 c84 c88 c92 (Sx.t4 c94 c95 h0 h1 (And.intro h2 z3)))
 ·have hin:i=l.length:=by omega
  subst hin
  have c70:Value.bool (decide ((l.length:Int) < (l.length:Int)))=.bool false:=bzf (decide_eq_false (by omega))
  have h0:True:=trivial
  have h1:([(1,.ptr 0 0),(4,.ptr 1 0)]:List (Nat×Sx.SV))=[(1,.ptr 0 0),(4,.ptr 1 0)]:=rfl
  have z2:pm2 cs b0 t0 e0 l l.length=pm2 cs b0 t0 e0 l l.length:=rfl
  refine⟨[(70,.is (.bool false))],[],?_⟩
  exact Eq.mp (by kernel_rfl) (Sx.t2 c70 h0 (And.intro h1 z2))
theorem pr_r3{w:World}(hlan:Lan w)(cs:List Value)(l:List Mi)(A:Option Go.Addr)(c:Nat)(hs:Rds w [] 3 (.slice A l.length c) l.length (l.flatMap Mi.cells))(hwf:∀n∈l,n.Wf)(hl:l.length≤1000000000)(b0:Bool)(t0:Bs)(e0:Int)(hB:(pt3 t0 l l.length).length≤140737488355328)(T:Bs×Int)(i:Nat)(hi:i≤l.length) :
  ∃H' L',Sx.exB Tryz.prog Tryz.f28.ntmps ⟨w,[],fun _ _=>False⟩ (Sx.bodyOf Tryz.f28 3) H' L' ⟨pfr3 A l.length c i,pm3 cs b0 t0 e0 l i⟩
   (Sx.loopK (fun i=>i≤l.length) (fun i=>pfr3 A l.length c i) (fun i=>pm3 cs b0 t0 e0 l i) (fun i=>i+1) (fun i=>l.length - i) (fun(_:Unit)=>True) (fun _=>[(1,.ptr 0 0),(4,.ptr 1 0)]) (fun _=>pm3 cs b0 t0 e0 l l.length) (fun _=>()) (Sx.outId (Sx.bodyOf Tryz.f28 3) - 1) (Sx.atEndA Tryz.prog Tryz.f28 (PrR T) .ret) i):=by
 by_cases hlt:i < l.length
 ·by_cases hg:(l.getD i default).out≥0
  ·skip
   have c100:Value.bool (decide ((i:Int) < (l.length:Int)))=.bool true:=bzt (decide_eq_true (by omega))
   have hy:=getD_at hlt
   have hw:=hwf _ (getD_mem hlt)
   obtain⟨inf,hi1,hi2⟩:=size_of (P:=Tryz.prog) (t:=124) (n:=3) (by kernel_rfl)
   obtain⟨pp,hp1,hp2⟩:=hs.atW Mi.cells_len Tryz.underlying44 hi1 hi2 Tryz.underlying124 rfl (by omega) hy
   clear hi1 hi2 hy
   have c101:=hp1
   have c102:=hp2
   have c129:Value.int .i64 (IntKind.i64.wrap ((i:Int)+1))=.int .i64 ((i+1:Nat):Int):=iw (by rw[w64 (by omega) (by omega)];rfl)
   have c106:=fun W (_:Chg [] w W)=>name_N (l.getD i default).name W
   have c107:=fun W β (hS:Sx.See ⟨w,[],fun _ _=>False⟩ β W (Sx.rowAt [⟨46,.vals cs⟩,txRow none [.nptr (bI b0 i) 1 0,.own 2,.val (.int .i64 (pe3 e0 l i))],⟨5,.own 1 (pt3 t0 l i).length (byC (pt3 t0 l i))⟩,⟨124,.vals (l.getD i default).cells⟩]) [1,2])=>(show Calls Tryz.prog 69 (([.ptr 1 0,.val (.bool (nameB (l.getD i default).name)),.val (.int .i64 201)]:List Sx.SV).map (Sx.SV.den β)).toArray W (Sx.gPost ⟨w,[],fun _ _=>False⟩ β W (Sx.rowAt [⟨46,.vals cs⟩,txRow none [.nptr (bI b0 i) 1 0,.own 2,.val (.int .i64 (pe3 e0 l i))],⟨5,.own 1 (pt3 t0 l i).length (byC (pt3 t0 l i))⟩,⟨124,.vals (l.getD i default).cells⟩]) 4 (wantG [] 1 2 none (bI b0 i) (wantE (nameB (l.getD i default).name) 201 (pe3 e0 l i))))from want_call (nameB (l.getD i default).name) 201 ⟨rfl,rfl⟩ W β hS)
   have c111:Value.bool (decide ((l.getD i default).out≥0))=.bool true:=bzt (decide_eq_true hg)
   have c115:Value.bool (decide ((l.getD i default).room≥0))=.bool (decide ((l.getD i default).room≥0)):=rfl
   have c117:=fun W β (hS:Sx.See ⟨w,[],fun _ _=>False⟩ β W (Sx.rowAt [⟨46,.vals cs⟩,txRow none [.nptr (bI b0 i) 1 0,.own 2,.val (.int .i64 (wantE (nameB (l.getD i default).name) 201 (pe3 e0 l i)))],⟨5,.own 1 (pt3 t0 l i).length (byC (pt3 t0 l i))⟩,⟨124,.vals (l.getD i default).cells⟩]) [1,2])=>(show Calls Tryz.prog 69 (([.ptr 1 0,.val (.bool (decide ((l.getD i default).room≥0))),.val (.int .i64 2)]:List Sx.SV).map (Sx.SV.den β)).toArray W (Sx.gPost ⟨w,[],fun _ _=>False⟩ β W (Sx.rowAt [⟨46,.vals cs⟩,txRow none [.nptr (bI b0 i) 1 0,.own 2,.val (.int .i64 (wantE (nameB (l.getD i default).name) 201 (pe3 e0 l i)))],⟨5,.own 1 (pt3 t0 l i).length (byC (pt3 t0 l i))⟩,⟨124,.vals (l.getD i default).cells⟩]) 4 (wantG [] 1 2 none (bI b0 i) (wantE (decide ((l.getD i default).room≥0)) 2 (wantE (nameB (l.getD i default).name) 201 (pe3 e0 l i)))))from want_call (decide ((l.getD i default).room≥0)) 2 ⟨rfl,rfl⟩ W β hS)
   have c123:=fun W (hW:Chg [] w W)=>itoa64 (l.getD i default).out hw.o.1 hw.o.2 W (hlan.chg0 hW)
   have c126:=fun W (hW:Chg [] w W)=>itoa64 (l.getD i default).room hw.r.1 hw.r.2 W (hlan.chg0 hW)
   have c128:=fun W β (hS:Sx.See ⟨w,[],fun _ _=>False⟩ β W (Sx.rowAt [⟨46,.vals cs⟩,txRow none [.nptr (bI b0 i) 1 0,.own 2,.val (.int .i64 (wantE (decide ((l.getD i default).room≥0)) 2 (wantE (nameB (l.getD i default).name) 201 (pe3 e0 l i))))],⟨5,.own 1 (pt3 t0 l i).length (byC (pt3 t0 l i))⟩,⟨124,.vals (l.getD i default).cells⟩,⟨9,.vals (strs (mirrorWs (l.getD i default)))⟩]) [1,2,4])=>line_lit (m:=5) (og:=none) (p:=(bI b0 i)) (tx:=(pt3 t0 l i)) (e:=(wantE (decide ((l.getD i default).room≥0)) 2 (wantE (nameB (l.getD i default).name) 201 (pe3 e0 l i)))) (mirrorWs (l.getD i default)) ⟨rfl,rfl⟩ (by omega) (by omega) rfl (Nat.le_of_ble_eq_true rfl) (tI_le hlt hB) W β hS
   have hE:(wantE (decide ((l.getD i default).room≥0)) 2 (wantE (nameB (l.getD i default).name) 201 (pe3 e0 l i)))=mirrorE (pe3 e0 l i) (l.getD i default):=by unfold mirrorE;rw[decide_eq_true hg];rfl
   have h0:i+1≤l.length:=hlt
   have h1:l.length - (i+1) < l.length - i:=by omega
   have h2:pfr3 A l.length c (i+1)=pfr3 A l.length c (i+1):=rfl
   have z3:⟨46,.vals cs⟩::tRowsK 5 true (pt3 t0 l (i+1)) (wantE (decide ((l.getD i default).room≥0)) 2 (wantE (nameB (l.getD i default).name) 201 (pe3 e0 l i)))=⟨46,.vals cs⟩::tRowsK 5 true (pt3 t0 l (i+1)) (pe3 e0 l (i+1)):=by rw[hE];rfl
   refine⟨[(100,.is (.bool true)),(101,.any pp),(102,.any (.agg (l.getD i default).cells.toArray)),(129,.is (.int .i64 ((i+1:Nat):Int))),(106,.call (.bool (nameB (l.getD i default).name))),(107,.callG (wantG [] 1 2 none (bI b0 i) (wantE (nameB (l.getD i default).name) 201 (pe3 e0 l i)))),(111,.is (.bool true)),(115,.is (.bool (decide ((l.getD i default).room≥0)))),(117,.callG (wantG [] 1 2 none (bI b0 i) (wantE (decide ((l.getD i default).room≥0)) 2 (wantE (nameB (l.getD i default).name) 201 (pe3 e0 l i))))),(123,.call (strV (itoaT (l.getD i default).out))),(126,.call (strV (itoaT (l.getD i default).room))),(128,.callG (txG [4] 1 2 5 none ((pt3 t0 l i)++lnB (mirrorWs (l.getD i default))) (wantE (decide ((l.getD i default).room≥0)) 2 (wantE (nameB (l.getD i default).name) 201 (pe3 e0 l i))) (.tuple #[])))],[],?_⟩
   exact Eq.mp (by kernel_rfl) (Sx.t8 c100 c101 c102 c106 c107 c111 c115 c117 (Sx.t4 c123 c126 c128 c129 (Sx.t2 h0 h1 (And.intro h2 z3))))
  ·skip
   have c100:Value.bool (decide ((i:Int) < (l.length:Int)))=.bool true:=bzt (decide_eq_true (by omega))
   have hy:=getD_at hlt
   have hw:=hwf _ (getD_mem hlt)
   obtain⟨inf,hi1,hi2⟩:=size_of (P:=Tryz.prog) (t:=124) (n:=3) (by kernel_rfl)
   obtain⟨pp,hp1,hp2⟩:=hs.atW Mi.cells_len Tryz.underlying44 hi1 hi2 Tryz.underlying124 rfl (by omega) hy
   clear hi1 hi2 hy
   have c101:=hp1
   have c102:=hp2
   have c129:Value.int .i64 (IntKind.i64.wrap ((i:Int)+1))=.int .i64 ((i+1:Nat):Int):=iw (by rw[w64 (by omega) (by omega)];rfl)
   have c106:=fun W (_:Chg [] w W)=>name_N (l.getD i default).name W
   have c107:=fun W β (hS:Sx.See ⟨w,[],fun _ _=>False⟩ β W (Sx.rowAt [⟨46,.vals cs⟩,txRow none [.nptr (bI b0 i) 1 0,.own 2,.val (.int .i64 (pe3 e0 l i))],⟨5,.own 1 (pt3 t0 l i).length (byC (pt3 t0 l i))⟩,⟨124,.vals (l.getD i default).cells⟩]) [1,2])=>(show Calls Tryz.prog 69 (([.ptr 1 0,.val (.bool (nameB (l.getD i default).name)),.val (.int .i64 201)]:List Sx.SV).map (Sx.SV.den β)).toArray W (Sx.gPost ⟨w,[],fun _ _=>False⟩ β W (Sx.rowAt [⟨46,.vals cs⟩,txRow none [.nptr (bI b0 i) 1 0,.own 2,.val (.int .i64 (pe3 e0 l i))],⟨5,.own 1 (pt3 t0 l i).length (byC (pt3 t0 l i))⟩,⟨124,.vals (l.getD i default).cells⟩]) 4 (wantG [] 1 2 none (bI b0 i) (wantE (nameB (l.getD i default).name) 201 (pe3 e0 l i))))from want_call (nameB (l.getD i default).name) 201 ⟨rfl,rfl⟩ W β hS)
   have c111:Value.bool (decide ((l.getD i default).out≥0))=.bool false:=bzf (decide_eq_false hg)
   have c117:=fun W β (hS:Sx.See ⟨w,[],fun _ _=>False⟩ β W (Sx.rowAt [⟨46,.vals cs⟩,txRow none [.nptr (bI b0 i) 1 0,.own 2,.val (.int .i64 (wantE (nameB (l.getD i default).name) 201 (pe3 e0 l i)))],⟨5,.own 1 (pt3 t0 l i).length (byC (pt3 t0 l i))⟩,⟨124,.vals (l.getD i default).cells⟩]) [1,2])=>(show Calls Tryz.prog 69 (([.ptr 1 0,.val (.bool false),.val (.int .i64 2)]:List Sx.SV).map (Sx.SV.den β)).toArray W (Sx.gPost ⟨w,[],fun _ _=>False⟩ β W (Sx.rowAt [⟨46,.vals cs⟩,txRow none [.nptr (bI b0 i) 1 0,.own 2,.val (.int .i64 (wantE (nameB (l.getD i default).name) 201 (pe3 e0 l i)))],⟨5,.own 1 (pt3 t0 l i).length (byC (pt3 t0 l i))⟩,⟨124,.vals (l.getD i default).cells⟩]) 4 (wantG [] 1 2 none (bI b0 i) (wantE false 2 (wantE (nameB (l.getD i default).name) 201 (pe3 e0 l i)))))from want_call false 2 ⟨rfl,rfl⟩ W β hS)
   have c123:=fun W (hW:Chg [] w W)=>itoa64 (l.getD i default).out hw.o.1 hw.o.2 W (hlan.chg0 hW)
   have c126:=fun W (hW:Chg [] w W)=>itoa64 (l.getD i default).room hw.r.1 hw.r.2 W (hlan.chg0 hW)
   have c128:=fun W β (hS:Sx.See ⟨w,[],fun _ _=>False⟩ β W (Sx.rowAt [⟨46,.vals cs⟩,txRow none [.nptr (bI b0 i) 1 0,.own 2,.val (.int .i64 (wantE false 2 (wantE (nameB (l.getD i default).name) 201 (pe3 e0 l i))))],⟨5,.own 1 (pt3 t0 l i).length (byC (pt3 t0 l i))⟩,⟨124,.vals (l.getD i default).cells⟩,⟨9,.vals (strs (mirrorWs (l.getD i default)))⟩]) [1,2,4])=>line_lit (m:=5) (og:=none) (p:=(bI b0 i)) (tx:=(pt3 t0 l i)) (e:=(wantE false 2 (wantE (nameB (l.getD i default).name) 201 (pe3 e0 l i)))) (mirrorWs (l.getD i default)) ⟨rfl,rfl⟩ (by omega) (by omega) rfl (Nat.le_of_ble_eq_true rfl) (tI_le hlt hB) W β hS
   have hE:(wantE false 2 (wantE (nameB (l.getD i default).name) 201 (pe3 e0 l i)))=mirrorE (pe3 e0 l i) (l.getD i default):=by unfold mirrorE;rw[decide_eq_false hg];rfl
   have h0:i+1≤l.length:=hlt
   have h1:l.length - (i+1) < l.length - i:=by omega
   have h2:pfr3 A l.length c (i+1)=pfr3 A l.length c (i+1):=rfl
   have z3:⟨46,.vals cs⟩::tRowsK 5 true (pt3 t0 l (i+1)) (wantE false 2 (wantE (nameB (l.getD i default).name) 201 (pe3 e0 l i)))=⟨46,.vals cs⟩::tRowsK 5 true (pt3 t0 l (i+1)) (pe3 e0 l (i+1)):=by rw[hE];rfl
   refine⟨[(100,.is (.bool true)),(101,.any pp),(102,.any (.agg (l.getD i default).cells.toArray)),(129,.is (.int .i64 ((i+1:Nat):Int))),(106,.call (.bool (nameB (l.getD i default).name))),(107,.callG (wantG [] 1 2 none (bI b0 i) (wantE (nameB (l.getD i default).name) 201 (pe3 e0 l i)))),(111,.is (.bool false)),(117,.callG (wantG [] 1 2 none (bI b0 i) (wantE false 2 (wantE (nameB (l.getD i default).name) 201 (pe3 e0 l i))))),(123,.call (strV (itoaT (l.getD i default).out))),(126,.call (strV (itoaT (l.getD i default).room))),(128,.callG (txG [4] 1 2 5 none ((pt3 t0 l i)++lnB (mirrorWs (l.getD i default))) (wantE false 2 (wantE (nameB (l.getD i default).name) 201 (pe3 e0 l i))) (.tuple #[])))],[],?_⟩
   exact Eq.mp (by kernel_rfl) (Sx.t8 c100 c101 c102 c106 c107 c111 c117 c123 (Sx.t4 c126 c128 c129 h0 (Sx.t2 h1 h2 z3)))
 ·have hin:i=l.length:=by omega
  subst hin
  have c100:Value.bool (decide ((l.length:Int) < (l.length:Int)))=.bool false:=bzf (decide_eq_false (by omega))
  have h0:True:=trivial
  have h1:([(1,.ptr 0 0),(4,.ptr 1 0)]:List (Nat×Sx.SV))=[(1,.ptr 0 0),(4,.ptr 1 0)]:=rfl
  have z2:pm3 cs b0 t0 e0 l l.length=pm3 cs b0 t0 e0 l l.length:=rfl
  refine⟨[(100,.is (.bool false))],[],?_⟩
  exact Eq.mp (by kernel_rfl) (Sx.t2 c100 h0 (And.intro h1 z2))
theorem pr_r4{w:World}(hlan:Lan w)(cs:List Value)(l:List Rl)(A:Option Go.Addr)(c:Nat)(hs:Rds w [] 49 (.slice A l.length c) l.length (l.flatMap Rl.cells))(hwf:∀n∈l,n.Wf)(hl:l.length≤1000000000)(b0:Bool)(t0:Bs)(e0:Int)(hB:(pt4 t0 l l.length).length≤140737488355328)(T:Bs×Int)(i:Nat)(hi:i≤l.length) :
  ∃H' L',Sx.exB Tryz.prog Tryz.f28.ntmps ⟨w,[],fun _ _=>False⟩ (Sx.bodyOf Tryz.f28 4) H' L' ⟨pfr4 A l.length c i,pm4 cs b0 t0 e0 l i⟩
   (Sx.loopK (fun i=>i≤l.length) (fun i=>pfr4 A l.length c i) (fun i=>pm4 cs b0 t0 e0 l i) (fun i=>i+1) (fun i=>l.length - i) (fun(_:Unit)=>True) (fun _=>[(1,.ptr 0 0),(4,.ptr 1 0)]) (fun _=>pm4 cs b0 t0 e0 l l.length) (fun _=>()) (Sx.outId (Sx.bodyOf Tryz.f28 4) - 1) (Sx.atEndA Tryz.prog Tryz.f28 (PrR T) .ret) i):=by
 by_cases hlt:i < l.length
 ·skip
  have c134:Value.bool (decide ((i:Int) < (l.length:Int)))=.bool true:=bzt (decide_eq_true (by omega))
  have hy:=getD_at hlt
  have hw:=hwf _ (getD_mem hlt)
  obtain⟨inf,hi1,hi2⟩:=size_of (P:=Tryz.prog) (t:=81) (n:=49) (by kernel_rfl)
  obtain⟨pp,hp1,hp2⟩:=hs.atW Rl.cells_len Tryz.underlying42 hi1 hi2 Tryz.underlying81 rfl (by omega) hy
  clear hi1 hi2 hy
  have c135:=hp1
  have c136:=hp2
  have c140:Value.int .i64 (IntKind.i64.wrap ((i:Int)+1))=.int .i64 ((i+1:Nat):Int):=iw (by rw[w64 (by omega) (by omega)];rfl)
  have c139:=fun W β (hS:Sx.See ⟨w,[],fun _ _=>False⟩ β W (Sx.rowAt [⟨46,.vals cs⟩,txRow none [.nptr (bI b0 i) 1 0,.own 2,.val (.int .i64 (pe4 e0 l i))],⟨5,.own 1 (pt4 t0 l i).length (byC (pt4 t0 l i))⟩,⟨81,.vals (l.getD i default).cells⟩]) [1,2])=>rule_call (m:=4) (og:=none) (p:=(bI b0 i)) (tx:=(pt4 t0 l i)) (e:=(pe4 e0 l i)) (l.getD i default) ⟨rfl,rfl⟩ (by omega) (by omega) hlan (fun k hk=>(by cases hk)) hw (tI_le hlt hB) W β hS
  have h0:i+1≤l.length:=hlt
  have h1:l.length - (i+1) < l.length - i:=by omega
  have h2:pfr4 A l.length c (i+1)=pfr4 A l.length c (i+1):=rfl
  have z3:⟨46,.vals cs⟩::tRowsK 4 true (pt4 t0 l (i+1)) (pe4 e0 l (i+1))=⟨46,.vals cs⟩::tRowsK 4 true (pt4 t0 l (i+1)) (pe4 e0 l (i+1)):=rfl
  refine⟨[(134,.is (.bool true)),(135,.any pp),(136,.any (.agg (l.getD i default).cells.toArray)),(140,.is (.int .i64 ((i+1:Nat):Int))),(139,.callG (txG [] 1 2 4 none ((pt4 t0 l i)++lnB (ruleWs (l.getD i default))) (ruleE (pe4 e0 l i) (l.getD i default)) (.tuple #[])))],[],?_⟩
  exact Eq.mp (by kernel_rfl) (Sx.t8 c134 c135 c136 c139 c140 h0 h1 h2 z3)
 ·have hin:i=l.length:=by omega
  subst hin
  have c134:Value.bool (decide ((l.length:Int) < (l.length:Int)))=.bool false:=bzf (decide_eq_false (by omega))
  have h0:True:=trivial
  have h1:([(1,.ptr 0 0),(4,.ptr 1 0)]:List (Nat×Sx.SV))=[(1,.ptr 0 0),(4,.ptr 1 0)]:=rfl
  have z2:pm4 cs b0 t0 e0 l l.length=pm4 cs b0 t0 e0 l l.length:=rfl
  refine⟨[(134,.is (.bool false))],[],?_⟩
  exact Eq.mp (by kernel_rfl) (Sx.t2 c134 h0 (And.intro h1 z2))
end Go.Proofs.YtnncigmpcdehnaaGreatDoor
