import Derived.Test.YtnncigmpcdehnaaGreatDoorQb29
import Derived.Test.YtnncigmpcdehnaaGreatDoorQb30
namespace Go.Proofs.YtnncigmpcdehnaaGreatDoor
open Go.RowKit Go.Lib Go.Sort
def eE(s:Nat×Nat):Bs:=if s.1=s.2 then az 10 s.1 else az 10 s.1++45::az 10 s.2
def dS(n:Nat):Bs:=if n=6 then oZ else if n=17 then p9 else az 10 n
def rW(p:Px):Bs:=r7 p.v p.n p.k
def bN(m:Mt)(k:Nat):List Bs:=match k with
 | 0=>[lr,eE m.gf]
 | 1=>[fG,rW m.src]
 | 2=>[gB,rW m.dst]
 | 3=>[dC,dS m.bV]
 | 4=>[eQ,eE m.sp]
 |_=>[gr,eE m.dp]
def lR(m:Mt)(k:Nat):List Bs:=match m.asks.testBit k with
 |true=>bN m k
 |false=>[]
def fR(m:Mt):List Bs:=lR m 0++lR m 1++lR m 2++lR m 3++lR m 4++lR m 5
def ji(m:Mt):Bs:=if m.asks=0 then k8 else aQ 32 (fR m)
def Er(m:Mt):Bs:=match bL m with
 |true=>ji m
 |false=>[]
def bb(n:Int):Bs:=if n < 0 then 45::az 10 n.natAbs else az 10 n.toNat
def aH(act out:Int):List Bs:=if act=1 then [aJ] else if act=2 then [cW] else if act=3 then [ek,bb out] else if act=4 then [bn] else []
def cO(k s:Bs):List Bs:=if s=[] then [] else [k,s]
def dR(r:Rl):List Bs:=[dM,r.name,Er r.mt,oD]++aH r.act r.out++cO ak r.aq++cO ae r.ai
def ew(n:Int):List Bs:=[b8,bb n]
def eW(r:Rt):List Bs:=[aJ,rW r.pf,bb r.out]
def eY(m:Me):List Bs:=[ak,m.name,az 10 m.num,az 10 m.den,az 10 m.nF]
def dh(m:Mi):List Bs:=[ae,m.name,bb m.out,bb m.room]
def gU(d:Int):List Bs:=av::aH d 0
def jQ(cf:CF):List (List Bs):=cf.ao.map ew++cf.ah.map eW++cf.aj.map eY++cf.ab.map dh++cf.rules.map dR++[gU cf.aL]
def bR(ws:List Bs):Bs:=aQ 32 ws++[10]
def di(l:List (List Bs)):Bs:=l.flatMap bR
def fm(cf:CF):Bs:=di (jQ cf)
def aG(is:Bool)(code e:Int):Int:=match is with
 |true=>e
 |false=>match decide (e=0)with
  |true=>code
  |false=>e
def BJ(e:Int)(n:Int):Int:=aG (decide (n≥0)) 2 e
def vK(e:Int)(r:Rt):Int:=aG (decide (r.out≥0)) 2 (aG (gg r.pf.v r.pf.n r.pf.k) 151 e)
def vY(e:Int)(m:Me):Int:=aG (aM m.name) 201 e
def jH(e:Int)(m:Mi):Int:=aG (decide (m.out≥0)&&decide (m.room≥0)) 2 (aG (aM m.name) 201 e)
def gD(act out:Int):Bool:=(decide (1≤act)&&decide (act≤4))&&(decide (out≥0)&&(decide (out=0)||decide (act=3)))
def fz(s:Bs):Bool:=decide (s=[])||aM s
def oM(e:Int)(r:Rl):Int:=aG (fz r.ai) 201 (aG (fz r.aq) 201 (aG (gD r.act r.out) 2 (aG (bL r.mt) 190 (aG (aM r.name) 201 e))))
def Co(e:Int)(d:Int):Int:=aG (decide (d=1)||(decide (d=2)||decide (d=4))) 2 e
def qO(cf:CF):Int:=Co (cf.rules.foldl oM (cf.ab.foldl jH (cf.aj.foldl vY (cf.ah.foldl vK (cf.ao.foldl BJ 0))))) cf.aL
def uf(cf:CF):Int:=aG (decide ((fm cf).length≤65536)) 4 (qO cf)
def dU(cf:CF):Bs×Int:=if uf cf=0 then(fm cf,0)else([],uf cf)
def uk(c:UInt8):Prop:=c≠32∧c≠9∧c≠35∧c≠10
def ep(x:Bs):Prop:=x≠[]∧∀c∈x,uk c
theorem lA(cm:Bool)(r:Bs):∀(x cur:Bs),(∀c∈x,uk c)→b9 cm cur (x++r)=b9 cm (cur++x) r
 | [],cur,_=>by simp
 |c::x,cur,h=>by
  have hc:=h c (by simp)
  have e:b9 cm cur (c::(x++r))=b9 cm (cur++[c]) (x++r):=by
   rw[b9,if_neg (fun hh=>hc.2.2.1 hh.2),if_neg (fun hh=>by
    rcases hh with hh|hh
    ·exact hc.1 hh
    ·exact hc.2.1 hh)]
  rw[List.cons_append,e,lA cm r x (cur++[c]) (fun d hd=>h d (by simp[hd]))]
  simp
theorem vx(cm:Bool)(r cur:Bs)(hc:cur≠[]):b9 cm cur (32::r)=cur::b9 cm [] r:=by
 rw[b9,if_neg (fun hh=>absurd hh.2 (by decide)),if_pos (.inl rfl),if_neg hc]
theorem nI(cm:Bool):∀ws:List Bs,(∀x∈ws,ep x)→aS cm (aQ 32 ws)=ws
 | [],_=>by simp[aS,aQ,b9]
 | [x],h=>by
  have hx:=h x (by simp)
  have:=lA cm [] x [] hx.2
  simp only[List.append_nil,List.nil_append]at this
  show b9 cm [] x=[x]
  rw[this,b9,if_neg hx.1]
 |x::y::r,h=>by
  have hx:=h x (by simp)
  show b9 cm [] (x++32::aQ 32 (y::r))=_
  rw[lA cm _ x [] hx.2,List.nil_append,vx cm _ x hx.1]
  congr 1
  exact nI cm (y::r) fun z hz=>h z (List.mem_cons_of_mem _ hz)
theorem Ji:∀ws:List Bs,(∀x∈ws,∀c∈x,uk c)→(10:UInt8)∉aQ 32 ws:=fun ws h hm=>by
 rcases fA hm with h1|⟨x,hx,h1⟩
 ·exact absurd h1 (by decide)
 ·exact(h x hx _ h1).2.2.2 rfl
theorem qA:∀l:List (List Bs),(∀ws∈l,∀x∈ws,∀c∈x,uk c)→bE (di l)=l.map (aQ 32)++[[]]
 | [],_=>by simp[di,bE,bP]
 |ws::l,h=>by
  have ih:=qA l fun v hv=>h v (List.mem_cons_of_mem _ hv)
  have e:di (ws::l)=aQ 32 ws++10::di l:=by simp[di,bR]
  unfold bE at ih ⊢
  rw[e,kQ 10 _ _ (Ji ws (h ws (by simp))),ih]
  rfl
theorem Dz(c:UInt8)(x:Bs)(ws r:List Bs)(hw:ws≠[]):aQ c (x::aQ c ws::r)=aQ c (x::(ws++r)):=by
 have aux:∀(ws r:List Bs),ws≠[]→aQ c (aQ c ws::r)=aQ c (ws++r):=by
  intro ws
  induction ws with
  |nil=>intro r h;exact absurd rfl h
  |cons a l ih=>
   intro r _
   cases l with
   |nil=>rfl
   |cons b l=>
    have h1:=ih r (by simp)
    cases r with
    |nil=>simp[aQ]
    |cons d r=>
     show(a++c::aQ c (b::l))++c::aQ c (d::r)=a++c::aQ c (b::(l++d::r))
     have h1:aQ c (b::l)++c::aQ c (d::r)=aQ c (b::(l++d::r)):=h1
     rw[←h1];simp
 have h1:=aux ws r hw
 obtain⟨a,l,rfl⟩:=List.exists_cons_of_ne_nil hw
 show x++c::aQ c (aQ c (a::l)::r)=x++c::aQ c (a::(l++r))
 rw[h1];rfl
set_option maxRecDepth 100000
open Go Go.RowKit Go.Lib Go.Sort
def db(og:Option Nat)(cs:List Sx.SV):Sx.Row:=match og with
 |some g=>⟨132,.gJ g cs⟩
 |none=>⟨132,.dm cs⟩
structure mu(row:Nat→Option Sx.Row)(i j:Nat)(og:Option Nat)(p:Bool)(tx:Bs)(e:Int):Prop where
 b:row i=some (db og [.cI p i 0,.own j,.val (.int .i64 e)])
 o:row j=some ⟨5,.own 1 tx.length (iX tx)⟩
theorem kJ{β:Sx.Env}{W:World}{i:Nat}{og:Option Nat}{cs:List Sx.SV}:Sx.bp β W i (db og cs)↔(∀g,og=some g→β i=g)∧aB W (β i) 132 (cs.map (Sx.SV.den β)):=by
 cases og with
 |none=>exact⟨fun h=>⟨fun g hg=>(by cases hg),h⟩,fun h=>h.2⟩
 |some g=>exact⟨fun h=>⟨fun g' hg=>by cases hg;exact h.1,h.2⟩,fun h=>⟨h.1 g rfl,h.2⟩⟩
theorem mz{β:Sx.Env}{i:Nat}{og:Option Nat}{cs:List Sx.SV}:Sx.aE β i (db og cs)=some (β i):=by cases og<;>rfl
theorem nM{b:Sx.bw}{β:Sx.Env}{W:World}{row:Nat→Option Sx.Row}{fS:List Nat}{i j:Nat}{og:Option Nat}{p:Bool}{tx:Bs}{e:Int}(hS:Sx.cw b β W row fS)(h:mu row i j og p tx e)(hi:i∈fS)(hj:j∈fS) :
  Tx W (β i) p (β.a j) (β.c j) tx e∧∀g,og=some g→β i=g:=by
 have h1:=kJ.1 (hS.held i hi _ h.b)
 have h2:β.n j=tx.length∧Own W 5 1 (.slice (β.a j) tx.length (β.c j)) tx.length (iX tx):=hS.held j hj _ h.o
 refine⟨⟨?_,h2.2⟩,h1.1⟩
 have hb:=h1.2
 have e1:([Sx.SV.cI p i 0,.own j,.val (.int .i64 e)].map (Sx.SV.den β))=[pV p (β i),β.sl j,.int .i64 e]:=rfl
 rw[e1]at hb
 unfold Sx.Env.sl at hb
 rw[h2.1]at hb
 exact hb
def il(X:List Nat)(i j m:Nat)(og:Option Nat)(tx:Bs)(e:Int)(v:Value):Sx.cH:=⟨i::j::X,[(i,db og [.cI true i 0,.own m,.val (.int .i64 e)])],[j],[⟨5,.own 1 tx.length (iX tx)⟩],.val v,none⟩
def Ku(β:Sx.Env)(m:Nat)(A:Option Go.Addr)(n c:Nat):Sx.Env:=⟨β.b,fun i=>if i=m then A else β.a i,fun i=>if i=m then n else β.n i,fun i=>if i=m then c else β.c i⟩
theorem q7{b:Sx.bw}{β:Sx.Env}{W w':World}{row:Nat→Option Sx.Row}{X:List Nat}{i j m:Nat}{og:Option Nat}{p:Bool}{tx tx':Bs}{e e':Int}{v:Value}{en:Ending}(h:mu row i j og p tx e)(_hi:i < m)(_hj:j < m)(hg:∀g,og=some g→β i=g)
  (hp:lk (β i) (β.a j) v tx' e' W en w'):Sx.a7 b β W row m (il X i j m og tx' e' v) en w':=by
 obtain⟨A',c',he,ht,hc,hk⟩:=hp
 refine .inl ⟨fun p hp=>(by cases hp),Ku β m A' tx'.length c',fun k hk=>⟨rfl,?_,?_,?_⟩,he,fun q hq=>?_,fun k r hr=>?_,fun k r x hr hx=>?_,fun k k' r r' x hr hr' _ _=>?_,hc.mono fun k hk=>.inl ?_⟩
 ·show β.a k=if k=m then A' else β.a k
  rw[if_neg (by omega)]
 ·show β.n k=if k=m then tx'.length else β.n k
  rw[if_neg (by omega)]
 ·show β.c k=if k=m then c' else β.c k
  rw[if_neg (by omega)]
 ·have hq:q=(i,db og [.cI true i 0,.own m,.val (.int .i64 e')]):=List.mem_singleton.1 hq
  subst hq
  refine kJ.2 ⟨hg,?_⟩
  show aB w' (β i) 132 [pV true (β i),.slice (if m=m then A' else β.a m) (if m=m then tx'.length else β.n m) (if m=m then c' else β.c m),.int .i64 e']
  rw[if_pos rfl,if_pos rfl,if_pos rfl]
  exact ht.bY
 ·match k,hr with
  | 0,hr=>
   cases hr
   show(if m+0=m then tx'.length else β.n (m+0))=tx'.length∧Own w' 5 1 (.slice (if m+0=m then A' else β.a (m+0)) tx'.length (if m+0=m then c' else β.c (m+0))) tx'.length (iX tx')
   rw[Nat.add_zero,if_pos rfl,if_pos rfl,if_pos rfl]
   exact⟨rfl,ht.own⟩
 ·match k,hr with
  | 0,hr=>
   cases hr
   have hx:(if m+0=m then A' else β.a (m+0)).map (·.block)=some x:=hx
   rw[Nat.add_zero,if_pos rfl]at hx
   rcases hk x hx with h1|h1
   ·refine .inl (List.mem_filterMap.2 ⟨j,by simp[il],?_⟩)
    unfold Sx.cK
    rw[h.o]
    exact h1
   ·exact .inr h1
 ·match k,k',hr,hr' with
  | 0,0,_,_=>rfl
 ·show k∈([i]++[j]).filterMap (Sx.cK β row)
  rcases List.mem_cons.1 hk with rfl|hk
  ·refine List.mem_filterMap.2 ⟨i,by simp,?_⟩
   unfold Sx.cK
   rw[h.b]
   exact mz
  ·refine List.mem_filterMap.2 ⟨j,by simp,?_⟩
   unfold Sx.cK
   rw[h.o]
   show(β.a j).map (·.block)=some k
   simpa using hk
theorem Iv{w:World}{g:Nat}{p:Bool}{A:Option Go.Addr}{c:Nat}{tx:Bs}{e:Int}(is:Bool)(code:Int)(h:Tx w g p A c tx e) :
  Calls Tryz.prog 69 #[.pointer (some ⟨g,0,none⟩),.bool is,.int .i64 code] w fun e' w'=>e'=.returned (.tuple #[])∧Tx w' g p A c tx (aG is code e)∧aw [g] w w':=by
 have d1:w.cell? ⟨g,2,none⟩=some (.int .i64 e):=h.bY.cell_of rfl
 have f1:w.frozen? ⟨g,2,none⟩=false:=h.bY.frozen 2
 have hb2:=h.bY.oI 2 (.int .i64 code)
 have ho2:=h.own.Il (p:=⟨g,2,none⟩) h.ne (.int .i64 code)
 have HH:=hid h
 clear h
 cases is with
 |true=>
  go_enter Tryz.func69,Tryz.ntmps69
  go_wp2
  go_end0
  exact⟨rfl,HH.out,aw.refl _ _⟩
 |false=>
  by_cases he:e=0
  ·have hw:aG false code e=code:=by unfold aG;rw[decide_eq_true he]
   have hb:(e==0)=true:=by rw[he];rfl
   rw[hw]
   go_enter Tryz.func69,Tryz.ntmps69
   go_wp2
   go_end0
   exact⟨rfl,⟨by simpa[MK]using hb2,ho2⟩,(aw.refl _ w).setCell (.inl (by simp)) _⟩
  ·have hw:aG false code e=e:=by unfold aG;rw[decide_eq_false he]
   have hb:(e==0)=false:=beq_eq_false_iff_ne.2 he
   rw[hw]
   go_enter Tryz.func69,Tryz.ntmps69
   go_wp2
   go_end0
   exact⟨rfl,HH.out,aw.refl _ _⟩
def cD(X:List Nat)(i j:Nat)(og:Option Nat)(p:Bool)(e:Int):Sx.cH:=⟨i::j::X,[(i,db og [.cI p i 0,.own j,.val (.int .i64 e)])],[],[],.val (.tuple #[]),none⟩
theorem eK{b:Sx.bw}{row:Nat→Option Sx.Row}{i j m:Nat}{og:Option Nat}{p:Bool}{tx:Bs}{e:Int}(is:Bool)(code:Int)(h:mu row i j og p tx e)(W:World)(β:Sx.Env)(hS:Sx.cw b β W row [i,j]) :
  Calls Tryz.prog 69 (([.ptr i 0,.val (.bool is),.val (.int .i64 code)]:List Sx.SV).map (Sx.SV.den β)).toArray W (Sx.a7 b β W row m (cD [] i j og p (aG is code e))):=by
 obtain⟨ht,hg⟩:=nM hS h (by simp) (by simp)
 show Calls Tryz.prog 69 #[.pointer (some ⟨β i,0,none⟩),.bool is,.int .i64 code] W _
 refine(Iv is code ht).mono fun en w' ⟨he,ht',hc⟩=>.inl ⟨fun p hp=>(by cases hp),β,Sx.dH (v:=.tuple #[]) rfl rfl he (fun q hq=>?_) ?_⟩
 ·have hq:q=(i,db og [.cI p i 0,.own j,.val (.int .i64 (aG is code e))]):=List.mem_singleton.1 hq
  subst hq
  refine kJ.2 ⟨hg,?_⟩
  have h2:β.n j=tx.length:=(hS.held j (by simp) _ h.o).1
  show aB w' (β i) 132 [pV p (β i),.slice (β.a j) (β.n j) (β.c j),.int .i64 (aG is code e)]
  rw[h2]
  exact ht'.bY
 ·refine hc.mono fun k hk=>.inl ?_
  show k∈([i]++[]).filterMap (Sx.cK β row)
  refine List.mem_filterMap.2 ⟨i,by simp,?_⟩
  unfold Sx.cK
  rw[h.b,List.mem_singleton.1 hk]
  exact mz
theorem Nc{w:World}{g:Nat}{p:Bool}{A:Option Go.Addr}{c:Nat}{tx:Bs}{e:Int}(h:Tx w g p A c tx e):Calls Tryz.prog 76 #[.pointer (some ⟨g,0,none⟩)] w fun e' w'=>e'=.returned (.int .i64 (tx.length:Int))∧w'=w:=by
 have d1:w.cell? ⟨g,1,none⟩=some (.slice A tx.length c):=h.bY.cell_of rfl
 clear h
 go_enter Tryz.func76,Tryz.ntmps76
 go_wp2
 go_ret
 exact⟨rfl,rfl⟩
theorem Js{P:Program}{e:TypeId}(hc:P.cellsOf e=1)(count o n:Nat)(hn:o+n≤count):liesAt P P.depth e count o e n=true:=by
 have hd:P.depth=(2*(P.types.size+Made.depth)+1)+1:=rfl
 rw[hd]
 simp only[liesAt,Bool.or_eq_true]
 left
 rw[hd]
 simp[rowAt,hc,sameLayout,Nat.mod_one]
 omega
theorem ng{P:Program}(w:World)(pt it ty e:TypeId)(hp:P.underlying pt=some (.pointer e))(hc:P.cellsOf e=1)(g o cells:Nat)(hsh:w.shape? g=some (e,cells))(l:List UInt8)(h0:l≠[])(hn:o+l.length≤cells)(h63:l.length≤9223372036854775807)
  (hcell:∀j x,l[j]?=some x→w.cell? ((⟨g,o,none⟩:Addr).add j)=some (.int .u8 x.toNat)) :
  (Builtin.unsafeString_ #[pt,it] ty #[.pointer (some ⟨g,o,none⟩),.int .i64 l.length]).run P w=.ok (.string ⟨l.toArray⟩) (w.freeze ⟨g,o,none⟩ l.length):=by
 have hl:l.length≠0:=by simpa using h0
 have hlb:=run_loadBytes (P:=P) w l ⟨g,o,none⟩ .empty hcell
 have hlies:=Js (P:=P) hc (cells / P.cellsOf e) o l.length (by rw[hc]; simpa using hn)
 have h63':¬(9223372036854775807:Int) < (l.length:Int):=by omega
 have hdef:Builtin.unsafeString_ #[pt,it] ty #[.pointer (some ⟨g,o,none⟩),.int .i64 l.length]=
   (do
    let n ←asInt (.int .i64 l.length)
    if n < 0 then runtimePanic (.error "unsafe.String: len out of range")
    if n > IntKind.i64.max then unsupported (.unsafePointer "String: a length above the largest int")
    if n=0 then pure (.string .empty)
    else if ←variablesAt ⟨g,o,none⟩ (←elemOf pt) n.toNat then do
     let s ←loadBytes ⟨g,o,none⟩ .empty n.toNat
     freeze ⟨g,o,none⟩ n.toNat
     pure (.string s)
    else unsupported (.unsafePointer "String: not so many bytes at ptr")):=rfl
 rw[hdef]
 have hmax:IntKind.i64.max=9223372036854775807:=rfl
 have hneg:¬(l.length:Int) < 0:=by omega
 simp[asInt,asIntOf,hmax,h63',hneg,hl,variablesAt,hsh,elemOf,run_underlying hp,hlies,hlb]
set_option maxHeartbeats 1000000 in
theorem EK{w:World}{g:Nat}{p:Bool}{A:Option Go.Addr}{c:Nat}{tx:Bs}{e:Int}(h:Tx w g p A c tx e)(h0:tx≠[]):Calls Tryz.prog 77 #[.pointer (some ⟨g,0,none⟩)] w fun e' w'=>e'=.returned (af tx)∧aw (oA g A) w w':=by
 have hl0:tx.length≠0:=by simpa using h0
 obtain⟨b,o,cap,L,hv,hb,hnc,hcm,hcl,htake⟩:∃b o cap L,Value.slice A tx.length c=.slice (some ⟨b,o,none⟩) tx.length cap∧aB w b 5 L∧tx.length≤cap∧cap≤maxLen∧o+cap*1≤L.length∧(L.drop o).take (tx.length*1)=iX tx:=by
  rcases h.own.2 with⟨_,hz⟩ | ⟨b,o,cap,L,hv,r⟩
  ·exact absurd hz hl0
  ·exact⟨b,o,cap,L,hv,r⟩
 injection hv with hA _ hc
 subst hA hc
 have c1:w.drew.cell? ⟨g,1,none⟩=some (.slice (some ⟨b,o,none⟩) tx.length c):=h.bY.cell_of rfl
 have hSD:(Builtin.unsafeSliceData_ #[82] 210 #[.slice (some ⟨b,o,none⟩) tx.length c]).run Tryz.prog w.drew=.ok (.pointer (some ⟨b,o,none⟩)) w.drew:=run_unsafeSliceData_row _ _ _ _ _ _ (by omega)
 have hsh:w.drew.shape? b=some (5,L.length):=hb.shape
 have hUS:(Builtin.unsafeString_ #[210,3] 9 #[.pointer (some ⟨b,o,none⟩),.int .i64 tx.length]).run Tryz.prog w.drew=.ok (.string ⟨tx.toArray⟩) (w.drew.freeze ⟨b,o,none⟩ tx.length):=
  ng w.drew 210 3 9 5 Tryz.underlying210 (by kernel_rfl) b o L.length hsh tx h0 (by omega) (by unfold maxLen at hcm;omega) fun j x hx=>by
   have:=h.own.js j (.int .u8 x.toNat) (by simp[iX,hx])
   exact this
 have hgb:aw (oA g (some ⟨b,o,none⟩)) w (w.drew.freeze ⟨b,o,none⟩ tx.length):=by
  have hf:=below_freeze (B:=0) (Below.drew (Below.refl 0 w)) (p:=⟨b,o,none⟩) (Nat.zero_le _) tx.length
  refine⟨hf.os,hf.tape,hf.output,hf.size,fun k hk hS=>?_⟩
  have hne:k≠b:=fun hh=>hS (by simp[oA,hh])
  unfold World.freeze
  rw[if_neg hl0]
  show(w.heap.modify b _)[k]?=_
  rw[Array.getElem?_modify,if_neg (fun hh=>hne hh.symm)]
 have mixed:Tryz.prog.follows .mixedOrders=true:=by kernel_rfl
 clear h hb
 go_enter Tryz.func77,Tryz.ntmps77
 go_wp2
 go_region_o
 all_goals (go_wp2;go_ret;exact⟨rfl,hgb⟩)
end Go.Proofs.YtnncigmpcdehnaaGreatDoor
