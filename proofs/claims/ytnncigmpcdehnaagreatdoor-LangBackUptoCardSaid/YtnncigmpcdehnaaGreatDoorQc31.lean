import Derived.Test.YtnncigmpcdehnaaGreatDoorQc29
import Derived.Test.YtnncigmpcdehnaaGreatDoorQc30
namespace Go.Proofs.YtnncigmpcdehnaaGreatDoor
open Go.RowKit Go.Lib Go.Sort
def eu(s:Nat×Nat):Bs:=if s.1=s.2 then au 10 s.1 else au 10 s.1++45::au 10 s.2
def dK(n:Nat):Bs:=if n=6 then oQ else if n=17 then pY else au 10 n
def rU(p:Px):Bs:=rY p.v p.n p.k
def bF(m:Mt)(k:Nat):List Bs:=match k with
 | 0=>[lq,eu m.fU]
 | 1=>[fx,rU m.src]
 | 2=>[gw,rU m.dst]
 | 3=>[dv,dK m.bS]
 | 4=>[eM,eu m.sp]
 |_=>[gi,eu m.dp]
def lR(m:Mt)(k:Nat):List Bs:=match m.asks.testBit k with
 |true=>bF m k
 |false=>[]
def fJ(m:Mt):List Bs:=lR m 0++lR m 1++lR m 2++lR m 3++lR m 4++lR m 5
def eK(m:Mt):Bs:=if m.asks=0 then kZ else aJ 32 (fJ m)
def xI(m:Mt):Bs:=match bj m with
 |true=>eK m
 |false=>[]
def cn(n:Int):Bs:=if n < 0 then 45::au 10 n.natAbs else au 10 n.toNat
def aZ(act out:Int):List Bs:=if act=1 then [aT] else if act=2 then [lr] else if act=3 then [nV,cn out] else if act=4 then [gh] else []
def de(k s:Bs):List Bs:=if s=[] then [] else [k,s]
def dJ(r:Rl):List Bs:=[dB,r.name,xI r.mt,nU]++aZ r.act r.out++de aH r.df++de ax r.bZ
def eh(n:Int):List Bs:=[bX,cn n]
def eP(r:Rt):List Bs:=[aT,rU r.pf,cn r.out]
def eR(m:Me):List Bs:=[aH,m.name,au 10 m.num,au 10 m.den,au 10 m.pj]
def cX(m:Mi):List Bs:=[ax,m.name,cn m.out,cn m.room]
def iA(d:Int):List Bs:=aV::aZ d 0
def jL(cf:CF):List (List Bs):=cf.ag.map eh++cf.ae.map eP++cf.af.map eR++cf.aa.map cX++cf.rules.map dJ++[iA cf.a8]
def fV(ws:List Bs):Bs:=aJ 32 ws++[10]
def cY(l:List (List Bs)):Bs:=l.flatMap fV
def cJ(cf:CF):Bs:=cY (jL cf)
def aE(is:Bool)(code e:Int):Int:=match is with
 |true=>e
 |false=>match decide (e=0)with
  |true=>code
  |false=>e
def Ce(e:Int)(n:Int):Int:=aE (decide (n≥0)) 2 e
def vD(e:Int)(r:Rt):Int:=aE (decide (r.out≥0)) 2 (aE (gr r.pf.v r.pf.n r.pf.k) 151 e)
def vR(e:Int)(m:Me):Int:=aE (aG m.name) 201 e
def jC(e:Int)(m:Mi):Int:=aE (decide (m.out≥0)&&decide (m.room≥0)) 2 (aE (aG m.name) 201 e)
def my(act out:Int):Bool:=(decide (1≤act)&&decide (act≤4))&&(decide (out≥0)&&(decide (out=0)||decide (act=3)))
def jt(s:Bs):Bool:=decide (s=[])||aG s
def qh(e:Int)(r:Rl):Int:=aE (jt r.bZ) 201 (aE (jt r.df) 201 (aE (my r.act r.out) 2 (aE (bj r.mt) 190 (aE (aG r.name) 201 e))))
def Hp(e:Int)(d:Int):Int:=aE (decide (d=1)||(decide (d=2)||decide (d=4))) 2 e
def pb(cf:CF):Int:=Hp (cf.rules.foldl qh (cf.aa.foldl jC (cf.af.foldl vR (cf.ae.foldl vD (cf.ag.foldl Ce 0))))) cf.a8
def ly(cf:CF):Int:=aE (decide ((cJ cf).length≤65536)) 4 (pb cf)
def dt(cf:CF):Bs×Int:=if ly cf=0 then(cJ cf,0)else([],ly cf)
def ug(c:UInt8):Prop:=c≠32∧c≠9∧c≠35∧c≠10
def ee(x:Bs):Prop:=x≠[]∧∀c∈x,ug c
theorem lA(cm:Bool)(r:Bs):∀(x cur:Bs),(∀c∈x,ug c)→bY cm cur (x++r)=bY cm (cur++x) r
 | [],cur,_=>by simp
 |c::x,cur,h=>by
  have hc:=h c (by simp)
  have e:bY cm cur (c::(x++r))=bY cm (cur++[c]) (x++r):=by
   rw[bY,if_neg (fun hh=>hc.2.2.1 hh.2),if_neg (fun hh=>by
    rcases hh with hh|hh
    ·exact hc.1 hh
    ·exact hc.2.1 hh)]
  rw[List.cons_append,e,lA cm r x (cur++[c]) (fun d hd=>h d (by simp[hd]))]
  simp
theorem vm(cm:Bool)(r cur:Bs)(hc:cur≠[]):bY cm cur (32::r)=cur::bY cm [] r:=by
 rw[bY,if_neg (fun hh=>absurd hh.2 (by decide)),if_pos (.inl rfl),if_neg hc]
theorem kz(cm:Bool):∀ws:List Bs,(∀x∈ws,ee x)→aI cm (aJ 32 ws)=ws
 | [],_=>by simp[aI,aJ,bY]
 | [x],h=>by
  have hx:=h x (by simp)
  have:=lA cm [] x [] hx.2
  simp only[List.append_nil,List.nil_append]at this
  show bY cm [] x=[x]
  rw[this,bY,if_neg hx.1]
 |x::y::r,h=>by
  have hx:=h x (by simp)
  show bY cm [] (x++32::aJ 32 (y::r))=_
  rw[lA cm _ x [] hx.2,List.nil_append,vm cm _ x hx.1]
  congr 1
  exact kz cm (y::r) fun z hz=>h z (List.mem_cons_of_mem _ hz)
theorem JY:∀ws:List Bs,(∀x∈ws,∀c∈x,ug c)→(10:UInt8)∉aJ 32 ws:=fun ws h hm=>by
 rcases fk hm with h1|⟨x,hx,h1⟩
 ·exact absurd h1 (by decide)
 ·exact(h x hx _ h1).2.2.2 rfl
theorem qu:∀l:List (List Bs),(∀ws∈l,∀x∈ws,∀c∈x,ug c)→bA (cY l)=l.map (aJ 32)++[[]]
 | [],_=>by simp[cY,bA,bH]
 |ws::l,h=>by
  have ih:=qu l fun v hv=>h v (List.mem_cons_of_mem _ hv)
  have e:cY (ws::l)=aJ 32 ws++10::cY l:=by simp[cY,fV]
  unfold bA at ih ⊢
  rw[e,kJ 10 _ _ (JY ws (h ws (by simp))),ih]
  rfl
theorem D2(c:UInt8)(x:Bs)(ws r:List Bs)(hw:ws≠[]):aJ c (x::aJ c ws::r)=aJ c (x::(ws++r)):=by
 have aux:∀(ws r:List Bs),ws≠[]→aJ c (aJ c ws::r)=aJ c (ws++r):=by
  intro ws
  induction ws with
  |nil=>intro r h;exact absurd rfl h
  |cons a l ih=>
   intro r _
   cases l with
   |nil=>rfl
   |cons b l=>
    have h1:=ih r (by simp)
    cases r with
    |nil=>simp[aJ]
    |cons d r=>
     show(a++c::aJ c (b::l))++c::aJ c (d::r)=a++c::aJ c (b::(l++d::r))
     have h1:aJ c (b::l)++c::aJ c (d::r)=aJ c (b::(l++d::r)):=h1
     rw[←h1];simp
 have h1:=aux ws r hw
 obtain⟨a,l,rfl⟩:=List.exists_cons_of_ne_nil hw
 show x++c::aJ c (aJ c (a::l)::r)=x++c::aJ c (a::(l++r))
 rw[h1];rfl
set_option maxRecDepth 100000
open Go Go.RowKit Go.Lib Go.Sort
def cS(og:Option Nat)(cs:List Sx.SV):Sx.Row:=match og with
 |some g=>⟨132,.fW g cs⟩
 |none=>⟨132,.dm cs⟩
structure mz(row:Nat→Option Sx.Row)(i j:Nat)(og:Option Nat)(p:Bool)(tx:Bs)(e:Int):Prop where
 b:row i=some (cS og [.cD p i 0,.own j,.val (.int .i64 e)])
 o:row j=some ⟨5,.own 1 tx.length (iS tx)⟩
theorem kF{β:Sx.Env}{W:World}{i:Nat}{og:Option Nat}{cs:List Sx.SV}:Sx.ba β W i (cS og cs)↔(∀g,og=some g→β i=g)∧aq W (β i) 132 (cs.map (Sx.SV.den β)):=by
 cases og with
 |none=>exact⟨fun h=>⟨fun g hg=>(by cases hg),h⟩,fun h=>h.2⟩
 |some g=>exact⟨fun h=>⟨fun g' hg=>by cases hg;exact h.1,h.2⟩,fun h=>⟨h.1 g rfl,h.2⟩⟩
theorem mF{β:Sx.Env}{i:Nat}{og:Option Nat}{cs:List Sx.SV}:Sx.aw β i (cS og cs)=some (β i):=by cases og<;>rfl
theorem nI{b:Sx.a7}{β:Sx.Env}{W:World}{row:Nat→Option Sx.Row}{fK:List Nat}{i j:Nat}{og:Option Nat}{p:Bool}{tx:Bs}{e:Int}(hS:Sx.dz b β W row fK)(h:mz row i j og p tx e)(hi:i∈fK)(hj:j∈fK) :
  Tx W (β i) p (β.a j) (β.c j) tx e∧∀g,og=some g→β i=g:=by
 have h1:=kF.1 (hS.held i hi _ h.b)
 have h2:β.n j=tx.length∧Own W 5 1 (.slice (β.a j) tx.length (β.c j)) tx.length (iS tx):=hS.held j hj _ h.o
 refine⟨⟨?_,h2.2⟩,h1.1⟩
 have hb:=h1.2
 have e1:([Sx.SV.cD p i 0,.own j,.val (.int .i64 e)].map (Sx.SV.den β))=[pV p (β i),β.sl j,.int .i64 e]:=rfl
 rw[e1]at hb
 unfold Sx.Env.sl at hb
 rw[h2.1]at hb
 exact hb
def w8(X:List Nat)(i j m:Nat)(og:Option Nat)(tx:Bs)(e:Int)(v:Value):Sx.cj:=⟨i::j::X,[(i,cS og [.cD true i 0,.own m,.val (.int .i64 e)])],[j],[⟨5,.own 1 tx.length (iS tx)⟩],.val v,none⟩
def Lk(β:Sx.Env)(m:Nat)(A:Option Go.Addr)(n c:Nat):Sx.Env:=⟨β.b,fun i=>if i=m then A else β.a i,fun i=>if i=m then n else β.n i,fun i=>if i=m then c else β.c i⟩
theorem qR{b:Sx.a7}{β:Sx.Env}{W w':World}{row:Nat→Option Sx.Row}{X:List Nat}{i j m:Nat}{og:Option Nat}{p:Bool}{tx tx':Bs}{e e':Int}{v:Value}{en:Ending}(h:mz row i j og p tx e)(_hi:i < m)(_hj:j < m)(hg:∀g,og=some g→β i=g)
  (hp:lh (β i) (β.a j) v tx' e' W en w'):Sx.aQ b β W row m (w8 X i j m og tx' e' v) en w':=by
 obtain⟨A',c',he,ht,hc,hk⟩:=hp
 refine .inl ⟨fun p hp=>(by cases hp),Lk β m A' tx'.length c',fun k hk=>⟨rfl,?_,?_,?_⟩,he,fun q hq=>?_,fun k r hr=>?_,fun k r x hr hx=>?_,fun k k' r r' x hr hr' _ _=>?_,hc.mono fun k hk=>.inl ?_⟩
 ·show β.a k=if k=m then A' else β.a k
  rw[if_neg (by omega)]
 ·show β.n k=if k=m then tx'.length else β.n k
  rw[if_neg (by omega)]
 ·show β.c k=if k=m then c' else β.c k
  rw[if_neg (by omega)]
 ·have hq:q=(i,cS og [.cD true i 0,.own m,.val (.int .i64 e')]):=List.mem_singleton.1 hq
  subst hq
  refine kF.2 ⟨hg,?_⟩
  show aq w' (β i) 132 [pV true (β i),.slice (if m=m then A' else β.a m) (if m=m then tx'.length else β.n m) (if m=m then c' else β.c m),.int .i64 e']
  rw[if_pos rfl,if_pos rfl,if_pos rfl]
  exact ht.bM
 ·match k,hr with
  | 0,hr=>
   cases hr
   show(if m+0=m then tx'.length else β.n (m+0))=tx'.length∧Own w' 5 1 (.slice (if m+0=m then A' else β.a (m+0)) tx'.length (if m+0=m then c' else β.c (m+0))) tx'.length (iS tx')
   rw[Nat.add_zero,if_pos rfl,if_pos rfl,if_pos rfl]
   exact⟨rfl,ht.own⟩
 ·match k,hr with
  | 0,hr=>
   cases hr
   have hx:(if m+0=m then A' else β.a (m+0)).map (·.block)=some x:=hx
   rw[Nat.add_zero,if_pos rfl]at hx
   rcases hk x hx with h1|h1
   ·refine .inl (List.mem_filterMap.2 ⟨j,by simp[w8],?_⟩)
    unfold Sx.ct
    rw[h.o]
    exact h1
   ·exact .inr h1
 ·match k,k',hr,hr' with
  | 0,0,_,_=>rfl
 ·show k∈([i]++[j]).filterMap (Sx.ct β row)
  rcases List.mem_cons.1 hk with rfl|hk
  ·refine List.mem_filterMap.2 ⟨i,by simp,?_⟩
   unfold Sx.ct
   rw[h.b]
   exact mF
  ·refine List.mem_filterMap.2 ⟨j,by simp,?_⟩
   unfold Sx.ct
   rw[h.o]
   show(β.a j).map (·.block)=some k
   simpa using hk
theorem I1{w:World}{g:Nat}{p:Bool}{A:Option Go.Addr}{c:Nat}{tx:Bs}{e:Int}(is:Bool)(code:Int)(h:Tx w g p A c tx e) :
  Calls Tryz.prog 69 #[.pointer (some ⟨g,0,none⟩),.bool is,.int .i64 code] w fun e' w'=>e'=.returned (.tuple #[])∧Tx w' g p A c tx (aE is code e)∧ah [g] w w':=by
 have d1:w.cell? ⟨g,2,none⟩=some (.int .i64 e):=h.bM.cell_of rfl
 have f1:w.frozen? ⟨g,2,none⟩=false:=h.bM.frozen 2
 have hb2:=h.bM.oC 2 (.int .i64 code)
 have ho2:=h.own.IU (p:=⟨g,2,none⟩) h.ne (.int .i64 code)
 have HH:=hid h
 clear h
 cases is with
 |true=>
  go_enter Tryz.func69,Tryz.ntmps69
  go_wp2
  go_end0
  exact⟨rfl,HH.out,ah.refl _ _⟩
 |false=>
  by_cases he:e=0
  ·have hw:aE false code e=code:=by unfold aE;rw[decide_eq_true he]
   have hb:(e==0)=true:=by rw[he];rfl
   rw[hw]
   go_enter Tryz.func69,Tryz.ntmps69
   go_wp2
   go_end0
   exact⟨rfl,⟨by simpa[NG]using hb2,ho2⟩,(ah.refl _ w).setCell (.inl (by simp)) _⟩
  ·have hw:aE false code e=e:=by unfold aE;rw[decide_eq_false he]
   have hb:(e==0)=false:=beq_eq_false_iff_ne.2 he
   rw[hw]
   go_enter Tryz.func69,Tryz.ntmps69
   go_wp2
   go_end0
   exact⟨rfl,HH.out,ah.refl _ _⟩
def fp(X:List Nat)(i j:Nat)(og:Option Nat)(p:Bool)(e:Int):Sx.cj:=⟨i::j::X,[(i,cS og [.cD p i 0,.own j,.val (.int .i64 e)])],[],[],.val (.tuple #[]),none⟩
theorem eF{b:Sx.a7}{row:Nat→Option Sx.Row}{i j m:Nat}{og:Option Nat}{p:Bool}{tx:Bs}{e:Int}(is:Bool)(code:Int)(h:mz row i j og p tx e)(W:World)(β:Sx.Env)(hS:Sx.dz b β W row [i,j]) :
  Calls Tryz.prog 69 (([.ptr i 0,.val (.bool is),.val (.int .i64 code)]:List Sx.SV).map (Sx.SV.den β)).toArray W (Sx.aQ b β W row m (fp [] i j og p (aE is code e))):=by
 obtain⟨ht,hg⟩:=nI hS h (by simp) (by simp)
 show Calls Tryz.prog 69 #[.pointer (some ⟨β i,0,none⟩),.bool is,.int .i64 code] W _
 refine(I1 is code ht).mono fun en w' ⟨he,ht',hc⟩=>.inl ⟨fun p hp=>(by cases hp),β,Sx.cN (v:=.tuple #[]) rfl rfl he (fun q hq=>?_) ?_⟩
 ·have hq:q=(i,cS og [.cD p i 0,.own j,.val (.int .i64 (aE is code e))]):=List.mem_singleton.1 hq
  subst hq
  refine kF.2 ⟨hg,?_⟩
  have h2:β.n j=tx.length:=(hS.held j (by simp) _ h.o).1
  show aq w' (β i) 132 [pV p (β i),.slice (β.a j) (β.n j) (β.c j),.int .i64 (aE is code e)]
  rw[h2]
  exact ht'.bM
 ·refine hc.mono fun k hk=>.inl ?_
  show k∈([i]++[]).filterMap (Sx.ct β row)
  refine List.mem_filterMap.2 ⟨i,by simp,?_⟩
  unfold Sx.ct
  rw[h.b,List.mem_singleton.1 hk]
  exact mF
theorem Ou{w:World}{g:Nat}{p:Bool}{A:Option Go.Addr}{c:Nat}{tx:Bs}{e:Int}(h:Tx w g p A c tx e):Calls Tryz.prog 76 #[.pointer (some ⟨g,0,none⟩)] w fun e' w'=>e'=.returned (.int .i64 (tx.length:Int))∧w'=w:=by
 have d1:w.cell? ⟨g,1,none⟩=some (.slice A tx.length c):=h.bM.cell_of rfl
 clear h
 go_enter Tryz.func76,Tryz.ntmps76
 go_wp2
 go_ret
 exact⟨rfl,rfl⟩
theorem J8{P:Program}{e:TypeId}(hc:P.cellsOf e=1)(count o n:Nat)(hn:o+n≤count):liesAt P P.depth e count o e n=true:=by
 have hd:P.depth=(2*(P.types.size+Made.depth)+1)+1:=rfl
 rw[hd]
 simp only[liesAt,Bool.or_eq_true]
 left
 rw[hd]
 simp[rowAt,hc,sameLayout,Nat.mod_one]
 omega
theorem nj{P:Program}(w:World)(pt it ty e:TypeId)(hp:P.underlying pt=some (.pointer e))(hc:P.cellsOf e=1)(g o cells:Nat)(hsh:w.shape? g=some (e,cells))(l:List UInt8)(h0:l≠[])(hn:o+l.length≤cells)(h63:l.length≤9223372036854775807)
  (hcell:∀j x,l[j]?=some x→w.cell? ((⟨g,o,none⟩:Addr).add j)=some (.int .u8 x.toNat)) :
  (Builtin.unsafeString_ #[pt,it] ty #[.pointer (some ⟨g,o,none⟩),.int .i64 l.length]).run P w=.ok (.string ⟨l.toArray⟩) (w.freeze ⟨g,o,none⟩ l.length):=by
 have hl:l.length≠0:=by simpa using h0
 have hlb:=run_loadBytes (P:=P) w l ⟨g,o,none⟩ .empty hcell
 have hlies:=J8 (P:=P) hc (cells / P.cellsOf e) o l.length (by rw[hc]; simpa using hn)
 have h63':¬(9223372036854775807:Int) < (l.length:Int):=by omega
 have hdef:Builtin.unsafeString_ #[pt,it] ty #[.pointer (some ⟨g,o,none⟩),.int .i64 l.length]=
   (do
    let n ←asInt (.int .i64 l.length)
    if n < 0 then runtimePanic (.error "unsafe.String: len out of range")
    if n > IntKind.i64.max then unsupported (.unsafePointer "String: a length above the largest int")
    if n=0 then pure (.string .empty)
    else if ←variablesAt ⟨g,o,none⟩ (←elemOf pt) n.toNat then do
     let s ←loadBytes ⟨g,o,none⟩ .empty n.toNat
     freeze ⟨g,o,none⟩ n.toNat
     pure (.string s)
    else unsupported (.unsafePointer "String: not so many bytes at ptr")):=rfl
 rw[hdef]
 have hmax:IntKind.i64.max=9223372036854775807:=rfl
 have hneg:¬(l.length:Int) < 0:=by omega
 simp[asInt,asIntOf,hmax,h63',hneg,hl,variablesAt,hsh,elemOf,run_underlying hp,hlies,hlb]
set_option maxHeartbeats 1000000 in
theorem Fj{w:World}{g:Nat}{p:Bool}{A:Option Go.Addr}{c:Nat}{tx:Bs}{e:Int}(h:Tx w g p A c tx e)(h0:tx≠[]):Calls Tryz.prog 77 #[.pointer (some ⟨g,0,none⟩)] w fun e' w'=>e'=.returned (ab tx)∧ah (oy g A) w w':=by
 have hl0:tx.length≠0:=by simpa using h0
 obtain⟨b,o,cap,L,hv,hb,hnc,hcm,hcl,htake⟩:∃b o cap L,Value.slice A tx.length c=.slice (some ⟨b,o,none⟩) tx.length cap∧aq w b 5 L∧tx.length≤cap∧cap≤maxLen∧o+cap*1≤L.length∧(L.drop o).take (tx.length*1)=iS tx:=by
  rcases h.own.2 with⟨_,hz⟩ | ⟨b,o,cap,L,hv,r⟩
  ·exact absurd hz hl0
  ·exact⟨b,o,cap,L,hv,r⟩
 injection hv with hA _ hc
 subst hA hc
 have c1:w.drew.cell? ⟨g,1,none⟩=some (.slice (some ⟨b,o,none⟩) tx.length c):=h.bM.cell_of rfl
 have hSD:(Builtin.unsafeSliceData_ #[82] 210 #[.slice (some ⟨b,o,none⟩) tx.length c]).run Tryz.prog w.drew=.ok (.pointer (some ⟨b,o,none⟩)) w.drew:=run_unsafeSliceData_row _ _ _ _ _ _ (by omega)
 have hsh:w.drew.shape? b=some (5,L.length):=hb.shape
 have hUS:(Builtin.unsafeString_ #[210,3] 9 #[.pointer (some ⟨b,o,none⟩),.int .i64 tx.length]).run Tryz.prog w.drew=.ok (.string ⟨tx.toArray⟩) (w.drew.freeze ⟨b,o,none⟩ tx.length):=
  nj w.drew 210 3 9 5 Tryz.underlying210 (by kernel_rfl) b o L.length hsh tx h0 (by omega) (by unfold maxLen at hcm;omega) fun j x hx=>by
   have:=h.own.jj j (.int .u8 x.toNat) (by simp[iS,hx])
   exact this
 have hgb:ah (oy g (some ⟨b,o,none⟩)) w (w.drew.freeze ⟨b,o,none⟩ tx.length):=by
  have hf:=below_freeze (B:=0) (Below.drew (Below.refl 0 w)) (p:=⟨b,o,none⟩) (Nat.zero_le _) tx.length
  refine⟨hf.os,hf.tape,hf.output,hf.size,fun k hk hS=>?_⟩
  have hne:k≠b:=fun hh=>hS (by simp[oy,hh])
  unfold World.freeze
  rw[if_neg hl0]
  show(w.heap.modify b _)[k]?=_
  rw[Array.getElem?_modify,if_neg (fun hh=>hne hh.symm)]
 have mixed:Tryz.prog.follows .mixedOrders=true:=by kernel_rfl
 clear h hb
 go_enter Tryz.func77,Tryz.ntmps77
 go_wp2
 go_region_o
 all_goals (go_wp2;go_ret;exact⟨rfl,hgb⟩)
end Go.Proofs.YtnncigmpcdehnaaGreatDoor
