import Derived.Test.YtnncigmpcdehnaaGreatDoorQa30
import Derived.Test.YtnncigmpcdehnaaGreatDoorQa31
namespace Go.Proofs.YtnncigmpcdehnaaGreatDoor
open Go.RowKit Go.Lib Go.Sort
def spanT(s:Nat×Nat):Bs:=if s.1=s.2 then digs 10 s.1 else digs 10 s.1++45::digs 10 s.2
def protoT(n:Nat):Bs:=if n=6 then kTcp else if n=17 then kUdp else digs 10 n
def pxT(p:Px):Bs:=ptxt p.v p.n p.k
def fieldWs(m:Mt)(k:Nat):List Bs:=match k with
 | 0=>[kIn,spanT m.inn]
 | 1=>[kSrc,pxT m.src]
 | 2=>[kDst,pxT m.dst]
 | 3=>[kProto,protoT m.proto]
 | 4=>[kSport,spanT m.sp]
 |_=>[kDport,spanT m.dp]
def putWs(m:Mt)(k:Nat):List Bs:=match m.asks.testBit k with
 |true=>fieldWs m k
 |false=>[]
def matchWs(m:Mt):List Bs:=putWs m 0++putWs m 1++putWs m 2++putWs m 3++putWs m 4++putWs m 5
def matchT(m:Mt):Bs:=if m.asks=0 then kAny else joinC 32 (matchWs m)
def pmT(m:Mt):Bs:=match checkM m with
 |true=>matchT m
 |false=>[]
def itoaT(n:Int):Bs:=if n < 0 then 45::digs 10 n.natAbs else digs 10 n.toNat
def actWs(act out:Int):List Bs:=if act=1 then [kRoute] else if act=2 then [kDrop] else if act=3 then [kOut,itoaT out] else if act=4 then [kReject] else []
def optWs(k s:Bs):List Bs:=if s=[] then [] else [k,s]
def ruleWs(r:Rl):List Bs:=[kRule,r.name,pmT r.mt,kTo]++actWs r.act r.out++optWs kMeter r.meter++optWs kMirror r.mirror
def portWs(n:Int):List Bs:=[kPort,itoaT n]
def routeWs(r:Rt):List Bs:=[kRoute,pxT r.pf,itoaT r.out]
def meterWs(m:Me):List Bs:=[kMeter,m.name,digs 10 m.num,digs 10 m.den,digs 10 m.burst]
def mirrorWs(m:Mi):List Bs:=[kMirror,m.name,itoaT m.out,itoaT m.room]
def dfltWs(d:Int):List Bs:=kDefault::actWs d 0
def cfLines(cf:CF):List (List Bs):=cf.ports.map portWs++cf.routes.map routeWs++cf.meters.map meterWs++cf.mirrors.map mirrorWs++cf.rules.map ruleWs++[dfltWs cf.dflt]
def lnB(ws:List Bs):Bs:=joinC 32 ws++[10]
def linesT(l:List (List Bs)):Bs:=l.flatMap lnB
def cfText(cf:CF):Bs:=linesT (cfLines cf)
def wantE(is:Bool)(code e:Int):Int:=match is with
 |true=>e
 |false=>match decide (e=0)with
  |true=>code
  |false=>e
def portE(e:Int)(n:Int):Int:=wantE (decide (n≥0)) 2 e
def routeE(e:Int)(r:Rt):Int:=wantE (decide (r.out≥0)) 2 (wantE (okP r.pf.v r.pf.n r.pf.k) 151 e)
def meterE(e:Int)(m:Me):Int:=wantE (nameB m.name) 201 e
def mirrorE(e:Int)(m:Mi):Int:=wantE (decide (m.out≥0)&&decide (m.room≥0)) 2 (wantE (nameB m.name) 201 e)
def actB(act out:Int):Bool:=(decide (1≤act)&&decide (act≤4))&&(decide (out≥0)&&(decide (out=0)||decide (act=3)))
def optB(s:Bs):Bool:=decide (s=[])||nameB s
def ruleE(e:Int)(r:Rl):Int:=wantE (optB r.mirror) 201 (wantE (optB r.meter) 201 (wantE (actB r.act r.out) 2 (wantE (checkM r.mt) 190 (wantE (nameB r.name) 201 e))))
def dfltE(e:Int)(d:Int):Int:=wantE (decide (d=1)||(decide (d=2)||decide (d=4))) 2 e
def cfErr(cf:CF):Int:=dfltE (cf.rules.foldl ruleE (cf.mirrors.foldl mirrorE (cf.meters.foldl meterE (cf.routes.foldl routeE (cf.ports.foldl portE 0))))) cf.dflt
def endE(cf:CF):Int:=wantE (decide ((cfText cf).length≤65536)) 4 (cfErr cf)
def printW(cf:CF):Bs×Int:=if endE cf=0 then(cfText cf,0)else([],endE cf)
def wCh(c:UInt8):Prop:=c≠32∧c≠9∧c≠35∧c≠10
def goodW(x:Bs):Prop:=x≠[]∧∀c∈x,wCh c
theorem wordsA_word(cm:Bool)(r:Bs):∀(x cur:Bs),(∀c∈x,wCh c)→wordsA cm cur (x++r)=wordsA cm (cur++x) r
 | [],cur,_=>by simp
 |c::x,cur,h=>by
  have hc:=h c (by simp)
  have e:wordsA cm cur (c::(x++r))=wordsA cm (cur++[c]) (x++r):=by
   rw[wordsA,if_neg (fun hh=>hc.2.2.1 hh.2),if_neg (fun hh=>by
    rcases hh with hh|hh
    ·exact hc.1 hh
    ·exact hc.2.1 hh)]
  rw[List.cons_append,e,wordsA_word cm r x (cur++[c]) (fun d hd=>h d (by simp[hd]))]
  simp
theorem wordsA_blank(cm:Bool)(r cur:Bs)(hc:cur≠[]):wordsA cm cur (32::r)=cur::wordsA cm [] r:=by
 rw[wordsA,if_neg (fun hh=>absurd hh.2 (by decide)),if_pos (.inl rfl),if_neg hc]
theorem words_join(cm:Bool):∀ws:List Bs,(∀x∈ws,goodW x)→wordsW cm (joinC 32 ws)=ws
 | [],_=>by simp[wordsW,joinC,wordsA]
 | [x],h=>by
  have hx:=h x (by simp)
  have:=wordsA_word cm [] x [] hx.2
  simp only[List.append_nil,List.nil_append]at this
  show wordsA cm [] x=[x]
  rw[this,wordsA,if_neg hx.1]
 |x::y::r,h=>by
  have hx:=h x (by simp)
  show wordsA cm [] (x++32::joinC 32 (y::r))=_
  rw[wordsA_word cm _ x [] hx.2,List.nil_append,wordsA_blank cm _ x hx.1]
  congr 1
  exact words_join cm (y::r) fun z hz=>h z (List.mem_cons_of_mem _ hz)
theorem nl_join:∀ws:List Bs,(∀x∈ws,∀c∈x,wCh c)→(10:UInt8)∉joinC 32 ws:=fun ws h hm=>by
 rcases mem_of_joinC hm with h1|⟨x,hx,h1⟩
 ·exact absurd h1 (by decide)
 ·exact(h x hx _ h1).2.2.2 rfl
theorem linesW_text:∀l:List (List Bs),(∀ws∈l,∀x∈ws,∀c∈x,wCh c)→linesW (linesT l)=l.map (joinC 32)++[[]]
 | [],_=>by simp[linesT,linesW,splitC]
 |ws::l,h=>by
  have ih:=linesW_text l fun v hv=>h v (List.mem_cons_of_mem _ hv)
  have e:linesT (ws::l)=joinC 32 ws++10::linesT l:=by simp[linesT,lnB]
  unfold linesW at ih ⊢
  rw[e,splitC_app 10 _ _ (nl_join ws (h ws (by simp))),ih]
  rfl
theorem join_flat(c:UInt8)(x:Bs)(ws r:List Bs)(hw:ws≠[]):joinC c (x::joinC c ws::r)=joinC c (x::(ws++r)):=by
 have aux:∀(ws r:List Bs),ws≠[]→joinC c (joinC c ws::r)=joinC c (ws++r):=by
  intro ws
  induction ws with
  |nil=>intro r h;exact absurd rfl h
  |cons a l ih=>
   intro r _
   cases l with
   |nil=>rfl
   |cons b l=>
    have h1:=ih r (by simp)
    cases r with
    |nil=>simp[joinC]
    |cons d r=>
     show(a++c::joinC c (b::l))++c::joinC c (d::r)=a++c::joinC c (b::(l++d::r))
     have h1:joinC c (b::l)++c::joinC c (d::r)=joinC c (b::(l++d::r)):=h1
     rw[←h1];simp
 have h1:=aux ws r hw
 obtain⟨a,l,rfl⟩:=List.exists_cons_of_ne_nil hw
 show x++c::joinC c (joinC c (a::l)::r)=x++c::joinC c (a::(l++r))
 rw[h1];rfl
set_option maxRecDepth 100000
open Go Go.RowKit Go.Lib Go.Sort
def txRow(og:Option Nat)(cs:List Sx.SV):Sx.Row:=match og with
 |some g=>⟨132,.gvs g cs⟩
 |none=>⟨132,.svs cs⟩
structure TxRows(row:Nat→Option Sx.Row)(i j:Nat)(og:Option Nat)(p:Bool)(tx:Bs)(e:Int):Prop where
 b:row i=some (txRow og [.nptr p i 0,.own j,.val (.int .i64 e)])
 o:row j=some ⟨5,.own 1 tx.length (byC tx)⟩
theorem txRow_held{β:Sx.Env}{W:World}{i:Nat}{og:Option Nat}{cs:List Sx.SV}:Sx.Held β W i (txRow og cs)↔(∀g,og=some g→β i=g)∧Blk W (β i) 132 (cs.map (Sx.SV.den β)):=by
 cases og with
 |none=>exact⟨fun h=>⟨fun g hg=>(by cases hg),h⟩,fun h=>h.2⟩
 |some g=>exact⟨fun h=>⟨fun g' hg=>by cases hg;exact h.1,h.2⟩,fun h=>⟨h.1 g rfl,h.2⟩⟩
theorem txRow_blk{β:Sx.Env}{i:Nat}{og:Option Nat}{cs:List Sx.SV}:Sx.rowBlk β i (txRow og cs)=some (β i):=by cases og<;>rfl
theorem tx_see{b:Sx.Base}{β:Sx.Env}{W:World}{row:Nat→Option Sx.Row}{see:List Nat}{i j:Nat}{og:Option Nat}{p:Bool}{tx:Bs}{e:Int}(hS:Sx.See b β W row see)(h:TxRows row i j og p tx e)(hi:i∈see)(hj:j∈see) :
  Tx W (β i) p (β.a j) (β.c j) tx e∧∀g,og=some g→β i=g:=by
 have h1:=txRow_held.1 (hS.held i hi _ h.b)
 have h2:β.n j=tx.length∧Own W 5 1 (.slice (β.a j) tx.length (β.c j)) tx.length (byC tx):=hS.held j hj _ h.o
 refine⟨⟨?_,h2.2⟩,h1.1⟩
 have hb:=h1.2
 have e1:([Sx.SV.nptr p i 0,.own j,.val (.int .i64 e)].map (Sx.SV.den β))=[pV p (β i),β.sl j,.int .i64 e]:=rfl
 rw[e1]at hb
 unfold Sx.Env.sl at hb
 rw[h2.1]at hb
 exact hb
def txG(X:List Nat)(i j m:Nat)(og:Option Nat)(tx:Bs)(e:Int)(v:Value):Sx.GCall:=⟨i::j::X,[(i,txRow og [.nptr true i 0,.own m,.val (.int .i64 e)])],[j],[⟨5,.own 1 tx.length (byC tx)⟩],.val v,none⟩
def txEnv(β:Sx.Env)(m:Nat)(A:Option Go.Addr)(n c:Nat):Sx.Env:=⟨β.b,fun i=>if i=m then A else β.a i,fun i=>if i=m then n else β.n i,fun i=>if i=m then c else β.c i⟩
theorem tx_gret{b:Sx.Base}{β:Sx.Env}{W w':World}{row:Nat→Option Sx.Row}{X:List Nat}{i j m:Nat}{og:Option Nat}{p:Bool}{tx tx':Bs}{e e':Int}{v:Value}{en:Ending}(h:TxRows row i j og p tx e)(_hi:i < m)(_hj:j < m)(hg:∀g,og=some g→β i=g)
  (hp:TxPost (β i) (β.a j) v tx' e' W en w'):Sx.gPost b β W row m (txG X i j m og tx' e' v) en w':=by
 obtain⟨A',c',he,ht,hc,hk⟩:=hp
 refine .inl ⟨fun p hp=>(by cases hp),txEnv β m A' tx'.length c',fun k hk=>⟨rfl,?_,?_,?_⟩,he,fun q hq=>?_,fun k r hr=>?_,fun k r x hr hx=>?_,fun k k' r r' x hr hr' _ _=>?_,hc.mono fun k hk=>.inl ?_⟩
 ·show β.a k=if k=m then A' else β.a k
  rw[if_neg (by omega)]
 ·show β.n k=if k=m then tx'.length else β.n k
  rw[if_neg (by omega)]
 ·show β.c k=if k=m then c' else β.c k
  rw[if_neg (by omega)]
 ·have hq:q=(i,txRow og [.nptr true i 0,.own m,.val (.int .i64 e')]):=List.mem_singleton.1 hq
  subst hq
  refine txRow_held.2 ⟨hg,?_⟩
  show Blk w' (β i) 132 [pV true (β i),.slice (if m=m then A' else β.a m) (if m=m then tx'.length else β.n m) (if m=m then c' else β.c m),.int .i64 e']
  rw[if_pos rfl,if_pos rfl,if_pos rfl]
  exact ht.blk
 ·match k,hr with
  | 0,hr=>
   cases hr
   show(if m+0=m then tx'.length else β.n (m+0))=tx'.length∧Own w' 5 1 (.slice (if m+0=m then A' else β.a (m+0)) tx'.length (if m+0=m then c' else β.c (m+0))) tx'.length (byC tx')
   rw[Nat.add_zero,if_pos rfl,if_pos rfl,if_pos rfl]
   exact⟨rfl,ht.own⟩
 ·match k,hr with
  | 0,hr=>
   cases hr
   have hx:(if m+0=m then A' else β.a (m+0)).map (·.block)=some x:=hx
   rw[Nat.add_zero,if_pos rfl]at hx
   rcases hk x hx with h1|h1
   ·refine .inl (List.mem_filterMap.2 ⟨j,by simp[txG],?_⟩)
    unfold Sx.blkOf
    rw[h.o]
    exact h1
   ·exact .inr h1
 ·match k,k',hr,hr' with
  | 0,0,_,_=>rfl
 ·show k∈([i]++[j]).filterMap (Sx.blkOf β row)
  rcases List.mem_cons.1 hk with rfl|hk
  ·refine List.mem_filterMap.2 ⟨i,by simp,?_⟩
   unfold Sx.blkOf
   rw[h.b]
   exact txRow_blk
  ·refine List.mem_filterMap.2 ⟨j,by simp,?_⟩
   unfold Sx.blkOf
   rw[h.o]
   show(β.a j).map (·.block)=some k
   simpa using hk
theorem wantT_N{w:World}{g:Nat}{p:Bool}{A:Option Go.Addr}{c:Nat}{tx:Bs}{e:Int}(is:Bool)(code:Int)(h:Tx w g p A c tx e) :
  Calls Tryz.prog 69 #[.pointer (some ⟨g,0,none⟩),.bool is,.int .i64 code] w fun e' w'=>e'=.returned (.tuple #[])∧Tx w' g p A c tx (wantE is code e)∧Chg [g] w w':=by
 have d1:w.cell? ⟨g,2,none⟩=some (.int .i64 e):=h.blk.cell_of rfl
 have f1:w.frozen? ⟨g,2,none⟩=false:=h.blk.frozen 2
 have hb2:=h.blk.set_ 2 (.int .i64 code)
 have ho2:=h.own.far (p:=⟨g,2,none⟩) h.ne (.int .i64 code)
 have HH:=hid h
 clear h
 cases is with
 |true=>
  go_enter Tryz.func69,Tryz.ntmps69
  go_wp2
  go_end0
  exact⟨rfl,HH.out,Chg.refl _ _⟩
 |false=>
  by_cases he:e=0
  ·have hw:wantE false code e=code:=by unfold wantE;rw[decide_eq_true he]
   have hb:(e==0)=true:=by rw[he];rfl
   rw[hw]
   go_enter Tryz.func69,Tryz.ntmps69
   go_wp2
   go_end0
   exact⟨rfl,⟨by simpa[txC]using hb2,ho2⟩,(Chg.refl _ w).setCell (.inl (by simp)) _⟩
  ·have hw:wantE false code e=e:=by unfold wantE;rw[decide_eq_false he]
   have hb:(e==0)=false:=beq_eq_false_iff_ne.2 he
   rw[hw]
   go_enter Tryz.func69,Tryz.ntmps69
   go_wp2
   go_end0
   exact⟨rfl,HH.out,Chg.refl _ _⟩
def wantG(X:List Nat)(i j:Nat)(og:Option Nat)(p:Bool)(e:Int):Sx.GCall:=⟨i::j::X,[(i,txRow og [.nptr p i 0,.own j,.val (.int .i64 e)])],[],[],.val (.tuple #[]),none⟩
theorem want_call{b:Sx.Base}{row:Nat→Option Sx.Row}{i j m:Nat}{og:Option Nat}{p:Bool}{tx:Bs}{e:Int}(is:Bool)(code:Int)(h:TxRows row i j og p tx e)(W:World)(β:Sx.Env)(hS:Sx.See b β W row [i,j]) :
  Calls Tryz.prog 69 (([.ptr i 0,.val (.bool is),.val (.int .i64 code)]:List Sx.SV).map (Sx.SV.den β)).toArray W (Sx.gPost b β W row m (wantG [] i j og p (wantE is code e))):=by
 obtain⟨ht,hg⟩:=tx_see hS h (by simp) (by simp)
 show Calls Tryz.prog 69 #[.pointer (some ⟨β i,0,none⟩),.bool is,.int .i64 code] W _
 refine(wantT_N is code ht).mono fun en w' ⟨he,ht',hc⟩=>.inl ⟨fun p hp=>(by cases hp),β,Sx.gret_vals (v:=.tuple #[]) rfl rfl he (fun q hq=>?_) ?_⟩
 ·have hq:q=(i,txRow og [.nptr p i 0,.own j,.val (.int .i64 (wantE is code e))]):=List.mem_singleton.1 hq
  subst hq
  refine txRow_held.2 ⟨hg,?_⟩
  have h2:β.n j=tx.length:=(hS.held j (by simp) _ h.o).1
  show Blk w' (β i) 132 [pV p (β i),.slice (β.a j) (β.n j) (β.c j),.int .i64 (wantE is code e)]
  rw[h2]
  exact ht'.blk
 ·refine hc.mono fun k hk=>.inl ?_
  show k∈([i]++[]).filterMap (Sx.blkOf β row)
  refine List.mem_filterMap.2 ⟨i,by simp,?_⟩
  unfold Sx.blkOf
  rw[h.b,List.mem_singleton.1 hk]
  exact txRow_blk
theorem len_N{w:World}{g:Nat}{p:Bool}{A:Option Go.Addr}{c:Nat}{tx:Bs}{e:Int}(h:Tx w g p A c tx e):Calls Tryz.prog 76 #[.pointer (some ⟨g,0,none⟩)] w fun e' w'=>e'=.returned (.int .i64 (tx.length:Int))∧w'=w:=by
 have d1:w.cell? ⟨g,1,none⟩=some (.slice A tx.length c):=h.blk.cell_of rfl
 clear h
 go_enter Tryz.func76,Tryz.ntmps76
 go_wp2
 go_ret
 exact⟨rfl,rfl⟩
theorem lies_at{P:Program}{e:TypeId}(hc:P.cellsOf e=1)(count o n:Nat)(hn:o+n≤count):liesAt P P.depth e count o e n=true:=by
 have hd:P.depth=(2*(P.types.size+Made.depth)+1)+1:=rfl
 rw[hd]
 simp only[liesAt,Bool.or_eq_true]
 left
 rw[hd]
 simp[rowAt,hc,sameLayout,Nat.mod_one]
 omega
theorem run_unsafeString_at{P:Program}(w:World)(pt it ty e:TypeId)(hp:P.underlying pt=some (.pointer e))(hc:P.cellsOf e=1)(g o cells:Nat)(hsh:w.shape? g=some (e,cells))(l:List UInt8)(h0:l≠[])(hn:o+l.length≤cells)(h63:l.length≤9223372036854775807)
  (hcell:∀j x,l[j]?=some x→w.cell? ((⟨g,o,none⟩:Addr).add j)=some (.int .u8 x.toNat)) :
  (Builtin.unsafeString_ #[pt,it] ty #[.pointer (some ⟨g,o,none⟩),.int .i64 l.length]).run P w=.ok (.string ⟨l.toArray⟩) (w.freeze ⟨g,o,none⟩ l.length):=by
 have hl:l.length≠0:=by simpa using h0
 have hlb:=run_loadBytes (P:=P) w l ⟨g,o,none⟩ .empty hcell
 have hlies:=lies_at (P:=P) hc (cells / P.cellsOf e) o l.length (by rw[hc]; simpa using hn)
 have h63':¬(9223372036854775807:Int) < (l.length:Int):=by omega
 have hdef:Builtin.unsafeString_ #[pt,it] ty #[.pointer (some ⟨g,o,none⟩),.int .i64 l.length]=
   (do
    let n ←asInt (.int .i64 l.length)
    if n < 0 then runtimePanic (.error "unsafe.String: len out of range")
    if n > IntKind.i64.max then unsupported (.unsafePointer "String: a length above the largest int")
    if n=0 then pure (.string .empty)
    else if ←variablesAt ⟨g,o,none⟩ (←elemOf pt) n.toNat then do
     let s ←loadBytes ⟨g,o,none⟩ .empty n.toNat
     freeze ⟨g,o,none⟩ n.toNat
     pure (.string s)
    else unsupported (.unsafePointer "String: not so many bytes at ptr")):=rfl
 rw[hdef]
 have hmax:IntKind.i64.max=9223372036854775807:=rfl
 have hneg:¬(l.length:Int) < 0:=by omega
 simp[asInt,asIntOf,hmax,h63',hneg,hl,variablesAt,hsh,elemOf,run_underlying hp,hlies,hlb]
set_option maxHeartbeats 1000000 in
theorem string_N{w:World}{g:Nat}{p:Bool}{A:Option Go.Addr}{c:Nat}{tx:Bs}{e:Int}(h:Tx w g p A c tx e)(h0:tx≠[]):Calls Tryz.prog 77 #[.pointer (some ⟨g,0,none⟩)] w fun e' w'=>e'=.returned (strV tx)∧Chg (txK g A) w w':=by
 have hl0:tx.length≠0:=by simpa using h0
 obtain⟨b,o,cap,L,hv,hb,hnc,hcm,hcl,htake⟩:∃b o cap L,Value.slice A tx.length c=.slice (some ⟨b,o,none⟩) tx.length cap∧Blk w b 5 L∧tx.length≤cap∧cap≤maxLen∧o+cap*1≤L.length∧(L.drop o).take (tx.length*1)=byC tx:=by
  rcases h.own.2 with⟨_,hz⟩ | ⟨b,o,cap,L,hv,r⟩
  ·exact absurd hz hl0
  ·exact⟨b,o,cap,L,hv,r⟩
 injection hv with hA _ hc
 subst hA hc
 have c1:w.drew.cell? ⟨g,1,none⟩=some (.slice (some ⟨b,o,none⟩) tx.length c):=h.blk.cell_of rfl
 have hSD:(Builtin.unsafeSliceData_ #[82] 210 #[.slice (some ⟨b,o,none⟩) tx.length c]).run Tryz.prog w.drew=.ok (.pointer (some ⟨b,o,none⟩)) w.drew:=run_unsafeSliceData_row _ _ _ _ _ _ (by omega)
 have hsh:w.drew.shape? b=some (5,L.length):=hb.shape
 have hUS:(Builtin.unsafeString_ #[210,3] 9 #[.pointer (some ⟨b,o,none⟩),.int .i64 tx.length]).run Tryz.prog w.drew=.ok (.string ⟨tx.toArray⟩) (w.drew.freeze ⟨b,o,none⟩ tx.length):=
  run_unsafeString_at w.drew 210 3 9 5 Tryz.underlying210 (by kernel_rfl) b o L.length hsh tx h0 (by omega) (by unfold maxLen at hcm;omega) fun j x hx=>by
   have:=h.own.cellsAdd j (.int .u8 x.toNat) (by simp[byC,hx])
   exact this
 have hgb:Chg (txK g (some ⟨b,o,none⟩)) w (w.drew.freeze ⟨b,o,none⟩ tx.length):=by
  have hf:=below_freeze (B:=0) (Below.drew (Below.refl 0 w)) (p:=⟨b,o,none⟩) (Nat.zero_le _) tx.length
  refine⟨hf.os,hf.tape,hf.output,hf.size,fun k hk hS=>?_⟩
  have hne:k≠b:=fun hh=>hS (by simp[txK,hh])
  unfold World.freeze
  rw[if_neg hl0]
  show(w.heap.modify b _)[k]?=_
  rw[Array.getElem?_modify,if_neg (fun hh=>hne hh.symm)]
 have mixed:Tryz.prog.follows .mixedOrders=true:=by kernel_rfl
 clear h hb
 go_enter Tryz.func77,Tryz.ntmps77
 go_wp2
 go_region_o
 all_goals (go_wp2;go_ret;exact⟨rfl,hgb⟩)
end Go.Proofs.YtnncigmpcdehnaaGreatDoor
