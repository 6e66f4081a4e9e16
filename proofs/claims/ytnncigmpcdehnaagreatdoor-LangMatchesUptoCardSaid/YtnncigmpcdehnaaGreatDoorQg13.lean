import Derived.Test.YtnncigmpcdehnaaGreatDoorQg12
import Derived.Barred
import Derived.Shelf.Vars
import Derived.Stop.LaidErr
import Derived.Lib.LaidTab
import Derived.LaidMore
import Derived.Lay
import Derived.LaidByTextLater
import Derived.LaidHandle
open Bool renaming and_eq_true→WN,or_eq_true→WU
open List renaming mem_singleton→WO,cons_append→WQ,nil_append→WS,foldl_cons→WT,length_append→WV,mem_cons→WX,mem_cons_of_mem→W0,mem_map→W3,mem_append→W6,getElem?_append_right→W7,getElem?_eq_some_iff→W8,getElem?_eq_getElem→W9,contains_iff_mem→Xb,not_mem_nil→Xd,length_cons→Xe,all_eq_true→Xf,mem_range→Xg,map_map→Xh,range→Xi
open Int renaming toNat_of_nonneg→WR
open Nat renaming le_trans→WW,le_refl→WY,add_zero→W5
open Go.Value renaming bool→WZ,agg→Xa
open And renaming intro→W2
open Option renaming some→W4
open Eq renaming mp→Xc
namespace Go.Proofs.YtnncigmpcdehnaaGreatDoor
set_option maxRecDepth 100000
open Go Go.RowKit Go.Lib Go.Sort _root_.Go.Proofs.Tryz
def AI:Px:=⟨false,10*2^120,8⟩
def AJ:Mt:=⟨40,(0,0),nz,nz,6,(0,0),(80,90)⟩
def dj:CF:=⟨[3,4],[⟨AI,3⟩],[⟨[97],AJ,3,4,[109],[99]⟩,⟨[98],ei,2,0,[],[]⟩],[⟨[109],5,2,9⟩],[⟨[99],4,16⟩],1⟩
def Wq(cf:CF)(l:List Sx.SV)(mem:List Sx.Row):Prop:=∃k0 k1 k2 k3 k4,l=[.ej [.o k0,.o k1,.o k2,.o k3,.o k4,.v (.int .i64 cf.bA)]]∧mem[k0]?=some ⟨3,.own 1 cf.ak.length cf.cp⟩∧mem[k1]?=some ⟨118,.own 19 cf.af.length cf.cr⟩∧mem[k2]?=some ⟨81,.own 49 cf.rules.length cf.cl⟩∧mem[k3]?=some ⟨122,.own 4 cf.ag.length cf.cm⟩∧mem[k4]?=some ⟨124,.own 3 cf.ab.length cf.ci⟩
theorem Jb(w:World):Calls prog 67 #[] w (Sx.dc ⟨w,[],fun _ _=>False⟩ (Wq dj)):=by have z0:Wq dj [.ej [.o 3,.o 4,.o 7,.o 5,.o 6,.v (.int .i64 1)]] [⟨46,.dC [.own 3,.own 4,.own 7,.own 5,.own 6,.val (.int .i64 1)]⟩,⟨29,.aj AI.cells⟩,⟨66,.aj AJ.cells⟩,⟨3,.own 1 2 dj.cp⟩,⟨118,.own 19 1 dj.cr⟩,⟨122,.own 4 1 dj.cm⟩,⟨124,.own 3 1 dj.ci⟩,⟨81,.own 49 2 dj.cl⟩]:=⟨3,4,7,5,6,rfl,rfl,rfl,rfl,rfl,rfl⟩;refine Sx.b6 (args:=[]) (iO w) [(9,.jq 3 1),(12,.jq 118 19),(15,.jq 122 4),(17,.jq 124 3),(21,.jq 81 49)] [] (by kernel_rfl) func67 rfl (bU rfl) rfl ?_;exact Xc (by kernel_rfl) z0
open Go.RowKit Go.Lib Go.Sort
theorem Tf{α:Type}(pre:List α)(x:α)(r:List α):(pre++x::r)[pre.length]?=some x:=by simp
theorem Te{α:Type}(pre:List α)(x y:α)(r:List α):(pre++x::y::r)[pre.length+1]?=some y:=by rw[W7 (by omega)];simp
theorem dw{is:Bool}{code e:Int}(hc:code≠0):aW is code e=0↔is=true∧e=0:=by
 unfold aW;cases is with
 |true=>simp
 |false=>
  by_cases h:e=0
  ·rw[decide_eq_true h];simp[hc]
  ·rw[decide_eq_false h];simp[h]
theorem Ni{out:Bool}{pre r:List Bs}{act o:Int}(hb:oQ act o=true)(hout:out=true∨act≠3)(ho:o≤9223372036854775807):qQ out (pre++(bj act o++r)) pre.length=.ok (act,o) (pre.length+(bj act o).length):=by
 unfold oQ at hb;simp only[WN,WU,decide_eq_true_eq]at hb;obtain⟨⟨h1,h4⟩,h0,hz⟩:=hb;unfold qQ;by_cases a1:act=1
 ·have hz0:o=0:=by omega
  have e:bj act o=[dI]:=by unfold bj;rw[if_pos a1]
  rw[e];simp only[WQ,WS];rw[iQ (Tf pre dI r)];simp only[Out.bind,if_true];rw[a1,hz0];rfl
 by_cases a2:act=2
 ·have hz0:o=0:=by omega
  have e:bj act o=[nq]:=by unfold bj;rw[if_neg a1,if_pos a2]
  rw[e];simp only[WQ,WS];rw[iQ (Tf pre nq r)];simp only[Out.bind];rw[if_neg (by decide),if_pos trivial,a2,hz0];rfl
 by_cases a3:act=3
 ·have e:bj act o=[qz,da o]:=by unfold bj;rw[if_neg a1,if_neg a2,if_pos a3]
  have ht:out=true:=by
   rcases hout with h|h
   ·exact h
   ·exact absurd a3 h
  rw[e];simp only[WQ,WS];rw[iQ (Tf pre qz (da o::r))];simp only[Out.bind];rw[if_neg (by decide),if_neg (by decide),if_neg (by decide),if_pos ⟨trivial,ht⟩];have:=wu (ws:=pre++qz::da o::r) (i:=pre.length+1) (n:=o) (Te pre qz (da o) r) h0 ho;rw[this];show Out.ok (3,((o.toNat:Nat):Int)) (pre.length+1+1)=_;rw[WR h0,a3];rfl
 ·have a4:act=4:=by omega
  have hz0:o=0:=by omega
  have e:bj act o=[gW]:=by unfold bj;rw[if_neg a1,if_neg a2,if_neg a3,if_pos a4]
  rw[e];simp only[WQ,WS];rw[iQ (Tf pre gW r)];simp only[Out.bind];rw[if_neg (by decide),if_neg (by decide),if_pos trivial,a4,hz0];rfl
theorem Lh{k s:Bs}{pre r:List Bs}(hs:ku s=true)(hr:r[0]?≠some k):qo k (pre++(dF k s++r)) pre.length=.ok s (pre.length+(dF k s).length):=by
 unfold qo dF;by_cases h:s=[]
 ·rw[if_pos h,WS]
  have e:(pre++r)[pre.length]?=r[0]?:=by rw[W7 (by omega),Nat.sub_self]
  rw[jV (by rw[e];exact hr),h];rfl
 ·rw[if_neg h]
  have hn:aS s=true:=by unfold ku at hs;rw[decide_eq_false h]at hs;exact hs
  simp only[WQ,WS];rw[kA (Tf pre k (s::r))];show fX (pre++k::s::r) (pre.length+1)=_;rw[uy (Te pre k s r) hn];rfl
def dx(r:Rl):List Bs:=[gV,r.name]++(yB r.mt++([yF]++(bj r.act r.out++(dF bY r.dE++(dF bu r.cx++[])))))
theorem R7(l:List Bs):Vf ([yF]++l):=fun x hx=>by cases hx;decide
structure Qu(r:Rl):Prop where
 mt:FC r.mt
 out:r.out≤9223372036854775807
theorem Ou(hU:Np){r:Rl}(hr:Qu r)(hc:aY r.mt=true)(hn:aS r.name=true)(ha:oQ r.act r.out=true)(hme:ku r.dE=true)(hmi:ku r.cx=true):pU (dx r) 1=.ok r (dx r).length:=by
 have hp1:∀{α β:Type} (a:α) (i:Nat) (f:α→Nat→Out β),(Out.ok a i).bind f=f a i:=fun _ _ _=>rfl;unfold pU;rw[show fX (dx r) 1=.ok r.name 2 from uy rfl hn,hp1];have hm:=LD hU (M:=r.mt) hr.mt hc (pre:=[gV,r.name]) (r:=[yF]++(bj r.act r.out++(dF bY r.dE++(dF bu r.cx++[])))) (R7 _);rw[show cS (dx r) 2=.ok r.mt (2+(yB r.mt).length)from hm,hp1];obtain⟨p1,hp⟩:∃p1,p1=[gV,r.name]++yB r.mt:=⟨_,rfl⟩;have l1:p1.length=2+(yB r.mt).length:=by rw[hp,WV];rfl
 have e1:dx r=p1++(yF::(bj r.act r.out++(dF bY r.dE++(dF bu r.cx++[])))):=by rw[hp];unfold dx;simp
 rw[←l1];have e2:Pf r.mt (dx r) p1.length=.ok () (p1.length+1):=by unfold Pf;rw[iQ (x:=yF) (by rw[e1];exact Tf _ _ _),hp1];show(aR (decide (yF=yF)) 200 () (p1.length+1)).bind _=_;rw[decide_eq_true rfl];show aR (aY r.mt) 190 () (p1.length+1)=_;rw[hc];rfl
 rw[e2,hp1];obtain⟨p2,hp2⟩:∃p2,p2=p1++[yF]:=⟨_,rfl⟩;have l2:p2.length=p1.length+1:=by rw[hp2,WV];rfl
 have e3:dx r=p2++(bj r.act r.out++(dF bY r.dE++(dF bu r.cx++[]))):=by rw[e1,hp2];simp
 rw[←l2,show qQ true (dx r) p2.length=.ok (r.act,r.out) (p2.length+(bj r.act r.out).length)by rw[e3];exact Ni ha (.inl rfl) hr.out,hp1];obtain⟨p3,hp3⟩:∃p3,p3=p2++bj r.act r.out:=⟨_,rfl⟩;have l3:p3.length=p2.length+(bj r.act r.out).length:=by rw[hp3,WV]
 have e4:dx r=p3++(dF bY r.dE++(dF bu r.cx++[])):=by rw[e3,hp3];simp
 rw[←l3,show qo bY (dx r) p3.length=.ok r.dE (p3.length+(dF bY r.dE).length)by
  rw[e4];refine Lh hme ?_;unfold dF;split
  ·simp
  ·simp;decide,hp1]
 obtain⟨p4,hp4⟩:∃p4,p4=p3++dF bY r.dE:=⟨_,rfl⟩;have l4:p4.length=p3.length+(dF bY r.dE).length:=by rw[hp4,WV]
 have e5:dx r=p4++(dF bu r.cx++[]):=by rw[e4,hp4];simp
 rw[←l4,show qo bu (dx r) p4.length=.ok r.cx (p4.length+(dF bu r.cx).length)by rw[e5];exact Lh hmi (by simp),hp1];congr 1;rw[e5];simp
theorem py{x:Bs}{l:List Bs}{cf cf':CF}{d:Nat}(h:gf x (x::l) 1 cf d=.ok cf' (x::l).length):fm (x::l) cf d=.ok cf' (x::l).length:=by show rJ (x::l) 0 cf d=_;unfold rJ;rw[iQ (x:=x) rfl];show(gf x (x::l) 1 cf d).bind _=_;rw[h];show pS (x::l) cf' (x::l).length=_;unfold pS;rw[decide_eq_false (by omega)]
theorem yl{n:Int}(h0:0≤n)(hn:n≤9223372036854775807)(cf:CF)(d:Nat):fm (eJ n) cf d=.ok { cf with ak:=cf.ak++[n] } 2:=by refine py ?_;unfold gf;rw[if_pos rfl,wu (n:=n) rfl h0 hn];show Out.ok { cf with ak:=cf.ak++[((n.toNat:Nat):Int)] } 2=_;rw[WR h0];rfl
theorem Ec(hU:Np){r:Rt}(hp:r.pf.n < 2^128)(hk:fW r.pf.v r.pf.n r.pf.k=true)(h0:0≤r.out)(hn:r.out≤9223372036854775807)(cf:CF)(d:Nat):fm (fg r) cf d=.ok { cf with af:=cf.af++[r] } 3:=by refine py ?_;unfold gf;rw[if_neg (by decide),if_pos rfl,prefix_at hU (p:=r.pf) rfl hp hk];show(ja _ 2).bind _=_;rw[wu (n:=r.out) rfl h0 hn];show Out.ok { cf with af:=cf.af++[(⟨r.pf,((r.out.toNat:Nat):Int)⟩:Rt)] } 3=_;rw[WR h0];rfl
theorem EB{m:Me}(hn:aS m.name=true)(h1:m.num≤18446744073709551615)(h2:m.den≤18446744073709551615)(h3:m.rV≤18446744073709551615)(cf:CF)(d:Nat):fm (fj m) cf d=.ok { cf with ag:=cf.ag++[m] } 5:=by refine py ?_;unfold gf;rw[if_neg (by decide),if_neg (by decide),if_pos rfl,uy (x:=m.name) rfl hn];show(a6 _ _ 2).bind _=_;rw[lP (n:=m.num) rfl h1];show(a6 _ _ 3).bind _=_;rw[lP (n:=m.den) rfl h2];show(a6 _ _ 4).bind _=_;rw[lP (n:=m.rV) rfl h3];rfl
theorem BZ{m:Mi}(hn:aS m.name=true)(h1:0≤m.out)(h2:m.out≤9223372036854775807)(h3:0≤m.room)(h4:m.room≤9223372036854775807)(cf:CF)(d:Nat):fm (dX m) cf d=.ok { cf with ab:=cf.ab++[m] } 4:=by refine py ?_;unfold gf;rw[if_neg (by decide),if_neg (by decide),if_neg (by decide),if_pos rfl,uy (x:=m.name) rfl hn];show(ja _ 2).bind _=_;rw[wu (n:=m.out) rfl h1 h2];show(ja _ 3).bind _=_;rw[wu (n:=m.room) rfl h3 h4];show Out.ok { cf with ab:=cf.ab++[(⟨m.name,((m.out.toNat:Nat):Int),((m.room.toNat:Nat):Int)⟩:Mi)] } 4=_;rw[WR h1,WR h3];rfl
theorem Hu(hU:Np){r:Rl}(hr:Qu r)(hc:aY r.mt=true)(hn:aS r.name=true)(ha:oQ r.act r.out=true)(hme:ku r.dE=true)(hmi:ku r.cx=true)(cf:CF)(d:Nat):fm (dx r) cf d=.ok { cf with rules:=cf.rules++[r] } (dx r).length:=by refine py (x:=gV) ?_;unfold gf;rw[if_neg (by decide),if_neg (by decide),if_neg (by decide),if_neg (by decide),if_pos rfl];have:=Ou hU hr hc hn ha hme hmi;show(pU (dx r) 1).bind _=_;rw[this];rfl
theorem Ji{a:Int}(h:a=1∨a=2∨a=4)(cf:CF):fm (lx a) cf 0=.ok { cf with bA:=a } 2:=by
 have hl:(bj a 0).length=1:=by rcases h with rfl|rfl|rfl<;>rfl
 have hb:oQ a 0=true:=by rcases h with rfl|rfl|rfl<;>decide
 have ha:=Ni (out:=false) (pre:=[bD]) (r:=[]) hb (.inr (by omega)) (by omega);rw[hl,List.append_nil]at ha;have h2:(bD::bj a 0).length=2:=by rw[Xe,hl]
 have:=py (x:=bD) (l:=bj a 0) (cf:=cf) (cf':={ cf with bA:=a }) (d:=0) (by unfold gf;rw[if_neg (by decide),if_neg (by decide),if_neg (by decide),if_neg (by decide),if_neg (by decide),if_pos rfl];show(qQ false (bD::bj a 0) 1).bind _=_;rw[show qQ false (bD::bj a 0) 1=.ok (a,0) 2 from ha,h2];rfl);rw[h2]at this;exact this
theorem mL{l:Bs}{ls:List Bs}{k i:Nat}{cf cf':CF}{d:Nat}(h:fm (aE true l) cf d=.ok cf' i):fV (l::ls) k cf d=fV ls (k+1) cf' (dN (aE true l) d):=by rw[fV,h]
theorem jP{α:Type}{W:α→List Bs}{add:CF→α→CF}{d:Nat}{rest:List Bs}:∀(l:List α) (k:Nat) (cf:CF),(∀a∈l,(∀x∈W a,eE x)∧(W a)[0]?≠some bD∧∀cf,∃i,fm (W a) cf d=.ok (add cf a) i)→
  fV (l.map (fun a=>ax 32 (W a))++rest) k cf d=fV rest (k+l.length) (l.foldl add cf) d
 | [],k,cf,_=>rfl
 |a::l,k,cf,h=>by
  obtain⟨h1,h2,h3⟩:=h a (by simp);obtain⟨i,hi⟩:=h3 cf;have e:=qd true (W a) h1;rw[List.map_cons,WQ,mL (by rw[e];exact hi),e];have:dN (W a) d=d:=by unfold dN;rw[if_neg h2]
  rw[this,jP l (k+1) (add cf a) fun b hb=>h b (W0 _ hb),Xe];congr 1;omega
structure r9(cf:CF):Prop where
 ak:∀n∈cf.ak,0≤n∧n≤9223372036854775807
 af:∀r∈cf.af,r.pf.n < 2^128∧fW r.pf.v r.pf.n r.pf.k=true∧0≤r.out∧r.out≤9223372036854775807
 ag:∀m∈cf.ag,aS m.name=true∧m.num≤18446744073709551615∧m.den≤18446744073709551615∧m.rV≤18446744073709551615
 ab:∀m∈cf.ab,aS m.name=true∧0≤m.out∧m.out≤9223372036854775807∧0≤m.room∧m.room≤9223372036854775807
 rules:∀r∈cf.rules,Qu r∧aY r.mt=true∧aS r.name=true∧oQ r.act r.out=true∧ku r.dE=true∧ku r.cx=true
 bA:cf.bA=1∨cf.bA=2∨cf.bA=4
structure S6(cf:CF):Prop where
 ak:∀n∈cf.ak,n≤9223372036854775807
 af:∀r∈cf.af,r.pf.n < 2^128∧r.out≤9223372036854775807
 ag:∀m∈cf.ag,m.num≤18446744073709551615∧m.den≤18446744073709551615∧m.rV≤18446744073709551615
 ab:∀m∈cf.ab,m.out≤9223372036854775807∧m.room≤9223372036854775807
 rules:∀r∈cf.rules,Qu r
theorem fold_zero{α:Type}{E:Int→α→Int}{p:α→Prop}(h:∀e a,E e a=0↔p a∧e=0):∀(l:List α) (e:Int),l.foldl E e=0↔(∀a∈l,p a)∧e=0
 | [],e=>by simp
 |a::l,e=>by
  rw[WT,fold_zero h l,h];constructor
  ·rintro⟨h1,h2,h3⟩
   exact⟨fun b hb=>by
    rcases WX.1 hb with rfl|hb
    ·exact h2
    ·exact h1 b hb,h3⟩
  ·rintro⟨h1,h2⟩
   exact⟨fun b hb=>h1 b (W0 _ hb),h1 a (by simp),h2⟩
theorem Fj(cf:CF):xo cf=0↔(∀n∈cf.ak,0≤n)∧(∀r∈cf.af,0≤r.out∧fW r.pf.v r.pf.n r.pf.k=true)∧(∀m∈cf.ag,aS m.name=true)∧(∀m∈cf.ab,(0≤m.out∧0≤m.room)∧aS m.name=true)∧
  (∀r∈cf.rules,ku r.cx=true∧ku r.dE=true∧oQ r.act r.out=true∧aY r.mt=true∧aS r.name=true)∧(cf.bA=1∨cf.bA=2∨cf.bA=4):=by
 have pE:∀e n,Gf e n=0↔0≤n∧e=0:=fun e n=>by unfold Gf;rw[dw (by decide)];simp
 have rE:∀e (r:Rt),zG e r=0↔(0≤r.out∧fW r.pf.v r.pf.n r.pf.k=true)∧e=0:=fun e r=>by unfold zG;rw[dw (by decide),dw (by decide)];simp[and_assoc]
 have mE:∀e (m:Me),Ad e m=0↔aS m.name=true∧e=0:=fun e m=>by unfold Ad;rw[dw (by decide)]
 have iE:∀e (m:Mi),pv e m=0↔((0≤m.out∧0≤m.room)∧aS m.name=true)∧e=0:=fun e m=>by unfold pv;rw[dw (by decide),dw (by decide)];simp[and_assoc]
 have lE:∀e (r:Rl),tm e r=0↔(ku r.cx=true∧ku r.dE=true∧oQ r.act r.out=true∧aY r.mt=true∧aS r.name=true)∧e=0:=fun e r=>by unfold tm;rw[dw (by decide),dw (by decide),dw (by decide),dw (by decide),dw (by decide)];simp[and_assoc]
 unfold xo MB;rw[dw (by decide),fold_zero lE,fold_zero iE,fold_zero mE,fold_zero rE,fold_zero pE];simp only[WU,decide_eq_true_eq,and_true];constructor
 ·rintro⟨h1,h2,h3,h4,h5,h6⟩
  exact⟨h6,h5,h4,h3,h2,h1⟩
 ·rintro⟨h1,h2,h3,h4,h5,h6⟩
  exact⟨h6,h5,h4,h3,h2,h1⟩
theorem MI{cf:CF}(h:S6 cf):xo cf=0↔r9 cf:=by
 rw[Fj];constructor
 ·rintro⟨h1,h2,h3,h4,h5,h6⟩
  exact⟨fun n hn=>⟨h1 n hn,h.ak n hn⟩,fun r hr=>⟨(h.af r hr).1,(h2 r hr).2,(h2 r hr).1,(h.af r hr).2⟩,fun m hm=>⟨h3 m hm,h.ag m hm⟩,fun m hm=>⟨(h4 m hm).2,(h4 m hm).1.1,(h.ab m hm).1,(h4 m hm).1.2,(h.ab m hm).2⟩,
   fun r hr=>⟨h.rules r hr,(h5 r hr).2.2.2.1,(h5 r hr).2.2.2.2,(h5 r hr).2.2.1,(h5 r hr).2.1,(h5 r hr).1⟩,h6⟩
 ·intro h
  exact⟨fun n hn=>(h.ak n hn).1,fun r hr=>⟨(h.af r hr).2.2.1,(h.af r hr).2.1⟩,fun m hm=>(h.ag m hm).1,fun m hm=>⟨⟨(h.ab m hm).2.1,(h.ab m hm).2.2.2.1⟩,(h.ab m hm).1⟩,
   fun r hr=>⟨(h.rules r hr).2.2.2.2.2,(h.rules r hr).2.2.2.2.1,(h.rules r hr).2.2.2.1,(h.rules r hr).2.1,(h.rules r hr).2.2.1⟩,h.bA⟩
open Go.RowKit Go.Lib Go.Sort
theorem mo{c:UInt8}(h:36≤c.toNat):xV c:=⟨fun e=>by subst e;exact absurd h (by decide),fun e=>by subst e;exact absurd h (by decide),fun e=>by subst e;exact absurd h (by decide),fun e=>by subst e;exact absurd h (by decide)⟩
theorem AN{b:Nat}(h2:2≤b)(h16:b≤16)(u:Nat):∀c∈an b u,xV c:=fun c hc=>by obtain⟨d,hd,rfl⟩:=gZ h2 u c hc;refine mo ?_;rw[eF (by omega)];split<;>omega
theorem ma(u:Nat):eE (an 10 u):=⟨iR u,AN (by omega) (by omega) u⟩
theorem Na{a b:Bs}(ha:∀c∈a,xV c)(hb:∀c∈b,xV c):∀c∈a++b,xV c:=fun c hc=>by
 rcases W6.1 hc with h|h
 ·exact ha c h
 ·exact hb c h
theorem AP{x:UInt8}{b:Bs}(hx:xV x)(hb:∀c∈b,xV c):∀c∈x::b,xV c:=fun c hc=>by
 rcases WX.1 hc with rfl|h
 ·exact hx
 ·exact hb c h
theorem LV{s:UInt8}(hs:xV s){l:List Bs}(h:∀x∈l,∀c∈x,xV c):∀c∈ax s l,xV c:=fun c hc=>by
 rcases fO hc with rfl|⟨x,hx,h1⟩
 ·exact hs
 ·exact h x hx c h1
theorem Ao(l:List Nat):∀c∈aQ l,xV c:=LV (mo (by decide)) fun x hx=>by obtain⟨u,_,rfl⟩:=W3.1 hx;exact AN (by omega) (by omega) u
theorem N8(v:Bool)(n:Nat):∀c∈eO v n,xV c:=by
 cases v with
 |false=>show ∀c∈ff n,xV c;refine LV (mo (by decide)) fun x hx=>?_;simp at hx;rcases hx with rfl|rfl|rfl|rfl<;>exact AN (by omega) (by omega) _
 |true=>
  show ∀c∈cB (aK n),xV c;unfold cB;split
  ·exact Ao _
  ·exact Na (Ao _) (AP (mo (by decide)) (AP (mo (by decide)) (Ao _)))
theorem N7(v:Bool)(n:Nat)(k:Int):eE (iV v n k):=by unfold iV;refine⟨by simp,Na (N8 v n) (AP (mo (by decide)) (AN (by omega) (by omega) _))⟩
theorem K5{p:Px}(h:fW p.v p.n p.k=true):eE (xI p):=by unfold xI j7;rw[if_pos h];exact N7 _ _ _
theorem Us{i:Nat}{c:UInt8}(h:Gs i c=true):xV c:=by refine mo ?_;unfold Gs at h;simp only[WU,WN,decide_eq_true_eq]at h;omega
theorem Ab{x:Bs}(h:aS x=true):eE x:=by unfold aS at h;simp only[WN,decide_eq_true_eq,Xf,Xg]at h;refine⟨fun e=>by rw[e]at h;exact absurd h.1.1 (by decide),fun c hc=>?_⟩;obtain⟨i,hi,rfl⟩:=List.mem_iff_getElem.1 hc;have:=h.2 i hi;rw[W9 hi]at this;exact Us this
theorem wj{n:Int}(h:0≤n):eE (da n):=by rw[yH h];exact ma _
theorem fR{x:Bs}(h:(!x.isEmpty&&x.all fun c=>decide (36≤c.toNat))=true):eE x:=by simp only[WN,Xf,decide_eq_true_eq]at h;refine⟨fun e=>by subst e;exact absurd h.1 (by decide),fun c hc=>mo (h.2 c hc)⟩
theorem D4(s:Nat×Nat):eE (eP s):=by
 unfold eP;split
 ·exact ma _
 ·exact⟨by simp,Na (ma _).2 (AP (mo (by decide)) (ma _).2)⟩
theorem OW(n:Nat):eE (dR n):=by
 unfold dR;split
 ·exact fR (by decide)
 split
 ·exact fR (by decide)
 ·exact ma _
theorem PV{M:Mt}{k:Nat}(hk:k < 6)(hb:M.asks.testBit k=true)(hs:M.asks.testBit 1=true→fW M.src.v M.src.n M.src.k=true)(hd:M.asks.testBit 2=true→fW M.dst.v M.dst.n M.dst.k=true):∀x∈bN M k,eE x:=by
 have two:∀{a b:Bs},eE a→eE b→∀x∈[a,b],eE x:=fun {a b} ha hb x hx=>by
  simp at hx;rcases hx with rfl|rfl
  ·exact ha
  ·exact hb
 match k,hk with
 | 0,_=>exact two (fR (by decide)) (D4 _)
 | 1,_=>exact two (fR (by decide)) (K5 (hs hb))
 | 2,_=>exact two (fR (by decide)) (K5 (hd hb))
 | 3,_=>exact two (fR (by decide)) (OW _)
 | 4,_=>exact two (fR (by decide)) (D4 _)
 | 5,_=>exact two (fR (by decide)) (D4 _)
theorem Uv{M:Mt}(hc:aY M=true):∀x∈yB M,eE x:=by
 obtain⟨_,_,_,_,_,_,_,hs,hd⟩:=oI hc;unfold yB;split
 ·intro x hx;rw[WO.1 hx];exact fR (by decide)
 ·rw[qu]
  intro x hx;obtain⟨k,hk,hx⟩:=List.mem_flatMap.1 hx;exact PV (kg hk).1 (kg hk).2 hs hd x hx
theorem R9{M:Mt}(hc:aY M=true):yB M≠[]:=by
 have ha:=(oI hc).1;unfold yB;split
 ·simp
 ·rename_i h0
  rw[qu];obtain⟨k,ks,hks⟩:=List.exists_cons_of_ne_nil (QT h0 ha);obtain⟨x,y,e,_⟩:=rP M (kg (M:=M) (k:=k) (by rw[hks];simp)).1;rw[hks,List.flatMap_cons,e];simp
theorem Q4{act o:Int}(h:oQ act o=true):∀x∈bj act o,eE x:=by
 unfold oQ at h;simp only[WN,decide_eq_true_eq]at h;unfold bj;split
 ·intro x hx;rw[WO.1 hx];exact fR (by decide)
 split
 ·intro x hx;rw[WO.1 hx];exact fR (by decide)
 split
 ·intro x hx
  simp at hx;rcases hx with rfl|rfl
  ·exact fR (by decide)
  ·exact wj h.2.1
 split
 ·intro x hx;rw[WO.1 hx];exact fR (by decide)
 ·intro x hx;cases hx
theorem QL{k s:Bs}(hk:eE k)(h:ku s=true):∀x∈dF k s,eE x:=by
 unfold dF;split
 ·intro x hx;cases hx
 ·rename_i h0
  have hn:aS s=true:=by unfold ku at h;rw[decide_eq_false h0]at h;exact h
  intro x hx;simp at hx;rcases hx with rfl|rfl
  ·exact hk
  ·exact Ab hn
theorem Ku{r:Rl}(hc:aY r.mt=true)(hn:aS r.name=true)(ha:oQ r.act r.out=true)(hme:ku r.dE=true)(hmi:ku r.cx=true):∀x∈dx r,eE x:=by
 intro x hx;unfold dx at hx;simp only[W6,WX,Xd,or_false]at hx;rcases hx with(rfl|rfl)|hx|rfl|hx|hx|hx
 ·exact fR (by decide)
 ·exact Ab hn
 ·exact Uv hc x hx
 ·exact fR (by decide)
 ·exact Q4 ha x hx
 ·exact QL (fR (by decide)) hme x hx
 ·exact QL (fR (by decide)) hmi x hx
theorem Hv{r:Rl}(hc:aY r.mt=true):ax 32 (eZ r)=ax 32 (dx r):=by
 have e:Ld r.mt=ax 32 (yB r.mt):=by unfold Ld;rw[hc];exact EE _
 have h1:eZ r=gV::(r.name::ax 32 (yB r.mt)::([yF]++(bj r.act r.out++(dF bY r.dE++(dF bu r.cx++[]))))):=by unfold eZ;rw[e];simp
 have h2:dx r=gV::(r.name::(yB r.mt++([yF]++(bj r.act r.out++(dF bY r.dE++(dF bu r.cx++[])))))):=rfl;have h3:=I0 32 r.name (yB r.mt) ([yF]++(bj r.act r.out++(dF bY r.dE++(dF bu r.cx++[])))) (R9 hc);rw[h1,h2];show gV++32::ax 32 (r.name::_)=gV++32::ax 32 (r.name::_);rw[h3]
def Jp(cf:CF):List (List Bs):=cf.ak.map eJ++cf.af.map fg++cf.ag.map fj++cf.ab.map dX++cf.rules.map dx++[lx cf.bA]
theorem EN(a b:List (List Bs)):dB (a++b)=dB a++dB b:=by simp[dB]
theorem wg{α:Type}(f g:α→List Bs):∀l:List α,(∀a∈l,ax 32 (f a)=ax 32 (g a))→dB (l.map f)=dB (l.map g)
 | [],_=>rfl
 |a::l,h=>by show jh (f a)++dB (l.map f)=jh (g a)++dB (l.map g);unfold jh;rw[h a (by simp),wg f g l fun b hb=>h b (W0 _ hb)]
theorem Jq{cf:CF}(h:r9 cf):fT cf=dB (Jp cf):=by unfold fT uF Jp;simp only[EN];rw[wg eZ dx cf.rules fun r hr=>Hv (h.rules r hr).2.1]
theorem Ge{cf:CF}(h:r9 cf):∀n∈cf.ak,∀x∈eJ n,eE x:=fun n hn x hx=>by
 simp[eJ]at hx;rcases hx with rfl|rfl
 ·exact fR (by decide)
 ·exact wj (h.ak n hn).1
theorem BC{cf:CF}(h:r9 cf):∀n∈cf.af,∀x∈fg n,eE x:=fun n hn x hx=>by
 simp[fg]at hx;rcases hx with rfl|rfl|rfl
 ·exact fR (by decide)
 ·exact K5 (h.af n hn).2.1
 ·exact wj (h.af n hn).2.2.1
theorem B6{cf:CF}(h:r9 cf):∀n∈cf.ag,∀x∈fj n,eE x:=fun n hn x hx=>by
 simp[fj]at hx;rcases hx with rfl|rfl|rfl|rfl|rfl
 ·exact fR (by decide)
 ·exact Ab (h.ag n hn).1
 all_goals exact ma _
theorem yA{cf:CF}(h:r9 cf):∀n∈cf.ab,∀x∈dX n,eE x:=fun n hn x hx=>by
 simp[dX]at hx;rcases hx with rfl|rfl|rfl|rfl
 ·exact fR (by decide)
 ·exact Ab (h.ab n hn).1
 ·exact wj (h.ab n hn).2.1
 ·exact wj (h.ab n hn).2.2.2.1
theorem F2{cf:CF}(h:r9 cf):∀r∈cf.rules,∀x∈dx r,eE x:=fun r hr=>by have:=h.rules r hr;exact Ku this.2.1 this.2.2.1 this.2.2.2.1 this.2.2.2.2.1 this.2.2.2.2.2
theorem MA{a:Int}(h:a=1∨a=2∨a=4):∀x∈lx a,eE x:=by
 intro x hx;unfold lx at hx;rcases WX.1 hx with rfl|hx
 ·exact fR (by decide)
 ·exact Q4 (by rcases h with rfl|rfl|rfl<;>decide) x hx
theorem SF{cf:CF}(h:r9 cf):∀ws∈Jp cf,∀x∈ws,eE x:=by
 intro ws hws x hx;unfold Jp at hws;simp only[W6,W3,WO]at hws;rcases hws with((((⟨n,hn,rfl⟩ | ⟨n,hn,rfl⟩)|⟨n,hn,rfl⟩)|⟨n,hn,rfl⟩)|⟨n,hn,rfl⟩)|rfl
 ·exact Ge h n hn x hx
 ·exact BC h n hn x hx
 ·exact B6 h n hn x hx
 ·exact yA h n hn x hx
 ·exact F2 h n hn x hx
 ·exact MA h.bA x hx
theorem wL:∀(l:List Int) (cf:CF),l.foldl (fun cf n=>{ cf with ak:=cf.ak++[n] }) cf={ cf with ak:=cf.ak++l }
 | [],cf=>by simp
 |a::l,cf=>by rw[WT,wL l];simp
theorem tQ:∀(l:List Rt) (cf:CF),l.foldl (fun cf n=>{ cf with af:=cf.af++[n] }) cf={ cf with af:=cf.af++l }
 | [],cf=>by simp
 |a::l,cf=>by rw[WT,tQ l];simp
theorem tR:∀(l:List Me) (cf:CF),l.foldl (fun cf n=>{ cf with ag:=cf.ag++[n] }) cf={ cf with ag:=cf.ag++l }
 | [],cf=>by simp
 |a::l,cf=>by rw[WT,tR l];simp
theorem rO:∀(l:List Mi) (cf:CF),l.foldl (fun cf n=>{ cf with ab:=cf.ab++[n] }) cf={ cf with ab:=cf.ab++l }
 | [],cf=>by simp
 |a::l,cf=>by rw[WT,rO l];simp
theorem wK:∀(l:List Rl) (cf:CF),l.foldl (fun cf n=>{ cf with rules:=cf.rules++[n] }) cf={ cf with rules:=cf.rules++l }
 | [],cf=>by simp
 |a::l,cf=>by rw[WT,wK l];simp
theorem SL(hU:Np){cf:CF}(h:r9 cf):fV (bw (fT cf)) 1 JM 0=.ok cf:=by rw[Jq h,tH (Jp cf) fun ws hws x hx=>(SF h ws hws x hx).2];unfold Jp;simp only[List.map_append,Xh,List.append_assoc];show fV (cf.ak.map (fun n=>ax 32 (eJ n))++_) 1 JM 0=_;rw[jP (W:=eJ) (add:=fun cf n=>{ cf with ak:=cf.ak++[n] }) cf.ak _ _ fun n hn=>⟨Ge h n hn,by simp[eJ];decide,fun c=>⟨_,yl (h.ak n hn).1 (h.ak n hn).2 c 0⟩⟩,wL];show fV (cf.af.map (fun n=>ax 32 (fg n))++_) _ _ 0=_;rw[jP (W:=fg) (add:=fun cf n=>{ cf with af:=cf.af++[n] }) cf.af _ _ fun n hn=>⟨BC h n hn,by simp[fg];decide,fun c=>⟨_,Ec hU (h.af n hn).1 (h.af n hn).2.1 (h.af n hn).2.2.1 (h.af n hn).2.2.2 c 0⟩⟩,tQ];show fV (cf.ag.map (fun n=>ax 32 (fj n))++_) _ _ 0=_;rw[jP (W:=fj) (add:=fun cf n=>{ cf with ag:=cf.ag++[n] }) cf.ag _ _ fun n hn=>⟨B6 h n hn,by simp[fj];decide,fun c=>⟨_,EB (h.ag n hn).1 (h.ag n hn).2.1 (h.ag n hn).2.2.1 (h.ag n hn).2.2.2 c 0⟩⟩,tR];show fV (cf.ab.map (fun n=>ax 32 (dX n))++_) _ _ 0=_;rw[jP (W:=dX) (add:=fun cf n=>{ cf with ab:=cf.ab++[n] }) cf.ab _ _ fun n hn=>⟨yA h n hn,by simp[dX];decide,fun c=>⟨_,BZ (h.ab n hn).1 (h.ab n hn).2.1 (h.ab n hn).2.2.1 (h.ab n hn).2.2.2.1 (h.ab n hn).2.2.2.2 c 0⟩⟩,rO];show fV (cf.rules.map (fun n=>ax 32 (dx n))++_) _ _ 0=_;rw[jP (W:=dx) (add:=fun cf n=>{ cf with rules:=cf.rules++[n] }) cf.rules _ _ fun n hn=>⟨F2 h n hn,by show some gV≠some bD;decide,fun c=>⟨_,Hu hU (h.rules n hn).1 (h.rules n hn).2.1 (h.rules n hn).2.2.1 (h.rules n hn).2.2.2.1 (h.rules n hn).2.2.2.2.1 (h.rules n hn).2.2.2.2.2 c 0⟩⟩,wK];have hw:=qd true (lx cf.bA) (MA h.bA);show fV (ax 32 (lx cf.bA)::[[]]) _ _ 0=_;rw[mL (by rw[hw];exact Ji h.bA _),hw];have e:aE true []=[]:=rfl;rw[mL (cf':={ ak:=cf.ak,af:=cf.af,rules:=cf.rules,ag:=cf.ag,ab:=cf.ab,bA:=cf.bA }) (i:=0) (by rw[e];rfl),e];rfl
set_option maxRecDepth 100000
open Go.RowKit Go.Lib Go.Sort _root_.Go.Proofs.Tryz
def il:List Value:=[.slice none 0 0,.slice none 0 0,.slice none 0 0,.slice none 0 0,.slice none 0 0,.int .i64 0]
def KX(n i:Nat):List (Nat×Sx.SV):=[(2,.ptr 0 0),(4,.ptr 1 0),(5,.ptr 2 0),(17,.own 8),(18,.val (.int .i64 (n:Int))),(19,.val (.int .i64 (i:Int)))]
def RJ(cf:CF)(d:Nat):List Sx.Row:=⟨46,.aj il⟩::fq none (jB 3 4 5 6 7 cf)::lZ none d::dD cf
def tw(ls:List Bs)(cf:CF)(d:Nat):List Sx.Row:=RJ cf d++[⟨9,.own 1 ls.length (ls.map ae)⟩]
structure Nq where
 i:Nat
 cf:CF
 d:Nat
structure JO(ls:List Bs)(T:U4)(k:Nq):Prop where
 le:k.i≤ls.length
 qT:k.cf.ak.length≤k.i∧k.cf.af.length≤k.i∧k.cf.rules.length≤k.i∧k.cf.ag.length≤k.i∧k.cf.ab.length≤k.i
 Vi:k.d≤k.i
 run:T=fV (ls.drop k.i) (k.i+1) k.cf k.d
noncomputable def lh(ls:List Bs)(k:Nq):Nq:=⟨k.i+1,(fm (aE true (ls.getD k.i [])) k.cf k.d).val,dN (aE true (ls.getD k.i [])) k.d⟩
def Q6(T:U4)(l:List Sx.SV)(mem:List Sx.Row):Prop:=match T with
 |.no code line=>∃j,l=[.val (.agg il.toArray),.kI 103 j 0]∧mem[j]?=some ⟨105,.aj [.int .i64 (code:Int),.int .i64 (line:Int)]⟩
 |.ok cf=>∃k0 k1 k2 k3 k4,l=[.ej [.o k0,.o k1,.o k2,.o k3,.o k4,.v (.int .i64 cf.bA)],.val .nilIface]∧mem[k0]?=some ⟨3,.own 1 cf.ak.length cf.cp⟩∧mem[k1]?=some ⟨118,.own 19 cf.af.length cf.cr⟩∧mem[k2]?=some ⟨81,.own 49 cf.rules.length cf.cl⟩∧mem[k3]?=some ⟨122,.own 4 cf.ag.length cf.cm⟩∧mem[k4]?=some ⟨124,.own 3 cf.ab.length cf.ci⟩
theorem L2{ws:List Bs}{i:Nat}{cf cf':CF}{d j:Nat}(h:rJ ws i cf d=.ok cf' j):cf'.ak.length≤cf.ak.length+1∧cf'.af.length≤cf.af.length+1∧cf'.rules.length≤cf.rules.length+1∧cf'.ag.length≤cf.ag.length+1∧cf'.ab.length≤cf.ab.length+1:=by
 obtain⟨x,k,_,h⟩:=Out.cA h;obtain⟨c,k2,hb,h⟩:=Out.cA h;have hc:cf'=c:=by
  unfold pS at h;split at h
  ·cases h
  ·injection h with h _;exact h.symm
 subst hc;unfold gf at hb;split at hb
 ·obtain⟨_,_,_,hb⟩:=Out.cA hb
  injection hb with hb _;subst hb;simp
 split at hb
 ·obtain⟨_,_,_,hb⟩:=Out.cA hb
  obtain⟨_,_,_,hb⟩:=Out.cA hb;injection hb with hb _;subst hb;simp
 split at hb
 ·obtain⟨_,_,_,hb⟩:=Out.cA hb
  obtain⟨_,_,_,hb⟩:=Out.cA hb;obtain⟨_,_,_,hb⟩:=Out.cA hb;obtain⟨_,_,_,hb⟩:=Out.cA hb;injection hb with hb _;subst hb;simp
 split at hb
 ·obtain⟨_,_,_,hb⟩:=Out.cA hb
  obtain⟨_,_,_,hb⟩:=Out.cA hb;obtain⟨_,_,_,hb⟩:=Out.cA hb;injection hb with hb _;subst hb;simp
 split at hb
 ·obtain⟨_,_,_,hb⟩:=Out.cA hb
  injection hb with hb _;subst hb;simp
 split at hb
 ·obtain⟨_,_,_,hb⟩:=Out.cA hb
  obtain⟨_,_,_,hb⟩:=Out.cA hb;injection hb with hb _;subst hb;simp
 ·cases hb
theorem LO{ws:List Bs}{cf cf':CF}{d j:Nat}(h:fm ws cf d=.ok cf' j):cf'.ak.length≤cf.ak.length+1∧cf'.af.length≤cf.af.length+1∧cf'.rules.length≤cf.rules.length+1∧cf'.ag.length≤cf.ag.length+1∧cf'.ab.length≤cf.ab.length+1:=by
 unfold fm at h;split at h
 ·injection h with h _;subst h;simp
 ·exact L2 h
theorem UO(ws:List Bs)(d:Nat):dN ws d≤d+1:=by unfold dN;split<;>omega
theorem KV{w:World}(hlan:ly w)(ls:List Bs)(hls:ls.length≤1100000)(hsz:∀x∈ls,x.length≤1100000)(T:U4)(k:Nq)(hk:JO ls T k) :
  ∃H' L',Sx.ky prog f22.ntmps ⟨w,[],fun _ _=>False⟩ (Sx.bq f22 0) H' L' ⟨KX ls.length k.i,tw ls k.cf k.d⟩
   (Sx.dP (JO ls T) (fun k=>KX ls.length k.i) (fun k=>tw ls k.cf k.d) (lh ls) (fun k=>ls.length+1 - k.i) (fun(x:Nq)=>JO ls T x∧x.i=ls.length) (fun _=>[(2,.ptr 0 0),(4,.ptr 1 0),(5,.ptr 2 0)]) (fun k=>tw ls k.cf k.d) id (Sx.eo (Sx.bq f22 0) - 1) (Sx.fM prog f22 (Q6 T) .ret) k):=by
 obtain⟨i,cf,d⟩:=k;have hk0:=hk;obtain⟨hle,hfew,hdle,hrun⟩:=hk;have hle:i≤ls.length:=hle;have qT:cf.ak.length≤1100000∧cf.af.length≤1100000∧cf.rules.length≤1100000∧cf.ag.length≤1100000∧cf.ab.length≤1100000:=⟨WW hfew.1 (by omega),WW hfew.2.1 (by omega),WW hfew.2.2.1 (by omega),WW hfew.2.2.2.1 (by omega),WW hfew.2.2.2.2 (by omega)⟩;have hd:d≤1100000:=WW hdle (by omega);have hrun:T=fV (ls.drop i) (i+1) cf d:=hrun;by_cases hlt:i < ls.length
 ·have c20:=bT ((i:Int) < (ls.length:Int)) (by omega)
  obtain⟨x,hx⟩:∃x,ls[i]?=some x:=⟨_,W9 hlt⟩;have hxl:=hsz x (List.mem_of_getElem? hx);have hdrop:ls.drop i=x::ls.drop (i+1):=by obtain⟨h1,rfl⟩:=W8.1 hx;exact List.drop_eq_getElem_cons h1
  have hgd:ls.getD i []=x:=by rw[List.getD_eq_getElem?_getD,hx];rfl
  rw[hdrop]at hrun;have c22:0≤(i:Int)∧(i:Int) < (ls.length:Int):=⟨by omega,by omega⟩;have c23:(ls.map ae)[((i:Int)).toNat*1]?=some (ae x):=by rw[Int.toNat_natCast,Nat.mul_one,List.getElem?_map,hx];rfl
  have hrows:xB (Sx.rowAt (tw ls cf d++[⟨103,.aj [.pointer none]⟩])) none none 1 2 3 4 5 6 7 cf d:=⟨rfl,rfl,rfl,rfl,rfl,rfl,rfl⟩;cases hT:fm (aE true x) cf d with
  |ok cf' j=>
   have e:T=fV (ls.drop (i+1)) (i+1+1) cf' (dN (aE true x) d):=by
    rw[hrun]
    conv=>lhs;unfold fV
    rw[hT]
   have hnx:lh ls ⟨i,cf,d⟩=⟨i+1,cf',dN (aE true x) d⟩:=by unfold lh;rw[hgd,hT];rfl
   have hll:=LO hT;have hdn:=UO (aE true x) d;have c25:=R5 (b:=⟨w,[],fun _ _=>False⟩) 10 rfl hlan (by simp) hxl qT hd hrows hT;have c27:=fun W (β:Sx.Env) (hS:Sx.eM ⟨w,[],fun _ _=>False⟩ β W (Sx.rowAt (⟨46,.aj il⟩::fq none (jB 10 11 12 13 14 cf')::lZ none (dN (aE true x) d)::([Sx.au,Sx.au,Sx.au,Sx.au,Sx.au]++[⟨9,.own 1 ls.length (ls.map ae)⟩,⟨103,.aj [.pointer none]⟩]++dD cf'))) [])=>Qm (m:=15) (k:=9) W β hS;have xR:=mY (i:=i) (by omega);have h0:JO ls T (lh ls ⟨i,cf,d⟩):=by rw[hnx];obtain⟨f0,f1,f2,f3,f4⟩:cf.ak.length≤i∧cf.af.length≤i∧cf.rules.length≤i∧cf.ag.length≤i∧cf.ab.length≤i:=hfew;obtain⟨g0,g1,g2,g3,g4⟩:=hll;have hdi:d≤i:=hdle;exact⟨hlt,⟨show cf'.ak.length≤i+1 by omega,show cf'.af.length≤i+1 by omega,show cf'.rules.length≤i+1 by omega,show cf'.ag.length≤i+1 by omega,show cf'.ab.length≤i+1 by omega⟩,show dN (aE true x) d≤i+1 by omega,e⟩
   have h1:ls.length+1 - (lh ls ⟨i,cf,d⟩).i < ls.length+1 - i:=by rw[hnx]; show ls.length+1 - (i+1) < _; omega
   have h2:KX ls.length (i+1)=KX ls.length (lh ls ⟨i,cf,d⟩).i:=by rw[hnx]
   have z3:(⟨46,.aj il⟩::fq none (jB 10 11 12 13 14 cf')::lZ none (dN (aE true x) d)::(dD cf'++[⟨9,.own 1 ls.length (ls.map ae)⟩]):List Sx.Row)=⟨46,.aj il⟩::fq none (jB 10 11 12 13 14 (lh ls ⟨i,cf,d⟩).cf)::lZ none (lh ls ⟨i,cf,d⟩).d::(dD (lh ls ⟨i,cf,d⟩).cf++[⟨9,.own 1 ls.length (ls.map ae)⟩]):=by rw[hnx]
   refine⟨[(20,.is (.bool true)),(22,.ix),(23,.ld (ae x)),(25,.ay (VT none none [] 1 2 3 4 5 6 7 10 cf' (dN (aE true x) d) .nilIface none)),(27,.ay ⟨[],[],[],[],.val (.bool false),none⟩),(36,.is (.int .i64 ((i+1:Nat):Int)))],[],?_⟩;exact Xc (by kernel_rfl) (Sx.t8 c20 c22 c23 c25 c27 xR h0 h1 (W2 h2 z3))
  |no code p=>
   have e:T=.no code (i+1):=by
    rw[hrun]
    conv=>lhs;unfold fV
    rw[hT]
   have c25:=O7 (b:=⟨w,[],fun _ _=>False⟩) 10 rfl hlan (by simp) hxl qT hd hrows hT;have c27:=fun W (β:Sx.Env) (hS:Sx.eM ⟨w,[],fun _ _=>False⟩ β W (Sx.rowAt (⟨46,.aj il⟩::([Sx.au,Sx.au,Sx.au,Sx.au,Sx.au,Sx.au,Sx.au]++[⟨9,.own 1 ls.length (ls.map ae)⟩,⟨103,.aj [.pointer none]⟩,⟨105,.aj [.int .i64 (code:Int),.int .i64 (p:Int)]⟩]))) [9])=>G6 (m:=11) (k:=9) (N:=10) hlan (by simp) rfl W β hS;have c30:=mY (i:=i) (by omega);have z0:Q6 T [.val (.agg il.toArray),.kI 103 10 0] (⟨46,.aj il⟩::([Sx.au,Sx.au,Sx.au,Sx.au,Sx.au,Sx.au,Sx.au]++[⟨9,.own 1 ls.length (ls.map ae)⟩,⟨103,.dC [.ptr 10 0]⟩,⟨105,.aj [.int .i64 (code:Int),.int .i64 ((i+1:Nat):Int)]⟩])):=by rw[e];exact⟨10,rfl,rfl⟩
   refine⟨[(20,.is (.bool true)),(22,.ix),(23,.ld (ae x)),(25,.ay (UY 10 code p)),(27,.ay ⟨[9],[(9,⟨103,.dC [.ptr 10 0]⟩)],[],[],.val (.bool true),none⟩),(30,.is (.int .i64 ((i+1:Nat):Int)))],[],?_⟩;exact Xc (by kernel_rfl) (Sx.t4 c20 c22 c23 c25 (Sx.t2 c27 c30 z0))
 ·have c20:=bF ((i:Int) < (ls.length:Int)) (by omega)
  have h0:JO ls T ⟨i,cf,d⟩∧i=ls.length:=⟨hk0,by omega⟩;have h1:([(2,.ptr 0 0),(4,.ptr 1 0),(5,.ptr 2 0)]:List (Nat×Sx.SV))=[(2,.ptr 0 0),(4,.ptr 1 0),(5,.ptr 2 0)]:=rfl;have z2:tw ls cf d=tw ls cf d:=rfl;refine⟨[(20,.is (.bool false))],[],?_⟩;exact Xc (by kernel_rfl) (Sx.t2 c20 h0 (W2 h1 z2))
set_option maxRecDepth 100000
open Go.RowKit Go.Lib Go.Sort _root_.Go.Proofs.Tryz
set_option maxRecDepth 100000
noncomputable def j3(s:Bs):U4:=if 65536 < s.length then .no 4 0 else fV (bw s) 1 JM 0
theorem yf(w:World):Sx.Rows ⟨w,[],fun _ _=>False⟩ (Sx.cV []) w []:=Sx.gM (w:=w) (S:=[]) (PP:=fun _ _=>False) (G:=[]) (fun q hq=>by cases hq) (fun q hq=>by cases hq) (by simp)
theorem Il(w:World)(s:Bs)(hs:65536 < s.length):Calls prog 22 #[ae s] w (Sx.dc ⟨w,[],fun _ _=>False⟩ (Q6 (j3 s))):=by
 have hT:j3 s=.no 4 0:=by unfold j3;rw[if_pos hs]
 have c10:=iY s;have gb:=bT ((s.length:Int) > 65536) (by omega);have z0:Q6 (j3 s) [.val (.agg il.toArray),.kI 103 1 0] [⟨46,.aj il⟩,⟨105,.aj [.int .i64 4,.int .i64 0]⟩]:=by rw[hT];exact⟨1,rfl,rfl⟩
 refine Sx.b6 (args:=[.val (ae s)]) (yf w) [(10,.is (.int .i64 (s.length:Int))),(11,.is (.bool true))] [] (by kernel_rfl) func22 rfl (bU rfl) rfl ?_;exact Xc (by kernel_rfl) (Sx.t2 c10 gb z0)
theorem Eh(w:World)(hlan:ly w)(s:Bs)(hs:s.length≤65536):Calls prog 22 #[ae s] w (Sx.dc ⟨w,[],fun _ _=>False⟩ (Q6 (j3 s))):=by
 have hT:j3 s=fV (bw s) 1 JM 0:=by unfold j3;rw[if_neg (by omega)]
 generalize j3 s=T at hT;have c10:=iY s;have gb:=bF ((s.length:Int) > 65536) (by omega);have hcount:=gK 10 s;have c17:=fun W (hW:ai [] w W)=>Oa W s (by omega) (hlan.aF hW (by simp)).uB;have h0:JO (bw s) T ⟨0,JM,0⟩:=⟨Nat.zero_le _,⟨WY _,WY _,WY _,WY _,WY _⟩,WY _,hT⟩;have jz:=KV hlan (bw s) (by show(bJ 10 s).length≤_;omega) (fun x hx=>by have:=iq 10 s x hx;omega) T;have e1:([(2,.ptr 0 0),(4,.ptr 1 0),(5,.ptr 7 0),(17,.own 8),(18,.val (.int .i64 ((bw s).length:Int))),(19,.val (.int .i64 ((0:Nat):Int)))]:List (Nat×Sx.SV))=[(2,.ptr 0 0),(4,.ptr 1 0),(5,.ptr 7 0),(17,.own 8),(18,.val (.int .i64 ((bw s).length:Int))),(19,.val (.int .i64 ((0:Nat):Int)))]∧
   (⟨46,.aj il⟩::fq none (jB 2 3 4 5 6 JM)::lZ none 0::(dD JM++[⟨9,.own 1 (bw s).length ((bw s).map ae)⟩]):List Sx.Row)=⟨46,.aj il⟩::fq none (jB 2 3 4 5 6 JM)::lZ none 0::(dD JM++[⟨9,.own 1 (bw s).length ((bw s).map ae)⟩]):=⟨rfl,rfl⟩
 have fin:∀x:Nq,JO (bw s) T x→x.i=(bw s).length→T=.ok (if x.d=0 then { x.cf with bA:=2 }else x.cf):=fun x hx hi=>by rw[hx.run,hi,List.drop_length];rfl
 have z6f:=fun(x:Nq) (hx:JO (bw s) T x∧x.i=(bw s).length) (hb:(((x.d:Nat):Int)==0)=true)=>(show Q6 T [.ej [.o 3,.o 4,.o 5,.o 6,.o 7,.v (.int .i64 2)],.val .nilIface] (⟨46,.dC [.own 3,.own 4,.own 5,.own 6,.own 7,.val (.int .i64 2)]⟩::⟨46,.dC [.own 3,.own 4,.own 5,.own 6,.own 7,.val (.int .i64 2)]⟩::lZ none x.d::(dD x.cf++[⟨9,.own 1 (bw s).length ((bw s).map ae)⟩]))from by
  have hd:x.d=0:=by have:=beq_iff_eq.1 hb;omega
  rw[fin x hx.1 hx.2,if_pos hd];exact⟨3,4,5,6,7,rfl,rfl,rfl,rfl,rfl,rfl⟩)
 have z7f:=fun(x:Nq) (hx:JO (bw s) T x∧x.i=(bw s).length) (hb:(((x.d:Nat):Int)==0)=false)=>(show Q6 T [.ej [.o 3,.o 4,.o 5,.o 6,.o 7,.v (.int .i64 x.cf.bA)],.val .nilIface] (⟨46,.dC [.own 3,.own 4,.own 5,.own 6,.own 7,.val (.int .i64 x.cf.bA)]⟩::fq none (jB 3 4 5 6 7 x.cf)::lZ none x.d::(dD x.cf++[⟨9,.own 1 (bw s).length ((bw s).map ae)⟩]))from by
  have hd:x.d≠0:=by intro h0;rw[h0]at hb;cases hb
  rw[fin x hx.1 hx.2,if_neg hd];exact⟨3,4,5,6,7,rfl,rfl,rfl,rfl,rfl,rfl⟩)
 refine Sx.b6 (args:=[.val (ae s)]) (yf w) [(10,.is (.int .i64 (s.length:Int))),(11,.is (.bool false)),(4,.vS [(0,3,1),(1,118,19),(2,81,49),(3,122,4),(4,124,3)]),(17,.bS (.sl 9 1 (bw s).length ((bw s).map ae)))]
  [.mk Nq ⟨0,JM,0⟩ (JO (bw s) T) (fun k=>KX (bw s).length k.i) (fun k=>tw (bw s) k.cf k.d) (lh (bw s)) (fun k=>(bw s).length+1 - k.i) Nq (fun x=>JO (bw s) T x∧x.i=(bw s).length) (fun _=>[(2,.ptr 0 0),(4,.ptr 1 0),(5,.ptr 2 0)]) (fun k=>tw (bw s) k.cf k.d) id] (by kernel_rfl) func22 rfl (bU rfl) rfl ?_
 exact Xc (by kernel_rfl) (Sx.t4 c10 gb c17 h0 (Sx.t2 e1 jz (fun(x3:Nq) (hx4:JO (bw s) T x3∧x3.i=(bw s).length)=>(Sx.aG (b:=x3.d.cast==OfNat.ofNat (nat_lit 0)) (fun hb5=>(z6f x3 hx4 hb5)) (fun hb5=>(z7f x3 hx4 hb5))))))
theorem Gw(w:World)(hlan:ly w)(s:Bs):Calls prog 22 #[ae s] w (Sx.dc ⟨w,[],fun _ _=>False⟩ (Q6 (j3 s))):=by
 by_cases hs:65536 < s.length
 ·exact Il w s hs
 ·exact Eh w hlan s (by omega)
open Go.RowKit Go.Lib Go.Sort
theorem Mt.Wf.in{m:Mt}(h:m.Wf):FC m:=⟨h.fE.1,h.fE.2,h.sp.1,h.sp.2,h.dp.1,h.dp.2,h.pr,h.sn,h.dn⟩
theorem r9.in{cf:CF}(h:r9 cf):S6 cf:=⟨fun n hn=>(h.ak n hn).2,fun r hr=>⟨(h.af r hr).1,(h.af r hr).2.2.2⟩,fun m hm=>(h.ag m hm).2,fun m hm=>⟨(h.ab m hm).2.2.1,(h.ab m hm).2.2.2.2⟩,fun r hr=>(h.rules r hr).1⟩
open Go Go.RowKit Go.Lib Go.Sort
theorem Dk{P:Program}{f:FuncId}{args:Array Value}{w:World}{v v':Value}(h:Calls P f args w (Rn w v))(h':Calls P f args w (Rn w v'))(hi:P.inits.idxOf? f=none):v=v':=by
 have k1:Calls P f args w fun | .returned u,_=>u=v|_,_=>False:=h.mono fun e w' ⟨he,_⟩=>by subst he;rfl
 have k2:Calls P f args w fun | .returned u,_=>u=v' | _,_=>False:=h'.mono fun e w' ⟨he,_⟩=>by subst he;rfl
 obtain⟨n,u,w1,e1,r1⟩:=k1.done hi;obtain⟨m,u',w2,e2,r2⟩:=k2.done hi;have a:=runN_ended e1 m;have b:=runN_ended e2 n;rw[Nat.add_comm,a]at b;injection b with ho _;injection ho with hv;rw[←r1,←r2,hv]
theorem RI{w:World}(hl:dO w):Np:=fun p hn hk=>by
 have e:xI p=iV p.v p.n p.k:=by unfold xI j7;rw[if_pos hk]
 have hp:r7 (xI p) p.v p.n p.k:=⟨hn,hk,e.symm⟩;cases hr:nE (xI p)with
 |none=>exact absurd hp (vw hr p.v p.n p.k)
 |some q=>
  have hq:=ri hr;have h1:=vr hp (uu p) w hl;have h2:=vr hq (uu p) w hl;have hv:=Dk h1 h2 (by kernel_rfl);injection hv with hv;have hv:#[Xa (cZ p.v p.n p.k).toArray,.int .i64 0]=#[Xa (cZ q.v q.n q.k).toArray,.int .i64 0]:=hv;have hv:=congrArg Array.toList hv;injection hv with hv _;injection hv with hv;have hv:cZ p.v p.n p.k=cZ q.v q.n q.k:=by simpa using hv
  rw[Px.cW (p:=p) (q:=q) hn hq.1 hv]
def Dg(m:Nat)(cf:CF):List Sx.Atom:=[.o m,.o (m+1),.o (m+2),.o (m+3),.o (m+4),.v (.int .i64 cf.bA)]
structure DJ(w:World)(cf:CF)(s:gG):Prop where
 p:Own w 3 1 (.slice s.p.A cf.ak.length s.p.c) cf.ak.length cf.cp
 r:Own w 118 19 (.slice s.r.A cf.af.length s.r.c) cf.af.length cf.cr
 l:Own w 81 49 (.slice s.l.A cf.rules.length s.l.c) cf.rules.length cf.cl
 m:Own w 122 4 (.slice s.m.A cf.ag.length s.m.c) cf.ag.length cf.cm
 i:Own w 124 3 (.slice s.i.A cf.ab.length s.i.c) cf.ab.length cf.ci
def gG.new(s:gG)(N:Nat):Prop:=∀A∈[s.p.A,s.r.A,s.l.A,s.m.A,s.i.A],∀k,A.map (·.block)=some k→N≤k
theorem DJ.rd{w:World}{cf:CF}{s:gG}{S:List Nat}(h:DJ w cf s)(hS:∀A∈[s.p.A,s.r.A,s.l.A,s.m.A,s.i.A],∀k,A.map (·.block)=some k→k∉S):jN w S cf s:=by have hh:∀A∈[s.p.A,s.r.A,s.l.A,s.m.A,s.i.A],∀n c k,(Value.slice A n c).ownBlock=some k→k∉S:=fun A hA n c k hk=>hS A hA k (by rw[Hl]at hk;exact hk);exact⟨pT.om h.p (hh _ (by simp) _ _),pT.om h.r (hh _ (by simp) _ _),pT.om h.l (hh _ (by simp) _ _),pT.om h.m (hh _ (by simp) _ _),pT.om h.i (hh _ (by simp) _ _)⟩
theorem bR{w:World}{T T' size size' n n' c c':Nat}{A A':Option Go.Addr}{xs xs':List Value}(h:Own w T size (.slice A n c) n xs)(h':Own w T' size' (.slice A' n' c') n' xs')(hne:T≠T'){x:Nat}(hx:A.map (·.block)=some x)(hx':A'.map (·.block)=some x):False:=
 h.Lt h' hne x (by rw[Hl];exact hx) (by rw[Hl];exact hx')
theorem yZ{β:Sx.Env}{W w':World}{row:Nat→Option Sx.Row}{m:Nat}{X:List Nat}{cf:CF}{s:gG}{ret:Sx.SV}{e:Ending}(h:DJ w' cf s)(hn:s.new W.heap.size)(hret:e=.returned (ret.den (aJ β m cf s)))(hc:ai [] W w') :
  Sx.FD β W row m ⟨X,[],[],dD cf,ret,none⟩ e w' (aJ β m cf s):=by
 have hold:∀i,i < m→β i=(aJ β m cf s) i∧β.a i=(aJ β m cf s).a i∧β.n i=(aJ β m cf s).n i∧β.c i=(aJ β m cf s).c i:=fun i hi=>by
  refine⟨rfl,?_,?_,?_⟩
  ·show β.a i=if i=m then s.p.A else if i=m+1 then s.r.A else if i=m+2 then s.l.A else if i=m+3 then s.m.A else if i=m+4 then s.i.A else β.a i
   rw[if_neg (by omega),if_neg (by omega),if_neg (by omega),if_neg (by omega),if_neg (by omega)]
  ·show β.n i=if i=m then cf.ak.length else if i=m+1 then cf.af.length else if i=m+2 then cf.rules.length else if i=m+3 then cf.ag.length else if i=m+4 then cf.ab.length else β.n i
   rw[if_neg (by omega),if_neg (by omega),if_neg (by omega),if_neg (by omega),if_neg (by omega)]
  ·show β.c i=if i=m then s.p.c else if i=m+1 then s.r.c else if i=m+2 then s.l.c else if i=m+3 then s.m.c else if i=m+4 then s.i.c else β.c i
   rw[if_neg (by omega),if_neg (by omega),if_neg (by omega),if_neg (by omega),if_neg (by omega)]
 have a1:∀j k:Nat,m+j=m+k↔j=k:=fun j k=>by omega
 have a2:∀k:Nat,m+(k+1)≠m:=fun k=>by omega
 have aA:(aJ β m cf s).a m=s.p.A∧(aJ β m cf s).a (m+1)=s.r.A∧(aJ β m cf s).a (m+2)=s.l.A∧(aJ β m cf s).a (m+3)=s.m.A∧(aJ β m cf s).a (m+4)=s.i.A:=by simp[aJ]
 have aN:(aJ β m cf s).n m=cf.ak.length∧(aJ β m cf s).n (m+1)=cf.af.length∧(aJ β m cf s).n (m+2)=cf.rules.length∧(aJ β m cf s).n (m+3)=cf.ag.length∧(aJ β m cf s).n (m+4)=cf.ab.length:=by simp[aJ]
 have aC:(aJ β m cf s).c m=s.p.c∧(aJ β m cf s).c (m+1)=s.r.c∧(aJ β m cf s).c (m+2)=s.l.c∧(aJ β m cf s).c (m+3)=s.m.c∧(aJ β m cf s).c (m+4)=s.i.c:=by simp[aJ]
 have bO:∀(k:Nat) (r:Sx.Row) (x:Nat),(dD cf)[k]?=some r→Sx.aB (aJ β m cf s) (m+k) r=some x→(k=0∧s.p.A.map (·.block)=some x)∨(k=1∧s.r.A.map (·.block)=some x)∨(k=2∧s.l.A.map (·.block)=some x)∨(k=3∧s.m.A.map (·.block)=some x)∨(k=4∧s.i.A.map (·.block)=some x):=by
  intro k r x hr hx;match k,hr with
  | 0,hr=>cases hr;have hx:((aJ β m cf s).a (m+0)).map (·.block)=some x:=hx;rw[W5,aA.1]at hx;exact .inl ⟨rfl,hx⟩
  | 1,hr=>cases hr;have hx:((aJ β m cf s).a (m+1)).map (·.block)=some x:=hx;rw[aA.2.1]at hx;exact .inr (.inl ⟨rfl,hx⟩)
  | 2,hr=>cases hr;have hx:((aJ β m cf s).a (m+2)).map (·.block)=some x:=hx;rw[aA.2.2.1]at hx;exact .inr (.inr (.inl ⟨rfl,hx⟩))
  | 3,hr=>cases hr;have hx:((aJ β m cf s).a (m+3)).map (·.block)=some x:=hx;rw[aA.2.2.2.1]at hx;exact .inr (.inr (.inr (.inl ⟨rfl,hx⟩)))
  | 4,hr=>cases hr;have hx:((aJ β m cf s).a (m+4)).map (·.block)=some x:=hx;rw[aA.2.2.2.2]at hx;exact .inr (.inr (.inr (.inr ⟨rfl,hx⟩)))
 refine⟨hold,hret,fun q hq=>(by cases hq),fun k r hr=>?_,fun k r x hr hx=>?_,fun k k' r r' x hr hr' hx hx'=>?_,hc⟩
 ·match k,hr with
  | 0,hr=>cases hr;show(aJ β m cf s).n (m+0)=cf.ak.length∧Own w' 3 1 (.slice ((aJ β m cf s).a (m+0)) cf.ak.length ((aJ β m cf s).c (m+0))) cf.ak.length cf.cp;rw[W5,aA.1,aN.1,aC.1];exact⟨rfl,h.p⟩
  | 1,hr=>cases hr;show(aJ β m cf s).n (m+1)=cf.af.length∧Own w' 118 19 (.slice ((aJ β m cf s).a (m+1)) cf.af.length ((aJ β m cf s).c (m+1))) cf.af.length cf.cr;rw[aA.2.1,aN.2.1,aC.2.1];exact⟨rfl,h.r⟩
  | 2,hr=>cases hr;show(aJ β m cf s).n (m+2)=cf.rules.length∧Own w' 81 49 (.slice ((aJ β m cf s).a (m+2)) cf.rules.length ((aJ β m cf s).c (m+2))) cf.rules.length cf.cl;rw[aA.2.2.1,aN.2.2.1,aC.2.2.1];exact⟨rfl,h.l⟩
  | 3,hr=>cases hr;show(aJ β m cf s).n (m+3)=cf.ag.length∧Own w' 122 4 (.slice ((aJ β m cf s).a (m+3)) cf.ag.length ((aJ β m cf s).c (m+3))) cf.ag.length cf.cm;rw[aA.2.2.2.1,aN.2.2.2.1,aC.2.2.2.1];exact⟨rfl,h.m⟩
  | 4,hr=>cases hr;show(aJ β m cf s).n (m+4)=cf.ab.length∧Own w' 124 3 (.slice ((aJ β m cf s).a (m+4)) cf.ab.length ((aJ β m cf s).c (m+4))) cf.ab.length cf.ci;rw[aA.2.2.2.2,aN.2.2.2.2,aC.2.2.2.2];exact⟨rfl,h.i⟩
 ·rcases bO k r x hr hx with⟨_,h1⟩ | ⟨_,h1⟩ | ⟨_,h1⟩ | ⟨_,h1⟩ | ⟨_,h1⟩<;>exact .inr (hn _ (by simp) x h1)
 ·have b1:=bO k r x hr hx
  have b2:=bO k' r' x hr' hx';rcases b1 with⟨rfl,h1⟩ | ⟨rfl,h1⟩ | ⟨rfl,h1⟩ | ⟨rfl,h1⟩ | ⟨rfl,h1⟩<;>rcases b2 with⟨rfl,h2⟩ | ⟨rfl,h2⟩ | ⟨rfl,h2⟩ | ⟨rfl,h2⟩ | ⟨rfl,h2⟩
  ·rfl
  ·exact(bR h.p h.r (by decide) h1 h2).elim
  ·exact(bR h.p h.l (by decide) h1 h2).elim
  ·exact(bR h.p h.m (by decide) h1 h2).elim
  ·exact(bR h.p h.i (by decide) h1 h2).elim
  ·exact(bR h.r h.p (by decide) h1 h2).elim
  ·rfl
  ·exact(bR h.r h.l (by decide) h1 h2).elim
  ·exact(bR h.r h.m (by decide) h1 h2).elim
  ·exact(bR h.r h.i (by decide) h1 h2).elim
  ·exact(bR h.l h.p (by decide) h1 h2).elim
  ·exact(bR h.l h.r (by decide) h1 h2).elim
  ·rfl
  ·exact(bR h.l h.m (by decide) h1 h2).elim
  ·exact(bR h.l h.i (by decide) h1 h2).elim
  ·exact(bR h.m h.p (by decide) h1 h2).elim
  ·exact(bR h.m h.r (by decide) h1 h2).elim
  ·exact(bR h.m h.l (by decide) h1 h2).elim
  ·rfl
  ·exact(bR h.m h.i (by decide) h1 h2).elim
  ·exact(bR h.i h.p (by decide) h1 h2).elim
  ·exact(bR h.i h.r (by decide) h1 h2).elim
  ·exact(bR h.i h.l (by decide) h1 h2).elim
  ·exact(bR h.i h.m (by decide) h1 h2).elim
  ·rfl
structure Nw(mem:List Sx.Row)(k0 k1 k2 k3 k4:Nat)(cf:CF):Prop where
 p:mem[k0]?=some ⟨3,.own 1 cf.ak.length cf.cp⟩
 r:mem[k1]?=some ⟨118,.own 19 cf.af.length cf.cr⟩
 l:mem[k2]?=some ⟨81,.own 49 cf.rules.length cf.cl⟩
 m:mem[k3]?=some ⟨122,.own 4 cf.ag.length cf.cm⟩
 i:mem[k4]?=some ⟨124,.own 3 cf.ab.length cf.ci⟩
def mC(β:Sx.Env)(k0 k1 k2 k3 k4:Nat):gG:=⟨⟨β.a k0,β.c k0⟩,⟨β.a k1,β.c k1⟩,⟨β.a k2,β.c k2⟩,⟨β.a k3,β.c k3⟩,⟨β.a k4,β.c k4⟩⟩
theorem Df{β:Sx.Env}{b:Sx.aV}{w':World}{mem:List Sx.Row}{k0 k1 k2 k3 k4:Nat}{cf:CF}(hR:Sx.Rows b β w' mem)(h:Nw mem k0 k1 k2 k3 k4 cf)(hS:b.S=[]) :
  DJ w' cf (mC β k0 k1 k2 k3 k4)∧(mC β k0 k1 k2 k3 k4).new b.w.heap.size∧β.n k0=cf.ak.length∧β.n k1=cf.af.length∧β.n k2=cf.rules.length∧β.n k3=cf.ag.length∧β.n k4=cf.ab.length:=by
 have o0:β.n k0=cf.ak.length∧Own w' 3 1 (.slice (β.a k0) cf.ak.length (β.c k0)) cf.ak.length cf.cp:=hR.held k0 _ h.p;have o1:β.n k1=cf.af.length∧Own w' 118 19 (.slice (β.a k1) cf.af.length (β.c k1)) cf.af.length cf.cr:=hR.held k1 _ h.r;have o2:β.n k2=cf.rules.length∧Own w' 81 49 (.slice (β.a k2) cf.rules.length (β.c k2)) cf.rules.length cf.cl:=hR.held k2 _ h.l;have o3:β.n k3=cf.ag.length∧Own w' 122 4 (.slice (β.a k3) cf.ag.length (β.c k3)) cf.ag.length cf.cm:=hR.held k3 _ h.m;have o4:β.n k4=cf.ab.length∧Own w' 124 3 (.slice (β.a k4) cf.ab.length (β.c k4)) cf.ab.length cf.ci:=hR.held k4 _ h.i;refine⟨⟨o0.2,o1.2,o2.2,o3.2,o4.2⟩,fun A hA k hk=>?_,o0.1,o1.1,o2.1,o3.1,o4.1⟩;have key:∀(i:Nat) (r:Sx.Row),mem[i]?=some r→Sx.aB β i r=some k→b.w.heap.size≤k:=fun i r hi hr=>by
  rcases hR.new i r k hi hr with hh|hh
  ·rw[hS]at hh;cases hh
  ·exact hh
 simp only[mC,WX,Xd,or_false]at hA;rcases hA with rfl|rfl|rfl|rfl|rfl
 ·exact key k0 _ h.p hk
 ·exact key k1 _ h.r hk
 ·exact key k2 _ h.l hk
 ·exact key k3 _ h.m hk
 ·exact key k4 _ h.i hk
theorem xn{b:Sx.aV}{β:Sx.Env}{W:World}{mem:List Sx.Row}{gw:List Nat}{m:Nat}{cf:CF}(hS:Sx.eM b β W (Sx.rowAt mem) gw)(h:Nw mem m (m+1) (m+2) (m+3) (m+4) cf)(hs:∀k∈[m,m+1,m+2,m+3,m+4],k∈gw) :
  jN W [] cf (mC β m (m+1) (m+2) (m+3) (m+4))∧(Sx.SV.ej (Dg m cf)).den β=.agg (aL cf (mC β m (m+1) (m+2) (m+3) (m+4))).toArray:=by
 have o0:β.n m=cf.ak.length∧Own W 3 1 (.slice (β.a m) cf.ak.length (β.c m)) cf.ak.length cf.cp:=hS.held m (hs _ (by simp)) _ h.p;have o1:β.n (m+1)=cf.af.length∧Own W 118 19 (.slice (β.a (m+1)) cf.af.length (β.c (m+1))) cf.af.length cf.cr:=hS.held (m+1) (hs _ (by simp)) _ h.r;have o2:β.n (m+2)=cf.rules.length∧Own W 81 49 (.slice (β.a (m+2)) cf.rules.length (β.c (m+2))) cf.rules.length cf.cl:=hS.held (m+2) (hs _ (by simp)) _ h.l;have o3:β.n (m+3)=cf.ag.length∧Own W 122 4 (.slice (β.a (m+3)) cf.ag.length (β.c (m+3))) cf.ag.length cf.cm:=hS.held (m+3) (hs _ (by simp)) _ h.m;have o4:β.n (m+4)=cf.ab.length∧Own W 124 3 (.slice (β.a (m+4)) cf.ab.length (β.c (m+4))) cf.ab.length cf.ci:=hS.held (m+4) (hs _ (by simp)) _ h.i;refine⟨DJ.rd ⟨o0.2,o1.2,o2.2,o3.2,o4.2⟩ (fun _ _ _ _ h=>by cases h),?_⟩;show Xa ([β.sl m,β.sl (m+1),β.sl (m+2),β.sl (m+3),β.sl (m+4),.int .i64 cf.bA]:List Value).toArray=_;unfold Sx.Env.sl;rw[o0.1,o1.1,o2.1,o3.1,o4.1];rfl
set_option maxRecDepth 100000
open Go Go.RowKit Go.Lib Go.Sort _root_.Go.Proofs.Tryz
set_option maxRecDepth 100000
def wW:Bs:=[112,111,114,116,32,51,10,112,111,114,116,32,52,10,114,111,117,116,101,32,49,48,46,48,46,48,46,48,47,56,32,51,10,109,101,116,101,114,32,109,32,53,32,50,32,57,10,109,105,114,114,111,114,32,99,32,52,32,49,54,10,114,117,108,101,32,97,32,112,114,111,116,111,32,116,99,112,32,100,112,111,114,116,32,56,48,45,57,48,32,45,62,32,111,117,116,32,52,32,109,101,116,101,114,32,109,32,109,105,114,114,111,114,32,99,10,114,117,108,101,32,98,32,97,110,121,32,45,62,32,100,114,111,112,10,100,101,102,97,117,108,116,32,114,111,117,116,101,10]
def MY:Bs:=[112,111,114,116,32,49,10,109,101,116,101,114,32,49,120,32,49,32,49,32,49,10]
theorem UN(u:Nat)(h:u < 10):an 10 u=[sig u]:=bp h
theorem Vj(u:Nat)(h:¬u < 10)(h2:u / 10 < 10):an 10 u=[sig (u / 10),sig (u%10)]:=by rw[dK (by omega) h,bp h2]; rfl
theorem VL(u:Nat)(h:u < 10):da (u:Int)=[sig u]:=by rw[lY,bp h]
theorem Jc:xI AI=[49,48,46,48,46,48,46,48,47,56]:=by
 have hk:fW AI.v AI.n AI.k=true:=by decide
 unfold xI j7;rw[if_pos hk];show ff (10*2^120)++47::an 10 8=_;unfold ff;rw[show ah (10*2^120) 0=10 by decide,show ah (10*2^120) 1=0 by decide,show ah (10*2^120) 2=0 by decide,show ah (10*2^120) 3=0 by decide,Vj 10 (by omega) (by omega),UN 0 (by omega),UN 8 (by omega)];rfl
theorem PZ:aY AJ=true:=by decide
theorem Jd:Ld AJ=[112,114,111,116,111,32,116,99,112,32,100,112,111,114,116,32,56,48,45,57,48]:=by
 unfold Ld;rw[PZ];show lk AJ=_;unfold lk;rw[if_neg (by decide)];have e:kG AJ=[fS,dR 6,jt,eP (80,90)]:=rfl;rw[e];have e1:dR 6=js:=rfl;have e2:eP (80,90)=[56,48,45,57,48]:=by unfold eP;rw[if_neg (by decide)];show an 10 80++45::an 10 90=_;rw[Vj 80 (by omega) (by omega),Vj 90 (by omega) (by omega)];rfl
 rw[e1,e2];rfl
theorem pD:fT dj=wW:=by
 have i1:da 3=[51]:=VL 3 (by omega);have i2:da 4=[52]:=VL 4 (by omega);have i3:da 16=[49,54]:=by have h:da 16=an 10 16:=lY 16;rw[h,Vj 16 (by omega) (by omega)];rfl
 have l0:eJ 3=[lX,[51]]:=by unfold eJ;rw[i1]
 have l1:eJ 4=[lX,[52]]:=by unfold eJ;rw[i2]
 have l2:fg ⟨AI,3⟩=[dI,[49,48,46,48,46,48,46,48,47,56],[51]]:=by show [dI,xI AI,da 3]=_;rw[Jc,i1]
 have l3:fj ⟨[109],5,2,9⟩=[bY,[109],[53],[50],[57]]:=by show [bY,[109],an 10 5,an 10 2,an 10 9]=_;rw[UN 5 (by omega),UN 2 (by omega),UN 9 (by omega)];rfl
 have l4:dX ⟨[99],4,16⟩=[bu,[99],[52],[49,54]]:=by show [bu,[99],da 4,da 16]=_;rw[i2,i3]
 have l5:eZ ⟨[97],AJ,3,4,[109],[99]⟩=[gV,[97],[112,114,111,116,111,32,116,99,112,32,100,112,111,114,116,32,56,48,45,57,48],yF,qz,[52],bY,[109],bu,[99]]:=by unfold eZ;rw[Jd,show bj 3 4=[qz,[52]] by unfold bj;rw[if_neg (by decide),if_neg (by decide),if_pos rfl,i2]];rfl
 have l6:eZ ⟨[98],ei,2,0,[],[]⟩=[gV,[98],gD,yF,nq]:=rfl;have l7:lx 1=[bD,dI]:=rfl;have e:uF dj=[eJ 3,eJ 4,fg ⟨AI,3⟩,fj ⟨[109],5,2,9⟩,dX ⟨[99],4,16⟩,eZ ⟨[97],AJ,3,4,[109],[99]⟩,eZ ⟨[98],ei,2,0,[],[]⟩,lx 1]:=rfl;unfold fT;rw[e,l0,l1,l2,l3,l4,l5,l6,l7];rfl
theorem CU:xo dj=0:=by decide
theorem P1:S6 dj:=by
 refine⟨fun n hn=>?_,fun r hr=>?_,fun m hm=>?_,fun m hm=>?_,fun r hr=>?_⟩
 ·simp[dj]at hn;omega
 ·simp[dj]at hr;subst hr;decide
 ·simp[dj]at hm;subst hm;decide
 ·simp[dj]at hm;subst hm;decide
 ·simp[dj]at hr
  rcases hr with rfl|rfl
  ·exact⟨⟨by decide,by decide,by decide,by decide,by decide,by decide,by decide,by decide,by decide⟩,by decide⟩
  ·exact⟨⟨by decide,by decide,by decide,by decide,by decide,by decide,by decide,by decide,by decide⟩,by decide⟩
theorem P0:r9 dj:=(MI P1).1 CU
theorem Fb:jn dj=(wW,0):=by
 have h:xP dj=0:=by unfold xP;rw[pD,CU];decide
 unfold jn;rw[if_pos h,pD]
theorem PW(hU:Np):j3 wW=.ok dj:=by unfold j3;rw[if_neg (by decide),←pD];exact SL hU P0
theorem Qi:j3 MY=.no 201 2:=by
 unfold j3;rw[if_neg (by decide)];have e:bw MY=[[112,111,114,116,32,49],[109,101,116,101,114,32,49,120,32,49,32,49,32,49],[]]:=rfl;rw[e];have w1:aE true [112,111,114,116,32,49]=eJ 1:=by have i1:da 1=[49]:=VL 1 (by omega);show _=[lX,da 1];rw[i1];rfl
 rw[mL (by rw[w1];exact yl (by decide) (by decide) JM 0)];rw[fV];rfl
theorem R8:ei.Wf:=j8.1
theorem PY:AJ.Wf:=⟨by decide,by decide,by decide,by decide,by decide,by decide,by decide,by decide,by decide⟩
theorem AK:lz dj:=by
 refine⟨fun n hn=>?_,fun r hr=>?_,fun r hr=>?_,fun m hm=>?_,fun m hm=>?_,by unfold tY;decide⟩
 ·simp[dj]at hn;unfold tY;omega
 ·simp[dj]at hr;subst hr;exact⟨by decide,by unfold tY;decide,by unfold tY;decide⟩
 ·simp[dj]at hr
  rcases hr with rfl|rfl
  ·exact⟨by decide,PY,by unfold tY;decide,by unfold tY;decide,by decide,by decide⟩
  ·exact⟨by decide,R8,by unfold tY;decide,by unfold tY;decide,by decide,by decide⟩
 ·simp[dj]at hm;subst hm;exact⟨by decide,by decide,by decide,by decide⟩
 ·simp[dj]at hm;subst hm;exact⟨by decide,by unfold tY;decide,by unfold tY;decide⟩
theorem CT:nt dj:=⟨by decide,by decide,by decide,by decide,by decide⟩
theorem G1{β:Sx.Env}{m:Nat}{cf:CF}{s:gG}:(Sx.SV.ej (Dg m cf)).den (aJ β m cf s)=.agg (aL cf s).toArray:=by show Xa ([(aJ β m cf s).sl m,(aJ β m cf s).sl (m+1),(aJ β m cf s).sl (m+2),(aJ β m cf s).sl (m+3),(aJ β m cf s).sl (m+4),.int .i64 cf.bA]:List Value).toArray=_;simp[Sx.Env.sl,aJ,aL]
def De(_m:Nat)(cf:CF)(ret:Sx.SV):Sx.ct:=⟨[],[],[],dD cf,ret,none⟩
theorem rR{b:Sx.aV}{row:Nat→Option Sx.Row}{m:Nat}(W:World)(β:Sx.Env)(_:Sx.eM b β W row []):Calls prog 67 (([]:List Sx.SV).map (Sx.SV.den β)).toArray W (Sx.br b β W row m (De m dj (.ej (Dg m dj)))):=by
 refine(Jb W).mono fun en w' hp=>?_;rcases hp with⟨β',l,mem,⟨k0,k1,k2,k3,k4,rfl,q0,q1,q2,q3,q4⟩,he,hR⟩ | ⟨_,_,hf,_⟩
 ·obtain⟨ho,hn,n0,n1,n2,n3,n4⟩:=Df hR ⟨q0,q1,q2,q3,q4⟩ rfl
  refine .inl ⟨fun p hp=>(by cases hp),aJ β m dj (mC β' k0 k1 k2 k3 k4),yZ ho hn ?_ hR.aF⟩;rw[G1,he];show Ending.returned (.agg ([β'.sl k0,β'.sl k1,β'.sl k2,β'.sl k3,β'.sl k4,.int .i64 dj.bA]:List Value).toArray)=_;unfold Sx.Env.sl;rw[n0,n1,n2,n3,n4];rfl
 ·exact hf.elim
theorem LI{b:Sx.aV}{row:Nat→Option Sx.Row}{m:Nat}{s:Bs}{cf:CF}(hlan:ly b.w)(h9:∀k∈b.S,9≤k)(hs:j3 s=.ok cf)(W:World)(β:Sx.Env)(hS:Sx.eM b β W row []):Calls prog 22 (([.val (ae s)]:List Sx.SV).map (Sx.SV.den β)).toArray W (Sx.br b β W row m (De m cf (.nI [.row (Dg m cf),.a (.v .nilIface)]))):=by
 refine(Gw W (hlan.aF hS.aF h9) s).mono fun en w' hp=>?_;rw[hs]at hp;rcases hp with⟨β',l,mem,⟨k0,k1,k2,k3,k4,rfl,q0,q1,q2,q3,q4⟩,he,hR⟩ | ⟨_,_,hf,_⟩
 ·obtain⟨ho,hn,n0,n1,n2,n3,n4⟩:=Df hR ⟨q0,q1,q2,q3,q4⟩ rfl
  refine .inl ⟨fun p hp=>(by cases hp),aJ β m cf (mC β' k0 k1 k2 k3 k4),yZ ho hn ?_ hR.aF⟩;have hd:=G1 (β:=β) (m:=m) (cf:=cf) (s:=mC β' k0 k1 k2 k3 k4);rw[he];show Ending.returned (.tuple #[.agg ([β'.sl k0,β'.sl k1,β'.sl k2,β'.sl k3,β'.sl k4,.int .i64 cf.bA]:List Value).toArray,.nilIface])=.returned (.tuple #[(Sx.SV.ej (Dg m cf)).den (aJ β m cf (mC β' k0 k1 k2 k3 k4)),.nilIface]);rw[hd];unfold Sx.Env.sl;rw[n0,n1,n2,n3,n4];rfl
 ·exact hf.elim
def UW(m:Nat)(code line:Nat):Sx.ct:=⟨[],[],[],[⟨105,.aj (sa code line)⟩],.nI [.row (il.map .v),.kI 103 m 0],none⟩
theorem Aa{β:Sx.Env}{W w':World}{row:Nat→Option Sx.Row}{m k:Nat}{X:List Nat}{T:TypeId}{cs:List Value}{ret:Sx.SV}{e:Ending}(hb:aq w' k T cs)(hn:W.heap.size≤k)(hret:e=.returned (ret.den (β.de m k)))(hc:ai [] W w'):Sx.FD β W row m ⟨X,[],[],[⟨T,.aj cs⟩],ret,none⟩ e w' (β.de m k):=by
 refine⟨fun i hi=>⟨?_,rfl,rfl,rfl⟩,hret,fun q hq=>(by cases hq),fun i r hr=>?_,fun i r x hr hx=>?_,fun i i' r r' x hr hr' _ _=>?_,hc⟩
 ·show β i=if i=m then k else β i
  rw[if_neg (by omega)]
 ·match i,hr with
  | 0,hr=>cases hr;show aq w' (if m+0=m then k else β (m+0)) T cs;rw[W5,if_pos rfl];exact hb
 ·match i,hr with
  | 0,hr=>cases hr;have hx:some (if m+0=m then k else β (m+0))=some x:=hx;rw[W5,if_pos rfl]at hx;cases hx;exact .inr hn
 ·match i,i',hr,hr' with
  | 0,0,_,_=>rfl
theorem IM(β:Sx.Env):(il.map Sx.Atom.v).map (Sx.Atom.den β)=il:=by rw[Xh];exact List.map_id _
theorem LJ{b:Sx.aV}{row:Nat→Option Sx.Row}{m:Nat}{s:Bs}{code line:Nat}(hlan:ly b.w)(h9:∀k∈b.S,9≤k)(hs:j3 s=.no code line)(W:World)(β:Sx.Env)(hS:Sx.eM b β W row []):Calls prog 22 (([.val (ae s)]:List Sx.SV).map (Sx.SV.den β)).toArray W (Sx.br b β W row m (UW m code line)):=by
 refine(Gw W (hlan.aF hS.aF h9) s).mono fun en w' hp=>?_;rw[hs]at hp;rcases hp with⟨β',l,mem,⟨j,rfl,hj⟩,he,hR⟩ | ⟨_,_,hf,_⟩
 ·have r:=hR.held j _ hj
  have hn:=hR.new j _ (β' j) hj rfl;refine .inl ⟨fun p hp=>(by cases hp),β.de m (β' j),Aa r ?_ ?_ hR.aF⟩
  ·rcases hn with h|h
   ·cases h
   ·exact h
  ·rw[he]
   show Ending.returned (.tuple #[.agg il.toArray,.iface 103 ((pt (β' j) 0))])=.returned (.tuple #[.agg ((il.map Sx.Atom.v).map (Sx.Atom.den _)).toArray,.iface 103 ((pt (if m=m then β' j else β m) 0))]);rw[IM,if_pos rfl]
 ·exact hf.elim
def jZ(m:Nat):List Nat:=[m,m+1,m+2,m+3,m+4]
theorem Em{b:Sx.aV}{mem:List Sx.Row}{i m:Nat}{cf:CF}(hlan:dO b.w)(h9:∀k∈b.S,9≤k)(h:Nw mem i (i+1) (i+2) (i+3) (i+4) cf)(hw:lz cf)(hf:nt cf)(hB:(fT cf).length≤140737488355328)(W:World)(β:Sx.Env)(hS:Sx.eM b β W (Sx.rowAt mem) (jZ i)) :
  Calls prog 28 (([.ej (Dg i cf)]:List Sx.SV).map (Sx.SV.den β)).toArray W (Sx.br b β W (Sx.rowAt mem) m ⟨jZ i,[],[],[],.val (.tuple #[ae (jn cf).1,.int .i64 (jn cf).2]),none⟩):=by
 obtain⟨hr,hd⟩:=xn hS h (fun k hk=>hk);show Calls prog 28 #[(Sx.SV.ej (Dg i cf)).den β] W _;rw[hd];exact(OY (hlan.aF hS.aF h9) cf _ hr hw hf hB).mono fun en w' ⟨he,hc⟩=>.inl ⟨fun p hp=>(by cases hp),β,Sx.dt (v:=.tuple #[ae (jn cf).1,.int .i64 (jn cf).2]) rfl rfl he (fun q hq=>by cases hq) hc⟩
theorem Hp{b:Sx.aV}{mem:List Sx.Row}{i j m:Nat}{c d:CF}(hi:Nw mem i (i+1) (i+2) (i+3) (i+4) c)(hj:Nw mem j (j+1) (j+2) (j+3) (j+4) d)(wc:lz c)(wd:lz d)(fc:nt c)(W:World)(β:Sx.Env)(hS:Sx.eM b β W (Sx.rowAt mem) (jZ i++jZ j)) :
  Calls prog 25 (([.ej (Dg i c),.ej (Dg j d)]:List Sx.SV).map (Sx.SV.den β)).toArray W (Sx.br b β W (Sx.rowAt mem) m ⟨jZ i++jZ j,[],[],[],.val (.bool (ef c d)),none⟩):=by
 obtain⟨hr,hd⟩:=xn hS hi (fun k hk=>List.mem_append_left _ hk);obtain⟨hr2,hd2⟩:=xn hS hj (fun k hk=>List.mem_append_right _ hk);show Calls prog 25 #[(Sx.SV.ej (Dg i c)).den β,(Sx.SV.ej (Dg j d)).den β] W _;rw[hd,hd2];exact(Rq c d _ _ hr hr2 wc wd fc).mono fun en w' ⟨he,hc⟩=>.inl ⟨fun p hp=>(by cases hp),β,Sx.dt (v:=.bool (ef c d)) rfl rfl he (fun q hq=>by cases hq) hc⟩
def Wp(code line:Nat)(l:List Sx.SV)(mem:List Sx.Row):Prop:=∃k,l=[.kI 103 k 0]∧mem[k]?=some ⟨105,.aj (sa code line)⟩
theorem Qk(w:World)(hlan:ly w):Calls prog 68 #[] w (Sx.dc ⟨w,[],fun _ _=>False⟩ (Wp 201 2)):=by have c4:=fun W β (hS:Sx.eM ⟨w,[],fun _ _=>False⟩ β W (Sx.rowAt []) [])=>LJ (m:=0) hlan (fun k hk=>by cases hk) Qi W β hS;have z0:Wp 201 2 [.kI 103 0 0] [⟨105,.aj (sa 201 2)⟩,⟨46,.dC (il.map .val)⟩]:=⟨0,rfl,rfl⟩;refine Sx.b6 (args:=[]) (iO w) [(4,.ay (UW 0 201 2))] [] (by kernel_rfl) func68 rfl (bU rfl) rfl ?_;exact Xc (by kernel_rfl) (W2 c4 z0)
theorem Fq{b:Sx.aV}{row:Nat→Option Sx.Row}{m:Nat}(hlan:ly b.w)(h9:∀k∈b.S,9≤k)(W:World)(β:Sx.Env)(hS:Sx.eM b β W row []):Calls prog 68 (([]:List Sx.SV).map (Sx.SV.den β)).toArray W (Sx.br b β W row m ⟨[],[],[],[⟨105,.aj (sa 201 2)⟩],.kI 103 m 0,none⟩):=by
 refine(Qk W (hlan.aF hS.aF h9)).mono fun en w' hp=>?_;rcases hp with⟨β',l,mem,⟨j,rfl,hj⟩,he,hR⟩ | ⟨_,_,hf,_⟩
 ·have r:=hR.held j _ hj
  have hn:=hR.new j _ (β' j) hj rfl;refine .inl ⟨fun p hp=>(by cases hp),β.de m (β' j),Aa r ?_ ?_ hR.aF⟩
  ·rcases hn with h|h
   ·cases h
   ·exact h
  ·rw[he]
   show Ending.returned (.iface 103 ((pt (β' j) 0)))=.returned (.iface 103 ((pt (if m=m then β' j else β m) 0)));rw[if_pos rfl]
 ·exact hf.elim
theorem Ql(w:World)(hlan:ly w):Calls prog 26 #[] w (Rn w (.bool true)):=by
 have no9:∀k∈([]:List Nat),9≤k:=fun k hk=>by cases hk
 have c8:=fun W β (hS:Sx.eM ⟨w,[],fun _ _=>False⟩ β W (Sx.rowAt []) [])=>rR (m:=0) W β hS;have c9:=fun W β (hS:Sx.eM ⟨w,[],fun _ _=>False⟩ β W (Sx.rowAt (dD dj)) (jZ 0))=>(show Calls prog 28 (([.ej (Dg 0 dj)]:List Sx.SV).map (Sx.SV.den β)).toArray W (Sx.br ⟨w,[],fun _ _=>False⟩ β W (Sx.rowAt (dD dj)) 5 ⟨jZ 0,[],[],[],.val (.tuple #[ae wW,.int .i64 0]),none⟩)from by have:=Em (m:=5) hlan.uB no9 (i:=0) ⟨rfl,rfl,rfl,rfl,rfl⟩ AK CT (by rw[pD];decide) W β hS;rw[Fb]at this;exact this);have c13:=fun W β (hS:Sx.eM ⟨w,[],fun _ _=>False⟩ β W (Sx.rowAt (dD dj)) [])=>LI (m:=5) hlan no9 (PW (RI hlan.uB)) W β hS;obtain⟨R10,hR10⟩:∃R10:List Sx.Row,R10=dD dj++(dD dj++[⟨46,.dC [.own 5,.own 6,.own 7,.own 8,.own 9,.val (.int .i64 1)]⟩]):=⟨_,rfl⟩;have c17:=fun W β (hS:Sx.eM ⟨w,[],fun _ _=>False⟩ β W (Sx.rowAt R10) [])=>Fq (m:=11) hlan no9 W β hS;have c18:=fun W β (hS:Sx.eM ⟨w,[],fun _ _=>False⟩ β W (Sx.rowAt (R10++[⟨105,.aj (sa 201 2)⟩])) [11])=>xX (m:=12) (j:=11) (code:=201) (place:=2) hlan no9 (by rw[hR10];rfl) W β hS;have c33:=fun W β (hS:Sx.eM ⟨w,[],fun _ _=>False⟩ β W (Sx.rowAt (R10++[⟨105,.aj (sa 201 2)⟩])) [])=>rR (m:=12) W β hS;have c34:=fun W β (hS:Sx.eM ⟨w,[],fun _ _=>False⟩ β W (Sx.rowAt (R10++(⟨105,.aj (sa 201 2)⟩::dD dj))) (jZ 5++jZ 12))=>(show Calls prog 25 (([.ej (Dg 5 dj),.ej (Dg 12 dj)]:List Sx.SV).map (Sx.SV.den β)).toArray W (Sx.br ⟨w,[],fun _ _=>False⟩ β W (Sx.rowAt (R10++(⟨105,.aj (sa 201 2)⟩::dD dj))) 17 ⟨jZ 5++jZ 12,[],[],[],.val (.bool true),none⟩)from by have:=Hp (m:=17) (i:=5) (j:=12) (c:=dj) (d:=dj) (mem:=R10++(⟨105,.aj (sa 201 2)⟩::dD dj)) (by rw[hR10];exact⟨rfl,rfl,rfl,rfl,rfl⟩) (by rw[hR10];exact⟨rfl,rfl,rfl,rfl,rfl⟩) AK AK CT W β hS;rw[show ef dj dj=true from(bW _ _).2 rfl]at this;exact this);subst hR10;have z0:WZ true=.bool true:=rfl;have z1:WZ true=.bool true:=rfl;refine Sx.ao (args:=[]) [(8,.ay (De 0 dj (.ej (Dg 0 dj)))),(9,.ay ⟨jZ 0,[],[],[],.val (.tuple #[ae wW,.int .i64 0]),none⟩),(13,.ay (De 5 dj (.nI [.row (Dg 5 dj),.a (.v .nilIface)]))),(17,.ay ⟨[],[],[],[⟨105,.aj (sa 201 2)⟩],.kI 103 11 0,none⟩),(18,.ay (J6 11 201 2)),(33,.ay (De 12 dj (.ej (Dg 12 dj)))),(34,.ay ⟨jZ 5++jZ 12,[],[],[],.val (.bool true),none⟩),(600004,.ix)] [] (by kernel_rfl) func26 rfl (bU rfl) ?_;exact Xc (by kernel_rfl) (Sx.t8 c8 c9 c13 c17 c18 (Sx.t2 c33 c34 z0) c33 c34 z1)
open Go.RowKit Go.Lib Go.Sort
def Ps{α:Type}(o:Out α):Prop:=∀c p,o=.no c p→0 < c
theorem Ps.ok{α:Type}{a:α}{i:Nat}:Ps (.ok a i):=fun _ _ h=>nomatch h
theorem Ps.no{α:Type}{c p:Nat}(h:0 < c):Ps (.no c p:Out α):=fun _ _ e=>by injection e with e _;omega
theorem Ps.bind{α β:Type}{r:Out α}{f:α→Nat→Out β}(h:Ps r)(hf:∀a i,Ps (f a i)):Ps (r.bind f):=by
 cases r with
 |ok a i=>exact hf a i
 |no c p=>exact fun c' p' e=>h c p rfl |> fun hc=>by cases e;exact hc
theorem Ps.next{ws:List Bs}{i:Nat}:Ps (aO ws i):=by unfold aO;split;exact .ok;exact .no (by decide)
theorem Ps.DU{ws:List Bs}{i:Nat}{s:Bs}:Ps (cN ws i s):=by unfold cN;split<;>exact .ok
theorem Ps.want{α:Type}{b:Bool}{c:Nat}{a:α}{i:Nat}(h:0 < c):Ps (aR b c a i):=by cases b;exact .no h;exact .ok
theorem Ps.number{m:Nat}{ws:List Bs}{i:Nat}:Ps (a6 m ws i):=.bind .next fun _ _=>.want (by decide)
theorem Ps.int{ws:List Bs}{i:Nat}:Ps (ja ws i):=.number
theorem Ps.name{ws:List Bs}{i:Nat}:Ps (fX ws i):=.bind .next fun _ _=>.want (by decide)
theorem Ps.pre{ws:List Bs}{i:Nat}:Ps (dr ws i):=.bind .next fun _ _=>.want (by decide)
theorem Ps.span{ws:List Bs}{i:Nat}:Ps (ig ws i):=.bind .next fun _ _=>.want (by decide)
theorem Ps.bc{ws:List Bs}{i:Nat}:Ps (dS ws i):=.bind .DU fun a j=>by
 cases a
 ·refine .bind .DU fun b k=>?_
  cases b
  ·exact .number
  ·exact .ok
 ·exact .ok
theorem Ps.Wv{k:Nat}{m:Mt}{ws:List Bs}{i:Nat}:Ps (bV k m ws i):=by
 unfold bV;split<;>refine .bind ?_ fun _ _=>.ok
 ·exact .span
 ·exact .pre
 ·exact .pre
 ·exact .bc
 ·exact .span
 ·exact .span
theorem Ps.field{ws:List Bs}{i:Nat}{m:Mt}:Ps (aI ws i m):=by
 unfold aI;split
 ·exact .ok
 ·split
  ·exact .ok
  ·split
   ·exact .no (by decide)
   ·exact .bind .Wv fun _ _=>.ok
theorem Ps.dy(ws:List Bs):∀(f i:Nat) (m:Mt),Ps (dy ws f i m)
 | 0,i,m=>.ok
 |f+1,i,m=>.bind .field fun r j=>by
  cases r.1
  ·exact .ok
  ·exact Ps.dy ws f j r.2
theorem Ps.cS{ws:List Bs}{i:Nat}:Ps (cS ws i):=.bind .DU fun a j=>by
 cases a
 ·refine .bind .field fun r k=>?_
  cases r.1
  ·exact .bind .next fun _ _=>.no (by decide)
  ·exact .dy _ _ _ _
 ·exact .ok
theorem Ps.act{out:Bool}{ws:List Bs}{i:Nat}:Ps (qQ out ws i):=.bind .next fun x j=>by
 split
 ·exact .ok
 split
 ·exact .ok
 split
 ·exact .ok
 split
 ·exact .bind .int fun _ _=>.ok
 ·exact .no (by decide)
theorem Ps.opt{s:Bs}{ws:List Bs}{i:Nat}:Ps (qo s ws i):=.bind .DU fun b j=>by
 cases b
 ·exact .ok
 ·exact .name
theorem Ps.Wx{m:Mt}{ws:List Bs}{i:Nat}:Ps (Pf m ws i):=.bind .next fun _ _=>.bind (.want (by decide)) fun _ _=>.want (by decide)
theorem Ps.Vr{ws:List Bs}{i:Nat}:Ps (pU ws i):=.bind .name fun _ _=>.bind .cS fun _ _=>.bind .Wx fun _ _=>.bind .act fun _ _=>.bind .opt fun _ _=>.bind .opt fun _ _=>.ok
theorem Ps.WC{α:Type}{ws:List Bs}{a:α}{i:Nat}:Ps (pS ws a i):=by unfold pS;split;exact .no (by decide);exact .ok
theorem Ps.body{x:Bs}{ws:List Bs}{i:Nat}{cf:CF}{d:Nat}:Ps (gf x ws i cf d):=by
 unfold gf;split
 ·exact .bind .int fun _ _=>.ok
 split
 ·exact .bind .pre fun _ _=>.bind .int fun _ _=>.ok
 split
 ·exact .bind .name fun _ _=>.bind .number fun _ _=>.bind .number fun _ _=>.bind .number fun _ _=>.ok
 split
 ·exact .bind .name fun _ _=>.bind .int fun _ _=>.bind .int fun _ _=>.ok
 split
 ·exact .bind .Vr fun _ _=>.ok
 split
 ·exact .bind (.want (by decide)) fun _ _=>.bind .act fun _ _=>.ok
 ·exact .no (by decide)
theorem Ps.line{ws:List Bs}{cf:CF}{d:Nat}:Ps (fm ws cf d):=by
 unfold fm;split
 ·exact .ok
 ·exact .bind .next fun _ _=>.bind .body fun _ _=>.WC
open Go Go.RowKit Go.Lib Go.Sort
namespace Sx
end Sx
theorem pT.pre{w:World}{S:List Nat}{size n c:Nat}{A:Option Go.Addr}{xs ys:List Value}(h:pT w S size (.slice A (n+1) c) (n+1) (xs++ys))(hx:xs.length=n*size):pT w S size (.slice A n c) n xs:=by obtain⟨_,A',c',h2,h3⟩:=h;injection h2 with h2 _ h4;subst h2;subst h4;refine⟨hx,A,c,rfl,fun _=>?_⟩;obtain⟨g,o,ha,hg,hl,hr⟩:=h3 (Nat.succ_pos n);exact⟨g,o,ha,hg,hl,fun j u hu=>hr j u (by rw[List.getElem?_append_left (W8.1 hu).1];exact hu)⟩
open Go.RowKit Go.Lib Go.Sort
theorem NX(v:Bool):wid v≤128:=by cases v<;>decide
structure WK(cf:CF)(M:Nat):Prop where
 m:∀x∈cf.ag,x.name.length≤M
 i:∀x∈cf.ab,x.name.length≤M
 r:∀x∈cf.rules,x.name.length≤M∧x.dE.length≤M∧x.cx.length≤M
theorem iz{s:Bs}(h:aS s=true):s.length≤16:=by unfold aS at h;simp only[WN,decide_eq_true_eq]at h;exact h.1.2
theorem ry{s:Bs}(h:ku s=true):s.length≤16:=by
 unfold ku at h;rw[WU]at h;rcases h with h|h
 ·rw[of_decide_eq_true h];decide
 ·exact iz h
theorem Gm{v:Bool}{n:Nat}{k:Int}(h:fW v n k=true):tY k:=by unfold fW at h;simp only[WN,decide_eq_true_eq]at h;have:=NX v;unfold tY;omega
theorem Jo{m:Mt}(h:FC m)(hc:aY m=true):m.Wf:=by
 unfold aY at hc;simp only[WN,WU,decide_eq_true_eq,Bool.not_eq_true']at hc;have kx:∀{p:Px} {b:Bool},(b=true∨DK p=true)→(b=false∨fW p.v p.n p.k=true) → -9223372036854775808≤p.k∧p.k≤9223372036854775807:=by
  intro p b h1 h2;cases b with
  |true=>rcases h2 with h2|h2;exact absurd h2 (by decide);exact Gm h2
  |false=>
   rcases h1 with h1|h1
   ·exact absurd h1 (by decide)
   ·have:=(of_decide_eq_true h1).2.2
    omega
 exact⟨by omega,h.sn,kx hc.1.2.2.1 hc.2.2.1.1,h.dn,kx hc.1.2.2.2.1 hc.2.2.1.2.1,⟨h.i1,h.i2⟩,⟨h.s1,h.s2⟩,⟨h.d1,h.d2⟩,h.pr⟩
theorem r9.wf{cf:CF}(h:r9 cf):lz cf∧WK cf 16:=by
 have i:∀n:Int,0≤n→n≤9223372036854775807→tY n:=fun n h1 h2=>by unfold tY;omega
 refine⟨⟨fun n hn=>i n (h.ak n hn).1 (h.ak n hn).2,fun r hr=>?_,fun r hr=>?_,fun m hm=>?_,fun m hm=>?_,?_⟩,⟨fun m hm=>iz (h.ag m hm).1,fun m hm=>iz (h.ab m hm).1,fun r hr=>?_⟩⟩
 ·obtain⟨a,b,c,d⟩:=h.af r hr
  exact⟨a,Gm b,i _ c d⟩
 ·obtain⟨a,b,c,d,e,f⟩:=h.rules r hr
  have h1:=iz c;have h2:=ry e;have h3:=ry f;have ha:=d;unfold oQ at ha;simp only[WN,decide_eq_true_eq]at ha;have:=a.out;exact⟨by unfold maxLen;omega,Jo a.mt b,by unfold tY;omega,by unfold tY;omega,by unfold maxLen;omega,by unfold maxLen;omega⟩
 ·obtain⟨a,b,c,d⟩:=h.ag m hm
  have h1:=iz a;exact⟨by unfold maxLen;omega,b,c,d⟩
 ·obtain⟨a,b,c,d,e⟩:=h.ab m hm
  have h1:=iz a;exact⟨by unfold maxLen;omega,i _ b c,i _ d e⟩
 ·rcases h.bA with h|h|h<;>rw[h]<;>(unfold tY;omega)
 ·obtain⟨_,_,c,_,e,f⟩:=h.rules r hr
  exact⟨iz c,ry e,ry f⟩
open Go Go.RowKit Go.Lib Go.Sort
def s0:gG:=⟨⟨none,0⟩,⟨none,0⟩,⟨none,0⟩,⟨none,0⟩,⟨none,0⟩⟩
abbrev Wc(w:World):Sx.aV:=⟨w,[],fun _ _=>False⟩
set_option maxRecDepth 100000
open Go Go.RowKit Go.Lib Go.Sort _root_.Go.Proofs.Tryz
set_option maxRecDepth 100000
theorem told_none(w:World):Calls prog 24 #[.nilIface] w (Rn w (.tuple #[.int .i64 0,.int .i64 0])):=by
 have z0:Value.tuple #[.int .i64 0,.int .i64 0]=.tuple #[.int .i64 0,.int .i64 0]:=rfl;have c6:∀W:World,(do eqGuard .eql 48 (.tmp 5) (.const .nilIface) .nilIface .nilIface;binOp .eql 48 .nilIface .nilIface:Sem Value).run prog W=.ok (.bool true) W:=fun W=>by kernel_rfl
 refine Sx.ao (args:=[.nilIface]) [(6,.bin (.bool true))] [] (by kernel_rfl) func24 rfl (bU rfl) ?_;exact Xc (by kernel_rfl) (W2 c6 z0)
theorem RB(s:Bs):(OG s).1.Wf:=by
 unfold OG TU NA;cases Nat.beq (KJ (aE false s)).e 0 with
 |true=>exact(tn _ _).1
 |false=>exact j8.1
def UX(m code p:Nat):Sx.ct:=⟨[],[],[],[⟨105,.aj (sa code p)⟩],.nI [.row (ei.cells.map .v),.kI 103 m 0],none⟩
theorem zN{b:Sx.aV}{row:Nat→Option Sx.Row}{m:Nat}{s:Bs}{code p:Nat}(hl:s.length≤1100000)(hlan:ly b.w)(h9:∀k∈b.S,9≤k)(hs:gq s=.no code p)(W:World)(β:Sx.Env)(hS:Sx.eM b β W row []):Calls prog 40 (([.val (ae s)]:List Sx.SV).map (Sx.SV.den β)).toArray W (Sx.br b β W row m (UX m code p)):=by
 refine(tu s hl (hlan.aF hS.aF h9).uB).mono fun en w' hp=>?_;rcases hp with⟨m',i,h,_⟩ | ⟨c',p',N,h,he,hN,hB,hc⟩
 ·rw[hs]at h;cases h
 ·rw[hs]at h
  injection h with h1 h2;subst h1 h2;refine .inl ⟨fun p hp=>(by cases hp),β.de m N,Aa hB hN ?_ hc⟩;rw[he];show _=Ending.returned (.tuple #[.agg ((ei.cells.map Sx.Atom.v).map (Sx.Atom.den (β.de m N))).toArray,.iface 103 ((pt (if m=m then N else β.b m) 0))]);rw[if_pos rfl];rfl
theorem EK(s:Bs)(hl:s.length≤1050000)(w:World)(hlan:ly w):Calls prog 11 #[ae s] w (Rn w (.bool true)):=by
 have no9:∀k∈([]:List Nat),9≤k:=fun k hk=>by cases hk
 have hL:∀W,ai [] w W→ly W:=fun W hW=>hlan.aF hW no9;have c40:=fun W (hW:ai [] w W)=>Ql W (hL W hW);have hw:=RB s;have hF:=RC s;have c17:=fun W (_:ai [] w W)=>zy s hl W;have z0:WZ true=.bool true:=rfl;cases hr:gq s with
 |ok m i=>
  rw[hr]at hF;rw[hF]at c17 hw;dsimp only[Tb]at c17 hw;have c12:=fun W (hW:ai [] w W)=>(show Calls prog 40 #[ae s] W (Rn W (.tuple #[fQ m,.nilIface]))from(tu s (by omega) (hL W hW).uB).mono fun e w' hp=>by
   rcases hp with⟨m',i',h,he,hc⟩ | ⟨_,_,_,h,_⟩
   ·rw[hr]at h
    injection h with h1 _;rw[h1];exact⟨he,hc⟩
   ·rw[hr]at h;cases h)
  have c23:=fun W (_:ai [] w W)=>told_none W;have c28:=fun W=>((QQ (.tmp 26) (.tmp 27) hw hw W).1).trans (by rw[show ef m m=true from(bW _ _).2 rfl]);have c32:WZ ((0:Int)==0)=.bool true:=rfl;have c37:=c32;refine Sx.ao (args:=[ae s]) [(12,.call (.tuple #[fQ m,.nilIface])),(17,.call (.tuple #[fQ m,.int .i64 0,.int .i64 0])),(23,.call (.tuple #[.int .i64 0,.int .i64 0])),(28,.bin (.bool true)),(32,.is (.bool true)),(37,.is (.bool true)),(40,.call (.bool true))] [] (by kernel_rfl) func11 rfl (bU rfl) ?_;exact Xc (by kernel_rfl) (Sx.t4 c12 c17 c23 c28 (Sx.t2 c32 c37 (W2 c40 z0)))
 |no code p=>
  rw[hr]at hF;rw[hF]at c17 hw;dsimp only[Tb]at c17 hw;have c12:=fun W β (hS:Sx.eM (Wc w) β W (Sx.rowAt []) [])=>zN (m:=0) (by omega) hlan no9 hr W β hS;have c23:=fun W β (hS:Sx.eM (Wc w) β W (Sx.rowAt [⟨105,.aj (sa code p)⟩,⟨66,.dC (ei.cells.map .val)⟩,⟨66,.aj ei.cells⟩]) [0])=>xX (m:=3) (j:=0) (code:=code) (place:=p) hlan no9 rfl W β hS;have c28:=fun W=>((QQ (.tmp 26) (.tmp 27) hw hw W).1).trans (by rw[show ef ei ei=true from(bW _ _).2 rfl]);have c32:WZ ((code:Int)==(code:Int))=.bool true:=by simp
  have c37:WZ ((p:Int)==(p:Int))=.bool true:=by simp
  refine Sx.ao (args:=[ae s]) [(12,.ay (UX 0 code p)),(17,.call (.tuple #[fQ ei,.int .i64 (code:Int),.int .i64 (p:Int)])),(23,.ay (J6 0 code p)),(28,.bin (.bool true)),(32,.is (.bool true)),(37,.is (.bool true)),(40,.call (.bool true))] [] (by kernel_rfl) func11 rfl (bU rfl) ?_;exact Xc (by kernel_rfl) (Sx.t4 c12 c17 c23 c28 (Sx.t2 c32 c37 (W2 c40 z0)))
theorem EJ(s:ByteArray)(w:World)(hlan:ly w)(hz:s.size≤1050000):Calls prog 11 #[.string s] w (Rn w (.bool true)):=by
 have e:s=⟨s.data.toList.toArray⟩:=by rw[Array.toArray_toList]
 rw[e];exact EK _ (by rw[Array.length_toList];exact hz) w hlan
set_option maxRecDepth 100000
open Go.RowKit Go.Lib Go.Sort Go.ChangeShapes Go.WideShapes _root_.Go.Proofs.Tryz
theorem wv{P:Program}{W:World}{n nm:String}{d:DataW Unit}{r:List (String×DataW Unit)}{g ti:Nat}{ms:Array (String×TypeId)}(h:laidMet P ((n,.iface nm d)::r) W)(hg:P.globalNamed n=some g)(ht:(P.globals[g]?).map (·.type)=some ti)(hi:P.underlying ti=some (.interface ms)) :
  ∃te pe,W.cell? ⟨g,0,none⟩=some (.iface te pe):=by
 obtain⟨ps,⟨g0,t0,cs0,f0,p0,q0,hg0,ht0,hv0,hd0,_,e0⟩,_,hrows⟩:=h;obtain rfl:=W4.inj (hg.symm.trans hg0);obtain rfl:=W4.inj (ht.symm.trans ht0);obtain⟨l0⟩:=cs0;obtain⟨f1,u,v,e,_,_⟩:=iface_of_trod hi hd0;refine⟨u,v,?_⟩;simp only at e;subst e;simpa using World.var?_cell hg0 hv0 0
def GD:List (String×DataW Unit):=Rows.langReadsRow.laid
def Ts:List Int:=[0,1,56,2,57,49,28,3,61,58,42,50,38,29,17,4,62,47,59,36,45,43,51,22,53,39,33,30,24,18,12,5,63,55,48,27,60,41,37,16,46,35,44,21,52,32,23,11,54,26,40,15,34,20,31,10,25,14,19,9,13,8,7,6]
theorem PK:1 < prog.globals.size:=of_decide_eq_true (by kernel_rfl)
theorem PJ:8 < prog.globals.size:=of_decide_eq_true (by kernel_rfl)
theorem Ti:(((begin prog (fun _ _=>0) default).world.heap[8]?).bind Obj.row?).isSome=true:=by kernel_rfl
theorem Jf:prog.globalNamed "errors.errorType"=some 0:=by kernel_rfl
theorem Ow:(prog.cutTypes.find? (·.1== "internal/reflectlite.rtype")).map (·.2)=some 242:=by kernel_rfl
theorem types_size:prog.types.size=330:=by kernel_rfl
theorem R6:((Xi 330).filter fun t=>prog.rowNamed t [101,114,114,111,114])=[48]:=by kernel_rfl
theorem wA{W:World}(h:handlesMet prog [("errors.errorType",Rows.laid_errors_errorType)] W):W.cell? ⟨0,0,none⟩=some (.iface 242 (.agg #[.pointer (some ⟨9,48,none⟩)])):=by
 obtain⟨name,u,ty,e1,e2,e3,e4,e5⟩:=h _ (WO.2 rfl);have en:name=[101,114,114,111,114]:=(W4.inj e1).symm;subst en;obtain rfl:=W4.inj (Ow.symm.trans e2);have hm:ty∈(Xi 330).filter fun t=>prog.rowNamed t [101,114,114,111,114]:=List.mem_filter.2 ⟨Xg.2 (by rw[←types_size];exact e3),e4⟩;rw[R6]at hm;obtain rfl:=WO.1 hm;have hh:typeHandle prog 48=.pointer (some ⟨9,48,none⟩):=by kernel_rfl
 rw[hh]at e5;simpa using World.var?_cell Jf e5 0
theorem Pw{W:World}(hL:laidMetH prog GD W)(hS:W.ShapedOpen prog):ly W:=by
 have h':laidMet prog (("math/bits.deBruijn32tab",Rows.laid_math_bits_deBruijn32tab)::("math/bits.deBruijn64tab",Rows.laid_math_bits_deBruijn64tab)::("internal/strconv.uint64pow10",Rows.laid_internal_strconv_uint64pow10)::("unicode/utf8.acceptRanges",Rows.laid_unicode_utf8_acceptRanges)::("strconv.ErrRange",Rows.laid_strconv_ErrRange)::("strconv.ErrSyntax",Rows.laid_strconv_ErrSyntax)::("unicode/utf8.first",Rows.laid_unicode_utf8_first)::[]) W∧handlesMet prog [("errors.errorType",Rows.laid_errors_errorType)] W:=hL;obtain⟨t0,th⟩:=h';have t1:=laidMet.tail t0;have t2:=laidMet.tail t1;have t3:=laidMet.tail t2;have t4:=laidMet.tail t3;have t5:=laidMet.tail t4;have h8:Lib.TabIs prog W "math/bits.deBruijn64tab" .u8 Ts:=
  Lib.tabIs_of_head (show prog.globalNamed "math/bits.deBruijn64tab"=some 8 by kernel_rfl) (show(prog.globals[8]?).map (·.type)=some 304 by kernel_rfl) underlying304 underlying5 (by kernel_rfl) (by kernel_rfl) t1
 have h2:Lib.TabIs prog W "internal/strconv.uint64pow10" .u64 Lib.pow10Tab:=
  Lib.tabIs_of_head (show prog.globalNamed "internal/strconv.uint64pow10"=some 2 by kernel_rfl) (show(prog.globals[2]?).map (·.type)=some 285 by kernel_rfl) underlying285 underlying89 (by kernel_rfl) (by kernel_rfl) t2
 obtain⟨te2,NG,h4⟩:=wv t4 (show prog.globalNamed "strconv.ErrRange"=some 4 by kernel_rfl) (show(prog.globals[4]?).map (·.type)=some 48 by kernel_rfl) underlying48;obtain⟨te1,JL,h3⟩:=wv t5 (show prog.globalNamed "strconv.ErrSyntax"=some 3 by kernel_rfl) (show(prog.globals[3]?).map (·.type)=some 48 by kernel_rfl) underlying48;have h1:=cell_of_shapedOpen_int (P:=prog) (g:=1) (t:=3) (zero:=#[.int .i64 0]) hS PK (by kernel_rfl) rfl (by kernel_rfl) (by kernel_rfl) underlying3;have hlow:9≤W.heap.size:=by
  obtain⟨⟨z,t⟩,hz⟩:=Option.isSome_iff_exists.1 Ti;obtain⟨cs,hh,_⟩:=hS.1 8 z t PJ hz;have:8 < W.heap.size:=by
   rcases Nat.lt_or_ge 8 W.heap.size with h|h
   ·exact h
   ·rw[Array.getElem?_eq_none h]at hh;cases hh
  omega
 exact⟨⟨h1,⟨_,h3,.inr ⟨_,_,rfl⟩⟩,⟨_,h4,.inr ⟨_,_,rfl⟩⟩,h2,h8.cell (by kernel_rfl) 15 (by decide),hlow⟩,wA th⟩
noncomputable def yD(os:Os):World:=
 let w0:=World.holding prog os ⟨#[],#[],[]⟩
 { w0 with heap:=w0.heap.modify 0 fun
   |.cells _ t frozen=>.cells #[.iface 242 (.agg #[(pt 9 48)])] t frozen
   |o=>o }
def tK:List (String×DataW Unit):=GD.filter fun x=>x.2.handleName?.isNone
noncomputable def pz(os:Os):World:=(yD os).layVars prog tK
theorem IX(os:Os):laidMet prog tK (pz os):=by
 have e1:(tK.filter fun x=>(tK.map (·.1)).contains x.1)=tK:=List.filter_eq_self.2 fun x hx=>Xb.2 (W3.2 ⟨x,hx,rfl⟩);have e2:(tK.filter fun x=>!(tK.map (·.1)).contains x.1)=[]:=List.filter_eq_nil_iff.2 fun x hx=>by rw[Xb.2 (W3.2 ⟨x,hx,rfl⟩)];simp
 exact laidMet_layVars (w0:=yD os) (tK.map (·.1)) [] (by rw[e1];rfl) (by rw[e1];kernel_rfl) (by rw[e1];kernel_rfl) (by rw[e2];exact LaidIn.none)
theorem LS(os:Os)(args:Array Value):laidMetH prog GD ((pz os).forCall (fun _ _=>0) ⟨#[],args,[]⟩).memory:=
 laidMetH_of_parts ((IX os).of_heap (by simp[World.memory,World.forCall,Input.heap])) (by kernel_rfl)
end Go.Proofs.YtnncigmpcdehnaaGreatDoor
