import Derived.Test.YtnncigmpcdehnaaGreatDoorQb41
namespace Go.Proofs.YtnncigmpcdehnaaGreatDoor
open Go.RowKit Go.Lib Go.Sort
theorem MF{α:Type}(pre:List α)(x:α)(r:List α):(pre++x::r)[pre.length]?=some x:=by simp
theorem ME{α:Type}(pre:List α)(x y:α)(r:List α):(pre++x::y::r)[pre.length+1]?=some y:=by
 rw[List.getElem?_append_right (by omega)];simp
theorem dw{is:Bool}{code e:Int}(hc:code≠0):aG is code e=0↔is=true∧e=0:=by
 unfold aG
 cases is with
 |true=>simp
 |false=>
  by_cases h:e=0
  ·rw[decide_eq_true h];simp[hc]
  ·rw[decide_eq_false h];simp[h]
theorem H5{out:Bool}{pre r:List Bs}{act o:Int}(hb:gD act o=true)(hout:out=true∨act≠3)(ho:o≤9223372036854775807):np out (pre++(aH act o++r)) pre.length=.ok (act,o) (pre.length+(aH act o).length):=by
 unfold gD at hb
 simp only[Bool.and_eq_true,Bool.or_eq_true,decide_eq_true_eq]at hb
 obtain⟨⟨h1,h4⟩,h0,hz⟩:=hb
 unfold np
 by_cases a1:act=1
 ·have hz0:o=0:=by omega
  have e:aH act o=[aJ]:=by unfold aH;rw[if_pos a1]
  rw[e]
  simp only[List.cons_append,List.nil_append]
  rw[ic (MF pre aJ r)]
  simp only[Out.bind,if_true]
  rw[a1,hz0];rfl
 by_cases a2:act=2
 ·have hz0:o=0:=by omega
  have e:aH act o=[cW]:=by unfold aH;rw[if_neg a1,if_pos a2]
  rw[e]
  simp only[List.cons_append,List.nil_append]
  rw[ic (MF pre cW r)]
  simp only[Out.bind]
  rw[if_neg (by decide),if_pos trivial,a2,hz0];rfl
 by_cases a3:act=3
 ·have e:aH act o=[ek,bb o]:=by unfold aH;rw[if_neg a1,if_neg a2,if_pos a3]
  have ht:out=true:=by
   rcases hout with h|h
   ·exact h
   ·exact absurd a3 h
  rw[e]
  simp only[List.cons_append,List.nil_append]
  rw[ic (MF pre ek (bb o::r))]
  simp only[Out.bind]
  rw[if_neg (by decide),if_neg (by decide),if_neg (by decide),if_pos ⟨trivial,ht⟩]
  have:=sQ (ws:=pre++ek::bb o::r) (i:=pre.length+1) (n:=o) (ME pre ek (bb o) r) h0 ho
  rw[this]
  show Out.ok (3,((o.toNat:Nat):Int)) (pre.length+1+1)=_
  rw[Int.toNat_of_nonneg h0,a3];rfl
 ·have a4:act=4:=by omega
  have hz0:o=0:=by omega
  have e:aH act o=[bn]:=by unfold aH;rw[if_neg a1,if_neg a2,if_neg a3,if_pos a4]
  rw[e]
  simp only[List.cons_append,List.nil_append]
  rw[ic (MF pre bn r)]
  simp only[Out.bind]
  rw[if_neg (by decide),if_neg (by decide),if_pos trivial,a4,hz0];rfl
theorem FJ{k s:Bs}{pre r:List Bs}(hs:fz s=true)(hr:r[0]?≠some k):jh k (pre++(cO k s++r)) pre.length=.ok s (pre.length+(cO k s).length):=by
 unfold jh cO
 by_cases h:s=[]
 ·rw[if_pos h,List.nil_append]
  have e:(pre++r)[pre.length]?=r[0]?:=by rw[List.getElem?_append_right (by omega),Nat.sub_self]
  rw[ja (by rw[e];exact hr),h];rfl
 ·rw[if_neg h]
  have hn:aM s=true:=by
   unfold fz at hs
   rw[decide_eq_false h]at hs
   exact hs
  simp only[List.cons_append,List.nil_append]
  rw[jB (MF pre k (s::r))]
  show eh (pre++k::s::r) (pre.length+1)=_
  rw[ri (ME pre k s r) hn];rfl
def dx(r:Rl):List Bs:=[dM,r.name]++(uS r.mt++([oD]++(aH r.act r.out++(cO ak r.aq++(cO ae r.ai++[])))))
theorem LJ(l:List Bs):NL ([oD]++l):=fun x hx=>by
 cases hx
 decide
structure Em(r:Rl):Prop where
 mt:Bg r.mt
 out:r.out≤9223372036854775807
theorem IT(hU:Et){r:Rl}(hr:Em r)(hc:bL r.mt=true)(hn:aM r.name=true)(ha:gD r.act r.out=true)(hme:fz r.aq=true)(hmi:fz r.ai=true):lM (dx r) 1=.ok r (dx r).length:=by
 have hp1:∀{α β:Type} (a:α) (i:Nat) (f:α→Nat→Out β),(Out.ok a i).bind f=f a i:=fun _ _ _=>rfl
 unfold lM
 rw[show eh (dx r) 1=.ok r.name 2 from ri rfl hn,hp1]
 have hm:=F5 hU (M:=r.mt) hr.mt hc (pre:=[dM,r.name]) (r:=[oD]++(aH r.act r.out++(cO ak r.aq++(cO ae r.ai++[])))) (LJ _)
 rw[show fF (dx r) 2=.ok r.mt (2+(uS r.mt).length)from hm,hp1]
 obtain⟨p1,hp⟩:∃p1,p1=[dM,r.name]++uS r.mt:=⟨_,rfl⟩
 have l1:p1.length=2+(uS r.mt).length:=by rw[hp,List.length_append];rfl
 have e1:dx r=p1++(oD::(aH r.act r.out++(cO ak r.aq++(cO ae r.ai++[])))):=by rw[hp];unfold dx;simp
 rw[←l1]
 have e2:F0 r.mt (dx r) p1.length=.ok () (p1.length+1):=by
  unfold F0
  rw[ic (x:=oD) (by rw[e1];exact MF _ _ _),hp1]
  show(ax (decide (oD=oD)) 200 () (p1.length+1)).bind _=_
  rw[decide_eq_true rfl]
  show ax (bL r.mt) 190 () (p1.length+1)=_
  rw[hc];rfl
 rw[e2,hp1]
 obtain⟨p2,hp2⟩:∃p2,p2=p1++[oD]:=⟨_,rfl⟩
 have l2:p2.length=p1.length+1:=by rw[hp2,List.length_append];rfl
 have e3:dx r=p2++(aH r.act r.out++(cO ak r.aq++(cO ae r.ai++[]))):=by rw[e1,hp2];simp
 rw[←l2,show np true (dx r) p2.length=.ok (r.act,r.out) (p2.length+(aH r.act r.out).length)by rw[e3];exact H5 ha (.inl rfl) hr.out,hp1]
 obtain⟨p3,hp3⟩:∃p3,p3=p2++aH r.act r.out:=⟨_,rfl⟩
 have l3:p3.length=p2.length+(aH r.act r.out).length:=by rw[hp3,List.length_append]
 have e4:dx r=p3++(cO ak r.aq++(cO ae r.ai++[])):=by rw[e3,hp3];simp
 rw[←l3,show jh ak (dx r) p3.length=.ok r.aq (p3.length+(cO ak r.aq).length)by
  rw[e4]
  refine FJ hme ?_
  unfold cO
  split
  ·simp
  ·simp;decide,hp1]
 obtain⟨p4,hp4⟩:∃p4,p4=p3++cO ak r.aq:=⟨_,rfl⟩
 have l4:p4.length=p3.length+(cO ak r.aq).length:=by rw[hp4,List.length_append]
 have e5:dx r=p4++(cO ae r.ai++[]):=by rw[e4,hp4];simp
 rw[←l4,show jh ae (dx r) p4.length=.ok r.ai (p4.length+(cO ae r.ai).length)by
  rw[e5];exact FJ hmi (by simp),hp1]
 congr 1
 rw[e5];simp
theorem mS{x:Bs}{l:List Bs}{cf cf':CF}{d:Nat}(h:ft x (x::l) 1 cf d=.ok cf' (x::l).length):dE (x::l) cf d=.ok cf' (x::l).length:=by
 show o6 (x::l) 0 cf d=_
 unfold o6
 rw[ic (x:=x) rfl]
 show(ft x (x::l) 1 cf d).bind _=_
 rw[h]
 show gR (x::l) cf' (x::l).length=_
 unfold gR
 rw[decide_eq_false (by omega)]
theorem uH{n:Int}(h0:0≤n)(hn:n≤9223372036854775807)(cf:CF)(d:Nat):dE (ew n) cf d=.ok { cf with ao:=cf.ao++[n] } 2:=by
 refine mS ?_
 unfold ft
 rw[if_pos rfl,sQ (n:=n) rfl h0 hn]
 show Out.ok { cf with ao:=cf.ao++[((n.toNat:Nat):Int)] } 2=_
 rw[Int.toNat_of_nonneg h0];rfl
theorem zS(hU:Et){r:Rt}(hp:r.pf.n < 2^128)(hk:gg r.pf.v r.pf.n r.pf.k=true)(h0:0≤r.out)(hn:r.out≤9223372036854775807)(cf:CF)(d:Nat):dE (eW r) cf d=.ok { cf with ah:=cf.ah++[r] } 3:=by
 refine mS ?_
 unfold ft
 rw[if_neg (by decide),if_pos rfl,prefix_at hU (p:=r.pf) rfl hp hk]
 show(gQ _ 2).bind _=_
 rw[sQ (n:=r.out) rfl h0 hn]
 show Out.ok { cf with ah:=cf.ah++[(⟨r.pf,((r.out.toNat:Nat):Int)⟩:Rt)] } 3=_
 rw[Int.toNat_of_nonneg h0];rfl
theorem Ai{m:Me}(hn:aM m.name=true)(h1:m.num≤18446744073709551615)(h2:m.den≤18446744073709551615)(h3:m.nF≤18446744073709551615)(cf:CF)(d:Nat):dE (eY m) cf d=.ok { cf with aj:=cf.aj++[m] } 5:=by
 refine mS ?_
 unfold ft
 rw[if_neg (by decide),if_neg (by decide),if_pos rfl,ri (x:=m.name) rfl hn]
 show(bF _ _ 2).bind _=_
 rw[kg (n:=m.num) rfl h1]
 show(bF _ _ 3).bind _=_
 rw[kg (n:=m.den) rfl h2]
 show(bF _ _ 4).bind _=_
 rw[kg (n:=m.nF) rfl h3]
 rfl
theorem xX{m:Mi}(hn:aM m.name=true)(h1:0≤m.out)(h2:m.out≤9223372036854775807)(h3:0≤m.room)(h4:m.room≤9223372036854775807)(cf:CF)(d:Nat):dE (dh m) cf d=.ok { cf with ab:=cf.ab++[m] } 4:=by
 refine mS ?_
 unfold ft
 rw[if_neg (by decide),if_neg (by decide),if_neg (by decide),if_pos rfl,ri (x:=m.name) rfl hn]
 show(gQ _ 2).bind _=_
 rw[sQ (n:=m.out) rfl h1 h2]
 show(gQ _ 3).bind _=_
 rw[sQ (n:=m.room) rfl h3 h4]
 show Out.ok { cf with ab:=cf.ab++[(⟨m.name,((m.out.toNat:Nat):Int),((m.room.toNat:Nat):Int)⟩:Mi)] } 4=_
 rw[Int.toNat_of_nonneg h1,Int.toNat_of_nonneg h3];rfl
theorem CO(hU:Et){r:Rl}(hr:Em r)(hc:bL r.mt=true)(hn:aM r.name=true)(ha:gD r.act r.out=true)(hme:fz r.aq=true)(hmi:fz r.ai=true)(cf:CF)(d:Nat):dE (dx r) cf d=.ok { cf with rules:=cf.rules++[r] } (dx r).length:=by
 refine mS (x:=dM) ?_
 unfold ft
 rw[if_neg (by decide),if_neg (by decide),if_neg (by decide),if_neg (by decide),if_pos rfl]
 have:=IT hU hr hc hn ha hme hmi
 show(lM (dx r) 1).bind _=_
 rw[this];rfl
theorem DT{a:Int}(h:a=1∨a=2∨a=4)(cf:CF):dE (gU a) cf 0=.ok { cf with aL:=a } 2:=by
 have hl:(aH a 0).length=1:=by rcases h with rfl|rfl|rfl<;>rfl
 have hb:gD a 0=true:=by rcases h with rfl|rfl|rfl<;>decide
 have ha:=H5 (out:=false) (pre:=[av]) (r:=[]) hb (.inr (by omega)) (by omega)
 rw[hl,List.append_nil]at ha
 have h2:(av::aH a 0).length=2:=by rw[List.length_cons,hl]
 have:=mS (x:=av) (l:=aH a 0) (cf:=cf) (cf':={ cf with aL:=a }) (d:=0) (by
  unfold ft
  rw[if_neg (by decide),if_neg (by decide),if_neg (by decide),if_neg (by decide),if_neg (by decide),if_pos rfl]
  show(np false (av::aH a 0) 1).bind _=_
  rw[show np false (av::aH a 0) 1=.ok (a,0) 2 from ha,h2];rfl)
 rw[h2]at this
 exact this
theorem kV{l:Bs}{ls:List Bs}{k i:Nat}{cf cf':CF}{d:Nat}(h:dE (aS true l) cf d=.ok cf' i):dy (l::ls) k cf d=dy ls (k+1) cf' (dN (aS true l) d):=by
 rw[dy,h]
theorem iS{α:Type}{W:α→List Bs}{add:CF→α→CF}{d:Nat}{rest:List Bs}:∀(l:List α) (k:Nat) (cf:CF),(∀a∈l,(∀x∈W a,ep x)∧(W a)[0]?≠some av∧∀cf,∃i,dE (W a) cf d=.ok (add cf a) i)→
  dy (l.map (fun a=>aQ 32 (W a))++rest) k cf d=dy rest (k+l.length) (l.foldl add cf) d
 | [],k,cf,_=>rfl
 |a::l,k,cf,h=>by
  obtain⟨h1,h2,h3⟩:=h a (by simp)
  obtain⟨i,hi⟩:=h3 cf
  have e:=nI true (W a) h1
  rw[List.map_cons,List.cons_append,kV (by rw[e];exact hi),e]
  have:dN (W a) d=d:=by unfold dN;rw[if_neg h2]
  rw[this,iS l (k+1) (add cf a) fun b hb=>h b (List.mem_cons_of_mem _ hb),List.length_cons]
  congr 1
  omega
structure ly(cf:CF):Prop where
 ao:∀n∈cf.ao,0≤n∧n≤9223372036854775807
 ah:∀r∈cf.ah,r.pf.n < 2^128∧gg r.pf.v r.pf.n r.pf.k=true∧0≤r.out∧r.out≤9223372036854775807
 aj:∀m∈cf.aj,aM m.name=true∧m.num≤18446744073709551615∧m.den≤18446744073709551615∧m.nF≤18446744073709551615
 ab:∀m∈cf.ab,aM m.name=true∧0≤m.out∧m.out≤9223372036854775807∧0≤m.room∧m.room≤9223372036854775807
 rules:∀r∈cf.rules,Em r∧bL r.mt=true∧aM r.name=true∧gD r.act r.out=true∧fz r.aq=true∧fz r.ai=true
 aL:cf.aL=1∨cf.aL=2∨cf.aL=4
structure MB(cf:CF):Prop where
 ao:∀n∈cf.ao,n≤9223372036854775807
 ah:∀r∈cf.ah,r.pf.n < 2^128∧r.out≤9223372036854775807
 aj:∀m∈cf.aj,m.num≤18446744073709551615∧m.den≤18446744073709551615∧m.nF≤18446744073709551615
 ab:∀m∈cf.ab,m.out≤9223372036854775807∧m.room≤9223372036854775807
 rules:∀r∈cf.rules,Em r
theorem fold_zero{α:Type}{E:Int→α→Int}{p:α→Prop}(h:∀e a,E e a=0↔p a∧e=0):∀(l:List α) (e:Int),l.foldl E e=0↔(∀a∈l,p a)∧e=0
 | [],e=>by simp
 |a::l,e=>by
  rw[List.foldl_cons,fold_zero h l,h]
  constructor
  ·rintro⟨h1,h2,h3⟩
   exact⟨fun b hb=>by
    rcases List.mem_cons.1 hb with rfl|hb
    ·exact h2
    ·exact h1 b hb,h3⟩
  ·rintro⟨h1,h2⟩
   exact⟨fun b hb=>h1 b (List.mem_cons_of_mem _ hb),h1 a (by simp),h2⟩
theorem AU(cf:CF):qO cf=0↔(∀n∈cf.ao,0≤n)∧(∀r∈cf.ah,0≤r.out∧gg r.pf.v r.pf.n r.pf.k=true)∧(∀m∈cf.aj,aM m.name=true)∧(∀m∈cf.ab,(0≤m.out∧0≤m.room)∧aM m.name=true)∧
  (∀r∈cf.rules,fz r.ai=true∧fz r.aq=true∧gD r.act r.out=true∧bL r.mt=true∧aM r.name=true)∧(cf.aL=1∨cf.aL=2∨cf.aL=4):=by
 have pE:∀e n,BJ e n=0↔0≤n∧e=0:=fun e n=>by unfold BJ;rw[dw (by decide)];simp
 have rE:∀e (r:Rt),vK e r=0↔(0≤r.out∧gg r.pf.v r.pf.n r.pf.k=true)∧e=0:=fun e r=>by unfold vK;rw[dw (by decide),dw (by decide)];simp[and_assoc]
 have mE:∀e (m:Me),vY e m=0↔aM m.name=true∧e=0:=fun e m=>by unfold vY;rw[dw (by decide)]
 have iE:∀e (m:Mi),jH e m=0↔((0≤m.out∧0≤m.room)∧aM m.name=true)∧e=0:=fun e m=>by unfold jH;rw[dw (by decide),dw (by decide)];simp[and_assoc]
 have lE:∀e (r:Rl),oM e r=0↔(fz r.ai=true∧fz r.aq=true∧gD r.act r.out=true∧bL r.mt=true∧aM r.name=true)∧e=0:=fun e r=>by
  unfold oM
  rw[dw (by decide),dw (by decide),dw (by decide),dw (by decide),dw (by decide)]
  simp[and_assoc]
 unfold qO Co
 rw[dw (by decide),fold_zero lE,fold_zero iE,fold_zero mE,fold_zero rE,fold_zero pE]
 simp only[Bool.or_eq_true,decide_eq_true_eq,and_true]
 constructor
 ·rintro⟨h1,h2,h3,h4,h5,h6⟩
  exact⟨h6,h5,h4,h3,h2,h1⟩
 ·rintro⟨h1,h2,h3,h4,h5,h6⟩
  exact⟨h6,h5,h4,h3,h2,h1⟩
theorem ts{cf:CF}(h:MB cf):qO cf=0↔ly cf:=by
 rw[AU]
 constructor
 ·rintro⟨h1,h2,h3,h4,h5,h6⟩
  exact⟨fun n hn=>⟨h1 n hn,h.ao n hn⟩,fun r hr=>⟨(h.ah r hr).1,(h2 r hr).2,(h2 r hr).1,(h.ah r hr).2⟩,fun m hm=>⟨h3 m hm,h.aj m hm⟩,fun m hm=>⟨(h4 m hm).2,(h4 m hm).1.1,(h.ab m hm).1,(h4 m hm).1.2,(h.ab m hm).2⟩,
   fun r hr=>⟨h.rules r hr,(h5 r hr).2.2.2.1,(h5 r hr).2.2.2.2,(h5 r hr).2.2.1,(h5 r hr).2.1,(h5 r hr).1⟩,h6⟩
 ·intro h
  exact⟨fun n hn=>(h.ao n hn).1,fun r hr=>⟨(h.ah r hr).2.2.1,(h.ah r hr).2.1⟩,fun m hm=>(h.aj m hm).1,fun m hm=>⟨⟨(h.ab m hm).2.1,(h.ab m hm).2.2.2.1⟩,(h.ab m hm).1⟩,
   fun r hr=>⟨(h.rules r hr).2.2.2.2.2,(h.rules r hr).2.2.2.2.1,(h.rules r hr).2.2.2.1,(h.rules r hr).2.1,(h.rules r hr).2.2.1⟩,h.aL⟩
end Go.Proofs.YtnncigmpcdehnaaGreatDoor
