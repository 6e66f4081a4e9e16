import Derived.Test.YtnncigmpcdehnaaGreatDoorQd42
namespace Go.Proofs.YtnncigmpcdehnaaGreatDoor
open Go.RowKit Go.Lib Go.Sort
theorem Nw{α:Type}(pre:List α)(x:α)(r:List α):(pre++x::r)[pre.length]?=some x:=by simp
theorem Nv{α:Type}(pre:List α)(x y:α)(r:List α):(pre++x::y::r)[pre.length+1]?=some y:=by
 rw[List.getElem?_append_right (by omega)];simp
theorem da{is:Bool}{code e:Int}(hc:code≠0):aB is code e=0↔is=true∧e=0:=by
 unfold aB
 cases is with
 |true=>simp
 |false=>
  by_cases h:e=0
  ·rw[decide_eq_true h];simp[hc]
  ·rw[decide_eq_false h];simp[h]
theorem IE{out:Bool}{pre r:List Bs}{act o:Int}(hb:mD act o=true)(hout:out=true∨act≠3)(ho:o≤9223372036854775807):oE out (pre++(aW act o++r)) pre.length=.ok (act,o) (pre.length+(aW act o).length):=by
 unfold mD at hb
 simp only[Bool.and_eq_true,Bool.or_eq_true,decide_eq_true_eq]at hb
 obtain⟨⟨h1,h4⟩,h0,hz⟩:=hb
 unfold oE
 by_cases a1:act=1
 ·have hz0:o=0:=by omega
  have e:aW act o=[dx]:=by unfold aW;rw[if_pos a1]
  rw[e]
  simp only[List.cons_append,List.nil_append]
  rw[gX (Nw pre dx r)]
  simp only[Out.bind,if_true]
  rw[a1,hz0];rfl
 by_cases a2:act=2
 ·have hz0:o=0:=by omega
  have e:aW act o=[lA]:=by unfold aW;rw[if_neg a1,if_pos a2]
  rw[e]
  simp only[List.cons_append,List.nil_append]
  rw[gX (Nw pre lA r)]
  simp only[Out.bind]
  rw[if_neg (by decide),if_pos trivial,a2,hz0];rfl
 by_cases a3:act=3
 ·have e:aW act o=[oq,cE o]:=by unfold aW;rw[if_neg a1,if_neg a2,if_pos a3]
  have ht:out=true:=by
   rcases hout with h|h
   ·exact h
   ·exact absurd a3 h
  rw[e]
  simp only[List.cons_append,List.nil_append]
  rw[gX (Nw pre oq (cE o::r))]
  simp only[Out.bind]
  rw[if_neg (by decide),if_neg (by decide),if_neg (by decide),if_pos ⟨trivial,ht⟩]
  have:=s5 (ws:=pre++oq::cE o::r) (i:=pre.length+1) (n:=o) (Nv pre oq (cE o) r) h0 ho
  rw[this]
  show Out.ok (3,((o.toNat:Nat):Int)) (pre.length+1+1)=_
  rw[Int.toNat_of_nonneg h0,a3];rfl
 ·have a4:act=4:=by omega
  have hz0:o=0:=by omega
  have e:aW act o=[gj]:=by unfold aW;rw[if_neg a1,if_neg a2,if_neg a3,if_pos a4]
  rw[e]
  simp only[List.cons_append,List.nil_append]
  rw[gX (Nw pre gj r)]
  simp only[Out.bind]
  rw[if_neg (by decide),if_neg (by decide),if_pos trivial,a4,hz0];rfl
theorem Gi{k s:Bs}{pre r:List Bs}(hs:ju s=true)(hr:r[0]?≠some k):n6 k (pre++(du k s++r)) pre.length=.ok s (pre.length+(du k s).length):=by
 unfold n6 du
 by_cases h:s=[]
 ·rw[if_pos h,List.nil_append]
  have e:(pre++r)[pre.length]?=r[0]?:=by rw[List.getElem?_append_right (by omega),Nat.sub_self]
  rw[iX (by rw[e];exact hr),h];rfl
 ·rw[if_neg h]
  have hn:aE s=true:=by
   unfold ju at hs
   rw[decide_eq_false h]at hs
   exact hs
  simp only[List.cons_append,List.nil_append]
  rw[jw (Nw pre k (s::r))]
  show fG (pre++k::s::r) (pre.length+1)=_
  rw[rp (Nv pre k s r) hn];rfl
def db(r:Rl):List Bs:=[gi,r.name]++(uQ r.mt++([uU]++(aW r.act r.out++(du bU r.dm++(du bp r.cj++[])))))
theorem My(l:List Bs):O0 ([uU]++l):=fun x hx=>by
 cases hx
 decide
structure Lh(r:Rl):Prop where
 mt:BJ r.mt
 out:r.out≤9223372036854775807
theorem Jy(hU:IH){r:Rl}(hr:Lh r)(hc:ba r.mt=true)(hn:aE r.name=true)(ha:mD r.act r.out=true)(hme:ju r.dm=true)(hmi:ju r.cj=true):nF (db r) 1=.ok r (db r).length:=by
 have hp1:∀{α β:Type} (a:α) (i:Nat) (f:α→Nat→Out β),(Out.ok a i).bind f=f a i:=fun _ _ _=>rfl
 unfold nF
 rw[show fG (db r) 1=.ok r.name 2 from rp rfl hn,hp1]
 have hm:=GD hU (M:=r.mt) hr.mt hc (pre:=[gi,r.name]) (r:=[uU]++(aW r.act r.out++(du bU r.dm++(du bp r.cj++[])))) (My _)
 rw[show fu (db r) 2=.ok r.mt (2+(uQ r.mt).length)from hm,hp1]
 obtain⟨p1,hp⟩:∃p1,p1=[gi,r.name]++uQ r.mt:=⟨_,rfl⟩
 have l1:p1.length=2+(uQ r.mt).length:=by rw[hp,List.length_append];rfl
 have e1:db r=p1++(uU::(aW r.act r.out++(du bU r.dm++(du bp r.cj++[])))):=by rw[hp];unfold db;simp
 rw[←l1]
 have e2:J8 r.mt (db r) p1.length=.ok () (p1.length+1):=by
  unfold J8
  rw[gX (x:=uU) (by rw[e1];exact Nw _ _ _),hp1]
  show(ax (decide (uU=uU)) 200 () (p1.length+1)).bind _=_
  rw[decide_eq_true rfl]
  show ax (ba r.mt) 190 () (p1.length+1)=_
  rw[hc];rfl
 rw[e2,hp1]
 obtain⟨p2,hp2⟩:∃p2,p2=p1++[uU]:=⟨_,rfl⟩
 have l2:p2.length=p1.length+1:=by rw[hp2,List.length_append];rfl
 have e3:db r=p2++(aW r.act r.out++(du bU r.dm++(du bp r.cj++[]))):=by rw[e1,hp2];simp
 rw[←l2,show oE true (db r) p2.length=.ok (r.act,r.out) (p2.length+(aW r.act r.out).length)by rw[e3];exact IE ha (.inl rfl) hr.out,hp1]
 obtain⟨p3,hp3⟩:∃p3,p3=p2++aW r.act r.out:=⟨_,rfl⟩
 have l3:p3.length=p2.length+(aW r.act r.out).length:=by rw[hp3,List.length_append]
 have e4:db r=p3++(du bU r.dm++(du bp r.cj++[])):=by rw[e3,hp3];simp
 rw[←l3,show n6 bU (db r) p3.length=.ok r.dm (p3.length+(du bU r.dm).length)by
  rw[e4]
  refine Gi hme ?_
  unfold du
  split
  ·simp
  ·simp;decide,hp1]
 obtain⟨p4,hp4⟩:∃p4,p4=p3++du bU r.dm:=⟨_,rfl⟩
 have l4:p4.length=p3.length+(du bU r.dm).length:=by rw[hp4,List.length_append]
 have e5:db r=p4++(du bp r.cj++[]):=by rw[e4,hp4];simp
 rw[←l4,show n6 bp (db r) p4.length=.ok r.cj (p4.length+(du bp r.cj).length)by
  rw[e5];exact Gi hmi (by simp),hp1]
 congr 1
 rw[e5];simp
theorem ng{x:Bs}{l:List Bs}{cf cf':CF}{d:Nat}(h:fJ x (x::l) 1 cf d=.ok cf' (x::l).length):eL (x::l) cf d=.ok cf' (x::l).length:=by
 show pj (x::l) 0 cf d=_
 unfold pj
 rw[gX (x:=x) rfl]
 show(fJ x (x::l) 1 cf d).bind _=_
 rw[h]
 show qY (x::l) cf' (x::l).length=_
 unfold qY
 rw[decide_eq_false (by omega)]
theorem uE{n:Int}(h0:0≤n)(hn:n≤9223372036854775807)(cf:CF)(d:Nat):eL (eb n) cf d=.ok { cf with ai:=cf.ai++[n] } 2:=by
 refine ng ?_
 unfold fJ
 rw[if_pos rfl,s5 (n:=n) rfl h0 hn]
 show Out.ok { cf with ai:=cf.ai++[((n.toNat:Nat):Int)] } 2=_
 rw[Int.toNat_of_nonneg h0];rfl
theorem Ay(hU:IH){r:Rt}(hp:r.pf.n < 2^128)(hk:fA r.pf.v r.pf.n r.pf.k=true)(h0:0≤r.out)(hn:r.out≤9223372036854775807)(cf:CF)(d:Nat):eL (eG r) cf d=.ok { cf with ae:=cf.ae++[r] } 3:=by
 refine ng ?_
 unfold fJ
 rw[if_neg (by decide),if_pos rfl,prefix_at hU (p:=r.pf) rfl hp hk]
 show(il _ 2).bind _=_
 rw[s5 (n:=r.out) rfl h0 hn]
 show Out.ok { cf with ae:=cf.ae++[(⟨r.pf,((r.out.toNat:Nat):Int)⟩:Rt)] } 3=_
 rw[Int.toNat_of_nonneg h0];rfl
theorem AS{m:Me}(hn:aE m.name=true)(h1:m.num≤18446744073709551615)(h2:m.den≤18446744073709551615)(h3:m.pH≤18446744073709551615)(cf:CF)(d:Nat):eL (eJ m) cf d=.ok { cf with af:=cf.af++[m] } 5:=by
 refine ng ?_
 unfold fJ
 rw[if_neg (by decide),if_neg (by decide),if_pos rfl,rp (x:=m.name) rfl hn]
 show(bn _ _ 2).bind _=_
 rw[j7 (n:=m.num) rfl h1]
 show(bn _ _ 3).bind _=_
 rw[j7 (n:=m.den) rfl h2]
 show(bn _ _ 4).bind _=_
 rw[j7 (n:=m.pH) rfl h3]
 rfl
theorem yq{m:Mi}(hn:aE m.name=true)(h1:0≤m.out)(h2:m.out≤9223372036854775807)(h3:0≤m.room)(h4:m.room≤9223372036854775807)(cf:CF)(d:Nat):eL (cR m) cf d=.ok { cf with aa:=cf.aa++[m] } 4:=by
 refine ng ?_
 unfold fJ
 rw[if_neg (by decide),if_neg (by decide),if_neg (by decide),if_pos rfl,rp (x:=m.name) rfl hn]
 show(il _ 2).bind _=_
 rw[s5 (n:=m.out) rfl h1 h2]
 show(il _ 3).bind _=_
 rw[s5 (n:=m.room) rfl h3 h4]
 show Out.ok { cf with aa:=cf.aa++[(⟨m.name,((m.out.toNat:Nat):Int),((m.room.toNat:Nat):Int)⟩:Mi)] } 4=_
 rw[Int.toNat_of_nonneg h1,Int.toNat_of_nonneg h3];rfl
theorem Dv(hU:IH){r:Rl}(hr:Lh r)(hc:ba r.mt=true)(hn:aE r.name=true)(ha:mD r.act r.out=true)(hme:ju r.dm=true)(hmi:ju r.cj=true)(cf:CF)(d:Nat):eL (db r) cf d=.ok { cf with rules:=cf.rules++[r] } (db r).length:=by
 refine ng (x:=gi) ?_
 unfold fJ
 rw[if_neg (by decide),if_neg (by decide),if_neg (by decide),if_neg (by decide),if_pos rfl]
 have:=Jy hU hr hc hn ha hme hmi
 show(nF (db r) 1).bind _=_
 rw[this];rfl
theorem Er{a:Int}(h:a=1∨a=2∨a=4)(cf:CF):eL (j2 a) cf 0=.ok { cf with br:=a } 2:=by
 have hl:(aW a 0).length=1:=by rcases h with rfl|rfl|rfl<;>rfl
 have hb:mD a 0=true:=by rcases h with rfl|rfl|rfl<;>decide
 have ha:=IE (out:=false) (pre:=[bD]) (r:=[]) hb (.inr (by omega)) (by omega)
 rw[hl,List.append_nil]at ha
 have h2:(bD::aW a 0).length=2:=by rw[List.length_cons,hl]
 have:=ng (x:=bD) (l:=aW a 0) (cf:=cf) (cf':={ cf with br:=a }) (d:=0) (by
  unfold fJ
  rw[if_neg (by decide),if_neg (by decide),if_neg (by decide),if_neg (by decide),if_neg (by decide),if_pos rfl]
  show(oE false (bD::aW a 0) 1).bind _=_
  rw[show oE false (bD::aW a 0) 1=.ok (a,0) 2 from ha,h2];rfl)
 rw[h2]at this
 exact this
theorem kK{l:Bs}{ls:List Bs}{k i:Nat}{cf cf':CF}{d:Nat}(h:eL (aJ true l) cf d=.ok cf' i):fF (l::ls) k cf d=fF ls (k+1) cf' (dN (aJ true l) d):=by
 rw[fF,h]
theorem iP{α:Type}{W:α→List Bs}{add:CF→α→CF}{d:Nat}{rest:List Bs}:∀(l:List α) (k:Nat) (cf:CF),(∀a∈l,(∀x∈W a,dW x)∧(W a)[0]?≠some bD∧∀cf,∃i,eL (W a) cf d=.ok (add cf a) i)→
  fF (l.map (fun a=>ao 32 (W a))++rest) k cf d=fF rest (k+l.length) (l.foldl add cf) d
 | [],k,cf,_=>rfl
 |a::l,k,cf,h=>by
  obtain⟨h1,h2,h3⟩:=h a (by simp)
  obtain⟨i,hi⟩:=h3 cf
  have e:=nP true (W a) h1
  rw[List.map_cons,List.cons_append,kK (by rw[e];exact hi),e]
  have:dN (W a) d=d:=by unfold dN;rw[if_neg h2]
  rw[this,iP l (k+1) (add cf a) fun b hb=>h b (List.mem_cons_of_mem _ hb),List.length_cons]
  congr 1
  omega
structure pP(cf:CF):Prop where
 ai:∀n∈cf.ai,0≤n∧n≤9223372036854775807
 ae:∀r∈cf.ae,r.pf.n < 2^128∧fA r.pf.v r.pf.n r.pf.k=true∧0≤r.out∧r.out≤9223372036854775807
 af:∀m∈cf.af,aE m.name=true∧m.num≤18446744073709551615∧m.den≤18446744073709551615∧m.pH≤18446744073709551615
 aa:∀m∈cf.aa,aE m.name=true∧0≤m.out∧m.out≤9223372036854775807∧0≤m.room∧m.room≤9223372036854775807
 rules:∀r∈cf.rules,Lh r∧ba r.mt=true∧aE r.name=true∧mD r.act r.out=true∧ju r.dm=true∧ju r.cj=true
 br:cf.br=1∨cf.br=2∨cf.br=4
structure Nq(cf:CF):Prop where
 ai:∀n∈cf.ai,n≤9223372036854775807
 ae:∀r∈cf.ae,r.pf.n < 2^128∧r.out≤9223372036854775807
 af:∀m∈cf.af,m.num≤18446744073709551615∧m.den≤18446744073709551615∧m.pH≤18446744073709551615
 aa:∀m∈cf.aa,m.out≤9223372036854775807∧m.room≤9223372036854775807
 rules:∀r∈cf.rules,Lh r
theorem fold_zero{α:Type}{E:Int→α→Int}{p:α→Prop}(h:∀e a,E e a=0↔p a∧e=0):∀(l:List α) (e:Int),l.foldl E e=0↔(∀a∈l,p a)∧e=0
 | [],e=>by simp
 |a::l,e=>by
  rw[List.foldl_cons,fold_zero h l,h]
  constructor
  ·rintro⟨h1,h2,h3⟩
   exact⟨fun b hb=>by
    rcases List.mem_cons.1 hb with rfl|hb
    ·exact h2
    ·exact h1 b hb,h3⟩
  ·rintro⟨h1,h2⟩
   exact⟨fun b hb=>h1 b (List.mem_cons_of_mem _ hb),h1 a (by simp),h2⟩
theorem Bt(cf:CF):tJ cf=0↔(∀n∈cf.ai,0≤n)∧(∀r∈cf.ae,0≤r.out∧fA r.pf.v r.pf.n r.pf.k=true)∧(∀m∈cf.af,aE m.name=true)∧(∀m∈cf.aa,(0≤m.out∧0≤m.room)∧aE m.name=true)∧
  (∀r∈cf.rules,ju r.cj=true∧ju r.dm=true∧mD r.act r.out=true∧ba r.mt=true∧aE r.name=true)∧(cf.br=1∨cf.br=2∨cf.br=4):=by
 have pE:∀e n,Ck e n=0↔0≤n∧e=0:=fun e n=>by unfold Ck;rw[da (by decide)];simp
 have rE:∀e (r:Rt),vN e r=0↔(0≤r.out∧fA r.pf.v r.pf.n r.pf.k=true)∧e=0:=fun e r=>by unfold vN;rw[da (by decide),da (by decide)];simp[and_assoc]
 have mE:∀e (m:Me),we e m=0↔aE m.name=true∧e=0:=fun e m=>by unfold we;rw[da (by decide)]
 have iE:∀e (m:Mi),jE e m=0↔((0≤m.out∧0≤m.room)∧aE m.name=true)∧e=0:=fun e m=>by unfold jE;rw[da (by decide),da (by decide)];simp[and_assoc]
 have lE:∀e (r:Rl),qv e r=0↔(ju r.cj=true∧ju r.dm=true∧mD r.act r.out=true∧ba r.mt=true∧aE r.name=true)∧e=0:=fun e r=>by
  unfold qv
  rw[da (by decide),da (by decide),da (by decide),da (by decide),da (by decide)]
  simp[and_assoc]
 unfold tJ Hy
 rw[da (by decide),fold_zero lE,fold_zero iE,fold_zero mE,fold_zero rE,fold_zero pE]
 simp only[Bool.or_eq_true,decide_eq_true_eq,and_true]
 constructor
 ·rintro⟨h1,h2,h3,h4,h5,h6⟩
  exact⟨h6,h5,h4,h3,h2,h1⟩
 ·rintro⟨h1,h2,h3,h4,h5,h6⟩
  exact⟨h6,h5,h4,h3,h2,h1⟩
theorem H7{cf:CF}(h:Nq cf):tJ cf=0↔pP cf:=by
 rw[Bt]
 constructor
 ·rintro⟨h1,h2,h3,h4,h5,h6⟩
  exact⟨fun n hn=>⟨h1 n hn,h.ai n hn⟩,fun r hr=>⟨(h.ae r hr).1,(h2 r hr).2,(h2 r hr).1,(h.ae r hr).2⟩,fun m hm=>⟨h3 m hm,h.af m hm⟩,fun m hm=>⟨(h4 m hm).2,(h4 m hm).1.1,(h.aa m hm).1,(h4 m hm).1.2,(h.aa m hm).2⟩,
   fun r hr=>⟨h.rules r hr,(h5 r hr).2.2.2.1,(h5 r hr).2.2.2.2,(h5 r hr).2.2.1,(h5 r hr).2.1,(h5 r hr).1⟩,h6⟩
 ·intro h
  exact⟨fun n hn=>(h.ai n hn).1,fun r hr=>⟨(h.ae r hr).2.2.1,(h.ae r hr).2.1⟩,fun m hm=>(h.af m hm).1,fun m hm=>⟨⟨(h.aa m hm).2.1,(h.aa m hm).2.2.2.1⟩,(h.aa m hm).1⟩,
   fun r hr=>⟨(h.rules r hr).2.2.2.2.2,(h.rules r hr).2.2.2.2.1,(h.rules r hr).2.2.2.1,(h.rules r hr).2.1,(h.rules r hr).2.2.1⟩,h.br⟩
end Go.Proofs.YtnncigmpcdehnaaGreatDoor
