import Derived.Test.YtnncigmpcdehnaaGreatDoorQc40
namespace Go.Proofs.YtnncigmpcdehnaaGreatDoor
open Go.RowKit Go.Lib Go.Sort
theorem Ny{α:Type}(pre:List α)(x:α)(r:List α):(pre++x::r)[pre.length]?=some x:=by simp
theorem Nx{α:Type}(pre:List α)(x y:α)(r:List α):(pre++x::y::r)[pre.length+1]?=some y:=by
 rw[List.getElem?_append_right (by omega)];simp
theorem dj{is:Bool}{code e:Int}(hc:code≠0):aE is code e=0↔is=true∧e=0:=by
 unfold aE
 cases is with
 |true=>simp
 |false=>
  by_cases h:e=0
  ·rw[decide_eq_true h];simp[hc]
  ·rw[decide_eq_false h];simp[h]
theorem Iz{out:Bool}{pre r:List Bs}{act o:Int}(hb:my act o=true)(hout:out=true∨act≠3)(ho:o≤9223372036854775807):ou out (pre++(aZ act o++r)) pre.length=.ok (act,o) (pre.length+(aZ act o).length):=by
 unfold my at hb
 simp only[Bool.and_eq_true,Bool.or_eq_true,decide_eq_true_eq]at hb
 obtain⟨⟨h1,h4⟩,h0,hz⟩:=hb
 unfold ou
 by_cases a1:act=1
 ·have hz0:o=0:=by omega
  have e:aZ act o=[aT]:=by unfold aZ;rw[if_pos a1]
  rw[e]
  simp only[List.cons_append,List.nil_append]
  rw[gV (Ny pre aT r)]
  simp only[Out.bind,if_true]
  rw[a1,hz0];rfl
 by_cases a2:act=2
 ·have hz0:o=0:=by omega
  have e:aZ act o=[lr]:=by unfold aZ;rw[if_neg a1,if_pos a2]
  rw[e]
  simp only[List.cons_append,List.nil_append]
  rw[gV (Ny pre lr r)]
  simp only[Out.bind]
  rw[if_neg (by decide),if_pos trivial,a2,hz0];rfl
 by_cases a3:act=3
 ·have e:aZ act o=[nV,cn o]:=by unfold aZ;rw[if_neg a1,if_neg a2,if_pos a3]
  have ht:out=true:=by
   rcases hout with h|h
   ·exact h
   ·exact absurd a3 h
  rw[e]
  simp only[List.cons_append,List.nil_append]
  rw[gV (Ny pre nV (cn o::r))]
  simp only[Out.bind]
  rw[if_neg (by decide),if_neg (by decide),if_neg (by decide),if_pos ⟨trivial,ht⟩]
  have:=sS (ws:=pre++nV::cn o::r) (i:=pre.length+1) (n:=o) (Nx pre nV (cn o) r) h0 ho
  rw[this]
  show Out.ok (3,((o.toNat:Nat):Int)) (pre.length+1+1)=_
  rw[Int.toNat_of_nonneg h0,a3];rfl
 ·have a4:act=4:=by omega
  have hz0:o=0:=by omega
  have e:aZ act o=[gh]:=by unfold aZ;rw[if_neg a1,if_neg a2,if_neg a3,if_pos a4]
  rw[e]
  simp only[List.cons_append,List.nil_append]
  rw[gV (Ny pre gh r)]
  simp only[Out.bind]
  rw[if_neg (by decide),if_neg (by decide),if_pos trivial,a4,hz0];rfl
theorem F7{k s:Bs}{pre r:List Bs}(hs:jt s=true)(hr:r[0]?≠some k):js k (pre++(de k s++r)) pre.length=.ok s (pre.length+(de k s).length):=by
 unfold js de
 by_cases h:s=[]
 ·rw[if_pos h,List.nil_append]
  have e:(pre++r)[pre.length]?=r[0]?:=by rw[List.getElem?_append_right (by omega),Nat.sub_self]
  rw[iV (by rw[e];exact hr),h];rfl
 ·rw[if_neg h]
  have hn:aG s=true:=by
   unfold jt at hs
   rw[decide_eq_false h]at hs
   exact hs
  simp only[List.cons_append,List.nil_append]
  rw[jw (Ny pre k (s::r))]
  show ed (pre++k::s::r) (pre.length+1)=_
  rw[qW (Nx pre k s r) hn];rfl
def dr(r:Rl):List Bs:=[dB,r.name]++(qX r.mt++([nU]++(aZ r.act r.out++(de aH r.df++(de ax r.bZ++[])))))
theorem Mw(l:List Bs):O4 ([nU]++l):=fun x hx=>by
 cases hx
 decide
structure Ld(r:Rl):Prop where
 mt:zI r.mt
 out:r.out≤9223372036854775807
theorem Ju(hU:EN){r:Rl}(hr:Ld r)(hc:bj r.mt=true)(hn:aG r.name=true)(ha:my r.act r.out=true)(hme:jt r.df=true)(hmi:jt r.bZ=true):nu (dr r) 1=.ok r (dr r).length:=by
 have hp1:∀{α β:Type} (a:α) (i:Nat) (f:α→Nat→Out β),(Out.ok a i).bind f=f a i:=fun _ _ _=>rfl
 unfold nu
 rw[show ed (dr r) 1=.ok r.name 2 from qW rfl hn,hp1]
 have hm:=xY hU (M:=r.mt) hr.mt hc (pre:=[dB,r.name]) (r:=[nU]++(aZ r.act r.out++(de aH r.df++(de ax r.bZ++[])))) (Mw _)
 rw[show dR (dr r) 2=.ok r.mt (2+(qX r.mt).length)from hm,hp1]
 obtain⟨p1,hp⟩:∃p1,p1=[dB,r.name]++qX r.mt:=⟨_,rfl⟩
 have l1:p1.length=2+(qX r.mt).length:=by rw[hp,List.length_append];rfl
 have e1:dr r=p1++(nU::(aZ r.act r.out++(de aH r.df++(de ax r.bZ++[])))):=by rw[hp];unfold dr;simp
 rw[←l1]
 have e2:J1 r.mt (dr r) p1.length=.ok () (p1.length+1):=by
  unfold J1
  rw[gV (x:=nU) (by rw[e1];exact Ny _ _ _),hp1]
  show(ak (decide (nU=nU)) 200 () (p1.length+1)).bind _=_
  rw[decide_eq_true rfl]
  show ak (bj r.mt) 190 () (p1.length+1)=_
  rw[hc];rfl
 rw[e2,hp1]
 obtain⟨p2,hp2⟩:∃p2,p2=p1++[nU]:=⟨_,rfl⟩
 have l2:p2.length=p1.length+1:=by rw[hp2,List.length_append];rfl
 have e3:dr r=p2++(aZ r.act r.out++(de aH r.df++(de ax r.bZ++[]))):=by rw[e1,hp2];simp
 rw[←l2,show ou true (dr r) p2.length=.ok (r.act,r.out) (p2.length+(aZ r.act r.out).length)by rw[e3];exact Iz ha (.inl rfl) hr.out,hp1]
 obtain⟨p3,hp3⟩:∃p3,p3=p2++aZ r.act r.out:=⟨_,rfl⟩
 have l3:p3.length=p2.length+(aZ r.act r.out).length:=by rw[hp3,List.length_append]
 have e4:dr r=p3++(de aH r.df++(de ax r.bZ++[])):=by rw[e3,hp3];simp
 rw[←l3,show js aH (dr r) p3.length=.ok r.df (p3.length+(de aH r.df).length)by
  rw[e4]
  refine F7 hme ?_
  unfold de
  split
  ·simp
  ·simp;decide,hp1]
 obtain⟨p4,hp4⟩:∃p4,p4=p3++de aH r.df:=⟨_,rfl⟩
 have l4:p4.length=p3.length+(de aH r.df).length:=by rw[hp4,List.length_append]
 have e5:dr r=p4++(de ax r.bZ++[]):=by rw[e4,hp4];simp
 rw[←l4,show js ax (dr r) p4.length=.ok r.bZ (p4.length+(de ax r.bZ).length)by
  rw[e5];exact F7 hmi (by simp),hp1]
 congr 1
 rw[e5];simp
theorem mX{x:Bs}{l:List Bs}{cf cf':CF}{d:Nat}(h:fC x (x::l) 1 cf d=.ok cf' (x::l).length):eS (x::l) cf d=.ok cf' (x::l).length:=by
 show oR (x::l) 0 cf d=_
 unfold oR
 rw[gV (x:=x) rfl]
 show(fC x (x::l) 1 cf d).bind _=_
 rw[h]
 show gy (x::l) cf' (x::l).length=_
 unfold gy
 rw[decide_eq_false (by omega)]
theorem uy{n:Int}(h0:0≤n)(hn:n≤9223372036854775807)(cf:CF)(d:Nat):eS (eh n) cf d=.ok { cf with ag:=cf.ag++[n] } 2:=by
 refine mX ?_
 unfold fC
 rw[if_pos rfl,sS (n:=n) rfl h0 hn]
 show Out.ok { cf with ag:=cf.ag++[((n.toNat:Nat):Int)] } 2=_
 rw[Int.toNat_of_nonneg h0];rfl
theorem Ac(hU:EN){r:Rt}(hp:r.pf.n < 2^128)(hk:gr r.pf.v r.pf.n r.pf.k=true)(h0:0≤r.out)(hn:r.out≤9223372036854775807)(cf:CF)(d:Nat):eS (eP r) cf d=.ok { cf with ae:=cf.ae++[r] } 3:=by
 refine mX ?_
 unfold fC
 rw[if_neg (by decide),if_pos rfl,prefix_at hU (p:=r.pf) rfl hp hk]
 show(ic _ 2).bind _=_
 rw[sS (n:=r.out) rfl h0 hn]
 show Out.ok { cf with ae:=cf.ae++[(⟨r.pf,((r.out.toNat:Nat):Int)⟩:Rt)] } 3=_
 rw[Int.toNat_of_nonneg h0];rfl
theorem Az{m:Me}(hn:aG m.name=true)(h1:m.num≤18446744073709551615)(h2:m.den≤18446744073709551615)(h3:m.pj≤18446744073709551615)(cf:CF)(d:Nat):eS (eR m) cf d=.ok { cf with af:=cf.af++[m] } 5:=by
 refine mX ?_
 unfold fC
 rw[if_neg (by decide),if_neg (by decide),if_pos rfl,qW (x:=m.name) rfl hn]
 show(bw _ _ 2).bind _=_
 rw[j6 (n:=m.num) rfl h1]
 show(bw _ _ 3).bind _=_
 rw[j6 (n:=m.den) rfl h2]
 show(bw _ _ 4).bind _=_
 rw[j6 (n:=m.pj) rfl h3]
 rfl
theorem xV{m:Mi}(hn:aG m.name=true)(h1:0≤m.out)(h2:m.out≤9223372036854775807)(h3:0≤m.room)(h4:m.room≤9223372036854775807)(cf:CF)(d:Nat):eS (cX m) cf d=.ok { cf with aa:=cf.aa++[m] } 4:=by
 refine mX ?_
 unfold fC
 rw[if_neg (by decide),if_neg (by decide),if_neg (by decide),if_pos rfl,qW (x:=m.name) rfl hn]
 show(ic _ 2).bind _=_
 rw[sS (n:=m.out) rfl h1 h2]
 show(ic _ 3).bind _=_
 rw[sS (n:=m.room) rfl h3 h4]
 show Out.ok { cf with aa:=cf.aa++[(⟨m.name,((m.out.toNat:Nat):Int),((m.room.toNat:Nat):Int)⟩:Mi)] } 4=_
 rw[Int.toNat_of_nonneg h1,Int.toNat_of_nonneg h3];rfl
theorem Dw(hU:EN){r:Rl}(hr:Ld r)(hc:bj r.mt=true)(hn:aG r.name=true)(ha:my r.act r.out=true)(hme:jt r.df=true)(hmi:jt r.bZ=true)(cf:CF)(d:Nat):eS (dr r) cf d=.ok { cf with rules:=cf.rules++[r] } (dr r).length:=by
 refine mX (x:=dB) ?_
 unfold fC
 rw[if_neg (by decide),if_neg (by decide),if_neg (by decide),if_neg (by decide),if_pos rfl]
 have:=Ju hU hr hc hn ha hme hmi
 show(nu (dr r) 1).bind _=_
 rw[this];rfl
theorem El{a:Int}(h:a=1∨a=2∨a=4)(cf:CF):eS (iA a) cf 0=.ok { cf with a8:=a } 2:=by
 have hl:(aZ a 0).length=1:=by rcases h with rfl|rfl|rfl<;>rfl
 have hb:my a 0=true:=by rcases h with rfl|rfl|rfl<;>decide
 have ha:=Iz (out:=false) (pre:=[aV]) (r:=[]) hb (.inr (by omega)) (by omega)
 rw[hl,List.append_nil]at ha
 have h2:(aV::aZ a 0).length=2:=by rw[List.length_cons,hl]
 have:=mX (x:=aV) (l:=aZ a 0) (cf:=cf) (cf':={ cf with a8:=a }) (d:=0) (by
  unfold fC
  rw[if_neg (by decide),if_neg (by decide),if_neg (by decide),if_neg (by decide),if_neg (by decide),if_pos rfl]
  show(ou false (aV::aZ a 0) 1).bind _=_
  rw[show ou false (aV::aZ a 0) 1=.ok (a,0) 2 from ha,h2];rfl)
 rw[h2]at this
 exact this
theorem kQ{l:Bs}{ls:List Bs}{k i:Nat}{cf cf':CF}{d:Nat}(h:eS (aI true l) cf d=.ok cf' i):fz (l::ls) k cf d=fz ls (k+1) cf' (dN (aI true l) d):=by
 rw[fz,h]
theorem iN{α:Type}{W:α→List Bs}{add:CF→α→CF}{d:Nat}{rest:List Bs}:∀(l:List α) (k:Nat) (cf:CF),(∀a∈l,(∀x∈W a,ee x)∧(W a)[0]?≠some aV∧∀cf,∃i,eS (W a) cf d=.ok (add cf a) i)→
  fz (l.map (fun a=>aJ 32 (W a))++rest) k cf d=fz rest (k+l.length) (l.foldl add cf) d
 | [],k,cf,_=>rfl
 |a::l,k,cf,h=>by
  obtain⟨h1,h2,h3⟩:=h a (by simp)
  obtain⟨i,hi⟩:=h3 cf
  have e:=kz true (W a) h1
  rw[List.map_cons,List.cons_append,kQ (by rw[e];exact hi),e]
  have:dN (W a) d=d:=by unfold dN;rw[if_neg h2]
  rw[this,iN l (k+1) (add cf a) fun b hb=>h b (List.mem_cons_of_mem _ hb),List.length_cons]
  congr 1
  omega
structure ov(cf:CF):Prop where
 ag:∀n∈cf.ag,0≤n∧n≤9223372036854775807
 ae:∀r∈cf.ae,r.pf.n < 2^128∧gr r.pf.v r.pf.n r.pf.k=true∧0≤r.out∧r.out≤9223372036854775807
 af:∀m∈cf.af,aG m.name=true∧m.num≤18446744073709551615∧m.den≤18446744073709551615∧m.pj≤18446744073709551615
 aa:∀m∈cf.aa,aG m.name=true∧0≤m.out∧m.out≤9223372036854775807∧0≤m.room∧m.room≤9223372036854775807
 rules:∀r∈cf.rules,Ld r∧bj r.mt=true∧aG r.name=true∧my r.act r.out=true∧jt r.df=true∧jt r.bZ=true
 a8:cf.a8=1∨cf.a8=2∨cf.a8=4
structure Lf(cf:CF):Prop where
 ag:∀n∈cf.ag,n≤9223372036854775807
 ae:∀r∈cf.ae,r.pf.n < 2^128∧r.out≤9223372036854775807
 af:∀m∈cf.af,m.num≤18446744073709551615∧m.den≤18446744073709551615∧m.pj≤18446744073709551615
 aa:∀m∈cf.aa,m.out≤9223372036854775807∧m.room≤9223372036854775807
 rules:∀r∈cf.rules,Ld r
theorem fold_zero{α:Type}{E:Int→α→Int}{p:α→Prop}(h:∀e a,E e a=0↔p a∧e=0):∀(l:List α) (e:Int),l.foldl E e=0↔(∀a∈l,p a)∧e=0
 | [],e=>by simp
 |a::l,e=>by
  rw[List.foldl_cons,fold_zero h l,h]
  constructor
  ·rintro⟨h1,h2,h3⟩
   exact⟨fun b hb=>by
    rcases List.mem_cons.1 hb with rfl|hb
    ·exact h2
    ·exact h1 b hb,h3⟩
  ·rintro⟨h1,h2⟩
   exact⟨fun b hb=>h1 b (List.mem_cons_of_mem _ hb),h1 a (by simp),h2⟩
theorem Bf(cf:CF):pb cf=0↔(∀n∈cf.ag,0≤n)∧(∀r∈cf.ae,0≤r.out∧gr r.pf.v r.pf.n r.pf.k=true)∧(∀m∈cf.af,aG m.name=true)∧(∀m∈cf.aa,(0≤m.out∧0≤m.room)∧aG m.name=true)∧
  (∀r∈cf.rules,jt r.bZ=true∧jt r.df=true∧my r.act r.out=true∧bj r.mt=true∧aG r.name=true)∧(cf.a8=1∨cf.a8=2∨cf.a8=4):=by
 have pE:∀e n,Ce e n=0↔0≤n∧e=0:=fun e n=>by unfold Ce;rw[dj (by decide)];simp
 have rE:∀e (r:Rt),vD e r=0↔(0≤r.out∧gr r.pf.v r.pf.n r.pf.k=true)∧e=0:=fun e r=>by unfold vD;rw[dj (by decide),dj (by decide)];simp[and_assoc]
 have mE:∀e (m:Me),vR e m=0↔aG m.name=true∧e=0:=fun e m=>by unfold vR;rw[dj (by decide)]
 have iE:∀e (m:Mi),jC e m=0↔((0≤m.out∧0≤m.room)∧aG m.name=true)∧e=0:=fun e m=>by unfold jC;rw[dj (by decide),dj (by decide)];simp[and_assoc]
 have lE:∀e (r:Rl),qh e r=0↔(jt r.bZ=true∧jt r.df=true∧my r.act r.out=true∧bj r.mt=true∧aG r.name=true)∧e=0:=fun e r=>by
  unfold qh
  rw[dj (by decide),dj (by decide),dj (by decide),dj (by decide),dj (by decide)]
  simp[and_assoc]
 unfold pb Hp
 rw[dj (by decide),fold_zero lE,fold_zero iE,fold_zero mE,fold_zero rE,fold_zero pE]
 simp only[Bool.or_eq_true,decide_eq_true_eq,and_true]
 constructor
 ·rintro⟨h1,h2,h3,h4,h5,h6⟩
  exact⟨h6,h5,h4,h3,h2,h1⟩
 ·rintro⟨h1,h2,h3,h4,h5,h6⟩
  exact⟨h6,h5,h4,h3,h2,h1⟩
theorem tB{cf:CF}(h:Lf cf):pb cf=0↔ov cf:=by
 rw[Bf]
 constructor
 ·rintro⟨h1,h2,h3,h4,h5,h6⟩
  exact⟨fun n hn=>⟨h1 n hn,h.ag n hn⟩,fun r hr=>⟨(h.ae r hr).1,(h2 r hr).2,(h2 r hr).1,(h.ae r hr).2⟩,fun m hm=>⟨h3 m hm,h.af m hm⟩,fun m hm=>⟨(h4 m hm).2,(h4 m hm).1.1,(h.aa m hm).1,(h4 m hm).1.2,(h.aa m hm).2⟩,
   fun r hr=>⟨h.rules r hr,(h5 r hr).2.2.2.1,(h5 r hr).2.2.2.2,(h5 r hr).2.2.1,(h5 r hr).2.1,(h5 r hr).1⟩,h6⟩
 ·intro h
  exact⟨fun n hn=>(h.ag n hn).1,fun r hr=>⟨(h.ae r hr).2.2.1,(h.ae r hr).2.1⟩,fun m hm=>(h.af m hm).1,fun m hm=>⟨⟨(h.aa m hm).2.1,(h.aa m hm).2.2.2.1⟩,(h.aa m hm).1⟩,
   fun r hr=>⟨(h.rules r hr).2.2.2.2.2,(h.rules r hr).2.2.2.2.1,(h.rules r hr).2.2.2.1,(h.rules r hr).2.1,(h.rules r hr).2.2.1⟩,h.a8⟩
end Go.Proofs.YtnncigmpcdehnaaGreatDoor
