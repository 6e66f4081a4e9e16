import Derived.Test.YtnncigmpcdehnaaGreatDoorQf39
namespace Go.Proofs.YtnncigmpcdehnaaGreatDoor
open Go.RowKit Go.Lib Go.Sort
theorem Q1{α:Type}(pre:List α)(x:α)(r:List α):(pre++x::r)[pre.length]?=some x:=by simp
theorem QG{α:Type}(pre:List α)(x y:α)(r:List α):(pre++x::y::r)[pre.length+1]?=some y:=by
 rw[List.getElem?_append_right (by omega)];simp
theorem dz{is:Bool}{code e:Int}(hc:code≠0):aI is code e=0↔is=true∧e=0:=by
 unfold aI
 cases is with
 |true=>simp
 |false=>
  by_cases h:e=0
  ·rw[decide_eq_true h];simp[hc]
  ·rw[decide_eq_false h];simp[h]
theorem Lj{out:Bool}{pre r:List Bs}{act o:Int}(hb:ju act o=true)(hout:out=true∨act≠3)(ho:o≤9223372036854775807):pI out (pre++(aM act o++r)) pre.length=.ok (act,o) (pre.length+(aM act o).length):=by
 unfold ju at hb
 simp only[Bool.and_eq_true,Bool.or_eq_true,decide_eq_true_eq]at hb
 obtain⟨⟨h1,h4⟩,h0,hz⟩:=hb
 unfold pI
 by_cases a1:act=1
 ·have hz0:o=0:=by omega
  have e:aM act o=[de]:=by unfold aM;rw[if_pos a1]
  rw[e]
  simp only[List.cons_append,List.nil_append]
  rw[iP (Q1 pre de r)]
  simp only[Out.bind,if_true]
  rw[a1,hz0];rfl
 by_cases a2:act=2
 ·have hz0:o=0:=by omega
  have e:aM act o=[kq]:=by unfold aM;rw[if_neg a1,if_pos a2]
  rw[e]
  simp only[List.cons_append,List.nil_append]
  rw[iP (Q1 pre kq r)]
  simp only[Out.bind]
  rw[if_neg (by decide),if_pos trivial,a2,hz0];rfl
 by_cases a3:act=3
 ·have e:aM act o=[nC,cz o]:=by unfold aM;rw[if_neg a1,if_neg a2,if_pos a3]
  have ht:out=true:=by
   rcases hout with h|h
   ·exact h
   ·exact absurd a3 h
  rw[e]
  simp only[List.cons_append,List.nil_append]
  rw[iP (Q1 pre nC (cz o::r))]
  simp only[Out.bind]
  rw[if_neg (by decide),if_neg (by decide),if_neg (by decide),if_pos ⟨trivial,ht⟩]
  have:=vh (ws:=pre++nC::cz o::r) (i:=pre.length+1) (n:=o) (QG pre nC (cz o) r) h0 ho
  rw[this]
  show Out.ok (3,((o.toNat:Nat):Int)) (pre.length+1+1)=_
  rw[Int.toNat_of_nonneg h0,a3];rfl
 ·have a4:act=4:=by omega
  have hz0:o=0:=by omega
  have e:aM act o=[ga]:=by unfold aM;rw[if_neg a1,if_neg a2,if_neg a3,if_pos a4]
  rw[e]
  simp only[List.cons_append,List.nil_append]
  rw[iP (Q1 pre ga r)]
  simp only[Out.bind]
  rw[if_neg (by decide),if_neg (by decide),if_pos trivial,a4,hz0];rfl
theorem Je{k s:Bs}{pre r:List Bs}(hs:iW s=true)(hr:r[0]?≠some k):o7 k (pre++(cR k s++r)) pre.length=.ok s (pre.length+(cR k s).length):=by
 unfold o7 cR
 by_cases h:s=[]
 ·rw[if_pos h,List.nil_append]
  have e:(pre++r)[pre.length]?=r[0]?:=by rw[List.getElem?_append_right (by omega),Nat.sub_self]
  rw[jG (by rw[e];exact hr),h];rfl
 ·rw[if_neg h]
  have hn:aB s=true:=by
   unfold iW at hs
   rw[decide_eq_false h]at hs
   exact hs
  simp only[List.cons_append,List.nil_append]
  rw[j7 (Q1 pre k (s::r))]
  show gu (pre++k::s::r) (pre.length+1)=_
  rw[tj (QG pre k s r) hn];rfl
def dA(r:Rl):List Bs:=[gg,r.name]++(xn r.mt++([u6]++(aM r.act r.out++(cR bK r.bC++(cR bh r.aP++[])))))
theorem P5(l:List Bs):SL ([u6]++l):=fun x hx=>by
 cases hx
 decide
structure OB(r:Rl):Prop where
 mt:DZ r.mt
 out:r.out≤9223372036854775807
theorem MA(hU:Lm){r:Rl}(hr:OB r)(hc:bp r.mt=true)(hn:aB r.name=true)(ha:ju r.act r.out=true)(hme:iW r.bC=true)(hmi:iW r.aP=true):oJ (dA r) 1=.ok r (dA r).length:=by
 have hp1:∀{α β:Type} (a:α) (i:Nat) (f:α→Nat→Out β),(Out.ok a i).bind f=f a i:=fun _ _ _=>rfl
 unfold oJ
 rw[show gu (dA r) 1=.ok r.name 2 from tj rfl hn,hp1]
 have hm:=Jz hU (M:=r.mt) hr.mt hc (pre:=[gg,r.name]) (r:=[u6]++(aM r.act r.out++(cR bK r.bC++(cR bh r.aP++[])))) (P5 _)
 rw[show gi (dA r) 2=.ok r.mt (2+(xn r.mt).length)from hm,hp1]
 obtain⟨p1,hp⟩:∃p1,p1=[gg,r.name]++xn r.mt:=⟨_,rfl⟩
 have l1:p1.length=2+(xn r.mt).length:=by rw[hp,List.length_append];rfl
 have e1:dA r=p1++(u6::(aM r.act r.out++(cR bK r.bC++(cR bh r.aP++[])))):=by rw[hp];unfold dA;simp
 rw[←l1]
 have e2:No r.mt (dA r) p1.length=.ok () (p1.length+1):=by
  unfold No
  rw[iP (x:=u6) (by rw[e1];exact Q1 _ _ _),hp1]
  show(ay (decide (u6=u6)) 200 () (p1.length+1)).bind _=_
  rw[decide_eq_true rfl]
  show ay (bp r.mt) 190 () (p1.length+1)=_
  rw[hc];rfl
 rw[e2,hp1]
 obtain⟨p2,hp2⟩:∃p2,p2=p1++[u6]:=⟨_,rfl⟩
 have l2:p2.length=p1.length+1:=by rw[hp2,List.length_append];rfl
 have e3:dA r=p2++(aM r.act r.out++(cR bK r.bC++(cR bh r.aP++[]))):=by rw[e1,hp2];simp
 rw[←l2,show pI true (dA r) p2.length=.ok (r.act,r.out) (p2.length+(aM r.act r.out).length)by rw[e3];exact Lj ha (.inl rfl) hr.out,hp1]
 obtain⟨p3,hp3⟩:∃p3,p3=p2++aM r.act r.out:=⟨_,rfl⟩
 have l3:p3.length=p2.length+(aM r.act r.out).length:=by rw[hp3,List.length_append]
 have e4:dA r=p3++(cR bK r.bC++(cR bh r.aP++[])):=by rw[e3,hp3];simp
 rw[←l3,show o7 bK (dA r) p3.length=.ok r.bC (p3.length+(cR bK r.bC).length)by
  rw[e4]
  refine Je hme ?_
  unfold cR
  split
  ·simp
  ·simp;decide,hp1]
 obtain⟨p4,hp4⟩:∃p4,p4=p3++cR bK r.bC:=⟨_,rfl⟩
 have l4:p4.length=p3.length+(cR bK r.bC).length:=by rw[hp4,List.length_append]
 have e5:dA r=p4++(cR bh r.aP++[]):=by rw[e4,hp4];simp
 rw[←l4,show o7 bh (dA r) p4.length=.ok r.aP (p4.length+(cR bh r.aP).length)by
  rw[e5];exact Je hmi (by simp),hp1]
 congr 1
 rw[e5];simp
theorem ov{x:Bs}{l:List Bs}{cf cf':CF}{d:Nat}(h:gx x (x::l) 1 cf d=.ok cf' (x::l).length):ft (x::l) cf d=.ok cf' (x::l).length:=by
 show qx (x::l) 0 cf d=_
 unfold qx
 rw[iP (x:=x) rfl]
 show(gx x (x::l) 1 cf d).bind _=_
 rw[h]
 show sO (x::l) cf' (x::l).length=_
 unfold sO
 rw[decide_eq_false (by omega)]
theorem wU{n:Int}(h0:0≤n)(hn:n≤9223372036854775807)(cf:CF)(d:Nat):ft (eg n) cf d=.ok { cf with ag:=cf.ag++[n] } 2:=by
 refine ov ?_
 unfold gx
 rw[if_pos rfl,vh (n:=n) rfl h0 hn]
 show Out.ok { cf with ag:=cf.ag++[((n.toNat:Nat):Int)] } 2=_
 rw[Int.toNat_of_nonneg h0];rfl
theorem CE(hU:Lm){r:Rt}(hp:r.pf.n < 2^128)(hk:gh r.pf.v r.pf.n r.pf.k=true)(h0:0≤r.out)(hn:r.out≤9223372036854775807)(cf:CF)(d:Nat):ft (ek r) cf d=.ok { cf with ae:=cf.ae++[r] } 3:=by
 refine ov ?_
 unfold gx
 rw[if_neg (by decide),if_pos rfl,prefix_at hU (p:=r.pf) rfl hp hk]
 show(iZ _ 2).bind _=_
 rw[vh (n:=r.out) rfl h0 hn]
 show Out.ok { cf with ae:=cf.ae++[(⟨r.pf,((r.out.toNat:Nat):Int)⟩:Rt)] } 3=_
 rw[Int.toNat_of_nonneg h0];rfl
theorem C7{m:Me}(hn:aB m.name=true)(h1:m.num≤18446744073709551615)(h2:m.den≤18446744073709551615)(h3:m.iu≤18446744073709551615)(cf:CF)(d:Nat):ft (ep m) cf d=.ok { cf with af:=cf.af++[m] } 5:=by
 refine ov ?_
 unfold gx
 rw[if_neg (by decide),if_neg (by decide),if_pos rfl,tj (x:=m.name) rfl hn]
 show(bw _ _ 2).bind _=_
 rw[lh (n:=m.num) rfl h1]
 show(bw _ _ 3).bind _=_
 rw[lh (n:=m.den) rfl h2]
 show(bw _ _ 4).bind _=_
 rw[lh (n:=m.iu) rfl h3]
 rfl
theorem Ax{m:Mi}(hn:aB m.name=true)(h1:0≤m.out)(h2:m.out≤9223372036854775807)(h3:0≤m.room)(h4:m.room≤9223372036854775807)(cf:CF)(d:Nat):ft (cI m) cf d=.ok { cf with aa:=cf.aa++[m] } 4:=by
 refine ov ?_
 unfold gx
 rw[if_neg (by decide),if_neg (by decide),if_neg (by decide),if_pos rfl,tj (x:=m.name) rfl hn]
 show(iZ _ 2).bind _=_
 rw[vh (n:=m.out) rfl h1 h2]
 show(iZ _ 3).bind _=_
 rw[vh (n:=m.room) rfl h3 h4]
 show Out.ok { cf with aa:=cf.aa++[(⟨m.name,((m.out.toNat:Nat):Int),((m.room.toNat:Nat):Int)⟩:Mi)] } 4=_
 rw[Int.toNat_of_nonneg h1,Int.toNat_of_nonneg h3];rfl
theorem FW(hU:Lm){r:Rl}(hr:OB r)(hc:bp r.mt=true)(hn:aB r.name=true)(ha:ju r.act r.out=true)(hme:iW r.bC=true)(hmi:iW r.aP=true)(cf:CF)(d:Nat):ft (dA r) cf d=.ok { cf with rules:=cf.rules++[r] } (dA r).length:=by
 refine ov (x:=gg) ?_
 unfold gx
 rw[if_neg (by decide),if_neg (by decide),if_neg (by decide),if_neg (by decide),if_pos rfl]
 have:=MA hU hr hc hn ha hme hmi
 show(oJ (dA r) 1).bind _=_
 rw[this];rfl
theorem GX{a:Int}(h:a=1∨a=2∨a=4)(cf:CF):ft (iI a) cf 0=.ok { cf with aS:=a } 2:=by
 have hl:(aM a 0).length=1:=by rcases h with rfl|rfl|rfl<;>rfl
 have hb:ju a 0=true:=by rcases h with rfl|rfl|rfl<;>decide
 have ha:=Lj (out:=false) (pre:=[bL]) (r:=[]) hb (.inr (by omega)) (by omega)
 rw[hl,List.append_nil]at ha
 have h2:(bL::aM a 0).length=2:=by rw[List.length_cons,hl]
 have:=ov (x:=bL) (l:=aM a 0) (cf:=cf) (cf':={ cf with aS:=a }) (d:=0) (by
  unfold gx
  rw[if_neg (by decide),if_neg (by decide),if_neg (by decide),if_neg (by decide),if_neg (by decide),if_pos rfl]
  show(pI false (bL::aM a 0) 1).bind _=_
  rw[show pI false (bL::aM a 0) 1=.ok (a,0) 2 from ha,h2];rfl)
 rw[h2]at this
 exact this
theorem lU{l:Bs}{ls:List Bs}{k i:Nat}{cf cf':CF}{d:Nat}(h:ft (aK true l) cf d=.ok cf' i):gr (l::ls) k cf d=gr ls (k+1) cf' (dN (aK true l) d):=by
 rw[gr,h]
theorem jx{α:Type}{W:α→List Bs}{add:CF→α→CF}{d:Nat}{rest:List Bs}:∀(l:List α) (k:Nat) (cf:CF),(∀a∈l,(∀x∈W a,eH x)∧(W a)[0]?≠some bL∧∀cf,∃i,ft (W a) cf d=.ok (add cf a) i)→
  gr (l.map (fun a=>ao 32 (W a))++rest) k cf d=gr rest (k+l.length) (l.foldl add cf) d
 | [],k,cf,_=>rfl
 |a::l,k,cf,h=>by
  obtain⟨h1,h2,h3⟩:=h a (by simp)
  obtain⟨i,hi⟩:=h3 cf
  have e:=oS true (W a) h1
  rw[List.map_cons,List.cons_append,lU (by rw[e];exact hi),e]
  have:dN (W a) d=d:=by unfold dN;rw[if_neg h2]
  rw[this,jx l (k+1) (add cf a) fun b hb=>h b (List.mem_cons_of_mem _ hb),List.length_cons]
  congr 1
  omega
structure qR(cf:CF):Prop where
 ag:∀n∈cf.ag,0≤n∧n≤9223372036854775807
 ae:∀r∈cf.ae,r.pf.n < 2^128∧gh r.pf.v r.pf.n r.pf.k=true∧0≤r.out∧r.out≤9223372036854775807
 af:∀m∈cf.af,aB m.name=true∧m.num≤18446744073709551615∧m.den≤18446744073709551615∧m.iu≤18446744073709551615
 aa:∀m∈cf.aa,aB m.name=true∧0≤m.out∧m.out≤9223372036854775807∧0≤m.room∧m.room≤9223372036854775807
 rules:∀r∈cf.rules,OB r∧bp r.mt=true∧aB r.name=true∧ju r.act r.out=true∧iW r.bC=true∧iW r.aP=true
 aS:cf.aS=1∨cf.aS=2∨cf.aS=4
structure OD(cf:CF):Prop where
 ag:∀n∈cf.ag,n≤9223372036854775807
 ae:∀r∈cf.ae,r.pf.n < 2^128∧r.out≤9223372036854775807
 af:∀m∈cf.af,m.num≤18446744073709551615∧m.den≤18446744073709551615∧m.iu≤18446744073709551615
 aa:∀m∈cf.aa,m.out≤9223372036854775807∧m.room≤9223372036854775807
 rules:∀r∈cf.rules,OB r
theorem fold_zero{α:Type}{E:Int→α→Int}{p:α→Prop}(h:∀e a,E e a=0↔p a∧e=0):∀(l:List α) (e:Int),l.foldl E e=0↔(∀a∈l,p a)∧e=0
 | [],e=>by simp
 |a::l,e=>by
  rw[List.foldl_cons,fold_zero h l,h]
  constructor
  ·rintro⟨h1,h2,h3⟩
   exact⟨fun b hb=>by
    rcases List.mem_cons.1 hb with rfl|hb
    ·exact h2
    ·exact h1 b hb,h3⟩
  ·rintro⟨h1,h2⟩
   exact⟨fun b hb=>h1 b (List.mem_cons_of_mem _ hb),h1 a (by simp),h2⟩
theorem DJ(cf:CF):lB cf=0↔(∀n∈cf.ag,0≤n)∧(∀r∈cf.ae,0≤r.out∧gh r.pf.v r.pf.n r.pf.k=true)∧(∀m∈cf.af,aB m.name=true)∧(∀m∈cf.aa,(0≤m.out∧0≤m.room)∧aB m.name=true)∧
  (∀r∈cf.rules,iW r.aP=true∧iW r.bC=true∧ju r.act r.out=true∧bp r.mt=true∧aB r.name=true)∧(cf.aS=1∨cf.aS=2∨cf.aS=4):=by
 have pE:∀e n,Aj e n=0↔0≤n∧e=0:=fun e n=>by unfold Aj;rw[dz (by decide)];simp
 have rE:∀e (r:Rt),tY e r=0↔(0≤r.out∧gh r.pf.v r.pf.n r.pf.k=true)∧e=0:=fun e r=>by unfold tY;rw[dz (by decide),dz (by decide)];simp[and_assoc]
 have mE:∀e (m:Me),uL e m=0↔aB m.name=true∧e=0:=fun e m=>by unfold uL;rw[dz (by decide)]
 have iE:∀e (m:Mi),jq e m=0↔((0≤m.out∧0≤m.room)∧aB m.name=true)∧e=0:=fun e m=>by unfold jq;rw[dz (by decide),dz (by decide)];simp[and_assoc]
 have lE:∀e (r:Rl),pY e r=0↔(iW r.aP=true∧iW r.bC=true∧ju r.act r.out=true∧bp r.mt=true∧aB r.name=true)∧e=0:=fun e r=>by
  unfold pY
  rw[dz (by decide),dz (by decide),dz (by decide),dz (by decide),dz (by decide)]
  simp[and_assoc]
 unfold lB Fk
 rw[dz (by decide),fold_zero lE,fold_zero iE,fold_zero mE,fold_zero rE,fold_zero pE]
 simp only[Bool.or_eq_true,decide_eq_true_eq,and_true]
 constructor
 ·rintro⟨h1,h2,h3,h4,h5,h6⟩
  exact⟨h6,h5,h4,h3,h2,h1⟩
 ·rintro⟨h1,h2,h3,h4,h5,h6⟩
  exact⟨h6,h5,h4,h3,h2,h1⟩
theorem KJ{cf:CF}(h:OD cf):lB cf=0↔qR cf:=by
 rw[DJ]
 constructor
 ·rintro⟨h1,h2,h3,h4,h5,h6⟩
  exact⟨fun n hn=>⟨h1 n hn,h.ag n hn⟩,fun r hr=>⟨(h.ae r hr).1,(h2 r hr).2,(h2 r hr).1,(h.ae r hr).2⟩,fun m hm=>⟨h3 m hm,h.af m hm⟩,fun m hm=>⟨(h4 m hm).2,(h4 m hm).1.1,(h.aa m hm).1,(h4 m hm).1.2,(h.aa m hm).2⟩,
   fun r hr=>⟨h.rules r hr,(h5 r hr).2.2.2.1,(h5 r hr).2.2.2.2,(h5 r hr).2.2.1,(h5 r hr).2.1,(h5 r hr).1⟩,h6⟩
 ·intro h
  exact⟨fun n hn=>(h.ag n hn).1,fun r hr=>⟨(h.ae r hr).2.2.1,(h.ae r hr).2.1⟩,fun m hm=>(h.af m hm).1,fun m hm=>⟨⟨(h.aa m hm).2.1,(h.aa m hm).2.2.2.1⟩,(h.aa m hm).1⟩,
   fun r hr=>⟨(h.rules r hr).2.2.2.2.2,(h.rules r hr).2.2.2.2.1,(h.rules r hr).2.2.2.1,(h.rules r hr).2.1,(h.rules r hr).2.2.1⟩,h.aS⟩
open Go.RowKit Go.Lib Go.Sort
theorem lL{c:UInt8}(h:36≤c.toNat):wG c:=⟨fun e=>by subst e;exact absurd h (by decide),fun e=>by subst e;exact absurd h (by decide),fun e=>by subst e;exact absurd h (by decide),fun e=>by subst e;exact absurd h (by decide)⟩
theorem y9{b:Nat}(h2:2≤b)(h16:b≤16)(u:Nat):∀c∈aj b u,wG c:=fun c hc=>by
 obtain⟨d,hd,rfl⟩:=lz h2 u c hc
 refine lL ?_
 rw[iM (by omega)]
 split<;>omega
theorem lA(u:Nat):eH (aj 10 u):=⟨ml u,y9 (by omega) (by omega) u⟩
theorem Lc{a b:Bs}(ha:∀c∈a,wG c)(hb:∀c∈b,wG c):∀c∈a++b,wG c:=fun c hc=>by
 rcases List.mem_append.1 hc with h|h
 ·exact ha c h
 ·exact hb c h
theorem zb{x:UInt8}{b:Bs}(hx:wG x)(hb:∀c∈b,wG c):∀c∈x::b,wG c:=fun c hc=>by
 rcases List.mem_cons.1 hc with rfl|h
 ·exact hx
 ·exact hb c h
theorem JS{s:UInt8}(hs:wG s){l:List Bs}(h:∀x∈l,∀c∈x,wG c):∀c∈ao s l,wG c:=fun c hc=>by
 rcases fX hc with rfl|⟨x,hx,h1⟩
 ·exact hs
 ·exact h x hx c h1
theorem yL(l:List Nat):∀c∈aR l,wG c:=JS (lL (by decide)) fun x hx=>by
 obtain⟨u,_,rfl⟩:=List.mem_map.1 hx
 exact y9 (by omega) (by omega) u
theorem Mg(v:Bool)(n:Nat):∀c∈fD v n,wG c:=by
 cases v with
 |false=>
  show ∀c∈gb n,wG c
  refine JS (lL (by decide)) fun x hx=>?_
  simp at hx
  rcases hx with rfl|rfl|rfl|rfl<;>exact y9 (by omega) (by omega) _
 |true=>
  show ∀c∈cM (aL n),wG c
  unfold cM
  split
  ·exact yL _
  ·exact Lc (yL _) (zb (lL (by decide)) (zb (lL (by decide)) (yL _)))
theorem Mf(v:Bool)(n:Nat)(k:Int):eH (kX v n k):=by
 unfold kX
 refine⟨by simp,Lc (Mg v n) (zb (lL (by decide)) (y9 (by omega) (by omega) _))⟩
theorem I4{p:Px}(h:gh p.v p.n p.k=true):eH (pK p):=by
 unfold pK nh
 rw[if_pos h]
 exact Mf _ _ _
theorem RW{i:Nat}{c:UInt8}(h:wu i c=true):wG c:=by
 refine lL ?_
 unfold wu at h
 simp only[Bool.or_eq_true,Bool.and_eq_true,decide_eq_true_eq]at h
 omega
theorem yx{x:Bs}(h:aB x=true):eH x:=by
 unfold aB at h
 simp only[Bool.and_eq_true,decide_eq_true_eq,List.all_eq_true,List.mem_range]at h
 refine⟨fun e=>by rw[e]at h;exact absurd h.1.1 (by decide),fun c hc=>?_⟩
 obtain⟨i,hi,rfl⟩:=List.mem_iff_getElem.1 hc
 have:=h.2 i hi
 rw[List.getElem?_eq_getElem hi]at this
 exact RW this
theorem ve{n:Int}(h:0≤n):eH (cz n):=by rw[xt h];exact lA _
theorem gf{x:Bs}(h:(!x.isEmpty&&x.all fun c=>decide (36≤c.toNat))=true):eH x:=by
 simp only[Bool.and_eq_true,List.all_eq_true,decide_eq_true_eq]at h
 refine⟨fun e=>by subst e;exact absurd h.1 (by decide),fun c hc=>lL (h.2 c hc)⟩
theorem Cx(s:Nat×Nat):eH (dt s):=by
 unfold dt
 split
 ·exact lA _
 ·exact⟨by simp,Lc (lA _).2 (zb (lL (by decide)) (lA _).2)⟩
theorem MW(n:Nat):eH (dc n):=by
 unfold dc
 split
 ·exact gf (by decide)
 split
 ·exact gf (by decide)
 ·exact lA _
theorem NZ{M:Mt}{k:Nat}(hk:k < 6)(hb:M.asks.testBit k=true)(hs:M.asks.testBit 1=true→gh M.src.v M.src.n M.src.k=true)(hd:M.asks.testBit 2=true→gh M.dst.v M.dst.n M.dst.k=true):∀x∈bH M k,eH x:=by
 have two:∀{a b:Bs},eH a→eH b→∀x∈[a,b],eH x:=fun {a b} ha hb x hx=>by
  simp at hx
  rcases hx with rfl|rfl
  ·exact ha
  ·exact hb
 match k,hk with
 | 0,_=>exact two (gf (by decide)) (Cx _)
 | 1,_=>exact two (gf (by decide)) (I4 (hs hb))
 | 2,_=>exact two (gf (by decide)) (I4 (hd hb))
 | 3,_=>exact two (gf (by decide)) (MW _)
 | 4,_=>exact two (gf (by decide)) (Cx _)
 | 5,_=>exact two (gf (by decide)) (Cx _)
theorem RZ{M:Mt}(hc:bp M=true):∀x∈xn M,eH x:=by
 obtain⟨_,_,_,_,_,_,_,hs,hd⟩:=nJ hc
 unfold xn
 split
 ·intro x hx;rw[List.mem_singleton.1 hx];exact gf (by decide)
 ·rw[pc]
  intro x hx
  obtain⟨k,hk,hx⟩:=List.mem_flatMap.1 hx
  exact NZ (jQ hk).1 (jQ hk).2 hs hd x hx
theorem P8{M:Mt}(hc:bp M=true):xn M≠[]:=by
 have ha:=(nJ hc).1
 unfold xn
 split
 ·simp
 ·rename_i h0
  rw[pc]
  obtain⟨k,ks,hks⟩:=List.exists_cons_of_ne_nil (OZ h0 ha)
  obtain⟨x,y,e,_⟩:=qC M (jQ (M:=M) (k:=k) (by rw[hks];simp)).1
  rw[hks,List.flatMap_cons,e];simp
theorem Ph{act o:Int}(h:ju act o=true):∀x∈aM act o,eH x:=by
 unfold ju at h
 simp only[Bool.and_eq_true,decide_eq_true_eq]at h
 unfold aM
 split
 ·intro x hx;rw[List.mem_singleton.1 hx];exact gf (by decide)
 split
 ·intro x hx;rw[List.mem_singleton.1 hx];exact gf (by decide)
 split
 ·intro x hx
  simp at hx
  rcases hx with rfl|rfl
  ·exact gf (by decide)
  ·exact ve h.2.1
 split
 ·intro x hx;rw[List.mem_singleton.1 hx];exact gf (by decide)
 ·intro x hx;cases hx
theorem OS{k s:Bs}(hk:eH k)(h:iW s=true):∀x∈cR k s,eH x:=by
 unfold cR
 split
 ·intro x hx;cases hx
 ·rename_i h0
  have hn:aB s=true:=by
   unfold iW at h
   rw[decide_eq_false h0]at h
   exact h
  intro x hx
  simp at hx
  rcases hx with rfl|rfl
  ·exact hk
  ·exact yx hn
theorem Ix{r:Rl}(hc:bp r.mt=true)(hn:aB r.name=true)(ha:ju r.act r.out=true)(hme:iW r.bC=true)(hmi:iW r.aP=true):∀x∈dA r,eH x:=by
 intro x hx
 unfold dA at hx
 simp only[List.mem_append,List.mem_cons,List.not_mem_nil,or_false]at hx
 rcases hx with(rfl|rfl)|hx|rfl|hx|hx|hx
 ·exact gf (by decide)
 ·exact yx hn
 ·exact RZ hc x hx
 ·exact gf (by decide)
 ·exact Ph ha x hx
 ·exact OS (gf (by decide)) hme x hx
 ·exact OS (gf (by decide)) hmi x hx
theorem FX{r:Rl}(hc:bp r.mt=true):ao 32 (db r)=ao 32 (dA r):=by
 have e:Ak r.mt=ao 32 (xn r.mt):=by unfold Ak;rw[hc];exact Dc _
 have h1:db r=gg::(r.name::ao 32 (xn r.mt)::([u6]++(aM r.act r.out++(cR bK r.bC++(cR bh r.aP++[]))))):=by unfold db;rw[e];simp
 have h2:dA r=gg::(r.name::(xn r.mt++([u6]++(aM r.act r.out++(cR bK r.bC++(cR bh r.aP++[])))))):=rfl
 have h3:=GF 32 r.name (xn r.mt) ([u6]++(aM r.act r.out++(cR bK r.bC++(cR bh r.aP++[])))) (P8 hc)
 rw[h1,h2]
 show gg++32::ao 32 (r.name::_)=gg++32::ao 32 (r.name::_)
 rw[h3]
def G7(cf:CF):List (List Bs):=cf.ag.map eg++cf.ae.map ek++cf.af.map ep++cf.aa.map cI++cf.rules.map dA++[iI cf.aS]
theorem Dj(a b:List (List Bs)):dd (a++b)=dd a++dd b:=by simp[dd]
theorem uU{α:Type}(f g:α→List Bs):∀l:List α,(∀a∈l,ao 32 (f a)=ao 32 (g a))→dd (l.map f)=dd (l.map g)
 | [],_=>rfl
 |a::l,h=>by
  show eW (f a)++dd (l.map f)=eW (g a)++dd (l.map g)
  unfold eW
  rw[h a (by simp),uU f g l fun b hb=>h b (List.mem_cons_of_mem _ hb)]
theorem G8{cf:CF}(h:qR cf):eh cf=dd (G7 cf):=by
 unfold eh kC G7
 simp only[Dj]
 rw[uU db dA cf.rules fun r hr=>FX (h.rules r hr).2.1]
theorem Ew{cf:CF}(h:qR cf):∀n∈cf.ag,∀x∈eg n,eH x:=fun n hn x hx=>by
 simp[eg]at hx
 rcases hx with rfl|rfl
 ·exact gf (by decide)
 ·exact ve (h.ag n hn).1
theorem zZ{cf:CF}(h:qR cf):∀n∈cf.ae,∀x∈ek n,eH x:=fun n hn x hx=>by
 simp[ek]at hx
 rcases hx with rfl|rfl|rfl
 ·exact gf (by decide)
 ·exact I4 (h.ae n hn).2.1
 ·exact ve (h.ae n hn).2.2.1
theorem Az{cf:CF}(h:qR cf):∀n∈cf.af,∀x∈ep n,eH x:=fun n hn x hx=>by
 simp[ep]at hx
 rcases hx with rfl|rfl|rfl|rfl|rfl
 ·exact gf (by decide)
 ·exact yx (h.af n hn).1
 all_goals exact lA _
theorem xm{cf:CF}(h:qR cf):∀n∈cf.aa,∀x∈cI n,eH x:=fun n hn x hx=>by
 simp[cI]at hx
 rcases hx with rfl|rfl|rfl|rfl
 ·exact gf (by decide)
 ·exact yx (h.aa n hn).1
 ·exact ve (h.aa n hn).2.1
 ·exact ve (h.aa n hn).2.2.2.1
theorem En{cf:CF}(h:qR cf):∀r∈cf.rules,∀x∈dA r,eH x:=fun r hr=>by
 have:=h.rules r hr
 exact Ix this.2.1 this.2.2.1 this.2.2.2.1 this.2.2.2.2.1 this.2.2.2.2.2
theorem Kx{a:Int}(h:a=1∨a=2∨a=4):∀x∈iI a,eH x:=by
 intro x hx
 unfold iI at hx
 rcases List.mem_cons.1 hx with rfl|hx
 ·exact gf (by decide)
 ·exact Ph (by rcases h with rfl|rfl|rfl<;>decide) x hx
theorem Qv{cf:CF}(h:qR cf):∀ws∈G7 cf,∀x∈ws,eH x:=by
 intro ws hws x hx
 unfold G7 at hws
 simp only[List.mem_append,List.mem_map,List.mem_singleton]at hws
 rcases hws with((((⟨n,hn,rfl⟩ | ⟨n,hn,rfl⟩)|⟨n,hn,rfl⟩)|⟨n,hn,rfl⟩)|⟨n,hn,rfl⟩)|rfl
 ·exact Ew h n hn x hx
 ·exact zZ h n hn x hx
 ·exact Az h n hn x hx
 ·exact xm h n hn x hx
 ·exact En h n hn x hx
 ·exact Kx h.aS x hx
theorem vx:∀(l:List Int) (cf:CF),l.foldl (fun cf n=>{ cf with ag:=cf.ag++[n] }) cf={ cf with ag:=cf.ag++l }
 | [],cf=>by simp
 |a::l,cf=>by rw[List.foldl_cons,vx l];simp
theorem sA:∀(l:List Rt) (cf:CF),l.foldl (fun cf n=>{ cf with ae:=cf.ae++[n] }) cf={ cf with ae:=cf.ae++l }
 | [],cf=>by simp
 |a::l,cf=>by rw[List.foldl_cons,sA l];simp
theorem sC:∀(l:List Me) (cf:CF),l.foldl (fun cf n=>{ cf with af:=cf.af++[n] }) cf={ cf with af:=cf.af++l }
 | [],cf=>by simp
 |a::l,cf=>by rw[List.foldl_cons,sC l];simp
theorem qB:∀(l:List Mi) (cf:CF),l.foldl (fun cf n=>{ cf with aa:=cf.aa++[n] }) cf={ cf with aa:=cf.aa++l }
 | [],cf=>by simp
 |a::l,cf=>by rw[List.foldl_cons,qB l];simp
theorem vw:∀(l:List Rl) (cf:CF),l.foldl (fun cf n=>{ cf with rules:=cf.rules++[n] }) cf={ cf with rules:=cf.rules++l }
 | [],cf=>by simp
 |a::l,cf=>by rw[List.foldl_cons,vw l];simp
theorem QF(hU:Lm){cf:CF}(h:qR cf):gr (bA (eh cf)) 1 Fq 0=.ok cf:=by
 rw[G8 h,sh (G7 cf) fun ws hws x hx=>(Qv h ws hws x hx).2]
 unfold G7
 simp only[List.map_append,List.map_map,List.append_assoc]
 show gr (cf.ag.map (fun n=>ao 32 (eg n))++_) 1 Fq 0=_
 rw[jx (W:=eg) (add:=fun cf n=>{ cf with ag:=cf.ag++[n] }) cf.ag _ _ fun n hn=>⟨Ew h n hn,by simp[eg];decide,fun c=>⟨_,wU (h.ag n hn).1 (h.ag n hn).2 c 0⟩⟩,vx]
 show gr (cf.ae.map (fun n=>ao 32 (ek n))++_) _ _ 0=_
 rw[jx (W:=ek) (add:=fun cf n=>{ cf with ae:=cf.ae++[n] }) cf.ae _ _ fun n hn=>⟨zZ h n hn,by simp[ek];decide,fun c=>⟨_,CE hU (h.ae n hn).1 (h.ae n hn).2.1 (h.ae n hn).2.2.1 (h.ae n hn).2.2.2 c 0⟩⟩,sA]
 show gr (cf.af.map (fun n=>ao 32 (ep n))++_) _ _ 0=_
 rw[jx (W:=ep) (add:=fun cf n=>{ cf with af:=cf.af++[n] }) cf.af _ _ fun n hn=>⟨Az h n hn,by simp[ep];decide,fun c=>⟨_,C7 (h.af n hn).1 (h.af n hn).2.1 (h.af n hn).2.2.1 (h.af n hn).2.2.2 c 0⟩⟩,sC]
 show gr (cf.aa.map (fun n=>ao 32 (cI n))++_) _ _ 0=_
 rw[jx (W:=cI) (add:=fun cf n=>{ cf with aa:=cf.aa++[n] }) cf.aa _ _ fun n hn=>⟨xm h n hn,by simp[cI];decide,fun c=>⟨_,Ax (h.aa n hn).1 (h.aa n hn).2.1 (h.aa n hn).2.2.1 (h.aa n hn).2.2.2.1 (h.aa n hn).2.2.2.2 c 0⟩⟩,qB]
 show gr (cf.rules.map (fun n=>ao 32 (dA n))++_) _ _ 0=_
 rw[jx (W:=dA) (add:=fun cf n=>{ cf with rules:=cf.rules++[n] }) cf.rules _ _ fun n hn=>⟨En h n hn,by
  show some gg≠some bL
  decide,fun c=>⟨_,FW hU (h.rules n hn).1 (h.rules n hn).2.1 (h.rules n hn).2.2.1 (h.rules n hn).2.2.2.1 (h.rules n hn).2.2.2.2.1 (h.rules n hn).2.2.2.2.2 c 0⟩⟩,vw]
 have hw:=oS true (iI cf.aS) (Kx h.aS)
 show gr (ao 32 (iI cf.aS)::[[]]) _ _ 0=_
 rw[lU (by rw[hw];exact GX h.aS _),hw]
 have e:aK true []=[]:=rfl
 rw[lU (cf':={ ag:=cf.ag,ae:=cf.ae,rules:=cf.rules,af:=cf.af,aa:=cf.aa,aS:=cf.aS }) (i:=0) (by rw[e];rfl),e]
 rfl
end Go.Proofs.YtnncigmpcdehnaaGreatDoor
