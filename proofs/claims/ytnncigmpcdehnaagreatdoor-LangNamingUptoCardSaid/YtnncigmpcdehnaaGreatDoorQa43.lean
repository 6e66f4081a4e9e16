import Derived.Test.YtnncigmpcdehnaaGreatDoorQa42
namespace Go.Proofs.YtnncigmpcdehnaaGreatDoor
open Go.RowKit Go.Lib Go.Sort
theorem at0{α:Type}(pre:List α)(x:α)(r:List α):(pre++x::r)[pre.length]?=some x:=by simp
theorem at1{α:Type}(pre:List α)(x y:α)(r:List α):(pre++x::y::r)[pre.length+1]?=some y:=by
 rw[List.getElem?_append_right (by omega)];simp
theorem wantE_zero{is:Bool}{code e:Int}(hc:code≠0):wantE is code e=0↔is=true∧e=0:=by
 unfold wantE
 cases is with
 |true=>simp
 |false=>
  by_cases h:e=0
  ·rw[decide_eq_true h];simp[hc]
  ·rw[decide_eq_false h];simp[h]
theorem act_at{out:Bool}{pre r:List Bs}{act o:Int}(hb:actB act o=true)(hout:out=true∨act≠3)(ho:o≤9223372036854775807):actR out (pre++(actWs act o++r)) pre.length=.ok (act,o) (pre.length+(actWs act o).length):=by
 unfold actB at hb
 simp only[Bool.and_eq_true,Bool.or_eq_true,decide_eq_true_eq]at hb
 obtain⟨⟨h1,h4⟩,h0,hz⟩:=hb
 unfold actR
 by_cases a1:act=1
 ·have hz0:o=0:=by omega
  have e:actWs act o=[kRoute]:=by unfold actWs;rw[if_pos a1]
  rw[e]
  simp only[List.cons_append,List.nil_append]
  rw[next_at (at0 pre kRoute r)]
  simp only[Out.bind,if_true]
  rw[a1,hz0];rfl
 by_cases a2:act=2
 ·have hz0:o=0:=by omega
  have e:actWs act o=[kDrop]:=by unfold actWs;rw[if_neg a1,if_pos a2]
  rw[e]
  simp only[List.cons_append,List.nil_append]
  rw[next_at (at0 pre kDrop r)]
  simp only[Out.bind]
  rw[if_neg (by decide),if_pos trivial,a2,hz0];rfl
 by_cases a3:act=3
 ·have e:actWs act o=[kOut,itoaT o]:=by unfold actWs;rw[if_neg a1,if_neg a2,if_pos a3]
  have ht:out=true:=by
   rcases hout with h|h
   ·exact h
   ·exact absurd a3 h
  rw[e]
  simp only[List.cons_append,List.nil_append]
  rw[next_at (at0 pre kOut (itoaT o::r))]
  simp only[Out.bind]
  rw[if_neg (by decide),if_neg (by decide),if_neg (by decide),if_pos ⟨trivial,ht⟩]
  have:=int_at (ws:=pre++kOut::itoaT o::r) (i:=pre.length+1) (n:=o) (at1 pre kOut (itoaT o) r) h0 ho
  rw[this]
  show Out.ok (3,((o.toNat:Nat):Int)) (pre.length+1+1)=_
  rw[Int.toNat_of_nonneg h0,a3];rfl
 ·have a4:act=4:=by omega
  have hz0:o=0:=by omega
  have e:actWs act o=[kReject]:=by unfold actWs;rw[if_neg a1,if_neg a2,if_neg a3,if_pos a4]
  rw[e]
  simp only[List.cons_append,List.nil_append]
  rw[next_at (at0 pre kReject r)]
  simp only[Out.bind]
  rw[if_neg (by decide),if_neg (by decide),if_pos trivial,a4,hz0];rfl
theorem opt_at{k s:Bs}{pre r:List Bs}(hs:optB s=true)(hr:r[0]?≠some k):optR k (pre++(optWs k s++r)) pre.length=.ok s (pre.length+(optWs k s).length):=by
 unfold optR optWs
 by_cases h:s=[]
 ·rw[if_pos h,List.nil_append]
  have e:(pre++r)[pre.length]?=r[0]?:=by rw[List.getElem?_append_right (by omega),Nat.sub_self]
  rw[took_no_at (by rw[e];exact hr),h];rfl
 ·rw[if_neg h]
  have hn:nameB s=true:=by
   unfold optB at hs
   rw[decide_eq_false h]at hs
   exact hs
  simp only[List.cons_append,List.nil_append]
  rw[took_yes_at (at0 pre k (s::r))]
  show nameR (pre++k::s::r) (pre.length+1)=_
  rw[name_at (at1 pre k s r) hn];rfl
def ruleVs(r:Rl):List Bs:=[kRule,r.name]++(mWs r.mt++([kTo]++(actWs r.act r.out++(optWs kMeter r.meter++(optWs kMirror r.mirror++[])))))
theorem noF_to(l:List Bs):noF ([kTo]++l):=fun x hx=>by
 cases hx
 decide
structure RlIn(r:Rl):Prop where
 mt:MtIn r.mt
 out:r.out≤9223372036854775807
theorem rule_at(hU:RdU){r:Rl}(hr:RlIn r)(hc:checkM r.mt=true)(hn:nameB r.name=true)(ha:actB r.act r.out=true)(hme:optB r.meter=true)(hmi:optB r.mirror=true):ruleR (ruleVs r) 1=.ok r (ruleVs r).length:=by
 have hp1:∀{α β:Type} (a:α) (i:Nat) (f:α→Nat→Out β),(Out.ok a i).bind f=f a i:=fun _ _ _=>rfl
 unfold ruleR
 rw[show nameR (ruleVs r) 1=.ok r.name 2 from name_at rfl hn,hp1]
 have hm:=match_at hU (M:=r.mt) hr.mt hc (pre:=[kRule,r.name]) (r:=[kTo]++(actWs r.act r.out++(optWs kMeter r.meter++(optWs kMirror r.mirror++[])))) (noF_to _)
 rw[show matchR (ruleVs r) 2=.ok r.mt (2+(mWs r.mt).length)from hm,hp1]
 obtain⟨p1,hp⟩:∃p1,p1=[kRule,r.name]++mWs r.mt:=⟨_,rfl⟩
 have l1:p1.length=2+(mWs r.mt).length:=by rw[hp,List.length_append];rfl
 have e1:ruleVs r=p1++(kTo::(actWs r.act r.out++(optWs kMeter r.meter++(optWs kMirror r.mirror++[])))):=by rw[hp];unfold ruleVs;simp
 rw[←l1]
 have e2:midR r.mt (ruleVs r) p1.length=.ok () (p1.length+1):=by
  unfold midR
  rw[next_at (x:=kTo) (by rw[e1];exact at0 _ _ _),hp1]
  show(wantR (decide (kTo=kTo)) 200 () (p1.length+1)).bind _=_
  rw[decide_eq_true rfl]
  show wantR (checkM r.mt) 190 () (p1.length+1)=_
  rw[hc];rfl
 rw[e2,hp1]
 obtain⟨p2,hp2⟩:∃p2,p2=p1++[kTo]:=⟨_,rfl⟩
 have l2:p2.length=p1.length+1:=by rw[hp2,List.length_append];rfl
 have e3:ruleVs r=p2++(actWs r.act r.out++(optWs kMeter r.meter++(optWs kMirror r.mirror++[]))):=by rw[e1,hp2];simp
 rw[←l2,show actR true (ruleVs r) p2.length=.ok (r.act,r.out) (p2.length+(actWs r.act r.out).length)by rw[e3];exact act_at ha (.inl rfl) hr.out,hp1]
 obtain⟨p3,hp3⟩:∃p3,p3=p2++actWs r.act r.out:=⟨_,rfl⟩
 have l3:p3.length=p2.length+(actWs r.act r.out).length:=by rw[hp3,List.length_append]
 have e4:ruleVs r=p3++(optWs kMeter r.meter++(optWs kMirror r.mirror++[])):=by rw[e3,hp3];simp
 rw[←l3,show optR kMeter (ruleVs r) p3.length=.ok r.meter (p3.length+(optWs kMeter r.meter).length)by
  rw[e4]
  refine opt_at hme ?_
  unfold optWs
  split
  ·simp
  ·simp;decide,hp1]
 obtain⟨p4,hp4⟩:∃p4,p4=p3++optWs kMeter r.meter:=⟨_,rfl⟩
 have l4:p4.length=p3.length+(optWs kMeter r.meter).length:=by rw[hp4,List.length_append]
 have e5:ruleVs r=p4++(optWs kMirror r.mirror++[]):=by rw[e4,hp4];simp
 rw[←l4,show optR kMirror (ruleVs r) p4.length=.ok r.mirror (p4.length+(optWs kMirror r.mirror).length)by
  rw[e5];exact opt_at hmi (by simp),hp1]
 congr 1
 rw[e5];simp
theorem line_of{x:Bs}{l:List Bs}{cf cf':CF}{d:Nat}(h:bodyR x (x::l) 1 cf d=.ok cf' (x::l).length):lineR (x::l) cf d=.ok cf' (x::l).length:=by
 show intoR (x::l) 0 cf d=_
 unfold intoR
 rw[next_at (x:=x) rfl]
 show(bodyR x (x::l) 1 cf d).bind _=_
 rw[h]
 show endR (x::l) cf' (x::l).length=_
 unfold endR
 rw[decide_eq_false (by omega)]
theorem port_line{n:Int}(h0:0≤n)(hn:n≤9223372036854775807)(cf:CF)(d:Nat):lineR (portWs n) cf d=.ok { cf with ports:=cf.ports++[n] } 2:=by
 refine line_of ?_
 unfold bodyR
 rw[if_pos rfl,int_at (n:=n) rfl h0 hn]
 show Out.ok { cf with ports:=cf.ports++[((n.toNat:Nat):Int)] } 2=_
 rw[Int.toNat_of_nonneg h0];rfl
theorem route_line(hU:RdU){r:Rt}(hp:r.pf.n < 2^128)(hk:okP r.pf.v r.pf.n r.pf.k=true)(h0:0≤r.out)(hn:r.out≤9223372036854775807)(cf:CF)(d:Nat):lineR (routeWs r) cf d=.ok { cf with routes:=cf.routes++[r] } 3:=by
 refine line_of ?_
 unfold bodyR
 rw[if_neg (by decide),if_pos rfl,prefix_at hU (p:=r.pf) rfl hp hk]
 show(intR _ 2).bind _=_
 rw[int_at (n:=r.out) rfl h0 hn]
 show Out.ok { cf with routes:=cf.routes++[(⟨r.pf,((r.out.toNat:Nat):Int)⟩:Rt)] } 3=_
 rw[Int.toNat_of_nonneg h0];rfl
theorem meter_line{m:Me}(hn:nameB m.name=true)(h1:m.num≤18446744073709551615)(h2:m.den≤18446744073709551615)(h3:m.burst≤18446744073709551615)(cf:CF)(d:Nat):lineR (meterWs m) cf d=.ok { cf with meters:=cf.meters++[m] } 5:=by
 refine line_of ?_
 unfold bodyR
 rw[if_neg (by decide),if_neg (by decide),if_pos rfl,name_at (x:=m.name) rfl hn]
 show(numberR _ _ 2).bind _=_
 rw[number_at (n:=m.num) rfl h1]
 show(numberR _ _ 3).bind _=_
 rw[number_at (n:=m.den) rfl h2]
 show(numberR _ _ 4).bind _=_
 rw[number_at (n:=m.burst) rfl h3]
 rfl
theorem mirror_line{m:Mi}(hn:nameB m.name=true)(h1:0≤m.out)(h2:m.out≤9223372036854775807)(h3:0≤m.room)(h4:m.room≤9223372036854775807)(cf:CF)(d:Nat):lineR (mirrorWs m) cf d=.ok { cf with mirrors:=cf.mirrors++[m] } 4:=by
 refine line_of ?_
 unfold bodyR
 rw[if_neg (by decide),if_neg (by decide),if_neg (by decide),if_pos rfl,name_at (x:=m.name) rfl hn]
 show(intR _ 2).bind _=_
 rw[int_at (n:=m.out) rfl h1 h2]
 show(intR _ 3).bind _=_
 rw[int_at (n:=m.room) rfl h3 h4]
 show Out.ok { cf with mirrors:=cf.mirrors++[(⟨m.name,((m.out.toNat:Nat):Int),((m.room.toNat:Nat):Int)⟩:Mi)] } 4=_
 rw[Int.toNat_of_nonneg h1,Int.toNat_of_nonneg h3];rfl
theorem rule_line(hU:RdU){r:Rl}(hr:RlIn r)(hc:checkM r.mt=true)(hn:nameB r.name=true)(ha:actB r.act r.out=true)(hme:optB r.meter=true)(hmi:optB r.mirror=true)(cf:CF)(d:Nat):lineR (ruleVs r) cf d=.ok { cf with rules:=cf.rules++[r] } (ruleVs r).length:=by
 refine line_of (x:=kRule) ?_
 unfold bodyR
 rw[if_neg (by decide),if_neg (by decide),if_neg (by decide),if_neg (by decide),if_pos rfl]
 have:=rule_at hU hr hc hn ha hme hmi
 show(ruleR (ruleVs r) 1).bind _=_
 rw[this];rfl
theorem dflt_line{a:Int}(h:a=1∨a=2∨a=4)(cf:CF):lineR (dfltWs a) cf 0=.ok { cf with dflt:=a } 2:=by
 have hl:(actWs a 0).length=1:=by rcases h with rfl|rfl|rfl<;>rfl
 have hb:actB a 0=true:=by rcases h with rfl|rfl|rfl<;>decide
 have ha:=act_at (out:=false) (pre:=[kDefault]) (r:=[]) hb (.inr (by omega)) (by omega)
 rw[hl,List.append_nil]at ha
 have h2:(kDefault::actWs a 0).length=2:=by rw[List.length_cons,hl]
 have:=line_of (x:=kDefault) (l:=actWs a 0) (cf:=cf) (cf':={ cf with dflt:=a }) (d:=0) (by
  unfold bodyR
  rw[if_neg (by decide),if_neg (by decide),if_neg (by decide),if_neg (by decide),if_neg (by decide),if_pos rfl]
  show(actR false (kDefault::actWs a 0) 1).bind _=_
  rw[show actR false (kDefault::actWs a 0) 1=.ok (a,0) 2 from ha,h2];rfl)
 rw[h2]at this
 exact this
theorem readL_line{l:Bs}{ls:List Bs}{k i:Nat}{cf cf':CF}{d:Nat}(h:lineR (wordsW true l) cf d=.ok cf' i):readL (l::ls) k cf d=readL ls (k+1) cf' (dN (wordsW true l) d):=by
 rw[readL,h]
theorem readL_run{α:Type}{W:α→List Bs}{add:CF→α→CF}{d:Nat}{rest:List Bs}:∀(l:List α) (k:Nat) (cf:CF),(∀a∈l,(∀x∈W a,goodW x)∧(W a)[0]?≠some kDefault∧∀cf,∃i,lineR (W a) cf d=.ok (add cf a) i)→
  readL (l.map (fun a=>joinC 32 (W a))++rest) k cf d=readL rest (k+l.length) (l.foldl add cf) d
 | [],k,cf,_=>rfl
 |a::l,k,cf,h=>by
  obtain⟨h1,h2,h3⟩:=h a (by simp)
  obtain⟨i,hi⟩:=h3 cf
  have e:=words_join true (W a) h1
  rw[List.map_cons,List.cons_append,readL_line (by rw[e];exact hi),e]
  have:dN (W a) d=d:=by unfold dN;rw[if_neg h2]
  rw[this,readL_run l (k+1) (add cf a) fun b hb=>h b (List.mem_cons_of_mem _ hb),List.length_cons]
  congr 1
  omega
structure CfOk(cf:CF):Prop where
 ports:∀n∈cf.ports,0≤n∧n≤9223372036854775807
 routes:∀r∈cf.routes,r.pf.n < 2^128∧okP r.pf.v r.pf.n r.pf.k=true∧0≤r.out∧r.out≤9223372036854775807
 meters:∀m∈cf.meters,nameB m.name=true∧m.num≤18446744073709551615∧m.den≤18446744073709551615∧m.burst≤18446744073709551615
 mirrors:∀m∈cf.mirrors,nameB m.name=true∧0≤m.out∧m.out≤9223372036854775807∧0≤m.room∧m.room≤9223372036854775807
 rules:∀r∈cf.rules,RlIn r∧checkM r.mt=true∧nameB r.name=true∧actB r.act r.out=true∧optB r.meter=true∧optB r.mirror=true
 dflt:cf.dflt=1∨cf.dflt=2∨cf.dflt=4
structure CfIn(cf:CF):Prop where
 ports:∀n∈cf.ports,n≤9223372036854775807
 routes:∀r∈cf.routes,r.pf.n < 2^128∧r.out≤9223372036854775807
 meters:∀m∈cf.meters,m.num≤18446744073709551615∧m.den≤18446744073709551615∧m.burst≤18446744073709551615
 mirrors:∀m∈cf.mirrors,m.out≤9223372036854775807∧m.room≤9223372036854775807
 rules:∀r∈cf.rules,RlIn r
theorem fold_zero{α:Type}{E:Int→α→Int}{p:α→Prop}(h:∀e a,E e a=0↔p a∧e=0):∀(l:List α) (e:Int),l.foldl E e=0↔(∀a∈l,p a)∧e=0
 | [],e=>by simp
 |a::l,e=>by
  rw[List.foldl_cons,fold_zero h l,h]
  constructor
  ·rintro⟨h1,h2,h3⟩
   exact⟨fun b hb=>by
    rcases List.mem_cons.1 hb with rfl|hb
    ·exact h2
    ·exact h1 b hb,h3⟩
  ·rintro⟨h1,h2⟩
   exact⟨fun b hb=>h1 b (List.mem_cons_of_mem _ hb),h1 a (by simp),h2⟩
theorem cfErr_zero(cf:CF):cfErr cf=0↔(∀n∈cf.ports,0≤n)∧(∀r∈cf.routes,0≤r.out∧okP r.pf.v r.pf.n r.pf.k=true)∧(∀m∈cf.meters,nameB m.name=true)∧(∀m∈cf.mirrors,(0≤m.out∧0≤m.room)∧nameB m.name=true)∧
  (∀r∈cf.rules,optB r.mirror=true∧optB r.meter=true∧actB r.act r.out=true∧checkM r.mt=true∧nameB r.name=true)∧(cf.dflt=1∨cf.dflt=2∨cf.dflt=4):=by
 have pE:∀e n,portE e n=0↔0≤n∧e=0:=fun e n=>by unfold portE;rw[wantE_zero (by decide)];simp
 have rE:∀e (r:Rt),routeE e r=0↔(0≤r.out∧okP r.pf.v r.pf.n r.pf.k=true)∧e=0:=fun e r=>by unfold routeE;rw[wantE_zero (by decide),wantE_zero (by decide)];simp[and_assoc]
 have mE:∀e (m:Me),meterE e m=0↔nameB m.name=true∧e=0:=fun e m=>by unfold meterE;rw[wantE_zero (by decide)]
 have iE:∀e (m:Mi),mirrorE e m=0↔((0≤m.out∧0≤m.room)∧nameB m.name=true)∧e=0:=fun e m=>by unfold mirrorE;rw[wantE_zero (by decide),wantE_zero (by decide)];simp[and_assoc]
 have lE:∀e (r:Rl),ruleE e r=0↔(optB r.mirror=true∧optB r.meter=true∧actB r.act r.out=true∧checkM r.mt=true∧nameB r.name=true)∧e=0:=fun e r=>by
  unfold ruleE
  rw[wantE_zero (by decide),wantE_zero (by decide),wantE_zero (by decide),wantE_zero (by decide),wantE_zero (by decide)]
  simp[and_assoc]
 unfold cfErr dfltE
 rw[wantE_zero (by decide),fold_zero lE,fold_zero iE,fold_zero mE,fold_zero rE,fold_zero pE]
 simp only[Bool.or_eq_true,decide_eq_true_eq,and_true]
 constructor
 ·rintro⟨h1,h2,h3,h4,h5,h6⟩
  exact⟨h6,h5,h4,h3,h2,h1⟩
 ·rintro⟨h1,h2,h3,h4,h5,h6⟩
  exact⟨h6,h5,h4,h3,h2,h1⟩
theorem cfOk_iff{cf:CF}(h:CfIn cf):cfErr cf=0↔CfOk cf:=by
 rw[cfErr_zero]
 constructor
 ·rintro⟨h1,h2,h3,h4,h5,h6⟩
  exact⟨fun n hn=>⟨h1 n hn,h.ports n hn⟩,fun r hr=>⟨(h.routes r hr).1,(h2 r hr).2,(h2 r hr).1,(h.routes r hr).2⟩,fun m hm=>⟨h3 m hm,h.meters m hm⟩,fun m hm=>⟨(h4 m hm).2,(h4 m hm).1.1,(h.mirrors m hm).1,(h4 m hm).1.2,(h.mirrors m hm).2⟩,
   fun r hr=>⟨h.rules r hr,(h5 r hr).2.2.2.1,(h5 r hr).2.2.2.2,(h5 r hr).2.2.1,(h5 r hr).2.1,(h5 r hr).1⟩,h6⟩
 ·intro h
  exact⟨fun n hn=>(h.ports n hn).1,fun r hr=>⟨(h.routes r hr).2.2.1,(h.routes r hr).2.1⟩,fun m hm=>(h.meters m hm).1,fun m hm=>⟨⟨(h.mirrors m hm).2.1,(h.mirrors m hm).2.2.2.1⟩,(h.mirrors m hm).1⟩,
   fun r hr=>⟨(h.rules r hr).2.2.2.2.2,(h.rules r hr).2.2.2.2.1,(h.rules r hr).2.2.2.1,(h.rules r hr).2.1,(h.rules r hr).2.2.1⟩,h.dflt⟩
end Go.Proofs.YtnncigmpcdehnaaGreatDoor
