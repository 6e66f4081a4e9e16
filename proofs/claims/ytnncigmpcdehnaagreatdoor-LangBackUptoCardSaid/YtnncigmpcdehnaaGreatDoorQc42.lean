import Derived.Test.YtnncigmpcdehnaaGreatDoorQc41
namespace Go.Proofs.YtnncigmpcdehnaaGreatDoor
open Go.RowKit Go.Lib Go.Sort
theorem kD{c:UInt8}(h:36≤c.toNat):ug c:=⟨fun e=>by subst e;exact absurd h (by decide),fun e=>by subst e;exact absurd h (by decide),fun e=>by subst e;exact absurd h (by decide),fun e=>by subst e;exact absurd h (by decide)⟩
theorem wI{b:Nat}(h2:2≤b)(h16:b≤16)(u:Nat):∀c∈au b u,ug c:=fun c hc=>by
 obtain⟨d,hd,rfl⟩:=kn h2 u c hc
 refine kD ?_
 rw[gR (by omega)]
 split<;>omega
theorem ko(u:Nat):ee (au 10 u):=⟨nc u,wI (by omega) (by omega) u⟩
theorem It{a b:Bs}(ha:∀c∈a,ug c)(hb:∀c∈b,ug c):∀c∈a++b,ug c:=fun c hc=>by
 rcases List.mem_append.1 hc with h|h
 ·exact ha c h
 ·exact hb c h
theorem wL{x:UInt8}{b:Bs}(hx:ug x)(hb:∀c∈b,ug c):∀c∈x::b,ug c:=fun c hc=>by
 rcases List.mem_cons.1 hc with rfl|h
 ·exact hx
 ·exact hb c h
theorem GH{s:UInt8}(hs:ug s){l:List Bs}(h:∀x∈l,∀c∈x,ug c):∀c∈aJ s l,ug c:=fun c hc=>by
 rcases fk hc with rfl|⟨x,hx,h1⟩
 ·exact hs
 ·exact h x hx c h1
theorem wh(l:List Nat):∀c∈cV l,ug c:=GH (kD (by decide)) fun x hx=>by
 obtain⟨u,_,rfl⟩:=List.mem_map.1 hx
 exact wI (by omega) (by omega) u
theorem Je(v:Bool)(n:Nat):∀c∈iW v n,ug c:=by
 cases v with
 |false=>
  show ∀c∈gB n,ug c
  refine GH (kD (by decide)) fun x hx=>?_
  simp at hx
  rcases hx with rfl|rfl|rfl|rfl<;>exact wI (by omega) (by omega) _
 |true=>
  show ∀c∈dx (bK n),ug c
  unfold dx
  split
  ·exact wh _
  ·exact It (wh _) (wL (kD (by decide)) (wL (kD (by decide)) (wh _)))
theorem Jd(v:Bool)(n:Nat)(k:Int):ee (oz v n k):=by
 unfold oz
 refine⟨by simp,It (Je v n) (wL (kD (by decide)) (wI (by omega) (by omega) _))⟩
theorem FW{p:Px}(h:gr p.v p.n p.k=true):ee (rU p):=by
 unfold rU rY
 rw[if_pos h]
 exact Jd _ _ _
theorem Om{i:Nat}{c:UInt8}(h:Cq i c=true):ug c:=by
 refine kD ?_
 unfold Cq at h
 simp only[Bool.or_eq_true,Bool.and_eq_true,decide_eq_true_eq]at h
 omega
theorem vP{x:Bs}(h:aG x=true):ee x:=by
 unfold aG at h
 simp only[Bool.and_eq_true,decide_eq_true_eq,List.all_eq_true,List.mem_range]at h
 refine⟨fun e=>by rw[e]at h;exact absurd h.1.1 (by decide),fun c hc=>?_⟩
 obtain⟨i,hi,rfl⟩:=List.mem_iff_getElem.1 hc
 have:=h.2 i hi
 rw[List.getElem?_eq_getElem hi]at this
 exact Om this
theorem sP{n:Int}(h:0≤n):ee (cn n):=by rw[uN h];exact ko _
theorem fu{x:Bs}(h:(!x.isEmpty&&x.all fun c=>decide (36≤c.toNat))=true):ee x:=by
 simp only[Bool.and_eq_true,List.all_eq_true,decide_eq_true_eq]at h
 refine⟨fun e=>by subst e;exact absurd h.1 (by decide),fun c hc=>kD (h.2 c hc)⟩
theorem zW(s:Nat×Nat):ee (eu s):=by
 unfold eu
 split
 ·exact ko _
 ·exact⟨by simp,It (ko _).2 (wL (kD (by decide)) (ko _).2)⟩
theorem JH(n:Nat):ee (dK n):=by
 unfold dK
 split
 ·exact fu (by decide)
 split
 ·exact fu (by decide)
 ·exact ko _
theorem KE{M:Mt}{k:Nat}(hk:k < 6)(hb:M.asks.testBit k=true)(hs:M.asks.testBit 1=true→gr M.src.v M.src.n M.src.k=true)(hd:M.asks.testBit 2=true→gr M.dst.v M.dst.n M.dst.k=true):∀x∈bF M k,ee x:=by
 have two:∀{a b:Bs},ee a→ee b→∀x∈[a,b],ee x:=fun {a b} ha hb x hx=>by
  simp at hx
  rcases hx with rfl|rfl
  ·exact ha
  ·exact hb
 match k,hk with
 | 0,_=>exact two (fu (by decide)) (zW _)
 | 1,_=>exact two (fu (by decide)) (FW (hs hb))
 | 2,_=>exact two (fu (by decide)) (FW (hd hb))
 | 3,_=>exact two (fu (by decide)) (JH _)
 | 4,_=>exact two (fu (by decide)) (zW _)
 | 5,_=>exact two (fu (by decide)) (zW _)
theorem LA{M:Mt}(hc:bj M=true):∀x∈qX M,ee x:=by
 obtain⟨_,_,_,_,_,_,_,hs,hd⟩:=mq hc
 unfold qX
 split
 ·intro x hx;rw[List.mem_singleton.1 hx];exact fu (by decide)
 ·rw[nR]
  intro x hx
  obtain⟨k,hk,hx⟩:=List.mem_flatMap.1 hx
  exact KE (jc hk).1 (jc hk).2 hs hd x hx
theorem My{M:Mt}(hc:bj M=true):qX M≠[]:=by
 have ha:=(mq hc).1
 unfold qX
 split
 ·simp
 ·rename_i h0
  rw[nR]
  obtain⟨k,ks,hks⟩:=List.exists_cons_of_ne_nil (LD h0 ha)
  obtain⟨x,y,e,_⟩:=oV M (jc (M:=M) (k:=k) (by rw[hks];simp)).1
  rw[hks,List.flatMap_cons,e];simp
theorem LQ{act o:Int}(h:my act o=true):∀x∈aZ act o,ee x:=by
 unfold my at h
 simp only[Bool.and_eq_true,decide_eq_true_eq]at h
 unfold aZ
 split
 ·intro x hx;rw[List.mem_singleton.1 hx];exact fu (by decide)
 split
 ·intro x hx;rw[List.mem_singleton.1 hx];exact fu (by decide)
 split
 ·intro x hx
  simp at hx
  rcases hx with rfl|rfl
  ·exact fu (by decide)
  ·exact sP h.2.1
 split
 ·intro x hx;rw[List.mem_singleton.1 hx];exact fu (by decide)
 ·intro x hx;cases hx
theorem Lu{k s:Bs}(hk:ee k)(h:jt s=true):∀x∈de k s,ee x:=by
 unfold de
 split
 ·intro x hx;cases hx
 ·rename_i h0
  have hn:aG s=true:=by
   unfold jt at h
   rw[decide_eq_false h0]at h
   exact h
  intro x hx
  simp at hx
  rcases hx with rfl|rfl
  ·exact hk
  ·exact vP hn
theorem FA{r:Rl}(hc:bj r.mt=true)(hn:aG r.name=true)(ha:my r.act r.out=true)(hme:jt r.df=true)(hmi:jt r.bZ=true):∀x∈dr r,ee x:=by
 intro x hx
 unfold dr at hx
 simp only[List.mem_append,List.mem_cons,List.not_mem_nil,or_false]at hx
 rcases hx with(rfl|rfl)|hx|rfl|hx|hx|hx
 ·exact fu (by decide)
 ·exact vP hn
 ·exact LA hc x hx
 ·exact fu (by decide)
 ·exact LQ ha x hx
 ·exact Lu (fu (by decide)) hme x hx
 ·exact Lu (fu (by decide)) hmi x hx
theorem Dx{r:Rl}(hc:bj r.mt=true):aJ 32 (dJ r)=aJ 32 (dr r):=by
 have e:xI r.mt=aJ 32 (qX r.mt):=by unfold xI;rw[hc];exact sE _
 have h1:dJ r=dB::(r.name::aJ 32 (qX r.mt)::([nU]++(aZ r.act r.out++(de aH r.df++(de ax r.bZ++[]))))):=by unfold dJ;rw[e];simp
 have h2:dr r=dB::(r.name::(qX r.mt++([nU]++(aZ r.act r.out++(de aH r.df++(de ax r.bZ++[])))))):=rfl
 have h3:=D2 32 r.name (qX r.mt) ([nU]++(aZ r.act r.out++(de aH r.df++(de ax r.bZ++[])))) (My hc)
 rw[h1,h2]
 show dB++32::aJ 32 (r.name::_)=dB++32::aJ 32 (r.name::_)
 rw[h3]
def Eu(cf:CF):List (List Bs):=cf.ag.map eh++cf.ae.map eP++cf.af.map eR++cf.aa.map cX++cf.rules.map dr++[iA cf.a8]
theorem AL(a b:List (List Bs)):cY (a++b)=cY a++cY b:=by simp[cY]
theorem sJ{α:Type}(f g:α→List Bs):∀l:List α,(∀a∈l,aJ 32 (f a)=aJ 32 (g a))→cY (l.map f)=cY (l.map g)
 | [],_=>rfl
 |a::l,h=>by
  show fV (f a)++cY (l.map f)=fV (g a)++cY (l.map g)
  unfold fV
  rw[h a (by simp),sJ f g l fun b hb=>h b (List.mem_cons_of_mem _ hb)]
theorem Ev{cf:CF}(h:ov cf):cJ cf=cY (Eu cf):=by
 unfold cJ jL Eu
 simp only[AL]
 rw[sJ dJ dr cf.rules fun r hr=>Dx (h.rules r hr).2.1]
theorem Cd{cf:CF}(h:ov cf):∀n∈cf.ag,∀x∈eh n,ee x:=fun n hn x hx=>by
 simp[eh]at hx
 rcases hx with rfl|rfl
 ·exact fu (by decide)
 ·exact sP (h.ag n hn).1
theorem xB{cf:CF}(h:ov cf):∀n∈cf.ae,∀x∈eP n,ee x:=fun n hn x hx=>by
 simp[eP]at hx
 rcases hx with rfl|rfl|rfl
 ·exact fu (by decide)
 ·exact FW (h.ae n hn).2.1
 ·exact sP (h.ae n hn).2.2.1
theorem xW{cf:CF}(h:ov cf):∀n∈cf.af,∀x∈eR n,ee x:=fun n hn x hx=>by
 simp[eR]at hx
 rcases hx with rfl|rfl|rfl|rfl|rfl
 ·exact fu (by decide)
 ·exact vP (h.af n hn).1
 all_goals exact ko _
theorem uI{cf:CF}(h:ov cf):∀n∈cf.aa,∀x∈cX n,ee x:=fun n hn x hx=>by
 simp[cX]at hx
 rcases hx with rfl|rfl|rfl|rfl
 ·exact fu (by decide)
 ·exact vP (h.aa n hn).1
 ·exact sP (h.aa n hn).2.1
 ·exact sP (h.aa n hn).2.2.2.1
theorem BX{cf:CF}(h:ov cf):∀r∈cf.rules,∀x∈dr r,ee x:=fun r hr=>by
 have:=h.rules r hr
 exact FA this.2.1 this.2.2.1 this.2.2.2.1 this.2.2.2.2.1 this.2.2.2.2.2
theorem Ho{a:Int}(h:a=1∨a=2∨a=4):∀x∈iA a,ee x:=by
 intro x hx
 unfold iA at hx
 rcases List.mem_cons.1 hx with rfl|hx
 ·exact fu (by decide)
 ·exact LQ (by rcases h with rfl|rfl|rfl<;>decide) x hx
theorem M1{cf:CF}(h:ov cf):∀ws∈Eu cf,∀x∈ws,ee x:=by
 intro ws hws x hx
 unfold Eu at hws
 simp only[List.mem_append,List.mem_map,List.mem_singleton]at hws
 rcases hws with((((⟨n,hn,rfl⟩ | ⟨n,hn,rfl⟩)|⟨n,hn,rfl⟩)|⟨n,hn,rfl⟩)|⟨n,hn,rfl⟩)|rfl
 ·exact Cd h n hn x hx
 ·exact xB h n hn x hx
 ·exact xW h n hn x hx
 ·exact uI h n hn x hx
 ·exact BX h n hn x hx
 ·exact Ho h.a8 x hx
theorem tb:∀(l:List Int) (cf:CF),l.foldl (fun cf n=>{ cf with ag:=cf.ag++[n] }) cf={ cf with ag:=cf.ag++l }
 | [],cf=>by simp
 |a::l,cf=>by rw[List.foldl_cons,tb l];simp
theorem qB:∀(l:List Rt) (cf:CF),l.foldl (fun cf n=>{ cf with ae:=cf.ae++[n] }) cf={ cf with ae:=cf.ae++l }
 | [],cf=>by simp
 |a::l,cf=>by rw[List.foldl_cons,qB l];simp
theorem qC:∀(l:List Me) (cf:CF),l.foldl (fun cf n=>{ cf with af:=cf.af++[n] }) cf={ cf with af:=cf.af++l }
 | [],cf=>by simp
 |a::l,cf=>by rw[List.foldl_cons,qC l];simp
theorem oU:∀(l:List Mi) (cf:CF),l.foldl (fun cf n=>{ cf with aa:=cf.aa++[n] }) cf={ cf with aa:=cf.aa++l }
 | [],cf=>by simp
 |a::l,cf=>by rw[List.foldl_cons,oU l];simp
theorem s8:∀(l:List Rl) (cf:CF),l.foldl (fun cf n=>{ cf with rules:=cf.rules++[n] }) cf={ cf with rules:=cf.rules++l }
 | [],cf=>by simp
 |a::l,cf=>by rw[List.foldl_cons,s8 l];simp
theorem Ik(hU:EN){cf:CF}(h:ov cf):fz (bA (cJ cf)) 1 CX 0=.ok cf:=by
 rw[Ev h,qu (Eu cf) fun ws hws x hx=>(M1 h ws hws x hx).2]
 unfold Eu
 simp only[List.map_append,List.map_map,List.append_assoc]
 show fz (cf.ag.map (fun n=>aJ 32 (eh n))++_) 1 CX 0=_
 rw[iN (W:=eh) (add:=fun cf n=>{ cf with ag:=cf.ag++[n] }) cf.ag _ _ fun n hn=>⟨Cd h n hn,by simp[eh];decide,fun c=>⟨_,uy (h.ag n hn).1 (h.ag n hn).2 c 0⟩⟩,tb]
 show fz (cf.ae.map (fun n=>aJ 32 (eP n))++_) _ _ 0=_
 rw[iN (W:=eP) (add:=fun cf n=>{ cf with ae:=cf.ae++[n] }) cf.ae _ _ fun n hn=>⟨xB h n hn,by simp[eP];decide,fun c=>⟨_,Ac hU (h.ae n hn).1 (h.ae n hn).2.1 (h.ae n hn).2.2.1 (h.ae n hn).2.2.2 c 0⟩⟩,qB]
 show fz (cf.af.map (fun n=>aJ 32 (eR n))++_) _ _ 0=_
 rw[iN (W:=eR) (add:=fun cf n=>{ cf with af:=cf.af++[n] }) cf.af _ _ fun n hn=>⟨xW h n hn,by simp[eR];decide,fun c=>⟨_,Az (h.af n hn).1 (h.af n hn).2.1 (h.af n hn).2.2.1 (h.af n hn).2.2.2 c 0⟩⟩,qC]
 show fz (cf.aa.map (fun n=>aJ 32 (cX n))++_) _ _ 0=_
 rw[iN (W:=cX) (add:=fun cf n=>{ cf with aa:=cf.aa++[n] }) cf.aa _ _ fun n hn=>⟨uI h n hn,by simp[cX];decide,fun c=>⟨_,xV (h.aa n hn).1 (h.aa n hn).2.1 (h.aa n hn).2.2.1 (h.aa n hn).2.2.2.1 (h.aa n hn).2.2.2.2 c 0⟩⟩,oU]
 show fz (cf.rules.map (fun n=>aJ 32 (dr n))++_) _ _ 0=_
 rw[iN (W:=dr) (add:=fun cf n=>{ cf with rules:=cf.rules++[n] }) cf.rules _ _ fun n hn=>⟨BX h n hn,by
  show some dB≠some aV
  decide,fun c=>⟨_,Dw hU (h.rules n hn).1 (h.rules n hn).2.1 (h.rules n hn).2.2.1 (h.rules n hn).2.2.2.1 (h.rules n hn).2.2.2.2.1 (h.rules n hn).2.2.2.2.2 c 0⟩⟩,s8]
 have hw:=kz true (iA cf.a8) (Ho h.a8)
 show fz (aJ 32 (iA cf.a8)::[[]]) _ _ 0=_
 rw[kQ (by rw[hw];exact El h.a8 _),hw]
 have e:aI true []=[]:=rfl
 rw[kQ (cf':={ ag:=cf.ag,ae:=cf.ae,rules:=cf.rules,af:=cf.af,aa:=cf.aa,a8:=cf.a8 }) (i:=0) (by rw[e];rfl),e]
 rfl
theorem AD(hU:EN){M:Mt}(hM:zI M)(hc:bj M=true):∃i,gb (eK M)=.ok M i:=by
 have hw:aI false (eK M)=qX M:=by rw[sE];exact kz false _ (LA hc)
 have hm:=xY hU hM hc (pre:=[]) (r:=[]) (fun x hx=>by cases hx)
 rw[List.nil_append,List.append_nil,List.length_nil,Nat.zero_add]at hm
 refine⟨(qX M).length,?_⟩
 unfold gb
 rw[hw,hm]
 show(gy (qX M) () (qX M).length).bind _=_
 unfold gy
 rw[decide_eq_false (by omega)]
 show(match bj M with|true=>Out.ok M _|false=>_)=_
 rw[hc]
end Go.Proofs.YtnncigmpcdehnaaGreatDoor
