import Derived.Test.YtnncigmpcdehnaaGreatDoorQd43
namespace Go.Proofs.YtnncigmpcdehnaaGreatDoor
open Go.RowKit Go.Lib Go.Sort
theorem kB{c:UInt8}(h:36≤c.toNat):um c:=⟨fun e=>by subst e;exact absurd h (by decide),fun e=>by subst e;exact absurd h (by decide),fun e=>by subst e;exact absurd h (by decide),fun e=>by subst e;exact absurd h (by decide)⟩
theorem wV{b:Nat}(h2:2≤b)(h16:b≤16)(u:Nat):∀c∈ak b u,um c:=fun c hc=>by
 obtain⟨d,hd,rfl⟩:=ko h2 u c hc
 refine kB ?_
 rw[gU (by omega)]
 split<;>omega
theorem kp(u:Nat):dW (ak 10 u):=⟨lh u,wV (by omega) (by omega) u⟩
theorem Ix{a b:Bs}(ha:∀c∈a,um c)(hb:∀c∈b,um c):∀c∈a++b,um c:=fun c hc=>by
 rcases List.mem_append.1 hc with h|h
 ·exact ha c h
 ·exact hb c h
theorem wX{x:UInt8}{b:Bs}(hx:um x)(hb:∀c∈b,um c):∀c∈x::b,um c:=fun c hc=>by
 rcases List.mem_cons.1 hc with rfl|h
 ·exact hx
 ·exact hb c h
theorem GV{s:UInt8}(hs:um s){l:List Bs}(h:∀x∈l,∀c∈x,um c):∀c∈ao s l,um c:=fun c hc=>by
 rcases fm hc with rfl|⟨x,hx,h1⟩
 ·exact hs
 ·exact h x hx c h1
theorem wB(l:List Nat):∀c∈aO l,um c:=GV (kB (by decide)) fun x hx=>by
 obtain⟨u,_,rfl⟩:=List.mem_map.1 hx
 exact wV (by omega) (by omega) u
theorem Jh(v:Bool)(n:Nat):∀c∈fC v n,um c:=by
 cases v with
 |false=>
  show ∀c∈fD n,um c
  refine GV (kB (by decide)) fun x hx=>?_
  simp at hx
  rcases hx with rfl|rfl|rfl|rfl<;>exact wV (by omega) (by omega) _
 |true=>
  show ∀c∈cH (aM n),um c
  unfold cH
  split
  ·exact wB _
  ·exact Ix (wB _) (wX (kB (by decide)) (wX (kB (by decide)) (wB _)))
theorem Jg(v:Bool)(n:Nat)(k:Int):dW (ly v n k):=by
 unfold ly
 refine⟨by simp,Ix (Jh v n) (wX (kB (by decide)) (wV (by omega) (by omega) _))⟩
theorem F7{p:Px}(h:fA p.v p.n p.k=true):dW (qV p):=by
 unfold qV nY
 rw[if_pos h]
 exact Jg _ _ _
theorem Od{i:Nat}{c:UInt8}(h:Cv i c=true):um c:=by
 refine kB ?_
 unfold Cv at h
 simp only[Bool.or_eq_true,Bool.and_eq_true,decide_eq_true_eq]at h
 omega
theorem vY{x:Bs}(h:aE x=true):dW x:=by
 unfold aE at h
 simp only[Bool.and_eq_true,decide_eq_true_eq,List.all_eq_true,List.mem_range]at h
 refine⟨fun e=>by rw[e]at h;exact absurd h.1.1 (by decide),fun c hc=>?_⟩
 obtain⟨i,hi,rfl⟩:=List.mem_iff_getElem.1 hc
 have:=h.2 i hi
 rw[List.getElem?_eq_getElem hi]at this
 exact Od this
theorem sY{n:Int}(h:0≤n):dW (cE n):=by rw[uY h];exact kp _
theorem ft{x:Bs}(h:(!x.isEmpty&&x.all fun c=>decide (36≤c.toNat))=true):dW x:=by
 simp only[Bool.and_eq_true,List.all_eq_true,decide_eq_true_eq]at h
 refine⟨fun e=>by subst e;exact absurd h.1 (by decide),fun c hc=>kB (h.2 c hc)⟩
theorem Aq(s:Nat×Nat):dW (cX s):=by
 unfold cX
 split
 ·exact kp _
 ·exact⟨by simp,Ix (kp _).2 (wX (kB (by decide)) (kp _).2)⟩
theorem JN(n:Nat):dW (cQ n):=by
 unfold cQ
 split
 ·exact ft (by decide)
 split
 ·exact ft (by decide)
 ·exact kp _
theorem KI{M:Mt}{k:Nat}(hk:k < 6)(hb:M.asks.testBit k=true)(hs:M.asks.testBit 1=true→fA M.src.v M.src.n M.src.k=true)(hd:M.asks.testBit 2=true→fA M.dst.v M.dst.n M.dst.k=true):∀x∈bG M k,dW x:=by
 have two:∀{a b:Bs},dW a→dW b→∀x∈[a,b],dW x:=fun {a b} ha hb x hx=>by
  simp at hx
  rcases hx with rfl|rfl
  ·exact ha
  ·exact hb
 match k,hk with
 | 0,_=>exact two (ft (by decide)) (Aq _)
 | 1,_=>exact two (ft (by decide)) (F7 (hs hb))
 | 2,_=>exact two (ft (by decide)) (F7 (hd hb))
 | 3,_=>exact two (ft (by decide)) (JN _)
 | 4,_=>exact two (ft (by decide)) (Aq _)
 | 5,_=>exact two (ft (by decide)) (Aq _)
theorem Og{M:Mt}(hc:ba M=true):∀x∈uQ M,dW x:=by
 obtain⟨_,_,_,_,_,_,_,hs,hd⟩:=mr hc
 unfold uQ
 split
 ·intro x hx;rw[List.mem_singleton.1 hx];exact ft (by decide)
 ·rw[oe]
  intro x hx
  obtain⟨k,hk,hx⟩:=List.mem_flatMap.1 hx
  exact KI (jf hk).1 (jf hk).2 hs hd x hx
theorem MB{M:Mt}(hc:ba M=true):uQ M≠[]:=by
 have ha:=(mr hc).1
 unfold uQ
 split
 ·simp
 ·rename_i h0
  rw[oe]
  obtain⟨k,ks,hks⟩:=List.exists_cons_of_ne_nil (LH h0 ha)
  obtain⟨x,y,e,_⟩:=pw M (jf (M:=M) (k:=k) (by rw[hks];simp)).1
  rw[hks,List.flatMap_cons,e];simp
theorem LS{act o:Int}(h:mD act o=true):∀x∈aW act o,dW x:=by
 unfold mD at h
 simp only[Bool.and_eq_true,decide_eq_true_eq]at h
 unfold aW
 split
 ·intro x hx;rw[List.mem_singleton.1 hx];exact ft (by decide)
 split
 ·intro x hx;rw[List.mem_singleton.1 hx];exact ft (by decide)
 split
 ·intro x hx
  simp at hx
  rcases hx with rfl|rfl
  ·exact ft (by decide)
  ·exact sY h.2.1
 split
 ·intro x hx;rw[List.mem_singleton.1 hx];exact ft (by decide)
 ·intro x hx;cases hx
theorem Lz{k s:Bs}(hk:dW k)(h:ju s=true):∀x∈du k s,dW x:=by
 unfold du
 split
 ·intro x hx;cases hx
 ·rename_i h0
  have hn:aE s=true:=by
   unfold ju at h
   rw[decide_eq_false h0]at h
   exact h
  intro x hx
  simp at hx
  rcases hx with rfl|rfl
  ·exact hk
  ·exact vY hn
theorem FH{r:Rl}(hc:ba r.mt=true)(hn:aE r.name=true)(ha:mD r.act r.out=true)(hme:ju r.dm=true)(hmi:ju r.cj=true):∀x∈db r,dW x:=by
 intro x hx
 unfold db at hx
 simp only[List.mem_append,List.mem_cons,List.not_mem_nil,or_false]at hx
 rcases hx with(rfl|rfl)|hx|rfl|hx|hx|hx
 ·exact ft (by decide)
 ·exact vY hn
 ·exact Og hc x hx
 ·exact ft (by decide)
 ·exact LS ha x hx
 ·exact Lz (ft (by decide)) hme x hx
 ·exact Lz (ft (by decide)) hmi x hx
theorem Dw{r:Rl}(hc:ba r.mt=true):ao 32 (eD r)=ao 32 (db r):=by
 have e:yd r.mt=ao 32 (uQ r.mt):=by unfold yd;rw[hc];exact AW _
 have h1:eD r=gi::(r.name::ao 32 (uQ r.mt)::([uU]++(aW r.act r.out++(du bU r.dm++(du bp r.cj++[]))))):=by unfold eD;rw[e];simp
 have h2:db r=gi::(r.name::(uQ r.mt++([uU]++(aW r.act r.out++(du bU r.dm++(du bp r.cj++[])))))):=rfl
 have h3:=D9 32 r.name (uQ r.mt) ([uU]++(aW r.act r.out++(du bU r.dm++(du bp r.cj++[])))) (MB hc)
 rw[h1,h2]
 show gi++32::ao 32 (r.name::_)=gi++32::ao 32 (r.name::_)
 rw[h3]
def Ez(cf:CF):List (List Bs):=cf.ai.map eb++cf.ae.map eG++cf.af.map eJ++cf.aa.map cR++cf.rules.map db++[j2 cf.br]
theorem A6(a b:List (List Bs)):di (a++b)=di a++di b:=by simp[di]
theorem sU{α:Type}(f g:α→List Bs):∀l:List α,(∀a∈l,ao 32 (f a)=ao 32 (g a))→di (l.map f)=di (l.map g)
 | [],_=>rfl
 |a::l,h=>by
  show iD (f a)++di (l.map f)=iD (g a)++di (l.map g)
  unfold iD
  rw[h a (by simp),sU f g l fun b hb=>h b (List.mem_cons_of_mem _ hb)]
theorem EA{cf:CF}(h:pP cf):fy cf=di (Ez cf):=by
 unfold fy ry Ez
 simp only[A6]
 rw[sU eD db cf.rules fun r hr=>Dw (h.rules r hr).2.1]
theorem Cj{cf:CF}(h:pP cf):∀n∈cf.ai,∀x∈eb n,dW x:=fun n hn x hx=>by
 simp[eb]at hx
 rcases hx with rfl|rfl
 ·exact ft (by decide)
 ·exact sY (h.ai n hn).1
theorem xU{cf:CF}(h:pP cf):∀n∈cf.ae,∀x∈eG n,dW x:=fun n hn x hx=>by
 simp[eG]at hx
 rcases hx with rfl|rfl|rfl
 ·exact ft (by decide)
 ·exact F7 (h.ae n hn).2.1
 ·exact sY (h.ae n hn).2.2.1
theorem yr{cf:CF}(h:pP cf):∀n∈cf.af,∀x∈eJ n,dW x:=fun n hn x hx=>by
 simp[eJ]at hx
 rcases hx with rfl|rfl|rfl|rfl|rfl
 ·exact ft (by decide)
 ·exact vY (h.af n hn).1
 all_goals exact kp _
theorem uP{cf:CF}(h:pP cf):∀n∈cf.aa,∀x∈cR n,dW x:=fun n hn x hx=>by
 simp[cR]at hx
 rcases hx with rfl|rfl|rfl|rfl
 ·exact ft (by decide)
 ·exact vY (h.aa n hn).1
 ·exact sY (h.aa n hn).2.1
 ·exact sY (h.aa n hn).2.2.2.1
theorem B9{cf:CF}(h:pP cf):∀r∈cf.rules,∀x∈db r,dW x:=fun r hr=>by
 have:=h.rules r hr
 exact FH this.2.1 this.2.2.1 this.2.2.2.1 this.2.2.2.2.1 this.2.2.2.2.2
theorem Hx{a:Int}(h:a=1∨a=2∨a=4):∀x∈j2 a,dW x:=by
 intro x hx
 unfold j2 at hx
 rcases List.mem_cons.1 hx with rfl|hx
 ·exact ft (by decide)
 ·exact LS (by rcases h with rfl|rfl|rfl<;>decide) x hx
theorem MZ{cf:CF}(h:pP cf):∀ws∈Ez cf,∀x∈ws,dW x:=by
 intro ws hws x hx
 unfold Ez at hws
 simp only[List.mem_append,List.mem_map,List.mem_singleton]at hws
 rcases hws with((((⟨n,hn,rfl⟩ | ⟨n,hn,rfl⟩)|⟨n,hn,rfl⟩)|⟨n,hn,rfl⟩)|⟨n,hn,rfl⟩)|rfl
 ·exact Cj h n hn x hx
 ·exact xU h n hn x hx
 ·exact yr h n hn x hx
 ·exact uP h n hn x hx
 ·exact B9 h n hn x hx
 ·exact Hx h.br x hx
theorem tn:∀(l:List Int) (cf:CF),l.foldl (fun cf n=>{ cf with ai:=cf.ai++[n] }) cf={ cf with ai:=cf.ai++l }
 | [],cf=>by simp
 |a::l,cf=>by rw[List.foldl_cons,tn l];simp
theorem qL:∀(l:List Rt) (cf:CF),l.foldl (fun cf n=>{ cf with ae:=cf.ae++[n] }) cf={ cf with ae:=cf.ae++l }
 | [],cf=>by simp
 |a::l,cf=>by rw[List.foldl_cons,qL l];simp
theorem qM:∀(l:List Me) (cf:CF),l.foldl (fun cf n=>{ cf with af:=cf.af++[n] }) cf={ cf with af:=cf.af++l }
 | [],cf=>by simp
 |a::l,cf=>by rw[List.foldl_cons,qM l];simp
theorem pv:∀(l:List Mi) (cf:CF),l.foldl (fun cf n=>{ cf with aa:=cf.aa++[n] }) cf={ cf with aa:=cf.aa++l }
 | [],cf=>by simp
 |a::l,cf=>by rw[List.foldl_cons,pv l];simp
theorem tm:∀(l:List Rl) (cf:CF),l.foldl (fun cf n=>{ cf with rules:=cf.rules++[n] }) cf={ cf with rules:=cf.rules++l }
 | [],cf=>by simp
 |a::l,cf=>by rw[List.foldl_cons,tm l];simp
theorem M8(hU:IH){cf:CF}(h:pP cf):fF (bq (fy cf)) 1 EY 0=.ok cf:=by
 rw[EA h,qE (Ez cf) fun ws hws x hx=>(MZ h ws hws x hx).2]
 unfold Ez
 simp only[List.map_append,List.map_map,List.append_assoc]
 show fF (cf.ai.map (fun n=>ao 32 (eb n))++_) 1 EY 0=_
 rw[iP (W:=eb) (add:=fun cf n=>{ cf with ai:=cf.ai++[n] }) cf.ai _ _ fun n hn=>⟨Cj h n hn,by simp[eb];decide,fun c=>⟨_,uE (h.ai n hn).1 (h.ai n hn).2 c 0⟩⟩,tn]
 show fF (cf.ae.map (fun n=>ao 32 (eG n))++_) _ _ 0=_
 rw[iP (W:=eG) (add:=fun cf n=>{ cf with ae:=cf.ae++[n] }) cf.ae _ _ fun n hn=>⟨xU h n hn,by simp[eG];decide,fun c=>⟨_,Ay hU (h.ae n hn).1 (h.ae n hn).2.1 (h.ae n hn).2.2.1 (h.ae n hn).2.2.2 c 0⟩⟩,qL]
 show fF (cf.af.map (fun n=>ao 32 (eJ n))++_) _ _ 0=_
 rw[iP (W:=eJ) (add:=fun cf n=>{ cf with af:=cf.af++[n] }) cf.af _ _ fun n hn=>⟨yr h n hn,by simp[eJ];decide,fun c=>⟨_,AS (h.af n hn).1 (h.af n hn).2.1 (h.af n hn).2.2.1 (h.af n hn).2.2.2 c 0⟩⟩,qM]
 show fF (cf.aa.map (fun n=>ao 32 (cR n))++_) _ _ 0=_
 rw[iP (W:=cR) (add:=fun cf n=>{ cf with aa:=cf.aa++[n] }) cf.aa _ _ fun n hn=>⟨uP h n hn,by simp[cR];decide,fun c=>⟨_,yq (h.aa n hn).1 (h.aa n hn).2.1 (h.aa n hn).2.2.1 (h.aa n hn).2.2.2.1 (h.aa n hn).2.2.2.2 c 0⟩⟩,pv]
 show fF (cf.rules.map (fun n=>ao 32 (db n))++_) _ _ 0=_
 rw[iP (W:=db) (add:=fun cf n=>{ cf with rules:=cf.rules++[n] }) cf.rules _ _ fun n hn=>⟨B9 h n hn,by
  show some gi≠some bD
  decide,fun c=>⟨_,Dv hU (h.rules n hn).1 (h.rules n hn).2.1 (h.rules n hn).2.2.1 (h.rules n hn).2.2.2.1 (h.rules n hn).2.2.2.2.1 (h.rules n hn).2.2.2.2.2 c 0⟩⟩,tm]
 have hw:=nP true (j2 cf.br) (Hx h.br)
 show fF (ao 32 (j2 cf.br)::[[]]) _ _ 0=_
 rw[kK (by rw[hw];exact Er h.br _),hw]
 have e:aJ true []=[]:=rfl
 rw[kK (cf':={ ai:=cf.ai,ae:=cf.ae,rules:=cf.rules,af:=cf.af,aa:=cf.aa,br:=cf.br }) (i:=0) (by rw[e];rfl),e]
 rfl
end Go.Proofs.YtnncigmpcdehnaaGreatDoor
