import Derived.Test.YtnncigmpcdehnaaGreatDoorQb42
namespace Go.Proofs.YtnncigmpcdehnaaGreatDoor
open Go.RowKit Go.Lib Go.Sort
theorem kH{c:UInt8}(h:36≤c.toNat):uk c:=⟨fun e=>by subst e;exact absurd h (by decide),fun e=>by subst e;exact absurd h (by decide),fun e=>by subst e;exact absurd h (by decide),fun e=>by subst e;exact absurd h (by decide)⟩
theorem wN{b:Nat}(h2:2≤b)(h16:b≤16)(u:Nat):∀c∈az b u,uk c:=fun c hc=>by
 obtain⟨d,hd,rfl⟩:=kq h2 u c hc
 refine kH ?_
 rw[gY (by omega)]
 split<;>omega
theorem kr(u:Nat):ep (az 10 u):=⟨mX u,wN (by omega) (by omega) u⟩
theorem Hw{a b:Bs}(ha:∀c∈a,uk c)(hb:∀c∈b,uk c):∀c∈a++b,uk c:=fun c hc=>by
 rcases List.mem_append.1 hc with h|h
 ·exact ha c h
 ·exact hb c h
theorem wQ{x:UInt8}{b:Bs}(hx:uk x)(hb:∀c∈b,uk c):∀c∈x::b,uk c:=fun c hc=>by
 rcases List.mem_cons.1 hc with rfl|h
 ·exact hx
 ·exact hb c h
theorem Gj{s:UInt8}(hs:uk s){l:List Bs}(h:∀x∈l,∀c∈x,uk c):∀c∈aQ s l,uk c:=fun c hc=>by
 rcases fA hc with rfl|⟨x,hx,h1⟩
 ·exact hs
 ·exact h x hx c h1
theorem wm(l:List Nat):∀c∈de l,uk c:=Gj (kH (by decide)) fun x hx=>by
 obtain⟨u,_,rfl⟩:=List.mem_map.1 hx
 exact wN (by omega) (by omega) u
theorem IB(v:Bool)(n:Nat):∀c∈jb v n,uk c:=by
 cases v with
 |false=>
  show ∀c∈gG n,uk c
  refine Gj (kH (by decide)) fun x hx=>?_
  simp at hx
  rcases hx with rfl|rfl|rfl|rfl<;>exact wN (by omega) (by omega) _
 |true=>
  show ∀c∈dD (bS n),uk c
  unfold dD
  split
  ·exact wm _
  ·exact Hw (wm _) (wQ (kH (by decide)) (wQ (kH (by decide)) (wm _)))
theorem IA(v:Bool)(n:Nat)(k:Int):ep (oF v n k):=by
 unfold oF
 refine⟨by simp,Hw (IB v n) (wQ (kH (by decide)) (wN (by omega) (by omega) _))⟩
theorem Fx{p:Px}(h:gg p.v p.n p.k=true):ep (rW p):=by
 unfold rW r7
 rw[if_pos h]
 exact IA _ _ _
theorem M9{i:Nat}{c:UInt8}(h:BT i c=true):uk c:=by
 refine kH ?_
 unfold BT at h
 simp only[Bool.or_eq_true,Bool.and_eq_true,decide_eq_true_eq]at h
 omega
theorem vW{x:Bs}(h:aM x=true):ep x:=by
 unfold aM at h
 simp only[Bool.and_eq_true,decide_eq_true_eq,List.all_eq_true,List.mem_range]at h
 refine⟨fun e=>by rw[e]at h;exact absurd h.1.1 (by decide),fun c hc=>?_⟩
 obtain⟨i,hi,rfl⟩:=List.mem_iff_getElem.1 hc
 have:=h.2 i hi
 rw[List.getElem?_eq_getElem hi]at this
 exact M9 this
theorem sN{n:Int}(h:0≤n):ep (bb n):=by rw[uY h];exact kr _
theorem fD{x:Bs}(h:(!x.isEmpty&&x.all fun c=>decide (36≤c.toNat))=true):ep x:=by
 simp only[Bool.and_eq_true,List.all_eq_true,decide_eq_true_eq]at h
 refine⟨fun e=>by subst e;exact absurd h.1 (by decide),fun c hc=>kH (h.2 c hc)⟩
theorem zL(s:Nat×Nat):ep (eE s):=by
 unfold eE
 split
 ·exact kr _
 ·exact⟨by simp,Hw (kr _).2 (wQ (kH (by decide)) (kr _).2)⟩
theorem I2(n:Nat):ep (dS n):=by
 unfold dS
 split
 ·exact fD (by decide)
 split
 ·exact fD (by decide)
 ·exact kr _
theorem JU{M:Mt}{k:Nat}(hk:k < 6)(hb:M.asks.testBit k=true)(hs:M.asks.testBit 1=true→gg M.src.v M.src.n M.src.k=true)(hd:M.asks.testBit 2=true→gg M.dst.v M.dst.n M.dst.k=true):∀x∈bN M k,ep x:=by
 have two:∀{a b:Bs},ep a→ep b→∀x∈[a,b],ep x:=fun {a b} ha hb x hx=>by
  simp at hx
  rcases hx with rfl|rfl
  ·exact ha
  ·exact hb
 match k,hk with
 | 0,_=>exact two (fD (by decide)) (zL _)
 | 1,_=>exact two (fD (by decide)) (Fx (hs hb))
 | 2,_=>exact two (fD (by decide)) (Fx (hd hb))
 | 3,_=>exact two (fD (by decide)) (I2 _)
 | 4,_=>exact two (fD (by decide)) (zL _)
 | 5,_=>exact two (fD (by decide)) (zL _)
theorem Nb{M:Mt}(hc:bL M=true):∀x∈uS M,ep x:=by
 obtain⟨_,_,_,_,_,_,_,hs,hd⟩:=ml hc
 unfold uS
 split
 ·intro x hx;rw[List.mem_singleton.1 hx];exact fD (by decide)
 ·rw[nX]
  intro x hx
  obtain⟨k,hk,hx⟩:=List.mem_flatMap.1 hx
  exact JU (jj hk).1 (jj hk).2 hs hd x hx
theorem LM{M:Mt}(hc:bL M=true):uS M≠[]:=by
 have ha:=(ml hc).1
 unfold uS
 split
 ·simp
 ·rename_i h0
  rw[nX]
  obtain⟨k,ks,hks⟩:=List.exists_cons_of_ne_nil (KI h0 ha)
  obtain⟨x,y,e,_⟩:=pg M (jj (M:=M) (k:=k) (by rw[hks];simp)).1
  rw[hks,List.flatMap_cons,e];simp
theorem KR{act o:Int}(h:gD act o=true):∀x∈aH act o,ep x:=by
 unfold gD at h
 simp only[Bool.and_eq_true,decide_eq_true_eq]at h
 unfold aH
 split
 ·intro x hx;rw[List.mem_singleton.1 hx];exact fD (by decide)
 split
 ·intro x hx;rw[List.mem_singleton.1 hx];exact fD (by decide)
 split
 ·intro x hx
  simp at hx
  rcases hx with rfl|rfl
  ·exact fD (by decide)
  ·exact sN h.2.1
 split
 ·intro x hx;rw[List.mem_singleton.1 hx];exact fD (by decide)
 ·intro x hx;cases hx
theorem KB{k s:Bs}(hk:ep k)(h:fz s=true):∀x∈cO k s,ep x:=by
 unfold cO
 split
 ·intro x hx;cases hx
 ·rename_i h0
  have hn:aM s=true:=by
   unfold fz at h
   rw[decide_eq_false h0]at h
   exact h
  intro x hx
  simp at hx
  rcases hx with rfl|rfl
  ·exact hk
  ·exact vW hn
theorem Fa{r:Rl}(hc:bL r.mt=true)(hn:aM r.name=true)(ha:gD r.act r.out=true)(hme:fz r.aq=true)(hmi:fz r.ai=true):∀x∈dx r,ep x:=by
 intro x hx
 unfold dx at hx
 simp only[List.mem_append,List.mem_cons,List.not_mem_nil,or_false]at hx
 rcases hx with(rfl|rfl)|hx|rfl|hx|hx|hx
 ·exact fD (by decide)
 ·exact vW hn
 ·exact Nb hc x hx
 ·exact fD (by decide)
 ·exact KR ha x hx
 ·exact KB (fD (by decide)) hme x hx
 ·exact KB (fD (by decide)) hmi x hx
theorem CP{r:Rl}(hc:bL r.mt=true):aQ 32 (dR r)=aQ 32 (dx r):=by
 have e:Er r.mt=aQ 32 (uS r.mt):=by unfold Er;rw[hc];exact Al _
 have h1:dR r=dM::(r.name::aQ 32 (uS r.mt)::([oD]++(aH r.act r.out++(cO ak r.aq++(cO ae r.ai++[]))))):=by unfold dR;rw[e];simp
 have h2:dx r=dM::(r.name::(uS r.mt++([oD]++(aH r.act r.out++(cO ak r.aq++(cO ae r.ai++[])))))):=rfl
 have h3:=Dz 32 r.name (uS r.mt) ([oD]++(aH r.act r.out++(cO ak r.aq++(cO ae r.ai++[])))) (LM hc)
 rw[h1,h2]
 show dM++32::aQ 32 (r.name::_)=dM++32::aQ 32 (r.name::_)
 rw[h3]
def D2(cf:CF):List (List Bs):=cf.ao.map ew++cf.ah.map eW++cf.aj.map eY++cf.ab.map dh++cf.rules.map dx++[gU cf.aL]
theorem At(a b:List (List Bs)):di (a++b)=di a++di b:=by simp[di]
theorem sJ{α:Type}(f g:α→List Bs):∀l:List α,(∀a∈l,aQ 32 (f a)=aQ 32 (g a))→di (l.map f)=di (l.map g)
 | [],_=>rfl
 |a::l,h=>by
  show bR (f a)++di (l.map f)=bR (g a)++di (l.map g)
  unfold bR
  rw[h a (by simp),sJ f g l fun b hb=>h b (List.mem_cons_of_mem _ hb)]
theorem D3{cf:CF}(h:ly cf):fm cf=di (D2 cf):=by
 unfold fm jQ D2
 simp only[At]
 rw[sJ dR dx cf.rules fun r hr=>CP (h.rules r hr).2.1]
theorem BI{cf:CF}(h:ly cf):∀n∈cf.ao,∀x∈ew n,ep x:=fun n hn x hx=>by
 simp[ew]at hx
 rcases hx with rfl|rfl
 ·exact fD (by decide)
 ·exact sN (h.ao n hn).1
theorem xF{cf:CF}(h:ly cf):∀n∈cf.ah,∀x∈eW n,ep x:=fun n hn x hx=>by
 simp[eW]at hx
 rcases hx with rfl|rfl|rfl
 ·exact fD (by decide)
 ·exact Fx (h.ah n hn).2.1
 ·exact sN (h.ah n hn).2.2.1
theorem xY{cf:CF}(h:ly cf):∀n∈cf.aj,∀x∈eY n,ep x:=fun n hn x hx=>by
 simp[eY]at hx
 rcases hx with rfl|rfl|rfl|rfl|rfl
 ·exact fD (by decide)
 ·exact vW (h.aj n hn).1
 all_goals exact kr _
theorem uR{cf:CF}(h:ly cf):∀n∈cf.ab,∀x∈dh n,ep x:=fun n hn x hx=>by
 simp[dh]at hx
 rcases hx with rfl|rfl|rfl|rfl
 ·exact fD (by decide)
 ·exact vW (h.ab n hn).1
 ·exact sN (h.ab n hn).2.1
 ·exact sN (h.ab n hn).2.2.2.1
theorem BA{cf:CF}(h:ly cf):∀r∈cf.rules,∀x∈dx r,ep x:=fun r hr=>by
 have:=h.rules r hr
 exact Fa this.2.1 this.2.2.1 this.2.2.2.1 this.2.2.2.2.1 this.2.2.2.2.2
theorem GZ{a:Int}(h:a=1∨a=2∨a=4):∀x∈gU a,ep x:=by
 intro x hx
 unfold gU at hx
 rcases List.mem_cons.1 hx with rfl|hx
 ·exact fD (by decide)
 ·exact KR (by rcases h with rfl|rfl|rfl<;>decide) x hx
theorem Md{cf:CF}(h:ly cf):∀ws∈D2 cf,∀x∈ws,ep x:=by
 intro ws hws x hx
 unfold D2 at hws
 simp only[List.mem_append,List.mem_map,List.mem_singleton]at hws
 rcases hws with((((⟨n,hn,rfl⟩ | ⟨n,hn,rfl⟩)|⟨n,hn,rfl⟩)|⟨n,hn,rfl⟩)|⟨n,hn,rfl⟩)|rfl
 ·exact BI h n hn x hx
 ·exact xF h n hn x hx
 ·exact xY h n hn x hx
 ·exact uR h n hn x hx
 ·exact BA h n hn x hx
 ·exact GZ h.aL x hx
theorem s5:∀(l:List Int) (cf:CF),l.foldl (fun cf n=>{ cf with ao:=cf.ao++[n] }) cf={ cf with ao:=cf.ao++l }
 | [],cf=>by simp
 |a::l,cf=>by rw[List.foldl_cons,s5 l];simp
theorem qH:∀(l:List Rt) (cf:CF),l.foldl (fun cf n=>{ cf with ah:=cf.ah++[n] }) cf={ cf with ah:=cf.ah++l }
 | [],cf=>by simp
 |a::l,cf=>by rw[List.foldl_cons,qH l];simp
theorem qI:∀(l:List Me) (cf:CF),l.foldl (fun cf n=>{ cf with aj:=cf.aj++[n] }) cf={ cf with aj:=cf.aj++l }
 | [],cf=>by simp
 |a::l,cf=>by rw[List.foldl_cons,qI l];simp
theorem pc:∀(l:List Mi) (cf:CF),l.foldl (fun cf n=>{ cf with ab:=cf.ab++[n] }) cf={ cf with ab:=cf.ab++l }
 | [],cf=>by simp
 |a::l,cf=>by rw[List.foldl_cons,pc l];simp
theorem s4:∀(l:List Rl) (cf:CF),l.foldl (fun cf n=>{ cf with rules:=cf.rules++[n] }) cf={ cf with rules:=cf.rules++l }
 | [],cf=>by simp
 |a::l,cf=>by rw[List.foldl_cons,s4 l];simp
theorem Ho(hU:Et){cf:CF}(h:ly cf):dy (bE (fm cf)) 1 wS 0=.ok cf:=by
 rw[D3 h,qA (D2 cf) fun ws hws x hx=>(Md h ws hws x hx).2]
 unfold D2
 simp only[List.map_append,List.map_map,List.append_assoc]
 show dy (cf.ao.map (fun n=>aQ 32 (ew n))++_) 1 wS 0=_
 rw[iS (W:=ew) (add:=fun cf n=>{ cf with ao:=cf.ao++[n] }) cf.ao _ _ fun n hn=>⟨BI h n hn,by simp[ew];decide,fun c=>⟨_,uH (h.ao n hn).1 (h.ao n hn).2 c 0⟩⟩,s5]
 show dy (cf.ah.map (fun n=>aQ 32 (eW n))++_) _ _ 0=_
 rw[iS (W:=eW) (add:=fun cf n=>{ cf with ah:=cf.ah++[n] }) cf.ah _ _ fun n hn=>⟨xF h n hn,by simp[eW];decide,fun c=>⟨_,zS hU (h.ah n hn).1 (h.ah n hn).2.1 (h.ah n hn).2.2.1 (h.ah n hn).2.2.2 c 0⟩⟩,qH]
 show dy (cf.aj.map (fun n=>aQ 32 (eY n))++_) _ _ 0=_
 rw[iS (W:=eY) (add:=fun cf n=>{ cf with aj:=cf.aj++[n] }) cf.aj _ _ fun n hn=>⟨xY h n hn,by simp[eY];decide,fun c=>⟨_,Ai (h.aj n hn).1 (h.aj n hn).2.1 (h.aj n hn).2.2.1 (h.aj n hn).2.2.2 c 0⟩⟩,qI]
 show dy (cf.ab.map (fun n=>aQ 32 (dh n))++_) _ _ 0=_
 rw[iS (W:=dh) (add:=fun cf n=>{ cf with ab:=cf.ab++[n] }) cf.ab _ _ fun n hn=>⟨uR h n hn,by simp[dh];decide,fun c=>⟨_,xX (h.ab n hn).1 (h.ab n hn).2.1 (h.ab n hn).2.2.1 (h.ab n hn).2.2.2.1 (h.ab n hn).2.2.2.2 c 0⟩⟩,pc]
 show dy (cf.rules.map (fun n=>aQ 32 (dx n))++_) _ _ 0=_
 rw[iS (W:=dx) (add:=fun cf n=>{ cf with rules:=cf.rules++[n] }) cf.rules _ _ fun n hn=>⟨BA h n hn,by
  show some dM≠some av
  decide,fun c=>⟨_,CO hU (h.rules n hn).1 (h.rules n hn).2.1 (h.rules n hn).2.2.1 (h.rules n hn).2.2.2.1 (h.rules n hn).2.2.2.2.1 (h.rules n hn).2.2.2.2.2 c 0⟩⟩,s4]
 have hw:=nI true (gU cf.aL) (GZ h.aL)
 show dy (aQ 32 (gU cf.aL)::[[]]) _ _ 0=_
 rw[kV (by rw[hw];exact DT h.aL _),hw]
 have e:aS true []=[]:=rfl
 rw[kV (cf':={ ao:=cf.ao,ah:=cf.ah,rules:=cf.rules,aj:=cf.aj,ab:=cf.ab,aL:=cf.aL }) (i:=0) (by rw[e];rfl),e]
 rfl
end Go.Proofs.YtnncigmpcdehnaaGreatDoor
