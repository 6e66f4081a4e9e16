import Derived.Test.YtnncigmpcdehnaaGreatDoorQa43
namespace Go.Proofs.YtnncigmpcdehnaaGreatDoor
open Go.RowKit Go.Lib Go.Sort
theorem wCh_of{c:UInt8}(h:36≤c.toNat):wCh c:=⟨fun e=>by subst e;exact absurd h (by decide),fun e=>by subst e;exact absurd h (by decide),fun e=>by subst e;exact absurd h (by decide),fun e=>by subst e;exact absurd h (by decide)⟩
theorem digs_w{b:Nat}(h2:2≤b)(h16:b≤16)(u:Nat):∀c∈digs b u,wCh c:=fun c hc=>by
 obtain⟨d,hd,rfl⟩:=digs_mem h2 u c hc
 refine wCh_of ?_
 rw[sig_num (by omega)]
 split<;>omega
theorem digs10_w(u:Nat):goodW (digs 10 u):=⟨digs_ne u,digs_w (by omega) (by omega) u⟩
theorem app_w{a b:Bs}(ha:∀c∈a,wCh c)(hb:∀c∈b,wCh c):∀c∈a++b,wCh c:=fun c hc=>by
 rcases List.mem_append.1 hc with h|h
 ·exact ha c h
 ·exact hb c h
theorem cons_w{x:UInt8}{b:Bs}(hx:wCh x)(hb:∀c∈b,wCh c):∀c∈x::b,wCh c:=fun c hc=>by
 rcases List.mem_cons.1 hc with rfl|h
 ·exact hx
 ·exact hb c h
theorem join_w{s:UInt8}(hs:wCh s){l:List Bs}(h:∀x∈l,∀c∈x,wCh c):∀c∈joinC s l,wCh c:=fun c hc=>by
 rcases mem_of_joinC hc with rfl|⟨x,hx,h1⟩
 ·exact hs
 ·exact h x hx c h1
theorem joinD_w(l:List Nat):∀c∈joinD l,wCh c:=join_w (wCh_of (by decide)) fun x hx=>by
 obtain⟨u,_,rfl⟩:=List.mem_map.1 hx
 exact digs_w (by omega) (by omega) u
theorem textA_w(v:Bool)(n:Nat):∀c∈textA v n,wCh c:=by
 cases v with
 |false=>
  show ∀c∈text4 n,wCh c
  refine join_w (wCh_of (by decide)) fun x hx=>?_
  simp at hx
  rcases hx with rfl|rfl|rfl|rfl<;>exact digs_w (by omega) (by omega) _
 |true=>
  show ∀c∈text6 (grps n),wCh c
  unfold text6
  split
  ·exact joinD_w _
  ·exact app_w (joinD_w _) (cons_w (wCh_of (by decide)) (cons_w (wCh_of (by decide)) (joinD_w _)))
theorem textP_w(v:Bool)(n:Nat)(k:Int):goodW (textP v n k):=by
 unfold textP
 refine⟨by simp,app_w (textA_w v n) (cons_w (wCh_of (by decide)) (digs_w (by omega) (by omega) _))⟩
theorem pxT_w{p:Px}(h:okP p.v p.n p.k=true):goodW (pxT p):=by
 unfold pxT ptxt
 rw[if_pos h]
 exact textP_w _ _ _
theorem nmC_w{i:Nat}{c:UInt8}(h:nmC i c=true):wCh c:=by
 refine wCh_of ?_
 unfold nmC at h
 simp only[Bool.or_eq_true,Bool.and_eq_true,decide_eq_true_eq]at h
 omega
theorem name_w{x:Bs}(h:nameB x=true):goodW x:=by
 unfold nameB at h
 simp only[Bool.and_eq_true,decide_eq_true_eq,List.all_eq_true,List.mem_range]at h
 refine⟨fun e=>by rw[e]at h;exact absurd h.1.1 (by decide),fun c hc=>?_⟩
 obtain⟨i,hi,rfl⟩:=List.mem_iff_getElem.1 hc
 have:=h.2 i hi
 rw[List.getElem?_eq_getElem hi]at this
 exact nmC_w this
theorem itoa_w{n:Int}(h:0≤n):goodW (itoaT n):=by rw[itoaT_pos h];exact digs10_w _
theorem key_w{x:Bs}(h:(!x.isEmpty&&x.all fun c=>decide (36≤c.toNat))=true):goodW x:=by
 simp only[Bool.and_eq_true,List.all_eq_true,decide_eq_true_eq]at h
 refine⟨fun e=>by subst e;exact absurd h.1 (by decide),fun c hc=>wCh_of (h.2 c hc)⟩
theorem span_w(s:Nat×Nat):goodW (spanT s):=by
 unfold spanT
 split
 ·exact digs10_w _
 ·exact⟨by simp,app_w (digs10_w _).2 (cons_w (wCh_of (by decide)) (digs10_w _).2)⟩
theorem proto_w(n:Nat):goodW (protoT n):=by
 unfold protoT
 split
 ·exact key_w (by decide)
 split
 ·exact key_w (by decide)
 ·exact digs10_w _
theorem field_w{M:Mt}{k:Nat}(hk:k < 6)(hb:M.asks.testBit k=true)(hs:M.asks.testBit 1=true→okP M.src.v M.src.n M.src.k=true)(hd:M.asks.testBit 2=true→okP M.dst.v M.dst.n M.dst.k=true):∀x∈fieldWs M k,goodW x:=by
 have two:∀{a b:Bs},goodW a→goodW b→∀x∈[a,b],goodW x:=fun {a b} ha hb x hx=>by
  simp at hx
  rcases hx with rfl|rfl
  ·exact ha
  ·exact hb
 match k,hk with
 | 0,_=>exact two (key_w (by decide)) (span_w _)
 | 1,_=>exact two (key_w (by decide)) (pxT_w (hs hb))
 | 2,_=>exact two (key_w (by decide)) (pxT_w (hd hb))
 | 3,_=>exact two (key_w (by decide)) (proto_w _)
 | 4,_=>exact two (key_w (by decide)) (span_w _)
 | 5,_=>exact two (key_w (by decide)) (span_w _)
theorem mWs_w{M:Mt}(hc:checkM M=true):∀x∈mWs M,goodW x:=by
 obtain⟨_,_,_,_,_,_,_,hs,hd⟩:=check_parts hc
 unfold mWs
 split
 ·intro x hx;rw[List.mem_singleton.1 hx];exact key_w (by decide)
 ·rw[matchWs_ks]
  intro x hx
  obtain⟨k,hk,hx⟩:=List.mem_flatMap.1 hx
  exact field_w (ks_mem hk).1 (ks_mem hk).2 hs hd x hx
theorem mWs_ne{M:Mt}(hc:checkM M=true):mWs M≠[]:=by
 have ha:=(check_parts hc).1
 unfold mWs
 split
 ·simp
 ·rename_i h0
  rw[matchWs_ks]
  obtain⟨k,ks,hks⟩:=List.exists_cons_of_ne_nil (ks_ne h0 ha)
  obtain⟨x,y,e,_⟩:=fld_key M (ks_mem (M:=M) (k:=k) (by rw[hks];simp)).1
  rw[hks,List.flatMap_cons,e];simp
theorem act_w{act o:Int}(h:actB act o=true):∀x∈actWs act o,goodW x:=by
 unfold actB at h
 simp only[Bool.and_eq_true,decide_eq_true_eq]at h
 unfold actWs
 split
 ·intro x hx;rw[List.mem_singleton.1 hx];exact key_w (by decide)
 split
 ·intro x hx;rw[List.mem_singleton.1 hx];exact key_w (by decide)
 split
 ·intro x hx
  simp at hx
  rcases hx with rfl|rfl
  ·exact key_w (by decide)
  ·exact itoa_w h.2.1
 split
 ·intro x hx;rw[List.mem_singleton.1 hx];exact key_w (by decide)
 ·intro x hx;cases hx
theorem opt_w{k s:Bs}(hk:goodW k)(h:optB s=true):∀x∈optWs k s,goodW x:=by
 unfold optWs
 split
 ·intro x hx;cases hx
 ·rename_i h0
  have hn:nameB s=true:=by
   unfold optB at h
   rw[decide_eq_false h0]at h
   exact h
  intro x hx
  simp at hx
  rcases hx with rfl|rfl
  ·exact hk
  ·exact name_w hn
theorem ruleVs_w{r:Rl}(hc:checkM r.mt=true)(hn:nameB r.name=true)(ha:actB r.act r.out=true)(hme:optB r.meter=true)(hmi:optB r.mirror=true):∀x∈ruleVs r,goodW x:=by
 intro x hx
 unfold ruleVs at hx
 simp only[List.mem_append,List.mem_cons,List.not_mem_nil,or_false]at hx
 rcases hx with(rfl|rfl)|hx|rfl|hx|hx|hx
 ·exact key_w (by decide)
 ·exact name_w hn
 ·exact mWs_w hc x hx
 ·exact key_w (by decide)
 ·exact act_w ha x hx
 ·exact opt_w (key_w (by decide)) hme x hx
 ·exact opt_w (key_w (by decide)) hmi x hx
theorem rule_join{r:Rl}(hc:checkM r.mt=true):joinC 32 (ruleWs r)=joinC 32 (ruleVs r):=by
 have e:pmT r.mt=joinC 32 (mWs r.mt):=by unfold pmT;rw[hc];exact matchT_mWs _
 have h1:ruleWs r=kRule::(r.name::joinC 32 (mWs r.mt)::([kTo]++(actWs r.act r.out++(optWs kMeter r.meter++(optWs kMirror r.mirror++[]))))):=by unfold ruleWs;rw[e];simp
 have h2:ruleVs r=kRule::(r.name::(mWs r.mt++([kTo]++(actWs r.act r.out++(optWs kMeter r.meter++(optWs kMirror r.mirror++[])))))):=rfl
 have h3:=join_flat 32 r.name (mWs r.mt) ([kTo]++(actWs r.act r.out++(optWs kMeter r.meter++(optWs kMirror r.mirror++[])))) (mWs_ne hc)
 rw[h1,h2]
 show kRule++32::joinC 32 (r.name::_)=kRule++32::joinC 32 (r.name::_)
 rw[h3]
def cfVs(cf:CF):List (List Bs):=cf.ports.map portWs++cf.routes.map routeWs++cf.meters.map meterWs++cf.mirrors.map mirrorWs++cf.rules.map ruleVs++[dfltWs cf.dflt]
theorem linesT_app(a b:List (List Bs)):linesT (a++b)=linesT a++linesT b:=by simp[linesT]
theorem linesT_map{α:Type}(f g:α→List Bs):∀l:List α,(∀a∈l,joinC 32 (f a)=joinC 32 (g a))→linesT (l.map f)=linesT (l.map g)
 | [],_=>rfl
 |a::l,h=>by
  show lnB (f a)++linesT (l.map f)=lnB (g a)++linesT (l.map g)
  unfold lnB
  rw[h a (by simp),linesT_map f g l fun b hb=>h b (List.mem_cons_of_mem _ hb)]
theorem cfText_vs{cf:CF}(h:CfOk cf):cfText cf=linesT (cfVs cf):=by
 unfold cfText cfLines cfVs
 simp only[linesT_app]
 rw[linesT_map ruleWs ruleVs cf.rules fun r hr=>rule_join (h.rules r hr).2.1]
theorem ports_w{cf:CF}(h:CfOk cf):∀n∈cf.ports,∀x∈portWs n,goodW x:=fun n hn x hx=>by
 simp[portWs]at hx
 rcases hx with rfl|rfl
 ·exact key_w (by decide)
 ·exact itoa_w (h.ports n hn).1
theorem routes_w{cf:CF}(h:CfOk cf):∀n∈cf.routes,∀x∈routeWs n,goodW x:=fun n hn x hx=>by
 simp[routeWs]at hx
 rcases hx with rfl|rfl|rfl
 ·exact key_w (by decide)
 ·exact pxT_w (h.routes n hn).2.1
 ·exact itoa_w (h.routes n hn).2.2.1
theorem meters_w{cf:CF}(h:CfOk cf):∀n∈cf.meters,∀x∈meterWs n,goodW x:=fun n hn x hx=>by
 simp[meterWs]at hx
 rcases hx with rfl|rfl|rfl|rfl|rfl
 ·exact key_w (by decide)
 ·exact name_w (h.meters n hn).1
 all_goals exact digs10_w _
theorem mirrors_w{cf:CF}(h:CfOk cf):∀n∈cf.mirrors,∀x∈mirrorWs n,goodW x:=fun n hn x hx=>by
 simp[mirrorWs]at hx
 rcases hx with rfl|rfl|rfl|rfl
 ·exact key_w (by decide)
 ·exact name_w (h.mirrors n hn).1
 ·exact itoa_w (h.mirrors n hn).2.1
 ·exact itoa_w (h.mirrors n hn).2.2.2.1
theorem rules_w{cf:CF}(h:CfOk cf):∀r∈cf.rules,∀x∈ruleVs r,goodW x:=fun r hr=>by
 have:=h.rules r hr
 exact ruleVs_w this.2.1 this.2.2.1 this.2.2.2.1 this.2.2.2.2.1 this.2.2.2.2.2
theorem dflt_w{a:Int}(h:a=1∨a=2∨a=4):∀x∈dfltWs a,goodW x:=by
 intro x hx
 unfold dfltWs at hx
 rcases List.mem_cons.1 hx with rfl|hx
 ·exact key_w (by decide)
 ·exact act_w (by rcases h with rfl|rfl|rfl<;>decide) x hx
theorem cfVs_w{cf:CF}(h:CfOk cf):∀ws∈cfVs cf,∀x∈ws,goodW x:=by
 intro ws hws x hx
 unfold cfVs at hws
 simp only[List.mem_append,List.mem_map,List.mem_singleton]at hws
 rcases hws with((((⟨n,hn,rfl⟩ | ⟨n,hn,rfl⟩)|⟨n,hn,rfl⟩)|⟨n,hn,rfl⟩)|⟨n,hn,rfl⟩)|rfl
 ·exact ports_w h n hn x hx
 ·exact routes_w h n hn x hx
 ·exact meters_w h n hn x hx
 ·exact mirrors_w h n hn x hx
 ·exact rules_w h n hn x hx
 ·exact dflt_w h.dflt x hx
theorem fold_ports:∀(l:List Int) (cf:CF),l.foldl (fun cf n=>{ cf with ports:=cf.ports++[n] }) cf={ cf with ports:=cf.ports++l }
 | [],cf=>by simp
 |a::l,cf=>by rw[List.foldl_cons,fold_ports l];simp
theorem fold_routes:∀(l:List Rt) (cf:CF),l.foldl (fun cf n=>{ cf with routes:=cf.routes++[n] }) cf={ cf with routes:=cf.routes++l }
 | [],cf=>by simp
 |a::l,cf=>by rw[List.foldl_cons,fold_routes l];simp
theorem fold_meters:∀(l:List Me) (cf:CF),l.foldl (fun cf n=>{ cf with meters:=cf.meters++[n] }) cf={ cf with meters:=cf.meters++l }
 | [],cf=>by simp
 |a::l,cf=>by rw[List.foldl_cons,fold_meters l];simp
theorem fold_mirrors:∀(l:List Mi) (cf:CF),l.foldl (fun cf n=>{ cf with mirrors:=cf.mirrors++[n] }) cf={ cf with mirrors:=cf.mirrors++l }
 | [],cf=>by simp
 |a::l,cf=>by rw[List.foldl_cons,fold_mirrors l];simp
theorem fold_rules:∀(l:List Rl) (cf:CF),l.foldl (fun cf n=>{ cf with rules:=cf.rules++[n] }) cf={ cf with rules:=cf.rules++l }
 | [],cf=>by simp
 |a::l,cf=>by rw[List.foldl_cons,fold_rules l];simp
theorem back_W(hU:RdU){cf:CF}(h:CfOk cf):readL (linesW (cfText cf)) 1 cf0 0=.ok cf:=by
 rw[cfText_vs h,linesW_text (cfVs cf) fun ws hws x hx=>(cfVs_w h ws hws x hx).2]
 unfold cfVs
 simp only[List.map_append,List.map_map,List.append_assoc]
 show readL (cf.ports.map (fun n=>joinC 32 (portWs n))++_) 1 cf0 0=_
 rw[readL_run (W:=portWs) (add:=fun cf n=>{ cf with ports:=cf.ports++[n] }) cf.ports _ _ fun n hn=>⟨ports_w h n hn,by simp[portWs];decide,fun c=>⟨_,port_line (h.ports n hn).1 (h.ports n hn).2 c 0⟩⟩,fold_ports]
 show readL (cf.routes.map (fun n=>joinC 32 (routeWs n))++_) _ _ 0=_
 rw[readL_run (W:=routeWs) (add:=fun cf n=>{ cf with routes:=cf.routes++[n] }) cf.routes _ _ fun n hn=>⟨routes_w h n hn,by simp[routeWs];decide,fun c=>⟨_,route_line hU (h.routes n hn).1 (h.routes n hn).2.1 (h.routes n hn).2.2.1 (h.routes n hn).2.2.2 c 0⟩⟩,fold_routes]
 show readL (cf.meters.map (fun n=>joinC 32 (meterWs n))++_) _ _ 0=_
 rw[readL_run (W:=meterWs) (add:=fun cf n=>{ cf with meters:=cf.meters++[n] }) cf.meters _ _ fun n hn=>⟨meters_w h n hn,by simp[meterWs];decide,fun c=>⟨_,meter_line (h.meters n hn).1 (h.meters n hn).2.1 (h.meters n hn).2.2.1 (h.meters n hn).2.2.2 c 0⟩⟩,fold_meters]
 show readL (cf.mirrors.map (fun n=>joinC 32 (mirrorWs n))++_) _ _ 0=_
 rw[readL_run (W:=mirrorWs) (add:=fun cf n=>{ cf with mirrors:=cf.mirrors++[n] }) cf.mirrors _ _ fun n hn=>⟨mirrors_w h n hn,by simp[mirrorWs];decide,fun c=>⟨_,mirror_line (h.mirrors n hn).1 (h.mirrors n hn).2.1 (h.mirrors n hn).2.2.1 (h.mirrors n hn).2.2.2.1 (h.mirrors n hn).2.2.2.2 c 0⟩⟩,fold_mirrors]
 show readL (cf.rules.map (fun n=>joinC 32 (ruleVs n))++_) _ _ 0=_
 rw[readL_run (W:=ruleVs) (add:=fun cf n=>{ cf with rules:=cf.rules++[n] }) cf.rules _ _ fun n hn=>⟨rules_w h n hn,by
  show some kRule≠some kDefault
  decide,fun c=>⟨_,rule_line hU (h.rules n hn).1 (h.rules n hn).2.1 (h.rules n hn).2.2.1 (h.rules n hn).2.2.2.1 (h.rules n hn).2.2.2.2.1 (h.rules n hn).2.2.2.2.2 c 0⟩⟩,fold_rules]
 have hw:=words_join true (dfltWs cf.dflt) (dflt_w h.dflt)
 show readL (joinC 32 (dfltWs cf.dflt)::[[]]) _ _ 0=_
 rw[readL_line (by rw[hw];exact dflt_line h.dflt _),hw]
 have e:wordsW true []=[]:=rfl
 rw[readL_line (cf':={ ports:=cf.ports,routes:=cf.routes,rules:=cf.rules,meters:=cf.meters,mirrors:=cf.mirrors,dflt:=cf.dflt }) (i:=0) (by rw[e];rfl),e]
 rfl
end Go.Proofs.YtnncigmpcdehnaaGreatDoor
