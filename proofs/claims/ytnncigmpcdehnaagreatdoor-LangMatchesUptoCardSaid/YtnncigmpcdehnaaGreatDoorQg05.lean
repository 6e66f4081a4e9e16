import Derived.Test.YtnncigmpcdehnaaGreatDoorQg04
open List renaming getElem?_eq_some_iff→WN,getElem?_eq_getElem→WO,mem_of_getElem?→WU,getElem?_eq_none→WV,getElem?_cons_succ→WZ,mem_cons→W2,getElem?_append_right→W3,getElem?_append_left→W5,getElem?_map→W7,mem_cons_of_mem→W8,map_cons→W9,any_eq_true→Xi,filterMap_cons→Xm,mem_singleton→Xn,length_append→Xo,map_map→Xp,eq_nil_iff_forall_not_mem→Xq,all_eq_true→Xr,length_singleton→Xx,count_replicate→Xy,count_eq_length→Xz,map_congr_left→XA,mem_filterMap→XB,nodup_cons→XD,nil_append→XE,mapM_cons→XF,count_set→XG,mem_map→XI
open Bool renaming and_eq_true→WQ,false_eq_true→XC
open Array renaming getD_eq_getD_getElem?→WR,getElem?_eq_getElem→WS,replicate→W6,getElem?_append_left→Xa,mapM_eq_mapM_toList→Xb,toList_setIfInBounds→Xs,getElem?_replicate→Xu,getElem?_eq_none→Xv,getElem?_toList→Xw
open Nat renaming eq_of_beq_eq_true→WT,le_of_ble_eq_true→WW,zero_add→Xe,blt→Xf,le_refl→Xh,ble_eq_true_of_le→Xj,beq_refl→Xk,beq→Xl,strongRecOn→Xt,lt_irrefl→XH,sub_zero→XJ,lt_or_ge→XL
open Option renaming some→WX,map_some→WY,getD_some→W4,bind_some→Xg
open Go.Result renaming andThen_ok→W0
open Go.Sem renaming run_pure→Xc,run_bind→Xd
namespace Go.Proofs.YtnncigmpcdehnaaGreatDoor
open Go Go.RowKit Go.Lib Go.Sort
namespace Sx
structure jj where
 sv:SV
 J8:List Nat
 wr:Option (Nat×Row)
 nw:Option (Nat×Row)
def DN(mem:List Row)(en:jj):List Row:=match en.wr with
 |some (i,r)=>mem.set i r
 |none=>mem
def Gu(mem:List Row)(en:jj):List Row:=match en.nw with
 |some (_,r)=>DN mem en++[r]
 |none=>DN mem en
theorem iS{mem:List Row}{en:jj}:(DN mem en).length=mem.length:=by
 unfold DN;split
 ·simp
 ·rfl
def cX(n:Nat)(st:St)(o:Oper)(en:jj):St:=(⟨st.fr,Gu st.mem en⟩:St).put n o.dst en.sv
section
variable(P:Program)(H:List (Nat×Hint))(n:Nat)(w0:aV)(ops:Array Oper)
def kJ(t:List Nat):jj:=⟨.gone,t,none,none⟩
def QY(D:List Nat)(o:Oper):Bool:=match D with
 | []=>false
 |_=>o.after.toList.any fun e=>Region.binds .any e&&B7 e.on D
def qm:Cells→Bool
 |.aj _=>true
 |.cR _ _=>true
 |_=>false
def yL(g:ct):Option (Value×Option (Nat×Row)):=match g.kill with
 | []=>match g.new with
  | []=>match g.ret with
   |.val v=>match g.de with
    | []=>some (v,none)
    | [q]=>match qm q.2.cs with
     |true=>some (v,some q)
     |false=>none
    |_=>none
   |_=>none
  |_=>none
 |_=>none
def Br(p:Prop):Prop:=p
def Um(p:Option Prop)(A B:Prop):Prop:=match p with
 |none=>A
 |some q=>Br (q→A)∧(¬q→B)
def fZ:List Oper→Nat→St→List jj→List Nat→(List jj→St→List Nat→Prop)→Prop
 | [],_,st,acc,D,K=>K acc st D
 |o::l,j,st,acc,D,K=>match QY D o with
  |true=>fZ l (j+1) (cX n st o (kJ [])) (acc++[kJ []]) (j::D) K
  |false=>match guardOf ops st.fr o with
   |some true=>match CJ P H (ev st.fr) o with
    |.val sv=>fZ l (j+1) (cX n st o ⟨sv,[],none,none⟩) (acc++[⟨sv,[],none,none⟩]) D K
    |.call f args g=>match Mg st.mem g with
     |true=>match yL g with
      |some p=>Tag (keyOf o) (∀W β,eM w0 β W (rowAt st.mem) g.gw→Calls P f (args.map (SV.den β)).toArray W (br w0 β W (rowAt st.mem) st.mem.length g))∧Um g.En (fZ l (j+1) (cX n st o ⟨.val p.1,g.gw,p.2,none⟩) (acc++[⟨.val p.1,g.gw,p.2,none⟩]) D K) (fZ l (j+1) (cX n st o (kJ g.gw)) (acc++[kJ g.gw]) (j::D) K)
      |none=>cE o
     |false=>cE o
    |.jq _ _ _=>cE o
    |.Hk _ _ _=>cE o
    |.no=>match fA P w0 H (hint H o.dst) (ev st.fr) (rowAt st.mem) o with
     |.val sv ob=>p6 o ob (fZ l (j+1) (cX n st o ⟨sv,aD (ev st.fr) o,none,none⟩) (acc++[⟨sv,aD (ev st.fr) o,none,none⟩]) D K)
     |.call f args v=>Tag (keyOf o) (∀W,ai w0.S w0.w W→Calls P f args.toArray W (Rn W v))∧fZ l (j+1) (cX n st o ⟨.val v,aD (ev st.fr) o,none,none⟩) (acc++[⟨.val v,aD (ev st.fr) o,none,none⟩]) D K
     |.alloc t cs ln=>fZ l (j+1) (cX n st o ⟨mP st.mem.length ln,aD (ev st.fr) o,none,some (st.mem.length,⟨t,cs⟩)⟩) (acc++[⟨mP st.mem.length ln,aD (ev st.fr) o,none,some (st.mem.length,⟨t,cs⟩)⟩]) D K
     |.store i r ob=>p6 o ob (fZ l (j+1) (cX n st o ⟨.val undef,aD (ev st.fr) o,some (i,r),none⟩) (acc++[⟨.val undef,aD (ev st.fr) o,some (i,r),none⟩]) D K)
     |.ec i r ob=>p6 o ob (fZ l (j+1) (cX n st o ⟨.val undef,aD (ev st.fr) o,some (i,r),none⟩) (acc++[⟨.val undef,aD (ev st.fr) o,some (i,r),none⟩]) D K)
     |.grow kill t size nn xs ob=>p6 o ob (fZ l (j+1) (cX n st o ⟨.own st.mem.length,aD (ev st.fr) o,kill.map (·,au),some (st.mem.length,⟨t,.own size nn xs⟩)⟩) (acc++[⟨.own st.mem.length,aD (ev st.fr) o,kill.map (·,au),some (st.mem.length,⟨t,.own size nn xs⟩)⟩]) D K)
     |.bS f args r=>Tag (keyOf o) (∀W,ai w0.S w0.w W→ib (rowAt st.mem) W args fun vs=>Calls P f vs.toArray W (dM W r))∧fZ l (j+1) (cX n st o ⟨ij st.mem.length r,aD (ev st.fr) o,none,(jm r).map (st.mem.length,·)⟩) (acc++[⟨ij st.mem.length r,aD (ev st.fr) o,none,(jm r).map (st.mem.length,·)⟩]) D K
     |.fI f i r=>Tag (keyOf o) (∀W,ai w0.S w0.w W→Fy (rowAt st.mem) W i fun s=>Calls P f #[s] W (rh W s r))∧fZ l (j+1) (cX n st o ⟨ij st.mem.length r,aD (ev st.fr) o,some (i,au),(jm r).map (st.mem.length,·)⟩) (acc++[⟨ij st.mem.length r,aD (ev st.fr) o,some (i,au),(jm r).map (st.mem.length,·)⟩]) D K
     |.eS f args x=>match x with
      |.de p i row v=>Tag (keyOf o) (∀W,ai w0.S w0.w W→ib (rowAt st.mem) W args fun vs=>Calls P f vs.toArray W (qV w0 W vs (.de p i row v)))∧fZ l (j+1) (cX n st o ⟨.val v,aD (ev st.fr) o,some (i,row),none⟩) (acc++[⟨.val v,aD (ev st.fr) o,some (i,row),none⟩]) D K
      |.Gh _=>cE o
     |.bad=>cE o
   |some false=>fZ l (j+1) (cX n st o ⟨.val undef,[],none,none⟩) (acc++[⟨.val undef,[],none,none⟩]) D K
   |none=>cE o
def DI(st:St)(o:Oper)(en:jj):Prop:=
 (guardOf ops st.fr o=some false∧en=⟨.val undef,[],none,none⟩)∨
 (guardOf ops st.fr o=some true∧match CJ P H (ev st.fr) o with
  |.val sv=>en=⟨sv,[],none,none⟩
  |.call f args g=>∃p,yL g=some p∧Mg st.mem g=true∧(∀W β,eM w0 β W (rowAt st.mem) g.gw→Calls P f (args.map (SV.den β)).toArray W (br w0 β W (rowAt st.mem) st.mem.length g))∧(∀q,g.En=some q→q)∧en=⟨.val p.1,g.gw,p.2,none⟩
  |.jq _ _ _=>False
  |.Hk _ _ _=>False
  |.no=>match fA P w0 H (hint H o.dst) (ev st.fr) (rowAt st.mem) o with
   |.val sv ob=>(∀p,ob=some p→p)∧en=⟨sv,aD (ev st.fr) o,none,none⟩
   |.call f args v=>(∀W,ai w0.S w0.w W→Calls P f args.toArray W (Rn W v))∧en=⟨.val v,aD (ev st.fr) o,none,none⟩
   |.alloc t cs ln=>en=⟨mP st.mem.length ln,aD (ev st.fr) o,none,some (st.mem.length,⟨t,cs⟩)⟩
   |.store i r ob=>(∀p,ob=some p→p)∧en=⟨.val undef,aD (ev st.fr) o,some (i,r),none⟩
   |.ec i r ob=>(∀p,ob=some p→p)∧en=⟨.val undef,aD (ev st.fr) o,some (i,r),none⟩
   |.grow kill t size nn xs ob=>(∀p,ob=some p→p)∧en=⟨.own st.mem.length,aD (ev st.fr) o,kill.map (·,au),some (st.mem.length,⟨t,.own size nn xs⟩)⟩
   |.bS f args r=>(∀W,ai w0.S w0.w W→ib (rowAt st.mem) W args fun vs=>Calls P f vs.toArray W (dM W r))∧en=⟨ij st.mem.length r,aD (ev st.fr) o,none,(jm r).map (st.mem.length,·)⟩
   |.fI f i r=>(∀W,ai w0.S w0.w W→Fy (rowAt st.mem) W i fun s=>Calls P f #[s] W (rh W s r))∧en=⟨ij st.mem.length r,aD (ev st.fr) o,some (i,au),(jm r).map (st.mem.length,·)⟩
   |.eS f args x=>match x with
    |.de p i row v=>(∀W,ai w0.S w0.w W→ib (rowAt st.mem) W args fun vs=>Calls P f vs.toArray W (qV w0 W vs (.de p i row v)))∧en=⟨.val v,aD (ev st.fr) o,some (i,row),none⟩
    |.Gh _=>False
   |.bad=>False)
def FE(D:List Nat)(st:St)(o:Oper)(en:jj):Prop:=en.nw=none∧en.wr=none∧((∃e∈o.after,Region.binds .any e=true∧e.on∈D)∨
 (guardOf ops st.fr o=some true∧∃f args g q,CJ P H (ev st.fr) o=.call f args g∧Mg st.mem g=true∧g.En=some q∧¬q∧(∀W β,eM w0 β W (rowAt st.mem) g.gw→Calls P f (args.map (SV.den β)).toArray W (br w0 β W (rowAt st.mem) st.mem.length g))∧en.J8=g.gw)∨∃m∈D,ops.size≤m)
def xA(D:List Nat)(k:Nat)(st:St)(o:Oper)(en:jj):Prop:=(k∉D∧DI P H w0 ops st o en)∨(k∈D∧FE P H w0 ops D st o en)
def Lex:List Oper→Nat→St→List jj→List Nat→St→List Nat→Prop
 | [],_,st,es,D,st',D'=>es=[]∧st'=st∧D'=D
 |o::l,j,st,es,D,st',D'=>∃en es' D1,es=en::es'∧((D1=D∧DI P H w0 ops st o en)∨(D1=j::D∧FE P H w0 ops D st o en))∧Lex l (j+1) (cX n st o en) es' D1 st' D'
end
section
variable{P:Program}{H:List (Nat×Hint)}{n:Nat}{w0:aV}{ds:List Deferred}{ops:Array Oper}
theorem Ah:∀(l:List Oper) (j:Nat) (st:St) (acc:List jj) (D:List Nat) (K:List jj→St→List Nat→Prop),fZ P H n w0 ops l j st acc D K→∃es st' D',Lex P H n w0 ops l j st es D st' D'∧K (acc++es) st' D'
 | [],j,st,acc,D,K,h=>⟨[],st,D,⟨rfl,rfl,rfl⟩,by simpa[fZ]using h⟩
 |o::l,j,st,acc,D,K,h=>by
  have go:∀en,DI P H w0 ops st o en→fZ P H n w0 ops l (j+1) (cX n st o en) (acc++[en]) D K→∃es st' D',Lex P H n w0 ops (o::l) j st es D st' D'∧K (acc++es) st' D':=by intro en he hx;obtain⟨es,st',D',h1,h2⟩:=Ah l _ _ _ _ K hx;exact⟨en::es,st',D',⟨en,es,D,rfl,.inl ⟨rfl,he⟩,h1⟩,by simpa using h2⟩
  have god:∀en,FE P H w0 ops D st o en→fZ P H n w0 ops l (j+1) (cX n st o en) (acc++[en]) (j::D) K→∃es st' D',Lex P H n w0 ops (o::l) j st es D st' D'∧K (acc++es) st' D':=by intro en he hx;obtain⟨es,st',D',h1,h2⟩:=Ah l _ _ _ _ K hx;exact⟨en::es,st',D',⟨en,es,j::D,rfl,.inr ⟨rfl,he⟩,h1⟩,by simpa using h2⟩
  unfold fZ at h;split at h
  ·rename_i hd
   refine god _ ⟨rfl,rfl,.inl ?_⟩ h;unfold QY at hd;split at hd
   ·cases hd
   ·obtain⟨e,he,hb⟩:=Xi.1 hd
    rw[WQ]at hb;exact⟨e,by simpa using he,hb.1,ov.1 hb.2⟩
  split at h
  ·rename_i hg
   split at h
   ·rename_i sv hr
    exact go _ (.inr ⟨hg,by rw[hr]⟩) h
   ·rename_i f args g hr
    split at h
    ·rename_i hok
     split at h
     ·rename_i p hp
      have h2:=h.2;unfold Um at h2;split at h2
      ·rename_i hphi
       exact go _ (.inr ⟨hg,by rw[hr];exact⟨p,hp,hok,h.1,fun q hq=>(by rw[hphi]at hq;cases hq),rfl⟩⟩) h2
      ·rename_i q hphi
       by_cases hq:q
       ·exact go _ (.inr ⟨hg,by rw[hr];exact⟨p,hp,hok,h.1,fun q' hq'=>(by rw[hphi]at hq';cases hq';exact hq),rfl⟩⟩) (h2.1 hq)
       ·exact god _ ⟨rfl,rfl,.inr (.inl ⟨hg,f,args,g,q,hr,hok,hphi,hq,h.1,rfl⟩)⟩ (h2.2 hq)
     ·exact nomatch h
    ·exact nomatch h
   ·exact nomatch h
   ·exact nomatch h
   ·rename_i hno
    split at h
    ·rename_i sv ob hr
     exact go _ (.inr ⟨hg,by rw[hno];simp only;rw[hr];exact⟨iX h,rfl⟩⟩) (kE h)
    ·rename_i f args v hr
     exact go _ (.inr ⟨hg,by rw[hno];simp only;rw[hr];exact⟨h.1,rfl⟩⟩) h.2
    ·rename_i t cs ln hr
     exact go _ (.inr ⟨hg,by rw[hno];simp only;rw[hr]⟩) h
    ·rename_i i r ob hr
     exact go _ (.inr ⟨hg,by rw[hno];simp only;rw[hr];exact⟨iX h,rfl⟩⟩) (kE h)
    ·rename_i i r ob hr
     exact go _ (.inr ⟨hg,by rw[hno];simp only;rw[hr];exact⟨iX h,rfl⟩⟩) (kE h)
    ·rename_i kill t size nn xs ob hr
     exact go _ (.inr ⟨hg,by rw[hno];simp only;rw[hr];exact⟨iX h,rfl⟩⟩) (kE h)
    ·rename_i f args r hr
     exact go _ (.inr ⟨hg,by rw[hno];simp only;rw[hr];exact⟨h.1,rfl⟩⟩) h.2
    ·rename_i f i r hr
     exact go _ (.inr ⟨hg,by rw[hno];simp only;rw[hr];exact⟨h.1,rfl⟩⟩) h.2
    ·rename_i f args x hr
     split at h
     ·exact go _ (.inr ⟨hg,by rw[hno];simp only;rw[hr];exact⟨h.1,rfl⟩⟩) h.2
     ·exact nomatch h
    ·exact nomatch h
  ·rename_i hg
   exact go _ (.inl ⟨hg,rfl⟩) h
  ·exact nomatch h
def cj(n:Nat):St→List Oper→List jj→Nat→St
 |st,o::l,en::es,k+1=>cj n (cX n st o en) l es k
 |st,_,_,_=>st
theorem ir{st:St}{l:List Oper}{es:List jj}:cj n st l es 0=st:=by cases l<;>cases es<;>rfl
theorem o6:∀{l:List Oper} {es:List jj} {st:St} {k:Nat} {o:Oper} {en:jj},l[k]?=some o→es[k]?=some en→cj n st l es (k+1)=cX n (cj n st l es k) o en
 |o::l,en::es,st,0,o',en',ho,he=>by
  have ho:o=o':=by simpa using ho
  have he:en=en':=by simpa using he
  subst ho;subst he;rw[ir];exact ir
 |o::l,en::es,st,k+1,o',en',ho,he=>by show cj n (cX n st o en) l es (k+1)=cX n (cj n (cX n st o en) l es k) o' en';exact o6 (by simpa using ho) (by simpa using he)
 | [],_,_,_,_,_,ho,_=>by simp at ho
 |_::_,[],_,_,_,_,_,he=>by simp at he
theorem Cg:∀{l:List Oper} {j:Nat} {st:St} {es:List jj} {D:List Nat} {st':St} {D':List Nat},Lex P H n w0 ops l j st es D st' D'→(∀d∈D,d∈D')∧∀d∈D',d∈D∨j≤d
 | [],j,st,es,D,st',D',h=>by obtain⟨rfl,rfl,rfl⟩:=h;exact⟨fun d hd=>hd,fun d hd=>.inl hd⟩
 |o::l,j,st,es,D,st',D',h=>by
  obtain⟨en,es',D1,rfl,he,h'⟩:=h;obtain⟨h1,h2⟩:=Cg h';rcases he with⟨rfl,_⟩ | ⟨rfl,_⟩
  ·exact⟨h1,fun d hd=>(h2 d hd).imp id (fun h=>by omega)⟩
  ·refine⟨fun d hd=>h1 d (W8 _ hd),fun d hd=>?_⟩
   rcases h2 d hd with hd|hd
   ·rcases W2.1 hd with rfl|hd
    ·exact .inr (Xh _)
    ·exact .inl hd
   ·exact .inr (by omega)
theorem lex_lt:∀{l:List Oper} {j:Nat} {st:St} {es:List jj} {D:List Nat} {st':St} {D':List Nat},Lex P H n w0 ops l j st es D st' D'→(∀d∈D,d < j)→∀d∈D',d < j+l.length
 | [],j,st,es,D,st',D',h,hD=>by obtain⟨rfl,rfl,rfl⟩:=h;exact fun d hd=>by simpa using hD d hd
 |o::l,j,st,es,D,st',D',h,hD=>by
  obtain⟨en,es',D1,rfl,he,h'⟩:=h;intro d hd;have:=lex_lt h' (fun d hd=>by
   rcases he with⟨rfl,_⟩ | ⟨rfl,_⟩
   ·have:=hD d hd;omega
   ·rcases W2.1 hd with rfl|hd
    ·omega
    ·have:=hD d hd;omega) d hd
  simp only[List.length_cons];omega
theorem wh:∀{l:List Oper} {j:Nat} {st:St} {es:List jj} {D:List Nat} {st':St} {D':List Nat},Lex P H n w0 ops l j st es D st' D'→(∀d∈D,d < j)→es.length=l.length∧(∀k o en,l[k]?=some o→es[k]?=some en→xA P H w0 ops D' (j+k) (cj n st l es k) o en)∧cj n st l es l.length=st'
 | [],j,st,es,D,st',D',h,_=>by obtain⟨rfl,rfl,rfl⟩:=h;exact⟨rfl,fun k o en ho=>by simp at ho,rfl⟩
 |o::l,j,st,es,D,st',D',h,hD=>by
  obtain⟨en,es',D1,rfl,he,h'⟩:=h;obtain⟨m1,m2⟩:=Cg h';have hD1:∀d∈D1,d < j+1:=fun d hd=>by
   rcases he with⟨rfl,_⟩ | ⟨rfl,_⟩
   ·have:=hD d hd;omega
   ·rcases W2.1 hd with rfl|hd
    ·omega
    ·have:=hD d hd;omega
  obtain⟨h1,h2,h3⟩:=wh h' hD1;refine⟨by simp[h1],fun k o' en' ho' he'=>?_,h3⟩;cases k with
  |zero=>
   have ho':o=o':=by simpa using ho'
   have he':en=en':=by simpa using he'
   subst ho';subst he';rcases he with⟨rfl,he⟩ | ⟨rfl,he⟩
   ·refine .inl ⟨fun hj=>?_,he⟩
    rcases m2 _ hj with hj|hj
    ·have:=hD _ hj;omega
    ·omega
   ·refine .inr ⟨m1 _ (by simp),he.1,he.2.1,he.2.2.imp (fun⟨e,h1,h2,h3⟩=>⟨e,h1,h2,m1 _ (W8 _ h3)⟩) (Or.imp id fun⟨m,h1,h2⟩=>⟨m,m1 _ (W8 _ h1),h2⟩)⟩
  |succ k=>have:=h2 k o' en' (by simpa using ho') (by simpa using he');rwa [show j+1+k=j+(k+1)by omega]at this
end
def idxOf{α:Type}(p:α→Bool):List α→Option Nat
 | []=>none
 |x::r=>match p x with
  |true=>some 0
  |false=>(idxOf p r).map Nat.succ
theorem gv{α:Type}{p:α→Bool}:∀{l:List α} {k:Nat},idxOf p l=some k→∃x,l[k]?=some x∧p x=true
 |x::r,k,h=>by
  unfold idxOf at h;split at h
  ·rename_i hp
   have:k=0:=by simpa using h.symm
   subst this;exact⟨x,rfl,hp⟩
  ·cases hr:idxOf p r with
   |none=>rw[hr]at h;cases h
   |some j=>
    rw[hr]at h;have:k=j+1:=by simpa using h.symm
    subst this;obtain⟨y,hy,hp⟩:=gv hr;exact⟨y,by simpa using hy,hp⟩
def isDst(t:Nat)(o:Oper):Bool:=match o.dst with
 |some d=>Xl d t
 |none=>false
def jA(b:Nat)(en:jj):Bool:=match en.nw with
 |some (i,_)=>Xl i b
 |none=>false
def nC(b:Nat)(en:jj):Bool:=match en.wr with
 |some (i,_)=>Xl i b
 |none=>false
theorem I2{t:Nat}{o:Oper}:isDst t o=true↔o.dst=some t:=by
 unfold isDst;split
 ·rename_i d hd
  rw[hd];constructor
  ·intro h;rw[WT h]
  ·intro h;rw[WX.inj h];exact Xk t
 ·rename_i hd;rw[hd];simp
theorem I1{b:Nat}{en:jj}:jA b en=true↔∃r,en.nw=some (b,r):=by
 unfold jA;split
 ·rename_i i r hd
  rw[hd];constructor
  ·intro h;exact⟨r,by rw[WT h]⟩
  ·rintro⟨r',h⟩
   have:i=b:=by injection h with h;injection h
   rw[this];exact Xk b
 ·rename_i hd;rw[hd];simp
theorem LZ{b:Nat}{en:jj}:nC b en=true↔∃r,en.wr=some (b,r):=by
 unfold nC;split
 ·rename_i i r hd
  rw[hd];constructor
  ·intro h;exact⟨r,by rw[WT h]⟩
  ·rintro⟨r',h⟩
   have:i=b:=by injection h with h;injection h
   rw[this];exact Xk b
 ·rename_i hd;rw[hd];simp
section
variable(l:List Oper)(st:St)(es:List jj)
def kO(L:Nat→Bool)(t:Nat):Option SV:=match idxOf (isDst t) l with
 |none=>look st.fr t
 |some k=>if L k then(es[k]?).bind (·.sv.known)else look st.fr t
def oE(L:Nat→Bool)(b:Nat):Option Row:=match idxOf (jA b) es with
 |none=>st.mem[b]?
 |some k=>if L k then((es[k]?).bind (·.nw)).map (·.2)else none
def bZ(L:Nat→Bool)(b:Nat):Option Row:=match idxOf (nC b) es with
 |none=>oE st es L b
 |some s=>if L s then((es[s]?).bind (·.wr)).map (·.2)else oE st es L b
end
def zg(l:List Oper)(i k:Nat):Bool:=match l[i]? with
 |some o=>o.after.toList.any fun e=>Region.binds .any e&&Xl e.on k
 |none=>false
def nQ(l:List Oper)(i k:Nat):Bool:=match Xf k i with
 |true=>zg l i k
 |false=>match Xl k i with
  |true=>true
  |false=>zg l k i
def lH(l:List Oper)(i:Nat):Option Nat→Bool
 |none=>true
 |some k=>nQ l i k
def Ve(l:List Oper)(es:List jj)(n:Nat)(k:Nat)(o:Oper)(en:jj):Bool:=
 (o.after.toList.all fun e=>!Region.binds .any e||Xf e.on k)&&
 (match o.dst with
  |some t=>Xf t n&&idxOf (isDst t) l==some k
  |none=>true)&&
 ((o.looksAt l.toArray).all fun t=>lH l k (idxOf (isDst t) l))&&
 (en.J8.all fun b=>lH l k (idxOf (jA b) es)&&lH l k (idxOf (nC b) es))&&
 (match en.nw with
  |some (b,_)=>idxOf (jA b) es==some k&&(match idxOf (nC b) es with
   |some s=>Xf k s
   |none=>true)
  |none=>true)&&
 (match en.wr with
  |some (b,_)=>idxOf (nC b) es==some k&&(match idxOf (jA b) es with
   |some c=>Xf c k
   |none=>true)
  |none=>true)&&
 (match o.op with
  |.select ..=>false
  |_=>true)
def DA(l:List Oper)(es:List jj)(n:Nat):Nat→List Oper→List jj→Bool
 |k,o::r,en::er=>match Ve l es n k o en with
  |true=>DA l es n (k+1) r er
  |false=>false
 |_,[],[]=>true
 |_,_,_=>false
theorem qN{l:List Oper}{es:List jj}{n:Nat}:∀{r:List Oper} {er:List jj} {k0:Nat},DA l es n k0 r er=true→∀k o en,r[k]?=some o→er[k]?=some en→Ve l es n (k0+k) o en=true
 |o::r,en::er,k0,h,k,o',en',ho,he=>by
  unfold DA at h;split at h
  ·rename_i hb
   cases k with
   |zero=>
    have ho:o=o':=by simpa using ho
    have he:en=en':=by simpa using he
    subst ho;subst he;exact hb
   |succ k=>have:=qN h k o' en' (by simpa using ho) (by simpa using he);rwa [show k0+(k+1)=k0+1+k by omega]
  ·cases h
 | [],_,_,_,_,_,_,ho,_=>by simp at ho
 |_::_,[],_,_,_,_,_,_,he=>by simp at he
structure DL(l:List Oper)(es:List jj)(n:Nat)(k:Nat)(o:Oper)(en:jj):Prop where
 down:∀e∈o.after,Region.binds .any e=true→e.on < k
 dst:∀t,o.dst=some t→t < n∧idxOf (isDst t) l=some k
 looks:∀t∈o.looksAt l.toArray,lH l k (idxOf (isDst t) l)=true
 J8:∀b∈en.J8,lH l k (idxOf (jA b) es)=true∧lH l k (idxOf (nC b) es)=true
 nw:∀b r,en.nw=some (b,r)→idxOf (jA b) es=some k∧∀s,idxOf (nC b) es=some s→k < s
 wr:∀b r,en.wr=some (b,r)→idxOf (nC b) es=some k∧∀c,idxOf (jA b) es=some c→c < k
 Wb:∀cs b,o.op≠.select cs b
theorem BP{l:List Oper}{es:List jj}{n k:Nat}{o:Oper}{en:jj}(h:Ve l es n k o en=true):DL l es n k o en:=by
 unfold Ve at h;simp only[WQ]at h;obtain⟨⟨⟨⟨⟨⟨h1,h2⟩,h3⟩,h4⟩,h5⟩,h6⟩,h7⟩:=h;refine⟨fun e he hb=>?_,fun t ht=>?_,fun t ht=>?_,fun b hb=>?_,fun b r hb=>?_,fun b r hb=>?_,fun cs b hs=>?_⟩
 ·have:=Xr.1 h1 e (by simpa using he)
  rw[hb]at this;exact WW (show Xf e.on k=true by simpa only[Bool.not_true,Bool.false_or]using this)
 ·rw[ht]at h2
  simp only[WQ]at h2;exact⟨WW h2.1,by simpa using h2.2⟩
 ·exact Xr.1 h3 t ht
 ·simpa only[WQ]using Xr.1 h4 b hb
 ·rw[hb]at h5
  simp only[WQ]at h5;refine⟨by simpa using h5.1,fun s hs=>?_⟩;have:=h5.2;rw[hs]at this;exact WW this
 ·rw[hb]at h6
  simp only[WQ]at h6;refine⟨by simpa using h6.1,fun c hc=>?_⟩;have:=h6.2;rw[hc]at this;exact WW this
 ·rw[hs]at h7
  cases h7
end Sx
open Go Go.RowKit Go.Lib Go.Sort
namespace Sx
section
variable{P:Program}{H:List (Nat×Hint)}{n:Nat}{w0:aV}{ds:List Deferred}{l:List Oper}{es:List jj}{st:St}
theorem Sw{t k:Nat}(h:idxOf (isDst t) l=some k):∃o,l[k]?=some o∧o.dst=some t:=by obtain⟨o,ho,hp⟩:=gv h;exact⟨o,ho,I2.1 hp⟩
theorem fB{b k:Nat}(h:idxOf (jA b) es=some k):∃en r,es[k]?=some en∧en.nw=some (b,r):=by obtain⟨en,ho,hp⟩:=gv h;obtain⟨r,hr⟩:=I1.1 hp;exact⟨en,r,ho,hr⟩
theorem Qw{b k:Nat}(h:idxOf (nC b) es=some k):∃en r,es[k]?=some en∧en.wr=some (b,r):=by obtain⟨en,ho,hp⟩:=gv h;obtain⟨r,hr⟩:=LZ.1 hp;exact⟨en,r,ho,hr⟩
theorem oD{L L':Nat→Bool}{t:Nat}(h:∀k,idxOf (isDst t) l=some k→L k=L' k):kO l st es L t=kO l st es L' t:=by
 unfold kO;cases hi:idxOf (isDst t) l with
 |none=>rfl
 |some k=>simp only[h k hi]
theorem qF{L L':Nat→Bool}{b:Nat}(h1:∀k,idxOf (jA b) es=some k→L k=L' k)(h2:∀k,idxOf (nC b) es=some k→L k=L' k):bZ st es L b=bZ st es L' b:=by
 have hb:oE st es L b=oE st es L' b:=by
  unfold oE;cases hi:idxOf (jA b) es with
  |none=>rfl
  |some k=>simp only[h1 k hi]
 unfold bZ;cases hi:idxOf (nC b) es with
 |none=>exact hb
 |some k=>simp only[h2 k hi,hb]
def more(L:Nat→Bool)(i:Nat)(k:Nat):Bool:=L k||decide (k=i)
theorem fi{L:Nat→Bool}{i k:Nat}(h:k≠i):more L i k=L k:=by unfold more;simp[h]
theorem jS{L:Nat→Bool}{i:Nat}:more L i i=true:=by unfold more;simp
theorem eL{L:Nat→Bool}{i t:Nat}{o:Oper}{en:jj}(ho:l[i]?=some o)(he:es[i]?=some en)(hB:DL l es n i o en):kO l st es (more L i) t=if o.dst=some t then en.sv.known else kO l st es L t:=by
 split
 ·rename_i hd
  have:=(hB.dst t hd).2;unfold kO;simp only[this,jS,if_true,he,Xg]
 ·rename_i hd
  refine oD fun k hk=>fi ?_;rintro rfl;obtain⟨o',ho',hd'⟩:=Sw hk;rw[ho]at ho';cases ho';exact hd hd'
theorem dU{L:Nat→Bool}{i b:Nat}{en:jj}(he:es[i]?=some en)(h1:∀r,en.nw≠some (b,r))(h2:∀r,en.wr≠some (b,r)):bZ st es (more L i) b=bZ st es L b:=by
 refine qF (fun k hk=>fi ?_) (fun k hk=>fi ?_)
 ·rintro rfl
  obtain⟨en',r,he',hr⟩:=fB hk;rw[he]at he';cases he';exact h1 r hr
 ·rintro rfl
  obtain⟨en',r,he',hr⟩:=Qw hk;rw[he]at he';cases he';exact h2 r hr
theorem lr{L:Nat→Bool}{i b:Nat}{o:Oper}{en:jj}{r:Row}(he:es[i]?=some en)(hB:DL l es n i o en)(hn:en.nw=some (b,r))(hs:∀s,idxOf (nC b) es=some s→L s=false):bZ st es (more L i) b=some r:=by
 have hi:=(hB.nw b r hn).1;have hb:oE st es (more L i) b=some r:=by unfold oE;simp only[hi,jS,if_true,he,Xg,hn,WY]
 unfold bZ;cases hw:idxOf (nC b) es with
 |none=>exact hb
 |some s=>have hlt:=(hB.nw b r hn).2 s hw;simp only[fi (show s≠i by omega),hs s hw,XC,if_false,hb]
theorem nc{L:Nat→Bool}{i b:Nat}{o:Oper}{en:jj}{r:Row}(he:es[i]?=some en)(hB:DL l es n i o en)(hn:en.wr=some (b,r)):bZ st es (more L i) b=some r:=by have hi:=(hB.wr b r hn).1;unfold bZ;simp only[hi,jS,if_true,he,Xg,hn,WY]
def uz(k j:Nat):Bool:=decide (j < k)
theorem Cd(k:Nat):uz (k+1)=more (uz k) k:=by funext j;unfold uz more;rw[Bool.eq_iff_iff];simp;omega
theorem Cc:uz 0=fun _=>false:=by funext j;simp[uz]
theorem qG{t:Nat}:kO l st es (fun _=>false) t=look st.fr t:=by unfold kO;cases idxOf (isDst t) l<;>simp
theorem yV{b:Nat}(h:∀k,idxOf (jA b) es=some k→st.mem[b]?=none):bZ st es (fun _=>false) b=st.mem[b]?:=by
 have hb:oE st es (fun _=>false) b=st.mem[b]?:=by
  unfold oE;cases hi:idxOf (jA b) es with
  |none=>rfl
  |some k=>simp[h k hi]
 unfold bZ;cases idxOf (nC b) es<;>simp[hb]
theorem Sv{ops:Array Oper}{s:St}{o:Oper}{en:jj}{b:Nat}{r:Row}(h:DI P H w0 ops s o en)(hn:en.nw=some (b,r)):b=s.mem.length:=by
 rcases h with⟨_,rfl⟩ | ⟨hg,h⟩
 ·cases hn
 ·split at h
  ·subst h;cases hn
  ·obtain⟨p,hp,_,_,_,rfl⟩:=h;cases hn
  ·exact h.elim
  ·exact h.elim
  split at h
  ·obtain⟨_,rfl⟩:=h;cases hn
  ·obtain⟨_,rfl⟩:=h;cases hn
  ·rename_i t cs ln hr
   subst h;injection hn with hn;injection hn with h1 h2;exact h1.symm
  ·obtain⟨_,rfl⟩:=h;cases hn
  ·obtain⟨_,rfl⟩:=h;cases hn
  ·obtain⟨_,rfl⟩:=h
   injection hn with hn;injection hn with h1 h2;exact h1.symm
  ·rename_i f args r' hr
   obtain⟨_,rfl⟩:=h;cases hrr:jm r' with
   |none=>simp[hrr]at hn
   |some row'=>simp only[hrr,WY,WX.injEq,Prod.mk.injEq]at hn;exact hn.1.symm
  ·rename_i f i r' hr
   obtain⟨_,rfl⟩:=h;cases hrr:jm r' with
   |none=>simp[hrr]at hn
   |some row'=>simp only[hrr,WY,WX.injEq,Prod.mk.injEq]at hn;exact hn.1.symm
  ·split at h
   ·obtain⟨_,rfl⟩:=h;cases hn
   ·exact h.elim
  ·exact h.elim
theorem wE{g:ct}{p:Value×Option (Nat×Row)}(h:yL g=some p):g.kill=[]∧g.new=[]∧g.ret=.val p.1∧((g.de=[]∧p.2=none)∨∃q,g.de=[q]∧p.2=some q∧qm q.2.cs=true):=by
 unfold yL at h;split at h
 ·rename_i hk
  split at h
  ·rename_i hn
   split at h
   ·rename_i v hv
    split at h
    ·rename_i hu
     cases h;exact⟨hk,hn,hv,.inl ⟨hu,rfl⟩⟩
    ·rename_i q hu
     split at h
     ·rename_i hp
      cases h;exact⟨hk,hn,hv,.inr ⟨q,hu,rfl,hp⟩⟩
     ·cases h
    ·cases h
   ·cases h
  ·cases h
 ·cases h
theorem Ay{mem:List Row}{g:ct}(h:Mg mem g=true){q:Nat×Row}(hq:q∈g.de):(∃r,mem[q.1]?=some r∧r.fixed=true)∧q.2.fixed=true∧q.1∈g.gw:=by unfold Mg at h;rw[WQ]at h;have:=aU h.1 q hq;simp only[WQ]at this;exact⟨rQ this.1.1,this.1.2,ov.1 this.2.2⟩
theorem eM.dQ{b:aV}{β:Env}{W:World}{mem:List Row}{g:ct}(h:eM b β W (rowAt mem) g.gw)(hok:Mg mem g=true):∀k∈g.dQ β (rowAt mem),k∈b.S∨b.w.heap.size≤k:=fun k hk=>by
 obtain⟨i,r,hi,hr,hb⟩:=sh hk;refine h.new i ?_ r k hr hb;rcases hi with hi|hi
 ·obtain⟨q,hq,rfl⟩:=XI.1 hi
  exact(Ay hok hq).2.2
 ·unfold Mg at hok
  rw[WQ,WQ]at hok;exact ov.1 (aU hok.2.1 i hi)
theorem BN{c:Cells}(h:qm c=true){Q:Nat→Prop}:c.on Q:=by cases c<;>first|trivial|cases h
theorem Mf{mem:List Row}{g:ct}{p:Value×Option (Nat×Row)}{b:Nat}{r:Row}(hp:yL g=some p)(hok:Mg mem g=true)(hn:p.2=some (b,r)):b < mem.length∧b∈g.gw:=by
 obtain⟨_,_,_,⟨_,h⟩ | ⟨q,hu,h,_⟩⟩:=wE hp
 ·rw[h]at hn;cases hn
 ·rw[h]at hn
  cases hn;obtain⟨⟨r0,h0,_⟩,_,hs⟩:=Ay hok (q:=(b,r)) (by rw[hu];simp);exact⟨(WN.1 h0).1,hs⟩
theorem Su{ops:Array Oper}{s:St}{o:Oper}{en:jj}{b:Nat}{r:Row}(h:DI P H w0 ops s o en)(hn:en.wr=some (b,r)):b < s.mem.length∧b∈en.J8:=by
 rcases h with⟨_,rfl⟩ | ⟨hg,h⟩
 ·cases hn
 ·split at h
  ·subst h;cases hn
  ·obtain⟨p,hp,_,_,_,rfl⟩:=h;exact Mf hp (by assumption) hn
  ·exact h.elim
  ·exact h.elim
  split at h
  ·obtain⟨_,rfl⟩:=h;cases hn
  ·obtain⟨_,rfl⟩:=h;cases hn
  ·subst h;cases hn
  ·rename_i i r' ob hr
   obtain⟨_,rfl⟩:=h;injection hn with hn;injection hn with h1 h2;subst h1;subst h2;obtain⟨ht,_,r0,h0,_⟩:=nK hr;exact⟨(WN.1 h0).1,ht⟩
  ·rename_i i r' ob hr
   obtain⟨_,rfl⟩:=h;injection hn with hn;injection hn with h1 h2;subst h1;subst h2;obtain⟨ht,r0,h0,_⟩:=mz hr;exact⟨(WN.1 h0).1,ht⟩
  ·rename_i kill t size nn xs ob hr
   obtain⟨_,rfl⟩:=h;cases kill with
   |none=>cases hn
   |some i=>simp only[WY,WX.injEq,Prod.mk.injEq]at hn;obtain⟨rfl,_⟩:=hn;obtain⟨ht,r0,h0,_⟩:=qC hr;exact⟨(WN.1 h0).1,ht⟩
  ·obtain⟨_,rfl⟩:=h;cases hn
  ·rename_i f i r' hr
   obtain⟨hcl,rfl⟩:=h;injection hn with hn;injection hn with h1 h2;subst h1;obtain⟨r0,h0,_⟩:=xv (hcl w0.w (ai.refl _ _));exact⟨(WN.1 h0).1,(tW hr).1⟩
  ·rename_i f args x hr
   obtain⟨_,hx2,_⟩:=qH hr;cases x with
   |de p i row v=>obtain⟨_,rfl⟩:=h;injection hn with hn;injection hn with h1 h2;subst h1;obtain⟨_,ht,r0,h0,_⟩:=hx2 p _ row v rfl;exact⟨(WN.1 h0).1,ht⟩
   |Gh ps=>exact h.elim
  ·exact h.elim
theorem uD{ops:Array Oper}{D:List Nat}{k:Nat}{s:St}{o:Oper}{en:jj}{b:Nat}{r:Row}(h:xA P H w0 ops D k s o en)(hn:en.nw=some (b,r)):b=s.mem.length:=by
 rcases h with⟨_,h⟩ | ⟨_,h,_⟩
 ·exact Sv h hn
 ·rw[h]at hn;cases hn
theorem GX{ops:Array Oper}{D:List Nat}{k:Nat}{s:St}{o:Oper}{en:jj}{b:Nat}{r:Row}(h:xA P H w0 ops D k s o en)(hn:en.wr=some (b,r)):b < s.mem.length∧b∈en.J8:=by
 rcases h with⟨_,h⟩ | ⟨_,_,h,_⟩
 ·exact Su h hn
 ·rw[h]at hn;cases hn
theorem xw{s:St}{o:Oper}{en:jj}:(cX n s o en).mem=Gu s.mem en:=by
 unfold cX St.put;cases o.dst with
 |none=>rfl
 |some d=>cases hb:Xf d n<;>simp[hb]
variable{ops:Array Oper}(hlen:es.length=l.length)(hB:∀k o en,l[k]?=some o→es[k]?=some en→DL l es n k o en){D:List Nat}(hE:∀k o en,l[k]?=some o→es[k]?=some en→xA P H w0 ops D k (cj n st l es k) o en)
include hlen hB hE
omit hB hE in
theorem Ae:∀k,k≤l.length→st.mem.length≤(cj n st l es k).mem.length:=by
 intro k;induction k with
 |zero=>intro _;rw[ir];exact Xh _
 |succ k ih=>
  intro hk;obtain⟨o,ho⟩:∃o,l[k]?=some o:=⟨_,WO (by omega)⟩;obtain⟨en,he⟩:∃en,es[k]?=some en:=⟨_,WO (by omega)⟩;rw[o6 ho he];have:=ih (by omega);rw[xw];unfold Gu;split
  ·rw[Xo,iS];omega
  ·rw[iS];omega
omit hE in
theorem Gx:∀k,k≤l.length→∀t,look (cj n st l es k).fr t=kO l st es (uz k) t:=by
 intro k;induction k with
 |zero=>intro _ t;rw[ir,Cc,qG]
 |succ k ih=>
  intro hk t;obtain⟨o,ho⟩:∃o,l[k]?=some o:=⟨_,WO (by omega)⟩;obtain⟨en,he⟩:∃en,es[k]?=some en:=⟨_,WO (by omega)⟩;rw[o6 ho he,Cd,eL ho he (hB k o en ho he),←ih (by omega) t];unfold cX St.put;cases hd:o.dst with
  |none=>simp
  |some d=>have:Xf d n=true:=Xj ((hB k o en ho he).dst d hd).1;simp only[this,fD,WX.injEq]
theorem KA:∀k,k≤l.length→∀b:Nat,(cj n st l es k).mem[b]?=bZ st es (uz k) b:=by
 have fresh:∀b k:Nat,idxOf (jA b) es=some k→st.mem[b]?=none:=by
  intro b k hk;obtain⟨en,r,he,hr⟩:=fB hk;have hkl:k < l.length:=by rw[←hlen];exact(WN.1 he).1
  have hb:=uD (hE k _ en (WO hkl) he) hr;have:=Ae (n:=n) (st:=st) hlen k (by omega);exact WV (by omega)
 intro k;induction k with
 |zero=>intro _ b;rw[ir,Cc,yV (fresh b)]
 |succ k ih=>
  intro hk b;obtain⟨o,ho⟩:∃o,l[k]?=some o:=⟨_,WO (by omega)⟩;obtain⟨en,he⟩:∃en,es[k]?=some en:=⟨_,WO (by omega)⟩;have ih:=ih (by omega);have hbk:=hB k o en ho he;have hek:=hE k o en ho he;rw[o6 ho he,Cd];rw[xw];have hwr:∀b,(∀r,en.nw≠some (b,r))→(DN (cj n st l es k).mem en)[b]?=bZ st es (more (uz k) k) b:=by
   intro b hnb;unfold DN;cases hw:en.wr with
   |some p=>
    obtain⟨i,r⟩:=p;obtain⟨hil,_⟩:=GX hek hw;simp only[List.getElem?_set];by_cases hbi:i=b
    ·subst hbi
     rw[if_pos rfl,if_pos hil,nc he hbk hw]
    ·rw[if_neg hbi,dU he hnb (fun r' h=>by rw[hw]at h;injection h with h;injection h with h _;exact hbi h),ih b]
   |none=>simp only;rw[dU he hnb (fun r' h=>by rw[hw]at h;cases h),ih b]
  unfold Gu;cases hn:en.nw with
  |some p=>
   obtain⟨m,r⟩:=p;have hml:=uD hek hn;simp only;by_cases hbm:b=m
   ·subst hbm
    rw[lr he hbk hn (fun s hs=>by have:=(hbk.nw _ _ hn).2 s hs;simp[uz];omega),hml,←iS (en:=en),W3 (Xh _)];simp
   ·rw[←hwr b (fun r' h=>by rw[hn]at h;injection h with h;injection h with h _;exact hbm h.symm)]
    rcases XL b (DN (cj n st l es k).mem en).length with hlt|hge
    ·rw[W5 hlt]
    ·rw[WV (by rw[iS]at hge;simp[iS];omega),WV hge]
  |none=>simp only;exact hwr b (fun r' h=>by rw[hn]at h;cases h)
end
structure ie(ds:List Deferred)(w0:aV)(n:Nat)(l:List Oper)(es:List jj)(st:St)(L:Nat→Bool)(β:Env)(a:Act)(w:World):Prop where
 size:a.tmps.size=n
 dn:a.defers=ds
 get:∀t sv,kO l st es L t=some sv→a.tmps[t]?=some (sv.den β)
 bO:∀(b:Nat) (r:Row),bZ st es L b=some r→aZ β w b r
 new:∀(b:Nat) (r:Row) (k:Nat),bZ st es L b=some r→aB β b r=some k→k∈w0.S∨w0.w.heap.size≤k
 inj:∀(b c:Nat) (r r':Row) (k:Nat),bZ st es L b=some r→bZ st es L c=some r'→aB β b r=some k→aB β c r'=some k→b=c
 aF:ai w0.S w0.w w
 xC:∀t sv,kO l st es L t=some sv→sv.on (fun b=>∃r,bZ st es L b=some r)
 uM:∀(b:Nat) (r:Row),bZ st es L b=some r→r.cs.on (fun b=>∃r,bZ st es L b=some r)
 down:∀k o,l[k]?=some o→L k=true→∀e∈o.after,Region.binds .any e=true→L e.on=true
section
variable{P:Program}{H:List (Nat×Hint)}{n:Nat}{w0:aV}{ds:List Deferred}{l:List Oper}{es:List jj}{st:St}{L:Nat→Bool}{β:Env}{a:Act}{w:World}{i:Nat}{o:Oper}{en:jj}
theorem qe{j k:Nat}(h:zg l j k=true):∃oj,l[j]?=some oj∧∃e∈oj.after,Region.binds .any e=true∧e.on=k:=by
 unfold zg at h;split at h
 ·rename_i oj hoj
  obtain⟨e,he,hb⟩:=Xi.1 h;simp only[WQ]at hb;exact⟨oj,hoj,e,by simpa using he,hb.1,WT hb.2⟩
 ·cases h
theorem mF(hI:ie ds w0 n l es st L β a w)(ho:l[i]?=some o)(hL:L i=false)(hr:∀e∈o.after,Region.binds .any e=true→L e.on=true){k:Nat}(hs:nQ l i k=true):L k=uz i k:=by
 unfold nQ at hs;unfold uz;split at hs
 ·rename_i hlt
  have hlt:k < i:=WW hlt;obtain⟨oi,hoi,e,he,hb,hon⟩:=qe hs;rw[ho]at hoi;cases hoi;have:=hr e he hb;rw[hon]at this;rw[this];simp[hlt]
 ·rename_i hlt
  have hlt:¬k < i:=fun h=>by rw[show Xf k i=true from Xj h]at hlt;cases hlt
  split at hs
  ·rename_i heq
   rw[WT heq,hL];simp
  ·obtain⟨ok,hok,e,he,hb,hon⟩:=qe hs
   cases hLk:L k with
   |false=>simp[hlt]
   |true=>have:=hI.down k ok hok hLk e he hb;rw[hon,hL]at this;cases this
theorem ie.jR(hI:ie ds w0 n l es st L β a w)(ho:l[i]?=some o)(he:es[i]?=some en)(hB:DL l es n i o en)(hr:∀e∈o.after,Region.binds .any e=true→L e.on=true)
  {w':World} (hc:ai [] w w') (h1:en.nw=none) (h2:en.wr=none) (hs:en.sv.on (fun b=>∃r,bZ st es L b=some r)):ie ds w0 n l es st (more L i) β (a.put o.dst (en.sv.den β)) w':=by
 have row:∀b,bZ st es (more L i) b=bZ st es L b:=fun b=>dU he (fun r h=>by rw[h1]at h;cases h) (fun r h=>by rw[h2]at h;cases h);refine⟨?_,?_,fun t sv ht=>?_,fun b r hb=>?_,fun b r k hb hk=>?_,fun b c r r' k hb hc' hk hk'=>?_,hI.aF.seq hc (by simp),fun t sv ht=>?_,fun b r hb=>?_,fun k ok hok hk e hee hb=>?_⟩
 ·cases o.dst<;>simp[Act.put,hI.size]
 ·cases o.dst<;>simp[Act.put,hI.dn]
 ·rw[eL ho he hB]at ht
  split at ht
  ·rename_i hd
   rw[hd,jI (by rw[hI.size];exact(hB.dst t hd).1),if_pos rfl,b9 ht]
  ·rename_i hd
   cases hd':o.dst with
   |none=>exact hI.get t sv ht
   |some d=>rw[jI (by rw[hI.size];exact(hB.dst d hd').1),if_neg (fun h=>hd (by rw[hd',h]))];exact hI.get t sv ht
 ·rw[row]at hb;exact(hI.bO b r hb).aF hc (fun _ _=>by simp)
 ·rw[row]at hb;exact hI.new b r k hb hk
 ·rw[row]at hb hc';exact hI.inj b c r r' k hb hc' hk hk'
 ·rw[eL ho he hB]at ht
  split at ht
  ·rw[b9 ht];exact SV.bh (fun b hb=>by rw[row];exact hb) hs
  ·exact SV.bh (fun b hb=>by rw[row];exact hb) (hI.xC t sv ht)
 ·rw[row]at hb;exact Cells.bh (fun b hb=>by rw[row];exact hb) (hI.uM b r hb)
 ·by_cases hki:k=i
  ·subst hki
   rw[ho]at hok;cases hok;have:=hr e hee hb;unfold more;rw[this];rfl
  ·rw[fi hki]at hk
   have:=hI.down k ok hok hk e hee hb;unfold more;rw[this];rfl
theorem ie.Ey(hI:ie ds w0 n l es st L β a w)(ho:l[i]?=some o)(he:es[i]?=some en)(hB:DL l es n i o en)(hr:∀e∈o.after,Region.binds .any e=true→L e.on=true)
  {m:Nat} {t:TypeId} {cs:Cells} {ln:Option Nat} (hf:(⟨t,cs⟩:Row).fixed=true) (hft:cs.tag=none) (hn:en.nw=some (m,⟨t,cs⟩)) (hw:en.wr=none) (hsv:en.sv=mP m ln) (hnot:bZ st es L m=none) (hs:∀s,idxOf (nC m) es=some s→L s=false)
  (hcs:cs.on (fun b=>∃r,bZ st es L b=some r)):ie ds w0 n l es st (more L i) (β.de m w.heap.size) (a.put o.dst (ox w.heap.size ln)) (w.alloc (.cells (cs.den β).toArray t)):=by
 have rowm:bZ st es (more L i) m=some ⟨t,cs⟩:=lr he hB hn hs;have row:∀b,b≠m→bZ st es (more L i) b=bZ st es L b:=fun b hb=>dU he (fun r h=>by rw[hn]at h;injection h with h;injection h with h _;exact hb h.symm) (fun r h=>by rw[hw]at h;cases h);have live:∀b,(∃r,bZ st es L b=some r)→b≠m:=fun b ⟨r,h⟩ hb=>by rw[hb,hnot]at h;cases h
 have same:β.same (β.de m w.heap.size) (fun b=>∃r,bZ st es L b=some r):=JW.mono live;have up:∀b,(∃r,bZ st es L b=some r)→∃r,bZ st es (more L i) b=some r:=fun b hb=>by rw[row b (live b hb)];exact hb
 have lt:∀b r k,bZ st es L b=some r→aB β b r=some k→k < w.heap.size:=fun b r k h hk=>(hI.bO b r h).lt hk;have at_:∀b r,bZ st es (more L i) b=some r→(bZ st es L b=some r)∨(b=m∧r=⟨t,cs⟩):=fun b r hb=>by
  by_cases hbm:b=m
  ·subst hbm;rw[rowm]at hb;cases hb;exact .inr ⟨rfl,rfl⟩
  ·rw[row b hbm]at hb;exact .inl hb
 have blkm:aB (β.de m w.heap.size) m ⟨t,cs⟩=some w.heap.size:=by rw[aH hf,jU]
 refine⟨?_,?_,fun u sv ht=>?_,fun b r hb=>?_,fun b r k hb hk=>?_,fun b c r r' k hb hc' hk hk'=>?_,hI.aF.alloc _,fun u sv ht=>?_,fun b r hb=>?_,fun k ok hok hk e hee hb=>?_⟩
 ·cases o.dst<;>simp[Act.put,hI.size]
 ·cases o.dst<;>simp[Act.put,hI.dn]
 ·rw[eL ho he hB]at ht
  split at ht
  ·rename_i hd
   rw[hd,jI (by rw[hI.size];exact(hB.dst u hd).1),if_pos rfl,b9 ht,hsv,Ca]
  ·rename_i hd
   rw[←SV.cg same (hI.xC u sv ht)];cases hd':o.dst with
   |none=>exact hI.get u sv ht
   |some d=>rw[jI (by rw[hI.size];exact(hB.dst d hd').1),if_neg (fun h=>hd (by rw[hd',h]))];exact hI.get u sv ht
 ·rcases at_ b r hb with hb|⟨rfl,rfl⟩
  ·refine aZ.congr same ⟨r,hb⟩ (hI.uM b r hb) ((hI.bO b r hb).aF (S:=[]) ((ai.refl [] w).alloc _) (fun _ _=>by simp))
  ·refine aZ.oo ?_ hf (fun g hg=>by rw[hft]at hg;cases hg)
   rw[jU,←Cells.cg same hcs];exact aq.new w t (cs.den β).toArray
 ·rcases at_ b r hb with hb|⟨rfl,rfl⟩
  ·rw[←ba same ⟨r,hb⟩]at hk;exact hI.new b r k hb hk
  ·rw[blkm]at hk;cases hk;exact .inr hI.aF.size
 ·rcases at_ b r hb with hb|⟨rfl,rfl⟩
  ·rw[←ba same ⟨r,hb⟩]at hk
   rcases at_ c r' hc' with hc' | ⟨rfl,rfl⟩
   ·rw[←ba same ⟨r',hc'⟩]at hk';exact hI.inj b c r r' k hb hc' hk hk'
   ·rw[blkm]at hk';cases hk'
    exact absurd (lt b r _ hb hk) (XH _)
  ·rcases at_ c r' hc' with hc' | ⟨rfl,rfl⟩
   ·rw[blkm]at hk;cases hk
    rw[←ba same ⟨r',hc'⟩]at hk';exact absurd (lt c r' _ hc' hk') (XH _)
   ·rfl
 ·rw[eL ho he hB]at ht
  split at ht
  ·rw[b9 ht,hsv];exact Gv ⟨_,rowm⟩
  ·exact SV.bh up (hI.xC u sv ht)
 ·rcases at_ b r hb with hb|⟨rfl,rfl⟩
  ·exact Cells.bh up (hI.uM b r hb)
  ·exact Cells.bh up hcs
 ·by_cases hki:k=i
  ·subst hki
   rw[ho]at hok;cases hok;have:=hr e hee hb;unfold more;rw[this];rfl
  ·rw[fi hki]at hk
   have:=hI.down k ok hok hk e hee hb;unfold more;rw[this];rfl
theorem ie.sM(hI:ie ds w0 n l es st L β a w)(ho:l[i]?=some o)(he:es[i]?=some en)(hB:DL l es n i o en)(hr:∀e∈o.after,Region.binds .any e=true→L e.on=true)
  {m:Nat} {kill:Option Nat} {A:Option Addr} {T size nn cc:Nat} {xs:List Value} {S:List Nat} {w':World} (hn:en.nw=some (m,⟨T,.own size nn xs⟩)) (hw:en.wr=kill.map (·,au)) (hnot:bZ st es L m=none) (hs:∀s,idxOf (nC m) es=some s→L s=false)
  (hown:Own w' T size (.slice A nn cc) nn xs) (hc:ai S w w') (hS:∀k∈S,∃i r0,kill=some i∧bZ st es L i=some r0∧aB β i r0=some k) (hA:∀k,A.map (·.block)=some k→k∈S∨w.heap.size≤k)
  (hsv:en.sv.on (·=m)):ie ds w0 n l es st (more L i) (β.im m A nn cc) (a.put o.dst (en.sv.den (β.im m A nn cc))) w':=by
 have rowm:bZ st es (more L i) m=some ⟨T,.own size nn xs⟩:=lr he hB hn hs;have live:∀b,(∃r,bZ st es L b=some r)→b≠m:=fun b ⟨r,h⟩ hb=>by rw[hb,hnot]at h;cases h
 have same:β.same (β.im m A nn cc) (fun b=>∃r,bZ st es L b=some r):=um.mono live;have rowk:∀b,kill=some b→bZ st es (more L i) b=some au:=fun b hb=>nc he hB (by rw[hw,hb];rfl);have row:∀b,b≠m→kill≠some b→bZ st es (more L i) b=bZ st es L b:=fun b hb hk=>dU he (fun r h=>by rw[hn]at h;injection h with h;injection h with h _;exact hb h.symm) (fun r h=>by
  rw[hw]at h;cases kill with
  |none=>cases h
  |some j=>simp only[WY,WX.injEq,Prod.mk.injEq]at h;exact hk (by rw[h.1]))
 have up:∀b,(∃r,bZ st es L b=some r)→∃r,bZ st es (more L i) b=some r:=fun b hb=>by
  by_cases hk:kill=some b
  ·exact⟨_,rowk b hk⟩
  ·rw[row b (live b hb) hk];exact hb
 have at_:∀b r,bZ st es (more L i) b=some r→(kill≠some b∧bZ st es L b=some r)∨r=au∨(b=m∧r=⟨T,.own size nn xs⟩):=fun b r hb=>by
  by_cases hbm:b=m
  ·subst hbm;rw[rowm]at hb;cases hb;exact .inr (.inr ⟨rfl,rfl⟩)
  ·by_cases hk:kill=some b
   ·rw[rowk b hk]at hb;cases hb;exact .inr (.inl rfl)
   ·rw[row b hbm hk]at hb;exact .inl ⟨hk,hb⟩
 have new':∀k,A.map (·.block)=some k→k∈w0.S∨w0.w.heap.size≤k:=fun k hk=>by
  rcases hA k hk with hk|hk
  ·obtain⟨i,r0,_,h0,hb⟩:=hS k hk
   exact hI.new i r0 k h0 hb
  ·exact .inr (Nat.le_trans hI.aF.size hk)
 have apart:∀(b:Nat) (r:Row) (k:Nat),kill≠some b→bZ st es L b=some r→aB β b r=some k→A.map (·.block)≠some k:=fun b r k hki hi hk hk'=>by
  rcases hA k hk' with hk' | hk'
  ·obtain⟨j,r0,hj,h0,hb⟩:=hS k hk'
   have:=hI.inj b j r r0 k hi h0 hk hb;subst this;exact hki hj
  ·have:=(hI.bO b r hi).lt hk
   omega
 refine⟨?_,?_,fun u sv ht=>?_,fun b r hb=>?_,fun b r k hb hk=>?_,fun b c r r' k hb hc' hk hk'=>?_,hI.aF.seq hc (fun k hk=>?_),fun u sv ht=>?_,fun b r hb=>?_,fun k ok hok hk e hee hb=>?_⟩
 ·cases o.dst<;>simp[Act.put,hI.size]
 ·cases o.dst<;>simp[Act.put,hI.dn]
 ·rw[eL ho he hB]at ht
  split at ht
  ·rename_i hd
   rw[hd,jI (by rw[hI.size];exact(hB.dst u hd).1),if_pos rfl,b9 ht]
  ·rename_i hd
   rw[←SV.cg same (hI.xC u sv ht)];cases hd':o.dst with
   |none=>exact hI.get u sv ht
   |some d=>rw[jI (by rw[hI.size];exact(hB.dst d hd').1),if_neg (fun h=>hd (by rw[hd',h]))];exact hI.get u sv ht
 ·rcases at_ b r hb with⟨hk,hb⟩ | rfl|⟨rfl,rfl⟩
  ·refine aZ.congr same ⟨r,hb⟩ (hI.uM b r hb) ((hI.bO b r hb).aF hc fun k hkk hm=>?_)
   obtain⟨j,r0,hj,h0,hbb⟩:=hS k hm;have:=hI.inj b j r r0 k hb h0 hkk hbb;subst this;exact hk hj
  ·trivial
  ·exact xW hown
 ·rcases at_ b r hb with⟨hkk,hb⟩ | rfl|⟨rfl,rfl⟩
  ·rw[←ba same ⟨r,hb⟩]at hk;exact hI.new b r k hb hk
  ·cases hk
  ·rw[lD]at hk;exact new' k hk
 ·rcases at_ b r hb with⟨hkb,hb⟩ | rfl|⟨rfl,rfl⟩
  ·rw[←ba same ⟨r,hb⟩]at hk
   rcases at_ c r' hc' with⟨hkc,hc'⟩ | rfl|⟨rfl,rfl⟩
   ·rw[←ba same ⟨r',hc'⟩]at hk';exact hI.inj b c r r' k hb hc' hk hk'
   ·cases hk'
   ·rw[lD]at hk';exact absurd hk' (apart b r k hkb hb hk)
  ·cases hk
  ·rcases at_ c r' hc' with⟨hkc,hc'⟩ | rfl|⟨rfl,rfl⟩
   ·rw[←ba same ⟨r',hc'⟩]at hk'
    rw[lD]at hk;exact absurd hk (apart c r' k hkc hc' hk')
   ·cases hk'
   ·rfl
 ·obtain⟨j,r0,_,h0,hb⟩:=hS k hk
  exact hI.new j r0 k h0 hb
 ·rw[eL ho he hB]at ht
  split at ht
  ·rw[b9 ht];exact SV.bh (fun b hb=>by rw[hb];exact⟨_,rowm⟩) hsv
  ·exact SV.bh up (hI.xC u sv ht)
 ·rcases at_ b r hb with⟨hkb,hb⟩ | rfl|⟨rfl,rfl⟩
  ·exact Cells.bh up (hI.uM b r hb)
  ·trivial
  ·trivial
 ·by_cases hki:k=i
  ·subst hki
   rw[ho]at hok;cases hok;have:=hr e hee hb;unfold more;rw[this];rfl
  ·rw[fi hki]at hk
   have:=hI.down k ok hok hk e hee hb;unfold more;rw[this];rfl
theorem ie.mO(hI:ie ds w0 n l es st L β a w)(ho:l[i]?=some o)(he:es[i]?=some en)(hB:DL l es n i o en)(hr:∀e∈o.after,Region.binds .any e=true→L e.on=true)
  {m:Nat} {r0 r1:Row} {w':World} {u0:Value} (hn:en.nw=none) (hw:en.wr=some (m,r1)) (hsv:en.sv=.val u0) (hrow:bZ st es L m=some r0) (hblk:aB β m r1=aB β m r0) (hb':aZ β w' m r1) (hc:ai (aB β m r0).toList w w')
  (hcs:r1.cs.on (fun b=>∃r,bZ st es L b=some r)):ie ds w0 n l es st (more L i) β (a.put o.dst u0) w':=by
 have rowm:bZ st es (more L i) m=some r1:=nc he hB hw;have row:∀b,b≠m→bZ st es (more L i) b=bZ st es L b:=fun b hb=>dU he (fun r h=>by rw[hn]at h;cases h) (fun r h=>by rw[hw]at h;injection h with h;injection h with h _;exact hb h.symm);have up:∀b,(∃r,bZ st es L b=some r)→∃r,bZ st es (more L i) b=some r:=fun b hb=>by
  by_cases hbm:b=m
  ·rw[hbm];exact⟨_,rowm⟩
  ·rw[row b hbm];exact hb
 have dn:∀b r k,bZ st es (more L i) b=some r→aB β b r=some k→∃r',bZ st es L b=some r'∧aB β b r'=some k:=fun b r k hb hk=>by
  by_cases hbm:b=m
  ·subst hbm
   rw[rowm]at hb;cases hb;exact⟨_,hrow,by rw[←hblk];exact hk⟩
  ·rw[row b hbm]at hb;exact⟨_,hb,hk⟩
 refine⟨?_,?_,fun u sv ht=>?_,fun b r hb=>?_,fun b r k hb hk=>?_,fun b c r r' k hbb hcc hk hk'=>?_,?_,fun u sv ht=>?_,fun b r hb=>?_,fun k ok hok hk e hee hb=>?_⟩
 ·cases o.dst<;>simp[Act.put,hI.size]
 ·cases o.dst<;>simp[Act.put,hI.dn]
 ·rw[eL ho he hB]at ht
  split at ht
  ·rename_i hd
   rw[hd,jI (by rw[hI.size];exact(hB.dst u hd).1),if_pos rfl,b9 ht,hsv];rfl
  ·rename_i hd
   cases hd':o.dst with
   |none=>exact hI.get u sv ht
   |some d=>rw[jI (by rw[hI.size];exact(hB.dst d hd').1),if_neg (fun h=>hd (by rw[hd',h]))];exact hI.get u sv ht
 ·by_cases hbm:b=m
  ·subst hbm
   rw[rowm]at hb;cases hb;exact hb'
  ·rw[row b hbm]at hb
   refine(hI.bO b r hb).aF hc fun k hk hm=>hbm ?_;exact hI.inj b m r r0 _ hb hrow hk (by simpa using hm)
 ·obtain⟨r',h',hk'⟩:=dn b r k hb hk
  exact hI.new b r' k h' hk'
 ·obtain⟨x,hx,hkx⟩:=dn b r k hbb hk
  obtain⟨y,hy,hky⟩:=dn c r' k hcc hk';exact hI.inj b c x y k hx hy hkx hky
 ·exact hI.aF.seq hc (fun x hx=>hI.new m r0 _ hrow (by simpa using hx))
 ·rw[eL ho he hB]at ht
  split at ht
  ·rw[b9 ht,hsv];trivial
  ·exact SV.bh up (hI.xC u sv ht)
 ·by_cases hbm:b=m
  ·subst hbm
   rw[rowm]at hb;cases hb;exact Cells.bh up hcs
  ·rw[row b hbm]at hb
   exact Cells.bh up (hI.uM b r hb)
 ·by_cases hki:k=i
  ·subst hki
   rw[ho]at hok;cases hok;have:=hr e hee hb;unfold more;rw[this];rfl
  ·rw[fi hki]at hk
   have:=hI.down k ok hok hk e hee hb;unfold more;rw[this];rfl
end
end Sx
open Go Go.RowKit Go.Lib Go.Sort
namespace Sx
section
variable{P:Program}{H:List (Nat×Hint)}{n:Nat}{w0:aV}{ds:List Deferred}{l:List Oper}{es:List jj}{st:St}{L:Nat→Bool}{β:Env}{a:Act}{w:World}{i:Nat}{o:Oper}{en:jj}{Q:Exit→Act→World→Prop}
theorem CC{ops:Array Oper}{fr:List (Nat×SV)}{b:Bool}(hget:∀t∈o.looksAt ops,∀sv,look fr t=some sv→a.tmps[t]?=some (sv.den β))(hg:guardOf ops fr o=some b):Region.wanted o (yielded ops a.tmps)=b:=by
 unfold guardOf at hg;unfold Region.wanted;split at hg
 ·rename_i hn;rw[hn];simpa using hg
 ·rename_i j b' hn
  rw[hn];split at hg
  ·cases hg
  ·rename_i oj hoj
   split at hg
   ·cases hg
   ·rename_i t ht
    split at hg
    ·rename_i v hc
     have:=hget t (by unfold Oper.looksAt;rw[hn];simp[hoj,ht]) _ hc;simp only[yielded,hoj,Xg,ht,this,SV.den];split at hg
     ·rename_i c
      have hb:(c==b')=b:=WX.inj hg;rw[←hb];cases c<;>cases b'<;>rfl
     ·rename_i hnb
      have hb:false=b:=WX.inj hg;rw[←hb];cases v<;>first|rfl|exact absurd rfl (hnb _)
    ·cases hg
theorem Dx(hI:ie ds w0 n l es st L β a w)(ho:l[i]?=some o)(he:es[i]?=some en)(hB:∀k o en,l[k]?=some o→es[k]?=some en→DL l es n k o en)(hlen:es.length=l.length)
  {D:List Nat} (hE:∀k o en,l[k]?=some o→es[k]?=some en→xA P H w0 l.toArray D k (cj n st l es k) o en) (hL:L i=false) (hLD:∀d∈D,L d=false) (hP:∀chain a w',a.defers=ds→w0.PP chain w'→ai w0.S w0.w w'→Q (.panic chain) a w') (hr:∀e∈o.after,Region.binds .any e=true→L e.on=true) {K:Act→World→Prop}
  (hT:(∃m∈D,l.length≤m)→i∈D→wpOp P l.toArray Q i K a w) (hK:i∉D→∀β' a' w',ie ds w0 n l es st (more L i) β' a' w'→K a' w'):wpOp P l.toArray Q i K a w:=by
 have hil:i < l.length:=(WN.1 ho).1;have hb:=hB i o en ho he;have hent:=hE i o en ho he;have hlook:=Gx (st:=st) hlen hB i (by omega);have hrows:=KA (P:=P) (H:=H) (w0:=w0) (ops:=l.toArray) (st:=st) hlen hB hE i (by omega);have hlk:∀t∈o.looksAt l.toArray,look (cj n st l es i).fr t=kO l st es L t:=fun t ht=>by rw[hlook];refine oD fun k hk=>(mF hI ho hL hr ?_).symm;have:=hb.looks t ht;rw[hk]at this;exact this
 have htmp:∀t,Operand.tmp t∈o.op.operands→t∈o.looksAt l.toArray:=fun t ht=>by unfold Oper.looksAt;exact List.mem_append_left _ (XB.2 ⟨.tmp t,by simpa using ht,rfl⟩)
 have hev:∀x∈o.op.operands,∀sv,ev (cj n st l es i).fr x=some sv→a.eval x=sv.den β∧sv.on (fun b=>∃r,bZ st es L b=some r):=by
  intro x hx sv hsv;cases x with
  |tmp t=>
   have h1:kO l st es L t=some sv:=by rw[←hlk t (htmp t hx)];exact hsv
   exact⟨by have:=hI.get t sv h1;simp[Act.eval,this],hI.xC t sv h1⟩
  |const v=>simp only[ev,WX.injEq]at hsv;subst hsv;exact⟨rfl,trivial⟩
  |global g=>simp only[ev,WX.injEq]at hsv;subst hsv;exact⟨rfl,trivial⟩
  |func f=>simp only[ev,WX.injEq]at hsv;subst hsv;exact⟨rfl,trivial⟩
 have hw:∀{b},guardOf l.toArray (cj n st l es i).fr o=some b→Region.wanted o (yielded l.toArray a.tmps)=b:=fun hg=>CC (β:=β) (fun t ht sv hsv=>hI.get t sv (by rw[←hlk t ht];exact hsv)) hg;unfold wpOp;have hio:l.toArray[i]?=some o:=by simpa using ho
 simp only[hio];have hrow':∀gw:List Nat,en.J8=gw→∀b r,b∈gw→rowAt (cj n st l es i).mem b=some r→bZ st es L b=some r:=by
  intro gw htc b r ht hrb;have hset:=hb.J8 b (by rw[htc];exact ht);have:(cj n st l es i).mem[b]?=some r:=hrb;rw[hrows]at this;rw[←this];refine qF (fun k hk=>mF hI ho hL hr ?_) (fun k hk=>mF hI ho hL hr ?_)
  ·have:=hset.1
   rw[hk]at this;exact this
  ·have:=hset.2
   rw[hk]at this;exact this
 have hsee:∀gw:List Nat,en.J8=gw→eM w0 β w (rowAt (cj n st l es i).mem) gw:=fun gw htc=>⟨hI.aF,fun b hb r hr=>hI.bO b r (hrow' gw htc b r hb hr),fun b hb r k hr hk=>hI.new b r k (hrow' gw htc b r hb hr) hk,fun b hb c hc r r' k hr hr' hk hk'=>hI.inj b c r r' k (hrow' gw htc b r hb hr) (hrow' gw htc c r' hc hr') hk hk'⟩;have hgev:=GO (P:=P) (H:=H) (β:=β) (W:=w) (a:=a) (o:=o) (e:=ev (cj n st l es i).fr) (fun x hx sv hsv=>(hev x hx sv hsv).1);have hgon:=GN (P:=P) (H:=H) (o:=o) (e:=ev (cj n st l es i).fr) (Q:=fun b=>∃r,bZ st es L b=some r) (fun x hx sv hsv=>(hev x hx sv hsv).2);rcases hent with⟨hnD,hent⟩ | ⟨hiD,_,_,hdead⟩
 rotate_left
 ·rcases hdead with⟨e,hee,hbe,heD⟩ | ⟨hg,f,args,g,q,hres,hgok,hphi,hq,hfact,htch⟩ | ⟨m,hm,hle⟩
  rotate_right
  ·have:=hT ⟨m,hm,by simpa using hle⟩ hiD
   unfold wpOp at this;simpa only[hio]using this
  ·have:=hr e hee hbe
   rw[hLD _ heD]at this;cases this
  ·rw[hw hg,if_pos rfl]
   refine .inl ?_;rw[hres]at hgev;unfold Oper.wp;rw[show(execOp a.eval o).run P w=_ from hgev];refine(hfact w β (hsee g.gw htch)).mono fun e w' hp=>?_;rcases hp with⟨hphi',_⟩ | ⟨_,chain,rfl,hpp,hc⟩
   ·exact(hq (hphi' q hphi)).elim
   ·exact hP chain a w' hI.dn hpp (hI.aF.seq hc ((hsee g.gw htch).dQ hgok))
 have hK:=hK hnD;rcases hent with⟨hg,rfl⟩ | ⟨hg,hent⟩
 ·rw[hw hg,if_neg (by decide)]
  exact hK _ _ _ (hI.jR ho he hb hr (ai.refl _ _) rfl rfl trivial)
 ·rw[hw hg,if_pos rfl]
  refine .inl ?_;have hrow:en.J8=aD (ev (cj n st l es i).fr) o→∀b r,b∈aD (ev (cj n st l es i).fr) o→rowAt (cj n st l es i).mem b=some r→bZ st es L b=some r:=hrow' _;have hok:=fun htc=>Li (P:=P) (w0:=w0) (H:=H) (β:=β) (W:=w) (a:=a) (o:=o) (e:=ev (cj n st l es i).fr) (row:=rowAt (cj n st l es i).mem) (hn:=hint H o.dst) hI.aF (fun x hx sv hsv=>(hev x hx sv hsv).1) (fun b r ht hrb=>hI.bO b r (hrow htc b r ht hrb));have hon:=fun htc=>QM (P:=P) (w0:=w0) (H:=H) (o:=o) (e:=ev (cj n st l es i).fr) (row:=rowAt (cj n st l es i).mem) (hn:=hint H o.dst) (Q:=fun b=>∃r,bZ st es L b=some r) (fun x hx sv hsv=>(hev x hx sv hsv).2) (fun b r ht hrb=>hI.uM b r (hrow htc b r ht hrb));have hwr:∀row',en.nw=some ((cj n st l es i).mem.length,row')→∀s,idxOf (nC (cj n st l es i).mem.length) es=some s→L s=false:=fun row' hn s hs=>by
   have hnw:=hb.nw _ _ hn;obtain⟨ens,r',hes,hwr⟩:=Qw hs;have hsl:s < l.length:=by rw[←hlen];exact(WN.1 hes).1
   have hbs:=hB s _ ens (WO hsl) hes;have htc:=(GX (hE s _ ens (WO hsl) hes) hwr).2;have hset:=(hbs.J8 _ htc).1;rw[hnw.1]at hset;have hlt:=hnw.2 s hs;have hset:nQ l s i=true:=hset;unfold nQ at hset;rw[show Xf i s=true from Xj hlt]at hset;obtain⟨os,hos,e,hee,hbi,hon⟩:=qe hset;cases hLs:L s with
   |false=>rfl
   |true=>have:=hI.down s os hos hLs e hee hbi;rw[hon,hL]at this;cases this
  have hnone:∀row',en.nw=some ((cj n st l es i).mem.length,row')→bZ st es L (cj n st l es i).mem.length=none:=fun row' hn=>by
   have hnw:=hb.nw _ _ hn;unfold bZ;have hbase:oE st es L (cj n st l es i).mem.length=none:=by unfold oE;simp only[hnw.1,hL,XC,if_false]
   split
   ·exact hbase
   ·rename_i s hs
    rw[if_neg (by rw[hwr row' hn s hs];decide)];exact hbase
  unfold Oper.wp;split at hent
  ·rename_i sv hres
   subst hent;rw[hres]at hgev hgon;rw[show(execOp a.eval o).run P w=_ from hgev];exact hK _ _ _ (hI.jR ho he hb hr (ai.refl _ _) rfl rfl hgon)
  ·rename_i f args g hres
   obtain⟨p,hp,hgok,hfact,hphi,hent⟩:=hent;obtain⟨hkill,hnew,hret,hupd⟩:=wE hp;rw[hres]at hgev;rw[show(execOp a.eval o).run P w=_ from hgev];have hsg:=hsee g.gw (by rw[hent]);refine(hfact w β hsg).mono fun e w' hpost=>?_;rcases hpost with⟨_,β',hgr⟩ | ⟨_,chain,rfl,hpp,hc⟩
   ·have he1:e=.returned p.1:=by rw[hgr.ret,hret];rfl
    subst he1;rcases hupd with⟨hu,hp2⟩ | ⟨q,hu,hp2,hpl⟩
    ·have hc:ai [] w w':=by
      have:=hgr.aF;unfold ct.dQ at this;rw[hkill,hu]at this;exact this
     have:=hI.jR ho he hb hr hc (by rw[hent]) (by rw[hent];exact hp2) (by rw[hent];trivial);rw[show en.sv.den β=p.1 by rw[hent];rfl]at this;exact hK _ _ _ this
    ·obtain⟨⟨r0,h0,hf0⟩,hf,hqs⟩:=Ay hgok (q:=q) (by rw[hu];simp)
     have h0':=hrow' g.gw (by rw[hent]) q.1 r0 hqs h0;have hlt:q.1 < (cj n st l es i).mem.length:=(WN.1 h0).1;have hheld:=hgr.de q (by rw[hu];simp);have same':β'.same β (· < (cj n st l es i).mem.length):=fun k hk=>by obtain⟨e1,e2,e3,e4⟩:=hgr.same k hk;exact⟨e1.symm,e2.symm,e3.symm,e4.symm⟩
     have hheld:=aZ.congr same' hlt (BN hpl) hheld;have hc:=hgr.aF;unfold ct.dQ at hc;rw[hkill,hu]at hc;simp only[W9,List.map_nil,List.append_nil,Xm,List.filterMap_nil]at hc;have hb0:b8 β (rowAt (cj n st l es i).mem) q.1=aB β q.1 r0:=by unfold b8;rw[show rowAt (cj n st l es i).mem q.1=some r0 from h0]
     rw[hb0,aH hf0]at hc;have:=hI.mO ho he hb hr (m:=q.1) (r0:=r0) (r1:=q.2) (u0:=p.1) (by rw[hent]) (by rw[hent];exact hp2) (by rw[hent]) h0' (by rw[aH hf,aH hf0]) hheld (by rw[aH hf0];exact hc) (BN hpl);exact hK _ _ _ this
   ·exact hP chain a w' hI.dn hpp (hI.aF.seq hc (hsg.dQ hgok))
  ·exact hent.elim
  ·exact hent.elim
  split at hent
  ·rename_i sv ob hres
   obtain⟨hob,rfl⟩:=hent;have hok:=hok rfl;have hon:=hon rfl;rw[hres]at hok hon;rw[hok hob];exact hK _ _ _ (hI.jR ho he hb hr (ai.refl _ _) rfl rfl hon)
  ·rename_i f args v hres
   obtain⟨hc,rfl⟩:=hent;have hok:=hok rfl;rw[hres]at hok;rw[show(execOp a.eval o).run P w=_ from hok];refine(hc w hI.aF).mono fun e w' ⟨hev,hch⟩=>?_;subst hev;exact hK _ _ _ (hI.jR ho he hb hr hch rfl rfl trivial)
  ·rename_i t cs ln hres
   obtain⟨hf,hft⟩:=tX hres;have hok:=hok (by rw[hent]);have hon:=hon (by rw[hent]);rw[hres]at hok hon;rw[show(execOp a.eval o).run P w=_ from hok];have hn:en.nw=some ((cj n st l es i).mem.length,⟨t,cs⟩):=by rw[hent]
   exact hK _ _ _ (hI.Ey ho he hb hr hf hft hn (by rw[hent]) (by rw[hent]) (hnone _ hn) (hwr _ hn) hon)
  ·rename_i m r ob hres
   obtain⟨hob,hent⟩:=hent;have hok:=hok (by rw[hent]);have hon:=hon (by rw[hent]);rw[hres]at hok hon;obtain⟨w',hrun,hbk,hch⟩:=hok hob;rw[hrun];obtain⟨htt,hf,r0,hr0,hf0,htg⟩:=nK hres;exact hK _ _ _ (hI.mO ho he hb hr (by rw[hent]) (by rw[hent]) (by rw[hent]) (hrow (by rw[hent]) m r0 htt hr0) (by rw[aH hf,aH hf0]) (aZ.oo hbk hf (fun g hg=>(hI.bO m r0 (hrow (by rw[hent]) m r0 htt hr0)).tag g (by rw[←htg];exact hg))) (by rw[aH hf0];exact hch) hon.2)
  ·rename_i m r ob hres
   obtain⟨hob,hent⟩:=hent;have hok:=hok (by rw[hent]);have hon:=hon (by rw[hent]);rw[hres]at hok hon;obtain⟨w',hrun,hbk,hch⟩:=hok hob;rw[hrun];obtain⟨htt,r0,hr0,hbb⟩:=mz hres;rw[hbb β]at hch;exact hK _ _ _ (hI.mO ho he hb hr (by rw[hent]) (by rw[hent]) (by rw[hent]) (hrow (by rw[hent]) m r0 htt hr0) (hbb β) hbk hch hon.2)
  ·rename_i kill t size nn xs ob hres
   obtain⟨hob,hent⟩:=hent;have htc:=fun j (hj:kill=some j)=>qC (P:=P) (o:=o) (i:=j) (hj ▸ hres);have hok:=hok (by rw[hent]);rw[hres]at hok;obtain⟨A,cc,w',S,hrun,hown,hch,hS,hA⟩:=hok hob;rw[hrun];have hn:en.nw=some ((cj n st l es i).mem.length,⟨t,.own size nn xs⟩):=by rw[hent]
   have:=hI.sM ho he hb hr hn (kill:=kill) (by rw[hent]) (hnone _ hn) (hwr _ hn) hown hch (fun k hk=>by obtain⟨j,hj,hbk⟩:=hS k hk;obtain⟨htj,r,h0,s,m,ys,hcs⟩:=htc j hj;exact⟨j,r,hj,hrow (by rw[hent]) j r htj h0,by unfold aB;rw[hcs];exact hbk⟩) hA (by rw[hent];rfl);rw[show en.sv.den (β.im (cj n st l es i).mem.length A nn cc)=.slice A nn cc by rw[hent];exact mq]at this;exact hK _ _ _ this
  ·rename_i f args r hres
   obtain⟨hcl,hent⟩:=hent;have htc:=Dn hres;have hok:=hok (by rw[hent]);rw[hres]at hok;rw[show(execOp a.eval o).run P w=_ from hok];have hcall:=eV (β:=β) (hcl w hI.aF) (fun j sv hj hat r' hr'=>hI.bO j r' (hrow (by rw[hent]) j r' (htc j sv hj hat) hr'));refine hcall.mono fun e w' hp=>?_;rcases KO hp with⟨v,rfl,rfl,hc⟩ | ⟨T,size,nn,xs,A,cc,hrr,hown,hc,hA,hsv⟩
   ·have:=hI.jR ho he hb hr hc (by rw[hent];rfl) (by rw[hent]) (by rw[hent];trivial)
    rw[show en.sv.den β=v by rw[hent];rfl]at this;exact hK _ _ _ this
   ·obtain⟨hev',hon'⟩:=hsv β (cj n st l es i).mem.length
    subst hev';have hn:en.nw=some ((cj n st l es i).mem.length,⟨T,.own size nn xs⟩):=by rw[hent];simp only[hrr,WY]
    have:=hI.sM ho he hb hr hn (kill:=none) (by rw[hent];rfl) (hnone _ hn) (hwr _ hn) hown hc (by simp) (fun k hk=>.inr (hA k hk)) (by rw[hent];exact hon');rw[show en.sv=ij (cj n st l es i).mem.length r by rw[hent]]at this;exact hK _ _ _ this
  ·rename_i f j r hres
   obtain⟨hcl,hent⟩:=hent;have htj:=(tW hres).1;have hok:=hok (by rw[hent]);rw[hres]at hok;rw[show(execOp a.eval o).run P w=_ from hok];have hcall:=G7 (β:=β) (hcl w hI.aF) (fun r' hr'=>hI.bO j r' (hrow (by rw[hent]) j r' htj hr'));obtain⟨r0,h0,s0,m0,y0,hc0⟩:=xv (hcl w hI.aF);refine hcall.mono fun e w' hp=>?_;obtain⟨T,size,nn,xs,A,cc,hrr,hown,hc,hA,hsv⟩:=F8 hp;obtain⟨hev',hon'⟩:=hsv β (cj n st l es i).mem.length;subst hev';rw[Bu]at hc hA;have hn:en.nw=some ((cj n st l es i).mem.length,⟨T,.own size nn xs⟩):=by rw[hent];simp only[hrr,WY]
   have:=hI.sM ho he hb hr hn (kill:=some j) (by rw[hent];rfl) (hnone _ hn) (hwr _ hn) hown hc (fun k hk=>⟨j,r0,rfl,hrow (by rw[hent]) j r0 htj h0,by unfold aB;rw[hc0];simpa using hk⟩) (fun k hk=>(hA k hk).imp (fun h=>by simpa using h) id) (by rw[hent];exact hon');rw[show en.sv=ij (cj n st l es i).mem.length r by rw[hent]]at this;exact hK _ _ _ this
  ·rename_i f args x hres
   obtain⟨hx1,hx2,_⟩:=qH hres;cases x with
   |de p m row v=>
    obtain⟨hcl,hent⟩:=hent;obtain⟨hpi,htt,r0,h0,hty,hf0,hf,htg⟩:=hx2 p m row v rfl;have hok:=hok (by rw[hent]);have hon:=hon (by rw[hent]);rw[hres]at hok hon;rw[show(execOp a.eval o).run P w=_ from hok];have hr0:=hrow (by rw[hent]) m r0 htt h0;have hcall:=eV (β:=β) (hcl w hI.aF) (fun j sv hj hat r' hr'=>hI.bO j r' (hrow (by rw[hent]) j r' (hx1 j sv hj hat) hr'));refine hcall.mono fun e w' hp=>?_;obtain⟨g,l,hg,hl,rfl,hb',hc⟩:=hp;rw[W7,hpi]at hg;have hgi:β m=g:=by simpa[SV.den]using hg
    have hden:row.cs.den β=l:=by unfold Cells.list at hl;split at hl<;>first | (cases hl;done) | (rename_i hcs;cases hl;rw[hcs];rfl)
    rw[←hgi]at hb' hc;have hheld:aZ β w' m row:=aZ.oo (by rw[hden];exact hb') hf (fun g hg=>(hI.bO m r0 hr0).tag g (by rw[←htg];exact hg));exact hK _ _ _ (hI.mO ho he hb hr (by rw[hent]) (by rw[hent]) (by rw[hent]) hr0 (by rw[aH hf,aH hf0]) hheld (by rw[aH hf0];exact hc) hon.2)
   |Gh ps=>exact hent.elim
  ·exact hent.elim
theorem fC{listed:Array Bool}(h:i < listed.size):more (fun k=>listed.getD k false) i=fun k=>(listed.setIfInBounds i true).getD k false:=by
 funext k;by_cases hk:k=i
 ·subst hk
  rw[jS];simp[h]
 ·rw[fi hk,getD_set_ne false (Ne.symm hk)]
theorem SR(hB:∀k o en,l[k]?=some o→es[k]?=some en→DL l es n k o en)(hlen:es.length=l.length)
  {D:List Nat} (hE:∀k o en,l[k]?=some o→es[k]?=some en→xA P H w0 l.toArray D k (cj n st l es k) o en)
  (hDl:∀d∈D,d < l.length) (hP:∀chain a w',a.defers=ds→w0.PP chain w'→ai w0.S w0.w w'→Q (.panic chain) a w')
  (hQ:D=[]→∀L β a w,ie ds w0 n l es st L β a w→(∀k,k < l.length→L k=true)→Q .normal a w) :
  ∀(fuel:Nat) (listed:Array Bool) (β:Env) (a:Act) (w:World),listed.size=l.length→listed.toList.count true+fuel=l.length→(∀d∈D,listed.getD d false=false)→ie ds w0 n l es st (fun k=>listed.getD k false) β a w→wpAny P .any l.toArray Q fuel listed a w:=by
 have done:∀(listed:Array Bool),listed.size=l.length→Region.ready .any l.toArray listed=[]→∀k,k < l.length→listed.getD k false=true:=by
  intro listed hsz hnil k;induction k using Xt with
  |_ k ih=>
   intro hk;cases hLk:listed.getD k false with
   |true=>rfl
   |false=>
    exfalso;obtain⟨o,ho⟩:∃o,l[k]?=some o:=⟨_,WO hk⟩;obtain⟨en,he⟩:∃en,es[k]?=some en:=⟨_,WO (by omega)⟩;have hmem:k∈Region.ready .any l.toArray listed:=by
     rw[mem_ready];refine⟨?_,o,by simpa using ho,fun e hee hb=>?_⟩
     ·have hk':k < listed.size:=by omega
      simp only[WR,WS hk',W4]at hLk ⊢;exact hLk
     ·have hlt:=(hB k o en ho he).down e hee hb
      exact ih e.on hlt (by omega)
    rw[hnil]at hmem;cases hmem
 intro fuel;induction fuel with
 |zero=>
  intro listed β a w hsz hcnt hLD hI;have hall:∀k,k < l.length→listed.getD k false=true:=by
   have hc:listed.toList.count true=listed.toList.length:=by simp at hcnt ⊢;omega
   have:=Xz.1 hc;intro k hk;have hk':k < listed.size:=by omega
   have h1:=this listed[k] (by simp);simp[hk',←h1]
  have noD:D=[]:=Xq.2 fun d hd=>by have:=hall d (hDl d hd);rw[hLD d hd]at this;cases this
  refine⟨?_,hQ noD _ β a w hI hall⟩;cases hr:Region.ready .any l.toArray listed with
  |nil=>rfl
  |cons x r=>
   exfalso;have hx:x∈Region.ready .any l.toArray listed:=by rw[hr];simp
   obtain⟨h0,o,ho,_⟩:=mem_ready.1 hx;have hxl:x < l.length:=by have:=(WN.1 (show l[x]?=some o by simpa using ho)).1;exact this
   have:=hall x hxl;have hk':x < listed.size:=by omega
   simp only[WR,WS hk',W4]at h0 this;rw[h0]at this;cases this
 |succ fuel ih=>
  intro listed β a w hsz hcnt hLD hI;refine⟨fun hnil=>hQ (Xq.2 fun d hd=>by have:=done listed hsz hnil d (hDl d hd);rw[hLD d hd]at this;cases this) _ β a w hI (done listed hsz hnil),fun i hi=>?_⟩;obtain⟨h0,o,ho,hall⟩:=mem_ready.1 hi;have ho':l[i]?=some o:=by simpa using ho
  have hil:i < l.length:=(WN.1 ho').1;have hk':i < listed.size:=by omega
  obtain⟨en,he⟩:∃en,es[i]?=some en:=⟨_,WO (by omega)⟩;have hLi:listed[i]=false:=by simpa[hk']using h0
  refine Dx hI ho' he hB hlen hE (by simp[hk',hLi]) hLD hP (fun e hee hb=>hall e (by simpa using hee) hb) (fun⟨m,hm,hle⟩ _=>absurd (hDl m hm) (by omega)) fun hiD β' a' w' hI'=>?_;have hLD':∀d∈D,(listed.setIfInBounds i true).getD d false=false:=fun d hd=>by have hne:d≠i:=fun h=>hiD (h ▸ hd);rw[←congrFun (fC hk') d,fi hne];exact hLD d hd
  rw[fC hk']at hI';refine ih _ β' a' w' (by simpa using hsz) ?_ hLD' hI';have hcs:(listed.setIfInBounds i true).toList.count true=listed.toList.count true+1:=by
   rw[Xs,XG (by simpa using hk')];have:listed.toList[i]'(by simpa using hk')=false:=by simpa using hLi
   simp[this]
  omega
theorem ie.start(h:Hd ds w0 n β st a w)(hfresh:∀b k:Nat,idxOf (jA b) es=some k→st.mem[b]?=none):ie ds w0 n l es st (fun _=>false) β a w:=by
 have row:∀b,bZ st es (fun _=>false) b=st.mem[b]?:=fun b=>yV (hfresh b);have lt:∀b,b < st.mem.length→∃r,bZ st es (fun _=>false) b=some r:=fun b hb=>⟨_,by rw[row];exact WO hb⟩;refine⟨h.size,h.dn,fun t sv ht=>h.get t sv (by rw[←ht,qG]),fun b r hb=>h.bO b r (by rw[←hb,row]),fun b r k hb hk=>h.new b r k (by rw[←hb,row]) hk,fun b c r r' k hb hc hk hk'=>h.inj b c r r' k (by rw[←hb,row]) (by rw[←hc,row]) hk hk',h.aF,fun t sv ht=>?_,fun b r hb=>?_,fun k o ho hk=>by cases hk⟩
 ·rw[qG]at ht;exact SV.bh lt (h.xC t sv ht)
 ·rw[row]at hb;exact Cells.bh lt (h.uM b r hb)
theorem ie.QX(hI:ie ds w0 n l es st L β a w){m:Nat}(hm:m≤l.length)(hL:∀k,k < l.length→L k=uz m k)(hB:∀k o en,l[k]?=some o→es[k]?=some en→DL l es n k o en)(hlen:es.length=l.length)
  {D:List Nat} (hE:∀k o en,l[k]?=some o→es[k]?=some en→xA P H w0 l.toArray D k (cj n st l es k) o en):Hd ds w0 n β (cj n st l es m) a w:=by
 have hlook:∀t,look (cj n st l es m).fr t=kO l st es L t:=fun t=>by rw[Gx (st:=st) hlen hB m hm];refine oD fun k hk=>?_;obtain⟨o,ho,_⟩:=gv hk;have hkl:=(WN.1 ho).1;rw[hL k hkl]
 have hrow:∀b:Nat,(cj n st l es m).mem[b]?=bZ st es L b:=fun b=>by
  rw[KA (P:=P) (H:=H) (w0:=w0) (ops:=l.toArray) (st:=st) hlen hB hE m hm];refine qF (fun k hk=>?_) (fun k hk=>?_)
  ·obtain⟨o,ho,_⟩:=gv hk
   have hkl:=(WN.1 ho).1;rw[hlen]at hkl;rw[hL k hkl]
  ·obtain⟨o,ho,_⟩:=gv hk
   have hkl:=(WN.1 ho).1;rw[hlen]at hkl;rw[hL k hkl]
 have ex:∀b:Nat,b < (cj n st l es m).mem.length→∃r,bZ st es L b=some r:=fun b hb=>⟨_,by rw[←hrow];exact WO hb⟩;have back:∀b:Nat,(∃r,bZ st es L b=some r)→b < (cj n st l es m).mem.length:=fun b ⟨r,h⟩=>by rw[←hrow]at h;exact(WN.1 h).1
 refine⟨hI.size,hI.dn,fun t sv ht=>hI.get t sv (by rw[←hlook];exact ht),fun b r hb=>hI.bO b r (by rw[←hrow];exact hb),fun b r k hb hk=>hI.new b r k (by rw[←hrow];exact hb) hk,fun b c r r' k hb hc hk hk'=>hI.inj b c r r' k (by rw[←hrow];exact hb) (by rw[←hrow];exact hc) hk hk',hI.aF,fun t sv ht=>?_,fun b r hb=>?_⟩
 ·rw[hlook]at ht;exact SV.bh back (hI.xC t sv ht)
 ·rw[hrow]at hb;exact Cells.bh back (hI.uM b r hb)
theorem ie.fin(hI:ie ds w0 n l es st L β a w)(hL:∀k,k < l.length→L k=true)(hB:∀k o en,l[k]?=some o→es[k]?=some en→DL l es n k o en)(hlen:es.length=l.length)
  {D:List Nat} (hE:∀k o en,l[k]?=some o→es[k]?=some en→xA P H w0 l.toArray D k (cj n st l es k) o en):Hd ds w0 n β (cj n st l es l.length) a w:=
 hI.QX (Xh _) (fun k hk=>by rw[hL k hk];simp[uz,hk]) hB hlen hE
def GV(P:Program)(H:List (Nat×Hint))(n:Nat)(w0:aV)(l:List Oper)(st:St)(K:St→Prop):Prop:=
 fZ P H n w0 l.toArray l 0 st [] [] fun es st' D=>match DA l es n 0 l es with
  |true=>match D with
   | []=>K st'
   |_=>True
  |false=>cE l
theorem E8{id:Nat}{K:St→Prop}(hm:P.follows .mixedOrders=true)(h:Hd ds w0 n β st a w)(hx:GV P H n w0 l st K)(hP:∀chain a w',a.defers=ds→w0.PP chain w'→ai w0.S w0.w w'→Q (.panic chain) a w')(hK:∀β' st' a' w',K st'→Hd ds w0 n β' st' a' w'→Q .normal a' w'):(Code.region id l.toArray true).wp P Q a w:=by
 obtain⟨es,st',D,hlex,hk⟩:=Ah _ _ _ _ _ _ hx;rw[XE]at hk;obtain⟨hlen,hE,hst⟩:=wh hlex (by simp);have hE:∀k o en,l[k]?=some o→es[k]?=some en→xA P H w0 l.toArray D k (cj n st l es k) o en:=fun k o en ho he=>by have:=hE k o en ho he;rwa [Xe]at this
 have hDl:∀d∈D,d < l.length:=fun d hd=>by simpa using lex_lt hlex (by simp) d hd
 split at hk
 ·rename_i hb
  have hB:∀k o en,l[k]?=some o→es[k]?=some en→DL l es n k o en:=fun k o en ho he=>by have:=qN hb k o en ho he;rw[Xe]at this;exact BP this
  refine wp_region_any hm ?_;have hI:ie ds w0 n l es st (fun _=>false) β a { w with drawn:=w.drawn+1 }:=ie.start (h.later (ai.refl [] w).drew) fun b k hk'=>by
   obtain⟨en,r,he,hr⟩:=fB hk';have hkl:k < l.length:=by rw[←hlen];exact(WN.1 he).1
   have hbl:=uD (hE k _ en (WO hkl) he) hr;have:=Ae (n:=n) (st:=st) hlen k (by omega);exact WV (by omega)
  have hrep:(fun k=>(W6 l.length false).getD k false)=fun _:Nat=>false:=by funext k;simp only[WR,Xu];split<;>rfl
  have:=SR (P:=P) (H:=H) (w0:=w0) (n:=n) (st:=st) (Q:=Q) hB hlen hE hDl hP (fun hDn L β' a' w' hI' hL=>hK β' st' a' w' (by subst hDn;exact hk) (by rw[←hst];exact hI'.fin hL hB hlen hE)) l.length (W6 l.length false) β a { w with drawn:=w.drawn+1 } (by simp) (by simp[Xy]) (fun d _=>congrFun hrep d) (by rw[hrep];exact hI);simpa using this
 ·exact nomatch hk
def sinkB(l:List Oper):Bool:=eA (fun k=>(l.drop (k+1)).any fun o=>o.after.toList.any fun e=>Region.binds .any e&&Xl e.on k) (List.range (l.length - 1))
def QD(H:List (Nat×Hint))(l:List Oper):Option Oper:=match l.getLast? with
 |some o=>match hint H o.dst with
  |some (.ay g)=>match yL g with
   |none=>some o
   |some _=>none
  |_=>none
 |none=>none
def GU(P:Program)(H:List (Nat×Hint))(n:Nat)(w0:aV)(l:List Oper)(o:Oper)(st:St)(K:St→Prop):Prop:=
 fZ P H n w0 l.toArray l.dropLast 0 st [] [] fun es st' D=>match DA l (es++[kJ []]) n 0 l (es++[kJ []])&&sinkB l with
  |true=>match D with
   | []=>l9 P H n w0 l.toArray [o] st' K
   |_=>cE l
  |false=>cE l
def Fa(P:Program)(H:List (Nat×Hint))(n:Nat)(w0:aV)(l:List Oper)(st:St)(K:St→Prop):Prop:=match QD H l with
 |some o=>GU P H n w0 l o st K
 |none=>GV P H n w0 l st K
theorem vc:∀{l:List Oper} {es:List jj} {st:St} {k:Nat} (l2:List Oper) (es2:List jj),es.length=l.length→k≤l.length→cj n st (l++l2) (es++es2) k=cj n st l es k
 |l,es,st,0,l2,es2,_,_=>by rw[ir,ir]
 |o::l,en::es,st,k+1,l2,es2,hl,hk=>by show cj n (cX n st o en) (l++l2) (es++es2) k=cj n (cX n st o en) l es k;exact vc l2 es2 (by simpa using hl) (by simpa using hk)
 | [],_,_,k+1,_,_,_,hk=>by simp at hk
 |_::_,[],_,_,_,_,hl,_=>by simp at hl
theorem Qp{o:Oper}{N:Nat}(hB:∀k o en,l[k]?=some o→es[k]?=some en→DL l es n k o en)(hlen:es.length=l.length)(hN:l.length=N+1)(hoN:l[N]?=some o)
  (hE:∀k o en,l[k]?=some o→es[k]?=some en→xA P H w0 l.toArray [N,l.length] k (cj n st l es k) o en) (hsink:sinkB l=true)
  (hP:∀chain a w',a.defers=ds→w0.PP chain w'→ai w0.S w0.w w'→Q (.panic chain) a w')
  (hQ:∀β a w,Hd ds w0 n β (cj n st l es N) a w→wpList P l.toArray Q [o] a w) :
  ∀(fuel:Nat) (listed:Array Bool) (β:Env) (a:Act) (w:World),listed.size=l.length→listed.toList.count true+fuel=l.length→listed.getD N false=false→(∀k,listed.getD k false=true→∀o,l[k]?=some o→∀e∈o.after,Region.binds .any e=true→listed.getD e.on false=true)→
   ie ds w0 n l es st (fun k=>listed.getD k false) β a w→wpAny P .any l.toArray Q fuel listed a w:=by
 have inB:∀(listed:Array Bool) (k:Nat),listed.getD k false=true→k < listed.size:=fun listed k h=>by
  rcases XL k listed.size with h1|h1
  ·exact h1
  ·rw[WR,Xv h1]at h;cases h
 have done:∀(listed:Array Bool),listed.size=l.length→Region.ready .any l.toArray listed=[]→∀k,k < l.length→listed.getD k false=true:=by
  intro listed hsz hnil k;induction k using Xt with
  |_ k ih=>
   intro hk;cases hLk:listed.getD k false with
   |true=>rfl
   |false=>
    exfalso;obtain⟨o,ho⟩:∃o,l[k]?=some o:=⟨_,WO hk⟩;obtain⟨en,he⟩:∃en,es[k]?=some en:=⟨_,WO (by omega)⟩;have hmem:k∈Region.ready .any l.toArray listed:=by
     rw[mem_ready];refine⟨?_,o,by simpa using ho,fun e hee hb=>?_⟩
     ·have hk':k < listed.size:=by omega
      simp only[WR,WS hk',W4]at hLk ⊢;exact hLk
     ·have hlt:=(hB k o en ho he).down e hee hb
      exact ih e.on hlt (by omega)
    rw[hnil]at hmem;cases hmem
 intro fuel;induction fuel with
 |zero=>
  intro listed β a w hsz hcnt hLN _ hI;exfalso;have hc:listed.toList.count true=listed.toList.length:=by simp at hcnt ⊢;omega
  have:=Xz.1 hc;have hk':N < listed.size:=by omega
  have h1:=this listed[N] (by simp);simp[hk',←h1]at hLN
 |succ fuel ih=>
  intro listed β a w hsz hcnt hLN hcl hI;refine⟨fun hnil=>absurd (done listed hsz hnil N (by omega)) (by rw[hLN];decide),fun i hi=>?_⟩;obtain⟨h0,o',ho,hall⟩:=mem_ready.1 hi;have ho':l[i]?=some o':=by simpa using ho
  have hil:i < l.length:=(WN.1 ho').1;have hk':i < listed.size:=by omega
  obtain⟨en,he⟩:∃en,es[i]?=some en:=⟨_,WO (by omega)⟩;have hLi:listed[i]=false:=by simpa[hk']using h0
  have hLD:∀d∈[N,l.length],listed.getD d false=false:=fun d hd=>by
   rcases W2.1 hd with rfl|hd
   ·exact hLN
   ·rw[Xn.1 hd,WR,Xv (by omega)];rfl
  refine Dx hI ho' he hB hlen hE (by simp[hk',hLi]) hLD hP (fun e hee hb=>hall e (by simpa using hee) hb) (fun _ hiD=>?_) fun hiD β' a' w' hI'=>?_
  ·have hiN:i=N:=by
    rcases W2.1 hiD with h|h
    ·exact h
    ·have:=Xn.1 h;omega
   subst hiN;rw[hoN]at ho';cases ho';have allL:∀m k,k+m=i→k < i→listed.getD k false=true:=by
    intro m;induction m using Xt with
    |_ m ihm=>
     intro k hkm hki;have hs:=aU hsink k (List.mem_range.2 (by omega));obtain⟨oj,hoj,hej⟩:=Xi.1 hs;obtain⟨e,hee,hbb⟩:=Xi.1 hej;rw[WQ]at hbb;have hek:e.on=k:=WT hbb.2;obtain⟨j,hj⟩:=List.mem_iff_getElem?.1 hoj;rw[List.getElem?_drop]at hj;have hjl:=(WN.1 hj).1;by_cases hjN:k+1+j=i
     ·rw[hjN,hoN]at hj
      cases hj;have:=hall e (by simpa using hee) hbb.1;rw[hek]at this;exact this
     ·have hl:=ihm (i - (k+1+j)) (by omega) (k+1+j) (by omega) (by omega)
      have:=hcl _ hl oj hj e (by simpa using hee) hbb.1;rw[hek]at this;exact this
   have hL:∀k,k < l.length→listed.getD k false=uz i k:=fun k hk=>by
    by_cases hki:k < i
    ·rw[allL (i - k) k (by omega) hki]; simp[uz,hki]
    ·have:k=i:=by omega
     subst this;rw[hLN];simp[uz]
   have hH:=hI.QX (by omega) hL hB hlen hE;have hw:=hQ β a w hH;have hfuel:fuel=0:=by
    have hcount:listed.toList.count true=i:=by
     have:listed.toList=List.replicate i true++[false]:=by
      refine List.ext_getElem? fun k=>?_;by_cases hki:k < i
      ·rw[W5 (by simpa using hki),List.getElem?_replicate,if_pos hki]
       have h1:=allL (i - k) k (by omega) hki;have hks:k < listed.size:=by omega
       rw[WR,WS hks]at h1;rw[Xw,WS hks];simpa using h1
      ·by_cases hke:k=i
       ·subst hke
        rw[W3 (by simp),Xw,WS hk',hLi];simp
       ·rw[WV (by simp;omega),WV (by simp;omega)]
     rw[this];simp
    omega
   subst hfuel;have hrdy:Region.ready .any l.toArray (listed.setIfInBounds i true)=[]:=by
    cases hr:Region.ready .any l.toArray (listed.setIfInBounds i true)with
    |nil=>rfl
    |cons x r=>
     exfalso;have hx:x∈Region.ready .any l.toArray (listed.setIfInBounds i true):=by rw[hr];simp
     obtain⟨h0,o,ho,_⟩:=mem_ready.1 hx;have hxl:x < l.length:=(WN.1 (show l[x]?=some o by simpa using ho)).1;have hall2:(listed.setIfInBounds i true).getD x false=true:=by
      rw[←congrFun (fC hk') x];by_cases hxi:x=i
      ·rw[hxi,jS]
      ·rw[fi hxi,hL x hxl];simp[uz];omega
     have hxs:x < (listed.setIfInBounds i true).size:=by simp;omega
     rw[WR,WS hxs]at hall2;rw[WR,WS hxs]at h0;simp only[W4]at hall2 h0;rw[hall2]at h0;cases h0
   unfold wpOp;rw[show l.toArray[i]?=some o by simpa using hoN];simp only;unfold wpList at hw;split at hw
   ·rename_i hwt
    rw[if_pos hwt];rcases hw with hw|hw
    ·exact .inl (Oper.wp_mono (fun a' w' h=>⟨hrdy,by simpa[wpList]using h⟩) hw)
    ·exact .inr hw
   ·rename_i hwt
    rw[if_neg hwt];exact⟨hrdy,by simpa[wpList]using hw⟩
  ·have hLN':(listed.setIfInBounds i true).getD N false=false:=by
    have hne:N≠i:=fun h=>hiD (h ▸ by simp);rw[←congrFun (fC hk') N,fi hne];exact hLN
   have hcl':∀k,(listed.setIfInBounds i true).getD k false=true→∀o,l[k]?=some o→∀e∈o.after,Region.binds .any e=true→(listed.setIfInBounds i true).getD e.on false=true:=by
    intro k hk ok hok e hee hb;rw[←congrFun (fC hk') k]at hk;rw[←congrFun (fC hk') e.on];have up:listed.getD e.on false=true→more (fun k=>listed.getD k false) i e.on=true:=fun h=>by
     by_cases hx:e.on=i
     ·rw[hx,jS]
     ·rw[fi hx];exact h
    by_cases hki:k=i
    ·subst hki
     rw[ho']at hok;cases hok;exact up (hall e (by simpa using hee) hb)
    ·rw[fi hki]at hk
     exact up (hcl k hk ok hok e hee hb)
   rw[fC hk']at hI';refine ih _ β' a' w' (by simpa using hsz) ?_ hLN' hcl' hI';have hcs:(listed.setIfInBounds i true).toList.count true=listed.toList.count true+1:=by
    rw[Xs,XG (by simpa using hk')];have:listed.toList[i]'(by simpa using hk')=false:=by simpa using hLi
    simp[this]
   omega
theorem E0{id:Nat}{K:St→Prop}{o:Oper}(hm:P.follows .mixedOrders=true)(h:Hd ds w0 n β st a w)(ho:l.getLast?=some o)(hx:GU P H n w0 l o st K)(hP:∀chain a w',a.defers=ds→w0.PP chain w'→ai w0.S w0.w w'→Q (.panic chain) a w')(hK:∀β' st' a' w',K st'→Hd ds w0 n β' st' a' w'→Q .normal a' w'):(Code.region id l.toArray true).wp P Q a w:=by
 obtain⟨es,st',D,hlex,hk⟩:=Ah _ _ _ _ _ _ hx;rw[XE]at hk;obtain⟨hlen0,hE0,hst⟩:=wh hlex (by simp);obtain⟨l1,rfl⟩:∃l1,l=l1++[o]:=⟨l.dropLast,by rw[List.getLast?_eq_some_iff]at ho;obtain⟨ys,rfl⟩:=ho;simp⟩;rw[List.dropLast_concat]at hlen0 hE0 hst;split at hk
 rotate_left
 ·exact nomatch hk
 rename_i hb;rw[WQ]at hb;split at hk
 rotate_left
 ·exact nomatch hk
 have hlen:(es++[kJ []]).length=(l1++[o]).length:=by simp[hlen0]
 have hB:∀k o' en,(l1++[o])[k]?=some o'→(es++[kJ []])[k]?=some en→DL (l1++[o]) (es++[kJ []]) n k o' en:=fun k o' en ho he=>by have:=qN hb.1 k o' en ho he;rw[Xe]at this;exact BP this
 have hE:∀k o' en,(l1++[o])[k]?=some o'→(es++[kJ []])[k]?=some en→xA P H w0 (l1++[o]).toArray [l1.length,(l1++[o]).length] k (cj n st (l1++[o]) (es++[kJ []]) k) o' en:=by
  intro k o' en ho he;have hkl:=(WN.1 ho).1;simp only[Xo,Xx]at hkl;by_cases hkN:k < l1.length
  ·rw[W5 hkN]at ho
   rw[W5 (by omega)]at he;have:=hE0 k o' en ho he;rw[Xe]at this;rw[vc [o] [kJ []] hlen0 (by omega)];rcases this with⟨_,h1⟩ | ⟨h1,_⟩
   ·refine .inl ⟨fun hh=>?_,h1⟩
    simp only[W2,List.not_mem_nil,or_false,Xo,Xx]at hh;omega
   ·cases h1
  ·have:k=l1.length:=by omega
   subst this;rw[W3 (by omega),hlen0,Nat.sub_self]at he;cases he;exact .inr ⟨by simp,rfl,rfl,.inr (.inr ⟨(l1++[o]).length,by simp,by simp⟩)⟩
 refine wp_region_any hm ?_;have hrep:(fun k=>(W6 (l1++[o]).length false).getD k false)=fun _:Nat=>false:=by funext k;simp only[WR,Xu];split<;>rfl
 have hI:ie ds w0 n (l1++[o]) (es++[kJ []]) st (fun _=>false) β a { w with drawn:=w.drawn+1 }:=ie.start (h.later (ai.refl [] w).drew) fun b k hk'=>by
  obtain⟨en,r,he,hr⟩:=fB hk';have hkl:k < (l1++[o]).length:=by rw[←hlen];exact(WN.1 he).1
  have hbl:=uD (hE k _ en (WO hkl) he) hr;have:=Ae (n:=n) (st:=st) hlen k (by omega);exact WV (by omega)
 have:=Qp (P:=P) (H:=H) (w0:=w0) (n:=n) (st:=st) (Q:=Q) (N:=l1.length) (o:=o) hB hlen (by simp) (by rw[W3 (Xh _)];simp) hE hb.2 hP (fun β' a' w' hH=>by rw[vc [o] [kJ []] hlen0 (Xh _),hst]at hH;exact wX hP [o] st' K β' a' w' hH hk hK) (l1++[o]).length (W6 (l1++[o]).length false) β a { w with drawn:=w.drawn+1 } (by simp) (by simp[Xy]) (congrFun hrep _) (fun k hk'=>by rw[show(W6 (l1++[o]).length false).getD k false=false from congrFun hrep k]at hk';cases hk') (by rw[hrep];exact hI);simpa using this
theorem Je{id:Nat}{K:St→Prop}(hm:P.follows .mixedOrders=true)(h:Hd ds w0 n β st a w)(hx:Fa P H n w0 l st K)(hP:∀chain a w',a.defers=ds→w0.PP chain w'→ai w0.S w0.w w'→Q (.panic chain) a w')(hK:∀β' st' a' w',K st'→Hd ds w0 n β' st' a' w'→Q .normal a' w'):(Code.region id l.toArray true).wp P Q a w:=by
 unfold Fa at hx;split at hx
 ·rename_i o ho
  refine E0 hm h ?_ hx hP hK;unfold QD at ho;split at ho
  ·rename_i o' ho'
   split at ho
   ·split at ho
    ·cases ho;exact ho'
    ·cases ho
   ·cases ho
  ·cases ho
 ·exact E8 hm h hx hP hK
end
end Sx
open Go Go.RowKit Go.Lib Go.Sort
namespace Sx
inductive Loop:Type 1 where
 |mk (κ:Type) (k0:κ) (R:κ→Prop) (fr:κ→List (Nat×SV)) (mem:κ→List Row) (next:κ→κ) (μ:κ→Nat)
  (ι:Type) (Ro:ι→Prop) (fro:ι→List (Nat×SV)) (memo:ι→List Row) (which:κ→ι)
 |fin (κ:Type) (k0:κ) (R:κ→Prop) (fr:κ→List (Nat×SV)) (mem:κ→List Row) (next:κ→κ) (μ:κ→Nat)
 |times (l:List (List (Nat×Hint)))
def As(fr:List (Nat×SV))(t:Nat):Bool:=match look fr t with
 |some _=>true
 |none=>false
def Le(fr:List (Nat×SV))(l:List (Nat×SV)):List (Nat×SV):=l.map fun p=>(p.1,(look fr p.1).getD (.val undef))
def N9:SV→Option Nat
 |.val _=>none
 |.ptr i _=>some i
 |.nO i _ _ _=>some i
 |.own i=>some i
 |.mM i _=>some i
 |.nu _ i _=>some i
 |.lj i _ _ _=>some i
 |.gone=>none
 |.ej _=>none
 |.G0 _ _=>none
 |.kI _ i _=>some i
 |.nI _=>none
 |.eB _ i _=>some i
def yc(fr:List (Nat×SV)):List (Nat×SV)→List (Nat×Nat)
 | []=>[]
 |p::r=>match N9 p.2 with
  |some i=>match look fr p.1 with
   |some u=>match N9 u with
    |some j=>(i,j)::yc fr r
    |none=>yc fr r
   |none=>yc fr r
  |none=>yc fr r
def eU:List (Nat×Nat)→Nat→Nat
 | [],i=>i
 |p::r,i=>match Xl p.1 i with
  |true=>p.2
  |false=>eU r i
def Atom.eU(σ:List (Nat×Nat)):Atom→Atom
 |.v x=>.v x
 |.o i=>.o (Sx.eU σ i)
 |.p i off=>.p (Sx.eU σ i) off
 |.s i off len cut=>.s (Sx.eU σ i) off len cut
def fx.eU(σ:List (Nat×Nat)):fx→fx
 |.a x=>.a (x.eU σ)
 |.row l=>.row (l.map (Atom.eU σ))
 |.kI t i off=>.kI t (Sx.eU σ i) off
def SV.eU(σ:List (Nat×Nat)):SV→SV
 |.val v=>.val v
 |.ptr i o=>.ptr (Sx.eU σ i) o
 |.nO i o n c=>.nO (Sx.eU σ i) o n c
 |.own i=>.own (Sx.eU σ i)
 |.mM i o=>.mM (Sx.eU σ i) o
 |.nu l i r=>.nu l (Sx.eU σ i) r
 |.lj i o n c=>.lj (Sx.eU σ i) o n c
 |.gone=>.gone
 |.ej l=>.ej (l.map (Atom.eU σ))
 |.G0 f l=>.G0 f (l.map (Atom.eU σ))
 |.kI t i off=>.kI t (Sx.eU σ i) off
 |.nI l=>.nI (l.map (fx.eU σ))
 |.eB b i off=>.eB b (Sx.eU σ i) off
def Cells.eU(σ:List (Nat×Nat)):Cells→Cells
 |.aj cs=>.aj cs
 |.dC cs=>.dC (cs.map (SV.eU σ))
 |.own a b c=>.own a b c
 |.dead=>.dead
 |.cR g cs=>.cR g cs
 |.ji g cs=>.ji g (cs.map (SV.eU σ))
def Row.eU(σ:List (Nat×Nat))(r:Row):Row:=⟨r.ty,r.cs.eU σ⟩
def F9(σ:List (Nat×Nat)):List (Nat×SV)→List (Nat×SV)
 | []=>[]
 |p::r=>(p.1,p.2.eU σ)::F9 σ r
def ur(σ:List (Nat×Nat)):List Row→List Row
 | []=>[]
 |p::r=>p.eU σ::ur σ r
def vk(mem:List Row)(σ:List (Nat×Nat)):Nat→List Row→List Row
 |_,[]=>[]
 |k,_::r=>(mem[eU σ k]?).getD au::vk mem σ (k+1) r
def Gr(σ:List (Nat×Nat))(x:Nat):Nat→Bool
 | 0=>true
 |n+1=>match Xl (eU σ n) x with
  |true=>false
  |false=>Gr σ x n
def Gl(σ:List (Nat×Nat))(N:Nat):Nat→Bool
 | 0=>true
 |n+1=>match Xf (eU σ n) N&&Gr σ (eU σ n) n with
  |true=>Gl σ N n
  |false=>false
def Env.eU(σ:List (Nat×Nat))(β:Env):Env:=⟨fun i=>β.b (Sx.eU σ i),fun i=>β.a (Sx.eU σ i),fun i=>β.n (Sx.eU σ i),fun i=>β.c (Sx.eU σ i)⟩
def QE:Cells→List SV
 |.dC cs=>cs
 |.ji _ cs=>cs
 |_=>[]
def u5:List SV→List SV→List (Nat×Nat)
 |a::r,b::q=>match N9 a,N9 b with
  |some i,some j=>(i,j)::u5 r q
  |_,_=>u5 r q
 |_,_=>[]
def zt(σ:List (Nat×Nat))(smem:List Row):Nat→List Row→List (Nat×Nat)
 |_,[]=>[]
 |k,r::l=>match smem[eU σ k]? with
  |some q=>u5 (QE r.cs) (QE q.cs)++zt σ smem (k+1) l
  |none=>zt σ smem (k+1) l
def nP(st:St)(fr:List (Nat×SV))(mem:List Row):List (Nat×Nat):=yc st.fr fr++zt (yc st.fr fr) st.mem 0 mem
def AY(st:St)(fr:List (Nat×SV))(mem:List Row):Prop:=
 match eA (fun p=>As st.fr p.1&&xF mem.length p.2) fr&&(eA (fun r=>jK mem.length r.cs) mem&&Gl (nP st fr mem) st.mem.length mem.length)with
 |true=>Le st.fr fr=F9 (nP st fr mem) fr∧vk st.mem (nP st fr mem) 0 mem=ur (nP st fr mem) mem
 |false=>cE (st,fr)
def dP{κ ι:Type}(R:κ→Prop)(fr:κ→List (Nat×SV))(mem:κ→List Row)(next:κ→κ)(μ:κ→Nat)(Ro:ι→Prop)(fro:ι→List (Nat×SV))(memo:ι→List Row)(which:κ→ι)(id:Nat)(Kr:St→Prop)(k:κ):Exit→St→Prop
 |.normal,st=>R (next k)∧μ (next k) < μ k∧AY st (fr (next k)) (mem (next k))
 |.exit i,st=>match Xl i id with
  |true=>Ro (which k)∧AY st (fro (which k)) (memo (which k))
  |false=>cE st
 |.ret,st=>Kr st
 |_,_=>False
def eo:Code→Nat
 |.seq x y=>match eo x with
  | 0=>eo y
  |k=>k
 |.cond _ x y=>match eo x with
  | 0=>eo y
  |k=>k
 |.exit i=>i+1
 |_=>0
def mN:Code→Nat
 |.seq x y=>mN x+mN y
 |.cond _ x y=>mN x+mN y
 |.block _ c=>mN c
 |.scope c=>mN c
 |.loop _=>1
 |_=>0
def uO(body:List (Nat×Hint)→St→(Exit→St→Prop)→Prop)(K:Exit→St→Prop):List (List (Nat×Hint))→St→Prop
 | [],st=>cE st
 |h::r,st=>body h st fun e st'=>match e with
  |.normal=>uO body K r st'
  |.exit i=>K (.exit i) st'
  |.ret=>K .ret st'
  |_=>False
def O5:List Nat→(Nat→Prop)→Prop
 | [],_=>True
 |i::r,F=>match r with
  | []=>F i
  |_=>Br (F i)∧O5 r F
theorem yp{F:Nat→Prop}:∀{l:List Nat},O5 l F→∀i∈l,F i
 | [],_,i,hi=>by cases hi
 | [j],h,i,hi=>by rw[Xn.1 hi];exact h
 |j::k::r,h,i,hi=>by
  have h:Br (F j)∧O5 (k::r) F:=h;rcases W2.1 hi with rfl|hi
  ·exact h.1
  ·exact yp h.2 i hi
def sX(P:Program)(H:List (Nat×Hint))(n:Nat)(w0:aV)(ops:Array Oper):Nat→Array Bool→St→(St→Prop)→Prop
 | 0,listed,st,K=>match Region.ready .any ops listed with
  | []=>K st
  |_=>cE listed
 |fuel+1,listed,st,K=>match Region.ready .any ops listed with
  | []=>K st
  |is=>O5 is fun i=>match ops[i]? with
   |some o=>zo ops o st fun st=>match guardOf ops st.fr o with
    |some true=>step P H n w0 o st fun st'=>sX P H n w0 ops fuel (listed.setIfInBounds i true) st' K
    |some false=>sX P H n w0 ops fuel (listed.setIfInBounds i true) (st.put n o.dst (.val undef)) K
    |none=>cE o
   |none=>cE i
theorem AM{P:Program}{H:List (Nat×Hint)}{n:Nat}{w0:aV}{ds:List Deferred}{Q:Exit→Act→World→Prop}{ops:Array Oper}(hP:∀chain a w',a.defers=ds→w0.PP chain w'→ai w0.S w0.w w'→Q (.panic chain) a w'):∀(fuel:Nat) (listed:Array Bool) (st:St) (K:St→Prop) (β:Env) (a:Act) (w:World),Hd ds w0 n β st a w→sX P H n w0 ops fuel listed st K→(∀β' st' a' w',K st'→Hd ds w0 n β' st' a' w'→Q .normal a' w')→wpAny P .any ops Q fuel listed a w
 | 0,listed,st,K,β,a,w,h,hx,hK=>by
  unfold sX at hx;split at hx
  ·rename_i hr
   exact⟨hr,hK _ _ _ _ hx h⟩
  ·exact nomatch hx
 |fuel+1,listed,st,K,β,a,w,h,hx,hK=>by
  unfold sX at hx;split at hx
  ·rename_i hr
   exact⟨fun _=>hK _ _ _ _ hx h,fun i hi=>by rw[hr]at hi;cases hi⟩
  ·rename_i hne
   refine⟨fun hr=>absurd hr hne,fun i hi=>?_⟩;have hx:=yp hx i hi;unfold wpOp;cases ho:ops[i]? with
   |none=>rw[ho]at hx;exact nomatch hx
   |some o=>
    rw[ho]at hx;obtain⟨st,hx,h⟩:=ya h hx;split at hx
    ·rename_i hg
     show(if Region.wanted o (yielded ops a.tmps)then _ else _);rw[rM h hg,if_pos rfl];exact .inl (FP h hx hP fun β' st' a' w' hk h'=>AM hP fuel _ st' K β' a' w' h' hk hK)
    ·rename_i hg
     show(if Region.wanted o (yielded ops a.tmps)then _ else _);rw[rM h hg,if_neg (by decide)];exact AM hP fuel _ _ K β _ w (h.put o.dst (sv:=.val undef) trivial) hx hK
    ·exact nomatch hx
def UM(H:List (Nat×Hint))(id:Nat):Bool:=match hint H (some (600000+id))with
 |some _=>true
 |none=>false
def Sg(H:List (Nat×Hint)):Operand→Option (List (Nat×SV)×List Row)
 |.tmp t=>match hint H (some (500000+t))with
  |some (.join fr mem)=>some (fr,mem)
  |_=>none
 |_=>none
def LW(fr:List (Nat×SV))(mem:List Row)(K:Exit→St→Prop):Exit→St→Prop
 |.normal,st=>AY st fr mem
 |e,st=>K e st
def Sz(H:List (Nat×Hint))(id:Nat):List (Nat×List (Nat×SV)×List Row):=match hint H (some (700000+id))with
 |some (.SA l)=>l
 |_=>[]
def Mr(P:Program)(H:List (Nat×Hint))(n:Nat)(w0:aV)(ops:Array Oper):List (Nat×List (Nat×SV)×List Row)→List Oper→St→(St→Prop)→Prop
 | [],l,st,K=>l9 P H n w0 ops l st K
 | (m,fr,mem)::cs,l,st,K=>Br (l9 P H n w0 ops (l.take m) st fun st'=>AY st' fr mem)∧Mr P H n w0 ops cs (l.drop m) ⟨fr,mem⟩ K
def ky(P:Program)(n:Nat)(w0:aV):Code→List (Nat×Hint)→List Loop→St→(Exit→St→Prop)→Prop
 |.skip,_,_,st,K=>K .normal st
 |.region id ops draw,H,_,st,K=>match draw with
  |false=>Mr P H n w0 ops (Sz H id) ops.toList st (K .normal)
  |true=>match UM H id with
   |true=>sX P H n w0 ops ops.size (W6 ops.size false) st (K .normal)
   |false=>Fa P H n w0 ops.toList st (K .normal)
 |.seq x y,H,L,st,K=>ky P n w0 x H L st fun e st'=>match e with
  |.normal=>ky P n w0 y H (L.drop (mN x)) st' K
  |e=>K e st'
 |.cond c x y,H,L,st,K=>match Sg H c with
  |none=>match ev st.fr c with
   |some (.val (.bool b))=>match b with
    |true=>ky P n w0 x H L st K
    |false=>ky P n w0 y H (L.drop (mN x)) st K
   |_=>cE c
  |some q=>match ev st.fr c with
   |some (.val (.bool b))=>Br (match b with
    |true=>ky P n w0 x H L st (LW q.1 q.2 K)
    |false=>ky P n w0 y H (L.drop (mN x)) st (LW q.1 q.2 K))∧K .normal ⟨q.1,q.2⟩
   |_=>cE c
 |.block id c,H,L,st,K=>ky P n w0 c H L st fun e st'=>match e with
  |.exit i=>match Xl i id with
   |true=>K .normal st'
   |false=>K (.exit i) st'
  |e=>K e st'
 |.scope c,H,L,st,K=>ky P n w0 c H L st fun e st'=>match e with
  |.goto _=>False
  |e=>K e st'
 |.loop c,_,L,st,K=>match L with
  |.mk _ k0 R fr mem next μ _ Ro fro memo which::_=>R k0∧AY st (fr k0) (mem k0)∧(∀k,R k→∃H' L',ky P n w0 c H' L' ⟨fr k,mem k⟩ (dP R fr mem next μ Ro fro memo which (eo c - 1) (K .ret) k))∧∀x,Ro x→K (.exit (eo c - 1)) ⟨fro x,memo x⟩
  |.fin _ k0 R fr mem next μ::_=>R k0∧AY st (fr k0) (mem k0)∧(∀k,R k→∃H' L',ky P n w0 c H' L' ⟨fr k,mem k⟩ (dP R fr mem next μ (fun(_:Unit)=>False) (fun _=>[]) (fun _=>[]) (fun _=>()) (eo c - 1) (K .ret) k))∧True
  |.times hs::_=>uO (fun H' st' K'=>ky P n w0 c H' [] st' K') K hs st
  | []=>cE c
 |.exit id,_,_,st,K=>K (.exit id) st
 |.label _,_,_,st,K=>K .normal st
 |.goto l,_,_,st,K=>K (.goto l) st
 |.ret,_,_,st,K=>K .ret st
 |c,_,_,_,_=>cE c
def ex(P:Program)(n:Nat)(w:World)(c:Code)(H:List (Nat×Hint))(L:List Loop)(st:St)(K:Exit→St→Prop):Prop:=ky P n ⟨w,[],fun _ _=>False⟩ c H L st K
def lift(ds:List Deferred)(w0:aV)(n:Nat)(K:Exit→St→Prop)(e:Exit)(a:Act)(w:World):Prop:=match e with
 |.panic chain=>a.defers=ds∧w0.PP chain w∧ai w0.S w0.w w
 |e=>∃β st,K e st∧Hd ds w0 n β st a w
section
variable{P:Program}{n:Nat}{w0:aV}{ds:List Deferred}
theorem vZ{σ:List (Nat×Nat)}:∀{l:List (Nat×SV)} {t:Nat} {sv:SV},look l t=some sv→look (F9 σ l) t=some (sv.eU σ)
 | (d,v)::r,t,sv,h=>by
  rw[fD]at h;rw[F9,fD];split at h
  ·rename_i hd
   rw[if_pos hd,b9 h];have:=b9 h;subst this;cases sv<;>first | (cases h;done)|rfl
  ·rename_i hd
   rw[if_neg hd];exact vZ h
theorem v8{fr:List (Nat×SV)}:∀{l l':List (Nat×SV)} {t:Nat} {sv:SV},Le fr l=l'→(∀p∈l,As fr p.1=true)→look l' t=some sv→look fr t=some sv
 | [],l',t,sv,h,ha,hl=>by subst h;cases hl
 | (d,v)::r,l',t,sv,h,ha,hl=>by
  unfold Le at h;rw[W9]at h;subst h;rw[fD]at hl;split at hl
  ·rename_i hd
   subst hd;have:=ha (d,v) (by simp);unfold As at this;simp only at this hl;split at this
   ·rename_i u hu
    simp only[hu,W4]at hl;rw[b9 hl,hu]
   ·cases this
  ·exact v8 (l:=r) rfl (fun p hp=>ha p (by simp[hp])) hl
theorem BH{σ:List (Nat×Nat)}{β:Env}{s:Atom}:(s.eU σ).den β=s.den (β.eU σ):=by cases s<;>rfl
theorem vq{σ:List (Nat×Nat)}{β:Env}{l:List Atom}:(l.map (Atom.eU σ)).map (Atom.den β)=l.map (Atom.den (β.eU σ)):=by rw[Xp];exact XA fun s _=>BH
theorem KR{σ:List (Nat×Nat)}{β:Env}{s:fx}:(s.eU σ).den β=s.den (β.eU σ):=by
 cases s with
 |a x=>exact BH
 |row l=>show Value.agg _=.agg _;rw[vq]
 |kI t i off=>rfl
theorem KQ{σ:List (Nat×Nat)}{β:Env}{l:List fx}:(l.map (fx.eU σ)).map (fx.den β)=l.map (fx.den (β.eU σ)):=by rw[Xp];exact XA fun s _=>KR
theorem zK{σ:List (Nat×Nat)}{β:Env}{s:SV}:(s.eU σ).den β=s.den (β.eU σ):=by
 cases s with
 |ej l=>show Value.agg _=.agg _;rw[vq]
 |G0 f l=>show Value.func _ _ _=.func _ _ _;rw[vq]
 |nI l=>show Value.tuple _=.tuple _;rw[KQ]
 |_=>rfl
theorem KP{σ:List (Nat×Nat)}{β:Env}{w:World}{i:Nat}{r:Row}(h:aZ β w (eU σ i) (r.eU σ)):aZ (β.eU σ) w i r:=by
 obtain⟨T,cs⟩:=r;cases cs with
 |own a b c=>exact h
 |aj cs=>exact h
 |dead=>exact h
 |cR g cs=>exact h
 |dC cs=>have h:aq w (β (eU σ i)) T ((cs.map (SV.eU σ)).map (SV.den β)):=h;rw[Xp]at h;have e:(SV.den β ∘ SV.eU σ)=SV.den (β.eU σ):=funext fun s=>zK;rw[e]at h;exact h
 |ji g cs=>have h:β (eU σ i)=g∧aq w (β (eU σ i)) T ((cs.map (SV.eU σ)).map (SV.den β)):=h;rw[Xp]at h;have e:(SV.den β ∘ SV.eU σ)=SV.den (β.eU σ):=funext fun s=>zK;rw[e]at h;exact h
theorem zL{σ:List (Nat×Nat)}{β:Env}{i:Nat}{r:Row}:aB (β.eU σ) i r=aB β (eU σ i) (r.eU σ):=by obtain⟨T,cs⟩:=r;cases cs<;>rfl
theorem vQ{σ:List (Nat×Nat)}{x:Nat}:∀{n:Nat},Gr σ x n=true→∀j,j < n→eU σ j≠x
 | 0,_,j,hj=>by omega
 |n+1,h,j,hj=>by
  unfold Gr at h;split at h
  ·cases h
  ·rename_i hb
   by_cases hjn:j=n
   ·subst hjn;intro he;rw[he,Xk]at hb;cases hb
   ·exact vQ h j (by omega)
theorem vJ{σ:List (Nat×Nat)}{N:Nat}:∀{n:Nat},Gl σ N n=true→(∀j,j < n→eU σ j < N)∧∀i j,i < n→j < n→eU σ i=eU σ j→i=j
 | 0,_=>⟨fun j hj=>by omega,fun i j hi=>by omega⟩
 |n+1,h=>by
  unfold Gl at h;split at h
  ·rename_i hb
   rw[WQ]at hb;obtain⟨h1,h2⟩:=vJ h;have h3:=vQ hb.2;have h4:eU σ n < N:=WW hb.1;refine⟨fun j hj=>?_,fun i j hi hj he=>?_⟩
   ·by_cases hjn:j=n
    ·subst hjn;exact h4
    ·exact h1 j (by omega)
   ·by_cases hin:i=n
    ·by_cases hjn:j=n
     ·omega
     ·subst hin;exact absurd he.symm (h3 j (by omega))
    ·by_cases hjn:j=n
     ·subst hjn;exact absurd he (h3 i (by omega))
     ·exact h2 i j (by omega) (by omega) he
  ·cases h
theorem vj{mem:List Row}{σ:List (Nat×Nat)}:∀{l l':List Row} {k:Nat},vk mem σ k l=l'→(∀j,j < l.length→eU σ (k+j) < mem.length)→∀(i:Nat) (r:Row),l'[i]?=some r→mem[eU σ (k+i)]?=some r
 | [],l',k,h,_,i,r,hi=>by subst h;simp[vk]at hi
 |x::l,l',k,h,hlt,i,r,hi=>by
  subst h;rw[vk]at hi;cases i with
  |zero=>have hk:=hlt 0 (by simp);rw[Nat.add_zero]at hk ⊢;simp only[List.getElem?_cons_zero,WX.injEq,WO hk,W4]at hi;rw[←hi];exact WO hk
  |succ i=>rw[WZ]at hi;have:=vj (k:=k+1) rfl (fun j hj=>by rw[show k+1+j=k+(j+1)by omega];exact hlt (j+1) (by simp;omega)) i r hi;rwa [show k+1+i=k+(i+1)by omega]at this
theorem tt{σ:List (Nat×Nat)}:∀{l:List Row} {i:Nat} {r:Row},l[i]?=some r→(ur σ l)[i]?=some (r.eU σ)
 |x::l,0,r,h=>by
  have h:x=r:=by simpa using h
  subst h;rfl
 |x::l,i+1,r,h=>by rw[WZ]at h;rw[ur,WZ];exact tt h
theorem lU:∀{l:List (Nat×SV)} {t:Nat} {sv:SV},look l t=some sv→(t,sv)∈l
 | (d,v)::r,t,sv,h=>by
  rw[fD]at h;split at h
  ·rename_i hd
   rw[b9 h,hd];simp
  ·exact W8 _ (lU h)
theorem Hd.same{β:Env}{st:St}{a:Act}{w:World}{fr:List (Nat×SV)}{mem:List Row}(h:Hd ds w0 n β st a w)(hs:AY st fr mem):∃β',Hd ds w0 n β' ⟨fr,mem⟩ a w:=by
 unfold AY at hs;split at hs
 ·rename_i hb
  simp only[WQ]at hb;obtain⟨hb1,hb2,hb3⟩:=hb;have h1:=aU hb1;have h2:=aU hb2;obtain⟨h3,h4⟩:=vJ hb3;have hl:∀t sv,look fr t=some sv→look st.fr t=some (sv.eU (nP st fr mem)):=fun t sv ht=>v8 hs.1 (fun p hp=>by have:=h1 p hp;rw[WQ]at this;exact this.1) (vZ ht);have hm:∀(i:Nat) (r:Row),mem[i]?=some r→st.mem[eU (nP st fr mem) i]?=some (r.eU (nP st fr mem)):=by intro i r hi;have:=vj hs.2 (fun j hj=>by rw[Xe];exact h3 j hj) i _ (tt hi);rwa [Xe]at this
  have hlt:∀(i:Nat) (r:Row),mem[i]?=some r→i < mem.length:=fun i r hi=>(WN.1 hi).1;refine⟨β.eU (nP st fr mem),h.size,h.dn,fun t sv ht=>?_,fun i r hi=>KP (h.bO _ _ (hm i r hi)),fun i r k hi hk=>h.new _ _ k (hm i r hi) (by rw[←zL];exact hk),fun i j r r' k hi hj hk hk'=>?_,h.aF,fun t sv ht=>?_,fun i r hi=>?_⟩
  ·rw[h.get t _ (hl t sv ht),zK]
  ·exact h4 i j (hlt i r hi) (hlt j r' hj) (h.inj _ _ _ _ k (hm i r hi) (hm j r' hj) (by rw[←zL];exact hk) (by rw[←zL];exact hk'))
  ·have:=h1 _ (lU ht)
   rw[WQ]at this;exact mw this.2
  ·have:=h2 r (WU hi)
   exact iH this
 ·exact nomatch hs
theorem GH{fr:List (Nat×SV)}{mem:List Row}{K:Exit→St→Prop}(hk:K .normal ⟨fr,mem⟩){e:Exit}{a:Act}{w:World}(hq:lift ds w0 n (LW fr mem K) e a w):lift ds w0 n K e a w:=by
 cases e with
 |normal=>obtain⟨β',st',hs,h'⟩:=hq;obtain⟨β3,h3⟩:=h'.same hs;exact⟨β3,_,hk,h3⟩
 |exit id=>exact hq
 |goto l=>exact hq
 |ret=>exact hq
 |panic c=>exact hq
 |outgrown=>exact hq
theorem CS{H:List (Nat×Hint)}{ops:Array Oper}{Q:Exit→Act→World→Prop}(hP:∀chain a w',a.defers=ds→w0.PP chain w'→ai w0.S w0.w w'→Q (.panic chain) a w'):∀(cs:List (Nat×List (Nat×SV)×List Row)) (l:List Oper) (st:St) (K:St→Prop) (β:Env) (a:Act) (w:World),Hd ds w0 n β st a w→Mr P H n w0 ops cs l st K→(∀β' st' a' w',K st'→Hd ds w0 n β' st' a' w'→Q .normal a' w')→wpList P ops Q l a w
 | [],l,st,K,β,a,w,h,hx,hK=>wX hP l st K β a w h hx hK
 | (m,fr,mem)::cs,l,st,K,β,a,w,h,hx,hK=>by
  have:=pC (ops:=ops) (Q:=Q) (l.drop m) hP (l.take m) st _ β a w h hx.1 fun β' st' a' w' hs h'=>by obtain⟨β3,h3⟩:=h'.same hs;exact CS hP cs (l.drop m) ⟨fr,mem⟩ K β3 a' w' h3 hx.2 hK
  rwa [List.take_append_drop]at this
theorem gy(hm:P.follows .mixedOrders=true):∀(c:Code) (H:List (Nat×Hint)) (L:List Loop) (st:St) (K:Exit→St→Prop) (β:Env) (a:Act) (w:World),Hd ds w0 n β st a w→ky P n w0 c H L st K→c.wp P (lift ds w0 n K) a w
 |.skip,H,L,st,K,β,a,w,h,hx=>wp_skip ⟨β,st,hx,h⟩
 |.region id ops draw,H,L,st,K,β,a,w,h,hx=>by
  unfold ky at hx;cases draw with
  |false=>exact wp_region_list (CS (fun chain a w' hd hp hc=>⟨hd,hp,hc⟩) _ ops.toList st (K .normal) β a w h hx fun β' st' a' w' hk h'=>⟨β',st',hk,h'⟩)
  |true=>
   split at hx
   ·rename_i hb;cases hb
   ·split at hx
    ·exact wp_region_any hm (AM (fun chain a w' hd hp hc=>⟨hd,hp,hc⟩) _ _ _ _ β a _ (h.later (ai.refl [] w).drew) hx fun β' st' a' w' hk h'=>⟨β',st',hk,h'⟩)
    ·have:=Je (id:=id) (Q:=lift ds w0 n K) hm h hx (fun chain a w' hd hp hc=>⟨hd,hp,hc⟩) fun β' st' a' w' hk h'=>⟨β',st',hk,h'⟩
     simpa using this
 |.seq x y,H,L,st,K,β,a,w,h,hx=>by
  unfold ky at hx;refine wp_seq (Code.wp_mono (fun e a' w' hq=>?_) (gy hm x H L st _ β a w h hx));cases e with
  |normal=>obtain⟨β',st',hk,h'⟩:=hq;exact gy hm y H _ st' K β' a' w' h' hk
  |exit id=>obtain⟨β',st',hk,h'⟩:=hq;exact⟨β',st',hk,h'⟩
  |goto l=>obtain⟨β',st',hk,h'⟩:=hq;exact⟨β',st',hk,h'⟩
  |ret=>obtain⟨β',st',hk,h'⟩:=hq;exact⟨β',st',hk,h'⟩
  |panic c=>exact hq
  |outgrown=>obtain⟨β',st',hk,h'⟩:=hq;exact⟨β',st',hk,h'⟩
 |.cond c x y,H,L,st,K,β,a,w,h,hx=>by
  unfold ky at hx;split at hx
  ·split at hx
   ·rename_i b hb
    have hc:a.eval c=.bool b:=h.eval hb;cases b with
    |true=>exact wp_cond_true hc (gy hm x H L st K β a w h hx)
    |false=>exact wp_cond_false hc (gy hm y H _ st K β a w h hx)
   ·exact nomatch hx
  ·rename_i q _
   split at hx
   ·rename_i b hb
    have hc:a.eval c=.bool b:=h.eval hb;obtain⟨hx,hk⟩:=hx;cases b with
    |true=>exact wp_cond_true hc (Code.wp_mono (fun e a' w' hq=>GH hk hq) (gy hm x H L st _ β a w h hx))
    |false=>exact wp_cond_false hc (Code.wp_mono (fun e a' w' hq=>GH hk hq) (gy hm y H _ st _ β a w h hx))
   ·exact nomatch hx
 |.block id c,H,L,st,K,β,a,w,h,hx=>by
  unfold ky at hx;refine wp_block (Code.wp_mono (fun e a' w' hq=>?_) (gy hm c H L st _ β a w h hx));cases e with
  |exit i=>
   obtain⟨β',st',hk,h'⟩:=hq;simp only at hk;split at hk
   ·rename_i hb
    simp only[Exit.inBlock,WT hb,if_true];exact⟨β',st',hk,h'⟩
   ·rename_i hb
    have:i≠id:=fun h=>by rw[h,Xk]at hb;cases hb
    simp only[Exit.inBlock,this,if_false];exact⟨β',st',hk,h'⟩
  |normal=>obtain⟨β',st',hk,h'⟩:=hq;exact⟨β',st',hk,h'⟩
  |goto l=>obtain⟨β',st',hk,h'⟩:=hq;exact⟨β',st',hk,h'⟩
  |ret=>obtain⟨β',st',hk,h'⟩:=hq;exact⟨β',st',hk,h'⟩
  |panic c=>exact hq
  |outgrown=>obtain⟨β',st',hk,h'⟩:=hq;exact⟨β',st',hk,h'⟩
 |.scope c,H,L,st,K,β,a,w,h,hx=>by
  unfold ky at hx;refine wp_scope_straight (Code.wp_mono (fun e a' w' hq=>?_) (gy hm c H L st _ β a w h hx));cases e with
  |goto l=>obtain⟨β',st',hk,h'⟩:=hq;exact hk
  |normal=>obtain⟨β',st',hk,h'⟩:=hq;exact⟨β',st',hk,h'⟩
  |exit id=>obtain⟨β',st',hk,h'⟩:=hq;exact⟨β',st',hk,h'⟩
  |ret=>obtain⟨β',st',hk,h'⟩:=hq;exact⟨β',st',hk,h'⟩
  |panic c=>exact hq
  |outgrown=>obtain⟨β',st',hk,h'⟩:=hq;exact⟨β',st',hk,h'⟩
 |.loop c,H,L,st,K,β,a,w,h,hx=>by
  unfold ky at hx;split at hx
  ·rename_i κ k0 R fr mem next μ ι Ro fro memo which rest
   obtain⟨h0,hs,hround,hout⟩:=hx;obtain⟨β0,h00⟩:=h.same hs;refine wp_loop_ghost (fun m a w=>∃β k,μ k=m∧R k∧Hd ds w0 n β ⟨fr k,mem k⟩ a w) (μ k0) ⟨β0,k0,rfl,h0,h00⟩ ?_;rintro m a' w' ⟨β',k,rfl,hR,h'⟩;obtain⟨H',L',hround⟩:=hround k hR;refine Code.wp_mono (fun e a2 w2 hq=>?_) (gy hm c _ _ _ _ β' a' w' h' hround);cases e with
   |normal=>obtain⟨β2,st2,hk,h2⟩:=hq;obtain⟨β3,h3⟩:=h2.same hk.2.2;exact⟨μ (next k),hk.2.1,β3,next k,rfl,hk.1,h3⟩
   |exit id=>
    obtain⟨β2,st2,hk,h2⟩:=hq;simp only[dP]at hk;split at hk
    ·rename_i hb
     rw[WT hb];obtain⟨β3,h3⟩:=h2.same hk.2;exact⟨β3,_,hout _ hk.1,h3⟩
    ·exact nomatch hk
   |goto l=>obtain⟨β2,st2,hk,h2⟩:=hq;exact hk.elim
   |ret=>obtain⟨β2,st2,hk,h2⟩:=hq;exact⟨β2,st2,hk,h2⟩
   |panic c=>exact hq
   |outgrown=>obtain⟨β2,st2,hk,h2⟩:=hq;exact hk.elim
  ·rename_i κ k0 R fr mem next μ rest
   obtain⟨h0,hs,hround,_⟩:=hx;obtain⟨β0,h00⟩:=h.same hs;refine wp_loop_ghost (fun m a w=>∃β k,μ k=m∧R k∧Hd ds w0 n β ⟨fr k,mem k⟩ a w) (μ k0) ⟨β0,k0,rfl,h0,h00⟩ ?_;rintro m a' w' ⟨β',k,rfl,hR,h'⟩;obtain⟨H',L',hround⟩:=hround k hR;refine Code.wp_mono (fun e a2 w2 hq=>?_) (gy hm c _ _ _ _ β' a' w' h' hround);cases e with
   |normal=>obtain⟨β2,st2,hk,h2⟩:=hq;obtain⟨β3,h3⟩:=h2.same hk.2.2;exact⟨μ (next k),hk.2.1,β3,next k,rfl,hk.1,h3⟩
   |exit id=>
    obtain⟨β2,st2,hk,h2⟩:=hq;simp only[dP]at hk;split at hk
    ·exact hk.1.elim
    ·exact nomatch hk
   |goto l=>obtain⟨β2,st2,hk,h2⟩:=hq;exact hk.elim
   |ret=>obtain⟨β2,st2,hk,h2⟩:=hq;exact⟨β2,st2,hk,h2⟩
   |panic c=>exact hq
   |outgrown=>obtain⟨β2,st2,hk,h2⟩:=hq;exact hk.elim
  ·rename_i hs rest
   refine wp_loop_ghost (fun m a w=>∃(β:Env) (st:St) (r:List (List (Nat×Hint))),r.length=m∧(uO (fun H' st' K'=>ky P n w0 c H' [] st' K') K r st)∧Hd ds w0 n β st a w) hs.length ⟨β,st,hs,rfl,hx,h⟩ ?_;rintro m a' w' ⟨β',st',r,rfl,hx',h'⟩;cases r with
   |nil=>unfold uO at hx';exact nomatch hx'
   |cons hh r=>
    unfold uO at hx';refine Code.wp_mono (fun e a2 w2 hq=>?_) (gy hm c _ _ _ _ β' a' w' h' hx');cases e with
    |normal=>obtain⟨β2,st2,hk,h2⟩:=hq;exact⟨r.length,by simp,β2,st2,r,rfl,hk,h2⟩
    |exit id=>obtain⟨β2,st2,hk,h2⟩:=hq;exact⟨β2,st2,hk,h2⟩
    |goto l=>obtain⟨β2,st2,hk,h2⟩:=hq;exact hk.elim
    |ret=>obtain⟨β2,st2,hk,h2⟩:=hq;exact⟨β2,st2,hk,h2⟩
    |panic c=>exact hq
    |outgrown=>obtain⟨β2,st2,hk,h2⟩:=hq;exact hk.elim
  ·exact nomatch hx
 |.exit id,H,L,st,K,β,a,w,h,hx=>wp_exit ⟨β,st,hx,h⟩
 |.label l,H,L,st,K,β,a,w,h,hx=>wp_label ⟨β,st,hx,h⟩
 |.ret,H,L,st,K,β,a,w,h,hx=>wp_ret ⟨β,st,hx,h⟩
 |.rangeFunc ..,_,_,_,_,_,_,_,_,hx=>by unfold ky at hx;exact nomatch hx
 |.goto l,H,L,st,K,β,a,w,h,hx=>wp_goto ⟨β,st,hx,h⟩
 |.refuse _,_,_,_,_,_,_,_,_,hx=>by unfold ky at hx;exact nomatch hx
def xu:Nat→List Value→List (Nat×SV)
 |_,[]=>[]
 |k,v::r=>(k,.val v)::xu (k+1) r
theorem qv:∀{vs:List Value} {k t:Nat} {sv:SV},look (xu k vs) t=some sv→∃v,sv=.val v∧k≤t∧vs[t - k]?=some v
 |v::r,k,t,sv,h=>by
  rw[xu,fD]at h;split at h
  ·rename_i hk
   exact⟨v,(WX.inj h).symm,by omega,by rw[show t - k=0 by omega]; rfl⟩
  ·obtain⟨u,h1,h2,h3⟩:=qv h
   refine⟨u,h1,by omega,?_⟩;rw[show t - k=(t - (k+1))+1 by omega,WZ];exact h3
def j2(P:Program)(st:St):List ResultVar→Option (List SV)
 | []=>some []
 |.tmp t::r=>match look st.fr t with
  |some sv=>match j2 P st r with
   |some l=>some (sv::l)
   |none=>none
  |none=>none
 |.cell b t::r=>match look st.fr b with
  |some (.ptr i off)=>match st.mem[i]? with
   |some row=>match cH P t row off with
    |.val sv _=>match j2 P st r with
     |some l=>some (sv::l)
     |none=>none
    |_=>none
   |none=>none
  |_=>none
def sf:List SV→Option (List Value)
 | []=>some []
 |sv::r=>match sv with
  |.val v=>match sf r with
   |some l=>some (v::l)
   |none=>none
  |_=>none
def Gi:List SV→Option (List Value×Nat×List Value)
 | []=>none
 |sv::r=>match sv with
  |.val v=>match Gi r with
   |some (l,i,q)=>some (v::l,i,q)
   |none=>none
  |.own i=>match sf r with
   |some q=>some ([],i,q)
   |none=>none
  |_=>none
def mj:List Value→Value
 | [v]=>v
 |vs=>.tuple vs.toArray
theorem EG{t:TypeId}{row:Row}{off:Nat}{sv:SV}{ob:Option Prop}(h:cH P t row off=.val sv ob):ob=none:=by
 unfold cH at h;repeat' (split at h)
 all_goals first | (cases h;done) | (injection h with _ h;exact h.symm)
def tr(mem:List Row)(l:List SV):Option gA:=match sf l with
 |some vs=>some (.val (mj vs))
 |none=>match Gi l with
  |some (pre,i,post)=>match mem[i]? with
   |some r=>match r.cs with
    |.own size n xs=>match pre,post with
     | [],[]=>some (.sl r.ty size n xs)
     |_,_=>some (.nu pre r.ty size n xs post)
    |_=>none
   |none=>none
  |none=>none
theorem EF{β:Env}{w:World}{t:TypeId}{i off:Nat}{row:Row}{sv:SV}{ob:Option Prop}(hb:aZ β w i row)(h:cH P t row off=.val sv ob):(loadVar t ⟨β i,off,none⟩).run P w=.ok (sv.den β) w:=by
 have ho:=Gy (P:=P) (β:=β) (W:=w) (a:=⟨#[.pointer (some ⟨β i,off,none⟩)],[]⟩) (o:=⟨none,.load t (.tmp 0),0, "",#[],none⟩) (t:=t) (x:=.tmp 0) (off:=off) rfl rfl hb;rw[h]at ho;have ho:=ho (fun p hp=>by rw[EG h]at hp;cases hp);simp only[execOp,Act.eval,Xd]at ho;rw[show((#[Value.pointer (some ⟨β i,off,none⟩)]:Array Value).getD 0 undef)=.pointer (some ⟨β i,off,none⟩)from rfl,q9]at ho;cases hr:(loadVar t ⟨β i,off,none⟩).run P w with
 |ok u w'=>rw[hr]at ho;simp only[W0,Xc]at ho;injection ho with h1 h2;injection h1 with h1;rw[h1,h2]
 |halt x w'=>rw[hr]at ho;cases ho
theorem nY{st:St}{β:Env}{a:Act}{w:World}(h:Hd ds w0 n β st a w){F:ResultVar→Sem Value}(hF:∀t,F (.tmp t)=pure (a.tmps.getD t undef))(hG:∀b t,F (.cell b t)=do loadVar t (←asAddr (a.tmps.getD b undef))):∀{l:List ResultVar} {vs:List SV},j2 P st l=some vs→(l.mapM F).run P w=.ok (vs.map (SV.den β)) w
 | [],vs,hr=>by
  have:vs=[]:=by simpa[j2]using hr.symm
  subst this;rfl
 |.tmp t::r,vs,hr=>by
  rw[j2]at hr;split at hr
  ·rename_i v hv
   split at hr
   ·rename_i us hu
    cases hr;have h1:=h.get t _ hv;have ih:=nY h hF hG hu;rw[XF,hF];simp only[Xd,Xc,W0,ih];simp[h1]
   ·cases hr
  ·cases hr
 |.cell b t::r,vs,hr=>by
  rw[j2]at hr;split at hr
  ·rename_i i off hv
   split at hr
   ·rename_i row hrow
    split at hr
    ·rename_i v ob hl
     split at hr
     ·rename_i us hu
      cases hr;have h1:=h.get b _ hv;have ih:=nY h hF hG hu;have h2:=EF (h.bO i row hrow) hl;have h3:a.tmps.getD b undef=.pointer (some ⟨β i,off,none⟩):=by simp[h1,SV.den]
      rw[XF,hG,h3];simp only[Xd,asAddr,Xc,W0,h2,ih,W9]
     ·cases hr
    ·cases hr
   ·cases hr
  ·cases hr
theorem qf{β:Env}:∀{l:List SV} {vs:List Value},sf l=some vs→l.map (SV.den β)=vs
 | [],vs,h=>by
  have:vs=[]:=by simpa[sf]using h.symm
  subst this;rfl
 |sv::r,vs,h=>by
  unfold sf at h;split at h
  ·split at h
   ·rename_i l hl
    cases h;rw[W9,qf hl];rfl
   ·cases h
  ·cases h
theorem yo{β:Env}:∀{l:List SV} {pre post:List Value} {i:Nat},Gi l=some (pre,i,post)→l.map (SV.den β)=pre++β.sl i::post
 |sv::r,pre,post,i,h=>by
  unfold Gi at h;split at h
  ·split at h
   ·rename_i l i' q hl
    cases h;rw[W9,yo hl];rfl
   ·cases h
  ·split at h
   ·rename_i q hq
    cases h;rw[W9,qf hq];rfl
   ·cases h
  ·cases h
def nX(b:aV)(r:gA)(e:Ending)(w':World):Prop:=match r with
 |.val v=>e=.returned v∧ai b.S b.w w'
 |.sl T size n xs=>∃s,e=.returned s∧Own w' T size s n xs∧(∀k,s.ownBlock=some k→k∈b.S∨b.w.heap.size≤k)∧ai b.S b.w w'
 |.nu pre T size n xs post=>∃s,e=.returned (.tuple (pre++s::post).toArray)∧Own w' T size s n xs∧(∀k,s.ownBlock=some k→k∈b.S∨b.w.heap.size≤k)∧ai b.S b.w w'
theorem vo{w w':World}{PP:List PanicEntry→World→Prop}{r:gA}{e:Ending}(h:nX ⟨w,[],PP⟩ r e w'):dM w r e w':=by
 cases r with
 |val v=>exact h
 |sl T size n xs=>obtain⟨s,he,ho,hk,hc⟩:=h;exact⟨s,he,ho,fun k h=>(hk k h).resolve_left (by simp),hc⟩
 |nu pre T size n xs post=>obtain⟨s,he,ho,hk,hc⟩:=h;exact⟨s,he,ho,fun k h=>(hk k h).resolve_left (by simp),hc⟩
theorem BG{st:St}{β:Env}{a:Act}{w:World}{l:List SV}{r:gA}(h:Hd ds w0 n β st a w)(hr:tr st.mem l=some r):nX w0 r (.returned (mj (l.map (SV.den β)))) w:=by
 unfold tr at hr;split at hr
 ·rename_i vs hvs
  cases hr;rw[qf hvs];exact⟨rfl,h.aF⟩
 ·split at hr
  ·rename_i pre i post hown
   split at hr
   ·rename_i row hrow
    have hh:=h.bO i row hrow;have hnew:=h.new i row;split at hr
    ·rename_i size nn xs hcs
     unfold aZ at hh;rw[hcs]at hh;have hacc:Own w row.ty size (β.sl i) nn xs∧(∀k,(β.sl i).ownBlock=some k→k∈w0.S∨w0.w.heap.size≤k)∧ai w0.S w0.w w:=by refine⟨by unfold Env.sl;rw[hh.1];exact hh.2,fun k hk=>hnew k hrow ?_,h.aF⟩;unfold aB;rw[hcs];rw[←hk,←pc (n:=β.n i)];rfl
     rw[yo hown];split at hr
     ·cases hr
      exact⟨_,rfl,hacc⟩
     ·rename_i hne
      cases hr;refine⟨_,?_,hacc⟩;cases pre with
      |nil=>cases post with
       |nil=>exact absurd rfl (hne rfl)
       |cons x y=>rfl
      |cons x y=>cases y<;>rfl
    ·cases hr
   ·cases hr
  ·cases hr
def sZ(P:Program)(fn:Func)(R:gA→Prop):Exit→St→Prop
 |.normal,st=>match j2 P st fn.results.toList with
  |some l=>match tr st.mem l with
   |some r=>R r
   |none=>cE st
  |none=>cE st
 |.ret,st=>match j2 P st fn.results.toList with
  |some l=>match tr st.mem l with
   |some r=>R r
   |none=>cE st
  |none=>cE st
 |_,_=>False
def N3(R:Value→Prop):gA→Prop
 |.val v=>R v
 |_=>False
def atEnd(P:Program)(fn:Func)(R:Value→Prop):Exit→St→Prop:=sZ P fn (N3 R)
theorem M3{fn:Func}{R:gA→Prop}{e:Exit}{a:Act}{w:World}(h:lift [] w0 n (sZ P fn R) e a w):bodyPost P fn (fun e w'=>(∃r,R r∧nX w0 r e w')∨∃chain,e=.panicked chain∧w0.PP chain w'∧ai w0.S w0.w w') e a w:=by
 have main:∀{β st},Hd [] w0 n β st a w→(match j2 P st fn.results.toList with|some l=>(match tr st.mem l with|some r=>R r|none=>cE st)|none=>cE st:Prop)→a.defers=[]∧∃v,(results fn a.tmps).run P w=.ok v w∧((∃r,R r∧nX w0 r (.returned v) w)∨∃chain,Ending.returned v=.panicked chain∧w0.PP chain w∧ai w0.S w0.w w):=by
  intro β st h hk;split at hk
  ·rename_i l hl
   split at hk
   ·rename_i r hr
    refine⟨h.dn,mj (l.map (SV.den β)),?_,.inl ⟨r,hk,BG h hr⟩⟩;unfold results;rw[Xb];simp only[Xd,map_eq_pure_bind,Xc];rw[nY (P:=P) h (fun _=>rfl) (fun _ _=>rfl) hl];simp only[W0];congr 1;generalize l.map (SV.den β)=vs;match vs with
    | []=>rfl
    | [v]=>rfl
    |v::u::r=>simp[mj]
   ·exact nomatch hk
  ·exact nomatch hk
 cases e with
 |normal=>obtain⟨β,st,hk,h⟩:=h;exact main h hk
 |ret=>obtain⟨β,st,hk,h⟩:=h;exact main h hk
 |exit _=>obtain⟨_,_,hk,_⟩:=h;exact hk.elim
 |goto _=>obtain⟨_,_,hk,_⟩:=h;exact hk.elim
 |panic chain=>exact⟨h.1,.inr ⟨chain,rfl,h.2⟩⟩
 |outgrown=>obtain⟨_,_,hk,_⟩:=h;exact hk.elim
theorem y6{w0:World}{f:FuncId}{fn:Func}{c:Code}{args:List Value}{R:gA→Prop}(H:List (Nat×Hint))(L:List Loop)(hm:P.follows .mixedOrders=true)(hf:P.funcs[f]?=some fn)(hb:fn.body=some c)(hn:args.length≤fn.ntmps)
  (hx:ex P fn.ntmps w0 c H L ⟨xu 0 args,[]⟩ (sZ P fn R)):Calls P f args.toArray w0 fun e w'=>∃r,R r∧dM w0 r e w':=by
 refine(calls_of_wp hf hb (Code.wp_mono (fun e a w hq=>M3 hq) (gy (w0:=⟨w0,[],fun _ _=>False⟩) (n:=fn.ntmps) hm c H L _ _ ⟨fun _=>0,fun _=>none,fun _=>0,fun _=>0⟩ _ w0 ?_ hx))).mono fun e w' hq=>by
  rcases hq with⟨r,hr,hp⟩ | ⟨chain,_,hp,_⟩
  ·exact⟨r,hr,vo hp⟩
  ·exact hp.elim
 refine⟨by simp;omega,rfl,fun t sv ht=>?_,fun i r hi=>by simp at hi,fun i r k hi=>by simp at hi,fun i j r r' k hi=>by simp at hi,ai.refl _ _,fun t sv ht=>?_,fun i r hi=>by simp at hi⟩
 ·obtain⟨v,rfl,_,hv⟩:=qv ht
  have hlt:t < args.length:=(WN.1 hv).1;rw[Xa (by simpa using hlt)];simpa[SV.den]using hv
 ·obtain⟨v,rfl,_⟩:=qv ht
  trivial
theorem pG{w0:World}{f:FuncId}{fn:Func}{c:Code}{args:List Value}{u:gA}(H:List (Nat×Hint))(L:List Loop)(hm:P.follows .mixedOrders=true)(hf:P.funcs[f]?=some fn)(hb:fn.body=some c)(hn:args.length≤fn.ntmps)
  (hx:ex P fn.ntmps w0 c H L ⟨xu 0 args,[]⟩ (sZ P fn fun v=>v=u)):Calls P f args.toArray w0 (dM w0 u):=
 (y6 H L hm hf hb hn hx).mono fun _ _ ⟨_,he,hp⟩=>he ▸ hp
theorem MJ{w0:World}{f:FuncId}{fn:Func}{c:Code}{args:List Value}{R:Value→Prop}(H:List (Nat×Hint))(L:List Loop)(hm:P.follows .mixedOrders=true)(hf:P.funcs[f]?=some fn)(hb:fn.body=some c)(hn:args.length≤fn.ntmps)
  (hx:ex P fn.ntmps w0 c H L ⟨xu 0 args,[]⟩ (atEnd P fn R)):Calls P f args.toArray w0 fun e w'=>∃v,e=.returned v∧R v∧ai [] w0 w':=
 (y6 H L hm hf hb hn hx).mono fun e w' ⟨r,hr,hp⟩=>by
  cases r with
  |val v=>exact⟨v,hp.1,hr,hp.2⟩
  |sl _ _ _ _=>exact hr.elim
  |nu _ _ _ _ _ _=>exact hr.elim
theorem ao{w0:World}{f:FuncId}{fn:Func}{c:Code}{args:List Value}{u:Value}(H:List (Nat×Hint))(L:List Loop)(hm:P.follows .mixedOrders=true)(hf:P.funcs[f]?=some fn)(hb:fn.body=some c)(hn:args.length≤fn.ntmps)
  (hx:ex P fn.ntmps w0 c H L ⟨xu 0 args,[]⟩ (atEnd P fn fun v=>v=u)):Calls P f args.toArray w0 (Rn w0 u):=
 (MJ H L hm hf hb hn hx).mono fun _ _ ⟨_,he,hv,hc⟩=>⟨by rw[he,hv],hc⟩
def kK:List Row→List (Nat×TypeId×List Value)
 | []=>[]
 |r::l=>match r.cs with
  |.cR g cs=>(g,r.ty,cs)::kK l
  |_=>kK l
theorem tN:∀{mem:List Row} {q:Nat×TypeId×List Value},q∈kK mem→∃(i:Nat) (r:Row),mem[i]?=some r∧r.ty=q.2.1∧r.cs=.cR q.1 q.2.2
 | [],_,h=>by cases h
 |r::l,q,h=>by
  have tail:q∈kK l→∃(i:Nat) (r':Row),(r::l)[i]?=some r'∧r'.ty=q.2.1∧r'.cs=.cR q.1 q.2.2:=fun h=>by obtain⟨i,r',h1,h2⟩:=tN h;exact⟨i+1,r',by simpa using h1,h2⟩
  unfold kK at h;split at h
  ·rename_i g cs hcs
   rcases W2.1 h with rfl|h
   ·exact⟨0,r,rfl,rfl,hcs⟩
   ·exact tail h
  ·exact tail h
def qJ(P:Program)(fn:Func)(R:gA→List (Nat×TypeId×List Value)→Prop):Exit→St→Prop
 |.normal,st=>match j2 P st fn.results.toList with
  |some l=>match tr st.mem l with
   |some r=>R r (kK st.mem)
   |none=>cE st
  |none=>cE st
 |.ret,st=>match j2 P st fn.results.toList with
  |some l=>match tr st.mem l with
   |some r=>R r (kK st.mem)
   |none=>cE st
  |none=>cE st
 |_,_=>False
def gX(b:aV)(R:gA→List (Nat×TypeId×List Value)→Prop)(e:Ending)(w':World):Prop:=
 (∃r gl,R r gl∧nX b r e w'∧∀q∈gl,aq w' q.1 q.2.1 q.2.2)∨∃chain,e=.panicked chain∧b.PP chain w'∧ai b.S b.w w'
theorem Jw{fn:Func}{R:gA→List (Nat×TypeId×List Value)→Prop}{e:Exit}{a:Act}{w:World}(h:lift [] w0 n (qJ P fn R) e a w):bodyPost P fn (gX w0 R) e a w:=by
 have main:∀{β st},Hd [] w0 n β st a w→(match j2 P st fn.results.toList with|some l=>(match tr st.mem l with|some r=>R r (kK st.mem)|none=>cE st)|none=>cE st:Prop)→a.defers=[]∧∃v,(results fn a.tmps).run P w=.ok v w∧gX w0 R (.returned v) w:=by
  intro β st h hk;split at hk
  ·rename_i l hl
   split at hk
   ·rename_i r hr
    refine⟨h.dn,mj (l.map (SV.den β)),?_,.inl ⟨r,_,hk,BG h hr,fun q hq=>?_⟩⟩
    ·unfold results
     rw[Xb];simp only[Xd,map_eq_pure_bind,Xc];rw[nY (P:=P) h (fun _=>rfl) (fun _ _=>rfl) hl];simp only[W0];congr 1;generalize l.map (SV.den β)=vs;match vs with
     | []=>rfl
     | [v]=>rfl
     |v::u::r=>simp[mj]
    ·obtain⟨i,r',hi,hty,hcs⟩:=tN hq
     have hh:=h.bO i r' hi;unfold aZ at hh;rw[hcs]at hh;rw[←hty];have h2:=hh.2;rw[hh.1]at h2;exact h2
   ·exact nomatch hk
  ·exact nomatch hk
 cases e with
 |normal=>obtain⟨β,st,hk,h⟩:=h;exact main h hk
 |ret=>obtain⟨β,st,hk,h⟩:=h;exact main h hk
 |exit _=>obtain⟨_,_,hk,_⟩:=h;exact hk.elim
 |goto _=>obtain⟨_,_,hk,_⟩:=h;exact hk.elim
 |panic chain=>exact⟨h.1,.inr ⟨chain,rfl,h.2⟩⟩
 |outgrown=>obtain⟨_,_,hk,_⟩:=h;exact hk.elim
def mf:Nat→List SV→List (Nat×SV)
 |_,[]=>[]
 |k,v::r=>(k,v)::mf (k+1) r
def SP(m:Nat):SV→Bool
 |.val _=>true
 |.ptr i _=>Xf i m
 |_=>false
theorem gu:∀{vs:List SV} {k t:Nat} {sv:SV},look (mf k vs) t=some sv→k≤t∧vs[t - k]?=some sv
 |v::r,k,t,sv,h=>by
  rw[mf,fD]at h;split at h
  ·rename_i hk
   rw[b9 h];exact⟨by omega,by rw[show t - k=0 by omega]; rfl⟩
  ·obtain⟨h2,h3⟩:=gu h
   refine⟨by omega,?_⟩;rw[show t - k=(t - (k+1))+1 by omega,WZ];exact h3
def pX(G:List (Nat×TypeId×List Value)):List Row:=G.map fun q=>⟨q.2.1,.cR q.1 q.2.2⟩
def wZ(G:List (Nat×TypeId×List Value)):Env:=⟨fun i=>match G[i]? with
 |some q=>q.1
 |none=>0,fun _=>none,fun _=>0,fun _=>0⟩
theorem gz{w:World}{f:FuncId}{fn:Func}{c:Code}(G:List (Nat×TypeId×List Value))(hG:∀q∈G,aq w q.1 q.2.1 q.2.2)(hd:(G.map (·.1)).Nodup)(PP:List PanicEntry→World→Prop){args:List SV}{R:gA→List (Nat×TypeId×List Value)→Prop}
  (H:List (Nat×Hint)) (L:List Loop) (hm:P.follows .mixedOrders=true) (hf:P.funcs[f]?=some fn) (hb:fn.body=some c) (hn:args.length≤fn.ntmps) (ha:eA (SP G.length) args=true)
  (hx:ky P fn.ntmps ⟨w,G.map (·.1),PP⟩ c H L ⟨mf 0 args,pX G⟩ (qJ P fn R)):Calls P f (args.map (SV.den (wZ G))).toArray w (gX ⟨w,G.map (·.1),PP⟩ R):=by
 have rowAt:∀(i:Nat) (r:Row),(pX G)[i]?=some r→∃q,G[i]?=some q∧r=⟨q.2.1,.cR q.1 q.2.2⟩:=fun i r hi=>by
  unfold pX at hi;rw[W7]at hi;cases hq:G[i]? with
  |none=>rw[hq]at hi;cases hi
  |some q=>rw[hq]at hi;exact⟨q,rfl,by simpa using hi.symm⟩
 have envAt:∀(i:Nat) (q:Nat×TypeId×List Value),G[i]?=some q→(wZ G) i=q.1:=fun i q hq=>by show(match G[i]? with|some q=>q.1|none=>0)=q.1;rw[hq]
 refine calls_of_wp hf hb (Code.wp_mono (fun e a w hq=>Jw hq) (gy (w0:=⟨w,G.map (·.1),PP⟩) (n:=fn.ntmps) hm c H L _ _ (wZ G) _ w ?_ hx));have blkAt:∀(i:Nat) (r:Row) (k:Nat),(pX G)[i]?=some r→aB (wZ G) i r=some k→∃q,G[i]?=some q∧k=q.1:=fun i r k hi hk=>by obtain⟨q,hq,rfl⟩:=rowAt i r hi;refine⟨q,hq,?_⟩;have:some ((wZ G) i)=some k:=hk;rw[envAt i q hq]at this;exact(WX.inj this).symm
 refine⟨by simp;omega,rfl,fun t sv ht=>?_,fun i r hi=>?_,fun i r k hi hk=>?_,fun i j r r' k hi hj hk hk'=>?_,ai.refl _ _,fun t sv ht=>?_,fun i r hi=>?_⟩
 ·obtain⟨_,hv⟩:=gu ht
  have hlt:t < args.length:=(WN.1 hv).1;rw[Xa (by simpa using hlt)];simp only[XJ]at hv;simp[hv]
 ·obtain⟨q,hq,rfl⟩:=rowAt i r hi
  show(wZ G) i=q.1∧aq w ((wZ G) i) q.2.1 q.2.2;rw[envAt i q hq];exact⟨rfl,hG q (WU hq)⟩
 ·obtain⟨q,hq,rfl⟩:=blkAt i r k hi hk
  exact .inl (XI.2 ⟨q,WU hq,rfl⟩)
 ·obtain⟨q,hq,rfl⟩:=blkAt i r k hi hk
  obtain⟨q',hq',he⟩:=blkAt j r' _ hj hk';have h1:(G.map (·.1))[i]?=some q.1:=by rw[W7,hq];rfl
  have h2:(G.map (·.1))[j]?=some q.1:=by rw[W7,hq',he];rfl
  obtain⟨l1,e1⟩:=WN.1 h1;obtain⟨l2,e2⟩:=WN.1 h2;have e:=e1.trans e2.symm;have hp:=List.pairwise_iff_getElem.1 hd;exact Decidable.byContradiction fun hne=>by
   rcases Nat.lt_or_gt_of_ne hne with hl|hl
   ·exact hp _ _ l1 l2 hl e
   ·exact hp _ _ l2 l1 hl e.symm
 ·obtain⟨_,hv⟩:=gu ht
  have:=aU ha sv (WU hv);cases sv with
  |val v=>trivial
  |ptr i off=>have h:i < G.length:=WW this;show i < (pX G).length;unfold pX;rw[List.length_map];exact h
  |nO _ _ _ _=>cases this
  |own _=>cases this
  |mM _ _=>cases this
  |nu _ _ _=>cases this
  |lj _ _ _ _=>cases this
  |gone=>cases this
  |ej _=>cases this
  |G0 _ _=>cases this
  |kI _ _ _=>cases this
  |nI _=>cases this
  |eB _ _ _=>cases this
 ·obtain⟨q,_,rfl⟩:=rowAt i r hi
  trivial
structure Rows(b:aV)(β:Env)(w:World)(mem:List Row):Prop where
 held:∀(i:Nat) (r:Row),mem[i]?=some r→aZ β w i r
 new:∀(i:Nat) (r:Row) (k:Nat),mem[i]?=some r→aB β i r=some k→k∈b.S∨b.w.heap.size≤k
 inj:∀(i j:Nat) (r r':Row) (k:Nat),mem[i]?=some r→mem[j]?=some r'→aB β i r=some k→aB β j r'=some k→i=j
 aF:ai b.S b.w w
def fM(P:Program)(fn:Func)(R:List SV→List Row→Prop):Exit→St→Prop
 |.normal,st=>match j2 P st fn.results.toList with
  |some l=>R l st.mem
  |none=>cE st
 |.ret,st=>match j2 P st fn.results.toList with
  |some l=>R l st.mem
  |none=>cE st
 |_,_=>False
def dc(b:aV)(R:List SV→List Row→Prop)(e:Ending)(w':World):Prop:=
 (∃β l mem,R l mem∧e=.returned (mj (l.map (SV.den β)))∧Rows b β w' mem)∨∃chain,e=.panicked chain∧b.PP chain w'∧ai b.S b.w w'
theorem y7{fn:Func}{R:List SV→List Row→Prop}{e:Exit}{a:Act}{w:World}(h:lift [] w0 n (fM P fn R) e a w):bodyPost P fn (dc w0 R) e a w:=by
 have main:∀{β st},Hd [] w0 n β st a w→(match j2 P st fn.results.toList with|some l=>R l st.mem|none=>cE st:Prop)→a.defers=[]∧∃v,(results fn a.tmps).run P w=.ok v w∧dc w0 R (.returned v) w:=by
  intro β st h hk;split at hk
  ·rename_i l hl
   refine⟨h.dn,mj (l.map (SV.den β)),?_,.inl ⟨β,l,st.mem,hk,rfl,⟨h.bO,h.new,h.inj,h.aF⟩⟩⟩;unfold results;rw[Xb];simp only[Xd,map_eq_pure_bind,Xc];rw[nY (P:=P) h (fun _=>rfl) (fun _ _=>rfl) hl];simp only[W0];congr 1;generalize l.map (SV.den β)=vs;match vs with
   | []=>rfl
   | [v]=>rfl
   |v::u::r=>simp[mj]
  ·exact nomatch hk
 cases e with
 |normal=>obtain⟨β,st,hk,h⟩:=h;exact main h hk
 |ret=>obtain⟨β,st,hk,h⟩:=h;exact main h hk
 |exit _=>obtain⟨_,_,hk,_⟩:=h;exact hk.elim
 |goto _=>obtain⟨_,_,hk,_⟩:=h;exact hk.elim
 |panic chain=>exact⟨h.1,.inr ⟨chain,rfl,h.2⟩⟩
 |outgrown=>obtain⟨_,_,hk,_⟩:=h;exact hk.elim
theorem b6{w:World}{f:FuncId}{fn:Func}{c:Code}{S:List Nat}{PP:List PanicEntry→World→Prop}{β:Env}{mem:List Row}{args:List SV}{R:List SV→List Row→Prop}(hF:Rows ⟨w,S,PP⟩ β w mem)
  (H:List (Nat×Hint)) (L:List Loop) (hm:P.follows .mixedOrders=true) (hf:P.funcs[f]?=some fn) (hb:fn.body=some c) (hn:args.length≤fn.ntmps) (hw:(eA (fun r=>jK mem.length r.cs) mem&&eA (xF mem.length) args)=true)
  (hx:ky P fn.ntmps ⟨w,S,PP⟩ c H L ⟨mf 0 args,mem⟩ (fM P fn R)):Calls P f (args.map (SV.den β)).toArray w (dc ⟨w,S,PP⟩ R):=by
 rw[WQ]at hw;refine calls_of_wp hf hb (Code.wp_mono (fun e a w hq=>y7 hq) (gy (w0:=⟨w,S,PP⟩) (n:=fn.ntmps) hm c H L _ _ β _ w ?_ hx));refine⟨by simp;omega,rfl,fun t sv ht=>?_,hF.held,hF.new,hF.inj,hF.aF,fun t sv ht=>?_,fun i r hi=>?_⟩
 ·obtain⟨_,hv⟩:=gu ht
  have hlt:t < args.length:=(WN.1 hv).1;rw[Xa (by simpa using hlt)];simp only[XJ]at hv;simp[hv]
 ·obtain⟨_,hv⟩:=gu ht
  exact mw (aU hw.2 sv (WU hv))
 ·exact iH (aU hw.1 r (WU hi))
inductive kV where
 |bO (g:Nat) (T:TypeId) (cs:List Value)
 |oN (g:Nat) (T:TypeId) (cs:List SV)
 |own (T size:Nat) (A:Option Addr) (n c:Nat) (xs:List Value)
def kV.row:kV→Row
 |.bO g T cs=>⟨T,.cR g cs⟩
 |.oN g T cs=>⟨T,.ji g cs⟩
 |.own T size _ n _ xs=>⟨T,.own size n xs⟩
def kV.block:kV→Option Nat
 |.bO g _ _=>some g
 |.oN g _ _=>some g
 |.own _ _ A _ _ _=>A.map (·.block)
def kV.MV:Option kV→Nat
 |some (.bO g _ _)=>g
 |some (.oN g _ _)=>g
 |_=>0
def kV.b7:Option kV→Option Addr
 |some (.own _ _ A _ _ _)=>A
 |_=>none
def kV.Wj:Option kV→Nat
 |some (.own _ _ _ n _ _)=>n
 |_=>0
def kV.cap:Option kV→Nat
 |some (.own _ _ _ _ c _)=>c
 |_=>0
def cV(G:List kV):Env:=⟨fun i=>kV.MV G[i]?,fun i=>kV.b7 G[i]?,fun i=>kV.Wj G[i]?,fun i=>kV.cap G[i]?⟩
def kV.Ok(β:Env)(w:World):kV→Prop
 |.bO g T cs=>aq w g T cs
 |.oN g T cs=>aq w g T (cs.map (SV.den β))
 |.own T size A n c xs=>Own w T size (.slice A n c) n xs
theorem gM{w:World}{S:List Nat}{PP:List PanicEntry→World→Prop}{G:List kV}(h:∀q∈G,q.Ok (cV G) w)(hS:∀q∈G,∀k,q.block=some k→k∈S)(hd:(G.filterMap kV.block).Nodup):Rows ⟨w,S,PP⟩ (cV G) w (G.map kV.row):=by
 have at_:∀(i:Nat) (r:Row),(G.map kV.row)[i]?=some r→∃q,G[i]?=some q∧q∈G∧r=q.row:=fun i r hi=>by
  rw[W7]at hi;cases hq:G[i]? with
  |none=>rw[hq]at hi;cases hi
  |some q=>rw[hq]at hi;exact⟨q,rfl,WU hq,by simpa using hi.symm⟩
 have Qg:∀(i:Nat) (q:kV) (k:Nat),G[i]?=some q→aB (cV G) i q.row=some k→q.block=some k:=fun i q k hq hk=>by
  cases q with
  |bO g T cs=>have:some ((cV G) i)=some k:=hk;rw[←this];show some g=some (kV.MV G[i]?);rw[hq];rfl
  |oN g T cs=>have:some ((cV G) i)=some k:=hk;rw[←this];show some g=some (kV.MV G[i]?);rw[hq];rfl
  |own T size A n c xs=>have h:((cV G).a i).map (·.block)=some k:=hk;rw[←h];show A.map _=(kV.b7 G[i]?).map _;rw[hq];rfl
 refine⟨fun i r hi=>?_,fun i r k hi hk=>?_,fun i j r r' k hi hj hk hk'=>?_,ai.refl _ _⟩
 ·obtain⟨q,hq,hm,rfl⟩:=at_ i r hi
  have:=h q hm;cases q with
  |bO g T cs=>
   have e:(cV G) i=g:=by show kV.MV G[i]?=g;rw[hq];rfl
   show(cV G) i=g∧aq w ((cV G) i) T cs;rw[e];exact⟨rfl,this⟩
  |oN g T cs=>
   have e:(cV G) i=g:=by show kV.MV G[i]?=g;rw[hq];rfl
   show(cV G) i=g∧aq w ((cV G) i) T (cs.map (SV.den (cV G)));rw[e];exact⟨rfl,this⟩
  |own T size A n c xs=>
   show(cV G).n i=n∧Own w T size (.slice ((cV G).a i) n ((cV G).c i)) n xs;have e1:(cV G).n i=n:=by show kV.Wj G[i]?=n;rw[hq];rfl
   have e2:(cV G).a i=A:=by show kV.b7 G[i]?=A;rw[hq];rfl
   have e3:(cV G).c i=c:=by show kV.cap G[i]?=c;rw[hq];rfl
   rw[e1,e2,e3];exact⟨rfl,this⟩
 ·obtain⟨q,hq,hm,rfl⟩:=at_ i r hi
  exact .inl (hS q hm k (Qg i q k hq hk))
 ·obtain⟨q,hq,hm,rfl⟩:=at_ i r hi
  obtain⟨q',hq',hm',rfl⟩:=at_ j r' hj;have h1:=Qg i q k hq hk;have h2:=Qg j q' k hq' hk';have key:∀(l:List kV) (i j:Nat),(l.filterMap kV.block).Nodup→∀a b,l[i]?=some a→l[j]?=some b→a.block=some k→b.block=some k→i=j:=by
   intro l;induction l with
   |nil=>intro i j _ a b ha;simp at ha
   |cons x l ih=>
    intro i j hn a b ha hb hak hbk;have noK:x.block=some k→∀(m:Nat) (c:kV),l[m]?=some c→c.block=some k→False:=fun hx m c hc hck=>by rw[Xm,hx]at hn;exact(XD.1 hn).1 (XB.2 ⟨c,WU hc,hck⟩)
    have hn':(l.filterMap kV.block).Nodup:=by
     rw[Xm]at hn;split at hn
     ·exact hn
     ·exact(XD.1 hn).2
    cases i with
    |zero=>
     have ha:x=a:=by simpa using ha
     subst ha;cases j with
     |zero=>rfl
     |succ j=>exact(noK hak j b (by simpa using hb) hbk).elim
    |succ i=>
     cases j with
     |zero=>
      have hb:x=b:=by simpa using hb
      subst hb;exact(noK hbk i a (by simpa using ha) hak).elim
     |succ j=>rw[ih i j hn' a b (by simpa using ha) (by simpa using hb) hak hbk]
  exact key G i j hd q q' hq hq' h1 h2
theorem dt{β:Env}{W w':World}{row:Nat→Option Row}{m:Nat}{g:ct}{v:Value}{e:Ending}(hn:g.new=[])(hr:g.ret=.val v)(he:e=.returned v)(hu:∀q∈g.de,aZ β w' q.1 q.2)(hc:ai (g.dQ β row) W w'):FD β W row m g e w' β:=
 ⟨fun _ _=>⟨rfl,rfl,rfl,rfl⟩,by rw[he,hr];rfl,hu,fun k r h=>by rw[hn]at h;simp at h,fun k r x h=>by rw[hn]at h;simp at h,fun k k' r r' x h=>by rw[hn]at h;simp at h,hc⟩
def oM:Code→List Code
 |.seq x y=>oM x++oM y
 |.cond _ x y=>oM x++oM y
 |.block _ c=>oM c
 |.scope c=>oM c
 |.loop c=>[c]
 |_=>[]
def bq(fn:Func)(i:Nat):Code:=match fn.body with
 |some c=>(oM c).getD i .skip
 |none=>.skip
def inBody(c:Code)(i:Nat):Code:=(oM c).getD i .skip
def WM(b:Bool)(X Y:Prop):Prop:=match b with
 |true=>X
 |false=>Y
theorem aG{b:Bool}{X Y:Prop}(hx:b=true→X)(hy:b=false→Y):WM b X Y:=by
 cases b with
 |true=>exact hx rfl
 |false=>exact hy rfl
end
end Sx
end Go.Proofs.YtnncigmpcdehnaaGreatDoor
