import Derived.Test.YtnncigmpcdehnaaGreatDoorQi04
open List renaming getElem?_eq_some_iff→VE,getElem?_eq_getElem→VF,mem_of_getElem?→VK,getElem?_eq_none→VL,getElem?_cons_succ→VP,mem_cons→VR,getElem?_append_right→VS,getElem?_append_left→VU,getElem?_map→VW,mem_cons_of_mem→VX,map_cons→VY,any_eq_true→Wi,filterMap_cons→Wm,mem_singleton→Wn,length_append→Wo,map_map→Wp,eq_nil_iff_forall_not_mem→Wq,all_eq_true→Wr,length_singleton→Wx,count_replicate→Wy,count_eq_length→Wz,map_congr_left→WA,mem_filterMap→WB,nodup_cons→WD,nil_append→WE,mapM_cons→WG,count_set→WH,mem_map→WJ
open Bool renaming and_eq_true→VG,false_eq_true→WC
open Array renaming getD_eq_getD_getElem?→VH,getElem?_eq_getElem→VI,replicate→VV,getElem?_append_left→VZ,mapM_eq_mapM_toList→Wa,toList_setIfInBounds→Ws,getElem?_replicate→Wu,getElem?_eq_none→Wv,getElem?_toList→Ww
open Nat renaming eq_of_beq_eq_true→VJ,le_of_ble_eq_true→VM,zero_add→Wd,blt→We,le_refl→Wh,ble_eq_true_of_le→Wj,beq_refl→Wk,beq→Wl,strongRecOn→Wt,lt_irrefl→WI,sub_zero→WK,lt_or_ge→WL
open Option renaming some→VN,map_some→VO,getD_some→VT,bind_some→Wg
open Go.Result renaming andThen_ok→VQ
open Go.Sem renaming run_pure→Wb,run_bind→Wc
namespace Go.Proofs.YtnncigmpcdehnaaGreatDoor
open Go Go.RowKit Go.Lib Go.Sort
namespace Sx
structure gQ where
 sv:SV
 IC:List Nat
 wr:Option (Nat×Row)
 nw:Option (Nat×Row)
def BN(mem:List Row)(en:gQ):List Row:=match en.wr with
 |some (i,r)=>mem.set i r
 |none=>mem
def EA(mem:List Row)(en:gQ):List Row:=match en.nw with
 |some (_,r)=>BN mem en++[r]
 |none=>BN mem en
theorem gI{mem:List Row}{en:gQ}:(BN mem en).length=mem.length:=by
 unfold BN;split
 ·simp
 ·rfl
def cE(n:Nat)(st:St)(o:Oper)(en:gQ):St:=(⟨st.fr,EA st.mem en⟩:St).put n o.dst en.sv
section
variable(P:Program)(H:List (Nat×Hint))(n:Nat)(w0:aY)(ops:Array Oper)
def jn(t:List Nat):gQ:=⟨.gone,t,none,none⟩
def PQ(D:List Nat)(o:Oper):Bool:=match D with
 | []=>false
 |_=>o.after.toList.any fun e=>Region.binds .any e&&zV e.on D
def oo:Cells→Bool
 |.ai _=>true
 |.dj _ _=>true
 |_=>false
def wK(g:cn):Option (Value×Option (Nat×Row)):=match g.kill with
 | []=>match g.new with
  | []=>match g.ret with
   |.val v=>match g.fI with
    | []=>some (v,none)
    | [q]=>match oo q.2.cs with
     |true=>some (v,some q)
     |false=>none
    |_=>none
   |_=>none
  |_=>none
 |_=>none
def Br(p:Prop):Prop:=p
def SN(p:Option Prop)(A B:Prop):Prop:=match p with
 |none=>A
 |some q=>Br (q→A)∧(¬q→B)
def fq:List Oper→Nat→St→List gQ→List Nat→(List gQ→St→List Nat→Prop)→Prop
 | [],_,st,acc,D,K=>K acc st D
 |o::l,j,st,acc,D,K=>match PQ D o with
  |true=>fq l (j+1) (cE n st o (jn [])) (acc++[jn []]) (j::D) K
  |false=>match guardOf ops st.fr o with
   |some true=>match AD P H (ev st.fr) o with
    |.val sv=>fq l (j+1) (cE n st o ⟨sv,[],none,none⟩) (acc++[⟨sv,[],none,none⟩]) D K
    |.call f args g=>match KC st.mem g with
     |true=>match wK g with
      |some p=>Tag (keyOf o) (∀W β,dS w0 β W (rowAt st.mem) g.gh→Calls P f (args.map (SV.den β)).toArray W (br w0 β W (rowAt st.mem) st.mem.length g))∧SN g.Cq (fq l (j+1) (cE n st o ⟨.val p.1,g.gh,p.2,none⟩) (acc++[⟨.val p.1,g.gh,p.2,none⟩]) D K) (fq l (j+1) (cE n st o (jn g.gh)) (acc++[jn g.gh]) (j::D) K)
      |none=>cj o
     |false=>cj o
    |.ij _ _ _=>cj o
    |.Fz _ _ _=>cj o
    |.no=>match eM P w0 H (hint H o.dst) (ev st.fr) (rowAt st.mem) o with
     |.val sv ob=>nO o ob (fq l (j+1) (cE n st o ⟨sv,ax (ev st.fr) o,none,none⟩) (acc++[⟨sv,ax (ev st.fr) o,none,none⟩]) D K)
     |.call f args v=>Tag (keyOf o) (∀W,ah w0.S w0.w W→Calls P f args.toArray W (Rn W v))∧fq l (j+1) (cE n st o ⟨.val v,ax (ev st.fr) o,none,none⟩) (acc++[⟨.val v,ax (ev st.fr) o,none,none⟩]) D K
     |.alloc t cs ln=>fq l (j+1) (cE n st o ⟨kW st.mem.length ln,ax (ev st.fr) o,none,some (st.mem.length,⟨t,cs⟩)⟩) (acc++[⟨kW st.mem.length ln,ax (ev st.fr) o,none,some (st.mem.length,⟨t,cs⟩)⟩]) D K
     |.store i r ob=>nO o ob (fq l (j+1) (cE n st o ⟨.val undef,ax (ev st.fr) o,some (i,r),none⟩) (acc++[⟨.val undef,ax (ev st.fr) o,some (i,r),none⟩]) D K)
     |.dF i r ob=>nO o ob (fq l (j+1) (cE n st o ⟨.val undef,ax (ev st.fr) o,some (i,r),none⟩) (acc++[⟨.val undef,ax (ev st.fr) o,some (i,r),none⟩]) D K)
     |.grow kill t size nn xs ob=>nO o ob (fq l (j+1) (cE n st o ⟨.own st.mem.length,ax (ev st.fr) o,kill.map (·,ak),some (st.mem.length,⟨t,.own size nn xs⟩)⟩) (acc++[⟨.own st.mem.length,ax (ev st.fr) o,kill.map (·,ak),some (st.mem.length,⟨t,.own size nn xs⟩)⟩]) D K)
     |.dc f args r=>Tag (keyOf o) (∀W,ah w0.S w0.w W→gg (rowAt st.mem) W args fun vs=>Calls P f vs.toArray W (eC W r))∧fq l (j+1) (cE n st o ⟨gn st.mem.length r,ax (ev st.fr) o,none,(gT r).map (st.mem.length,·)⟩) (acc++[⟨gn st.mem.length r,ax (ev st.fr) o,none,(gT r).map (st.mem.length,·)⟩]) D K
     |.eS f i r=>Tag (keyOf o) (∀W,ah w0.S w0.w W→DA (rowAt st.mem) W i fun s=>Calls P f #[s] W (pc W s r))∧fq l (j+1) (cE n st o ⟨gn st.mem.length r,ax (ev st.fr) o,some (i,ak),(gT r).map (st.mem.length,·)⟩) (acc++[⟨gn st.mem.length r,ax (ev st.fr) o,some (i,ak),(gT r).map (st.mem.length,·)⟩]) D K
     |.ek f args x=>match x with
      |.fI p i row v=>Tag (keyOf o) (∀W,ah w0.S w0.w W→gg (rowAt st.mem) W args fun vs=>Calls P f vs.toArray W (sg w0 W vs (.fI p i row v)))∧fq l (j+1) (cE n st o ⟨.val v,ax (ev st.fr) o,some (i,row),none⟩) (acc++[⟨.val v,ax (ev st.fr) o,some (i,row),none⟩]) D K
      |.El _=>cj o
     |.bad=>cj o
   |some false=>fq l (j+1) (cE n st o ⟨.val undef,[],none,none⟩) (acc++[⟨.val undef,[],none,none⟩]) D K
   |none=>cj o
def BG(st:St)(o:Oper)(en:gQ):Prop:=
 (guardOf ops st.fr o=some false∧en=⟨.val undef,[],none,none⟩)∨
 (guardOf ops st.fr o=some true∧match AD P H (ev st.fr) o with
  |.val sv=>en=⟨sv,[],none,none⟩
  |.call f args g=>∃p,wK g=some p∧KC st.mem g=true∧(∀W β,dS w0 β W (rowAt st.mem) g.gh→Calls P f (args.map (SV.den β)).toArray W (br w0 β W (rowAt st.mem) st.mem.length g))∧(∀q,g.Cq=some q→q)∧en=⟨.val p.1,g.gh,p.2,none⟩
  |.ij _ _ _=>False
  |.Fz _ _ _=>False
  |.no=>match eM P w0 H (hint H o.dst) (ev st.fr) (rowAt st.mem) o with
   |.val sv ob=>(∀p,ob=some p→p)∧en=⟨sv,ax (ev st.fr) o,none,none⟩
   |.call f args v=>(∀W,ah w0.S w0.w W→Calls P f args.toArray W (Rn W v))∧en=⟨.val v,ax (ev st.fr) o,none,none⟩
   |.alloc t cs ln=>en=⟨kW st.mem.length ln,ax (ev st.fr) o,none,some (st.mem.length,⟨t,cs⟩)⟩
   |.store i r ob=>(∀p,ob=some p→p)∧en=⟨.val undef,ax (ev st.fr) o,some (i,r),none⟩
   |.dF i r ob=>(∀p,ob=some p→p)∧en=⟨.val undef,ax (ev st.fr) o,some (i,r),none⟩
   |.grow kill t size nn xs ob=>(∀p,ob=some p→p)∧en=⟨.own st.mem.length,ax (ev st.fr) o,kill.map (·,ak),some (st.mem.length,⟨t,.own size nn xs⟩)⟩
   |.dc f args r=>(∀W,ah w0.S w0.w W→gg (rowAt st.mem) W args fun vs=>Calls P f vs.toArray W (eC W r))∧en=⟨gn st.mem.length r,ax (ev st.fr) o,none,(gT r).map (st.mem.length,·)⟩
   |.eS f i r=>(∀W,ah w0.S w0.w W→DA (rowAt st.mem) W i fun s=>Calls P f #[s] W (pc W s r))∧en=⟨gn st.mem.length r,ax (ev st.fr) o,some (i,ak),(gT r).map (st.mem.length,·)⟩
   |.ek f args x=>match x with
    |.fI p i row v=>(∀W,ah w0.S w0.w W→gg (rowAt st.mem) W args fun vs=>Calls P f vs.toArray W (sg w0 W vs (.fI p i row v)))∧en=⟨.val v,ax (ev st.fr) o,some (i,row),none⟩
    |.El _=>False
   |.bad=>False)
def DI(D:List Nat)(st:St)(o:Oper)(en:gQ):Prop:=en.nw=none∧en.wr=none∧((∃e∈o.after,Region.binds .any e=true∧e.on∈D)∨
 (guardOf ops st.fr o=some true∧∃f args g q,AD P H (ev st.fr) o=.call f args g∧KC st.mem g=true∧g.Cq=some q∧¬q∧(∀W β,dS w0 β W (rowAt st.mem) g.gh→Calls P f (args.map (SV.den β)).toArray W (br w0 β W (rowAt st.mem) st.mem.length g))∧en.IC=g.gh)∨∃m∈D,ops.size≤m)
def vd(D:List Nat)(k:Nat)(st:St)(o:Oper)(en:gQ):Prop:=(k∉D∧BG P H w0 ops st o en)∨(k∈D∧DI P H w0 ops D st o en)
def Lex:List Oper→Nat→St→List gQ→List Nat→St→List Nat→Prop
 | [],_,st,es,D,st',D'=>es=[]∧st'=st∧D'=D
 |o::l,j,st,es,D,st',D'=>∃en es' D1,es=en::es'∧((D1=D∧BG P H w0 ops st o en)∨(D1=j::D∧DI P H w0 ops D st o en))∧Lex l (j+1) (cE n st o en) es' D1 st' D'
end
section
variable{P:Program}{H:List (Nat×Hint)}{n:Nat}{w0:aY}{ds:List Deferred}{ops:Array Oper}
theorem xX:∀(l:List Oper) (j:Nat) (st:St) (acc:List gQ) (D:List Nat) (K:List gQ→St→List Nat→Prop),fq P H n w0 ops l j st acc D K→∃es st' D',Lex P H n w0 ops l j st es D st' D'∧K (acc++es) st' D'
 | [],j,st,acc,D,K,h=>⟨[],st,D,⟨rfl,rfl,rfl⟩,by simpa[fq]using h⟩
 |o::l,j,st,acc,D,K,h=>by
  have go:∀en,BG P H w0 ops st o en→fq P H n w0 ops l (j+1) (cE n st o en) (acc++[en]) D K→∃es st' D',Lex P H n w0 ops (o::l) j st es D st' D'∧K (acc++es) st' D':=by intro en he hx;obtain⟨es,st',D',h1,h2⟩:=xX l _ _ _ _ K hx;exact⟨en::es,st',D',⟨en,es,D,rfl,.inl ⟨rfl,he⟩,h1⟩,by simpa using h2⟩
  have god:∀en,DI P H w0 ops D st o en→fq P H n w0 ops l (j+1) (cE n st o en) (acc++[en]) (j::D) K→∃es st' D',Lex P H n w0 ops (o::l) j st es D st' D'∧K (acc++es) st' D':=by intro en he hx;obtain⟨es,st',D',h1,h2⟩:=xX l _ _ _ _ K hx;exact⟨en::es,st',D',⟨en,es,j::D,rfl,.inr ⟨rfl,he⟩,h1⟩,by simpa using h2⟩
  unfold fq at h;split at h
  ·rename_i hd
   refine god _ ⟨rfl,rfl,.inl ?_⟩ h;unfold PQ at hd;split at hd
   ·cases hd
   ·obtain⟨e,he,hb⟩:=Wi.1 hd
    rw[VG]at hb;exact⟨e,by simpa using he,hb.1,mq.1 hb.2⟩
  split at h
  ·rename_i hg
   split at h
   ·rename_i sv hr
    exact go _ (.inr ⟨hg,by rw[hr]⟩) h
   ·rename_i f args g hr
    split at h
    ·rename_i hok
     split at h
     ·rename_i p hp
      have h2:=h.2;unfold SN at h2;split at h2
      ·rename_i hphi
       exact go _ (.inr ⟨hg,by rw[hr];exact⟨p,hp,hok,h.1,fun q hq=>(by rw[hphi]at hq;cases hq),rfl⟩⟩) h2
      ·rename_i q hphi
       by_cases hq:q
       ·exact go _ (.inr ⟨hg,by rw[hr];exact⟨p,hp,hok,h.1,fun q' hq'=>(by rw[hphi]at hq';cases hq';exact hq),rfl⟩⟩) (h2.1 hq)
       ·exact god _ ⟨rfl,rfl,.inr (.inl ⟨hg,f,args,g,q,hr,hok,hphi,hq,h.1,rfl⟩)⟩ (h2.2 hq)
     ·exact nomatch h
    ·exact nomatch h
   ·exact nomatch h
   ·exact nomatch h
   ·rename_i hno
    split at h
    ·rename_i sv ob hr
     exact go _ (.inr ⟨hg,by rw[hno];simp only;rw[hr];exact⟨gL h,rfl⟩⟩) (jl h)
    ·rename_i f args v hr
     exact go _ (.inr ⟨hg,by rw[hno];simp only;rw[hr];exact⟨h.1,rfl⟩⟩) h.2
    ·rename_i t cs ln hr
     exact go _ (.inr ⟨hg,by rw[hno];simp only;rw[hr]⟩) h
    ·rename_i i r ob hr
     exact go _ (.inr ⟨hg,by rw[hno];simp only;rw[hr];exact⟨gL h,rfl⟩⟩) (jl h)
    ·rename_i i r ob hr
     exact go _ (.inr ⟨hg,by rw[hno];simp only;rw[hr];exact⟨gL h,rfl⟩⟩) (jl h)
    ·rename_i kill t size nn xs ob hr
     exact go _ (.inr ⟨hg,by rw[hno];simp only;rw[hr];exact⟨gL h,rfl⟩⟩) (jl h)
    ·rename_i f args r hr
     exact go _ (.inr ⟨hg,by rw[hno];simp only;rw[hr];exact⟨h.1,rfl⟩⟩) h.2
    ·rename_i f i r hr
     exact go _ (.inr ⟨hg,by rw[hno];simp only;rw[hr];exact⟨h.1,rfl⟩⟩) h.2
    ·rename_i f args x hr
     split at h
     ·exact go _ (.inr ⟨hg,by rw[hno];simp only;rw[hr];exact⟨h.1,rfl⟩⟩) h.2
     ·exact nomatch h
    ·exact nomatch h
  ·rename_i hg
   exact go _ (.inl ⟨hg,rfl⟩) h
  ·exact nomatch h
def bW(n:Nat):St→List Oper→List gQ→Nat→St
 |st,o::l,en::es,k+1=>bW n (cE n st o en) l es k
 |st,_,_,_=>st
theorem gu{st:St}{l:List Oper}{es:List gQ}:bW n st l es 0=st:=by cases l<;>cases es<;>rfl
theorem ng:∀{l:List Oper} {es:List gQ} {st:St} {k:Nat} {o:Oper} {en:gQ},l[k]?=some o→es[k]?=some en→bW n st l es (k+1)=cE n (bW n st l es k) o en
 |o::l,en::es,st,0,o',en',ho,he=>by
  have ho:o=o':=by simpa using ho
  have he:en=en':=by simpa using he
  subst ho;subst he;rw[gu];exact gu
 |o::l,en::es,st,k+1,o',en',ho,he=>by show bW n (cE n st o en) l es (k+1)=cE n (bW n (cE n st o en) l es k) o' en';exact ng (by simpa using ho) (by simpa using he)
 | [],_,_,_,_,_,ho,_=>by simp at ho
 |_::_,[],_,_,_,_,_,he=>by simp at he
theorem Ac:∀{l:List Oper} {j:Nat} {st:St} {es:List gQ} {D:List Nat} {st':St} {D':List Nat},Lex P H n w0 ops l j st es D st' D'→(∀d∈D,d∈D')∧∀d∈D',d∈D∨j≤d
 | [],j,st,es,D,st',D',h=>by obtain⟨rfl,rfl,rfl⟩:=h;exact⟨fun d hd=>hd,fun d hd=>.inl hd⟩
 |o::l,j,st,es,D,st',D',h=>by
  obtain⟨en,es',D1,rfl,he,h'⟩:=h;obtain⟨h1,h2⟩:=Ac h';rcases he with⟨rfl,_⟩ | ⟨rfl,_⟩
  ·exact⟨h1,fun d hd=>(h2 d hd).imp id (fun h=>by omega)⟩
  ·refine⟨fun d hd=>h1 d (VX _ hd),fun d hd=>?_⟩
   rcases h2 d hd with hd|hd
   ·rcases VR.1 hd with rfl|hd
    ·exact .inr (Wh _)
    ·exact .inl hd
   ·exact .inr (by omega)
theorem lex_lt:∀{l:List Oper} {j:Nat} {st:St} {es:List gQ} {D:List Nat} {st':St} {D':List Nat},Lex P H n w0 ops l j st es D st' D'→(∀d∈D,d < j)→∀d∈D',d < j+l.length
 | [],j,st,es,D,st',D',h,hD=>by obtain⟨rfl,rfl,rfl⟩:=h;exact fun d hd=>by simpa using hD d hd
 |o::l,j,st,es,D,st',D',h,hD=>by
  obtain⟨en,es',D1,rfl,he,h'⟩:=h;intro d hd;have:=lex_lt h' (fun d hd=>by
   rcases he with⟨rfl,_⟩ | ⟨rfl,_⟩
   ·have:=hD d hd;omega
   ·rcases VR.1 hd with rfl|hd
    ·omega
    ·have:=hD d hd;omega) d hd
  simp only[List.length_cons];omega
theorem uc:∀{l:List Oper} {j:Nat} {st:St} {es:List gQ} {D:List Nat} {st':St} {D':List Nat},Lex P H n w0 ops l j st es D st' D'→(∀d∈D,d < j)→es.length=l.length∧(∀k o en,l[k]?=some o→es[k]?=some en→vd P H w0 ops D' (j+k) (bW n st l es k) o en)∧bW n st l es l.length=st'
 | [],j,st,es,D,st',D',h,_=>by obtain⟨rfl,rfl,rfl⟩:=h;exact⟨rfl,fun k o en ho=>by simp at ho,rfl⟩
 |o::l,j,st,es,D,st',D',h,hD=>by
  obtain⟨en,es',D1,rfl,he,h'⟩:=h;obtain⟨m1,m2⟩:=Ac h';have hD1:∀d∈D1,d < j+1:=fun d hd=>by
   rcases he with⟨rfl,_⟩ | ⟨rfl,_⟩
   ·have:=hD d hd;omega
   ·rcases VR.1 hd with rfl|hd
    ·omega
    ·have:=hD d hd;omega
  obtain⟨h1,h2,h3⟩:=uc h' hD1;refine⟨by simp[h1],fun k o' en' ho' he'=>?_,h3⟩;cases k with
  |zero=>
   have ho':o=o':=by simpa using ho'
   have he':en=en':=by simpa using he'
   subst ho';subst he';rcases he with⟨rfl,he⟩ | ⟨rfl,he⟩
   ·refine .inl ⟨fun hj=>?_,he⟩
    rcases m2 _ hj with hj|hj
    ·have:=hD _ hj;omega
    ·omega
   ·refine .inr ⟨m1 _ (by simp),he.1,he.2.1,he.2.2.imp (fun⟨e,h1,h2,h3⟩=>⟨e,h1,h2,m1 _ (VX _ h3)⟩) (Or.imp id fun⟨m,h1,h2⟩=>⟨m,m1 _ (VX _ h1),h2⟩)⟩
  |succ k=>have:=h2 k o' en' (by simpa using ho') (by simpa using he');rwa [show j+1+k=j+(k+1)by omega]at this
end
def idxOf{α:Type}(p:α→Bool):List α→Option Nat
 | []=>none
 |x::r=>match p x with
  |true=>some 0
  |false=>(idxOf p r).map Nat.succ
theorem fF{α:Type}{p:α→Bool}:∀{l:List α} {k:Nat},idxOf p l=some k→∃x,l[k]?=some x∧p x=true
 |x::r,k,h=>by
  unfold idxOf at h;split at h
  ·rename_i hp
   have:k=0:=by simpa using h.symm
   subst this;exact⟨x,rfl,hp⟩
  ·cases hr:idxOf p r with
   |none=>rw[hr]at h;cases h
   |some j=>
    rw[hr]at h;have:k=j+1:=by simpa using h.symm
    subst this;obtain⟨y,hy,hp⟩:=fF hr;exact⟨y,by simpa using hy,hp⟩
def isDst(t:Nat)(o:Oper):Bool:=match o.dst with
 |some d=>Wl d t
 |none=>false
def ic(b:Nat)(en:gQ):Bool:=match en.nw with
 |some (i,_)=>Wl i b
 |none=>false
def lF(b:Nat)(en:gQ):Bool:=match en.wr with
 |some (i,_)=>Wl i b
 |none=>false
theorem GK{t:Nat}{o:Oper}:isDst t o=true↔o.dst=some t:=by
 unfold isDst;split
 ·rename_i d hd
  rw[hd];constructor
  ·intro h;rw[VJ h]
  ·intro h;rw[VN.inj h];exact Wk t
 ·rename_i hd;rw[hd];simp
theorem GJ{b:Nat}{en:gQ}:ic b en=true↔∃r,en.nw=some (b,r):=by
 unfold ic;split
 ·rename_i i r hd
  rw[hd];constructor
  ·intro h;exact⟨r,by rw[VJ h]⟩
  ·rintro⟨r',h⟩
   have:i=b:=by injection h with h;injection h
   rw[this];exact Wk b
 ·rename_i hd;rw[hd];simp
theorem Kp{b:Nat}{en:gQ}:lF b en=true↔∃r,en.wr=some (b,r):=by
 unfold lF;split
 ·rename_i i r hd
  rw[hd];constructor
  ·intro h;exact⟨r,by rw[VJ h]⟩
  ·rintro⟨r',h⟩
   have:i=b:=by injection h with h;injection h
   rw[this];exact Wk b
 ·rename_i hd;rw[hd];simp
section
variable(l:List Oper)(st:St)(es:List gQ)
def jr(L:Nat→Bool)(t:Nat):Option SV:=match idxOf (isDst t) l with
 |none=>look st.fr t
 |some k=>if L k then(es[k]?).bind (·.sv.known)else look st.fr t
def mC(L:Nat→Bool)(b:Nat):Option Row:=match idxOf (ic b) es with
 |none=>st.mem[b]?
 |some k=>if L k then((es[k]?).bind (·.nw)).map (·.2)else none
def bN(L:Nat→Bool)(b:Nat):Option Row:=match idxOf (lF b) es with
 |none=>mC st es L b
 |some s=>if L s then((es[s]?).bind (·.wr)).map (·.2)else mC st es L b
end
def xq(l:List Oper)(i k:Nat):Bool:=match l[i]? with
 |some o=>o.after.toList.any fun e=>Region.binds .any e&&Wl e.on k
 |none=>false
def lQ(l:List Oper)(i k:Nat):Bool:=match We k i with
 |true=>xq l i k
 |false=>match Wl k i with
  |true=>true
  |false=>xq l k i
def jU(l:List Oper)(i:Nat):Option Nat→Bool
 |none=>true
 |some k=>lQ l i k
def TP(l:List Oper)(es:List gQ)(n:Nat)(k:Nat)(o:Oper)(en:gQ):Bool:=
 (o.after.toList.all fun e=>!Region.binds .any e||We e.on k)&&
 (match o.dst with
  |some t=>We t n&&idxOf (isDst t) l==some k
  |none=>true)&&
 ((o.looksAt l.toArray).all fun t=>jU l k (idxOf (isDst t) l))&&
 (en.IC.all fun b=>jU l k (idxOf (ic b) es)&&jU l k (idxOf (lF b) es))&&
 (match en.nw with
  |some (b,_)=>idxOf (ic b) es==some k&&(match idxOf (lF b) es with
   |some s=>We k s
   |none=>true)
  |none=>true)&&
 (match en.wr with
  |some (b,_)=>idxOf (lF b) es==some k&&(match idxOf (ic b) es with
   |some c=>We c k
   |none=>true)
  |none=>true)&&
 (match o.op with
  |.select ..=>false
  |_=>true)
def Bz(l:List Oper)(es:List gQ)(n:Nat):Nat→List Oper→List gQ→Bool
 |k,o::r,en::er=>match TP l es n k o en with
  |true=>Bz l es n (k+1) r er
  |false=>false
 |_,[],[]=>true
 |_,_,_=>false
theorem oJ{l:List Oper}{es:List gQ}{n:Nat}:∀{r:List Oper} {er:List gQ} {k0:Nat},Bz l es n k0 r er=true→∀k o en,r[k]?=some o→er[k]?=some en→TP l es n (k0+k) o en=true
 |o::r,en::er,k0,h,k,o',en',ho,he=>by
  unfold Bz at h;split at h
  ·rename_i hb
   cases k with
   |zero=>
    have ho:o=o':=by simpa using ho
    have he:en=en':=by simpa using he
    subst ho;subst he;exact hb
   |succ k=>have:=oJ h k o' en' (by simpa using ho) (by simpa using he);rwa [show k0+(k+1)=k0+1+k by omega]
  ·cases h
 | [],_,_,_,_,_,_,ho,_=>by simp at ho
 |_::_,[],_,_,_,_,_,_,he=>by simp at he
structure BJ(l:List Oper)(es:List gQ)(n:Nat)(k:Nat)(o:Oper)(en:gQ):Prop where
 down:∀e∈o.after,Region.binds .any e=true→e.on < k
 dst:∀t,o.dst=some t→t < n∧idxOf (isDst t) l=some k
 looks:∀t∈o.looksAt l.toArray,jU l k (idxOf (isDst t) l)=true
 IC:∀b∈en.IC,jU l k (idxOf (ic b) es)=true∧jU l k (idxOf (lF b) es)=true
 nw:∀b r,en.nw=some (b,r)→idxOf (ic b) es=some k∧∀s,idxOf (lF b) es=some s→k < s
 wr:∀b r,en.wr=some (b,r)→idxOf (lF b) es=some k∧∀c,idxOf (ic b) es=some c→c < k
 UW:∀cs b,o.op≠.select cs b
theorem zN{l:List Oper}{es:List gQ}{n k:Nat}{o:Oper}{en:gQ}(h:TP l es n k o en=true):BJ l es n k o en:=by
 unfold TP at h;simp only[VG]at h;obtain⟨⟨⟨⟨⟨⟨h1,h2⟩,h3⟩,h4⟩,h5⟩,h6⟩,h7⟩:=h;refine⟨fun e he hb=>?_,fun t ht=>?_,fun t ht=>?_,fun b hb=>?_,fun b r hb=>?_,fun b r hb=>?_,fun cs b hs=>?_⟩
 ·have:=Wr.1 h1 e (by simpa using he)
  rw[hb]at this;exact VM (show We e.on k=true by simpa only[Bool.not_true,Bool.false_or]using this)
 ·rw[ht]at h2
  simp only[VG]at h2;exact⟨VM h2.1,by simpa using h2.2⟩
 ·exact Wr.1 h3 t ht
 ·simpa only[VG]using Wr.1 h4 b hb
 ·rw[hb]at h5
  simp only[VG]at h5;refine⟨by simpa using h5.1,fun s hs=>?_⟩;have:=h5.2;rw[hs]at this;exact VM this
 ·rw[hb]at h6
  simp only[VG]at h6;refine⟨by simpa using h6.1,fun c hc=>?_⟩;have:=h6.2;rw[hc]at this;exact VM this
 ·rw[hs]at h7
  cases h7
end Sx
open Go Go.RowKit Go.Lib Go.Sort
namespace Sx
section
variable{P:Program}{H:List (Nat×Hint)}{n:Nat}{w0:aY}{ds:List Deferred}{l:List Oper}{es:List gQ}{st:St}
theorem Rj{t k:Nat}(h:idxOf (isDst t) l=some k):∃o,l[k]?=some o∧o.dst=some t:=by obtain⟨o,ho,hp⟩:=fF h;exact⟨o,ho,GK.1 hp⟩
theorem eO{b k:Nat}(h:idxOf (ic b) es=some k):∃en r,es[k]?=some en∧en.nw=some (b,r):=by obtain⟨en,ho,hp⟩:=fF h;obtain⟨r,hr⟩:=GJ.1 hp;exact⟨en,r,ho,hr⟩
theorem Pn{b k:Nat}(h:idxOf (lF b) es=some k):∃en r,es[k]?=some en∧en.wr=some (b,r):=by obtain⟨en,ho,hp⟩:=fF h;obtain⟨r,hr⟩:=Kp.1 hp;exact⟨en,r,ho,hr⟩
theorem mB{L L':Nat→Bool}{t:Nat}(h:∀k,idxOf (isDst t) l=some k→L k=L' k):jr l st es L t=jr l st es L' t:=by
 unfold jr;cases hi:idxOf (isDst t) l with
 |none=>rfl
 |some k=>simp only[h k hi]
theorem oD{L L':Nat→Bool}{b:Nat}(h1:∀k,idxOf (ic b) es=some k→L k=L' k)(h2:∀k,idxOf (lF b) es=some k→L k=L' k):bN st es L b=bN st es L' b:=by
 have hb:mC st es L b=mC st es L' b:=by
  unfold mC;cases hi:idxOf (ic b) es with
  |none=>rfl
  |some k=>simp only[h1 k hi]
 unfold bN;cases hi:idxOf (lF b) es with
 |none=>exact hb
 |some k=>simp only[h2 k hi,hb]
def more(L:Nat→Bool)(i:Nat)(k:Nat):Bool:=L k||decide (k=i)
theorem eE{L:Nat→Bool}{i k:Nat}(h:k≠i):more L i k=L k:=by unfold more;simp[h]
theorem iA{L:Nat→Bool}{i:Nat}:more L i i=true:=by unfold more;simp
theorem ec{L:Nat→Bool}{i t:Nat}{o:Oper}{en:gQ}(ho:l[i]?=some o)(he:es[i]?=some en)(hB:BJ l es n i o en):jr l st es (more L i) t=if o.dst=some t then en.sv.known else jr l st es L t:=by
 split
 ·rename_i hd
  have:=(hB.dst t hd).2;unfold jr;simp only[this,iA,if_true,he,Wg]
 ·rename_i hd
  refine mB fun k hk=>eE ?_;rintro rfl;obtain⟨o',ho',hd'⟩:=Rj hk;rw[ho]at ho';cases ho';exact hd hd'
theorem dy{L:Nat→Bool}{i b:Nat}{en:gQ}(he:es[i]?=some en)(h1:∀r,en.nw≠some (b,r))(h2:∀r,en.wr≠some (b,r)):bN st es (more L i) b=bN st es L b:=by
 refine oD (fun k hk=>eE ?_) (fun k hk=>eE ?_)
 ·rintro rfl
  obtain⟨en',r,he',hr⟩:=eO hk;rw[he]at he';cases he';exact h1 r hr
 ·rintro rfl
  obtain⟨en',r,he',hr⟩:=Pn hk;rw[he]at he';cases he';exact h2 r hr
theorem jL{L:Nat→Bool}{i b:Nat}{o:Oper}{en:gQ}{r:Row}(he:es[i]?=some en)(hB:BJ l es n i o en)(hn:en.nw=some (b,r))(hs:∀s,idxOf (lF b) es=some s→L s=false):bN st es (more L i) b=some r:=by
 have hi:=(hB.nw b r hn).1;have hb:mC st es (more L i) b=some r:=by unfold mC;simp only[hi,iA,if_true,he,Wg,hn,VO]
 unfold bN;cases hw:idxOf (lF b) es with
 |none=>exact hb
 |some s=>have hlt:=(hB.nw b r hn).2 s hw;simp only[eE (show s≠i by omega),hs s hw,WC,if_false,hb]
theorem lh{L:Nat→Bool}{i b:Nat}{o:Oper}{en:gQ}{r:Row}(he:es[i]?=some en)(hB:BJ l es n i o en)(hn:en.wr=some (b,r)):bN st es (more L i) b=some r:=by have hi:=(hB.wr b r hn).1;unfold bN;simp only[hi,iA,if_true,he,Wg,hn,VO]
def vw(k j:Nat):Bool:=decide (j < k)
theorem Aa(k:Nat):vw (k+1)=more (vw k) k:=by funext j;unfold vw more;rw[Bool.eq_iff_iff];simp;omega
theorem zZ:vw 0=fun _=>false:=by funext j;simp[vw]
theorem oE{t:Nat}:jr l st es (fun _=>false) t=look st.fr t:=by unfold jr;cases idxOf (isDst t) l<;>simp
theorem wT{b:Nat}(h:∀k,idxOf (ic b) es=some k→st.mem[b]?=none):bN st es (fun _=>false) b=st.mem[b]?:=by
 have hb:mC st es (fun _=>false) b=st.mem[b]?:=by
  unfold mC;cases hi:idxOf (ic b) es with
  |none=>rfl
  |some k=>simp[h k hi]
 unfold bN;cases idxOf (lF b) es<;>simp[hb]
theorem Rh{ops:Array Oper}{s:St}{o:Oper}{en:gQ}{b:Nat}{r:Row}(h:BG P H w0 ops s o en)(hn:en.nw=some (b,r)):b=s.mem.length:=by
 rcases h with⟨_,rfl⟩ | ⟨hg,h⟩
 ·cases hn
 ·split at h
  ·subst h;cases hn
  ·obtain⟨p,hp,_,_,_,rfl⟩:=h;cases hn
  ·exact h.elim
  ·exact h.elim
  split at h
  ·obtain⟨_,rfl⟩:=h;cases hn
  ·obtain⟨_,rfl⟩:=h;cases hn
  ·rename_i t cs ln hr
   subst h;injection hn with hn;injection hn with h1 h2;exact h1.symm
  ·obtain⟨_,rfl⟩:=h;cases hn
  ·obtain⟨_,rfl⟩:=h;cases hn
  ·obtain⟨_,rfl⟩:=h
   injection hn with hn;injection hn with h1 h2;exact h1.symm
  ·rename_i f args r' hr
   obtain⟨_,rfl⟩:=h;cases hrr:gT r' with
   |none=>simp[hrr]at hn
   |some row'=>simp only[hrr,VO,VN.injEq,Prod.mk.injEq]at hn;exact hn.1.symm
  ·rename_i f i r' hr
   obtain⟨_,rfl⟩:=h;cases hrr:gT r' with
   |none=>simp[hrr]at hn
   |some row'=>simp only[hrr,VO,VN.injEq,Prod.mk.injEq]at hn;exact hn.1.symm
  ·split at h
   ·obtain⟨_,rfl⟩:=h;cases hn
   ·exact h.elim
  ·exact h.elim
theorem uw{g:cn}{p:Value×Option (Nat×Row)}(h:wK g=some p):g.kill=[]∧g.new=[]∧g.ret=.val p.1∧((g.fI=[]∧p.2=none)∨∃q,g.fI=[q]∧p.2=some q∧oo q.2.cs=true):=by
 unfold wK at h;split at h
 ·rename_i hk
  split at h
  ·rename_i hn
   split at h
   ·rename_i v hv
    split at h
    ·rename_i hu
     cases h;exact⟨hk,hn,hv,.inl ⟨hu,rfl⟩⟩
    ·rename_i q hu
     split at h
     ·rename_i hp
      cases h;exact⟨hk,hn,hv,.inr ⟨q,hu,rfl,hp⟩⟩
     ·cases h
    ·cases h
   ·cases h
  ·cases h
 ·cases h
theorem yi{mem:List Row}{g:cn}(h:KC mem g=true){q:Nat×Row}(hq:q∈g.fI):(∃r,mem[q.1]?=some r∧r.fixed=true)∧q.2.fixed=true∧q.1∈g.gh:=by unfold KC at h;rw[VG]at h;have:=aQ h.1 q hq;simp only[VG]at this;exact⟨pN this.1.1,this.1.2,mq.1 this.2.2⟩
theorem dS.dE{b:aY}{β:Env}{W:World}{mem:List Row}{g:cn}(h:dS b β W (rowAt mem) g.gh)(hok:KC mem g=true):∀k∈g.dE β (rowAt mem),k∈b.S∨b.w.heap.size≤k:=fun k hk=>by
 obtain⟨i,r,hi,hr,hb⟩:=qg hk;refine h.new i ?_ r k hr hb;rcases hi with hi|hi
 ·obtain⟨q,hq,rfl⟩:=WJ.1 hi
  exact(yi hok hq).2.2
 ·unfold KC at hok
  rw[VG,VG]at hok;exact mq.1 (aQ hok.2.1 i hi)
theorem zK{c:Cells}(h:oo c=true){Q:Nat→Prop}:c.on Q:=by cases c<;>first|trivial|cases h
theorem KB{mem:List Row}{g:cn}{p:Value×Option (Nat×Row)}{b:Nat}{r:Row}(hp:wK g=some p)(hok:KC mem g=true)(hn:p.2=some (b,r)):b < mem.length∧b∈g.gh:=by
 obtain⟨_,_,_,⟨_,h⟩ | ⟨q,hu,h,_⟩⟩:=uw hp
 ·rw[h]at hn;cases hn
 ·rw[h]at hn
  cases hn;obtain⟨⟨r0,h0,_⟩,_,hs⟩:=yi hok (q:=(b,r)) (by rw[hu];simp);exact⟨(VE.1 h0).1,hs⟩
theorem Rg{ops:Array Oper}{s:St}{o:Oper}{en:gQ}{b:Nat}{r:Row}(h:BG P H w0 ops s o en)(hn:en.wr=some (b,r)):b < s.mem.length∧b∈en.IC:=by
 rcases h with⟨_,rfl⟩ | ⟨hg,h⟩
 ·cases hn
 ·split at h
  ·subst h;cases hn
  ·obtain⟨p,hp,_,_,_,rfl⟩:=h;exact KB hp (by assumption) hn
  ·exact h.elim
  ·exact h.elim
  split at h
  ·obtain⟨_,rfl⟩:=h;cases hn
  ·obtain⟨_,rfl⟩:=h;cases hn
  ·subst h;cases hn
  ·rename_i i r' ob hr
   obtain⟨_,rfl⟩:=h;injection hn with hn;injection hn with h1 h2;subst h1;subst h2;obtain⟨ht,_,r0,h0,_⟩:=lL hr;exact⟨(VE.1 h0).1,ht⟩
  ·rename_i i r' ob hr
   obtain⟨_,rfl⟩:=h;injection hn with hn;injection hn with h1 h2;subst h1;subst h2;obtain⟨ht,r0,h0,_⟩:=kI hr;exact⟨(VE.1 h0).1,ht⟩
  ·rename_i kill t size nn xs ob hr
   obtain⟨_,rfl⟩:=h;cases kill with
   |none=>cases hn
   |some i=>simp only[VO,VN.injEq,Prod.mk.injEq]at hn;obtain⟨rfl,_⟩:=hn;obtain⟨ht,r0,h0,_⟩:=oC hr;exact⟨(VE.1 h0).1,ht⟩
  ·obtain⟨_,rfl⟩:=h;cases hn
  ·rename_i f i r' hr
   obtain⟨hcl,rfl⟩:=h;injection hn with hn;injection hn with h1 h2;subst h1;obtain⟨r0,h0,_⟩:=uV (hcl w0.w (ah.refl _ _));exact⟨(VE.1 h0).1,(rB hr).1⟩
  ·rename_i f args x hr
   obtain⟨_,hx2,_⟩:=oG hr;cases x with
   |fI p i row v=>obtain⟨_,rfl⟩:=h;injection hn with hn;injection hn with h1 h2;subst h1;obtain⟨_,ht,r0,h0,_⟩:=hx2 p _ row v rfl;exact⟨(VE.1 h0).1,ht⟩
   |El ps=>exact h.elim
  ·exact h.elim
theorem sa{ops:Array Oper}{D:List Nat}{k:Nat}{s:St}{o:Oper}{en:gQ}{b:Nat}{r:Row}(h:vd P H w0 ops D k s o en)(hn:en.nw=some (b,r)):b=s.mem.length:=by
 rcases h with⟨_,h⟩ | ⟨_,h,_⟩
 ·exact Rh h hn
 ·rw[h]at hn;cases hn
theorem Fa{ops:Array Oper}{D:List Nat}{k:Nat}{s:St}{o:Oper}{en:gQ}{b:Nat}{r:Row}(h:vd P H w0 ops D k s o en)(hn:en.wr=some (b,r)):b < s.mem.length∧b∈en.IC:=by
 rcases h with⟨_,h⟩ | ⟨_,_,h,_⟩
 ·exact Rg h hn
 ·rw[h]at hn;cases hn
theorem uX{s:St}{o:Oper}{en:gQ}:(cE n s o en).mem=EA s.mem en:=by
 unfold cE St.put;cases o.dst with
 |none=>rfl
 |some d=>cases hb:We d n<;>simp[hb]
variable{ops:Array Oper}(hlen:es.length=l.length)(hB:∀k o en,l[k]?=some o→es[k]?=some en→BJ l es n k o en){D:List Nat}(hE:∀k o en,l[k]?=some o→es[k]?=some en→vd P H w0 ops D k (bW n st l es k) o en)
include hlen hB hE
omit hB hE in
theorem xS:∀k,k≤l.length→st.mem.length≤(bW n st l es k).mem.length:=by
 intro k;induction k with
 |zero=>intro _;rw[gu];exact Wh _
 |succ k ih=>
  intro hk;obtain⟨o,ho⟩:∃o,l[k]?=some o:=⟨_,VF (by omega)⟩;obtain⟨en,he⟩:∃en,es[k]?=some en:=⟨_,VF (by omega)⟩;rw[ng ho he];have:=ih (by omega);rw[uX];unfold EA;split
  ·rw[Wo,gI];omega
  ·rw[gI];omega
omit hE in
theorem EE:∀k,k≤l.length→∀t,look (bW n st l es k).fr t=jr l st es (vw k) t:=by
 intro k;induction k with
 |zero=>intro _ t;rw[gu,zZ,oE]
 |succ k ih=>
  intro hk t;obtain⟨o,ho⟩:∃o,l[k]?=some o:=⟨_,VF (by omega)⟩;obtain⟨en,he⟩:∃en,es[k]?=some en:=⟨_,VF (by omega)⟩;rw[ng ho he,Aa,ec ho he (hB k o en ho he),←ih (by omega) t];unfold cE St.put;cases hd:o.dst with
  |none=>simp
  |some d=>have:We d n=true:=Wj ((hB k o en ho he).dst d hd).1;simp only[this,eQ,VN.injEq]
theorem IW:∀k,k≤l.length→∀b:Nat,(bW n st l es k).mem[b]?=bN st es (vw k) b:=by
 have fresh:∀b k:Nat,idxOf (ic b) es=some k→st.mem[b]?=none:=by
  intro b k hk;obtain⟨en,r,he,hr⟩:=eO hk;have hkl:k < l.length:=by rw[←hlen];exact(VE.1 he).1
  have hb:=sa (hE k _ en (VF hkl) he) hr;have:=xS (n:=n) (st:=st) hlen k (by omega);exact VL (by omega)
 intro k;induction k with
 |zero=>intro _ b;rw[gu,zZ,wT (fresh b)]
 |succ k ih=>
  intro hk b;obtain⟨o,ho⟩:∃o,l[k]?=some o:=⟨_,VF (by omega)⟩;obtain⟨en,he⟩:∃en,es[k]?=some en:=⟨_,VF (by omega)⟩;have ih:=ih (by omega);have hbk:=hB k o en ho he;have hek:=hE k o en ho he;rw[ng ho he,Aa];rw[uX];have hwr:∀b,(∀r,en.nw≠some (b,r))→(BN (bW n st l es k).mem en)[b]?=bN st es (more (vw k) k) b:=by
   intro b hnb;unfold BN;cases hw:en.wr with
   |some p=>
    obtain⟨i,r⟩:=p;obtain⟨hil,_⟩:=Fa hek hw;simp only[List.getElem?_set];by_cases hbi:i=b
    ·subst hbi
     rw[if_pos rfl,if_pos hil,lh he hbk hw]
    ·rw[if_neg hbi,dy he hnb (fun r' h=>by rw[hw]at h;injection h with h;injection h with h _;exact hbi h),ih b]
   |none=>simp only;rw[dy he hnb (fun r' h=>by rw[hw]at h;cases h),ih b]
  unfold EA;cases hn:en.nw with
  |some p=>
   obtain⟨m,r⟩:=p;have hml:=sa hek hn;simp only;by_cases hbm:b=m
   ·subst hbm
    rw[jL he hbk hn (fun s hs=>by have:=(hbk.nw _ _ hn).2 s hs;simp[vw];omega),hml,←gI (en:=en),VS (Wh _)];simp
   ·rw[←hwr b (fun r' h=>by rw[hn]at h;injection h with h;injection h with h _;exact hbm h.symm)]
    rcases WL b (BN (bW n st l es k).mem en).length with hlt|hge
    ·rw[VU hlt]
    ·rw[VL (by rw[gI]at hge;simp[gI];omega),VL hge]
  |none=>simp only;exact hwr b (fun r' h=>by rw[hn]at h;cases h)
end
structure gj(ds:List Deferred)(w0:aY)(n:Nat)(l:List Oper)(es:List gQ)(st:St)(L:Nat→Bool)(β:Env)(a:Act)(w:World):Prop where
 size:a.tmps.size=n
 dn:a.defers=ds
 get:∀t sv,jr l st es L t=some sv→a.tmps[t]?=some (sv.den β)
 bY:∀(b:Nat) (r:Row),bN st es L b=some r→aT β w b r
 new:∀(b:Nat) (r:Row) (k:Nat),bN st es L b=some r→av β b r=some k→k∈w0.S∨w0.w.heap.size≤k
 inj:∀(b c:Nat) (r r':Row) (k:Nat),bN st es L b=some r→bN st es L c=some r'→av β b r=some k→av β c r'=some k→b=c
 aD:ah w0.S w0.w w
 vo:∀t sv,jr l st es L t=some sv→sv.on (fun b=>∃r,bN st es L b=some r)
 vg:∀(b:Nat) (r:Row),bN st es L b=some r→r.cs.on (fun b=>∃r,bN st es L b=some r)
 down:∀k o,l[k]?=some o→L k=true→∀e∈o.after,Region.binds .any e=true→L e.on=true
section
variable{P:Program}{H:List (Nat×Hint)}{n:Nat}{w0:aY}{ds:List Deferred}{l:List Oper}{es:List gQ}{st:St}{L:Nat→Bool}{β:Env}{a:Act}{w:World}{i:Nat}{o:Oper}{en:gQ}
theorem nV{j k:Nat}(h:xq l j k=true):∃oj,l[j]?=some oj∧∃e∈oj.after,Region.binds .any e=true∧e.on=k:=by
 unfold xq at h;split at h
 ·rename_i oj hoj
  obtain⟨e,he,hb⟩:=Wi.1 h;simp only[VG]at hb;exact⟨oj,hoj,e,by simpa using he,hb.1,VJ hb.2⟩
 ·cases h
theorem kN(hI:gj ds w0 n l es st L β a w)(ho:l[i]?=some o)(hL:L i=false)(hr:∀e∈o.after,Region.binds .any e=true→L e.on=true){k:Nat}(hs:lQ l i k=true):L k=vw i k:=by
 unfold lQ at hs;unfold vw;split at hs
 ·rename_i hlt
  have hlt:k < i:=VM hlt;obtain⟨oi,hoi,e,he,hb,hon⟩:=nV hs;rw[ho]at hoi;cases hoi;have:=hr e he hb;rw[hon]at this;rw[this];simp[hlt]
 ·rename_i hlt
  have hlt:¬k < i:=fun h=>by rw[show We k i=true from Wj h]at hlt;cases hlt
  split at hs
  ·rename_i heq
   rw[VJ heq,hL];simp
  ·obtain⟨ok,hok,e,he,hb,hon⟩:=nV hs
   cases hLk:L k with
   |false=>simp[hlt]
   |true=>have:=hI.down k ok hok hLk e he hb;rw[hon,hL]at this;cases this
theorem gj.iz(hI:gj ds w0 n l es st L β a w)(ho:l[i]?=some o)(he:es[i]?=some en)(hB:BJ l es n i o en)(hr:∀e∈o.after,Region.binds .any e=true→L e.on=true)
  {w':World} (hc:ah [] w w') (h1:en.nw=none) (h2:en.wr=none) (hs:en.sv.on (fun b=>∃r,bN st es L b=some r)):gj ds w0 n l es st (more L i) β (a.put o.dst (en.sv.den β)) w':=by
 have row:∀b,bN st es (more L i) b=bN st es L b:=fun b=>dy he (fun r h=>by rw[h1]at h;cases h) (fun r h=>by rw[h2]at h;cases h);refine⟨?_,?_,fun t sv ht=>?_,fun b r hb=>?_,fun b r k hb hk=>?_,fun b c r r' k hb hc' hk hk'=>?_,hI.aD.seq hc (by simp),fun t sv ht=>?_,fun b r hb=>?_,fun k ok hok hk e hee hb=>?_⟩
 ·cases o.dst<;>simp[Act.put,hI.size]
 ·cases o.dst<;>simp[Act.put,hI.dn]
 ·rw[ec ho he hB]at ht
  split at ht
  ·rename_i hd
   rw[hd,il (by rw[hI.size];exact(hB.dst t hd).1),if_pos rfl,bS ht]
  ·rename_i hd
   cases hd':o.dst with
   |none=>exact hI.get t sv ht
   |some d=>rw[il (by rw[hI.size];exact(hB.dst d hd').1),if_neg (fun h=>hd (by rw[hd',h]))];exact hI.get t sv ht
 ·rw[row]at hb;exact(hI.bY b r hb).aD hc (fun _ _=>by simp)
 ·rw[row]at hb;exact hI.new b r k hb hk
 ·rw[row]at hb hc';exact hI.inj b c r r' k hb hc' hk hk'
 ·rw[ec ho he hB]at ht
  split at ht
  ·rw[bS ht];exact SV.aW (fun b hb=>by rw[row];exact hb) hs
  ·exact SV.aW (fun b hb=>by rw[row];exact hb) (hI.vo t sv ht)
 ·rw[row]at hb;exact Cells.aW (fun b hb=>by rw[row];exact hb) (hI.vg b r hb)
 ·by_cases hki:k=i
  ·subst hki
   rw[ho]at hok;cases hok;have:=hr e hee hb;unfold more;rw[this];rfl
  ·rw[eE hki]at hk
   have:=hI.down k ok hok hk e hee hb;unfold more;rw[this];rfl
theorem gj.Cw(hI:gj ds w0 n l es st L β a w)(ho:l[i]?=some o)(he:es[i]?=some en)(hB:BJ l es n i o en)(hr:∀e∈o.after,Region.binds .any e=true→L e.on=true)
  {m:Nat} {t:TypeId} {cs:Cells} {ln:Option Nat} (hf:(⟨t,cs⟩:Row).fixed=true) (hft:cs.tag=none) (hn:en.nw=some (m,⟨t,cs⟩)) (hw:en.wr=none) (hsv:en.sv=kW m ln) (hnot:bN st es L m=none) (hs:∀s,idxOf (lF m) es=some s→L s=false)
  (hcs:cs.on (fun b=>∃r,bN st es L b=some r)):gj ds w0 n l es st (more L i) (β.fI m w.heap.size) (a.put o.dst (mr w.heap.size ln)) (w.alloc (.cells (cs.den β).toArray t)):=by
 have rowm:bN st es (more L i) m=some ⟨t,cs⟩:=jL he hB hn hs;have row:∀b,b≠m→bN st es (more L i) b=bN st es L b:=fun b hb=>dy he (fun r h=>by rw[hn]at h;injection h with h;injection h with h _;exact hb h.symm) (fun r h=>by rw[hw]at h;cases h);have live:∀b,(∃r,bN st es L b=some r)→b≠m:=fun b ⟨r,h⟩ hb=>by rw[hb,hnot]at h;cases h
 have same:β.same (β.fI m w.heap.size) (fun b=>∃r,bN st es L b=some r):=It.mono live;have up:∀b,(∃r,bN st es L b=some r)→∃r,bN st es (more L i) b=some r:=fun b hb=>by rw[row b (live b hb)];exact hb
 have lt:∀b r k,bN st es L b=some r→av β b r=some k→k < w.heap.size:=fun b r k h hk=>(hI.bY b r h).lt hk;have at_:∀b r,bN st es (more L i) b=some r→(bN st es L b=some r)∨(b=m∧r=⟨t,cs⟩):=fun b r hb=>by
  by_cases hbm:b=m
  ·subst hbm;rw[rowm]at hb;cases hb;exact .inr ⟨rfl,rfl⟩
  ·rw[row b hbm]at hb;exact .inl hb
 have blkm:av (β.fI m w.heap.size) m ⟨t,cs⟩=some w.heap.size:=by rw[aF hf,iG]
 refine⟨?_,?_,fun u sv ht=>?_,fun b r hb=>?_,fun b r k hb hk=>?_,fun b c r r' k hb hc' hk hk'=>?_,hI.aD.alloc _,fun u sv ht=>?_,fun b r hb=>?_,fun k ok hok hk e hee hb=>?_⟩
 ·cases o.dst<;>simp[Act.put,hI.size]
 ·cases o.dst<;>simp[Act.put,hI.dn]
 ·rw[ec ho he hB]at ht
  split at ht
  ·rename_i hd
   rw[hd,il (by rw[hI.size];exact(hB.dst u hd).1),if_pos rfl,bS ht,hsv,zY]
  ·rename_i hd
   rw[←SV.bV same (hI.vo u sv ht)];cases hd':o.dst with
   |none=>exact hI.get u sv ht
   |some d=>rw[il (by rw[hI.size];exact(hB.dst d hd').1),if_neg (fun h=>hd (by rw[hd',h]))];exact hI.get u sv ht
 ·rcases at_ b r hb with hb|⟨rfl,rfl⟩
  ·refine aT.congr same ⟨r,hb⟩ (hI.vg b r hb) ((hI.bY b r hb).aD (S:=[]) ((ah.refl [] w).alloc _) (fun _ _=>by simp))
  ·refine aT.ml ?_ hf (fun g hg=>by rw[hft]at hg;cases hg)
   rw[iG,←Cells.bV same hcs];exact aq.new w t (cs.den β).toArray
 ·rcases at_ b r hb with hb|⟨rfl,rfl⟩
  ·rw[←aV same ⟨r,hb⟩]at hk;exact hI.new b r k hb hk
  ·rw[blkm]at hk;cases hk;exact .inr hI.aD.size
 ·rcases at_ b r hb with hb|⟨rfl,rfl⟩
  ·rw[←aV same ⟨r,hb⟩]at hk
   rcases at_ c r' hc' with hc' | ⟨rfl,rfl⟩
   ·rw[←aV same ⟨r',hc'⟩]at hk';exact hI.inj b c r r' k hb hc' hk hk'
   ·rw[blkm]at hk';cases hk'
    exact absurd (lt b r _ hb hk) (WI _)
  ·rcases at_ c r' hc' with hc' | ⟨rfl,rfl⟩
   ·rw[blkm]at hk;cases hk
    rw[←aV same ⟨r',hc'⟩]at hk';exact absurd (lt c r' _ hc' hk') (WI _)
   ·rfl
 ·rw[ec ho he hB]at ht
  split at ht
  ·rw[bS ht,hsv];exact EB ⟨_,rowm⟩
  ·exact SV.aW up (hI.vo u sv ht)
 ·rcases at_ b r hb with hb|⟨rfl,rfl⟩
  ·exact Cells.aW up (hI.vg b r hb)
  ·exact Cells.aW up hcs
 ·by_cases hki:k=i
  ·subst hki
   rw[ho]at hok;cases hok;have:=hr e hee hb;unfold more;rw[this];rfl
  ·rw[eE hki]at hk
   have:=hI.down k ok hok hk e hee hb;unfold more;rw[this];rfl
theorem gj.qt(hI:gj ds w0 n l es st L β a w)(ho:l[i]?=some o)(he:es[i]?=some en)(hB:BJ l es n i o en)(hr:∀e∈o.after,Region.binds .any e=true→L e.on=true)
  {m:Nat} {kill:Option Nat} {A:Option Addr} {T size nn cc:Nat} {xs:List Value} {S:List Nat} {w':World} (hn:en.nw=some (m,⟨T,.own size nn xs⟩)) (hw:en.wr=kill.map (·,ak)) (hnot:bN st es L m=none) (hs:∀s,idxOf (lF m) es=some s→L s=false)
  (hown:Own w' T size (.slice A nn cc) nn xs) (hc:ah S w w') (hS:∀k∈S,∃i r0,kill=some i∧bN st es L i=some r0∧av β i r0=some k) (hA:∀k,A.map (·.block)=some k→k∈S∨w.heap.size≤k)
  (hsv:en.sv.on (·=m)):gj ds w0 n l es st (more L i) (β.gp m A nn cc) (a.put o.dst (en.sv.den (β.gp m A nn cc))) w':=by
 have rowm:bN st es (more L i) m=some ⟨T,.own size nn xs⟩:=jL he hB hn hs;have live:∀b,(∃r,bN st es L b=some r)→b≠m:=fun b ⟨r,h⟩ hb=>by rw[hb,hnot]at h;cases h
 have same:β.same (β.gp m A nn cc) (fun b=>∃r,bN st es L b=some r):=rN.mono live;have rowk:∀b,kill=some b→bN st es (more L i) b=some ak:=fun b hb=>lh he hB (by rw[hw,hb];rfl);have row:∀b,b≠m→kill≠some b→bN st es (more L i) b=bN st es L b:=fun b hb hk=>dy he (fun r h=>by rw[hn]at h;injection h with h;injection h with h _;exact hb h.symm) (fun r h=>by
  rw[hw]at h;cases kill with
  |none=>cases h
  |some j=>simp only[VO,VN.injEq,Prod.mk.injEq]at h;exact hk (by rw[h.1]))
 have up:∀b,(∃r,bN st es L b=some r)→∃r,bN st es (more L i) b=some r:=fun b hb=>by
  by_cases hk:kill=some b
  ·exact⟨_,rowk b hk⟩
  ·rw[row b (live b hb) hk];exact hb
 have at_:∀b r,bN st es (more L i) b=some r→(kill≠some b∧bN st es L b=some r)∨r=ak∨(b=m∧r=⟨T,.own size nn xs⟩):=fun b r hb=>by
  by_cases hbm:b=m
  ·subst hbm;rw[rowm]at hb;cases hb;exact .inr (.inr ⟨rfl,rfl⟩)
  ·by_cases hk:kill=some b
   ·rw[rowk b hk]at hb;cases hb;exact .inr (.inl rfl)
   ·rw[row b hbm hk]at hb;exact .inl ⟨hk,hb⟩
 have new':∀k,A.map (·.block)=some k→k∈w0.S∨w0.w.heap.size≤k:=fun k hk=>by
  rcases hA k hk with hk|hk
  ·obtain⟨i,r0,_,h0,hb⟩:=hS k hk
   exact hI.new i r0 k h0 hb
  ·exact .inr (Nat.le_trans hI.aD.size hk)
 have apart:∀(b:Nat) (r:Row) (k:Nat),kill≠some b→bN st es L b=some r→av β b r=some k→A.map (·.block)≠some k:=fun b r k hki hi hk hk'=>by
  rcases hA k hk' with hk' | hk'
  ·obtain⟨j,r0,hj,h0,hb⟩:=hS k hk'
   have:=hI.inj b j r r0 k hi h0 hk hb;subst this;exact hki hj
  ·have:=(hI.bY b r hi).lt hk
   omega
 refine⟨?_,?_,fun u sv ht=>?_,fun b r hb=>?_,fun b r k hb hk=>?_,fun b c r r' k hb hc' hk hk'=>?_,hI.aD.seq hc (fun k hk=>?_),fun u sv ht=>?_,fun b r hb=>?_,fun k ok hok hk e hee hb=>?_⟩
 ·cases o.dst<;>simp[Act.put,hI.size]
 ·cases o.dst<;>simp[Act.put,hI.dn]
 ·rw[ec ho he hB]at ht
  split at ht
  ·rename_i hd
   rw[hd,il (by rw[hI.size];exact(hB.dst u hd).1),if_pos rfl,bS ht]
  ·rename_i hd
   rw[←SV.bV same (hI.vo u sv ht)];cases hd':o.dst with
   |none=>exact hI.get u sv ht
   |some d=>rw[il (by rw[hI.size];exact(hB.dst d hd').1),if_neg (fun h=>hd (by rw[hd',h]))];exact hI.get u sv ht
 ·rcases at_ b r hb with⟨hk,hb⟩ | rfl|⟨rfl,rfl⟩
  ·refine aT.congr same ⟨r,hb⟩ (hI.vg b r hb) ((hI.bY b r hb).aD hc fun k hkk hm=>?_)
   obtain⟨j,r0,hj,h0,hbb⟩:=hS k hm;have:=hI.inj b j r r0 k hb h0 hkk hbb;subst this;exact hk hj
  ·trivial
  ·exact vF hown
 ·rcases at_ b r hb with⟨hkk,hb⟩ | rfl|⟨rfl,rfl⟩
  ·rw[←aV same ⟨r,hb⟩]at hk;exact hI.new b r k hb hk
  ·cases hk
  ·rw[jP]at hk;exact new' k hk
 ·rcases at_ b r hb with⟨hkb,hb⟩ | rfl|⟨rfl,rfl⟩
  ·rw[←aV same ⟨r,hb⟩]at hk
   rcases at_ c r' hc' with⟨hkc,hc'⟩ | rfl|⟨rfl,rfl⟩
   ·rw[←aV same ⟨r',hc'⟩]at hk';exact hI.inj b c r r' k hb hc' hk hk'
   ·cases hk'
   ·rw[jP]at hk';exact absurd hk' (apart b r k hkb hb hk)
  ·cases hk
  ·rcases at_ c r' hc' with⟨hkc,hc'⟩ | rfl|⟨rfl,rfl⟩
   ·rw[←aV same ⟨r',hc'⟩]at hk'
    rw[jP]at hk;exact absurd hk (apart c r' k hkc hc' hk')
   ·cases hk'
   ·rfl
 ·obtain⟨j,r0,_,h0,hb⟩:=hS k hk
  exact hI.new j r0 k h0 hb
 ·rw[ec ho he hB]at ht
  split at ht
  ·rw[bS ht];exact SV.aW (fun b hb=>by rw[hb];exact⟨_,rowm⟩) hsv
  ·exact SV.aW up (hI.vo u sv ht)
 ·rcases at_ b r hb with⟨hkb,hb⟩ | rfl|⟨rfl,rfl⟩
  ·exact Cells.aW up (hI.vg b r hb)
  ·trivial
  ·trivial
 ·by_cases hki:k=i
  ·subst hki
   rw[ho]at hok;cases hok;have:=hr e hee hb;unfold more;rw[this];rfl
  ·rw[eE hki]at hk
   have:=hI.down k ok hok hk e hee hb;unfold more;rw[this];rfl
theorem gj.kV(hI:gj ds w0 n l es st L β a w)(ho:l[i]?=some o)(he:es[i]?=some en)(hB:BJ l es n i o en)(hr:∀e∈o.after,Region.binds .any e=true→L e.on=true)
  {m:Nat} {r0 r1:Row} {w':World} {u0:Value} (hn:en.nw=none) (hw:en.wr=some (m,r1)) (hsv:en.sv=.val u0) (hrow:bN st es L m=some r0) (hblk:av β m r1=av β m r0) (hb':aT β w' m r1) (hc:ah (av β m r0).toList w w')
  (hcs:r1.cs.on (fun b=>∃r,bN st es L b=some r)):gj ds w0 n l es st (more L i) β (a.put o.dst u0) w':=by
 have rowm:bN st es (more L i) m=some r1:=lh he hB hw;have row:∀b,b≠m→bN st es (more L i) b=bN st es L b:=fun b hb=>dy he (fun r h=>by rw[hn]at h;cases h) (fun r h=>by rw[hw]at h;injection h with h;injection h with h _;exact hb h.symm);have up:∀b,(∃r,bN st es L b=some r)→∃r,bN st es (more L i) b=some r:=fun b hb=>by
  by_cases hbm:b=m
  ·rw[hbm];exact⟨_,rowm⟩
  ·rw[row b hbm];exact hb
 have dn:∀b r k,bN st es (more L i) b=some r→av β b r=some k→∃r',bN st es L b=some r'∧av β b r'=some k:=fun b r k hb hk=>by
  by_cases hbm:b=m
  ·subst hbm
   rw[rowm]at hb;cases hb;exact⟨_,hrow,by rw[←hblk];exact hk⟩
  ·rw[row b hbm]at hb;exact⟨_,hb,hk⟩
 refine⟨?_,?_,fun u sv ht=>?_,fun b r hb=>?_,fun b r k hb hk=>?_,fun b c r r' k hbb hcc hk hk'=>?_,?_,fun u sv ht=>?_,fun b r hb=>?_,fun k ok hok hk e hee hb=>?_⟩
 ·cases o.dst<;>simp[Act.put,hI.size]
 ·cases o.dst<;>simp[Act.put,hI.dn]
 ·rw[ec ho he hB]at ht
  split at ht
  ·rename_i hd
   rw[hd,il (by rw[hI.size];exact(hB.dst u hd).1),if_pos rfl,bS ht,hsv];rfl
  ·rename_i hd
   cases hd':o.dst with
   |none=>exact hI.get u sv ht
   |some d=>rw[il (by rw[hI.size];exact(hB.dst d hd').1),if_neg (fun h=>hd (by rw[hd',h]))];exact hI.get u sv ht
 ·by_cases hbm:b=m
  ·subst hbm
   rw[rowm]at hb;cases hb;exact hb'
  ·rw[row b hbm]at hb
   refine(hI.bY b r hb).aD hc fun k hk hm=>hbm ?_;exact hI.inj b m r r0 _ hb hrow hk (by simpa using hm)
 ·obtain⟨r',h',hk'⟩:=dn b r k hb hk
  exact hI.new b r' k h' hk'
 ·obtain⟨x,hx,hkx⟩:=dn b r k hbb hk
  obtain⟨y,hy,hky⟩:=dn c r' k hcc hk';exact hI.inj b c x y k hx hy hkx hky
 ·exact hI.aD.seq hc (fun x hx=>hI.new m r0 _ hrow (by simpa using hx))
 ·rw[ec ho he hB]at ht
  split at ht
  ·rw[bS ht,hsv];trivial
  ·exact SV.aW up (hI.vo u sv ht)
 ·by_cases hbm:b=m
  ·subst hbm
   rw[rowm]at hb;cases hb;exact Cells.aW up hcs
  ·rw[row b hbm]at hb
   exact Cells.aW up (hI.vg b r hb)
 ·by_cases hki:k=i
  ·subst hki
   rw[ho]at hok;cases hok;have:=hr e hee hb;unfold more;rw[this];rfl
  ·rw[eE hki]at hk
   have:=hI.down k ok hok hk e hee hb;unfold more;rw[this];rfl
end
end Sx
open Go Go.RowKit Go.Lib Go.Sort
namespace Sx
section
variable{P:Program}{H:List (Nat×Hint)}{n:Nat}{w0:aY}{ds:List Deferred}{l:List Oper}{es:List gQ}{st:St}{L:Nat→Bool}{β:Env}{a:Act}{w:World}{i:Nat}{o:Oper}{en:gQ}{Q:Exit→Act→World→Prop}
theorem Ay{ops:Array Oper}{fr:List (Nat×SV)}{b:Bool}(hget:∀t∈o.looksAt ops,∀sv,look fr t=some sv→a.tmps[t]?=some (sv.den β))(hg:guardOf ops fr o=some b):Region.wanted o (yielded ops a.tmps)=b:=by
 unfold guardOf at hg;unfold Region.wanted;split at hg
 ·rename_i hn;rw[hn];simpa using hg
 ·rename_i j b' hn
  rw[hn];split at hg
  ·cases hg
  ·rename_i oj hoj
   split at hg
   ·cases hg
   ·rename_i t ht
    split at hg
    ·rename_i v hc
     have:=hget t (by unfold Oper.looksAt;rw[hn];simp[hoj,ht]) _ hc;simp only[yielded,hoj,Wg,ht,this,SV.den];split at hg
     ·rename_i c
      have hb:(c==b')=b:=VN.inj hg;rw[←hb];cases c<;>cases b'<;>rfl
     ·rename_i hnb
      have hb:false=b:=VN.inj hg;rw[←hb];cases v<;>first|rfl|exact absurd rfl (hnb _)
    ·cases hg
theorem Bw(hI:gj ds w0 n l es st L β a w)(ho:l[i]?=some o)(he:es[i]?=some en)(hB:∀k o en,l[k]?=some o→es[k]?=some en→BJ l es n k o en)(hlen:es.length=l.length)
  {D:List Nat} (hE:∀k o en,l[k]?=some o→es[k]?=some en→vd P H w0 l.toArray D k (bW n st l es k) o en) (hL:L i=false) (hLD:∀d∈D,L d=false) (hP:∀chain a w',a.defers=ds→w0.PP chain w'→ah w0.S w0.w w'→Q (.panic chain) a w') (hr:∀e∈o.after,Region.binds .any e=true→L e.on=true) {K:Act→World→Prop}
  (hT:(∃m∈D,l.length≤m)→i∈D→wpOp P l.toArray Q i K a w) (hK:i∉D→∀β' a' w',gj ds w0 n l es st (more L i) β' a' w'→K a' w'):wpOp P l.toArray Q i K a w:=by
 have hil:i < l.length:=(VE.1 ho).1;have hb:=hB i o en ho he;have hent:=hE i o en ho he;have hlook:=EE (st:=st) hlen hB i (by omega);have hrows:=IW (P:=P) (H:=H) (w0:=w0) (ops:=l.toArray) (st:=st) hlen hB hE i (by omega);have hlk:∀t∈o.looksAt l.toArray,look (bW n st l es i).fr t=jr l st es L t:=fun t ht=>by rw[hlook];refine mB fun k hk=>(kN hI ho hL hr ?_).symm;have:=hb.looks t ht;rw[hk]at this;exact this
 have htmp:∀t,Operand.tmp t∈o.op.operands→t∈o.looksAt l.toArray:=fun t ht=>by unfold Oper.looksAt;exact List.mem_append_left _ (WB.2 ⟨.tmp t,by simpa using ht,rfl⟩)
 have hev:∀x∈o.op.operands,∀sv,ev (bW n st l es i).fr x=some sv→a.eval x=sv.den β∧sv.on (fun b=>∃r,bN st es L b=some r):=by
  intro x hx sv hsv;cases x with
  |tmp t=>
   have h1:jr l st es L t=some sv:=by rw[←hlk t (htmp t hx)];exact hsv
   exact⟨by have:=hI.get t sv h1;simp[Act.eval,this],hI.vo t sv h1⟩
  |const v=>simp only[ev,VN.injEq]at hsv;subst hsv;exact⟨rfl,trivial⟩
  |global g=>simp only[ev,VN.injEq]at hsv;subst hsv;exact⟨rfl,trivial⟩
  |func f=>simp only[ev,VN.injEq]at hsv;subst hsv;exact⟨rfl,trivial⟩
 have hw:∀{b},guardOf l.toArray (bW n st l es i).fr o=some b→Region.wanted o (yielded l.toArray a.tmps)=b:=fun hg=>Ay (β:=β) (fun t ht sv hsv=>hI.get t sv (by rw[←hlk t ht];exact hsv)) hg;unfold wpOp;have hio:l.toArray[i]?=some o:=by simpa using ho
 simp only[hio];have hrow':∀gh:List Nat,en.IC=gh→∀b r,b∈gh→rowAt (bW n st l es i).mem b=some r→bN st es L b=some r:=by
  intro gh htc b r ht hrb;have hset:=hb.IC b (by rw[htc];exact ht);have:(bW n st l es i).mem[b]?=some r:=hrb;rw[hrows]at this;rw[←this];refine oD (fun k hk=>kN hI ho hL hr ?_) (fun k hk=>kN hI ho hL hr ?_)
  ·have:=hset.1
   rw[hk]at this;exact this
  ·have:=hset.2
   rw[hk]at this;exact this
 have hsee:∀gh:List Nat,en.IC=gh→dS w0 β w (rowAt (bW n st l es i).mem) gh:=fun gh htc=>⟨hI.aD,fun b hb r hr=>hI.bY b r (hrow' gh htc b r hb hr),fun b hb r k hr hk=>hI.new b r k (hrow' gh htc b r hb hr) hk,fun b hb c hc r r' k hr hr' hk hk'=>hI.inj b c r r' k (hrow' gh htc b r hb hr) (hrow' gh htc c r' hc hr') hk hk'⟩;have hgev:=ET (P:=P) (H:=H) (β:=β) (W:=w) (a:=a) (o:=o) (e:=ev (bW n st l es i).fr) (fun x hx sv hsv=>(hev x hx sv hsv).1);have hgon:=ES (P:=P) (H:=H) (o:=o) (e:=ev (bW n st l es i).fr) (Q:=fun b=>∃r,bN st es L b=some r) (fun x hx sv hsv=>(hev x hx sv hsv).2);rcases hent with⟨hnD,hent⟩ | ⟨hiD,_,_,hdead⟩
 rotate_left
 ·rcases hdead with⟨e,hee,hbe,heD⟩ | ⟨hg,f,args,g,q,hres,hgok,hphi,hq,hfact,htch⟩ | ⟨m,hm,hle⟩
  rotate_right
  ·have:=hT ⟨m,hm,by simpa using hle⟩ hiD
   unfold wpOp at this;simpa only[hio]using this
  ·have:=hr e hee hbe
   rw[hLD _ heD]at this;cases this
  ·rw[hw hg,if_pos rfl]
   refine .inl ?_;rw[hres]at hgev;unfold Oper.wp;rw[show(execOp a.eval o).run P w=_ from hgev];refine(hfact w β (hsee g.gh htch)).mono fun e w' hp=>?_;rcases hp with⟨hphi',_⟩ | ⟨_,chain,rfl,hpp,hc⟩
   ·exact(hq (hphi' q hphi)).elim
   ·exact hP chain a w' hI.dn hpp (hI.aD.seq hc ((hsee g.gh htch).dE hgok))
 have hK:=hK hnD;rcases hent with⟨hg,rfl⟩ | ⟨hg,hent⟩
 ·rw[hw hg,if_neg (by decide)]
  exact hK _ _ _ (hI.iz ho he hb hr (ah.refl _ _) rfl rfl trivial)
 ·rw[hw hg,if_pos rfl]
  refine .inl ?_;have hrow:en.IC=ax (ev (bW n st l es i).fr) o→∀b r,b∈ax (ev (bW n st l es i).fr) o→rowAt (bW n st l es i).mem b=some r→bN st es L b=some r:=hrow' _;have hok:=fun htc=>JA (P:=P) (w0:=w0) (H:=H) (β:=β) (W:=w) (a:=a) (o:=o) (e:=ev (bW n st l es i).fr) (row:=rowAt (bW n st l es i).mem) (hn:=hint H o.dst) hI.aD (fun x hx sv hsv=>(hev x hx sv hsv).1) (fun b r ht hrb=>hI.bY b r (hrow htc b r ht hrb));have hon:=fun htc=>PD (P:=P) (w0:=w0) (H:=H) (o:=o) (e:=ev (bW n st l es i).fr) (row:=rowAt (bW n st l es i).mem) (hn:=hint H o.dst) (Q:=fun b=>∃r,bN st es L b=some r) (fun x hx sv hsv=>(hev x hx sv hsv).2) (fun b r ht hrb=>hI.vg b r (hrow htc b r ht hrb));have hwr:∀row',en.nw=some ((bW n st l es i).mem.length,row')→∀s,idxOf (lF (bW n st l es i).mem.length) es=some s→L s=false:=fun row' hn s hs=>by
   have hnw:=hb.nw _ _ hn;obtain⟨ens,r',hes,hwr⟩:=Pn hs;have hsl:s < l.length:=by rw[←hlen];exact(VE.1 hes).1
   have hbs:=hB s _ ens (VF hsl) hes;have htc:=(Fa (hE s _ ens (VF hsl) hes) hwr).2;have hset:=(hbs.IC _ htc).1;rw[hnw.1]at hset;have hlt:=hnw.2 s hs;have hset:lQ l s i=true:=hset;unfold lQ at hset;rw[show We i s=true from Wj hlt]at hset;obtain⟨os,hos,e,hee,hbi,hon⟩:=nV hset;cases hLs:L s with
   |false=>rfl
   |true=>have:=hI.down s os hos hLs e hee hbi;rw[hon,hL]at this;cases this
  have hnone:∀row',en.nw=some ((bW n st l es i).mem.length,row')→bN st es L (bW n st l es i).mem.length=none:=fun row' hn=>by
   have hnw:=hb.nw _ _ hn;unfold bN;have hbase:mC st es L (bW n st l es i).mem.length=none:=by unfold mC;simp only[hnw.1,hL,WC,if_false]
   split
   ·exact hbase
   ·rename_i s hs
    rw[if_neg (by rw[hwr row' hn s hs];decide)];exact hbase
  unfold Oper.wp;split at hent
  ·rename_i sv hres
   subst hent;rw[hres]at hgev hgon;rw[show(execOp a.eval o).run P w=_ from hgev];exact hK _ _ _ (hI.iz ho he hb hr (ah.refl _ _) rfl rfl hgon)
  ·rename_i f args g hres
   obtain⟨p,hp,hgok,hfact,hphi,hent⟩:=hent;obtain⟨hkill,hnew,hret,hupd⟩:=uw hp;rw[hres]at hgev;rw[show(execOp a.eval o).run P w=_ from hgev];have hsg:=hsee g.gh (by rw[hent]);refine(hfact w β hsg).mono fun e w' hpost=>?_;rcases hpost with⟨_,β',hgr⟩ | ⟨_,chain,rfl,hpp,hc⟩
   ·have he1:e=.returned p.1:=by rw[hgr.ret,hret];rfl
    subst he1;rcases hupd with⟨hu,hp2⟩ | ⟨q,hu,hp2,hpl⟩
    ·have hc:ah [] w w':=by
      have:=hgr.aD;unfold cn.dE at this;rw[hkill,hu]at this;exact this
     have:=hI.iz ho he hb hr hc (by rw[hent]) (by rw[hent];exact hp2) (by rw[hent];trivial);rw[show en.sv.den β=p.1 by rw[hent];rfl]at this;exact hK _ _ _ this
    ·obtain⟨⟨r0,h0,hf0⟩,hf,hqs⟩:=yi hgok (q:=q) (by rw[hu];simp)
     have h0':=hrow' g.gh (by rw[hent]) q.1 r0 hqs h0;have hlt:q.1 < (bW n st l es i).mem.length:=(VE.1 h0).1;have hheld:=hgr.fI q (by rw[hu];simp);have same':β'.same β (· < (bW n st l es i).mem.length):=fun k hk=>by obtain⟨e1,e2,e3,e4⟩:=hgr.same k hk;exact⟨e1.symm,e2.symm,e3.symm,e4.symm⟩
     have hheld:=aT.congr same' hlt (zK hpl) hheld;have hc:=hgr.aD;unfold cn.dE at hc;rw[hkill,hu]at hc;simp only[VY,List.map_nil,List.append_nil,Wm,List.filterMap_nil]at hc;have hb0:cg β (rowAt (bW n st l es i).mem) q.1=av β q.1 r0:=by unfold cg;rw[show rowAt (bW n st l es i).mem q.1=some r0 from h0]
     rw[hb0,aF hf0]at hc;have:=hI.kV ho he hb hr (m:=q.1) (r0:=r0) (r1:=q.2) (u0:=p.1) (by rw[hent]) (by rw[hent];exact hp2) (by rw[hent]) h0' (by rw[aF hf,aF hf0]) hheld (by rw[aF hf0];exact hc) (zK hpl);exact hK _ _ _ this
   ·exact hP chain a w' hI.dn hpp (hI.aD.seq hc (hsg.dE hgok))
  ·exact hent.elim
  ·exact hent.elim
  split at hent
  ·rename_i sv ob hres
   obtain⟨hob,rfl⟩:=hent;have hok:=hok rfl;have hon:=hon rfl;rw[hres]at hok hon;rw[hok hob];exact hK _ _ _ (hI.iz ho he hb hr (ah.refl _ _) rfl rfl hon)
  ·rename_i f args v hres
   obtain⟨hc,rfl⟩:=hent;have hok:=hok rfl;rw[hres]at hok;rw[show(execOp a.eval o).run P w=_ from hok];refine(hc w hI.aD).mono fun e w' ⟨hev,hch⟩=>?_;subst hev;exact hK _ _ _ (hI.iz ho he hb hr hch rfl rfl trivial)
  ·rename_i t cs ln hres
   obtain⟨hf,hft⟩:=rC hres;have hok:=hok (by rw[hent]);have hon:=hon (by rw[hent]);rw[hres]at hok hon;rw[show(execOp a.eval o).run P w=_ from hok];have hn:en.nw=some ((bW n st l es i).mem.length,⟨t,cs⟩):=by rw[hent]
   exact hK _ _ _ (hI.Cw ho he hb hr hf hft hn (by rw[hent]) (by rw[hent]) (hnone _ hn) (hwr _ hn) hon)
  ·rename_i m r ob hres
   obtain⟨hob,hent⟩:=hent;have hok:=hok (by rw[hent]);have hon:=hon (by rw[hent]);rw[hres]at hok hon;obtain⟨w',hrun,hbk,hch⟩:=hok hob;rw[hrun];obtain⟨htt,hf,r0,hr0,hf0,htg⟩:=lL hres;exact hK _ _ _ (hI.kV ho he hb hr (by rw[hent]) (by rw[hent]) (by rw[hent]) (hrow (by rw[hent]) m r0 htt hr0) (by rw[aF hf,aF hf0]) (aT.ml hbk hf (fun g hg=>(hI.bY m r0 (hrow (by rw[hent]) m r0 htt hr0)).tag g (by rw[←htg];exact hg))) (by rw[aF hf0];exact hch) hon.2)
  ·rename_i m r ob hres
   obtain⟨hob,hent⟩:=hent;have hok:=hok (by rw[hent]);have hon:=hon (by rw[hent]);rw[hres]at hok hon;obtain⟨w',hrun,hbk,hch⟩:=hok hob;rw[hrun];obtain⟨htt,r0,hr0,hbb⟩:=kI hres;rw[hbb β]at hch;exact hK _ _ _ (hI.kV ho he hb hr (by rw[hent]) (by rw[hent]) (by rw[hent]) (hrow (by rw[hent]) m r0 htt hr0) (hbb β) hbk hch hon.2)
  ·rename_i kill t size nn xs ob hres
   obtain⟨hob,hent⟩:=hent;have htc:=fun j (hj:kill=some j)=>oC (P:=P) (o:=o) (i:=j) (hj ▸ hres);have hok:=hok (by rw[hent]);rw[hres]at hok;obtain⟨A,cc,w',S,hrun,hown,hch,hS,hA⟩:=hok hob;rw[hrun];have hn:en.nw=some ((bW n st l es i).mem.length,⟨t,.own size nn xs⟩):=by rw[hent]
   have:=hI.qt ho he hb hr hn (kill:=kill) (by rw[hent]) (hnone _ hn) (hwr _ hn) hown hch (fun k hk=>by obtain⟨j,hj,hbk⟩:=hS k hk;obtain⟨htj,r,h0,s,m,ys,hcs⟩:=htc j hj;exact⟨j,r,hj,hrow (by rw[hent]) j r htj h0,by unfold av;rw[hcs];exact hbk⟩) hA (by rw[hent];rfl);rw[show en.sv.den (β.gp (bW n st l es i).mem.length A nn cc)=.slice A nn cc by rw[hent];exact kE]at this;exact hK _ _ _ this
  ·rename_i f args r hres
   obtain⟨hcl,hent⟩:=hent;have htc:=Bi hres;have hok:=hok (by rw[hent]);rw[hres]at hok;rw[show(execOp a.eval o).run P w=_ from hok];have hcall:=eu (β:=β) (hcl w hI.aD) (fun j sv hj hat r' hr'=>hI.bY j r' (hrow (by rw[hent]) j r' (htc j sv hj hat) hr'));refine hcall.mono fun e w' hp=>?_;rcases Jb hp with⟨v,rfl,rfl,hc⟩ | ⟨T,size,nn,xs,A,cc,hrr,hown,hc,hA,hsv⟩
   ·have:=hI.iz ho he hb hr hc (by rw[hent];rfl) (by rw[hent]) (by rw[hent];trivial)
    rw[show en.sv.den β=v by rw[hent];rfl]at this;exact hK _ _ _ this
   ·obtain⟨hev',hon'⟩:=hsv β (bW n st l es i).mem.length
    subst hev';have hn:en.nw=some ((bW n st l es i).mem.length,⟨T,.own size nn xs⟩):=by rw[hent];simp only[hrr,VO]
    have:=hI.qt ho he hb hr hn (kill:=none) (by rw[hent];rfl) (hnone _ hn) (hwr _ hn) hown hc (by simp) (fun k hk=>.inr (hA k hk)) (by rw[hent];exact hon');rw[show en.sv=gn (bW n st l es i).mem.length r by rw[hent]]at this;exact hK _ _ _ this
  ·rename_i f j r hres
   obtain⟨hcl,hent⟩:=hent;have htj:=(rB hres).1;have hok:=hok (by rw[hent]);rw[hres]at hok;rw[show(execOp a.eval o).run P w=_ from hok];have hcall:=Fm (β:=β) (hcl w hI.aD) (fun r' hr'=>hI.bY j r' (hrow (by rw[hent]) j r' htj hr'));obtain⟨r0,h0,s0,m0,y0,hc0⟩:=uV (hcl w hI.aD);refine hcall.mono fun e w' hp=>?_;obtain⟨T,size,nn,xs,A,cc,hrr,hown,hc,hA,hsv⟩:=Eh hp;obtain⟨hev',hon'⟩:=hsv β (bW n st l es i).mem.length;subst hev';rw[zq]at hc hA;have hn:en.nw=some ((bW n st l es i).mem.length,⟨T,.own size nn xs⟩):=by rw[hent];simp only[hrr,VO]
   have:=hI.qt ho he hb hr hn (kill:=some j) (by rw[hent];rfl) (hnone _ hn) (hwr _ hn) hown hc (fun k hk=>⟨j,r0,rfl,hrow (by rw[hent]) j r0 htj h0,by unfold av;rw[hc0];simpa using hk⟩) (fun k hk=>(hA k hk).imp (fun h=>by simpa using h) id) (by rw[hent];exact hon');rw[show en.sv=gn (bW n st l es i).mem.length r by rw[hent]]at this;exact hK _ _ _ this
  ·rename_i f args x hres
   obtain⟨hx1,hx2,_⟩:=oG hres;cases x with
   |fI p m row v=>
    obtain⟨hcl,hent⟩:=hent;obtain⟨hpi,htt,r0,h0,hty,hf0,hf,htg⟩:=hx2 p m row v rfl;have hok:=hok (by rw[hent]);have hon:=hon (by rw[hent]);rw[hres]at hok hon;rw[show(execOp a.eval o).run P w=_ from hok];have hr0:=hrow (by rw[hent]) m r0 htt h0;have hcall:=eu (β:=β) (hcl w hI.aD) (fun j sv hj hat r' hr'=>hI.bY j r' (hrow (by rw[hent]) j r' (hx1 j sv hj hat) hr'));refine hcall.mono fun e w' hp=>?_;obtain⟨g,l,hg,hl,rfl,hb',hc⟩:=hp;rw[VW,hpi]at hg;have hgi:β m=g:=by simpa[SV.den]using hg
    have hden:row.cs.den β=l:=by unfold Cells.list at hl;split at hl<;>first | (cases hl;done) | (rename_i hcs;cases hl;rw[hcs];rfl)
    rw[←hgi]at hb' hc;have hheld:aT β w' m row:=aT.ml (by rw[hden];exact hb') hf (fun g hg=>(hI.bY m r0 hr0).tag g (by rw[←htg];exact hg));exact hK _ _ _ (hI.kV ho he hb hr (by rw[hent]) (by rw[hent]) (by rw[hent]) hr0 (by rw[aF hf,aF hf0]) hheld (by rw[aF hf0];exact hc) hon.2)
   |El ps=>exact hent.elim
  ·exact hent.elim
theorem eP{listed:Array Bool}(h:i < listed.size):more (fun k=>listed.getD k false) i=fun k=>(listed.setIfInBounds i true).getD k false:=by
 funext k;by_cases hk:k=i
 ·subst hk
  rw[iA];simp[h]
 ·rw[eE hk,getD_set_ne false (Ne.symm hk)]
theorem RH(hB:∀k o en,l[k]?=some o→es[k]?=some en→BJ l es n k o en)(hlen:es.length=l.length)
  {D:List Nat} (hE:∀k o en,l[k]?=some o→es[k]?=some en→vd P H w0 l.toArray D k (bW n st l es k) o en)
  (hDl:∀d∈D,d < l.length) (hP:∀chain a w',a.defers=ds→w0.PP chain w'→ah w0.S w0.w w'→Q (.panic chain) a w')
  (hQ:D=[]→∀L β a w,gj ds w0 n l es st L β a w→(∀k,k < l.length→L k=true)→Q .normal a w) :
  ∀(fuel:Nat) (listed:Array Bool) (β:Env) (a:Act) (w:World),listed.size=l.length→listed.toList.count true+fuel=l.length→(∀d∈D,listed.getD d false=false)→gj ds w0 n l es st (fun k=>listed.getD k false) β a w→wpAny P .any l.toArray Q fuel listed a w:=by
 have done:∀(listed:Array Bool),listed.size=l.length→Region.ready .any l.toArray listed=[]→∀k,k < l.length→listed.getD k false=true:=by
  intro listed hsz hnil k;induction k using Wt with
  |_ k ih=>
   intro hk;cases hLk:listed.getD k false with
   |true=>rfl
   |false=>
    exfalso;obtain⟨o,ho⟩:∃o,l[k]?=some o:=⟨_,VF hk⟩;obtain⟨en,he⟩:∃en,es[k]?=some en:=⟨_,VF (by omega)⟩;have hmem:k∈Region.ready .any l.toArray listed:=by
     rw[mem_ready];refine⟨?_,o,by simpa using ho,fun e hee hb=>?_⟩
     ·have hk':k < listed.size:=by omega
      simp only[VH,VI hk',VT]at hLk ⊢;exact hLk
     ·have hlt:=(hB k o en ho he).down e hee hb
      exact ih e.on hlt (by omega)
    rw[hnil]at hmem;cases hmem
 intro fuel;induction fuel with
 |zero=>
  intro listed β a w hsz hcnt hLD hI;have hall:∀k,k < l.length→listed.getD k false=true:=by
   have hc:listed.toList.count true=listed.toList.length:=by simp at hcnt ⊢;omega
   have:=Wz.1 hc;intro k hk;have hk':k < listed.size:=by omega
   have h1:=this listed[k] (by simp);simp[hk',←h1]
  have noD:D=[]:=Wq.2 fun d hd=>by have:=hall d (hDl d hd);rw[hLD d hd]at this;cases this
  refine⟨?_,hQ noD _ β a w hI hall⟩;cases hr:Region.ready .any l.toArray listed with
  |nil=>rfl
  |cons x r=>
   exfalso;have hx:x∈Region.ready .any l.toArray listed:=by rw[hr];simp
   obtain⟨h0,o,ho,_⟩:=mem_ready.1 hx;have hxl:x < l.length:=by have:=(VE.1 (show l[x]?=some o by simpa using ho)).1;exact this
   have:=hall x hxl;have hk':x < listed.size:=by omega
   simp only[VH,VI hk',VT]at h0 this;rw[h0]at this;cases this
 |succ fuel ih=>
  intro listed β a w hsz hcnt hLD hI;refine⟨fun hnil=>hQ (Wq.2 fun d hd=>by have:=done listed hsz hnil d (hDl d hd);rw[hLD d hd]at this;cases this) _ β a w hI (done listed hsz hnil),fun i hi=>?_⟩;obtain⟨h0,o,ho,hall⟩:=mem_ready.1 hi;have ho':l[i]?=some o:=by simpa using ho
  have hil:i < l.length:=(VE.1 ho').1;have hk':i < listed.size:=by omega
  obtain⟨en,he⟩:∃en,es[i]?=some en:=⟨_,VF (by omega)⟩;have hLi:listed[i]=false:=by simpa[hk']using h0
  refine Bw hI ho' he hB hlen hE (by simp[hk',hLi]) hLD hP (fun e hee hb=>hall e (by simpa using hee) hb) (fun⟨m,hm,hle⟩ _=>absurd (hDl m hm) (by omega)) fun hiD β' a' w' hI'=>?_;have hLD':∀d∈D,(listed.setIfInBounds i true).getD d false=false:=fun d hd=>by have hne:d≠i:=fun h=>hiD (h ▸ hd);rw[←congrFun (eP hk') d,eE hne];exact hLD d hd
  rw[eP hk']at hI';refine ih _ β' a' w' (by simpa using hsz) ?_ hLD' hI';have hcs:(listed.setIfInBounds i true).toList.count true=listed.toList.count true+1:=by
   rw[Ws,WH (by simpa using hk')];have:listed.toList[i]'(by simpa using hk')=false:=by simpa using hLi
   simp[this]
  omega
theorem gj.start(h:Hd ds w0 n β st a w)(hfresh:∀b k:Nat,idxOf (ic b) es=some k→st.mem[b]?=none):gj ds w0 n l es st (fun _=>false) β a w:=by
 have row:∀b,bN st es (fun _=>false) b=st.mem[b]?:=fun b=>wT (hfresh b);have lt:∀b,b < st.mem.length→∃r,bN st es (fun _=>false) b=some r:=fun b hb=>⟨_,by rw[row];exact VF hb⟩;refine⟨h.size,h.dn,fun t sv ht=>h.get t sv (by rw[←ht,oE]),fun b r hb=>h.bY b r (by rw[←hb,row]),fun b r k hb hk=>h.new b r k (by rw[←hb,row]) hk,fun b c r r' k hb hc hk hk'=>h.inj b c r r' k (by rw[←hb,row]) (by rw[←hc,row]) hk hk',h.aD,fun t sv ht=>?_,fun b r hb=>?_,fun k o ho hk=>by cases hk⟩
 ·rw[oE]at ht;exact SV.aW lt (h.vo t sv ht)
 ·rw[row]at hb;exact Cells.aW lt (h.vg b r hb)
theorem gj.PO(hI:gj ds w0 n l es st L β a w){m:Nat}(hm:m≤l.length)(hL:∀k,k < l.length→L k=vw m k)(hB:∀k o en,l[k]?=some o→es[k]?=some en→BJ l es n k o en)(hlen:es.length=l.length)
  {D:List Nat} (hE:∀k o en,l[k]?=some o→es[k]?=some en→vd P H w0 l.toArray D k (bW n st l es k) o en):Hd ds w0 n β (bW n st l es m) a w:=by
 have hlook:∀t,look (bW n st l es m).fr t=jr l st es L t:=fun t=>by rw[EE (st:=st) hlen hB m hm];refine mB fun k hk=>?_;obtain⟨o,ho,_⟩:=fF hk;have hkl:=(VE.1 ho).1;rw[hL k hkl]
 have hrow:∀b:Nat,(bW n st l es m).mem[b]?=bN st es L b:=fun b=>by
  rw[IW (P:=P) (H:=H) (w0:=w0) (ops:=l.toArray) (st:=st) hlen hB hE m hm];refine oD (fun k hk=>?_) (fun k hk=>?_)
  ·obtain⟨o,ho,_⟩:=fF hk
   have hkl:=(VE.1 ho).1;rw[hlen]at hkl;rw[hL k hkl]
  ·obtain⟨o,ho,_⟩:=fF hk
   have hkl:=(VE.1 ho).1;rw[hlen]at hkl;rw[hL k hkl]
 have ex:∀b:Nat,b < (bW n st l es m).mem.length→∃r,bN st es L b=some r:=fun b hb=>⟨_,by rw[←hrow];exact VF hb⟩;have back:∀b:Nat,(∃r,bN st es L b=some r)→b < (bW n st l es m).mem.length:=fun b ⟨r,h⟩=>by rw[←hrow]at h;exact(VE.1 h).1
 refine⟨hI.size,hI.dn,fun t sv ht=>hI.get t sv (by rw[←hlook];exact ht),fun b r hb=>hI.bY b r (by rw[←hrow];exact hb),fun b r k hb hk=>hI.new b r k (by rw[←hrow];exact hb) hk,fun b c r r' k hb hc hk hk'=>hI.inj b c r r' k (by rw[←hrow];exact hb) (by rw[←hrow];exact hc) hk hk',hI.aD,fun t sv ht=>?_,fun b r hb=>?_⟩
 ·rw[hlook]at ht;exact SV.aW back (hI.vo t sv ht)
 ·rw[hrow]at hb;exact Cells.aW back (hI.vg b r hb)
theorem gj.fin(hI:gj ds w0 n l es st L β a w)(hL:∀k,k < l.length→L k=true)(hB:∀k o en,l[k]?=some o→es[k]?=some en→BJ l es n k o en)(hlen:es.length=l.length)
  {D:List Nat} (hE:∀k o en,l[k]?=some o→es[k]?=some en→vd P H w0 l.toArray D k (bW n st l es k) o en):Hd ds w0 n β (bW n st l es l.length) a w:=
 hI.PO (Wh _) (fun k hk=>by rw[hL k hk];simp[vw,hk]) hB hlen hE
def EZ(P:Program)(H:List (Nat×Hint))(n:Nat)(w0:aY)(l:List Oper)(st:St)(K:St→Prop):Prop:=
 fq P H n w0 l.toArray l 0 st [] [] fun es st' D=>match Bz l es n 0 l es with
  |true=>match D with
   | []=>K st'
   |_=>True
  |false=>cj l
theorem CY{id:Nat}{K:St→Prop}(hm:P.follows .mixedOrders=true)(h:Hd ds w0 n β st a w)(hx:EZ P H n w0 l st K)(hP:∀chain a w',a.defers=ds→w0.PP chain w'→ah w0.S w0.w w'→Q (.panic chain) a w')(hK:∀β' st' a' w',K st'→Hd ds w0 n β' st' a' w'→Q .normal a' w'):(Code.region id l.toArray true).wp P Q a w:=by
 obtain⟨es,st',D,hlex,hk⟩:=xX _ _ _ _ _ _ hx;rw[WE]at hk;obtain⟨hlen,hE,hst⟩:=uc hlex (by simp);have hE:∀k o en,l[k]?=some o→es[k]?=some en→vd P H w0 l.toArray D k (bW n st l es k) o en:=fun k o en ho he=>by have:=hE k o en ho he;rwa [Wd]at this
 have hDl:∀d∈D,d < l.length:=fun d hd=>by simpa using lex_lt hlex (by simp) d hd
 split at hk
 ·rename_i hb
  have hB:∀k o en,l[k]?=some o→es[k]?=some en→BJ l es n k o en:=fun k o en ho he=>by have:=oJ hb k o en ho he;rw[Wd]at this;exact zN this
  refine wp_region_any hm ?_;have hI:gj ds w0 n l es st (fun _=>false) β a { w with drawn:=w.drawn+1 }:=gj.start (h.later (ah.refl [] w).drew) fun b k hk'=>by
   obtain⟨en,r,he,hr⟩:=eO hk';have hkl:k < l.length:=by rw[←hlen];exact(VE.1 he).1
   have hbl:=sa (hE k _ en (VF hkl) he) hr;have:=xS (n:=n) (st:=st) hlen k (by omega);exact VL (by omega)
  have hrep:(fun k=>(VV l.length false).getD k false)=fun _:Nat=>false:=by funext k;simp only[VH,Wu];split<;>rfl
  have:=RH (P:=P) (H:=H) (w0:=w0) (n:=n) (st:=st) (Q:=Q) hB hlen hE hDl hP (fun hDn L β' a' w' hI' hL=>hK β' st' a' w' (by subst hDn;exact hk) (by rw[←hst];exact hI'.fin hL hB hlen hE)) l.length (VV l.length false) β a { w with drawn:=w.drawn+1 } (by simp) (by simp[Wy]) (fun d _=>congrFun hrep d) (by rw[hrep];exact hI);simpa using this
 ·exact nomatch hk
def sinkB(l:List Oper):Bool:=eJ (fun k=>(l.drop (k+1)).any fun o=>o.after.toList.any fun e=>Region.binds .any e&&Wl e.on k) (List.range (l.length - 1))
def Pw(H:List (Nat×Hint))(l:List Oper):Option Oper:=match l.getLast? with
 |some o=>match hint H o.dst with
  |some (.au g)=>match wK g with
   |none=>some o
   |some _=>none
  |_=>none
 |none=>none
def EY(P:Program)(H:List (Nat×Hint))(n:Nat)(w0:aY)(l:List Oper)(o:Oper)(st:St)(K:St→Prop):Prop:=
 fq P H n w0 l.toArray l.dropLast 0 st [] [] fun es st' D=>match Bz l (es++[jn []]) n 0 l (es++[jn []])&&sinkB l with
  |true=>match D with
   | []=>ru P H n w0 l.toArray [o] st' K
   |_=>cj l
  |false=>cj l
def CZ(P:Program)(H:List (Nat×Hint))(n:Nat)(w0:aY)(l:List Oper)(st:St)(K:St→Prop):Prop:=match Pw H l with
 |some o=>EY P H n w0 l o st K
 |none=>EZ P H n w0 l st K
theorem sG:∀{l:List Oper} {es:List gQ} {st:St} {k:Nat} (l2:List Oper) (es2:List gQ),es.length=l.length→k≤l.length→bW n st (l++l2) (es++es2) k=bW n st l es k
 |l,es,st,0,l2,es2,_,_=>by rw[gu,gu]
 |o::l,en::es,st,k+1,l2,es2,hl,hk=>by show bW n (cE n st o en) (l++l2) (es++es2) k=bW n (cE n st o en) l es k;exact sG l2 es2 (by simpa using hl) (by simpa using hk)
 | [],_,_,k+1,_,_,_,hk=>by simp at hk
 |_::_,[],_,_,_,_,hl,_=>by simp at hl
theorem Pc{o:Oper}{N:Nat}(hB:∀k o en,l[k]?=some o→es[k]?=some en→BJ l es n k o en)(hlen:es.length=l.length)(hN:l.length=N+1)(hoN:l[N]?=some o)
  (hE:∀k o en,l[k]?=some o→es[k]?=some en→vd P H w0 l.toArray [N,l.length] k (bW n st l es k) o en) (hsink:sinkB l=true)
  (hP:∀chain a w',a.defers=ds→w0.PP chain w'→ah w0.S w0.w w'→Q (.panic chain) a w')
  (hQ:∀β a w,Hd ds w0 n β (bW n st l es N) a w→wpList P l.toArray Q [o] a w) :
  ∀(fuel:Nat) (listed:Array Bool) (β:Env) (a:Act) (w:World),listed.size=l.length→listed.toList.count true+fuel=l.length→listed.getD N false=false→(∀k,listed.getD k false=true→∀o,l[k]?=some o→∀e∈o.after,Region.binds .any e=true→listed.getD e.on false=true)→
   gj ds w0 n l es st (fun k=>listed.getD k false) β a w→wpAny P .any l.toArray Q fuel listed a w:=by
 have inB:∀(listed:Array Bool) (k:Nat),listed.getD k false=true→k < listed.size:=fun listed k h=>by
  rcases WL k listed.size with h1|h1
  ·exact h1
  ·rw[VH,Wv h1]at h;cases h
 have done:∀(listed:Array Bool),listed.size=l.length→Region.ready .any l.toArray listed=[]→∀k,k < l.length→listed.getD k false=true:=by
  intro listed hsz hnil k;induction k using Wt with
  |_ k ih=>
   intro hk;cases hLk:listed.getD k false with
   |true=>rfl
   |false=>
    exfalso;obtain⟨o,ho⟩:∃o,l[k]?=some o:=⟨_,VF hk⟩;obtain⟨en,he⟩:∃en,es[k]?=some en:=⟨_,VF (by omega)⟩;have hmem:k∈Region.ready .any l.toArray listed:=by
     rw[mem_ready];refine⟨?_,o,by simpa using ho,fun e hee hb=>?_⟩
     ·have hk':k < listed.size:=by omega
      simp only[VH,VI hk',VT]at hLk ⊢;exact hLk
     ·have hlt:=(hB k o en ho he).down e hee hb
      exact ih e.on hlt (by omega)
    rw[hnil]at hmem;cases hmem
 intro fuel;induction fuel with
 |zero=>
  intro listed β a w hsz hcnt hLN _ hI;exfalso;have hc:listed.toList.count true=listed.toList.length:=by simp at hcnt ⊢;omega
  have:=Wz.1 hc;have hk':N < listed.size:=by omega
  have h1:=this listed[N] (by simp);simp[hk',←h1]at hLN
 |succ fuel ih=>
  intro listed β a w hsz hcnt hLN hcl hI;refine⟨fun hnil=>absurd (done listed hsz hnil N (by omega)) (by rw[hLN];decide),fun i hi=>?_⟩;obtain⟨h0,o',ho,hall⟩:=mem_ready.1 hi;have ho':l[i]?=some o':=by simpa using ho
  have hil:i < l.length:=(VE.1 ho').1;have hk':i < listed.size:=by omega
  obtain⟨en,he⟩:∃en,es[i]?=some en:=⟨_,VF (by omega)⟩;have hLi:listed[i]=false:=by simpa[hk']using h0
  have hLD:∀d∈[N,l.length],listed.getD d false=false:=fun d hd=>by
   rcases VR.1 hd with rfl|hd
   ·exact hLN
   ·rw[Wn.1 hd,VH,Wv (by omega)];rfl
  refine Bw hI ho' he hB hlen hE (by simp[hk',hLi]) hLD hP (fun e hee hb=>hall e (by simpa using hee) hb) (fun _ hiD=>?_) fun hiD β' a' w' hI'=>?_
  ·have hiN:i=N:=by
    rcases VR.1 hiD with h|h
    ·exact h
    ·have:=Wn.1 h;omega
   subst hiN;rw[hoN]at ho';cases ho';have allL:∀m k,k+m=i→k < i→listed.getD k false=true:=by
    intro m;induction m using Wt with
    |_ m ihm=>
     intro k hkm hki;have hs:=aQ hsink k (List.mem_range.2 (by omega));obtain⟨oj,hoj,hej⟩:=Wi.1 hs;obtain⟨e,hee,hbb⟩:=Wi.1 hej;rw[VG]at hbb;have hek:e.on=k:=VJ hbb.2;obtain⟨j,hj⟩:=List.mem_iff_getElem?.1 hoj;rw[List.getElem?_drop]at hj;have hjl:=(VE.1 hj).1;by_cases hjN:k+1+j=i
     ·rw[hjN,hoN]at hj
      cases hj;have:=hall e (by simpa using hee) hbb.1;rw[hek]at this;exact this
     ·have hl:=ihm (i - (k+1+j)) (by omega) (k+1+j) (by omega) (by omega)
      have:=hcl _ hl oj hj e (by simpa using hee) hbb.1;rw[hek]at this;exact this
   have hL:∀k,k < l.length→listed.getD k false=vw i k:=fun k hk=>by
    by_cases hki:k < i
    ·rw[allL (i - k) k (by omega) hki]; simp[vw,hki]
    ·have:k=i:=by omega
     subst this;rw[hLN];simp[vw]
   have hH:=hI.PO (by omega) hL hB hlen hE;have hw:=hQ β a w hH;have hfuel:fuel=0:=by
    have hcount:listed.toList.count true=i:=by
     have:listed.toList=List.replicate i true++[false]:=by
      refine List.ext_getElem? fun k=>?_;by_cases hki:k < i
      ·rw[VU (by simpa using hki),List.getElem?_replicate,if_pos hki]
       have h1:=allL (i - k) k (by omega) hki;have hks:k < listed.size:=by omega
       rw[VH,VI hks]at h1;rw[Ww,VI hks];simpa using h1
      ·by_cases hke:k=i
       ·subst hke
        rw[VS (by simp),Ww,VI hk',hLi];simp
       ·rw[VL (by simp;omega),VL (by simp;omega)]
     rw[this];simp
    omega
   subst hfuel;have hrdy:Region.ready .any l.toArray (listed.setIfInBounds i true)=[]:=by
    cases hr:Region.ready .any l.toArray (listed.setIfInBounds i true)with
    |nil=>rfl
    |cons x r=>
     exfalso;have hx:x∈Region.ready .any l.toArray (listed.setIfInBounds i true):=by rw[hr];simp
     obtain⟨h0,o,ho,_⟩:=mem_ready.1 hx;have hxl:x < l.length:=(VE.1 (show l[x]?=some o by simpa using ho)).1;have hall2:(listed.setIfInBounds i true).getD x false=true:=by
      rw[←congrFun (eP hk') x];by_cases hxi:x=i
      ·rw[hxi,iA]
      ·rw[eE hxi,hL x hxl];simp[vw];omega
     have hxs:x < (listed.setIfInBounds i true).size:=by simp;omega
     rw[VH,VI hxs]at hall2;rw[VH,VI hxs]at h0;simp only[VT]at hall2 h0;rw[hall2]at h0;cases h0
   unfold wpOp;rw[show l.toArray[i]?=some o by simpa using hoN];simp only;unfold wpList at hw;split at hw
   ·rename_i hwt
    rw[if_pos hwt];rcases hw with hw|hw
    ·exact .inl (Oper.wp_mono (fun a' w' h=>⟨hrdy,by simpa[wpList]using h⟩) hw)
    ·exact .inr hw
   ·rename_i hwt
    rw[if_neg hwt];exact⟨hrdy,by simpa[wpList]using hw⟩
  ·have hLN':(listed.setIfInBounds i true).getD N false=false:=by
    have hne:N≠i:=fun h=>hiD (h ▸ by simp);rw[←congrFun (eP hk') N,eE hne];exact hLN
   have hcl':∀k,(listed.setIfInBounds i true).getD k false=true→∀o,l[k]?=some o→∀e∈o.after,Region.binds .any e=true→(listed.setIfInBounds i true).getD e.on false=true:=by
    intro k hk ok hok e hee hb;rw[←congrFun (eP hk') k]at hk;rw[←congrFun (eP hk') e.on];have up:listed.getD e.on false=true→more (fun k=>listed.getD k false) i e.on=true:=fun h=>by
     by_cases hx:e.on=i
     ·rw[hx,iA]
     ·rw[eE hx];exact h
    by_cases hki:k=i
    ·subst hki
     rw[ho']at hok;cases hok;exact up (hall e (by simpa using hee) hb)
    ·rw[eE hki]at hk
     exact up (hcl k hk ok hok e hee hb)
   rw[eP hk']at hI';refine ih _ β' a' w' (by simpa using hsz) ?_ hLN' hcl' hI';have hcs:(listed.setIfInBounds i true).toList.count true=listed.toList.count true+1:=by
    rw[Ws,WH (by simpa using hk')];have:listed.toList[i]'(by simpa using hk')=false:=by simpa using hLi
    simp[this]
   omega
theorem CX{id:Nat}{K:St→Prop}{o:Oper}(hm:P.follows .mixedOrders=true)(h:Hd ds w0 n β st a w)(ho:l.getLast?=some o)(hx:EY P H n w0 l o st K)(hP:∀chain a w',a.defers=ds→w0.PP chain w'→ah w0.S w0.w w'→Q (.panic chain) a w')(hK:∀β' st' a' w',K st'→Hd ds w0 n β' st' a' w'→Q .normal a' w'):(Code.region id l.toArray true).wp P Q a w:=by
 obtain⟨es,st',D,hlex,hk⟩:=xX _ _ _ _ _ _ hx;rw[WE]at hk;obtain⟨hlen0,hE0,hst⟩:=uc hlex (by simp);obtain⟨l1,rfl⟩:∃l1,l=l1++[o]:=⟨l.dropLast,by rw[List.getLast?_eq_some_iff]at ho;obtain⟨ys,rfl⟩:=ho;simp⟩;rw[List.dropLast_concat]at hlen0 hE0 hst;split at hk
 rotate_left
 ·exact nomatch hk
 rename_i hb;rw[VG]at hb;split at hk
 rotate_left
 ·exact nomatch hk
 have hlen:(es++[jn []]).length=(l1++[o]).length:=by simp[hlen0]
 have hB:∀k o' en,(l1++[o])[k]?=some o'→(es++[jn []])[k]?=some en→BJ (l1++[o]) (es++[jn []]) n k o' en:=fun k o' en ho he=>by have:=oJ hb.1 k o' en ho he;rw[Wd]at this;exact zN this
 have hE:∀k o' en,(l1++[o])[k]?=some o'→(es++[jn []])[k]?=some en→vd P H w0 (l1++[o]).toArray [l1.length,(l1++[o]).length] k (bW n st (l1++[o]) (es++[jn []]) k) o' en:=by
  intro k o' en ho he;have hkl:=(VE.1 ho).1;simp only[Wo,Wx]at hkl;by_cases hkN:k < l1.length
  ·rw[VU hkN]at ho
   rw[VU (by omega)]at he;have:=hE0 k o' en ho he;rw[Wd]at this;rw[sG [o] [jn []] hlen0 (by omega)];rcases this with⟨_,h1⟩ | ⟨h1,_⟩
   ·refine .inl ⟨fun hh=>?_,h1⟩
    simp only[VR,List.not_mem_nil,or_false,Wo,Wx]at hh;omega
   ·cases h1
  ·have:k=l1.length:=by omega
   subst this;rw[VS (by omega),hlen0,Nat.sub_self]at he;cases he;exact .inr ⟨by simp,rfl,rfl,.inr (.inr ⟨(l1++[o]).length,by simp,by simp⟩)⟩
 refine wp_region_any hm ?_;have hrep:(fun k=>(VV (l1++[o]).length false).getD k false)=fun _:Nat=>false:=by funext k;simp only[VH,Wu];split<;>rfl
 have hI:gj ds w0 n (l1++[o]) (es++[jn []]) st (fun _=>false) β a { w with drawn:=w.drawn+1 }:=gj.start (h.later (ah.refl [] w).drew) fun b k hk'=>by
  obtain⟨en,r,he,hr⟩:=eO hk';have hkl:k < (l1++[o]).length:=by rw[←hlen];exact(VE.1 he).1
  have hbl:=sa (hE k _ en (VF hkl) he) hr;have:=xS (n:=n) (st:=st) hlen k (by omega);exact VL (by omega)
 have:=Pc (P:=P) (H:=H) (w0:=w0) (n:=n) (st:=st) (Q:=Q) (N:=l1.length) (o:=o) hB hlen (by simp) (by rw[VS (Wh _)];simp) hE hb.2 hP (fun β' a' w' hH=>by rw[sG [o] [jn []] hlen0 (Wh _),hst]at hH;exact AN hP [o] st' K β' a' w' hH hk hK) (l1++[o]).length (VV (l1++[o]).length false) β a { w with drawn:=w.drawn+1 } (by simp) (by simp[Wy]) (congrFun hrep _) (fun k hk'=>by rw[show(VV (l1++[o]).length false).getD k false=false from congrFun hrep k]at hk';cases hk') (by rw[hrep];exact hI);simpa using this
theorem GW{id:Nat}{K:St→Prop}(hm:P.follows .mixedOrders=true)(h:Hd ds w0 n β st a w)(hx:CZ P H n w0 l st K)(hP:∀chain a w',a.defers=ds→w0.PP chain w'→ah w0.S w0.w w'→Q (.panic chain) a w')(hK:∀β' st' a' w',K st'→Hd ds w0 n β' st' a' w'→Q .normal a' w'):(Code.region id l.toArray true).wp P Q a w:=by
 unfold CZ at hx;split at hx
 ·rename_i o ho
  refine CX hm h ?_ hx hP hK;unfold Pw at ho;split at ho
  ·rename_i o' ho'
   split at ho
   ·split at ho
    ·cases ho;exact ho'
    ·cases ho
   ·cases ho
  ·cases ho
 ·exact CY hm h hx hP hK
end
end Sx
open Go Go.RowKit Go.Lib Go.Sort
namespace Sx
inductive Loop:Type 1 where
 |mk (κ:Type) (k0:κ) (R:κ→Prop) (fr:κ→List (Nat×SV)) (mem:κ→List Row) (next:κ→κ) (μ:κ→Nat)
  (ι:Type) (Ro:ι→Prop) (fro:ι→List (Nat×SV)) (memo:ι→List Row) (which:κ→ι)
 |fin (κ:Type) (k0:κ) (R:κ→Prop) (fr:κ→List (Nat×SV)) (mem:κ→List Row) (next:κ→κ) (μ:κ→Nat)
 |times (l:List (List (Nat×Hint)))
def yg(fr:List (Nat×SV))(t:Nat):Bool:=match look fr t with
 |some _=>true
 |none=>false
def Ju(fr:List (Nat×SV))(l:List (Nat×SV)):List (Nat×SV):=l.map fun p=>(p.1,(look fr p.1).getD (.val undef))
def MI:SV→Option Nat
 |.val _=>none
 |.ptr i _=>some i
 |.lO i _ _ _=>some i
 |.own i=>some i
 |.kT i _=>some i
 |.vh _ i _=>some i
 |.jJ i _ _ _=>some i
 |.gone=>none
 |.dG _=>none
 |.Fe _ _=>none
 |.jK _ i _=>some i
 |.kG _=>none
 |.dQ _ i _=>some i
def vK(fr:List (Nat×SV)):List (Nat×SV)→List (Nat×Nat)
 | []=>[]
 |p::r=>match MI p.2 with
  |some i=>match look fr p.1 with
   |some u=>match MI u with
    |some j=>(i,j)::vK fr r
    |none=>vK fr r
   |none=>vK fr r
  |none=>vK fr r
def eo:List (Nat×Nat)→Nat→Nat
 | [],i=>i
 |p::r,i=>match Wl p.1 i with
  |true=>p.2
  |false=>eo r i
def Atom.eo(σ:List (Nat×Nat)):Atom→Atom
 |.v x=>.v x
 |.o i=>.o (Sx.eo σ i)
 |.p i off=>.p (Sx.eo σ i) off
 |.s i off len cut=>.s (Sx.eo σ i) off len cut
def eK.eo(σ:List (Nat×Nat)):eK→eK
 |.a x=>.a (x.eo σ)
 |.row l=>.row (l.map (Atom.eo σ))
 |.jK t i off=>.jK t (Sx.eo σ i) off
def SV.eo(σ:List (Nat×Nat)):SV→SV
 |.val v=>.val v
 |.ptr i o=>.ptr (Sx.eo σ i) o
 |.lO i o n c=>.lO (Sx.eo σ i) o n c
 |.own i=>.own (Sx.eo σ i)
 |.kT i o=>.kT (Sx.eo σ i) o
 |.vh l i r=>.vh l (Sx.eo σ i) r
 |.jJ i o n c=>.jJ (Sx.eo σ i) o n c
 |.gone=>.gone
 |.dG l=>.dG (l.map (Atom.eo σ))
 |.Fe f l=>.Fe f (l.map (Atom.eo σ))
 |.jK t i off=>.jK t (Sx.eo σ i) off
 |.kG l=>.kG (l.map (eK.eo σ))
 |.dQ b i off=>.dQ b (Sx.eo σ i) off
def Cells.eo(σ:List (Nat×Nat)):Cells→Cells
 |.ai cs=>.ai cs
 |.cU cs=>.cU (cs.map (SV.eo σ))
 |.own a b c=>.own a b c
 |.dead=>.dead
 |.dj g cs=>.dj g cs
 |.iC g cs=>.iC g (cs.map (SV.eo σ))
def Row.eo(σ:List (Nat×Nat))(r:Row):Row:=⟨r.ty,r.cs.eo σ⟩
def Ei(σ:List (Nat×Nat)):List (Nat×SV)→List (Nat×SV)
 | []=>[]
 |p::r=>(p.1,p.2.eo σ)::Ei σ r
def rS(σ:List (Nat×Nat)):List Row→List Row
 | []=>[]
 |p::r=>p.eo σ::rS σ r
def sR(mem:List Row)(σ:List (Nat×Nat)):Nat→List Row→List Row
 |_,[]=>[]
 |k,_::r=>(mem[eo σ k]?).getD ak::sR mem σ (k+1) r
def Ew(σ:List (Nat×Nat))(x:Nat):Nat→Bool
 | 0=>true
 |n+1=>match Wl (eo σ n) x with
  |true=>false
  |false=>Ew σ x n
def Er(σ:List (Nat×Nat))(N:Nat):Nat→Bool
 | 0=>true
 |n+1=>match We (eo σ n) N&&Ew σ (eo σ n) n with
  |true=>Er σ N n
  |false=>false
def Env.eo(σ:List (Nat×Nat))(β:Env):Env:=⟨fun i=>β.b (Sx.eo σ i),fun i=>β.a (Sx.eo σ i),fun i=>β.n (Sx.eo σ i),fun i=>β.c (Sx.eo σ i)⟩
def Py:Cells→List SV
 |.cU cs=>cs
 |.iC _ cs=>cs
 |_=>[]
def sE:List SV→List SV→List (Nat×Nat)
 |a::r,b::q=>match MI a,MI b with
  |some i,some j=>(i,j)::sE r q
  |_,_=>sE r q
 |_,_=>[]
def xz(σ:List (Nat×Nat))(smem:List Row):Nat→List Row→List (Nat×Nat)
 |_,[]=>[]
 |k,r::l=>match smem[eo σ k]? with
  |some q=>sE (Py r.cs) (Py q.cs)++xz σ smem (k+1) l
  |none=>xz σ smem (k+1) l
def lP(st:St)(fr:List (Nat×SV))(mem:List Row):List (Nat×Nat):=vK st.fr fr++xz (vK st.fr fr) st.mem 0 mem
def yK(st:St)(fr:List (Nat×SV))(mem:List Row):Prop:=
 match eJ (fun p=>yg st.fr p.1&&zb mem.length p.2) fr&&(eJ (fun r=>lk mem.length r.cs) mem&&Er (lP st fr mem) st.mem.length mem.length)with
 |true=>Ju st.fr fr=Ei (lP st fr mem) fr∧sR st.mem (lP st fr mem) 0 mem=rS (lP st fr mem) mem
 |false=>cj (st,fr)
def ia{κ ι:Type}(R:κ→Prop)(fr:κ→List (Nat×SV))(mem:κ→List Row)(next:κ→κ)(μ:κ→Nat)(Ro:ι→Prop)(fro:ι→List (Nat×SV))(memo:ι→List Row)(which:κ→ι)(id:Nat)(Kr:St→Prop)(k:κ):Exit→St→Prop
 |.normal,st=>R (next k)∧μ (next k) < μ k∧yK st (fr (next k)) (mem (next k))
 |.exit i,st=>match Wl i id with
  |true=>Ro (which k)∧yK st (fro (which k)) (memo (which k))
  |false=>cj st
 |.ret,st=>Kr st
 |_,_=>False
def fX:Code→Nat
 |.seq x y=>match fX x with
  | 0=>fX y
  |k=>k
 |.cond _ x y=>match fX x with
  | 0=>fX y
  |k=>k
 |.exit i=>i+1
 |_=>0
def kU:Code→Nat
 |.seq x y=>kU x+kU y
 |.cond _ x y=>kU x+kU y
 |.block _ c=>kU c
 |.scope c=>kU c
 |.loop _=>1
 |_=>0
def su(body:List (Nat×Hint)→St→(Exit→St→Prop)→Prop)(K:Exit→St→Prop):List (List (Nat×Hint))→St→Prop
 | [],st=>cj st
 |h::r,st=>body h st fun e st'=>match e with
  |.normal=>su body K r st'
  |.exit i=>K (.exit i) st'
  |.ret=>K .ret st'
  |_=>False
def Nz:List Nat→(Nat→Prop)→Prop
 | [],_=>True
 |i::r,F=>match r with
  | []=>F i
  |_=>Br (F i)∧Nz r F
theorem vY{F:Nat→Prop}:∀{l:List Nat},Nz l F→∀i∈l,F i
 | [],_,i,hi=>by cases hi
 | [j],h,i,hi=>by rw[Wn.1 hi];exact h
 |j::k::r,h,i,hi=>by
  have h:Br (F j)∧Nz (k::r) F:=h;rcases VR.1 hi with rfl|hi
  ·exact h.1
  ·exact vY h.2 i hi
def qE(P:Program)(H:List (Nat×Hint))(n:Nat)(w0:aY)(ops:Array Oper):Nat→Array Bool→St→(St→Prop)→Prop
 | 0,listed,st,K=>match Region.ready .any ops listed with
  | []=>K st
  |_=>cj listed
 |fuel+1,listed,st,K=>match Region.ready .any ops listed with
  | []=>K st
  |is=>Nz is fun i=>match ops[i]? with
   |some o=>xv ops o st fun st=>match guardOf ops st.fr o with
    |some true=>step P H n w0 o st fun st'=>qE P H n w0 ops fuel (listed.setIfInBounds i true) st' K
    |some false=>qE P H n w0 ops fuel (listed.setIfInBounds i true) (st.put n o.dst (.val undef)) K
    |none=>cj o
   |none=>cj i
theorem yu{P:Program}{H:List (Nat×Hint)}{n:Nat}{w0:aY}{ds:List Deferred}{Q:Exit→Act→World→Prop}{ops:Array Oper}(hP:∀chain a w',a.defers=ds→w0.PP chain w'→ah w0.S w0.w w'→Q (.panic chain) a w'):∀(fuel:Nat) (listed:Array Bool) (st:St) (K:St→Prop) (β:Env) (a:Act) (w:World),Hd ds w0 n β st a w→qE P H n w0 ops fuel listed st K→(∀β' st' a' w',K st'→Hd ds w0 n β' st' a' w'→Q .normal a' w')→wpAny P .any ops Q fuel listed a w
 | 0,listed,st,K,β,a,w,h,hx,hK=>by
  unfold qE at hx;split at hx
  ·rename_i hr
   exact⟨hr,hK _ _ _ _ hx h⟩
  ·exact nomatch hx
 |fuel+1,listed,st,K,β,a,w,h,hx,hK=>by
  unfold qE at hx;split at hx
  ·rename_i hr
   exact⟨fun _=>hK _ _ _ _ hx h,fun i hi=>by rw[hr]at hi;cases hi⟩
  ·rename_i hne
   refine⟨fun hr=>absurd hr hne,fun i hi=>?_⟩;have hx:=vY hx i hi;unfold wpOp;cases ho:ops[i]? with
   |none=>rw[ho]at hx;exact nomatch hx
   |some o=>
    rw[ho]at hx;obtain⟨st,hx,h⟩:=vI h hx;split at hx
    ·rename_i hg
     show(if Region.wanted o (yielded ops a.tmps)then _ else _);rw[pI h hg,if_pos rfl];exact .inl (DT h hx hP fun β' st' a' w' hk h'=>yu hP fuel _ st' K β' a' w' h' hk hK)
    ·rename_i hg
     show(if Region.wanted o (yielded ops a.tmps)then _ else _);rw[pI h hg,if_neg (by decide)];exact yu hP fuel _ _ K β _ w (h.put o.dst (sv:=.val undef) trivial) hx hK
    ·exact nomatch hx
def Tp(H:List (Nat×Hint))(id:Nat):Bool:=match hint H (some (600000+id))with
 |some _=>true
 |none=>false
def QV(H:List (Nat×Hint)):Operand→Option (List (Nat×SV)×List Row)
 |.tmp t=>match hint H (some (500000+t))with
  |some (.join fr mem)=>some (fr,mem)
  |_=>none
 |_=>none
def Km(fr:List (Nat×SV))(mem:List Row)(K:Exit→St→Prop):Exit→St→Prop
 |.normal,st=>yK st fr mem
 |e,st=>K e st
def Rm(H:List (Nat×Hint))(id:Nat):List (Nat×List (Nat×SV)×List Row):=match hint H (some (700000+id))with
 |some (.UI l)=>l
 |_=>[]
def KK(P:Program)(H:List (Nat×Hint))(n:Nat)(w0:aY)(ops:Array Oper):List (Nat×List (Nat×SV)×List Row)→List Oper→St→(St→Prop)→Prop
 | [],l,st,K=>ru P H n w0 ops l st K
 | (m,fr,mem)::cs,l,st,K=>Br (ru P H n w0 ops (l.take m) st fun st'=>yK st' fr mem)∧KK P H n w0 ops cs (l.drop m) ⟨fr,mem⟩ K
def lj(P:Program)(n:Nat)(w0:aY):Code→List (Nat×Hint)→List Loop→St→(Exit→St→Prop)→Prop
 |.skip,_,_,st,K=>K .normal st
 |.region id ops draw,H,_,st,K=>match draw with
  |false=>KK P H n w0 ops (Rm H id) ops.toList st (K .normal)
  |true=>match Tp H id with
   |true=>qE P H n w0 ops ops.size (VV ops.size false) st (K .normal)
   |false=>CZ P H n w0 ops.toList st (K .normal)
 |.seq x y,H,L,st,K=>lj P n w0 x H L st fun e st'=>match e with
  |.normal=>lj P n w0 y H (L.drop (kU x)) st' K
  |e=>K e st'
 |.cond c x y,H,L,st,K=>match QV H c with
  |none=>match ev st.fr c with
   |some (.val (.bool b))=>match b with
    |true=>lj P n w0 x H L st K
    |false=>lj P n w0 y H (L.drop (kU x)) st K
   |_=>cj c
  |some q=>match ev st.fr c with
   |some (.val (.bool b))=>Br (match b with
    |true=>lj P n w0 x H L st (Km q.1 q.2 K)
    |false=>lj P n w0 y H (L.drop (kU x)) st (Km q.1 q.2 K))∧K .normal ⟨q.1,q.2⟩
   |_=>cj c
 |.block id c,H,L,st,K=>lj P n w0 c H L st fun e st'=>match e with
  |.exit i=>match Wl i id with
   |true=>K .normal st'
   |false=>K (.exit i) st'
  |e=>K e st'
 |.scope c,H,L,st,K=>lj P n w0 c H L st fun e st'=>match e with
  |.goto _=>False
  |e=>K e st'
 |.loop c,_,L,st,K=>match L with
  |.mk _ k0 R fr mem next μ _ Ro fro memo which::_=>R k0∧yK st (fr k0) (mem k0)∧(∀k,R k→∃H' L',lj P n w0 c H' L' ⟨fr k,mem k⟩ (ia R fr mem next μ Ro fro memo which (fX c - 1) (K .ret) k))∧∀x,Ro x→K (.exit (fX c - 1)) ⟨fro x,memo x⟩
  |.fin _ k0 R fr mem next μ::_=>R k0∧yK st (fr k0) (mem k0)∧(∀k,R k→∃H' L',lj P n w0 c H' L' ⟨fr k,mem k⟩ (ia R fr mem next μ (fun(_:Unit)=>False) (fun _=>[]) (fun _=>[]) (fun _=>()) (fX c - 1) (K .ret) k))∧True
  |.times hs::_=>su (fun H' st' K'=>lj P n w0 c H' [] st' K') K hs st
  | []=>cj c
 |.exit id,_,_,st,K=>K (.exit id) st
 |.label _,_,_,st,K=>K .normal st
 |.goto l,_,_,st,K=>K (.goto l) st
 |.ret,_,_,st,K=>K .ret st
 |c,_,_,_,_=>cj c
def ex(P:Program)(n:Nat)(w:World)(c:Code)(H:List (Nat×Hint))(L:List Loop)(st:St)(K:Exit→St→Prop):Prop:=lj P n ⟨w,[],fun _ _=>False⟩ c H L st K
def lift(ds:List Deferred)(w0:aY)(n:Nat)(K:Exit→St→Prop)(e:Exit)(a:Act)(w:World):Prop:=match e with
 |.panic chain=>a.defers=ds∧w0.PP chain w∧ah w0.S w0.w w
 |e=>∃β st,K e st∧Hd ds w0 n β st a w
section
variable{P:Program}{n:Nat}{w0:aY}{ds:List Deferred}
theorem tS{σ:List (Nat×Nat)}:∀{l:List (Nat×SV)} {t:Nat} {sv:SV},look l t=some sv→look (Ei σ l) t=some (sv.eo σ)
 | (d,v)::r,t,sv,h=>by
  rw[eQ]at h;rw[Ei,eQ];split at h
  ·rename_i hd
   rw[if_pos hd,bS h];have:=bS h;subst this;cases sv<;>first | (cases h;done)|rfl
  ·rename_i hd
   rw[if_neg hd];exact tS h
theorem tU{fr:List (Nat×SV)}:∀{l l':List (Nat×SV)} {t:Nat} {sv:SV},Ju fr l=l'→(∀p∈l,yg fr p.1=true)→look l' t=some sv→look fr t=some sv
 | [],l',t,sv,h,ha,hl=>by subst h;cases hl
 | (d,v)::r,l',t,sv,h,ha,hl=>by
  unfold Ju at h;rw[VY]at h;subst h;rw[eQ]at hl;split at hl
  ·rename_i hd
   subst hd;have:=ha (d,v) (by simp);unfold yg at this;simp only at this hl;split at this
   ·rename_i u hu
    simp only[hu,VT]at hl;rw[bS hl,hu]
   ·cases this
  ·exact tU (l:=r) rfl (fun p hp=>ha p (by simp[hp])) hl
theorem zH{σ:List (Nat×Nat)}{β:Env}{s:Atom}:(s.eo σ).den β=s.den (β.eo σ):=by cases s<;>rfl
theorem sV{σ:List (Nat×Nat)}{β:Env}{l:List Atom}:(l.map (Atom.eo σ)).map (Atom.den β)=l.map (Atom.den (β.eo σ)):=by rw[Wp];exact WA fun s _=>zH
theorem Je{σ:List (Nat×Nat)}{β:Env}{s:eK}:(s.eo σ).den β=s.den (β.eo σ):=by
 cases s with
 |a x=>exact zH
 |row l=>show Value.agg _=.agg _;rw[sV]
 |jK t i off=>rfl
theorem Jd{σ:List (Nat×Nat)}{β:Env}{l:List eK}:(l.map (eK.eo σ)).map (eK.den β)=l.map (eK.den (β.eo σ)):=by rw[Wp];exact WA fun s _=>Je
theorem xE{σ:List (Nat×Nat)}{β:Env}{s:SV}:(s.eo σ).den β=s.den (β.eo σ):=by
 cases s with
 |dG l=>show Value.agg _=.agg _;rw[sV]
 |Fe f l=>show Value.func _ _ _=.func _ _ _;rw[sV]
 |kG l=>show Value.tuple _=.tuple _;rw[Jd]
 |_=>rfl
theorem Jc{σ:List (Nat×Nat)}{β:Env}{w:World}{i:Nat}{r:Row}(h:aT β w (eo σ i) (r.eo σ)):aT (β.eo σ) w i r:=by
 obtain⟨T,cs⟩:=r;cases cs with
 |own a b c=>exact h
 |ai cs=>exact h
 |dead=>exact h
 |dj g cs=>exact h
 |cU cs=>have h:aq w (β (eo σ i)) T ((cs.map (SV.eo σ)).map (SV.den β)):=h;rw[Wp]at h;have e:(SV.den β ∘ SV.eo σ)=SV.den (β.eo σ):=funext fun s=>xE;rw[e]at h;exact h
 |iC g cs=>have h:β (eo σ i)=g∧aq w (β (eo σ i)) T ((cs.map (SV.eo σ)).map (SV.den β)):=h;rw[Wp]at h;have e:(SV.den β ∘ SV.eo σ)=SV.den (β.eo σ):=funext fun s=>xE;rw[e]at h;exact h
theorem xF{σ:List (Nat×Nat)}{β:Env}{i:Nat}{r:Row}:av (β.eo σ) i r=av β (eo σ i) (r.eo σ):=by obtain⟨T,cs⟩:=r;cases cs<;>rfl
theorem tK{σ:List (Nat×Nat)}{x:Nat}:∀{n:Nat},Ew σ x n=true→∀j,j < n→eo σ j≠x
 | 0,_,j,hj=>by omega
 |n+1,h,j,hj=>by
  unfold Ew at h;split at h
  ·cases h
  ·rename_i hb
   by_cases hjn:j=n
   ·subst hjn;intro he;rw[he,Wk]at hb;cases hb
   ·exact tK h j (by omega)
theorem tA{σ:List (Nat×Nat)}{N:Nat}:∀{n:Nat},Er σ N n=true→(∀j,j < n→eo σ j < N)∧∀i j,i < n→j < n→eo σ i=eo σ j→i=j
 | 0,_=>⟨fun j hj=>by omega,fun i j hi=>by omega⟩
 |n+1,h=>by
  unfold Er at h;split at h
  ·rename_i hb
   rw[VG]at hb;obtain⟨h1,h2⟩:=tA h;have h3:=tK hb.2;have h4:eo σ n < N:=VM hb.1;refine⟨fun j hj=>?_,fun i j hi hj he=>?_⟩
   ·by_cases hjn:j=n
    ·subst hjn;exact h4
    ·exact h1 j (by omega)
   ·by_cases hin:i=n
    ·by_cases hjn:j=n
     ·omega
     ·subst hin;exact absurd he.symm (h3 j (by omega))
    ·by_cases hjn:j=n
     ·subst hjn;exact absurd he (h3 i (by omega))
     ·exact h2 i j (by omega) (by omega) he
  ·cases h
theorem sQ{mem:List Row}{σ:List (Nat×Nat)}:∀{l l':List Row} {k:Nat},sR mem σ k l=l'→(∀j,j < l.length→eo σ (k+j) < mem.length)→∀(i:Nat) (r:Row),l'[i]?=some r→mem[eo σ (k+i)]?=some r
 | [],l',k,h,_,i,r,hi=>by subst h;simp[sR]at hi
 |x::l,l',k,h,hlt,i,r,hi=>by
  subst h;rw[sR]at hi;cases i with
  |zero=>have hk:=hlt 0 (by simp);rw[Nat.add_zero]at hk ⊢;simp only[List.getElem?_cons_zero,VN.injEq,VF hk,VT]at hi;rw[←hi];exact VF hk
  |succ i=>rw[VP]at hi;have:=sQ (k:=k+1) rfl (fun j hj=>by rw[show k+1+j=k+(j+1)by omega];exact hlt (j+1) (by simp;omega)) i r hi;rwa [show k+1+i=k+(i+1)by omega]at this
theorem qQ{σ:List (Nat×Nat)}:∀{l:List Row} {i:Nat} {r:Row},l[i]?=some r→(rS σ l)[i]?=some (r.eo σ)
 |x::l,0,r,h=>by
  have h:x=r:=by simpa using h
  subst h;rfl
 |x::l,i+1,r,h=>by rw[VP]at h;rw[rS,VP];exact qQ h
theorem pz:∀{l:List (Nat×SV)} {t:Nat} {sv:SV},look l t=some sv→(t,sv)∈l
 | (d,v)::r,t,sv,h=>by
  rw[eQ]at h;split at h
  ·rename_i hd
   rw[bS h,hd];simp
  ·exact VX _ (pz h)
theorem Hd.same{β:Env}{st:St}{a:Act}{w:World}{fr:List (Nat×SV)}{mem:List Row}(h:Hd ds w0 n β st a w)(hs:yK st fr mem):∃β',Hd ds w0 n β' ⟨fr,mem⟩ a w:=by
 unfold yK at hs;split at hs
 ·rename_i hb
  simp only[VG]at hb;obtain⟨hb1,hb2,hb3⟩:=hb;have h1:=aQ hb1;have h2:=aQ hb2;obtain⟨h3,h4⟩:=tA hb3;have hl:∀t sv,look fr t=some sv→look st.fr t=some (sv.eo (lP st fr mem)):=fun t sv ht=>tU hs.1 (fun p hp=>by have:=h1 p hp;rw[VG]at this;exact this.1) (tS ht);have hm:∀(i:Nat) (r:Row),mem[i]?=some r→st.mem[eo (lP st fr mem) i]?=some (r.eo (lP st fr mem)):=by intro i r hi;have:=sQ hs.2 (fun j hj=>by rw[Wd];exact h3 j hj) i _ (qQ hi);rwa [Wd]at this
  have hlt:∀(i:Nat) (r:Row),mem[i]?=some r→i < mem.length:=fun i r hi=>(VE.1 hi).1;refine⟨β.eo (lP st fr mem),h.size,h.dn,fun t sv ht=>?_,fun i r hi=>Jc (h.bY _ _ (hm i r hi)),fun i r k hi hk=>h.new _ _ k (hm i r hi) (by rw[←xF];exact hk),fun i j r r' k hi hj hk hk'=>?_,h.aD,fun t sv ht=>?_,fun i r hi=>?_⟩
  ·rw[h.get t _ (hl t sv ht),xE]
  ·exact h4 i j (hlt i r hi) (hlt j r' hj) (h.inj _ _ _ _ k (hm i r hi) (hm j r' hj) (by rw[←xF];exact hk) (by rw[←xF];exact hk'))
  ·have:=h1 _ (pz ht)
   rw[VG]at this;exact mX this.2
  ·have:=h2 r (VK hi)
   exact iZ this
 ·exact nomatch hs
theorem EM{fr:List (Nat×SV)}{mem:List Row}{K:Exit→St→Prop}(hk:K .normal ⟨fr,mem⟩){e:Exit}{a:Act}{w:World}(hq:lift ds w0 n (Km fr mem K) e a w):lift ds w0 n K e a w:=by
 cases e with
 |normal=>obtain⟨β',st',hs,h'⟩:=hq;obtain⟨β3,h3⟩:=h'.same hs;exact⟨β3,_,hk,h3⟩
 |exit id=>exact hq
 |goto l=>exact hq
 |ret=>exact hq
 |panic c=>exact hq
 |outgrown=>exact hq
theorem AO{H:List (Nat×Hint)}{ops:Array Oper}{Q:Exit→Act→World→Prop}(hP:∀chain a w',a.defers=ds→w0.PP chain w'→ah w0.S w0.w w'→Q (.panic chain) a w'):∀(cs:List (Nat×List (Nat×SV)×List Row)) (l:List Oper) (st:St) (K:St→Prop) (β:Env) (a:Act) (w:World),Hd ds w0 n β st a w→KK P H n w0 ops cs l st K→(∀β' st' a' w',K st'→Hd ds w0 n β' st' a' w'→Q .normal a' w')→wpList P ops Q l a w
 | [],l,st,K,β,a,w,h,hx,hK=>AN hP l st K β a w h hx hK
 | (m,fr,mem)::cs,l,st,K,β,a,w,h,hx,hK=>by
  have:=nz (ops:=ops) (Q:=Q) (l.drop m) hP (l.take m) st _ β a w h hx.1 fun β' st' a' w' hs h'=>by obtain⟨β3,h3⟩:=h'.same hs;exact AO hP cs (l.drop m) ⟨fr,mem⟩ K β3 a' w' h3 hx.2 hK
  rwa [List.take_append_drop]at this
theorem gO(hm:P.follows .mixedOrders=true):∀(c:Code) (H:List (Nat×Hint)) (L:List Loop) (st:St) (K:Exit→St→Prop) (β:Env) (a:Act) (w:World),Hd ds w0 n β st a w→lj P n w0 c H L st K→c.wp P (lift ds w0 n K) a w
 |.skip,H,L,st,K,β,a,w,h,hx=>wp_skip ⟨β,st,hx,h⟩
 |.region id ops draw,H,L,st,K,β,a,w,h,hx=>by
  unfold lj at hx;cases draw with
  |false=>exact wp_region_list (AO (fun chain a w' hd hp hc=>⟨hd,hp,hc⟩) _ ops.toList st (K .normal) β a w h hx fun β' st' a' w' hk h'=>⟨β',st',hk,h'⟩)
  |true=>
   split at hx
   ·rename_i hb;cases hb
   ·split at hx
    ·exact wp_region_any hm (yu (fun chain a w' hd hp hc=>⟨hd,hp,hc⟩) _ _ _ _ β a _ (h.later (ah.refl [] w).drew) hx fun β' st' a' w' hk h'=>⟨β',st',hk,h'⟩)
    ·have:=GW (id:=id) (Q:=lift ds w0 n K) hm h hx (fun chain a w' hd hp hc=>⟨hd,hp,hc⟩) fun β' st' a' w' hk h'=>⟨β',st',hk,h'⟩
     simpa using this
 |.seq x y,H,L,st,K,β,a,w,h,hx=>by
  unfold lj at hx;refine wp_seq (Code.wp_mono (fun e a' w' hq=>?_) (gO hm x H L st _ β a w h hx));cases e with
  |normal=>obtain⟨β',st',hk,h'⟩:=hq;exact gO hm y H _ st' K β' a' w' h' hk
  |exit id=>obtain⟨β',st',hk,h'⟩:=hq;exact⟨β',st',hk,h'⟩
  |goto l=>obtain⟨β',st',hk,h'⟩:=hq;exact⟨β',st',hk,h'⟩
  |ret=>obtain⟨β',st',hk,h'⟩:=hq;exact⟨β',st',hk,h'⟩
  |panic c=>exact hq
  |outgrown=>obtain⟨β',st',hk,h'⟩:=hq;exact⟨β',st',hk,h'⟩
 |.cond c x y,H,L,st,K,β,a,w,h,hx=>by
  unfold lj at hx;split at hx
  ·split at hx
   ·rename_i b hb
    have hc:a.eval c=.bool b:=h.eval hb;cases b with
    |true=>exact wp_cond_true hc (gO hm x H L st K β a w h hx)
    |false=>exact wp_cond_false hc (gO hm y H _ st K β a w h hx)
   ·exact nomatch hx
  ·rename_i q _
   split at hx
   ·rename_i b hb
    have hc:a.eval c=.bool b:=h.eval hb;obtain⟨hx,hk⟩:=hx;cases b with
    |true=>exact wp_cond_true hc (Code.wp_mono (fun e a' w' hq=>EM hk hq) (gO hm x H L st _ β a w h hx))
    |false=>exact wp_cond_false hc (Code.wp_mono (fun e a' w' hq=>EM hk hq) (gO hm y H _ st _ β a w h hx))
   ·exact nomatch hx
 |.block id c,H,L,st,K,β,a,w,h,hx=>by
  unfold lj at hx;refine wp_block (Code.wp_mono (fun e a' w' hq=>?_) (gO hm c H L st _ β a w h hx));cases e with
  |exit i=>
   obtain⟨β',st',hk,h'⟩:=hq;simp only at hk;split at hk
   ·rename_i hb
    simp only[Exit.inBlock,VJ hb,if_true];exact⟨β',st',hk,h'⟩
   ·rename_i hb
    have:i≠id:=fun h=>by rw[h,Wk]at hb;cases hb
    simp only[Exit.inBlock,this,if_false];exact⟨β',st',hk,h'⟩
  |normal=>obtain⟨β',st',hk,h'⟩:=hq;exact⟨β',st',hk,h'⟩
  |goto l=>obtain⟨β',st',hk,h'⟩:=hq;exact⟨β',st',hk,h'⟩
  |ret=>obtain⟨β',st',hk,h'⟩:=hq;exact⟨β',st',hk,h'⟩
  |panic c=>exact hq
  |outgrown=>obtain⟨β',st',hk,h'⟩:=hq;exact⟨β',st',hk,h'⟩
 |.scope c,H,L,st,K,β,a,w,h,hx=>by
  unfold lj at hx;refine wp_scope_straight (Code.wp_mono (fun e a' w' hq=>?_) (gO hm c H L st _ β a w h hx));cases e with
  |goto l=>obtain⟨β',st',hk,h'⟩:=hq;exact hk
  |normal=>obtain⟨β',st',hk,h'⟩:=hq;exact⟨β',st',hk,h'⟩
  |exit id=>obtain⟨β',st',hk,h'⟩:=hq;exact⟨β',st',hk,h'⟩
  |ret=>obtain⟨β',st',hk,h'⟩:=hq;exact⟨β',st',hk,h'⟩
  |panic c=>exact hq
  |outgrown=>obtain⟨β',st',hk,h'⟩:=hq;exact⟨β',st',hk,h'⟩
 |.loop c,H,L,st,K,β,a,w,h,hx=>by
  unfold lj at hx;split at hx
  ·rename_i κ k0 R fr mem next μ ι Ro fro memo which rest
   obtain⟨h0,hs,hround,hout⟩:=hx;obtain⟨β0,h00⟩:=h.same hs;refine wp_loop_ghost (fun m a w=>∃β k,μ k=m∧R k∧Hd ds w0 n β ⟨fr k,mem k⟩ a w) (μ k0) ⟨β0,k0,rfl,h0,h00⟩ ?_;rintro m a' w' ⟨β',k,rfl,hR,h'⟩;obtain⟨H',L',hround⟩:=hround k hR;refine Code.wp_mono (fun e a2 w2 hq=>?_) (gO hm c _ _ _ _ β' a' w' h' hround);cases e with
   |normal=>obtain⟨β2,st2,hk,h2⟩:=hq;obtain⟨β3,h3⟩:=h2.same hk.2.2;exact⟨μ (next k),hk.2.1,β3,next k,rfl,hk.1,h3⟩
   |exit id=>
    obtain⟨β2,st2,hk,h2⟩:=hq;simp only[ia]at hk;split at hk
    ·rename_i hb
     rw[VJ hb];obtain⟨β3,h3⟩:=h2.same hk.2;exact⟨β3,_,hout _ hk.1,h3⟩
    ·exact nomatch hk
   |goto l=>obtain⟨β2,st2,hk,h2⟩:=hq;exact hk.elim
   |ret=>obtain⟨β2,st2,hk,h2⟩:=hq;exact⟨β2,st2,hk,h2⟩
   |panic c=>exact hq
   |outgrown=>obtain⟨β2,st2,hk,h2⟩:=hq;exact hk.elim
  ·rename_i κ k0 R fr mem next μ rest
   obtain⟨h0,hs,hround,_⟩:=hx;obtain⟨β0,h00⟩:=h.same hs;refine wp_loop_ghost (fun m a w=>∃β k,μ k=m∧R k∧Hd ds w0 n β ⟨fr k,mem k⟩ a w) (μ k0) ⟨β0,k0,rfl,h0,h00⟩ ?_;rintro m a' w' ⟨β',k,rfl,hR,h'⟩;obtain⟨H',L',hround⟩:=hround k hR;refine Code.wp_mono (fun e a2 w2 hq=>?_) (gO hm c _ _ _ _ β' a' w' h' hround);cases e with
   |normal=>obtain⟨β2,st2,hk,h2⟩:=hq;obtain⟨β3,h3⟩:=h2.same hk.2.2;exact⟨μ (next k),hk.2.1,β3,next k,rfl,hk.1,h3⟩
   |exit id=>
    obtain⟨β2,st2,hk,h2⟩:=hq;simp only[ia]at hk;split at hk
    ·exact hk.1.elim
    ·exact nomatch hk
   |goto l=>obtain⟨β2,st2,hk,h2⟩:=hq;exact hk.elim
   |ret=>obtain⟨β2,st2,hk,h2⟩:=hq;exact⟨β2,st2,hk,h2⟩
   |panic c=>exact hq
   |outgrown=>obtain⟨β2,st2,hk,h2⟩:=hq;exact hk.elim
  ·rename_i hs rest
   refine wp_loop_ghost (fun m a w=>∃(β:Env) (st:St) (r:List (List (Nat×Hint))),r.length=m∧(su (fun H' st' K'=>lj P n w0 c H' [] st' K') K r st)∧Hd ds w0 n β st a w) hs.length ⟨β,st,hs,rfl,hx,h⟩ ?_;rintro m a' w' ⟨β',st',r,rfl,hx',h'⟩;cases r with
   |nil=>unfold su at hx';exact nomatch hx'
   |cons hh r=>
    unfold su at hx';refine Code.wp_mono (fun e a2 w2 hq=>?_) (gO hm c _ _ _ _ β' a' w' h' hx');cases e with
    |normal=>obtain⟨β2,st2,hk,h2⟩:=hq;exact⟨r.length,by simp,β2,st2,r,rfl,hk,h2⟩
    |exit id=>obtain⟨β2,st2,hk,h2⟩:=hq;exact⟨β2,st2,hk,h2⟩
    |goto l=>obtain⟨β2,st2,hk,h2⟩:=hq;exact hk.elim
    |ret=>obtain⟨β2,st2,hk,h2⟩:=hq;exact⟨β2,st2,hk,h2⟩
    |panic c=>exact hq
    |outgrown=>obtain⟨β2,st2,hk,h2⟩:=hq;exact hk.elim
  ·exact nomatch hx
 |.exit id,H,L,st,K,β,a,w,h,hx=>wp_exit ⟨β,st,hx,h⟩
 |.label l,H,L,st,K,β,a,w,h,hx=>wp_label ⟨β,st,hx,h⟩
 |.ret,H,L,st,K,β,a,w,h,hx=>wp_ret ⟨β,st,hx,h⟩
 |.rangeFunc ..,_,_,_,_,_,_,_,_,hx=>by unfold lj at hx;exact nomatch hx
 |.goto l,H,L,st,K,β,a,w,h,hx=>wp_goto ⟨β,st,hx,h⟩
 |.refuse _,_,_,_,_,_,_,_,_,hx=>by unfold lj at hx;exact nomatch hx
def uU:Nat→List Value→List (Nat×SV)
 |_,[]=>[]
 |k,v::r=>(k,.val v)::uU (k+1) r
theorem ow:∀{vs:List Value} {k t:Nat} {sv:SV},look (uU k vs) t=some sv→∃v,sv=.val v∧k≤t∧vs[t - k]?=some v
 |v::r,k,t,sv,h=>by
  rw[uU,eQ]at h;split at h
  ·rename_i hk
   exact⟨v,(VN.inj h).symm,by omega,by rw[show t - k=0 by omega]; rfl⟩
  ·obtain⟨u,h1,h2,h3⟩:=ow h
   refine⟨u,h1,by omega,?_⟩;rw[show t - k=(t - (k+1))+1 by omega,VP];exact h3
def iN(P:Program)(st:St):List ResultVar→Option (List SV)
 | []=>some []
 |.tmp t::r=>match look st.fr t with
  |some sv=>match iN P st r with
   |some l=>some (sv::l)
   |none=>none
  |none=>none
 |.cell b t::r=>match look st.fr b with
  |some (.ptr i off)=>match st.mem[i]? with
   |some row=>match cw P t row off with
    |.val sv _=>match iN P st r with
     |some l=>some (sv::l)
     |none=>none
    |_=>none
   |none=>none
  |_=>none
def qe:List SV→Option (List Value)
 | []=>some []
 |sv::r=>match sv with
  |.val v=>match qe r with
   |some l=>some (v::l)
   |none=>none
  |_=>none
def Em:List SV→Option (List Value×Nat×List Value)
 | []=>none
 |sv::r=>match sv with
  |.val v=>match Em r with
   |some (l,i,q)=>some (v::l,i,q)
   |none=>none
  |.own i=>match qe r with
   |some q=>some ([],i,q)
   |none=>none
  |_=>none
def kz:List Value→Value
 | [v]=>v
 |vs=>.tuple vs.toArray
theorem CE{t:TypeId}{row:Row}{off:Nat}{sv:SV}{ob:Option Prop}(h:cw P t row off=.val sv ob):ob=none:=by
 unfold cw at h;repeat' (split at h)
 all_goals first | (cases h;done) | (injection h with _ h;exact h.symm)
def qP(mem:List Row)(l:List SV):Option jy:=match qe l with
 |some vs=>some (.val (kz vs))
 |none=>match Em l with
  |some (pre,i,post)=>match mem[i]? with
   |some r=>match r.cs with
    |.own size n xs=>match pre,post with
     | [],[]=>some (.sl r.ty size n xs)
     |_,_=>some (.vh pre r.ty size n xs post)
    |_=>none
   |none=>none
  |none=>none
theorem CD{β:Env}{w:World}{t:TypeId}{i off:Nat}{row:Row}{sv:SV}{ob:Option Prop}(hb:aT β w i row)(h:cw P t row off=.val sv ob):(loadVar t ⟨β i,off,none⟩).run P w=.ok (sv.den β) w:=by
 have ho:=EF (P:=P) (β:=β) (W:=w) (a:=⟨#[.pointer (some ⟨β i,off,none⟩)],[]⟩) (o:=⟨none,.load t (.tmp 0),0, "",#[],none⟩) (t:=t) (x:=.tmp 0) (off:=off) rfl rfl hb;rw[h]at ho;have ho:=ho (fun p hp=>by rw[CE h]at hp;cases hp);simp only[execOp,Act.eval,Wc]at ho;rw[show((#[Value.pointer (some ⟨β i,off,none⟩)]:Array Value).getD 0 undef)=.pointer (some ⟨β i,off,none⟩)from rfl,oX]at ho;cases hr:(loadVar t ⟨β i,off,none⟩).run P w with
 |ok u w'=>rw[hr]at ho;simp only[VQ,Wb]at ho;injection ho with h1 h2;injection h1 with h1;rw[h1,h2]
 |halt x w'=>rw[hr]at ho;cases ho
theorem lX{st:St}{β:Env}{a:Act}{w:World}(h:Hd ds w0 n β st a w){F:ResultVar→Sem Value}(hF:∀t,F (.tmp t)=pure (a.tmps.getD t undef))(hG:∀b t,F (.cell b t)=do loadVar t (←asAddr (a.tmps.getD b undef))):∀{l:List ResultVar} {vs:List SV},iN P st l=some vs→(l.mapM F).run P w=.ok (vs.map (SV.den β)) w
 | [],vs,hr=>by
  have:vs=[]:=by simpa[iN]using hr.symm
  subst this;rfl
 |.tmp t::r,vs,hr=>by
  rw[iN]at hr;split at hr
  ·rename_i v hv
   split at hr
   ·rename_i us hu
    cases hr;have h1:=h.get t _ hv;have ih:=lX h hF hG hu;rw[WG,hF];simp only[Wc,Wb,VQ,ih];simp[h1]
   ·cases hr
  ·cases hr
 |.cell b t::r,vs,hr=>by
  rw[iN]at hr;split at hr
  ·rename_i i off hv
   split at hr
   ·rename_i row hrow
    split at hr
    ·rename_i v ob hl
     split at hr
     ·rename_i us hu
      cases hr;have h1:=h.get b _ hv;have ih:=lX h hF hG hu;have h2:=CD (h.bY i row hrow) hl;have h3:a.tmps.getD b undef=.pointer (some ⟨β i,off,none⟩):=by simp[h1,SV.den]
      rw[WG,hG,h3];simp only[Wc,asAddr,Wb,VQ,h2,ih,VY]
     ·cases hr
    ·cases hr
   ·cases hr
  ·cases hr
theorem nX{β:Env}:∀{l:List SV} {vs:List Value},qe l=some vs→l.map (SV.den β)=vs
 | [],vs,h=>by
  have:vs=[]:=by simpa[qe]using h.symm
  subst this;rfl
 |sv::r,vs,h=>by
  unfold qe at h;split at h
  ·split at h
   ·rename_i l hl
    cases h;rw[VY,nX hl];rfl
   ·cases h
  ·cases h
theorem vX{β:Env}:∀{l:List SV} {pre post:List Value} {i:Nat},Em l=some (pre,i,post)→l.map (SV.den β)=pre++β.sl i::post
 |sv::r,pre,post,i,h=>by
  unfold Em at h;split at h
  ·split at h
   ·rename_i l i' q hl
    cases h;rw[VY,vX hl];rfl
   ·cases h
  ·split at h
   ·rename_i q hq
    cases h;rw[VY,nX hq];rfl
   ·cases h
  ·cases h
def lW(b:aY)(r:jy)(e:Ending)(w':World):Prop:=match r with
 |.val v=>e=.returned v∧ah b.S b.w w'
 |.sl T size n xs=>∃s,e=.returned s∧Own w' T size s n xs∧(∀k,s.ownBlock=some k→k∈b.S∨b.w.heap.size≤k)∧ah b.S b.w w'
 |.vh pre T size n xs post=>∃s,e=.returned (.tuple (pre++s::post).toArray)∧Own w' T size s n xs∧(∀k,s.ownBlock=some k→k∈b.S∨b.w.heap.size≤k)∧ah b.S b.w w'
theorem sU{w w':World}{PP:List PanicEntry→World→Prop}{r:jy}{e:Ending}(h:lW ⟨w,[],PP⟩ r e w'):eC w r e w':=by
 cases r with
 |val v=>exact h
 |sl T size n xs=>obtain⟨s,he,ho,hk,hc⟩:=h;exact⟨s,he,ho,fun k h=>(hk k h).resolve_left (by simp),hc⟩
 |vh pre T size n xs post=>obtain⟨s,he,ho,hk,hc⟩:=h;exact⟨s,he,ho,fun k h=>(hk k h).resolve_left (by simp),hc⟩
theorem zG{st:St}{β:Env}{a:Act}{w:World}{l:List SV}{r:jy}(h:Hd ds w0 n β st a w)(hr:qP st.mem l=some r):lW w0 r (.returned (kz (l.map (SV.den β)))) w:=by
 unfold qP at hr;split at hr
 ·rename_i vs hvs
  cases hr;rw[nX hvs];exact⟨rfl,h.aD⟩
 ·split at hr
  ·rename_i pre i post hown
   split at hr
   ·rename_i row hrow
    have hh:=h.bY i row hrow;have hnew:=h.new i row;split at hr
    ·rename_i size nn xs hcs
     unfold aT at hh;rw[hcs]at hh;have hacc:Own w row.ty size (β.sl i) nn xs∧(∀k,(β.sl i).ownBlock=some k→k∈w0.S∨w0.w.heap.size≤k)∧ah w0.S w0.w w:=by refine⟨by unfold Env.sl;rw[hh.1];exact hh.2,fun k hk=>hnew k hrow ?_,h.aD⟩;unfold av;rw[hcs];rw[←hk,←np (n:=β.n i)];rfl
     rw[vX hown];split at hr
     ·cases hr
      exact⟨_,rfl,hacc⟩
     ·rename_i hne
      cases hr;refine⟨_,?_,hacc⟩;cases pre with
      |nil=>cases post with
       |nil=>exact absurd rfl (hne rfl)
       |cons x y=>rfl
      |cons x y=>cases y<;>rfl
    ·cases hr
   ·cases hr
  ·cases hr
def qG(P:Program)(fn:Func)(R:jy→Prop):Exit→St→Prop
 |.normal,st=>match iN P st fn.results.toList with
  |some l=>match qP st.mem l with
   |some r=>R r
   |none=>cj st
  |none=>cj st
 |.ret,st=>match iN P st fn.results.toList with
  |some l=>match qP st.mem l with
   |some r=>R r
   |none=>cj st
  |none=>cj st
 |_,_=>False
def MC(R:Value→Prop):jy→Prop
 |.val v=>R v
 |_=>False
def atEnd(P:Program)(fn:Func)(R:Value→Prop):Exit→St→Prop:=qG P fn (MC R)
theorem Lt{fn:Func}{R:jy→Prop}{e:Exit}{a:Act}{w:World}(h:lift [] w0 n (qG P fn R) e a w):bodyPost P fn (fun e w'=>(∃r,R r∧lW w0 r e w')∨∃chain,e=.panicked chain∧w0.PP chain w'∧ah w0.S w0.w w') e a w:=by
 have main:∀{β st},Hd [] w0 n β st a w→(match iN P st fn.results.toList with|some l=>(match qP st.mem l with|some r=>R r|none=>cj st)|none=>cj st:Prop)→a.defers=[]∧∃v,(results fn a.tmps).run P w=.ok v w∧((∃r,R r∧lW w0 r (.returned v) w)∨∃chain,Ending.returned v=.panicked chain∧w0.PP chain w∧ah w0.S w0.w w):=by
  intro β st h hk;split at hk
  ·rename_i l hl
   split at hk
   ·rename_i r hr
    refine⟨h.dn,kz (l.map (SV.den β)),?_,.inl ⟨r,hk,zG h hr⟩⟩;unfold results;rw[Wa];simp only[Wc,map_eq_pure_bind,Wb];rw[lX (P:=P) h (fun _=>rfl) (fun _ _=>rfl) hl];simp only[VQ];congr 1;generalize l.map (SV.den β)=vs;match vs with
    | []=>rfl
    | [v]=>rfl
    |v::u::r=>simp[kz]
   ·exact nomatch hk
  ·exact nomatch hk
 cases e with
 |normal=>obtain⟨β,st,hk,h⟩:=h;exact main h hk
 |ret=>obtain⟨β,st,hk,h⟩:=h;exact main h hk
 |exit _=>obtain⟨_,_,hk,_⟩:=h;exact hk.elim
 |goto _=>obtain⟨_,_,hk,_⟩:=h;exact hk.elim
 |panic chain=>exact⟨h.1,.inr ⟨chain,rfl,h.2⟩⟩
 |outgrown=>obtain⟨_,_,hk,_⟩:=h;exact hk.elim
theorem xj{w0:World}{f:FuncId}{fn:Func}{c:Code}{args:List Value}{R:jy→Prop}(H:List (Nat×Hint))(L:List Loop)(hm:P.follows .mixedOrders=true)(hf:P.funcs[f]?=some fn)(hb:fn.body=some c)(hn:args.length≤fn.ntmps)
  (hx:ex P fn.ntmps w0 c H L ⟨uU 0 args,[]⟩ (qG P fn R)):Calls P f args.toArray w0 fun e w'=>∃r,R r∧eC w0 r e w':=by
 refine(calls_of_wp hf hb (Code.wp_mono (fun e a w hq=>Lt hq) (gO (w0:=⟨w0,[],fun _ _=>False⟩) (n:=fn.ntmps) hm c H L _ _ ⟨fun _=>0,fun _=>none,fun _=>0,fun _=>0⟩ _ w0 ?_ hx))).mono fun e w' hq=>by
  rcases hq with⟨r,hr,hp⟩ | ⟨chain,_,hp,_⟩
  ·exact⟨r,hr,sU hp⟩
  ·exact hp.elim
 refine⟨by simp;omega,rfl,fun t sv ht=>?_,fun i r hi=>by simp at hi,fun i r k hi=>by simp at hi,fun i j r r' k hi=>by simp at hi,ah.refl _ _,fun t sv ht=>?_,fun i r hi=>by simp at hi⟩
 ·obtain⟨v,rfl,_,hv⟩:=ow ht
  have hlt:t < args.length:=(VE.1 hv).1;rw[VZ (by simpa using hlt)];simpa[SV.den]using hv
 ·obtain⟨v,rfl,_⟩:=ow ht
  trivial
theorem xk{w0:World}{f:FuncId}{fn:Func}{c:Code}{args:List Value}{u:jy}(H:List (Nat×Hint))(L:List Loop)(hm:P.follows .mixedOrders=true)(hf:P.funcs[f]?=some fn)(hb:fn.body=some c)(hn:args.length≤fn.ntmps)
  (hx:ex P fn.ntmps w0 c H L ⟨uU 0 args,[]⟩ (qG P fn fun v=>v=u)):Calls P f args.toArray w0 (eC w0 u):=
 (xj H L hm hf hb hn hx).mono fun _ _ ⟨_,he,hp⟩=>he ▸ hp
theorem Ld{w0:World}{f:FuncId}{fn:Func}{c:Code}{args:List Value}{R:Value→Prop}(H:List (Nat×Hint))(L:List Loop)(hm:P.follows .mixedOrders=true)(hf:P.funcs[f]?=some fn)(hb:fn.body=some c)(hn:args.length≤fn.ntmps)
  (hx:ex P fn.ntmps w0 c H L ⟨uU 0 args,[]⟩ (atEnd P fn R)):Calls P f args.toArray w0 fun e w'=>∃v,e=.returned v∧R v∧ah [] w0 w':=
 (xj H L hm hf hb hn hx).mono fun e w' ⟨r,hr,hp⟩=>by
  cases r with
  |val v=>exact⟨v,hp.1,hr,hp.2⟩
  |sl _ _ _ _=>exact hr.elim
  |vh _ _ _ _ _ _=>exact hr.elim
theorem bX{w0:World}{f:FuncId}{fn:Func}{c:Code}{args:List Value}{u:Value}(H:List (Nat×Hint))(L:List Loop)(hm:P.follows .mixedOrders=true)(hf:P.funcs[f]?=some fn)(hb:fn.body=some c)(hn:args.length≤fn.ntmps)
  (hx:ex P fn.ntmps w0 c H L ⟨uU 0 args,[]⟩ (atEnd P fn fun v=>v=u)):Calls P f args.toArray w0 (Rn w0 u):=
 (Ld H L hm hf hb hn hx).mono fun _ _ ⟨_,he,hv,hc⟩=>⟨by rw[he,hv],hc⟩
def jo:List Row→List (Nat×TypeId×List Value)
 | []=>[]
 |r::l=>match r.cs with
  |.dj g cs=>(g,r.ty,cs)::jo l
  |_=>jo l
theorem rl:∀{mem:List Row} {q:Nat×TypeId×List Value},q∈jo mem→∃(i:Nat) (r:Row),mem[i]?=some r∧r.ty=q.2.1∧r.cs=.dj q.1 q.2.2
 | [],_,h=>by cases h
 |r::l,q,h=>by
  have tail:q∈jo l→∃(i:Nat) (r':Row),(r::l)[i]?=some r'∧r'.ty=q.2.1∧r'.cs=.dj q.1 q.2.2:=fun h=>by obtain⟨i,r',h1,h2⟩:=rl h;exact⟨i+1,r',by simpa using h1,h2⟩
  unfold jo at h;split at h
  ·rename_i g cs hcs
   rcases VR.1 h with rfl|h
   ·exact⟨0,r,rfl,rfl,hcs⟩
   ·exact tail h
  ·exact tail h
def uR(P:Program)(fn:Func)(R:jy→List (Nat×TypeId×List Value)→Prop):Exit→St→Prop
 |.normal,st=>match iN P st fn.results.toList with
  |some l=>match qP st.mem l with
   |some r=>R r (jo st.mem)
   |none=>cj st
  |none=>cj st
 |.ret,st=>match iN P st fn.results.toList with
  |some l=>match qP st.mem l with
   |some r=>R r (jo st.mem)
   |none=>cj st
  |none=>cj st
 |_,_=>False
def gb(b:aY)(R:jy→List (Nat×TypeId×List Value)→Prop)(e:Ending)(w':World):Prop:=
 (∃r gl,R r gl∧lW b r e w'∧∀q∈gl,aq w' q.1 q.2.1 q.2.2)∨∃chain,e=.panicked chain∧b.PP chain w'∧ah b.S b.w w'
theorem Hs{fn:Func}{R:jy→List (Nat×TypeId×List Value)→Prop}{e:Exit}{a:Act}{w:World}(h:lift [] w0 n (uR P fn R) e a w):bodyPost P fn (gb w0 R) e a w:=by
 have main:∀{β st},Hd [] w0 n β st a w→(match iN P st fn.results.toList with|some l=>(match qP st.mem l with|some r=>R r (jo st.mem)|none=>cj st)|none=>cj st:Prop)→a.defers=[]∧∃v,(results fn a.tmps).run P w=.ok v w∧gb w0 R (.returned v) w:=by
  intro β st h hk;split at hk
  ·rename_i l hl
   split at hk
   ·rename_i r hr
    refine⟨h.dn,kz (l.map (SV.den β)),?_,.inl ⟨r,_,hk,zG h hr,fun q hq=>?_⟩⟩
    ·unfold results
     rw[Wa];simp only[Wc,map_eq_pure_bind,Wb];rw[lX (P:=P) h (fun _=>rfl) (fun _ _=>rfl) hl];simp only[VQ];congr 1;generalize l.map (SV.den β)=vs;match vs with
     | []=>rfl
     | [v]=>rfl
     |v::u::r=>simp[kz]
    ·obtain⟨i,r',hi,hty,hcs⟩:=rl hq
     have hh:=h.bY i r' hi;unfold aT at hh;rw[hcs]at hh;rw[←hty];have h2:=hh.2;rw[hh.1]at h2;exact h2
   ·exact nomatch hk
  ·exact nomatch hk
 cases e with
 |normal=>obtain⟨β,st,hk,h⟩:=h;exact main h hk
 |ret=>obtain⟨β,st,hk,h⟩:=h;exact main h hk
 |exit _=>obtain⟨_,_,hk,_⟩:=h;exact hk.elim
 |goto _=>obtain⟨_,_,hk,_⟩:=h;exact hk.elim
 |panic chain=>exact⟨h.1,.inr ⟨chain,rfl,h.2⟩⟩
 |outgrown=>obtain⟨_,_,hk,_⟩:=h;exact hk.elim
def lB:Nat→List SV→List (Nat×SV)
 |_,[]=>[]
 |k,v::r=>(k,v)::lB (k+1) r
def TD(m:Nat):SV→Bool
 |.val _=>true
 |.ptr i _=>We i m
 |_=>false
theorem fC:∀{vs:List SV} {k t:Nat} {sv:SV},look (lB k vs) t=some sv→k≤t∧vs[t - k]?=some sv
 |v::r,k,t,sv,h=>by
  rw[lB,eQ]at h;split at h
  ·rename_i hk
   rw[bS h];exact⟨by omega,by rw[show t - k=0 by omega]; rfl⟩
  ·obtain⟨h2,h3⟩:=fC h
   refine⟨by omega,?_⟩;rw[show t - k=(t - (k+1))+1 by omega,VP];exact h3
def pb(G:List (Nat×TypeId×List Value)):List Row:=G.map fun q=>⟨q.2.1,.dj q.1 q.2.2⟩
def yr(G:List (Nat×TypeId×List Value)):Env:=⟨fun i=>match G[i]? with
 |some q=>q.1
 |none=>0,fun _=>none,fun _=>0,fun _=>0⟩
theorem gC{w:World}{f:FuncId}{fn:Func}{c:Code}(G:List (Nat×TypeId×List Value))(hG:∀q∈G,aq w q.1 q.2.1 q.2.2)(hd:(G.map (·.1)).Nodup)(PP:List PanicEntry→World→Prop){args:List SV}{R:jy→List (Nat×TypeId×List Value)→Prop}
  (H:List (Nat×Hint)) (L:List Loop) (hm:P.follows .mixedOrders=true) (hf:P.funcs[f]?=some fn) (hb:fn.body=some c) (hn:args.length≤fn.ntmps) (ha:eJ (TD G.length) args=true)
  (hx:lj P fn.ntmps ⟨w,G.map (·.1),PP⟩ c H L ⟨lB 0 args,pb G⟩ (uR P fn R)):Calls P f (args.map (SV.den (yr G))).toArray w (gb ⟨w,G.map (·.1),PP⟩ R):=by
 have rowAt:∀(i:Nat) (r:Row),(pb G)[i]?=some r→∃q,G[i]?=some q∧r=⟨q.2.1,.dj q.1 q.2.2⟩:=fun i r hi=>by
  unfold pb at hi;rw[VW]at hi;cases hq:G[i]? with
  |none=>rw[hq]at hi;cases hi
  |some q=>rw[hq]at hi;exact⟨q,rfl,by simpa using hi.symm⟩
 have envAt:∀(i:Nat) (q:Nat×TypeId×List Value),G[i]?=some q→(yr G) i=q.1:=fun i q hq=>by show(match G[i]? with|some q=>q.1|none=>0)=q.1;rw[hq]
 refine calls_of_wp hf hb (Code.wp_mono (fun e a w hq=>Hs hq) (gO (w0:=⟨w,G.map (·.1),PP⟩) (n:=fn.ntmps) hm c H L _ _ (yr G) _ w ?_ hx));have blkAt:∀(i:Nat) (r:Row) (k:Nat),(pb G)[i]?=some r→av (yr G) i r=some k→∃q,G[i]?=some q∧k=q.1:=fun i r k hi hk=>by obtain⟨q,hq,rfl⟩:=rowAt i r hi;refine⟨q,hq,?_⟩;have:some ((yr G) i)=some k:=hk;rw[envAt i q hq]at this;exact(VN.inj this).symm
 refine⟨by simp;omega,rfl,fun t sv ht=>?_,fun i r hi=>?_,fun i r k hi hk=>?_,fun i j r r' k hi hj hk hk'=>?_,ah.refl _ _,fun t sv ht=>?_,fun i r hi=>?_⟩
 ·obtain⟨_,hv⟩:=fC ht
  have hlt:t < args.length:=(VE.1 hv).1;rw[VZ (by simpa using hlt)];simp only[WK]at hv;simp[hv]
 ·obtain⟨q,hq,rfl⟩:=rowAt i r hi
  show(yr G) i=q.1∧aq w ((yr G) i) q.2.1 q.2.2;rw[envAt i q hq];exact⟨rfl,hG q (VK hq)⟩
 ·obtain⟨q,hq,rfl⟩:=blkAt i r k hi hk
  exact .inl (WJ.2 ⟨q,VK hq,rfl⟩)
 ·obtain⟨q,hq,rfl⟩:=blkAt i r k hi hk
  obtain⟨q',hq',he⟩:=blkAt j r' _ hj hk';have h1:(G.map (·.1))[i]?=some q.1:=by rw[VW,hq];rfl
  have h2:(G.map (·.1))[j]?=some q.1:=by rw[VW,hq',he];rfl
  obtain⟨l1,e1⟩:=VE.1 h1;obtain⟨l2,e2⟩:=VE.1 h2;have e:=e1.trans e2.symm;have hp:=List.pairwise_iff_getElem.1 hd;exact Decidable.byContradiction fun hne=>by
   rcases Nat.lt_or_gt_of_ne hne with hl|hl
   ·exact hp _ _ l1 l2 hl e
   ·exact hp _ _ l2 l1 hl e.symm
 ·obtain⟨_,hv⟩:=fC ht
  have:=aQ ha sv (VK hv);cases sv with
  |val v=>trivial
  |ptr i off=>have h:i < G.length:=VM this;show i < (pb G).length;unfold pb;rw[List.length_map];exact h
  |lO _ _ _ _=>cases this
  |own _=>cases this
  |kT _ _=>cases this
  |vh _ _ _=>cases this
  |jJ _ _ _ _=>cases this
  |gone=>cases this
  |dG _=>cases this
  |Fe _ _=>cases this
  |jK _ _ _=>cases this
  |kG _=>cases this
  |dQ _ _ _=>cases this
 ·obtain⟨q,_,rfl⟩:=rowAt i r hi
  trivial
structure Rows(b:aY)(β:Env)(w:World)(mem:List Row):Prop where
 held:∀(i:Nat) (r:Row),mem[i]?=some r→aT β w i r
 new:∀(i:Nat) (r:Row) (k:Nat),mem[i]?=some r→av β i r=some k→k∈b.S∨b.w.heap.size≤k
 inj:∀(i j:Nat) (r r':Row) (k:Nat),mem[i]?=some r→mem[j]?=some r'→av β i r=some k→av β j r'=some k→i=j
 aD:ah b.S b.w w
def eX(P:Program)(fn:Func)(R:List SV→List Row→Prop):Exit→St→Prop
 |.normal,st=>match iN P st fn.results.toList with
  |some l=>R l st.mem
  |none=>cj st
 |.ret,st=>match iN P st fn.results.toList with
  |some l=>R l st.mem
  |none=>cj st
 |_,_=>False
def cI(b:aY)(R:List SV→List Row→Prop)(e:Ending)(w':World):Prop:=
 (∃β l mem,R l mem∧e=.returned (kz (l.map (SV.den β)))∧Rows b β w' mem)∨∃chain,e=.panicked chain∧b.PP chain w'∧ah b.S b.w w'
theorem xm{fn:Func}{R:List SV→List Row→Prop}{e:Exit}{a:Act}{w:World}(h:lift [] w0 n (eX P fn R) e a w):bodyPost P fn (cI w0 R) e a w:=by
 have main:∀{β st},Hd [] w0 n β st a w→(match iN P st fn.results.toList with|some l=>R l st.mem|none=>cj st:Prop)→a.defers=[]∧∃v,(results fn a.tmps).run P w=.ok v w∧cI w0 R (.returned v) w:=by
  intro β st h hk;split at hk
  ·rename_i l hl
   refine⟨h.dn,kz (l.map (SV.den β)),?_,.inl ⟨β,l,st.mem,hk,rfl,⟨h.bY,h.new,h.inj,h.aD⟩⟩⟩;unfold results;rw[Wa];simp only[Wc,map_eq_pure_bind,Wb];rw[lX (P:=P) h (fun _=>rfl) (fun _ _=>rfl) hl];simp only[VQ];congr 1;generalize l.map (SV.den β)=vs;match vs with
   | []=>rfl
   | [v]=>rfl
   |v::u::r=>simp[kz]
  ·exact nomatch hk
 cases e with
 |normal=>obtain⟨β,st,hk,h⟩:=h;exact main h hk
 |ret=>obtain⟨β,st,hk,h⟩:=h;exact main h hk
 |exit _=>obtain⟨_,_,hk,_⟩:=h;exact hk.elim
 |goto _=>obtain⟨_,_,hk,_⟩:=h;exact hk.elim
 |panic chain=>exact⟨h.1,.inr ⟨chain,rfl,h.2⟩⟩
 |outgrown=>obtain⟨_,_,hk,_⟩:=h;exact hk.elim
theorem bO{w:World}{f:FuncId}{fn:Func}{c:Code}{S:List Nat}{PP:List PanicEntry→World→Prop}{β:Env}{mem:List Row}{args:List SV}{R:List SV→List Row→Prop}(hF:Rows ⟨w,S,PP⟩ β w mem)
  (H:List (Nat×Hint)) (L:List Loop) (hm:P.follows .mixedOrders=true) (hf:P.funcs[f]?=some fn) (hb:fn.body=some c) (hn:args.length≤fn.ntmps) (hw:(eJ (fun r=>lk mem.length r.cs) mem&&eJ (zb mem.length) args)=true)
  (hx:lj P fn.ntmps ⟨w,S,PP⟩ c H L ⟨lB 0 args,mem⟩ (eX P fn R)):Calls P f (args.map (SV.den β)).toArray w (cI ⟨w,S,PP⟩ R):=by
 rw[VG]at hw;refine calls_of_wp hf hb (Code.wp_mono (fun e a w hq=>xm hq) (gO (w0:=⟨w,S,PP⟩) (n:=fn.ntmps) hm c H L _ _ β _ w ?_ hx));refine⟨by simp;omega,rfl,fun t sv ht=>?_,hF.held,hF.new,hF.inj,hF.aD,fun t sv ht=>?_,fun i r hi=>?_⟩
 ·obtain⟨_,hv⟩:=fC ht
  have hlt:t < args.length:=(VE.1 hv).1;rw[VZ (by simpa using hlt)];simp only[WK]at hv;simp[hv]
 ·obtain⟨_,hv⟩:=fC ht
  exact mX (aQ hw.2 sv (VK hv))
 ·exact iZ (aQ hw.1 r (VK hi))
inductive jz where
 |bY (g:Nat) (T:TypeId) (cs:List Value)
 |mL (g:Nat) (T:TypeId) (cs:List SV)
 |own (T size:Nat) (A:Option Addr) (n c:Nat) (xs:List Value)
def jz.row:jz→Row
 |.bY g T cs=>⟨T,.dj g cs⟩
 |.mL g T cs=>⟨T,.iC g cs⟩
 |.own T size _ n _ xs=>⟨T,.own size n xs⟩
def jz.block:jz→Option Nat
 |.bY g _ _=>some g
 |.mL g _ _=>some g
 |.own _ _ A _ _ _=>A.map (·.block)
def jz.Lp:Option jz→Nat
 |some (.bY g _ _)=>g
 |some (.mL g _ _)=>g
 |_=>0
def jz.eA:Option jz→Option Addr
 |some (.own _ _ A _ _ _)=>A
 |_=>none
def jz.Vc:Option jz→Nat
 |some (.own _ _ _ n _ _)=>n
 |_=>0
def jz.cap:Option jz→Nat
 |some (.own _ _ _ _ c _)=>c
 |_=>0
def cD(G:List jz):Env:=⟨fun i=>jz.Lp G[i]?,fun i=>jz.eA G[i]?,fun i=>jz.Vc G[i]?,fun i=>jz.cap G[i]?⟩
def jz.Ok(β:Env)(w:World):jz→Prop
 |.bY g T cs=>aq w g T cs
 |.mL g T cs=>aq w g T (cs.map (SV.den β))
 |.own T size A n c xs=>Own w T size (.slice A n c) n xs
theorem fT{w:World}{S:List Nat}{PP:List PanicEntry→World→Prop}{G:List jz}(h:∀q∈G,q.Ok (cD G) w)(hS:∀q∈G,∀k,q.block=some k→k∈S)(hd:(G.filterMap jz.block).Nodup):Rows ⟨w,S,PP⟩ (cD G) w (G.map jz.row):=by
 have at_:∀(i:Nat) (r:Row),(G.map jz.row)[i]?=some r→∃q,G[i]?=some q∧q∈G∧r=q.row:=fun i r hi=>by
  rw[VW]at hi;cases hq:G[i]? with
  |none=>rw[hq]at hi;cases hi
  |some q=>rw[hq]at hi;exact⟨q,rfl,VK hq,by simpa using hi.symm⟩
 have OV:∀(i:Nat) (q:jz) (k:Nat),G[i]?=some q→av (cD G) i q.row=some k→q.block=some k:=fun i q k hq hk=>by
  cases q with
  |bY g T cs=>have:some ((cD G) i)=some k:=hk;rw[←this];show some g=some (jz.Lp G[i]?);rw[hq];rfl
  |mL g T cs=>have:some ((cD G) i)=some k:=hk;rw[←this];show some g=some (jz.Lp G[i]?);rw[hq];rfl
  |own T size A n c xs=>have h:((cD G).a i).map (·.block)=some k:=hk;rw[←h];show A.map _=(jz.eA G[i]?).map _;rw[hq];rfl
 refine⟨fun i r hi=>?_,fun i r k hi hk=>?_,fun i j r r' k hi hj hk hk'=>?_,ah.refl _ _⟩
 ·obtain⟨q,hq,hm,rfl⟩:=at_ i r hi
  have:=h q hm;cases q with
  |bY g T cs=>
   have e:(cD G) i=g:=by show jz.Lp G[i]?=g;rw[hq];rfl
   show(cD G) i=g∧aq w ((cD G) i) T cs;rw[e];exact⟨rfl,this⟩
  |mL g T cs=>
   have e:(cD G) i=g:=by show jz.Lp G[i]?=g;rw[hq];rfl
   show(cD G) i=g∧aq w ((cD G) i) T (cs.map (SV.den (cD G)));rw[e];exact⟨rfl,this⟩
  |own T size A n c xs=>
   show(cD G).n i=n∧Own w T size (.slice ((cD G).a i) n ((cD G).c i)) n xs;have e1:(cD G).n i=n:=by show jz.Vc G[i]?=n;rw[hq];rfl
   have e2:(cD G).a i=A:=by show jz.eA G[i]?=A;rw[hq];rfl
   have e3:(cD G).c i=c:=by show jz.cap G[i]?=c;rw[hq];rfl
   rw[e1,e2,e3];exact⟨rfl,this⟩
 ·obtain⟨q,hq,hm,rfl⟩:=at_ i r hi
  exact .inl (hS q hm k (OV i q k hq hk))
 ·obtain⟨q,hq,hm,rfl⟩:=at_ i r hi
  obtain⟨q',hq',hm',rfl⟩:=at_ j r' hj;have h1:=OV i q k hq hk;have h2:=OV j q' k hq' hk';have key:∀(l:List jz) (i j:Nat),(l.filterMap jz.block).Nodup→∀a b,l[i]?=some a→l[j]?=some b→a.block=some k→b.block=some k→i=j:=by
   intro l;induction l with
   |nil=>intro i j _ a b ha;simp at ha
   |cons x l ih=>
    intro i j hn a b ha hb hak hbk;have noK:x.block=some k→∀(m:Nat) (c:jz),l[m]?=some c→c.block=some k→False:=fun hx m c hc hck=>by rw[Wm,hx]at hn;exact(WD.1 hn).1 (WB.2 ⟨c,VK hc,hck⟩)
    have hn':(l.filterMap jz.block).Nodup:=by
     rw[Wm]at hn;split at hn
     ·exact hn
     ·exact(WD.1 hn).2
    cases i with
    |zero=>
     have ha:x=a:=by simpa using ha
     subst ha;cases j with
     |zero=>rfl
     |succ j=>exact(noK hak j b (by simpa using hb) hbk).elim
    |succ i=>
     cases j with
     |zero=>
      have hb:x=b:=by simpa using hb
      subst hb;exact(noK hbk i a (by simpa using ha) hak).elim
     |succ j=>rw[ih i j hn' a b (by simpa using ha) (by simpa using hb) hak hbk]
  exact key G i j hd q q' hq hq' h1 h2
theorem dx{β:Env}{W w':World}{row:Nat→Option Row}{m:Nat}{g:cn}{v:Value}{e:Ending}(hn:g.new=[])(hr:g.ret=.val v)(he:e=.returned v)(hu:∀q∈g.fI,aT β w' q.1 q.2)(hc:ah (g.dE β row) W w'):DH β W row m g e w' β:=
 ⟨fun _ _=>⟨rfl,rfl,rfl,rfl⟩,by rw[he,hr];rfl,hu,fun k r h=>by rw[hn]at h;simp at h,fun k r x h=>by rw[hn]at h;simp at h,fun k k' r r' x h=>by rw[hn]at h;simp at h,hc⟩
def mJ:Code→List Code
 |.seq x y=>mJ x++mJ y
 |.cond _ x y=>mJ x++mJ y
 |.block _ c=>mJ c
 |.scope c=>mJ c
 |.loop c=>[c]
 |_=>[]
def dr(fn:Func)(i:Nat):Code:=match fn.body with
 |some c=>(mJ c).getD i .skip
 |none=>.skip
def inBody(c:Code)(i:Nat):Code:=(mJ c).getD i .skip
def VD(b:Bool)(X Y:Prop):Prop:=match b with
 |true=>X
 |false=>Y
theorem aL{b:Bool}{X Y:Prop}(hx:b=true→X)(hy:b=false→Y):VD b X Y:=by
 cases b with
 |true=>exact hx rfl
 |false=>exact hy rfl
end
end Sx
abbrev bq(n:Nat)(b:Bool):Nat×Sx.Hint:=(n,.is (.bool b))
abbrev oP(n k:Nat):Nat×Sx.Hint:=(n,.is (.int .i64 (k:Int)))
end Go.Proofs.YtnncigmpcdehnaaGreatDoor
