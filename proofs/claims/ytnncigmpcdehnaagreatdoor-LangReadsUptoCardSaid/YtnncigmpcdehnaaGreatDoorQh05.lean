import Derived.Test.YtnncigmpcdehnaaGreatDoorQh04
open List renaming getElem?_eq_some_iff→Xy,getElem?_eq_getElem→Xz,mem_of_getElem?→XE,getElem?_eq_none→XF,getElem?_cons_succ→XJ,mem_cons→XM,getElem?_append_right→XN,getElem?_append_left→XP,getElem?_map→XR,mem_cons_of_mem→XS,map_cons→XT,any_eq_true→X2,filterMap_cons→X6,mem_singleton→X7,length_append→X8,map_map→X9,eq_nil_iff_forall_not_mem→Ya,all_eq_true→Yb,length_singleton→Yh,count_replicate→Yi,count_eq_length→Yj,map_congr_left→Yk,mem_filterMap→Yl,nodup_cons→Yn,nil_append→Yo,mapM_cons→Yp,count_set→Yq,mem_map→Ys
open Bool renaming and_eq_true→XA,false_eq_true→Ym
open Array renaming getD_eq_getD_getElem?→XB,getElem?_eq_getElem→XC,replicate→XQ,getElem?_append_left→XU,mapM_eq_mapM_toList→XV,toList_setIfInBounds→Yc,getElem?_replicate→Ye,getElem?_eq_none→Yf,getElem?_toList→Yg
open Nat renaming eq_of_beq_eq_true→XD,le_of_ble_eq_true→XG,zero_add→XY,blt→XZ,le_refl→X1,ble_eq_true_of_le→X3,beq_refl→X4,beq→X5,strongRecOn→Yd,lt_irrefl→Yr,sub_zero→Yt,lt_or_ge→Yu
open Option renaming some→XH,map_some→XI,getD_some→XO,bind_some→X0
open Go.Result renaming andThen_ok→XL
open Go.Sem renaming run_pure→XW,run_bind→XX
namespace Go.Proofs.YtnncigmpcdehnaaGreatDoor
open Go Go.RowKit Go.Lib Go.Sort
namespace Sx
structure jN where
 sv:SV
 K7:List Nat
 wr:Option (Nat×Row)
 nw:Option (Nat×Row)
def EC(mem:List Row)(en:jN):List Row:=match en.wr with
 |some (i,r)=>mem.set i r
 |none=>mem
def Hn(mem:List Row)(en:jN):List Row:=match en.nw with
 |some (_,r)=>EC mem en++[r]
 |none=>EC mem en
theorem jA{mem:List Row}{en:jN}:(EC mem en).length=mem.length:=by
 unfold EC;split
 ·simp
 ·rfl
def dj(n:Nat)(st:St)(o:Oper)(en:jN):St:=(⟨st.fr,Hn st.mem en⟩:St).put n o.dst en.sv
section
variable(P:Program)(H:List (Nat×Hint))(n:Nat)(w0:bu)(ops:Array Oper)
def lJ(t:List Nat):jN:=⟨.gone,t,none,none⟩
def Si(D:List Nat)(o:Oper):Bool:=match D with
 | []=>false
 |_=>o.after.toList.any fun e=>Region.binds .any e&&CV e.on D
def ri:Cells→Bool
 |.an _=>true
 |.dG _ _=>true
 |_=>false
def zS(g:cS):Option (Value×Option (Nat×Row)):=match g.kill with
 | []=>match g.new with
  | []=>match g.ret with
   |.val v=>match g.dW with
    | []=>some (v,none)
    | [q]=>match ri q.2.cs with
     |true=>some (v,some q)
     |false=>none
    |_=>none
   |_=>none
  |_=>none
 |_=>none
def Br(p:Prop):Prop:=p
def Vg(p:Option Prop)(A B:Prop):Prop:=match p with
 |none=>A
 |some q=>Br (q→A)∧(¬q→B)
def gK:List Oper→Nat→St→List jN→List Nat→(List jN→St→List Nat→Prop)→Prop
 | [],_,st,acc,D,K=>K acc st D
 |o::l,j,st,acc,D,K=>match Si D o with
  |true=>gK l (j+1) (dj n st o (lJ [])) (acc++[lJ []]) (j::D) K
  |false=>match guardOf ops st.fr o with
   |some true=>match DD P H (ev st.fr) o with
    |.val sv=>gK l (j+1) (dj n st o ⟨sv,[],none,none⟩) (acc++[⟨sv,[],none,none⟩]) D K
    |.call f args g=>match No st.mem g with
     |true=>match zS g with
      |some p=>Tag (keyOf o) (∀W β,fD w0 β W (rowAt st.mem) g.iT→Calls P f (args.map (SV.den β)).toArray W (bK w0 β W (rowAt st.mem) st.mem.length g))∧Vg g.phi (gK l (j+1) (dj n st o ⟨.val p.1,g.iT,p.2,none⟩) (acc++[⟨.val p.1,g.iT,p.2,none⟩]) D K) (gK l (j+1) (dj n st o (lJ g.iT)) (acc++[lJ g.iT]) (j::D) K)
      |none=>cR o
     |false=>cR o
    |.jG _ _ _=>cR o
    |.IF _ _ _=>cR o
    |.no=>match fZ P w0 H (hint H o.dst) (ev st.fr) (rowAt st.mem) o with
     |.val sv ob=>qN o ob (gK l (j+1) (dj n st o ⟨sv,aF (ev st.fr) o,none,none⟩) (acc++[⟨sv,aF (ev st.fr) o,none,none⟩]) D K)
     |.call f args v=>Tag (keyOf o) (∀W,ai w0.S w0.w W→Calls P f args.toArray W (Rn W v))∧gK l (j+1) (dj n st o ⟨.val v,aF (ev st.fr) o,none,none⟩) (acc++[⟨.val v,aF (ev st.fr) o,none,none⟩]) D K
     |.alloc t cs ln=>gK l (j+1) (dj n st o ⟨nN st.mem.length ln,aF (ev st.fr) o,none,some (st.mem.length,⟨t,cs⟩)⟩) (acc++[⟨nN st.mem.length ln,aF (ev st.fr) o,none,some (st.mem.length,⟨t,cs⟩)⟩]) D K
     |.store i r ob=>qN o ob (gK l (j+1) (dj n st o ⟨.val undef,aF (ev st.fr) o,some (i,r),none⟩) (acc++[⟨.val undef,aF (ev st.fr) o,some (i,r),none⟩]) D K)
     |.eH i r ob=>qN o ob (gK l (j+1) (dj n st o ⟨.val undef,aF (ev st.fr) o,some (i,r),none⟩) (acc++[⟨.val undef,aF (ev st.fr) o,some (i,r),none⟩]) D K)
     |.grow kill t size nn xs ob=>qN o ob (gK l (j+1) (dj n st o ⟨.own st.mem.length,aF (ev st.fr) o,kill.map (·,au),some (st.mem.length,⟨t,.own size nn xs⟩)⟩) (acc++[⟨.own st.mem.length,aF (ev st.fr) o,kill.map (·,au),some (st.mem.length,⟨t,.own size nn xs⟩)⟩]) D K)
     |.ct f args r=>Tag (keyOf o) (∀W,ai w0.S w0.w W→iS (rowAt st.mem) W args fun vs=>Calls P f vs.toArray W (eh W r))∧gK l (j+1) (dj n st o ⟨iY st.mem.length r,aF (ev st.fr) o,none,(jR r).map (st.mem.length,·)⟩) (acc++[⟨iY st.mem.length r,aF (ev st.fr) o,none,(jR r).map (st.mem.length,·)⟩]) D K
     |.gi f i r=>Tag (keyOf o) (∀W,ai w0.S w0.w W→Gk (rowAt st.mem) W i fun s=>Calls P f #[s] W (ss W s r))∧gK l (j+1) (dj n st o ⟨iY st.mem.length r,aF (ev st.fr) o,some (i,au),(jR r).map (st.mem.length,·)⟩) (acc++[⟨iY st.mem.length r,aF (ev st.fr) o,some (i,au),(jR r).map (st.mem.length,·)⟩]) D K
     |.fB f args x=>match x with
      |.dW p i row v=>Tag (keyOf o) (∀W,ai w0.S w0.w W→iS (rowAt st.mem) W args fun vs=>Calls P f vs.toArray W (qJ w0 W vs (.dW p i row v)))∧gK l (j+1) (dj n st o ⟨.val v,aF (ev st.fr) o,some (i,row),none⟩) (acc++[⟨.val v,aF (ev st.fr) o,some (i,row),none⟩]) D K
      |.G9 _=>cR o
     |.bad=>cR o
   |some false=>gK l (j+1) (dj n st o ⟨.val undef,[],none,none⟩) (acc++[⟨.val undef,[],none,none⟩]) D K
   |none=>cR o
def Ev(st:St)(o:Oper)(en:jN):Prop:=
 (guardOf ops st.fr o=some false∧en=⟨.val undef,[],none,none⟩)∨
 (guardOf ops st.fr o=some true∧match DD P H (ev st.fr) o with
  |.val sv=>en=⟨sv,[],none,none⟩
  |.call f args g=>∃p,zS g=some p∧No st.mem g=true∧(∀W β,fD w0 β W (rowAt st.mem) g.iT→Calls P f (args.map (SV.den β)).toArray W (bK w0 β W (rowAt st.mem) st.mem.length g))∧(∀q,g.phi=some q→q)∧en=⟨.val p.1,g.iT,p.2,none⟩
  |.jG _ _ _=>False
  |.IF _ _ _=>False
  |.no=>match fZ P w0 H (hint H o.dst) (ev st.fr) (rowAt st.mem) o with
   |.val sv ob=>(∀p,ob=some p→p)∧en=⟨sv,aF (ev st.fr) o,none,none⟩
   |.call f args v=>(∀W,ai w0.S w0.w W→Calls P f args.toArray W (Rn W v))∧en=⟨.val v,aF (ev st.fr) o,none,none⟩
   |.alloc t cs ln=>en=⟨nN st.mem.length ln,aF (ev st.fr) o,none,some (st.mem.length,⟨t,cs⟩)⟩
   |.store i r ob=>(∀p,ob=some p→p)∧en=⟨.val undef,aF (ev st.fr) o,some (i,r),none⟩
   |.eH i r ob=>(∀p,ob=some p→p)∧en=⟨.val undef,aF (ev st.fr) o,some (i,r),none⟩
   |.grow kill t size nn xs ob=>(∀p,ob=some p→p)∧en=⟨.own st.mem.length,aF (ev st.fr) o,kill.map (·,au),some (st.mem.length,⟨t,.own size nn xs⟩)⟩
   |.ct f args r=>(∀W,ai w0.S w0.w W→iS (rowAt st.mem) W args fun vs=>Calls P f vs.toArray W (eh W r))∧en=⟨iY st.mem.length r,aF (ev st.fr) o,none,(jR r).map (st.mem.length,·)⟩
   |.gi f i r=>(∀W,ai w0.S w0.w W→Gk (rowAt st.mem) W i fun s=>Calls P f #[s] W (ss W s r))∧en=⟨iY st.mem.length r,aF (ev st.fr) o,some (i,au),(jR r).map (st.mem.length,·)⟩
   |.fB f args x=>match x with
    |.dW p i row v=>(∀W,ai w0.S w0.w W→iS (rowAt st.mem) W args fun vs=>Calls P f vs.toArray W (qJ w0 W vs (.dW p i row v)))∧en=⟨.val v,aF (ev st.fr) o,some (i,row),none⟩
    |.G9 _=>False
   |.bad=>False)
def Gs(D:List Nat)(st:St)(o:Oper)(en:jN):Prop:=en.nw=none∧en.wr=none∧((∃e∈o.after,Region.binds .any e=true∧e.on∈D)∨
 (guardOf ops st.fr o=some true∧∃f args g q,DD P H (ev st.fr) o=.call f args g∧No st.mem g=true∧g.phi=some q∧¬q∧(∀W β,fD w0 β W (rowAt st.mem) g.iT→Calls P f (args.map (SV.den β)).toArray W (bK w0 β W (rowAt st.mem) st.mem.length g))∧en.K7=g.iT)∨∃m∈D,ops.size≤m)
def yw(D:List Nat)(k:Nat)(st:St)(o:Oper)(en:jN):Prop:=(k∉D∧Ev P H w0 ops st o en)∨(k∈D∧Gs P H w0 ops D st o en)
def Lex:List Oper→Nat→St→List jN→List Nat→St→List Nat→Prop
 | [],_,st,es,D,st',D'=>es=[]∧st'=st∧D'=D
 |o::l,j,st,es,D,st',D'=>∃en es' D1,es=en::es'∧((D1=D∧Ev P H w0 ops st o en)∨(D1=j::D∧Gs P H w0 ops D st o en))∧Lex l (j+1) (dj n st o en) es' D1 st' D'
end
section
variable{P:Program}{H:List (Nat×Hint)}{n:Nat}{w0:bu}{ds:List Deferred}{ops:Array Oper}
theorem A9:∀(l:List Oper) (j:Nat) (st:St) (acc:List jN) (D:List Nat) (K:List jN→St→List Nat→Prop),gK P H n w0 ops l j st acc D K→∃es st' D',Lex P H n w0 ops l j st es D st' D'∧K (acc++es) st' D'
 | [],j,st,acc,D,K,h=>⟨[],st,D,⟨rfl,rfl,rfl⟩,by simpa[gK]using h⟩
 |o::l,j,st,acc,D,K,h=>by
  have go:∀en,Ev P H w0 ops st o en→gK P H n w0 ops l (j+1) (dj n st o en) (acc++[en]) D K→∃es st' D',Lex P H n w0 ops (o::l) j st es D st' D'∧K (acc++es) st' D':=by intro en he hx;obtain⟨es,st',D',h1,h2⟩:=A9 l _ _ _ _ K hx;exact⟨en::es,st',D',⟨en,es,D,rfl,.inl ⟨rfl,he⟩,h1⟩,by simpa using h2⟩
  have god:∀en,Gs P H w0 ops D st o en→gK P H n w0 ops l (j+1) (dj n st o en) (acc++[en]) (j::D) K→∃es st' D',Lex P H n w0 ops (o::l) j st es D st' D'∧K (acc++es) st' D':=by intro en he hx;obtain⟨es,st',D',h1,h2⟩:=A9 l _ _ _ _ K hx;exact⟨en::es,st',D',⟨en,es,j::D,rfl,.inr ⟨rfl,he⟩,h1⟩,by simpa using h2⟩
  unfold gK at h;split at h
  ·rename_i hd
   refine god _ ⟨rfl,rfl,.inl ?_⟩ h;unfold Si at hd;split at hd
   ·cases hd
   ·obtain⟨e,he,hb⟩:=X2.1 hd
    rw[XA]at hb;exact⟨e,by simpa using he,hb.1,pn.1 hb.2⟩
  split at h
  ·rename_i hg
   split at h
   ·rename_i sv hr
    exact go _ (.inr ⟨hg,by rw[hr]⟩) h
   ·rename_i f args g hr
    split at h
    ·rename_i hok
     split at h
     ·rename_i p hp
      have h2:=h.2;unfold Vg at h2;split at h2
      ·rename_i hphi
       exact go _ (.inr ⟨hg,by rw[hr];exact⟨p,hp,hok,h.1,fun q hq=>(by rw[hphi]at hq;cases hq),rfl⟩⟩) h2
      ·rename_i q hphi
       by_cases hq:q
       ·exact go _ (.inr ⟨hg,by rw[hr];exact⟨p,hp,hok,h.1,fun q' hq'=>(by rw[hphi]at hq';cases hq';exact hq),rfl⟩⟩) (h2.1 hq)
       ·exact god _ ⟨rfl,rfl,.inr (.inl ⟨hg,f,args,g,q,hr,hok,hphi,hq,h.1,rfl⟩)⟩ (h2.2 hq)
     ·exact nomatch h
    ·exact nomatch h
   ·exact nomatch h
   ·exact nomatch h
   ·rename_i hno
    split at h
    ·rename_i sv ob hr
     exact go _ (.inr ⟨hg,by rw[hno];simp only;rw[hr];exact⟨jF h,rfl⟩⟩) (lG h)
    ·rename_i f args v hr
     exact go _ (.inr ⟨hg,by rw[hno];simp only;rw[hr];exact⟨h.1,rfl⟩⟩) h.2
    ·rename_i t cs ln hr
     exact go _ (.inr ⟨hg,by rw[hno];simp only;rw[hr]⟩) h
    ·rename_i i r ob hr
     exact go _ (.inr ⟨hg,by rw[hno];simp only;rw[hr];exact⟨jF h,rfl⟩⟩) (lG h)
    ·rename_i i r ob hr
     exact go _ (.inr ⟨hg,by rw[hno];simp only;rw[hr];exact⟨jF h,rfl⟩⟩) (lG h)
    ·rename_i kill t size nn xs ob hr
     exact go _ (.inr ⟨hg,by rw[hno];simp only;rw[hr];exact⟨jF h,rfl⟩⟩) (lG h)
    ·rename_i f args r hr
     exact go _ (.inr ⟨hg,by rw[hno];simp only;rw[hr];exact⟨h.1,rfl⟩⟩) h.2
    ·rename_i f i r hr
     exact go _ (.inr ⟨hg,by rw[hno];simp only;rw[hr];exact⟨h.1,rfl⟩⟩) h.2
    ·rename_i f args x hr
     split at h
     ·exact go _ (.inr ⟨hg,by rw[hno];simp only;rw[hr];exact⟨h.1,rfl⟩⟩) h.2
     ·exact nomatch h
    ·exact nomatch h
  ·rename_i hg
   exact go _ (.inl ⟨hg,rfl⟩) h
  ·exact nomatch h
def cJ(n:Nat):St→List Oper→List jN→Nat→St
 |st,o::l,en::es,k+1=>cJ n (dj n st o en) l es k
 |st,_,_,_=>st
theorem je{st:St}{l:List Oper}{es:List jN}:cJ n st l es 0=st:=by cases l<;>cases es<;>rfl
theorem qc:∀{l:List Oper} {es:List jN} {st:St} {k:Nat} {o:Oper} {en:jN},l[k]?=some o→es[k]?=some en→cJ n st l es (k+1)=dj n (cJ n st l es k) o en
 |o::l,en::es,st,0,o',en',ho,he=>by
  have ho:o=o':=by simpa using ho
  have he:en=en':=by simpa using he
  subst ho;subst he;rw[je];exact je
 |o::l,en::es,st,k+1,o',en',ho,he=>by show cJ n (dj n st o en) l es (k+1)=dj n (cJ n (dj n st o en) l es k) o' en';exact qc (by simpa using ho) (by simpa using he)
 | [],_,_,_,_,_,ho,_=>by simp at ho
 |_::_,[],_,_,_,_,_,he=>by simp at he
theorem Db:∀{l:List Oper} {j:Nat} {st:St} {es:List jN} {D:List Nat} {st':St} {D':List Nat},Lex P H n w0 ops l j st es D st' D'→(∀d∈D,d∈D')∧∀d∈D',d∈D∨j≤d
 | [],j,st,es,D,st',D',h=>by obtain⟨rfl,rfl,rfl⟩:=h;exact⟨fun d hd=>hd,fun d hd=>.inl hd⟩
 |o::l,j,st,es,D,st',D',h=>by
  obtain⟨en,es',D1,rfl,he,h'⟩:=h;obtain⟨h1,h2⟩:=Db h';rcases he with⟨rfl,_⟩ | ⟨rfl,_⟩
  ·exact⟨h1,fun d hd=>(h2 d hd).imp id (fun h=>by omega)⟩
  ·refine⟨fun d hd=>h1 d (XS _ hd),fun d hd=>?_⟩
   rcases h2 d hd with hd|hd
   ·rcases XM.1 hd with rfl|hd
    ·exact .inr (X1 _)
    ·exact .inl hd
   ·exact .inr (by omega)
theorem lex_lt:∀{l:List Oper} {j:Nat} {st:St} {es:List jN} {D:List Nat} {st':St} {D':List Nat},Lex P H n w0 ops l j st es D st' D'→(∀d∈D,d < j)→∀d∈D',d < j+l.length
 | [],j,st,es,D,st',D',h,hD=>by obtain⟨rfl,rfl,rfl⟩:=h;exact fun d hd=>by simpa using hD d hd
 |o::l,j,st,es,D,st',D',h,hD=>by
  obtain⟨en,es',D1,rfl,he,h'⟩:=h;intro d hd;have:=lex_lt h' (fun d hd=>by
   rcases he with⟨rfl,_⟩ | ⟨rfl,_⟩
   ·have:=hD d hd;omega
   ·rcases XM.1 hd with rfl|hd
    ·omega
    ·have:=hD d hd;omega) d hd
  simp only[List.length_cons];omega
theorem xu:∀{l:List Oper} {j:Nat} {st:St} {es:List jN} {D:List Nat} {st':St} {D':List Nat},Lex P H n w0 ops l j st es D st' D'→(∀d∈D,d < j)→es.length=l.length∧(∀k o en,l[k]?=some o→es[k]?=some en→yw P H w0 ops D' (j+k) (cJ n st l es k) o en)∧cJ n st l es l.length=st'
 | [],j,st,es,D,st',D',h,_=>by obtain⟨rfl,rfl,rfl⟩:=h;exact⟨rfl,fun k o en ho=>by simp at ho,rfl⟩
 |o::l,j,st,es,D,st',D',h,hD=>by
  obtain⟨en,es',D1,rfl,he,h'⟩:=h;obtain⟨m1,m2⟩:=Db h';have hD1:∀d∈D1,d < j+1:=fun d hd=>by
   rcases he with⟨rfl,_⟩ | ⟨rfl,_⟩
   ·have:=hD d hd;omega
   ·rcases XM.1 hd with rfl|hd
    ·omega
    ·have:=hD d hd;omega
  obtain⟨h1,h2,h3⟩:=xu h' hD1;refine⟨by simp[h1],fun k o' en' ho' he'=>?_,h3⟩;cases k with
  |zero=>
   have ho':o=o':=by simpa using ho'
   have he':en=en':=by simpa using he'
   subst ho';subst he';rcases he with⟨rfl,he⟩ | ⟨rfl,he⟩
   ·refine .inl ⟨fun hj=>?_,he⟩
    rcases m2 _ hj with hj|hj
    ·have:=hD _ hj;omega
    ·omega
   ·refine .inr ⟨m1 _ (by simp),he.1,he.2.1,he.2.2.imp (fun⟨e,h1,h2,h3⟩=>⟨e,h1,h2,m1 _ (XS _ h3)⟩) (Or.imp id fun⟨m,h1,h2⟩=>⟨m,m1 _ (XS _ h1),h2⟩)⟩
  |succ k=>have:=h2 k o' en' (by simpa using ho') (by simpa using he');rwa [show j+1+k=j+(k+1)by omega]at this
end
def idxOf{α:Type}(p:α→Bool):List α→Option Nat
 | []=>none
 |x::r=>match p x with
  |true=>some 0
  |false=>(idxOf p r).map Nat.succ
theorem ie{α:Type}{p:α→Bool}:∀{l:List α} {k:Nat},idxOf p l=some k→∃x,l[k]?=some x∧p x=true
 |x::r,k,h=>by
  unfold idxOf at h;split at h
  ·rename_i hp
   have:k=0:=by simpa using h.symm
   subst this;exact⟨x,rfl,hp⟩
  ·cases hr:idxOf p r with
   |none=>rw[hr]at h;cases h
   |some j=>
    rw[hr]at h;have:k=j+1:=by simpa using h.symm
    subst this;obtain⟨y,hy,hp⟩:=ie hr;exact⟨y,by simpa using hy,hp⟩
def isDst(t:Nat)(o:Oper):Bool:=match o.dst with
 |some d=>X5 d t
 |none=>false
def j4(b:Nat)(en:jN):Bool:=match en.nw with
 |some (i,_)=>X5 i b
 |none=>false
def ox(b:Nat)(en:jN):Bool:=match en.wr with
 |some (i,_)=>X5 i b
 |none=>false
theorem JU{t:Nat}{o:Oper}:isDst t o=true↔o.dst=some t:=by
 unfold isDst;split
 ·rename_i d hd
  rw[hd];constructor
  ·intro h;rw[XD h]
  ·intro h;rw[XH.inj h];exact X4 t
 ·rename_i hd;rw[hd];simp
theorem JT{b:Nat}{en:jN}:j4 b en=true↔∃r,en.nw=some (b,r):=by
 unfold j4;split
 ·rename_i i r hd
  rw[hd];constructor
  ·intro h;exact⟨r,by rw[XD h]⟩
  ·rintro⟨r',h⟩
   have:i=b:=by injection h with h;injection h
   rw[this];exact X4 b
 ·rename_i hd;rw[hd];simp
theorem M8{b:Nat}{en:jN}:ox b en=true↔∃r,en.wr=some (b,r):=by
 unfold ox;split
 ·rename_i i r hd
  rw[hd];constructor
  ·intro h;exact⟨r,by rw[XD h]⟩
  ·rintro⟨r',h⟩
   have:i=b:=by injection h with h;injection h
   rw[this];exact X4 b
 ·rename_i hd;rw[hd];simp
section
variable(l:List Oper)(st:St)(es:List jN)
def lM(L:Nat→Bool)(t:Nat):Option SV:=match idxOf (isDst t) l with
 |none=>look st.fr t
 |some k=>if L k then(es[k]?).bind (·.sv.known)else look st.fr t
def pF(L:Nat→Bool)(b:Nat):Option Row:=match idxOf (j4 b) es with
 |none=>st.mem[b]?
 |some k=>if L k then((es[k]?).bind (·.nw)).map (·.2)else none
def cC(L:Nat→Bool)(b:Nat):Option Row:=match idxOf (ox b) es with
 |none=>pF st es L b
 |some s=>if L s then((es[s]?).bind (·.wr)).map (·.2)else pF st es L b
end
def An(l:List Oper)(i k:Nat):Bool:=match l[i]? with
 |some o=>o.after.toList.any fun e=>Region.binds .any e&&X5 e.on k
 |none=>false
def oK(l:List Oper)(i k:Nat):Bool:=match XZ k i with
 |true=>An l i k
 |false=>match X5 k i with
  |true=>true
  |false=>An l k i
def mD(l:List Oper)(i:Nat):Option Nat→Bool
 |none=>true
 |some k=>oK l i k
def V4(l:List Oper)(es:List jN)(n:Nat)(k:Nat)(o:Oper)(en:jN):Bool:=
 (o.after.toList.all fun e=>!Region.binds .any e||XZ e.on k)&&
 (match o.dst with
  |some t=>XZ t n&&idxOf (isDst t) l==some k
  |none=>true)&&
 ((o.looksAt l.toArray).all fun t=>mD l k (idxOf (isDst t) l))&&
 (en.K7.all fun b=>mD l k (idxOf (j4 b) es)&&mD l k (idxOf (ox b) es))&&
 (match en.nw with
  |some (b,_)=>idxOf (j4 b) es==some k&&(match idxOf (ox b) es with
   |some s=>XZ k s
   |none=>true)
  |none=>true)&&
 (match en.wr with
  |some (b,_)=>idxOf (ox b) es==some k&&(match idxOf (j4 b) es with
   |some c=>XZ c k
   |none=>true)
  |none=>true)&&
 (match o.op with
  |.select ..=>false
  |_=>true)
def Em(l:List Oper)(es:List jN)(n:Nat):Nat→List Oper→List jN→Bool
 |k,o::r,en::er=>match V4 l es n k o en with
  |true=>Em l es n (k+1) r er
  |false=>false
 |_,[],[]=>true
 |_,_,_=>false
theorem rV{l:List Oper}{es:List jN}{n:Nat}:∀{r:List Oper} {er:List jN} {k0:Nat},Em l es n k0 r er=true→∀k o en,r[k]?=some o→er[k]?=some en→V4 l es n (k0+k) o en=true
 |o::r,en::er,k0,h,k,o',en',ho,he=>by
  unfold Em at h;split at h
  ·rename_i hb
   cases k with
   |zero=>
    have ho:o=o':=by simpa using ho
    have he:en=en':=by simpa using he
    subst ho;subst he;exact hb
   |succ k=>have:=rV h k o' en' (by simpa using ho) (by simpa using he);rwa [show k0+(k+1)=k0+1+k by omega]
  ·cases h
 | [],_,_,_,_,_,_,ho,_=>by simp at ho
 |_::_,[],_,_,_,_,_,_,he=>by simp at he
structure Ez(l:List Oper)(es:List jN)(n:Nat)(k:Nat)(o:Oper)(en:jN):Prop where
 down:∀e∈o.after,Region.binds .any e=true→e.on < k
 dst:∀t,o.dst=some t→t < n∧idxOf (isDst t) l=some k
 looks:∀t∈o.looksAt l.toArray,mD l k (idxOf (isDst t) l)=true
 K7:∀b∈en.K7,mD l k (idxOf (j4 b) es)=true∧mD l k (idxOf (ox b) es)=true
 nw:∀b r,en.nw=some (b,r)→idxOf (j4 b) es=some k∧∀s,idxOf (ox b) es=some s→k < s
 wr:∀b r,en.wr=some (b,r)→idxOf (ox b) es=some k∧∀c,idxOf (j4 b) es=some c→c < k
 W2:∀cs b,o.op≠.select cs b
theorem CK{l:List Oper}{es:List jN}{n k:Nat}{o:Oper}{en:jN}(h:V4 l es n k o en=true):Ez l es n k o en:=by
 unfold V4 at h;simp only[XA]at h;obtain⟨⟨⟨⟨⟨⟨h1,h2⟩,h3⟩,h4⟩,h5⟩,h6⟩,h7⟩:=h;refine⟨fun e he hb=>?_,fun t ht=>?_,fun t ht=>?_,fun b hb=>?_,fun b r hb=>?_,fun b r hb=>?_,fun cs b hs=>?_⟩
 ·have:=Yb.1 h1 e (by simpa using he)
  rw[hb]at this;exact XG (show XZ e.on k=true by simpa only[Bool.not_true,Bool.false_or]using this)
 ·rw[ht]at h2
  simp only[XA]at h2;exact⟨XG h2.1,by simpa using h2.2⟩
 ·exact Yb.1 h3 t ht
 ·simpa only[XA]using Yb.1 h4 b hb
 ·rw[hb]at h5
  simp only[XA]at h5;refine⟨by simpa using h5.1,fun s hs=>?_⟩;have:=h5.2;rw[hs]at this;exact XG this
 ·rw[hb]at h6
  simp only[XA]at h6;refine⟨by simpa using h6.1,fun c hc=>?_⟩;have:=h6.2;rw[hc]at this;exact XG this
 ·rw[hs]at h7
  cases h7
end Sx
open Go Go.RowKit Go.Lib Go.Sort
namespace Sx
section
variable{P:Program}{H:List (Nat×Hint)}{n:Nat}{w0:bu}{ds:List Deferred}{l:List Oper}{es:List jN}{st:St}
theorem TH{t k:Nat}(h:idxOf (isDst t) l=some k):∃o,l[k]?=some o∧o.dst=some t:=by obtain⟨o,ho,hp⟩:=ie h;exact⟨o,ho,JU.1 hp⟩
theorem ga{b k:Nat}(h:idxOf (j4 b) es=some k):∃en r,es[k]?=some en∧en.nw=some (b,r):=by obtain⟨en,ho,hp⟩:=ie h;obtain⟨r,hr⟩:=JT.1 hp;exact⟨en,r,ho,hr⟩
theorem RM{b k:Nat}(h:idxOf (ox b) es=some k):∃en r,es[k]?=some en∧en.wr=some (b,r):=by obtain⟨en,ho,hp⟩:=ie h;obtain⟨r,hr⟩:=M8.1 hp;exact⟨en,r,ho,hr⟩
theorem pD{L L':Nat→Bool}{t:Nat}(h:∀k,idxOf (isDst t) l=some k→L k=L' k):lM l st es L t=lM l st es L' t:=by
 unfold lM;cases hi:idxOf (isDst t) l with
 |none=>rfl
 |some k=>simp only[h k hi]
theorem rK{L L':Nat→Bool}{b:Nat}(h1:∀k,idxOf (j4 b) es=some k→L k=L' k)(h2:∀k,idxOf (ox b) es=some k→L k=L' k):cC st es L b=cC st es L' b:=by
 have hb:pF st es L b=pF st es L' b:=by
  unfold pF;cases hi:idxOf (j4 b) es with
  |none=>rfl
  |some k=>simp only[h1 k hi]
 unfold cC;cases hi:idxOf (ox b) es with
 |none=>exact hb
 |some k=>simp only[h2 k hi,hb]
def more(L:Nat→Bool)(i:Nat)(k:Nat):Bool:=L k||decide (k=i)
theorem fP{L:Nat→Bool}{i k:Nat}(h:k≠i):more L i k=L k:=by unfold more;simp[h]
theorem kA{L:Nat→Bool}{i:Nat}:more L i i=true:=by unfold more;simp
theorem fj{L:Nat→Bool}{i t:Nat}{o:Oper}{en:jN}(ho:l[i]?=some o)(he:es[i]?=some en)(hB:Ez l es n i o en):lM l st es (more L i) t=if o.dst=some t then en.sv.known else lM l st es L t:=by
 split
 ·rename_i hd
  have:=(hB.dst t hd).2;unfold lM;simp only[this,kA,if_true,he,X0]
 ·rename_i hd
  refine pD fun k hk=>fP ?_;rintro rfl;obtain⟨o',ho',hd'⟩:=TH hk;rw[ho]at ho';cases ho';exact hd hd'
theorem eu{L:Nat→Bool}{i b:Nat}{en:jN}(he:es[i]?=some en)(h1:∀r,en.nw≠some (b,r))(h2:∀r,en.wr≠some (b,r)):cC st es (more L i) b=cC st es L b:=by
 refine rK (fun k hk=>fP ?_) (fun k hk=>fP ?_)
 ·rintro rfl
  obtain⟨en',r,he',hr⟩:=ga hk;rw[he]at he';cases he';exact h1 r hr
 ·rintro rfl
  obtain⟨en',r,he',hr⟩:=RM hk;rw[he]at he';cases he';exact h2 r hr
theorem mo{L:Nat→Bool}{i b:Nat}{o:Oper}{en:jN}{r:Row}(he:es[i]?=some en)(hB:Ez l es n i o en)(hn:en.nw=some (b,r))(hs:∀s,idxOf (ox b) es=some s→L s=false):cC st es (more L i) b=some r:=by
 have hi:=(hB.nw b r hn).1;have hb:pF st es (more L i) b=some r:=by unfold pF;simp only[hi,kA,if_true,he,X0,hn,XI]
 unfold cC;cases hw:idxOf (ox b) es with
 |none=>exact hb
 |some s=>have hlt:=(hB.nw b r hn).2 s hw;simp only[fP (show s≠i by omega),hs s hw,Ym,if_false,hb]
theorem nX{L:Nat→Bool}{i b:Nat}{o:Oper}{en:jN}{r:Row}(he:es[i]?=some en)(hB:Ez l es n i o en)(hn:en.wr=some (b,r)):cC st es (more L i) b=some r:=by have hi:=(hB.wr b r hn).1;unfold cC;simp only[hi,kA,if_true,he,X0,hn,XI]
def yz(k j:Nat):Bool:=decide (j < k)
theorem C7(k:Nat):yz (k+1)=more (yz k) k:=by funext j;unfold yz more;rw[Bool.eq_iff_iff];simp;omega
theorem C0:yz 0=fun _=>false:=by funext j;simp[yz]
theorem rM{t:Nat}:lM l st es (fun _=>false) t=look st.fr t:=by unfold lM;cases idxOf (isDst t) l<;>simp
theorem Ac{b:Nat}(h:∀k,idxOf (j4 b) es=some k→st.mem[b]?=none):cC st es (fun _=>false) b=st.mem[b]?:=by
 have hb:pF st es (fun _=>false) b=st.mem[b]?:=by
  unfold pF;cases hi:idxOf (j4 b) es with
  |none=>rfl
  |some k=>simp[h k hi]
 unfold cC;cases idxOf (ox b) es<;>simp[hb]
theorem TG{ops:Array Oper}{s:St}{o:Oper}{en:jN}{b:Nat}{r:Row}(h:Ev P H w0 ops s o en)(hn:en.nw=some (b,r)):b=s.mem.length:=by
 rcases h with⟨_,rfl⟩ | ⟨hg,h⟩
 ·cases hn
 ·split at h
  ·subst h;cases hn
  ·obtain⟨p,hp,_,_,_,rfl⟩:=h;cases hn
  ·exact h.elim
  ·exact h.elim
  split at h
  ·obtain⟨_,rfl⟩:=h;cases hn
  ·obtain⟨_,rfl⟩:=h;cases hn
  ·rename_i t cs ln hr
   subst h;injection hn with hn;injection hn with h1 h2;exact h1.symm
  ·obtain⟨_,rfl⟩:=h;cases hn
  ·obtain⟨_,rfl⟩:=h;cases hn
  ·obtain⟨_,rfl⟩:=h
   injection hn with hn;injection hn with h1 h2;exact h1.symm
  ·rename_i f args r' hr
   obtain⟨_,rfl⟩:=h;cases hrr:jR r' with
   |none=>simp[hrr]at hn
   |some row'=>simp only[hrr,XI,XH.injEq,Prod.mk.injEq]at hn;exact hn.1.symm
  ·rename_i f i r' hr
   obtain⟨_,rfl⟩:=h;cases hrr:jR r' with
   |none=>simp[hrr]at hn
   |some row'=>simp only[hrr,XI,XH.injEq,Prod.mk.injEq]at hn;exact hn.1.symm
  ·split at h
   ·obtain⟨_,rfl⟩:=h;cases hn
   ·exact h.elim
  ·exact h.elim
theorem xH{g:cS}{p:Value×Option (Nat×Row)}(h:zS g=some p):g.kill=[]∧g.new=[]∧g.ret=.val p.1∧((g.dW=[]∧p.2=none)∨∃q,g.dW=[q]∧p.2=some q∧ri q.2.cs=true):=by
 unfold zS at h;split at h
 ·rename_i hk
  split at h
  ·rename_i hn
   split at h
   ·rename_i v hv
    split at h
    ·rename_i hu
     cases h;exact⟨hk,hn,hv,.inl ⟨hu,rfl⟩⟩
    ·rename_i q hu
     split at h
     ·rename_i hp
      cases h;exact⟨hk,hn,hv,.inr ⟨q,hu,rfl,hp⟩⟩
     ·cases h
    ·cases h
   ·cases h
  ·cases h
 ·cases h
theorem Bm{mem:List Row}{g:cS}(h:No mem g=true){q:Nat×Row}(hq:q∈g.dW):(∃r,mem[q.1]?=some r∧r.fixed=true)∧q.2.fixed=true∧q.1∈g.iT:=by unfold No at h;rw[XA]at h;have:=bn h.1 q hq;simp only[XA]at this;exact⟨sU this.1.1,this.1.2,pn.1 this.2.2⟩
theorem fD.eG{b:bu}{β:Env}{W:World}{mem:List Row}{g:cS}(h:fD b β W (rowAt mem) g.iT)(hok:No mem g=true):∀k∈g.eG β (rowAt mem),k∈b.S∨b.w.heap.size≤k:=fun k hk=>by
 obtain⟨i,r,hi,hr,hb⟩:=tn hk;refine h.new i ?_ r k hr hb;rcases hi with hi|hi
 ·obtain⟨q,hq,rfl⟩:=Ys.1 hi
  exact(Bm hok hq).2.2
 ·unfold No at hok
  rw[XA,XA]at hok;exact pn.1 (bn hok.2.1 i hi)
theorem CI{c:Cells}(h:ri c=true){Q:Nat→Prop}:c.on Q:=by cases c<;>first|trivial|cases h
theorem Nn{mem:List Row}{g:cS}{p:Value×Option (Nat×Row)}{b:Nat}{r:Row}(hp:zS g=some p)(hok:No mem g=true)(hn:p.2=some (b,r)):b < mem.length∧b∈g.iT:=by
 obtain⟨_,_,_,⟨_,h⟩ | ⟨q,hu,h,_⟩⟩:=xH hp
 ·rw[h]at hn;cases hn
 ·rw[h]at hn
  cases hn;obtain⟨⟨r0,h0,_⟩,_,hs⟩:=Bm hok (q:=(b,r)) (by rw[hu];simp);exact⟨(Xy.1 h0).1,hs⟩
theorem TF{ops:Array Oper}{s:St}{o:Oper}{en:jN}{b:Nat}{r:Row}(h:Ev P H w0 ops s o en)(hn:en.wr=some (b,r)):b < s.mem.length∧b∈en.K7:=by
 rcases h with⟨_,rfl⟩ | ⟨hg,h⟩
 ·cases hn
 ·split at h
  ·subst h;cases hn
  ·obtain⟨p,hp,_,_,_,rfl⟩:=h;exact Nn hp (by assumption) hn
  ·exact h.elim
  ·exact h.elim
  split at h
  ·obtain⟨_,rfl⟩:=h;cases hn
  ·obtain⟨_,rfl⟩:=h;cases hn
  ·subst h;cases hn
  ·rename_i i r' ob hr
   obtain⟨_,rfl⟩:=h;injection hn with hn;injection hn with h1 h2;subst h1;subst h2;obtain⟨ht,_,r0,h0,_⟩:=oF hr;exact⟨(Xy.1 h0).1,ht⟩
  ·rename_i i r' ob hr
   obtain⟨_,rfl⟩:=h;injection hn with hn;injection hn with h1 h2;subst h1;subst h2;obtain⟨ht,r0,h0,_⟩:=nD hr;exact⟨(Xy.1 h0).1,ht⟩
  ·rename_i kill t size nn xs ob hr
   obtain⟨_,rfl⟩:=h;cases kill with
   |none=>cases hn
   |some i=>simp only[XI,XH.injEq,Prod.mk.injEq]at hn;obtain⟨rfl,_⟩:=hn;obtain⟨ht,r0,h0,_⟩:=rI hr;exact⟨(Xy.1 h0).1,ht⟩
  ·obtain⟨_,rfl⟩:=h;cases hn
  ·rename_i f i r' hr
   obtain⟨hcl,rfl⟩:=h;injection hn with hn;injection hn with h1 h2;subst h1;obtain⟨r0,h0,_⟩:=yo (hcl w0.w (ai.refl _ _));exact⟨(Xy.1 h0).1,(uV hr).1⟩
  ·rename_i f args x hr
   obtain⟨_,hx2,_⟩:=rP hr;cases x with
   |dW p i row v=>obtain⟨_,rfl⟩:=h;injection hn with hn;injection hn with h1 h2;subst h1;obtain⟨_,ht,r0,h0,_⟩:=hx2 p _ row v rfl;exact⟨(Xy.1 h0).1,ht⟩
   |G9 ps=>exact h.elim
  ·exact h.elim
theorem vw{ops:Array Oper}{D:List Nat}{k:Nat}{s:St}{o:Oper}{en:jN}{b:Nat}{r:Row}(h:yw P H w0 ops D k s o en)(hn:en.nw=some (b,r)):b=s.mem.length:=by
 rcases h with⟨_,h⟩ | ⟨_,h,_⟩
 ·exact TG h hn
 ·rw[h]at hn;cases hn
theorem Ii{ops:Array Oper}{D:List Nat}{k:Nat}{s:St}{o:Oper}{en:jN}{b:Nat}{r:Row}(h:yw P H w0 ops D k s o en)(hn:en.wr=some (b,r)):b < s.mem.length∧b∈en.K7:=by
 rcases h with⟨_,h⟩ | ⟨_,_,h,_⟩
 ·exact TF h hn
 ·rw[h]at hn;cases hn
theorem yp{s:St}{o:Oper}{en:jN}:(dj n s o en).mem=Hn s.mem en:=by
 unfold dj St.put;cases o.dst with
 |none=>rfl
 |some d=>cases hb:XZ d n<;>simp[hb]
variable{ops:Array Oper}(hlen:es.length=l.length)(hB:∀k o en,l[k]?=some o→es[k]?=some en→Ez l es n k o en){D:List Nat}(hE:∀k o en,l[k]?=some o→es[k]?=some en→yw P H w0 ops D k (cJ n st l es k) o en)
include hlen hB hE
omit hB hE in
theorem A5:∀k,k≤l.length→st.mem.length≤(cJ n st l es k).mem.length:=by
 intro k;induction k with
 |zero=>intro _;rw[je];exact X1 _
 |succ k ih=>
  intro hk;obtain⟨o,ho⟩:∃o,l[k]?=some o:=⟨_,Xz (by omega)⟩;obtain⟨en,he⟩:∃en,es[k]?=some en:=⟨_,Xz (by omega)⟩;rw[qc ho he];have:=ih (by omega);rw[yp];unfold Hn;split
  ·rw[X8,jA];omega
  ·rw[jA];omega
omit hE in
theorem Hr:∀k,k≤l.length→∀t,look (cJ n st l es k).fr t=lM l st es (yz k) t:=by
 intro k;induction k with
 |zero=>intro _ t;rw[je,C0,rM]
 |succ k ih=>
  intro hk t;obtain⟨o,ho⟩:∃o,l[k]?=some o:=⟨_,Xz (by omega)⟩;obtain⟨en,he⟩:∃en,es[k]?=some en:=⟨_,Xz (by omega)⟩;rw[qc ho he,C7,fj ho he (hB k o en ho he),←ih (by omega) t];unfold dj St.put;cases hd:o.dst with
  |none=>simp
  |some d=>have:XZ d n=true:=X3 ((hB k o en ho he).dst d hd).1;simp only[this,gf,XH.injEq]
theorem LG:∀k,k≤l.length→∀b:Nat,(cJ n st l es k).mem[b]?=cC st es (yz k) b:=by
 have fresh:∀b k:Nat,idxOf (j4 b) es=some k→st.mem[b]?=none:=by
  intro b k hk;obtain⟨en,r,he,hr⟩:=ga hk;have hkl:k < l.length:=by rw[←hlen];exact(Xy.1 he).1
  have hb:=vw (hE k _ en (Xz hkl) he) hr;have:=A5 (n:=n) (st:=st) hlen k (by omega);exact XF (by omega)
 intro k;induction k with
 |zero=>intro _ b;rw[je,C0,Ac (fresh b)]
 |succ k ih=>
  intro hk b;obtain⟨o,ho⟩:∃o,l[k]?=some o:=⟨_,Xz (by omega)⟩;obtain⟨en,he⟩:∃en,es[k]?=some en:=⟨_,Xz (by omega)⟩;have ih:=ih (by omega);have hbk:=hB k o en ho he;have hek:=hE k o en ho he;rw[qc ho he,C7];rw[yp];have hwr:∀b,(∀r,en.nw≠some (b,r))→(EC (cJ n st l es k).mem en)[b]?=cC st es (more (yz k) k) b:=by
   intro b hnb;unfold EC;cases hw:en.wr with
   |some p=>
    obtain⟨i,r⟩:=p;obtain⟨hil,_⟩:=Ii hek hw;simp only[List.getElem?_set];by_cases hbi:i=b
    ·subst hbi
     rw[if_pos rfl,if_pos hil,nX he hbk hw]
    ·rw[if_neg hbi,eu he hnb (fun r' h=>by rw[hw]at h;injection h with h;injection h with h _;exact hbi h),ih b]
   |none=>simp only;rw[eu he hnb (fun r' h=>by rw[hw]at h;cases h),ih b]
  unfold Hn;cases hn:en.nw with
  |some p=>
   obtain⟨m,r⟩:=p;have hml:=vw hek hn;simp only;by_cases hbm:b=m
   ·subst hbm
    rw[mo he hbk hn (fun s hs=>by have:=(hbk.nw _ _ hn).2 s hs;simp[yz];omega),hml,←jA (en:=en),XN (X1 _)];simp
   ·rw[←hwr b (fun r' h=>by rw[hn]at h;injection h with h;injection h with h _;exact hbm h.symm)]
    rcases Yu b (EC (cJ n st l es k).mem en).length with hlt|hge
    ·rw[XP hlt]
    ·rw[XF (by rw[jA]at hge;simp[jA];omega),XF hge]
  |none=>simp only;exact hwr b (fun r' h=>by rw[hn]at h;cases h)
end
structure iW(ds:List Deferred)(w0:bu)(n:Nat)(l:List Oper)(es:List jN)(st:St)(L:Nat→Bool)(β:Env)(a:Act)(w:World):Prop where
 size:a.tmps.size=n
 dn:a.defers=ds
 get:∀t sv,lM l st es L t=some sv→a.tmps[t]?=some (sv.den β)
 cw:∀(b:Nat) (r:Row),cC st es L b=some r→br β w b r
 new:∀(b:Nat) (r:Row) (k:Nat),cC st es L b=some r→az β b r=some k→k∈w0.S∨w0.w.heap.size≤k
 inj:∀(b c:Nat) (r r':Row) (k:Nat),cC st es L b=some r→cC st es L c=some r'→az β b r=some k→az β c r'=some k→b=c
 aJ:ai w0.S w0.w w
 yC:∀t sv,lM l st es L t=some sv→sv.on (fun b=>∃r,cC st es L b=some r)
 yy:∀(b:Nat) (r:Row),cC st es L b=some r→r.cs.on (fun b=>∃r,cC st es L b=some r)
 down:∀k o,l[k]?=some o→L k=true→∀e∈o.after,Region.binds .any e=true→L e.on=true
section
variable{P:Program}{H:List (Nat×Hint)}{n:Nat}{w0:bu}{ds:List Deferred}{l:List Oper}{es:List jN}{st:St}{L:Nat→Bool}{β:Env}{a:Act}{w:World}{i:Nat}{o:Oper}{en:jN}
theorem qW{j k:Nat}(h:An l j k=true):∃oj,l[j]?=some oj∧∃e∈oj.after,Region.binds .any e=true∧e.on=k:=by
 unfold An at h;split at h
 ·rename_i oj hoj
  obtain⟨e,he,hb⟩:=X2.1 h;simp only[XA]at hb;exact⟨oj,hoj,e,by simpa using he,hb.1,XD hb.2⟩
 ·cases h
theorem nF(hI:iW ds w0 n l es st L β a w)(ho:l[i]?=some o)(hL:L i=false)(hr:∀e∈o.after,Region.binds .any e=true→L e.on=true){k:Nat}(hs:oK l i k=true):L k=yz i k:=by
 unfold oK at hs;unfold yz;split at hs
 ·rename_i hlt
  have hlt:k < i:=XG hlt;obtain⟨oi,hoi,e,he,hb,hon⟩:=qW hs;rw[ho]at hoi;cases hoi;have:=hr e he hb;rw[hon]at this;rw[this];simp[hlt]
 ·rename_i hlt
  have hlt:¬k < i:=fun h=>by rw[show XZ k i=true from X3 h]at hlt;cases hlt
  split at hs
  ·rename_i heq
   rw[XD heq,hL];simp
  ·obtain⟨ok,hok,e,he,hb,hon⟩:=qW hs
   cases hLk:L k with
   |false=>simp[hlt]
   |true=>have:=hI.down k ok hok hLk e he hb;rw[hon,hL]at this;cases this
theorem iW.kz(hI:iW ds w0 n l es st L β a w)(ho:l[i]?=some o)(he:es[i]?=some en)(hB:Ez l es n i o en)(hr:∀e∈o.after,Region.binds .any e=true→L e.on=true)
  {w':World} (hc:ai [] w w') (h1:en.nw=none) (h2:en.wr=none) (hs:en.sv.on (fun b=>∃r,cC st es L b=some r)):iW ds w0 n l es st (more L i) β (a.put o.dst (en.sv.den β)) w':=by
 have row:∀b,cC st es (more L i) b=cC st es L b:=fun b=>eu he (fun r h=>by rw[h1]at h;cases h) (fun r h=>by rw[h2]at h;cases h);refine⟨?_,?_,fun t sv ht=>?_,fun b r hb=>?_,fun b r k hb hk=>?_,fun b c r r' k hb hc' hk hk'=>?_,hI.aJ.seq hc (by simp),fun t sv ht=>?_,fun b r hb=>?_,fun k ok hok hk e hee hb=>?_⟩
 ·cases o.dst<;>simp[Act.put,hI.size]
 ·cases o.dst<;>simp[Act.put,hI.dn]
 ·rw[fj ho he hB]at ht
  split at ht
  ·rename_i hd
   rw[hd,km (by rw[hI.size];exact(hB.dst t hd).1),if_pos rfl,cE ht]
  ·rename_i hd
   cases hd':o.dst with
   |none=>exact hI.get t sv ht
   |some d=>rw[km (by rw[hI.size];exact(hB.dst d hd').1),if_neg (fun h=>hd (by rw[hd',h]))];exact hI.get t sv ht
 ·rw[row]at hb;exact(hI.cw b r hb).aJ hc (fun _ _=>by simp)
 ·rw[row]at hb;exact hI.new b r k hb hk
 ·rw[row]at hb hc';exact hI.inj b c r r' k hb hc' hk hk'
 ·rw[fj ho he hB]at ht
  split at ht
  ·rw[cE ht];exact SV.bD (fun b hb=>by rw[row];exact hb) hs
  ·exact SV.bD (fun b hb=>by rw[row];exact hb) (hI.yC t sv ht)
 ·rw[row]at hb;exact Cells.bD (fun b hb=>by rw[row];exact hb) (hI.yy b r hb)
 ·by_cases hki:k=i
  ·subst hki
   rw[ho]at hok;cases hok;have:=hr e hee hb;unfold more;rw[this];rfl
  ·rw[fP hki]at hk
   have:=hI.down k ok hok hk e hee hb;unfold more;rw[this];rfl
theorem iW.Fv(hI:iW ds w0 n l es st L β a w)(ho:l[i]?=some o)(he:es[i]?=some en)(hB:Ez l es n i o en)(hr:∀e∈o.after,Region.binds .any e=true→L e.on=true)
  {m:Nat} {t:TypeId} {cs:Cells} {ln:Option Nat} (hf:(⟨t,cs⟩:Row).fixed=true) (hft:cs.tag=none) (hn:en.nw=some (m,⟨t,cs⟩)) (hw:en.wr=none) (hsv:en.sv=nN m ln) (hnot:cC st es L m=none) (hs:∀s,idxOf (ox m) es=some s→L s=false)
  (hcs:cs.on (fun b=>∃r,cC st es L b=some r)):iW ds w0 n l es st (more L i) (β.dW m w.heap.size) (a.put o.dst (pq w.heap.size ln)) (w.alloc (.cells (cs.den β).toArray t)):=by
 have rowm:cC st es (more L i) m=some ⟨t,cs⟩:=mo he hB hn hs;have row:∀b,b≠m→cC st es (more L i) b=cC st es L b:=fun b hb=>eu he (fun r h=>by rw[hn]at h;injection h with h;injection h with h _;exact hb h.symm) (fun r h=>by rw[hw]at h;cases h);have live:∀b,(∃r,cC st es L b=some r)→b≠m:=fun b ⟨r,h⟩ hb=>by rw[hb,hnot]at h;cases h
 have same:β.same (β.dW m w.heap.size) (fun b=>∃r,cC st es L b=some r):=KS.mono live;have up:∀b,(∃r,cC st es L b=some r)→∃r,cC st es (more L i) b=some r:=fun b hb=>by rw[row b (live b hb)];exact hb
 have lt:∀b r k,cC st es L b=some r→az β b r=some k→k < w.heap.size:=fun b r k h hk=>(hI.cw b r h).lt hk;have at_:∀b r,cC st es (more L i) b=some r→(cC st es L b=some r)∨(b=m∧r=⟨t,cs⟩):=fun b r hb=>by
  by_cases hbm:b=m
  ·subst hbm;rw[rowm]at hb;cases hb;exact .inr ⟨rfl,rfl⟩
  ·rw[row b hbm]at hb;exact .inl hb
 have blkm:az (β.dW m w.heap.size) m ⟨t,cs⟩=some w.heap.size:=by rw[aM hf,kD]
 refine⟨?_,?_,fun u sv ht=>?_,fun b r hb=>?_,fun b r k hb hk=>?_,fun b c r r' k hb hc' hk hk'=>?_,hI.aJ.alloc _,fun u sv ht=>?_,fun b r hb=>?_,fun k ok hok hk e hee hb=>?_⟩
 ·cases o.dst<;>simp[Act.put,hI.size]
 ·cases o.dst<;>simp[Act.put,hI.dn]
 ·rw[fj ho he hB]at ht
  split at ht
  ·rename_i hd
   rw[hd,km (by rw[hI.size];exact(hB.dst u hd).1),if_pos rfl,cE ht,hsv,CY]
  ·rename_i hd
   rw[←SV.cI same (hI.yC u sv ht)];cases hd':o.dst with
   |none=>exact hI.get u sv ht
   |some d=>rw[km (by rw[hI.size];exact(hB.dst d hd').1),if_neg (fun h=>hd (by rw[hd',h]))];exact hI.get u sv ht
 ·rcases at_ b r hb with hb|⟨rfl,rfl⟩
  ·refine br.congr same ⟨r,hb⟩ (hI.yy b r hb) ((hI.cw b r hb).aJ (S:=[]) ((ai.refl [] w).alloc _) (fun _ _=>by simp))
  ·refine br.pb ?_ hf (fun g hg=>by rw[hft]at hg;cases hg)
   rw[kD,←Cells.cI same hcs];exact aw.new w t (cs.den β).toArray
 ·rcases at_ b r hb with hb|⟨rfl,rfl⟩
  ·rw[←bC same ⟨r,hb⟩]at hk;exact hI.new b r k hb hk
  ·rw[blkm]at hk;cases hk;exact .inr hI.aJ.size
 ·rcases at_ b r hb with hb|⟨rfl,rfl⟩
  ·rw[←bC same ⟨r,hb⟩]at hk
   rcases at_ c r' hc' with hc' | ⟨rfl,rfl⟩
   ·rw[←bC same ⟨r',hc'⟩]at hk';exact hI.inj b c r r' k hb hc' hk hk'
   ·rw[blkm]at hk';cases hk'
    exact absurd (lt b r _ hb hk) (Yr _)
  ·rcases at_ c r' hc' with hc' | ⟨rfl,rfl⟩
   ·rw[blkm]at hk;cases hk
    rw[←bC same ⟨r',hc'⟩]at hk';exact absurd (lt c r' _ hc' hk') (Yr _)
   ·rfl
 ·rw[fj ho he hB]at ht
  split at ht
  ·rw[cE ht,hsv];exact Ho ⟨_,rowm⟩
  ·exact SV.bD up (hI.yC u sv ht)
 ·rcases at_ b r hb with hb|⟨rfl,rfl⟩
  ·exact Cells.bD up (hI.yy b r hb)
  ·exact Cells.bD up hcs
 ·by_cases hki:k=i
  ·subst hki
   rw[ho]at hok;cases hok;have:=hr e hee hb;unfold more;rw[this];rfl
  ·rw[fP hki]at hk
   have:=hI.down k ok hok hk e hee hb;unfold more;rw[this];rfl
theorem iW.tM(hI:iW ds w0 n l es st L β a w)(ho:l[i]?=some o)(he:es[i]?=some en)(hB:Ez l es n i o en)(hr:∀e∈o.after,Region.binds .any e=true→L e.on=true)
  {m:Nat} {kill:Option Nat} {A:Option Addr} {T size nn cc:Nat} {xs:List Value} {S:List Nat} {w':World} (hn:en.nw=some (m,⟨T,.own size nn xs⟩)) (hw:en.wr=kill.map (·,au)) (hnot:cC st es L m=none) (hs:∀s,idxOf (ox m) es=some s→L s=false)
  (hown:Own w' T size (.slice A nn cc) nn xs) (hc:ai S w w') (hS:∀k∈S,∃i r0,kill=some i∧cC st es L i=some r0∧az β i r0=some k) (hA:∀k,A.map (·.block)=some k→k∈S∨w.heap.size≤k)
  (hsv:en.sv.on (·=m)):iW ds w0 n l es st (more L i) (β.jc m A nn cc) (a.put o.dst (en.sv.den (β.jc m A nn cc))) w':=by
 have rowm:cC st es (more L i) m=some ⟨T,.own size nn xs⟩:=mo he hB hn hs;have live:∀b,(∃r,cC st es L b=some r)→b≠m:=fun b ⟨r,h⟩ hb=>by rw[hb,hnot]at h;cases h
 have same:β.same (β.jc m A nn cc) (fun b=>∃r,cC st es L b=some r):=vg.mono live;have rowk:∀b,kill=some b→cC st es (more L i) b=some au:=fun b hb=>nX he hB (by rw[hw,hb];rfl);have row:∀b,b≠m→kill≠some b→cC st es (more L i) b=cC st es L b:=fun b hb hk=>eu he (fun r h=>by rw[hn]at h;injection h with h;injection h with h _;exact hb h.symm) (fun r h=>by
  rw[hw]at h;cases kill with
  |none=>cases h
  |some j=>simp only[XI,XH.injEq,Prod.mk.injEq]at h;exact hk (by rw[h.1]))
 have up:∀b,(∃r,cC st es L b=some r)→∃r,cC st es (more L i) b=some r:=fun b hb=>by
  by_cases hk:kill=some b
  ·exact⟨_,rowk b hk⟩
  ·rw[row b (live b hb) hk];exact hb
 have at_:∀b r,cC st es (more L i) b=some r→(kill≠some b∧cC st es L b=some r)∨r=au∨(b=m∧r=⟨T,.own size nn xs⟩):=fun b r hb=>by
  by_cases hbm:b=m
  ·subst hbm;rw[rowm]at hb;cases hb;exact .inr (.inr ⟨rfl,rfl⟩)
  ·by_cases hk:kill=some b
   ·rw[rowk b hk]at hb;cases hb;exact .inr (.inl rfl)
   ·rw[row b hbm hk]at hb;exact .inl ⟨hk,hb⟩
 have new':∀k,A.map (·.block)=some k→k∈w0.S∨w0.w.heap.size≤k:=fun k hk=>by
  rcases hA k hk with hk|hk
  ·obtain⟨i,r0,_,h0,hb⟩:=hS k hk
   exact hI.new i r0 k h0 hb
  ·exact .inr (Nat.le_trans hI.aJ.size hk)
 have apart:∀(b:Nat) (r:Row) (k:Nat),kill≠some b→cC st es L b=some r→az β b r=some k→A.map (·.block)≠some k:=fun b r k hki hi hk hk'=>by
  rcases hA k hk' with hk' | hk'
  ·obtain⟨j,r0,hj,h0,hb⟩:=hS k hk'
   have:=hI.inj b j r r0 k hi h0 hk hb;subst this;exact hki hj
  ·have:=(hI.cw b r hi).lt hk
   omega
 refine⟨?_,?_,fun u sv ht=>?_,fun b r hb=>?_,fun b r k hb hk=>?_,fun b c r r' k hb hc' hk hk'=>?_,hI.aJ.seq hc (fun k hk=>?_),fun u sv ht=>?_,fun b r hb=>?_,fun k ok hok hk e hee hb=>?_⟩
 ·cases o.dst<;>simp[Act.put,hI.size]
 ·cases o.dst<;>simp[Act.put,hI.dn]
 ·rw[fj ho he hB]at ht
  split at ht
  ·rename_i hd
   rw[hd,km (by rw[hI.size];exact(hB.dst u hd).1),if_pos rfl,cE ht]
  ·rename_i hd
   rw[←SV.cI same (hI.yC u sv ht)];cases hd':o.dst with
   |none=>exact hI.get u sv ht
   |some d=>rw[km (by rw[hI.size];exact(hB.dst d hd').1),if_neg (fun h=>hd (by rw[hd',h]))];exact hI.get u sv ht
 ·rcases at_ b r hb with⟨hk,hb⟩ | rfl|⟨rfl,rfl⟩
  ·refine br.congr same ⟨r,hb⟩ (hI.yy b r hb) ((hI.cw b r hb).aJ hc fun k hkk hm=>?_)
   obtain⟨j,r0,hj,h0,hbb⟩:=hS k hm;have:=hI.inj b j r r0 k hb h0 hkk hbb;subst this;exact hk hj
  ·trivial
  ·exact yS hown
 ·rcases at_ b r hb with⟨hkk,hb⟩ | rfl|⟨rfl,rfl⟩
  ·rw[←bC same ⟨r,hb⟩]at hk;exact hI.new b r k hb hk
  ·cases hk
  ·rw[mz]at hk;exact new' k hk
 ·rcases at_ b r hb with⟨hkb,hb⟩ | rfl|⟨rfl,rfl⟩
  ·rw[←bC same ⟨r,hb⟩]at hk
   rcases at_ c r' hc' with⟨hkc,hc'⟩ | rfl|⟨rfl,rfl⟩
   ·rw[←bC same ⟨r',hc'⟩]at hk';exact hI.inj b c r r' k hb hc' hk hk'
   ·cases hk'
   ·rw[mz]at hk';exact absurd hk' (apart b r k hkb hb hk)
  ·cases hk
  ·rcases at_ c r' hc' with⟨hkc,hc'⟩ | rfl|⟨rfl,rfl⟩
   ·rw[←bC same ⟨r',hc'⟩]at hk'
    rw[mz]at hk;exact absurd hk (apart c r' k hkc hc' hk')
   ·cases hk'
   ·rfl
 ·obtain⟨j,r0,_,h0,hb⟩:=hS k hk
  exact hI.new j r0 k h0 hb
 ·rw[fj ho he hB]at ht
  split at ht
  ·rw[cE ht];exact SV.bD (fun b hb=>by rw[hb];exact⟨_,rowm⟩) hsv
  ·exact SV.bD up (hI.yC u sv ht)
 ·rcases at_ b r hb with⟨hkb,hb⟩ | rfl|⟨rfl,rfl⟩
  ·exact Cells.bD up (hI.yy b r hb)
  ·trivial
  ·trivial
 ·by_cases hki:k=i
  ·subst hki
   rw[ho]at hok;cases hok;have:=hr e hee hb;unfold more;rw[this];rfl
  ·rw[fP hki]at hk
   have:=hI.down k ok hok hk e hee hb;unfold more;rw[this];rfl
theorem iW.nM(hI:iW ds w0 n l es st L β a w)(ho:l[i]?=some o)(he:es[i]?=some en)(hB:Ez l es n i o en)(hr:∀e∈o.after,Region.binds .any e=true→L e.on=true)
  {m:Nat} {r0 r1:Row} {w':World} {u0:Value} (hn:en.nw=none) (hw:en.wr=some (m,r1)) (hsv:en.sv=.val u0) (hrow:cC st es L m=some r0) (hblk:az β m r1=az β m r0) (hb':br β w' m r1) (hc:ai (az β m r0).toList w w')
  (hcs:r1.cs.on (fun b=>∃r,cC st es L b=some r)):iW ds w0 n l es st (more L i) β (a.put o.dst u0) w':=by
 have rowm:cC st es (more L i) m=some r1:=nX he hB hw;have row:∀b,b≠m→cC st es (more L i) b=cC st es L b:=fun b hb=>eu he (fun r h=>by rw[hn]at h;cases h) (fun r h=>by rw[hw]at h;injection h with h;injection h with h _;exact hb h.symm);have up:∀b,(∃r,cC st es L b=some r)→∃r,cC st es (more L i) b=some r:=fun b hb=>by
  by_cases hbm:b=m
  ·rw[hbm];exact⟨_,rowm⟩
  ·rw[row b hbm];exact hb
 have dn:∀b r k,cC st es (more L i) b=some r→az β b r=some k→∃r',cC st es L b=some r'∧az β b r'=some k:=fun b r k hb hk=>by
  by_cases hbm:b=m
  ·subst hbm
   rw[rowm]at hb;cases hb;exact⟨_,hrow,by rw[←hblk];exact hk⟩
  ·rw[row b hbm]at hb;exact⟨_,hb,hk⟩
 refine⟨?_,?_,fun u sv ht=>?_,fun b r hb=>?_,fun b r k hb hk=>?_,fun b c r r' k hbb hcc hk hk'=>?_,?_,fun u sv ht=>?_,fun b r hb=>?_,fun k ok hok hk e hee hb=>?_⟩
 ·cases o.dst<;>simp[Act.put,hI.size]
 ·cases o.dst<;>simp[Act.put,hI.dn]
 ·rw[fj ho he hB]at ht
  split at ht
  ·rename_i hd
   rw[hd,km (by rw[hI.size];exact(hB.dst u hd).1),if_pos rfl,cE ht,hsv];rfl
  ·rename_i hd
   cases hd':o.dst with
   |none=>exact hI.get u sv ht
   |some d=>rw[km (by rw[hI.size];exact(hB.dst d hd').1),if_neg (fun h=>hd (by rw[hd',h]))];exact hI.get u sv ht
 ·by_cases hbm:b=m
  ·subst hbm
   rw[rowm]at hb;cases hb;exact hb'
  ·rw[row b hbm]at hb
   refine(hI.cw b r hb).aJ hc fun k hk hm=>hbm ?_;exact hI.inj b m r r0 _ hb hrow hk (by simpa using hm)
 ·obtain⟨r',h',hk'⟩:=dn b r k hb hk
  exact hI.new b r' k h' hk'
 ·obtain⟨x,hx,hkx⟩:=dn b r k hbb hk
  obtain⟨y,hy,hky⟩:=dn c r' k hcc hk';exact hI.inj b c x y k hx hy hkx hky
 ·exact hI.aJ.seq hc (fun x hx=>hI.new m r0 _ hrow (by simpa using hx))
 ·rw[fj ho he hB]at ht
  split at ht
  ·rw[cE ht,hsv];trivial
  ·exact SV.bD up (hI.yC u sv ht)
 ·by_cases hbm:b=m
  ·subst hbm
   rw[rowm]at hb;cases hb;exact Cells.bD up hcs
  ·rw[row b hbm]at hb
   exact Cells.bD up (hI.yy b r hb)
 ·by_cases hki:k=i
  ·subst hki
   rw[ho]at hok;cases hok;have:=hr e hee hb;unfold more;rw[this];rfl
  ·rw[fP hki]at hk
   have:=hI.down k ok hok hk e hee hb;unfold more;rw[this];rfl
end
end Sx
open Go Go.RowKit Go.Lib Go.Sort
namespace Sx
section
variable{P:Program}{H:List (Nat×Hint)}{n:Nat}{w0:bu}{ds:List Deferred}{l:List Oper}{es:List jN}{st:St}{L:Nat→Bool}{β:Env}{a:Act}{w:World}{i:Nat}{o:Oper}{en:jN}{Q:Exit→Act→World→Prop}
theorem Dz{ops:Array Oper}{fr:List (Nat×SV)}{b:Bool}(hget:∀t∈o.looksAt ops,∀sv,look fr t=some sv→a.tmps[t]?=some (sv.den β))(hg:guardOf ops fr o=some b):Region.wanted o (yielded ops a.tmps)=b:=by
 unfold guardOf at hg;unfold Region.wanted;split at hg
 ·rename_i hn;rw[hn];simpa using hg
 ·rename_i j b' hn
  rw[hn];split at hg
  ·cases hg
  ·rename_i oj hoj
   split at hg
   ·cases hg
   ·rename_i t ht
    split at hg
    ·rename_i v hc
     have:=hget t (by unfold Oper.looksAt;rw[hn];simp[hoj,ht]) _ hc;simp only[yielded,hoj,X0,ht,this,SV.den];split at hg
     ·rename_i c
      have hb:(c==b')=b:=XH.inj hg;rw[←hb];cases c<;>cases b'<;>rfl
     ·rename_i hnb
      have hb:false=b:=XH.inj hg;rw[←hb];cases v<;>first|rfl|exact absurd rfl (hnb _)
    ·cases hg
theorem Ej(hI:iW ds w0 n l es st L β a w)(ho:l[i]?=some o)(he:es[i]?=some en)(hB:∀k o en,l[k]?=some o→es[k]?=some en→Ez l es n k o en)(hlen:es.length=l.length)
  {D:List Nat} (hE:∀k o en,l[k]?=some o→es[k]?=some en→yw P H w0 l.toArray D k (cJ n st l es k) o en) (hL:L i=false) (hLD:∀d∈D,L d=false) (hP:∀chain a w',a.defers=ds→w0.PP chain w'→ai w0.S w0.w w'→Q (.panic chain) a w') (hr:∀e∈o.after,Region.binds .any e=true→L e.on=true) {K:Act→World→Prop}
  (hT:(∃m∈D,l.length≤m)→i∈D→wpOp P l.toArray Q i K a w) (hK:i∉D→∀β' a' w',iW ds w0 n l es st (more L i) β' a' w'→K a' w'):wpOp P l.toArray Q i K a w:=by
 have hil:i < l.length:=(Xy.1 ho).1;have hb:=hB i o en ho he;have hent:=hE i o en ho he;have hlook:=Hr (st:=st) hlen hB i (by omega);have hrows:=LG (P:=P) (H:=H) (w0:=w0) (ops:=l.toArray) (st:=st) hlen hB hE i (by omega);have hlk:∀t∈o.looksAt l.toArray,look (cJ n st l es i).fr t=lM l st es L t:=fun t ht=>by rw[hlook];refine pD fun k hk=>(nF hI ho hL hr ?_).symm;have:=hb.looks t ht;rw[hk]at this;exact this
 have htmp:∀t,Operand.tmp t∈o.op.operands→t∈o.looksAt l.toArray:=fun t ht=>by unfold Oper.looksAt;exact List.mem_append_left _ (Yl.2 ⟨.tmp t,by simpa using ht,rfl⟩)
 have hev:∀x∈o.op.operands,∀sv,ev (cJ n st l es i).fr x=some sv→a.eval x=sv.den β∧sv.on (fun b=>∃r,cC st es L b=some r):=by
  intro x hx sv hsv;cases x with
  |tmp t=>
   have h1:lM l st es L t=some sv:=by rw[←hlk t (htmp t hx)];exact hsv
   exact⟨by have:=hI.get t sv h1;simp[Act.eval,this],hI.yC t sv h1⟩
  |const v=>simp only[ev,XH.injEq]at hsv;subst hsv;exact⟨rfl,trivial⟩
  |global g=>simp only[ev,XH.injEq]at hsv;subst hsv;exact⟨rfl,trivial⟩
  |func f=>simp only[ev,XH.injEq]at hsv;subst hsv;exact⟨rfl,trivial⟩
 have hw:∀{b},guardOf l.toArray (cJ n st l es i).fr o=some b→Region.wanted o (yielded l.toArray a.tmps)=b:=fun hg=>Dz (β:=β) (fun t ht sv hsv=>hI.get t sv (by rw[←hlk t ht];exact hsv)) hg;unfold wpOp;have hio:l.toArray[i]?=some o:=by simpa using ho
 simp only[hio];have hrow':∀iT:List Nat,en.K7=iT→∀b r,b∈iT→rowAt (cJ n st l es i).mem b=some r→cC st es L b=some r:=by
  intro iT htc b r ht hrb;have hset:=hb.K7 b (by rw[htc];exact ht);have:(cJ n st l es i).mem[b]?=some r:=hrb;rw[hrows]at this;rw[←this];refine rK (fun k hk=>nF hI ho hL hr ?_) (fun k hk=>nF hI ho hL hr ?_)
  ·have:=hset.1
   rw[hk]at this;exact this
  ·have:=hset.2
   rw[hk]at this;exact this
 have hsee:∀iT:List Nat,en.K7=iT→fD w0 β w (rowAt (cJ n st l es i).mem) iT:=fun iT htc=>⟨hI.aJ,fun b hb r hr=>hI.cw b r (hrow' iT htc b r hb hr),fun b hb r k hr hk=>hI.new b r k (hrow' iT htc b r hb hr) hk,fun b hb c hc r r' k hr hr' hk hk'=>hI.inj b c r r' k (hrow' iT htc b r hb hr) (hrow' iT htc c r' hc hr') hk hk'⟩;have hgev:=H8 (P:=P) (H:=H) (β:=β) (W:=w) (a:=a) (o:=o) (e:=ev (cJ n st l es i).fr) (fun x hx sv hsv=>(hev x hx sv hsv).1);have hgon:=H7 (P:=P) (H:=H) (o:=o) (e:=ev (cJ n st l es i).fr) (Q:=fun b=>∃r,cC st es L b=some r) (fun x hx sv hsv=>(hev x hx sv hsv).2);rcases hent with⟨hnD,hent⟩ | ⟨hiD,_,_,hdead⟩
 rotate_left
 ·rcases hdead with⟨e,hee,hbe,heD⟩ | ⟨hg,f,args,g,q,hres,hgok,hphi,hq,hfact,htch⟩ | ⟨m,hm,hle⟩
  rotate_right
  ·have:=hT ⟨m,hm,by simpa using hle⟩ hiD
   unfold wpOp at this;simpa only[hio]using this
  ·have:=hr e hee hbe
   rw[hLD _ heD]at this;cases this
  ·rw[hw hg,if_pos rfl]
   refine .inl ?_;rw[hres]at hgev;unfold Oper.wp;rw[show(execOp a.eval o).run P w=_ from hgev];refine(hfact w β (hsee g.iT htch)).mono fun e w' hp=>?_;rcases hp with⟨hphi',_⟩ | ⟨_,chain,rfl,hpp,hc⟩
   ·exact(hq (hphi' q hphi)).elim
   ·exact hP chain a w' hI.dn hpp (hI.aJ.seq hc ((hsee g.iT htch).eG hgok))
 have hK:=hK hnD;rcases hent with⟨hg,rfl⟩ | ⟨hg,hent⟩
 ·rw[hw hg,if_neg (by decide)]
  exact hK _ _ _ (hI.kz ho he hb hr (ai.refl _ _) rfl rfl trivial)
 ·rw[hw hg,if_pos rfl]
  refine .inl ?_;have hrow:en.K7=aF (ev (cJ n st l es i).fr) o→∀b r,b∈aF (ev (cJ n st l es i).fr) o→rowAt (cJ n st l es i).mem b=some r→cC st es L b=some r:=hrow' _;have hok:=fun htc=>Mq (P:=P) (w0:=w0) (H:=H) (β:=β) (W:=w) (a:=a) (o:=o) (e:=ev (cJ n st l es i).fr) (row:=rowAt (cJ n st l es i).mem) (hn:=hint H o.dst) hI.aJ (fun x hx sv hsv=>(hev x hx sv hsv).1) (fun b r ht hrb=>hI.cw b r (hrow htc b r ht hrb));have hon:=fun htc=>R7 (P:=P) (w0:=w0) (H:=H) (o:=o) (e:=ev (cJ n st l es i).fr) (row:=rowAt (cJ n st l es i).mem) (hn:=hint H o.dst) (Q:=fun b=>∃r,cC st es L b=some r) (fun x hx sv hsv=>(hev x hx sv hsv).2) (fun b r ht hrb=>hI.yy b r (hrow htc b r ht hrb));have hwr:∀row',en.nw=some ((cJ n st l es i).mem.length,row')→∀s,idxOf (ox (cJ n st l es i).mem.length) es=some s→L s=false:=fun row' hn s hs=>by
   have hnw:=hb.nw _ _ hn;obtain⟨ens,r',hes,hwr⟩:=RM hs;have hsl:s < l.length:=by rw[←hlen];exact(Xy.1 hes).1
   have hbs:=hB s _ ens (Xz hsl) hes;have htc:=(Ii (hE s _ ens (Xz hsl) hes) hwr).2;have hset:=(hbs.K7 _ htc).1;rw[hnw.1]at hset;have hlt:=hnw.2 s hs;have hset:oK l s i=true:=hset;unfold oK at hset;rw[show XZ i s=true from X3 hlt]at hset;obtain⟨os,hos,e,hee,hbi,hon⟩:=qW hset;cases hLs:L s with
   |false=>rfl
   |true=>have:=hI.down s os hos hLs e hee hbi;rw[hon,hL]at this;cases this
  have hnone:∀row',en.nw=some ((cJ n st l es i).mem.length,row')→cC st es L (cJ n st l es i).mem.length=none:=fun row' hn=>by
   have hnw:=hb.nw _ _ hn;unfold cC;have hbase:pF st es L (cJ n st l es i).mem.length=none:=by unfold pF;simp only[hnw.1,hL,Ym,if_false]
   split
   ·exact hbase
   ·rename_i s hs
    rw[if_neg (by rw[hwr row' hn s hs];decide)];exact hbase
  unfold Oper.wp;split at hent
  ·rename_i sv hres
   subst hent;rw[hres]at hgev hgon;rw[show(execOp a.eval o).run P w=_ from hgev];exact hK _ _ _ (hI.kz ho he hb hr (ai.refl _ _) rfl rfl hgon)
  ·rename_i f args g hres
   obtain⟨p,hp,hgok,hfact,hphi,hent⟩:=hent;obtain⟨hkill,hnew,hret,hupd⟩:=xH hp;rw[hres]at hgev;rw[show(execOp a.eval o).run P w=_ from hgev];have hsg:=hsee g.iT (by rw[hent]);refine(hfact w β hsg).mono fun e w' hpost=>?_;rcases hpost with⟨_,β',hgr⟩ | ⟨_,chain,rfl,hpp,hc⟩
   ·have he1:e=.returned p.1:=by rw[hgr.ret,hret];rfl
    subst he1;rcases hupd with⟨hu,hp2⟩ | ⟨q,hu,hp2,hpl⟩
    ·have hc:ai [] w w':=by
      have:=hgr.aJ;unfold cS.eG at this;rw[hkill,hu]at this;exact this
     have:=hI.kz ho he hb hr hc (by rw[hent]) (by rw[hent];exact hp2) (by rw[hent];trivial);rw[show en.sv.den β=p.1 by rw[hent];rfl]at this;exact hK _ _ _ this
    ·obtain⟨⟨r0,h0,hf0⟩,hf,hqs⟩:=Bm hgok (q:=q) (by rw[hu];simp)
     have h0':=hrow' g.iT (by rw[hent]) q.1 r0 hqs h0;have hlt:q.1 < (cJ n st l es i).mem.length:=(Xy.1 h0).1;have hheld:=hgr.dW q (by rw[hu];simp);have same':β'.same β (· < (cJ n st l es i).mem.length):=fun k hk=>by obtain⟨e1,e2,e3,e4⟩:=hgr.same k hk;exact⟨e1.symm,e2.symm,e3.symm,e4.symm⟩
     have hheld:=br.congr same' hlt (CI hpl) hheld;have hc:=hgr.aJ;unfold cS.eG at hc;rw[hkill,hu]at hc;simp only[XT,List.map_nil,List.append_nil,X6,List.filterMap_nil]at hc;have hb0:cQ β (rowAt (cJ n st l es i).mem) q.1=az β q.1 r0:=by unfold cQ;rw[show rowAt (cJ n st l es i).mem q.1=some r0 from h0]
     rw[hb0,aM hf0]at hc;have:=hI.nM ho he hb hr (m:=q.1) (r0:=r0) (r1:=q.2) (u0:=p.1) (by rw[hent]) (by rw[hent];exact hp2) (by rw[hent]) h0' (by rw[aM hf,aM hf0]) hheld (by rw[aM hf0];exact hc) (CI hpl);exact hK _ _ _ this
   ·exact hP chain a w' hI.dn hpp (hI.aJ.seq hc (hsg.eG hgok))
  ·exact hent.elim
  ·exact hent.elim
  split at hent
  ·rename_i sv ob hres
   obtain⟨hob,rfl⟩:=hent;have hok:=hok rfl;have hon:=hon rfl;rw[hres]at hok hon;rw[hok hob];exact hK _ _ _ (hI.kz ho he hb hr (ai.refl _ _) rfl rfl hon)
  ·rename_i f args v hres
   obtain⟨hc,rfl⟩:=hent;have hok:=hok rfl;rw[hres]at hok;rw[show(execOp a.eval o).run P w=_ from hok];refine(hc w hI.aJ).mono fun e w' ⟨hev,hch⟩=>?_;subst hev;exact hK _ _ _ (hI.kz ho he hb hr hch rfl rfl trivial)
  ·rename_i t cs ln hres
   obtain⟨hf,hft⟩:=uX hres;have hok:=hok (by rw[hent]);have hon:=hon (by rw[hent]);rw[hres]at hok hon;rw[show(execOp a.eval o).run P w=_ from hok];have hn:en.nw=some ((cJ n st l es i).mem.length,⟨t,cs⟩):=by rw[hent]
   exact hK _ _ _ (hI.Fv ho he hb hr hf hft hn (by rw[hent]) (by rw[hent]) (hnone _ hn) (hwr _ hn) hon)
  ·rename_i m r ob hres
   obtain⟨hob,hent⟩:=hent;have hok:=hok (by rw[hent]);have hon:=hon (by rw[hent]);rw[hres]at hok hon;obtain⟨w',hrun,hbk,hch⟩:=hok hob;rw[hrun];obtain⟨htt,hf,r0,hr0,hf0,htg⟩:=oF hres;exact hK _ _ _ (hI.nM ho he hb hr (by rw[hent]) (by rw[hent]) (by rw[hent]) (hrow (by rw[hent]) m r0 htt hr0) (by rw[aM hf,aM hf0]) (br.pb hbk hf (fun g hg=>(hI.cw m r0 (hrow (by rw[hent]) m r0 htt hr0)).tag g (by rw[←htg];exact hg))) (by rw[aM hf0];exact hch) hon.2)
  ·rename_i m r ob hres
   obtain⟨hob,hent⟩:=hent;have hok:=hok (by rw[hent]);have hon:=hon (by rw[hent]);rw[hres]at hok hon;obtain⟨w',hrun,hbk,hch⟩:=hok hob;rw[hrun];obtain⟨htt,r0,hr0,hbb⟩:=nD hres;rw[hbb β]at hch;exact hK _ _ _ (hI.nM ho he hb hr (by rw[hent]) (by rw[hent]) (by rw[hent]) (hrow (by rw[hent]) m r0 htt hr0) (hbb β) hbk hch hon.2)
  ·rename_i kill t size nn xs ob hres
   obtain⟨hob,hent⟩:=hent;have htc:=fun j (hj:kill=some j)=>rI (P:=P) (o:=o) (i:=j) (hj ▸ hres);have hok:=hok (by rw[hent]);rw[hres]at hok;obtain⟨A,cc,w',S,hrun,hown,hch,hS,hA⟩:=hok hob;rw[hrun];have hn:en.nw=some ((cJ n st l es i).mem.length,⟨t,.own size nn xs⟩):=by rw[hent]
   have:=hI.tM ho he hb hr hn (kill:=kill) (by rw[hent]) (hnone _ hn) (hwr _ hn) hown hch (fun k hk=>by obtain⟨j,hj,hbk⟩:=hS k hk;obtain⟨htj,r,h0,s,m,ys,hcs⟩:=htc j hj;exact⟨j,r,hj,hrow (by rw[hent]) j r htj h0,by unfold az;rw[hcs];exact hbk⟩) hA (by rw[hent];rfl);rw[show en.sv.den (β.jc (cJ n st l es i).mem.length A nn cc)=.slice A nn cc by rw[hent];exact nt]at this;exact hK _ _ _ this
  ·rename_i f args r hres
   obtain⟨hcl,hent⟩:=hent;have htc:=D9 hres;have hok:=hok (by rw[hent]);rw[hres]at hok;rw[show(execOp a.eval o).run P w=_ from hok];have hcall:=fF (β:=β) (hcl w hI.aJ) (fun j sv hj hat r' hr'=>hI.cw j r' (hrow (by rw[hent]) j r' (htc j sv hj hat) hr'));refine hcall.mono fun e w' hp=>?_;rcases LU hp with⟨v,rfl,rfl,hc⟩ | ⟨T,size,nn,xs,A,cc,hrr,hown,hc,hA,hsv⟩
   ·have:=hI.kz ho he hb hr hc (by rw[hent];rfl) (by rw[hent]) (by rw[hent];trivial)
    rw[show en.sv.den β=v by rw[hent];rfl]at this;exact hK _ _ _ this
   ·obtain⟨hev',hon'⟩:=hsv β (cJ n st l es i).mem.length
    subst hev';have hn:en.nw=some ((cJ n st l es i).mem.length,⟨T,.own size nn xs⟩):=by rw[hent];simp only[hrr,XI]
    have:=hI.tM ho he hb hr hn (kill:=none) (by rw[hent];rfl) (hnone _ hn) (hwr _ hn) hown hc (by simp) (fun k hk=>.inr (hA k hk)) (by rw[hent];exact hon');rw[show en.sv=iY (cJ n st l es i).mem.length r by rw[hent]]at this;exact hK _ _ _ this
  ·rename_i f j r hres
   obtain⟨hcl,hent⟩:=hent;have htj:=(uV hres).1;have hok:=hok (by rw[hent]);rw[hres]at hok;rw[show(execOp a.eval o).run P w=_ from hok];have hcall:=Iu (β:=β) (hcl w hI.aJ) (fun r' hr'=>hI.cw j r' (hrow (by rw[hent]) j r' htj hr'));obtain⟨r0,h0,s0,m0,y0,hc0⟩:=yo (hcl w hI.aJ);refine hcall.mono fun e w' hp=>?_;obtain⟨T,size,nn,xs,A,cc,hrr,hown,hc,hA,hsv⟩:=GZ hp;obtain⟨hev',hon'⟩:=hsv β (cJ n st l es i).mem.length;subst hev';rw[Cl]at hc hA;have hn:en.nw=some ((cJ n st l es i).mem.length,⟨T,.own size nn xs⟩):=by rw[hent];simp only[hrr,XI]
   have:=hI.tM ho he hb hr hn (kill:=some j) (by rw[hent];rfl) (hnone _ hn) (hwr _ hn) hown hc (fun k hk=>⟨j,r0,rfl,hrow (by rw[hent]) j r0 htj h0,by unfold az;rw[hc0];simpa using hk⟩) (fun k hk=>(hA k hk).imp (fun h=>by simpa using h) id) (by rw[hent];exact hon');rw[show en.sv=iY (cJ n st l es i).mem.length r by rw[hent]]at this;exact hK _ _ _ this
  ·rename_i f args x hres
   obtain⟨hx1,hx2,_⟩:=rP hres;cases x with
   |dW p m row v=>
    obtain⟨hcl,hent⟩:=hent;obtain⟨hpi,htt,r0,h0,hty,hf0,hf,htg⟩:=hx2 p m row v rfl;have hok:=hok (by rw[hent]);have hon:=hon (by rw[hent]);rw[hres]at hok hon;rw[show(execOp a.eval o).run P w=_ from hok];have hr0:=hrow (by rw[hent]) m r0 htt h0;have hcall:=fF (β:=β) (hcl w hI.aJ) (fun j sv hj hat r' hr'=>hI.cw j r' (hrow (by rw[hent]) j r' (hx1 j sv hj hat) hr'));refine hcall.mono fun e w' hp=>?_;obtain⟨g,l,hg,hl,rfl,hb',hc⟩:=hp;rw[XR,hpi]at hg;have hgi:β m=g:=by simpa[SV.den]using hg
    have hden:row.cs.den β=l:=by unfold Cells.list at hl;split at hl<;>first | (cases hl;done) | (rename_i hcs;cases hl;rw[hcs];rfl)
    rw[←hgi]at hb' hc;have hheld:br β w' m row:=br.pb (by rw[hden];exact hb') hf (fun g hg=>(hI.cw m r0 hr0).tag g (by rw[←htg];exact hg));exact hK _ _ _ (hI.nM ho he hb hr (by rw[hent]) (by rw[hent]) (by rw[hent]) hr0 (by rw[aM hf,aM hf0]) hheld (by rw[aM hf0];exact hc) hon.2)
   |G9 ps=>exact hent.elim
  ·exact hent.elim
theorem gb{listed:Array Bool}(h:i < listed.size):more (fun k=>listed.getD k false) i=fun k=>(listed.setIfInBounds i true).getD k false:=by
 funext k;by_cases hk:k=i
 ·subst hk
  rw[kA];simp[h]
 ·rw[fP hk,getD_set_ne false (Ne.symm hk)]
theorem T7(hB:∀k o en,l[k]?=some o→es[k]?=some en→Ez l es n k o en)(hlen:es.length=l.length)
  {D:List Nat} (hE:∀k o en,l[k]?=some o→es[k]?=some en→yw P H w0 l.toArray D k (cJ n st l es k) o en)
  (hDl:∀d∈D,d < l.length) (hP:∀chain a w',a.defers=ds→w0.PP chain w'→ai w0.S w0.w w'→Q (.panic chain) a w')
  (hQ:D=[]→∀L β a w,iW ds w0 n l es st L β a w→(∀k,k < l.length→L k=true)→Q .normal a w) :
  ∀(fuel:Nat) (listed:Array Bool) (β:Env) (a:Act) (w:World),listed.size=l.length→listed.toList.count true+fuel=l.length→(∀d∈D,listed.getD d false=false)→iW ds w0 n l es st (fun k=>listed.getD k false) β a w→wpAny P .any l.toArray Q fuel listed a w:=by
 have done:∀(listed:Array Bool),listed.size=l.length→Region.ready .any l.toArray listed=[]→∀k,k < l.length→listed.getD k false=true:=by
  intro listed hsz hnil k;induction k using Yd with
  |_ k ih=>
   intro hk;cases hLk:listed.getD k false with
   |true=>rfl
   |false=>
    exfalso;obtain⟨o,ho⟩:∃o,l[k]?=some o:=⟨_,Xz hk⟩;obtain⟨en,he⟩:∃en,es[k]?=some en:=⟨_,Xz (by omega)⟩;have hmem:k∈Region.ready .any l.toArray listed:=by
     rw[mem_ready];refine⟨?_,o,by simpa using ho,fun e hee hb=>?_⟩
     ·have hk':k < listed.size:=by omega
      simp only[XB,XC hk',XO]at hLk ⊢;exact hLk
     ·have hlt:=(hB k o en ho he).down e hee hb
      exact ih e.on hlt (by omega)
    rw[hnil]at hmem;cases hmem
 intro fuel;induction fuel with
 |zero=>
  intro listed β a w hsz hcnt hLD hI;have hall:∀k,k < l.length→listed.getD k false=true:=by
   have hc:listed.toList.count true=listed.toList.length:=by simp at hcnt ⊢;omega
   have:=Yj.1 hc;intro k hk;have hk':k < listed.size:=by omega
   have h1:=this listed[k] (by simp);simp[hk',←h1]
  have noD:D=[]:=Ya.2 fun d hd=>by have:=hall d (hDl d hd);rw[hLD d hd]at this;cases this
  refine⟨?_,hQ noD _ β a w hI hall⟩;cases hr:Region.ready .any l.toArray listed with
  |nil=>rfl
  |cons x r=>
   exfalso;have hx:x∈Region.ready .any l.toArray listed:=by rw[hr];simp
   obtain⟨h0,o,ho,_⟩:=mem_ready.1 hx;have hxl:x < l.length:=by have:=(Xy.1 (show l[x]?=some o by simpa using ho)).1;exact this
   have:=hall x hxl;have hk':x < listed.size:=by omega
   simp only[XB,XC hk',XO]at h0 this;rw[h0]at this;cases this
 |succ fuel ih=>
  intro listed β a w hsz hcnt hLD hI;refine⟨fun hnil=>hQ (Ya.2 fun d hd=>by have:=done listed hsz hnil d (hDl d hd);rw[hLD d hd]at this;cases this) _ β a w hI (done listed hsz hnil),fun i hi=>?_⟩;obtain⟨h0,o,ho,hall⟩:=mem_ready.1 hi;have ho':l[i]?=some o:=by simpa using ho
  have hil:i < l.length:=(Xy.1 ho').1;have hk':i < listed.size:=by omega
  obtain⟨en,he⟩:∃en,es[i]?=some en:=⟨_,Xz (by omega)⟩;have hLi:listed[i]=false:=by simpa[hk']using h0
  refine Ej hI ho' he hB hlen hE (by simp[hk',hLi]) hLD hP (fun e hee hb=>hall e (by simpa using hee) hb) (fun⟨m,hm,hle⟩ _=>absurd (hDl m hm) (by omega)) fun hiD β' a' w' hI'=>?_;have hLD':∀d∈D,(listed.setIfInBounds i true).getD d false=false:=fun d hd=>by have hne:d≠i:=fun h=>hiD (h ▸ hd);rw[←congrFun (gb hk') d,fP hne];exact hLD d hd
  rw[gb hk']at hI';refine ih _ β' a' w' (by simpa using hsz) ?_ hLD' hI';have hcs:(listed.setIfInBounds i true).toList.count true=listed.toList.count true+1:=by
   rw[Yc,Yq (by simpa using hk')];have:listed.toList[i]'(by simpa using hk')=false:=by simpa using hLi
   simp[this]
  omega
theorem iW.start(h:Hd ds w0 n β st a w)(hfresh:∀b k:Nat,idxOf (j4 b) es=some k→st.mem[b]?=none):iW ds w0 n l es st (fun _=>false) β a w:=by
 have row:∀b,cC st es (fun _=>false) b=st.mem[b]?:=fun b=>Ac (hfresh b);have lt:∀b,b < st.mem.length→∃r,cC st es (fun _=>false) b=some r:=fun b hb=>⟨_,by rw[row];exact Xz hb⟩;refine⟨h.size,h.dn,fun t sv ht=>h.get t sv (by rw[←ht,rM]),fun b r hb=>h.cw b r (by rw[←hb,row]),fun b r k hb hk=>h.new b r k (by rw[←hb,row]) hk,fun b c r r' k hb hc hk hk'=>h.inj b c r r' k (by rw[←hb,row]) (by rw[←hc,row]) hk hk',h.aJ,fun t sv ht=>?_,fun b r hb=>?_,fun k o ho hk=>by cases hk⟩
 ·rw[rM]at ht;exact SV.bD lt (h.yC t sv ht)
 ·rw[row]at hb;exact Cells.bD lt (h.yy b r hb)
theorem iW.Sh(hI:iW ds w0 n l es st L β a w){m:Nat}(hm:m≤l.length)(hL:∀k,k < l.length→L k=yz m k)(hB:∀k o en,l[k]?=some o→es[k]?=some en→Ez l es n k o en)(hlen:es.length=l.length)
  {D:List Nat} (hE:∀k o en,l[k]?=some o→es[k]?=some en→yw P H w0 l.toArray D k (cJ n st l es k) o en):Hd ds w0 n β (cJ n st l es m) a w:=by
 have hlook:∀t,look (cJ n st l es m).fr t=lM l st es L t:=fun t=>by rw[Hr (st:=st) hlen hB m hm];refine pD fun k hk=>?_;obtain⟨o,ho,_⟩:=ie hk;have hkl:=(Xy.1 ho).1;rw[hL k hkl]
 have hrow:∀b:Nat,(cJ n st l es m).mem[b]?=cC st es L b:=fun b=>by
  rw[LG (P:=P) (H:=H) (w0:=w0) (ops:=l.toArray) (st:=st) hlen hB hE m hm];refine rK (fun k hk=>?_) (fun k hk=>?_)
  ·obtain⟨o,ho,_⟩:=ie hk
   have hkl:=(Xy.1 ho).1;rw[hlen]at hkl;rw[hL k hkl]
  ·obtain⟨o,ho,_⟩:=ie hk
   have hkl:=(Xy.1 ho).1;rw[hlen]at hkl;rw[hL k hkl]
 have ex:∀b:Nat,b < (cJ n st l es m).mem.length→∃r,cC st es L b=some r:=fun b hb=>⟨_,by rw[←hrow];exact Xz hb⟩;have back:∀b:Nat,(∃r,cC st es L b=some r)→b < (cJ n st l es m).mem.length:=fun b ⟨r,h⟩=>by rw[←hrow]at h;exact(Xy.1 h).1
 refine⟨hI.size,hI.dn,fun t sv ht=>hI.get t sv (by rw[←hlook];exact ht),fun b r hb=>hI.cw b r (by rw[←hrow];exact hb),fun b r k hb hk=>hI.new b r k (by rw[←hrow];exact hb) hk,fun b c r r' k hb hc hk hk'=>hI.inj b c r r' k (by rw[←hrow];exact hb) (by rw[←hrow];exact hc) hk hk',hI.aJ,fun t sv ht=>?_,fun b r hb=>?_⟩
 ·rw[hlook]at ht;exact SV.bD back (hI.yC t sv ht)
 ·rw[hrow]at hb;exact Cells.bD back (hI.yy b r hb)
theorem iW.fin(hI:iW ds w0 n l es st L β a w)(hL:∀k,k < l.length→L k=true)(hB:∀k o en,l[k]?=some o→es[k]?=some en→Ez l es n k o en)(hlen:es.length=l.length)
  {D:List Nat} (hE:∀k o en,l[k]?=some o→es[k]?=some en→yw P H w0 l.toArray D k (cJ n st l es k) o en):Hd ds w0 n β (cJ n st l es l.length) a w:=
 hI.Sh (X1 _) (fun k hk=>by rw[hL k hk];simp[yz,hk]) hB hlen hE
def Ig(P:Program)(H:List (Nat×Hint))(n:Nat)(w0:bu)(l:List Oper)(st:St)(K:St→Prop):Prop:=
 gK P H n w0 l.toArray l 0 st [] [] fun es st' D=>match Em l es n 0 l es with
  |true=>match D with
   | []=>K st'
   |_=>True
  |false=>cR l
theorem FZ{id:Nat}{K:St→Prop}(hm:P.follows .mixedOrders=true)(h:Hd ds w0 n β st a w)(hx:Ig P H n w0 l st K)(hP:∀chain a w',a.defers=ds→w0.PP chain w'→ai w0.S w0.w w'→Q (.panic chain) a w')(hK:∀β' st' a' w',K st'→Hd ds w0 n β' st' a' w'→Q .normal a' w'):(Code.region id l.toArray true).wp P Q a w:=by
 obtain⟨es,st',D,hlex,hk⟩:=A9 _ _ _ _ _ _ hx;rw[Yo]at hk;obtain⟨hlen,hE,hst⟩:=xu hlex (by simp);have hE:∀k o en,l[k]?=some o→es[k]?=some en→yw P H w0 l.toArray D k (cJ n st l es k) o en:=fun k o en ho he=>by have:=hE k o en ho he;rwa [XY]at this
 have hDl:∀d∈D,d < l.length:=fun d hd=>by simpa using lex_lt hlex (by simp) d hd
 split at hk
 ·rename_i hb
  have hB:∀k o en,l[k]?=some o→es[k]?=some en→Ez l es n k o en:=fun k o en ho he=>by have:=rV hb k o en ho he;rw[XY]at this;exact CK this
  refine wp_region_any hm ?_;have hI:iW ds w0 n l es st (fun _=>false) β a { w with drawn:=w.drawn+1 }:=iW.start (h.later (ai.refl [] w).drew) fun b k hk'=>by
   obtain⟨en,r,he,hr⟩:=ga hk';have hkl:k < l.length:=by rw[←hlen];exact(Xy.1 he).1
   have hbl:=vw (hE k _ en (Xz hkl) he) hr;have:=A5 (n:=n) (st:=st) hlen k (by omega);exact XF (by omega)
  have hrep:(fun k=>(XQ l.length false).getD k false)=fun _:Nat=>false:=by funext k;simp only[XB,Ye];split<;>rfl
  have:=T7 (P:=P) (H:=H) (w0:=w0) (n:=n) (st:=st) (Q:=Q) hB hlen hE hDl hP (fun hDn L β' a' w' hI' hL=>hK β' st' a' w' (by subst hDn;exact hk) (by rw[←hst];exact hI'.fin hL hB hlen hE)) l.length (XQ l.length false) β a { w with drawn:=w.drawn+1 } (by simp) (by simp[Yi]) (fun d _=>congrFun hrep d) (by rw[hrep];exact hI);simpa using this
 ·exact nomatch hk
def sinkB(l:List Oper):Bool:=fM (fun k=>(l.drop (k+1)).any fun o=>o.after.toList.any fun e=>Region.binds .any e&&X5 e.on k) (List.range (l.length - 1))
def RU(H:List (Nat×Hint))(l:List Oper):Option Oper:=match l.getLast? with
 |some o=>match hint H o.dst with
  |some (.aB g)=>match zS g with
   |none=>some o
   |some _=>none
  |_=>none
 |none=>none
def Ie(P:Program)(H:List (Nat×Hint))(n:Nat)(w0:bu)(l:List Oper)(o:Oper)(st:St)(K:St→Prop):Prop:=
 gK P H n w0 l.toArray l.dropLast 0 st [] [] fun es st' D=>match Em l (es++[lJ []]) n 0 l (es++[lJ []])&&sinkB l with
  |true=>match D with
   | []=>uQ P H n w0 l.toArray [o] st' K
   |_=>cR l
  |false=>cR l
def F0(P:Program)(H:List (Nat×Hint))(n:Nat)(w0:bu)(l:List Oper)(st:St)(K:St→Prop):Prop:=match RU H l with
 |some o=>Ie P H n w0 l o st K
 |none=>Ig P H n w0 l st K
theorem vT:∀{l:List Oper} {es:List jN} {st:St} {k:Nat} (l2:List Oper) (es2:List jN),es.length=l.length→k≤l.length→cJ n st (l++l2) (es++es2) k=cJ n st l es k
 |l,es,st,0,l2,es2,_,_=>by rw[je,je]
 |o::l,en::es,st,k+1,l2,es2,hl,hk=>by show cJ n (dj n st o en) (l++l2) (es++es2) k=cJ n (dj n st o en) l es k;exact vT l2 es2 (by simpa using hl) (by simpa using hk)
 | [],_,_,k+1,_,_,_,hk=>by simp at hk
 |_::_,[],_,_,_,_,hl,_=>by simp at hl
theorem RD{o:Oper}{N:Nat}(hB:∀k o en,l[k]?=some o→es[k]?=some en→Ez l es n k o en)(hlen:es.length=l.length)(hN:l.length=N+1)(hoN:l[N]?=some o)
  (hE:∀k o en,l[k]?=some o→es[k]?=some en→yw P H w0 l.toArray [N,l.length] k (cJ n st l es k) o en) (hsink:sinkB l=true)
  (hP:∀chain a w',a.defers=ds→w0.PP chain w'→ai w0.S w0.w w'→Q (.panic chain) a w')
  (hQ:∀β a w,Hd ds w0 n β (cJ n st l es N) a w→wpList P l.toArray Q [o] a w) :
  ∀(fuel:Nat) (listed:Array Bool) (β:Env) (a:Act) (w:World),listed.size=l.length→listed.toList.count true+fuel=l.length→listed.getD N false=false→(∀k,listed.getD k false=true→∀o,l[k]?=some o→∀e∈o.after,Region.binds .any e=true→listed.getD e.on false=true)→
   iW ds w0 n l es st (fun k=>listed.getD k false) β a w→wpAny P .any l.toArray Q fuel listed a w:=by
 have inB:∀(listed:Array Bool) (k:Nat),listed.getD k false=true→k < listed.size:=fun listed k h=>by
  rcases Yu k listed.size with h1|h1
  ·exact h1
  ·rw[XB,Yf h1]at h;cases h
 have done:∀(listed:Array Bool),listed.size=l.length→Region.ready .any l.toArray listed=[]→∀k,k < l.length→listed.getD k false=true:=by
  intro listed hsz hnil k;induction k using Yd with
  |_ k ih=>
   intro hk;cases hLk:listed.getD k false with
   |true=>rfl
   |false=>
    exfalso;obtain⟨o,ho⟩:∃o,l[k]?=some o:=⟨_,Xz hk⟩;obtain⟨en,he⟩:∃en,es[k]?=some en:=⟨_,Xz (by omega)⟩;have hmem:k∈Region.ready .any l.toArray listed:=by
     rw[mem_ready];refine⟨?_,o,by simpa using ho,fun e hee hb=>?_⟩
     ·have hk':k < listed.size:=by omega
      simp only[XB,XC hk',XO]at hLk ⊢;exact hLk
     ·have hlt:=(hB k o en ho he).down e hee hb
      exact ih e.on hlt (by omega)
    rw[hnil]at hmem;cases hmem
 intro fuel;induction fuel with
 |zero=>
  intro listed β a w hsz hcnt hLN _ hI;exfalso;have hc:listed.toList.count true=listed.toList.length:=by simp at hcnt ⊢;omega
  have:=Yj.1 hc;have hk':N < listed.size:=by omega
  have h1:=this listed[N] (by simp);simp[hk',←h1]at hLN
 |succ fuel ih=>
  intro listed β a w hsz hcnt hLN hcl hI;refine⟨fun hnil=>absurd (done listed hsz hnil N (by omega)) (by rw[hLN];decide),fun i hi=>?_⟩;obtain⟨h0,o',ho,hall⟩:=mem_ready.1 hi;have ho':l[i]?=some o':=by simpa using ho
  have hil:i < l.length:=(Xy.1 ho').1;have hk':i < listed.size:=by omega
  obtain⟨en,he⟩:∃en,es[i]?=some en:=⟨_,Xz (by omega)⟩;have hLi:listed[i]=false:=by simpa[hk']using h0
  have hLD:∀d∈[N,l.length],listed.getD d false=false:=fun d hd=>by
   rcases XM.1 hd with rfl|hd
   ·exact hLN
   ·rw[X7.1 hd,XB,Yf (by omega)];rfl
  refine Ej hI ho' he hB hlen hE (by simp[hk',hLi]) hLD hP (fun e hee hb=>hall e (by simpa using hee) hb) (fun _ hiD=>?_) fun hiD β' a' w' hI'=>?_
  ·have hiN:i=N:=by
    rcases XM.1 hiD with h|h
    ·exact h
    ·have:=X7.1 h;omega
   subst hiN;rw[hoN]at ho';cases ho';have allL:∀m k,k+m=i→k < i→listed.getD k false=true:=by
    intro m;induction m using Yd with
    |_ m ihm=>
     intro k hkm hki;have hs:=bn hsink k (List.mem_range.2 (by omega));obtain⟨oj,hoj,hej⟩:=X2.1 hs;obtain⟨e,hee,hbb⟩:=X2.1 hej;rw[XA]at hbb;have hek:e.on=k:=XD hbb.2;obtain⟨j,hj⟩:=List.mem_iff_getElem?.1 hoj;rw[List.getElem?_drop]at hj;have hjl:=(Xy.1 hj).1;by_cases hjN:k+1+j=i
     ·rw[hjN,hoN]at hj
      cases hj;have:=hall e (by simpa using hee) hbb.1;rw[hek]at this;exact this
     ·have hl:=ihm (i - (k+1+j)) (by omega) (k+1+j) (by omega) (by omega)
      have:=hcl _ hl oj hj e (by simpa using hee) hbb.1;rw[hek]at this;exact this
   have hL:∀k,k < l.length→listed.getD k false=yz i k:=fun k hk=>by
    by_cases hki:k < i
    ·rw[allL (i - k) k (by omega) hki]; simp[yz,hki]
    ·have:k=i:=by omega
     subst this;rw[hLN];simp[yz]
   have hH:=hI.Sh (by omega) hL hB hlen hE;have hw:=hQ β a w hH;have hfuel:fuel=0:=by
    have hcount:listed.toList.count true=i:=by
     have:listed.toList=List.replicate i true++[false]:=by
      refine List.ext_getElem? fun k=>?_;by_cases hki:k < i
      ·rw[XP (by simpa using hki),List.getElem?_replicate,if_pos hki]
       have h1:=allL (i - k) k (by omega) hki;have hks:k < listed.size:=by omega
       rw[XB,XC hks]at h1;rw[Yg,XC hks];simpa using h1
      ·by_cases hke:k=i
       ·subst hke
        rw[XN (by simp),Yg,XC hk',hLi];simp
       ·rw[XF (by simp;omega),XF (by simp;omega)]
     rw[this];simp
    omega
   subst hfuel;have hrdy:Region.ready .any l.toArray (listed.setIfInBounds i true)=[]:=by
    cases hr:Region.ready .any l.toArray (listed.setIfInBounds i true)with
    |nil=>rfl
    |cons x r=>
     exfalso;have hx:x∈Region.ready .any l.toArray (listed.setIfInBounds i true):=by rw[hr];simp
     obtain⟨h0,o,ho,_⟩:=mem_ready.1 hx;have hxl:x < l.length:=(Xy.1 (show l[x]?=some o by simpa using ho)).1;have hall2:(listed.setIfInBounds i true).getD x false=true:=by
      rw[←congrFun (gb hk') x];by_cases hxi:x=i
      ·rw[hxi,kA]
      ·rw[fP hxi,hL x hxl];simp[yz];omega
     have hxs:x < (listed.setIfInBounds i true).size:=by simp;omega
     rw[XB,XC hxs]at hall2;rw[XB,XC hxs]at h0;simp only[XO]at hall2 h0;rw[hall2]at h0;cases h0
   unfold wpOp;rw[show l.toArray[i]?=some o by simpa using hoN];simp only;unfold wpList at hw;split at hw
   ·rename_i hwt
    rw[if_pos hwt];rcases hw with hw|hw
    ·exact .inl (Oper.wp_mono (fun a' w' h=>⟨hrdy,by simpa[wpList]using h⟩) hw)
    ·exact .inr hw
   ·rename_i hwt
    rw[if_neg hwt];exact⟨hrdy,by simpa[wpList]using hw⟩
  ·have hLN':(listed.setIfInBounds i true).getD N false=false:=by
    have hne:N≠i:=fun h=>hiD (h ▸ by simp);rw[←congrFun (gb hk') N,fP hne];exact hLN
   have hcl':∀k,(listed.setIfInBounds i true).getD k false=true→∀o,l[k]?=some o→∀e∈o.after,Region.binds .any e=true→(listed.setIfInBounds i true).getD e.on false=true:=by
    intro k hk ok hok e hee hb;rw[←congrFun (gb hk') k]at hk;rw[←congrFun (gb hk') e.on];have up:listed.getD e.on false=true→more (fun k=>listed.getD k false) i e.on=true:=fun h=>by
     by_cases hx:e.on=i
     ·rw[hx,kA]
     ·rw[fP hx];exact h
    by_cases hki:k=i
    ·subst hki
     rw[ho']at hok;cases hok;exact up (hall e (by simpa using hee) hb)
    ·rw[fP hki]at hk
     exact up (hcl k hk ok hok e hee hb)
   rw[gb hk']at hI';refine ih _ β' a' w' (by simpa using hsz) ?_ hLN' hcl' hI';have hcs:(listed.setIfInBounds i true).toList.count true=listed.toList.count true+1:=by
    rw[Yc,Yq (by simpa using hk')];have:listed.toList[i]'(by simpa using hk')=false:=by simpa using hLi
    simp[this]
   omega
theorem FY{id:Nat}{K:St→Prop}{o:Oper}(hm:P.follows .mixedOrders=true)(h:Hd ds w0 n β st a w)(ho:l.getLast?=some o)(hx:Ie P H n w0 l o st K)(hP:∀chain a w',a.defers=ds→w0.PP chain w'→ai w0.S w0.w w'→Q (.panic chain) a w')(hK:∀β' st' a' w',K st'→Hd ds w0 n β' st' a' w'→Q .normal a' w'):(Code.region id l.toArray true).wp P Q a w:=by
 obtain⟨es,st',D,hlex,hk⟩:=A9 _ _ _ _ _ _ hx;rw[Yo]at hk;obtain⟨hlen0,hE0,hst⟩:=xu hlex (by simp);obtain⟨l1,rfl⟩:∃l1,l=l1++[o]:=⟨l.dropLast,by rw[List.getLast?_eq_some_iff]at ho;obtain⟨ys,rfl⟩:=ho;simp⟩;rw[List.dropLast_concat]at hlen0 hE0 hst;split at hk
 rotate_left
 ·exact nomatch hk
 rename_i hb;rw[XA]at hb;split at hk
 rotate_left
 ·exact nomatch hk
 have hlen:(es++[lJ []]).length=(l1++[o]).length:=by simp[hlen0]
 have hB:∀k o' en,(l1++[o])[k]?=some o'→(es++[lJ []])[k]?=some en→Ez (l1++[o]) (es++[lJ []]) n k o' en:=fun k o' en ho he=>by have:=rV hb.1 k o' en ho he;rw[XY]at this;exact CK this
 have hE:∀k o' en,(l1++[o])[k]?=some o'→(es++[lJ []])[k]?=some en→yw P H w0 (l1++[o]).toArray [l1.length,(l1++[o]).length] k (cJ n st (l1++[o]) (es++[lJ []]) k) o' en:=by
  intro k o' en ho he;have hkl:=(Xy.1 ho).1;simp only[X8,Yh]at hkl;by_cases hkN:k < l1.length
  ·rw[XP hkN]at ho
   rw[XP (by omega)]at he;have:=hE0 k o' en ho he;rw[XY]at this;rw[vT [o] [lJ []] hlen0 (by omega)];rcases this with⟨_,h1⟩ | ⟨h1,_⟩
   ·refine .inl ⟨fun hh=>?_,h1⟩
    simp only[XM,List.not_mem_nil,or_false,X8,Yh]at hh;omega
   ·cases h1
  ·have:k=l1.length:=by omega
   subst this;rw[XN (by omega),hlen0,Nat.sub_self]at he;cases he;exact .inr ⟨by simp,rfl,rfl,.inr (.inr ⟨(l1++[o]).length,by simp,by simp⟩)⟩
 refine wp_region_any hm ?_;have hrep:(fun k=>(XQ (l1++[o]).length false).getD k false)=fun _:Nat=>false:=by funext k;simp only[XB,Ye];split<;>rfl
 have hI:iW ds w0 n (l1++[o]) (es++[lJ []]) st (fun _=>false) β a { w with drawn:=w.drawn+1 }:=iW.start (h.later (ai.refl [] w).drew) fun b k hk'=>by
  obtain⟨en,r,he,hr⟩:=ga hk';have hkl:k < (l1++[o]).length:=by rw[←hlen];exact(Xy.1 he).1
  have hbl:=vw (hE k _ en (Xz hkl) he) hr;have:=A5 (n:=n) (st:=st) hlen k (by omega);exact XF (by omega)
 have:=RD (P:=P) (H:=H) (w0:=w0) (n:=n) (st:=st) (Q:=Q) (N:=l1.length) (o:=o) hB hlen (by simp) (by rw[XN (X1 _)];simp) hE hb.2 hP (fun β' a' w' hH=>by rw[vT [o] [lJ []] hlen0 (X1 _),hst]at hH;exact DM hP [o] st' K β' a' w' hH hk hK) (l1++[o]).length (XQ (l1++[o]).length false) β a { w with drawn:=w.drawn+1 } (by simp) (by simp[Yi]) (congrFun hrep _) (fun k hk'=>by rw[show(XQ (l1++[o]).length false).getD k false=false from congrFun hrep k]at hk';cases hk') (by rw[hrep];exact hI);simpa using this
theorem J7{id:Nat}{K:St→Prop}(hm:P.follows .mixedOrders=true)(h:Hd ds w0 n β st a w)(hx:F0 P H n w0 l st K)(hP:∀chain a w',a.defers=ds→w0.PP chain w'→ai w0.S w0.w w'→Q (.panic chain) a w')(hK:∀β' st' a' w',K st'→Hd ds w0 n β' st' a' w'→Q .normal a' w'):(Code.region id l.toArray true).wp P Q a w:=by
 unfold F0 at hx;split at hx
 ·rename_i o ho
  refine FY hm h ?_ hx hP hK;unfold RU at ho;split at ho
  ·rename_i o' ho'
   split at ho
   ·split at ho
    ·cases ho;exact ho'
    ·cases ho
   ·cases ho
  ·cases ho
 ·exact FZ hm h hx hP hK
end
end Sx
open Go Go.RowKit Go.Lib Go.Sort
namespace Sx
inductive Loop:Type 1 where
 |mk (κ:Type) (k0:κ) (R:κ→Prop) (fr:κ→List (Nat×SV)) (mem:κ→List Row) (next:κ→κ) (μ:κ→Nat)
  (ι:Type) (Ro:ι→Prop) (fro:ι→List (Nat×SV)) (memo:ι→List Row) (which:κ→ι)
 |fin (κ:Type) (k0:κ) (R:κ→Prop) (fr:κ→List (Nat×SV)) (mem:κ→List Row) (next:κ→κ) (μ:κ→Nat)
 |times (l:List (List (Nat×Hint)))
def Bk(fr:List (Nat×SV))(t:Nat):Bool:=match look fr t with
 |some _=>true
 |none=>false
def Mk(fr:List (Nat×SV))(l:List (Nat×SV)):List (Nat×SV):=l.map fun p=>(p.1,(look fr p.1).getD (.val undef))
def Pe:SV→Option Nat
 |.val _=>none
 |.ptr i _=>some i
 |.oI i _ _ _=>some i
 |.own i=>some i
 |.nK i _=>some i
 |.oo _ i _=>some i
 |.mf i _ _ _=>some i
 |.gone=>none
 |.dX _=>none
 |.Ik _ _=>none
 |.ml _ i _=>some i
 |.nz _=>none
 |.eU _ i _=>some i
def yX(fr:List (Nat×SV)):List (Nat×SV)→List (Nat×Nat)
 | []=>[]
 |p::r=>match Pe p.2 with
  |some i=>match look fr p.1 with
   |some u=>match Pe u with
    |some j=>(i,j)::yX fr r
    |none=>yX fr r
   |none=>yX fr r
  |none=>yX fr r
def fE:List (Nat×Nat)→Nat→Nat
 | [],i=>i
 |p::r,i=>match X5 p.1 i with
  |true=>p.2
  |false=>fE r i
def Atom.fE(σ:List (Nat×Nat)):Atom→Atom
 |.v x=>.v x
 |.o i=>.o (Sx.fE σ i)
 |.p i off=>.p (Sx.fE σ i) off
 |.s i off len cut=>.s (Sx.fE σ i) off len cut
def fX.fE(σ:List (Nat×Nat)):fX→fX
 |.a x=>.a (x.fE σ)
 |.row l=>.row (l.map (Atom.fE σ))
 |.ml t i off=>.ml t (Sx.fE σ i) off
def SV.fE(σ:List (Nat×Nat)):SV→SV
 |.val v=>.val v
 |.ptr i o=>.ptr (Sx.fE σ i) o
 |.oI i o n c=>.oI (Sx.fE σ i) o n c
 |.own i=>.own (Sx.fE σ i)
 |.nK i o=>.nK (Sx.fE σ i) o
 |.oo l i r=>.oo l (Sx.fE σ i) r
 |.mf i o n c=>.mf (Sx.fE σ i) o n c
 |.gone=>.gone
 |.dX l=>.dX (l.map (Atom.fE σ))
 |.Ik f l=>.Ik f (l.map (Atom.fE σ))
 |.ml t i off=>.ml t (Sx.fE σ i) off
 |.nz l=>.nz (l.map (fX.fE σ))
 |.eU b i off=>.eU b (Sx.fE σ i) off
def Cells.fE(σ:List (Nat×Nat)):Cells→Cells
 |.an cs=>.an cs
 |.dK cs=>.dK (cs.map (SV.fE σ))
 |.own a b c=>.own a b c
 |.dead=>.dead
 |.dG g cs=>.dG g cs
 |.j5 g cs=>.j5 g (cs.map (SV.fE σ))
def Row.fE(σ:List (Nat×Nat))(r:Row):Row:=⟨r.ty,r.cs.fE σ⟩
def G1(σ:List (Nat×Nat)):List (Nat×SV)→List (Nat×SV)
 | []=>[]
 |p::r=>(p.1,p.2.fE σ)::G1 σ r
def vj(σ:List (Nat×Nat)):List Row→List Row
 | []=>[]
 |p::r=>p.fE σ::vj σ r
def v8(mem:List Row)(σ:List (Nat×Nat)):Nat→List Row→List Row
 |_,[]=>[]
 |k,_::r=>(mem[fE σ k]?).getD au::v8 mem σ (k+1) r
def Hk(σ:List (Nat×Nat))(x:Nat):Nat→Bool
 | 0=>true
 |n+1=>match X5 (fE σ n) x with
  |true=>false
  |false=>Hk σ x n
def He(σ:List (Nat×Nat))(N:Nat):Nat→Bool
 | 0=>true
 |n+1=>match XZ (fE σ n) N&&Hk σ (fE σ n) n with
  |true=>He σ N n
  |false=>false
def Env.fE(σ:List (Nat×Nat))(β:Env):Env:=⟨fun i=>β.b (Sx.fE σ i),fun i=>β.a (Sx.fE σ i),fun i=>β.n (Sx.fE σ i),fun i=>β.c (Sx.fE σ i)⟩
def RV:Cells→List SV
 |.dK cs=>cs
 |.j5 _ cs=>cs
 |_=>[]
def vQ:List SV→List SV→List (Nat×Nat)
 |a::r,b::q=>match Pe a,Pe b with
  |some i,some j=>(i,j)::vQ r q
  |_,_=>vQ r q
 |_,_=>[]
def Ax(σ:List (Nat×Nat))(smem:List Row):Nat→List Row→List (Nat×Nat)
 |_,[]=>[]
 |k,r::l=>match smem[fE σ k]? with
  |some q=>vQ (RV r.cs) (RV q.cs)++Ax σ smem (k+1) l
  |none=>Ax σ smem (k+1) l
def oJ(st:St)(fr:List (Nat×SV))(mem:List Row):List (Nat×Nat):=yX st.fr fr++Ax (yX st.fr fr) st.mem 0 mem
def BP(st:St)(fr:List (Nat×SV))(mem:List Row):Prop:=
 match fM (fun p=>Bk st.fr p.1&&Cd mem.length p.2) fr&&(fM (fun r=>nZ mem.length r.cs) mem&&He (oJ st fr mem) st.mem.length mem.length)with
 |true=>Mk st.fr fr=G1 (oJ st fr mem) fr∧v8 st.mem (oJ st fr mem) 0 mem=vj (oJ st fr mem) mem
 |false=>cR (st,fr)
def dP{κ ι:Type}(R:κ→Prop)(fr:κ→List (Nat×SV))(mem:κ→List Row)(next:κ→κ)(μ:κ→Nat)(Ro:ι→Prop)(fro:ι→List (Nat×SV))(memo:ι→List Row)(which:κ→ι)(id:Nat)(Kr:St→Prop)(k:κ):Exit→St→Prop
 |.normal,st=>R (next k)∧μ (next k) < μ k∧BP st (fr (next k)) (mem (next k))
 |.exit i,st=>match X5 i id with
  |true=>Ro (which k)∧BP st (fro (which k)) (memo (which k))
  |false=>cR st
 |.ret,st=>Kr st
 |_,_=>False
def ej:Code→Nat
 |.seq x y=>match ej x with
  | 0=>ej y
  |k=>k
 |.cond _ x y=>match ej x with
  | 0=>ej y
  |k=>k
 |.exit i=>i+1
 |_=>0
def nL:Code→Nat
 |.seq x y=>nL x+nL y
 |.cond _ x y=>nL x+nL y
 |.block _ c=>nL c
 |.scope c=>nL c
 |.loop _=>1
 |_=>0
def vI(body:List (Nat×Hint)→St→(Exit→St→Prop)→Prop)(K:Exit→St→Prop):List (List (Nat×Hint))→St→Prop
 | [],st=>cR st
 |h::r,st=>body h st fun e st'=>match e with
  |.normal=>vI body K r st'
  |.exit i=>K (.exit i) st'
  |.ret=>K .ret st'
  |_=>False
def Qi:List Nat→(Nat→Prop)→Prop
 | [],_=>True
 |i::r,F=>match r with
  | []=>F i
  |_=>Br (F i)∧Qi r F
theorem zu{F:Nat→Prop}:∀{l:List Nat},Qi l F→∀i∈l,F i
 | [],_,i,hi=>by cases hi
 | [j],h,i,hi=>by rw[X7.1 hi];exact h
 |j::k::r,h,i,hi=>by
  have h:Br (F j)∧Qi (k::r) F:=h;rcases XM.1 hi with rfl|hi
  ·exact h.1
  ·exact zu h.2 i hi
def tZ(P:Program)(H:List (Nat×Hint))(n:Nat)(w0:bu)(ops:Array Oper):Nat→Array Bool→St→(St→Prop)→Prop
 | 0,listed,st,K=>match Region.ready .any ops listed with
  | []=>K st
  |_=>cR listed
 |fuel+1,listed,st,K=>match Region.ready .any ops listed with
  | []=>K st
  |is=>Qi is fun i=>match ops[i]? with
   |some o=>As ops o st fun st=>match guardOf ops st.fr o with
    |some true=>step P H n w0 o st fun st'=>tZ P H n w0 ops fuel (listed.setIfInBounds i true) st' K
    |some false=>tZ P H n w0 ops fuel (listed.setIfInBounds i true) (st.put n o.dst (.val undef)) K
    |none=>cR o
   |none=>cR i
theorem BA{P:Program}{H:List (Nat×Hint)}{n:Nat}{w0:bu}{ds:List Deferred}{Q:Exit→Act→World→Prop}{ops:Array Oper}(hP:∀chain a w',a.defers=ds→w0.PP chain w'→ai w0.S w0.w w'→Q (.panic chain) a w'):∀(fuel:Nat) (listed:Array Bool) (st:St) (K:St→Prop) (β:Env) (a:Act) (w:World),Hd ds w0 n β st a w→tZ P H n w0 ops fuel listed st K→(∀β' st' a' w',K st'→Hd ds w0 n β' st' a' w'→Q .normal a' w')→wpAny P .any ops Q fuel listed a w
 | 0,listed,st,K,β,a,w,h,hx,hK=>by
  unfold tZ at hx;split at hx
  ·rename_i hr
   exact⟨hr,hK _ _ _ _ hx h⟩
  ·exact nomatch hx
 |fuel+1,listed,st,K,β,a,w,h,hx,hK=>by
  unfold tZ at hx;split at hx
  ·rename_i hr
   exact⟨fun _=>hK _ _ _ _ hx h,fun i hi=>by rw[hr]at hi;cases hi⟩
  ·rename_i hne
   refine⟨fun hr=>absurd hr hne,fun i hi=>?_⟩;have hx:=zu hx i hi;unfold wpOp;cases ho:ops[i]? with
   |none=>rw[ho]at hx;exact nomatch hx
   |some o=>
    rw[ho]at hx;obtain⟨st,hx,h⟩:=yV h hx;split at hx
    ·rename_i hg
     show(if Region.wanted o (yielded ops a.tmps)then _ else _);rw[sO h hg,if_pos rfl];exact .inl (GF h hx hP fun β' st' a' w' hk h'=>BA hP fuel _ st' K β' a' w' h' hk hK)
    ·rename_i hg
     show(if Region.wanted o (yielded ops a.tmps)then _ else _);rw[sO h hg,if_neg (by decide)];exact BA hP fuel _ _ K β _ w (h.put o.dst (sv:=.val undef) trivial) hx hK
    ·exact nomatch hx
def VH(H:List (Nat×Hint))(id:Nat):Bool:=match hint H (some (600000+id))with
 |some _=>true
 |none=>false
def Tu(H:List (Nat×Hint)):Operand→Option (List (Nat×SV)×List Row)
 |.tmp t=>match hint H (some (500000+t))with
  |some (.join fr mem)=>some (fr,mem)
  |_=>none
 |_=>none
def M5(fr:List (Nat×SV))(mem:List Row)(K:Exit→St→Prop):Exit→St→Prop
 |.normal,st=>BP st fr mem
 |e,st=>K e st
def TJ(H:List (Nat×Hint))(id:Nat):List (Nat×List (Nat×SV)×List Row):=match hint H (some (700000+id))with
 |some (.TK l)=>l
 |_=>[]
def Nx(P:Program)(H:List (Nat×Hint))(n:Nat)(w0:bu)(ops:Array Oper):List (Nat×List (Nat×SV)×List Row)→List Oper→St→(St→Prop)→Prop
 | [],l,st,K=>uQ P H n w0 ops l st K
 | (m,fr,mem)::cs,l,st,K=>Br (uQ P H n w0 ops (l.take m) st fun st'=>BP st' fr mem)∧Nx P H n w0 ops cs (l.drop m) ⟨fr,mem⟩ K
def lN(P:Program)(n:Nat)(w0:bu):Code→List (Nat×Hint)→List Loop→St→(Exit→St→Prop)→Prop
 |.skip,_,_,st,K=>K .normal st
 |.region id ops draw,H,_,st,K=>match draw with
  |false=>Nx P H n w0 ops (TJ H id) ops.toList st (K .normal)
  |true=>match VH H id with
   |true=>tZ P H n w0 ops ops.size (XQ ops.size false) st (K .normal)
   |false=>F0 P H n w0 ops.toList st (K .normal)
 |.seq x y,H,L,st,K=>lN P n w0 x H L st fun e st'=>match e with
  |.normal=>lN P n w0 y H (L.drop (nL x)) st' K
  |e=>K e st'
 |.cond c x y,H,L,st,K=>match Tu H c with
  |none=>match ev st.fr c with
   |some (.val (.bool b))=>match b with
    |true=>lN P n w0 x H L st K
    |false=>lN P n w0 y H (L.drop (nL x)) st K
   |_=>cR c
  |some q=>match ev st.fr c with
   |some (.val (.bool b))=>Br (match b with
    |true=>lN P n w0 x H L st (M5 q.1 q.2 K)
    |false=>lN P n w0 y H (L.drop (nL x)) st (M5 q.1 q.2 K))∧K .normal ⟨q.1,q.2⟩
   |_=>cR c
 |.block id c,H,L,st,K=>lN P n w0 c H L st fun e st'=>match e with
  |.exit i=>match X5 i id with
   |true=>K .normal st'
   |false=>K (.exit i) st'
  |e=>K e st'
 |.scope c,H,L,st,K=>lN P n w0 c H L st fun e st'=>match e with
  |.goto _=>False
  |e=>K e st'
 |.loop c,_,L,st,K=>match L with
  |.mk _ k0 R fr mem next μ _ Ro fro memo which::_=>R k0∧BP st (fr k0) (mem k0)∧(∀k,R k→∃H' L',lN P n w0 c H' L' ⟨fr k,mem k⟩ (dP R fr mem next μ Ro fro memo which (ej c - 1) (K .ret) k))∧∀x,Ro x→K (.exit (ej c - 1)) ⟨fro x,memo x⟩
  |.fin _ k0 R fr mem next μ::_=>R k0∧BP st (fr k0) (mem k0)∧(∀k,R k→∃H' L',lN P n w0 c H' L' ⟨fr k,mem k⟩ (dP R fr mem next μ (fun(_:Unit)=>False) (fun _=>[]) (fun _=>[]) (fun _=>()) (ej c - 1) (K .ret) k))∧True
  |.times hs::_=>vI (fun H' st' K'=>lN P n w0 c H' [] st' K') K hs st
  | []=>cR c
 |.exit id,_,_,st,K=>K (.exit id) st
 |.label _,_,_,st,K=>K .normal st
 |.goto l,_,_,st,K=>K (.goto l) st
 |.ret,_,_,st,K=>K .ret st
 |c,_,_,_,_=>cR c
def ex(P:Program)(n:Nat)(w:World)(c:Code)(H:List (Nat×Hint))(L:List Loop)(st:St)(K:Exit→St→Prop):Prop:=lN P n ⟨w,[],fun _ _=>False⟩ c H L st K
def lift(ds:List Deferred)(w0:bu)(n:Nat)(K:Exit→St→Prop)(e:Exit)(a:Act)(w:World):Prop:=match e with
 |.panic chain=>a.defers=ds∧w0.PP chain w∧ai w0.S w0.w w
 |e=>∃β st,K e st∧Hd ds w0 n β st a w
section
variable{P:Program}{n:Nat}{w0:bu}{ds:List Deferred}
theorem xn{σ:List (Nat×Nat)}:∀{l:List (Nat×SV)} {t:Nat} {sv:SV},look l t=some sv→look (G1 σ l) t=some (sv.fE σ)
 | (d,v)::r,t,sv,h=>by
  rw[gf]at h;rw[G1,gf];split at h
  ·rename_i hd
   rw[if_pos hd,cE h];have:=cE h;subst this;cases sv<;>first | (cases h;done)|rfl
  ·rename_i hd
   rw[if_neg hd];exact xn h
theorem xo{fr:List (Nat×SV)}:∀{l l':List (Nat×SV)} {t:Nat} {sv:SV},Mk fr l=l'→(∀p∈l,Bk fr p.1=true)→look l' t=some sv→look fr t=some sv
 | [],l',t,sv,h,ha,hl=>by subst h;cases hl
 | (d,v)::r,l',t,sv,h,ha,hl=>by
  unfold Mk at h;rw[XT]at h;subst h;rw[gf]at hl;split at hl
  ·rename_i hd
   subst hd;have:=ha (d,v) (by simp);unfold Bk at this;simp only at this hl;split at this
   ·rename_i u hu
    simp only[hu,XO]at hl;rw[cE hl,hu]
   ·cases this
  ·exact xo (l:=r) rfl (fun p hp=>ha p (by simp[hp])) hl
theorem CB{σ:List (Nat×Nat)}{β:Env}{s:Atom}:(s.fE σ).den β=s.den (β.fE σ):=by cases s<;>rfl
theorem wm{σ:List (Nat×Nat)}{β:Env}{l:List Atom}:(l.map (Atom.fE σ)).map (Atom.den β)=l.map (Atom.den (β.fE σ)):=by rw[X9];exact Yk fun s _=>CB
theorem LY{σ:List (Nat×Nat)}{β:Env}{s:fX}:(s.fE σ).den β=s.den (β.fE σ):=by
 cases s with
 |a x=>exact CB
 |row l=>show Value.agg _=.agg _;rw[wm]
 |ml t i off=>rfl
theorem LX{σ:List (Nat×Nat)}{β:Env}{l:List fX}:(l.map (fX.fE σ)).map (fX.den β)=l.map (fX.den (β.fE σ)):=by rw[X9];exact Yk fun s _=>LY
theorem AM{σ:List (Nat×Nat)}{β:Env}{s:SV}:(s.fE σ).den β=s.den (β.fE σ):=by
 cases s with
 |dX l=>show Value.agg _=.agg _;rw[wm]
 |Ik f l=>show Value.func _ _ _=.func _ _ _;rw[wm]
 |nz l=>show Value.tuple _=.tuple _;rw[LX]
 |_=>rfl
theorem LW{σ:List (Nat×Nat)}{β:Env}{w:World}{i:Nat}{r:Row}(h:br β w (fE σ i) (r.fE σ)):br (β.fE σ) w i r:=by
 obtain⟨T,cs⟩:=r;cases cs with
 |own a b c=>exact h
 |an cs=>exact h
 |dead=>exact h
 |dG g cs=>exact h
 |dK cs=>have h:aw w (β (fE σ i)) T ((cs.map (SV.fE σ)).map (SV.den β)):=h;rw[X9]at h;have e:(SV.den β ∘ SV.fE σ)=SV.den (β.fE σ):=funext fun s=>AM;rw[e]at h;exact h
 |j5 g cs=>have h:β (fE σ i)=g∧aw w (β (fE σ i)) T ((cs.map (SV.fE σ)).map (SV.den β)):=h;rw[X9]at h;have e:(SV.den β ∘ SV.fE σ)=SV.den (β.fE σ):=funext fun s=>AM;rw[e]at h;exact h
theorem AN{σ:List (Nat×Nat)}{β:Env}{i:Nat}{r:Row}:az (β.fE σ) i r=az β (fE σ i) (r.fE σ):=by obtain⟨T,cs⟩:=r;cases cs<;>rfl
theorem wZ{σ:List (Nat×Nat)}{x:Nat}:∀{n:Nat},Hk σ x n=true→∀j,j < n→fE σ j≠x
 | 0,_,j,hj=>by omega
 |n+1,h,j,hj=>by
  unfold Hk at h;split at h
  ·cases h
  ·rename_i hb
   by_cases hjn:j=n
   ·subst hjn;intro he;rw[he,X4]at hb;cases hb
   ·exact wZ h j (by omega)
theorem wS{σ:List (Nat×Nat)}{N:Nat}:∀{n:Nat},He σ N n=true→(∀j,j < n→fE σ j < N)∧∀i j,i < n→j < n→fE σ i=fE σ j→i=j
 | 0,_=>⟨fun j hj=>by omega,fun i j hi=>by omega⟩
 |n+1,h=>by
  unfold He at h;split at h
  ·rename_i hb
   rw[XA]at hb;obtain⟨h1,h2⟩:=wS h;have h3:=wZ hb.2;have h4:fE σ n < N:=XG hb.1;refine⟨fun j hj=>?_,fun i j hi hj he=>?_⟩
   ·by_cases hjn:j=n
    ·subst hjn;exact h4
    ·exact h1 j (by omega)
   ·by_cases hin:i=n
    ·by_cases hjn:j=n
     ·omega
     ·subst hin;exact absurd he.symm (h3 j (by omega))
    ·by_cases hjn:j=n
     ·subst hjn;exact absurd he (h3 i (by omega))
     ·exact h2 i j (by omega) (by omega) he
  ·cases h
theorem vZ{mem:List Row}{σ:List (Nat×Nat)}:∀{l l':List Row} {k:Nat},v8 mem σ k l=l'→(∀j,j < l.length→fE σ (k+j) < mem.length)→∀(i:Nat) (r:Row),l'[i]?=some r→mem[fE σ (k+i)]?=some r
 | [],l',k,h,_,i,r,hi=>by subst h;simp[v8]at hi
 |x::l,l',k,h,hlt,i,r,hi=>by
  subst h;rw[v8]at hi;cases i with
  |zero=>have hk:=hlt 0 (by simp);rw[Nat.add_zero]at hk ⊢;simp only[List.getElem?_cons_zero,XH.injEq,Xz hk,XO]at hi;rw[←hi];exact Xz hk
  |succ i=>rw[XJ]at hi;have:=vZ (k:=k+1) rfl (fun j hj=>by rw[show k+1+j=k+(j+1)by omega];exact hlt (j+1) (by simp;omega)) i r hi;rwa [show k+1+i=k+(i+1)by omega]at this
theorem uu{σ:List (Nat×Nat)}:∀{l:List Row} {i:Nat} {r:Row},l[i]?=some r→(vj σ l)[i]?=some (r.fE σ)
 |x::l,0,r,h=>by
  have h:x=r:=by simpa using h
  subst h;rfl
 |x::l,i+1,r,h=>by rw[XJ]at h;rw[vj,XJ];exact uu h
theorem sK:∀{l:List (Nat×SV)} {t:Nat} {sv:SV},look l t=some sv→(t,sv)∈l
 | (d,v)::r,t,sv,h=>by
  rw[gf]at h;split at h
  ·rename_i hd
   rw[cE h,hd];simp
  ·exact XS _ (sK h)
theorem Hd.same{β:Env}{st:St}{a:Act}{w:World}{fr:List (Nat×SV)}{mem:List Row}(h:Hd ds w0 n β st a w)(hs:BP st fr mem):∃β',Hd ds w0 n β' ⟨fr,mem⟩ a w:=by
 unfold BP at hs;split at hs
 ·rename_i hb
  simp only[XA]at hb;obtain⟨hb1,hb2,hb3⟩:=hb;have h1:=bn hb1;have h2:=bn hb2;obtain⟨h3,h4⟩:=wS hb3;have hl:∀t sv,look fr t=some sv→look st.fr t=some (sv.fE (oJ st fr mem)):=fun t sv ht=>xo hs.1 (fun p hp=>by have:=h1 p hp;rw[XA]at this;exact this.1) (xn ht);have hm:∀(i:Nat) (r:Row),mem[i]?=some r→st.mem[fE (oJ st fr mem) i]?=some (r.fE (oJ st fr mem)):=by intro i r hi;have:=vZ hs.2 (fun j hj=>by rw[XY];exact h3 j hj) i _ (uu hi);rwa [XY]at this
  have hlt:∀(i:Nat) (r:Row),mem[i]?=some r→i < mem.length:=fun i r hi=>(Xy.1 hi).1;refine⟨β.fE (oJ st fr mem),h.size,h.dn,fun t sv ht=>?_,fun i r hi=>LW (h.cw _ _ (hm i r hi)),fun i r k hi hk=>h.new _ _ k (hm i r hi) (by rw[←AN];exact hk),fun i j r r' k hi hj hk hk'=>?_,h.aJ,fun t sv ht=>?_,fun i r hi=>?_⟩
  ·rw[h.get t _ (hl t sv ht),AM]
  ·exact h4 i j (hlt i r hi) (hlt j r' hj) (h.inj _ _ _ _ k (hm i r hi) (hm j r' hj) (by rw[←AN];exact hk) (by rw[←AN];exact hk'))
  ·have:=h1 _ (sK ht)
   rw[XA]at this;exact p5 this.2
  ·have:=h2 r (XE hi)
   exact lh this
 ·exact nomatch hs
theorem Hz{fr:List (Nat×SV)}{mem:List Row}{K:Exit→St→Prop}(hk:K .normal ⟨fr,mem⟩){e:Exit}{a:Act}{w:World}(hq:lift ds w0 n (M5 fr mem K) e a w):lift ds w0 n K e a w:=by
 cases e with
 |normal=>obtain⟨β',st',hs,h'⟩:=hq;obtain⟨β3,h3⟩:=h'.same hs;exact⟨β3,_,hk,h3⟩
 |exit id=>exact hq
 |goto l=>exact hq
 |ret=>exact hq
 |panic c=>exact hq
 |outgrown=>exact hq
theorem DN{H:List (Nat×Hint)}{ops:Array Oper}{Q:Exit→Act→World→Prop}(hP:∀chain a w',a.defers=ds→w0.PP chain w'→ai w0.S w0.w w'→Q (.panic chain) a w'):∀(cs:List (Nat×List (Nat×SV)×List Row)) (l:List Oper) (st:St) (K:St→Prop) (β:Env) (a:Act) (w:World),Hd ds w0 n β st a w→Nx P H n w0 ops cs l st K→(∀β' st' a' w',K st'→Hd ds w0 n β' st' a' w'→Q .normal a' w')→wpList P ops Q l a w
 | [],l,st,K,β,a,w,h,hx,hK=>DM hP l st K β a w h hx hK
 | (m,fr,mem)::cs,l,st,K,β,a,w,h,hx,hK=>by
  have:=qv (ops:=ops) (Q:=Q) (l.drop m) hP (l.take m) st _ β a w h hx.1 fun β' st' a' w' hs h'=>by obtain⟨β3,h3⟩:=h'.same hs;exact DN hP cs (l.drop m) ⟨fr,mem⟩ K β3 a' w' h3 hx.2 hK
  rwa [List.take_append_drop]at this
theorem jK(hm:P.follows .mixedOrders=true):∀(c:Code) (H:List (Nat×Hint)) (L:List Loop) (st:St) (K:Exit→St→Prop) (β:Env) (a:Act) (w:World),Hd ds w0 n β st a w→lN P n w0 c H L st K→c.wp P (lift ds w0 n K) a w
 |.skip,H,L,st,K,β,a,w,h,hx=>wp_skip ⟨β,st,hx,h⟩
 |.region id ops draw,H,L,st,K,β,a,w,h,hx=>by
  unfold lN at hx;cases draw with
  |false=>exact wp_region_list (DN (fun chain a w' hd hp hc=>⟨hd,hp,hc⟩) _ ops.toList st (K .normal) β a w h hx fun β' st' a' w' hk h'=>⟨β',st',hk,h'⟩)
  |true=>
   split at hx
   ·rename_i hb;cases hb
   ·split at hx
    ·exact wp_region_any hm (BA (fun chain a w' hd hp hc=>⟨hd,hp,hc⟩) _ _ _ _ β a _ (h.later (ai.refl [] w).drew) hx fun β' st' a' w' hk h'=>⟨β',st',hk,h'⟩)
    ·have:=J7 (id:=id) (Q:=lift ds w0 n K) hm h hx (fun chain a w' hd hp hc=>⟨hd,hp,hc⟩) fun β' st' a' w' hk h'=>⟨β',st',hk,h'⟩
     simpa using this
 |.seq x y,H,L,st,K,β,a,w,h,hx=>by
  unfold lN at hx;refine wp_seq (Code.wp_mono (fun e a' w' hq=>?_) (jK hm x H L st _ β a w h hx));cases e with
  |normal=>obtain⟨β',st',hk,h'⟩:=hq;exact jK hm y H _ st' K β' a' w' h' hk
  |exit id=>obtain⟨β',st',hk,h'⟩:=hq;exact⟨β',st',hk,h'⟩
  |goto l=>obtain⟨β',st',hk,h'⟩:=hq;exact⟨β',st',hk,h'⟩
  |ret=>obtain⟨β',st',hk,h'⟩:=hq;exact⟨β',st',hk,h'⟩
  |panic c=>exact hq
  |outgrown=>obtain⟨β',st',hk,h'⟩:=hq;exact⟨β',st',hk,h'⟩
 |.cond c x y,H,L,st,K,β,a,w,h,hx=>by
  unfold lN at hx;split at hx
  ·split at hx
   ·rename_i b hb
    have hc:a.eval c=.bool b:=h.eval hb;cases b with
    |true=>exact wp_cond_true hc (jK hm x H L st K β a w h hx)
    |false=>exact wp_cond_false hc (jK hm y H _ st K β a w h hx)
   ·exact nomatch hx
  ·rename_i q _
   split at hx
   ·rename_i b hb
    have hc:a.eval c=.bool b:=h.eval hb;obtain⟨hx,hk⟩:=hx;cases b with
    |true=>exact wp_cond_true hc (Code.wp_mono (fun e a' w' hq=>Hz hk hq) (jK hm x H L st _ β a w h hx))
    |false=>exact wp_cond_false hc (Code.wp_mono (fun e a' w' hq=>Hz hk hq) (jK hm y H _ st _ β a w h hx))
   ·exact nomatch hx
 |.block id c,H,L,st,K,β,a,w,h,hx=>by
  unfold lN at hx;refine wp_block (Code.wp_mono (fun e a' w' hq=>?_) (jK hm c H L st _ β a w h hx));cases e with
  |exit i=>
   obtain⟨β',st',hk,h'⟩:=hq;simp only at hk;split at hk
   ·rename_i hb
    simp only[Exit.inBlock,XD hb,if_true];exact⟨β',st',hk,h'⟩
   ·rename_i hb
    have:i≠id:=fun h=>by rw[h,X4]at hb;cases hb
    simp only[Exit.inBlock,this,if_false];exact⟨β',st',hk,h'⟩
  |normal=>obtain⟨β',st',hk,h'⟩:=hq;exact⟨β',st',hk,h'⟩
  |goto l=>obtain⟨β',st',hk,h'⟩:=hq;exact⟨β',st',hk,h'⟩
  |ret=>obtain⟨β',st',hk,h'⟩:=hq;exact⟨β',st',hk,h'⟩
  |panic c=>exact hq
  |outgrown=>obtain⟨β',st',hk,h'⟩:=hq;exact⟨β',st',hk,h'⟩
 |.scope c,H,L,st,K,β,a,w,h,hx=>by
  unfold lN at hx;refine wp_scope_straight (Code.wp_mono (fun e a' w' hq=>?_) (jK hm c H L st _ β a w h hx));cases e with
  |goto l=>obtain⟨β',st',hk,h'⟩:=hq;exact hk
  |normal=>obtain⟨β',st',hk,h'⟩:=hq;exact⟨β',st',hk,h'⟩
  |exit id=>obtain⟨β',st',hk,h'⟩:=hq;exact⟨β',st',hk,h'⟩
  |ret=>obtain⟨β',st',hk,h'⟩:=hq;exact⟨β',st',hk,h'⟩
  |panic c=>exact hq
  |outgrown=>obtain⟨β',st',hk,h'⟩:=hq;exact⟨β',st',hk,h'⟩
 |.loop c,H,L,st,K,β,a,w,h,hx=>by
  unfold lN at hx;split at hx
  ·rename_i κ k0 R fr mem next μ ι Ro fro memo which rest
   obtain⟨h0,hs,hround,hout⟩:=hx;obtain⟨β0,h00⟩:=h.same hs;refine wp_loop_ghost (fun m a w=>∃β k,μ k=m∧R k∧Hd ds w0 n β ⟨fr k,mem k⟩ a w) (μ k0) ⟨β0,k0,rfl,h0,h00⟩ ?_;rintro m a' w' ⟨β',k,rfl,hR,h'⟩;obtain⟨H',L',hround⟩:=hround k hR;refine Code.wp_mono (fun e a2 w2 hq=>?_) (jK hm c _ _ _ _ β' a' w' h' hround);cases e with
   |normal=>obtain⟨β2,st2,hk,h2⟩:=hq;obtain⟨β3,h3⟩:=h2.same hk.2.2;exact⟨μ (next k),hk.2.1,β3,next k,rfl,hk.1,h3⟩
   |exit id=>
    obtain⟨β2,st2,hk,h2⟩:=hq;simp only[dP]at hk;split at hk
    ·rename_i hb
     rw[XD hb];obtain⟨β3,h3⟩:=h2.same hk.2;exact⟨β3,_,hout _ hk.1,h3⟩
    ·exact nomatch hk
   |goto l=>obtain⟨β2,st2,hk,h2⟩:=hq;exact hk.elim
   |ret=>obtain⟨β2,st2,hk,h2⟩:=hq;exact⟨β2,st2,hk,h2⟩
   |panic c=>exact hq
   |outgrown=>obtain⟨β2,st2,hk,h2⟩:=hq;exact hk.elim
  ·rename_i κ k0 R fr mem next μ rest
   obtain⟨h0,hs,hround,_⟩:=hx;obtain⟨β0,h00⟩:=h.same hs;refine wp_loop_ghost (fun m a w=>∃β k,μ k=m∧R k∧Hd ds w0 n β ⟨fr k,mem k⟩ a w) (μ k0) ⟨β0,k0,rfl,h0,h00⟩ ?_;rintro m a' w' ⟨β',k,rfl,hR,h'⟩;obtain⟨H',L',hround⟩:=hround k hR;refine Code.wp_mono (fun e a2 w2 hq=>?_) (jK hm c _ _ _ _ β' a' w' h' hround);cases e with
   |normal=>obtain⟨β2,st2,hk,h2⟩:=hq;obtain⟨β3,h3⟩:=h2.same hk.2.2;exact⟨μ (next k),hk.2.1,β3,next k,rfl,hk.1,h3⟩
   |exit id=>
    obtain⟨β2,st2,hk,h2⟩:=hq;simp only[dP]at hk;split at hk
    ·exact hk.1.elim
    ·exact nomatch hk
   |goto l=>obtain⟨β2,st2,hk,h2⟩:=hq;exact hk.elim
   |ret=>obtain⟨β2,st2,hk,h2⟩:=hq;exact⟨β2,st2,hk,h2⟩
   |panic c=>exact hq
   |outgrown=>obtain⟨β2,st2,hk,h2⟩:=hq;exact hk.elim
  ·rename_i hs rest
   refine wp_loop_ghost (fun m a w=>∃(β:Env) (st:St) (r:List (List (Nat×Hint))),r.length=m∧(vI (fun H' st' K'=>lN P n w0 c H' [] st' K') K r st)∧Hd ds w0 n β st a w) hs.length ⟨β,st,hs,rfl,hx,h⟩ ?_;rintro m a' w' ⟨β',st',r,rfl,hx',h'⟩;cases r with
   |nil=>unfold vI at hx';exact nomatch hx'
   |cons hh r=>
    unfold vI at hx';refine Code.wp_mono (fun e a2 w2 hq=>?_) (jK hm c _ _ _ _ β' a' w' h' hx');cases e with
    |normal=>obtain⟨β2,st2,hk,h2⟩:=hq;exact⟨r.length,by simp,β2,st2,r,rfl,hk,h2⟩
    |exit id=>obtain⟨β2,st2,hk,h2⟩:=hq;exact⟨β2,st2,hk,h2⟩
    |goto l=>obtain⟨β2,st2,hk,h2⟩:=hq;exact hk.elim
    |ret=>obtain⟨β2,st2,hk,h2⟩:=hq;exact⟨β2,st2,hk,h2⟩
    |panic c=>exact hq
    |outgrown=>obtain⟨β2,st2,hk,h2⟩:=hq;exact hk.elim
  ·exact nomatch hx
 |.exit id,H,L,st,K,β,a,w,h,hx=>wp_exit ⟨β,st,hx,h⟩
 |.label l,H,L,st,K,β,a,w,h,hx=>wp_label ⟨β,st,hx,h⟩
 |.ret,H,L,st,K,β,a,w,h,hx=>wp_ret ⟨β,st,hx,h⟩
 |.rangeFunc ..,_,_,_,_,_,_,_,_,hx=>by unfold lN at hx;exact nomatch hx
 |.goto l,H,L,st,K,β,a,w,h,hx=>wp_goto ⟨β,st,hx,h⟩
 |.refuse _,_,_,_,_,_,_,_,_,hx=>by unfold lN at hx;exact nomatch hx
def yn:Nat→List Value→List (Nat×SV)
 |_,[]=>[]
 |k,v::r=>(k,.val v)::yn (k+1) r
theorem ry:∀{vs:List Value} {k t:Nat} {sv:SV},look (yn k vs) t=some sv→∃v,sv=.val v∧k≤t∧vs[t - k]?=some v
 |v::r,k,t,sv,h=>by
  rw[yn,gf]at h;split at h
  ·rename_i hk
   exact⟨v,(XH.inj h).symm,by omega,by rw[show t - k=0 by omega]; rfl⟩
  ·obtain⟨u,h1,h2,h3⟩:=ry h
   refine⟨u,h1,by omega,?_⟩;rw[show t - k=(t - (k+1))+1 by omega,XJ];exact h3
def kO(P:Program)(st:St):List ResultVar→Option (List SV)
 | []=>some []
 |.tmp t::r=>match look st.fr t with
  |some sv=>match kO P st r with
   |some l=>some (sv::l)
   |none=>none
  |none=>none
 |.cell b t::r=>match look st.fr b with
  |some (.ptr i off)=>match st.mem[i]? with
   |some row=>match cV P t row off with
    |.val sv _=>match kO P st r with
     |some l=>some (sv::l)
     |none=>none
    |_=>none
   |none=>none
  |_=>none
def tk:List SV→Option (List Value)
 | []=>some []
 |sv::r=>match sv with
  |.val v=>match tk r with
   |some l=>some (v::l)
   |none=>none
  |_=>none
def Ha:List SV→Option (List Value×Nat×List Value)
 | []=>none
 |sv::r=>match sv with
  |.val v=>match Ha r with
   |some (l,i,q)=>some (v::l,i,q)
   |none=>none
  |.own i=>match tk r with
   |some q=>some ([],i,q)
   |none=>none
  |_=>none
def np:List Value→Value
 | [v]=>v
 |vs=>.tuple vs.toArray
theorem FD{t:TypeId}{row:Row}{off:Nat}{sv:SV}{ob:Option Prop}(h:cV P t row off=.val sv ob):ob=none:=by
 unfold cV at h;repeat' (split at h)
 all_goals first | (cases h;done) | (injection h with _ h;exact h.symm)
def ur(mem:List Row)(l:List SV):Option gV:=match tk l with
 |some vs=>some (.val (np vs))
 |none=>match Ha l with
  |some (pre,i,post)=>match mem[i]? with
   |some r=>match r.cs with
    |.own size n xs=>match pre,post with
     | [],[]=>some (.sl r.ty size n xs)
     |_,_=>some (.oo pre r.ty size n xs post)
    |_=>none
   |none=>none
  |none=>none
theorem FC{β:Env}{w:World}{t:TypeId}{i off:Nat}{row:Row}{sv:SV}{ob:Option Prop}(hb:br β w i row)(h:cV P t row off=.val sv ob):(loadVar t ⟨β i,off,none⟩).run P w=.ok (sv.den β) w:=by
 have ho:=Hs (P:=P) (β:=β) (W:=w) (a:=⟨#[.pointer (some ⟨β i,off,none⟩)],[]⟩) (o:=⟨none,.load t (.tmp 0),0, "",#[],none⟩) (t:=t) (x:=.tmp 0) (off:=off) rfl rfl hb;rw[h]at ho;have ho:=ho (fun p hp=>by rw[FD h]at hp;cases hp);simp only[execOp,Act.eval,XX]at ho;rw[show((#[Value.pointer (some ⟨β i,off,none⟩)]:Array Value).getD 0 undef)=.pointer (some ⟨β i,off,none⟩)from rfl,si]at ho;cases hr:(loadVar t ⟨β i,off,none⟩).run P w with
 |ok u w'=>rw[hr]at ho;simp only[XL,XW]at ho;injection ho with h1 h2;injection h1 with h1;rw[h1,h2]
 |halt x w'=>rw[hr]at ho;cases ho
theorem oR{st:St}{β:Env}{a:Act}{w:World}(h:Hd ds w0 n β st a w){F:ResultVar→Sem Value}(hF:∀t,F (.tmp t)=pure (a.tmps.getD t undef))(hG:∀b t,F (.cell b t)=do loadVar t (←asAddr (a.tmps.getD b undef))):∀{l:List ResultVar} {vs:List SV},kO P st l=some vs→(l.mapM F).run P w=.ok (vs.map (SV.den β)) w
 | [],vs,hr=>by
  have:vs=[]:=by simpa[kO]using hr.symm
  subst this;rfl
 |.tmp t::r,vs,hr=>by
  rw[kO]at hr;split at hr
  ·rename_i v hv
   split at hr
   ·rename_i us hu
    cases hr;have h1:=h.get t _ hv;have ih:=oR h hF hG hu;rw[Yp,hF];simp only[XX,XW,XL,ih];simp[h1]
   ·cases hr
  ·cases hr
 |.cell b t::r,vs,hr=>by
  rw[kO]at hr;split at hr
  ·rename_i i off hv
   split at hr
   ·rename_i row hrow
    split at hr
    ·rename_i v ob hl
     split at hr
     ·rename_i us hu
      cases hr;have h1:=h.get b _ hv;have ih:=oR h hF hG hu;have h2:=FC (h.cw i row hrow) hl;have h3:a.tmps.getD b undef=.pointer (some ⟨β i,off,none⟩):=by simp[h1,SV.den]
      rw[Yp,hG,h3];simp only[XX,asAddr,XW,XL,h2,ih,XT]
     ·cases hr
    ·cases hr
   ·cases hr
  ·cases hr
theorem qX{β:Env}:∀{l:List SV} {vs:List Value},tk l=some vs→l.map (SV.den β)=vs
 | [],vs,h=>by
  have:vs=[]:=by simpa[tk]using h.symm
  subst this;rfl
 |sv::r,vs,h=>by
  unfold tk at h;split at h
  ·split at h
   ·rename_i l hl
    cases h;rw[XT,qX hl];rfl
   ·cases h
  ·cases h
theorem zt{β:Env}:∀{l:List SV} {pre post:List Value} {i:Nat},Ha l=some (pre,i,post)→l.map (SV.den β)=pre++β.sl i::post
 |sv::r,pre,post,i,h=>by
  unfold Ha at h;split at h
  ·split at h
   ·rename_i l i' q hl
    cases h;rw[XT,zt hl];rfl
   ·cases h
  ·split at h
   ·rename_i q hq
    cases h;rw[XT,qX hq];rfl
   ·cases h
  ·cases h
def oQ(b:bu)(r:gV)(e:Ending)(w':World):Prop:=match r with
 |.val v=>e=.returned v∧ai b.S b.w w'
 |.sl T size n xs=>∃s,e=.returned s∧Own w' T size s n xs∧(∀k,s.ownBlock=some k→k∈b.S∨b.w.heap.size≤k)∧ai b.S b.w w'
 |.oo pre T size n xs post=>∃s,e=.returned (.tuple (pre++s::post).toArray)∧Own w' T size s n xs∧(∀k,s.ownBlock=some k→k∈b.S∨b.w.heap.size≤k)∧ai b.S b.w w'
theorem wk{w w':World}{PP:List PanicEntry→World→Prop}{r:gV}{e:Ending}(h:oQ ⟨w,[],PP⟩ r e w'):eh w r e w':=by
 cases r with
 |val v=>exact h
 |sl T size n xs=>obtain⟨s,he,ho,hk,hc⟩:=h;exact⟨s,he,ho,fun k h=>(hk k h).resolve_left (by simp),hc⟩
 |oo pre T size n xs post=>obtain⟨s,he,ho,hk,hc⟩:=h;exact⟨s,he,ho,fun k h=>(hk k h).resolve_left (by simp),hc⟩
theorem CA{st:St}{β:Env}{a:Act}{w:World}{l:List SV}{r:gV}(h:Hd ds w0 n β st a w)(hr:ur st.mem l=some r):oQ w0 r (.returned (np (l.map (SV.den β)))) w:=by
 unfold ur at hr;split at hr
 ·rename_i vs hvs
  cases hr;rw[qX hvs];exact⟨rfl,h.aJ⟩
 ·split at hr
  ·rename_i pre i post hown
   split at hr
   ·rename_i row hrow
    have hh:=h.cw i row hrow;have hnew:=h.new i row;split at hr
    ·rename_i size nn xs hcs
     unfold br at hh;rw[hcs]at hh;have hacc:Own w row.ty size (β.sl i) nn xs∧(∀k,(β.sl i).ownBlock=some k→k∈w0.S∨w0.w.heap.size≤k)∧ai w0.S w0.w w:=by refine⟨by unfold Env.sl;rw[hh.1];exact hh.2,fun k hk=>hnew k hrow ?_,h.aJ⟩;unfold az;rw[hcs];rw[←hk,←qh (n:=β.n i)];rfl
     rw[zt hown];split at hr
     ·cases hr
      exact⟨_,rfl,hacc⟩
     ·rename_i hne
      cases hr;refine⟨_,?_,hacc⟩;cases pre with
      |nil=>cases post with
       |nil=>exact absurd rfl (hne rfl)
       |cons x y=>rfl
      |cons x y=>cases y<;>rfl
    ·cases hr
   ·cases hr
  ·cases hr
def rR(P:Program)(fn:Func)(R:gV→Prop):Exit→St→Prop
 |.normal,st=>match kO P st fn.results.toList with
  |some l=>match ur st.mem l with
   |some r=>R r
   |none=>cR st
  |none=>cR st
 |.ret,st=>match kO P st fn.results.toList with
  |some l=>match ur st.mem l with
   |some r=>R r
   |none=>cR st
  |none=>cR st
 |_,_=>False
def O8(R:Value→Prop):gV→Prop
 |.val v=>R v
 |_=>False
def atEnd(P:Program)(fn:Func)(R:Value→Prop):Exit→St→Prop:=rR P fn (O8 R)
theorem Ob{fn:Func}{R:gV→Prop}{e:Exit}{a:Act}{w:World}(h:lift [] w0 n (rR P fn R) e a w):bodyPost P fn (fun e w'=>(∃r,R r∧oQ w0 r e w')∨∃chain,e=.panicked chain∧w0.PP chain w'∧ai w0.S w0.w w') e a w:=by
 have main:∀{β st},Hd [] w0 n β st a w→(match kO P st fn.results.toList with|some l=>(match ur st.mem l with|some r=>R r|none=>cR st)|none=>cR st:Prop)→a.defers=[]∧∃v,(results fn a.tmps).run P w=.ok v w∧((∃r,R r∧oQ w0 r (.returned v) w)∨∃chain,Ending.returned v=.panicked chain∧w0.PP chain w∧ai w0.S w0.w w):=by
  intro β st h hk;split at hk
  ·rename_i l hl
   split at hk
   ·rename_i r hr
    refine⟨h.dn,np (l.map (SV.den β)),?_,.inl ⟨r,hk,CA h hr⟩⟩;unfold results;rw[XV];simp only[XX,map_eq_pure_bind,XW];rw[oR (P:=P) h (fun _=>rfl) (fun _ _=>rfl) hl];simp only[XL];congr 1;generalize l.map (SV.den β)=vs;match vs with
    | []=>rfl
    | [v]=>rfl
    |v::u::r=>simp[np]
   ·exact nomatch hk
  ·exact nomatch hk
 cases e with
 |normal=>obtain⟨β,st,hk,h⟩:=h;exact main h hk
 |ret=>obtain⟨β,st,hk,h⟩:=h;exact main h hk
 |exit _=>obtain⟨_,_,hk,_⟩:=h;exact hk.elim
 |goto _=>obtain⟨_,_,hk,_⟩:=h;exact hk.elim
 |panic chain=>exact⟨h.1,.inr ⟨chain,rfl,h.2⟩⟩
 |outgrown=>obtain⟨_,_,hk,_⟩:=h;exact hk.elim
theorem Ah{w0:World}{f:FuncId}{fn:Func}{c:Code}{args:List Value}{R:gV→Prop}(H:List (Nat×Hint))(L:List Loop)(hm:P.follows .mixedOrders=true)(hf:P.funcs[f]?=some fn)(hb:fn.body=some c)(hn:args.length≤fn.ntmps)
  (hx:ex P fn.ntmps w0 c H L ⟨yn 0 args,[]⟩ (rR P fn R)):Calls P f args.toArray w0 fun e w'=>∃r,R r∧eh w0 r e w':=by
 refine(calls_of_wp hf hb (Code.wp_mono (fun e a w hq=>Ob hq) (jK (w0:=⟨w0,[],fun _ _=>False⟩) (n:=fn.ntmps) hm c H L _ _ ⟨fun _=>0,fun _=>none,fun _=>0,fun _=>0⟩ _ w0 ?_ hx))).mono fun e w' hq=>by
  rcases hq with⟨r,hr,hp⟩ | ⟨chain,_,hp,_⟩
  ·exact⟨r,hr,wk hp⟩
  ·exact hp.elim
 refine⟨by simp;omega,rfl,fun t sv ht=>?_,fun i r hi=>by simp at hi,fun i r k hi=>by simp at hi,fun i j r r' k hi=>by simp at hi,ai.refl _ _,fun t sv ht=>?_,fun i r hi=>by simp at hi⟩
 ·obtain⟨v,rfl,_,hv⟩:=ry ht
  have hlt:t < args.length:=(Xy.1 hv).1;rw[XU (by simpa using hlt)];simpa[SV.den]using hv
 ·obtain⟨v,rfl,_⟩:=ry ht
  trivial
theorem ng{w0:World}{f:FuncId}{fn:Func}{c:Code}{args:List Value}{u:gV}(H:List (Nat×Hint))(L:List Loop)(hm:P.follows .mixedOrders=true)(hf:P.funcs[f]?=some fn)(hb:fn.body=some c)(hn:args.length≤fn.ntmps)
  (hx:ex P fn.ntmps w0 c H L ⟨yn 0 args,[]⟩ (rR P fn fun v=>v=u)):Calls P f args.toArray w0 (eh w0 u):=
 (Ah H L hm hf hb hn hx).mono fun _ _ ⟨_,he,hp⟩=>he ▸ hp
theorem NT{w0:World}{f:FuncId}{fn:Func}{c:Code}{args:List Value}{R:Value→Prop}(H:List (Nat×Hint))(L:List Loop)(hm:P.follows .mixedOrders=true)(hf:P.funcs[f]?=some fn)(hb:fn.body=some c)(hn:args.length≤fn.ntmps)
  (hx:ex P fn.ntmps w0 c H L ⟨yn 0 args,[]⟩ (atEnd P fn R)):Calls P f args.toArray w0 fun e w'=>∃v,e=.returned v∧R v∧ai [] w0 w':=
 (Ah H L hm hf hb hn hx).mono fun e w' ⟨r,hr,hp⟩=>by
  cases r with
  |val v=>exact⟨v,hp.1,hr,hp.2⟩
  |sl _ _ _ _=>exact hr.elim
  |oo _ _ _ _ _ _=>exact hr.elim
theorem av{w0:World}{f:FuncId}{fn:Func}{c:Code}{args:List Value}{u:Value}(H:List (Nat×Hint))(L:List Loop)(hm:P.follows .mixedOrders=true)(hf:P.funcs[f]?=some fn)(hb:fn.body=some c)(hn:args.length≤fn.ntmps)
  (hx:ex P fn.ntmps w0 c H L ⟨yn 0 args,[]⟩ (atEnd P fn fun v=>v=u)):Calls P f args.toArray w0 (Rn w0 u):=
 (NT H L hm hf hb hn hx).mono fun _ _ ⟨_,he,hv,hc⟩=>⟨by rw[he,hv],hc⟩
def lK:List Row→List (Nat×TypeId×List Value)
 | []=>[]
 |r::l=>match r.cs with
  |.dG g cs=>(g,r.ty,cs)::lK l
  |_=>lK l
theorem uK:∀{mem:List Row} {q:Nat×TypeId×List Value},q∈lK mem→∃(i:Nat) (r:Row),mem[i]?=some r∧r.ty=q.2.1∧r.cs=.dG q.1 q.2.2
 | [],_,h=>by cases h
 |r::l,q,h=>by
  have tail:q∈lK l→∃(i:Nat) (r':Row),(r::l)[i]?=some r'∧r'.ty=q.2.1∧r'.cs=.dG q.1 q.2.2:=fun h=>by obtain⟨i,r',h1,h2⟩:=uK h;exact⟨i+1,r',by simpa using h1,h2⟩
  unfold lK at h;split at h
  ·rename_i g cs hcs
   rcases XM.1 h with rfl|h
   ·exact⟨0,r,rfl,rfl,hcs⟩
   ·exact tail h
  ·exact tail h
def rS(P:Program)(fn:Func)(R:gV→List (Nat×TypeId×List Value)→Prop):Exit→St→Prop
 |.normal,st=>match kO P st fn.results.toList with
  |some l=>match ur st.mem l with
   |some r=>R r (lK st.mem)
   |none=>cR st
  |none=>cR st
 |.ret,st=>match kO P st fn.results.toList with
  |some l=>match ur st.mem l with
   |some r=>R r (lK st.mem)
   |none=>cR st
  |none=>cR st
 |_,_=>False
def iP(b:bu)(R:gV→List (Nat×TypeId×List Value)→Prop)(e:Ending)(w':World):Prop:=
 (∃r gl,R r gl∧oQ b r e w'∧∀q∈gl,aw w' q.1 q.2.1 q.2.2)∨∃chain,e=.panicked chain∧b.PP chain w'∧ai b.S b.w w'
theorem Kq{fn:Func}{R:gV→List (Nat×TypeId×List Value)→Prop}{e:Exit}{a:Act}{w:World}(h:lift [] w0 n (rS P fn R) e a w):bodyPost P fn (iP w0 R) e a w:=by
 have main:∀{β st},Hd [] w0 n β st a w→(match kO P st fn.results.toList with|some l=>(match ur st.mem l with|some r=>R r (lK st.mem)|none=>cR st)|none=>cR st:Prop)→a.defers=[]∧∃v,(results fn a.tmps).run P w=.ok v w∧iP w0 R (.returned v) w:=by
  intro β st h hk;split at hk
  ·rename_i l hl
   split at hk
   ·rename_i r hr
    refine⟨h.dn,np (l.map (SV.den β)),?_,.inl ⟨r,_,hk,CA h hr,fun q hq=>?_⟩⟩
    ·unfold results
     rw[XV];simp only[XX,map_eq_pure_bind,XW];rw[oR (P:=P) h (fun _=>rfl) (fun _ _=>rfl) hl];simp only[XL];congr 1;generalize l.map (SV.den β)=vs;match vs with
     | []=>rfl
     | [v]=>rfl
     |v::u::r=>simp[np]
    ·obtain⟨i,r',hi,hty,hcs⟩:=uK hq
     have hh:=h.cw i r' hi;unfold br at hh;rw[hcs]at hh;rw[←hty];have h2:=hh.2;rw[hh.1]at h2;exact h2
   ·exact nomatch hk
  ·exact nomatch hk
 cases e with
 |normal=>obtain⟨β,st,hk,h⟩:=h;exact main h hk
 |ret=>obtain⟨β,st,hk,h⟩:=h;exact main h hk
 |exit _=>obtain⟨_,_,hk,_⟩:=h;exact hk.elim
 |goto _=>obtain⟨_,_,hk,_⟩:=h;exact hk.elim
 |panic chain=>exact⟨h.1,.inr ⟨chain,rfl,h.2⟩⟩
 |outgrown=>obtain⟨_,_,hk,_⟩:=h;exact hk.elim
def lR:Nat→List SV→List (Nat×SV)
 |_,[]=>[]
 |k,v::r=>(k,v)::lR (k+1) r
def T0(m:Nat):SV→Bool
 |.val _=>true
 |.ptr i _=>XZ i m
 |_=>false
theorem ic:∀{vs:List SV} {k t:Nat} {sv:SV},look (lR k vs) t=some sv→k≤t∧vs[t - k]?=some sv
 |v::r,k,t,sv,h=>by
  rw[lR,gf]at h;split at h
  ·rename_i hk
   rw[cE h];exact⟨by omega,by rw[show t - k=0 by omega]; rfl⟩
  ·obtain⟨h2,h3⟩:=ic h
   refine⟨by omega,?_⟩;rw[show t - k=(t - (k+1))+1 by omega,XJ];exact h3
def qK(G:List (Nat×TypeId×List Value)):List Row:=G.map fun q=>⟨q.2.1,.dG q.1 q.2.2⟩
def xZ(G:List (Nat×TypeId×List Value)):Env:=⟨fun i=>match G[i]? with
 |some q=>q.1
 |none=>0,fun _=>none,fun _=>0,fun _=>0⟩
theorem il{w:World}{f:FuncId}{fn:Func}{c:Code}(G:List (Nat×TypeId×List Value))(hG:∀q∈G,aw w q.1 q.2.1 q.2.2)(hd:(G.map (·.1)).Nodup)(PP:List PanicEntry→World→Prop){args:List SV}{R:gV→List (Nat×TypeId×List Value)→Prop}
  (H:List (Nat×Hint)) (L:List Loop) (hm:P.follows .mixedOrders=true) (hf:P.funcs[f]?=some fn) (hb:fn.body=some c) (hn:args.length≤fn.ntmps) (ha:fM (T0 G.length) args=true)
  (hx:lN P fn.ntmps ⟨w,G.map (·.1),PP⟩ c H L ⟨lR 0 args,qK G⟩ (rS P fn R)):Calls P f (args.map (SV.den (xZ G))).toArray w (iP ⟨w,G.map (·.1),PP⟩ R):=by
 have rowAt:∀(i:Nat) (r:Row),(qK G)[i]?=some r→∃q,G[i]?=some q∧r=⟨q.2.1,.dG q.1 q.2.2⟩:=fun i r hi=>by
  unfold qK at hi;rw[XR]at hi;cases hq:G[i]? with
  |none=>rw[hq]at hi;cases hi
  |some q=>rw[hq]at hi;exact⟨q,rfl,by simpa using hi.symm⟩
 have envAt:∀(i:Nat) (q:Nat×TypeId×List Value),G[i]?=some q→(xZ G) i=q.1:=fun i q hq=>by show(match G[i]? with|some q=>q.1|none=>0)=q.1;rw[hq]
 refine calls_of_wp hf hb (Code.wp_mono (fun e a w hq=>Kq hq) (jK (w0:=⟨w,G.map (·.1),PP⟩) (n:=fn.ntmps) hm c H L _ _ (xZ G) _ w ?_ hx));have blkAt:∀(i:Nat) (r:Row) (k:Nat),(qK G)[i]?=some r→az (xZ G) i r=some k→∃q,G[i]?=some q∧k=q.1:=fun i r k hi hk=>by obtain⟨q,hq,rfl⟩:=rowAt i r hi;refine⟨q,hq,?_⟩;have:some ((xZ G) i)=some k:=hk;rw[envAt i q hq]at this;exact(XH.inj this).symm
 refine⟨by simp;omega,rfl,fun t sv ht=>?_,fun i r hi=>?_,fun i r k hi hk=>?_,fun i j r r' k hi hj hk hk'=>?_,ai.refl _ _,fun t sv ht=>?_,fun i r hi=>?_⟩
 ·obtain⟨_,hv⟩:=ic ht
  have hlt:t < args.length:=(Xy.1 hv).1;rw[XU (by simpa using hlt)];simp only[Yt]at hv;simp[hv]
 ·obtain⟨q,hq,rfl⟩:=rowAt i r hi
  show(xZ G) i=q.1∧aw w ((xZ G) i) q.2.1 q.2.2;rw[envAt i q hq];exact⟨rfl,hG q (XE hq)⟩
 ·obtain⟨q,hq,rfl⟩:=blkAt i r k hi hk
  exact .inl (Ys.2 ⟨q,XE hq,rfl⟩)
 ·obtain⟨q,hq,rfl⟩:=blkAt i r k hi hk
  obtain⟨q',hq',he⟩:=blkAt j r' _ hj hk';have h1:(G.map (·.1))[i]?=some q.1:=by rw[XR,hq];rfl
  have h2:(G.map (·.1))[j]?=some q.1:=by rw[XR,hq',he];rfl
  obtain⟨l1,e1⟩:=Xy.1 h1;obtain⟨l2,e2⟩:=Xy.1 h2;have e:=e1.trans e2.symm;have hp:=List.pairwise_iff_getElem.1 hd;exact Decidable.byContradiction fun hne=>by
   rcases Nat.lt_or_gt_of_ne hne with hl|hl
   ·exact hp _ _ l1 l2 hl e
   ·exact hp _ _ l2 l1 hl e.symm
 ·obtain⟨_,hv⟩:=ic ht
  have:=bn ha sv (XE hv);cases sv with
  |val v=>trivial
  |ptr i off=>have h:i < G.length:=XG this;show i < (qK G).length;unfold qK;rw[List.length_map];exact h
  |oI _ _ _ _=>cases this
  |own _=>cases this
  |nK _ _=>cases this
  |oo _ _ _=>cases this
  |mf _ _ _ _=>cases this
  |gone=>cases this
  |dX _=>cases this
  |Ik _ _=>cases this
  |ml _ _ _=>cases this
  |nz _=>cases this
  |eU _ _ _=>cases this
 ·obtain⟨q,_,rfl⟩:=rowAt i r hi
  trivial
structure Rows(b:bu)(β:Env)(w:World)(mem:List Row):Prop where
 held:∀(i:Nat) (r:Row),mem[i]?=some r→br β w i r
 new:∀(i:Nat) (r:Row) (k:Nat),mem[i]?=some r→az β i r=some k→k∈b.S∨b.w.heap.size≤k
 inj:∀(i j:Nat) (r r':Row) (k:Nat),mem[i]?=some r→mem[j]?=some r'→az β i r=some k→az β j r'=some k→i=j
 aJ:ai b.S b.w w
def fm(P:Program)(fn:Func)(R:List SV→List Row→Prop):Exit→St→Prop
 |.normal,st=>match kO P st fn.results.toList with
  |some l=>R l st.mem
  |none=>cR st
 |.ret,st=>match kO P st fn.results.toList with
  |some l=>R l st.mem
  |none=>cR st
 |_,_=>False
def cN(b:bu)(R:List SV→List Row→Prop)(e:Ending)(w':World):Prop:=
 (∃β l mem,R l mem∧e=.returned (np (l.map (SV.den β)))∧Rows b β w' mem)∨∃chain,e=.panicked chain∧b.PP chain w'∧ai b.S b.w w'
theorem Ai{fn:Func}{R:List SV→List Row→Prop}{e:Exit}{a:Act}{w:World}(h:lift [] w0 n (fm P fn R) e a w):bodyPost P fn (cN w0 R) e a w:=by
 have main:∀{β st},Hd [] w0 n β st a w→(match kO P st fn.results.toList with|some l=>R l st.mem|none=>cR st:Prop)→a.defers=[]∧∃v,(results fn a.tmps).run P w=.ok v w∧cN w0 R (.returned v) w:=by
  intro β st h hk;split at hk
  ·rename_i l hl
   refine⟨h.dn,np (l.map (SV.den β)),?_,.inl ⟨β,l,st.mem,hk,rfl,⟨h.cw,h.new,h.inj,h.aJ⟩⟩⟩;unfold results;rw[XV];simp only[XX,map_eq_pure_bind,XW];rw[oR (P:=P) h (fun _=>rfl) (fun _ _=>rfl) hl];simp only[XL];congr 1;generalize l.map (SV.den β)=vs;match vs with
   | []=>rfl
   | [v]=>rfl
   |v::u::r=>simp[np]
  ·exact nomatch hk
 cases e with
 |normal=>obtain⟨β,st,hk,h⟩:=h;exact main h hk
 |ret=>obtain⟨β,st,hk,h⟩:=h;exact main h hk
 |exit _=>obtain⟨_,_,hk,_⟩:=h;exact hk.elim
 |goto _=>obtain⟨_,_,hk,_⟩:=h;exact hk.elim
 |panic chain=>exact⟨h.1,.inr ⟨chain,rfl,h.2⟩⟩
 |outgrown=>obtain⟨_,_,hk,_⟩:=h;exact hk.elim
theorem bO{w:World}{f:FuncId}{fn:Func}{c:Code}{S:List Nat}{PP:List PanicEntry→World→Prop}{β:Env}{mem:List Row}{args:List SV}{R:List SV→List Row→Prop}(hF:Rows ⟨w,S,PP⟩ β w mem)
  (H:List (Nat×Hint)) (L:List Loop) (hm:P.follows .mixedOrders=true) (hf:P.funcs[f]?=some fn) (hb:fn.body=some c) (hn:args.length≤fn.ntmps) (hw:(fM (fun r=>nZ mem.length r.cs) mem&&fM (Cd mem.length) args)=true)
  (hx:lN P fn.ntmps ⟨w,S,PP⟩ c H L ⟨lR 0 args,mem⟩ (fm P fn R)):Calls P f (args.map (SV.den β)).toArray w (cN ⟨w,S,PP⟩ R):=by
 rw[XA]at hw;refine calls_of_wp hf hb (Code.wp_mono (fun e a w hq=>Ai hq) (jK (w0:=⟨w,S,PP⟩) (n:=fn.ntmps) hm c H L _ _ β _ w ?_ hx));refine⟨by simp;omega,rfl,fun t sv ht=>?_,hF.held,hF.new,hF.inj,hF.aJ,fun t sv ht=>?_,fun i r hi=>?_⟩
 ·obtain⟨_,hv⟩:=ic ht
  have hlt:t < args.length:=(Xy.1 hv).1;rw[XU (by simpa using hlt)];simp only[Yt]at hv;simp[hv]
 ·obtain⟨_,hv⟩:=ic ht
  exact p5 (bn hw.2 sv (XE hv))
 ·exact lh (bn hw.1 r (XE hi))
inductive lu where
 |cw (g:Nat) (T:TypeId) (cs:List Value)
 |oy (g:Nat) (T:TypeId) (cs:List SV)
 |own (T size:Nat) (A:Option Addr) (n c:Nat) (xs:List Value)
def lu.row:lu→Row
 |.cw g T cs=>⟨T,.dG g cs⟩
 |.oy g T cs=>⟨T,.j5 g cs⟩
 |.own T size _ n _ xs=>⟨T,.own size n xs⟩
def lu.block:lu→Option Nat
 |.cw g _ _=>some g
 |.oy g _ _=>some g
 |.own _ _ A _ _ _=>A.map (·.block)
def lu.N4:Option lu→Nat
 |some (.cw g _ _)=>g
 |some (.oy g _ _)=>g
 |_=>0
def lu.cD:Option lu→Option Addr
 |some (.own _ _ A _ _ _)=>A
 |_=>none
def lu.W8:Option lu→Nat
 |some (.own _ _ _ n _ _)=>n
 |_=>0
def lu.cap:Option lu→Nat
 |some (.own _ _ _ _ c _)=>c
 |_=>0
def di(G:List lu):Env:=⟨fun i=>lu.N4 G[i]?,fun i=>lu.cD G[i]?,fun i=>lu.W8 G[i]?,fun i=>lu.cap G[i]?⟩
def lu.Ok(β:Env)(w:World):lu→Prop
 |.cw g T cs=>aw w g T cs
 |.oy g T cs=>aw w g T (cs.map (SV.den β))
 |.own T size A n c xs=>Own w T size (.slice A n c) n xs
theorem gI{w:World}{S:List Nat}{PP:List PanicEntry→World→Prop}{G:List lu}(h:∀q∈G,q.Ok (di G) w)(hS:∀q∈G,∀k,q.block=some k→k∈S)(hd:(G.filterMap lu.block).Nodup):Rows ⟨w,S,PP⟩ (di G) w (G.map lu.row):=by
 have at_:∀(i:Nat) (r:Row),(G.map lu.row)[i]?=some r→∃q,G[i]?=some q∧q∈G∧r=q.row:=fun i r hi=>by
  rw[XR]at hi;cases hq:G[i]? with
  |none=>rw[hq]at hi;cases hi
  |some q=>rw[hq]at hi;exact⟨q,rfl,XE hq,by simpa using hi.symm⟩
 have Rv:∀(i:Nat) (q:lu) (k:Nat),G[i]?=some q→az (di G) i q.row=some k→q.block=some k:=fun i q k hq hk=>by
  cases q with
  |cw g T cs=>have:some ((di G) i)=some k:=hk;rw[←this];show some g=some (lu.N4 G[i]?);rw[hq];rfl
  |oy g T cs=>have:some ((di G) i)=some k:=hk;rw[←this];show some g=some (lu.N4 G[i]?);rw[hq];rfl
  |own T size A n c xs=>have h:((di G).a i).map (·.block)=some k:=hk;rw[←h];show A.map _=(lu.cD G[i]?).map _;rw[hq];rfl
 refine⟨fun i r hi=>?_,fun i r k hi hk=>?_,fun i j r r' k hi hj hk hk'=>?_,ai.refl _ _⟩
 ·obtain⟨q,hq,hm,rfl⟩:=at_ i r hi
  have:=h q hm;cases q with
  |cw g T cs=>
   have e:(di G) i=g:=by show lu.N4 G[i]?=g;rw[hq];rfl
   show(di G) i=g∧aw w ((di G) i) T cs;rw[e];exact⟨rfl,this⟩
  |oy g T cs=>
   have e:(di G) i=g:=by show lu.N4 G[i]?=g;rw[hq];rfl
   show(di G) i=g∧aw w ((di G) i) T (cs.map (SV.den (di G)));rw[e];exact⟨rfl,this⟩
  |own T size A n c xs=>
   show(di G).n i=n∧Own w T size (.slice ((di G).a i) n ((di G).c i)) n xs;have e1:(di G).n i=n:=by show lu.W8 G[i]?=n;rw[hq];rfl
   have e2:(di G).a i=A:=by show lu.cD G[i]?=A;rw[hq];rfl
   have e3:(di G).c i=c:=by show lu.cap G[i]?=c;rw[hq];rfl
   rw[e1,e2,e3];exact⟨rfl,this⟩
 ·obtain⟨q,hq,hm,rfl⟩:=at_ i r hi
  exact .inl (hS q hm k (Rv i q k hq hk))
 ·obtain⟨q,hq,hm,rfl⟩:=at_ i r hi
  obtain⟨q',hq',hm',rfl⟩:=at_ j r' hj;have h1:=Rv i q k hq hk;have h2:=Rv j q' k hq' hk';have key:∀(l:List lu) (i j:Nat),(l.filterMap lu.block).Nodup→∀a b,l[i]?=some a→l[j]?=some b→a.block=some k→b.block=some k→i=j:=by
   intro l;induction l with
   |nil=>intro i j _ a b ha;simp at ha
   |cons x l ih=>
    intro i j hn a b ha hb hak hbk;have noK:x.block=some k→∀(m:Nat) (c:lu),l[m]?=some c→c.block=some k→False:=fun hx m c hc hck=>by rw[X6,hx]at hn;exact(Yn.1 hn).1 (Yl.2 ⟨c,XE hc,hck⟩)
    have hn':(l.filterMap lu.block).Nodup:=by
     rw[X6]at hn;split at hn
     ·exact hn
     ·exact(Yn.1 hn).2
    cases i with
    |zero=>
     have ha:x=a:=by simpa using ha
     subst ha;cases j with
     |zero=>rfl
     |succ j=>exact(noK hak j b (by simpa using hb) hbk).elim
    |succ i=>
     cases j with
     |zero=>
      have hb:x=b:=by simpa using hb
      subst hb;exact(noK hbk i a (by simpa using ha) hak).elim
     |succ j=>rw[ih i j hn' a b (by simpa using ha) (by simpa using hb) hak hbk]
  exact key G i j hd q q' hq hq' h1 h2
theorem ep{β:Env}{W w':World}{row:Nat→Option Row}{m:Nat}{g:cS}{v:Value}{e:Ending}(hn:g.new=[])(hr:g.ret=.val v)(he:e=.returned v)(hu:∀q∈g.dW,br β w' q.1 q.2)(hc:ai (g.eG β row) W w'):BT β W row m g e w' β:=
 ⟨fun _ _=>⟨rfl,rfl,rfl,rfl⟩,by rw[he,hr];rfl,hu,fun k r h=>by rw[hn]at h;simp at h,fun k r x h=>by rw[hn]at h;simp at h,fun k k' r r' x h=>by rw[hn]at h;simp at h,hc⟩
def pN:Code→List Code
 |.seq x y=>pN x++pN y
 |.cond _ x y=>pN x++pN y
 |.block _ c=>pN c
 |.scope c=>pN c
 |.loop c=>[c]
 |_=>[]
def a7(fn:Func)(i:Nat):Code:=match fn.body with
 |some c=>(pN c).getD i .skip
 |none=>.skip
def inBody(c:Code)(i:Nat):Code:=(pN c).getD i .skip
def Xx(b:Bool)(X Y:Prop):Prop:=match b with
 |true=>X
 |false=>Y
theorem aI{b:Bool}{X Y:Prop}(hx:b=true→X)(hy:b=false→Y):Xx b X Y:=by
 cases b with
 |true=>exact hx rfl
 |false=>exact hy rfl
end
end Sx
abbrev ao(n:Nat)(b:Bool):Nat×Sx.Hint:=(n,.is (.bool b))
abbrev cO(n k:Nat):Nat×Sx.Hint:=(n,.is (.int .i64 (k:Int)))
end Go.Proofs.YtnncigmpcdehnaaGreatDoor
