import Derived.Test.YtnncigmpcdehnaaGreatDoorQf10
namespace Go.Proofs.YtnncigmpcdehnaaGreatDoor
open Go Go.RowKit Go.Lib Go.Sort
namespace Sx
structure jd where
 sv:SV
 Ij:List Nat
 wr:Option (Nat×Row)
 nw:Option (Nat×Row)
def Cn(mem:List Row)(en:jd):List Row:=match en.wr with
 |some (i,r)=>mem.set i r
 |none=>mem
def EM(mem:List Row)(en:jd):List Row:=match en.nw with
 |some (_,r)=>Cn mem en++[r]
 |none=>Cn mem en
theorem iR{mem:List Row}{en:jd}:(Cn mem en).length=mem.length:=by
 unfold Cn
 split
 ·simp
 ·rfl
def cV(n:Nat)(st:St)(o:Oper)(en:jd):St:=(⟨st.fr,EM st.mem en⟩:St).put n o.dst en.sv
section
variable(P:Program)(H:List (Nat×Hint))(n:Nat)(w0:aU)(ops:Array Oper)
def kr(t:List Nat):jd:=⟨.gone,t,none,none⟩
def Pb(D:List Nat)(o:Oper):Bool:=match D with
 | []=>false
 |_=>o.after.toList.any fun e=>Region.binds .any e&&AA e.on D
def o6:Cells→Bool
 |.ak _=>true
 |.dF _ _=>true
 |_=>false
def xx(g:cC):Option (Value×Option (Nat×Row)):=match g.kill with
 | []=>match g.new with
  | []=>match g.ret with
   |.val v=>match g.gk with
    | []=>some (v,none)
    | [q]=>match o6 q.2.cs with
     |true=>some (v,some q)
     |false=>none
    |_=>none
   |_=>none
  |_=>none
 |_=>none
def Br(p:Prop):Prop:=p
def RO(p:Option Prop)(A B:Prop):Prop:=match p with
 |none=>A
 |some q=>Br (q→A)∧(¬q→B)
def gv:List Oper→Nat→St→List jd→List Nat→(List jd→St→List Nat→Prop)→Prop
 | [],_,st,acc,D,K=>K acc st D
 |o::l,j,st,acc,D,K=>match Pb D o with
  |true=>gv l (j+1) (cV n st o (kr [])) (acc++[kr []]) (j::D) K
  |false=>match guardOf ops st.fr o with
   |some true=>match Bd P H (ev st.fr) o with
    |.val sv=>gv l (j+1) (cV n st o ⟨sv,[],none,none⟩) (acc++[⟨sv,[],none,none⟩]) D K
    |.call f args g=>match J8 st.mem g with
     |true=>match xx g with
      |some p=>Tag (keyOf o) (∀W β,eF w0 β W (rowAt st.mem) g.see→Calls P f (args.map (SV.den β)).toArray W (aY w0 β W (rowAt st.mem) st.mem.length g))∧RO g.CO (gv l (j+1) (cV n st o ⟨.val p.1,g.see,p.2,none⟩) (acc++[⟨.val p.1,g.see,p.2,none⟩]) D K) (gv l (j+1) (cV n st o (kr g.see)) (acc++[kr g.see]) (j::D) K)
      |none=>cF o
     |false=>cF o
    |.iG _ _ _=>cF o
    |.FN _ _ _=>cF o
    |.no=>match fI P w0 H (hint H o.dst) (ev st.fr) (rowAt st.mem) o with
     |.val sv ob=>oN o ob (gv l (j+1) (cV n st o ⟨sv,ax (ev st.fr) o,none,none⟩) (acc++[⟨sv,ax (ev st.fr) o,none,none⟩]) D K)
     |.call f args v=>Tag (keyOf o) (∀W,ai w0.S w0.w W→Calls P f args.toArray W (Rn W v))∧gv l (j+1) (cV n st o ⟨.val v,ax (ev st.fr) o,none,none⟩) (acc++[⟨.val v,ax (ev st.fr) o,none,none⟩]) D K
     |.alloc t cs ln=>gv l (j+1) (cV n st o ⟨lZ st.mem.length ln,ax (ev st.fr) o,none,some (st.mem.length,⟨t,cs⟩)⟩) (acc++[⟨lZ st.mem.length ln,ax (ev st.fr) o,none,some (st.mem.length,⟨t,cs⟩)⟩]) D K
     |.store i r ob=>oN o ob (gv l (j+1) (cV n st o ⟨.val undef,ax (ev st.fr) o,some (i,r),none⟩) (acc++[⟨.val undef,ax (ev st.fr) o,some (i,r),none⟩]) D K)
     |.ef i r ob=>oN o ob (gv l (j+1) (cV n st o ⟨.val undef,ax (ev st.fr) o,some (i,r),none⟩) (acc++[⟨.val undef,ax (ev st.fr) o,some (i,r),none⟩]) D K)
     |.grow kill t size nn xs ob=>oN o ob (gv l (j+1) (cV n st o ⟨.own st.mem.length,ax (ev st.fr) o,kill.map (·,an),some (st.mem.length,⟨t,.own size nn xs⟩)⟩) (acc++[⟨.own st.mem.length,ax (ev st.fr) o,kill.map (·,an),some (st.mem.length,⟨t,.own size nn xs⟩)⟩]) D K)
     |.dS f args r=>Tag (keyOf o) (∀W,ai w0.S w0.w W→ia (rowAt st.mem) W args fun vs=>Calls P f vs.toArray W (fU W r))∧gv l (j+1) (cV n st o ⟨ik st.mem.length r,ax (ev st.fr) o,none,(jg r).map (st.mem.length,·)⟩) (acc++[⟨ik st.mem.length r,ax (ev st.fr) o,none,(jg r).map (st.mem.length,·)⟩]) D K
     |.fQ f i r=>Tag (keyOf o) (∀W,ai w0.S w0.w W→DU (rowAt st.mem) W i fun s=>Calls P f #[s] W (qc W s r))∧gv l (j+1) (cV n st o ⟨ik st.mem.length r,ax (ev st.fr) o,some (i,an),(jg r).map (st.mem.length,·)⟩) (acc++[⟨ik st.mem.length r,ax (ev st.fr) o,some (i,an),(jg r).map (st.mem.length,·)⟩]) D K
     |.eZ f args x=>match x with
      |.gk p i row v=>Tag (keyOf o) (∀W,ai w0.S w0.w W→ia (rowAt st.mem) W args fun vs=>Calls P f vs.toArray W (mG w0 W vs (.gk p i row v)))∧gv l (j+1) (cV n st o ⟨.val v,ax (ev st.fr) o,some (i,row),none⟩) (acc++[⟨.val v,ax (ev st.fr) o,some (i,row),none⟩]) D K
      |.Ex _=>cF o
     |.bad=>cF o
   |some false=>gv l (j+1) (cV n st o ⟨.val undef,[],none,none⟩) (acc++[⟨.val undef,[],none,none⟩]) D K
   |none=>cF o
def Cg(st:St)(o:Oper)(en:jd):Prop:=
 (guardOf ops st.fr o=some false∧en=⟨.val undef,[],none,none⟩)∨
 (guardOf ops st.fr o=some true∧match Bd P H (ev st.fr) o with
  |.val sv=>en=⟨sv,[],none,none⟩
  |.call f args g=>∃p,xx g=some p∧J8 st.mem g=true∧(∀W β,eF w0 β W (rowAt st.mem) g.see→Calls P f (args.map (SV.den β)).toArray W (aY w0 β W (rowAt st.mem) st.mem.length g))∧(∀q,g.CO=some q→q)∧en=⟨.val p.1,g.see,p.2,none⟩
  |.iG _ _ _=>False
  |.FN _ _ _=>False
  |.no=>match fI P w0 H (hint H o.dst) (ev st.fr) (rowAt st.mem) o with
   |.val sv ob=>(∀p,ob=some p→p)∧en=⟨sv,ax (ev st.fr) o,none,none⟩
   |.call f args v=>(∀W,ai w0.S w0.w W→Calls P f args.toArray W (Rn W v))∧en=⟨.val v,ax (ev st.fr) o,none,none⟩
   |.alloc t cs ln=>en=⟨lZ st.mem.length ln,ax (ev st.fr) o,none,some (st.mem.length,⟨t,cs⟩)⟩
   |.store i r ob=>(∀p,ob=some p→p)∧en=⟨.val undef,ax (ev st.fr) o,some (i,r),none⟩
   |.ef i r ob=>(∀p,ob=some p→p)∧en=⟨.val undef,ax (ev st.fr) o,some (i,r),none⟩
   |.grow kill t size nn xs ob=>(∀p,ob=some p→p)∧en=⟨.own st.mem.length,ax (ev st.fr) o,kill.map (·,an),some (st.mem.length,⟨t,.own size nn xs⟩)⟩
   |.dS f args r=>(∀W,ai w0.S w0.w W→ia (rowAt st.mem) W args fun vs=>Calls P f vs.toArray W (fU W r))∧en=⟨ik st.mem.length r,ax (ev st.fr) o,none,(jg r).map (st.mem.length,·)⟩
   |.fQ f i r=>(∀W,ai w0.S w0.w W→DU (rowAt st.mem) W i fun s=>Calls P f #[s] W (qc W s r))∧en=⟨ik st.mem.length r,ax (ev st.fr) o,some (i,an),(jg r).map (st.mem.length,·)⟩
   |.eZ f args x=>match x with
    |.gk p i row v=>(∀W,ai w0.S w0.w W→ia (rowAt st.mem) W args fun vs=>Calls P f vs.toArray W (mG w0 W vs (.gk p i row v)))∧en=⟨.val v,ax (ev st.fr) o,some (i,row),none⟩
    |.Ex _=>False
   |.bad=>False)
def D0(D:List Nat)(st:St)(o:Oper)(en:jd):Prop:=en.nw=none∧en.wr=none∧((∃e∈o.after,Region.binds .any e=true∧e.on∈D)∨
 (guardOf ops st.fr o=some true∧∃f args g q,Bd P H (ev st.fr) o=.call f args g∧J8 st.mem g=true∧g.CO=some q∧¬q∧(∀W β,eF w0 β W (rowAt st.mem) g.see→Calls P f (args.map (SV.den β)).toArray W (aY w0 β W (rowAt st.mem) st.mem.length g))∧en.Ij=g.see)∨∃m∈D,ops.size≤m)
def v8(D:List Nat)(k:Nat)(st:St)(o:Oper)(en:jd):Prop:=(k∉D∧Cg P H w0 ops st o en)∨(k∈D∧D0 P H w0 ops D st o en)
def Lex:List Oper→Nat→St→List jd→List Nat→St→List Nat→Prop
 | [],_,st,es,D,st',D'=>es=[]∧st'=st∧D'=D
 |o::l,j,st,es,D,st',D'=>∃en es' D1,es=en::es'∧((D1=D∧Cg P H w0 ops st o en)∨(D1=j::D∧D0 P H w0 ops D st o en))∧Lex l (j+1) (cV n st o en) es' D1 st' D'
end
section
variable{P:Program}{H:List (Nat×Hint)}{n:Nat}{w0:aU}{ds:List Deferred}{ops:Array Oper}
theorem yF:∀(l:List Oper) (j:Nat) (st:St) (acc:List jd) (D:List Nat) (K:List jd→St→List Nat→Prop),gv P H n w0 ops l j st acc D K→∃es st' D',Lex P H n w0 ops l j st es D st' D'∧K (acc++es) st' D'
 | [],j,st,acc,D,K,h=>⟨[],st,D,⟨rfl,rfl,rfl⟩,by simpa[gv]using h⟩
 |o::l,j,st,acc,D,K,h=>by
  have go:∀en,Cg P H w0 ops st o en→gv P H n w0 ops l (j+1) (cV n st o en) (acc++[en]) D K→∃es st' D',Lex P H n w0 ops (o::l) j st es D st' D'∧K (acc++es) st' D':=by
   intro en he hx
   obtain⟨es,st',D',h1,h2⟩:=yF l _ _ _ _ K hx
   exact⟨en::es,st',D',⟨en,es,D,rfl,.inl ⟨rfl,he⟩,h1⟩,by simpa using h2⟩
  have god:∀en,D0 P H w0 ops D st o en→gv P H n w0 ops l (j+1) (cV n st o en) (acc++[en]) (j::D) K→∃es st' D',Lex P H n w0 ops (o::l) j st es D st' D'∧K (acc++es) st' D':=by
   intro en he hx
   obtain⟨es,st',D',h1,h2⟩:=yF l _ _ _ _ K hx
   exact⟨en::es,st',D',⟨en,es,j::D,rfl,.inr ⟨rfl,he⟩,h1⟩,by simpa using h2⟩
  unfold gv at h
  split at h
  ·rename_i hd
   refine god _ ⟨rfl,rfl,.inl ?_⟩ h
   unfold Pb at hd
   split at hd
   ·cases hd
   ·obtain⟨e,he,hb⟩:=List.any_eq_true.1 hd
    rw[Bool.and_eq_true]at hb
    exact⟨e,by simpa using he,hb.1,ny.1 hb.2⟩
  split at h
  ·rename_i hg
   split at h
   ·rename_i sv hr
    exact go _ (.inr ⟨hg,by rw[hr]⟩) h
   ·rename_i f args g hr
    split at h
    ·rename_i hok
     split at h
     ·rename_i p hp
      have h2:=h.2
      unfold RO at h2
      split at h2
      ·rename_i hphi
       exact go _ (.inr ⟨hg,by rw[hr];exact⟨p,hp,hok,h.1,fun q hq=>(by rw[hphi]at hq;cases hq),rfl⟩⟩) h2
      ·rename_i q hphi
       by_cases hq:q
       ·exact go _ (.inr ⟨hg,by rw[hr];exact⟨p,hp,hok,h.1,fun q' hq'=>(by rw[hphi]at hq';cases hq';exact hq),rfl⟩⟩) (h2.1 hq)
       ·exact god _ ⟨rfl,rfl,.inr (.inl ⟨hg,f,args,g,q,hr,hok,hphi,hq,h.1,rfl⟩)⟩ (h2.2 hq)
     ·exact nomatch h
    ·exact nomatch h
   ·exact nomatch h
   ·exact nomatch h
   ·rename_i hno
    split at h
    ·rename_i sv ob hr
     exact go _ (.inr ⟨hg,by rw[hno];simp only;rw[hr];exact⟨iX h,rfl⟩⟩) (kn h)
    ·rename_i f args v hr
     exact go _ (.inr ⟨hg,by rw[hno];simp only;rw[hr];exact⟨h.1,rfl⟩⟩) h.2
    ·rename_i t cs ln hr
     exact go _ (.inr ⟨hg,by rw[hno];simp only;rw[hr]⟩) h
    ·rename_i i r ob hr
     exact go _ (.inr ⟨hg,by rw[hno];simp only;rw[hr];exact⟨iX h,rfl⟩⟩) (kn h)
    ·rename_i i r ob hr
     exact go _ (.inr ⟨hg,by rw[hno];simp only;rw[hr];exact⟨iX h,rfl⟩⟩) (kn h)
    ·rename_i kill t size nn xs ob hr
     exact go _ (.inr ⟨hg,by rw[hno];simp only;rw[hr];exact⟨iX h,rfl⟩⟩) (kn h)
    ·rename_i f args r hr
     exact go _ (.inr ⟨hg,by rw[hno];simp only;rw[hr];exact⟨h.1,rfl⟩⟩) h.2
    ·rename_i f i r hr
     exact go _ (.inr ⟨hg,by rw[hno];simp only;rw[hr];exact⟨h.1,rfl⟩⟩) h.2
    ·rename_i f args x hr
     split at h
     ·exact go _ (.inr ⟨hg,by rw[hno];simp only;rw[hr];exact⟨h.1,rfl⟩⟩) h.2
     ·exact nomatch h
    ·exact nomatch h
  ·rename_i hg
   exact go _ (.inl ⟨hg,rfl⟩) h
  ·exact nomatch h
def cy(n:Nat):St→List Oper→List jd→Nat→St
 |st,o::l,en::es,k+1=>cy n (cV n st o en) l es k
 |st,_,_,_=>st
theorem iF{st:St}{l:List Oper}{es:List jd}:cy n st l es 0=st:=by
 cases l<;>cases es<;>rfl
theorem nZ:∀{l:List Oper} {es:List jd} {st:St} {k:Nat} {o:Oper} {en:jd},l[k]?=some o→es[k]?=some en→cy n st l es (k+1)=cV n (cy n st l es k) o en
 |o::l,en::es,st,0,o',en',ho,he=>by
  have ho:o=o':=by simpa using ho
  have he:en=en':=by simpa using he
  subst ho;subst he
  rw[iF]
  exact iF
 |o::l,en::es,st,k+1,o',en',ho,he=>by
  show cy n (cV n st o en) l es (k+1)=cV n (cy n (cV n st o en) l es k) o' en'
  exact nZ (by simpa using ho) (by simpa using he)
 | [],_,_,_,_,_,ho,_=>by simp at ho
 |_::_,[],_,_,_,_,_,he=>by simp at he
theorem AI:∀{l:List Oper} {j:Nat} {st:St} {es:List jd} {D:List Nat} {st':St} {D':List Nat},Lex P H n w0 ops l j st es D st' D'→(∀d∈D,d∈D')∧∀d∈D',d∈D∨j≤d
 | [],j,st,es,D,st',D',h=>by
  obtain⟨rfl,rfl,rfl⟩:=h
  exact⟨fun d hd=>hd,fun d hd=>.inl hd⟩
 |o::l,j,st,es,D,st',D',h=>by
  obtain⟨en,es',D1,rfl,he,h'⟩:=h
  obtain⟨h1,h2⟩:=AI h'
  rcases he with⟨rfl,_⟩ | ⟨rfl,_⟩
  ·exact⟨h1,fun d hd=>(h2 d hd).imp id (fun h=>by omega)⟩
  ·refine⟨fun d hd=>h1 d (List.mem_cons_of_mem _ hd),fun d hd=>?_⟩
   rcases h2 d hd with hd|hd
   ·rcases List.mem_cons.1 hd with rfl|hd
    ·exact .inr (Nat.le_refl _)
    ·exact .inl hd
   ·exact .inr (by omega)
theorem lex_lt:∀{l:List Oper} {j:Nat} {st:St} {es:List jd} {D:List Nat} {st':St} {D':List Nat},Lex P H n w0 ops l j st es D st' D'→(∀d∈D,d < j)→∀d∈D',d < j+l.length
 | [],j,st,es,D,st',D',h,hD=>by
  obtain⟨rfl,rfl,rfl⟩:=h
  exact fun d hd=>by simpa using hD d hd
 |o::l,j,st,es,D,st',D',h,hD=>by
  obtain⟨en,es',D1,rfl,he,h'⟩:=h
  intro d hd
  have:=lex_lt h' (fun d hd=>by
   rcases he with⟨rfl,_⟩ | ⟨rfl,_⟩
   ·have:=hD d hd;omega
   ·rcases List.mem_cons.1 hd with rfl|hd
    ·omega
    ·have:=hD d hd;omega) d hd
  simp only[List.length_cons]
  omega
theorem uX:∀{l:List Oper} {j:Nat} {st:St} {es:List jd} {D:List Nat} {st':St} {D':List Nat},Lex P H n w0 ops l j st es D st' D'→(∀d∈D,d < j)→es.length=l.length∧(∀k o en,l[k]?=some o→es[k]?=some en→v8 P H w0 ops D' (j+k) (cy n st l es k) o en)∧cy n st l es l.length=st'
 | [],j,st,es,D,st',D',h,_=>by
  obtain⟨rfl,rfl,rfl⟩:=h
  exact⟨rfl,fun k o en ho=>by simp at ho,rfl⟩
 |o::l,j,st,es,D,st',D',h,hD=>by
  obtain⟨en,es',D1,rfl,he,h'⟩:=h
  obtain⟨m1,m2⟩:=AI h'
  have hD1:∀d∈D1,d < j+1:=fun d hd=>by
   rcases he with⟨rfl,_⟩ | ⟨rfl,_⟩
   ·have:=hD d hd;omega
   ·rcases List.mem_cons.1 hd with rfl|hd
    ·omega
    ·have:=hD d hd;omega
  obtain⟨h1,h2,h3⟩:=uX h' hD1
  refine⟨by simp[h1],fun k o' en' ho' he'=>?_,h3⟩
  cases k with
  |zero=>
   have ho':o=o':=by simpa using ho'
   have he':en=en':=by simpa using he'
   subst ho';subst he'
   rcases he with⟨rfl,he⟩ | ⟨rfl,he⟩
   ·refine .inl ⟨fun hj=>?_,he⟩
    rcases m2 _ hj with hj|hj
    ·have:=hD _ hj;omega
    ·omega
   ·refine .inr ⟨m1 _ (by simp),he.1,he.2.1,he.2.2.imp (fun⟨e,h1,h2,h3⟩=>⟨e,h1,h2,m1 _ (List.mem_cons_of_mem _ h3)⟩) (Or.imp id fun⟨m,h1,h2⟩=>⟨m,m1 _ (List.mem_cons_of_mem _ h1),h2⟩)⟩
  |succ k=>
   have:=h2 k o' en' (by simpa using ho') (by simpa using he')
   rwa [show j+1+k=j+(k+1)by omega]at this
end
def idxOf{α:Type}(p:α→Bool):List α→Option Nat
 | []=>none
 |x::r=>match p x with
  |true=>some 0
  |false=>(idxOf p r).map Nat.succ
theorem gG{α:Type}{p:α→Bool}:∀{l:List α} {k:Nat},idxOf p l=some k→∃x,l[k]?=some x∧p x=true
 |x::r,k,h=>by
  unfold idxOf at h
  split at h
  ·rename_i hp
   have:k=0:=by simpa using h.symm
   subst this
   exact⟨x,rfl,hp⟩
  ·cases hr:idxOf p r with
   |none=>rw[hr]at h;cases h
   |some j=>
    rw[hr]at h
    have:k=j+1:=by simpa using h.symm
    subst this
    obtain⟨y,hy,hp⟩:=gG hr
    exact⟨y,by simpa using hy,hp⟩
def isDst(t:Nat)(o:Oper):Bool:=match o.dst with
 |some d=>Nat.beq d t
 |none=>false
def jl(b:Nat)(en:jd):Bool:=match en.nw with
 |some (i,_)=>Nat.beq i b
 |none=>false
def mB(b:Nat)(en:jd):Bool:=match en.wr with
 |some (i,_)=>Nat.beq i b
 |none=>false
theorem GJ{t:Nat}{o:Oper}:isDst t o=true↔o.dst=some t:=by
 unfold isDst
 split
 ·rename_i d hd
  rw[hd]
  constructor
  ·intro h;rw[Nat.eq_of_beq_eq_true h]
  ·intro h;rw[Option.some.inj h];exact Nat.beq_refl t
 ·rename_i hd;rw[hd];simp
theorem GI{b:Nat}{en:jd}:jl b en=true↔∃r,en.nw=some (b,r):=by
 unfold jl
 split
 ·rename_i i r hd
  rw[hd]
  constructor
  ·intro h;exact⟨r,by rw[Nat.eq_of_beq_eq_true h]⟩
  ·rintro⟨r',h⟩
   have:i=b:=by injection h with h;injection h
   rw[this];exact Nat.beq_refl b
 ·rename_i hd;rw[hd];simp
theorem JW{b:Nat}{en:jd}:mB b en=true↔∃r,en.wr=some (b,r):=by
 unfold mB
 split
 ·rename_i i r hd
  rw[hd]
  constructor
  ·intro h;exact⟨r,by rw[Nat.eq_of_beq_eq_true h]⟩
  ·rintro⟨r',h⟩
   have:i=b:=by injection h with h;injection h
   rw[this];exact Nat.beq_refl b
 ·rename_i hd;rw[hd];simp
section
variable(l:List Oper)(st:St)(es:List jd)
def kz(L:Nat→Bool)(t:Nat):Option SV:=match idxOf (isDst t) l with
 |none=>look st.fr t
 |some k=>if L k then(es[k]?).bind (·.sv.known)else look st.fr t
def nG(L:Nat→Bool)(b:Nat):Option Row:=match idxOf (jl b) es with
 |none=>st.mem[b]?
 |some k=>if L k then((es[k]?).bind (·.nw)).map (·.2)else none
def b8(L:Nat→Bool)(b:Nat):Option Row:=match idxOf (mB b) es with
 |none=>nG st es L b
 |some s=>if L s then((es[s]?).bind (·.wr)).map (·.2)else nG st es L b
end
def xU(l:List Oper)(i k:Nat):Bool:=match l[i]? with
 |some o=>o.after.toList.any fun e=>Region.binds .any e&&Nat.beq e.on k
 |none=>false
def mS(l:List Oper)(i k:Nat):Bool:=match Nat.blt k i with
 |true=>xU l i k
 |false=>match Nat.beq k i with
  |true=>true
  |false=>xU l k i
def kZ(l:List Oper)(i:Nat):Option Nat→Bool
 |none=>true
 |some k=>mS l i k
def SK(l:List Oper)(es:List jd)(n:Nat)(k:Nat)(o:Oper)(en:jd):Bool:=
 (o.after.toList.all fun e=>!Region.binds .any e||Nat.blt e.on k)&&
 (match o.dst with
  |some t=>Nat.blt t n&&idxOf (isDst t) l==some k
  |none=>true)&&
 ((o.looksAt l.toArray).all fun t=>kZ l k (idxOf (isDst t) l))&&
 (en.Ij.all fun b=>kZ l k (idxOf (jl b) es)&&kZ l k (idxOf (mB b) es))&&
 (match en.nw with
  |some (b,_)=>idxOf (jl b) es==some k&&(match idxOf (mB b) es with
   |some s=>Nat.blt k s
   |none=>true)
  |none=>true)&&
 (match en.wr with
  |some (b,_)=>idxOf (mB b) es==some k&&(match idxOf (jl b) es with
   |some c=>Nat.blt c k
   |none=>true)
  |none=>true)&&
 (match o.op with
  |.select ..=>false
  |_=>true)
def B7(l:List Oper)(es:List jd)(n:Nat):Nat→List Oper→List jd→Bool
 |k,o::r,en::er=>match SK l es n k o en with
  |true=>B7 l es n (k+1) r er
  |false=>false
 |_,[],[]=>true
 |_,_,_=>false
theorem pG{l:List Oper}{es:List jd}{n:Nat}:∀{r:List Oper} {er:List jd} {k0:Nat},B7 l es n k0 r er=true→∀k o en,r[k]?=some o→er[k]?=some en→SK l es n (k0+k) o en=true
 |o::r,en::er,k0,h,k,o',en',ho,he=>by
  unfold B7 at h
  split at h
  ·rename_i hb
   cases k with
   |zero=>
    have ho:o=o':=by simpa using ho
    have he:en=en':=by simpa using he
    subst ho;subst he
    exact hb
   |succ k=>
    have:=pG h k o' en' (by simpa using ho) (by simpa using he)
    rwa [show k0+(k+1)=k0+1+k by omega]
  ·cases h
 | [],_,_,_,_,_,_,ho,_=>by simp at ho
 |_::_,[],_,_,_,_,_,_,he=>by simp at he
structure Ck(l:List Oper)(es:List jd)(n:Nat)(k:Nat)(o:Oper)(en:jd):Prop where
 down:∀e∈o.after,Region.binds .any e=true→e.on < k
 dst:∀t,o.dst=some t→t < n∧idxOf (isDst t) l=some k
 looks:∀t∈o.looksAt l.toArray,kZ l k (idxOf (isDst t) l)=true
 Ij:∀b∈en.Ij,kZ l k (idxOf (jl b) es)=true∧kZ l k (idxOf (mB b) es)=true
 nw:∀b r,en.nw=some (b,r)→idxOf (jl b) es=some k∧∀s,idxOf (mB b) es=some s→k < s
 wr:∀b r,en.wr=some (b,r)→idxOf (mB b) es=some k∧∀c,idxOf (jl b) es=some c→c < k
 TG:∀cs b,o.op≠.select cs b
theorem An{l:List Oper}{es:List jd}{n k:Nat}{o:Oper}{en:jd}(h:SK l es n k o en=true):Ck l es n k o en:=by
 unfold SK at h
 simp only[Bool.and_eq_true]at h
 obtain⟨⟨⟨⟨⟨⟨h1,h2⟩,h3⟩,h4⟩,h5⟩,h6⟩,h7⟩:=h
 refine⟨fun e he hb=>?_,fun t ht=>?_,fun t ht=>?_,fun b hb=>?_,fun b r hb=>?_,fun b r hb=>?_,fun cs b hs=>?_⟩
 ·have:=List.all_eq_true.1 h1 e (by simpa using he)
  rw[hb]at this
  exact Nat.le_of_ble_eq_true (show Nat.blt e.on k=true by simpa only[Bool.not_true,Bool.false_or]using this)
 ·rw[ht]at h2
  simp only[Bool.and_eq_true]at h2
  exact⟨Nat.le_of_ble_eq_true h2.1,by simpa using h2.2⟩
 ·exact List.all_eq_true.1 h3 t ht
 ·simpa only[Bool.and_eq_true]using List.all_eq_true.1 h4 b hb
 ·rw[hb]at h5
  simp only[Bool.and_eq_true]at h5
  refine⟨by simpa using h5.1,fun s hs=>?_⟩
  have:=h5.2
  rw[hs]at this
  exact Nat.le_of_ble_eq_true this
 ·rw[hb]at h6
  simp only[Bool.and_eq_true]at h6
  refine⟨by simpa using h6.1,fun c hc=>?_⟩
  have:=h6.2
  rw[hc]at this
  exact Nat.le_of_ble_eq_true this
 ·rw[hs]at h7
  cases h7
end Sx
open Go Go.RowKit Go.Lib Go.Sort
namespace Sx
section
variable{P:Program}{H:List (Nat×Hint)}{n:Nat}{w0:aU}{ds:List Deferred}{l:List Oper}{es:List jd}{st:St}
theorem Qq{t k:Nat}(h:idxOf (isDst t) l=some k):∃o,l[k]?=some o∧o.dst=some t:=by
 obtain⟨o,ho,hp⟩:=gG h
 exact⟨o,ho,GJ.1 hp⟩
theorem fJ{b k:Nat}(h:idxOf (jl b) es=some k):∃en r,es[k]?=some en∧en.nw=some (b,r):=by
 obtain⟨en,ho,hp⟩:=gG h
 obtain⟨r,hr⟩:=GI.1 hp
 exact⟨en,r,ho,hr⟩
theorem OF{b k:Nat}(h:idxOf (mB b) es=some k):∃en r,es[k]?=some en∧en.wr=some (b,r):=by
 obtain⟨en,ho,hp⟩:=gG h
 obtain⟨r,hr⟩:=JW.1 hp
 exact⟨en,r,ho,hr⟩
theorem nF{L L':Nat→Bool}{t:Nat}(h:∀k,idxOf (isDst t) l=some k→L k=L' k):kz l st es L t=kz l st es L' t:=by
 unfold kz
 cases hi:idxOf (isDst t) l with
 |none=>rfl
 |some k=>simp only[h k hi]
theorem py{L L':Nat→Bool}{b:Nat}(h1:∀k,idxOf (jl b) es=some k→L k=L' k)(h2:∀k,idxOf (mB b) es=some k→L k=L' k):b8 st es L b=b8 st es L' b:=by
 have hb:nG st es L b=nG st es L' b:=by
  unfold nG
  cases hi:idxOf (jl b) es with
  |none=>rfl
  |some k=>simp only[h1 k hi]
 unfold b8
 cases hi:idxOf (mB b) es with
 |none=>exact hb
 |some k=>simp only[h2 k hi,hb]
def more(L:Nat→Bool)(i:Nat)(k:Nat):Bool:=L k||decide (k=i)
theorem fm{L:Nat→Bool}{i k:Nat}(h:k≠i):more L i k=L k:=by unfold more;simp[h]
theorem jz{L:Nat→Bool}{i:Nat}:more L i i=true:=by unfold more;simp
theorem eR{L:Nat→Bool}{i t:Nat}{o:Oper}{en:jd}(ho:l[i]?=some o)(he:es[i]?=some en)(hB:Ck l es n i o en):kz l st es (more L i) t=if o.dst=some t then en.sv.known else kz l st es L t:=by
 split
 ·rename_i hd
  have:=(hB.dst t hd).2
  unfold kz
  simp only[this,jz,if_true,he,Option.bind_some]
 ·rename_i hd
  refine nF fun k hk=>fm ?_
  rintro rfl
  obtain⟨o',ho',hd'⟩:=Qq hk
  rw[ho]at ho'
  cases ho'
  exact hd hd'
theorem dX{L:Nat→Bool}{i b:Nat}{en:jd}(he:es[i]?=some en)(h1:∀r,en.nw≠some (b,r))(h2:∀r,en.wr≠some (b,r)):b8 st es (more L i) b=b8 st es L b:=by
 refine py (fun k hk=>fm ?_) (fun k hk=>fm ?_)
 ·rintro rfl
  obtain⟨en',r,he',hr⟩:=fJ hk
  rw[he]at he'
  cases he'
  exact h1 r hr
 ·rintro rfl
  obtain⟨en',r,he',hr⟩:=OF hk
  rw[he]at he'
  cases he'
  exact h2 r hr
theorem kU{L:Nat→Bool}{i b:Nat}{o:Oper}{en:jd}{r:Row}(he:es[i]?=some en)(hB:Ck l es n i o en)(hn:en.nw=some (b,r))(hs:∀s,idxOf (mB b) es=some s→L s=false):b8 st es (more L i) b=some r:=by
 have hi:=(hB.nw b r hn).1
 have hb:nG st es (more L i) b=some r:=by
  unfold nG
  simp only[hi,jz,if_true,he,Option.bind_some,hn,Option.map_some]
 unfold b8
 cases hw:idxOf (mB b) es with
 |none=>exact hb
 |some s=>
  have hlt:=(hB.nw b r hn).2 s hw
  simp only[fm (show s≠i by omega),hs s hw,Bool.false_eq_true,if_false,hb]
theorem mj{L:Nat→Bool}{i b:Nat}{o:Oper}{en:jd}{r:Row}(he:es[i]?=some en)(hB:Ck l es n i o en)(hn:en.wr=some (b,r)):b8 st es (more L i) b=some r:=by
 have hi:=(hB.wr b r hn).1
 unfold b8
 simp only[hi,jz,if_true,he,Option.bind_some,hn,Option.map_some]
def yC(k j:Nat):Bool:=decide (j < k)
theorem AF(k:Nat):yC (k+1)=more (yC k) k:=by
 funext j
 unfold yC more
 rw[Bool.eq_iff_iff]
 simp
 omega
theorem AE:yC 0=fun _=>false:=by funext j;simp[yC]
theorem pz{t:Nat}:kz l st es (fun _=>false) t=look st.fr t:=by
 unfold kz
 cases idxOf (isDst t) l<;>simp
theorem xH{b:Nat}(h:∀k,idxOf (jl b) es=some k→st.mem[b]?=none):b8 st es (fun _=>false) b=st.mem[b]?:=by
 have hb:nG st es (fun _=>false) b=st.mem[b]?:=by
  unfold nG
  cases hi:idxOf (jl b) es with
  |none=>rfl
  |some k=>simp[h k hi]
 unfold b8
 cases idxOf (mB b) es<;>simp[hb]
theorem Qp{ops:Array Oper}{s:St}{o:Oper}{en:jd}{b:Nat}{r:Row}(h:Cg P H w0 ops s o en)(hn:en.nw=some (b,r)):b=s.mem.length:=by
 rcases h with⟨_,rfl⟩ | ⟨hg,h⟩
 ·cases hn
 ·split at h
  ·subst h;cases hn
  ·obtain⟨p,hp,_,_,_,rfl⟩:=h;cases hn
  ·exact h.elim
  ·exact h.elim
  split at h
  ·obtain⟨_,rfl⟩:=h;cases hn
  ·obtain⟨_,rfl⟩:=h;cases hn
  ·rename_i t cs ln hr
   subst h
   injection hn with hn
   injection hn with h1 h2
   exact h1.symm
  ·obtain⟨_,rfl⟩:=h;cases hn
  ·obtain⟨_,rfl⟩:=h;cases hn
  ·obtain⟨_,rfl⟩:=h
   injection hn with hn
   injection hn with h1 h2
   exact h1.symm
  ·rename_i f args r' hr
   obtain⟨_,rfl⟩:=h
   cases hrr:jg r' with
   |none=>simp[hrr]at hn
   |some row'=>
    simp only[hrr,Option.map_some,Option.some.injEq,Prod.mk.injEq]at hn
    exact hn.1.symm
  ·rename_i f i r' hr
   obtain⟨_,rfl⟩:=h
   cases hrr:jg r' with
   |none=>simp[hrr]at hn
   |some row'=>
    simp only[hrr,Option.map_some,Option.some.injEq,Prod.mk.injEq]at hn
    exact hn.1.symm
  ·split at h
   ·obtain⟨_,rfl⟩:=h;cases hn
   ·exact h.elim
  ·exact h.elim
theorem vp{g:cC}{p:Value×Option (Nat×Row)}(h:xx g=some p):g.kill=[]∧g.new=[]∧g.ret=.val p.1∧((g.gk=[]∧p.2=none)∨∃q,g.gk=[q]∧p.2=some q∧o6 q.2.cs=true):=by
 unfold xx at h
 split at h
 ·rename_i hk
  split at h
  ·rename_i hn
   split at h
   ·rename_i v hv
    split at h
    ·rename_i hu
     cases h
     exact⟨hk,hn,hv,.inl ⟨hu,rfl⟩⟩
    ·rename_i q hu
     split at h
     ·rename_i hp
      cases h
      exact⟨hk,hn,hv,.inr ⟨q,hu,rfl,hp⟩⟩
     ·cases h
    ·cases h
   ·cases h
  ·cases h
 ·cases h
theorem yQ{mem:List Row}{g:cC}(h:J8 mem g=true){q:Nat×Row}(hq:q∈g.gk):(∃r,mem[q.1]?=some r∧r.fixed=true)∧q.2.fixed=true∧q.1∈g.see:=by
 unfold J8 at h
 rw[Bool.and_eq_true]at h
 have:=aT h.1 q hq
 simp only[Bool.and_eq_true]at this
 exact⟨qD this.1.1,this.1.2,ny.1 this.2.2⟩
theorem eF.ec{b:aU}{β:Env}{W:World}{mem:List Row}{g:cC}(h:eF b β W (rowAt mem) g.see)(hok:J8 mem g=true):∀k∈g.ec β (rowAt mem),k∈b.S∨b.w.heap.size≤k:=fun k hk=>by
 obtain⟨i,r,hi,hr,hb⟩:=qW hk
 refine h.new i ?_ r k hr hb
 rcases hi with hi|hi
 ·obtain⟨q,hq,rfl⟩:=List.mem_map.1 hi
  exact(yQ hok hq).2.2
 ·unfold J8 at hok
  rw[Bool.and_eq_true,Bool.and_eq_true]at hok
  exact ny.1 (aT hok.2.1 i hi)
theorem Al{c:Cells}(h:o6 c=true){Q:Nat→Prop}:c.on Q:=by
 cases c<;>first|trivial|cases h
theorem J7{mem:List Row}{g:cC}{p:Value×Option (Nat×Row)}{b:Nat}{r:Row}(hp:xx g=some p)(hok:J8 mem g=true)(hn:p.2=some (b,r)):b < mem.length∧b∈g.see:=by
 obtain⟨_,_,_,⟨_,h⟩ | ⟨q,hu,h,_⟩⟩:=vp hp
 ·rw[h]at hn;cases hn
 ·rw[h]at hn
  cases hn
  obtain⟨⟨r0,h0,_⟩,_,hs⟩:=yQ hok (q:=(b,r)) (by rw[hu];simp)
  exact⟨(List.getElem?_eq_some_iff.1 h0).1,hs⟩
theorem Qo{ops:Array Oper}{s:St}{o:Oper}{en:jd}{b:Nat}{r:Row}(h:Cg P H w0 ops s o en)(hn:en.wr=some (b,r)):b < s.mem.length∧b∈en.Ij:=by
 rcases h with⟨_,rfl⟩ | ⟨hg,h⟩
 ·cases hn
 ·split at h
  ·subst h;cases hn
  ·obtain⟨p,hp,_,_,_,rfl⟩:=h;exact J7 hp (by assumption) hn
  ·exact h.elim
  ·exact h.elim
  split at h
  ·obtain⟨_,rfl⟩:=h;cases hn
  ·obtain⟨_,rfl⟩:=h;cases hn
  ·subst h;cases hn
  ·rename_i i r' ob hr
   obtain⟨_,rfl⟩:=h
   injection hn with hn
   injection hn with h1 h2
   subst h1;subst h2
   obtain⟨ht,_,r0,h0,_⟩:=mM hr
   exact⟨(List.getElem?_eq_some_iff.1 h0).1,ht⟩
  ·rename_i i r' ob hr
   obtain⟨_,rfl⟩:=h
   injection hn with hn
   injection hn with h1 h2
   subst h1;subst h2
   obtain⟨ht,r0,h0,_⟩:=lR hr
   exact⟨(List.getElem?_eq_some_iff.1 h0).1,ht⟩
  ·rename_i kill t size nn xs ob hr
   obtain⟨_,rfl⟩:=h
   cases kill with
   |none=>cases hn
   |some i=>
    simp only[Option.map_some,Option.some.injEq,Prod.mk.injEq]at hn
    obtain⟨rfl,_⟩:=hn
    obtain⟨ht,r0,h0,_⟩:=pv hr
    exact⟨(List.getElem?_eq_some_iff.1 h0).1,ht⟩
  ·obtain⟨_,rfl⟩:=h;cases hn
  ·rename_i f i r' hr
   obtain⟨hcl,rfl⟩:=h
   injection hn with hn
   injection hn with h1 h2
   subst h1
   obtain⟨r0,h0,_⟩:=vV (hcl w0.w (ai.refl _ _))
   exact⟨(List.getElem?_eq_some_iff.1 h0).1,(sH hr).1⟩
  ·rename_i f args x hr
   obtain⟨_,hx2,_⟩:=pC hr
   cases x with
   |gk p i row v=>
    obtain⟨_,rfl⟩:=h
    injection hn with hn
    injection hn with h1 h2
    subst h1
    obtain⟨_,ht,r0,h0,_⟩:=hx2 p _ row v rfl
    exact⟨(List.getElem?_eq_some_iff.1 h0).1,ht⟩
   |Ex ps=>exact h.elim
  ·exact h.elim
theorem tk{ops:Array Oper}{D:List Nat}{k:Nat}{s:St}{o:Oper}{en:jd}{b:Nat}{r:Row}(h:v8 P H w0 ops D k s o en)(hn:en.nw=some (b,r)):b=s.mem.length:=by
 rcases h with⟨_,h⟩ | ⟨_,h,_⟩
 ·exact Qp h hn
 ·rw[h]at hn;cases hn
theorem Fj{ops:Array Oper}{D:List Nat}{k:Nat}{s:St}{o:Oper}{en:jd}{b:Nat}{r:Row}(h:v8 P H w0 ops D k s o en)(hn:en.wr=some (b,r)):b < s.mem.length∧b∈en.Ij:=by
 rcases h with⟨_,h⟩ | ⟨_,_,h,_⟩
 ·exact Qo h hn
 ·rw[h]at hn;cases hn
theorem vW{s:St}{o:Oper}{en:jd}:(cV n s o en).mem=EM s.mem en:=by
 unfold cV St.put
 cases o.dst with
 |none=>rfl
 |some d=>cases hb:Nat.blt d n<;>simp[hb]
variable{ops:Array Oper}(hlen:es.length=l.length)(hB:∀k o en,l[k]?=some o→es[k]?=some en→Ck l es n k o en){D:List Nat}(hE:∀k o en,l[k]?=some o→es[k]?=some en→v8 P H w0 ops D k (cy n st l es k) o en)
include hlen hB hE
omit hB hE in
theorem yB:∀k,k≤l.length→st.mem.length≤(cy n st l es k).mem.length:=by
 intro k
 induction k with
 |zero=>intro _;rw[iF];exact Nat.le_refl _
 |succ k ih=>
  intro hk
  obtain⟨o,ho⟩:∃o,l[k]?=some o:=⟨_,List.getElem?_eq_getElem (by omega)⟩
  obtain⟨en,he⟩:∃en,es[k]?=some en:=⟨_,List.getElem?_eq_getElem (by omega)⟩
  rw[nZ ho he]
  have:=ih (by omega)
  rw[vW]
  unfold EM
  split
  ·rw[List.length_append,iR];omega
  ·rw[iR];omega
omit hE in
theorem EP:∀k,k≤l.length→∀t,look (cy n st l es k).fr t=kz l st es (yC k) t:=by
 intro k
 induction k with
 |zero=>intro _ t;rw[iF,AE,pz]
 |succ k ih=>
  intro hk t
  obtain⟨o,ho⟩:∃o,l[k]?=some o:=⟨_,List.getElem?_eq_getElem (by omega)⟩
  obtain⟨en,he⟩:∃en,es[k]?=some en:=⟨_,List.getElem?_eq_getElem (by omega)⟩
  rw[nZ ho he,AF,eR ho he (hB k o en ho he),←ih (by omega) t]
  unfold cV St.put
  cases hd:o.dst with
  |none=>simp
  |some d=>
   have:Nat.blt d n=true:=Nat.ble_eq_true_of_le ((hB k o en ho he).dst d hd).1
   simp only[this,fL,Option.some.injEq]
theorem IE:∀k,k≤l.length→∀b:Nat,(cy n st l es k).mem[b]?=b8 st es (yC k) b:=by
 have fresh:∀b k:Nat,idxOf (jl b) es=some k→st.mem[b]?=none:=by
  intro b k hk
  obtain⟨en,r,he,hr⟩:=fJ hk
  have hkl:k < l.length:=by rw[←hlen];exact(List.getElem?_eq_some_iff.1 he).1
  have hb:=tk (hE k _ en (List.getElem?_eq_getElem hkl) he) hr
  have:=yB (n:=n) (st:=st) hlen k (by omega)
  exact List.getElem?_eq_none (by omega)
 intro k
 induction k with
 |zero=>intro _ b;rw[iF,AE,xH (fresh b)]
 |succ k ih=>
  intro hk b
  obtain⟨o,ho⟩:∃o,l[k]?=some o:=⟨_,List.getElem?_eq_getElem (by omega)⟩
  obtain⟨en,he⟩:∃en,es[k]?=some en:=⟨_,List.getElem?_eq_getElem (by omega)⟩
  have ih:=ih (by omega)
  have hbk:=hB k o en ho he
  have hek:=hE k o en ho he
  rw[nZ ho he,AF]
  rw[vW]
  have hwr:∀b,(∀r,en.nw≠some (b,r))→(Cn (cy n st l es k).mem en)[b]?=b8 st es (more (yC k) k) b:=by
   intro b hnb
   unfold Cn
   cases hw:en.wr with
   |some p=>
    obtain⟨i,r⟩:=p
    obtain⟨hil,_⟩:=Fj hek hw
    simp only[List.getElem?_set]
    by_cases hbi:i=b
    ·subst hbi
     rw[if_pos rfl,if_pos hil,mj he hbk hw]
    ·rw[if_neg hbi,dX he hnb (fun r' h=>by rw[hw]at h;injection h with h;injection h with h _;exact hbi h),ih b]
   |none=>
    simp only
    rw[dX he hnb (fun r' h=>by rw[hw]at h;cases h),ih b]
  unfold EM
  cases hn:en.nw with
  |some p=>
   obtain⟨m,r⟩:=p
   have hml:=tk hek hn
   simp only
   by_cases hbm:b=m
   ·subst hbm
    rw[kU he hbk hn (fun s hs=>by have:=(hbk.nw _ _ hn).2 s hs;simp[yC];omega),hml,←iR (en:=en),List.getElem?_append_right (Nat.le_refl _)]
    simp
   ·rw[←hwr b (fun r' h=>by rw[hn]at h;injection h with h;injection h with h _;exact hbm h.symm)]
    rcases Nat.lt_or_ge b (Cn (cy n st l es k).mem en).length with hlt|hge
    ·rw[List.getElem?_append_left hlt]
    ·rw[List.getElem?_eq_none (by rw[iR]at hge;simp[iR];omega),List.getElem?_eq_none hge]
  |none=>
   simp only
   exact hwr b (fun r' h=>by rw[hn]at h;cases h)
end
structure ig(ds:List Deferred)(w0:aU)(n:Nat)(l:List Oper)(es:List jd)(st:St)(L:Nat→Bool)(β:Env)(a:Act)(w:World):Prop where
 size:a.tmps.size=n
 dn:a.defers=ds
 get:∀t sv,kz l st es L t=some sv→a.tmps[t]?=some (sv.den β)
 b9:∀(b:Nat) (r:Row),b8 st es L b=some r→aX β w b r
 new:∀(b:Nat) (r:Row) (k:Nat),b8 st es L b=some r→av β b r=some k→k∈w0.S∨w0.w.heap.size≤k
 inj:∀(b c:Nat) (r r':Row) (k:Nat),b8 st es L b=some r→b8 st es L c=some r'→av β b r=some k→av β c r'=some k→b=c
 aG:ai w0.S w0.w w
 wj:∀t sv,kz l st es L t=some sv→sv.on (fun b=>∃r,b8 st es L b=some r)
 wg:∀(b:Nat) (r:Row),b8 st es L b=some r→r.cs.on (fun b=>∃r,b8 st es L b=some r)
 down:∀k o,l[k]?=some o→L k=true→∀e∈o.after,Region.binds .any e=true→L e.on=true
section
variable{P:Program}{H:List (Nat×Hint)}{n:Nat}{w0:aU}{ds:List Deferred}{l:List Oper}{es:List jd}{st:St}{L:Nat→Bool}{β:Env}{a:Act}{w:World}{i:Nat}{o:Oper}{en:jd}
theorem oT{j k:Nat}(h:xU l j k=true):∃oj,l[j]?=some oj∧∃e∈oj.after,Region.binds .any e=true∧e.on=k:=by
 unfold xU at h
 split at h
 ·rename_i oj hoj
  obtain⟨e,he,hb⟩:=List.any_eq_true.1 h
  simp only[Bool.and_eq_true]at hb
  exact⟨oj,hoj,e,by simpa using he,hb.1,Nat.eq_of_beq_eq_true hb.2⟩
 ·cases h
theorem lT(hI:ig ds w0 n l es st L β a w)(ho:l[i]?=some o)(hL:L i=false)(hr:∀e∈o.after,Region.binds .any e=true→L e.on=true){k:Nat}(hs:mS l i k=true):L k=yC i k:=by
 unfold mS at hs
 unfold yC
 split at hs
 ·rename_i hlt
  have hlt:k < i:=Nat.le_of_ble_eq_true hlt
  obtain⟨oi,hoi,e,he,hb,hon⟩:=oT hs
  rw[ho]at hoi
  cases hoi
  have:=hr e he hb
  rw[hon]at this
  rw[this];simp[hlt]
 ·rename_i hlt
  have hlt:¬k < i:=fun h=>by rw[show Nat.blt k i=true from Nat.ble_eq_true_of_le h]at hlt;cases hlt
  split at hs
  ·rename_i heq
   rw[Nat.eq_of_beq_eq_true heq,hL];simp
  ·obtain⟨ok,hok,e,he,hb,hon⟩:=oT hs
   cases hLk:L k with
   |false=>simp[hlt]
   |true=>
    have:=hI.down k ok hok hLk e he hb
    rw[hon,hL]at this
    cases this
theorem ig.jy(hI:ig ds w0 n l es st L β a w)(ho:l[i]?=some o)(he:es[i]?=some en)(hB:Ck l es n i o en)(hr:∀e∈o.after,Region.binds .any e=true→L e.on=true)
  {w':World} (hc:ai [] w w') (h1:en.nw=none) (h2:en.wr=none) (hs:en.sv.on (fun b=>∃r,b8 st es L b=some r)):ig ds w0 n l es st (more L i) β (a.put o.dst (en.sv.den β)) w':=by
 have row:∀b,b8 st es (more L i) b=b8 st es L b:=fun b=>dX he (fun r h=>by rw[h1]at h;cases h) (fun r h=>by rw[h2]at h;cases h)
 refine⟨?_,?_,fun t sv ht=>?_,fun b r hb=>?_,fun b r k hb hk=>?_,fun b c r r' k hb hc' hk hk'=>?_,hI.aG.seq hc (by simp),fun t sv ht=>?_,fun b r hb=>?_,fun k ok hok hk e hee hb=>?_⟩
 ·cases o.dst<;>simp[Act.put,hI.size]
 ·cases o.dst<;>simp[Act.put,hI.dn]
 ·rw[eR ho he hB]at ht
  split at ht
  ·rename_i hd
   rw[hd,js (by rw[hI.size];exact(hB.dst t hd).1),if_pos rfl,cg ht]
  ·rename_i hd
   cases hd':o.dst with
   |none=>exact hI.get t sv ht
   |some d=>
    rw[js (by rw[hI.size];exact(hB.dst d hd').1),if_neg (fun h=>hd (by rw[hd',h]))]
    exact hI.get t sv ht
 ·rw[row]at hb;exact(hI.b9 b r hb).aG hc (fun _ _=>by simp)
 ·rw[row]at hb;exact hI.new b r k hb hk
 ·rw[row]at hb hc';exact hI.inj b c r r' k hb hc' hk hk'
 ·rw[eR ho he hB]at ht
  split at ht
  ·rw[cg ht];exact SV.bc (fun b hb=>by rw[row];exact hb) hs
  ·exact SV.bc (fun b hb=>by rw[row];exact hb) (hI.wj t sv ht)
 ·rw[row]at hb;exact Cells.bc (fun b hb=>by rw[row];exact hb) (hI.wg b r hb)
 ·by_cases hki:k=i
  ·subst hki
   rw[ho]at hok
   cases hok
   have:=hr e hee hb
   unfold more;rw[this];rfl
  ·rw[fm hki]at hk
   have:=hI.down k ok hok hk e hee hb
   unfold more;rw[this];rfl
theorem ig.CZ(hI:ig ds w0 n l es st L β a w)(ho:l[i]?=some o)(he:es[i]?=some en)(hB:Ck l es n i o en)(hr:∀e∈o.after,Region.binds .any e=true→L e.on=true)
  {m:Nat} {t:TypeId} {cs:Cells} {ln:Option Nat} (hf:(⟨t,cs⟩:Row).fixed=true) (hft:cs.tag=none) (hn:en.nw=some (m,⟨t,cs⟩)) (hw:en.wr=none) (hsv:en.sv=lZ m ln) (hnot:b8 st es L m=none) (hs:∀s,idxOf (mB m) es=some s→L s=false)
  (hcs:cs.on (fun b=>∃r,b8 st es L b=some r)):ig ds w0 n l es st (more L i) (β.gk m w.heap.size) (a.put o.dst (oO w.heap.size ln)) (w.alloc (.cells (cs.den β).toArray t)):=by
 have rowm:b8 st es (more L i) m=some ⟨t,cs⟩:=kU he hB hn hs
 have row:∀b,b≠m→b8 st es (more L i) b=b8 st es L b:=fun b hb=>dX he (fun r h=>by rw[hn]at h;injection h with h;injection h with h _;exact hb h.symm) (fun r h=>by rw[hw]at h;cases h)
 have live:∀b,(∃r,b8 st es L b=some r)→b≠m:=fun b ⟨r,h⟩ hb=>by rw[hb,hnot]at h;cases h
 have same:β.same (β.gk m w.heap.size) (fun b=>∃r,b8 st es L b=some r):=H4.mono live
 have up:∀b,(∃r,b8 st es L b=some r)→∃r,b8 st es (more L i) b=some r:=fun b hb=>by rw[row b (live b hb)];exact hb
 have lt:∀b r k,b8 st es L b=some r→av β b r=some k→k < w.heap.size:=fun b r k h hk=>(hI.b9 b r h).lt hk
 have at_:∀b r,b8 st es (more L i) b=some r→(b8 st es L b=some r)∨(b=m∧r=⟨t,cs⟩):=fun b r hb=>by
  by_cases hbm:b=m
  ·subst hbm;rw[rowm]at hb;cases hb;exact .inr ⟨rfl,rfl⟩
  ·rw[row b hbm]at hb;exact .inl hb
 have blkm:av (β.gk m w.heap.size) m ⟨t,cs⟩=some w.heap.size:=by rw[aH hf,jF]
 refine⟨?_,?_,fun u sv ht=>?_,fun b r hb=>?_,fun b r k hb hk=>?_,fun b c r r' k hb hc' hk hk'=>?_,hI.aG.alloc _,fun u sv ht=>?_,fun b r hb=>?_,fun k ok hok hk e hee hb=>?_⟩
 ·cases o.dst<;>simp[Act.put,hI.size]
 ·cases o.dst<;>simp[Act.put,hI.dn]
 ·rw[eR ho he hB]at ht
  split at ht
  ·rename_i hd
   rw[hd,js (by rw[hI.size];exact(hB.dst u hd).1),if_pos rfl,cg ht,hsv,AD]
  ·rename_i hd
   rw[←SV.ct same (hI.wj u sv ht)]
   cases hd':o.dst with
   |none=>exact hI.get u sv ht
   |some d=>
    rw[js (by rw[hI.size];exact(hB.dst d hd').1),if_neg (fun h=>hd (by rw[hd',h]))]
    exact hI.get u sv ht
 ·rcases at_ b r hb with hb|⟨rfl,rfl⟩
  ·refine aX.congr same ⟨r,hb⟩ (hI.wg b r hb) ((hI.b9 b r hb).aG (S:=[]) ((ai.refl [] w).alloc _) (fun _ _=>by simp))
  ·refine aX.nr ?_ hf (fun g hg=>by rw[hft]at hg;cases hg)
   rw[jF,←Cells.ct same hcs]
   exact au.new w t (cs.den β).toArray
 ·rcases at_ b r hb with hb|⟨rfl,rfl⟩
  ·rw[←ba same ⟨r,hb⟩]at hk;exact hI.new b r k hb hk
  ·rw[blkm]at hk;cases hk;exact .inr hI.aG.size
 ·rcases at_ b r hb with hb|⟨rfl,rfl⟩
  ·rw[←ba same ⟨r,hb⟩]at hk
   rcases at_ c r' hc' with hc' | ⟨rfl,rfl⟩
   ·rw[←ba same ⟨r',hc'⟩]at hk';exact hI.inj b c r r' k hb hc' hk hk'
   ·rw[blkm]at hk';cases hk'
    exact absurd (lt b r _ hb hk) (Nat.lt_irrefl _)
  ·rcases at_ c r' hc' with hc' | ⟨rfl,rfl⟩
   ·rw[blkm]at hk;cases hk
    rw[←ba same ⟨r',hc'⟩]at hk'
    exact absurd (lt c r' _ hc' hk') (Nat.lt_irrefl _)
   ·rfl
 ·rw[eR ho he hB]at ht
  split at ht
  ·rw[cg ht,hsv];exact EN ⟨_,rowm⟩
  ·exact SV.bc up (hI.wj u sv ht)
 ·rcases at_ b r hb with hb|⟨rfl,rfl⟩
  ·exact Cells.bc up (hI.wg b r hb)
  ·exact Cells.bc up hcs
 ·by_cases hki:k=i
  ·subst hki
   rw[ho]at hok
   cases hok
   have:=hr e hee hb
   unfold more;rw[this];rfl
  ·rw[fm hki]at hk
   have:=hI.down k ok hok hk e hee hb
   unfold more;rw[this];rfl
theorem ig.ru(hI:ig ds w0 n l es st L β a w)(ho:l[i]?=some o)(he:es[i]?=some en)(hB:Ck l es n i o en)(hr:∀e∈o.after,Region.binds .any e=true→L e.on=true)
  {m:Nat} {kill:Option Nat} {A:Option Addr} {T size nn cc:Nat} {xs:List Value} {S:List Nat} {w':World} (hn:en.nw=some (m,⟨T,.own size nn xs⟩)) (hw:en.wr=kill.map (·,an)) (hnot:b8 st es L m=none) (hs:∀s,idxOf (mB m) es=some s→L s=false)
  (hown:Own w' T size (.slice A nn cc) nn xs) (hc:ai S w w') (hS:∀k∈S,∃i r0,kill=some i∧b8 st es L i=some r0∧av β i r0=some k) (hA:∀k,A.map (·.block)=some k→k∈S∨w.heap.size≤k)
  (hsv:en.sv.on (·=m)):ig ds w0 n l es st (more L i) (β.iz m A nn cc) (a.put o.dst (en.sv.den (β.iz m A nn cc))) w':=by
 have rowm:b8 st es (more L i) m=some ⟨T,.own size nn xs⟩:=kU he hB hn hs
 have live:∀b,(∃r,b8 st es L b=some r)→b≠m:=fun b ⟨r,h⟩ hb=>by rw[hb,hnot]at h;cases h
 have same:β.same (β.iz m A nn cc) (fun b=>∃r,b8 st es L b=some r):=sW.mono live
 have rowk:∀b,kill=some b→b8 st es (more L i) b=some an:=fun b hb=>mj he hB (by rw[hw,hb];rfl)
 have row:∀b,b≠m→kill≠some b→b8 st es (more L i) b=b8 st es L b:=fun b hb hk=>dX he (fun r h=>by rw[hn]at h;injection h with h;injection h with h _;exact hb h.symm) (fun r h=>by
  rw[hw]at h
  cases kill with
  |none=>cases h
  |some j=>
   simp only[Option.map_some,Option.some.injEq,Prod.mk.injEq]at h
   exact hk (by rw[h.1]))
 have up:∀b,(∃r,b8 st es L b=some r)→∃r,b8 st es (more L i) b=some r:=fun b hb=>by
  by_cases hk:kill=some b
  ·exact⟨_,rowk b hk⟩
  ·rw[row b (live b hb) hk];exact hb
 have at_:∀b r,b8 st es (more L i) b=some r→(kill≠some b∧b8 st es L b=some r)∨r=an∨(b=m∧r=⟨T,.own size nn xs⟩):=fun b r hb=>by
  by_cases hbm:b=m
  ·subst hbm;rw[rowm]at hb;cases hb;exact .inr (.inr ⟨rfl,rfl⟩)
  ·by_cases hk:kill=some b
   ·rw[rowk b hk]at hb;cases hb;exact .inr (.inl rfl)
   ·rw[row b hbm hk]at hb;exact .inl ⟨hk,hb⟩
 have new':∀k,A.map (·.block)=some k→k∈w0.S∨w0.w.heap.size≤k:=fun k hk=>by
  rcases hA k hk with hk|hk
  ·obtain⟨i,r0,_,h0,hb⟩:=hS k hk
   exact hI.new i r0 k h0 hb
  ·exact .inr (Nat.le_trans hI.aG.size hk)
 have apart:∀(b:Nat) (r:Row) (k:Nat),kill≠some b→b8 st es L b=some r→av β b r=some k→A.map (·.block)≠some k:=fun b r k hki hi hk hk'=>by
  rcases hA k hk' with hk' | hk'
  ·obtain⟨j,r0,hj,h0,hb⟩:=hS k hk'
   have:=hI.inj b j r r0 k hi h0 hk hb
   subst this
   exact hki hj
  ·have:=(hI.b9 b r hi).lt hk
   omega
 refine⟨?_,?_,fun u sv ht=>?_,fun b r hb=>?_,fun b r k hb hk=>?_,fun b c r r' k hb hc' hk hk'=>?_,hI.aG.seq hc (fun k hk=>?_),fun u sv ht=>?_,fun b r hb=>?_,fun k ok hok hk e hee hb=>?_⟩
 ·cases o.dst<;>simp[Act.put,hI.size]
 ·cases o.dst<;>simp[Act.put,hI.dn]
 ·rw[eR ho he hB]at ht
  split at ht
  ·rename_i hd
   rw[hd,js (by rw[hI.size];exact(hB.dst u hd).1),if_pos rfl,cg ht]
  ·rename_i hd
   rw[←SV.ct same (hI.wj u sv ht)]
   cases hd':o.dst with
   |none=>exact hI.get u sv ht
   |some d=>
    rw[js (by rw[hI.size];exact(hB.dst d hd').1),if_neg (fun h=>hd (by rw[hd',h]))]
    exact hI.get u sv ht
 ·rcases at_ b r hb with⟨hk,hb⟩ | rfl|⟨rfl,rfl⟩
  ·refine aX.congr same ⟨r,hb⟩ (hI.wg b r hb) ((hI.b9 b r hb).aG hc fun k hkk hm=>?_)
   obtain⟨j,r0,hj,h0,hbb⟩:=hS k hm
   have:=hI.inj b j r r0 k hb h0 hkk hbb
   subst this
   exact hk hj
  ·trivial
  ·exact wJ hown
 ·rcases at_ b r hb with⟨hkk,hb⟩ | rfl|⟨rfl,rfl⟩
  ·rw[←ba same ⟨r,hb⟩]at hk;exact hI.new b r k hb hk
  ·cases hk
  ·rw[kW]at hk;exact new' k hk
 ·rcases at_ b r hb with⟨hkb,hb⟩ | rfl|⟨rfl,rfl⟩
  ·rw[←ba same ⟨r,hb⟩]at hk
   rcases at_ c r' hc' with⟨hkc,hc'⟩ | rfl|⟨rfl,rfl⟩
   ·rw[←ba same ⟨r',hc'⟩]at hk';exact hI.inj b c r r' k hb hc' hk hk'
   ·cases hk'
   ·rw[kW]at hk';exact absurd hk' (apart b r k hkb hb hk)
  ·cases hk
  ·rcases at_ c r' hc' with⟨hkc,hc'⟩ | rfl|⟨rfl,rfl⟩
   ·rw[←ba same ⟨r',hc'⟩]at hk'
    rw[kW]at hk
    exact absurd hk (apart c r' k hkc hc' hk')
   ·cases hk'
   ·rfl
 ·obtain⟨j,r0,_,h0,hb⟩:=hS k hk
  exact hI.new j r0 k h0 hb
 ·rw[eR ho he hB]at ht
  split at ht
  ·rw[cg ht];exact SV.bc (fun b hb=>by rw[hb];exact⟨_,rowm⟩) hsv
  ·exact SV.bc up (hI.wj u sv ht)
 ·rcases at_ b r hb with⟨hkb,hb⟩ | rfl|⟨rfl,rfl⟩
  ·exact Cells.bc up (hI.wg b r hb)
  ·trivial
  ·trivial
 ·by_cases hki:k=i
  ·subst hki
   rw[ho]at hok
   cases hok
   have:=hr e hee hb
   unfold more;rw[this];rfl
  ·rw[fm hki]at hk
   have:=hI.down k ok hok hk e hee hb
   unfold more;rw[this];rfl
theorem ig.lX(hI:ig ds w0 n l es st L β a w)(ho:l[i]?=some o)(he:es[i]?=some en)(hB:Ck l es n i o en)(hr:∀e∈o.after,Region.binds .any e=true→L e.on=true)
  {m:Nat} {r0 r1:Row} {w':World} {u0:Value} (hn:en.nw=none) (hw:en.wr=some (m,r1)) (hsv:en.sv=.val u0) (hrow:b8 st es L m=some r0) (hblk:av β m r1=av β m r0) (hb':aX β w' m r1) (hc:ai (av β m r0).toList w w')
  (hcs:r1.cs.on (fun b=>∃r,b8 st es L b=some r)):ig ds w0 n l es st (more L i) β (a.put o.dst u0) w':=by
 have rowm:b8 st es (more L i) m=some r1:=mj he hB hw
 have row:∀b,b≠m→b8 st es (more L i) b=b8 st es L b:=fun b hb=>dX he (fun r h=>by rw[hn]at h;cases h) (fun r h=>by rw[hw]at h;injection h with h;injection h with h _;exact hb h.symm)
 have up:∀b,(∃r,b8 st es L b=some r)→∃r,b8 st es (more L i) b=some r:=fun b hb=>by
  by_cases hbm:b=m
  ·rw[hbm];exact⟨_,rowm⟩
  ·rw[row b hbm];exact hb
 have dn:∀b r k,b8 st es (more L i) b=some r→av β b r=some k→∃r',b8 st es L b=some r'∧av β b r'=some k:=fun b r k hb hk=>by
  by_cases hbm:b=m
  ·subst hbm
   rw[rowm]at hb
   cases hb
   exact⟨_,hrow,by rw[←hblk];exact hk⟩
  ·rw[row b hbm]at hb;exact⟨_,hb,hk⟩
 refine⟨?_,?_,fun u sv ht=>?_,fun b r hb=>?_,fun b r k hb hk=>?_,fun b c r r' k hbb hcc hk hk'=>?_,?_,fun u sv ht=>?_,fun b r hb=>?_,fun k ok hok hk e hee hb=>?_⟩
 ·cases o.dst<;>simp[Act.put,hI.size]
 ·cases o.dst<;>simp[Act.put,hI.dn]
 ·rw[eR ho he hB]at ht
  split at ht
  ·rename_i hd
   rw[hd,js (by rw[hI.size];exact(hB.dst u hd).1),if_pos rfl,cg ht,hsv]
   rfl
  ·rename_i hd
   cases hd':o.dst with
   |none=>exact hI.get u sv ht
   |some d=>
    rw[js (by rw[hI.size];exact(hB.dst d hd').1),if_neg (fun h=>hd (by rw[hd',h]))]
    exact hI.get u sv ht
 ·by_cases hbm:b=m
  ·subst hbm
   rw[rowm]at hb
   cases hb
   exact hb'
  ·rw[row b hbm]at hb
   refine(hI.b9 b r hb).aG hc fun k hk hm=>hbm ?_
   exact hI.inj b m r r0 _ hb hrow hk (by simpa using hm)
 ·obtain⟨r',h',hk'⟩:=dn b r k hb hk
  exact hI.new b r' k h' hk'
 ·obtain⟨x,hx,hkx⟩:=dn b r k hbb hk
  obtain⟨y,hy,hky⟩:=dn c r' k hcc hk'
  exact hI.inj b c x y k hx hy hkx hky
 ·exact hI.aG.seq hc (fun x hx=>hI.new m r0 _ hrow (by simpa using hx))
 ·rw[eR ho he hB]at ht
  split at ht
  ·rw[cg ht,hsv];trivial
  ·exact SV.bc up (hI.wj u sv ht)
 ·by_cases hbm:b=m
  ·subst hbm
   rw[rowm]at hb
   cases hb
   exact Cells.bc up hcs
  ·rw[row b hbm]at hb
   exact Cells.bc up (hI.wg b r hb)
 ·by_cases hki:k=i
  ·subst hki
   rw[ho]at hok
   cases hok
   have:=hr e hee hb
   unfold more;rw[this];rfl
  ·rw[fm hki]at hk
   have:=hI.down k ok hok hk e hee hb
   unfold more;rw[this];rfl
end
end Sx
open Go Go.RowKit Go.Lib Go.Sort
namespace Sx
section
variable{P:Program}{H:List (Nat×Hint)}{n:Nat}{w0:aU}{ds:List Deferred}{l:List Oper}{es:List jd}{st:St}{L:Nat→Bool}{β:Env}{a:Act}{w:World}{i:Nat}{o:Oper}{en:jd}{Q:Exit→Act→World→Prop}
theorem A9{ops:Array Oper}{fr:List (Nat×SV)}{b:Bool}(hget:∀t∈o.looksAt ops,∀sv,look fr t=some sv→a.tmps[t]?=some (sv.den β))(hg:guardOf ops fr o=some b):Region.wanted o (yielded ops a.tmps)=b:=by
 unfold guardOf at hg
 unfold Region.wanted
 split at hg
 ·rename_i hn;rw[hn];simpa using hg
 ·rename_i j b' hn
  rw[hn]
  split at hg
  ·cases hg
  ·rename_i oj hoj
   split at hg
   ·cases hg
   ·rename_i t ht
    split at hg
    ·rename_i v hc
     have:=hget t (by unfold Oper.looksAt;rw[hn];simp[hoj,ht]) _ hc
     simp only[yielded,hoj,Option.bind_some,ht,this,SV.den]
     split at hg
     ·rename_i c
      have hb:(c==b')=b:=Option.some.inj hg
      rw[←hb]
      cases c<;>cases b'<;>rfl
     ·rename_i hnb
      have hb:false=b:=Option.some.inj hg
      rw[←hb]
      cases v<;>first|rfl|exact absurd rfl (hnb _)
    ·cases hg
theorem BY(hI:ig ds w0 n l es st L β a w)(ho:l[i]?=some o)(he:es[i]?=some en)(hB:∀k o en,l[k]?=some o→es[k]?=some en→Ck l es n k o en)(hlen:es.length=l.length)
  {D:List Nat} (hE:∀k o en,l[k]?=some o→es[k]?=some en→v8 P H w0 l.toArray D k (cy n st l es k) o en) (hL:L i=false) (hLD:∀d∈D,L d=false) (hP:∀chain a w',a.defers=ds→w0.PP chain w'→ai w0.S w0.w w'→Q (.panic chain) a w') (hr:∀e∈o.after,Region.binds .any e=true→L e.on=true) {K:Act→World→Prop}
  (hT:(∃m∈D,l.length≤m)→i∈D→wpOp P l.toArray Q i K a w) (hK:i∉D→∀β' a' w',ig ds w0 n l es st (more L i) β' a' w'→K a' w'):wpOp P l.toArray Q i K a w:=by
 have hil:i < l.length:=(List.getElem?_eq_some_iff.1 ho).1
 have hb:=hB i o en ho he
 have hent:=hE i o en ho he
 have hlook:=EP (st:=st) hlen hB i (by omega)
 have hrows:=IE (P:=P) (H:=H) (w0:=w0) (ops:=l.toArray) (st:=st) hlen hB hE i (by omega)
 have hlk:∀t∈o.looksAt l.toArray,look (cy n st l es i).fr t=kz l st es L t:=fun t ht=>by
  rw[hlook]
  refine nF fun k hk=>(lT hI ho hL hr ?_).symm
  have:=hb.looks t ht
  rw[hk]at this
  exact this
 have htmp:∀t,Operand.tmp t∈o.op.operands→t∈o.looksAt l.toArray:=fun t ht=>by
  unfold Oper.looksAt
  exact List.mem_append_left _ (List.mem_filterMap.2 ⟨.tmp t,by simpa using ht,rfl⟩)
 have hev:∀x∈o.op.operands,∀sv,ev (cy n st l es i).fr x=some sv→a.eval x=sv.den β∧sv.on (fun b=>∃r,b8 st es L b=some r):=by
  intro x hx sv hsv
  cases x with
  |tmp t=>
   have h1:kz l st es L t=some sv:=by rw[←hlk t (htmp t hx)];exact hsv
   exact⟨by have:=hI.get t sv h1;simp[Act.eval,this],hI.wj t sv h1⟩
  |const v=>simp only[ev,Option.some.injEq]at hsv;subst hsv;exact⟨rfl,trivial⟩
  |global g=>simp only[ev,Option.some.injEq]at hsv;subst hsv;exact⟨rfl,trivial⟩
  |func f=>simp only[ev,Option.some.injEq]at hsv;subst hsv;exact⟨rfl,trivial⟩
 have hw:∀{b},guardOf l.toArray (cy n st l es i).fr o=some b→Region.wanted o (yielded l.toArray a.tmps)=b:=fun hg=>
  A9 (β:=β) (fun t ht sv hsv=>hI.get t sv (by rw[←hlk t ht];exact hsv)) hg
 unfold wpOp
 have hio:l.toArray[i]?=some o:=by simpa using ho
 simp only[hio]
 have hrow':∀see:List Nat,en.Ij=see→∀b r,b∈see→rowAt (cy n st l es i).mem b=some r→b8 st es L b=some r:=by
  intro see htc b r ht hrb
  have hset:=hb.Ij b (by rw[htc];exact ht)
  have:(cy n st l es i).mem[b]?=some r:=hrb
  rw[hrows]at this
  rw[←this]
  refine py (fun k hk=>lT hI ho hL hr ?_) (fun k hk=>lT hI ho hL hr ?_)
  ·have:=hset.1
   rw[hk]at this
   exact this
  ·have:=hset.2
   rw[hk]at this
   exact this
 have hsee:∀see:List Nat,en.Ij=see→eF w0 β w (rowAt (cy n st l es i).mem) see:=fun see htc=>
  ⟨hI.aG,fun b hb r hr=>hI.b9 b r (hrow' see htc b r hb hr),fun b hb r k hr hk=>hI.new b r k (hrow' see htc b r hb hr) hk,fun b hb c hc r r' k hr hr' hk hk'=>hI.inj b c r r' k (hrow' see htc b r hb hr) (hrow' see htc c r' hc hr') hk hk'⟩
 have hgev:=Fb (P:=P) (H:=H) (β:=β) (W:=w) (a:=a) (o:=o) (e:=ev (cy n st l es i).fr) (fun x hx sv hsv=>(hev x hx sv hsv).1)
 have hgon:=Fa (P:=P) (H:=H) (o:=o) (e:=ev (cy n st l es i).fr) (Q:=fun b=>∃r,b8 st es L b=some r) (fun x hx sv hsv=>(hev x hx sv hsv).2)
 rcases hent with⟨hnD,hent⟩ | ⟨hiD,_,_,hdead⟩
 rotate_left
 ·rcases hdead with⟨e,hee,hbe,heD⟩ | ⟨hg,f,args,g,q,hres,hgok,hphi,hq,hfact,htch⟩ | ⟨m,hm,hle⟩
  rotate_right
  ·have:=hT ⟨m,hm,by simpa using hle⟩ hiD
   unfold wpOp at this
   simpa only[hio]using this
  ·have:=hr e hee hbe
   rw[hLD _ heD]at this
   cases this
  ·rw[hw hg,if_pos rfl]
   refine .inl ?_
   rw[hres]at hgev
   unfold Oper.wp
   rw[show(execOp a.eval o).run P w=_ from hgev]
   refine(hfact w β (hsee g.see htch)).mono fun e w' hp=>?_
   rcases hp with⟨hphi',_⟩ | ⟨_,chain,rfl,hpp,hc⟩
   ·exact(hq (hphi' q hphi)).elim
   ·exact hP chain a w' hI.dn hpp (hI.aG.seq hc ((hsee g.see htch).ec hgok))
 have hK:=hK hnD
 rcases hent with⟨hg,rfl⟩ | ⟨hg,hent⟩
 ·rw[hw hg,if_neg (by decide)]
  exact hK _ _ _ (hI.jy ho he hb hr (ai.refl _ _) rfl rfl trivial)
 ·rw[hw hg,if_pos rfl]
  refine .inl ?_
  have hrow:en.Ij=ax (ev (cy n st l es i).fr) o→∀b r,b∈ax (ev (cy n st l es i).fr) o→rowAt (cy n st l es i).mem b=some r→b8 st es L b=some r:=hrow' _
  have hok:=fun htc=>Jf (P:=P) (w0:=w0) (H:=H) (β:=β) (W:=w) (a:=a) (o:=o) (e:=ev (cy n st l es i).fr) (row:=rowAt (cy n st l es i).mem) (hn:=hint H o.dst) hI.aG (fun x hx sv hsv=>(hev x hx sv hsv).1) (fun b r ht hrb=>hI.b9 b r (hrow htc b r ht hrb))
  have hon:=fun htc=>OT (P:=P) (w0:=w0) (H:=H) (o:=o) (e:=ev (cy n st l es i).fr) (row:=rowAt (cy n st l es i).mem) (hn:=hint H o.dst) (Q:=fun b=>∃r,b8 st es L b=some r) (fun x hx sv hsv=>(hev x hx sv hsv).2) (fun b r ht hrb=>hI.wg b r (hrow htc b r ht hrb))
  have hwr:∀row',en.nw=some ((cy n st l es i).mem.length,row')→∀s,idxOf (mB (cy n st l es i).mem.length) es=some s→L s=false:=fun row' hn s hs=>by
   have hnw:=hb.nw _ _ hn
   obtain⟨ens,r',hes,hwr⟩:=OF hs
   have hsl:s < l.length:=by rw[←hlen];exact(List.getElem?_eq_some_iff.1 hes).1
   have hbs:=hB s _ ens (List.getElem?_eq_getElem hsl) hes
   have htc:=(Fj (hE s _ ens (List.getElem?_eq_getElem hsl) hes) hwr).2
   have hset:=(hbs.Ij _ htc).1
   rw[hnw.1]at hset
   have hlt:=hnw.2 s hs
   have hset:mS l s i=true:=hset
   unfold mS at hset
   rw[show Nat.blt i s=true from Nat.ble_eq_true_of_le hlt]at hset
   obtain⟨os,hos,e,hee,hbi,hon⟩:=oT hset
   cases hLs:L s with
   |false=>rfl
   |true=>
    have:=hI.down s os hos hLs e hee hbi
    rw[hon,hL]at this
    cases this
  have hnone:∀row',en.nw=some ((cy n st l es i).mem.length,row')→b8 st es L (cy n st l es i).mem.length=none:=fun row' hn=>by
   have hnw:=hb.nw _ _ hn
   unfold b8
   have hbase:nG st es L (cy n st l es i).mem.length=none:=by
    unfold nG
    simp only[hnw.1,hL,Bool.false_eq_true,if_false]
   split
   ·exact hbase
   ·rename_i s hs
    rw[if_neg (by rw[hwr row' hn s hs];decide)]
    exact hbase
  unfold Oper.wp
  split at hent
  ·rename_i sv hres
   subst hent
   rw[hres]at hgev hgon
   rw[show(execOp a.eval o).run P w=_ from hgev]
   exact hK _ _ _ (hI.jy ho he hb hr (ai.refl _ _) rfl rfl hgon)
  ·rename_i f args g hres
   obtain⟨p,hp,hgok,hfact,hphi,hent⟩:=hent
   obtain⟨hkill,hnew,hret,hupd⟩:=vp hp
   rw[hres]at hgev
   rw[show(execOp a.eval o).run P w=_ from hgev]
   have hsg:=hsee g.see (by rw[hent])
   refine(hfact w β hsg).mono fun e w' hpost=>?_
   rcases hpost with⟨_,β',hgr⟩ | ⟨_,chain,rfl,hpp,hc⟩
   ·have he1:e=.returned p.1:=by rw[hgr.ret,hret];rfl
    subst he1
    rcases hupd with⟨hu,hp2⟩ | ⟨q,hu,hp2,hpl⟩
    ·have hc:ai [] w w':=by
      have:=hgr.aG
      unfold cC.ec at this
      rw[hkill,hu]at this
      exact this
     have:=hI.jy ho he hb hr hc (by rw[hent]) (by rw[hent];exact hp2) (by rw[hent];trivial)
     rw[show en.sv.den β=p.1 by rw[hent];rfl]at this
     exact hK _ _ _ this
    ·obtain⟨⟨r0,h0,hf0⟩,hf,hqs⟩:=yQ hgok (q:=q) (by rw[hu];simp)
     have h0':=hrow' g.see (by rw[hent]) q.1 r0 hqs h0
     have hlt:q.1 < (cy n st l es i).mem.length:=(List.getElem?_eq_some_iff.1 h0).1
     have hheld:=hgr.gk q (by rw[hu];simp)
     have same':β'.same β (· < (cy n st l es i).mem.length):=fun k hk=>by
      obtain⟨e1,e2,e3,e4⟩:=hgr.same k hk
      exact⟨e1.symm,e2.symm,e3.symm,e4.symm⟩
     have hheld:=aX.congr same' hlt (Al hpl) hheld
     have hc:=hgr.aG
     unfold cC.ec at hc
     rw[hkill,hu]at hc
     simp only[List.map_cons,List.map_nil,List.append_nil,List.filterMap_cons,List.filterMap_nil]at hc
     have hb0:cE β (rowAt (cy n st l es i).mem) q.1=av β q.1 r0:=by unfold cE;rw[show rowAt (cy n st l es i).mem q.1=some r0 from h0]
     rw[hb0,aH hf0]at hc
     have:=hI.lX ho he hb hr (m:=q.1) (r0:=r0) (r1:=q.2) (u0:=p.1) (by rw[hent]) (by rw[hent];exact hp2) (by rw[hent]) h0' (by rw[aH hf,aH hf0]) hheld (by rw[aH hf0];exact hc) (Al hpl)
     exact hK _ _ _ this
   ·exact hP chain a w' hI.dn hpp (hI.aG.seq hc (hsg.ec hgok))
  ·exact hent.elim
  ·exact hent.elim
  split at hent
  ·rename_i sv ob hres
   obtain⟨hob,rfl⟩:=hent
   have hok:=hok rfl
   have hon:=hon rfl
   rw[hres]at hok hon
   rw[hok hob]
   exact hK _ _ _ (hI.jy ho he hb hr (ai.refl _ _) rfl rfl hon)
  ·rename_i f args v hres
   obtain⟨hc,rfl⟩:=hent
   have hok:=hok rfl
   rw[hres]at hok
   rw[show(execOp a.eval o).run P w=_ from hok]
   refine(hc w hI.aG).mono fun e w' ⟨hev,hch⟩=>?_
   subst hev
   exact hK _ _ _ (hI.jy ho he hb hr hch rfl rfl trivial)
  ·rename_i t cs ln hres
   obtain⟨hf,hft⟩:=sI hres
   have hok:=hok (by rw[hent])
   have hon:=hon (by rw[hent])
   rw[hres]at hok hon
   rw[show(execOp a.eval o).run P w=_ from hok]
   have hn:en.nw=some ((cy n st l es i).mem.length,⟨t,cs⟩):=by rw[hent]
   exact hK _ _ _ (hI.CZ ho he hb hr hf hft hn (by rw[hent]) (by rw[hent]) (hnone _ hn) (hwr _ hn) hon)
  ·rename_i m r ob hres
   obtain⟨hob,hent⟩:=hent
   have hok:=hok (by rw[hent])
   have hon:=hon (by rw[hent])
   rw[hres]at hok hon
   obtain⟨w',hrun,hbk,hch⟩:=hok hob
   rw[hrun]
   obtain⟨htt,hf,r0,hr0,hf0,htg⟩:=mM hres
   exact hK _ _ _ (hI.lX ho he hb hr (by rw[hent]) (by rw[hent]) (by rw[hent]) (hrow (by rw[hent]) m r0 htt hr0) (by rw[aH hf,aH hf0]) (aX.nr hbk hf (fun g hg=>(hI.b9 m r0 (hrow (by rw[hent]) m r0 htt hr0)).tag g (by rw[←htg];exact hg))) (by rw[aH hf0];exact hch) hon.2)
  ·rename_i m r ob hres
   obtain⟨hob,hent⟩:=hent
   have hok:=hok (by rw[hent])
   have hon:=hon (by rw[hent])
   rw[hres]at hok hon
   obtain⟨w',hrun,hbk,hch⟩:=hok hob
   rw[hrun]
   obtain⟨htt,r0,hr0,hbb⟩:=lR hres
   rw[hbb β]at hch
   exact hK _ _ _ (hI.lX ho he hb hr (by rw[hent]) (by rw[hent]) (by rw[hent]) (hrow (by rw[hent]) m r0 htt hr0) (hbb β) hbk hch hon.2)
  ·rename_i kill t size nn xs ob hres
   obtain⟨hob,hent⟩:=hent
   have htc:=fun j (hj:kill=some j)=>pv (P:=P) (o:=o) (i:=j) (hj ▸ hres)
   have hok:=hok (by rw[hent])
   rw[hres]at hok
   obtain⟨A,cc,w',S,hrun,hown,hch,hS,hA⟩:=hok hob
   rw[hrun]
   have hn:en.nw=some ((cy n st l es i).mem.length,⟨t,.own size nn xs⟩):=by rw[hent]
   have:=hI.ru ho he hb hr hn (kill:=kill) (by rw[hent]) (hnone _ hn) (hwr _ hn) hown hch (fun k hk=>by
    obtain⟨j,hj,hbk⟩:=hS k hk
    obtain⟨htj,r,h0,s,m,ys,hcs⟩:=htc j hj
    exact⟨j,r,hj,hrow (by rw[hent]) j r htj h0,by unfold av;rw[hcs];exact hbk⟩) hA (by rw[hent];rfl)
   rw[show en.sv.den (β.iz (cy n st l es i).mem.length A nn cc)=.slice A nn cc by rw[hent];exact lM]at this
   exact hK _ _ _ this
  ·rename_i f args r hres
   obtain⟨hcl,hent⟩:=hent
   have htc:=BO hres
   have hok:=hok (by rw[hent])
   rw[hres]at hok
   rw[show(execOp a.eval o).run P w=_ from hok]
   have hcall:=fg (β:=β) (hcl w hI.aG) (fun j sv hj hat r' hr'=>hI.b9 j r' (hrow (by rw[hent]) j r' (htc j sv hj hat) hr'))
   refine hcall.mono fun e w' hp=>?_
   rcases IN hp with⟨v,rfl,rfl,hc⟩ | ⟨T,size,nn,xs,A,cc,hrr,hown,hc,hA,hsv⟩
   ·have:=hI.jy ho he hb hr hc (by rw[hent];rfl) (by rw[hent]) (by rw[hent];trivial)
    rw[show en.sv.den β=v by rw[hent];rfl]at this
    exact hK _ _ _ this
   ·obtain⟨hev',hon'⟩:=hsv β (cy n st l es i).mem.length
    subst hev'
    have hn:en.nw=some ((cy n st l es i).mem.length,⟨T,.own size nn xs⟩):=by rw[hent];simp only[hrr,Option.map_some]
    have:=hI.ru ho he hb hr hn (kill:=none) (by rw[hent];rfl) (hnone _ hn) (hwr _ hn) hown hc (by simp) (fun k hk=>.inr (hA k hk)) (by rw[hent];exact hon')
    rw[show en.sv=ik (cy n st l es i).mem.length r by rw[hent]]at this
    exact hK _ _ _ this
  ·rename_i f j r hres
   obtain⟨hcl,hent⟩:=hent
   have htj:=(sH hres).1
   have hok:=hok (by rw[hent])
   rw[hres]at hok
   rw[show(execOp a.eval o).run P w=_ from hok]
   have hcall:=FC (β:=β) (hcl w hI.aG) (fun r' hr'=>hI.b9 j r' (hrow (by rw[hent]) j r' htj hr'))
   obtain⟨r0,h0,s0,m0,y0,hc0⟩:=vV (hcl w hI.aG)
   refine hcall.mono fun e w' hp=>?_
   obtain⟨T,size,nn,xs,A,cc,hrr,hown,hc,hA,hsv⟩:=Ep hp
   obtain⟨hev',hon'⟩:=hsv β (cy n st l es i).mem.length
   subst hev'
   rw[zS]at hc hA
   have hn:en.nw=some ((cy n st l es i).mem.length,⟨T,.own size nn xs⟩):=by rw[hent];simp only[hrr,Option.map_some]
   have:=hI.ru ho he hb hr hn (kill:=some j) (by rw[hent];rfl) (hnone _ hn) (hwr _ hn) hown hc (fun k hk=>⟨j,r0,rfl,hrow (by rw[hent]) j r0 htj h0,by unfold av;rw[hc0];simpa using hk⟩) (fun k hk=>(hA k hk).imp (fun h=>by simpa using h) id) (by rw[hent];exact hon')
   rw[show en.sv=ik (cy n st l es i).mem.length r by rw[hent]]at this
   exact hK _ _ _ this
  ·rename_i f args x hres
   obtain⟨hx1,hx2,_⟩:=pC hres
   cases x with
   |gk p m row v=>
    obtain⟨hcl,hent⟩:=hent
    obtain⟨hpi,htt,r0,h0,hty,hf0,hf,htg⟩:=hx2 p m row v rfl
    have hok:=hok (by rw[hent])
    have hon:=hon (by rw[hent])
    rw[hres]at hok hon
    rw[show(execOp a.eval o).run P w=_ from hok]
    have hr0:=hrow (by rw[hent]) m r0 htt h0
    have hcall:=fg (β:=β) (hcl w hI.aG) (fun j sv hj hat r' hr'=>hI.b9 j r' (hrow (by rw[hent]) j r' (hx1 j sv hj hat) hr'))
    refine hcall.mono fun e w' hp=>?_
    obtain⟨g,l,hg,hl,rfl,hb',hc⟩:=hp
    rw[List.getElem?_map,hpi]at hg
    have hgi:β m=g:=by simpa[SV.den]using hg
    have hden:row.cs.den β=l:=by
     unfold Cells.list at hl
     split at hl<;>first | (cases hl;done) | (rename_i hcs;cases hl;rw[hcs];rfl)
    rw[←hgi]at hb' hc
    have hheld:aX β w' m row:=aX.nr (by rw[hden];exact hb') hf (fun g hg=>(hI.b9 m r0 hr0).tag g (by rw[←htg];exact hg))
    exact hK _ _ _ (hI.lX ho he hb hr (by rw[hent]) (by rw[hent]) (by rw[hent]) hr0 (by rw[aH hf,aH hf0]) hheld (by rw[aH hf0];exact hc) hon.2)
   |Ex ps=>exact hent.elim
  ·exact hent.elim
theorem fK{listed:Array Bool}(h:i < listed.size):more (fun k=>listed.getD k false) i=fun k=>(listed.setIfInBounds i true).getD k false:=by
 funext k
 by_cases hk:k=i
 ·subst hk
  rw[jz]
  simp[h]
 ·rw[fm hk,getD_set_ne false (Ne.symm hk)]
theorem QL(hB:∀k o en,l[k]?=some o→es[k]?=some en→Ck l es n k o en)(hlen:es.length=l.length)
  {D:List Nat} (hE:∀k o en,l[k]?=some o→es[k]?=some en→v8 P H w0 l.toArray D k (cy n st l es k) o en)
  (hDl:∀d∈D,d < l.length) (hP:∀chain a w',a.defers=ds→w0.PP chain w'→ai w0.S w0.w w'→Q (.panic chain) a w')
  (hQ:D=[]→∀L β a w,ig ds w0 n l es st L β a w→(∀k,k < l.length→L k=true)→Q .normal a w) :
  ∀(fuel:Nat) (listed:Array Bool) (β:Env) (a:Act) (w:World),listed.size=l.length→listed.toList.count true+fuel=l.length→(∀d∈D,listed.getD d false=false)→ig ds w0 n l es st (fun k=>listed.getD k false) β a w→wpAny P .any l.toArray Q fuel listed a w:=by
 have done:∀(listed:Array Bool),listed.size=l.length→Region.ready .any l.toArray listed=[]→∀k,k < l.length→listed.getD k false=true:=by
  intro listed hsz hnil k
  induction k using Nat.strongRecOn with
  |_ k ih=>
   intro hk
   cases hLk:listed.getD k false with
   |true=>rfl
   |false=>
    exfalso
    obtain⟨o,ho⟩:∃o,l[k]?=some o:=⟨_,List.getElem?_eq_getElem hk⟩
    obtain⟨en,he⟩:∃en,es[k]?=some en:=⟨_,List.getElem?_eq_getElem (by omega)⟩
    have hmem:k∈Region.ready .any l.toArray listed:=by
     rw[mem_ready]
     refine⟨?_,o,by simpa using ho,fun e hee hb=>?_⟩
     ·have hk':k < listed.size:=by omega
      simp only[Array.getD_eq_getD_getElem?,Array.getElem?_eq_getElem hk',Option.getD_some]at hLk ⊢
      exact hLk
     ·have hlt:=(hB k o en ho he).down e hee hb
      exact ih e.on hlt (by omega)
    rw[hnil]at hmem
    cases hmem
 intro fuel
 induction fuel with
 |zero=>
  intro listed β a w hsz hcnt hLD hI
  have hall:∀k,k < l.length→listed.getD k false=true:=by
   have hc:listed.toList.count true=listed.toList.length:=by simp at hcnt ⊢;omega
   have:=List.count_eq_length.1 hc
   intro k hk
   have hk':k < listed.size:=by omega
   have h1:=this listed[k] (by simp)
   simp[hk',←h1]
  have noD:D=[]:=List.eq_nil_iff_forall_not_mem.2 fun d hd=>by
   have:=hall d (hDl d hd)
   rw[hLD d hd]at this
   cases this
  refine⟨?_,hQ noD _ β a w hI hall⟩
  cases hr:Region.ready .any l.toArray listed with
  |nil=>rfl
  |cons x r=>
   exfalso
   have hx:x∈Region.ready .any l.toArray listed:=by rw[hr];simp
   obtain⟨h0,o,ho,_⟩:=mem_ready.1 hx
   have hxl:x < l.length:=by
    have:=(List.getElem?_eq_some_iff.1 (show l[x]?=some o by simpa using ho)).1
    exact this
   have:=hall x hxl
   have hk':x < listed.size:=by omega
   simp only[Array.getD_eq_getD_getElem?,Array.getElem?_eq_getElem hk',Option.getD_some]at h0 this
   rw[h0]at this
   cases this
 |succ fuel ih=>
  intro listed β a w hsz hcnt hLD hI
  refine⟨fun hnil=>hQ (List.eq_nil_iff_forall_not_mem.2 fun d hd=>by
   have:=done listed hsz hnil d (hDl d hd)
   rw[hLD d hd]at this
   cases this) _ β a w hI (done listed hsz hnil),fun i hi=>?_⟩
  obtain⟨h0,o,ho,hall⟩:=mem_ready.1 hi
  have ho':l[i]?=some o:=by simpa using ho
  have hil:i < l.length:=(List.getElem?_eq_some_iff.1 ho').1
  have hk':i < listed.size:=by omega
  obtain⟨en,he⟩:∃en,es[i]?=some en:=⟨_,List.getElem?_eq_getElem (by omega)⟩
  have hLi:listed[i]=false:=by simpa[hk']using h0
  refine BY hI ho' he hB hlen hE (by simp[hk',hLi]) hLD hP (fun e hee hb=>hall e (by simpa using hee) hb) (fun⟨m,hm,hle⟩ _=>absurd (hDl m hm) (by omega)) fun hiD β' a' w' hI'=>?_
  have hLD':∀d∈D,(listed.setIfInBounds i true).getD d false=false:=fun d hd=>by
   have hne:d≠i:=fun h=>hiD (h ▸ hd)
   rw[←congrFun (fK hk') d,fm hne]
   exact hLD d hd
  rw[fK hk']at hI'
  refine ih _ β' a' w' (by simpa using hsz) ?_ hLD' hI'
  have hcs:(listed.setIfInBounds i true).toList.count true=listed.toList.count true+1:=by
   rw[Array.toList_setIfInBounds,List.count_set (by simpa using hk')]
   have:listed.toList[i]'(by simpa using hk')=false:=by simpa using hLi
   simp[this]
  omega
theorem ig.start(h:Hd ds w0 n β st a w)(hfresh:∀b k:Nat,idxOf (jl b) es=some k→st.mem[b]?=none):ig ds w0 n l es st (fun _=>false) β a w:=by
 have row:∀b,b8 st es (fun _=>false) b=st.mem[b]?:=fun b=>xH (hfresh b)
 have lt:∀b,b < st.mem.length→∃r,b8 st es (fun _=>false) b=some r:=fun b hb=>⟨_,by rw[row];exact List.getElem?_eq_getElem hb⟩
 refine⟨h.size,h.dn,fun t sv ht=>h.get t sv (by rw[←ht,pz]),fun b r hb=>h.b9 b r (by rw[←hb,row]),fun b r k hb hk=>h.new b r k (by rw[←hb,row]) hk,fun b c r r' k hb hc hk hk'=>h.inj b c r r' k (by rw[←hb,row]) (by rw[←hc,row]) hk hk',h.aG,fun t sv ht=>?_,fun b r hb=>?_,fun k o ho hk=>by cases hk⟩
 ·rw[pz]at ht;exact SV.bc lt (h.wj t sv ht)
 ·rw[row]at hb;exact Cells.bc lt (h.wg b r hb)
theorem ig.O4(hI:ig ds w0 n l es st L β a w){m:Nat}(hm:m≤l.length)(hL:∀k,k < l.length→L k=yC m k)(hB:∀k o en,l[k]?=some o→es[k]?=some en→Ck l es n k o en)(hlen:es.length=l.length)
  {D:List Nat} (hE:∀k o en,l[k]?=some o→es[k]?=some en→v8 P H w0 l.toArray D k (cy n st l es k) o en):Hd ds w0 n β (cy n st l es m) a w:=by
 have hlook:∀t,look (cy n st l es m).fr t=kz l st es L t:=fun t=>by
  rw[EP (st:=st) hlen hB m hm]
  refine nF fun k hk=>?_
  obtain⟨o,ho,_⟩:=gG hk
  have hkl:=(List.getElem?_eq_some_iff.1 ho).1
  rw[hL k hkl]
 have hrow:∀b:Nat,(cy n st l es m).mem[b]?=b8 st es L b:=fun b=>by
  rw[IE (P:=P) (H:=H) (w0:=w0) (ops:=l.toArray) (st:=st) hlen hB hE m hm]
  refine py (fun k hk=>?_) (fun k hk=>?_)
  ·obtain⟨o,ho,_⟩:=gG hk
   have hkl:=(List.getElem?_eq_some_iff.1 ho).1
   rw[hlen]at hkl
   rw[hL k hkl]
  ·obtain⟨o,ho,_⟩:=gG hk
   have hkl:=(List.getElem?_eq_some_iff.1 ho).1
   rw[hlen]at hkl
   rw[hL k hkl]
 have ex:∀b:Nat,b < (cy n st l es m).mem.length→∃r,b8 st es L b=some r:=fun b hb=>⟨_,by rw[←hrow];exact List.getElem?_eq_getElem hb⟩
 have back:∀b:Nat,(∃r,b8 st es L b=some r)→b < (cy n st l es m).mem.length:=fun b ⟨r,h⟩=>by rw[←hrow]at h;exact(List.getElem?_eq_some_iff.1 h).1
 refine⟨hI.size,hI.dn,fun t sv ht=>hI.get t sv (by rw[←hlook];exact ht),fun b r hb=>hI.b9 b r (by rw[←hrow];exact hb),fun b r k hb hk=>hI.new b r k (by rw[←hrow];exact hb) hk,fun b c r r' k hb hc hk hk'=>hI.inj b c r r' k (by rw[←hrow];exact hb) (by rw[←hrow];exact hc) hk hk',hI.aG,fun t sv ht=>?_,fun b r hb=>?_⟩
 ·rw[hlook]at ht;exact SV.bc back (hI.wj t sv ht)
 ·rw[hrow]at hb;exact Cells.bc back (hI.wg b r hb)
theorem ig.fin(hI:ig ds w0 n l es st L β a w)(hL:∀k,k < l.length→L k=true)(hB:∀k o en,l[k]?=some o→es[k]?=some en→Ck l es n k o en)(hlen:es.length=l.length)
  {D:List Nat} (hE:∀k o en,l[k]?=some o→es[k]?=some en→v8 P H w0 l.toArray D k (cy n st l es k) o en):Hd ds w0 n β (cy n st l es l.length) a w:=
 hI.O4 (Nat.le_refl _) (fun k hk=>by rw[hL k hk];simp[yC,hk]) hB hlen hE
def Fi(P:Program)(H:List (Nat×Hint))(n:Nat)(w0:aU)(l:List Oper)(st:St)(K:St→Prop):Prop:=
 gv P H n w0 l.toArray l 0 st [] [] fun es st' D=>match B7 l es n 0 l es with
  |true=>match D with
   | []=>K st'
   |_=>True
  |false=>cF l
theorem Dv{id:Nat}{K:St→Prop}(hm:P.follows .mixedOrders=true)(h:Hd ds w0 n β st a w)(hx:Fi P H n w0 l st K)(hP:∀chain a w',a.defers=ds→w0.PP chain w'→ai w0.S w0.w w'→Q (.panic chain) a w')(hK:∀β' st' a' w',K st'→Hd ds w0 n β' st' a' w'→Q .normal a' w'):(Code.region id l.toArray true).wp P Q a w:=by
 obtain⟨es,st',D,hlex,hk⟩:=yF _ _ _ _ _ _ hx
 rw[List.nil_append]at hk
 obtain⟨hlen,hE,hst⟩:=uX hlex (by simp)
 have hE:∀k o en,l[k]?=some o→es[k]?=some en→v8 P H w0 l.toArray D k (cy n st l es k) o en:=fun k o en ho he=>by
  have:=hE k o en ho he
  rwa [Nat.zero_add]at this
 have hDl:∀d∈D,d < l.length:=fun d hd=>by simpa using lex_lt hlex (by simp) d hd
 split at hk
 ·rename_i hb
  have hB:∀k o en,l[k]?=some o→es[k]?=some en→Ck l es n k o en:=fun k o en ho he=>by
   have:=pG hb k o en ho he
   rw[Nat.zero_add]at this
   exact An this
  refine wp_region_any hm ?_
  have hI:ig ds w0 n l es st (fun _=>false) β a { w with drawn:=w.drawn+1 }:=ig.start (h.later (ai.refl [] w).drew) fun b k hk'=>by
   obtain⟨en,r,he,hr⟩:=fJ hk'
   have hkl:k < l.length:=by rw[←hlen];exact(List.getElem?_eq_some_iff.1 he).1
   have hbl:=tk (hE k _ en (List.getElem?_eq_getElem hkl) he) hr
   have:=yB (n:=n) (st:=st) hlen k (by omega)
   exact List.getElem?_eq_none (by omega)
  have hrep:(fun k=>(Array.replicate l.length false).getD k false)=fun _:Nat=>false:=by
   funext k
   simp only[Array.getD_eq_getD_getElem?,Array.getElem?_replicate]
   split<;>rfl
  have:=QL (P:=P) (H:=H) (w0:=w0) (n:=n) (st:=st) (Q:=Q) hB hlen hE hDl hP (fun hDn L β' a' w' hI' hL=>hK β' st' a' w' (by subst hDn;exact hk) (by rw[←hst];exact hI'.fin hL hB hlen hE)) l.length (Array.replicate l.length false) β a { w with drawn:=w.drawn+1 } (by simp) (by simp[List.count_replicate]) (fun d _=>congrFun hrep d) (by rw[hrep];exact hI)
  simpa using this
 ·exact nomatch hk
def sinkB(l:List Oper):Bool:=fj (fun k=>(l.drop (k+1)).any fun o=>o.after.toList.any fun e=>Region.binds .any e&&Nat.beq e.on k) (List.range (l.length - 1))
def OL(H:List (Nat×Hint))(l:List Oper):Option Oper:=match l.getLast? with
 |some o=>match hint H o.dst with
  |some (.aq g)=>match xx g with
   |none=>some o
   |some _=>none
  |_=>none
 |none=>none
def Fh(P:Program)(H:List (Nat×Hint))(n:Nat)(w0:aU)(l:List Oper)(o:Oper)(st:St)(K:St→Prop):Prop:=
 gv P H n w0 l.toArray l.dropLast 0 st [] [] fun es st' D=>match B7 l (es++[kr []]) n 0 l (es++[kr []])&&sinkB l with
  |true=>match D with
   | []=>sF P H n w0 l.toArray [o] st' K
   |_=>cF l
  |false=>cF l
def Dw(P:Program)(H:List (Nat×Hint))(n:Nat)(w0:aU)(l:List Oper)(st:St)(K:St→Prop):Prop:=match OL H l with
 |some o=>Fh P H n w0 l o st K
 |none=>Fi P H n w0 l st K
theorem tR:∀{l:List Oper} {es:List jd} {st:St} {k:Nat} (l2:List Oper) (es2:List jd),es.length=l.length→k≤l.length→cy n st (l++l2) (es++es2) k=cy n st l es k
 |l,es,st,0,l2,es2,_,_=>by rw[iF,iF]
 |o::l,en::es,st,k+1,l2,es2,hl,hk=>by
  show cy n (cV n st o en) (l++l2) (es++es2) k=cy n (cV n st o en) l es k
  exact tR l2 es2 (by simpa using hl) (by simpa using hk)
 | [],_,_,k+1,_,_,_,hk=>by simp at hk
 |_::_,[],_,_,_,_,hl,_=>by simp at hl
theorem Ow{o:Oper}{N:Nat}(hB:∀k o en,l[k]?=some o→es[k]?=some en→Ck l es n k o en)(hlen:es.length=l.length)(hN:l.length=N+1)(hoN:l[N]?=some o)
  (hE:∀k o en,l[k]?=some o→es[k]?=some en→v8 P H w0 l.toArray [N,l.length] k (cy n st l es k) o en) (hsink:sinkB l=true)
  (hP:∀chain a w',a.defers=ds→w0.PP chain w'→ai w0.S w0.w w'→Q (.panic chain) a w')
  (hQ:∀β a w,Hd ds w0 n β (cy n st l es N) a w→wpList P l.toArray Q [o] a w) :
  ∀(fuel:Nat) (listed:Array Bool) (β:Env) (a:Act) (w:World),listed.size=l.length→listed.toList.count true+fuel=l.length→listed.getD N false=false→(∀k,listed.getD k false=true→∀o,l[k]?=some o→∀e∈o.after,Region.binds .any e=true→listed.getD e.on false=true)→
   ig ds w0 n l es st (fun k=>listed.getD k false) β a w→wpAny P .any l.toArray Q fuel listed a w:=by
 have inB:∀(listed:Array Bool) (k:Nat),listed.getD k false=true→k < listed.size:=fun listed k h=>by
  rcases Nat.lt_or_ge k listed.size with h1|h1
  ·exact h1
  ·rw[Array.getD_eq_getD_getElem?,Array.getElem?_eq_none h1]at h;cases h
 have done:∀(listed:Array Bool),listed.size=l.length→Region.ready .any l.toArray listed=[]→∀k,k < l.length→listed.getD k false=true:=by
  intro listed hsz hnil k
  induction k using Nat.strongRecOn with
  |_ k ih=>
   intro hk
   cases hLk:listed.getD k false with
   |true=>rfl
   |false=>
    exfalso
    obtain⟨o,ho⟩:∃o,l[k]?=some o:=⟨_,List.getElem?_eq_getElem hk⟩
    obtain⟨en,he⟩:∃en,es[k]?=some en:=⟨_,List.getElem?_eq_getElem (by omega)⟩
    have hmem:k∈Region.ready .any l.toArray listed:=by
     rw[mem_ready]
     refine⟨?_,o,by simpa using ho,fun e hee hb=>?_⟩
     ·have hk':k < listed.size:=by omega
      simp only[Array.getD_eq_getD_getElem?,Array.getElem?_eq_getElem hk',Option.getD_some]at hLk ⊢
      exact hLk
     ·have hlt:=(hB k o en ho he).down e hee hb
      exact ih e.on hlt (by omega)
    rw[hnil]at hmem
    cases hmem
 intro fuel
 induction fuel with
 |zero=>
  intro listed β a w hsz hcnt hLN _ hI
  exfalso
  have hc:listed.toList.count true=listed.toList.length:=by simp at hcnt ⊢;omega
  have:=List.count_eq_length.1 hc
  have hk':N < listed.size:=by omega
  have h1:=this listed[N] (by simp)
  simp[hk',←h1]at hLN
 |succ fuel ih=>
  intro listed β a w hsz hcnt hLN hcl hI
  refine⟨fun hnil=>absurd (done listed hsz hnil N (by omega)) (by rw[hLN];decide),fun i hi=>?_⟩
  obtain⟨h0,o',ho,hall⟩:=mem_ready.1 hi
  have ho':l[i]?=some o':=by simpa using ho
  have hil:i < l.length:=(List.getElem?_eq_some_iff.1 ho').1
  have hk':i < listed.size:=by omega
  obtain⟨en,he⟩:∃en,es[i]?=some en:=⟨_,List.getElem?_eq_getElem (by omega)⟩
  have hLi:listed[i]=false:=by simpa[hk']using h0
  have hLD:∀d∈[N,l.length],listed.getD d false=false:=fun d hd=>by
   rcases List.mem_cons.1 hd with rfl|hd
   ·exact hLN
   ·rw[List.mem_singleton.1 hd,Array.getD_eq_getD_getElem?,Array.getElem?_eq_none (by omega)];rfl
  refine BY hI ho' he hB hlen hE (by simp[hk',hLi]) hLD hP (fun e hee hb=>hall e (by simpa using hee) hb) (fun _ hiD=>?_) fun hiD β' a' w' hI'=>?_
  ·have hiN:i=N:=by
    rcases List.mem_cons.1 hiD with h|h
    ·exact h
    ·have:=List.mem_singleton.1 h;omega
   subst hiN
   rw[hoN]at ho'
   cases ho'
   have allL:∀m k,k+m=i→k < i→listed.getD k false=true:=by
    intro m
    induction m using Nat.strongRecOn with
    |_ m ihm=>
     intro k hkm hki
     have hs:=aT hsink k (List.mem_range.2 (by omega))
     obtain⟨oj,hoj,hej⟩:=List.any_eq_true.1 hs
     obtain⟨e,hee,hbb⟩:=List.any_eq_true.1 hej
     rw[Bool.and_eq_true]at hbb
     have hek:e.on=k:=Nat.eq_of_beq_eq_true hbb.2
     obtain⟨j,hj⟩:=List.mem_iff_getElem?.1 hoj
     rw[List.getElem?_drop]at hj
     have hjl:=(List.getElem?_eq_some_iff.1 hj).1
     by_cases hjN:k+1+j=i
     ·rw[hjN,hoN]at hj
      cases hj
      have:=hall e (by simpa using hee) hbb.1
      rw[hek]at this
      exact this
     ·have hl:=ihm (i - (k+1+j)) (by omega) (k+1+j) (by omega) (by omega)
      have:=hcl _ hl oj hj e (by simpa using hee) hbb.1
      rw[hek]at this
      exact this
   have hL:∀k,k < l.length→listed.getD k false=yC i k:=fun k hk=>by
    by_cases hki:k < i
    ·rw[allL (i - k) k (by omega) hki]; simp[yC,hki]
    ·have:k=i:=by omega
     subst this
     rw[hLN];simp[yC]
   have hH:=hI.O4 (by omega) hL hB hlen hE
   have hw:=hQ β a w hH
   have hfuel:fuel=0:=by
    have hcount:listed.toList.count true=i:=by
     have:listed.toList=List.replicate i true++[false]:=by
      refine List.ext_getElem? fun k=>?_
      by_cases hki:k < i
      ·rw[List.getElem?_append_left (by simpa using hki),List.getElem?_replicate,if_pos hki]
       have h1:=allL (i - k) k (by omega) hki
       have hks:k < listed.size:=by omega
       rw[Array.getD_eq_getD_getElem?,Array.getElem?_eq_getElem hks]at h1
       rw[Array.getElem?_toList,Array.getElem?_eq_getElem hks]
       simpa using h1
      ·by_cases hke:k=i
       ·subst hke
        rw[List.getElem?_append_right (by simp),Array.getElem?_toList,Array.getElem?_eq_getElem hk',hLi]
        simp
       ·rw[List.getElem?_eq_none (by simp;omega),List.getElem?_eq_none (by simp;omega)]
     rw[this]
     simp
    omega
   subst hfuel
   have hrdy:Region.ready .any l.toArray (listed.setIfInBounds i true)=[]:=by
    cases hr:Region.ready .any l.toArray (listed.setIfInBounds i true)with
    |nil=>rfl
    |cons x r=>
     exfalso
     have hx:x∈Region.ready .any l.toArray (listed.setIfInBounds i true):=by rw[hr];simp
     obtain⟨h0,o,ho,_⟩:=mem_ready.1 hx
     have hxl:x < l.length:=(List.getElem?_eq_some_iff.1 (show l[x]?=some o by simpa using ho)).1
     have hall2:(listed.setIfInBounds i true).getD x false=true:=by
      rw[←congrFun (fK hk') x]
      by_cases hxi:x=i
      ·rw[hxi,jz]
      ·rw[fm hxi,hL x hxl];simp[yC];omega
     have hxs:x < (listed.setIfInBounds i true).size:=by simp;omega
     rw[Array.getD_eq_getD_getElem?,Array.getElem?_eq_getElem hxs]at hall2
     rw[Array.getD_eq_getD_getElem?,Array.getElem?_eq_getElem hxs]at h0
     simp only[Option.getD_some]at hall2 h0
     rw[hall2]at h0
     cases h0
   unfold wpOp
   rw[show l.toArray[i]?=some o by simpa using hoN]
   simp only
   unfold wpList at hw
   split at hw
   ·rename_i hwt
    rw[if_pos hwt]
    rcases hw with hw|hw
    ·exact .inl (Oper.wp_mono (fun a' w' h=>⟨hrdy,by simpa[wpList]using h⟩) hw)
    ·exact .inr hw
   ·rename_i hwt
    rw[if_neg hwt]
    exact⟨hrdy,by simpa[wpList]using hw⟩
  ·have hLN':(listed.setIfInBounds i true).getD N false=false:=by
    have hne:N≠i:=fun h=>hiD (h ▸ by simp)
    rw[←congrFun (fK hk') N,fm hne]
    exact hLN
   have hcl':∀k,(listed.setIfInBounds i true).getD k false=true→∀o,l[k]?=some o→∀e∈o.after,Region.binds .any e=true→(listed.setIfInBounds i true).getD e.on false=true:=by
    intro k hk ok hok e hee hb
    rw[←congrFun (fK hk') k]at hk
    rw[←congrFun (fK hk') e.on]
    have up:listed.getD e.on false=true→more (fun k=>listed.getD k false) i e.on=true:=fun h=>by
     by_cases hx:e.on=i
     ·rw[hx,jz]
     ·rw[fm hx];exact h
    by_cases hki:k=i
    ·subst hki
     rw[ho']at hok
     cases hok
     exact up (hall e (by simpa using hee) hb)
    ·rw[fm hki]at hk
     exact up (hcl k hk ok hok e hee hb)
   rw[fK hk']at hI'
   refine ih _ β' a' w' (by simpa using hsz) ?_ hLN' hcl' hI'
   have hcs:(listed.setIfInBounds i true).toList.count true=listed.toList.count true+1:=by
    rw[Array.toList_setIfInBounds,List.count_set (by simpa using hk')]
    have:listed.toList[i]'(by simpa using hk')=false:=by simpa using hLi
    simp[this]
   omega
theorem Du{id:Nat}{K:St→Prop}{o:Oper}(hm:P.follows .mixedOrders=true)(h:Hd ds w0 n β st a w)(ho:l.getLast?=some o)(hx:Fh P H n w0 l o st K)(hP:∀chain a w',a.defers=ds→w0.PP chain w'→ai w0.S w0.w w'→Q (.panic chain) a w')(hK:∀β' st' a' w',K st'→Hd ds w0 n β' st' a' w'→Q .normal a' w'):(Code.region id l.toArray true).wp P Q a w:=by
 obtain⟨es,st',D,hlex,hk⟩:=yF _ _ _ _ _ _ hx
 rw[List.nil_append]at hk
 obtain⟨hlen0,hE0,hst⟩:=uX hlex (by simp)
 obtain⟨l1,rfl⟩:∃l1,l=l1++[o]:=⟨l.dropLast,by
  rw[List.getLast?_eq_some_iff]at ho
  obtain⟨ys,rfl⟩:=ho
  simp⟩
 rw[List.dropLast_concat]at hlen0 hE0 hst
 split at hk
 rotate_left
 ·exact nomatch hk
 rename_i hb
 rw[Bool.and_eq_true]at hb
 split at hk
 rotate_left
 ·exact nomatch hk
 have hlen:(es++[kr []]).length=(l1++[o]).length:=by simp[hlen0]
 have hB:∀k o' en,(l1++[o])[k]?=some o'→(es++[kr []])[k]?=some en→Ck (l1++[o]) (es++[kr []]) n k o' en:=fun k o' en ho he=>by
  have:=pG hb.1 k o' en ho he
  rw[Nat.zero_add]at this
  exact An this
 have hE:∀k o' en,(l1++[o])[k]?=some o'→(es++[kr []])[k]?=some en→v8 P H w0 (l1++[o]).toArray [l1.length,(l1++[o]).length] k (cy n st (l1++[o]) (es++[kr []]) k) o' en:=by
  intro k o' en ho he
  have hkl:=(List.getElem?_eq_some_iff.1 ho).1
  simp only[List.length_append,List.length_singleton]at hkl
  by_cases hkN:k < l1.length
  ·rw[List.getElem?_append_left hkN]at ho
   rw[List.getElem?_append_left (by omega)]at he
   have:=hE0 k o' en ho he
   rw[Nat.zero_add]at this
   rw[tR [o] [kr []] hlen0 (by omega)]
   rcases this with⟨_,h1⟩ | ⟨h1,_⟩
   ·refine .inl ⟨fun hh=>?_,h1⟩
    simp only[List.mem_cons,List.not_mem_nil,or_false,List.length_append,List.length_singleton]at hh
    omega
   ·cases h1
  ·have:k=l1.length:=by omega
   subst this
   rw[List.getElem?_append_right (by omega),hlen0,Nat.sub_self]at he
   cases he
   exact .inr ⟨by simp,rfl,rfl,.inr (.inr ⟨(l1++[o]).length,by simp,by simp⟩)⟩
 refine wp_region_any hm ?_
 have hrep:(fun k=>(Array.replicate (l1++[o]).length false).getD k false)=fun _:Nat=>false:=by
  funext k
  simp only[Array.getD_eq_getD_getElem?,Array.getElem?_replicate]
  split<;>rfl
 have hI:ig ds w0 n (l1++[o]) (es++[kr []]) st (fun _=>false) β a { w with drawn:=w.drawn+1 }:=ig.start (h.later (ai.refl [] w).drew) fun b k hk'=>by
  obtain⟨en,r,he,hr⟩:=fJ hk'
  have hkl:k < (l1++[o]).length:=by rw[←hlen];exact(List.getElem?_eq_some_iff.1 he).1
  have hbl:=tk (hE k _ en (List.getElem?_eq_getElem hkl) he) hr
  have:=yB (n:=n) (st:=st) hlen k (by omega)
  exact List.getElem?_eq_none (by omega)
 have:=Ow (P:=P) (H:=H) (w0:=w0) (n:=n) (st:=st) (Q:=Q) (N:=l1.length) (o:=o) hB hlen (by simp) (by rw[List.getElem?_append_right (Nat.le_refl _)];simp) hE hb.2 hP (fun β' a' w' hH=>by
  rw[tR [o] [kr []] hlen0 (Nat.le_refl _),hst]at hH
  exact Bo hP [o] st' K β' a' w' hH hk hK) (l1++[o]).length (Array.replicate (l1++[o]).length false) β a { w with drawn:=w.drawn+1 } (by simp) (by simp[List.count_replicate]) (congrFun hrep _) (fun k hk'=>by rw[show(Array.replicate (l1++[o]).length false).getD k false=false from congrFun hrep k]at hk';cases hk') (by rw[hrep];exact hI)
 simpa using this
theorem GV{id:Nat}{K:St→Prop}(hm:P.follows .mixedOrders=true)(h:Hd ds w0 n β st a w)(hx:Dw P H n w0 l st K)(hP:∀chain a w',a.defers=ds→w0.PP chain w'→ai w0.S w0.w w'→Q (.panic chain) a w')(hK:∀β' st' a' w',K st'→Hd ds w0 n β' st' a' w'→Q .normal a' w'):(Code.region id l.toArray true).wp P Q a w:=by
 unfold Dw at hx
 split at hx
 ·rename_i o ho
  refine Du hm h ?_ hx hP hK
  unfold OL at ho
  split at ho
  ·rename_i o' ho'
   split at ho
   ·split at ho
    ·cases ho;exact ho'
    ·cases ho
   ·cases ho
  ·cases ho
 ·exact Dv hm h hx hP hK
end
end Sx
open Go Go.RowKit Go.Lib Go.Sort
namespace Sx
inductive Loop:Type 1 where
 |mk (κ:Type) (k0:κ) (R:κ→Prop) (fr:κ→List (Nat×SV)) (mem:κ→List Row) (next:κ→κ) (μ:κ→Nat)
  (ι:Type) (Ro:ι→Prop) (fro:ι→List (Nat×SV)) (memo:ι→List Row) (which:κ→ι)
 |fin (κ:Type) (k0:κ) (R:κ→Prop) (fr:κ→List (Nat×SV)) (mem:κ→List Row) (next:κ→κ) (μ:κ→Nat)
 |times (l:List (List (Nat×Hint)))
def yO(fr:List (Nat×SV))(t:Nat):Bool:=match look fr t with
 |some _=>true
 |none=>false
def Jb(fr:List (Nat×SV))(l:List (Nat×SV)):List (Nat×SV):=l.map fun p=>(p.1,(look fr p.1).getD (.val undef))
def Mh:SV→Option Nat
 |.val _=>none
 |.ptr i _=>some i
 |.mP i _ _ _=>some i
 |.own i=>some i
 |.lV i _=>some i
 |.wh _ i _=>some i
 |.kQ i _ _ _=>some i
 |.gone=>none
 |.dD _=>none
 |.Fm _ _=>none
 |.kT _ i _=>some i
 |.oE _=>none
 |.eG _ i _=>some i
def wM(fr:List (Nat×SV)):List (Nat×SV)→List (Nat×Nat)
 | []=>[]
 |p::r=>match Mh p.2 with
  |some i=>match look fr p.1 with
   |some u=>match Mh u with
    |some j=>(i,j)::wM fr r
    |none=>wM fr r
   |none=>wM fr r
  |none=>wM fr r
def fe:List (Nat×Nat)→Nat→Nat
 | [],i=>i
 |p::r,i=>match Nat.beq p.1 i with
  |true=>p.2
  |false=>fe r i
def Atom.fe(σ:List (Nat×Nat)):Atom→Atom
 |.v x=>.v x
 |.o i=>.o (Sx.fe σ i)
 |.p i off=>.p (Sx.fe σ i) off
 |.s i off len cut=>.s (Sx.fe σ i) off len cut
def fz.fe(σ:List (Nat×Nat)):fz→fz
 |.a x=>.a (x.fe σ)
 |.row l=>.row (l.map (Atom.fe σ))
 |.kT t i off=>.kT t (Sx.fe σ i) off
def SV.fe(σ:List (Nat×Nat)):SV→SV
 |.val v=>.val v
 |.ptr i o=>.ptr (Sx.fe σ i) o
 |.mP i o n c=>.mP (Sx.fe σ i) o n c
 |.own i=>.own (Sx.fe σ i)
 |.lV i o=>.lV (Sx.fe σ i) o
 |.wh l i r=>.wh l (Sx.fe σ i) r
 |.kQ i o n c=>.kQ (Sx.fe σ i) o n c
 |.gone=>.gone
 |.dD l=>.dD (l.map (Atom.fe σ))
 |.Fm f l=>.Fm f (l.map (Atom.fe σ))
 |.kT t i off=>.kT t (Sx.fe σ i) off
 |.oE l=>.oE (l.map (fz.fe σ))
 |.eG b i off=>.eG b (Sx.fe σ i) off
def Cells.fe(σ:List (Nat×Nat)):Cells→Cells
 |.ak cs=>.ak cs
 |.dK cs=>.dK (cs.map (SV.fe σ))
 |.own a b c=>.own a b c
 |.dead=>.dead
 |.dF g cs=>.dF g cs
 |.jR g cs=>.jR g (cs.map (SV.fe σ))
def Row.fe(σ:List (Nat×Nat))(r:Row):Row:=⟨r.ty,r.cs.fe σ⟩
def Er(σ:List (Nat×Nat)):List (Nat×SV)→List (Nat×SV)
 | []=>[]
 |p::r=>(p.1,p.2.fe σ)::Er σ r
def sZ(σ:List (Nat×Nat)):List Row→List Row
 | []=>[]
 |p::r=>p.fe σ::sZ σ r
def tW(mem:List Row)(σ:List (Nat×Nat)):Nat→List Row→List Row
 |_,[]=>[]
 |k,_::r=>(mem[fe σ k]?).getD an::tW mem σ (k+1) r
def EH(σ:List (Nat×Nat))(x:Nat):Nat→Bool
 | 0=>true
 |n+1=>match Nat.beq (fe σ n) x with
  |true=>false
  |false=>EH σ x n
def EC(σ:List (Nat×Nat))(N:Nat):Nat→Bool
 | 0=>true
 |n+1=>match Nat.blt (fe σ n) N&&EH σ (fe σ n) n with
  |true=>EC σ N n
  |false=>false
def Env.fe(σ:List (Nat×Nat))(β:Env):Env:=⟨fun i=>β.b (Sx.fe σ i),fun i=>β.a (Sx.fe σ i),fun i=>β.n (Sx.fe σ i),fun i=>β.c (Sx.fe σ i)⟩
def OM:Cells→List SV
 |.dK cs=>cs
 |.jR _ cs=>cs
 |_=>[]
def tN:List SV→List SV→List (Nat×Nat)
 |a::r,b::q=>match Mh a,Mh b with
  |some i,some j=>(i,j)::tN r q
  |_,_=>tN r q
 |_,_=>[]
def yb(σ:List (Nat×Nat))(smem:List Row):Nat→List Row→List (Nat×Nat)
 |_,[]=>[]
 |k,r::l=>match smem[fe σ k]? with
  |some q=>tN (OM r.cs) (OM q.cs)++yb σ smem (k+1) l
  |none=>yb σ smem (k+1) l
def mQ(st:St)(fr:List (Nat×SV))(mem:List Row):List (Nat×Nat):=wM st.fr fr++yb (wM st.fr fr) st.mem 0 mem
def zq(st:St)(fr:List (Nat×SV))(mem:List Row):Prop:=
 match fj (fun p=>yO st.fr p.1&&zJ mem.length p.2) fr&&(fj (fun r=>mn mem.length r.cs) mem&&EC (mQ st fr mem) st.mem.length mem.length)with
 |true=>Jb st.fr fr=Er (mQ st fr mem) fr∧tW st.mem (mQ st fr mem) 0 mem=sZ (mQ st fr mem) mem
 |false=>cF (st,fr)
def dR{κ ι:Type}(R:κ→Prop)(fr:κ→List (Nat×SV))(mem:κ→List Row)(next:κ→κ)(μ:κ→Nat)(Ro:ι→Prop)(fro:ι→List (Nat×SV))(memo:ι→List Row)(which:κ→ι)(id:Nat)(Kr:St→Prop)(k:κ):Exit→St→Prop
 |.normal,st=>R (next k)∧μ (next k) < μ k∧zq st (fr (next k)) (mem (next k))
 |.exit i,st=>match Nat.beq i id with
  |true=>Ro (which k)∧zq st (fro (which k)) (memo (which k))
  |false=>cF st
 |.ret,st=>Kr st
 |_,_=>False
def dM:Code→Nat
 |.seq x y=>match dM x with
  | 0=>dM y
  |k=>k
 |.cond _ x y=>match dM x with
  | 0=>dM y
  |k=>k
 |.exit i=>i+1
 |_=>0
def lW:Code→Nat
 |.seq x y=>lW x+lW y
 |.cond _ x y=>lW x+lW y
 |.block _ c=>lW c
 |.scope c=>lW c
 |.loop _=>1
 |_=>0
def tE(body:List (Nat×Hint)→St→(Exit→St→Prop)→Prop)(K:Exit→St→Prop):List (List (Nat×Hint))→St→Prop
 | [],st=>cF st
 |h::r,st=>body h st fun e st'=>match e with
  |.normal=>tE body K r st'
  |.exit i=>K (.exit i) st'
  |.ret=>K .ret st'
  |_=>False
def Nd:List Nat→(Nat→Prop)→Prop
 | [],_=>True
 |i::r,F=>match r with
  | []=>F i
  |_=>Br (F i)∧Nd r F
theorem wZ{F:Nat→Prop}:∀{l:List Nat},Nd l F→∀i∈l,F i
 | [],_,i,hi=>by cases hi
 | [j],h,i,hi=>by rw[List.mem_singleton.1 hi];exact h
 |j::k::r,h,i,hi=>by
  have h:Br (F j)∧Nd (k::r) F:=h
  rcases List.mem_cons.1 hi with rfl|hi
  ·exact h.1
  ·exact wZ h.2 i hi
def rJ(P:Program)(H:List (Nat×Hint))(n:Nat)(w0:aU)(ops:Array Oper):Nat→Array Bool→St→(St→Prop)→Prop
 | 0,listed,st,K=>match Region.ready .any ops listed with
  | []=>K st
  |_=>cF listed
 |fuel+1,listed,st,K=>match Region.ready .any ops listed with
  | []=>K st
  |is=>Nd is fun i=>match ops[i]? with
   |some o=>xX ops o st fun st=>match guardOf ops st.fr o with
    |some true=>step P H n w0 o st fun st'=>rJ P H n w0 ops fuel (listed.setIfInBounds i true) st' K
    |some false=>rJ P H n w0 ops fuel (listed.setIfInBounds i true) (st.put n o.dst (.val undef)) K
    |none=>cF o
   |none=>cF i
theorem y8{P:Program}{H:List (Nat×Hint)}{n:Nat}{w0:aU}{ds:List Deferred}{Q:Exit→Act→World→Prop}{ops:Array Oper}(hP:∀chain a w',a.defers=ds→w0.PP chain w'→ai w0.S w0.w w'→Q (.panic chain) a w'):∀(fuel:Nat) (listed:Array Bool) (st:St) (K:St→Prop) (β:Env) (a:Act) (w:World),Hd ds w0 n β st a w→rJ P H n w0 ops fuel listed st K→(∀β' st' a' w',K st'→Hd ds w0 n β' st' a' w'→Q .normal a' w')→wpAny P .any ops Q fuel listed a w
 | 0,listed,st,K,β,a,w,h,hx,hK=>by
  unfold rJ at hx
  split at hx
  ·rename_i hr
   exact⟨hr,hK _ _ _ _ hx h⟩
  ·exact nomatch hx
 |fuel+1,listed,st,K,β,a,w,h,hx,hK=>by
  unfold rJ at hx
  split at hx
  ·rename_i hr
   exact⟨fun _=>hK _ _ _ _ hx h,fun i hi=>by rw[hr]at hi;cases hi⟩
  ·rename_i hne
   refine⟨fun hr=>absurd hr hne,fun i hi=>?_⟩
   have hx:=wZ hx i hi
   unfold wpOp
   cases ho:ops[i]? with
   |none=>rw[ho]at hx;exact nomatch hx
   |some o=>
    rw[ho]at hx
    obtain⟨st,hx,h⟩:=wK h hx
    split at hx
    ·rename_i hg
     show(if Region.wanted o (yielded ops a.tmps)then _ else _)
     rw[qz h hg,if_pos rfl]
     exact .inl (Ee h hx hP fun β' st' a' w' hk h'=>y8 hP fuel _ st' K β' a' w' h' hk hK)
    ·rename_i hg
     show(if Region.wanted o (yielded ops a.tmps)then _ else _)
     rw[qz h hg,if_neg (by decide)]
     exact y8 hP fuel _ _ K β _ w (h.put o.dst (sv:=.val undef) trivial) hx hK
    ·exact nomatch hx
def Sg(H:List (Nat×Hint))(id:Nat):Bool:=match hint H (some (600000+id))with
 |some _=>true
 |none=>false
def Qg(H:List (Nat×Hint)):Operand→Option (List (Nat×SV)×List Row)
 |.tmp t=>match hint H (some (500000+t))with
  |some (.join fr mem)=>some (fr,mem)
  |_=>none
 |_=>none
def JT(fr:List (Nat×SV))(mem:List Row)(K:Exit→St→Prop):Exit→St→Prop
 |.normal,st=>zq st fr mem
 |e,st=>K e st
def Qr(H:List (Nat×Hint))(id:Nat):List (Nat×List (Nat×SV)×List Row):=match hint H (some (700000+id))with
 |some (.GZ l)=>l
 |_=>[]
def Kn(P:Program)(H:List (Nat×Hint))(n:Nat)(w0:aU)(ops:Array Oper):List (Nat×List (Nat×SV)×List Row)→List Oper→St→(St→Prop)→Prop
 | [],l,st,K=>sF P H n w0 ops l st K
 | (m,fr,mem)::cs,l,st,K=>Br (sF P H n w0 ops (l.take m) st fun st'=>zq st' fr mem)∧Kn P H n w0 ops cs (l.drop m) ⟨fr,mem⟩ K
def jU(P:Program)(n:Nat)(w0:aU):Code→List (Nat×Hint)→List Loop→St→(Exit→St→Prop)→Prop
 |.skip,_,_,st,K=>K .normal st
 |.region id ops draw,H,_,st,K=>match draw with
  |false=>Kn P H n w0 ops (Qr H id) ops.toList st (K .normal)
  |true=>match Sg H id with
   |true=>rJ P H n w0 ops ops.size (Array.replicate ops.size false) st (K .normal)
   |false=>Dw P H n w0 ops.toList st (K .normal)
 |.seq x y,H,L,st,K=>jU P n w0 x H L st fun e st'=>match e with
  |.normal=>jU P n w0 y H (L.drop (lW x)) st' K
  |e=>K e st'
 |.cond c x y,H,L,st,K=>match Qg H c with
  |none=>match ev st.fr c with
   |some (.val (.bool b))=>match b with
    |true=>jU P n w0 x H L st K
    |false=>jU P n w0 y H (L.drop (lW x)) st K
   |_=>cF c
  |some q=>match ev st.fr c with
   |some (.val (.bool b))=>Br (match b with
    |true=>jU P n w0 x H L st (JT q.1 q.2 K)
    |false=>jU P n w0 y H (L.drop (lW x)) st (JT q.1 q.2 K))∧K .normal ⟨q.1,q.2⟩
   |_=>cF c
 |.block id c,H,L,st,K=>jU P n w0 c H L st fun e st'=>match e with
  |.exit i=>match Nat.beq i id with
   |true=>K .normal st'
   |false=>K (.exit i) st'
  |e=>K e st'
 |.scope c,H,L,st,K=>jU P n w0 c H L st fun e st'=>match e with
  |.goto _=>False
  |e=>K e st'
 |.loop c,_,L,st,K=>match L with
  |.mk _ k0 R fr mem next μ _ Ro fro memo which::_=>R k0∧zq st (fr k0) (mem k0)∧(∀k,R k→∃H' L',jU P n w0 c H' L' ⟨fr k,mem k⟩ (dR R fr mem next μ Ro fro memo which (dM c - 1) (K .ret) k))∧∀x,Ro x→K (.exit (dM c - 1)) ⟨fro x,memo x⟩
  |.fin _ k0 R fr mem next μ::_=>R k0∧zq st (fr k0) (mem k0)∧(∀k,R k→∃H' L',jU P n w0 c H' L' ⟨fr k,mem k⟩ (dR R fr mem next μ (fun(_:Unit)=>False) (fun _=>[]) (fun _=>[]) (fun _=>()) (dM c - 1) (K .ret) k))∧True
  |.times hs::_=>tE (fun H' st' K'=>jU P n w0 c H' [] st' K') K hs st
  | []=>cF c
 |.exit id,_,_,st,K=>K (.exit id) st
 |.label _,_,_,st,K=>K .normal st
 |.goto l,_,_,st,K=>K (.goto l) st
 |.ret,_,_,st,K=>K .ret st
 |c,_,_,_,_=>cF c
def ex(P:Program)(n:Nat)(w:World)(c:Code)(H:List (Nat×Hint))(L:List Loop)(st:St)(K:Exit→St→Prop):Prop:=jU P n ⟨w,[],fun _ _=>False⟩ c H L st K
def lift(ds:List Deferred)(w0:aU)(n:Nat)(K:Exit→St→Prop)(e:Exit)(a:Act)(w:World):Prop:=match e with
 |.panic chain=>a.defers=ds∧w0.PP chain w∧ai w0.S w0.w w
 |e=>∃β st,K e st∧Hd ds w0 n β st a w
section
variable{P:Program}{n:Nat}{w0:aU}{ds:List Deferred}
theorem uR{σ:List (Nat×Nat)}:∀{l:List (Nat×SV)} {t:Nat} {sv:SV},look l t=some sv→look (Er σ l) t=some (sv.fe σ)
 | (d,v)::r,t,sv,h=>by
  rw[fL]at h
  rw[Er,fL]
  split at h
  ·rename_i hd
   rw[if_pos hd,cg h]
   have:=cg h
   subst this
   cases sv<;>first | (cases h;done)|rfl
  ·rename_i hd
   rw[if_neg hd]
   exact uR h
theorem uS{fr:List (Nat×SV)}:∀{l l':List (Nat×SV)} {t:Nat} {sv:SV},Jb fr l=l'→(∀p∈l,yO fr p.1=true)→look l' t=some sv→look fr t=some sv
 | [],l',t,sv,h,ha,hl=>by
  subst h
  cases hl
 | (d,v)::r,l',t,sv,h,ha,hl=>by
  unfold Jb at h
  rw[List.map_cons]at h
  subst h
  rw[fL]at hl
  split at hl
  ·rename_i hd
   subst hd
   have:=ha (d,v) (by simp)
   unfold yO at this
   simp only at this hl
   split at this
   ·rename_i u hu
    simp only[hu,Option.getD_some]at hl
    rw[cg hl,hu]
   ·cases this
  ·exact uS (l:=r) rfl (fun p hp=>ha p (by simp[hp])) hl
theorem Ac{σ:List (Nat×Nat)}{β:Env}{s:Atom}:(s.fe σ).den β=s.den (β.fe σ):=by cases s<;>rfl
theorem ub{σ:List (Nat×Nat)}{β:Env}{l:List Atom}:(l.map (Atom.fe σ)).map (Atom.den β)=l.map (Atom.den (β.fe σ)):=by
 rw[List.map_map]
 exact List.map_congr_left fun s _=>Ac
theorem IS{σ:List (Nat×Nat)}{β:Env}{s:fz}:(s.fe σ).den β=s.den (β.fe σ):=by
 cases s with
 |a x=>exact Ac
 |row l=>show Value.agg _=.agg _;rw[ub]
 |kT t i off=>rfl
theorem IQ{σ:List (Nat×Nat)}{β:Env}{l:List fz}:(l.map (fz.fe σ)).map (fz.den β)=l.map (fz.den (β.fe σ)):=by
 rw[List.map_map]
 exact List.map_congr_left fun s _=>IS
theorem yl{σ:List (Nat×Nat)}{β:Env}{s:SV}:(s.fe σ).den β=s.den (β.fe σ):=by
 cases s with
 |dD l=>show Value.agg _=.agg _;rw[ub]
 |Fm f l=>show Value.func _ _ _=.func _ _ _;rw[ub]
 |oE l=>show Value.tuple _=.tuple _;rw[IQ]
 |_=>rfl
theorem IP{σ:List (Nat×Nat)}{β:Env}{w:World}{i:Nat}{r:Row}(h:aX β w (fe σ i) (r.fe σ)):aX (β.fe σ) w i r:=by
 obtain⟨T,cs⟩:=r
 cases cs with
 |own a b c=>exact h
 |ak cs=>exact h
 |dead=>exact h
 |dF g cs=>exact h
 |dK cs=>
  have h:au w (β (fe σ i)) T ((cs.map (SV.fe σ)).map (SV.den β)):=h
  rw[List.map_map]at h
  have e:(SV.den β ∘ SV.fe σ)=SV.den (β.fe σ):=funext fun s=>yl
  rw[e]at h
  exact h
 |jR g cs=>
  have h:β (fe σ i)=g∧au w (β (fe σ i)) T ((cs.map (SV.fe σ)).map (SV.den β)):=h
  rw[List.map_map]at h
  have e:(SV.den β ∘ SV.fe σ)=SV.den (β.fe σ):=funext fun s=>yl
  rw[e]at h
  exact h
theorem ym{σ:List (Nat×Nat)}{β:Env}{i:Nat}{r:Row}:av (β.fe σ) i r=av β (fe σ i) (r.fe σ):=by
 obtain⟨T,cs⟩:=r
 cases cs<;>rfl
theorem uG{σ:List (Nat×Nat)}{x:Nat}:∀{n:Nat},EH σ x n=true→∀j,j < n→fe σ j≠x
 | 0,_,j,hj=>by omega
 |n+1,h,j,hj=>by
  unfold EH at h
  split at h
  ·cases h
  ·rename_i hb
   by_cases hjn:j=n
   ·subst hjn;intro he;rw[he,Nat.beq_refl]at hb;cases hb
   ·exact uG h j (by omega)
theorem uz{σ:List (Nat×Nat)}{N:Nat}:∀{n:Nat},EC σ N n=true→(∀j,j < n→fe σ j < N)∧∀i j,i < n→j < n→fe σ i=fe σ j→i=j
 | 0,_=>⟨fun j hj=>by omega,fun i j hi=>by omega⟩
 |n+1,h=>by
  unfold EC at h
  split at h
  ·rename_i hb
   rw[Bool.and_eq_true]at hb
   obtain⟨h1,h2⟩:=uz h
   have h3:=uG hb.2
   have h4:fe σ n < N:=Nat.le_of_ble_eq_true hb.1
   refine⟨fun j hj=>?_,fun i j hi hj he=>?_⟩
   ·by_cases hjn:j=n
    ·subst hjn;exact h4
    ·exact h1 j (by omega)
   ·by_cases hin:i=n
    ·by_cases hjn:j=n
     ·omega
     ·subst hin;exact absurd he.symm (h3 j (by omega))
    ·by_cases hjn:j=n
     ·subst hjn;exact absurd he (h3 i (by omega))
     ·exact h2 i j (by omega) (by omega) he
  ·cases h
theorem tV{mem:List Row}{σ:List (Nat×Nat)}:∀{l l':List Row} {k:Nat},tW mem σ k l=l'→(∀j,j < l.length→fe σ (k+j) < mem.length)→∀(i:Nat) (r:Row),l'[i]?=some r→mem[fe σ (k+i)]?=some r
 | [],l',k,h,_,i,r,hi=>by
  subst h
  simp[tW]at hi
 |x::l,l',k,h,hlt,i,r,hi=>by
  subst h
  rw[tW]at hi
  cases i with
  |zero=>
   have hk:=hlt 0 (by simp)
   rw[Nat.add_zero]at hk ⊢
   simp only[List.getElem?_cons_zero,Option.some.injEq,List.getElem?_eq_getElem hk,Option.getD_some]at hi
   rw[←hi];exact List.getElem?_eq_getElem hk
  |succ i=>
   rw[List.getElem?_cons_succ]at hi
   have:=tV (k:=k+1) rfl (fun j hj=>by rw[show k+1+j=k+(j+1)by omega];exact hlt (j+1) (by simp;omega)) i r hi
   rwa [show k+1+i=k+(i+1)by omega]at this
theorem rX{σ:List (Nat×Nat)}:∀{l:List Row} {i:Nat} {r:Row},l[i]?=some r→(sZ σ l)[i]?=some (r.fe σ)
 |x::l,0,r,h=>by
  have h:x=r:=by simpa using h
  subst h
  rfl
 |x::l,i+1,r,h=>by
  rw[List.getElem?_cons_succ]at h
  rw[sZ,List.getElem?_cons_succ]
  exact rX h
theorem qn:∀{l:List (Nat×SV)} {t:Nat} {sv:SV},look l t=some sv→(t,sv)∈l
 | (d,v)::r,t,sv,h=>by
  rw[fL]at h
  split at h
  ·rename_i hd
   rw[cg h,hd]
   simp
  ·exact List.mem_cons_of_mem _ (qn h)
theorem Hd.same{β:Env}{st:St}{a:Act}{w:World}{fr:List (Nat×SV)}{mem:List Row}(h:Hd ds w0 n β st a w)(hs:zq st fr mem):∃β',Hd ds w0 n β' ⟨fr,mem⟩ a w:=by
 unfold zq at hs
 split at hs
 ·rename_i hb
  simp only[Bool.and_eq_true]at hb
  obtain⟨hb1,hb2,hb3⟩:=hb
  have h1:=aT hb1
  have h2:=aT hb2
  obtain⟨h3,h4⟩:=uz hb3
  have hl:∀t sv,look fr t=some sv→look st.fr t=some (sv.fe (mQ st fr mem)):=fun t sv ht=>uS hs.1 (fun p hp=>by have:=h1 p hp;rw[Bool.and_eq_true]at this;exact this.1) (uR ht)
  have hm:∀(i:Nat) (r:Row),mem[i]?=some r→st.mem[fe (mQ st fr mem) i]?=some (r.fe (mQ st fr mem)):=by
   intro i r hi
   have:=tV hs.2 (fun j hj=>by rw[Nat.zero_add];exact h3 j hj) i _ (rX hi)
   rwa [Nat.zero_add]at this
  have hlt:∀(i:Nat) (r:Row),mem[i]?=some r→i < mem.length:=fun i r hi=>(List.getElem?_eq_some_iff.1 hi).1
  refine⟨β.fe (mQ st fr mem),h.size,h.dn,fun t sv ht=>?_,fun i r hi=>IP (h.b9 _ _ (hm i r hi)),fun i r k hi hk=>h.new _ _ k (hm i r hi) (by rw[←ym];exact hk),fun i j r r' k hi hj hk hk'=>?_,h.aG,fun t sv ht=>?_,fun i r hi=>?_⟩
  ·rw[h.get t _ (hl t sv ht),yl]
  ·exact h4 i j (hlt i r hi) (hlt j r' hj) (h.inj _ _ _ _ k (hm i r hi) (hm j r' hj) (by rw[←ym];exact hk) (by rw[←ym];exact hk'))
  ·have:=h1 _ (qn ht)
   rw[Bool.and_eq_true]at this
   exact nU this.2
  ·have:=h2 r (List.mem_of_getElem? hi)
   exact jW this
 ·exact nomatch hs
theorem EX{fr:List (Nat×SV)}{mem:List Row}{K:Exit→St→Prop}(hk:K .normal ⟨fr,mem⟩){e:Exit}{a:Act}{w:World}(hq:lift ds w0 n (JT fr mem K) e a w):lift ds w0 n K e a w:=by
 cases e with
 |normal=>
  obtain⟨β',st',hs,h'⟩:=hq
  obtain⟨β3,h3⟩:=h'.same hs
  exact⟨β3,_,hk,h3⟩
 |exit id=>exact hq
 |goto l=>exact hq
 |ret=>exact hq
 |panic c=>exact hq
 |outgrown=>exact hq
theorem Bp{H:List (Nat×Hint)}{ops:Array Oper}{Q:Exit→Act→World→Prop}(hP:∀chain a w',a.defers=ds→w0.PP chain w'→ai w0.S w0.w w'→Q (.panic chain) a w'):∀(cs:List (Nat×List (Nat×SV)×List Row)) (l:List Oper) (st:St) (K:St→Prop) (β:Env) (a:Act) (w:World),Hd ds w0 n β st a w→Kn P H n w0 ops cs l st K→(∀β' st' a' w',K st'→Hd ds w0 n β' st' a' w'→Q .normal a' w')→wpList P ops Q l a w
 | [],l,st,K,β,a,w,h,hx,hK=>Bo hP l st K β a w h hx hK
 | (m,fr,mem)::cs,l,st,K,β,a,w,h,hx,hK=>by
  have:=ox (ops:=ops) (Q:=Q) (l.drop m) hP (l.take m) st _ β a w h hx.1 fun β' st' a' w' hs h'=>by
   obtain⟨β3,h3⟩:=h'.same hs
   exact Bp hP cs (l.drop m) ⟨fr,mem⟩ K β3 a' w' h3 hx.2 hK
  rwa [List.take_append_drop]at this
theorem jc(hm:P.follows .mixedOrders=true):∀(c:Code) (H:List (Nat×Hint)) (L:List Loop) (st:St) (K:Exit→St→Prop) (β:Env) (a:Act) (w:World),Hd ds w0 n β st a w→jU P n w0 c H L st K→c.wp P (lift ds w0 n K) a w
 |.skip,H,L,st,K,β,a,w,h,hx=>wp_skip ⟨β,st,hx,h⟩
 |.region id ops draw,H,L,st,K,β,a,w,h,hx=>by
  unfold jU at hx
  cases draw with
  |false=>exact wp_region_list (Bp (fun chain a w' hd hp hc=>⟨hd,hp,hc⟩) _ ops.toList st (K .normal) β a w h hx fun β' st' a' w' hk h'=>⟨β',st',hk,h'⟩)
  |true=>
   split at hx
   ·rename_i hb;cases hb
   ·split at hx
    ·exact wp_region_any hm (y8 (fun chain a w' hd hp hc=>⟨hd,hp,hc⟩) _ _ _ _ β a _ (h.later (ai.refl [] w).drew) hx fun β' st' a' w' hk h'=>⟨β',st',hk,h'⟩)
    ·have:=GV (id:=id) (Q:=lift ds w0 n K) hm h hx (fun chain a w' hd hp hc=>⟨hd,hp,hc⟩) fun β' st' a' w' hk h'=>⟨β',st',hk,h'⟩
     simpa using this
 |.seq x y,H,L,st,K,β,a,w,h,hx=>by
  unfold jU at hx
  refine wp_seq (Code.wp_mono (fun e a' w' hq=>?_) (jc hm x H L st _ β a w h hx))
  cases e with
  |normal=>
   obtain⟨β',st',hk,h'⟩:=hq
   exact jc hm y H _ st' K β' a' w' h' hk
  |exit id=>
   obtain⟨β',st',hk,h'⟩:=hq
   exact⟨β',st',hk,h'⟩
  |goto l=>
   obtain⟨β',st',hk,h'⟩:=hq
   exact⟨β',st',hk,h'⟩
  |ret=>
   obtain⟨β',st',hk,h'⟩:=hq
   exact⟨β',st',hk,h'⟩
  |panic c=>exact hq
  |outgrown=>
   obtain⟨β',st',hk,h'⟩:=hq
   exact⟨β',st',hk,h'⟩
 |.cond c x y,H,L,st,K,β,a,w,h,hx=>by
  unfold jU at hx
  split at hx
  ·split at hx
   ·rename_i b hb
    have hc:a.eval c=.bool b:=h.eval hb
    cases b with
    |true=>exact wp_cond_true hc (jc hm x H L st K β a w h hx)
    |false=>exact wp_cond_false hc (jc hm y H _ st K β a w h hx)
   ·exact nomatch hx
  ·rename_i q _
   split at hx
   ·rename_i b hb
    have hc:a.eval c=.bool b:=h.eval hb
    obtain⟨hx,hk⟩:=hx
    cases b with
    |true=>exact wp_cond_true hc (Code.wp_mono (fun e a' w' hq=>EX hk hq) (jc hm x H L st _ β a w h hx))
    |false=>exact wp_cond_false hc (Code.wp_mono (fun e a' w' hq=>EX hk hq) (jc hm y H _ st _ β a w h hx))
   ·exact nomatch hx
 |.block id c,H,L,st,K,β,a,w,h,hx=>by
  unfold jU at hx
  refine wp_block (Code.wp_mono (fun e a' w' hq=>?_) (jc hm c H L st _ β a w h hx))
  cases e with
  |exit i=>
   obtain⟨β',st',hk,h'⟩:=hq
   simp only at hk
   split at hk
   ·rename_i hb
    simp only[Exit.inBlock,Nat.eq_of_beq_eq_true hb,if_true]
    exact⟨β',st',hk,h'⟩
   ·rename_i hb
    have:i≠id:=fun h=>by rw[h,Nat.beq_refl]at hb;cases hb
    simp only[Exit.inBlock,this,if_false]
    exact⟨β',st',hk,h'⟩
  |normal=>
   obtain⟨β',st',hk,h'⟩:=hq
   exact⟨β',st',hk,h'⟩
  |goto l=>
   obtain⟨β',st',hk,h'⟩:=hq
   exact⟨β',st',hk,h'⟩
  |ret=>
   obtain⟨β',st',hk,h'⟩:=hq
   exact⟨β',st',hk,h'⟩
  |panic c=>exact hq
  |outgrown=>
   obtain⟨β',st',hk,h'⟩:=hq
   exact⟨β',st',hk,h'⟩
 |.scope c,H,L,st,K,β,a,w,h,hx=>by
  unfold jU at hx
  refine wp_scope_straight (Code.wp_mono (fun e a' w' hq=>?_) (jc hm c H L st _ β a w h hx))
  cases e with
  |goto l=>
   obtain⟨β',st',hk,h'⟩:=hq
   exact hk
  |normal=>
   obtain⟨β',st',hk,h'⟩:=hq
   exact⟨β',st',hk,h'⟩
  |exit id=>
   obtain⟨β',st',hk,h'⟩:=hq
   exact⟨β',st',hk,h'⟩
  |ret=>
   obtain⟨β',st',hk,h'⟩:=hq
   exact⟨β',st',hk,h'⟩
  |panic c=>exact hq
  |outgrown=>
   obtain⟨β',st',hk,h'⟩:=hq
   exact⟨β',st',hk,h'⟩
 |.loop c,H,L,st,K,β,a,w,h,hx=>by
  unfold jU at hx
  split at hx
  ·rename_i κ k0 R fr mem next μ ι Ro fro memo which rest
   obtain⟨h0,hs,hround,hout⟩:=hx
   obtain⟨β0,h00⟩:=h.same hs
   refine wp_loop_ghost (fun m a w=>∃β k,μ k=m∧R k∧Hd ds w0 n β ⟨fr k,mem k⟩ a w) (μ k0) ⟨β0,k0,rfl,h0,h00⟩ ?_
   rintro m a' w' ⟨β',k,rfl,hR,h'⟩
   obtain⟨H',L',hround⟩:=hround k hR
   refine Code.wp_mono (fun e a2 w2 hq=>?_) (jc hm c _ _ _ _ β' a' w' h' hround)
   cases e with
   |normal=>
    obtain⟨β2,st2,hk,h2⟩:=hq
    obtain⟨β3,h3⟩:=h2.same hk.2.2
    exact⟨μ (next k),hk.2.1,β3,next k,rfl,hk.1,h3⟩
   |exit id=>
    obtain⟨β2,st2,hk,h2⟩:=hq
    simp only[dR]at hk
    split at hk
    ·rename_i hb
     rw[Nat.eq_of_beq_eq_true hb]
     obtain⟨β3,h3⟩:=h2.same hk.2
     exact⟨β3,_,hout _ hk.1,h3⟩
    ·exact nomatch hk
   |goto l=>
    obtain⟨β2,st2,hk,h2⟩:=hq
    exact hk.elim
   |ret=>
    obtain⟨β2,st2,hk,h2⟩:=hq
    exact⟨β2,st2,hk,h2⟩
   |panic c=>exact hq
   |outgrown=>
    obtain⟨β2,st2,hk,h2⟩:=hq
    exact hk.elim
  ·rename_i κ k0 R fr mem next μ rest
   obtain⟨h0,hs,hround,_⟩:=hx
   obtain⟨β0,h00⟩:=h.same hs
   refine wp_loop_ghost (fun m a w=>∃β k,μ k=m∧R k∧Hd ds w0 n β ⟨fr k,mem k⟩ a w) (μ k0) ⟨β0,k0,rfl,h0,h00⟩ ?_
   rintro m a' w' ⟨β',k,rfl,hR,h'⟩
   obtain⟨H',L',hround⟩:=hround k hR
   refine Code.wp_mono (fun e a2 w2 hq=>?_) (jc hm c _ _ _ _ β' a' w' h' hround)
   cases e with
   |normal=>
    obtain⟨β2,st2,hk,h2⟩:=hq
    obtain⟨β3,h3⟩:=h2.same hk.2.2
    exact⟨μ (next k),hk.2.1,β3,next k,rfl,hk.1,h3⟩
   |exit id=>
    obtain⟨β2,st2,hk,h2⟩:=hq
    simp only[dR]at hk
    split at hk
    ·exact hk.1.elim
    ·exact nomatch hk
   |goto l=>
    obtain⟨β2,st2,hk,h2⟩:=hq
    exact hk.elim
   |ret=>
    obtain⟨β2,st2,hk,h2⟩:=hq
    exact⟨β2,st2,hk,h2⟩
   |panic c=>exact hq
   |outgrown=>
    obtain⟨β2,st2,hk,h2⟩:=hq
    exact hk.elim
  ·rename_i hs rest
   refine wp_loop_ghost (fun m a w=>∃(β:Env) (st:St) (r:List (List (Nat×Hint))),r.length=m∧(tE (fun H' st' K'=>jU P n w0 c H' [] st' K') K r st)∧Hd ds w0 n β st a w) hs.length ⟨β,st,hs,rfl,hx,h⟩ ?_
   rintro m a' w' ⟨β',st',r,rfl,hx',h'⟩
   cases r with
   |nil=>unfold tE at hx';exact nomatch hx'
   |cons hh r=>
    unfold tE at hx'
    refine Code.wp_mono (fun e a2 w2 hq=>?_) (jc hm c _ _ _ _ β' a' w' h' hx')
    cases e with
    |normal=>
     obtain⟨β2,st2,hk,h2⟩:=hq
     exact⟨r.length,by simp,β2,st2,r,rfl,hk,h2⟩
    |exit id=>
     obtain⟨β2,st2,hk,h2⟩:=hq
     exact⟨β2,st2,hk,h2⟩
    |goto l=>
     obtain⟨β2,st2,hk,h2⟩:=hq
     exact hk.elim
    |ret=>
     obtain⟨β2,st2,hk,h2⟩:=hq
     exact⟨β2,st2,hk,h2⟩
    |panic c=>exact hq
    |outgrown=>
     obtain⟨β2,st2,hk,h2⟩:=hq
     exact hk.elim
  ·exact nomatch hx
 |.exit id,H,L,st,K,β,a,w,h,hx=>wp_exit ⟨β,st,hx,h⟩
 |.label l,H,L,st,K,β,a,w,h,hx=>wp_label ⟨β,st,hx,h⟩
 |.ret,H,L,st,K,β,a,w,h,hx=>wp_ret ⟨β,st,hx,h⟩
 |.rangeFunc ..,_,_,_,_,_,_,_,_,hx=>by unfold jU at hx;exact nomatch hx
 |.goto l,H,L,st,K,β,a,w,h,hx=>wp_goto ⟨β,st,hx,h⟩
 |.refuse _,_,_,_,_,_,_,_,_,hx=>by unfold jU at hx;exact nomatch hx
def vU:Nat→List Value→List (Nat×SV)
 |_,[]=>[]
 |k,v::r=>(k,.val v)::vU (k+1) r
theorem pg:∀{vs:List Value} {k t:Nat} {sv:SV},look (vU k vs) t=some sv→∃v,sv=.val v∧k≤t∧vs[t - k]?=some v
 |v::r,k,t,sv,h=>by
  rw[vU,fL]at h
  split at h
  ·rename_i hk
   exact⟨v,(Option.some.inj h).symm,by omega,by rw[show t - k=0 by omega]; rfl⟩
  ·obtain⟨u,h1,h2,h3⟩:=pg h
   refine⟨u,h1,by omega,?_⟩
   rw[show t - k=(t - (k+1))+1 by omega,List.getElem?_cons_succ]
   exact h3
def jK(P:Program)(st:St):List ResultVar→Option (List SV)
 | []=>some []
 |.tmp t::r=>match look st.fr t with
  |some sv=>match jK P st r with
   |some l=>some (sv::l)
   |none=>none
  |none=>none
 |.cell b t::r=>match look st.fr b with
  |some (.ptr i off)=>match st.mem[i]? with
   |some row=>match cJ P t row off with
    |.val sv _=>match jK P st r with
     |some l=>some (sv::l)
     |none=>none
    |_=>none
   |none=>none
  |_=>none
def qV:List SV→Option (List Value)
 | []=>some []
 |sv::r=>match sv with
  |.val v=>match qV r with
   |some l=>some (v::l)
   |none=>none
  |_=>none
def Ey:List SV→Option (List Value×Nat×List Value)
 | []=>none
 |sv::r=>match sv with
  |.val v=>match Ey r with
   |some (l,i,q)=>some (v::l,i,q)
   |none=>none
  |.own i=>match qV r with
   |some q=>some ([],i,q)
   |none=>none
  |_=>none
def lG:List Value→Value
 | [v]=>v
 |vs=>.tuple vs.toArray
theorem De{t:TypeId}{row:Row}{off:Nat}{sv:SV}{ob:Option Prop}(h:cJ P t row off=.val sv ob):ob=none:=by
 unfold cJ at h
 repeat' (split at h)
 all_goals first | (cases h;done) | (injection h with _ h;exact h.symm)
def rW(mem:List Row)(l:List SV):Option j6:=match qV l with
 |some vs=>some (.val (lG vs))
 |none=>match Ey l with
  |some (pre,i,post)=>match mem[i]? with
   |some r=>match r.cs with
    |.own size n xs=>match pre,post with
     | [],[]=>some (.sl r.ty size n xs)
     |_,_=>some (.wh pre r.ty size n xs post)
    |_=>none
   |none=>none
  |none=>none
theorem Dd{β:Env}{w:World}{t:TypeId}{i off:Nat}{row:Row}{sv:SV}{ob:Option Prop}(hb:aX β w i row)(h:cJ P t row off=.val sv ob):(loadVar t ⟨β i,off,none⟩).run P w=.ok (sv.den β) w:=by
 have ho:=ER (P:=P) (β:=β) (W:=w) (a:=⟨#[.pointer (some ⟨β i,off,none⟩)],[]⟩) (o:=⟨none,.load t (.tmp 0),0, "",#[],none⟩) (t:=t) (x:=.tmp 0) (off:=off) rfl rfl hb
 rw[h]at ho
 have ho:=ho (fun p hp=>by rw[De h]at hp;cases hp)
 simp only[execOp,Act.eval,Sem.run_bind]at ho
 rw[show((#[Value.pointer (some ⟨β i,off,none⟩)]:Array Value).getD 0 undef)=.pointer (some ⟨β i,off,none⟩)from rfl,pW]at ho
 cases hr:(loadVar t ⟨β i,off,none⟩).run P w with
 |ok u w'=>
  rw[hr]at ho
  simp only[Result.andThen_ok,Sem.run_pure]at ho
  injection ho with h1 h2
  injection h1 with h1
  rw[h1,h2]
 |halt x w'=>rw[hr]at ho;cases ho
theorem mZ{st:St}{β:Env}{a:Act}{w:World}(h:Hd ds w0 n β st a w){F:ResultVar→Sem Value}(hF:∀t,F (.tmp t)=pure (a.tmps.getD t undef))(hG:∀b t,F (.cell b t)=do loadVar t (←asAddr (a.tmps.getD b undef))):∀{l:List ResultVar} {vs:List SV},jK P st l=some vs→(l.mapM F).run P w=.ok (vs.map (SV.den β)) w
 | [],vs,hr=>by
  have:vs=[]:=by simpa[jK]using hr.symm
  subst this
  rfl
 |.tmp t::r,vs,hr=>by
  rw[jK]at hr
  split at hr
  ·rename_i v hv
   split at hr
   ·rename_i us hu
    cases hr
    have h1:=h.get t _ hv
    have ih:=mZ h hF hG hu
    rw[List.mapM_cons,hF]
    simp only[Sem.run_bind,Sem.run_pure,Result.andThen_ok,ih]
    simp[h1]
   ·cases hr
  ·cases hr
 |.cell b t::r,vs,hr=>by
  rw[jK]at hr
  split at hr
  ·rename_i i off hv
   split at hr
   ·rename_i row hrow
    split at hr
    ·rename_i v ob hl
     split at hr
     ·rename_i us hu
      cases hr
      have h1:=h.get b _ hv
      have ih:=mZ h hF hG hu
      have h2:=Dd (h.b9 i row hrow) hl
      have h3:a.tmps.getD b undef=.pointer (some ⟨β i,off,none⟩):=by simp[h1,SV.den]
      rw[List.mapM_cons,hG,h3]
      simp only[Sem.run_bind,asAddr,Sem.run_pure,Result.andThen_ok,h2,ih,List.map_cons]
     ·cases hr
    ·cases hr
   ·cases hr
  ·cases hr
theorem oU{β:Env}:∀{l:List SV} {vs:List Value},qV l=some vs→l.map (SV.den β)=vs
 | [],vs,h=>by
  have:vs=[]:=by simpa[qV]using h.symm
  subst this
  rfl
 |sv::r,vs,h=>by
  unfold qV at h
  split at h
  ·split at h
   ·rename_i l hl
    cases h
    rw[List.map_cons,oU hl]
    rfl
   ·cases h
  ·cases h
theorem wY{β:Env}:∀{l:List SV} {pre post:List Value} {i:Nat},Ey l=some (pre,i,post)→l.map (SV.den β)=pre++β.sl i::post
 |sv::r,pre,post,i,h=>by
  unfold Ey at h
  split at h
  ·split at h
   ·rename_i l i' q hl
    cases h
    rw[List.map_cons,wY hl]
    rfl
   ·cases h
  ·split at h
   ·rename_i q hq
    cases h
    rw[List.map_cons,oU hq]
    rfl
   ·cases h
  ·cases h
def mY(b:aU)(r:j6)(e:Ending)(w':World):Prop:=match r with
 |.val v=>e=.returned v∧ai b.S b.w w'
 |.sl T size n xs=>∃s,e=.returned s∧Own w' T size s n xs∧(∀k,s.ownBlock=some k→k∈b.S∨b.w.heap.size≤k)∧ai b.S b.w w'
 |.wh pre T size n xs post=>∃s,e=.returned (.tuple (pre++s::post).toArray)∧Own w' T size s n xs∧(∀k,s.ownBlock=some k→k∈b.S∨b.w.heap.size≤k)∧ai b.S b.w w'
theorem tZ{w w':World}{PP:List PanicEntry→World→Prop}{r:j6}{e:Ending}(h:mY ⟨w,[],PP⟩ r e w'):fU w r e w':=by
 cases r with
 |val v=>exact h
 |sl T size n xs=>
  obtain⟨s,he,ho,hk,hc⟩:=h
  exact⟨s,he,ho,fun k h=>(hk k h).resolve_left (by simp),hc⟩
 |wh pre T size n xs post=>
  obtain⟨s,he,ho,hk,hc⟩:=h
  exact⟨s,he,ho,fun k h=>(hk k h).resolve_left (by simp),hc⟩
theorem Ab{st:St}{β:Env}{a:Act}{w:World}{l:List SV}{r:j6}(h:Hd ds w0 n β st a w)(hr:rW st.mem l=some r):mY w0 r (.returned (lG (l.map (SV.den β)))) w:=by
 unfold rW at hr
 split at hr
 ·rename_i vs hvs
  cases hr
  rw[oU hvs]
  exact⟨rfl,h.aG⟩
 ·split at hr
  ·rename_i pre i post hown
   split at hr
   ·rename_i row hrow
    have hh:=h.b9 i row hrow
    have hnew:=h.new i row
    split at hr
    ·rename_i size nn xs hcs
     unfold aX at hh
     rw[hcs]at hh
     have hacc:Own w row.ty size (β.sl i) nn xs∧(∀k,(β.sl i).ownBlock=some k→k∈w0.S∨w0.w.heap.size≤k)∧ai w0.S w0.w w:=by
      refine⟨by unfold Env.sl;rw[hh.1];exact hh.2,fun k hk=>hnew k hrow ?_,h.aG⟩
      unfold av
      rw[hcs]
      rw[←hk,←oh (n:=β.n i)]
      rfl
     rw[wY hown]
     split at hr
     ·cases hr
      exact⟨_,rfl,hacc⟩
     ·rename_i hne
      cases hr
      refine⟨_,?_,hacc⟩
      cases pre with
      |nil=>cases post with
       |nil=>exact absurd rfl (hne rfl)
       |cons x y=>rfl
      |cons x y=>cases y<;>rfl
    ·cases hr
   ·cases hr
  ·cases hr
def zi(P:Program)(fn:Func)(R:j6→Prop):Exit→St→Prop
 |.normal,st=>match jK P st fn.results.toList with
  |some l=>match rW st.mem l with
   |some r=>R r
   |none=>cF st
  |none=>cF st
 |.ret,st=>match jK P st fn.results.toList with
  |some l=>match rW st.mem l with
   |some r=>R r
   |none=>cF st
  |none=>cF st
 |_,_=>False
def LV(R:Value→Prop):j6→Prop
 |.val v=>R v
 |_=>False
def atEnd(P:Program)(fn:Func)(R:Value→Prop):Exit→St→Prop:=zi P fn (LV R)
theorem K4{fn:Func}{R:j6→Prop}{e:Exit}{a:Act}{w:World}(h:lift [] w0 n (zi P fn R) e a w):bodyPost P fn (fun e w'=>(∃r,R r∧mY w0 r e w')∨∃chain,e=.panicked chain∧w0.PP chain w'∧ai w0.S w0.w w') e a w:=by
 have main:∀{β st},Hd [] w0 n β st a w→(match jK P st fn.results.toList with|some l=>(match rW st.mem l with|some r=>R r|none=>cF st)|none=>cF st:Prop)→a.defers=[]∧∃v,(results fn a.tmps).run P w=.ok v w∧((∃r,R r∧mY w0 r (.returned v) w)∨∃chain,Ending.returned v=.panicked chain∧w0.PP chain w∧ai w0.S w0.w w):=by
  intro β st h hk
  split at hk
  ·rename_i l hl
   split at hk
   ·rename_i r hr
    refine⟨h.dn,lG (l.map (SV.den β)),?_,.inl ⟨r,hk,Ab h hr⟩⟩
    unfold results
    rw[Array.mapM_eq_mapM_toList]
    simp only[Sem.run_bind,map_eq_pure_bind,Sem.run_pure]
    rw[mZ (P:=P) h (fun _=>rfl) (fun _ _=>rfl) hl]
    simp only[Result.andThen_ok]
    congr 1
    generalize l.map (SV.den β)=vs
    match vs with
    | []=>rfl
    | [v]=>rfl
    |v::u::r=>simp[lG]
   ·exact nomatch hk
  ·exact nomatch hk
 cases e with
 |normal=>obtain⟨β,st,hk,h⟩:=h;exact main h hk
 |ret=>obtain⟨β,st,hk,h⟩:=h;exact main h hk
 |exit _=>obtain⟨_,_,hk,_⟩:=h;exact hk.elim
 |goto _=>obtain⟨_,_,hk,_⟩:=h;exact hk.elim
 |panic chain=>exact⟨h.1,.inr ⟨chain,rfl,h.2⟩⟩
 |outgrown=>obtain⟨_,_,hk,_⟩:=h;exact hk.elim
theorem xN{w0:World}{f:FuncId}{fn:Func}{c:Code}{args:List Value}{R:j6→Prop}(H:List (Nat×Hint))(L:List Loop)(hm:P.follows .mixedOrders=true)(hf:P.funcs[f]?=some fn)(hb:fn.body=some c)(hn:args.length≤fn.ntmps)
  (hx:ex P fn.ntmps w0 c H L ⟨vU 0 args,[]⟩ (zi P fn R)):Calls P f args.toArray w0 fun e w'=>∃r,R r∧fU w0 r e w':=by
 refine(calls_of_wp hf hb (Code.wp_mono (fun e a w hq=>K4 hq) (jc (w0:=⟨w0,[],fun _ _=>False⟩) (n:=fn.ntmps) hm c H L _ _ ⟨fun _=>0,fun _=>none,fun _=>0,fun _=>0⟩ _ w0 ?_ hx))).mono fun e w' hq=>by
  rcases hq with⟨r,hr,hp⟩ | ⟨chain,_,hp,_⟩
  ·exact⟨r,hr,tZ hp⟩
  ·exact hp.elim
 refine⟨by simp;omega,rfl,fun t sv ht=>?_,fun i r hi=>by simp at hi,fun i r k hi=>by simp at hi,fun i j r r' k hi=>by simp at hi,ai.refl _ _,fun t sv ht=>?_,fun i r hi=>by simp at hi⟩
 ·obtain⟨v,rfl,_,hv⟩:=pg ht
  have hlt:t < args.length:=(List.getElem?_eq_some_iff.1 hv).1
  rw[Array.getElem?_append_left (by simpa using hlt)]
  simpa[SV.den]using hv
 ·obtain⟨v,rfl,_⟩:=pg ht
  trivial
theorem Ha{w0:World}{f:FuncId}{fn:Func}{c:Code}{args:List Value}{u:j6}(H:List (Nat×Hint))(L:List Loop)(hm:P.follows .mixedOrders=true)(hf:P.funcs[f]?=some fn)(hb:fn.body=some c)(hn:args.length≤fn.ntmps)
  (hx:ex P fn.ntmps w0 c H L ⟨vU 0 args,[]⟩ (zi P fn fun v=>v=u)):Calls P f args.toArray w0 (fU w0 u):=
 (xN H L hm hf hb hn hx).mono fun _ _ ⟨_,he,hp⟩=>he ▸ hp
theorem KO{w0:World}{f:FuncId}{fn:Func}{c:Code}{args:List Value}{R:Value→Prop}(H:List (Nat×Hint))(L:List Loop)(hm:P.follows .mixedOrders=true)(hf:P.funcs[f]?=some fn)(hb:fn.body=some c)(hn:args.length≤fn.ntmps)
  (hx:ex P fn.ntmps w0 c H L ⟨vU 0 args,[]⟩ (atEnd P fn R)):Calls P f args.toArray w0 fun e w'=>∃v,e=.returned v∧R v∧ai [] w0 w':=
 (xN H L hm hf hb hn hx).mono fun e w' ⟨r,hr,hp⟩=>by
  cases r with
  |val v=>exact⟨v,hp.1,hr,hp.2⟩
  |sl _ _ _ _=>exact hr.elim
  |wh _ _ _ _ _ _=>exact hr.elim
theorem aF{w0:World}{f:FuncId}{fn:Func}{c:Code}{args:List Value}{u:Value}(H:List (Nat×Hint))(L:List Loop)(hm:P.follows .mixedOrders=true)(hf:P.funcs[f]?=some fn)(hb:fn.body=some c)(hn:args.length≤fn.ntmps)
  (hx:ex P fn.ntmps w0 c H L ⟨vU 0 args,[]⟩ (atEnd P fn fun v=>v=u)):Calls P f args.toArray w0 (Rn w0 u):=
 (KO H L hm hf hb hn hx).mono fun _ _ ⟨_,he,hv,hc⟩=>⟨by rw[he,hv],hc⟩
def kt:List Row→List (Nat×TypeId×List Value)
 | []=>[]
 |r::l=>match r.cs with
  |.dF g cs=>(g,r.ty,cs)::kt l
  |_=>kt l
theorem su:∀{mem:List Row} {q:Nat×TypeId×List Value},q∈kt mem→∃(i:Nat) (r:Row),mem[i]?=some r∧r.ty=q.2.1∧r.cs=.dF q.1 q.2.2
 | [],_,h=>by cases h
 |r::l,q,h=>by
  have tail:q∈kt l→∃(i:Nat) (r':Row),(r::l)[i]?=some r'∧r'.ty=q.2.1∧r'.cs=.dF q.1 q.2.2:=fun h=>by
   obtain⟨i,r',h1,h2⟩:=su h
   exact⟨i+1,r',by simpa using h1,h2⟩
  unfold kt at h
  split at h
  ·rename_i g cs hcs
   rcases List.mem_cons.1 h with rfl|h
   ·exact⟨0,r,rfl,rfl,hcs⟩
   ·exact tail h
  ·exact tail h
def zj(P:Program)(fn:Func)(R:j6→List (Nat×TypeId×List Value)→Prop):Exit→St→Prop
 |.normal,st=>match jK P st fn.results.toList with
  |some l=>match rW st.mem l with
   |some r=>R r (kt st.mem)
   |none=>cF st
  |none=>cF st
 |.ret,st=>match jK P st fn.results.toList with
  |some l=>match rW st.mem l with
   |some r=>R r (kt st.mem)
   |none=>cF st
  |none=>cF st
 |_,_=>False
def ew(b:aU)(R:j6→List (Nat×TypeId×List Value)→Prop)(e:Ending)(w':World):Prop:=
 (∃r gl,R r gl∧mY b r e w'∧∀q∈gl,au w' q.1 q.2.1 q.2.2)∨∃chain,e=.panicked chain∧b.PP chain w'∧ai b.S b.w w'
theorem Hg{fn:Func}{R:j6→List (Nat×TypeId×List Value)→Prop}{e:Exit}{a:Act}{w:World}(h:lift [] w0 n (zj P fn R) e a w):bodyPost P fn (ew w0 R) e a w:=by
 have main:∀{β st},Hd [] w0 n β st a w→(match jK P st fn.results.toList with|some l=>(match rW st.mem l with|some r=>R r (kt st.mem)|none=>cF st)|none=>cF st:Prop)→a.defers=[]∧∃v,(results fn a.tmps).run P w=.ok v w∧ew w0 R (.returned v) w:=by
  intro β st h hk
  split at hk
  ·rename_i l hl
   split at hk
   ·rename_i r hr
    refine⟨h.dn,lG (l.map (SV.den β)),?_,.inl ⟨r,_,hk,Ab h hr,fun q hq=>?_⟩⟩
    ·unfold results
     rw[Array.mapM_eq_mapM_toList]
     simp only[Sem.run_bind,map_eq_pure_bind,Sem.run_pure]
     rw[mZ (P:=P) h (fun _=>rfl) (fun _ _=>rfl) hl]
     simp only[Result.andThen_ok]
     congr 1
     generalize l.map (SV.den β)=vs
     match vs with
     | []=>rfl
     | [v]=>rfl
     |v::u::r=>simp[lG]
    ·obtain⟨i,r',hi,hty,hcs⟩:=su hq
     have hh:=h.b9 i r' hi
     unfold aX at hh
     rw[hcs]at hh
     rw[←hty]
     have h2:=hh.2
     rw[hh.1]at h2
     exact h2
   ·exact nomatch hk
  ·exact nomatch hk
 cases e with
 |normal=>obtain⟨β,st,hk,h⟩:=h;exact main h hk
 |ret=>obtain⟨β,st,hk,h⟩:=h;exact main h hk
 |exit _=>obtain⟨_,_,hk,_⟩:=h;exact hk.elim
 |goto _=>obtain⟨_,_,hk,_⟩:=h;exact hk.elim
 |panic chain=>exact⟨h.1,.inr ⟨chain,rfl,h.2⟩⟩
 |outgrown=>obtain⟨_,_,hk,_⟩:=h;exact hk.elim
def mz:Nat→List SV→List (Nat×SV)
 |_,[]=>[]
 |k,v::r=>(k,v)::mz (k+1) r
def Sw(m:Nat):SV→Bool
 |.val _=>true
 |.ptr i _=>Nat.blt i m
 |_=>false
theorem gE:∀{vs:List SV} {k t:Nat} {sv:SV},look (mz k vs) t=some sv→k≤t∧vs[t - k]?=some sv
 |v::r,k,t,sv,h=>by
  rw[mz,fL]at h
  split at h
  ·rename_i hk
   rw[cg h]
   exact⟨by omega,by rw[show t - k=0 by omega]; rfl⟩
  ·obtain⟨h2,h3⟩:=gE h
   refine⟨by omega,?_⟩
   rw[show t - k=(t - (k+1))+1 by omega,List.getElem?_cons_succ]
   exact h3
def pZ(G:List (Nat×TypeId×List Value)):List Row:=G.map fun q=>⟨q.2.1,.dF q.1 q.2.2⟩
def y7(G:List (Nat×TypeId×List Value)):Env:=⟨fun i=>match G[i]? with
 |some q=>q.1
 |none=>0,fun _=>none,fun _=>0,fun _=>0⟩
theorem dx{w:World}{f:FuncId}{fn:Func}{c:Code}(G:List (Nat×TypeId×List Value))(hG:∀q∈G,au w q.1 q.2.1 q.2.2)(hd:(G.map (·.1)).Nodup)(PP:List PanicEntry→World→Prop){args:List SV}{R:j6→List (Nat×TypeId×List Value)→Prop}
  (H:List (Nat×Hint)) (L:List Loop) (hm:P.follows .mixedOrders=true) (hf:P.funcs[f]?=some fn) (hb:fn.body=some c) (hn:args.length≤fn.ntmps) (ha:fj (Sw G.length) args=true)
  (hx:jU P fn.ntmps ⟨w,G.map (·.1),PP⟩ c H L ⟨mz 0 args,pZ G⟩ (zj P fn R)):Calls P f (args.map (SV.den (y7 G))).toArray w (ew ⟨w,G.map (·.1),PP⟩ R):=by
 have rowAt:∀(i:Nat) (r:Row),(pZ G)[i]?=some r→∃q,G[i]?=some q∧r=⟨q.2.1,.dF q.1 q.2.2⟩:=fun i r hi=>by
  unfold pZ at hi
  rw[List.getElem?_map]at hi
  cases hq:G[i]? with
  |none=>rw[hq]at hi;cases hi
  |some q=>rw[hq]at hi;exact⟨q,rfl,by simpa using hi.symm⟩
 have envAt:∀(i:Nat) (q:Nat×TypeId×List Value),G[i]?=some q→(y7 G) i=q.1:=fun i q hq=>by
  show(match G[i]? with|some q=>q.1|none=>0)=q.1
  rw[hq]
 refine calls_of_wp hf hb (Code.wp_mono (fun e a w hq=>Hg hq) (jc (w0:=⟨w,G.map (·.1),PP⟩) (n:=fn.ntmps) hm c H L _ _ (y7 G) _ w ?_ hx))
 have blkAt:∀(i:Nat) (r:Row) (k:Nat),(pZ G)[i]?=some r→av (y7 G) i r=some k→∃q,G[i]?=some q∧k=q.1:=fun i r k hi hk=>by
  obtain⟨q,hq,rfl⟩:=rowAt i r hi
  refine⟨q,hq,?_⟩
  have:some ((y7 G) i)=some k:=hk
  rw[envAt i q hq]at this
  exact(Option.some.inj this).symm
 refine⟨by simp;omega,rfl,fun t sv ht=>?_,fun i r hi=>?_,fun i r k hi hk=>?_,fun i j r r' k hi hj hk hk'=>?_,ai.refl _ _,fun t sv ht=>?_,fun i r hi=>?_⟩
 ·obtain⟨_,hv⟩:=gE ht
  have hlt:t < args.length:=(List.getElem?_eq_some_iff.1 hv).1
  rw[Array.getElem?_append_left (by simpa using hlt)]
  simp only[Nat.sub_zero]at hv
  simp[hv]
 ·obtain⟨q,hq,rfl⟩:=rowAt i r hi
  show(y7 G) i=q.1∧au w ((y7 G) i) q.2.1 q.2.2
  rw[envAt i q hq]
  exact⟨rfl,hG q (List.mem_of_getElem? hq)⟩
 ·obtain⟨q,hq,rfl⟩:=blkAt i r k hi hk
  exact .inl (List.mem_map.2 ⟨q,List.mem_of_getElem? hq,rfl⟩)
 ·obtain⟨q,hq,rfl⟩:=blkAt i r k hi hk
  obtain⟨q',hq',he⟩:=blkAt j r' _ hj hk'
  have h1:(G.map (·.1))[i]?=some q.1:=by rw[List.getElem?_map,hq];rfl
  have h2:(G.map (·.1))[j]?=some q.1:=by rw[List.getElem?_map,hq',he];rfl
  obtain⟨l1,e1⟩:=List.getElem?_eq_some_iff.1 h1
  obtain⟨l2,e2⟩:=List.getElem?_eq_some_iff.1 h2
  have e:=e1.trans e2.symm
  have hp:=List.pairwise_iff_getElem.1 hd
  exact Decidable.byContradiction fun hne=>by
   rcases Nat.lt_or_gt_of_ne hne with hl|hl
   ·exact hp _ _ l1 l2 hl e
   ·exact hp _ _ l2 l1 hl e.symm
 ·obtain⟨_,hv⟩:=gE ht
  have:=aT ha sv (List.mem_of_getElem? hv)
  cases sv with
  |val v=>trivial
  |ptr i off=>
   have h:i < G.length:=Nat.le_of_ble_eq_true this
   show i < (pZ G).length
   unfold pZ
   rw[List.length_map]
   exact h
  |mP _ _ _ _=>cases this
  |own _=>cases this
  |lV _ _=>cases this
  |wh _ _ _=>cases this
  |kQ _ _ _ _=>cases this
  |gone=>cases this
  |dD _=>cases this
  |Fm _ _=>cases this
  |kT _ _ _=>cases this
  |oE _=>cases this
  |eG _ _ _=>cases this
 ·obtain⟨q,_,rfl⟩:=rowAt i r hi
  trivial
structure Rows(b:aU)(β:Env)(w:World)(mem:List Row):Prop where
 held:∀(i:Nat) (r:Row),mem[i]?=some r→aX β w i r
 new:∀(i:Nat) (r:Row) (k:Nat),mem[i]?=some r→av β i r=some k→k∈b.S∨b.w.heap.size≤k
 inj:∀(i j:Nat) (r r':Row) (k:Nat),mem[i]?=some r→mem[j]?=some r'→av β i r=some k→av β j r'=some k→i=j
 aG:ai b.S b.w w
def bY(P:Program)(fn:Func)(R:List SV→List Row→Prop):Exit→St→Prop
 |.normal,st=>match jK P st fn.results.toList with
  |some l=>R l st.mem
  |none=>cF st
 |.ret,st=>match jK P st fn.results.toList with
  |some l=>R l st.mem
  |none=>cF st
 |_,_=>False
def cq(b:aU)(R:List SV→List Row→Prop)(e:Ending)(w':World):Prop:=
 (∃β l mem,R l mem∧e=.returned (lG (l.map (SV.den β)))∧Rows b β w' mem)∨∃chain,e=.panicked chain∧b.PP chain w'∧ai b.S b.w w'
theorem xP{fn:Func}{R:List SV→List Row→Prop}{e:Exit}{a:Act}{w:World}(h:lift [] w0 n (bY P fn R) e a w):bodyPost P fn (cq w0 R) e a w:=by
 have main:∀{β st},Hd [] w0 n β st a w→(match jK P st fn.results.toList with|some l=>R l st.mem|none=>cF st:Prop)→a.defers=[]∧∃v,(results fn a.tmps).run P w=.ok v w∧cq w0 R (.returned v) w:=by
  intro β st h hk
  split at hk
  ·rename_i l hl
   refine⟨h.dn,lG (l.map (SV.den β)),?_,.inl ⟨β,l,st.mem,hk,rfl,⟨h.b9,h.new,h.inj,h.aG⟩⟩⟩
   unfold results
   rw[Array.mapM_eq_mapM_toList]
   simp only[Sem.run_bind,map_eq_pure_bind,Sem.run_pure]
   rw[mZ (P:=P) h (fun _=>rfl) (fun _ _=>rfl) hl]
   simp only[Result.andThen_ok]
   congr 1
   generalize l.map (SV.den β)=vs
   match vs with
   | []=>rfl
   | [v]=>rfl
   |v::u::r=>simp[lG]
  ·exact nomatch hk
 cases e with
 |normal=>obtain⟨β,st,hk,h⟩:=h;exact main h hk
 |ret=>obtain⟨β,st,hk,h⟩:=h;exact main h hk
 |exit _=>obtain⟨_,_,hk,_⟩:=h;exact hk.elim
 |goto _=>obtain⟨_,_,hk,_⟩:=h;exact hk.elim
 |panic chain=>exact⟨h.1,.inr ⟨chain,rfl,h.2⟩⟩
 |outgrown=>obtain⟨_,_,hk,_⟩:=h;exact hk.elim
theorem aZ{w:World}{f:FuncId}{fn:Func}{c:Code}{S:List Nat}{PP:List PanicEntry→World→Prop}{β:Env}{mem:List Row}{args:List SV}{R:List SV→List Row→Prop}(hF:Rows ⟨w,S,PP⟩ β w mem)
  (H:List (Nat×Hint)) (L:List Loop) (hm:P.follows .mixedOrders=true) (hf:P.funcs[f]?=some fn) (hb:fn.body=some c) (hn:args.length≤fn.ntmps) (hw:(fj (fun r=>mn mem.length r.cs) mem&&fj (zJ mem.length) args)=true)
  (hx:jU P fn.ntmps ⟨w,S,PP⟩ c H L ⟨mz 0 args,mem⟩ (bY P fn R)):Calls P f (args.map (SV.den β)).toArray w (cq ⟨w,S,PP⟩ R):=by
 rw[Bool.and_eq_true]at hw
 refine calls_of_wp hf hb (Code.wp_mono (fun e a w hq=>xP hq) (jc (w0:=⟨w,S,PP⟩) (n:=fn.ntmps) hm c H L _ _ β _ w ?_ hx))
 refine⟨by simp;omega,rfl,fun t sv ht=>?_,hF.held,hF.new,hF.inj,hF.aG,fun t sv ht=>?_,fun i r hi=>?_⟩
 ·obtain⟨_,hv⟩:=gE ht
  have hlt:t < args.length:=(List.getElem?_eq_some_iff.1 hv).1
  rw[Array.getElem?_append_left (by simpa using hlt)]
  simp only[Nat.sub_zero]at hv
  simp[hv]
 ·obtain⟨_,hv⟩:=gE ht
  exact nU (aT hw.2 sv (List.mem_of_getElem? hv))
 ·exact jW (aT hw.1 r (List.mem_of_getElem? hi))
inductive kF where
 |b9 (g:Nat) (T:TypeId) (cs:List Value)
 |nM (g:Nat) (T:TypeId) (cs:List SV)
 |own (T size:Nat) (A:Option Addr) (n c:Nat) (xs:List Value)
def kF.row:kF→Row
 |.b9 g T cs=>⟨T,.dF g cs⟩
 |.nM g T cs=>⟨T,.jR g cs⟩
 |.own T size _ n _ xs=>⟨T,.own size n xs⟩
def kF.block:kF→Option Nat
 |.b9 g _ _=>some g
 |.nM g _ _=>some g
 |.own _ _ A _ _ _=>A.map (·.block)
def kF.KX:Option kF→Nat
 |some (.b9 g _ _)=>g
 |some (.nM g _ _)=>g
 |_=>0
def kF.cH:Option kF→Option Addr
 |some (.own _ _ A _ _ _)=>A
 |_=>none
def kF.TK:Option kF→Nat
 |some (.own _ _ _ n _ _)=>n
 |_=>0
def kF.cap:Option kF→Nat
 |some (.own _ _ _ _ c _)=>c
 |_=>0
def cU(G:List kF):Env:=⟨fun i=>kF.KX G[i]?,fun i=>kF.cH G[i]?,fun i=>kF.TK G[i]?,fun i=>kF.cap G[i]?⟩
def kF.Ok(β:Env)(w:World):kF→Prop
 |.b9 g T cs=>au w g T cs
 |.nM g T cs=>au w g T (cs.map (SV.den β))
 |.own T size A n c xs=>Own w T size (.slice A n c) n xs
theorem gP{w:World}{S:List Nat}{PP:List PanicEntry→World→Prop}{G:List kF}(h:∀q∈G,q.Ok (cU G) w)(hS:∀q∈G,∀k,q.block=some k→k∈S)(hd:(G.filterMap kF.block).Nodup):Rows ⟨w,S,PP⟩ (cU G) w (G.map kF.row):=by
 have at_:∀(i:Nat) (r:Row),(G.map kF.row)[i]?=some r→∃q,G[i]?=some q∧q∈G∧r=q.row:=fun i r hi=>by
  rw[List.getElem?_map]at hi
  cases hq:G[i]? with
  |none=>rw[hq]at hi;cases hi
  |some q=>rw[hq]at hi;exact⟨q,rfl,List.mem_of_getElem? hq,by simpa using hi.symm⟩
 have Oj:∀(i:Nat) (q:kF) (k:Nat),G[i]?=some q→av (cU G) i q.row=some k→q.block=some k:=fun i q k hq hk=>by
  cases q with
  |b9 g T cs=>
   have:some ((cU G) i)=some k:=hk
   rw[←this]
   show some g=some (kF.KX G[i]?)
   rw[hq];rfl
  |nM g T cs=>
   have:some ((cU G) i)=some k:=hk
   rw[←this]
   show some g=some (kF.KX G[i]?)
   rw[hq];rfl
  |own T size A n c xs=>
   have h:((cU G).a i).map (·.block)=some k:=hk
   rw[←h]
   show A.map _=(kF.cH G[i]?).map _
   rw[hq];rfl
 refine⟨fun i r hi=>?_,fun i r k hi hk=>?_,fun i j r r' k hi hj hk hk'=>?_,ai.refl _ _⟩
 ·obtain⟨q,hq,hm,rfl⟩:=at_ i r hi
  have:=h q hm
  cases q with
  |b9 g T cs=>
   have e:(cU G) i=g:=by show kF.KX G[i]?=g;rw[hq];rfl
   show(cU G) i=g∧au w ((cU G) i) T cs
   rw[e];exact⟨rfl,this⟩
  |nM g T cs=>
   have e:(cU G) i=g:=by show kF.KX G[i]?=g;rw[hq];rfl
   show(cU G) i=g∧au w ((cU G) i) T (cs.map (SV.den (cU G)))
   rw[e];exact⟨rfl,this⟩
  |own T size A n c xs=>
   show(cU G).n i=n∧Own w T size (.slice ((cU G).a i) n ((cU G).c i)) n xs
   have e1:(cU G).n i=n:=by show kF.TK G[i]?=n;rw[hq];rfl
   have e2:(cU G).a i=A:=by show kF.cH G[i]?=A;rw[hq];rfl
   have e3:(cU G).c i=c:=by show kF.cap G[i]?=c;rw[hq];rfl
   rw[e1,e2,e3]
   exact⟨rfl,this⟩
 ·obtain⟨q,hq,hm,rfl⟩:=at_ i r hi
  exact .inl (hS q hm k (Oj i q k hq hk))
 ·obtain⟨q,hq,hm,rfl⟩:=at_ i r hi
  obtain⟨q',hq',hm',rfl⟩:=at_ j r' hj
  have h1:=Oj i q k hq hk
  have h2:=Oj j q' k hq' hk'
  have key:∀(l:List kF) (i j:Nat),(l.filterMap kF.block).Nodup→∀a b,l[i]?=some a→l[j]?=some b→a.block=some k→b.block=some k→i=j:=by
   intro l
   induction l with
   |nil=>intro i j _ a b ha;simp at ha
   |cons x l ih=>
    intro i j hn a b ha hb hak hbk
    have noK:x.block=some k→∀(m:Nat) (c:kF),l[m]?=some c→c.block=some k→False:=fun hx m c hc hck=>by
     rw[List.filterMap_cons,hx]at hn
     exact(List.nodup_cons.1 hn).1 (List.mem_filterMap.2 ⟨c,List.mem_of_getElem? hc,hck⟩)
    have hn':(l.filterMap kF.block).Nodup:=by
     rw[List.filterMap_cons]at hn
     split at hn
     ·exact hn
     ·exact(List.nodup_cons.1 hn).2
    cases i with
    |zero=>
     have ha:x=a:=by simpa using ha
     subst ha
     cases j with
     |zero=>rfl
     |succ j=>exact(noK hak j b (by simpa using hb) hbk).elim
    |succ i=>
     cases j with
     |zero=>
      have hb:x=b:=by simpa using hb
      subst hb
      exact(noK hbk i a (by simpa using ha) hak).elim
     |succ j=>rw[ih i j hn' a b (by simpa using ha) (by simpa using hb) hak hbk]
  exact key G i j hd q q' hq hq' h1 h2
theorem du{β:Env}{W w':World}{row:Nat→Option Row}{m:Nat}{g:cC}{v:Value}{e:Ending}(hn:g.new=[])(hr:g.ret=.val v)(he:e=.returned v)(hu:∀q∈g.gk,aX β w' q.1 q.2)(hc:ai (g.ec β row) W w'):Cf β W row m g e w' β:=
 ⟨fun _ _=>⟨rfl,rfl,rfl,rfl⟩,by rw[he,hr];rfl,hu,fun k r h=>by rw[hn]at h;simp at h,fun k r x h=>by rw[hn]at h;simp at h,fun k k' r r' x h=>by rw[hn]at h;simp at h,hc⟩
def nL:Code→List Code
 |.seq x y=>nL x++nL y
 |.cond _ x y=>nL x++nL y
 |.block _ c=>nL c
 |.scope c=>nL c
 |.loop c=>[c]
 |_=>[]
def aQ(fn:Func)(i:Nat):Code:=match fn.body with
 |some c=>(nL c).getD i .skip
 |none=>.skip
def inBody(c:Code)(i:Nat):Code:=(nL c).getD i .skip
def Uc(b:Bool)(X Y:Prop):Prop:=match b with
 |true=>X
 |false=>Y
theorem aw{b:Bool}{X Y:Prop}(hx:b=true→X)(hy:b=false→Y):Uc b X Y:=by
 cases b with
 |true=>exact hx rfl
 |false=>exact hy rfl
end
end Sx
end Go.Proofs.YtnncigmpcdehnaaGreatDoor
