import Derived.Test.YtnncigmpcdehnaaGreatDoorQb10
namespace Go.Proofs.YtnncigmpcdehnaaGreatDoor
open Go Go.RowKit Go.Lib Go.Sort
namespace Sx
structure iz where
 sv:SV
 EJ:List Nat
 wr:Option (Nat×Row)
 nw:Option (Nat×Row)
def zF(mem:List Row)(en:iz):List Row:=match en.wr with
 |some (i,r)=>mem.set i r
 |none=>mem
def BW(mem:List Row)(en:iz):List Row:=match en.nw with
 |some (_,r)=>zF mem en++[r]
 |none=>zF mem en
theorem ig{mem:List Row}{en:iz}:(zF mem en).length=mem.length:=by
 unfold zF
 split
 ·simp
 ·rfl
def da(n:Nat)(st:St)(o:Oper)(en:iz):St:=(⟨st.fr,BW st.mem en⟩:St).put n o.dst en.sv
section
variable(P:Program)(H:List (Nat×Hint))(n:Nat)(w0:bw)(ops:Array Oper)
def jJ(t:List Nat):iz:=⟨.gone,t,none,none⟩
def KM(D:List Nat)(o:Oper):Bool:=match D with
 | []=>false
 |_=>o.after.toList.any fun e=>Region.binds .any e&&xZ e.on D
def nR:Cells→Bool
 |.ag _=>true
 |.cY _ _=>true
 |_=>false
def u5(g:cH):Option (Value×Option (Nat×Row)):=match g.kill with
 | []=>match g.new with
  | []=>match g.ret with
   |.val v=>match g.gb with
    | []=>some (v,none)
    | [q]=>match nR q.2.cs with
     |true=>some (v,some q)
     |false=>none
    |_=>none
   |_=>none
  |_=>none
 |_=>none
def Br(p:Prop):Prop:=p
def M5(p:Option Prop)(A B:Prop):Prop:=match p with
 |none=>A
 |some q=>Br (q→A)∧(¬q→B)
def fM:List Oper→Nat→St→List iz→List Nat→(List iz→St→List Nat→Prop)→Prop
 | [],_,st,acc,D,K=>K acc st D
 |o::l,j,st,acc,D,K=>match KM D o with
  |true=>fM l (j+1) (da n st o (jJ [])) (acc++[jJ []]) (j::D) K
  |false=>match guardOf ops st.fr o with
   |some true=>match yI P H (ev st.fr) o with
    |.val sv=>fM l (j+1) (da n st o ⟨sv,[],none,none⟩) (acc++[⟨sv,[],none,none⟩]) D K
    |.call f args g=>match GG st.mem g with
     |true=>match u5 g with
      |some p=>Tag (keyOf o) (∀W β,cw w0 β W (rowAt st.mem) g.fS→Calls P f (args.map (SV.den β)).toArray W (a7 w0 β W (rowAt st.mem) st.mem.length g))∧M5 g.FF (fM l (j+1) (da n st o ⟨.val p.1,g.fS,p.2,none⟩) (acc++[⟨.val p.1,g.fS,p.2,none⟩]) D K) (fM l (j+1) (da n st o (jJ g.fS)) (acc++[jJ g.fS]) (j::D) K)
      |none=>cF o
     |false=>cF o
    |.cC _ _ _=>cF o
    |.CJ _ _ _=>cF o
    |.no=>match fg P w0 H (hint H o.dst) (ev st.fr) (rowAt st.mem) o with
     |.val sv ob=>nB o ob (fM l (j+1) (da n st o ⟨sv,aF (ev st.fr) o,none,none⟩) (acc++[⟨sv,aF (ev st.fr) o,none,none⟩]) D K)
     |.call f args v=>Tag (keyOf o) (∀W,aw w0.S w0.w W→Calls P f args.toArray W fun e w'=>e=.returned v∧aw [] W w')∧fM l (j+1) (da n st o ⟨.val v,aF (ev st.fr) o,none,none⟩) (acc++[⟨.val v,aF (ev st.fr) o,none,none⟩]) D K
     |.alloc t cs ln=>fM l (j+1) (da n st o ⟨k6 st.mem.length ln,aF (ev st.fr) o,none,some (st.mem.length,⟨t,cs⟩)⟩) (acc++[⟨k6 st.mem.length ln,aF (ev st.fr) o,none,some (st.mem.length,⟨t,cs⟩)⟩]) D K
     |.store i r ob=>nB o ob (fM l (j+1) (da n st o ⟨.val undef,aF (ev st.fr) o,some (i,r),none⟩) (acc++[⟨.val undef,aF (ev st.fr) o,some (i,r),none⟩]) D K)
     |.eb i r ob=>nB o ob (fM l (j+1) (da n st o ⟨.val undef,aF (ev st.fr) o,some (i,r),none⟩) (acc++[⟨.val undef,aF (ev st.fr) o,some (i,r),none⟩]) D K)
     |.grow kill t size nn xs ob=>nB o ob (fM l (j+1) (da n st o ⟨.own st.mem.length,aF (ev st.fr) o,kill.map (·,aa),some (st.mem.length,⟨t,.own size nn xs⟩)⟩) (acc++[⟨.own st.mem.length,aF (ev st.fr) o,kill.map (·,aa),some (st.mem.length,⟨t,.own size nn xs⟩)⟩]) D K)
     |.dP f args r=>Tag (keyOf o) (∀W,aw w0.S w0.w W→gx (rowAt st.mem) W args fun vs=>Calls P f vs.toArray W (gn W r))∧fM l (j+1) (da n st o ⟨gH st.mem.length r,aF (ev st.fr) o,none,(iC r).map (st.mem.length,·)⟩) (acc++[⟨gH st.mem.length r,aF (ev st.fr) o,none,(iC r).map (st.mem.length,·)⟩]) D K
     |.fp f i r=>Tag (keyOf o) (∀W,aw w0.S w0.w W→A9 (rowAt st.mem) W i fun s=>Calls P f #[s] W (oO W s r))∧fM l (j+1) (da n st o ⟨gH st.mem.length r,aF (ev st.fr) o,some (i,aa),(iC r).map (st.mem.length,·)⟩) (acc++[⟨gH st.mem.length r,aF (ev st.fr) o,some (i,aa),(iC r).map (st.mem.length,·)⟩]) D K
     |.eJ f args x=>match x with
      |.gb p i row v=>Tag (keyOf o) (∀W,aw w0.S w0.w W→gx (rowAt st.mem) W args fun vs=>Calls P f vs.toArray W (ui w0 W vs (.gb p i row v)))∧fM l (j+1) (da n st o ⟨.val v,aF (ev st.fr) o,some (i,row),none⟩) (acc++[⟨.val v,aF (ev st.fr) o,some (i,row),none⟩]) D K
      |.Dg _=>cF o
     |.bad=>cF o
   |some false=>fM l (j+1) (da n st o ⟨.val undef,[],none,none⟩) (acc++[⟨.val undef,[],none,none⟩]) D K
   |none=>cF o
def zy(st:St)(o:Oper)(en:iz):Prop:=
 (guardOf ops st.fr o=some false∧en=⟨.val undef,[],none,none⟩)∨
 (guardOf ops st.fr o=some true∧match yI P H (ev st.fr) o with
  |.val sv=>en=⟨sv,[],none,none⟩
  |.call f args g=>∃p,u5 g=some p∧GG st.mem g=true∧(∀W β,cw w0 β W (rowAt st.mem) g.fS→Calls P f (args.map (SV.den β)).toArray W (a7 w0 β W (rowAt st.mem) st.mem.length g))∧(∀q,g.FF=some q→q)∧en=⟨.val p.1,g.fS,p.2,none⟩
  |.cC _ _ _=>False
  |.CJ _ _ _=>False
  |.no=>match fg P w0 H (hint H o.dst) (ev st.fr) (rowAt st.mem) o with
   |.val sv ob=>(∀p,ob=some p→p)∧en=⟨sv,aF (ev st.fr) o,none,none⟩
   |.call f args v=>(∀W,aw w0.S w0.w W→Calls P f args.toArray W fun e w'=>e=.returned v∧aw [] W w')∧en=⟨.val v,aF (ev st.fr) o,none,none⟩
   |.alloc t cs ln=>en=⟨k6 st.mem.length ln,aF (ev st.fr) o,none,some (st.mem.length,⟨t,cs⟩)⟩
   |.store i r ob=>(∀p,ob=some p→p)∧en=⟨.val undef,aF (ev st.fr) o,some (i,r),none⟩
   |.eb i r ob=>(∀p,ob=some p→p)∧en=⟨.val undef,aF (ev st.fr) o,some (i,r),none⟩
   |.grow kill t size nn xs ob=>(∀p,ob=some p→p)∧en=⟨.own st.mem.length,aF (ev st.fr) o,kill.map (·,aa),some (st.mem.length,⟨t,.own size nn xs⟩)⟩
   |.dP f args r=>(∀W,aw w0.S w0.w W→gx (rowAt st.mem) W args fun vs=>Calls P f vs.toArray W (gn W r))∧en=⟨gH st.mem.length r,aF (ev st.fr) o,none,(iC r).map (st.mem.length,·)⟩
   |.fp f i r=>(∀W,aw w0.S w0.w W→A9 (rowAt st.mem) W i fun s=>Calls P f #[s] W (oO W s r))∧en=⟨gH st.mem.length r,aF (ev st.fr) o,some (i,aa),(iC r).map (st.mem.length,·)⟩
   |.eJ f args x=>match x with
    |.gb p i row v=>(∀W,aw w0.S w0.w W→gx (rowAt st.mem) W args fun vs=>Calls P f vs.toArray W (ui w0 W vs (.gb p i row v)))∧en=⟨.val v,aF (ev st.fr) o,some (i,row),none⟩
    |.Dg _=>False
   |.bad=>False)
def Bi(D:List Nat)(st:St)(o:Oper)(en:iz):Prop:=en.nw=none∧en.wr=none∧((∃e∈o.after,Region.binds .any e=true∧e.on∈D)∨
 (guardOf ops st.fr o=some true∧∃f args g q,yI P H (ev st.fr) o=.call f args g∧GG st.mem g=true∧g.FF=some q∧¬q∧(∀W β,cw w0 β W (rowAt st.mem) g.fS→Calls P f (args.map (SV.den β)).toArray W (a7 w0 β W (rowAt st.mem) st.mem.length g))∧en.EJ=g.fS)∨∃m∈D,ops.size≤m)
def tH(D:List Nat)(k:Nat)(st:St)(o:Oper)(en:iz):Prop:=(k∉D∧zy P H w0 ops st o en)∨(k∈D∧Bi P H w0 ops D st o en)
def Lex:List Oper→Nat→St→List iz→List Nat→St→List Nat→Prop
 | [],_,st,es,D,st',D'=>es=[]∧st'=st∧D'=D
 |o::l,j,st,es,D,st',D'=>∃en es' D1,es=en::es'∧((D1=D∧zy P H w0 ops st o en)∨(D1=j::D∧Bi P H w0 ops D st o en))∧Lex l (j+1) (da n st o en) es' D1 st' D'
end
section
variable{P:Program}{H:List (Nat×Hint)}{n:Nat}{w0:bw}{ds:List Deferred}{ops:Array Oper}
theorem wg:∀(l:List Oper) (j:Nat) (st:St) (acc:List iz) (D:List Nat) (K:List iz→St→List Nat→Prop),fM P H n w0 ops l j st acc D K→∃es st' D',Lex P H n w0 ops l j st es D st' D'∧K (acc++es) st' D'
 | [],j,st,acc,D,K,h=>⟨[],st,D,⟨rfl,rfl,rfl⟩,by simpa[fM]using h⟩
 |o::l,j,st,acc,D,K,h=>by
  have go:∀en,zy P H w0 ops st o en→fM P H n w0 ops l (j+1) (da n st o en) (acc++[en]) D K→∃es st' D',Lex P H n w0 ops (o::l) j st es D st' D'∧K (acc++es) st' D':=by
   intro en he hx
   obtain⟨es,st',D',h1,h2⟩:=wg l _ _ _ _ K hx
   exact⟨en::es,st',D',⟨en,es,D,rfl,.inl ⟨rfl,he⟩,h1⟩,by simpa using h2⟩
  have god:∀en,Bi P H w0 ops D st o en→fM P H n w0 ops l (j+1) (da n st o en) (acc++[en]) (j::D) K→∃es st' D',Lex P H n w0 ops (o::l) j st es D st' D'∧K (acc++es) st' D':=by
   intro en he hx
   obtain⟨es,st',D',h1,h2⟩:=wg l _ _ _ _ K hx
   exact⟨en::es,st',D',⟨en,es,j::D,rfl,.inr ⟨rfl,he⟩,h1⟩,by simpa using h2⟩
  unfold fM at h
  split at h
  ·rename_i hd
   refine god _ ⟨rfl,rfl,.inl ?_⟩ h
   unfold KM at hd
   split at hd
   ·cases hd
   ·obtain⟨e,he,hb⟩:=List.any_eq_true.1 hd
    rw[Bool.and_eq_true]at hb
    exact⟨e,by simpa using he,hb.1,l8.1 hb.2⟩
  split at h
  ·rename_i hg
   split at h
   ·rename_i sv hr
    exact go _ (.inr ⟨hg,by rw[hr]⟩) h
   ·rename_i f args g hr
    split at h
    ·rename_i hok
     split at h
     ·rename_i p hp
      have h2:=h.2
      unfold M5 at h2
      split at h2
      ·rename_i hphi
       exact go _ (.inr ⟨hg,by rw[hr];exact⟨p,hp,hok,h.1,fun q hq=>(by rw[hphi]at hq;cases hq),rfl⟩⟩) h2
      ·rename_i q hphi
       by_cases hq:q
       ·exact go _ (.inr ⟨hg,by rw[hr];exact⟨p,hp,hok,h.1,fun q' hq'=>(by rw[hphi]at hq';cases hq';exact hq),rfl⟩⟩) (h2.1 hq)
       ·exact god _ ⟨rfl,rfl,.inr (.inl ⟨hg,f,args,g,q,hr,hok,hphi,hq,h.1,rfl⟩)⟩ (h2.2 hq)
     ·exact nomatch h
    ·exact nomatch h
   ·exact nomatch h
   ·exact nomatch h
   ·rename_i hno
    split at h
    ·rename_i sv ob hr
     exact go _ (.inr ⟨hg,by rw[hno];simp only;rw[hr];exact⟨im h,rfl⟩⟩) (jF h)
    ·rename_i f args v hr
     exact go _ (.inr ⟨hg,by rw[hno];simp only;rw[hr];exact⟨h.1,rfl⟩⟩) h.2
    ·rename_i t cs ln hr
     exact go _ (.inr ⟨hg,by rw[hno];simp only;rw[hr]⟩) h
    ·rename_i i r ob hr
     exact go _ (.inr ⟨hg,by rw[hno];simp only;rw[hr];exact⟨im h,rfl⟩⟩) (jF h)
    ·rename_i i r ob hr
     exact go _ (.inr ⟨hg,by rw[hno];simp only;rw[hr];exact⟨im h,rfl⟩⟩) (jF h)
    ·rename_i kill t size nn xs ob hr
     exact go _ (.inr ⟨hg,by rw[hno];simp only;rw[hr];exact⟨im h,rfl⟩⟩) (jF h)
    ·rename_i f args r hr
     exact go _ (.inr ⟨hg,by rw[hno];simp only;rw[hr];exact⟨h.1,rfl⟩⟩) h.2
    ·rename_i f i r hr
     exact go _ (.inr ⟨hg,by rw[hno];simp only;rw[hr];exact⟨h.1,rfl⟩⟩) h.2
    ·rename_i f args x hr
     split at h
     ·exact go _ (.inr ⟨hg,by rw[hno];simp only;rw[hr];exact⟨h.1,rfl⟩⟩) h.2
     ·exact nomatch h
    ·exact nomatch h
  ·rename_i hg
   exact go _ (.inl ⟨hg,rfl⟩) h
  ·exact nomatch h
def cq(n:Nat):St→List Oper→List iz→Nat→St
 |st,o::l,en::es,k+1=>cq n (da n st o en) l es k
 |st,_,_,_=>st
theorem gN{st:St}{l:List Oper}{es:List iz}:cq n st l es 0=st:=by
 cases l<;>cases es<;>rfl
theorem mH:∀{l:List Oper} {es:List iz} {st:St} {k:Nat} {o:Oper} {en:iz},l[k]?=some o→es[k]?=some en→cq n st l es (k+1)=da n (cq n st l es k) o en
 |o::l,en::es,st,0,o',en',ho,he=>by
  have ho:o=o':=by simpa using ho
  have he:en=en':=by simpa using he
  subst ho;subst he
  rw[gN]
  exact gN
 |o::l,en::es,st,k+1,o',en',ho,he=>by
  show cq n (da n st o en) l es (k+1)=da n (cq n (da n st o en) l es k) o' en'
  exact mH (by simpa using ho) (by simpa using he)
 | [],_,_,_,_,_,ho,_=>by simp at ho
 |_::_,[],_,_,_,_,_,he=>by simp at he
theorem yg:∀{l:List Oper} {j:Nat} {st:St} {es:List iz} {D:List Nat} {st':St} {D':List Nat},Lex P H n w0 ops l j st es D st' D'→(∀d∈D,d∈D')∧∀d∈D',d∈D∨j≤d
 | [],j,st,es,D,st',D',h=>by
  obtain⟨rfl,rfl,rfl⟩:=h
  exact⟨fun d hd=>hd,fun d hd=>.inl hd⟩
 |o::l,j,st,es,D,st',D',h=>by
  obtain⟨en,es',D1,rfl,he,h'⟩:=h
  obtain⟨h1,h2⟩:=yg h'
  rcases he with⟨rfl,_⟩ | ⟨rfl,_⟩
  ·exact⟨h1,fun d hd=>(h2 d hd).imp id (fun h=>by omega)⟩
  ·refine⟨fun d hd=>h1 d (List.mem_cons_of_mem _ hd),fun d hd=>?_⟩
   rcases h2 d hd with hd|hd
   ·rcases List.mem_cons.1 hd with rfl|hd
    ·exact .inr (Nat.le_refl _)
    ·exact .inl hd
   ·exact .inr (by omega)
theorem lex_lt:∀{l:List Oper} {j:Nat} {st:St} {es:List iz} {D:List Nat} {st':St} {D':List Nat},Lex P H n w0 ops l j st es D st' D'→(∀d∈D,d < j)→∀d∈D',d < j+l.length
 | [],j,st,es,D,st',D',h,hD=>by
  obtain⟨rfl,rfl,rfl⟩:=h
  exact fun d hd=>by simpa using hD d hd
 |o::l,j,st,es,D,st',D',h,hD=>by
  obtain⟨en,es',D1,rfl,he,h'⟩:=h
  intro d hd
  have:=lex_lt h' (fun d hd=>by
   rcases he with⟨rfl,_⟩ | ⟨rfl,_⟩
   ·have:=hD d hd;omega
   ·rcases List.mem_cons.1 hd with rfl|hd
    ·omega
    ·have:=hD d hd;omega) d hd
  simp only[List.length_cons]
  omega
theorem sL:∀{l:List Oper} {j:Nat} {st:St} {es:List iz} {D:List Nat} {st':St} {D':List Nat},Lex P H n w0 ops l j st es D st' D'→(∀d∈D,d < j)→es.length=l.length∧(∀k o en,l[k]?=some o→es[k]?=some en→tH P H w0 ops D' (j+k) (cq n st l es k) o en)∧cq n st l es l.length=st'
 | [],j,st,es,D,st',D',h,_=>by
  obtain⟨rfl,rfl,rfl⟩:=h
  exact⟨rfl,fun k o en ho=>by simp at ho,rfl⟩
 |o::l,j,st,es,D,st',D',h,hD=>by
  obtain⟨en,es',D1,rfl,he,h'⟩:=h
  obtain⟨m1,m2⟩:=yg h'
  have hD1:∀d∈D1,d < j+1:=fun d hd=>by
   rcases he with⟨rfl,_⟩ | ⟨rfl,_⟩
   ·have:=hD d hd;omega
   ·rcases List.mem_cons.1 hd with rfl|hd
    ·omega
    ·have:=hD d hd;omega
  obtain⟨h1,h2,h3⟩:=sL h' hD1
  refine⟨by simp[h1],fun k o' en' ho' he'=>?_,h3⟩
  cases k with
  |zero=>
   have ho':o=o':=by simpa using ho'
   have he':en=en':=by simpa using he'
   subst ho';subst he'
   rcases he with⟨rfl,he⟩ | ⟨rfl,he⟩
   ·refine .inl ⟨fun hj=>?_,he⟩
    rcases m2 _ hj with hj|hj
    ·have:=hD _ hj;omega
    ·omega
   ·refine .inr ⟨m1 _ (by simp),he.1,he.2.1,he.2.2.imp (fun⟨e,h1,h2,h3⟩=>⟨e,h1,h2,m1 _ (List.mem_cons_of_mem _ h3)⟩) (Or.imp id fun⟨m,h1,h2⟩=>⟨m,m1 _ (List.mem_cons_of_mem _ h1),h2⟩)⟩
  |succ k=>
   have:=h2 k o' en' (by simpa using ho') (by simpa using he')
   rwa [show j+1+k=j+(k+1)by omega]at this
end
def idxOf{α:Type}(p:α→Bool):List α→Option Nat
 | []=>none
 |x::r=>match p x with
  |true=>some 0
  |false=>(idxOf p r).map Nat.succ
theorem fU{α:Type}{p:α→Bool}:∀{l:List α} {k:Nat},idxOf p l=some k→∃x,l[k]?=some x∧p x=true
 |x::r,k,h=>by
  unfold idxOf at h
  split at h
  ·rename_i hp
   have:k=0:=by simpa using h.symm
   subst this
   exact⟨x,rfl,hp⟩
  ·cases hr:idxOf p r with
   |none=>rw[hr]at h;cases h
   |some j=>
    rw[hr]at h
    have:k=j+1:=by simpa using h.symm
    subst this
    obtain⟨y,hy,hp⟩:=fU hr
    exact⟨y,by simpa using hy,hp⟩
def isDst(t:Nat)(o:Oper):Bool:=match o.dst with
 |some d=>Nat.beq d t
 |none=>false
def iJ(b:Nat)(en:iz):Bool:=match en.nw with
 |some (i,_)=>Nat.beq i b
 |none=>false
def lx(b:Nat)(en:iz):Bool:=match en.wr with
 |some (i,_)=>Nat.beq i b
 |none=>false
theorem DC{t:Nat}{o:Oper}:isDst t o=true↔o.dst=some t:=by
 unfold isDst
 split
 ·rename_i d hd
  rw[hd]
  constructor
  ·intro h;rw[Nat.eq_of_beq_eq_true h]
  ·intro h;rw[Option.some.inj h];exact Nat.beq_refl t
 ·rename_i hd;rw[hd];simp
theorem DB{b:Nat}{en:iz}:iJ b en=true↔∃r,en.nw=some (b,r):=by
 unfold iJ
 split
 ·rename_i i r hd
  rw[hd]
  constructor
  ·intro h;exact⟨r,by rw[Nat.eq_of_beq_eq_true h]⟩
  ·rintro⟨r',h⟩
   have:i=b:=by injection h with h;injection h
   rw[this];exact Nat.beq_refl b
 ·rename_i hd;rw[hd];simp
theorem Gn{b:Nat}{en:iz}:lx b en=true↔∃r,en.wr=some (b,r):=by
 unfold lx
 split
 ·rename_i i r hd
  rw[hd]
  constructor
  ·intro h;exact⟨r,by rw[Nat.eq_of_beq_eq_true h]⟩
  ·rintro⟨r',h⟩
   have:i=b:=by injection h with h;injection h
   rw[this];exact Nat.beq_refl b
 ·rename_i hd;rw[hd];simp
section
variable(l:List Oper)(st:St)(es:List iz)
def jN(L:Nat→Bool)(t:Nat):Option SV:=match idxOf (isDst t) l with
 |none=>look st.fr t
 |some k=>if L k then(es[k]?).bind (·.sv.known)else look st.fr t
def mh(L:Nat→Bool)(b:Nat):Option Row:=match idxOf (iJ b) es with
 |none=>st.mem[b]?
 |some k=>if L k then((es[k]?).bind (·.nw)).map (·.2)else none
def b7(L:Nat→Bool)(b:Nat):Option Row:=match idxOf (lx b) es with
 |none=>mh st es L b
 |some s=>if L s then((es[s]?).bind (·.wr)).map (·.2)else mh st es L b
end
def vy(l:List Oper)(i k:Nat):Bool:=match l[i]? with
 |some o=>o.after.toList.any fun e=>Region.binds .any e&&Nat.beq e.on k
 |none=>false
def lI(l:List Oper)(i k:Nat):Bool:=match Nat.blt k i with
 |true=>vy l i k
 |false=>match Nat.beq k i with
  |true=>true
  |false=>vy l k i
def j8(l:List Oper)(i:Nat):Option Nat→Bool
 |none=>true
 |some k=>lI l i k
def NK(l:List Oper)(es:List iz)(n:Nat)(k:Nat)(o:Oper)(en:iz):Bool:=
 (o.after.toList.all fun e=>!Region.binds .any e||Nat.blt e.on k)&&
 (match o.dst with
  |some t=>Nat.blt t n&&idxOf (isDst t) l==some k
  |none=>true)&&
 ((o.looksAt l.toArray).all fun t=>j8 l k (idxOf (isDst t) l))&&
 (en.EJ.all fun b=>j8 l k (idxOf (iJ b) es)&&j8 l k (idxOf (lx b) es))&&
 (match en.nw with
  |some (b,_)=>idxOf (iJ b) es==some k&&(match idxOf (lx b) es with
   |some s=>Nat.blt k s
   |none=>true)
  |none=>true)&&
 (match en.wr with
  |some (b,_)=>idxOf (lx b) es==some k&&(match idxOf (iJ b) es with
   |some c=>Nat.blt c k
   |none=>true)
  |none=>true)&&
 (match o.op with
  |.select ..=>false
  |_=>true)
def zr(l:List Oper)(es:List iz)(n:Nat):Nat→List Oper→List iz→Bool
 |k,o::r,en::er=>match NK l es n k o en with
  |true=>zr l es n (k+1) r er
  |false=>false
 |_,[],[]=>true
 |_,_,_=>false
theorem ox{l:List Oper}{es:List iz}{n:Nat}:∀{r:List Oper} {er:List iz} {k0:Nat},zr l es n k0 r er=true→∀k o en,r[k]?=some o→er[k]?=some en→NK l es n (k0+k) o en=true
 |o::r,en::er,k0,h,k,o',en',ho,he=>by
  unfold zr at h
  split at h
  ·rename_i hb
   cases k with
   |zero=>
    have ho:o=o':=by simpa using ho
    have he:en=en':=by simpa using he
    subst ho;subst he
    exact hb
   |succ k=>
    have:=ox h k o' en' (by simpa using ho) (by simpa using he)
    rwa [show k0+(k+1)=k0+1+k by omega]
  ·cases h
 | [],_,_,_,_,_,_,ho,_=>by simp at ho
 |_::_,[],_,_,_,_,_,_,he=>by simp at he
structure zB(l:List Oper)(es:List iz)(n:Nat)(k:Nat)(o:Oper)(en:iz):Prop where
 down:∀e∈o.after,Region.binds .any e=true→e.on < k
 dst:∀t,o.dst=some t→t < n∧idxOf (isDst t) l=some k
 looks:∀t∈o.looksAt l.toArray,j8 l k (idxOf (isDst t) l)=true
 EJ:∀b∈en.EJ,j8 l k (idxOf (iJ b) es)=true∧j8 l k (idxOf (lx b) es)=true
 nw:∀b r,en.nw=some (b,r)→idxOf (iJ b) es=some k∧∀s,idxOf (lx b) es=some s→k < s
 wr:∀b r,en.wr=some (b,r)→idxOf (lx b) es=some k∧∀c,idxOf (iJ b) es=some c→c < k
 Oh:∀cs b,o.op≠.select cs b
theorem xP{l:List Oper}{es:List iz}{n k:Nat}{o:Oper}{en:iz}(h:NK l es n k o en=true):zB l es n k o en:=by
 unfold NK at h
 simp only[Bool.and_eq_true]at h
 obtain⟨⟨⟨⟨⟨⟨h1,h2⟩,h3⟩,h4⟩,h5⟩,h6⟩,h7⟩:=h
 refine⟨fun e he hb=>?_,fun t ht=>?_,fun t ht=>?_,fun b hb=>?_,fun b r hb=>?_,fun b r hb=>?_,fun cs b hs=>?_⟩
 ·have:=List.all_eq_true.1 h1 e (by simpa using he)
  rw[hb]at this
  exact Nat.le_of_ble_eq_true (show Nat.blt e.on k=true by simpa only[Bool.not_true,Bool.false_or]using this)
 ·rw[ht]at h2
  simp only[Bool.and_eq_true]at h2
  exact⟨Nat.le_of_ble_eq_true h2.1,by simpa using h2.2⟩
 ·exact List.all_eq_true.1 h3 t ht
 ·simpa only[Bool.and_eq_true]using List.all_eq_true.1 h4 b hb
 ·rw[hb]at h5
  simp only[Bool.and_eq_true]at h5
  refine⟨by simpa using h5.1,fun s hs=>?_⟩
  have:=h5.2
  rw[hs]at this
  exact Nat.le_of_ble_eq_true this
 ·rw[hb]at h6
  simp only[Bool.and_eq_true]at h6
  refine⟨by simpa using h6.1,fun c hc=>?_⟩
  have:=h6.2
  rw[hc]at this
  exact Nat.le_of_ble_eq_true this
 ·rw[hs]at h7
  cases h7
end Sx
open Go Go.RowKit Go.Lib Go.Sort
namespace Sx
section
variable{P:Program}{H:List (Nat×Hint)}{n:Nat}{w0:bw}{ds:List Deferred}{l:List Oper}{es:List iz}{st:St}
theorem L8{t k:Nat}(h:idxOf (isDst t) l=some k):∃o,l[k]?=some o∧o.dst=some t:=by
 obtain⟨o,ho,hp⟩:=fU h
 exact⟨o,ho,DC.1 hp⟩
theorem fh{b k:Nat}(h:idxOf (iJ b) es=some k):∃en r,es[k]?=some en∧en.nw=some (b,r):=by
 obtain⟨en,ho,hp⟩:=fU h
 obtain⟨r,hr⟩:=DB.1 hp
 exact⟨en,r,ho,hr⟩
theorem Ks{b k:Nat}(h:idxOf (lx b) es=some k):∃en r,es[k]?=some en∧en.wr=some (b,r):=by
 obtain⟨en,ho,hp⟩:=fU h
 obtain⟨r,hr⟩:=Gn.1 hp
 exact⟨en,r,ho,hr⟩
theorem mg{L L':Nat→Bool}{t:Nat}(h:∀k,idxOf (isDst t) l=some k→L k=L' k):jN l st es L t=jN l st es L' t:=by
 unfold jN
 cases hi:idxOf (isDst t) l with
 |none=>rfl
 |some k=>simp only[h k hi]
theorem om{L L':Nat→Bool}{b:Nat}(h1:∀k,idxOf (iJ b) es=some k→L k=L' k)(h2:∀k,idxOf (lx b) es=some k→L k=L' k):b7 st es L b=b7 st es L' b:=by
 have hb:mh st es L b=mh st es L' b:=by
  unfold mh
  cases hi:idxOf (iJ b) es with
  |none=>rfl
  |some k=>simp only[h1 k hi]
 unfold b7
 cases hi:idxOf (lx b) es with
 |none=>exact hb
 |some k=>simp only[h2 k hi,hb]
def more(L:Nat→Bool)(i:Nat)(k:Nat):Bool:=L k||decide (k=i)
theorem eX{L:Nat→Bool}{i k:Nat}(h:k≠i):more L i k=L k:=by unfold more;simp[h]
theorem iU{L:Nat→Bool}{i:Nat}:more L i i=true:=by unfold more;simp
theorem eB{L:Nat→Bool}{i t:Nat}{o:Oper}{en:iz}(ho:l[i]?=some o)(he:es[i]?=some en)(hB:zB l es n i o en):jN l st es (more L i) t=if o.dst=some t then en.sv.known else jN l st es L t:=by
 split
 ·rename_i hd
  have:=(hB.dst t hd).2
  unfold jN
  simp only[this,iU,if_true,he,Option.bind_some]
 ·rename_i hd
  refine mg fun k hk=>eX ?_
  rintro rfl
  obtain⟨o',ho',hd'⟩:=L8 hk
  rw[ho]at ho'
  cases ho'
  exact hd hd'
theorem dV{L:Nat→Bool}{i b:Nat}{en:iz}(he:es[i]?=some en)(h1:∀r,en.nw≠some (b,r))(h2:∀r,en.wr≠some (b,r)):b7 st es (more L i) b=b7 st es L b:=by
 refine om (fun k hk=>eX ?_) (fun k hk=>eX ?_)
 ·rintro rfl
  obtain⟨en',r,he',hr⟩:=fh hk
  rw[he]at he'
  cases he'
  exact h1 r hr
 ·rintro rfl
  obtain⟨en',r,he',hr⟩:=Ks hk
  rw[he]at he'
  cases he'
  exact h2 r hr
theorem j4{L:Nat→Bool}{i b:Nat}{o:Oper}{en:iz}{r:Row}(he:es[i]?=some en)(hB:zB l es n i o en)(hn:en.nw=some (b,r))(hs:∀s,idxOf (lx b) es=some s→L s=false):b7 st es (more L i) b=some r:=by
 have hi:=(hB.nw b r hn).1
 have hb:mh st es (more L i) b=some r:=by
  unfold mh
  simp only[hi,iU,if_true,he,Option.bind_some,hn,Option.map_some]
 unfold b7
 cases hw:idxOf (lx b) es with
 |none=>exact hb
 |some s=>
  have hlt:=(hB.nw b r hn).2 s hw
  simp only[eX (show s≠i by omega),hs s hw,Bool.false_eq_true,if_false,hb]
theorem lf{L:Nat→Bool}{i b:Nat}{o:Oper}{en:iz}{r:Row}(he:es[i]?=some en)(hB:zB l es n i o en)(hn:en.wr=some (b,r)):b7 st es (more L i) b=some r:=by
 have hi:=(hB.wr b r hn).1
 unfold b7
 simp only[hi,iU,if_true,he,Option.bind_some,hn,Option.map_some]
def oC(k j:Nat):Bool:=decide (j < k)
theorem yd(k:Nat):oC (k+1)=more (oC k) k:=by
 funext j
 unfold oC more
 rw[Bool.eq_iff_iff]
 simp
 omega
theorem yc:oC 0=fun _=>false:=by funext j;simp[oC]
theorem oo{t:Nat}:jN l st es (fun _=>false) t=look st.fr t:=by
 unfold jN
 cases idxOf (isDst t) l<;>simp
theorem vh{b:Nat}(h:∀k,idxOf (iJ b) es=some k→st.mem[b]?=none):b7 st es (fun _=>false) b=st.mem[b]?:=by
 have hb:mh st es (fun _=>false) b=st.mem[b]?:=by
  unfold mh
  cases hi:idxOf (iJ b) es with
  |none=>rfl
  |some k=>simp[h k hi]
 unfold b7
 cases idxOf (lx b) es<;>simp[hb]
theorem L7{ops:Array Oper}{s:St}{o:Oper}{en:iz}{b:Nat}{r:Row}(h:zy P H w0 ops s o en)(hn:en.nw=some (b,r)):b=s.mem.length:=by
 rcases h with⟨_,rfl⟩ | ⟨hg,h⟩
 ·cases hn
 ·split at h
  ·subst h;cases hn
  ·obtain⟨p,hp,_,_,_,rfl⟩:=h;cases hn
  ·exact h.elim
  ·exact h.elim
  split at h
  ·obtain⟨_,rfl⟩:=h;cases hn
  ·obtain⟨_,rfl⟩:=h;cases hn
  ·rename_i t cs ln hr
   subst h
   injection hn with hn
   injection hn with h1 h2
   exact h1.symm
  ·obtain⟨_,rfl⟩:=h;cases hn
  ·obtain⟨_,rfl⟩:=h;cases hn
  ·obtain⟨_,rfl⟩:=h
   injection hn with hn
   injection hn with h1 h2
   exact h1.symm
  ·rename_i f args r' hr
   obtain⟨_,rfl⟩:=h
   cases hrr:iC r' with
   |none=>simp[hrr]at hn
   |some row'=>
    simp only[hrr,Option.map_some,Option.some.injEq,Prod.mk.injEq]at hn
    exact hn.1.symm
  ·rename_i f i r' hr
   obtain⟨_,rfl⟩:=h
   cases hrr:iC r' with
   |none=>simp[hrr]at hn
   |some row'=>
    simp only[hrr,Option.map_some,Option.some.injEq,Prod.mk.injEq]at hn
    exact hn.1.symm
  ·split at h
   ·obtain⟨_,rfl⟩:=h;cases hn
   ·exact h.elim
  ·exact h.elim
theorem sW{g:cH}{p:Value×Option (Nat×Row)}(h:u5 g=some p):g.kill=[]∧g.new=[]∧g.ret=.val p.1∧((g.gb=[]∧p.2=none)∨∃q,g.gb=[q]∧p.2=some q∧nR q.2.cs=true):=by
 unfold u5 at h
 split at h
 ·rename_i hk
  split at h
  ·rename_i hn
   split at h
   ·rename_i v hv
    split at h
    ·rename_i hu
     cases h
     exact⟨hk,hn,hv,.inl ⟨hu,rfl⟩⟩
    ·rename_i q hu
     split at h
     ·rename_i hp
      cases h
      exact⟨hk,hn,hv,.inr ⟨q,hu,rfl,hp⟩⟩
     ·cases h
    ·cases h
   ·cases h
  ·cases h
 ·cases h
theorem wB{mem:List Row}{g:cH}(h:GG mem g=true){q:Nat×Row}(hq:q∈g.gb):(∃r,mem[q.1]?=some r∧r.fixed=true)∧q.2.fixed=true∧q.1∈g.fS:=by
 unfold GG at h
 rw[Bool.and_eq_true]at h
 have:=ba h.1 q hq
 simp only[Bool.and_eq_true]at this
 exact⟨ph this.1.1,this.1.2,l8.1 this.2.2⟩
theorem cw.dZ{b:bw}{β:Env}{W:World}{mem:List Row}{g:cH}(h:cw b β W (rowAt mem) g.fS)(hok:GG mem g=true):∀k∈g.dZ β (rowAt mem),k∈b.S∨b.w.heap.size≤k:=fun k hk=>by
 obtain⟨i,r,hi,hr,hb⟩:=pN hk
 refine h.new i ?_ r k hr hb
 rcases hi with hi|hi
 ·obtain⟨q,hq,rfl⟩:=List.mem_map.1 hi
  exact(wB hok hq).2.2
 ·unfold GG at hok
  rw[Bool.and_eq_true,Bool.and_eq_true]at hok
  exact l8.1 (ba hok.2.1 i hi)
theorem xM{c:Cells}(h:nR c=true){Q:Nat→Prop}:c.on Q:=by
 cases c<;>first|trivial|cases h
theorem GF{mem:List Row}{g:cH}{p:Value×Option (Nat×Row)}{b:Nat}{r:Row}(hp:u5 g=some p)(hok:GG mem g=true)(hn:p.2=some (b,r)):b < mem.length∧b∈g.fS:=by
 obtain⟨_,_,_,⟨_,h⟩ | ⟨q,hu,h,_⟩⟩:=sW hp
 ·rw[h]at hn;cases hn
 ·rw[h]at hn
  cases hn
  obtain⟨⟨r0,h0,_⟩,_,hs⟩:=wB hok (q:=(b,r)) (by rw[hu];simp)
  exact⟨(List.getElem?_eq_some_iff.1 h0).1,hs⟩
theorem L6{ops:Array Oper}{s:St}{o:Oper}{en:iz}{b:Nat}{r:Row}(h:zy P H w0 ops s o en)(hn:en.wr=some (b,r)):b < s.mem.length∧b∈en.EJ:=by
 rcases h with⟨_,rfl⟩ | ⟨hg,h⟩
 ·cases hn
 ·split at h
  ·subst h;cases hn
  ·obtain⟨p,hp,_,_,_,rfl⟩:=h;exact GF hp (by assumption) hn
  ·exact h.elim
  ·exact h.elim
  split at h
  ·obtain⟨_,rfl⟩:=h;cases hn
  ·obtain⟨_,rfl⟩:=h;cases hn
  ·subst h;cases hn
  ·rename_i i r' ob hr
   obtain⟨_,rfl⟩:=h
   injection hn with hn
   injection hn with h1 h2
   subst h1;subst h2
   obtain⟨ht,_,r0,h0,_⟩:=lD hr
   exact⟨(List.getElem?_eq_some_iff.1 h0).1,ht⟩
  ·rename_i i r' ob hr
   obtain⟨_,rfl⟩:=h
   injection hn with hn
   injection hn with h1 h2
   subst h1;subst h2
   obtain⟨ht,r0,h0,_⟩:=kO hr
   exact⟨(List.getElem?_eq_some_iff.1 h0).1,ht⟩
  ·rename_i kill t size nn xs ob hr
   obtain⟨_,rfl⟩:=h
   cases kill with
   |none=>cases hn
   |some i=>
    simp only[Option.map_some,Option.some.injEq,Prod.mk.injEq]at hn
    obtain⟨rfl,_⟩:=hn
    obtain⟨ht,r0,h0,_⟩:=oe hr
    exact⟨(List.getElem?_eq_some_iff.1 h0).1,ht⟩
  ·obtain⟨_,rfl⟩:=h;cases hn
  ·rename_i f i r' hr
   obtain⟨hcl,rfl⟩:=h
   injection hn with hn
   injection hn with h1 h2
   subst h1
   obtain⟨r0,h0,_⟩:=tB (hcl w0.w (aw.refl _ _))
   exact⟨(List.getElem?_eq_some_iff.1 h0).1,(qP hr).1⟩
  ·rename_i f args x hr
   obtain⟨_,hx2,_⟩:=ot hr
   cases x with
   |gb p i row v=>
    obtain⟨_,rfl⟩:=h
    injection hn with hn
    injection hn with h1 h2
    subst h1
    obtain⟨_,ht,r0,h0,_⟩:=hx2 p _ row v rfl
    exact⟨(List.getElem?_eq_some_iff.1 h0).1,ht⟩
   |Dg ps=>exact h.elim
  ·exact h.elim
theorem rl{ops:Array Oper}{D:List Nat}{k:Nat}{s:St}{o:Oper}{en:iz}{b:Nat}{r:Row}(h:tH P H w0 ops D k s o en)(hn:en.nw=some (b,r)):b=s.mem.length:=by
 rcases h with⟨_,h⟩ | ⟨_,h,_⟩
 ·exact L7 h hn
 ·rw[h]at hn;cases hn
theorem Cn{ops:Array Oper}{D:List Nat}{k:Nat}{s:St}{o:Oper}{en:iz}{b:Nat}{r:Row}(h:tH P H w0 ops D k s o en)(hn:en.wr=some (b,r)):b < s.mem.length∧b∈en.EJ:=by
 rcases h with⟨_,h⟩ | ⟨_,_,h,_⟩
 ·exact L6 h hn
 ·rw[h]at hn;cases hn
theorem tC{s:St}{o:Oper}{en:iz}:(da n s o en).mem=BW s.mem en:=by
 unfold da St.put
 cases o.dst with
 |none=>rfl
 |some d=>cases hb:Nat.blt d n<;>simp[hb]
variable{ops:Array Oper}(hlen:es.length=l.length)(hB:∀k o en,l[k]?=some o→es[k]?=some en→zB l es n k o en){D:List Nat}(hE:∀k o en,l[k]?=some o→es[k]?=some en→tH P H w0 ops D k (cq n st l es k) o en)
include hlen hB hE
omit hB hE in
theorem vZ:∀k,k≤l.length→st.mem.length≤(cq n st l es k).mem.length:=by
 intro k
 induction k with
 |zero=>intro _;rw[gN];exact Nat.le_refl _
 |succ k ih=>
  intro hk
  obtain⟨o,ho⟩:∃o,l[k]?=some o:=⟨_,List.getElem?_eq_getElem (by omega)⟩
  obtain⟨en,he⟩:∃en,es[k]?=some en:=⟨_,List.getElem?_eq_getElem (by omega)⟩
  rw[mH ho he]
  have:=ih (by omega)
  rw[tC]
  unfold BW
  split
  ·rw[List.length_append,ig];omega
  ·rw[ig];omega
omit hE in
theorem BZ:∀k,k≤l.length→∀t,look (cq n st l es k).fr t=jN l st es (oC k) t:=by
 intro k
 induction k with
 |zero=>intro _ t;rw[gN,yc,oo]
 |succ k ih=>
  intro hk t
  obtain⟨o,ho⟩:∃o,l[k]?=some o:=⟨_,List.getElem?_eq_getElem (by omega)⟩
  obtain⟨en,he⟩:∃en,es[k]?=some en:=⟨_,List.getElem?_eq_getElem (by omega)⟩
  rw[mH ho he,yd,eB ho he (hB k o en ho he),←ih (by omega) t]
  unfold da St.put
  cases hd:o.dst with
  |none=>simp
  |some d=>
   have:Nat.blt d n=true:=Nat.ble_eq_true_of_le ((hB k o en ho he).dst d hd).1
   simp only[this,fj,Option.some.injEq]
theorem Fc:∀k,k≤l.length→∀b:Nat,(cq n st l es k).mem[b]?=b7 st es (oC k) b:=by
 have fresh:∀b k:Nat,idxOf (iJ b) es=some k→st.mem[b]?=none:=by
  intro b k hk
  obtain⟨en,r,he,hr⟩:=fh hk
  have hkl:k < l.length:=by rw[←hlen];exact(List.getElem?_eq_some_iff.1 he).1
  have hb:=rl (hE k _ en (List.getElem?_eq_getElem hkl) he) hr
  have:=vZ (n:=n) (st:=st) hlen k (by omega)
  exact List.getElem?_eq_none (by omega)
 intro k
 induction k with
 |zero=>intro _ b;rw[gN,yc,vh (fresh b)]
 |succ k ih=>
  intro hk b
  obtain⟨o,ho⟩:∃o,l[k]?=some o:=⟨_,List.getElem?_eq_getElem (by omega)⟩
  obtain⟨en,he⟩:∃en,es[k]?=some en:=⟨_,List.getElem?_eq_getElem (by omega)⟩
  have ih:=ih (by omega)
  have hbk:=hB k o en ho he
  have hek:=hE k o en ho he
  rw[mH ho he,yd]
  rw[tC]
  have hwr:∀b,(∀r,en.nw≠some (b,r))→(zF (cq n st l es k).mem en)[b]?=b7 st es (more (oC k) k) b:=by
   intro b hnb
   unfold zF
   cases hw:en.wr with
   |some p=>
    obtain⟨i,r⟩:=p
    obtain⟨hil,_⟩:=Cn hek hw
    simp only[List.getElem?_set]
    by_cases hbi:i=b
    ·subst hbi
     rw[if_pos rfl,if_pos hil,lf he hbk hw]
    ·rw[if_neg hbi,dV he hnb (fun r' h=>by rw[hw]at h;injection h with h;injection h with h _;exact hbi h),ih b]
   |none=>
    simp only
    rw[dV he hnb (fun r' h=>by rw[hw]at h;cases h),ih b]
  unfold BW
  cases hn:en.nw with
  |some p=>
   obtain⟨m,r⟩:=p
   have hml:=rl hek hn
   simp only
   by_cases hbm:b=m
   ·subst hbm
    rw[j4 he hbk hn (fun s hs=>by have:=(hbk.nw _ _ hn).2 s hs;simp[oC];omega),hml,←ig (en:=en),List.getElem?_append_right (Nat.le_refl _)]
    simp
   ·rw[←hwr b (fun r' h=>by rw[hn]at h;injection h with h;injection h with h _;exact hbm h.symm)]
    rcases Nat.lt_or_ge b (zF (cq n st l es k).mem en).length with hlt|hge
    ·rw[List.getElem?_append_left hlt]
    ·rw[List.getElem?_eq_none (by rw[ig]at hge;simp[ig];omega),List.getElem?_eq_none hge]
  |none=>
   simp only
   exact hwr b (fun r' h=>by rw[hn]at h;cases h)
end
structure gE(ds:List Deferred)(w0:bw)(n:Nat)(l:List Oper)(es:List iz)(st:St)(L:Nat→Bool)(β:Env)(a:Act)(w:World):Prop where
 size:a.tmps.size=n
 dn:a.defers=ds
 get:∀t sv,jN l st es L t=some sv→a.tmps[t]?=some (sv.den β)
 bY:∀(b:Nat) (r:Row),b7 st es L b=some r→bp β w b r
 new:∀(b:Nat) (r:Row) (k:Nat),b7 st es L b=some r→aE β b r=some k→k∈w0.S∨w0.w.heap.size≤k
 inj:∀(b c:Nat) (r r':Row) (k:Nat),b7 st es L b=some r→b7 st es L c=some r'→aE β b r=some k→aE β c r'=some k→b=c
 aP:aw w0.S w0.w w
 tN:∀t sv,jN l st es L t=some sv→sv.on (fun b=>∃r,b7 st es L b=some r)
 tK:∀(b:Nat) (r:Row),b7 st es L b=some r→r.cs.on (fun b=>∃r,b7 st es L b=some r)
 down:∀k o,l[k]?=some o→L k=true→∀e∈o.after,Region.binds .any e=true→L e.on=true
section
variable{P:Program}{H:List (Nat×Hint)}{n:Nat}{w0:bw}{ds:List Deferred}{l:List Oper}{es:List iz}{st:St}{L:Nat→Bool}{β:Env}{a:Act}{w:World}{i:Nat}{o:Oper}{en:iz}
theorem nK{j k:Nat}(h:vy l j k=true):∃oj,l[j]?=some oj∧∃e∈oj.after,Region.binds .any e=true∧e.on=k:=by
 unfold vy at h
 split at h
 ·rename_i oj hoj
  obtain⟨e,he,hb⟩:=List.any_eq_true.1 h
  simp only[Bool.and_eq_true]at hb
  exact⟨oj,hoj,e,by simpa using he,hb.1,Nat.eq_of_beq_eq_true hb.2⟩
 ·cases h
theorem kT(hI:gE ds w0 n l es st L β a w)(ho:l[i]?=some o)(hL:L i=false)(hr:∀e∈o.after,Region.binds .any e=true→L e.on=true){k:Nat}(hs:lI l i k=true):L k=oC i k:=by
 unfold lI at hs
 unfold oC
 split at hs
 ·rename_i hlt
  have hlt:k < i:=Nat.le_of_ble_eq_true hlt
  obtain⟨oi,hoi,e,he,hb,hon⟩:=nK hs
  rw[ho]at hoi
  cases hoi
  have:=hr e he hb
  rw[hon]at this
  rw[this];simp[hlt]
 ·rename_i hlt
  have hlt:¬k < i:=fun h=>by rw[show Nat.blt k i=true from Nat.ble_eq_true_of_le h]at hlt;cases hlt
  split at hs
  ·rename_i heq
   rw[Nat.eq_of_beq_eq_true heq,hL];simp
  ·obtain⟨ok,hok,e,he,hb,hon⟩:=nK hs
   cases hLk:L k with
   |false=>simp[hlt]
   |true=>
    have:=hI.down k ok hok hLk e he hb
    rw[hon,hL]at this
    cases this
theorem gE.iT(hI:gE ds w0 n l es st L β a w)(ho:l[i]?=some o)(he:es[i]?=some en)(hB:zB l es n i o en)(hr:∀e∈o.after,Region.binds .any e=true→L e.on=true)
  {w':World} (hc:aw [] w w') (h1:en.nw=none) (h2:en.wr=none) (hs:en.sv.on (fun b=>∃r,b7 st es L b=some r)):gE ds w0 n l es st (more L i) β (a.put o.dst (en.sv.den β)) w':=by
 have row:∀b,b7 st es (more L i) b=b7 st es L b:=fun b=>dV he (fun r h=>by rw[h1]at h;cases h) (fun r h=>by rw[h2]at h;cases h)
 refine⟨?_,?_,fun t sv ht=>?_,fun b r hb=>?_,fun b r k hb hk=>?_,fun b c r r' k hb hc' hk hk'=>?_,hI.aP.seq hc (by simp),fun t sv ht=>?_,fun b r hb=>?_,fun k ok hok hk e hee hb=>?_⟩
 ·cases o.dst<;>simp[Act.put,hI.size]
 ·cases o.dst<;>simp[Act.put,hI.dn]
 ·rw[eB ho he hB]at ht
  split at ht
  ·rename_i hd
   rw[hd,iO (by rw[hI.size];exact(hB.dst t hd).1),if_pos rfl,cd ht]
  ·rename_i hd
   cases hd':o.dst with
   |none=>exact hI.get t sv ht
   |some d=>
    rw[iO (by rw[hI.size];exact(hB.dst d hd').1),if_neg (fun h=>hd (by rw[hd',h]))]
    exact hI.get t sv ht
 ·rw[row]at hb;exact(hI.bY b r hb).aP hc (fun _ _=>by simp)
 ·rw[row]at hb;exact hI.new b r k hb hk
 ·rw[row]at hb hc';exact hI.inj b c r r' k hb hc' hk hk'
 ·rw[eB ho he hB]at ht
  split at ht
  ·rw[cd ht];exact SV.br (fun b hb=>by rw[row];exact hb) hs
  ·exact SV.br (fun b hb=>by rw[row];exact hb) (hI.tN t sv ht)
 ·rw[row]at hb;exact Cells.br (fun b hb=>by rw[row];exact hb) (hI.tK b r hb)
 ·by_cases hki:k=i
  ·subst hki
   rw[ho]at hok
   cases hok
   have:=hr e hee hb
   unfold more;rw[this];rfl
  ·rw[eX hki]at hk
   have:=hI.down k ok hok hk e hee hb
   unfold more;rw[this];rfl
theorem gE.Ag(hI:gE ds w0 n l es st L β a w)(ho:l[i]?=some o)(he:es[i]?=some en)(hB:zB l es n i o en)(hr:∀e∈o.after,Region.binds .any e=true→L e.on=true)
  {m:Nat} {t:TypeId} {cs:Cells} {ln:Option Nat} (hf:(⟨t,cs⟩:Row).fixed=true) (hft:cs.tag=none) (hn:en.nw=some (m,⟨t,cs⟩)) (hw:en.wr=none) (hsv:en.sv=k6 m ln) (hnot:b7 st es L m=none) (hs:∀s,idxOf (lx m) es=some s→L s=false)
  (hcs:cs.on (fun b=>∃r,b7 st es L b=some r)):gE ds w0 n l es st (more L i) (β.gb m w.heap.size) (a.put o.dst (nC w.heap.size ln)) (w.alloc (.cells (cs.den β).toArray t)):=by
 have rowm:b7 st es (more L i) m=some ⟨t,cs⟩:=j4 he hB hn hs
 have row:∀b,b≠m→b7 st es (more L i) b=b7 st es L b:=fun b hb=>dV he (fun r h=>by rw[hn]at h;injection h with h;injection h with h _;exact hb h.symm) (fun r h=>by rw[hw]at h;cases h)
 have live:∀b,(∃r,b7 st es L b=some r)→b≠m:=fun b ⟨r,h⟩ hb=>by rw[hb,hnot]at h;cases h
 have same:β.same (β.gb m w.heap.size) (fun b=>∃r,b7 st es L b=some r):=EA.mono live
 have up:∀b,(∃r,b7 st es L b=some r)→∃r,b7 st es (more L i) b=some r:=fun b hb=>by rw[row b (live b hb)];exact hb
 have lt:∀b r k,b7 st es L b=some r→aE β b r=some k→k < w.heap.size:=fun b r k h hk=>(hI.bY b r h).lt hk
 have at_:∀b r,b7 st es (more L i) b=some r→(b7 st es L b=some r)∨(b=m∧r=⟨t,cs⟩):=fun b r hb=>by
  by_cases hbm:b=m
  ·subst hbm;rw[rowm]at hb;cases hb;exact .inr ⟨rfl,rfl⟩
  ·rw[row b hbm]at hb;exact .inl hb
 have blkm:aE (β.gb m w.heap.size) m ⟨t,cs⟩=some w.heap.size:=by rw[aR hf,iZ]
 refine⟨?_,?_,fun u sv ht=>?_,fun b r hb=>?_,fun b r k hb hk=>?_,fun b c r r' k hb hc' hk hk'=>?_,hI.aP.alloc _,fun u sv ht=>?_,fun b r hb=>?_,fun k ok hok hk e hee hb=>?_⟩
 ·cases o.dst<;>simp[Act.put,hI.size]
 ·cases o.dst<;>simp[Act.put,hI.dn]
 ·rw[eB ho he hB]at ht
  split at ht
  ·rename_i hd
   rw[hd,iO (by rw[hI.size];exact(hB.dst u hd).1),if_pos rfl,cd ht,hsv,yb]
  ·rename_i hd
   rw[←SV.cg same (hI.tN u sv ht)]
   cases hd':o.dst with
   |none=>exact hI.get u sv ht
   |some d=>
    rw[iO (by rw[hI.size];exact(hB.dst d hd').1),if_neg (fun h=>hd (by rw[hd',h]))]
    exact hI.get u sv ht
 ·rcases at_ b r hb with hb|⟨rfl,rfl⟩
  ·refine bp.congr same ⟨r,hb⟩ (hI.tK b r hb) ((hI.bY b r hb).aP (S:=[]) ((aw.refl [] w).alloc _) (fun _ _=>by simp))
  ·refine bp.lW ?_ hf (fun g hg=>by rw[hft]at hg;cases hg)
   rw[iZ,←Cells.cg same hcs]
   exact aB.new w t (cs.den β).toArray
 ·rcases at_ b r hb with hb|⟨rfl,rfl⟩
  ·rw[←bq same ⟨r,hb⟩]at hk;exact hI.new b r k hb hk
  ·rw[blkm]at hk;cases hk;exact .inr hI.aP.size
 ·rcases at_ b r hb with hb|⟨rfl,rfl⟩
  ·rw[←bq same ⟨r,hb⟩]at hk
   rcases at_ c r' hc' with hc' | ⟨rfl,rfl⟩
   ·rw[←bq same ⟨r',hc'⟩]at hk';exact hI.inj b c r r' k hb hc' hk hk'
   ·rw[blkm]at hk';cases hk'
    exact absurd (lt b r _ hb hk) (Nat.lt_irrefl _)
  ·rcases at_ c r' hc' with hc' | ⟨rfl,rfl⟩
   ·rw[blkm]at hk;cases hk
    rw[←bq same ⟨r',hc'⟩]at hk'
    exact absurd (lt c r' _ hc' hk') (Nat.lt_irrefl _)
   ·rfl
 ·rw[eB ho he hB]at ht
  split at ht
  ·rw[cd ht,hsv];exact BX ⟨_,rowm⟩
  ·exact SV.br up (hI.tN u sv ht)
 ·rcases at_ b r hb with hb|⟨rfl,rfl⟩
  ·exact Cells.br up (hI.tK b r hb)
  ·exact Cells.br up hcs
 ·by_cases hki:k=i
  ·subst hki
   rw[ho]at hok
   cases hok
   have:=hr e hee hb
   unfold more;rw[this];rfl
  ·rw[eX hki]at hk
   have:=hI.down k ok hok hk e hee hb
   unfold more;rw[this];rfl
theorem gE.pZ(hI:gE ds w0 n l es st L β a w)(ho:l[i]?=some o)(he:es[i]?=some en)(hB:zB l es n i o en)(hr:∀e∈o.after,Region.binds .any e=true→L e.on=true)
  {m:Nat} {kill:Option Nat} {A:Option Addr} {T size nn cc:Nat} {xs:List Value} {S:List Nat} {w':World} (hn:en.nw=some (m,⟨T,.own size nn xs⟩)) (hw:en.wr=kill.map (·,aa)) (hnot:b7 st es L m=none) (hs:∀s,idxOf (lx m) es=some s→L s=false)
  (hown:Own w' T size (.slice A nn cc) nn xs) (hc:aw S w w') (hS:∀k∈S,∃i r0,kill=some i∧b7 st es L i=some r0∧aE β i r0=some k) (hA:∀k,A.map (·.block)=some k→k∈S∨w.heap.size≤k)
  (hsv:en.sv.on (·=m)):gE ds w0 n l es st (more L i) (β.gK m A nn cc) (a.put o.dst (en.sv.den (β.gK m A nn cc))) w':=by
 have rowm:b7 st es (more L i) m=some ⟨T,.own size nn xs⟩:=j4 he hB hn hs
 have live:∀b,(∃r,b7 st es L b=some r)→b≠m:=fun b ⟨r,h⟩ hb=>by rw[hb,hnot]at h;cases h
 have same:β.same (β.gK m A nn cc) (fun b=>∃r,b7 st es L b=some r):=q5.mono live
 have rowk:∀b,kill=some b→b7 st es (more L i) b=some aa:=fun b hb=>lf he hB (by rw[hw,hb];rfl)
 have row:∀b,b≠m→kill≠some b→b7 st es (more L i) b=b7 st es L b:=fun b hb hk=>dV he (fun r h=>by rw[hn]at h;injection h with h;injection h with h _;exact hb h.symm) (fun r h=>by
  rw[hw]at h
  cases kill with
  |none=>cases h
  |some j=>
   simp only[Option.map_some,Option.some.injEq,Prod.mk.injEq]at h
   exact hk (by rw[h.1]))
 have up:∀b,(∃r,b7 st es L b=some r)→∃r,b7 st es (more L i) b=some r:=fun b hb=>by
  by_cases hk:kill=some b
  ·exact⟨_,rowk b hk⟩
  ·rw[row b (live b hb) hk];exact hb
 have at_:∀b r,b7 st es (more L i) b=some r→(kill≠some b∧b7 st es L b=some r)∨r=aa∨(b=m∧r=⟨T,.own size nn xs⟩):=fun b r hb=>by
  by_cases hbm:b=m
  ·subst hbm;rw[rowm]at hb;cases hb;exact .inr (.inr ⟨rfl,rfl⟩)
  ·by_cases hk:kill=some b
   ·rw[rowk b hk]at hb;cases hb;exact .inr (.inl rfl)
   ·rw[row b hbm hk]at hb;exact .inl ⟨hk,hb⟩
 have new':∀k,A.map (·.block)=some k→k∈w0.S∨w0.w.heap.size≤k:=fun k hk=>by
  rcases hA k hk with hk|hk
  ·obtain⟨i,r0,_,h0,hb⟩:=hS k hk
   exact hI.new i r0 k h0 hb
  ·exact .inr (Nat.le_trans hI.aP.size hk)
 have apart:∀(b:Nat) (r:Row) (k:Nat),kill≠some b→b7 st es L b=some r→aE β b r=some k→A.map (·.block)≠some k:=fun b r k hki hi hk hk'=>by
  rcases hA k hk' with hk' | hk'
  ·obtain⟨j,r0,hj,h0,hb⟩:=hS k hk'
   have:=hI.inj b j r r0 k hi h0 hk hb
   subst this
   exact hki hj
  ·have:=(hI.bY b r hi).lt hk
   omega
 refine⟨?_,?_,fun u sv ht=>?_,fun b r hb=>?_,fun b r k hb hk=>?_,fun b c r r' k hb hc' hk hk'=>?_,hI.aP.seq hc (fun k hk=>?_),fun u sv ht=>?_,fun b r hb=>?_,fun k ok hok hk e hee hb=>?_⟩
 ·cases o.dst<;>simp[Act.put,hI.size]
 ·cases o.dst<;>simp[Act.put,hI.dn]
 ·rw[eB ho he hB]at ht
  split at ht
  ·rename_i hd
   rw[hd,iO (by rw[hI.size];exact(hB.dst u hd).1),if_pos rfl,cd ht]
  ·rename_i hd
   rw[←SV.cg same (hI.tN u sv ht)]
   cases hd':o.dst with
   |none=>exact hI.get u sv ht
   |some d=>
    rw[iO (by rw[hI.size];exact(hB.dst d hd').1),if_neg (fun h=>hd (by rw[hd',h]))]
    exact hI.get u sv ht
 ·rcases at_ b r hb with⟨hk,hb⟩ | rfl|⟨rfl,rfl⟩
  ·refine bp.congr same ⟨r,hb⟩ (hI.tK b r hb) ((hI.bY b r hb).aP hc fun k hkk hm=>?_)
   obtain⟨j,r0,hj,h0,hbb⟩:=hS k hm
   have:=hI.inj b j r r0 k hb h0 hkk hbb
   subst this
   exact hk hj
  ·trivial
  ·exact uo hown
 ·rcases at_ b r hb with⟨hkk,hb⟩ | rfl|⟨rfl,rfl⟩
  ·rw[←bq same ⟨r,hb⟩]at hk;exact hI.new b r k hb hk
  ·cases hk
  ·rw[j6]at hk;exact new' k hk
 ·rcases at_ b r hb with⟨hkb,hb⟩ | rfl|⟨rfl,rfl⟩
  ·rw[←bq same ⟨r,hb⟩]at hk
   rcases at_ c r' hc' with⟨hkc,hc'⟩ | rfl|⟨rfl,rfl⟩
   ·rw[←bq same ⟨r',hc'⟩]at hk';exact hI.inj b c r r' k hb hc' hk hk'
   ·cases hk'
   ·rw[j6]at hk';exact absurd hk' (apart b r k hkb hb hk)
  ·cases hk
  ·rcases at_ c r' hc' with⟨hkc,hc'⟩ | rfl|⟨rfl,rfl⟩
   ·rw[←bq same ⟨r',hc'⟩]at hk'
    rw[j6]at hk
    exact absurd hk (apart c r' k hkc hc' hk')
   ·cases hk'
   ·rfl
 ·obtain⟨j,r0,_,h0,hb⟩:=hS k hk
  exact hI.new j r0 k h0 hb
 ·rw[eB ho he hB]at ht
  split at ht
  ·rw[cd ht];exact SV.br (fun b hb=>by rw[hb];exact⟨_,rowm⟩) hsv
  ·exact SV.br up (hI.tN u sv ht)
 ·rcases at_ b r hb with⟨hkb,hb⟩ | rfl|⟨rfl,rfl⟩
  ·exact Cells.br up (hI.tK b r hb)
  ·trivial
  ·trivial
 ·by_cases hki:k=i
  ·subst hki
   rw[ho]at hok
   cases hok
   have:=hr e hee hb
   unfold more;rw[this];rfl
  ·rw[eX hki]at hk
   have:=hI.down k ok hok hk e hee hb
   unfold more;rw[this];rfl
theorem gE.kY(hI:gE ds w0 n l es st L β a w)(ho:l[i]?=some o)(he:es[i]?=some en)(hB:zB l es n i o en)(hr:∀e∈o.after,Region.binds .any e=true→L e.on=true)
  {m:Nat} {r0 r1:Row} {w':World} {u0:Value} (hn:en.nw=none) (hw:en.wr=some (m,r1)) (hsv:en.sv=.val u0) (hrow:b7 st es L m=some r0) (hblk:aE β m r1=aE β m r0) (hb':bp β w' m r1) (hc:aw (aE β m r0).toList w w')
  (hcs:r1.cs.on (fun b=>∃r,b7 st es L b=some r)):gE ds w0 n l es st (more L i) β (a.put o.dst u0) w':=by
 have rowm:b7 st es (more L i) m=some r1:=lf he hB hw
 have row:∀b,b≠m→b7 st es (more L i) b=b7 st es L b:=fun b hb=>dV he (fun r h=>by rw[hn]at h;cases h) (fun r h=>by rw[hw]at h;injection h with h;injection h with h _;exact hb h.symm)
 have up:∀b,(∃r,b7 st es L b=some r)→∃r,b7 st es (more L i) b=some r:=fun b hb=>by
  by_cases hbm:b=m
  ·rw[hbm];exact⟨_,rowm⟩
  ·rw[row b hbm];exact hb
 have dn:∀b r k,b7 st es (more L i) b=some r→aE β b r=some k→∃r',b7 st es L b=some r'∧aE β b r'=some k:=fun b r k hb hk=>by
  by_cases hbm:b=m
  ·subst hbm
   rw[rowm]at hb
   cases hb
   exact⟨_,hrow,by rw[←hblk];exact hk⟩
  ·rw[row b hbm]at hb;exact⟨_,hb,hk⟩
 refine⟨?_,?_,fun u sv ht=>?_,fun b r hb=>?_,fun b r k hb hk=>?_,fun b c r r' k hbb hcc hk hk'=>?_,?_,fun u sv ht=>?_,fun b r hb=>?_,fun k ok hok hk e hee hb=>?_⟩
 ·cases o.dst<;>simp[Act.put,hI.size]
 ·cases o.dst<;>simp[Act.put,hI.dn]
 ·rw[eB ho he hB]at ht
  split at ht
  ·rename_i hd
   rw[hd,iO (by rw[hI.size];exact(hB.dst u hd).1),if_pos rfl,cd ht,hsv]
   rfl
  ·rename_i hd
   cases hd':o.dst with
   |none=>exact hI.get u sv ht
   |some d=>
    rw[iO (by rw[hI.size];exact(hB.dst d hd').1),if_neg (fun h=>hd (by rw[hd',h]))]
    exact hI.get u sv ht
 ·by_cases hbm:b=m
  ·subst hbm
   rw[rowm]at hb
   cases hb
   exact hb'
  ·rw[row b hbm]at hb
   refine(hI.bY b r hb).aP hc fun k hk hm=>hbm ?_
   exact hI.inj b m r r0 _ hb hrow hk (by simpa using hm)
 ·obtain⟨r',h',hk'⟩:=dn b r k hb hk
  exact hI.new b r' k h' hk'
 ·obtain⟨x,hx,hkx⟩:=dn b r k hbb hk
  obtain⟨y,hy,hky⟩:=dn c r' k hcc hk'
  exact hI.inj b c x y k hx hy hkx hky
 ·exact hI.aP.seq hc (fun x hx=>hI.new m r0 _ hrow (by simpa using hx))
 ·rw[eB ho he hB]at ht
  split at ht
  ·rw[cd ht,hsv];trivial
  ·exact SV.br up (hI.tN u sv ht)
 ·by_cases hbm:b=m
  ·subst hbm
   rw[rowm]at hb
   cases hb
   exact Cells.br up hcs
  ·rw[row b hbm]at hb
   exact Cells.br up (hI.tK b r hb)
 ·by_cases hki:k=i
  ·subst hki
   rw[ho]at hok
   cases hok
   have:=hr e hee hb
   unfold more;rw[this];rfl
  ·rw[eX hki]at hk
   have:=hI.down k ok hok hk e hee hb
   unfold more;rw[this];rfl
end
end Sx
open Go Go.RowKit Go.Lib Go.Sort
namespace Sx
section
variable{P:Program}{H:List (Nat×Hint)}{n:Nat}{w0:bw}{ds:List Deferred}{l:List Oper}{es:List iz}{st:St}{L:Nat→Bool}{β:Env}{a:Act}{w:World}{i:Nat}{o:Oper}{en:iz}{Q:Exit→Act→World→Prop}
theorem yE{ops:Array Oper}{fr:List (Nat×SV)}{b:Bool}(hget:∀t∈o.looksAt ops,∀sv,look fr t=some sv→a.tmps[t]?=some (sv.den β))(hg:guardOf ops fr o=some b):Region.wanted o (yielded ops a.tmps)=b:=by
 unfold guardOf at hg
 unfold Region.wanted
 split at hg
 ·rename_i hn;rw[hn];simpa using hg
 ·rename_i j b' hn
  rw[hn]
  split at hg
  ·cases hg
  ·rename_i oj hoj
   split at hg
   ·cases hg
   ·rename_i t ht
    split at hg
    ·rename_i v hc
     have:=hget t (by unfold Oper.looksAt;rw[hn];simp[hoj,ht]) _ hc
     simp only[yielded,hoj,Option.bind_some,ht,this,SV.den]
     split at hg
     ·rename_i c
      have hb:(c==b')=b:=Option.some.inj hg
      rw[←hb]
      cases c<;>cases b'<;>rfl
     ·rename_i hnb
      have hb:false=b:=Option.some.inj hg
      rw[←hb]
      cases v<;>first|rfl|exact absurd rfl (hnb _)
    ·cases hg
theorem zo(hI:gE ds w0 n l es st L β a w)(ho:l[i]?=some o)(he:es[i]?=some en)(hB:∀k o en,l[k]?=some o→es[k]?=some en→zB l es n k o en)(hlen:es.length=l.length)
  {D:List Nat} (hE:∀k o en,l[k]?=some o→es[k]?=some en→tH P H w0 l.toArray D k (cq n st l es k) o en) (hL:L i=false) (hLD:∀d∈D,L d=false) (hP:∀chain a w',a.defers=ds→w0.PP chain w'→aw w0.S w0.w w'→Q (.panic chain) a w') (hr:∀e∈o.after,Region.binds .any e=true→L e.on=true) {K:Act→World→Prop}
  (hT:(∃m∈D,l.length≤m)→i∈D→wpOp P l.toArray Q i K a w) (hK:i∉D→∀β' a' w',gE ds w0 n l es st (more L i) β' a' w'→K a' w'):wpOp P l.toArray Q i K a w:=by
 have hil:i < l.length:=(List.getElem?_eq_some_iff.1 ho).1
 have hb:=hB i o en ho he
 have hent:=hE i o en ho he
 have hlook:=BZ (st:=st) hlen hB i (by omega)
 have hrows:=Fc (P:=P) (H:=H) (w0:=w0) (ops:=l.toArray) (st:=st) hlen hB hE i (by omega)
 have hlk:∀t∈o.looksAt l.toArray,look (cq n st l es i).fr t=jN l st es L t:=fun t ht=>by
  rw[hlook]
  refine mg fun k hk=>(kT hI ho hL hr ?_).symm
  have:=hb.looks t ht
  rw[hk]at this
  exact this
 have htmp:∀t,Operand.tmp t∈o.op.operands→t∈o.looksAt l.toArray:=fun t ht=>by
  unfold Oper.looksAt
  exact List.mem_append_left _ (List.mem_filterMap.2 ⟨.tmp t,by simpa using ht,rfl⟩)
 have hev:∀x∈o.op.operands,∀sv,ev (cq n st l es i).fr x=some sv→a.eval x=sv.den β∧sv.on (fun b=>∃r,b7 st es L b=some r):=by
  intro x hx sv hsv
  cases x with
  |tmp t=>
   have h1:jN l st es L t=some sv:=by rw[←hlk t (htmp t hx)];exact hsv
   exact⟨by have:=hI.get t sv h1;simp[Act.eval,this],hI.tN t sv h1⟩
  |const v=>simp only[ev,Option.some.injEq]at hsv;subst hsv;exact⟨rfl,trivial⟩
  |global g=>simp only[ev,Option.some.injEq]at hsv;subst hsv;exact⟨rfl,trivial⟩
  |func f=>simp only[ev,Option.some.injEq]at hsv;subst hsv;exact⟨rfl,trivial⟩
 have hw:∀{b},guardOf l.toArray (cq n st l es i).fr o=some b→Region.wanted o (yielded l.toArray a.tmps)=b:=fun hg=>
  yE (β:=β) (fun t ht sv hsv=>hI.get t sv (by rw[←hlk t ht];exact hsv)) hg
 unfold wpOp
 have hio:l.toArray[i]?=some o:=by simpa using ho
 simp only[hio]
 have hrow':∀fS:List Nat,en.EJ=fS→∀b r,b∈fS→rowAt (cq n st l es i).mem b=some r→b7 st es L b=some r:=by
  intro fS htc b r ht hrb
  have hset:=hb.EJ b (by rw[htc];exact ht)
  have:(cq n st l es i).mem[b]?=some r:=hrb
  rw[hrows]at this
  rw[←this]
  refine om (fun k hk=>kT hI ho hL hr ?_) (fun k hk=>kT hI ho hL hr ?_)
  ·have:=hset.1
   rw[hk]at this
   exact this
  ·have:=hset.2
   rw[hk]at this
   exact this
 have hsee:∀fS:List Nat,en.EJ=fS→cw w0 β w (rowAt (cq n st l es i).mem) fS:=fun fS htc=>
  ⟨hI.aP,fun b hb r hr=>hI.bY b r (hrow' fS htc b r hb hr),fun b hb r k hr hk=>hI.new b r k (hrow' fS htc b r hb hr) hk,fun b hb c hc r r' k hr hr' hk hk'=>hI.inj b c r r' k (hrow' fS htc b r hb hr) (hrow' fS htc c r' hc hr') hk hk'⟩
 have hgev:=Ch (P:=P) (H:=H) (β:=β) (W:=w) (a:=a) (o:=o) (e:=ev (cq n st l es i).fr) (fun x hx sv hsv=>(hev x hx sv hsv).1)
 have hgon:=Cg (P:=P) (H:=H) (o:=o) (e:=ev (cq n st l es i).fr) (Q:=fun b=>∃r,b7 st es L b=some r) (fun x hx sv hsv=>(hev x hx sv hsv).2)
 rcases hent with⟨hnD,hent⟩ | ⟨hiD,_,_,hdead⟩
 rotate_left
 ·rcases hdead with⟨e,hee,hbe,heD⟩ | ⟨hg,f,args,g,q,hres,hgok,hphi,hq,hfact,htch⟩ | ⟨m,hm,hle⟩
  rotate_right
  ·have:=hT ⟨m,hm,by simpa using hle⟩ hiD
   unfold wpOp at this
   simpa only[hio]using this
  ·have:=hr e hee hbe
   rw[hLD _ heD]at this
   cases this
  ·rw[hw hg,if_pos rfl]
   refine .inl ?_
   rw[hres]at hgev
   unfold Oper.wp
   rw[show(execOp a.eval o).run P w=_ from hgev]
   refine(hfact w β (hsee g.fS htch)).mono fun e w' hp=>?_
   rcases hp with⟨hphi',_⟩ | ⟨_,chain,rfl,hpp,hc⟩
   ·exact(hq (hphi' q hphi)).elim
   ·exact hP chain a w' hI.dn hpp (hI.aP.seq hc ((hsee g.fS htch).dZ hgok))
 have hK:=hK hnD
 rcases hent with⟨hg,rfl⟩ | ⟨hg,hent⟩
 ·rw[hw hg,if_neg (by decide)]
  exact hK _ _ _ (hI.iT ho he hb hr (aw.refl _ _) rfl rfl trivial)
 ·rw[hw hg,if_pos rfl]
  refine .inl ?_
  have hrow:en.EJ=aF (ev (cq n st l es i).fr) o→∀b r,b∈aF (ev (cq n st l es i).fr) o→rowAt (cq n st l es i).mem b=some r→b7 st es L b=some r:=hrow' _
  have hok:=fun htc=>FK (P:=P) (w0:=w0) (H:=H) (β:=β) (W:=w) (a:=a) (o:=o) (e:=ev (cq n st l es i).fr) (row:=rowAt (cq n st l es i).mem) (hn:=hint H o.dst) hI.aP (fun x hx sv hsv=>(hev x hx sv hsv).1) (fun b r ht hrb=>hI.bY b r (hrow htc b r ht hrb))
  have hon:=fun htc=>KC (P:=P) (w0:=w0) (H:=H) (o:=o) (e:=ev (cq n st l es i).fr) (row:=rowAt (cq n st l es i).mem) (hn:=hint H o.dst) (Q:=fun b=>∃r,b7 st es L b=some r) (fun x hx sv hsv=>(hev x hx sv hsv).2) (fun b r ht hrb=>hI.tK b r (hrow htc b r ht hrb))
  have hwr:∀row',en.nw=some ((cq n st l es i).mem.length,row')→∀s,idxOf (lx (cq n st l es i).mem.length) es=some s→L s=false:=fun row' hn s hs=>by
   have hnw:=hb.nw _ _ hn
   obtain⟨ens,r',hes,hwr⟩:=Ks hs
   have hsl:s < l.length:=by rw[←hlen];exact(List.getElem?_eq_some_iff.1 hes).1
   have hbs:=hB s _ ens (List.getElem?_eq_getElem hsl) hes
   have htc:=(Cn (hE s _ ens (List.getElem?_eq_getElem hsl) hes) hwr).2
   have hset:=(hbs.EJ _ htc).1
   rw[hnw.1]at hset
   have hlt:=hnw.2 s hs
   have hset:lI l s i=true:=hset
   unfold lI at hset
   rw[show Nat.blt i s=true from Nat.ble_eq_true_of_le hlt]at hset
   obtain⟨os,hos,e,hee,hbi,hon⟩:=nK hset
   cases hLs:L s with
   |false=>rfl
   |true=>
    have:=hI.down s os hos hLs e hee hbi
    rw[hon,hL]at this
    cases this
  have hnone:∀row',en.nw=some ((cq n st l es i).mem.length,row')→b7 st es L (cq n st l es i).mem.length=none:=fun row' hn=>by
   have hnw:=hb.nw _ _ hn
   unfold b7
   have hbase:mh st es L (cq n st l es i).mem.length=none:=by
    unfold mh
    simp only[hnw.1,hL,Bool.false_eq_true,if_false]
   split
   ·exact hbase
   ·rename_i s hs
    rw[if_neg (by rw[hwr row' hn s hs];decide)]
    exact hbase
  unfold Oper.wp
  split at hent
  ·rename_i sv hres
   subst hent
   rw[hres]at hgev hgon
   rw[show(execOp a.eval o).run P w=_ from hgev]
   exact hK _ _ _ (hI.iT ho he hb hr (aw.refl _ _) rfl rfl hgon)
  ·rename_i f args g hres
   obtain⟨p,hp,hgok,hfact,hphi,hent⟩:=hent
   obtain⟨hkill,hnew,hret,hupd⟩:=sW hp
   rw[hres]at hgev
   rw[show(execOp a.eval o).run P w=_ from hgev]
   have hsg:=hsee g.fS (by rw[hent])
   refine(hfact w β hsg).mono fun e w' hpost=>?_
   rcases hpost with⟨_,β',hgr⟩ | ⟨_,chain,rfl,hpp,hc⟩
   ·have he1:e=.returned p.1:=by rw[hgr.ret,hret];rfl
    subst he1
    rcases hupd with⟨hu,hp2⟩ | ⟨q,hu,hp2,hpl⟩
    ·have hc:aw [] w w':=by
      have:=hgr.aP
      unfold cH.dZ at this
      rw[hkill,hu]at this
      exact this
     have:=hI.iT ho he hb hr hc (by rw[hent]) (by rw[hent];exact hp2) (by rw[hent];trivial)
     rw[show en.sv.den β=p.1 by rw[hent];rfl]at this
     exact hK _ _ _ this
    ·obtain⟨⟨r0,h0,hf0⟩,hf,hqs⟩:=wB hgok (q:=q) (by rw[hu];simp)
     have h0':=hrow' g.fS (by rw[hent]) q.1 r0 hqs h0
     have hlt:q.1 < (cq n st l es i).mem.length:=(List.getElem?_eq_some_iff.1 h0).1
     have hheld:=hgr.gb q (by rw[hu];simp)
     have same':β'.same β (· < (cq n st l es i).mem.length):=fun k hk=>by
      obtain⟨e1,e2,e3,e4⟩:=hgr.same k hk
      exact⟨e1.symm,e2.symm,e3.symm,e4.symm⟩
     have hheld:=bp.congr same' hlt (xM hpl) hheld
     have hc:=hgr.aP
     unfold cH.dZ at hc
     rw[hkill,hu]at hc
     simp only[List.map_cons,List.map_nil,List.append_nil,List.filterMap_cons,List.filterMap_nil]at hc
     have hb0:cK β (rowAt (cq n st l es i).mem) q.1=aE β q.1 r0:=by unfold cK;rw[show rowAt (cq n st l es i).mem q.1=some r0 from h0]
     rw[hb0,aR hf0]at hc
     have:=hI.kY ho he hb hr (m:=q.1) (r0:=r0) (r1:=q.2) (u0:=p.1) (by rw[hent]) (by rw[hent];exact hp2) (by rw[hent]) h0' (by rw[aR hf,aR hf0]) hheld (by rw[aR hf0];exact hc) (xM hpl)
     exact hK _ _ _ this
   ·exact hP chain a w' hI.dn hpp (hI.aP.seq hc (hsg.dZ hgok))
  ·exact hent.elim
  ·exact hent.elim
  split at hent
  ·rename_i sv ob hres
   obtain⟨hob,rfl⟩:=hent
   have hok:=hok rfl
   have hon:=hon rfl
   rw[hres]at hok hon
   rw[hok hob]
   exact hK _ _ _ (hI.iT ho he hb hr (aw.refl _ _) rfl rfl hon)
  ·rename_i f args v hres
   obtain⟨hc,rfl⟩:=hent
   have hok:=hok rfl
   rw[hres]at hok
   rw[show(execOp a.eval o).run P w=_ from hok]
   refine(hc w hI.aP).mono fun e w' ⟨hev,hch⟩=>?_
   subst hev
   exact hK _ _ _ (hI.iT ho he hb hr hch rfl rfl trivial)
  ·rename_i t cs ln hres
   obtain⟨hf,hft⟩:=qQ hres
   have hok:=hok (by rw[hent])
   have hon:=hon (by rw[hent])
   rw[hres]at hok hon
   rw[show(execOp a.eval o).run P w=_ from hok]
   have hn:en.nw=some ((cq n st l es i).mem.length,⟨t,cs⟩):=by rw[hent]
   exact hK _ _ _ (hI.Ag ho he hb hr hf hft hn (by rw[hent]) (by rw[hent]) (hnone _ hn) (hwr _ hn) hon)
  ·rename_i m r ob hres
   obtain⟨hob,hent⟩:=hent
   have hok:=hok (by rw[hent])
   have hon:=hon (by rw[hent])
   rw[hres]at hok hon
   obtain⟨w',hrun,hbk,hch⟩:=hok hob
   rw[hrun]
   obtain⟨htt,hf,r0,hr0,hf0,htg⟩:=lD hres
   exact hK _ _ _ (hI.kY ho he hb hr (by rw[hent]) (by rw[hent]) (by rw[hent]) (hrow (by rw[hent]) m r0 htt hr0) (by rw[aR hf,aR hf0]) (bp.lW hbk hf (fun g hg=>(hI.bY m r0 (hrow (by rw[hent]) m r0 htt hr0)).tag g (by rw[←htg];exact hg))) (by rw[aR hf0];exact hch) hon.2)
  ·rename_i m r ob hres
   obtain⟨hob,hent⟩:=hent
   have hok:=hok (by rw[hent])
   have hon:=hon (by rw[hent])
   rw[hres]at hok hon
   obtain⟨w',hrun,hbk,hch⟩:=hok hob
   rw[hrun]
   obtain⟨htt,r0,hr0,hbb⟩:=kO hres
   rw[hbb β]at hch
   exact hK _ _ _ (hI.kY ho he hb hr (by rw[hent]) (by rw[hent]) (by rw[hent]) (hrow (by rw[hent]) m r0 htt hr0) (hbb β) hbk hch hon.2)
  ·rename_i kill t size nn xs ob hres
   obtain⟨hob,hent⟩:=hent
   have htc:=fun j (hj:kill=some j)=>oe (P:=P) (o:=o) (i:=j) (hj ▸ hres)
   have hok:=hok (by rw[hent])
   rw[hres]at hok
   obtain⟨A,cc,w',S,hrun,hown,hch,hS,hA⟩:=hok hob
   rw[hrun]
   have hn:en.nw=some ((cq n st l es i).mem.length,⟨t,.own size nn xs⟩):=by rw[hent]
   have:=hI.pZ ho he hb hr hn (kill:=kill) (by rw[hent]) (hnone _ hn) (hwr _ hn) hown hch (fun k hk=>by
    obtain⟨j,hj,hbk⟩:=hS k hk
    obtain⟨htj,r,h0,s,m,ys,hcs⟩:=htc j hj
    exact⟨j,r,hj,hrow (by rw[hent]) j r htj h0,by unfold aE;rw[hcs];exact hbk⟩) hA (by rw[hent];rfl)
   rw[show en.sv.den (β.gK (cq n st l es i).mem.length A nn cc)=.slice A nn cc by rw[hent];exact kI]at this
   exact hK _ _ _ this
  ·rename_i f args r hres
   obtain⟨hcl,hent⟩:=hent
   have htc:=ze hres
   have hok:=hok (by rw[hent])
   rw[hres]at hok
   rw[show(execOp a.eval o).run P w=_ from hok]
   have hcall:=eO (β:=β) (hcl w hI.aP) (fun j sv hj hat r' hr'=>hI.bY j r' (hrow (by rw[hent]) j r' (htc j sv hj hat) hr'))
   refine hcall.mono fun e w' hp=>?_
   rcases Fi hp with⟨v,rfl,rfl,hc⟩ | ⟨T,size,nn,xs,A,cc,hrr,hown,hc,hA,hsv⟩
   ·have:=hI.iT ho he hb hr hc (by rw[hent];rfl) (by rw[hent]) (by rw[hent];trivial)
    rw[show en.sv.den β=v by rw[hent];rfl]at this
    exact hK _ _ _ this
   ·obtain⟨hev',hon'⟩:=hsv β (cq n st l es i).mem.length
    subst hev'
    have hn:en.nw=some ((cq n st l es i).mem.length,⟨T,.own size nn xs⟩):=by rw[hent];simp only[hrr,Option.map_some]
    have:=hI.pZ ho he hb hr hn (kill:=none) (by rw[hent];rfl) (hnone _ hn) (hwr _ hn) hown hc (by simp) (fun k hk=>.inr (hA k hk)) (by rw[hent];exact hon')
    rw[show en.sv=gH (cq n st l es i).mem.length r by rw[hent]]at this
    exact hK _ _ _ this
  ·rename_i f j r hres
   obtain⟨hcl,hent⟩:=hent
   have htj:=(qP hres).1
   have hok:=hok (by rw[hent])
   rw[hres]at hok
   rw[show(execOp a.eval o).run P w=_ from hok]
   have hcall:=CA (β:=β) (hcl w hI.aP) (fun r' hr'=>hI.bY j r' (hrow (by rw[hent]) j r' htj hr'))
   obtain⟨r0,h0,s0,m0,y0,hc0⟩:=tB (hcl w hI.aP)
   refine hcall.mono fun e w' hp=>?_
   obtain⟨T,size,nn,xs,A,cc,hrr,hown,hc,hA,hsv⟩:=BC hp
   obtain⟨hev',hon'⟩:=hsv β (cq n st l es i).mem.length
   subst hev'
   rw[xz]at hc hA
   have hn:en.nw=some ((cq n st l es i).mem.length,⟨T,.own size nn xs⟩):=by rw[hent];simp only[hrr,Option.map_some]
   have:=hI.pZ ho he hb hr hn (kill:=some j) (by rw[hent];rfl) (hnone _ hn) (hwr _ hn) hown hc (fun k hk=>⟨j,r0,rfl,hrow (by rw[hent]) j r0 htj h0,by unfold aE;rw[hc0];simpa using hk⟩) (fun k hk=>(hA k hk).imp (fun h=>by simpa using h) id) (by rw[hent];exact hon')
   rw[show en.sv=gH (cq n st l es i).mem.length r by rw[hent]]at this
   exact hK _ _ _ this
  ·rename_i f args x hres
   obtain⟨hx1,hx2,_⟩:=ot hres
   cases x with
   |gb p m row v=>
    obtain⟨hcl,hent⟩:=hent
    obtain⟨hpi,htt,r0,h0,hty,hf0,hf,htg⟩:=hx2 p m row v rfl
    have hok:=hok (by rw[hent])
    have hon:=hon (by rw[hent])
    rw[hres]at hok hon
    rw[show(execOp a.eval o).run P w=_ from hok]
    have hr0:=hrow (by rw[hent]) m r0 htt h0
    have hcall:=eO (β:=β) (hcl w hI.aP) (fun j sv hj hat r' hr'=>hI.bY j r' (hrow (by rw[hent]) j r' (hx1 j sv hj hat) hr'))
    refine hcall.mono fun e w' hp=>?_
    obtain⟨g,l,hg,hl,rfl,hb',hc⟩:=hp
    rw[List.getElem?_map,hpi]at hg
    have hgi:β m=g:=by simpa[SV.den]using hg
    have hden:row.cs.den β=l:=by
     unfold Cells.list at hl
     split at hl<;>first | (cases hl;done) | (rename_i hcs;cases hl;rw[hcs];rfl)
    rw[←hgi]at hb' hc
    have hheld:bp β w' m row:=bp.lW (by rw[hden];exact hb') hf (fun g hg=>(hI.bY m r0 hr0).tag g (by rw[←htg];exact hg))
    exact hK _ _ _ (hI.kY ho he hb hr (by rw[hent]) (by rw[hent]) (by rw[hent]) hr0 (by rw[aR hf,aR hf0]) hheld (by rw[aR hf0];exact hc) hon.2)
   |Dg ps=>exact hent.elim
  ·exact hent.elim
theorem fi{listed:Array Bool}(h:i < listed.size):more (fun k=>listed.getD k false) i=fun k=>(listed.setIfInBounds i true).getD k false:=by
 funext k
 by_cases hk:k=i
 ·subst hk
  rw[iU]
  simp[h]
 ·rw[eX hk,getD_set_ne false (Ne.symm hk)]
theorem Mq(hB:∀k o en,l[k]?=some o→es[k]?=some en→zB l es n k o en)(hlen:es.length=l.length)
  {D:List Nat} (hE:∀k o en,l[k]?=some o→es[k]?=some en→tH P H w0 l.toArray D k (cq n st l es k) o en)
  (hDl:∀d∈D,d < l.length) (hP:∀chain a w',a.defers=ds→w0.PP chain w'→aw w0.S w0.w w'→Q (.panic chain) a w')
  (hQ:D=[]→∀L β a w,gE ds w0 n l es st L β a w→(∀k,k < l.length→L k=true)→Q .normal a w) :
  ∀(fuel:Nat) (listed:Array Bool) (β:Env) (a:Act) (w:World),listed.size=l.length→listed.toList.count true+fuel=l.length→(∀d∈D,listed.getD d false=false)→gE ds w0 n l es st (fun k=>listed.getD k false) β a w→wpAny P .any l.toArray Q fuel listed a w:=by
 have done:∀(listed:Array Bool),listed.size=l.length→Region.ready .any l.toArray listed=[]→∀k,k < l.length→listed.getD k false=true:=by
  intro listed hsz hnil k
  induction k using Nat.strongRecOn with
  |_ k ih=>
   intro hk
   cases hLk:listed.getD k false with
   |true=>rfl
   |false=>
    exfalso
    obtain⟨o,ho⟩:∃o,l[k]?=some o:=⟨_,List.getElem?_eq_getElem hk⟩
    obtain⟨en,he⟩:∃en,es[k]?=some en:=⟨_,List.getElem?_eq_getElem (by omega)⟩
    have hmem:k∈Region.ready .any l.toArray listed:=by
     rw[mem_ready]
     refine⟨?_,o,by simpa using ho,fun e hee hb=>?_⟩
     ·have hk':k < listed.size:=by omega
      simp only[Array.getD_eq_getD_getElem?,Array.getElem?_eq_getElem hk',Option.getD_some]at hLk ⊢
      exact hLk
     ·have hlt:=(hB k o en ho he).down e hee hb
      exact ih e.on hlt (by omega)
    rw[hnil]at hmem
    cases hmem
 intro fuel
 induction fuel with
 |zero=>
  intro listed β a w hsz hcnt hLD hI
  have hall:∀k,k < l.length→listed.getD k false=true:=by
   have hc:listed.toList.count true=listed.toList.length:=by simp at hcnt ⊢;omega
   have:=List.count_eq_length.1 hc
   intro k hk
   have hk':k < listed.size:=by omega
   have h1:=this listed[k] (by simp)
   simp[hk',←h1]
  have noD:D=[]:=List.eq_nil_iff_forall_not_mem.2 fun d hd=>by
   have:=hall d (hDl d hd)
   rw[hLD d hd]at this
   cases this
  refine⟨?_,hQ noD _ β a w hI hall⟩
  cases hr:Region.ready .any l.toArray listed with
  |nil=>rfl
  |cons x r=>
   exfalso
   have hx:x∈Region.ready .any l.toArray listed:=by rw[hr];simp
   obtain⟨h0,o,ho,_⟩:=mem_ready.1 hx
   have hxl:x < l.length:=by
    have:=(List.getElem?_eq_some_iff.1 (show l[x]?=some o by simpa using ho)).1
    exact this
   have:=hall x hxl
   have hk':x < listed.size:=by omega
   simp only[Array.getD_eq_getD_getElem?,Array.getElem?_eq_getElem hk',Option.getD_some]at h0 this
   rw[h0]at this
   cases this
 |succ fuel ih=>
  intro listed β a w hsz hcnt hLD hI
  refine⟨fun hnil=>hQ (List.eq_nil_iff_forall_not_mem.2 fun d hd=>by
   have:=done listed hsz hnil d (hDl d hd)
   rw[hLD d hd]at this
   cases this) _ β a w hI (done listed hsz hnil),fun i hi=>?_⟩
  obtain⟨h0,o,ho,hall⟩:=mem_ready.1 hi
  have ho':l[i]?=some o:=by simpa using ho
  have hil:i < l.length:=(List.getElem?_eq_some_iff.1 ho').1
  have hk':i < listed.size:=by omega
  obtain⟨en,he⟩:∃en,es[i]?=some en:=⟨_,List.getElem?_eq_getElem (by omega)⟩
  have hLi:listed[i]=false:=by simpa[hk']using h0
  refine zo hI ho' he hB hlen hE (by simp[hk',hLi]) hLD hP (fun e hee hb=>hall e (by simpa using hee) hb) (fun⟨m,hm,hle⟩ _=>absurd (hDl m hm) (by omega)) fun hiD β' a' w' hI'=>?_
  have hLD':∀d∈D,(listed.setIfInBounds i true).getD d false=false:=fun d hd=>by
   have hne:d≠i:=fun h=>hiD (h ▸ hd)
   rw[←congrFun (fi hk') d,eX hne]
   exact hLD d hd
  rw[fi hk']at hI'
  refine ih _ β' a' w' (by simpa using hsz) ?_ hLD' hI'
  have hcs:(listed.setIfInBounds i true).toList.count true=listed.toList.count true+1:=by
   rw[Array.toList_setIfInBounds,List.count_set (by simpa using hk')]
   have:listed.toList[i]'(by simpa using hk')=false:=by simpa using hLi
   simp[this]
  omega
theorem gE.start(h:Hd ds w0 n β st a w)(hfresh:∀b k:Nat,idxOf (iJ b) es=some k→st.mem[b]?=none):gE ds w0 n l es st (fun _=>false) β a w:=by
 have row:∀b,b7 st es (fun _=>false) b=st.mem[b]?:=fun b=>vh (hfresh b)
 have lt:∀b,b < st.mem.length→∃r,b7 st es (fun _=>false) b=some r:=fun b hb=>⟨_,by rw[row];exact List.getElem?_eq_getElem hb⟩
 refine⟨h.size,h.dn,fun t sv ht=>h.get t sv (by rw[←ht,oo]),fun b r hb=>h.bY b r (by rw[←hb,row]),fun b r k hb hk=>h.new b r k (by rw[←hb,row]) hk,fun b c r r' k hb hc hk hk'=>h.inj b c r r' k (by rw[←hb,row]) (by rw[←hc,row]) hk hk',h.aP,fun t sv ht=>?_,fun b r hb=>?_,fun k o ho hk=>by cases hk⟩
 ·rw[oo]at ht;exact SV.br lt (h.tN t sv ht)
 ·rw[row]at hb;exact Cells.br lt (h.tK b r hb)
theorem gE.KL(hI:gE ds w0 n l es st L β a w){m:Nat}(hm:m≤l.length)(hL:∀k,k < l.length→L k=oC m k)(hB:∀k o en,l[k]?=some o→es[k]?=some en→zB l es n k o en)(hlen:es.length=l.length)
  {D:List Nat} (hE:∀k o en,l[k]?=some o→es[k]?=some en→tH P H w0 l.toArray D k (cq n st l es k) o en):Hd ds w0 n β (cq n st l es m) a w:=by
 have hlook:∀t,look (cq n st l es m).fr t=jN l st es L t:=fun t=>by
  rw[BZ (st:=st) hlen hB m hm]
  refine mg fun k hk=>?_
  obtain⟨o,ho,_⟩:=fU hk
  have hkl:=(List.getElem?_eq_some_iff.1 ho).1
  rw[hL k hkl]
 have hrow:∀b:Nat,(cq n st l es m).mem[b]?=b7 st es L b:=fun b=>by
  rw[Fc (P:=P) (H:=H) (w0:=w0) (ops:=l.toArray) (st:=st) hlen hB hE m hm]
  refine om (fun k hk=>?_) (fun k hk=>?_)
  ·obtain⟨o,ho,_⟩:=fU hk
   have hkl:=(List.getElem?_eq_some_iff.1 ho).1
   rw[hlen]at hkl
   rw[hL k hkl]
  ·obtain⟨o,ho,_⟩:=fU hk
   have hkl:=(List.getElem?_eq_some_iff.1 ho).1
   rw[hlen]at hkl
   rw[hL k hkl]
 have ex:∀b:Nat,b < (cq n st l es m).mem.length→∃r,b7 st es L b=some r:=fun b hb=>⟨_,by rw[←hrow];exact List.getElem?_eq_getElem hb⟩
 have back:∀b:Nat,(∃r,b7 st es L b=some r)→b < (cq n st l es m).mem.length:=fun b ⟨r,h⟩=>by rw[←hrow]at h;exact(List.getElem?_eq_some_iff.1 h).1
 refine⟨hI.size,hI.dn,fun t sv ht=>hI.get t sv (by rw[←hlook];exact ht),fun b r hb=>hI.bY b r (by rw[←hrow];exact hb),fun b r k hb hk=>hI.new b r k (by rw[←hrow];exact hb) hk,fun b c r r' k hb hc hk hk'=>hI.inj b c r r' k (by rw[←hrow];exact hb) (by rw[←hrow];exact hc) hk hk',hI.aP,fun t sv ht=>?_,fun b r hb=>?_⟩
 ·rw[hlook]at ht;exact SV.br back (hI.tN t sv ht)
 ·rw[hrow]at hb;exact Cells.br back (hI.tK b r hb)
theorem gE.fin(hI:gE ds w0 n l es st L β a w)(hL:∀k,k < l.length→L k=true)(hB:∀k o en,l[k]?=some o→es[k]?=some en→zB l es n k o en)(hlen:es.length=l.length)
  {D:List Nat} (hE:∀k o en,l[k]?=some o→es[k]?=some en→tH P H w0 l.toArray D k (cq n st l es k) o en):Hd ds w0 n β (cq n st l es l.length) a w:=
 hI.KL (Nat.le_refl _) (fun k hk=>by rw[hL k hk];simp[oC,hk]) hB hlen hE
def Cm(P:Program)(H:List (Nat×Hint))(n:Nat)(w0:bw)(l:List Oper)(st:St)(K:St→Prop):Prop:=
 fM P H n w0 l.toArray l 0 st [] [] fun es st' D=>match zr l es n 0 l es with
  |true=>match D with
   | []=>K st'
   |_=>True
  |false=>cF l
theorem AI{id:Nat}{K:St→Prop}(hm:P.follows .mixedOrders=true)(h:Hd ds w0 n β st a w)(hx:Cm P H n w0 l st K)(hP:∀chain a w',a.defers=ds→w0.PP chain w'→aw w0.S w0.w w'→Q (.panic chain) a w')(hK:∀β' st' a' w',K st'→Hd ds w0 n β' st' a' w'→Q .normal a' w'):(Code.region id l.toArray true).wp P Q a w:=by
 obtain⟨es,st',D,hlex,hk⟩:=wg _ _ _ _ _ _ hx
 rw[List.nil_append]at hk
 obtain⟨hlen,hE,hst⟩:=sL hlex (by simp)
 have hE:∀k o en,l[k]?=some o→es[k]?=some en→tH P H w0 l.toArray D k (cq n st l es k) o en:=fun k o en ho he=>by
  have:=hE k o en ho he
  rwa [Nat.zero_add]at this
 have hDl:∀d∈D,d < l.length:=fun d hd=>by simpa using lex_lt hlex (by simp) d hd
 split at hk
 ·rename_i hb
  have hB:∀k o en,l[k]?=some o→es[k]?=some en→zB l es n k o en:=fun k o en ho he=>by
   have:=ox hb k o en ho he
   rw[Nat.zero_add]at this
   exact xP this
  refine wp_region_any hm ?_
  have hI:gE ds w0 n l es st (fun _=>false) β a { w with drawn:=w.drawn+1 }:=gE.start (h.later (aw.refl [] w).drew) fun b k hk'=>by
   obtain⟨en,r,he,hr⟩:=fh hk'
   have hkl:k < l.length:=by rw[←hlen];exact(List.getElem?_eq_some_iff.1 he).1
   have hbl:=rl (hE k _ en (List.getElem?_eq_getElem hkl) he) hr
   have:=vZ (n:=n) (st:=st) hlen k (by omega)
   exact List.getElem?_eq_none (by omega)
  have hrep:(fun k=>(Array.replicate l.length false).getD k false)=fun _:Nat=>false:=by
   funext k
   simp only[Array.getD_eq_getD_getElem?,Array.getElem?_replicate]
   split<;>rfl
  have:=Mq (P:=P) (H:=H) (w0:=w0) (n:=n) (st:=st) (Q:=Q) hB hlen hE hDl hP (fun hDn L β' a' w' hI' hL=>hK β' st' a' w' (by subst hDn;exact hk) (by rw[←hst];exact hI'.fin hL hB hlen hE)) l.length (Array.replicate l.length false) β a { w with drawn:=w.drawn+1 } (by simp) (by simp[List.count_replicate]) (fun d _=>congrFun hrep d) (by rw[hrep];exact hI)
  simpa using this
 ·exact nomatch hk
def sinkB(l:List Oper):Bool:=eR (fun k=>(l.drop (k+1)).any fun o=>o.after.toList.any fun e=>Region.binds .any e&&Nat.beq e.on k) (List.range (l.length - 1))
def Kw(H:List (Nat×Hint))(l:List Oper):Option Oper:=match l.getLast? with
 |some o=>match hint H o.dst with
  |some (.al g)=>match u5 g with
   |none=>some o
   |some _=>none
  |_=>none
 |none=>none
def Cl(P:Program)(H:List (Nat×Hint))(n:Nat)(w0:bw)(l:List Oper)(o:Oper)(st:St)(K:St→Prop):Prop:=
 fM P H n w0 l.toArray l.dropLast 0 st [] [] fun es st' D=>match zr l (es++[jJ []]) n 0 l (es++[jJ []])&&sinkB l with
  |true=>match D with
   | []=>vj P H n w0 l.toArray [o] st' K
   |_=>cF l
  |false=>cF l
def AJ(P:Program)(H:List (Nat×Hint))(n:Nat)(w0:bw)(l:List Oper)(st:St)(K:St→Prop):Prop:=match Kw H l with
 |some o=>Cl P H n w0 l o st K
 |none=>Cm P H n w0 l st K
theorem rN:∀{l:List Oper} {es:List iz} {st:St} {k:Nat} (l2:List Oper) (es2:List iz),es.length=l.length→k≤l.length→cq n st (l++l2) (es++es2) k=cq n st l es k
 |l,es,st,0,l2,es2,_,_=>by rw[gN,gN]
 |o::l,en::es,st,k+1,l2,es2,hl,hk=>by
  show cq n (da n st o en) (l++l2) (es++es2) k=cq n (da n st o en) l es k
  exact rN l2 es2 (by simpa using hl) (by simpa using hk)
 | [],_,_,k+1,_,_,_,hk=>by simp at hk
 |_::_,[],_,_,_,_,hl,_=>by simp at hl
theorem Kj{o:Oper}{N:Nat}(hB:∀k o en,l[k]?=some o→es[k]?=some en→zB l es n k o en)(hlen:es.length=l.length)(hN:l.length=N+1)(hoN:l[N]?=some o)
  (hE:∀k o en,l[k]?=some o→es[k]?=some en→tH P H w0 l.toArray [N,l.length] k (cq n st l es k) o en) (hsink:sinkB l=true)
  (hP:∀chain a w',a.defers=ds→w0.PP chain w'→aw w0.S w0.w w'→Q (.panic chain) a w')
  (hQ:∀β a w,Hd ds w0 n β (cq n st l es N) a w→wpList P l.toArray Q [o] a w) :
  ∀(fuel:Nat) (listed:Array Bool) (β:Env) (a:Act) (w:World),listed.size=l.length→listed.toList.count true+fuel=l.length→listed.getD N false=false→(∀k,listed.getD k false=true→∀o,l[k]?=some o→∀e∈o.after,Region.binds .any e=true→listed.getD e.on false=true)→
   gE ds w0 n l es st (fun k=>listed.getD k false) β a w→wpAny P .any l.toArray Q fuel listed a w:=by
 have inB:∀(listed:Array Bool) (k:Nat),listed.getD k false=true→k < listed.size:=fun listed k h=>by
  rcases Nat.lt_or_ge k listed.size with h1|h1
  ·exact h1
  ·rw[Array.getD_eq_getD_getElem?,Array.getElem?_eq_none h1]at h;cases h
 have done:∀(listed:Array Bool),listed.size=l.length→Region.ready .any l.toArray listed=[]→∀k,k < l.length→listed.getD k false=true:=by
  intro listed hsz hnil k
  induction k using Nat.strongRecOn with
  |_ k ih=>
   intro hk
   cases hLk:listed.getD k false with
   |true=>rfl
   |false=>
    exfalso
    obtain⟨o,ho⟩:∃o,l[k]?=some o:=⟨_,List.getElem?_eq_getElem hk⟩
    obtain⟨en,he⟩:∃en,es[k]?=some en:=⟨_,List.getElem?_eq_getElem (by omega)⟩
    have hmem:k∈Region.ready .any l.toArray listed:=by
     rw[mem_ready]
     refine⟨?_,o,by simpa using ho,fun e hee hb=>?_⟩
     ·have hk':k < listed.size:=by omega
      simp only[Array.getD_eq_getD_getElem?,Array.getElem?_eq_getElem hk',Option.getD_some]at hLk ⊢
      exact hLk
     ·have hlt:=(hB k o en ho he).down e hee hb
      exact ih e.on hlt (by omega)
    rw[hnil]at hmem
    cases hmem
 intro fuel
 induction fuel with
 |zero=>
  intro listed β a w hsz hcnt hLN _ hI
  exfalso
  have hc:listed.toList.count true=listed.toList.length:=by simp at hcnt ⊢;omega
  have:=List.count_eq_length.1 hc
  have hk':N < listed.size:=by omega
  have h1:=this listed[N] (by simp)
  simp[hk',←h1]at hLN
 |succ fuel ih=>
  intro listed β a w hsz hcnt hLN hcl hI
  refine⟨fun hnil=>absurd (done listed hsz hnil N (by omega)) (by rw[hLN];decide),fun i hi=>?_⟩
  obtain⟨h0,o',ho,hall⟩:=mem_ready.1 hi
  have ho':l[i]?=some o':=by simpa using ho
  have hil:i < l.length:=(List.getElem?_eq_some_iff.1 ho').1
  have hk':i < listed.size:=by omega
  obtain⟨en,he⟩:∃en,es[i]?=some en:=⟨_,List.getElem?_eq_getElem (by omega)⟩
  have hLi:listed[i]=false:=by simpa[hk']using h0
  have hLD:∀d∈[N,l.length],listed.getD d false=false:=fun d hd=>by
   rcases List.mem_cons.1 hd with rfl|hd
   ·exact hLN
   ·rw[List.mem_singleton.1 hd,Array.getD_eq_getD_getElem?,Array.getElem?_eq_none (by omega)];rfl
  refine zo hI ho' he hB hlen hE (by simp[hk',hLi]) hLD hP (fun e hee hb=>hall e (by simpa using hee) hb) (fun _ hiD=>?_) fun hiD β' a' w' hI'=>?_
  ·have hiN:i=N:=by
    rcases List.mem_cons.1 hiD with h|h
    ·exact h
    ·have:=List.mem_singleton.1 h;omega
   subst hiN
   rw[hoN]at ho'
   cases ho'
   have allL:∀m k,k+m=i→k < i→listed.getD k false=true:=by
    intro m
    induction m using Nat.strongRecOn with
    |_ m ihm=>
     intro k hkm hki
     have hs:=ba hsink k (List.mem_range.2 (by omega))
     obtain⟨oj,hoj,hej⟩:=List.any_eq_true.1 hs
     obtain⟨e,hee,hbb⟩:=List.any_eq_true.1 hej
     rw[Bool.and_eq_true]at hbb
     have hek:e.on=k:=Nat.eq_of_beq_eq_true hbb.2
     obtain⟨j,hj⟩:=List.mem_iff_getElem?.1 hoj
     rw[List.getElem?_drop]at hj
     have hjl:=(List.getElem?_eq_some_iff.1 hj).1
     by_cases hjN:k+1+j=i
     ·rw[hjN,hoN]at hj
      cases hj
      have:=hall e (by simpa using hee) hbb.1
      rw[hek]at this
      exact this
     ·have hl:=ihm (i - (k+1+j)) (by omega) (k+1+j) (by omega) (by omega)
      have:=hcl _ hl oj hj e (by simpa using hee) hbb.1
      rw[hek]at this
      exact this
   have hL:∀k,k < l.length→listed.getD k false=oC i k:=fun k hk=>by
    by_cases hki:k < i
    ·rw[allL (i - k) k (by omega) hki]; simp[oC,hki]
    ·have:k=i:=by omega
     subst this
     rw[hLN];simp[oC]
   have hH:=hI.KL (by omega) hL hB hlen hE
   have hw:=hQ β a w hH
   have hfuel:fuel=0:=by
    have hcount:listed.toList.count true=i:=by
     have:listed.toList=List.replicate i true++[false]:=by
      refine List.ext_getElem? fun k=>?_
      by_cases hki:k < i
      ·rw[List.getElem?_append_left (by simpa using hki),List.getElem?_replicate,if_pos hki]
       have h1:=allL (i - k) k (by omega) hki
       have hks:k < listed.size:=by omega
       rw[Array.getD_eq_getD_getElem?,Array.getElem?_eq_getElem hks]at h1
       rw[Array.getElem?_toList,Array.getElem?_eq_getElem hks]
       simpa using h1
      ·by_cases hke:k=i
       ·subst hke
        rw[List.getElem?_append_right (by simp),Array.getElem?_toList,Array.getElem?_eq_getElem hk',hLi]
        simp
       ·rw[List.getElem?_eq_none (by simp;omega),List.getElem?_eq_none (by simp;omega)]
     rw[this]
     simp
    omega
   subst hfuel
   have hrdy:Region.ready .any l.toArray (listed.setIfInBounds i true)=[]:=by
    cases hr:Region.ready .any l.toArray (listed.setIfInBounds i true)with
    |nil=>rfl
    |cons x r=>
     exfalso
     have hx:x∈Region.ready .any l.toArray (listed.setIfInBounds i true):=by rw[hr];simp
     obtain⟨h0,o,ho,_⟩:=mem_ready.1 hx
     have hxl:x < l.length:=(List.getElem?_eq_some_iff.1 (show l[x]?=some o by simpa using ho)).1
     have hall2:(listed.setIfInBounds i true).getD x false=true:=by
      rw[←congrFun (fi hk') x]
      by_cases hxi:x=i
      ·rw[hxi,iU]
      ·rw[eX hxi,hL x hxl];simp[oC];omega
     have hxs:x < (listed.setIfInBounds i true).size:=by simp;omega
     rw[Array.getD_eq_getD_getElem?,Array.getElem?_eq_getElem hxs]at hall2
     rw[Array.getD_eq_getD_getElem?,Array.getElem?_eq_getElem hxs]at h0
     simp only[Option.getD_some]at hall2 h0
     rw[hall2]at h0
     cases h0
   unfold wpOp
   rw[show l.toArray[i]?=some o by simpa using hoN]
   simp only
   unfold wpList at hw
   split at hw
   ·rename_i hwt
    rw[if_pos hwt]
    rcases hw with hw|hw
    ·exact .inl (Oper.wp_mono (fun a' w' h=>⟨hrdy,by simpa[wpList]using h⟩) hw)
    ·exact .inr hw
   ·rename_i hwt
    rw[if_neg hwt]
    exact⟨hrdy,by simpa[wpList]using hw⟩
  ·have hLN':(listed.setIfInBounds i true).getD N false=false:=by
    have hne:N≠i:=fun h=>hiD (h ▸ by simp)
    rw[←congrFun (fi hk') N,eX hne]
    exact hLN
   have hcl':∀k,(listed.setIfInBounds i true).getD k false=true→∀o,l[k]?=some o→∀e∈o.after,Region.binds .any e=true→(listed.setIfInBounds i true).getD e.on false=true:=by
    intro k hk ok hok e hee hb
    rw[←congrFun (fi hk') k]at hk
    rw[←congrFun (fi hk') e.on]
    have up:listed.getD e.on false=true→more (fun k=>listed.getD k false) i e.on=true:=fun h=>by
     by_cases hx:e.on=i
     ·rw[hx,iU]
     ·rw[eX hx];exact h
    by_cases hki:k=i
    ·subst hki
     rw[ho']at hok
     cases hok
     exact up (hall e (by simpa using hee) hb)
    ·rw[eX hki]at hk
     exact up (hcl k hk ok hok e hee hb)
   rw[fi hk']at hI'
   refine ih _ β' a' w' (by simpa using hsz) ?_ hLN' hcl' hI'
   have hcs:(listed.setIfInBounds i true).toList.count true=listed.toList.count true+1:=by
    rw[Array.toList_setIfInBounds,List.count_set (by simpa using hk')]
    have:listed.toList[i]'(by simpa using hk')=false:=by simpa using hLi
    simp[this]
   omega
theorem AH{id:Nat}{K:St→Prop}{o:Oper}(hm:P.follows .mixedOrders=true)(h:Hd ds w0 n β st a w)(ho:l.getLast?=some o)(hx:Cl P H n w0 l o st K)(hP:∀chain a w',a.defers=ds→w0.PP chain w'→aw w0.S w0.w w'→Q (.panic chain) a w')(hK:∀β' st' a' w',K st'→Hd ds w0 n β' st' a' w'→Q .normal a' w'):(Code.region id l.toArray true).wp P Q a w:=by
 obtain⟨es,st',D,hlex,hk⟩:=wg _ _ _ _ _ _ hx
 rw[List.nil_append]at hk
 obtain⟨hlen0,hE0,hst⟩:=sL hlex (by simp)
 obtain⟨l1,rfl⟩:∃l1,l=l1++[o]:=⟨l.dropLast,by
  rw[List.getLast?_eq_some_iff]at ho
  obtain⟨ys,rfl⟩:=ho
  simp⟩
 rw[List.dropLast_concat]at hlen0 hE0 hst
 split at hk
 rotate_left
 ·exact nomatch hk
 rename_i hb
 rw[Bool.and_eq_true]at hb
 split at hk
 rotate_left
 ·exact nomatch hk
 have hlen:(es++[jJ []]).length=(l1++[o]).length:=by simp[hlen0]
 have hB:∀k o' en,(l1++[o])[k]?=some o'→(es++[jJ []])[k]?=some en→zB (l1++[o]) (es++[jJ []]) n k o' en:=fun k o' en ho he=>by
  have:=ox hb.1 k o' en ho he
  rw[Nat.zero_add]at this
  exact xP this
 have hE:∀k o' en,(l1++[o])[k]?=some o'→(es++[jJ []])[k]?=some en→tH P H w0 (l1++[o]).toArray [l1.length,(l1++[o]).length] k (cq n st (l1++[o]) (es++[jJ []]) k) o' en:=by
  intro k o' en ho he
  have hkl:=(List.getElem?_eq_some_iff.1 ho).1
  simp only[List.length_append,List.length_singleton]at hkl
  by_cases hkN:k < l1.length
  ·rw[List.getElem?_append_left hkN]at ho
   rw[List.getElem?_append_left (by omega)]at he
   have:=hE0 k o' en ho he
   rw[Nat.zero_add]at this
   rw[rN [o] [jJ []] hlen0 (by omega)]
   rcases this with⟨_,h1⟩ | ⟨h1,_⟩
   ·refine .inl ⟨fun hh=>?_,h1⟩
    simp only[List.mem_cons,List.not_mem_nil,or_false,List.length_append,List.length_singleton]at hh
    omega
   ·cases h1
  ·have:k=l1.length:=by omega
   subst this
   rw[List.getElem?_append_right (by omega),hlen0,Nat.sub_self]at he
   cases he
   exact .inr ⟨by simp,rfl,rfl,.inr (.inr ⟨(l1++[o]).length,by simp,by simp⟩)⟩
 refine wp_region_any hm ?_
 have hrep:(fun k=>(Array.replicate (l1++[o]).length false).getD k false)=fun _:Nat=>false:=by
  funext k
  simp only[Array.getD_eq_getD_getElem?,Array.getElem?_replicate]
  split<;>rfl
 have hI:gE ds w0 n (l1++[o]) (es++[jJ []]) st (fun _=>false) β a { w with drawn:=w.drawn+1 }:=gE.start (h.later (aw.refl [] w).drew) fun b k hk'=>by
  obtain⟨en,r,he,hr⟩:=fh hk'
  have hkl:k < (l1++[o]).length:=by rw[←hlen];exact(List.getElem?_eq_some_iff.1 he).1
  have hbl:=rl (hE k _ en (List.getElem?_eq_getElem hkl) he) hr
  have:=vZ (n:=n) (st:=st) hlen k (by omega)
  exact List.getElem?_eq_none (by omega)
 have:=Kj (P:=P) (H:=H) (w0:=w0) (n:=n) (st:=st) (Q:=Q) (N:=l1.length) (o:=o) hB hlen (by simp) (by rw[List.getElem?_append_right (Nat.le_refl _)];simp) hE hb.2 hP (fun β' a' w' hH=>by
  rw[rN [o] [jJ []] hlen0 (Nat.le_refl _),hst]at hH
  exact pk hP [o] st' K β' a' w' hH hk hK) (l1++[o]).length (Array.replicate (l1++[o]).length false) β a { w with drawn:=w.drawn+1 } (by simp) (by simp[List.count_replicate]) (congrFun hrep _) (fun k hk'=>by rw[show(Array.replicate (l1++[o]).length false).getD k false=false from congrFun hrep k]at hk';cases hk') (by rw[hrep];exact hI)
 simpa using this
theorem DR{id:Nat}{K:St→Prop}(hm:P.follows .mixedOrders=true)(h:Hd ds w0 n β st a w)(hx:AJ P H n w0 l st K)(hP:∀chain a w',a.defers=ds→w0.PP chain w'→aw w0.S w0.w w'→Q (.panic chain) a w')(hK:∀β' st' a' w',K st'→Hd ds w0 n β' st' a' w'→Q .normal a' w'):(Code.region id l.toArray true).wp P Q a w:=by
 unfold AJ at hx
 split at hx
 ·rename_i o ho
  refine AH hm h ?_ hx hP hK
  unfold Kw at ho
  split at ho
  ·rename_i o' ho'
   split at ho
   ·split at ho
    ·cases ho;exact ho'
    ·cases ho
   ·cases ho
  ·cases ho
 ·exact AI hm h hx hP hK
end
end Sx
open Go Go.RowKit Go.Lib Go.Sort
namespace Sx
inductive Loop:Type 1 where
 |mk (κ:Type) (k0:κ) (R:κ→Prop) (fr:κ→List (Nat×SV)) (mem:κ→List Row) (next:κ→κ) (μ:κ→Nat)
  (ι:Type) (Ro:ι→Prop) (fro:ι→List (Nat×SV)) (memo:ι→List Row) (which:κ→ι)
 |fin (κ:Type) (k0:κ) (R:κ→Prop) (fr:κ→List (Nat×SV)) (mem:κ→List Row) (next:κ→κ) (μ:κ→Nat)
 |times (l:List (List (Nat×Hint)))
def wv(fr:List (Nat×SV))(t:Nat):Bool:=match look fr t with
 |some _=>true
 |none=>false
def FE(fr:List (Nat×SV))(l:List (Nat×SV)):List (Nat×SV):=l.map fun p=>(p.1,(look fr p.1).getD (.val undef))
def IC:SV→Option Nat
 |.val _=>none
 |.ptr i _=>some i
 |.mF i _ _ _=>some i
 |.own i=>some i
 |.kW i _=>some i
 |.tL _ i _=>some i
 |.jZ i _ _ _=>some i
 |.gone=>none
 |.cX _=>none
 |.Cr _ _=>none
 |.j3 _ i _=>some i
 |.kK _=>none
 |.cI _ i _=>some i
def uw(fr:List (Nat×SV)):List (Nat×SV)→List (Nat×Nat)
 | []=>[]
 |p::r=>match IC p.2 with
  |some i=>match look fr p.1 with
   |some u=>match IC u with
    |some j=>(i,j)::uw fr r
    |none=>uw fr r
   |none=>uw fr r
  |none=>uw fr r
def eL:List (Nat×Nat)→Nat→Nat
 | [],i=>i
 |p::r,i=>match Nat.beq p.1 i with
  |true=>p.2
  |false=>eL r i
def Atom.eL(σ:List (Nat×Nat)):Atom→Atom
 |.v x=>.v x
 |.o i=>.o (Sx.eL σ i)
 |.p i off=>.p (Sx.eL σ i) off
 |.s i off len cut=>.s (Sx.eL σ i) off len cut
def e9.eL(σ:List (Nat×Nat)):e9→e9
 |.a x=>.a (x.eL σ)
 |.row l=>.row (l.map (Atom.eL σ))
 |.j3 t i off=>.j3 t (Sx.eL σ i) off
def SV.eL(σ:List (Nat×Nat)):SV→SV
 |.val v=>.val v
 |.ptr i o=>.ptr (Sx.eL σ i) o
 |.mF i o n c=>.mF (Sx.eL σ i) o n c
 |.own i=>.own (Sx.eL σ i)
 |.kW i o=>.kW (Sx.eL σ i) o
 |.tL l i r=>.tL l (Sx.eL σ i) r
 |.jZ i o n c=>.jZ (Sx.eL σ i) o n c
 |.gone=>.gone
 |.cX l=>.cX (l.map (Atom.eL σ))
 |.Cr f l=>.Cr f (l.map (Atom.eL σ))
 |.j3 t i off=>.j3 t (Sx.eL σ i) off
 |.kK l=>.kK (l.map (e9.eL σ))
 |.cI b i off=>.cI b (Sx.eL σ i) off
def Cells.eL(σ:List (Nat×Nat)):Cells→Cells
 |.ag cs=>.ag cs
 |.dm cs=>.dm (cs.map (SV.eL σ))
 |.own a b c=>.own a b c
 |.dead=>.dead
 |.cY g cs=>.cY g cs
 |.gJ g cs=>.gJ g (cs.map (SV.eL σ))
def Row.eL(σ:List (Nat×Nat))(r:Row):Row:=⟨r.ty,r.cs.eL σ⟩
def BD(σ:List (Nat×Nat)):List (Nat×SV)→List (Nat×SV)
 | []=>[]
 |p::r=>(p.1,p.2.eL σ)::BD σ r
def q8(σ:List (Nat×Nat)):List Row→List Row
 | []=>[]
 |p::r=>p.eL σ::q8 σ r
def rQ(mem:List Row)(σ:List (Nat×Nat)):Nat→List Row→List Row
 |_,[]=>[]
 |k,_::r=>(mem[eL σ k]?).getD aa::rQ mem σ (k+1) r
def BS(σ:List (Nat×Nat))(x:Nat):Nat→Bool
 | 0=>true
 |n+1=>match Nat.beq (eL σ n) x with
  |true=>false
  |false=>BS σ x n
def BN(σ:List (Nat×Nat))(N:Nat):Nat→Bool
 | 0=>true
 |n+1=>match Nat.blt (eL σ n) N&&BS σ (eL σ n) n with
  |true=>BN σ N n
  |false=>false
def Env.eL(σ:List (Nat×Nat))(β:Env):Env:=⟨fun i=>β.b (Sx.eL σ i),fun i=>β.a (Sx.eL σ i),fun i=>β.n (Sx.eL σ i),fun i=>β.c (Sx.eL σ i)⟩
def Kx:Cells→List SV
 |.dm cs=>cs
 |.gJ _ cs=>cs
 |_=>[]
def rK:List SV→List SV→List (Nat×Nat)
 |a::r,b::q=>match IC a,IC b with
  |some i,some j=>(i,j)::rK r q
  |_,_=>rK r q
 |_,_=>[]
def vH(σ:List (Nat×Nat))(smem:List Row):Nat→List Row→List (Nat×Nat)
 |_,[]=>[]
 |k,r::l=>match smem[eL σ k]? with
  |some q=>rK (Kx r.cs) (Kx q.cs)++vH σ smem (k+1) l
  |none=>vH σ smem (k+1) l
def lH(st:St)(fr:List (Nat×SV))(mem:List Row):List (Nat×Nat):=uw st.fr fr++vH (uw st.fr fr) st.mem 0 mem
def zx(st:St)(fr:List (Nat×SV))(mem:List Row):Prop:=
 match eR (fun p=>wv st.fr p.1&&xr mem.length p.2) fr&&(eR (fun r=>lg mem.length r.cs) mem&&BN (lH st fr mem) st.mem.length mem.length)with
 |true=>FE st.fr fr=BD (lH st fr mem) fr∧rQ st.mem (lH st fr mem) 0 mem=q8 (lH st fr mem) mem
 |false=>cF (st,fr)
def gI{κ ι:Type}(R:κ→Prop)(fr:κ→List (Nat×SV))(mem:κ→List Row)(next:κ→κ)(μ:κ→Nat)(Ro:ι→Prop)(fro:ι→List (Nat×SV))(memo:ι→List Row)(which:κ→ι)(id:Nat)(Kr:St→Prop)(k:κ):Exit→St→Prop
 |.normal,st=>R (next k)∧μ (next k) < μ k∧zx st (fr (next k)) (mem (next k))
 |.exit i,st=>match Nat.beq i id with
  |true=>Ro (which k)∧zx st (fro (which k)) (memo (which k))
  |false=>cF st
 |.ret,st=>Kr st
 |_,_=>False
def fK:Code→Nat
 |.seq x y=>match fK x with
  | 0=>fK y
  |k=>k
 |.cond _ x y=>match fK x with
  | 0=>fK y
  |k=>k
 |.exit i=>i+1
 |_=>0
def kX:Code→Nat
 |.seq x y=>kX x+kX y
 |.cond _ x y=>kX x+kX y
 |.block _ c=>kX c
 |.scope c=>kX c
 |.loop _=>1
 |_=>0
def rA(body:List (Nat×Hint)→St→(Exit→St→Prop)→Prop)(K:Exit→St→Prop):List (List (Nat×Hint))→St→Prop
 | [],st=>cF st
 |h::r,st=>body h st fun e st'=>match e with
  |.normal=>rA body K r st'
  |.exit i=>K (.exit i) st'
  |.ret=>K .ret st'
  |_=>False
def Je:List Nat→(Nat→Prop)→Prop
 | [],_=>True
 |i::r,F=>match r with
  | []=>F i
  |_=>Br (F i)∧Je r F
theorem uL{F:Nat→Prop}:∀{l:List Nat},Je l F→∀i∈l,F i
 | [],_,i,hi=>by cases hi
 | [j],h,i,hi=>by rw[List.mem_singleton.1 hi];exact h
 |j::k::r,h,i,hi=>by
  have h:Br (F j)∧Je (k::r) F:=h
  rcases List.mem_cons.1 hi with rfl|hi
  ·exact h.1
  ·exact uL h.2 i hi
def qe(P:Program)(H:List (Nat×Hint))(n:Nat)(w0:bw)(ops:Array Oper):Nat→Array Bool→St→(St→Prop)→Prop
 | 0,listed,st,K=>match Region.ready .any ops listed with
  | []=>K st
  |_=>cF listed
 |fuel+1,listed,st,K=>match Region.ready .any ops listed with
  | []=>K st
  |is=>Je is fun i=>match ops[i]? with
   |some o=>vD ops o st fun st=>match guardOf ops st.fr o with
    |some true=>step P H n w0 o st fun st'=>qe P H n w0 ops fuel (listed.setIfInBounds i true) st' K
    |some false=>qe P H n w0 ops fuel (listed.setIfInBounds i true) (st.put n o.dst (.val undef)) K
    |none=>cF o
   |none=>cF i
theorem wM{P:Program}{H:List (Nat×Hint)}{n:Nat}{w0:bw}{ds:List Deferred}{Q:Exit→Act→World→Prop}{ops:Array Oper}(hP:∀chain a w',a.defers=ds→w0.PP chain w'→aw w0.S w0.w w'→Q (.panic chain) a w'):∀(fuel:Nat) (listed:Array Bool) (st:St) (K:St→Prop) (β:Env) (a:Act) (w:World),Hd ds w0 n β st a w→qe P H n w0 ops fuel listed st K→(∀β' st' a' w',K st'→Hd ds w0 n β' st' a' w'→Q .normal a' w')→wpAny P .any ops Q fuel listed a w
 | 0,listed,st,K,β,a,w,h,hx,hK=>by
  unfold qe at hx
  split at hx
  ·rename_i hr
   exact⟨hr,hK _ _ _ _ hx h⟩
  ·exact nomatch hx
 |fuel+1,listed,st,K,β,a,w,h,hx,hK=>by
  unfold qe at hx
  split at hx
  ·rename_i hr
   exact⟨fun _=>hK _ _ _ _ hx h,fun i hi=>by rw[hr]at hi;cases hi⟩
  ·rename_i hne
   refine⟨fun hr=>absurd hr hne,fun i hi=>?_⟩
   have hx:=uL hx i hi
   unfold wpOp
   cases ho:ops[i]? with
   |none=>rw[ho]at hx;exact nomatch hx
   |some o=>
    rw[ho]at hx
    obtain⟨st,hx,h⟩:=uu h hx
    split at hx
    ·rename_i hg
     show(if Region.wanted o (yielded ops a.tmps)then _ else _)
     rw[o8 h hg,if_pos rfl]
     exact .inl (Bu h hx hP fun β' st' a' w' hk h'=>wM hP fuel _ st' K β' a' w' h' hk hK)
    ·rename_i hg
     show(if Region.wanted o (yielded ops a.tmps)then _ else _)
     rw[o8 h hg,if_neg (by decide)]
     exact wM hP fuel _ _ K β _ w (h.put o.dst (sv:=.val undef) trivial) hx hK
    ·exact nomatch hx
def Np(H:List (Nat×Hint))(id:Nat):Bool:=match hint H (some (600000+id))with
 |some _=>true
 |none=>false
def LS(H:List (Nat×Hint)):Operand→Option (List (Nat×SV)×List Row)
 |.tmp t=>match hint H (some (500000+t))with
  |some (.join fr mem)=>some (fr,mem)
  |_=>none
 |_=>none
def Gk(fr:List (Nat×SV))(mem:List Row)(K:Exit→St→Prop):Exit→St→Prop
 |.normal,st=>zx st fr mem
 |e,st=>K e st
def jn(P:Program)(n:Nat)(w0:bw):Code→List (Nat×Hint)→List Loop→St→(Exit→St→Prop)→Prop
 |.skip,_,_,st,K=>K .normal st
 |.region id ops draw,H,_,st,K=>match draw with
  |false=>vj P H n w0 ops ops.toList st (K .normal)
  |true=>match Np H id with
   |true=>qe P H n w0 ops ops.size (Array.replicate ops.size false) st (K .normal)
   |false=>AJ P H n w0 ops.toList st (K .normal)
 |.seq x y,H,L,st,K=>jn P n w0 x H L st fun e st'=>match e with
  |.normal=>jn P n w0 y H (L.drop (kX x)) st' K
  |e=>K e st'
 |.cond c x y,H,L,st,K=>match LS H c with
  |none=>match ev st.fr c with
   |some (.val (.bool b))=>match b with
    |true=>jn P n w0 x H L st K
    |false=>jn P n w0 y H (L.drop (kX x)) st K
   |_=>cF c
  |some q=>match ev st.fr c with
   |some (.val (.bool b))=>Br (match b with
    |true=>jn P n w0 x H L st (Gk q.1 q.2 K)
    |false=>jn P n w0 y H (L.drop (kX x)) st (Gk q.1 q.2 K))∧K .normal ⟨q.1,q.2⟩
   |_=>cF c
 |.block id c,H,L,st,K=>jn P n w0 c H L st fun e st'=>match e with
  |.exit i=>match Nat.beq i id with
   |true=>K .normal st'
   |false=>K (.exit i) st'
  |e=>K e st'
 |.scope c,H,L,st,K=>jn P n w0 c H L st fun e st'=>match e with
  |.goto _=>False
  |e=>K e st'
 |.loop c,_,L,st,K=>match L with
  |.mk _ k0 R fr mem next μ _ Ro fro memo which::_=>R k0∧zx st (fr k0) (mem k0)∧(∀k,R k→∃H' L',jn P n w0 c H' L' ⟨fr k,mem k⟩ (gI R fr mem next μ Ro fro memo which (fK c - 1) (K .ret) k))∧∀x,Ro x→K (.exit (fK c - 1)) ⟨fro x,memo x⟩
  |.fin _ k0 R fr mem next μ::_=>R k0∧zx st (fr k0) (mem k0)∧(∀k,R k→∃H' L',jn P n w0 c H' L' ⟨fr k,mem k⟩ (gI R fr mem next μ (fun(_:Unit)=>False) (fun _=>[]) (fun _=>[]) (fun _=>()) (fK c - 1) (K .ret) k))∧True
  |.times hs::_=>rA (fun H' st' K'=>jn P n w0 c H' [] st' K') K hs st
  | []=>cF c
 |.exit id,_,_,st,K=>K (.exit id) st
 |.label _,_,_,st,K=>K .normal st
 |.goto l,_,_,st,K=>K (.goto l) st
 |.ret,_,_,st,K=>K .ret st
 |c,_,_,_,_=>cF c
def ex(P:Program)(n:Nat)(w:World)(c:Code)(H:List (Nat×Hint))(L:List Loop)(st:St)(K:Exit→St→Prop):Prop:=jn P n ⟨w,[],fun _ _=>False⟩ c H L st K
def lift(ds:List Deferred)(w0:bw)(n:Nat)(K:Exit→St→Prop)(e:Exit)(a:Act)(w:World):Prop:=match e with
 |.panic chain=>a.defers=ds∧w0.PP chain w∧aw w0.S w0.w w
 |e=>∃β st,K e st∧Hd ds w0 n β st a w
section
variable{P:Program}{n:Nat}{w0:bw}{ds:List Deferred}
theorem sF{σ:List (Nat×Nat)}:∀{l:List (Nat×SV)} {t:Nat} {sv:SV},look l t=some sv→look (BD σ l) t=some (sv.eL σ)
 | (d,v)::r,t,sv,h=>by
  rw[fj]at h
  rw[BD,fj]
  split at h
  ·rename_i hd
   rw[if_pos hd,cd h]
   have:=cd h
   subst this
   cases sv<;>first | (cases h;done)|rfl
  ·rename_i hd
   rw[if_neg hd]
   exact sF h
theorem sG{fr:List (Nat×SV)}:∀{l l':List (Nat×SV)} {t:Nat} {sv:SV},FE fr l=l'→(∀p∈l,wv fr p.1=true)→look l' t=some sv→look fr t=some sv
 | [],l',t,sv,h,ha,hl=>by
  subst h
  cases hl
 | (d,v)::r,l',t,sv,h,ha,hl=>by
  unfold FE at h
  rw[List.map_cons]at h
  subst h
  rw[fj]at hl
  split at hl
  ·rename_i hd
   subst hd
   have:=ha (d,v) (by simp)
   unfold wv at this
   simp only at this hl
   split at this
   ·rename_i u hu
    simp only[hu,Option.getD_some]at hl
    rw[cd hl,hu]
   ·cases this
  ·exact sG (l:=r) rfl (fun p hp=>ha p (by simp[hp])) hl
theorem xJ{σ:List (Nat×Nat)}{β:Env}{s:Atom}:(s.eL σ).den β=s.den (β.eL σ):=by cases s<;>rfl
theorem rS{σ:List (Nat×Nat)}{β:Env}{l:List Atom}:(l.map (Atom.eL σ)).map (Atom.den β)=l.map (Atom.den (β.eL σ)):=by
 rw[List.map_map]
 exact List.map_congr_left fun s _=>xJ
theorem Fl{σ:List (Nat×Nat)}{β:Env}{s:e9}:(s.eL σ).den β=s.den (β.eL σ):=by
 cases s with
 |a x=>exact xJ
 |row l=>show Value.agg _=.agg _;rw[rS]
 |j3 t i off=>rfl
theorem Fk{σ:List (Nat×Nat)}{β:Env}{l:List e9}:(l.map (e9.eL σ)).map (e9.den β)=l.map (e9.den (β.eL σ)):=by
 rw[List.map_map]
 exact List.map_congr_left fun s _=>Fl
theorem vM{σ:List (Nat×Nat)}{β:Env}{s:SV}:(s.eL σ).den β=s.den (β.eL σ):=by
 cases s with
 |cX l=>show Value.agg _=.agg _;rw[rS]
 |Cr f l=>show Value.func _ _ _=.func _ _ _;rw[rS]
 |kK l=>show Value.tuple _=.tuple _;rw[Fk]
 |_=>rfl
theorem Fj{σ:List (Nat×Nat)}{β:Env}{w:World}{i:Nat}{r:Row}(h:bp β w (eL σ i) (r.eL σ)):bp (β.eL σ) w i r:=by
 obtain⟨T,cs⟩:=r
 cases cs with
 |own a b c=>exact h
 |ag cs=>exact h
 |dead=>exact h
 |cY g cs=>exact h
 |dm cs=>
  have h:aB w (β (eL σ i)) T ((cs.map (SV.eL σ)).map (SV.den β)):=h
  rw[List.map_map]at h
  have e:(SV.den β ∘ SV.eL σ)=SV.den (β.eL σ):=funext fun s=>vM
  rw[e]at h
  exact h
 |gJ g cs=>
  have h:β (eL σ i)=g∧aB w (β (eL σ i)) T ((cs.map (SV.eL σ)).map (SV.den β)):=h
  rw[List.map_map]at h
  have e:(SV.den β ∘ SV.eL σ)=SV.den (β.eL σ):=funext fun s=>vM
  rw[e]at h
  exact h
theorem vN{σ:List (Nat×Nat)}{β:Env}{i:Nat}{r:Row}:aE (β.eL σ) i r=aE β (eL σ i) (r.eL σ):=by
 obtain⟨T,cs⟩:=r
 cases cs<;>rfl
theorem sw{σ:List (Nat×Nat)}{x:Nat}:∀{n:Nat},BS σ x n=true→∀j,j < n→eL σ j≠x
 | 0,_,j,hj=>by omega
 |n+1,h,j,hj=>by
  unfold BS at h
  split at h
  ·cases h
  ·rename_i hb
   by_cases hjn:j=n
   ·subst hjn;intro he;rw[he,Nat.beq_refl]at hb;cases hb
   ·exact sw h j (by omega)
theorem sh{σ:List (Nat×Nat)}{N:Nat}:∀{n:Nat},BN σ N n=true→(∀j,j < n→eL σ j < N)∧∀i j,i < n→j < n→eL σ i=eL σ j→i=j
 | 0,_=>⟨fun j hj=>by omega,fun i j hi=>by omega⟩
 |n+1,h=>by
  unfold BN at h
  split at h
  ·rename_i hb
   rw[Bool.and_eq_true]at hb
   obtain⟨h1,h2⟩:=sh h
   have h3:=sw hb.2
   have h4:eL σ n < N:=Nat.le_of_ble_eq_true hb.1
   refine⟨fun j hj=>?_,fun i j hi hj he=>?_⟩
   ·by_cases hjn:j=n
    ·subst hjn;exact h4
    ·exact h1 j (by omega)
   ·by_cases hin:i=n
    ·by_cases hjn:j=n
     ·omega
     ·subst hin;exact absurd he.symm (h3 j (by omega))
    ·by_cases hjn:j=n
     ·subst hjn;exact absurd he (h3 i (by omega))
     ·exact h2 i j (by omega) (by omega) he
  ·cases h
theorem rP{mem:List Row}{σ:List (Nat×Nat)}:∀{l l':List Row} {k:Nat},rQ mem σ k l=l'→(∀j,j < l.length→eL σ (k+j) < mem.length)→∀(i:Nat) (r:Row),l'[i]?=some r→mem[eL σ (k+i)]?=some r
 | [],l',k,h,_,i,r,hi=>by
  subst h
  simp[rQ]at hi
 |x::l,l',k,h,hlt,i,r,hi=>by
  subst h
  rw[rQ]at hi
  cases i with
  |zero=>
   have hk:=hlt 0 (by simp)
   rw[Nat.add_zero]at hk ⊢
   simp only[List.getElem?_cons_zero,Option.some.injEq,List.getElem?_eq_getElem hk,Option.getD_some]at hi
   rw[←hi];exact List.getElem?_eq_getElem hk
  |succ i=>
   rw[List.getElem?_cons_succ]at hi
   have:=rP (k:=k+1) rfl (fun j hj=>by rw[show k+1+j=k+(j+1)by omega];exact hlt (j+1) (by simp;omega)) i r hi
   rwa [show k+1+i=k+(i+1)by omega]at this
theorem qo{σ:List (Nat×Nat)}:∀{l:List Row} {i:Nat} {r:Row},l[i]?=some r→(q8 σ l)[i]?=some (r.eL σ)
 |x::l,0,r,h=>by
  have h:x=r:=by simpa using h
  subst h
  rfl
 |x::l,i+1,r,h=>by
  rw[List.getElem?_cons_succ]at h
  rw[q8,List.getElem?_cons_succ]
  exact qo h
theorem oX:∀{l:List (Nat×SV)} {t:Nat} {sv:SV},look l t=some sv→(t,sv)∈l
 | (d,v)::r,t,sv,h=>by
  rw[fj]at h
  split at h
  ·rename_i hd
   rw[cd h,hd]
   simp
  ·exact List.mem_cons_of_mem _ (oX h)
theorem Hd.same{β:Env}{st:St}{a:Act}{w:World}{fr:List (Nat×SV)}{mem:List Row}(h:Hd ds w0 n β st a w)(hs:zx st fr mem):∃β',Hd ds w0 n β' ⟨fr,mem⟩ a w:=by
 unfold zx at hs
 split at hs
 ·rename_i hb
  simp only[Bool.and_eq_true]at hb
  obtain⟨hb1,hb2,hb3⟩:=hb
  have h1:=ba hb1
  have h2:=ba hb2
  obtain⟨h3,h4⟩:=sh hb3
  have hl:∀t sv,look fr t=some sv→look st.fr t=some (sv.eL (lH st fr mem)):=fun t sv ht=>sG hs.1 (fun p hp=>by have:=h1 p hp;rw[Bool.and_eq_true]at this;exact this.1) (sF ht)
  have hm:∀(i:Nat) (r:Row),mem[i]?=some r→st.mem[eL (lH st fr mem) i]?=some (r.eL (lH st fr mem)):=by
   intro i r hi
   have:=rP hs.2 (fun j hj=>by rw[Nat.zero_add];exact h3 j hj) i _ (qo hi)
   rwa [Nat.zero_add]at this
  have hlt:∀(i:Nat) (r:Row),mem[i]?=some r→i < mem.length:=fun i r hi=>(List.getElem?_eq_some_iff.1 hi).1
  refine⟨β.eL (lH st fr mem),h.size,h.dn,fun t sv ht=>?_,fun i r hi=>Fj (h.bY _ _ (hm i r hi)),fun i r k hi hk=>h.new _ _ k (hm i r hi) (by rw[←vN];exact hk),fun i j r r' k hi hj hk hk'=>?_,h.aP,fun t sv ht=>?_,fun i r hi=>?_⟩
  ·rw[h.get t _ (hl t sv ht),vM]
  ·exact h4 i j (hlt i r hi) (hlt j r' hj) (h.inj _ _ _ _ k (hm i r hi) (hm j r' hj) (by rw[←vN];exact hk) (by rw[←vN];exact hk'))
  ·have:=h1 _ (oX ht)
   rw[Bool.and_eq_true]at this
   exact mB this.2
  ·have:=h2 r (List.mem_of_getElem? hi)
   exact jr this
 ·exact nomatch hs
theorem Cc{fr:List (Nat×SV)}{mem:List Row}{K:Exit→St→Prop}(hk:K .normal ⟨fr,mem⟩){e:Exit}{a:Act}{w:World}(hq:lift ds w0 n (Gk fr mem K) e a w):lift ds w0 n K e a w:=by
 cases e with
 |normal=>
  obtain⟨β',st',hs,h'⟩:=hq
  obtain⟨β3,h3⟩:=h'.same hs
  exact⟨β3,_,hk,h3⟩
 |exit id=>exact hq
 |goto l=>exact hq
 |ret=>exact hq
 |panic c=>exact hq
 |outgrown=>exact hq
theorem iu(hm:P.follows .mixedOrders=true):∀(c:Code) (H:List (Nat×Hint)) (L:List Loop) (st:St) (K:Exit→St→Prop) (β:Env) (a:Act) (w:World),Hd ds w0 n β st a w→jn P n w0 c H L st K→c.wp P (lift ds w0 n K) a w
 |.skip,H,L,st,K,β,a,w,h,hx=>wp_skip ⟨β,st,hx,h⟩
 |.region id ops draw,H,L,st,K,β,a,w,h,hx=>by
  unfold jn at hx
  cases draw with
  |false=>exact wp_region_list (pk (fun chain a w' hd hp hc=>⟨hd,hp,hc⟩) ops.toList st (K .normal) β a w h hx fun β' st' a' w' hk h'=>⟨β',st',hk,h'⟩)
  |true=>
   split at hx
   ·rename_i hb;cases hb
   ·split at hx
    ·exact wp_region_any hm (wM (fun chain a w' hd hp hc=>⟨hd,hp,hc⟩) _ _ _ _ β a _ (h.later (aw.refl [] w).drew) hx fun β' st' a' w' hk h'=>⟨β',st',hk,h'⟩)
    ·have:=DR (id:=id) (Q:=lift ds w0 n K) hm h hx (fun chain a w' hd hp hc=>⟨hd,hp,hc⟩) fun β' st' a' w' hk h'=>⟨β',st',hk,h'⟩
     simpa using this
 |.seq x y,H,L,st,K,β,a,w,h,hx=>by
  unfold jn at hx
  refine wp_seq (Code.wp_mono (fun e a' w' hq=>?_) (iu hm x H L st _ β a w h hx))
  cases e with
  |normal=>
   obtain⟨β',st',hk,h'⟩:=hq
   exact iu hm y H _ st' K β' a' w' h' hk
  |exit id=>
   obtain⟨β',st',hk,h'⟩:=hq
   exact⟨β',st',hk,h'⟩
  |goto l=>
   obtain⟨β',st',hk,h'⟩:=hq
   exact⟨β',st',hk,h'⟩
  |ret=>
   obtain⟨β',st',hk,h'⟩:=hq
   exact⟨β',st',hk,h'⟩
  |panic c=>exact hq
  |outgrown=>
   obtain⟨β',st',hk,h'⟩:=hq
   exact⟨β',st',hk,h'⟩
 |.cond c x y,H,L,st,K,β,a,w,h,hx=>by
  unfold jn at hx
  split at hx
  ·split at hx
   ·rename_i b hb
    have hc:a.eval c=.bool b:=h.eval hb
    cases b with
    |true=>exact wp_cond_true hc (iu hm x H L st K β a w h hx)
    |false=>exact wp_cond_false hc (iu hm y H _ st K β a w h hx)
   ·exact nomatch hx
  ·rename_i q _
   split at hx
   ·rename_i b hb
    have hc:a.eval c=.bool b:=h.eval hb
    obtain⟨hx,hk⟩:=hx
    cases b with
    |true=>exact wp_cond_true hc (Code.wp_mono (fun e a' w' hq=>Cc hk hq) (iu hm x H L st _ β a w h hx))
    |false=>exact wp_cond_false hc (Code.wp_mono (fun e a' w' hq=>Cc hk hq) (iu hm y H _ st _ β a w h hx))
   ·exact nomatch hx
 |.block id c,H,L,st,K,β,a,w,h,hx=>by
  unfold jn at hx
  refine wp_block (Code.wp_mono (fun e a' w' hq=>?_) (iu hm c H L st _ β a w h hx))
  cases e with
  |exit i=>
   obtain⟨β',st',hk,h'⟩:=hq
   simp only at hk
   split at hk
   ·rename_i hb
    simp only[Exit.inBlock,Nat.eq_of_beq_eq_true hb,if_true]
    exact⟨β',st',hk,h'⟩
   ·rename_i hb
    have:i≠id:=fun h=>by rw[h,Nat.beq_refl]at hb;cases hb
    simp only[Exit.inBlock,this,if_false]
    exact⟨β',st',hk,h'⟩
  |normal=>
   obtain⟨β',st',hk,h'⟩:=hq
   exact⟨β',st',hk,h'⟩
  |goto l=>
   obtain⟨β',st',hk,h'⟩:=hq
   exact⟨β',st',hk,h'⟩
  |ret=>
   obtain⟨β',st',hk,h'⟩:=hq
   exact⟨β',st',hk,h'⟩
  |panic c=>exact hq
  |outgrown=>
   obtain⟨β',st',hk,h'⟩:=hq
   exact⟨β',st',hk,h'⟩
 |.scope c,H,L,st,K,β,a,w,h,hx=>by
  unfold jn at hx
  refine wp_scope_straight (Code.wp_mono (fun e a' w' hq=>?_) (iu hm c H L st _ β a w h hx))
  cases e with
  |goto l=>
   obtain⟨β',st',hk,h'⟩:=hq
   exact hk
  |normal=>
   obtain⟨β',st',hk,h'⟩:=hq
   exact⟨β',st',hk,h'⟩
  |exit id=>
   obtain⟨β',st',hk,h'⟩:=hq
   exact⟨β',st',hk,h'⟩
  |ret=>
   obtain⟨β',st',hk,h'⟩:=hq
   exact⟨β',st',hk,h'⟩
  |panic c=>exact hq
  |outgrown=>
   obtain⟨β',st',hk,h'⟩:=hq
   exact⟨β',st',hk,h'⟩
 |.loop c,H,L,st,K,β,a,w,h,hx=>by
  unfold jn at hx
  split at hx
  ·rename_i κ k0 R fr mem next μ ι Ro fro memo which rest
   obtain⟨h0,hs,hround,hout⟩:=hx
   obtain⟨β0,h00⟩:=h.same hs
   refine wp_loop_ghost (fun m a w=>∃β k,μ k=m∧R k∧Hd ds w0 n β ⟨fr k,mem k⟩ a w) (μ k0) ⟨β0,k0,rfl,h0,h00⟩ ?_
   rintro m a' w' ⟨β',k,rfl,hR,h'⟩
   obtain⟨H',L',hround⟩:=hround k hR
   refine Code.wp_mono (fun e a2 w2 hq=>?_) (iu hm c _ _ _ _ β' a' w' h' hround)
   cases e with
   |normal=>
    obtain⟨β2,st2,hk,h2⟩:=hq
    obtain⟨β3,h3⟩:=h2.same hk.2.2
    exact⟨μ (next k),hk.2.1,β3,next k,rfl,hk.1,h3⟩
   |exit id=>
    obtain⟨β2,st2,hk,h2⟩:=hq
    simp only[gI]at hk
    split at hk
    ·rename_i hb
     rw[Nat.eq_of_beq_eq_true hb]
     obtain⟨β3,h3⟩:=h2.same hk.2
     exact⟨β3,_,hout _ hk.1,h3⟩
    ·exact nomatch hk
   |goto l=>
    obtain⟨β2,st2,hk,h2⟩:=hq
    exact hk.elim
   |ret=>
    obtain⟨β2,st2,hk,h2⟩:=hq
    exact⟨β2,st2,hk,h2⟩
   |panic c=>exact hq
   |outgrown=>
    obtain⟨β2,st2,hk,h2⟩:=hq
    exact hk.elim
  ·rename_i κ k0 R fr mem next μ rest
   obtain⟨h0,hs,hround,_⟩:=hx
   obtain⟨β0,h00⟩:=h.same hs
   refine wp_loop_ghost (fun m a w=>∃β k,μ k=m∧R k∧Hd ds w0 n β ⟨fr k,mem k⟩ a w) (μ k0) ⟨β0,k0,rfl,h0,h00⟩ ?_
   rintro m a' w' ⟨β',k,rfl,hR,h'⟩
   obtain⟨H',L',hround⟩:=hround k hR
   refine Code.wp_mono (fun e a2 w2 hq=>?_) (iu hm c _ _ _ _ β' a' w' h' hround)
   cases e with
   |normal=>
    obtain⟨β2,st2,hk,h2⟩:=hq
    obtain⟨β3,h3⟩:=h2.same hk.2.2
    exact⟨μ (next k),hk.2.1,β3,next k,rfl,hk.1,h3⟩
   |exit id=>
    obtain⟨β2,st2,hk,h2⟩:=hq
    simp only[gI]at hk
    split at hk
    ·exact hk.1.elim
    ·exact nomatch hk
   |goto l=>
    obtain⟨β2,st2,hk,h2⟩:=hq
    exact hk.elim
   |ret=>
    obtain⟨β2,st2,hk,h2⟩:=hq
    exact⟨β2,st2,hk,h2⟩
   |panic c=>exact hq
   |outgrown=>
    obtain⟨β2,st2,hk,h2⟩:=hq
    exact hk.elim
  ·rename_i hs rest
   refine wp_loop_ghost (fun m a w=>∃(β:Env) (st:St) (r:List (List (Nat×Hint))),r.length=m∧(rA (fun H' st' K'=>jn P n w0 c H' [] st' K') K r st)∧Hd ds w0 n β st a w) hs.length ⟨β,st,hs,rfl,hx,h⟩ ?_
   rintro m a' w' ⟨β',st',r,rfl,hx',h'⟩
   cases r with
   |nil=>unfold rA at hx';exact nomatch hx'
   |cons hh r=>
    unfold rA at hx'
    refine Code.wp_mono (fun e a2 w2 hq=>?_) (iu hm c _ _ _ _ β' a' w' h' hx')
    cases e with
    |normal=>
     obtain⟨β2,st2,hk,h2⟩:=hq
     exact⟨r.length,by simp,β2,st2,r,rfl,hk,h2⟩
    |exit id=>
     obtain⟨β2,st2,hk,h2⟩:=hq
     exact⟨β2,st2,hk,h2⟩
    |goto l=>
     obtain⟨β2,st2,hk,h2⟩:=hq
     exact hk.elim
    |ret=>
     obtain⟨β2,st2,hk,h2⟩:=hq
     exact⟨β2,st2,hk,h2⟩
    |panic c=>exact hq
    |outgrown=>
     obtain⟨β2,st2,hk,h2⟩:=hq
     exact hk.elim
  ·exact nomatch hx
 |.exit id,H,L,st,K,β,a,w,h,hx=>wp_exit ⟨β,st,hx,h⟩
 |.label l,H,L,st,K,β,a,w,h,hx=>wp_label ⟨β,st,hx,h⟩
 |.ret,H,L,st,K,β,a,w,h,hx=>wp_ret ⟨β,st,hx,h⟩
 |.rangeFunc ..,_,_,_,_,_,_,_,_,hx=>by unfold jn at hx;exact nomatch hx
 |.goto l,H,L,st,K,β,a,w,h,hx=>wp_goto ⟨β,st,hx,h⟩
 |.refuse _,_,_,_,_,_,_,_,_,hx=>by unfold jn at hx;exact nomatch hx
def vt:Nat→List Value→List (Nat×SV)
 |_,[]=>[]
 |k,v::r=>(k,.val v)::vt (k+1) r
theorem nY:∀{vs:List Value} {k t:Nat} {sv:SV},look (vt k vs) t=some sv→∃v,sv=.val v∧k≤t∧vs[t - k]?=some v
 |v::r,k,t,sv,h=>by
  rw[vt,fj]at h
  split at h
  ·rename_i hk
   exact⟨v,(Option.some.inj h).symm,by omega,by rw[show t - k=0 by omega]; rfl⟩
  ·obtain⟨u,h1,h2,h3⟩:=nY h
   refine⟨u,h1,by omega,?_⟩
   rw[show t - k=(t - (k+1))+1 by omega,List.getElem?_cons_succ]
   exact h3
def jf(P:Program)(st:St):List ResultVar→Option (List SV)
 | []=>some []
 |.tmp t::r=>match look st.fr t with
  |some sv=>match jf P st r with
   |some l=>some (sv::l)
   |none=>none
  |none=>none
 |.cell b t::r=>match look st.fr b with
  |some (.ptr i off)=>match st.mem[i]? with
   |some row=>match cJ P t row off with
    |.val sv _=>match jf P st r with
     |some l=>some (sv::l)
     |none=>none
    |_=>none
   |none=>none
  |_=>none
def pM:List SV→Option (List Value)
 | []=>some []
 |sv::r=>match sv with
  |.val v=>match pM r with
   |some l=>some (v::l)
   |none=>none
  |_=>none
def BK:List SV→Option (List Value×Nat×List Value)
 | []=>none
 |sv::r=>match sv with
  |.val v=>match BK r with
   |some (l,i,q)=>some (v::l,i,q)
   |none=>none
  |.own i=>match pM r with
   |some q=>some ([],i,q)
   |none=>none
  |_=>none
def kC:List Value→Value
 | [v]=>v
 |vs=>.tuple vs.toArray
theorem Ao{t:TypeId}{row:Row}{off:Nat}{sv:SV}{ob:Option Prop}(h:cJ P t row off=.val sv ob):ob=none:=by
 unfold cJ at h
 repeat' (split at h)
 all_goals first | (cases h;done) | (injection h with _ h;exact h.symm)
def qn(mem:List Row)(l:List SV):Option lz:=match pM l with
 |some vs=>some (.val (kC vs))
 |none=>match BK l with
  |some (pre,i,post)=>match mem[i]? with
   |some r=>match r.cs with
    |.own size n xs=>match pre,post with
     | [],[]=>some (.sl r.ty size n xs)
     |_,_=>some (.tL pre r.ty size n xs post)
    |_=>none
   |none=>none
  |none=>none
theorem An{β:Env}{w:World}{t:TypeId}{i off:Nat}{row:Row}{sv:SV}{ob:Option Prop}(hb:bp β w i row)(h:cJ P t row off=.val sv ob):(loadVar t ⟨β i,off,none⟩).run P w=.ok (sv.den β) w:=by
 have ho:=B6 (P:=P) (β:=β) (W:=w) (a:=⟨#[.pointer (some ⟨β i,off,none⟩)],[]⟩) (o:=⟨none,.load t (.tmp 0),0, "",#[],none⟩) (t:=t) (x:=.tmp 0) (off:=off) rfl rfl hb
 rw[h]at ho
 have ho:=ho (fun p hp=>by rw[Ao h]at hp;cases hp)
 simp only[execOp,Act.eval,Sem.run_bind]at ho
 rw[show((#[Value.pointer (some ⟨β i,off,none⟩)]:Array Value).getD 0 undef)=.pointer (some ⟨β i,off,none⟩)from rfl,oJ]at ho
 cases hr:(loadVar t ⟨β i,off,none⟩).run P w with
 |ok u w'=>
  rw[hr]at ho
  simp only[Result.andThen_ok,Sem.run_pure]at ho
  injection ho with h1 h2
  injection h1 with h1
  rw[h1,h2]
 |halt x w'=>rw[hr]at ho;cases ho
theorem lO{st:St}{β:Env}{a:Act}{w:World}(h:Hd ds w0 n β st a w){F:ResultVar→Sem Value}(hF:∀t,F (.tmp t)=pure (a.tmps.getD t undef))(hG:∀b t,F (.cell b t)=do loadVar t (←asAddr (a.tmps.getD b undef))):∀{l:List ResultVar} {vs:List SV},jf P st l=some vs→(l.mapM F).run P w=.ok (vs.map (SV.den β)) w
 | [],vs,hr=>by
  have:vs=[]:=by simpa[jf]using hr.symm
  subst this
  rfl
 |.tmp t::r,vs,hr=>by
  rw[jf]at hr
  split at hr
  ·rename_i v hv
   split at hr
   ·rename_i us hu
    cases hr
    have h1:=h.get t _ hv
    have ih:=lO h hF hG hu
    rw[List.mapM_cons,hF]
    simp only[Sem.run_bind,Sem.run_pure,Result.andThen_ok,ih]
    simp[h1]
   ·cases hr
  ·cases hr
 |.cell b t::r,vs,hr=>by
  rw[jf]at hr
  split at hr
  ·rename_i i off hv
   split at hr
   ·rename_i row hrow
    split at hr
    ·rename_i v ob hl
     split at hr
     ·rename_i us hu
      cases hr
      have h1:=h.get b _ hv
      have ih:=lO h hF hG hu
      have h2:=An (h.bY i row hrow) hl
      have h3:a.tmps.getD b undef=.pointer (some ⟨β i,off,none⟩):=by simp[h1,SV.den]
      rw[List.mapM_cons,hG,h3]
      simp only[Sem.run_bind,asAddr,Sem.run_pure,Result.andThen_ok,h2,ih,List.map_cons]
     ·cases hr
    ·cases hr
   ·cases hr
  ·cases hr
theorem nL{β:Env}:∀{l:List SV} {vs:List Value},pM l=some vs→l.map (SV.den β)=vs
 | [],vs,h=>by
  have:vs=[]:=by simpa[pM]using h.symm
  subst this
  rfl
 |sv::r,vs,h=>by
  unfold pM at h
  split at h
  ·split at h
   ·rename_i l hl
    cases h
    rw[List.map_cons,nL hl]
    rfl
   ·cases h
  ·cases h
theorem uK{β:Env}:∀{l:List SV} {pre post:List Value} {i:Nat},BK l=some (pre,i,post)→l.map (SV.den β)=pre++β.sl i::post
 |sv::r,pre,post,i,h=>by
  unfold BK at h
  split at h
  ·split at h
   ·rename_i l i' q hl
    cases h
    rw[List.map_cons,uK hl]
    rfl
   ·cases h
  ·split at h
   ·rename_i q hq
    cases h
    rw[List.map_cons,nL hq]
    rfl
   ·cases h
  ·cases h
def lN(b:bw)(r:lz)(e:Ending)(w':World):Prop:=match r with
 |.val v=>e=.returned v∧aw b.S b.w w'
 |.sl T size n xs=>∃s,e=.returned s∧Own w' T size s n xs∧(∀k,s.ownBlock=some k→k∈b.S∨b.w.heap.size≤k)∧aw b.S b.w w'
 |.tL pre T size n xs post=>∃s,e=.returned (.tuple (pre++s::post).toArray)∧Own w' T size s n xs∧(∀k,s.ownBlock=some k→k∈b.S∨b.w.heap.size≤k)∧aw b.S b.w w'
theorem rR{w w':World}{PP:List PanicEntry→World→Prop}{r:lz}{e:Ending}(h:lN ⟨w,[],PP⟩ r e w'):gn w r e w':=by
 cases r with
 |val v=>exact h
 |sl T size n xs=>
  obtain⟨s,he,ho,hk,hc⟩:=h
  exact⟨s,he,ho,fun k h=>(hk k h).resolve_left (by simp),hc⟩
 |tL pre T size n xs post=>
  obtain⟨s,he,ho,hk,hc⟩:=h
  exact⟨s,he,ho,fun k h=>(hk k h).resolve_left (by simp),hc⟩
theorem xI{st:St}{β:Env}{a:Act}{w:World}{l:List SV}{r:lz}(h:Hd ds w0 n β st a w)(hr:qn st.mem l=some r):lN w0 r (.returned (kC (l.map (SV.den β)))) w:=by
 unfold qn at hr
 split at hr
 ·rename_i vs hvs
  cases hr
  rw[nL hvs]
  exact⟨rfl,h.aP⟩
 ·split at hr
  ·rename_i pre i post hown
   split at hr
   ·rename_i row hrow
    have hh:=h.bY i row hrow
    have hnew:=h.new i row
    split at hr
    ·rename_i size nn xs hcs
     unfold bp at hh
     rw[hcs]at hh
     have hacc:Own w row.ty size (β.sl i) nn xs∧(∀k,(β.sl i).ownBlock=some k→k∈w0.S∨w0.w.heap.size≤k)∧aw w0.S w0.w w:=by
      refine⟨by unfold Env.sl;rw[hh.1];exact hh.2,fun k hk=>hnew k hrow ?_,h.aP⟩
      unfold aE
      rw[hcs]
      rw[←hk,←mM (n:=β.n i)]
      rfl
     rw[uK hown]
     split at hr
     ·cases hr
      exact⟨_,rfl,hacc⟩
     ·rename_i hne
      cases hr
      refine⟨_,?_,hacc⟩
      cases pre with
      |nil=>cases post with
       |nil=>exact absurd rfl (hne rfl)
       |cons x y=>rfl
      |cons x y=>cases y<;>rfl
    ·cases hr
   ·cases hr
  ·cases hr
def A0(P:Program)(fn:Func)(R:lz→Prop):Exit→St→Prop
 |.normal,st=>match jf P st fn.results.toList with
  |some l=>match qn st.mem l with
   |some r=>R r
   |none=>cF st
  |none=>cF st
 |.ret,st=>match jf P st fn.results.toList with
  |some l=>match qn st.mem l with
   |some r=>R r
   |none=>cF st
  |none=>cF st
 |_,_=>False
def Iw(R:Value→Prop):lz→Prop
 |.val v=>R v
 |_=>False
def atEnd(P:Program)(fn:Func)(R:Value→Prop):Exit→St→Prop:=A0 P fn (Iw R)
theorem Hp{fn:Func}{R:lz→Prop}{e:Exit}{a:Act}{w:World}(h:lift [] w0 n (A0 P fn R) e a w):bodyPost P fn (fun e w'=>(∃r,R r∧lN w0 r e w')∨∃chain,e=.panicked chain∧w0.PP chain w'∧aw w0.S w0.w w') e a w:=by
 have main:∀{β st},Hd [] w0 n β st a w→(match jf P st fn.results.toList with|some l=>(match qn st.mem l with|some r=>R r|none=>cF st)|none=>cF st:Prop)→a.defers=[]∧∃v,(results fn a.tmps).run P w=.ok v w∧((∃r,R r∧lN w0 r (.returned v) w)∨∃chain,Ending.returned v=.panicked chain∧w0.PP chain w∧aw w0.S w0.w w):=by
  intro β st h hk
  split at hk
  ·rename_i l hl
   split at hk
   ·rename_i r hr
    refine⟨h.dn,kC (l.map (SV.den β)),?_,.inl ⟨r,hk,xI h hr⟩⟩
    unfold results
    rw[Array.mapM_eq_mapM_toList]
    simp only[Sem.run_bind,map_eq_pure_bind,Sem.run_pure]
    rw[lO (P:=P) h (fun _=>rfl) (fun _ _=>rfl) hl]
    simp only[Result.andThen_ok]
    congr 1
    generalize l.map (SV.den β)=vs
    match vs with
    | []=>rfl
    | [v]=>rfl
    |v::u::r=>simp[kC]
   ·exact nomatch hk
  ·exact nomatch hk
 cases e with
 |normal=>obtain⟨β,st,hk,h⟩:=h;exact main h hk
 |ret=>obtain⟨β,st,hk,h⟩:=h;exact main h hk
 |exit _=>obtain⟨_,_,hk,_⟩:=h;exact hk.elim
 |goto _=>obtain⟨_,_,hk,_⟩:=h;exact hk.elim
 |panic chain=>exact⟨h.1,.inr ⟨chain,rfl,h.2⟩⟩
 |outgrown=>obtain⟨_,_,hk,_⟩:=h;exact hk.elim
theorem D5{w0:World}{f:FuncId}{fn:Func}{c:Code}{args:List Value}{R:lz→Prop}(H:List (Nat×Hint))(L:List Loop)(hm:P.follows .mixedOrders=true)(hf:P.funcs[f]?=some fn)(hb:fn.body=some c)(hn:args.length≤fn.ntmps)
  (hx:ex P fn.ntmps w0 c H L ⟨vt 0 args,[]⟩ (A0 P fn R)):Calls P f args.toArray w0 fun e w'=>∃r,R r∧gn w0 r e w':=by
 refine(calls_of_wp hf hb (Code.wp_mono (fun e a w hq=>Hp hq) (iu (w0:=⟨w0,[],fun _ _=>False⟩) (n:=fn.ntmps) hm c H L _ _ ⟨fun _=>0,fun _=>none,fun _=>0,fun _=>0⟩ _ w0 ?_ hx))).mono fun e w' hq=>by
  rcases hq with⟨r,hr,hp⟩ | ⟨chain,_,hp,_⟩
  ·exact⟨r,hr,rR hp⟩
  ·exact hp.elim
 refine⟨by simp;omega,rfl,fun t sv ht=>?_,fun i r hi=>by simp at hi,fun i r k hi=>by simp at hi,fun i j r r' k hi=>by simp at hi,aw.refl _ _,fun t sv ht=>?_,fun i r hi=>by simp at hi⟩
 ·obtain⟨v,rfl,_,hv⟩:=nY ht
  have hlt:t < args.length:=(List.getElem?_eq_some_iff.1 hv).1
  rw[Array.getElem?_append_left (by simpa using hlt)]
  simpa[SV.den]using hv
 ·obtain⟨v,rfl,_⟩:=nY ht
  trivial
theorem Hb{w0:World}{f:FuncId}{fn:Func}{c:Code}{args:List Value}{R:Value→Prop}(H:List (Nat×Hint))(L:List Loop)(hm:P.follows .mixedOrders=true)(hf:P.funcs[f]?=some fn)(hb:fn.body=some c)(hn:args.length≤fn.ntmps)
  (hx:ex P fn.ntmps w0 c H L ⟨vt 0 args,[]⟩ (atEnd P fn R)):Calls P f args.toArray w0 fun e w'=>∃v,e=.returned v∧R v∧aw [] w0 w':=
 (D5 H L hm hf hb hn hx).mono fun e w' ⟨r,hr,hp⟩=>by
  cases r with
  |val v=>exact⟨v,hp.1,hr,hp.2⟩
  |sl _ _ _ _=>exact hr.elim
  |tL _ _ _ _ _ _=>exact hr.elim
theorem dJ{w0:World}{f:FuncId}{fn:Func}{c:Code}{args:List Value}{u:Value}(H:List (Nat×Hint))(L:List Loop)(hm:P.follows .mixedOrders=true)(hf:P.funcs[f]?=some fn)(hb:fn.body=some c)(hn:args.length≤fn.ntmps)
  (hx:ex P fn.ntmps w0 c H L ⟨vt 0 args,[]⟩ (atEnd P fn fun v=>v=u)):Calls P f args.toArray w0 fun e w'=>e=.returned u∧aw [] w0 w':=
 (Hb H L hm hf hb hn hx).mono fun _ _ ⟨_,he,hv,hc⟩=>⟨by rw[he,hv],hc⟩
def jK:List Row→List (Nat×TypeId×List Value)
 | []=>[]
 |r::l=>match r.cs with
  |.cY g cs=>(g,r.ty,cs)::jK l
  |_=>jK l
theorem qG:∀{mem:List Row} {q:Nat×TypeId×List Value},q∈jK mem→∃(i:Nat) (r:Row),mem[i]?=some r∧r.ty=q.2.1∧r.cs=.cY q.1 q.2.2
 | [],_,h=>by cases h
 |r::l,q,h=>by
  have tail:q∈jK l→∃(i:Nat) (r':Row),(r::l)[i]?=some r'∧r'.ty=q.2.1∧r'.cs=.cY q.1 q.2.2:=fun h=>by
   obtain⟨i,r',h1,h2⟩:=qG h
   exact⟨i+1,r',by simpa using h1,h2⟩
  unfold jK at h
  split at h
  ·rename_i g cs hcs
   rcases List.mem_cons.1 h with rfl|h
   ·exact⟨0,r,rfl,rfl,hcs⟩
   ·exact tail h
  ·exact tail h
def wX(P:Program)(fn:Func)(R:lz→List (Nat×TypeId×List Value)→Prop):Exit→St→Prop
 |.normal,st=>match jf P st fn.results.toList with
  |some l=>match qn st.mem l with
   |some r=>R r (jK st.mem)
   |none=>cF st
  |none=>cF st
 |.ret,st=>match jf P st fn.results.toList with
  |some l=>match qn st.mem l with
   |some r=>R r (jK st.mem)
   |none=>cF st
  |none=>cF st
 |_,_=>False
def gv(b:bw)(R:lz→List (Nat×TypeId×List Value)→Prop)(e:Ending)(w':World):Prop:=
 (∃r gl,R r gl∧lN b r e w'∧∀q∈gl,aB w' q.1 q.2.1 q.2.2)∨∃chain,e=.panicked chain∧b.PP chain w'∧aw b.S b.w w'
theorem Ec{fn:Func}{R:lz→List (Nat×TypeId×List Value)→Prop}{e:Exit}{a:Act}{w:World}(h:lift [] w0 n (wX P fn R) e a w):bodyPost P fn (gv w0 R) e a w:=by
 have main:∀{β st},Hd [] w0 n β st a w→(match jf P st fn.results.toList with|some l=>(match qn st.mem l with|some r=>R r (jK st.mem)|none=>cF st)|none=>cF st:Prop)→a.defers=[]∧∃v,(results fn a.tmps).run P w=.ok v w∧gv w0 R (.returned v) w:=by
  intro β st h hk
  split at hk
  ·rename_i l hl
   split at hk
   ·rename_i r hr
    refine⟨h.dn,kC (l.map (SV.den β)),?_,.inl ⟨r,_,hk,xI h hr,fun q hq=>?_⟩⟩
    ·unfold results
     rw[Array.mapM_eq_mapM_toList]
     simp only[Sem.run_bind,map_eq_pure_bind,Sem.run_pure]
     rw[lO (P:=P) h (fun _=>rfl) (fun _ _=>rfl) hl]
     simp only[Result.andThen_ok]
     congr 1
     generalize l.map (SV.den β)=vs
     match vs with
     | []=>rfl
     | [v]=>rfl
     |v::u::r=>simp[kC]
    ·obtain⟨i,r',hi,hty,hcs⟩:=qG hq
     have hh:=h.bY i r' hi
     unfold bp at hh
     rw[hcs]at hh
     rw[←hty]
     have h2:=hh.2
     rw[hh.1]at h2
     exact h2
   ·exact nomatch hk
  ·exact nomatch hk
 cases e with
 |normal=>obtain⟨β,st,hk,h⟩:=h;exact main h hk
 |ret=>obtain⟨β,st,hk,h⟩:=h;exact main h hk
 |exit _=>obtain⟨_,_,hk,_⟩:=h;exact hk.elim
 |goto _=>obtain⟨_,_,hk,_⟩:=h;exact hk.elim
 |panic chain=>exact⟨h.1,.inr ⟨chain,rfl,h.2⟩⟩
 |outgrown=>obtain⟨_,_,hk,_⟩:=h;exact hk.elim
def lu:Nat→List SV→List (Nat×SV)
 |_,[]=>[]
 |k,v::r=>(k,v)::lu (k+1) r
def Ny(m:Nat):SV→Bool
 |.val _=>true
 |.ptr i _=>Nat.blt i m
 |_=>false
theorem fT:∀{vs:List SV} {k t:Nat} {sv:SV},look (lu k vs) t=some sv→k≤t∧vs[t - k]?=some sv
 |v::r,k,t,sv,h=>by
  rw[lu,fj]at h
  split at h
  ·rename_i hk
   rw[cd h]
   exact⟨by omega,by rw[show t - k=0 by omega]; rfl⟩
  ·obtain⟨h2,h3⟩:=fT h
   refine⟨by omega,?_⟩
   rw[show t - k=(t - (k+1))+1 by omega,List.getElem?_cons_succ]
   exact h3
def oN(G:List (Nat×TypeId×List Value)):List Row:=G.map fun q=>⟨q.2.1,.cY q.1 q.2.2⟩
def wL(G:List (Nat×TypeId×List Value)):Env:=⟨fun i=>match G[i]? with
 |some q=>q.1
 |none=>0,fun _=>none,fun _=>0,fun _=>0⟩
theorem gW{w:World}{f:FuncId}{fn:Func}{c:Code}(G:List (Nat×TypeId×List Value))(hG:∀q∈G,aB w q.1 q.2.1 q.2.2)(hd:(G.map (·.1)).Nodup)(PP:List PanicEntry→World→Prop){args:List SV}{R:lz→List (Nat×TypeId×List Value)→Prop}
  (H:List (Nat×Hint)) (L:List Loop) (hm:P.follows .mixedOrders=true) (hf:P.funcs[f]?=some fn) (hb:fn.body=some c) (hn:args.length≤fn.ntmps) (ha:eR (Ny G.length) args=true)
  (hx:jn P fn.ntmps ⟨w,G.map (·.1),PP⟩ c H L ⟨lu 0 args,oN G⟩ (wX P fn R)):Calls P f (args.map (SV.den (wL G))).toArray w (gv ⟨w,G.map (·.1),PP⟩ R):=by
 have rowAt:∀(i:Nat) (r:Row),(oN G)[i]?=some r→∃q,G[i]?=some q∧r=⟨q.2.1,.cY q.1 q.2.2⟩:=fun i r hi=>by
  unfold oN at hi
  rw[List.getElem?_map]at hi
  cases hq:G[i]? with
  |none=>rw[hq]at hi;cases hi
  |some q=>rw[hq]at hi;exact⟨q,rfl,by simpa using hi.symm⟩
 have envAt:∀(i:Nat) (q:Nat×TypeId×List Value),G[i]?=some q→(wL G) i=q.1:=fun i q hq=>by
  show(match G[i]? with|some q=>q.1|none=>0)=q.1
  rw[hq]
 refine calls_of_wp hf hb (Code.wp_mono (fun e a w hq=>Ec hq) (iu (w0:=⟨w,G.map (·.1),PP⟩) (n:=fn.ntmps) hm c H L _ _ (wL G) _ w ?_ hx))
 have blkAt:∀(i:Nat) (r:Row) (k:Nat),(oN G)[i]?=some r→aE (wL G) i r=some k→∃q,G[i]?=some q∧k=q.1:=fun i r k hi hk=>by
  obtain⟨q,hq,rfl⟩:=rowAt i r hi
  refine⟨q,hq,?_⟩
  have:some ((wL G) i)=some k:=hk
  rw[envAt i q hq]at this
  exact(Option.some.inj this).symm
 refine⟨by simp;omega,rfl,fun t sv ht=>?_,fun i r hi=>?_,fun i r k hi hk=>?_,fun i j r r' k hi hj hk hk'=>?_,aw.refl _ _,fun t sv ht=>?_,fun i r hi=>?_⟩
 ·obtain⟨_,hv⟩:=fT ht
  have hlt:t < args.length:=(List.getElem?_eq_some_iff.1 hv).1
  rw[Array.getElem?_append_left (by simpa using hlt)]
  simp only[Nat.sub_zero]at hv
  simp[hv]
 ·obtain⟨q,hq,rfl⟩:=rowAt i r hi
  show(wL G) i=q.1∧aB w ((wL G) i) q.2.1 q.2.2
  rw[envAt i q hq]
  exact⟨rfl,hG q (List.mem_of_getElem? hq)⟩
 ·obtain⟨q,hq,rfl⟩:=blkAt i r k hi hk
  exact .inl (List.mem_map.2 ⟨q,List.mem_of_getElem? hq,rfl⟩)
 ·obtain⟨q,hq,rfl⟩:=blkAt i r k hi hk
  obtain⟨q',hq',he⟩:=blkAt j r' _ hj hk'
  have h1:(G.map (·.1))[i]?=some q.1:=by rw[List.getElem?_map,hq];rfl
  have h2:(G.map (·.1))[j]?=some q.1:=by rw[List.getElem?_map,hq',he];rfl
  obtain⟨l1,e1⟩:=List.getElem?_eq_some_iff.1 h1
  obtain⟨l2,e2⟩:=List.getElem?_eq_some_iff.1 h2
  have e:=e1.trans e2.symm
  have hp:=List.pairwise_iff_getElem.1 hd
  exact Decidable.byContradiction fun hne=>by
   rcases Nat.lt_or_gt_of_ne hne with hl|hl
   ·exact hp _ _ l1 l2 hl e
   ·exact hp _ _ l2 l1 hl e.symm
 ·obtain⟨_,hv⟩:=fT ht
  have:=ba ha sv (List.mem_of_getElem? hv)
  cases sv with
  |val v=>trivial
  |ptr i off=>
   have h:i < G.length:=Nat.le_of_ble_eq_true this
   show i < (oN G).length
   unfold oN
   rw[List.length_map]
   exact h
  |mF _ _ _ _=>cases this
  |own _=>cases this
  |kW _ _=>cases this
  |tL _ _ _=>cases this
  |jZ _ _ _ _=>cases this
  |gone=>cases this
  |cX _=>cases this
  |Cr _ _=>cases this
  |j3 _ _ _=>cases this
  |kK _=>cases this
  |cI _ _ _=>cases this
 ·obtain⟨q,_,rfl⟩:=rowAt i r hi
  trivial
structure Rows(b:bw)(β:Env)(w:World)(mem:List Row):Prop where
 held:∀(i:Nat) (r:Row),mem[i]?=some r→bp β w i r
 new:∀(i:Nat) (r:Row) (k:Nat),mem[i]?=some r→aE β i r=some k→k∈b.S∨b.w.heap.size≤k
 inj:∀(i j:Nat) (r r':Row) (k:Nat),mem[i]?=some r→mem[j]?=some r'→aE β i r=some k→aE β j r'=some k→i=j
 aP:aw b.S b.w w
def bX(P:Program)(fn:Func)(R:List SV→List Row→Prop):Exit→St→Prop
 |.normal,st=>match jf P st fn.results.toList with
  |some l=>R l st.mem
  |none=>cF st
 |.ret,st=>match jf P st fn.results.toList with
  |some l=>R l st.mem
  |none=>cF st
 |_,_=>False
def bc(b:bw)(R:List SV→List Row→Prop)(e:Ending)(w':World):Prop:=
 (∃β l mem,R l mem∧e=.returned (kC (l.map (SV.den β)))∧Rows b β w' mem)∨∃chain,e=.panicked chain∧b.PP chain w'∧aw b.S b.w w'
theorem vq{fn:Func}{R:List SV→List Row→Prop}{e:Exit}{a:Act}{w:World}(h:lift [] w0 n (bX P fn R) e a w):bodyPost P fn (bc w0 R) e a w:=by
 have main:∀{β st},Hd [] w0 n β st a w→(match jf P st fn.results.toList with|some l=>R l st.mem|none=>cF st:Prop)→a.defers=[]∧∃v,(results fn a.tmps).run P w=.ok v w∧bc w0 R (.returned v) w:=by
  intro β st h hk
  split at hk
  ·rename_i l hl
   refine⟨h.dn,kC (l.map (SV.den β)),?_,.inl ⟨β,l,st.mem,hk,rfl,⟨h.bY,h.new,h.inj,h.aP⟩⟩⟩
   unfold results
   rw[Array.mapM_eq_mapM_toList]
   simp only[Sem.run_bind,map_eq_pure_bind,Sem.run_pure]
   rw[lO (P:=P) h (fun _=>rfl) (fun _ _=>rfl) hl]
   simp only[Result.andThen_ok]
   congr 1
   generalize l.map (SV.den β)=vs
   match vs with
   | []=>rfl
   | [v]=>rfl
   |v::u::r=>simp[kC]
  ·exact nomatch hk
 cases e with
 |normal=>obtain⟨β,st,hk,h⟩:=h;exact main h hk
 |ret=>obtain⟨β,st,hk,h⟩:=h;exact main h hk
 |exit _=>obtain⟨_,_,hk,_⟩:=h;exact hk.elim
 |goto _=>obtain⟨_,_,hk,_⟩:=h;exact hk.elim
 |panic chain=>exact⟨h.1,.inr ⟨chain,rfl,h.2⟩⟩
 |outgrown=>obtain⟨_,_,hk,_⟩:=h;exact hk.elim
theorem aT{w:World}{f:FuncId}{fn:Func}{c:Code}{S:List Nat}{PP:List PanicEntry→World→Prop}{β:Env}{mem:List Row}{args:List SV}{R:List SV→List Row→Prop}(hF:Rows ⟨w,S,PP⟩ β w mem)
  (H:List (Nat×Hint)) (L:List Loop) (hm:P.follows .mixedOrders=true) (hf:P.funcs[f]?=some fn) (hb:fn.body=some c) (hn:args.length≤fn.ntmps) (hw:(eR (fun r=>lg mem.length r.cs) mem&&eR (xr mem.length) args)=true)
  (hx:jn P fn.ntmps ⟨w,S,PP⟩ c H L ⟨lu 0 args,mem⟩ (bX P fn R)):Calls P f (args.map (SV.den β)).toArray w (bc ⟨w,S,PP⟩ R):=by
 rw[Bool.and_eq_true]at hw
 refine calls_of_wp hf hb (Code.wp_mono (fun e a w hq=>vq hq) (iu (w0:=⟨w,S,PP⟩) (n:=fn.ntmps) hm c H L _ _ β _ w ?_ hx))
 refine⟨by simp;omega,rfl,fun t sv ht=>?_,hF.held,hF.new,hF.inj,hF.aP,fun t sv ht=>?_,fun i r hi=>?_⟩
 ·obtain⟨_,hv⟩:=fT ht
  have hlt:t < args.length:=(List.getElem?_eq_some_iff.1 hv).1
  rw[Array.getElem?_append_left (by simpa using hlt)]
  simp only[Nat.sub_zero]at hv
  simp[hv]
 ·obtain⟨_,hv⟩:=fT ht
  exact mB (ba hw.2 sv (List.mem_of_getElem? hv))
 ·exact jr (ba hw.1 r (List.mem_of_getElem? hi))
inductive jT where
 |bY (g:Nat) (T:TypeId) (cs:List Value)
 |mo (g:Nat) (T:TypeId) (cs:List SV)
 |own (T size:Nat) (A:Option Addr) (n c:Nat) (xs:List Value)
def jT.row:jT→Row
 |.bY g T cs=>⟨T,.cY g cs⟩
 |.mo g T cs=>⟨T,.gJ g cs⟩
 |.own T size _ n _ xs=>⟨T,.own size n xs⟩
def jT.block:jT→Option Nat
 |.bY g _ _=>some g
 |.mo g _ _=>some g
 |.own _ _ A _ _ _=>A.map (·.block)
def jT.Hk:Option jT→Nat
 |some (.bY g _ _)=>g
 |some (.mo g _ _)=>g
 |_=>0
def jT.eS:Option jT→Option Addr
 |some (.own _ _ A _ _ _)=>A
 |_=>none
def jT.Ol:Option jT→Nat
 |some (.own _ _ _ n _ _)=>n
 |_=>0
def jT.cap:Option jT→Nat
 |some (.own _ _ _ _ c _)=>c
 |_=>0
def cZ(G:List jT):Env:=⟨fun i=>jT.Hk G[i]?,fun i=>jT.eS G[i]?,fun i=>jT.Ol G[i]?,fun i=>jT.cap G[i]?⟩
def jT.Ok(β:Env)(w:World):jT→Prop
 |.bY g T cs=>aB w g T cs
 |.mo g T cs=>aB w g T (cs.map (SV.den β))
 |.own T size A n c xs=>Own w T size (.slice A n c) n xs
theorem gk{w:World}{S:List Nat}{PP:List PanicEntry→World→Prop}{G:List jT}(h:∀q∈G,q.Ok (cZ G) w)(hS:∀q∈G,∀k,q.block=some k→k∈S)(hd:(G.filterMap jT.block).Nodup):Rows ⟨w,S,PP⟩ (cZ G) w (G.map jT.row):=by
 have at_:∀(i:Nat) (r:Row),(G.map jT.row)[i]?=some r→∃q,G[i]?=some q∧q∈G∧r=q.row:=fun i r hi=>by
  rw[List.getElem?_map]at hi
  cases hq:G[i]? with
  |none=>rw[hq]at hi;cases hi
  |some q=>rw[hq]at hi;exact⟨q,rfl,List.mem_of_getElem? hq,by simpa using hi.symm⟩
 have Kc:∀(i:Nat) (q:jT) (k:Nat),G[i]?=some q→aE (cZ G) i q.row=some k→q.block=some k:=fun i q k hq hk=>by
  cases q with
  |bY g T cs=>
   have:some ((cZ G) i)=some k:=hk
   rw[←this]
   show some g=some (jT.Hk G[i]?)
   rw[hq];rfl
  |mo g T cs=>
   have:some ((cZ G) i)=some k:=hk
   rw[←this]
   show some g=some (jT.Hk G[i]?)
   rw[hq];rfl
  |own T size A n c xs=>
   have h:((cZ G).a i).map (·.block)=some k:=hk
   rw[←h]
   show A.map _=(jT.eS G[i]?).map _
   rw[hq];rfl
 refine⟨fun i r hi=>?_,fun i r k hi hk=>?_,fun i j r r' k hi hj hk hk'=>?_,aw.refl _ _⟩
 ·obtain⟨q,hq,hm,rfl⟩:=at_ i r hi
  have:=h q hm
  cases q with
  |bY g T cs=>
   have e:(cZ G) i=g:=by show jT.Hk G[i]?=g;rw[hq];rfl
   show(cZ G) i=g∧aB w ((cZ G) i) T cs
   rw[e];exact⟨rfl,this⟩
  |mo g T cs=>
   have e:(cZ G) i=g:=by show jT.Hk G[i]?=g;rw[hq];rfl
   show(cZ G) i=g∧aB w ((cZ G) i) T (cs.map (SV.den (cZ G)))
   rw[e];exact⟨rfl,this⟩
  |own T size A n c xs=>
   show(cZ G).n i=n∧Own w T size (.slice ((cZ G).a i) n ((cZ G).c i)) n xs
   have e1:(cZ G).n i=n:=by show jT.Ol G[i]?=n;rw[hq];rfl
   have e2:(cZ G).a i=A:=by show jT.eS G[i]?=A;rw[hq];rfl
   have e3:(cZ G).c i=c:=by show jT.cap G[i]?=c;rw[hq];rfl
   rw[e1,e2,e3]
   exact⟨rfl,this⟩
 ·obtain⟨q,hq,hm,rfl⟩:=at_ i r hi
  exact .inl (hS q hm k (Kc i q k hq hk))
 ·obtain⟨q,hq,hm,rfl⟩:=at_ i r hi
  obtain⟨q',hq',hm',rfl⟩:=at_ j r' hj
  have h1:=Kc i q k hq hk
  have h2:=Kc j q' k hq' hk'
  have key:∀(l:List jT) (i j:Nat),(l.filterMap jT.block).Nodup→∀a b,l[i]?=some a→l[j]?=some b→a.block=some k→b.block=some k→i=j:=by
   intro l
   induction l with
   |nil=>intro i j _ a b ha;simp at ha
   |cons x l ih=>
    intro i j hn a b ha hb hak hbk
    have noK:x.block=some k→∀(m:Nat) (c:jT),l[m]?=some c→c.block=some k→False:=fun hx m c hc hck=>by
     rw[List.filterMap_cons,hx]at hn
     exact(List.nodup_cons.1 hn).1 (List.mem_filterMap.2 ⟨c,List.mem_of_getElem? hc,hck⟩)
    have hn':(l.filterMap jT.block).Nodup:=by
     rw[List.filterMap_cons]at hn
     split at hn
     ·exact hn
     ·exact(List.nodup_cons.1 hn).2
    cases i with
    |zero=>
     have ha:x=a:=by simpa using ha
     subst ha
     cases j with
     |zero=>rfl
     |succ j=>exact(noK hak j b (by simpa using hb) hbk).elim
    |succ i=>
     cases j with
     |zero=>
      have hb:x=b:=by simpa using hb
      subst hb
      exact(noK hbk i a (by simpa using ha) hak).elim
     |succ j=>rw[ih i j hn' a b (by simpa using ha) (by simpa using hb) hak hbk]
  exact key G i j hd q q' hq hq' h1 h2
theorem dH{β:Env}{W w':World}{row:Nat→Option Row}{m:Nat}{g:cH}{v:Value}{e:Ending}(hn:g.new=[])(hr:g.ret=.val v)(he:e=.returned v)(hu:∀q∈g.gb,bp β w' q.1 q.2)(hc:aw (g.dZ β row) W w'):Bh β W row m g e w' β:=
 ⟨fun _ _=>⟨rfl,rfl,rfl,rfl⟩,by rw[he,hr];rfl,hu,fun k r h=>by rw[hn]at h;simp at h,fun k r x h=>by rw[hn]at h;simp at h,fun k k' r r' x h=>by rw[hn]at h;simp at h,hc⟩
def ou:Code→List Code
 |.seq x y=>ou x++ou y
 |.cond _ x y=>ou x++ou y
 |.block _ c=>ou c
 |.scope c=>ou c
 |.loop c=>[c]
 |_=>[]
def cR(fn:Func)(i:Nat):Code:=match fn.body with
 |some c=>(ou c).getD i .skip
 |none=>.skip
def OC(b:Bool)(X Y:Prop):Prop:=match b with
 |true=>X
 |false=>Y
theorem a8{b:Bool}{X Y:Prop}(hx:b=true→X)(hy:b=false→Y):OC b X Y:=by
 cases b with
 |true=>exact hx rfl
 |false=>exact hy rfl
end
end Sx
end Go.Proofs.YtnncigmpcdehnaaGreatDoor
