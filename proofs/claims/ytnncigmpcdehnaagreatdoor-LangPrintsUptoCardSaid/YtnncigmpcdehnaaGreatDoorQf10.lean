import Derived.Test.YtnncigmpcdehnaaGreatDoorQf01
import Derived.Scope
import Derived.Great.BuildSlice
import Derived.Laws.Tables
import Derived.Laws.BytesString
namespace Go.Proofs.YtnncigmpcdehnaaGreatDoor
open Go Go.RowKit Go.Lib Go.Sort
namespace Sx
structure aU where
 w:World
 S:List Nat
 PP:List PanicEntry→World→Prop
structure Env where
 b:Nat→Nat
 a:Nat→Option Addr
 n:Nat→Nat
 c:Nat→Nat
def Env.sl(β:Env)(i:Nat):Value:=.slice (β.a i) (β.n i) (β.c i)
instance:CoeFun Env fun _=>Nat→Nat:=⟨Env.b⟩
inductive Atom where
 |v (x:Value)
 |o (i:Nat)
 |p (i off:Nat)
 |s (i off len cut:Nat)
def Atom.den(β:Env):Atom→Value
 |.v x=>x
 |.o i=>β.sl i
 |.p i off=>.pointer (some ⟨β i,off,none⟩)
 |.s i off len cut=>.slice (if β.c i=cut then β.a i else(β.a i).map (·.add off)) len (β.c i - cut)
def Atom.on(Q:Nat→Prop):Atom→Prop
 |.v _=>True
 |.o i=>Q i
 |.p i _=>Q i
 |.s i _ _ _=>Q i
inductive fz where
 |a (x:Atom)
 |row (l:List Atom)
 |kT (t:TypeId) (i off:Nat)
def fz.den(β:Env):fz→Value
 |.a x=>x.den β
 |.row l=>.agg (l.map (Atom.den β)).toArray
 |.kT t i off=>.iface t (.pointer (some ⟨β i,off,none⟩))
def fz.on(Q:Nat→Prop):fz→Prop
 |.a x=>x.on Q
 |.row l=>∀a∈l,a.on Q
 |.kT _ i _=>Q i
theorem Atom.bc{Q Q':Nat→Prop}(h:∀i,Q i→Q' i){s:Atom}(hs:s.on Q):s.on Q':=by
 cases s<;>first|trivial|exact h _ hs
theorem fz.bc{Q Q':Nat→Prop}(h:∀i,Q i→Q' i){s:fz}(hs:s.on Q):s.on Q':=by
 cases s with
 |a x=>exact Atom.bc h hs
 |row l=>exact fun a ha=>Atom.bc h (hs a ha)
 |kT t i off=>exact h _ hs
inductive SV where
 |val (v:Value)
 |ptr (i off:Nat)
 |mP (i off len cap:Nat)
 |own (i:Nat)
 |lV (i off:Nat)
 |wh (pre:List Value) (i:Nat) (post:List Value)
 |kQ (i off len cut:Nat)
 |gone
 |dD (l:List Atom)
 |Fm (f:FuncId) (l:List Atom)
 |kT (t:TypeId) (i off:Nat)
 |oE (l:List fz)
 |eG (b:Bool) (i off:Nat)
def SV.den(β:Env):SV→Value
 |.val v=>v
 |.ptr i o=>.pointer (some ⟨β i,o,none⟩)
 |.mP i o n c=>.slice (some ⟨β i,o,none⟩) n c
 |.own i=>β.sl i
 |.lV i o=>.pointer ((β.a i).map (·.add o))
 |.wh l i r=>.tuple (l++(β.sl i::r)).toArray
 |.kQ i off len cut=>.slice (if β.c i=cut then β.a i else(β.a i).map (·.add off)) len (β.c i - cut)
 |.gone=>undef
 |.dD l=>.agg (l.map (Atom.den β)).toArray
 |.Fm f l=>.func (.func f) #[] (l.map (Atom.den β)).toArray
 |.kT t i off=>.iface t (.pointer (some ⟨β i,off,none⟩))
 |.oE l=>.tuple (l.map (fz.den β)).toArray
 |.eG b i off=>.pointer (match b with|true=>some ⟨β i,off,none⟩ | false=>none)
def SV.on(Q:Nat→Prop):SV→Prop
 |.val _=>True
 |.ptr i _=>Q i
 |.mP i _ _ _=>Q i
 |.own i=>Q i
 |.lV i _=>Q i
 |.wh _ i _=>Q i
 |.kQ i _ _ _=>Q i
 |.gone=>True
 |.dD l=>∀a∈l,a.on Q
 |.Fm _ l=>∀a∈l,a.on Q
 |.kT _ i _=>Q i
 |.oE l=>∀a∈l,a.on Q
 |.eG _ i _=>Q i
inductive Cells where
 |ak (cs:List Value)
 |dK (cs:List SV)
 |own (size n:Nat) (xs:List Value)
 |dead
 |dF (g:Nat) (cs:List Value)
 |jR (g:Nat) (cs:List SV)
def Cells.den(β:Env):Cells→List Value
 |.ak cs=>cs
 |.dK cs=>cs.map (SV.den β)
 |.own _ _ _=>[]
 |.dead=>[]
 |.dF _ cs=>cs
 |.jR _ cs=>cs.map (SV.den β)
def Cells.len:Cells→Nat
 |.ak cs=>cs.length
 |.dK cs=>cs.length
 |.own _ _ _=>0
 |.dead=>0
 |.dF _ cs=>cs.length
 |.jR _ cs=>cs.length
def Cells.tag:Cells→Option Nat
 |.dF g _=>some g
 |.jR g _=>some g
 |_=>none
def Cells.on(Q:Nat→Prop):Cells→Prop
 |.ak _=>True
 |.dK cs=>∀s∈cs,s.on Q
 |.own _ _ _=>True
 |.dead=>True
 |.dF _ _=>True
 |.jR _ cs=>∀s∈cs,s.on Q
structure Row where
 ty:TypeId
 cs:Cells
structure St where
 fr:List (Nat×SV)
 mem:List Row
def SV.known:SV→Option SV
 |.gone=>none
 |v=>some v
theorem cg{v u:SV}(h:v.known=some u):u=v:=by
 cases v<;>first | (cases h;done)|exact(Option.some.inj h).symm
def SV.one:SV→Bool
 |.ptr _ _=>true
 |.mP _ _ _ _=>true
 |.own _=>true
 |.lV _ _=>true
 |.kQ _ _ _ _=>true
 |.Fm _ _=>true
 |.kT _ _ _=>true
 |.eG _ _ _=>true
 |_=>false
theorem om{s:SV}(h:s.one=true)(β:Env):(s.den β).cells=#[s.den β]∧(s.den β).oneCell'=true:=by
 cases s with
 |ptr _ _=>exact⟨rfl,rfl⟩
 |mP _ _ _ _=>exact⟨rfl,rfl⟩
 |own _=>exact⟨rfl,rfl⟩
 |lV _ _=>exact⟨rfl,rfl⟩
 |kQ _ _ _ _=>exact⟨rfl,rfl⟩
 |val _=>cases h
 |wh _ _ _=>cases h
 |gone=>cases h
 |dD _=>cases h
 |Fm _ _=>exact⟨rfl,rfl⟩
 |kT _ _ _=>exact⟨rfl,rfl⟩
 |oE _=>cases h
 |eG _ _ _=>exact⟨rfl,rfl⟩
def look:List (Nat×SV)→Nat→Option SV
 | [],_=>none
 | (k,v)::r,t=>match Nat.beq k t with
  |true=>v.known
  |false=>look r t
def ev(fr:List (Nat×SV)):Operand→Option SV
 |.tmp t=>look fr t
 |.const v=>some (.val v)
 |.global g=>some (.val (.pointer (some ⟨g,0,none⟩)))
 |.func f=>some (.val (.func (.func f) #[] #[]))
def St.put(n:Nat)(st:St)(dst:Option Tmp)(sv:SV):St:=
 match dst with
 |none=>st
 |some d=>match Nat.blt d n with
  |true=>⟨(d,sv)::st.fr,st.mem⟩
  |false=>st
theorem SV.bc{Q Q':Nat→Prop}(h:∀i,Q i→Q' i){s:SV}(hs:s.on Q):s.on Q':=by
 cases s<;>first|trivial|exact h _ hs|exact fun a ha=>Atom.bc h (hs a ha)|exact fun a ha=>fz.bc h (hs a ha)
theorem Cells.bc{Q Q':Nat→Prop}(h:∀i,Q i→Q' i):∀{c:Cells},c.on Q→c.on Q'
 |.ak _,_=>trivial
 |.dK _,hs=>fun s hm=>SV.bc h (hs s hm)
 |.own _ _ _,_=>trivial
 |.dead,_=>trivial
 |.dF _ _,_=>trivial
 |.jR _ _,hs=>fun s hm=>SV.bc h (hs s hm)
def Env.same(β β':Env)(Q:Nat→Prop):Prop:=∀i,Q i→β i=β' i∧β.a i=β'.a i∧β.n i=β'.n i∧β.c i=β'.c i
theorem Atom.ct{β β':Env}{Q:Nat→Prop}(h:β.same β' Q){s:Atom}(hs:s.on Q):s.den β=s.den β':=by
 cases s<;>simp only[Atom.den,Env.sl]<;>first|rfl | (obtain⟨h1,h2,h3,h4⟩:=h _ hs;simp only[h1,h2,h3,h4])
theorem Atom.map_congr{β β':Env}{Q:Nat→Prop}(h:β.same β' Q){l:List Atom}(hs:∀a∈l,a.on Q):l.map (Atom.den β)=l.map (Atom.den β'):=List.map_congr_left fun a ha=>Atom.ct h (hs a ha)
theorem fz.ct{β β':Env}{Q:Nat→Prop}(h:β.same β' Q){s:fz}(hs:s.on Q):s.den β=s.den β':=by
 cases s with
 |a x=>exact Atom.ct h hs
 |row l=>simp only[fz.den,Atom.map_congr h hs]
 |kT t i off=>simp only[fz.den];obtain⟨h1,_⟩:=h i hs;simp only[h1]
theorem SV.ct{β β':Env}{Q:Nat→Prop}(h:β.same β' Q){s:SV}(hs:s.on Q):s.den β=s.den β':=by
 cases s with
 |dD l=>simp only[SV.den,Atom.map_congr h hs]
 |Fm f l=>simp only[SV.den,Atom.map_congr h hs]
 |oE l=>
  have:l.map (fz.den β)=l.map (fz.den β'):=List.map_congr_left fun a ha=>fz.ct h (hs a ha)
  simp only[SV.den,this]
 |val v=>rfl
 |gone=>rfl
 |_=>simp only[SV.den,Env.sl];obtain⟨h1,h2,h3,h4⟩:=h _ hs;simp only[h1,h2,h3,h4]
theorem Cells.ct{β β':Env}{Q:Nat→Prop}(h:β.same β' Q):∀{c:Cells},c.on Q→c.den β=c.den β'
 |.ak _,_=>rfl
 |.dK _,hs=>List.map_congr_left fun s hm=>SV.ct h (hs s hm)
 |.own _ _ _,_=>rfl
 |.dead,_=>rfl
 |.dF _ _,_=>rfl
 |.jR _ _,hs=>List.map_congr_left fun s hm=>SV.ct h (hs s hm)
theorem Cells.iJ(β:Env):∀c:Cells,(c.den β).length=c.len
 |.ak _=>rfl
 |.dK cs=>by simp[Cells.den,Cells.len]
 |.own _ _ _=>rfl
 |.dead=>rfl
 |.dF _ _=>rfl
 |.jR _ cs=>by simp[Cells.den,Cells.len]
def aX(β:Env)(w:World)(i:Nat)(r:Row):Prop:=match r.cs with
 |.own size n xs=>β.n i=n∧Own w r.ty size (.slice (β.a i) n (β.c i)) n xs
 |.ak cs=>au w (β i) r.ty cs
 |.dK cs=>au w (β i) r.ty (cs.map (SV.den β))
 |.dead=>True
 |.dF g cs=>β i=g∧au w (β i) r.ty cs
 |.jR g cs=>β i=g∧au w (β i) r.ty (cs.map (SV.den β))
def av(β:Env)(i:Nat)(r:Row):Option Nat:=match r.cs with
 |.own _ _ _=>(β.a i).map (·.block)
 |.ak _=>some (β i)
 |.dK _=>some (β i)
 |.dead=>none
 |.dF _ _=>some (β i)
 |.jR _ _=>some (β i)
theorem oh{β:Env}{i n:Nat}:(Value.slice (β.a i) n (β.c i)).ownBlock=(β.a i).map (·.block):=by
 cases h:β.a i<;>simp[Value.ownBlock]
theorem aX.lt{β:Env}{w:World}{i k:Nat}{r:Row}(h:aX β w i r)(hk:av β i r=some k):k < w.heap.size:=by
 unfold aX at h
 unfold av at hk
 split at h
 ·rename_i size n xs hc
  rw[hc]at hk
  exact Own.lt h.2 k (by rw[oh];exact hk)
 ·rename_i cs hc
  rw[hc]at hk
  cases hk
  exact h.lt
 ·rename_i cs hc
  rw[hc]at hk
  cases hk
  exact h.lt
 ·rename_i hc
  rw[hc]at hk
  cases hk
 ·rename_i hc
  rw[hc]at hk
  cases hk
  exact h.2.lt
 ·rename_i hc
  rw[hc]at hk
  cases hk
  exact h.2.lt
theorem aX.aG{β:Env}{S:List Nat}{w w':World}{i:Nat}{r:Row}(h:aX β w i r)(hc:ai S w w')(hS:∀k,av β i r=some k→k∉S):aX β w' i r:=by
 unfold aX at h ⊢
 unfold av at hS
 split at h
 ·rename_i size n xs hcs
  rw[hcs]at hS
  exact⟨h.1,Own.aG h.2 hc (by rw[oh];exact hS)⟩
 ·rename_i cs hcs
  rw[hcs]at hS
  exact au.aG h hc (hS _ rfl)
 ·rename_i cs hcs
  rw[hcs]at hS
  exact au.aG h hc (hS _ rfl)
 ·trivial
 ·rename_i hcs
  rw[hcs]at hS
  exact⟨h.1,au.aG h.2 hc (hS _ rfl)⟩
 ·rename_i hcs
  rw[hcs]at hS
  exact⟨h.1,au.aG h.2 hc (hS _ rfl)⟩
theorem aX.congr{β β':Env}{w:World}{i:Nat}{r:Row}{Q:Nat→Prop}(hb:β.same β' Q)(hi:Q i)(hr:r.cs.on Q)(h:aX β w i r):aX β' w i r:=by
 obtain⟨h1,h2,h3,h4⟩:=hb i hi
 obtain⟨T,cs⟩:=r
 cases cs with
 |own size n xs=>show β'.n i=n∧Own w T size (.slice (β'.a i) n (β'.c i)) n xs;rw[←h2,←h3,←h4];exact h
 |ak cs=>show au w (β' i) T cs;rw[←h1];exact h
 |dead=>trivial
 |dF g cs=>show β' i=g∧au w (β' i) T cs;rw[←h1];exact h
 |dK cs=>
  show au w (β' i) T (cs.map (SV.den β'))
  rw[←h1,show cs.map (SV.den β')=cs.map (SV.den β)from(List.map_congr_left fun s hm=>SV.ct hb (hr s hm)).symm]
  exact h
 |jR g cs=>
  show β' i=g∧au w (β' i) T (cs.map (SV.den β'))
  rw[←h1,show cs.map (SV.den β')=cs.map (SV.den β)from(List.map_congr_left fun s hm=>SV.ct hb (hr s hm)).symm]
  exact h
theorem ba{β β':Env}{i:Nat}{r:Row}{Q:Nat→Prop}(hb:β.same β' Q)(hi:Q i):av β i r=av β' i r:=by
 obtain⟨h1,h2,_⟩:=hb i hi
 obtain⟨T,cs⟩:=r
 cases cs with
 |own size n xs=>show(β.a i).map _=(β'.a i).map _;rw[h2]
 |ak cs=>show some (β i)=some (β' i);rw[h1]
 |dead=>rfl
 |dF g cs=>show some (β i)=some (β' i);rw[h1]
 |jR g cs=>show some (β i)=some (β' i);rw[h1]
 |dK cs=>show some (β i)=some (β' i);rw[h1]
def Row.fixed(r:Row):Bool:=match r.cs with
 |.own _ _ _=>false
 |.dead=>false
 |_=>true
theorem aX.b9{β:Env}{w:World}{i:Nat}{r:Row}(h:aX β w i r)(hf:r.fixed=true):au w (β i) r.ty (r.cs.den β):=by
 unfold aX at h
 unfold Row.fixed at hf
 split at h
 ·rename_i hc;rw[hc]at hf;cases hf
 ·rename_i hc;rw[hc];exact h
 ·rename_i hc;rw[hc];exact h
 ·rename_i hc;rw[hc]at hf;cases hf
 ·rename_i hc;rw[hc];exact h.2
 ·rename_i hc;rw[hc];exact h.2
theorem aX.tag{β:Env}{w:World}{i:Nat}{r:Row}(h:aX β w i r):∀g,r.cs.tag=some g→β i=g:=by
 intro g hg
 unfold aX at h
 split at h
 ·rename_i hc;rw[hc]at hg;cases hg
 ·rename_i hc;rw[hc]at hg;cases hg
 ·rename_i hc;rw[hc]at hg;cases hg
 ·rename_i hc;rw[hc]at hg;cases hg
 ·rename_i hc;rw[hc]at hg;cases hg;exact h.1
 ·rename_i hc;rw[hc]at hg;cases hg;exact h.1
theorem aX.nr{β:Env}{w:World}{i:Nat}{r:Row}(h:au w (β i) r.ty (r.cs.den β))(hf:r.fixed=true)(ht:∀g,r.cs.tag=some g→β i=g):aX β w i r:=by
 unfold aX
 unfold Row.fixed at hf
 split
 ·rename_i hc;rw[hc]at hf;cases hf
 ·rename_i hc;rw[hc]at h;exact h
 ·rename_i hc;rw[hc]at h;exact h
 ·trivial
 ·rename_i hc;rw[hc]at h ht;exact⟨ht _ rfl,h⟩
 ·rename_i hc;rw[hc]at h ht;exact⟨ht _ rfl,h⟩
theorem aH{β:Env}{i:Nat}{r:Row}(hf:r.fixed=true):av β i r=some (β i):=by
 unfold av
 unfold Row.fixed at hf
 split
 ·rename_i hc;rw[hc]at hf;cases hf
 ·rfl
 ·rfl
 ·rename_i hc;rw[hc]at hf;cases hf
 ·rfl
 ·rfl
def iN{α:Type}(P:Program):Sem α→Option α
 |.pure a=>some a
 |.program k=>iN P (k P)
 |.mark _ k=>iN P k
 |_=>none
theorem o5{α:Type}{P:Program}{s:Sem α}:∀{x:α},iN P s=some x→∀w,s.run P w=.ok x w:=by
 induction s with
 |pure a=>intro x h w;simp only[iN,Option.some.injEq]at h;subst h;rfl
 |program k ih=>intro x h w;simp only[iN]at h;simp only[Sem.run];exact ih P h w
 |mark m k ih=>intro x h w;simp only[iN]at h;simp only[Sem.run];exact ih h w
 |_=>intro x h;simp[iN]at h
inductive j6 where
 |val (v:Value)
 |sl (T:TypeId) (size n:Nat) (xs:List Value)
 |wh (pre:List Value) (T:TypeId) (size n:Nat) (xs:List Value) (post:List Value)
def fU(W:World)(r:j6)(e:Ending)(w':World):Prop:=match r with
 |.val v=>e=.returned v∧ai [] W w'
 |.sl T size n xs=>∃s,e=.returned s∧Acc W w' T size s n xs
 |.wh pre T size n xs post=>∃s,e=.returned (.tuple (pre++s::post).toArray)∧Acc W w' T size s n xs
def qc(W:World)(s0:Value)(r:j6)(e:Ending)(w':World):Prop:=match r with
 |.val _=>False
 |.sl T size n xs=>∃s,e=.returned s∧Own w' T size s n xs∧ai s0.ownBlock.toList W w'∧∀k,s.ownBlock=some k→s0.ownBlock=some k∨W.heap.size≤k
 |.wh pre T size n xs post=>∃s,e=.returned (.tuple (pre++s::post).toArray)∧Own w' T size s n xs∧ai s0.ownBlock.toList W w'∧∀k,s.ownBlock=some k→s0.ownBlock=some k∨W.heap.size≤k
structure cC where
 see:List Nat
 gk:List (Nat×Row)
 kill:List Nat
 new:List Row
 ret:SV
 CO:Option Prop
inductive Hint where
 |is (v:Value)
 |any (v:Value)
 |bin (v:Value)
 |call (v:Value)
 |ld (v:Value)
 |st (cs:List Value)
 |ix
 |iG (t:TypeId) (size:Nat)
 |app (m:Nat) (news:List Value)
 |QZ (lo hi:Nat)
 |dS (r:j6)
 |fQ (r:j6)
 |fP (p:Nat) (cs:List Value) (v:Value)
 |oP
 |aq (g:cC)
 |uH (l:List (Nat×TypeId×Nat))
 |join (fr:List (Nat×SV)) (mem:List Row)
 |GZ (l:List (Nat×List (Nat×SV)×List Row))
def hint:List (Nat×Hint)→Option Tmp→Option Hint
 |_,none=>none
 | [],_=>none
 | (k,v)::r,some t=>match Nat.beq k t with
  |true=>some v
  |false=>hint r (some t)
inductive XK where
 |gk (p i:Nat) (row:Row) (v:Value)
 |Ex (ps:List (Nat×Nat))
inductive pM where
 |val (sv:SV) (ob:Option Prop)
 |call (f:FuncId) (args:List Value) (v:Value)
 |alloc (t:TypeId) (cs:Cells) (ln:Option Nat)
 |store (i:Nat) (row:Row) (ob:Option Prop)
 |grow (kill:Option Nat) (t:TypeId) (size n:Nat) (xs:List Value) (ob:Option Prop)
 |dS (f:FuncId) (args:List SV) (r:j6)
 |ef (i:Nat) (row:Row) (ob:Option Prop)
 |fQ (f:FuncId) (i:Nat) (r:j6)
 |eZ (f:FuncId) (args:List SV) (x:XK)
 |bad
def OP(e:Operand→Option SV)(x:Operand):Value:=match e x with
 |some (.val v)=>v
 |_=>undef
def isVal(e:Operand→Option SV)(x:Operand):Bool:=match e x with
 |some (.val _)=>true
 |_=>false
def fj{α:Type}(p:α→Bool):List α→Bool
 | []=>true
 |x::r=>match p x with
  |true=>fj p r
  |false=>false
theorem aT{α:Type}{p:α→Bool}:∀{l:List α},fj p l=true→∀x∈l,p x=true
 |y::r,h,x,hx=>by
  unfold fj at h
  split at h
  ·rcases List.mem_cons.1 hx with rfl|hx
   ·assumption
   ·exact aT h x hx
  ·cases h
def tJ:List SV→Option (List Value)
 | []=>some []
 |sv::r=>match sv with
  |.val v=>match tJ r with
   |some l=>some (v::l)
   |none=>none
  |_=>none
def gA:List SV→Option (List Atom)
 | []=>some []
 |sv::r=>match sv with
  |.val v=>match gA r with
   |some l=>some (.v v::l)
   |none=>none
  |.own i=>match gA r with
   |some l=>some (.o i::l)
   |none=>none
  |.ptr i off=>match gA r with
   |some l=>some (.p i off::l)
   |none=>none
  |.kQ i off len cut=>match gA r with
   |some l=>some (.s i off len cut::l)
   |none=>none
  |_=>none
theorem tH{β:Env}:∀{l:List SV} {vs:List Value},tJ l=some vs→l.map (SV.den β)=vs
 | [],vs,h=>by
  have:vs=[]:=by simpa[tJ]using h.symm
  subst this
  rfl
 |sv::r,vs,h=>by
  unfold tJ at h
  split at h
  ·split at h
   ·rename_i l hl
    cases h
    rw[List.map_cons,tH hl]
    rfl
   ·cases h
  ·cases h
theorem mL{β:Env}:∀{l:List SV} {as:List Atom},gA l=some as→l.map (SV.den β)=as.map (Atom.den β)
 | [],vs,h=>by
  have:vs=[]:=by simpa[gA]using h.symm
  subst this
  rfl
 |sv::r,vs,h=>by
  unfold gA at h
  split at h
  all_goals first
   | (cases h;done)
   | (
     split at h
     ·rename_i l hl
      cases h
      rw[List.map_cons,mL hl]
      rfl
     ·cases h)
theorem oX{Q:Nat→Prop}:∀{l:List SV} {as:List Atom},gA l=some as→(∀s∈l,s.on Q)→∀a∈as,a.on Q
 | [],vs,h,_=>by
  have:vs=[]:=by simpa[gA]using h.symm
  subst this
  intro a ha;cases ha
 |sv::r,vs,h,hq=>by
  unfold gA at h
  have h0:=hq sv (by simp)
  split at h
  all_goals first
   | (cases h;done)
   | (
     split at h
     ·rename_i l hl
      cases h
      intro a ha
      rcases List.mem_cons.1 ha with rfl|ha
      ·exact h0
      ·exact oX hl (fun s hs=>hq s (List.mem_cons_of_mem _ hs)) a ha
     ·cases h)
def wR(cs:List SV):Option SV:=match tJ cs with
 |some vs=>some (.val (.agg vs.toArray))
 |none=>match gA cs with
  |some l=>some (.dD l)
  |none=>none
theorem wQ{β:Env}{cs:List SV}{sv:SV}(h:wR cs=some sv):sv.den β=.agg (cs.map (SV.den β)).toArray:=by
 unfold wR at h
 split at h
 ·rename_i vs hv
  cases h
  rw[tH hv]
  rfl
 ·split at h
  ·rename_i l hl
   cases h
   rw[mL hl]
   rfl
  ·cases h
theorem zY{Q:Nat→Prop}{cs:List SV}{sv:SV}(h:wR cs=some sv)(hq:∀s∈cs,s.on Q):sv.on Q:=by
 unfold wR at h
 split at h
 ·cases h;trivial
 ·split at h
  ·rename_i l hl
   cases h
   exact oX hl hq
  ·cases h
def cJ(P:Program)(t:TypeId)(r:Row)(off:Nat):pM:=
 match r.fixed with
 |false=>.bad
 |true=>match P.underlying t,P.info? t with
  |some d,some inf=>match d.isRow with
   |true=>match r.cs with
    |.ak cs=>match Nat.beq off 0&&Nat.beq inf.size cs.length with
     |true=>.val (.val (.agg cs.toArray)) none
     |false=>match Nat.ble (off+inf.size) cs.length with
      |true=>.val (.val (.agg ((cs.drop off).take inf.size).toArray)) none
      |false=>.bad
    |.dF _ cs=>match Nat.beq off 0&&Nat.beq inf.size cs.length with
     |true=>.val (.val (.agg cs.toArray)) none
     |false=>match Nat.ble (off+inf.size) cs.length with
      |true=>.val (.val (.agg ((cs.drop off).take inf.size).toArray)) none
      |false=>.bad
    |.dK cs=>match Nat.beq off 0&&Nat.beq inf.size cs.length with
     |true=>match wR cs with
      |some sv=>.val sv none
      |none=>.bad
     |false=>.bad
    |.jR _ cs=>match Nat.beq off 0&&Nat.beq inf.size cs.length with
     |true=>match wR cs with
      |some sv=>.val sv none
      |none=>.bad
     |false=>.bad
    |_=>.bad
   |false=>match r.cs with
    |.ak cs=>match cs[off]? with
     |some v=>.val (.val v) none
     |none=>.bad
    |.dF _ cs=>match cs[off]? with
     |some v=>.val (.val v) none
     |none=>.bad
    |.dK cs=>match cs[off]? with
     |some v=>.val v none
     |none=>.bad
    |.jR _ cs=>match cs[off]? with
     |some v=>.val v none
     |none=>.bad
    |_=>.bad
  |_,_=>.bad
def bG(P:Program)(t:TypeId)(r:Row)(off:Nat)(v:Value):pM:=
 match r.cs with
 |.own _ _ xs=>match P.underlying t,P.info? t with
  |some d,some inf=>match d.isRow with
   |true=>match v with
    |.agg arr=>match Nat.blt 0 inf.size with
     |true=>.val (.val (.agg arr)) (some (arr.toList.length=inf.size∧(xs.drop off).take inf.size=arr.toList))
     |false=>.bad
    |_=>.bad
   |false=>.val (.val v) (some (xs[off]?=some v))
  |_,_=>.bad
 |_=>.bad
def Cells.Hl(c:Cells)(l:List Value):Cells:=match c with
 |.dF g _=>.dF g l
 |.jR g _=>.dF g l
 |_=>.ak l
theorem Le{β:Env}{c:Cells}{l:List Value}:(c.Hl l).den β=l:=by cases c<;>rfl
theorem Ld{c:Cells}{l:List Value}:(c.Hl l).tag=c.tag:=by cases c<;>rfl
theorem FE{c:Cells}{l:List Value}{Q:Nat→Prop}:(c.Hl l).on Q:=by cases c<;>exact True.intro
theorem DV{T T':TypeId}{c:Cells}{l:List Value}(h:(⟨T,c⟩:Row).fixed=true):(⟨T',c.Hl l⟩:Row).fixed=true:=by cases c<;>first|rfl|cases h
def Atom.sv:Atom→SV
 |.v x=>.val x
 |.o i=>.own i
 |.p i off=>.ptr i off
 |.s i off len cut=>.kQ i off len cut
theorem Atom.tG{β:Env}{a:Atom}:a.sv.den β=a.den β:=by cases a<;>rfl
theorem Atom.Ec{Q:Nat→Prop}{a:Atom}(h:a.on Q):a.sv.on Q:=by cases a<;>exact h
def Atom.one:Atom→Bool
 |.v x=>x.oneCell'
 |_=>true
theorem Atom.one_den{β:Env}{a:Atom}(h:a.one=true):(a.den β).oneCell'=true:=by
 cases a with
 |v x=>exact h
 |o i=>rfl
 |p i off=>rfl
 |s _ _ _ _=>rfl
def cP(P:Program)(t:TypeId)(i:Nat)(r:Row)(off:Nat)(sv:SV):pM:=
 match r.fixed with
 |false=>.bad
 |true=>match P.info? t with
 |none=>.bad
 |some inf=>match sv with
  |.val v=>match Nat.beq v.cells.toList.length inf.size&&fj (·.oneCell') v.cells.toList with
   |true=>match Nat.beq off 0&&Nat.beq inf.size r.cs.len with
    |true=>.store i ⟨r.ty,r.cs.Hl v.cells.toList⟩ none
    |false=>match Nat.ble (off+inf.size) r.cs.len with
     |true=>.store i ⟨r.ty,match r.cs with
      |.ak cs=>.ak (cs.take off++(v.cells.toList++cs.drop (off+inf.size)))
      |.dK cs=>.dK (cs.take off++(v.cells.toList.map .val++cs.drop (off+inf.size)))
      |.dF g cs=>.dF g (cs.take off++(v.cells.toList++cs.drop (off+inf.size)))
      |.jR g cs=>.jR g (cs.take off++(v.cells.toList.map .val++cs.drop (off+inf.size)))
      |c=>c⟩ none
     |false=>.bad
   |false=>.bad
  |sv=>match sv.one&&Nat.beq inf.size 1 with
   |true=>match Nat.blt off r.cs.len with
    |true=>.store i ⟨r.ty,match r.cs with
     |.ak cs=>.dK ((cs.map .val).set off sv)
     |.dK cs=>.dK (cs.set off sv)
     |.dF g cs=>.jR g ((cs.map .val).set off sv)
     |.jR g cs=>.jR g (cs.set off sv)
     |c=>c⟩ none
    |false=>.bad
   |false=>match sv with
    |.dD l=>match(Nat.beq off 0&&Nat.beq inf.size r.cs.len)&&(Nat.beq l.length inf.size&&fj Atom.one l)with
     |true=>.store i ⟨r.ty,match r.cs with
      |.dF g _=>.jR g (l.map Atom.sv)
      |.jR g _=>.jR g (l.map Atom.sv)
      |_=>.dK (l.map Atom.sv)⟩ none
     |false=>.bad
    |_=>.bad
def bB(P:Program)(t:TypeId)(i:Nat)(r:Row)(off:Nat)(sv:SV):pM:=match r.cs with
 |.own size n xs=>match P.info? t with
  |some inf=>match sv with
   |.val v=>match Nat.beq v.cells.toList.length inf.size&&(fj (·.oneCell') v.cells.toList&&Nat.blt 0 inf.size)with
    |true=>.ef i ⟨r.ty,.own size n (xs.take off++(v.cells.toList++xs.drop (off+inf.size)))⟩ (some (off+inf.size≤xs.length))
    |false=>.bad
   |_=>.bad
  |none=>.bad
 |_=>.bad
def b7(P:Program)(t:TypeId)(r:Row)(off:Nat)(v:Value):pM:=
 match P.underlying t with
 |some d=>match d.isRow with
  |false=>match r.cs with
   |.ak cs=>.val (.val v) (some (cs[off]?=some v))
   |.dF _ cs=>.val (.val v) (some (cs[off]?=some v))
   |_=>.bad
  |true=>.bad
 |none=>.bad
def bO(P:Program)(t:TypeId)(i:Nat)(r:Row)(off:Nat)(sv:SV)(cs':List Value):pM:=
 match P.info? t with
 |none=>.bad
 |some inf=>match sv with
  |.val v=>match Nat.beq v.cells.toList.length inf.size&&fj (·.oneCell') v.cells.toList with
   |true=>match r.cs with
    |.ak cs=>.store i ⟨r.ty,.ak cs'⟩ (some (off+inf.size≤cs.length∧cs.take off++(v.cells.toList++cs.drop (off+inf.size))=cs'))
    |.dF g cs=>.store i ⟨r.ty,.dF g cs'⟩ (some (off+inf.size≤cs.length∧cs.take off++(v.cells.toList++cs.drop (off+inf.size))=cs'))
    |_=>.bad
   |false=>.bad
  |_=>.bad
def Ei(ρ:Operand→Value)(o:Oper):Option (Sem Value):=
 match o.op with
 |.binOp op t x y _=>some (do eqGuard op t x y (ρ x) (ρ y);binOp op t (ρ x) (ρ y))
 |.unOp op _ x=>some (Op.unary op (ρ x))
 |.convert s d x=>some (convert s d (ρ x))
 |.slice t x lo hi mx=>some (Instr.sliceAt t (ρ x) (lo.map ρ) (hi.map ρ) (mx.map ρ))
 |.index t x i=>some (Instr.index t (ρ x) (ρ i))
 |.indexAddr t x i=>some (Instr.indexAt t (ρ x) (ρ i))
 |.field t x f=>some (Instr.field t (ρ x) f)
 |.load t x=>some (Instr.loadAt t (ρ x))
 |.fieldAddr t x f=>some (Instr.fieldAt t (ρ x) f)
 |_=>none
def bN(P:Program)(w0:aU)(h:Option Hint)(e:Operand→Option SV)(o:Oper):pM:=
 match fj (isVal e) o.op.operands.toList&&Region.noSelect #[o]with
 |false=>.bad
 |true=>match h with
  |some (.any v)=>match Ei (OP e) o with
   |some s=>.val (.val v) (some (∀W,ai w0.S w0.w W→s.run P W=.ok v W))
   |none=>.val (.val v) (some (∀W,ai w0.S w0.w W→(execOp (OP e) o).run P W=.ok (.value v) W))
  |some (.bin v)=>match Ei (OP e) o with
   |some s=>.val (.val v) (some (∀W,s.run P W=.ok v W))
   |none=>.bad
  |some (.is v)=>match iN P (execOp (OP e) o)with
   |some (.value u)=>.val (.val v) (some (u=v))
   |_=>.bad
  |_=>match iN P (execOp (OP e) o)with
   |some (.value u)=>.val (.val u) none
   |_=>.bad
def dy(P:Program)(w0:aU)(h:Option Hint)(e:Operand→Option SV)(o:Oper):pM:=
 match h with
 |some (.call v)=>match fj (isVal e) o.op.operands.toList&&Region.noSelect #[o]with
  |false=>.bad
  |true=>match iN P (execOp (OP e) o)with
   |some (.enter f args)=>.call f args.toList v
   |_=>.bad
 |_=>bN P w0 h e o
def R9(H:List (Nat×Hint)):Operand→Option Hint
 |.tmp x=>hint H (some (100000+x))
 |_=>none
def Dk(c:Call):Option (TypeId×Operand):=match c.callee with
 |.builtin b=>match b with
  |.len=>match c.args.toList,c.argTypes.toList with
   | [x],[t]=>some (t,x)
   |_,_=>none
  |_=>none
 |_=>none
def jH(e:Operand→Option SV):List Operand→Option (List SV)
 | []=>some []
 |x::r=>match e x,jH e r with
  |some sv,some l=>some (sv::l)
  |_,_=>none
def bM(P:Program)(e:Operand→Option SV)(c:Call)(r:j6):pM:=match c.callee with
 |.value (.func f)=>match P.funcs[f]? with
  |some fn=>match fn.name== "runtime.NumGoroutine"||fn.body.isNone with
   |false=>match jH e c.args.toList with
    |some l=>.dS f l r
    |none=>.bad
   |true=>.bad
  |none=>.bad
 |_=>.bad
def isSlice:j6→Bool
 |.val _=>false
 |_=>true
def dh(P:Program)(e:Operand→Option SV)(c:Call)(r:j6):pM:=match bM P e c r with
 |.dS f args _=>match args with
  | [.own i]=>match isSlice r with
   |true=>.fQ f i r
   |false=>.bad
  |_=>.bad
 |_=>.bad
def Cells.list:Cells→Option (List Value)
 |.ak cs=>some cs
 |.dF _ cs=>some cs
 |_=>none
def ni(row:Nat→Option Row):Nat→List SV→List (Nat×Nat)
 |_,[]=>[]
 |k,sv::r=>match sv with
  |.ptr i 0=>match row i with
   |some rw=>match rw.fixed with
    |true=>(k,i)::ni row (k+1) r
    |false=>ni row (k+1) r
   |none=>ni row (k+1) r
  |_=>ni row (k+1) r
theorem r7{row:Nat→Option Row}:∀{l:List SV} {k:Nat} {q:Nat×Nat},q∈ni row k l→k≤q.1∧l[q.1 - k]?=some (.ptr q.2 0)∧∃r,row q.2=some r∧r.fixed=true
 | [],k,q,h=>by cases h
 |sv::r,k,q,h=>by
  have tail:q∈ni row (k+1) r→k≤q.1∧(sv::r)[q.1 - k]?=some (.ptr q.2 0)∧∃r,row q.2=some r∧r.fixed=true:=fun h=>by
   obtain⟨h1,h2,h3⟩:=r7 h
   refine⟨by omega,?_,h3⟩
   rw[show q.1 - k=(q.1 - (k+1))+1 by omega,List.getElem?_cons_succ]
   exact h2
  unfold ni at h
  split at h
  ·split at h
   ·rename_i rw hrow
    split at h
    ·rename_i hf
     rcases List.mem_cons.1 h with rfl|h
     ·exact⟨Nat.le_refl _,by simp,rw,hrow,hf⟩
     ·exact tail h
    ·exact tail h
   ·exact tail h
  ·exact tail h
def gw(P:Program)(e:Operand→Option SV)(row:Nat→Option Row)(c:Call):Hint→pM
 |.fP p cs v=>match bM P e c (.val v)with
  |.dS f args _=>match args[p]? with
   |some (.ptr i 0)=>match row i with
    |some r=>match r.cs.list with
     |some l=>match Nat.beq l.length cs.length with
      |true=>.eZ f args (.gk p i ⟨r.ty,r.cs.Hl cs⟩ v)
      |false=>.bad
     |none=>.bad
    |none=>.bad
   |_=>.bad
  |_=>.bad
 |.oP=>match bM P e c (.val undef)with
  |.dS f args _=>.eZ f args (.Ex (ni row 0 args))
  |_=>.bad
 |_=>.bad
def Eg(w0:aU)(row:Nat→Option Row)(size:Nat)(h:Option Hint):SV→Option (Nat×List Value×Prop)
 |.mP j off m _=>match row j with
  |some r=>match r.cs with
   |.ak cs=>some (m,(cs.drop off).take (m*size),True)
   |_=>none
  |none=>none
 |.own j=>match row j with
  |some r=>match r.cs with
   |.own _ n xs=>some (n,xs,True)
   |_=>none
  |none=>none
 |.kQ j off m cut=>match row j with
  |some r=>match r.cs with
   |.own sz n xs=>some (m,(xs.drop off).take (m*size),off=cut*sz∧cut+m≤n)
   |_=>none
  |none=>none
 |.val v=>match h with
  |some (.app m news)=>some (m,news,∀W,ai w0.S w0.w W→∃A c,v=.slice A m c∧(0 < news.length→∃ad,A=some ad∧∀(j:Nat) (u:Value),news[j]?=some u→W.cell? (ad.add j)=some u))
  |_=>none
 |_=>none
def BX(P:Program)(t:TypeId):Option (TypeId×Nat×Nat):=match P.underlying t with
 |some (.slice e)=>match P.info? e with
  |some inf=>match inf.zero with
   |some z=>match Nat.beq z.cells.size inf.size&&Nat.blt 0 inf.size with
    |true=>some (e,inf.size,inf.bytes)
    |false=>none
   |none=>none
  |none=>none
 |_=>none
def kE(P:Program)(w0:aU)(row:Nat→Option Row)(h:Option Hint)(t:TypeId)(kill:Option Nat)(el size n:Nat)(xs:List Value)(y:SV):pM:=
 match BX P t with
 |some (e,sz,bytes)=>match Nat.beq e el&&Nat.beq sz size with
  |true=>match Eg w0 row size h y with
   |some (m,news,ob)=>.grow kill el size (n+m) (xs++news) (some (ob∧news.length=m*size∧(∀u∈news,u.oneCell'=true)∧n+m≤maxLen∧(n+m)*bytes≤140737488355328))
   |none=>.bad
  |false=>.bad
 |none=>.bad
def fT(P:Program)(w0:aU)(row:Nat→Option Row)(h:Option Hint)(t:TypeId)(x y:SV):pM:=
 match x with
 |.own i=>match row i with
  |some r=>match r.cs with
   |.own size n xs=>kE P w0 row h t (some i) r.ty size n xs y
   |_=>.bad
  |none=>.bad
 |.val (.slice none 0 0)=>match BX P t with
  |some (e,sz,_)=>kE P w0 row h t none e sz 0 [] y
  |none=>.bad
 |_=>.bad
def zp(c:Call):Option (TypeId×Operand×Operand):=match c.callee with
 |.builtin b=>match b with
  |.append=>match c.args.toList,c.argTypes.toList with
   | [x,y],[t,u]=>match Nat.beq t u with
    |true=>some (t,x,y)
    |false=>none
   |_,_=>none
  |_=>none
 |_=>none
def dH(P:Program)(w0:aU)(h:Option Hint)(e:Operand→Option SV)(o:Oper)(x:Operand):pM:=match e x with
 |some sv=>match h with
  |none=>.val sv none
  |some (.iG t size)=>match sv with
   |.val (.slice none 0 0)=>.grow none t size 0 [] none
   |sv=>.val sv none
  |_=>bN P w0 h e o
 |none=>.bad
def Sq(e:Operand→Option SV)(d:Nat):Option Operand→Option Int
 |none=>some d
 |some x=>match e x with
  |some (.val (.int _ k))=>some k
  |_=>none
def jV(P:Program)(h:Option Hint)(e:Operand→Option SV)(row:Nat→Option Row)(t:TypeId)(i:Nat)(lo hi:Option Operand):pM:=match row i with
 |some r=>match r.cs with
  |.own size n _=>match BX P t with
   |some (_,sz,_)=>match Nat.beq sz size with
    |true=>match Sq e 0 lo,Sq e n hi with
     |some kl,some kh=>match h with
      |some (.QZ l u)=>.val (.kQ i (l*size) (u - l) l) (some (kl=l∧kh=u∧l≤u∧u≤n))
      |_=>.bad
     |_,_=>.bad
    |false=>.bad
   |none=>.bad
  |_=>.bad
 |none=>.bad
def cQ(P:Program)(w0:aU)(h:Option Hint)(e:Operand→Option SV)(row:Nat→Option Row)(o:Oper)(t:TypeId)(x:Operand)(lo hi mx:Option Operand):pM:=match e x with
 |some (.own i)=>match mx with
  |none=>jV P h e row t i lo hi
  |some _=>.bad
 |_=>bN P w0 h e o
def fi(P:Program)(w0:aU)(h:Option Hint)(e:Operand→Option SV)(row:Nat→Option Row)(o:Oper)(c:Call):pM:=match Dk c with
 |some (t,x)=>match e x with
  |some (.own i)=>match row i with
   |some r=>match r.cs with
    |.own _ n _=>match P.underlying t with
     |some (.slice _)=>.val (.val (.int .i64 (n:Int))) none
     |_=>.bad
    |_=>.bad
   |none=>.bad
  |some (.mP _ _ n _)=>match P.underlying t with
   |some (.slice _)=>.val (.val (.int .i64 (n:Int))) none
   |_=>.bad
  |some (.kQ _ _ n _)=>match P.underlying t with
   |some (.slice _)=>.val (.val (.int .i64 (n:Int))) none
   |_=>.bad
  |_=>dy P w0 h e o
 |none=>dy P w0 h e o
def nj(e:Operand→Option SV):Nat→List (Nat×Operand)→Option (List Value)
 |_,[]=>some []
 |k,p::r=>match Nat.beq p.1 k with
  |true=>match e p.2 with
   |some (.val v)=>match nj e (k+1) r with
    |some l=>some (v::l)
    |none=>none
   |_=>none
  |false=>none
def j0(P:Program)(e:Operand→Option SV)(t:TypeId)(len:Nat)(parts:List (Nat×Operand)):pM:=match nj e 0 parts with
 |some vs=>match P.underlying t with
  |some (.slice el)=>match P.info? el with
   |some inf=>match inf.zero with
    |some z=>match fj (fun v=>Nat.beq v.cells.toList.length inf.size) vs&&(Nat.beq vs.length len&&(Nat.beq z.cells.toList.length inf.size&&(Nat.ble (len*inf.size) 16777216&&(Nat.blt 0 inf.size&&Nat.blt 0 len))))with
     |true=>.alloc el (.ak (vs.flatMap fun v=>v.cells.toList)) (some len)
     |false=>.bad
    |none=>.bad
   |none=>.bad
  |_=>.bad
 |none=>.bad
def rI(P:Program):pM→pM
 |.alloc el (.ak cs) (some n)=>match P.info? el with
  |some inf=>match Nat.beq cs.length (n*inf.size)&&Nat.ble n 16777216 with
   |true=>.grow none el inf.size n cs none
   |false=>.bad
  |none=>.bad
 |_=>.bad
def yM(P:Program)(s d:TypeId):Bool:=match P.underlying s with
 |some (.slice el)=>match P.underlying d with
  |some .string=>match P.underlying el with
   |some (.int .u8)=>true
   |_=>false
  |_=>false
 |_=>false
def fI(P:Program)(w0:aU)(H:List (Nat×Hint))(h:Option Hint)(e:Operand→Option SV)(row:Nat→Option Row)(o:Oper):pM:=
 match o.op with
 |.move x | .assign x=>dH P w0 h e o x
 |.nilCheck x=>match e x with
  |some (.ptr i off)=>.val (.ptr i off) none
  |_=>bN P w0 h e o
 |.alloc t=>match P.info? t with
  |some inf=>match inf.zero with
   |some z=>.alloc t (.ak z.cells.toList) none
   |none=>.bad
  |none=>.bad
 |.box t x=>match e x with
  |some (.val v)=>.alloc t (.ak v.cells.toList) none
  |some sv=>match sv.one with
   |true=>.alloc t (.dK [sv]) none
   |false=>.bad
  |none=>.bad
 |.load t x=>match e x with
  |some (.ptr i off)=>match row i with
   |some r=>match h with
    |some (.ld v)=>b7 P t r off v
    |_=>cJ P t r off
   |none=>.bad
  |some (.lV i off)=>match row i with
   |some r=>match h with
    |some (.ld v)=>bG P t r off v
    |_=>.bad
   |none=>.bad
  |_=>match h with
   |some (.any v)=>bN P w0 (some (.any v)) e o
   |_=>.bad
 |.store t x y=>match e x with
  |some (.ptr i off)=>match e y with
   |some sv=>match row i with
    |some r=>match R9 H x with
     |some (.st cs')=>bO P t i r off sv cs'
     |_=>cP P t i r off sv
    |none=>.bad
   |none=>.bad
  |some (.lV i off)=>match e y with
   |some sv=>match row i with
    |some r=>bB P t i r off sv
    |none=>.bad
   |none=>.bad
  |_=>.bad
 |.extract x k=>match e x with
  |some (.wh l i r)=>match Nat.beq k l.length with
   |true=>.val (.own i) none
   |false=>match l[k]? with
    |some v=>.val (.val v) none
    |none=>match Nat.blt l.length k with
     |true=>match r[k - l.length - 1]? with
      |some v=>.val (.val v) none
      |none=>.bad
     |false=>.bad
  |_=>bN P w0 h e o
 |.buildSlice t len parts=>match h with
  |some (.iG _ _)=>rI P (j0 P e t len parts.toList)
  |_=>match len,parts.toList with
  | 1,[(0,x)]=>match e x with
   |some (.val v)=>match P.underlying t with
    |some (.slice el)=>match P.info? el with
     |some inf=>match inf.zero with
      |some z=>match Nat.beq v.cells.toList.length inf.size&&(Nat.beq z.cells.toList.length inf.size&&(Nat.ble inf.size 16777216&&Nat.blt 0 inf.size))with
       |true=>.alloc el (.ak v.cells.toList) (some 1)
       |false=>.bad
      |none=>.bad
     |none=>.bad
    |_=>.bad
   |_=>.bad
  |_,_=>j0 P e t len parts.toList
 |.fieldAddr s x f=>match e x with
  |some (.ptr i off)=>match P.underlying s with
   |some (.struct fields)=>match fields[f]? with
    |some fd=>match(P.info? fd.type).map (·.size)with
     |some (_+1)=>.val (.ptr i (off+fd.offset)) none
     |_=>.bad
    |none=>.bad
   |_=>.bad
  |some (.lV i off)=>match row i with
   |some r=>match r.cs with
    |.own _ n _=>match P.underlying s with
     |some (.struct fields)=>match fields[f]? with
      |some fd=>match(P.info? fd.type).map (·.size)with
       |some (_+1)=>.val (.lV i (off+fd.offset)) (some (0 < n))
       |_=>.bad
      |none=>.bad
     |_=>.bad
    |_=>.bad
   |none=>.bad
  |_=>bN P w0 h e o
 |.indexAddr t x ix=>match e x with
  |some (.ptr i off)=>match P.underlying t with
   |some (.array len elem)=>match e ix with
    |some (.val (.int _ k))=>match P.info? elem with
     |some inf=>match h with
      |some .ix=>.val (.ptr i (off+k.toNat*inf.size)) (some (0≤k∧k < len))
      |_=>match decide (0≤k∧k < len)with
       |true=>.val (.ptr i (off+k.toNat*inf.size)) none
       |false=>.bad
     |none=>.bad
    |_=>.bad
   |_=>.bad
  |some (.own i)=>match row i with
   |some r=>match r.cs with
    |.own _ n _=>match e ix with
     |some (.val (.int _ k))=>match P.underlying t with
      |some (.slice elem)=>match P.info? elem with
       |some inf=>match h with
        |some .ix=>.val (.lV i (k.toNat*inf.size)) (some (0≤k∧k < n))
        |_=>.bad
       |none=>.bad
      |_=>.bad
     |_=>.bad
    |_=>.bad
   |none=>.bad
  |_=>bN P w0 h e o
 |.convert s d x=>match e x with
  |some sv=>match h with
   |some (.is (.string b))=>match Eg w0 row 1 h sv with
    |some (m,news,ob)=>match yM P s d with
     |true=>.val (.val (.string b)) (some (ob∧b.size=m∧news=b.data.toList.map fun c=>.int .u8 (c.toNat:Int)))
     |false=>.bad
    |none=>bN P w0 h e o
   |_=>bN P w0 h e o
  |none=>bN P w0 h e o
 |.slice t x lo hi mx=>cQ P w0 h e row o t x lo hi mx
 |.call c=>match h with
  |some (.dS r)=>bM P e c r
  |some (.fQ r)=>dh P e c r
  |some (.fP p cs v)=>gw P e row c (.fP p cs v)
  |some .oP=>gw P e row c .oP
  |_=>match zp c with
   |some (t,x,y)=>match e x,e y with
    |some sx,some sy=>fT P w0 row h t sx sy
    |_,_=>.bad
   |none=>fi P w0 h e row o c
 |_=>bN P w0 h e o
def gy:Option SV→List Nat
 |some (.ptr i _)=>[i]
 |some (.mP i _ _ _)=>[i]
 |some (.lV i _)=>[i]
 |some (.own i)=>[i]
 |some (.kQ i _ _ _)=>[i]
 |_=>[]
def ax(e:Operand→Option SV)(o:Oper):List Nat:=
 match o.op with
 |.load _ x=>gy (e x)
 |.store _ x _=>gy (e x)
 |.indexAddr _ x _=>match e x with
  |some (.own i)=>[i]
  |_=>[]
 |.slice _ x _ _ _=>match e x with
  |some (.own i)=>[i]
  |_=>[]
 |.convert _ _ x=>gy (e x)
 |.fieldAddr _ x _=>match e x with
  |some (.lV i _)=>[i]
  |_=>[]
 |.call c=>c.args.toList.flatMap fun x=>gy (e x)
 |_=>[]
def lZ(m:Nat):Option Nat→SV
 |none=>.ptr m 0
 |some n=>.mP m 0 n n
def oO(g:Nat):Option Nat→Value
 |none=>.pointer (some ⟨g,0,none⟩)
 |some n=>.slice (some ⟨g,0,none⟩) n n
def an:Row:=⟨0,.dead⟩
def jg:j6→Option Row
 |.val _=>none
 |.sl T size n xs=>some ⟨T,.own size n xs⟩
 |.wh _ T size n xs _=>some ⟨T,.own size n xs⟩
def ik(m:Nat):j6→SV
 |.val v=>.val v
 |.sl _ _ _ _=>.own m
 |.wh pre _ _ _ _ post=>.wh pre m post
def D5(mem:List Row):Option Row→List Row
 |none=>mem
 |some r=>mem++[r]
def eP(mem:List Row):Option Nat→List Row
 |none=>mem
 |some i=>mem.set i an
def DU(row:Nat→Option Row)(W:World)(i:Nat)(K:Value→Prop):Prop:=match row i with
 |some r=>match r.cs with
  |.own size n xs=>∀s,Own W r.ty size s n xs→K s
  |_=>False
 |none=>False
theorem vV{row:Nat→Option Row}{W:World}{i:Nat}{K:Value→Prop}(h:DU row W i K):∃r,row i=some r∧∃s m ys,r.cs=.own s m ys:=by
 unfold DU at h
 split at h
 ·rename_i r hr
  split at h
  ·rename_i s m ys hc
   exact⟨r,hr,s,m,ys,hc⟩
  ·exact h.elim
 ·exact h.elim
theorem FC{β:Env}{row:Nat→Option Row}{W:World}{i:Nat}{K:Value→Prop}(h:DU row W i K)(hr:∀r,row i=some r→aX β W i r):K (β.sl i):=by
 unfold DU at h
 split at h
 ·rename_i r hrow
  have hh:=hr r hrow
  split at h
  ·rename_i s m ys hc
   unfold aX at hh
   rw[hc]at hh
   have:=h _ hh.2
   rw[←hh.1]at this
   exact this
  ·exact h.elim
 ·exact h.elim
def ia(row:Nat→Option Row)(W:World):List SV→(List Value→Prop)→Prop
 | [],K=>K []
 |sv::l,K=>match sv with
  |.val v=>ia row W l fun vs=>K (v::vs)
  |.own i=>match row i with
   |some r=>match r.cs with
    |.own size n xs=>∀s,Own W r.ty size s n xs→ia row W l fun vs=>K (s::vs)
    |_=>False
   |none=>False
  |.ptr i 0=>match row i with
   |some r=>match r.cs with
    |.ak cs=>∀g,au W g r.ty cs→ia row W l fun vs=>K (.pointer (some ⟨g,0,none⟩)::vs)
    |.dF g cs=>au W g r.ty cs→ia row W l fun vs=>K (.pointer (some ⟨g,0,none⟩)::vs)
    |_=>False
   |none=>False
  |.kQ i off m cut=>match row i with
   |some r=>match r.cs with
    |.own size n xs=>(off=cut*size∧cut+m≤n)∧∀s,Own W r.ty size s m ((xs.drop off).take (m*size))→(0 < n→∃g o c,s=.slice (some ⟨g,o,none⟩) m c)→ia row W l fun vs=>K (s::vs)
    |_=>False
   |none=>False
  |_=>False
def mG(b:aU)(W:World)(vs:List Value)(x:XK)(e:Ending)(w':World):Prop:=match x with
 |.gk p _ row v=>∃g l,vs[p]?=some (.pointer (some ⟨g,0,none⟩))∧row.cs.list=some l∧e=.returned v∧au w' g row.ty l∧ai [g] W w'
 |.Ex ps=>∃chain T,e=.panicked chain∧b.PP chain w'∧ai T W w'∧∀x∈T,∃q∈ps,vs[q.1]?=some (.pointer (some ⟨x,0,none⟩))
theorem Nb{w:World}{T size n c:Nat}{A:Option Addr}{xs:List Value}(h:Own w T size (.slice A n c) n xs){off m cut:Nat}(ho:off=cut*size)(hm:cut+m≤n):Own w T size (.slice (if c=cut then A else A.map (·.add off)) m (c - cut)) m ((xs.drop off).take (m*size)):=by
 have hlen:((xs.drop off).take (m*size)).length=m*size:=by
  have h1:cut*size+m*size≤n*size:=by rw[←Nat.add_mul];exact Nat.mul_le_mul_right _ hm
  rw[List.length_take,List.length_drop,h.len]
  omega
 refine⟨hlen,?_⟩
 rcases h.2 with⟨hv,rfl⟩ | ⟨g,o,c',L,hv,hg,hn,hc,hL,hx⟩
 ·injection hv with h1 h2 h3
  subst h1;subst h3
  have:m=0:=by omega
  subst this
  have:cut=0:=by omega
  subst this
  exact .inl ⟨by simp,rfl⟩
 ·injection hv with h1 h2 h3
  subst h1;subst h3
  refine .inr ?_
  have hcs:cut*size+(c - cut)*size=c*size:=by rw[←Nat.add_mul]; congr 1; omega
  have hmn:cut*size+m*size≤n*size:=by rw[←Nat.add_mul];exact Nat.mul_le_mul_right _ hm
  by_cases hcc:c=cut
  ·have:m=0:=by omega
   subst this
   refine⟨g,o,c - cut,L,by rw[if_pos hcc],hg,by omega,by omega,?_,by simp⟩
   rw[hcc,Nat.sub_self]
   omega
  ·refine⟨g,o+off,c - cut,L,by rw[if_neg hcc]; simp[Addr.add_lit],hg,by omega,by omega,by omega,?_⟩
   rw[←hx,List.drop_take,List.drop_drop,List.take_take]
   congr 1
   rw[ho]
   omega
theorem fg{β:Env}{row:Nat→Option Row}{W:World}:∀{l:List SV} {K:List Value→Prop},ia row W l K→(∀i sv,sv∈l→i∈gy (some sv)→∀r,row i=some r→aX β W i r)→K (l.map (SV.den β))
 | [],K,h,_=>h
 |sv::l,K,h,hr=>by
  unfold ia at h
  split at h
  ·rename_i v
   have:=fg (l:=l) (K:=fun vs=>K (v::vs)) h fun i sv hi=>hr i sv (List.mem_cons_of_mem _ hi)
   exact this
  ·rename_i i
   split at h
   ·rename_i r hrow
    have hh:=hr i (.own i) (by simp) (by simp[gy]) r hrow
    split at h
    ·rename_i size n xs hcs
     unfold aX at hh
     rw[hcs]at hh
     have:=fg (l:=l) (K:=fun vs=>K (.slice (β.a i) n (β.c i)::vs)) (h (.slice (β.a i) n (β.c i)) hh.2) fun i sv hi=>hr i sv (List.mem_cons_of_mem _ hi)
     rw[←hh.1]at this
     exact this
    ·exact h.elim
   ·exact h.elim
  ·rename_i i
   split at h
   ·rename_i r hrow
    have hh:=hr i (.ptr i 0) (by simp) (by simp[gy]) r hrow
    split at h
    ·rename_i cs hcs
     unfold aX at hh
     rw[hcs]at hh
     exact fg (l:=l) (K:=fun vs=>K (_::vs)) (h _ hh) fun i sv hi=>hr i sv (List.mem_cons_of_mem _ hi)
    ·rename_i g cs hcs
     unfold aX at hh
     rw[hcs]at hh
     obtain⟨hg,hb⟩:=hh
     rw[hg]at hb
     have:=fg (l:=l) (K:=fun vs=>K (.pointer (some ⟨g,0,none⟩)::vs)) (h hb) fun i sv hi=>hr i sv (List.mem_cons_of_mem _ hi)
     rw[←hg]at this
     exact this
    ·exact h.elim
   ·exact h.elim
  ·rename_i i off m cut
   split at h
   ·rename_i r hrow
    have hh:=hr i (.kQ i off m cut) (by simp) (by simp[gy]) r hrow
    split at h
    ·rename_i size n xs hcs
     unfold aX at hh
     rw[hcs]at hh
     refine fg (l:=l) (K:=fun vs=>K (_::vs)) (h.2 _ (Nb hh.2 h.1.1 h.1.2) fun hn=>?_) fun i sv hi=>hr i sv (List.mem_cons_of_mem _ hi)
     obtain⟨g,o,c',hv,_⟩:=hh.2.some_ hn
     injection hv with h1 h2 h3
     simp only[SV.den,h1]
     by_cases hc:β.c i=cut
     ·exact⟨g,o,β.c i - cut,by rw[if_pos hc]⟩
     ·exact⟨g,o+off,β.c i - cut,by rw[if_neg hc]; simp[Addr.add_lit]⟩
    ·exact h.elim
   ·exact h.elim
  ·exact h.elim
end Sx
open Go Go.RowKit Go.Lib Go.Sort
theorem au.setCells{b:Nat}{t:TypeId}:∀(vs:List Value) (off:Nat) {cs:List Value} {W:World},au W b t cs→off+vs.length≤cs.length→au (W.setCells b off vs) b t (cs.take off++(vs++cs.drop (off+vs.length)))
 | [],off,cs,W,h,_=>by simpa[World.setCells]using h
 |v::r,off,cs,W,h,hl=>by
  rw[World.setCells]
  simp only[List.length_cons]at hl
  have:=au.setCells r (off+1) (h.pU off v) (by simp;omega)
  have e:(cs.set off v).take (off+1)++(r++(cs.set off v).drop (off+1+r.length))=cs.take off++((v::r)++cs.drop (off+(v::r).length)):=by
   rw[List.take_succ_eq_append_getElem (by simp;omega),List.drop_set_of_lt (by omega),List.getElem_set_self,List.take_set_of_le (by omega)]
   simp only[List.append_assoc,List.cons_append,List.nil_append,List.length_cons]
   rw[show off+(r.length+1)=off+1+r.length by omega]
  rwa [e]at this
theorem ai.nY{S:List Nat}{a:World}(b:Nat)(hb:b∈S∨a.heap.size≤b):∀(vs:List Value) (off:Nat) {W:World},ai S a W→ai S a (W.setCells b off vs)
 | [],_,_,h=>h
 |v::r,off,_,h=>ai.nY b hb r (off+1) (h.setCell (p:=⟨b,off,none⟩) hb v)
namespace Sx
section
variable{P:Program}{β:Env}{W:World}{a:Act}{o:Oper}{e:Operand→Option SV}{row:Nat→Option Row}{hn:Option Hint}
def pM.Ok(P:Program)(β:Env)(W:World)(a:Act)(o:Oper):pM→Prop
 |.val sv ob=>(∀p,ob=some p→p)→(execOp a.eval o).run P W=.ok (.value (sv.den β)) W
 |.call f args _=>(execOp a.eval o).run P W=.ok (.enter f args.toArray) W
 |.alloc t cs ln=>(execOp a.eval o).run P W=.ok (.value (oO W.heap.size ln)) (W.alloc (.cells (cs.den β).toArray t))
 |.grow kill t size n xs ob=>(∀p,ob=some p→p)→∃A c W' S,(execOp a.eval o).run P W=.ok (.value (.slice A n c)) W'∧Own W' t size (.slice A n c) n xs∧ai S W W'∧(∀k∈S,∃i,kill=some i∧(β.a i).map (·.block)=some k)∧∀k,A.map (·.block)=some k→k∈S∨W.heap.size≤k
 |.dS f args _=>(execOp a.eval o).run P W=.ok (.enter f (args.map (SV.den β)).toArray) W
 |.fQ f i _=>(execOp a.eval o).run P W=.ok (.enter f #[β.sl i]) W
 |.eZ f args _=>(execOp a.eval o).run P W=.ok (.enter f (args.map (SV.den β)).toArray) W
 |.ef i r ob=>(∀p,ob=some p→p)→∃W',(execOp a.eval o).run P W=.ok .skip W'∧aX β W' i r∧ai (av β i r).toList W W'
 |.store i r ob=>(∀p,ob=some p→p)→∃W',(execOp a.eval o).run P W=.ok .skip W'∧au W' (β i) r.ty (r.cs.den β)∧ai [β i] W W'
 |.bad=>True
theorem IM(he:∀x∈o.op.operands,∀sv,e x=some sv→a.eval x=sv.den β)(h:fj (isVal e) o.op.operands.toList=true)(hs:Region.noSelect #[o]=true):execOp a.eval o=execOp (OP e) o:=by
 refine execOp_congr o ?_ fun x hx=>?_
 ·exact fun cs b=>Region.noSelect_spec hs 0 o cs b rfl
 ·have:=aT h x (by simpa using hx)
  unfold isVal at this
  unfold OP
  split at this
  ·rename_i v hv
   rw[he x hx _ hv]
   rfl
  ·cases this
theorem zV{ρ:Operand→Value}{s:Sem Value}(h:Ei ρ o=some s){v:Value}(hr:s.run P W=.ok v W):(execOp ρ o).run P W=.ok (.value v) W:=by
 unfold Ei at h
 split at h
 all_goals first
  |cases h;done
  | (rename_i ho;cases h;unfold execOp;simp only[ho];rw[Sem.run_bind,hr];rfl)
theorem gC{w0:aU}(hw:ai w0.S w0.w W)(he:∀x∈o.op.operands,∀sv,e x=some sv→a.eval x=sv.den β):(bN P w0 hn e o).Ok P β W a o:=by
 unfold bN
 split
 ·trivial
 ·rename_i hb
  rw[Bool.and_eq_true]at hb
  have hq:=IM he hb.1 hb.2
  split
  ·split
   ·rename_i s hs
    intro hob
    rw[hq]
    exact zV hs (hob _ rfl W hw)
   ·intro hob
    rw[hq]
    exact hob _ rfl W hw
  ·split
   ·rename_i s hs
    intro hob
    rw[hq]
    exact zV hs (hob _ rfl W)
   ·trivial
  ·split
   ·rename_i u hu
    intro hob
    rw[hq,o5 hu W,hob _ rfl]
    rfl
   ·trivial
  ·split
   ·rename_i u hu
    intro _
    rw[hq,o5 hu W]
    rfl
   ·trivial
theorem Fw{w0:aU}(hw:ai w0.S w0.w W)(he:∀x∈o.op.operands,∀sv,e x=some sv→a.eval x=sv.den β):(dy P w0 hn e o).Ok P β W a o:=by
 unfold dy
 split
 ·split
  ·trivial
  ·rename_i hb
   rw[Bool.and_eq_true]at hb
   have hq:=IM he hb.1 hb.2
   split
   ·rename_i f args hu
    show _=_
    rw[hq,o5 hu W]
   ·trivial
 ·exact gC hw he
theorem pW{b off:Nat}{t:TypeId}:(Instr.loadAt t (.pointer (some ⟨b,off,none⟩))).run P W=(loadVar t ⟨b,off,none⟩).run P W:=by
 simp[Instr.loadAt,Instr.sureAddr]
theorem jS{t:TypeId}{x:Operand}{b off:Nat}{d:TypeDesc}{inf:TypeInfo}{cs:List Value}(ho:o.op=.load t x)(hx:a.eval x=.pointer (some ⟨b,off,none⟩))(hu:P.underlying t=some d)(hi:P.info? t=some inf)(hd:d.isRow=true)(hl:inf.size=cs.length)(hc:W.rangeAt b off cs) :
  (execOp a.eval o).run P W=.ok (.value (.agg cs.toArray)) W:=by
 have:=run_loadAt_mid (P:=P) W b off t cs d hc hu hd (by rw[hi];simpa using hl)
 unfold execOp
 simp only[ho,hx,Sem.run_bind,this]
 rfl
theorem jT{t:TypeId}{x:Operand}{b off:Nat}{d:TypeDesc}{v:Value}(ho:o.op=.load t x)(hx:a.eval x=.pointer (some ⟨b,off,none⟩))(hu:P.underlying t=some d)(hd:d.isRow=false)(hc:W.cell? ⟨b,off,none⟩=some v) :
  (execOp a.eval o).run P W=.ok (.value v) W:=by
 have hagg:(isAgg t).run P W=.ok false W:=by
  unfold isAgg
  rw[Sem.run_bind,run_underlying hu W]
  cases d<;>simp_all
 unfold execOp
 simp only[ho,hx,Sem.run_bind,pW]
 simp[loadVar,Sem.run_bind,hagg,load,Sem.run,hc]
theorem ER{t:TypeId}{x:Operand}{i off:Nat}{r:Row}(ho:o.op=.load t x)(hx:a.eval x=.pointer (some ⟨β i,off,none⟩))(hb:aX β W i r):(cJ P t r off).Ok P β W a o:=by
 unfold cJ
 split
 ·trivial
 ·rename_i hf
  have hb:=hb.b9 hf
  split
  ·rename_i d inf hu hi
   split
   ·rename_i hd
    split
    ·rename_i cs hcs
     rw[hcs]at hb
     split
     ·rename_i hh
      rw[Bool.and_eq_true]at hh
      have h0:=Nat.eq_of_beq_eq_true hh.1
      have h1:=Nat.eq_of_beq_eq_true hh.2
      intro _
      refine jS ho hx hu hi hd h1 fun j v hv=>?_
      rw[h0,Nat.zero_add]
      exact hb.cell_of hv
     ·split
      ·rename_i hh
       have hl:=Nat.le_of_ble_eq_true hh
       intro _
       refine jS ho hx hu hi hd (by simp;omega) fun j v hv=>?_
       refine hb.cell_of ?_
       rw[List.getElem?_take]at hv
       split at hv
       ·rw[List.getElem?_drop]at hv;exact hv
       ·cases hv
      ·trivial
    ·rename_i cs hcs
     rw[hcs]at hb
     split
     ·rename_i hh
      rw[Bool.and_eq_true]at hh
      have h0:=Nat.eq_of_beq_eq_true hh.1
      have h1:=Nat.eq_of_beq_eq_true hh.2
      intro _
      refine jS ho hx hu hi hd h1 fun j v hv=>?_
      rw[h0,Nat.zero_add]
      exact hb.cell_of hv
     ·split
      ·rename_i hh
       have hl:=Nat.le_of_ble_eq_true hh
       intro _
       refine jS ho hx hu hi hd (by simp;omega) fun j v hv=>?_
       refine hb.cell_of ?_
       rw[List.getElem?_take]at hv
       split at hv
       ·rw[List.getElem?_drop]at hv;exact hv
       ·cases hv
      ·trivial
    ·rename_i cs hcs
     rw[hcs]at hb
     split
     ·rename_i hh
      rw[Bool.and_eq_true]at hh
      have h0:=Nat.eq_of_beq_eq_true hh.1
      have h1:=Nat.eq_of_beq_eq_true hh.2
      split
      ·rename_i sv hsv
       intro _
       rw[wQ hsv]
       refine jS ho hx hu hi hd (by simpa using h1) fun j v hv=>?_
       rw[h0,Nat.zero_add]
       exact hb.cell_of hv
      ·trivial
     ·trivial
    ·rename_i cs hcs
     rw[hcs]at hb
     split
     ·rename_i hh
      rw[Bool.and_eq_true]at hh
      have h0:=Nat.eq_of_beq_eq_true hh.1
      have h1:=Nat.eq_of_beq_eq_true hh.2
      split
      ·rename_i sv hsv
       intro _
       rw[wQ hsv]
       refine jS ho hx hu hi hd (by simpa using h1) fun j v hv=>?_
       rw[h0,Nat.zero_add]
       exact hb.cell_of hv
      ·trivial
     ·trivial
    ·trivial
   ·rename_i hd
    split
    ·rename_i cs hcs
     rw[hcs]at hb
     split
     ·rename_i v hv
      intro _
      exact jT ho hx hu hd (hb.cell_of hv)
     ·trivial
    ·rename_i cs hcs
     rw[hcs]at hb
     split
     ·rename_i v hv
      intro _
      exact jT ho hx hu hd (hb.cell_of hv)
     ·trivial
    ·rename_i cs hcs
     rw[hcs]at hb
     split
     ·rename_i v hv
      intro _
      exact jT ho hx hu hd (hb.cell_of (by simp[Cells.den,hv]))
     ·trivial
    ·rename_i cs hcs
     rw[hcs]at hb
     split
     ·rename_i v hv
      intro _
      exact jT ho hx hu hd (hb.cell_of (by simp[Cells.den,hv]))
     ·trivial
    ·trivial
  ·trivial
theorem Gy{t:TypeId}{x:Operand}{i off:Nat}{r:Row}{v:Value}(ho:o.op=.load t x)(hx:a.eval x=.pointer (some ⟨β i,off,none⟩))(hb:aX β W i r):(b7 P t r off v).Ok P β W a o:=by
 unfold b7
 split
 ·rename_i d hu
  split
  ·rename_i hd
   split
   ·rename_i cs hcs
    unfold aX at hb
    rw[hcs]at hb
    intro hob
    exact jT ho hx hu hd (au.cell_of hb (hob _ rfl))
   ·rename_i g cs hcs
    unfold aX at hb
    rw[hcs]at hb
    intro hob
    exact jT ho hx hu hd (au.cell_of hb.2 (hob _ rfl))
   ·trivial
  ·trivial
 ·trivial
theorem yr{i n:Nat}{T size:Nat}{xs:List Value}(h:Own W T size (.slice (β.a i) n (β.c i)) n xs)(hx:xs≠[]):∃g o,β.a i=some ⟨g,o,none⟩∧∀(j:Nat) (u:Value),xs[j]?=some u→W.cell? ⟨g,o+j,none⟩=some u:=by
 have hn:0 < n:=by
  rcases Nat.eq_zero_or_pos n with h0|h0
  ·have:=h.len
   rw[h0,Nat.zero_mul]at this
   exact absurd (List.eq_nil_of_length_eq_zero this) hx
  ·exact h0
 obtain⟨g,o,c,hv,_⟩:=h.some_ hn
 injection hv with h1 _ h3
 refine⟨g,o,h1,fun j u hu=>?_⟩
 rw[h1]at h
 exact(Own.cell h hu).1
theorem Dg{t:TypeId}{x:Operand}{i off:Nat}{r:Row}{v:Value}(ho:o.op=.load t x)(hx:a.eval x=(SV.lV i off).den β)(hb:aX β W i r):(bG P t r off v).Ok P β W a o:=by
 unfold bG
 split
 ·rename_i size n xs hcs
  unfold aX at hb
  rw[hcs]at hb
  split
  ·rename_i d inf hu hi
   split
   ·rename_i hd
    split
    ·rename_i arr
     split
     ·rename_i hpos
      have hpos:0 < inf.size:=Nat.le_of_ble_eq_true hpos
      intro hob
      obtain⟨h1,h2⟩:=hob _ rfl
      have hne:xs≠[]:=by
       rintro rfl
       rw[List.drop_nil,List.take_nil]at h2
       rw[←h2]at h1
       simp at h1
       omega
      obtain⟨g,o',ha,hc⟩:=yr hb.2 hne
      have hx':a.eval x=.pointer (some ⟨g,o'+off,none⟩):=by rw[hx];simp only[SV.den,ha,Option.map_some,Addr.add_mid]
      refine jS (cs:=arr.toList) ho hx' hu hi hd h1.symm fun j u hu=>?_
      rw[Nat.add_assoc]
      refine hc _ _ ?_
      rw[←h2,List.getElem?_take]at hu
      split at hu
      ·rw[List.getElem?_drop]at hu;exact hu
      ·cases hu
     ·trivial
    ·trivial
   ·rename_i hd
    intro hob
    have hu':=hob _ rfl
    have hne:xs≠[]:=by rintro rfl;simp at hu'
    obtain⟨g,o',ha,hc⟩:=yr hb.2 hne
    have hx':a.eval x=.pointer (some ⟨g,o'+off,none⟩):=by rw[hx];simp only[SV.den,ha,Option.map_some,Addr.add_mid]
    exact jT ho hx' hu hd (hc _ _ hu')
  ·trivial
 ·trivial
theorem jI(b off:Nat)(t:TypeId)(v:Value)(ht:W.there b off v.cells.size)(hi:(P.info? t).map (·.size)=some v.cells.size)(h1:∀u∈v.cells.toList,u.oneCell'=true) :
  (storeVar t ⟨b,off,none⟩ v).run P W=.ok () (W.setCells b off v.cells.toList):=by
 have:=run_storeCells_cells (P:=P) b off v.cells.toList 0 W (fun j hj=>by simpa using (ht j (by simpa using hj)).1) (fun j hj=>by simpa using (ht j (by simpa using hj)).2) h1
 cases hq:P.info? t with
 |none=>simp[hq]at hi
 |some i=>
  have hs:v.cells.size=i.size:=by simp[hq]at hi;omega
  simp only[Nat.add_zero]at this
  simp[storeVar,sizeOf,typeInfo,hq,hs,this]
theorem rP{b t:Nat}{cs:List Value}(hb:au W b t cs){off n:Nat}(h:off+n≤cs.length):W.there b off n:=fun j hj=>
 ⟨by rw[hb.cell,List.getElem?_eq_getElem (by omega)];rfl,hb.frozen _⟩
theorem Io{t:TypeId}{x y:Operand}{i off:Nat}{r:Row}{sv:SV}(ho:o.op=.store t x y)(hx:a.eval x=.pointer (some ⟨β i,off,none⟩))(hy:a.eval y=sv.den β)(hb:aX β W i r):(cP P t i r off sv).Ok P β W a o:=by
 have main:r.fixed=true→∀(inf:TypeInfo) (v:Value) (row':List Value),sv.den β=v→P.info? t=some inf→v.cells.toList.length=inf.size→(∀u∈v.cells.toList,u.oneCell'=true)→off+inf.size≤r.cs.len→
   (r.cs.den β).take off++(v.cells.toList++(r.cs.den β).drop (off+inf.size))=row'→∃W',(execOp a.eval o).run P W=.ok .skip W'∧au W' (β i) r.ty row'∧ai [β i] W W':=by
  intro hf inf v row' hv hi hl h1 hle hrow
  have hb:=hb.b9 hf
  have hth:W.there (β i) off v.cells.size:=rP hb (by rw[Cells.iJ];simp at hl;omega)
  have hrun:=jI (P:=P) (β i) off t v hth (by rw[hi];simp at hl ⊢;omega) h1
  refine⟨W.setCells (β i) off v.cells.toList,?_,?_,ai.nY _ (.inl (by simp)) _ _ (ai.refl _ _)⟩
  ·unfold execOp
   simp only[ho,hx,hy,hv,Sem.run_bind,Instr.storeAt,Instr.sureAddr,Sem.run_pure,Result.andThen_ok,hrun]
  ·have:=hb.setCells v.cells.toList off (by rw[Cells.iJ,hl];exact hle)
   rw[hl,hrow]at this
   exact this
 unfold cP
 split
 ·trivial
 rename_i hf
 split
 ·trivial
 ·rename_i inf hi
  split
  ·rename_i v
   split
   ·rename_i hh
    rw[Bool.and_eq_true]at hh
    have hl:=Nat.eq_of_beq_eq_true hh.1
    have h1:=aT hh.2
    split
    ·rename_i hz
     rw[Bool.and_eq_true]at hz
     have h0:=Nat.eq_of_beq_eq_true hz.1
     have hs:=Nat.eq_of_beq_eq_true hz.2
     intro _
     refine main hf inf v _ rfl hi hl h1 (by omega) ?_
     subst h0
     rw[List.take_zero,List.nil_append,List.drop_of_length_le (by rw[Cells.iJ];omega),List.append_nil]
     exact Le.symm
    ·split
     ·rename_i hle
      have hle:=Nat.le_of_ble_eq_true hle
      intro _
      refine main hf inf v _ rfl hi hl h1 hle ?_
      unfold Row.fixed at hf
      cases hcc:r.cs with
      |own a b c=>rw[hcc]at hf;cases hf
      |dead=>rw[hcc]at hf;cases hf
      |ak cs=>rfl
      |dF g cs=>rfl
      |dK cs=>simp[Cells.den,List.map_take,List.map_drop,SV.den,Function.comp_def]
      |jR g cs=>simp[Cells.den,List.map_take,List.map_drop,SV.den,Function.comp_def]
     ·trivial
   ·trivial
  ·split
   ·rename_i h1
    rw[Bool.and_eq_true]at h1
    obtain⟨ho1,h1⟩:=h1
    have h1:=Nat.eq_of_beq_eq_true h1
    obtain⟨hc0,hone⟩:=om ho1 β
    split
    ·rename_i hlt
     have hlt:off < r.cs.len:=Nat.le_of_ble_eq_true hlt
     have hc:(sv.den β).cells.toList=[sv.den β]:=by rw[hc0]
     have ho:=hone
     intro _
     refine main hf inf (sv.den β) _ rfl hi (by rw[hc];simp[h1]) (by rw[hc];simpa using ho) (by omega) ?_
     rw[hc,h1]
     have key:∀(L:List Value),off < L.length→L.take off++([sv.den β]++L.drop (off+1))=L.set off (sv.den β):=by
      intro L hL
      rw[List.set_eq_take_append_cons_drop,if_pos hL]
      rfl
     cases hr:r.cs with
     |own a b c=>unfold Row.fixed at hf;rw[hr]at hf;cases hf
     |dead=>unfold Row.fixed at hf;rw[hr]at hf;cases hf
     |dF g cs=>
      rw[hr]at hlt
      simp only[Cells.den,List.map_set,List.map_map]
      rw[key cs hlt]
      congr 1
      have:(SV.den β ∘ SV.val)=id:=rfl
      rw[this,List.map_id]
     |jR g cs=>
      rw[hr]at hlt
      simp only[Cells.den,List.map_set]
      rw[key _ (by simpa[Cells.len]using hlt)]
     |ak cs=>
      rw[hr]at hlt
      simp only[Cells.den,List.map_set,List.map_map]
      rw[key cs hlt]
      congr 1
      have:(SV.den β ∘ SV.val)=id:=rfl
      rw[this,List.map_id]
     |dK cs=>
      rw[hr]at hlt
      simp only[Cells.den,List.map_set]
      rw[key _ (by simpa[Cells.len]using hlt)]
    ·trivial
   ·split
    ·rename_i l _ _
     split
     ·rename_i hh
      rw[Bool.and_eq_true,Bool.and_eq_true,Bool.and_eq_true]at hh
      have h0:=Nat.eq_of_beq_eq_true hh.1.1
      have hs:=Nat.eq_of_beq_eq_true hh.1.2
      have hl:=Nat.eq_of_beq_eq_true hh.2.1
      have ho:=aT hh.2.2
      have hcells:(SV.den β (.dD l)).cells.toList=l.map (Atom.den β):=rfl
      intro _
      refine main hf inf (SV.den β (.dD l)) _ rfl hi (by rw[hcells,List.length_map,hl]) (fun u hu=>?_) (by omega) ?_
      ·rw[hcells]at hu
       obtain⟨x,hx,rfl⟩:=List.mem_map.1 hu
       exact Atom.one_den (ho x hx)
      ·subst h0
       have hsv:(l.map Atom.sv).map (SV.den β)=l.map (Atom.den β):=by
        rw[List.map_map]
        exact List.map_congr_left fun x _=>Atom.tG
       rw[List.take_zero,List.nil_append,List.drop_of_length_le (by rw[Cells.iJ];omega),List.append_nil,hcells]
       cases hr:r.cs with
       |own a b c=>unfold Row.fixed at hf;rw[hr]at hf;cases hf
       |dead=>unfold Row.fixed at hf;rw[hr]at hf;cases hf
       |dF g cs=>exact hsv.symm
       |jR g cs=>exact hsv.symm
       |ak cs=>exact hsv.symm
       |dK cs=>exact hsv.symm
     ·trivial
    ·trivial
theorem Cw{t:TypeId}{x y:Operand}{i off:Nat}{r:Row}{sv:SV}{cs':List Value}(ho:o.op=.store t x y)(hx:a.eval x=.pointer (some ⟨β i,off,none⟩))(hy:a.eval y=sv.den β)(hb:aX β W i r):(bO P t i r off sv cs').Ok P β W a o:=by
 have main:r.fixed=true→∀(inf:TypeInfo) (v:Value) (row':List Value),sv.den β=v→P.info? t=some inf→v.cells.toList.length=inf.size→(∀u∈v.cells.toList,u.oneCell'=true)→off+inf.size≤r.cs.len→
   (r.cs.den β).take off++(v.cells.toList++(r.cs.den β).drop (off+inf.size))=row'→∃W',(execOp a.eval o).run P W=.ok .skip W'∧au W' (β i) r.ty row'∧ai [β i] W W':=by
  intro hf inf v row' hv hi hl h1 hle hrow
  have hb:=hb.b9 hf
  have hth:W.there (β i) off v.cells.size:=rP hb (by rw[Cells.iJ];simp at hl;omega)
  have hrun:=jI (P:=P) (β i) off t v hth (by rw[hi];simp at hl ⊢;omega) h1
  refine⟨W.setCells (β i) off v.cells.toList,?_,?_,ai.nY _ (.inl (by simp)) _ _ (ai.refl _ _)⟩
  ·unfold execOp
   simp only[ho,hx,hy,hv,Sem.run_bind,Instr.storeAt,Instr.sureAddr,Sem.run_pure,Result.andThen_ok,hrun]
  ·have:=hb.setCells v.cells.toList off (by rw[Cells.iJ,hl];exact hle)
   rw[hl,hrow]at this
   exact this
 unfold bO
 split
 ·trivial
 ·rename_i inf hi
  split
  ·rename_i v
   split
   ·rename_i hh
    rw[Bool.and_eq_true]at hh
    have hl:=Nat.eq_of_beq_eq_true hh.1
    have h1:=aT hh.2
    split
    ·rename_i cs hcs
     intro hob
     have hob:=hob _ rfl
     refine main (by unfold Row.fixed;rw[hcs]) inf v _ rfl hi hl h1 (by rw[hcs];exact hob.1) ?_
     rw[hcs]
     exact hob.2
    ·rename_i cs hcs
     intro hob
     have hob:=hob _ rfl
     refine main (by unfold Row.fixed;rw[hcs]) inf v _ rfl hi hl h1 (by rw[hcs];exact hob.1) ?_
     rw[hcs]
     exact hob.2
    ·trivial
   ·trivial
  ·trivial
theorem FL{α:Type}(L:List α)(o N off:Nat)(xs cs:List α)(hx:(L.drop o).take N=xs)(hl:xs.length=N)(hfit:off+cs.length≤xs.length):((splice L (o+off) cs).drop o).take N=xs.take off++(cs++xs.drop (off+cs.length)):=by
 have hL:o+N≤L.length∨N=0:=by
  have:=congrArg List.length hx
  rw[List.length_take,List.length_drop,hl]at this
  omega
 rcases hL with hL|hN
 ·apply List.ext_getElem?
  intro j
  unfold splice
  rw[List.getElem?_take]
  by_cases hj:j < N
  ·rw[if_pos hj,List.getElem?_drop]
   have hxj:∀i,i < N→xs[i]?=L[o+i]?:=fun i hi=>by rw[←hx,List.getElem?_take,if_pos hi,List.getElem?_drop]
   by_cases h1:j < off
   ·rw[List.getElem?_append_left (by rw[List.length_take];omega),List.getElem?_append_left (by rw[List.length_take];omega),List.getElem?_take,List.getElem?_take,if_pos (by omega),if_pos h1,hxj j hj]
   ·have hl1:(L.take (o+off)++(cs++L.drop (o+off+cs.length)))[o+j]?=(cs++L.drop (o+off+cs.length))[j - off]?:=by
     rw[List.getElem?_append_right (by rw[List.length_take];omega),List.length_take,Nat.min_eq_left (by omega)]
     congr 1;omega
    have hr1:(xs.take off++(cs++xs.drop (off+cs.length)))[j]?=(cs++xs.drop (off+cs.length))[j - off]?:=by
     rw[List.getElem?_append_right (by rw[List.length_take];omega),List.length_take,Nat.min_eq_left (by omega)]
    rw[hl1,hr1]
    by_cases h2:j < off+cs.length
    ·rw[List.getElem?_append_left (by omega),List.getElem?_append_left (by omega)]
    ·have a1:(cs++L.drop (o+off+cs.length))[j - off]?=L[o+j]?:=by
      rw[List.getElem?_append_right (by omega),List.getElem?_drop]
      congr 1;omega
     have a2:(cs++xs.drop (off+cs.length))[j - off]?=xs[j]?:=by
      rw[List.getElem?_append_right (by omega),List.getElem?_drop]
      congr 1;omega
     rw[a1,a2,hxj _ hj]
  ·rw[if_neg hj]
   symm
   apply List.getElem?_eq_none
   simp only[List.length_append,List.length_take,List.length_drop]
   omega
 ·subst hN
  have:xs=[]:=List.eq_nil_of_length_eq_zero hl
  subst this
  have:cs=[]:=List.eq_nil_of_length_eq_zero (by rw[List.length_nil]at hfit;omega)
  subst this
  simp
theorem zL{t:TypeId}{x y:Operand}{i off:Nat}{r:Row}{sv:SV}(ho:o.op=.store t x y)(hx:a.eval x=(SV.lV i off).den β)(hy:a.eval y=sv.den β)(hb:aX β W i r):(bB P t i r off sv).Ok P β W a o:=by
 unfold bB
 split
 ·rename_i size n xs hcs
  unfold aX at hb
  rw[hcs]at hb
  split
  ·rename_i inf hi
   split
   ·rename_i v
    split
    ·rename_i hh
     simp only[Bool.and_eq_true]at hh
     obtain⟨h1,h2,h3⟩:=hh
     have h1:=Nat.eq_of_beq_eq_true h1
     have h2:=aT h2
     have h3:0 < inf.size:=Nat.le_of_ble_eq_true h3
     intro hob
     have hfit:=hob _ rfl
     obtain⟨hn,hown⟩:=hb
     rcases hown.2 with⟨hv,h0⟩ | ⟨g,o',c',L,hv,hg,hnc,hcm,hL,hxs⟩
     ·have:=hown.len
      rw[h0,Nat.zero_mul]at this
      omega
     ·injection hv with ha _ hc
      have hlen:=hown.len
      have hns:n*size≤c'*size:=Nat.mul_le_mul_right _ hnc
      have hth:W.there g (o'+off) v.cells.size:=rP hg (by simp at h1;omega)
      have hrun:=jI (P:=P) g (o'+off) t v hth (by rw[hi];simp at h1 ⊢;omega) h2
      have hset:=hg.setCells v.cells.toList (o'+off) (by omega)
      have hx':a.eval x=.pointer (some ⟨g,o'+off,none⟩):=by rw[hx];simp only[SV.den,ha,Option.map_some,Addr.add_mid]
      refine⟨W.setCells g (o'+off) v.cells.toList,?_,?_,?_⟩
      ·unfold execOp
       simp only[ho,hx',hy,SV.den,Sem.run_bind,Instr.storeAt,Instr.sureAddr,Sem.run_pure,Result.andThen_ok,hrun]
      ·show β.n i=n∧Own _ r.ty size (.slice (β.a i) n (β.c i)) n _
       refine⟨hn,?_,.inr ⟨g,o',c',_,by rw[ha,hc],hset,hnc,hcm,?_,?_⟩⟩
       ·simp only[List.length_append,List.length_take,List.length_drop,h1]
        omega
       ·simp only[List.length_append,List.length_take,List.length_drop]
        omega
       ·have:=FL L o' (n*size) off xs v.cells.toList hxs hlen (by omega)
        rw[h1]at this
        unfold splice at this
        rw[h1]at this
        rw[h1]
        exact this
      ·have e:av β i ⟨r.ty,.own size n (xs.take off++(v.cells.toList++xs.drop (off+inf.size)))⟩=some g:=by
        show(β.a i).map _=_
        rw[ha];rfl
       rw[e]
       exact ai.nY _ (.inl (by simp)) _ _ (ai.refl _ _)
    ·trivial
   ·trivial
  ·trivial
 ·trivial
theorem foldl_set:∀(l:List Value) (k:Nat) (z:Array Value),z.size=k+l.length→(l.zipIdx k).foldl (fun(cs:Array Value) (x:Value×Nat)=>cs.setIfInBounds (0+x.2) x.1) z=(z.toList.take k++l).toArray
 | [],k,z,h=>by
  simp only[List.length_nil,Nat.add_zero]at h
  rw[List.zipIdx_nil,List.foldl_nil,List.append_nil,List.take_of_length_le (by simp;omega)]
 |v::l,k,z,h=>by
  simp only[List.length_cons]at h
  rw[List.zipIdx_cons,List.foldl_cons,foldl_set l (k+1) _ (by simp;omega)]
  apply congrArg List.toArray
  simp only[Nat.zero_add,Array.toList_setIfInBounds]
  rw[List.take_succ_eq_append_getElem (by simp;omega),List.getElem_set_self,List.take_set_of_le (Nat.le_refl _)]
  simp
theorem Kg(size:Nat)(v:Value)(z:Array Value)(hz:z.size=size)(hv:v.cells.size=size):Instr.fill (fun i=>some (i*size,size)) z [(0,v)]=some v.cells:=by
 have h:=foldl_set v.cells.toList 0 z (by simp;omega)
 have e1:(v.cells.size≠size||0*size+v.cells.size > z.size)=false:=by simp[hv,hz]
 unfold Instr.fill
 simp only[e1,Bool.false_eq_true,if_false]
 unfold Instr.fill
 apply congrArg some
 rw[←Array.foldl_toList,show v.cells.zipIdx.toList=v.cells.toList.zipIdx 0 by simp]
 simp only[Nat.zero_mul]
 rw[h]
 simp
theorem oM{β:Env}{a:Act}{e:Operand→Option SV}:∀{l:List (Nat×Operand)} {k:Nat} {vs:List Value},nj e k l=some vs→(∀i x,(i,x)∈l→∀sv,e x=some sv→a.eval x=sv.den β)→(l.map fun p=>(p.1,a.eval p.2))=(vs.zipIdx k).map fun x=>(x.2,x.1)
 | [],k,vs,h,_=>by
  have:vs=[]:=by simpa[nj]using h.symm
  subst this
  rfl
 | (i,x)::r,k,vs,h,he=>by
  unfold nj at h
  simp only at h
  split at h
  ·rename_i hi
   split at h
   ·rename_i v hx
    split at h
    ·rename_i l hl
     cases h
     have h1:=oM hl fun i x hm=>he i x (List.mem_cons_of_mem _ hm)
     have h2:=he i x (by simp) _ hx
     rw[List.map_cons,List.zipIdx_cons,List.map_cons,h1]
     simp only[h2,SV.den,Nat.eq_of_beq_eq_true hi]
    ·cases h
   ·cases h
  ·cases h
theorem BQ{P:Program}{β:Env}{W:World}{a:Act}{o:Oper}{e:Operand→Option SV}{t:TypeId}{len:Nat}{parts:Array (Nat×Operand)}(ho:o.op=.buildSlice t len parts)(he:∀i x,(i,x)∈parts.toList→∀sv,e x=some sv→a.eval x=sv.den β):(j0 P e t len parts.toList).Ok P β W a o:=by
 unfold j0
 split
 ·rename_i vs hvs
  have hp:=oM hvs he
  split
  ·rename_i el hu
   split
   ·rename_i inf hi
    split
    ·rename_i z hz
     split
     ·rename_i hh
      simp only[Bool.and_eq_true]at hh
      obtain⟨h1,h2,h3,h4,h5,h6⟩:=hh
      have h1':∀v∈vs,v.cells.size=inf.size:=fun v hv=>by
       have:=Nat.eq_of_beq_eq_true (aT h1 v hv)
       simpa using this
      have h2:=Nat.eq_of_beq_eq_true h2
      have h3:=Nat.eq_of_beq_eq_true h3
      have h4:=Nat.le_of_ble_eq_true h4
      have h5:0 < inf.size:=Nat.le_of_ble_eq_true h5
      have h6:0 < len:=Nat.le_of_ble_eq_true h6
      have hpos:0 < len*inf.size:=Nat.mul_pos h6 h5
      show _=_
      have hfill:=Great.fill_whole h5 vs ((Array.range (len*inf.size)).map (z.cells[·%z.cells.size]!)) h1' (by simp[h2])
      rw[←hp]at hfill
      have hrun:=run_buildSlice (P:=P) W t el len (parts.map fun(i,x)=>(i,a.eval x)) _ inf z hu hi hz (by omega) (by omega) (by rw[Array.toList_map];exact hfill)
      unfold execOp
      simp only[ho,Sem.run_bind,hrun,Result.andThen_ok,Sem.run_pure,oO,Cells.den]
     ·trivial
    ·trivial
   ·trivial
  ·trivial
 ·trivial
theorem fR{P:Program}{e:Operand→Option SV}{t:TypeId}{len:Nat}{parts:List (Nat×Operand)}{r:pM}(h:j0 P e t len parts=r):r=.bad∨∃el cs ln,r=.alloc el (.ak cs) ln:=by
 unfold j0 at h
 repeat' (split at h)
 all_goals first
  |exact .inl h.symm
  |exact .inr ⟨_,_,_,h.symm⟩
theorem eE{P:Program}{r0 r:pM}(h:rI P r0=r):r=.bad∨∃el sz n cs,r=.grow none el sz n cs none:=by
 unfold rI at h
 repeat' (split at h)
 all_goals first
  |exact .inl h.symm
  |exact .inr ⟨_,_,_,_,h.symm⟩
theorem GN{P:Program}{β:Env}{W:World}{a:Act}{o:Oper}{r:pM}(h:r.Ok P β W a o):(rI P r).Ok P β W a o:=by
 unfold rI
 split
 ·rename_i el cs n
  split
  ·rename_i inf hi
   split
   ·rename_i hb
    rw[Bool.and_eq_true]at hb
    have h1:=Nat.eq_of_beq_eq_true hb.1
    have h2:=Nat.le_of_ble_eq_true hb.2
    intro _
    have hrun:(execOp a.eval o).run P W=.ok (.value (oO W.heap.size (some n))) (W.alloc (.cells cs.toArray el)):=h
    have ho:=Own.made W el inf.size n n cs (Nat.le_refl _) (by unfold maxLen;omega) h1
    rw[List.take_of_length_le (by omega)]at ho
    refine⟨some ⟨W.heap.size,0,none⟩,n,_,[],hrun,ho,(ai.refl [] W).alloc _,by simp,fun k hk=>.inr ?_⟩
    have:W.heap.size=k:=by simpa using hk
    omega
   ·trivial
  ·trivial
 ·trivial
theorem Gz{c:Call}{t:TypeId}{x:Operand}(h:Dk c=some (t,x)):c={ callee:=.builtin .len,args:=#[x],argTypes:=#[t] }:=by
 obtain⟨callee,args,ats⟩:=c
 unfold Dk at h
 split at h
 ·rename_i b hb
  split at h
  ·split at h
   ·rename_i y u hy hu
    simp only at hb hy hu
    injection h with h
    injection h with h1 h2
    subst h1;subst h2
    have e1:args=#[y]:=by rw[←Array.toList_inj,hy]
    have e2:ats=#[u]:=by rw[←Array.toList_inj,hu]
    rw[hb,e1,e2]
   ·cases h
  ·cases h
 ·cases h
theorem BW{t e sz bytes:Nat}(h:BX P t=some (e,sz,bytes)):∃inf z,P.underlying t=some (.slice e)∧P.info? e=some inf∧inf.zero=some z∧inf.size=sz∧inf.bytes=bytes∧z.cells.size=sz∧0 < sz:=by
 unfold BX at h
 split at h
 ·rename_i e' hu
  split at h
  ·rename_i inf hi
   split at h
   ·rename_i z hz
    split at h
    ·rename_i hb
     rw[Bool.and_eq_true]at hb
     injection h with h
     injection h with h1 h2
     injection h2 with h2 h3
     subst h1;subst h2;subst h3
     exact⟨inf,z,hu,hi,hz,rfl,rfl,Nat.eq_of_beq_eq_true hb.1,Nat.le_of_ble_eq_true hb.2⟩
    ·cases h
   ·cases h
  ·cases h
 ·cases h
theorem Qc{c:Call}{w0:aU}(ho:o.op=.call c)(hw:ai w0.S w0.w W)(he:∀x∈o.op.operands,∀sv,e x=some sv→a.eval x=sv.den β)(hr:∀i r,i∈ax e o→row i=some r→aX β W i r):(fi P w0 hn e row o c).Ok P β W a o:=by
 unfold fi
 split
 ·rename_i t x hla
  have hc:c={ callee:=.builtin .len,args:=#[x],argTypes:=#[t] }:=Gz hla
  have mem:x∈o.op.operands:=by simp[ho,Op.operands,Call.operands,hc]
  have key:∀A n c',P.underlying t=some c'→(∃el,c'=.slice el)→∀cap,a.eval x=.slice A n cap→(execOp a.eval o).run P W=.ok (.value (.int .i64 (n:Int))) W:=by
   intro A n c' hu hel cap hx
   obtain⟨el,rfl⟩:=hel
   unfold execOp
   simp[ho,hc,resolve,invoke,builtin,Builtin.len_,hx,run_underlying hu,goInt]
  split
  ·rename_i i hx
   have hx':=he x mem _ hx
   split
   ·rename_i r hrow
    have hh:=hr i r (by simp[ax,ho,hc,hx,gy]) hrow
    split
    ·rename_i size n xs hcs
     unfold aX at hh
     rw[hcs]at hh
     split
     ·rename_i el hu
      intro _
      have:=key (β.a i) (β.n i) _ hu ⟨el,rfl⟩ (β.c i) hx'
      rw[hh.1]at this
      exact this
     ·trivial
    ·trivial
   ·trivial
  ·rename_i i off n cap hx
   have hx':=he x mem _ hx
   split
   ·rename_i el hu
    intro _
    exact key _ n _ hu ⟨el,rfl⟩ cap hx'
   ·trivial
  ·rename_i i off n cut hx
   have hx':=he x mem _ hx
   split
   ·rename_i el hu
    intro _
    exact key _ n _ hu ⟨el,rfl⟩ _ hx'
   ·trivial
  ·exact Fw hw he
 ·exact Fw hw he
theorem KW{d:Nat}{lo:Option Operand}{k:Int}(h:Sq e d lo=some k)(hm:∀x,lo=some x→x∈o.op.operands)(he:∀x∈o.op.operands,∀sv,e x=some sv→a.eval x=sv.den β):(lo=none∧k=d)∨∃x kk,lo=some x∧a.eval x=.int kk k:=by
 cases lo with
 |none=>
  simp only[Sq,Option.some.injEq]at h
  exact .inl ⟨rfl,h.symm⟩
 |some x=>
  unfold Sq at h
  split at h
  ·cases ‹some x=none›
  ·rename_i y hy
   cases hy
   split at h
   ·rename_i kk k' hx
    cases h
    exact .inr ⟨x,kk,rfl,he x (hm x rfl) _ hx⟩
   ·cases h
theorem Qs{t:TypeId}{x:Operand}{lo hi:Option Operand}{i:Nat}(ho:o.op=.slice t x lo hi none)(hx:a.eval x=β.sl i)(he:∀x∈o.op.operands,∀sv,e x=some sv→a.eval x=sv.den β)(hr:∀r,row i=some r→aX β W i r):(jV P hn e row t i lo hi).Ok P β W a o:=by
 unfold jV
 split
 ·rename_i r hrow
  have hh:=hr r hrow
  split
  ·rename_i size n xs hcs
   unfold aX at hh
   rw[hcs]at hh
   split
   ·rename_i el sz TL hty
    split
    ·rename_i hb
     have hb:=Nat.eq_of_beq_eq_true hb
     obtain⟨inf,z,hu,hi',_,hs,_,_,_⟩:=BW hty
     split
     ·rename_i kl kh hkl hkh
      split
      ·rename_i l u
       intro hob
       obtain⟨h1,h2,h3,h4⟩:=hob _ rfl
       subst h1;subst h2
       obtain⟨_,_,hv,hnc,_⟩:=hh.2.form
       injection hv with _ _ hcc
       have hl:=KW (o:=o) hkl (fun y hy=>by subst hy;simp[ho,Op.operands]) he
       have hu':=KW (o:=o) hkh (fun y hy=>by subst hy;simp[ho,Op.operands]) he
       have e1:(0:Int)≤(u:Int)∧(u:Int)≤(β.c i:Nat):=by omega
       have e2:(0:Int)≤(l:Int)∧(l:Int)≤(u:Nat):=by omega
       have hbs:∀(H:Option Value) (Lo:Option Value),(H=none∧(u:Int)=n∨∃kk,H=some (.int kk (u:Int)))→(Lo=none∧(l:Int)=0∨∃kk,Lo=some (.int kk (l:Int)))→(Instr.sliceBounds true n (β.c i) Lo H none).run P W=.ok (l,u,β.c i) W:=by
        intro H Lo hH hLo
        rcases hH with⟨rfl,hu0⟩ | ⟨kk,rfl⟩<;>rcases hLo with⟨rfl,hl0⟩ | ⟨kk',rfl⟩
        ·have:n=u:=by omega
         have:l=0:=by omega
         subst this
         simp[Instr.sliceBounds, *]
        ·have:n=u:=by omega
         subst this
         simp[Instr.sliceBounds,Instr.sliceBound,asIntOf,h3]
        ·have:l=0:=by omega
         subst this
         have:u≤β.c i:=by omega
         simp[Instr.sliceBounds,Instr.sliceBound,asIntOf,this]
        ·have:u≤β.c i:=by omega
         simp[Instr.sliceBounds,Instr.sliceBound,asIntOf,this,h3]
       have hH:(hi.map a.eval=none∧(u:Int)=n∨∃kk,hi.map a.eval=some (.int kk (u:Int))):=by
        rcases hu' with⟨rfl,h⟩ | ⟨y,kk,rfl,h⟩
        ·exact .inl ⟨rfl,h⟩
        ·exact .inr ⟨kk,by rw[Option.map_some,h]⟩
       have hL:(lo.map a.eval=none∧(l:Int)=0∨∃kk,lo.map a.eval=some (.int kk (l:Int))):=by
        rcases hl with⟨rfl,h⟩ | ⟨y,kk,rfl,h⟩
        ·exact .inl ⟨rfl,h⟩
        ·exact .inr ⟨kk,by rw[Option.map_some,h]⟩
       have hrun:=hbs _ _ hH hL
       have hn':=hh.1
       subst hn'
       unfold execOp
       simp only[ho,hx,Env.sl,Instr.sliceAt,Sem.run_bind,run_underlying hu,Result.andThen_ok,Instr.slice,hrun,sizeOf,typeInfo,Option.map_none]
       simp[hi',SV.den,hs,hb]
      ·trivial
     ·trivial
    ·trivial
   ·trivial
  ·trivial
 ·trivial
theorem Is{t:TypeId}{x:Operand}{lo hi mx:Option Operand}{w0:aU}(ho:o.op=.slice t x lo hi mx)(hw:ai w0.S w0.w W)(he:∀x∈o.op.operands,∀sv,e x=some sv→a.eval x=sv.den β)(hr:∀i r,i∈ax e o→row i=some r→aX β W i r):(cQ P w0 hn e row o t x lo hi mx).Ok P β W a o:=by
 unfold cQ
 split
 ·rename_i i hx
  split
  ·exact Qs ho (he x (by simp[ho,Op.operands]) _ hx) he (fun r hr'=>hr i r (by simp[ax,ho,hx]) hr')
  ·trivial
 ·exact gC hw he
theorem nV{β:Env}{a:Act}{e:Operand→Option SV}:∀{xs:List Operand} {l:List SV},jH e xs=some l→(∀x∈xs,∀sv,e x=some sv→a.eval x=sv.den β)→xs.map a.eval=l.map (SV.den β)
 | [],l,h,_=>by
  have:l=[]:=by simpa[jH]using h.symm
  subst this
  rfl
 |x::r,l,h,he=>by
  unfold jH at h
  split at h
  ·rename_i sv l' hx hr
   cases h
   rw[List.map_cons,List.map_cons,he x (by simp) _ hx,nV hr fun y hy=>he y (by simp[hy])]
  ·cases h
theorem qH{c:Call}{r:j6}(ho:o.op=.call c)(he:∀x∈o.op.operands,∀sv,e x=some sv→a.eval x=sv.den β):(bM P e c r).Ok P β W a o:=by
 unfold bM
 split
 ·rename_i f hcal
  split
  ·rename_i fn hf
   split
   ·rename_i hb
    rw[Bool.or_eq_false_iff]at hb
    split
    ·rename_i l hl
     have hm:=nV (β:=β) (a:=a) hl (fun x hx sv hsv=>he x (by
      obtain⟨callee,args,ats⟩:=c
      simp only at hcal hx
      subst hcal
      have hx:x∈args:=Array.mem_toList_iff.1 hx
      simp[ho,Op.operands,Call.operands,hx]) sv hsv)
     have hm2:c.args.map a.eval=(l.map (SV.den β)).toArray:=by
      rw[←hm,←Array.toList_map,Array.toArray_toList]
     show _=_
     obtain⟨callee,args,ats⟩:=c
     simp only at hcal hm2
     subst hcal
     unfold execOp
     simp only[ho,resolve,Act.eval,Deferred.ofValue,invoke,callFunc,Sem.run_bind,Sem.run_pure,Result.andThen_ok]
     have hb1:¬fn.name= "runtime.NumGoroutine":=by simpa using hb.1
     have hb2:¬fn.body=none:=by intro h;rw[h]at hb;exact absurd hb.2 (by decide)
     simp[hf,hb1,hb2,hm2]
    ·trivial
   ·trivial
  ·trivial
 ·trivial
theorem dZ{P:Program}{e:Operand→Option SV}{row:Nat→Option Row}{c:Call}{hh:Hint}{r:pM}(h:gw P e row c hh=r):r=.bad∨∃f args x,r=.eZ f args x:=by
 unfold gw at h
 repeat' (split at h)
 all_goals first
  |exact .inl h.symm
  |exact .inr ⟨_,_,_,h.symm⟩
theorem BN{c:Call}{hh:Hint}(ho:o.op=.call c)(he:∀x∈o.op.operands,∀sv,e x=some sv→a.eval x=sv.den β):(gw P e row c hh).Ok P β W a o:=by
 unfold gw
 split
 ·rename_i p cs v
  have h:=qH (P:=P) (W:=W) (r:=.val v) ho he
  split
  ·rename_i f args r' hr
   rw[hr]at h
   repeat' split
   all_goals first|exact h|trivial
  ·trivial
 ·have h:=qH (P:=P) (W:=W) (r:=.val undef) ho he
  split
  ·rename_i f args r' hr
   rw[hr]at h
   exact h
  ·trivial
 ·trivial
theorem KP{c:Call}{r:j6}(ho:o.op=.call c)(he:∀x∈o.op.operands,∀sv,e x=some sv→a.eval x=sv.den β):(dh P e c r).Ok P β W a o:=by
 have h:=qH (P:=P) (W:=W) (r:=r) ho he
 unfold dh
 split
 ·rename_i f args r' hr
  rw[hr]at h
  split
  ·rename_i i
   split
   ·exact h
   ·trivial
  ·trivial
 ·trivial
theorem pF{c:Call}{t:TypeId}{x y:Operand}(h:zp c=some (t,x,y)):c={ callee:=.builtin .append,args:=#[x,y],argTypes:=#[t,t] }:=by
 obtain⟨callee,args,ats⟩:=c
 unfold zp at h
 split at h
 ·rename_i b hb
  split at h
  ·split at h
   ·rename_i x' y' t' u' hx ht
    split at h
    ·rename_i hq
     have hq:=Nat.eq_of_beq_eq_true hq
     simp only at hb hx ht
     injection h with h
     injection h with h1 h2
     injection h2 with h2 h3
     subst h1;subst h2;subst h3;subst hq
     have e1:args=#[x',y']:=by rw[←Array.toList_inj,hx]
     have e2:ats=#[t',t']:=by rw[←Array.toList_inj,ht]
     rw[hb,e1,e2]
    ·cases h
   ·cases h
  ·cases h
 ·cases h
theorem tQ(w:World)(t ty e:TypeId)(i:TypeInfo)(z:Value)(size bytes:Nat)(ht:P.underlying t=some (.slice e))(hi:P.info? e=some i)(hz:i.zero=some z)
  (hsize:i.size=size) (hby:i.bytes=bytes) (hzs:z.cells.size=size) (hsz:0 < size)
  (v:Value) (n:Nat) (xs:List Value) (hown:Own w e size v n xs)
  (sp:Option Addr) (m c:Nat) (news:List Value) (hl:news.length=m*size) (hnews:0 < news.length→∃ad,sp=some ad∧∀(j:Nat) (u:Value),news[j]?=some u→w.cell? (ad.add j)=some u) (h1:∀u∈news,u.oneCell'=true)
  (h63:n+m≤maxLen) (hbytes:(n+m)*bytes≤140737488355328) :
  ∃A' c' w',(Builtin.append_ #[t,t] ty #[v,.slice sp m c]).run P w=.ok (.slice A' (n+m) c') w'∧Own w' e size (.slice A' (n+m) c') (n+m) (xs++news)∧ai v.ownBlock.toList w w'∧
   ((Value.slice A' (n+m) c').ownBlock=v.ownBlock∨∃k,(Value.slice A' (n+m) c').ownBlock=some k∧w.heap.size≤k):=by
 cases sp with
 |some ad=>
  refine mV w t ty e i z size bytes ht hi hz hsize hby hzs hsz v n xs hown ad m c news hl (fun j u hu=>?_) h1 h63 hbytes
  have hpos:0 < news.length:=by have:=(List.getElem?_eq_some_iff.1 hu).1;omega
  obtain⟨ad',ha,hc⟩:=hnews hpos
  cases ha
  exact hc j u hu
 |none=>
  have h0:news=[]:=by
   rcases Nat.eq_zero_or_pos news.length with h|h
   ·exact List.eq_nil_of_length_eq_zero h
   ·obtain⟨ad,ha,_⟩:=hnews h;cases ha
  subst h0
  have hm:m=0:=by
   rcases Nat.eq_zero_or_pos m with h|h
   ·exact h
   ·have:=Nat.mul_pos h hsz
    simp at hl;omega
  subst hm
  obtain⟨A,cap,rfl,hn,_⟩:=hown.form
  rw[List.append_nil,Nat.add_zero]
  refine⟨A,cap,w,?_,hown,ai.refl _ _,.inl rfl⟩
  cases A<;>simp[Builtin.append_,run_underlying ht,sizeOf,typeInfo,hi,Builtin.lenOf,hn,Builtin.firstCells,storeCells]
theorem zN{w0:aU}{size:Nat}{y:SV}{m:Nat}{news:List Value}{ob:Prop}(hw:ai w0.S w0.w W)(h:Eg w0 row size hn y=some (m,news,ob))(hob:ob)(hl:news.length=m*size)(hr:∀j∈gy (some y),∀r,row j=some r→aX β W j r) :
  ∃sp c,y.den β=.slice sp m c∧(0 < news.length→∃ad,sp=some ad∧∀(j:Nat) (u:Value),news[j]?=some u→W.cell? (ad.add j)=some u):=by
 unfold Eg at h
 split at h
 ·rename_i j off m' c
  split at h
  ·rename_i r hrow
   have hh:=hr j (by simp[gy]) r hrow
   split at h
   ·rename_i cs hcs
    injection h with h
    injection h with h1 h2
    injection h2 with h2 h3
    subst h1;subst h2
    unfold aX at hh
    rw[hcs]at hh
    refine⟨_,c,rfl,fun _=>⟨_,rfl,fun k u hu=>?_⟩⟩
    rw[List.getElem?_take]at hu
    split at hu
    ·rw[List.getElem?_drop]at hu
     rw[Addr.add_lit]
     exact au.cell_of hh hu
    ·cases hu
   ·cases h
  ·cases h
 ·rename_i j
  split at h
  ·rename_i r hrow
   have hh:=hr j (by simp[gy]) r hrow
   split at h
   ·rename_i sz n xs hcs
    injection h with h
    injection h with h1 h2
    injection h2 with h2 h3
    subst h1;subst h2
    unfold aX at hh
    rw[hcs]at hh
    refine⟨β.a j,β.c j,by rw[←hh.1];rfl,fun hpos=>?_⟩
    obtain⟨g,o',ha,hc⟩:=yr hh.2 (by rintro rfl;simp at hpos)
    refine⟨_,ha,fun k u hu=>?_⟩
    rw[Addr.add_lit]
    exact hc k u hu
   ·cases h
  ·cases h
 ·rename_i j off m' cut
  split at h
  ·rename_i r hrow
   have hh:=hr j (by simp[gy]) r hrow
   split at h
   ·rename_i sz n xs hcs
    injection h with h
    injection h with h1 h2
    injection h2 with h2 h3
    subst h1;subst h2;subst h3
    unfold aX at hh
    rw[hcs]at hh
    refine⟨_,_,rfl,fun hpos=>?_⟩
    obtain⟨g,o',ha,hc⟩:=yr hh.2 (by rintro rfl;simp at hpos)
    obtain⟨_,_,hv,hnc,_⟩:=hh.2.form
    injection hv with _ _ hcc
    have hxl:=hh.2.len
    have hlt:off < xs.length:=by
     rw[List.length_take,List.length_drop]at hpos;omega
    have hcut:cut < n:=by
     rcases Nat.lt_or_ge cut n with h|h
     ·exact h
     ·have:=Nat.mul_le_mul_right sz h
      rw[hxl,hob.1]at hlt;omega
    rw[if_neg (by omega),ha]
    refine⟨_,rfl,fun k u hu=>?_⟩
    rw[List.getElem?_take]at hu
    split at hu
    ·rw[List.getElem?_drop]at hu
     have:=hc _ u hu
     simp only[Addr.add_lit]
     rw[Nat.add_assoc]
     exact this
    ·cases hu
   ·cases h
  ·cases h
 ·rename_i v
  split at h
  ·rename_i m' news'
   injection h with h
   injection h with h1 h2
   injection h2 with h2 h3
   subst h1;subst h2;subst h3
   obtain⟨A,c,hv,hc⟩:=hob W hw
   exact⟨A,c,hv,hc⟩
  ·cases h
 ·cases h
theorem QK{c:Call}{w0:aU}{t:TypeId}{x y:Operand}{sx sy:SV}(ho:o.op=.call c)(hc:c={ callee:=.builtin .append,args:=#[x,y],argTypes:=#[t,t] })(hw:ai w0.S w0.w W)(hx:a.eval x=sx.den β)(hy:a.eval y=sy.den β)
  (hrx:∀i,sx=.own i→∀r,row i=some r→aX β W i r) (hry:∀j∈gy (some sy),∀r,row j=some r→aX β W j r):(fT P w0 row hn t sx sy).Ok P β W a o:=by
 have go:∀(kill:Option Nat) (el size n:Nat) (xs:List Value),Own W el size (sx.den β) n xs→(∀k,(sx.den β).ownBlock=some k→∃i,kill=some i∧(β.a i).map (·.block)=some k)→(kE P w0 row hn t kill el size n xs sy).Ok P β W a o:=by
  intro kill el size n xs hown hk
  unfold kE
  split
  ·rename_i e' sz bytes hty
   split
   ·rename_i hb
    rw[Bool.and_eq_true]at hb
    have hb1:=Nat.eq_of_beq_eq_true hb.1
    have hb2:=Nat.eq_of_beq_eq_true hb.2
    subst hb1;subst hb2
    obtain⟨inf,z,hu,hi,hz,hs,hby,hzs,hpos⟩:=BW hty
    split
    ·rename_i m news ob hsrc
     intro hob
     obtain⟨h0,h1,h2,h3,h4⟩:=hob _ rfl
     obtain⟨sp,cp,hsl,hcells⟩:=zN hw hsrc h0 h1 hry
     obtain⟨A',c',w',hrun,hown',hch,hbl⟩:=tQ (P:=P) W t o.type e' inf z sz bytes hu hi hz hs hby hzs hpos (sx.den β) n xs hown sp m cp news h1 hcells h2 h3 h4
     have hblk:∀k,A'.map (·.block)=some k→(Value.slice A' (n+m) c').ownBlock=some k:=by
      intro k hk
      cases A' with
      |none=>cases hk
      |some ad=>simpa[Value.ownBlock]using hk
     refine⟨A',c',w',(sx.den β).ownBlock.toList,?_,hown',hch,fun k hk'=>hk k (by simpa using hk'),fun k hk'=>?_⟩
     ·subst hc
      unfold execOp
      simp only[ho,resolve,invoke,builtin,Sem.run_bind,Sem.run_pure,Result.andThen_ok,List.map_toArray,List.map_cons,List.map_nil,hx,hy,hsl,hrun]
     ·have hk2:=hblk k hk'
      rcases hbl with hbl|⟨k',hk3,hlt⟩
      ·left;rw[←hbl,hk2];simp
      ·right;rw[hk3]at hk2;cases hk2;exact hlt
    ·trivial
   ·trivial
  ·trivial
 unfold fT
 split
 ·rename_i i
  split
  ·rename_i r hrow
   have hh:=hrx i rfl r hrow
   split
   ·rename_i size n xs hcs
    unfold aX at hh
    rw[hcs]at hh
    refine go (some i) r.ty size n xs ?_ fun k hk=>⟨i,rfl,?_⟩
    ·show Own W r.ty size (.slice (β.a i) (β.n i) (β.c i)) n xs
     rw[hh.1];exact hh.2
    ·rw[←hk,←oh (n:=β.n i)];rfl
   ·trivial
  ·trivial
 ·split
  ·rename_i e' sz b hty
   exact go none e' sz 0 [] (Own.nil W _ _) (by simp[SV.den,Value.ownBlock])
  ·trivial
 ·trivial
theorem vQ:∀(l:List UInt8) (r:ByteArray),(l.map fun c=>(c.toNat:Int)).foldl (fun r n=>r.push (UInt8.ofNat n.toNat)) r=⟨(r.data.toList++l).toArray⟩
 | [],r=>by simp
 |c::l,r=>by
  rw[List.map_cons,List.foldl_cons,vQ l]
  congr 1
  simp[ByteArray.push]
theorem FR{P:Program}{W:World}{s d:TypeId}(hb:yM P s d=true)(b:ByteArray)(sp:Option Addr)(c m:Nat)(news:List Value)(h1:b.size=m)(h2:news=b.data.toList.map fun c=>.int .u8 (c.toNat:Int))
  (hc:0 < news.length→∃ad,sp=some ad∧∀(j:Nat) (u:Value),news[j]?=some u→W.cell? (ad.add j)=some u):(convert s d (.slice sp m c)).run P W=.ok (.string b) W:=by
 unfold yM at hb
 split at hb
 ·rename_i el hs
  split at hb
  ·rename_i hd
   split at hb
   ·rename_i he
    rw[run_convert_bytes_string W s d el sp m c hs he hd]
    have hm:news.length=m:=by rw[h2,List.length_map,←h1];rfl
    have e:news=(b.data.toList.map fun c=>(c.toNat:Int)).map (Value.int .u8):=by rw[h2,List.map_map];rfl
    cases sp with
    |none=>
     have h0:news.length=0:=by
      rcases Nat.eq_zero_or_pos news.length with h|h
      ·exact h
      ·obtain⟨_,h,_⟩:=hc h;cases h
     have hz:b.data.toList=[]:=by
      have:b.data.toList.length=0:=by rw[h2,List.length_map]at h0;exact h0
      exact List.eq_nil_of_length_eq_zero this
     have hb0:b=ByteArray.empty:=by
      cases b with
      |mk a=>
       have:a=#[]:=Array.toList_inj.1 hz
       rw[this];rfl
     rw[hb0];rfl
    |some a=>
     have hl:(loadCells a m).run P W=.ok ((b.data.toList.map fun c=>(c.toNat:Int)).map (Value.int .u8)).toArray W:=by
      rw[←hm,←e]
      refine run_loadCells_list (P:=P) W a news fun j v hj=>?_
      have hp:0 < news.length:=by
       have:=(List.getElem?_eq_some_iff.1 hj).1
       omega
      obtain⟨ad,ha,hh⟩:=hc hp
      injection ha with ha
      rw[ha];exact hh j v hj
     rw[run_bytesToString W a m c _ hl,vQ]
     rfl
   ·cases hb
  ·cases hb
 ·cases hb
theorem Jf{w0:aU}{H:List (Nat×Hint)}(hw:ai w0.S w0.w W)(he:∀x∈o.op.operands,∀sv,e x=some sv→a.eval x=sv.den β)(hr:∀i r,i∈ax e o→row i=some r→aX β W i r):(fI P w0 H hn e row o).Ok P β W a o:=by
 have move:∀x,(o.op=.move x∨o.op=.assign x)→(dH P w0 hn e o x).Ok P β W a o:=by
  intro x ho
  unfold dH
  split
  ·rename_i sv hsv
   have hx:=he x (by rcases ho with ho|ho<;>simp[ho,Op.operands]) _ hsv
   split
   ·intro _
    unfold execOp
    rcases ho with ho|ho<;>simp only[ho,hx]<;>rfl
   ·split
    ·intro _
     refine⟨none,0,W,[],?_,Own.nil W _ _,ai.refl _ _,by simp,by simp⟩
     unfold execOp
     rcases ho with ho|ho<;>simp only[ho,hx]<;>rfl
    ·intro _
     unfold execOp
     rcases ho with ho|ho<;>simp only[ho,hx]<;>rfl
   ·exact gC hw he
  ·trivial
 unfold fI
 split
 ·rename_i x ho;exact move x (.inl ho)
 ·rename_i x ho;exact move x (.inr ho)
 ·rename_i x ho
  split
  ·rename_i i off hx
   intro _
   have hx:=he x (by simp[ho,Op.operands]) _ hx
   unfold execOp
   simp only[ho,hx]
   rfl
  ·exact gC hw he
 ·rename_i t ho
  split
  ·rename_i inf hi
   split
   ·rename_i z hz
    show _=_
    unfold execOp
    simp[ho,Instr.alloc,zeroValue,typeInfo,hi,hz,newVar,newRow,Cells.den,oO]
   ·trivial
  ·trivial
 ·rename_i t x ho
  split
  ·rename_i v hx
   have hx:=he x (by simp[ho,Op.operands]) _ hx
   show _=_
   unfold execOp
   simp[ho,hx,Instr.box,newVar,newRow,Cells.den,SV.den,oO]
  ·rename_i sv hnv hx
   split
   ·rename_i hone
    have hx:=he x (by simp[ho,Op.operands]) _ hx
    obtain⟨hc,_⟩:=om hone β
    show _=_
    unfold execOp
    simp[ho,hx,Instr.box,newVar,newRow,Cells.den,hc,oO]
   ·trivial
  ·trivial
 ·rename_i t x ho
  split
  ·rename_i i off hx
   split
   ·rename_i r hrow
    split
    ·exact Gy ho (he x (by simp[ho,Op.operands]) _ hx) (hr i r (by simp[ax,ho,hx,gy]) hrow)
    ·exact ER ho (he x (by simp[ho,Op.operands]) _ hx) (hr i r (by simp[ax,ho,hx,gy]) hrow)
   ·trivial
  ·rename_i i off hx
   split
   ·rename_i r hrow
    split
    ·exact Dg ho (he x (by simp[ho,Op.operands]) _ hx) (hr i r (by simp[ax,ho,hx,gy]) hrow)
    ·trivial
   ·trivial
  ·split
   ·exact gC hw he
   ·trivial
 ·rename_i t x y ho
  split
  ·rename_i i off hx
   split
   ·rename_i sv hy
    split
    ·rename_i r hrow
     split
     ·exact Cw ho (he x (by simp[ho,Op.operands]) _ hx) (he y (by simp[ho,Op.operands]) _ hy) (hr i r (by simp[ax,ho,hx,gy]) hrow)
     ·exact Io ho (he x (by simp[ho,Op.operands]) _ hx) (he y (by simp[ho,Op.operands]) _ hy) (hr i r (by simp[ax,ho,hx,gy]) hrow)
    ·trivial
   ·trivial
  ·rename_i i off hx
   split
   ·rename_i sv hy
    split
    ·rename_i r hrow
     exact zL ho (he x (by simp[ho,Op.operands]) _ hx) (he y (by simp[ho,Op.operands]) _ hy) (hr i r (by simp[ax,ho,hx,gy]) hrow)
    ·trivial
   ·trivial
  ·trivial
 ·rename_i x k ho
  split
  ·rename_i l i r hx
   have hx:=he x (by simp[ho,Op.operands]) _ hx
   have key:∀v,(l++(β.sl i::r))[k]?=some v→(execOp a.eval o).run P W=.ok (.value v) W:=by
    intro v hv
    unfold execOp
    have:(l++(β.sl i::r)).toArray[k]?=some v:=by simpa using hv
    simp only[ho,hx,SV.den,Instr.extract,this,Sem.run_bind,Sem.run_pure,Result.andThen_ok]
   split
   ·rename_i hk
    have hk:=Nat.eq_of_beq_eq_true hk
    intro _
    refine key _ ?_
    rw[hk,List.getElem?_append_right (Nat.le_refl _),Nat.sub_self]
    rfl
   ·split
    ·rename_i v hv
     intro _
     refine key _ ?_
     rw[List.getElem?_append_left (List.getElem?_eq_some_iff.1 hv).1]
     exact hv
    ·split
     ·rename_i hlt
      have hlt:l.length < k:=Nat.le_of_ble_eq_true hlt
      split
      ·rename_i v hv
       intro _
       refine key _ ?_
       rw[List.getElem?_append_right (by omega),show k - l.length=(k - l.length - 1)+1 by omega,List.getElem?_cons_succ]
       exact hv
      ·trivial
     ·trivial
  ·exact gC hw he
 ·rename_i t len parts ho
  split
  ·exact GN (BQ ho fun i x hm sv hx=>he x (by
    simp only[ho,Op.operands]
    simpa using ⟨i,by simpa using hm⟩) sv hx)
  ·split
   ·rename_i x hparts
    split
    ·rename_i v hx
     have hx:=he x (by
      have:(0,x)∈parts.toList:=by rw[hparts];simp
      simp only[ho,Op.operands]
      simpa using ⟨0,by simpa using this⟩) _ hx
     split
     ·rename_i el hu
      split
      ·rename_i inf hi
       split
       ·rename_i z hz
        split
        ·rename_i hh
         simp only[Bool.and_eq_true]at hh
         obtain⟨h1,h2,h3,h4⟩:=hh
         have h1:=Nat.eq_of_beq_eq_true h1
         have h2:=Nat.eq_of_beq_eq_true h2
         have h3:=Nat.le_of_ble_eq_true h3
         have h4:0 < inf.size:=Nat.le_of_ble_eq_true h4
         show _=_
         have hp:parts=#[(0,x)]:=by rw[←Array.toList_inj,hparts]
         have hrun:=run_buildSlice (P:=P) W t el 1 #[(0,v)] v.cells inf z hu hi hz (by omega) (by omega) (Kg inf.size v _ (by simp) (by simpa using h1))
         unfold execOp
         subst hp
         simp only[ho,List.map_toArray,List.map_cons,List.map_nil,hx,SV.den,Sem.run_bind,hrun,Result.andThen_ok,Sem.run_pure,oO,Cells.den]
        ·trivial
       ·trivial
      ·trivial
     ·trivial
    ·trivial
   ·exact BQ ho fun i x hm sv hx=>he x (by
     simp only[ho,Op.operands]
     simpa using ⟨i,by simpa using hm⟩) sv hx
 ·rename_i s x f ho
  split
  ·rename_i i off hx
   have hx:=he x (by simp[ho,Op.operands]) _ hx
   split
   ·rename_i fields hu
    split
    ·rename_i fd hf
     split
     ·rename_i k hk
      intro _
      cases hq:P.info? fd.type with
      |none=>rw[hq]at hk;cases hk
      |some inf=>
       rw[hq]at hk
       have hk:inf.size=k+1:=by simpa using hk
       unfold execOp
       simp[ho,hx,SV.den,Instr.fieldAt,run_underlying hu,hf,Instr.sureAddr,fieldPlace,sizeOf,typeInfo,hq,hk,Addr.add_lit]
     ·trivial
    ·trivial
   ·trivial
  ·rename_i i off hx
   have hx':=he x (by simp[ho,Op.operands]) _ hx
   split
   ·rename_i r hrow
    have hh:=hr i r (by simp[ax,ho,hx]) hrow
    split
    ·rename_i size n xs hcs
     unfold aX at hh
     rw[hcs]at hh
     split
     ·rename_i fields hu
      split
      ·rename_i fd hf
       split
       ·rename_i k hk
        intro hob
        obtain⟨g,o',c',hv,_⟩:=hh.2.some_ (hob _ rfl)
        injection hv with ha _ _
        cases hq:P.info? fd.type with
        |none=>rw[hq]at hk;cases hk
        |some inf=>
         rw[hq]at hk
         have hk:inf.size=k+1:=by simpa using hk
         unfold execOp
         simp[ho,hx',SV.den,ha,Instr.fieldAt,run_underlying hu,hf,Instr.sureAddr,fieldPlace,sizeOf,typeInfo,hq,hk,Addr.add_lit,Nat.add_assoc]
       ·trivial
      ·trivial
     ·trivial
    ·trivial
   ·trivial
  ·exact gC hw he
 ·rename_i t x ix ho
  split
  ·rename_i i off hx
   have hx:=he x (by simp[ho,Op.operands]) _ hx
   split
   ·rename_i len elem hu
    split
    ·rename_i kk k hk
     have hk:=he ix (by simp[ho,Op.operands]) _ hk
     split
     ·rename_i inf hi
      have key:0≤k∧k < len→(execOp a.eval o).run P W=.ok (.value (.pointer (some ⟨β i,off+k.toNat*inf.size,none⟩))) W:=by
       intro hb
       unfold execOp
       simp[ho,hx,hk,SV.den,Instr.indexAt,run_underlying hu,asIntOf,Instr.sureAddr,hb,sizeOf,typeInfo,hi,Addr.add_lit]
      split
      ·intro hob
       exact key (hob _ rfl)
      ·split
       ·rename_i hd
        intro _
        exact key (of_decide_eq_true hd)
       ·trivial
     ·trivial
    ·trivial
   ·trivial
  ·rename_i i hx
   have hx':=he x (by simp[ho,Op.operands]) _ hx
   split
   ·rename_i r hrow
    have hh:=hr i r (by simp[ax,ho,hx]) hrow
    split
    ·rename_i size n xs hcs
     unfold aX at hh
     rw[hcs]at hh
     split
     ·rename_i kk k hk
      have hk:=he ix (by simp[ho,Op.operands]) _ hk
      split
      ·rename_i elem hu
       split
       ·rename_i inf hi
        split
        ·intro hob
         have hb:=hob _ rfl
         have hne:0 < n:=by omega
         obtain⟨g,o',c',hv,_⟩:=hh.2.some_ hne
         injection hv with ha _ _
         have hbn:0≤k∧k < (β.n i:Int):=by rw[hh.1];exact hb
         unfold execOp
         simp[ho,hx',hk,SV.den,Env.sl,Instr.indexAt,run_underlying hu,asIntOf,ha,hbn,sizeOf,typeInfo,hi]
        ·trivial
       ·trivial
      ·trivial
     ·trivial
    ·trivial
   ·trivial
  ·exact gC hw he
 ·rename_i s d x ho
  split
  ·rename_i sv hx
   have hx':=he x (by simp[ho,Op.operands]) _ hx
   split
   ·rename_i b
    split
    ·rename_i m news ob hsrc
     split
     ·rename_i hb
      intro hob
      obtain⟨h0,h1,h2⟩:=hob _ rfl
      have hl:news.length=m*1:=by rw[h2,List.length_map,Nat.mul_one,←h1];rfl
      obtain⟨sp,c,hd,hc⟩:=zN hw hsrc h0 hl (fun j hj r hr'=>hr j r (by simp[ax,ho,hx,hj]) hr')
      unfold execOp
      simp only[ho,hx',hd,Sem.run_bind,FR hb b sp c m news h1 h2 hc,Result.andThen_ok,Sem.run_pure]
      rfl
     ·trivial
    ·exact gC hw he
   ·exact gC hw he
  ·exact gC hw he
 ·rename_i t x lo hi mx ho
  exact Is ho hw he hr
 ·rename_i c ho
  split
  ·exact qH ho he
  ·exact KP ho he
  ·exact BN ho he
  ·exact BN ho he
  ·split
   ·rename_i t x y hap
    have hc:=pF hap
    split
    ·rename_i sx sy hx hy
     exact QK ho hc hw (he x (by simp[ho,Op.operands,Call.operands,hc]) _ hx) (he y (by simp[ho,Op.operands,Call.operands,hc]) _ hy)
      (fun i hi r hr'=>hr i r (by subst hi;simp[ax,ho,hc,hx,gy]) hr') (fun j hj r hr'=>hr j r (by simp[ax,ho,hc,hy,hj]) hr')
    ·trivial
   ·exact Qc ho hw he (fun i r hi hr'=>hr i r hi hr')
 ·exact gC hw he
end
end Sx
open Go Go.RowKit Go.Lib Go.Sort
namespace Sx
section
variable{P:Program}{o:Oper}{e:Operand→Option SV}{row:Nat→Option Row}{hn:Option Hint}{Q:Nat→Prop}
def pM.On(Q:Nat→Prop):pM→Prop
 |.val sv _=>sv.on Q
 |.alloc _ cs _=>cs.on Q
 |.store i r _=>Q i∧r.cs.on Q
 |.grow kill _ _ _ _ _=>∀i,kill=some i→Q i
 |.ef i r _=>Q i∧r.cs.on Q
 |.fQ _ i _=>Q i
 |.eZ _ _ (.gk _ i r _)=>Q i∧r.cs.on Q
 |_=>True
theorem GM{P:Program}{r0:pM}{Q:Nat→Prop}:(rI P r0).On Q:=by
 rcases eE (P:=P) (r0:=r0) rfl with h|⟨_,_,_,_,h⟩
 ·rw[h];exact True.intro
 ·rw[h];intro i hi;cases hi
theorem KV{P:Program}{e:Operand→Option SV}{t:TypeId}{len:Nat}{parts:List (Nat×Operand)}{Q:Nat→Prop}:(j0 P e t len parts).On Q:=by
 rcases fR (P:=P) (e:=e) (t:=t) (len:=len) (parts:=parts) rfl with h|⟨_,_,_,h⟩<;>rw[h]<;>exact True.intro
theorem gB{w0:aU}:(bN P w0 hn e o).On Q:=by
 unfold bN
 split
 ·exact True.intro
 ·split
  ·split<;>exact True.intro
  ·split<;>exact True.intro
  ·split<;>exact True.intro
  ·split<;>exact True.intro
theorem Of{w0:aU}:(dy P w0 hn e o).On Q:=by
 unfold dy
 split
 ·split
  ·exact True.intro
  ·split<;>exact True.intro
 ·exact gB
theorem Gx{t:TypeId}{r:Row}{off:Nat}{v:Value}:(b7 P t r off v).On Q:=by
 unfold b7
 split
 ·split
  ·split<;>trivial
  ·trivial
 ·trivial
theorem Cv{t:TypeId}{r:Row}{i off:Nat}{sv:SV}{cs':List Value}(hi:Q i):(bO P t i r off sv cs').On Q:=by
 unfold bO
 split
 ·trivial
 ·split
  ·split
   ·split
    ·exact⟨hi,trivial⟩
    ·exact⟨hi,trivial⟩
    ·trivial
   ·trivial
  ·trivial
theorem Nr{t:TypeId}{r:Row}{off:Nat}(h:r.cs.on Q):(cJ P t r off).On Q:=by
 unfold cJ
 split
 ·exact True.intro
 ·split
  ·split
   ·split
    ·split
     ·exact True.intro
     ·split<;>exact True.intro
    ·split
     ·exact True.intro
     ·split<;>exact True.intro
    ·rename_i cs hcs
     rw[hcs]at h
     split
     ·split
      ·rename_i sv hsv
       exact zY hsv h
      ·exact True.intro
     ·exact True.intro
    ·rename_i cs hcs
     rw[hcs]at h
     split
     ·split
      ·rename_i sv hsv
       exact zY hsv h
      ·exact True.intro
     ·exact True.intro
    ·exact True.intro
   ·split
    ·split<;>exact True.intro
    ·split<;>exact True.intro
    ·rename_i cs hcs
     rw[hcs]at h
     split
     ·rename_i v hv
      exact h v (List.mem_of_getElem? hv)
     ·exact True.intro
    ·rename_i cs hcs
     rw[hcs]at h
     split
     ·rename_i v hv
      exact h v (List.mem_of_getElem? hv)
     ·exact True.intro
    ·exact True.intro
  ·exact True.intro
theorem Df{t:TypeId}{r:Row}{off:Nat}{v:Value}:(bG P t r off v).On Q:=by
 unfold bG
 split
 ·split
  ·split
   ·split
    ·split<;>exact True.intro
    ·exact True.intro
   ·exact True.intro
  ·exact True.intro
 ·exact True.intro
theorem Im{t:TypeId}{r:Row}{i off:Nat}{sv:SV}(hi:Q i)(hs:sv.on Q)(h:r.cs.on Q):(cP P t i r off sv).On Q:=by
 unfold cP
 split
 ·exact True.intro
 split
 ·exact True.intro
 ·split
  ·split
   ·split
    ·exact⟨hi,FE⟩
    ·split
     ·refine⟨hi,?_⟩
      cases hc:r.cs with
      |ak cs=>exact True.intro
      |own a b c=>exact True.intro
      |dead=>exact True.intro
      |dF g cs=>exact True.intro
      |dK cs=>
       rw[hc]at h
       intro s hs
       simp only[List.mem_append,List.mem_map]at hs
       rcases hs with hs|⟨v,_,rfl⟩ | hs
       ·exact h s (List.mem_of_mem_take hs)
       ·exact True.intro
       ·exact h s (List.mem_of_mem_drop hs)
      |jR g cs=>
       rw[hc]at h
       intro s hs
       simp only[List.mem_append,List.mem_map]at hs
       rcases hs with hs|⟨v,_,rfl⟩ | hs
       ·exact h s (List.mem_of_mem_take hs)
       ·exact True.intro
       ·exact h s (List.mem_of_mem_drop hs)
     ·exact True.intro
   ·exact True.intro
  ·split
   ·split
    ·refine⟨hi,?_⟩
     cases hc:r.cs with
     |own a b c=>exact True.intro
     |dead=>exact True.intro
     |dF g cs=>
      intro s hm
      rcases List.mem_or_eq_of_mem_set hm with hm|rfl
      ·obtain⟨v,_,rfl⟩:=List.mem_map.1 hm
       exact True.intro
      ·exact hs
     |ak cs=>
      intro s hm
      rcases List.mem_or_eq_of_mem_set hm with hm|rfl
      ·obtain⟨v,_,rfl⟩:=List.mem_map.1 hm
       exact True.intro
      ·exact hs
     |dK cs=>
      rw[hc]at h
      intro s hm
      rcases List.mem_or_eq_of_mem_set hm with hm|rfl
      ·exact h s hm
      ·exact hs
     |jR g cs=>
      rw[hc]at h
      intro s hm
      rcases List.mem_or_eq_of_mem_set hm with hm|rfl
      ·exact h s hm
      ·exact hs
    ·exact True.intro
   ·split
    ·rename_i l _ _
     split
     ·have hl:∀x∈l.map Atom.sv,x.on Q:=fun x hx=>by
       obtain⟨y,hy,rfl⟩:=List.mem_map.1 hx
       exact Atom.Ec (hs y hy)
      refine⟨hi,?_⟩
      cases hc:r.cs with
      |own a b c=>exact hl
      |dead=>exact hl
      |dF g cs=>exact hl
      |ak cs=>exact hl
      |dK cs=>exact hl
      |jR g cs=>exact hl
     ·exact True.intro
    ·exact True.intro
theorem lP{e:Operand→Option SV}:∀{xs:List Operand} {l:List SV},jH e xs=some l→∀sv∈l,∃x∈xs,e x=some sv
 | [],l,h,sv,hm=>by
  have:l=[]:=by simpa[jH]using h.symm
  subst this
  cases hm
 |x::r,l,h,sv,hm=>by
  unfold jH at h
  split at h
  ·rename_i sv' l' hx hr
   cases h
   rcases List.mem_cons.1 hm with rfl|hm
   ·exact⟨x,by simp,hx⟩
   ·obtain⟨y,hy,hey⟩:=lP hr sv hm
    exact⟨y,by simp[hy],hey⟩
  ·cases h
theorem jt{c:Call}{r r':j6}{f:FuncId}{args:List SV}(h:bM P e c r=.dS f args r'):∀sv∈args,∃x∈c.args.toList,e x=some sv:=by
 unfold bM at h
 split at h
 ·split at h
  ·split at h
   ·split at h
    ·rename_i lv hlv
     injection h with h1 h2 h3
     intro sv hsv
     rw[←h2]at hsv
     exact lP hlv sv hsv
    ·cases h
   ·cases h
  ·cases h
 ·cases h
theorem BM{c:Call}{hh:Hint}(ho:o.op=.call c)(he:∀x∈o.op.operands,∀sv,e x=some sv→sv.on Q):(gw P e row c hh).On Q:=by
 unfold gw
 split
 ·rename_i p cs v
  split
  ·rename_i f args r' hr
   split
   ·rename_i i hp
    split
    ·split
     ·split
      ·refine⟨?_,FE⟩
       obtain⟨x,hx,hex⟩:=jt hr (.ptr i 0) (List.mem_of_getElem? hp)
       exact he x (by
        obtain⟨callee,args,ats⟩:=c
        have hx':x∈args:=by simpa using hx
        simp only[ho,Op.operands,Call.operands]
        cases callee<;>simp[hx']) _ hex
      ·exact True.intro
     ·exact True.intro
    ·exact True.intro
   ·exact True.intro
  ·exact True.intro
 ·split<;>exact True.intro
 ·exact True.intro
theorem OT{w0:aU}{H:List (Nat×Hint)}(he:∀x∈o.op.operands,∀sv,e x=some sv→sv.on Q)(hr:∀i r,i∈ax e o→row i=some r→r.cs.on Q):(fI P w0 H hn e row o).On Q:=by
 have move:∀x,(o.op=.move x∨o.op=.assign x)→(dH P w0 hn e o x).On Q:=by
  intro x ho
  unfold dH
  split
  ·rename_i sv hsv
   split
   ·exact he x (by rcases ho with ho|ho<;>simp[ho,Op.operands]) _ hsv
   ·split
    ·intro i hi;cases hi
    ·exact he x (by rcases ho with ho|ho<;>simp[ho,Op.operands]) _ hsv
   ·exact gB
  ·exact True.intro
 unfold fI
 split
 ·rename_i x ho;exact move x (.inl ho)
 ·rename_i x ho;exact move x (.inr ho)
 ·rename_i x ho
  split
  ·rename_i i off hx
   exact he x (by simp[ho,Op.operands]) _ hx
  ·exact gB
 ·split
  ·split<;>exact True.intro
  ·exact True.intro
 ·rename_i t x ho
  split
  ·exact True.intro
  ·rename_i sv hnv hx
   split
   ·intro s hs
    rw[List.mem_singleton]at hs
    subst hs
    exact he x (by simp[ho,Op.operands]) _ hx
   ·exact True.intro
  ·exact True.intro
 ·rename_i t x ho
  split
  ·rename_i i off hx
   split
   ·rename_i r hrow
    split
    ·exact Gx
    ·exact Nr (hr i r (by simp[ax,ho,hx,gy]) hrow)
   ·exact True.intro
  ·split
   ·split
    ·exact Df
    ·exact True.intro
   ·exact True.intro
  ·split
   ·exact gB
   ·exact True.intro
 ·rename_i t x y ho
  split
  ·rename_i i off hx
   split
   ·rename_i sv hy
    split
    ·rename_i r hrow
     split
     ·exact Cv (he x (by simp[ho,Op.operands]) _ hx)
     ·exact Im (he x (by simp[ho,Op.operands]) _ hx) (he y (by simp[ho,Op.operands]) _ hy) (hr i r (by simp[ax,ho,hx,gy]) hrow)
    ·exact True.intro
   ·exact True.intro
  ·rename_i i off hx
   split
   ·split
    ·unfold bB
     repeat' split
     all_goals first|exact True.intro|exact⟨he x (by simp[ho,Op.operands]) _ hx,True.intro⟩
    ·exact True.intro
   ·exact True.intro
  ·exact True.intro
 ·rename_i x k ho
  split
  ·rename_i l i r hx
   split
   ·exact he x (by simp[ho,Op.operands]) _ hx
   ·split
    ·exact True.intro
    ·split
     ·split<;>exact True.intro
     ·exact True.intro
  ·exact gB
 ·split
  ·exact GM
  ·split
   ·split
    ·split
     ·split
      ·split
       ·split<;>exact True.intro
       ·exact True.intro
      ·exact True.intro
     ·exact True.intro
    ·exact True.intro
   ·exact KV
 ·rename_i s x f ho
  split
  ·rename_i i off hx
   split
   ·split
    ·split
     ·exact he x (by simp[ho,Op.operands]) _ hx
     ·exact True.intro
    ·exact True.intro
   ·exact True.intro
  ·rename_i i off hx
   repeat' split
   all_goals first|exact True.intro|exact he x (by simp[ho,Op.operands]) _ hx
  ·exact gB
 ·rename_i t x ix ho
  split
  ·rename_i i off hx
   split
   ·split
    ·split
     ·split
      ·exact he x (by simp[ho,Op.operands]) _ hx
      ·split
       ·exact he x (by simp[ho,Op.operands]) _ hx
       ·exact True.intro
     ·exact True.intro
    ·exact True.intro
   ·exact True.intro
  ·rename_i i hx
   split
   ·split
    ·split
     ·split
      ·split
       ·split
        ·exact he x (by simp[ho,Op.operands]) _ hx
        ·exact True.intro
       ·exact True.intro
      ·exact True.intro
     ·exact True.intro
    ·exact True.intro
   ·exact True.intro
  ·exact gB
 ·split
  ·split
   ·split
    ·split<;>exact True.intro
    ·exact gB
   ·exact gB
  ·exact gB
 ·rename_i t x lo hi mx ho
  unfold cQ
  split
  ·rename_i i hx
   split
   ·unfold jV
    repeat' split
    all_goals first|exact True.intro|exact he x (by simp[ho,Op.operands]) _ hx
   ·exact True.intro
  ·exact gB
 ·rename_i c ho
  split
  ·unfold bM
   repeat' split
   all_goals exact True.intro
  ·rename_i r
   unfold dh
   repeat' split
   all_goals first|exact True.intro|skip
   rename_i rr args j hr b hsl
   have ht:=jt hr _ (List.mem_singleton.2 rfl)
   obtain⟨x,hx,hex⟩:=ht
   exact he x (by
    obtain⟨callee,args,ats⟩:=c
    have hx':x∈args:=by simpa using hx
    simp only[ho,Op.operands,Call.operands]
    cases callee<;>simp[hx']) _ hex
  ·exact BM ho he
  ·exact BM ho he
  ·split
   ·rename_i t x y hap
    have hc:=pF hap
    split
    ·rename_i sx sy hx hy
     have go:∀{kill:Option Nat} {el size n:Nat} {xs:List Value},(∀i,kill=some i→Q i)→(kE P w0 row hn t kill el size n xs sy).On Q:=by
      intro kill el size n xs hk
      unfold kE
      repeat' split
      all_goals first|exact True.intro|exact hk
     unfold fT
     split
     ·split
      ·split
       ·refine go fun i hi=>?_
        cases hi
        exact he x (by simp[ho,Op.operands,Call.operands,hc]) _ hx
       ·exact True.intro
      ·exact True.intro
     ·split
      ·exact go fun i hi=>by cases hi
      ·exact True.intro
     ·exact True.intro
    ·exact True.intro
   ·unfold fi
    repeat' split
    all_goals first|exact True.intro|exact Of
 ·exact gB
theorem mM{w0:aU}{H:List (Nat×Hint)}{i:Nat}{r':Row}{ob:Option Prop}(h:fI P w0 H hn e row o=.store i r' ob):i∈ax e o∧r'.fixed=true∧∃r,row i=some r∧r.fixed=true∧r'.cs.tag=r.cs.tag:=by
 have hp:∀(hn:Option Hint),bN P w0 hn e o≠.store i r' ob:=by
  intro hn h
  unfold bN at h
  repeat' (split at h)
  all_goals (cases h)
 have hc:dy P w0 hn e o≠.store i r' ob:=by
  intro h
  unfold dy at h
  repeat' (split at h)
  all_goals first | (cases h;done)|exact hp _ h
 have hmv:∀x,dH P w0 hn e o x≠.store i r' ob:=by
  intro x h
  unfold dH at h
  repeat' (split at h)
  all_goals first | (cases h;done)|exact hp _ h
 have hco:∀c r,bM P e c r≠.store i r' ob:=by
  intro c r h
  unfold bM at h
  repeat' (split at h)
  all_goals (cases h)
 have hap:∀t x y,fT P w0 row hn t x y≠.store i r' ob:=by
  intro t x y h
  unfold fT kE at h
  repeat' (split at h)
  all_goals (cases h)
 have hck:∀c r,dh P e c r≠.store i r' ob:=by
  intro c r h
  unfold dh at h
  repeat' (split at h)
  all_goals (cases h)
 have hso:∀t' j r off sv,bB P t' j r off sv≠.store i r' ob:=by
  intro t' j r off sv h
  unfold bB at h
  repeat' (split at h)
  all_goals (cases h)
 have hsl:∀t' x lo hi mx,cQ P w0 hn e row o t' x lo hi mx≠.store i r' ob:=by
  intro t' x lo hi mx h
  unfold cQ jV at h
  repeat' (split at h)
  all_goals first | (cases h;done)|exact hp _ h
 have hln:∀c,fi P w0 hn e row o c≠.store i r' ob:=by
  intro c h
  unfold fi at h
  repeat' (split at h)
  all_goals first | (cases h;done)|exact hc h
 have hl:∀t r off,cJ P t r off≠.store i r' ob:=by
  intro t r off h
  unfold cJ at h
  repeat' (split at h)
  all_goals (cases h)
 have hl2:∀t r off v,b7 P t r off v≠.store i r' ob:=by
  intro t r off v h
  unfold b7 at h
  repeat' (split at h)
  all_goals (cases h)
 have hl3:∀t r off v,bG P t r off v≠.store i r' ob:=by
  intro t r off v h
  unfold bG at h
  repeat' (split at h)
  all_goals (cases h)
 unfold fI at h
 split at h
 ·exact absurd h (hmv _)
 ·exact absurd h (hmv _)
 ·repeat' (split at h)
  all_goals first | (cases h;done)|exact absurd h (hp _) | (rcases eE h with h|⟨_,_,_,_,h⟩<;>(cases h;done)) | (rcases fR h with h|⟨_,_,_,h⟩<;>(cases h;done))
 ·repeat' (split at h)
  all_goals (cases h)
 ·repeat' (split at h)
  all_goals (cases h)
 ·repeat' (split at h)
  all_goals first | (cases h;done)|exact absurd h (hl _ _ _)|exact absurd h (hl2 _ _ _ _)|exact absurd h (hl3 _ _ _ _)|exact absurd h (hp _)
 ·rename_i t x y ho
  split at h
  ·rename_i j off hx
   split at h
   ·split at h
    ·rename_i r hrow
     have:j=i∧r'.fixed=true∧r.fixed=true∧r'.cs.tag=r.cs.tag:=by
      split at h
      ·unfold bO at h
       split at h
       ·cases h
       ·split at h
        ·split at h
         ·split at h
          ·rename_i hcs
           injection h with h1 h2
           subst h2
           exact⟨h1,rfl,by unfold Row.fixed;rw[hcs],by rw[hcs];rfl⟩
          ·rename_i hcs
           injection h with h1 h2
           subst h2
           exact⟨h1,rfl,by unfold Row.fixed;rw[hcs],by rw[hcs];rfl⟩
          ·cases h
         ·cases h
        ·cases h
      ·unfold cP at h
       split at h
       ·cases h
       ·rename_i hf
        unfold Row.fixed at hf
        cases hcr:r.cs with
        |own a b c=>rw[hcr]at hf;cases hf
        |dead=>rw[hcr]at hf;cases hf
        |ak cs=>
         simp only[hcr]at h
         repeat' (split at h)
         all_goals first
          | (cases h;done)
          | (injection h with h1 h2;subst h2;exact⟨h1,rfl,by unfold Row.fixed;rw[hcr],by first|rfl | (rw[hcr];rfl)⟩)
        |dK cs=>
         simp only[hcr]at h
         repeat' (split at h)
         all_goals first
          | (cases h;done)
          | (injection h with h1 h2;subst h2;exact⟨h1,rfl,by unfold Row.fixed;rw[hcr],by first|rfl | (rw[hcr];rfl)⟩)
        |dF g cs=>
         simp only[hcr]at h
         repeat' (split at h)
         all_goals first
          | (cases h;done)
          | (injection h with h1 h2;subst h2;exact⟨h1,rfl,by unfold Row.fixed;rw[hcr],by first|rfl | (rw[hcr];rfl)⟩)
        |jR g cs=>
         simp only[hcr]at h
         repeat' (split at h)
         all_goals first
          | (cases h;done)
          | (injection h with h1 h2;subst h2;exact⟨h1,rfl,by unfold Row.fixed;rw[hcr],by first|rfl | (rw[hcr];rfl)⟩)
     obtain⟨rfl,h1,h2,h3⟩:=this
     exact⟨by simp[ax,ho,hx,gy],h1,r,hrow,h2,h3⟩
    ·cases h
   ·cases h
  ·split at h
   ·split at h
    ·exact absurd h (hso _ _ _ _ _)
    ·cases h
   ·cases h
  ·cases h
 ·repeat' (split at h)
  all_goals first | (cases h;done)|exact absurd h (hp _) | (rcases eE h with h|⟨_,_,_,_,h⟩<;>(cases h;done)) | (rcases fR h with h|⟨_,_,_,h⟩<;>(cases h;done))
 ·repeat' (split at h)
  all_goals first | (cases h;done)|exact absurd h (hp _) | (rcases eE h with h|⟨_,_,_,_,h⟩<;>(cases h;done)) | (rcases fR h with h|⟨_,_,_,h⟩<;>(cases h;done))
 ·repeat' (split at h)
  all_goals first | (cases h;done)|exact absurd h (hp _)
 ·repeat' (split at h)
  all_goals first | (cases h;done)|exact absurd h (hp _) | (rcases eE h with h|⟨_,_,_,_,h⟩<;>(cases h;done)) | (rcases fR h with h|⟨_,_,_,h⟩<;>(cases h;done))
 ·repeat' (split at h)
  all_goals first | (cases h;done)|exact absurd h (hp _)
 ·exact absurd h (hsl _ _ _ _ _)
 ·repeat' (split at h)
  all_goals first | (cases h;done)|exact absurd h (hco _ _)|exact absurd h (hck _ _) | (rcases dZ h with h|⟨_,_,_,h⟩<;>(cases h;done))|exact absurd h (hap _ _ _)|exact absurd h (hln _)
 ·exact absurd h (hp _)
theorem sI{w0:aU}{H:List (Nat×Hint)}{t:TypeId}{cs:Cells}{ln:Option Nat}(h:fI P w0 H hn e row o=.alloc t cs ln):(⟨t,cs⟩:Row).fixed=true∧cs.tag=none:=by
 have hp:∀(hn:Option Hint),bN P w0 hn e o≠.alloc t cs ln:=by
  intro hn h
  unfold bN at h
  repeat' (split at h)
  all_goals (cases h)
 have hc:dy P w0 hn e o≠.alloc t cs ln:=by
  intro h
  unfold dy at h
  repeat' (split at h)
  all_goals first | (cases h;done)|exact hp _ h
 have hmv:∀x,dH P w0 hn e o x≠.alloc t cs ln:=by
  intro x h
  unfold dH at h
  repeat' (split at h)
  all_goals first | (cases h;done)|exact hp _ h
 have hco:∀c r,bM P e c r≠.alloc t cs ln:=by
  intro c r h
  unfold bM at h
  repeat' (split at h)
  all_goals (cases h)
 have hap:∀t' x y,fT P w0 row hn t' x y≠.alloc t cs ln:=by
  intro t x y h
  unfold fT kE at h
  repeat' (split at h)
  all_goals (cases h)
 have hck:∀c r,dh P e c r≠.alloc t cs ln:=by
  intro c r h
  unfold dh at h
  repeat' (split at h)
  all_goals (cases h)
 have hso:∀t' j r off sv,bB P t' j r off sv≠.alloc t cs ln:=by
  intro t' j r off sv h
  unfold bB at h
  repeat' (split at h)
  all_goals (cases h)
 have hsl:∀t' x lo hi mx,cQ P w0 hn e row o t' x lo hi mx≠.alloc t cs ln:=by
  intro t' x lo hi mx h
  unfold cQ jV at h
  repeat' (split at h)
  all_goals first | (cases h;done)|exact hp _ h
 have hln:∀c,fi P w0 hn e row o c≠.alloc t cs ln:=by
  intro c h
  unfold fi at h
  repeat' (split at h)
  all_goals first | (cases h;done)|exact hc h
 have hl:∀t' r off,cJ P t' r off≠.alloc t cs ln:=by
  intro t r off h
  unfold cJ at h
  repeat' (split at h)
  all_goals (cases h)
 have hl2:∀t' r off v,b7 P t' r off v≠.alloc t cs ln:=by
  intro t r off v h
  unfold b7 at h
  repeat' (split at h)
  all_goals (cases h)
 have hl3:∀t' r off v,bG P t' r off v≠.alloc t cs ln:=by
  intro t r off v h
  unfold bG at h
  repeat' (split at h)
  all_goals (cases h)
 have hs1:∀t' i r off sv,cP P t' i r off sv≠.alloc t cs ln:=by
  intro t i r off sv h
  unfold cP at h
  repeat' (split at h)
  all_goals (cases h)
 have hs2:∀t' i r off sv c,bO P t' i r off sv c≠.alloc t cs ln:=by
  intro t i r off sv c h
  unfold bO at h
  repeat' (split at h)
  all_goals (cases h)
 unfold fI at h
 split at h
 all_goals repeat' (split at h)
 all_goals first
  | (cases h;done)
  | (injection h with h1 h2;subst h2;exact⟨rfl,rfl⟩)
  |exact absurd h (hp _)
  |exact absurd h (hmv _)
  |exact absurd h (hsl _ _ _ _ _)
  |exact absurd h (hso _ _ _ _ _)
  |exact absurd h (hco _ _)
  |exact absurd h (hck _ _)
  | (rcases dZ h with h|⟨_,_,_,h⟩<;>(cases h;done))
  |exact absurd h (hap _ _ _)
  |exact absurd h (hln _)
  |exact absurd h (hl _ _ _)
  |exact absurd h (hl2 _ _ _ _)
  |exact absurd h (hl3 _ _ _ _)
  |exact absurd h (hs1 _ _ _ _ _)
  |exact absurd h (hs2 _ _ _ _ _ _)
  | (rcases eE h with h|⟨_,_,_,_,h⟩<;>(cases h;done))
  | (rcases fR h with h|⟨_,_,_,h⟩<;>first | (cases h;done) | (injection h with h1 h2;subst h2;exact⟨rfl,rfl⟩))
theorem pv{w0:aU}{H:List (Nat×Hint)}{i t size n:Nat}{xs:List Value}{ob:Option Prop}(h:fI P w0 H hn e row o=.grow (some i) t size n xs ob):i∈ax e o∧∃r,row i=some r∧∃s m ys,r.cs=.own s m ys:=by
 have hp:∀(hn:Option Hint),bN P w0 hn e o≠.grow (some i) t size n xs ob:=by
  intro hn h
  unfold bN at h
  repeat' (split at h)
  all_goals (cases h)
 have hc:dy P w0 hn e o≠.grow (some i) t size n xs ob:=by
  intro h
  unfold dy at h
  repeat' (split at h)
  all_goals first | (cases h;done)|exact hp _ h
 have hmv:∀x,dH P w0 hn e o x≠.grow (some i) t size n xs ob:=by
  intro x h
  unfold dH at h
  repeat' (split at h)
  all_goals first | (cases h;done)|exact hp _ h
 have hco:∀c r,bM P e c r≠.grow (some i) t size n xs ob:=by
  intro c r h
  unfold bM at h
  repeat' (split at h)
  all_goals (cases h)
 have hck:∀c r,dh P e c r≠.grow (some i) t size n xs ob:=by
  intro c r h
  unfold dh at h
  repeat' (split at h)
  all_goals (cases h)
 have hso:∀t' j r off sv,bB P t' j r off sv≠.grow (some i) t size n xs ob:=by
  intro t' j r off sv h
  unfold bB at h
  repeat' (split at h)
  all_goals (cases h)
 have hsl:∀t' x lo hi mx,cQ P w0 hn e row o t' x lo hi mx≠.grow (some i) t size n xs ob:=by
  intro t' x lo hi mx h
  unfold cQ jV at h
  repeat' (split at h)
  all_goals first | (cases h;done)|exact hp _ h
 have hln:∀c,fi P w0 hn e row o c≠.grow (some i) t size n xs ob:=by
  intro c h
  unfold fi at h
  repeat' (split at h)
  all_goals first | (cases h;done)|exact hc h
 have hl:∀t' r off,cJ P t' r off≠.grow (some i) t size n xs ob:=by
  intro t r off h
  unfold cJ at h
  repeat' (split at h)
  all_goals (cases h)
 have hl2:∀t' r off v,b7 P t' r off v≠.grow (some i) t size n xs ob:=by
  intro t r off v h
  unfold b7 at h
  repeat' (split at h)
  all_goals (cases h)
 have hl3:∀t' r off v,bG P t' r off v≠.grow (some i) t size n xs ob:=by
  intro t r off v h
  unfold bG at h
  repeat' (split at h)
  all_goals (cases h)
 have hs1:∀t' j r off sv,cP P t' j r off sv≠.grow (some i) t size n xs ob:=by
  intro t j r off sv h
  unfold cP at h
  repeat' (split at h)
  all_goals (cases h)
 have hs2:∀t' j r off sv c,bO P t' j r off sv c≠.grow (some i) t size n xs ob:=by
  intro t j r off sv c h
  unfold bO at h
  repeat' (split at h)
  all_goals (cases h)
 have hgo:∀{t':TypeId} {kill:Option Nat} {el sz m:Nat} {ys:List Value} {y:SV},kE P w0 row hn t' kill el sz m ys y=.grow (some i) t size n xs ob→kill=some i:=by
  intro t' kill el sz m ys y h
  unfold kE at h
  repeat' (split at h)
  all_goals first | (cases h;done) | (injection h)
 unfold fI at h
 split at h
 all_goals try (repeat' (split at h));done
 all_goals first
  | (
    rename_i c ho
    split at h
    ·exact absurd h (hco _ _)
    ·exact absurd h (hck _ _)
    ·rcases dZ h with h|⟨_,_,_,h⟩<;>(cases h;done)
    ·rcases dZ h with h|⟨_,_,_,h⟩<;>(cases h;done)
    ·split at h
     ·rename_i t' x y hap
      have hc':=pF hap
      split at h
      ·rename_i sx sy hx hy
       unfold fT at h
       split at h
       ·rename_i j
        split at h
        ·rename_i r hrow
         split at h
         ·rename_i s m ys hcs
          have hj:=hgo h
          injection hj with hj
          subst hj
          exact⟨by simp[ax,ho,hc',hx,gy],r,hrow,s,m,ys,hcs⟩
         ·cases h
        ·cases h
       ·split at h
        ·have:=hgo h;cases this
        ·cases h
       ·cases h
      ·cases h
     ·exact absurd h (hln _))
  | (
    exfalso
    repeat' (split at h)
    all_goals first
     | (cases h;done)
     |exact absurd h (hp _)
     |exact absurd h (hsl _ _ _ _ _)
     |exact absurd h (hso _ _ _ _ _)
     |exact absurd h (hmv _)
     | (rcases eE h with h|⟨_,_,_,_,h⟩<;>(cases h;done)) | (rcases fR h with h|⟨_,_,_,h⟩<;>(cases h;done))
     |exact absurd h (hl _ _ _)
     |exact absurd h (hl2 _ _ _ _)
     |exact absurd h (hl3 _ _ _ _)
     |exact absurd h (hs1 _ _ _ _ _)
     |exact absurd h (hs2 _ _ _ _ _ _))
theorem lR{w0:aU}{H:List (Nat×Hint)}{i:Nat}{r':Row}{ob:Option Prop}(h:fI P w0 H hn e row o=.ef i r' ob):i∈ax e o∧∃r,row i=some r∧∀β:Env,av β i r'=av β i r:=by
 have hp:∀(hn:Option Hint),bN P w0 hn e o≠.ef i r' ob:=by
  intro hn h
  unfold bN at h
  repeat' (split at h)
  all_goals (cases h)
 have hc:dy P w0 hn e o≠.ef i r' ob:=by
  intro h
  unfold dy at h
  repeat' (split at h)
  all_goals first | (cases h;done)|exact hp _ h
 have hmv:∀x,dH P w0 hn e o x≠.ef i r' ob:=by
  intro x h
  unfold dH at h
  repeat' (split at h)
  all_goals first | (cases h;done)|exact hp _ h
 have hco:∀c r,bM P e c r≠.ef i r' ob:=by
  intro c r h
  unfold bM at h
  repeat' (split at h)
  all_goals (cases h)
 have hap:∀t' x y,fT P w0 row hn t' x y≠.ef i r' ob:=by
  intro t x y h
  unfold fT kE at h
  repeat' (split at h)
  all_goals (cases h)
 have hck:∀c r,dh P e c r≠.ef i r' ob:=by
  intro c r h
  unfold dh at h
  repeat' (split at h)
  all_goals (cases h)
 have hsl:∀t' x lo hi mx,cQ P w0 hn e row o t' x lo hi mx≠.ef i r' ob:=by
  intro t' x lo hi mx h
  unfold cQ jV at h
  repeat' (split at h)
  all_goals first | (cases h;done)|exact hp _ h
 have hln:∀c,fi P w0 hn e row o c≠.ef i r' ob:=by
  intro c h
  unfold fi at h
  repeat' (split at h)
  all_goals first | (cases h;done)|exact hc h
 have hl:∀t' r off,cJ P t' r off≠.ef i r' ob:=by
  intro t r off h
  unfold cJ at h
  repeat' (split at h)
  all_goals (cases h)
 have hl2:∀t' r off v,b7 P t' r off v≠.ef i r' ob:=by
  intro t r off v h
  unfold b7 at h
  repeat' (split at h)
  all_goals (cases h)
 have hl3:∀t' r off v,bG P t' r off v≠.ef i r' ob:=by
  intro t r off v h
  unfold bG at h
  repeat' (split at h)
  all_goals (cases h)
 have hs1:∀t' j r off sv,cP P t' j r off sv≠.ef i r' ob:=by
  intro t j r off sv h
  unfold cP at h
  repeat' (split at h)
  all_goals (cases h)
 have hs2:∀t' j r off sv c,bO P t' j r off sv c≠.ef i r' ob:=by
  intro t j r off sv c h
  unfold bO at h
  repeat' (split at h)
  all_goals (cases h)
 unfold fI at h
 split at h
 all_goals first
  | (
    rename_i t x y ho
    split at h
    ·rename_i j off hx
     exfalso
     split at h
     ·split at h
      ·split at h
       ·exact hs2 _ _ _ _ _ _ h
       ·exact hs1 _ _ _ _ _ h
      ·cases h
     ·cases h
    ·rename_i j off hx
     split at h
     ·split at h
      ·rename_i r hrow
       unfold bB at h
       split at h
       ·rename_i size n xs hcs
        split at h
        ·split at h
         ·split at h
          ·injection h with h1 h2
           subst h1
           subst h2
           exact⟨by simp[ax,ho,hx,gy],r,hrow,fun β=>by unfold av;rw[hcs]⟩
          ·cases h
         ·cases h
        ·cases h
       ·cases h
      ·cases h
     ·cases h
    ·cases h)
  | (
    exfalso
    repeat' (split at h)
    all_goals first
     | (cases h;done)
     |exact absurd h (hp _)
     |exact absurd h (hmv _)
     | (rcases eE h with h|⟨_,_,_,_,h⟩<;>(cases h;done)) | (rcases fR h with h|⟨_,_,_,h⟩<;>(cases h;done))
     |exact absurd h (hco _ _)
     |exact absurd h (hck _ _)
     | (rcases dZ h with h|⟨_,_,_,h⟩<;>(cases h;done))
     |exact absurd h (hap _ _ _)
     |exact absurd h (hln _)
     |exact absurd h (hsl _ _ _ _ _)
     |exact absurd h (hl _ _ _)
     |exact absurd h (hl2 _ _ _ _)
     |exact absurd h (hl3 _ _ _ _))
theorem BO{w0:aU}{H:List (Nat×Hint)}{f:FuncId}{args:List SV}{r:j6}(h:fI P w0 H hn e row o=.dS f args r):∀i sv,sv∈args→i∈gy (some sv)→i∈ax e o:=by
 have hp:∀(hn:Option Hint),bN P w0 hn e o≠.dS f args r:=by
  intro hn h
  unfold bN at h
  repeat' (split at h)
  all_goals (cases h)
 have hc:dy P w0 hn e o≠.dS f args r:=by
  intro h
  unfold dy at h
  repeat' (split at h)
  all_goals first | (cases h;done)|exact hp _ h
 have hmv:∀x,dH P w0 hn e o x≠.dS f args r:=by
  intro x h
  unfold dH at h
  repeat' (split at h)
  all_goals first | (cases h;done)|exact hp _ h
 have hap:∀t' x y,fT P w0 row hn t' x y≠.dS f args r:=by
  intro t x y h
  unfold fT kE at h
  repeat' (split at h)
  all_goals (cases h)
 have hck:∀c r',dh P e c r'≠.dS f args r:=by
  intro c r' h
  unfold dh at h
  repeat' (split at h)
  all_goals (cases h)
 have hso:∀t' j r' off sv,bB P t' j r' off sv≠.dS f args r:=by
  intro t' j r' off sv h
  unfold bB at h
  repeat' (split at h)
  all_goals (cases h)
 have hsl:∀t' x lo hi mx,cQ P w0 hn e row o t' x lo hi mx≠.dS f args r:=by
  intro t' x lo hi mx h
  unfold cQ jV at h
  repeat' (split at h)
  all_goals first | (cases h;done)|exact hp _ h
 have hln:∀c,fi P w0 hn e row o c≠.dS f args r:=by
  intro c h
  unfold fi at h
  repeat' (split at h)
  all_goals first | (cases h;done)|exact hc h
 have hl:∀t' r' off,cJ P t' r' off≠.dS f args r:=by
  intro t r off h
  unfold cJ at h
  repeat' (split at h)
  all_goals (cases h)
 have hl2:∀t' r' off v,b7 P t' r' off v≠.dS f args r:=by
  intro t r off v h
  unfold b7 at h
  repeat' (split at h)
  all_goals (cases h)
 have hl3:∀t' r' off v,bG P t' r' off v≠.dS f args r:=by
  intro t r off v h
  unfold bG at h
  repeat' (split at h)
  all_goals (cases h)
 have hs1:∀t' j r' off sv,cP P t' j r' off sv≠.dS f args r:=by
  intro t j r off sv h
  unfold cP at h
  repeat' (split at h)
  all_goals (cases h)
 have hs2:∀t' j r' off sv c,bO P t' j r' off sv c≠.dS f args r:=by
  intro t j r off sv c h
  unfold bO at h
  repeat' (split at h)
  all_goals (cases h)
 unfold fI at h
 split at h
 all_goals first
  | (
    exfalso
    repeat' (split at h)
    all_goals first
     | (cases h;done)
     |exact absurd h (hp _)
     |exact absurd h (hsl _ _ _ _ _)
     |exact absurd h (hso _ _ _ _ _)
     |exact absurd h (hmv _)
     | (rcases eE h with h|⟨_,_,_,_,h⟩<;>(cases h;done)) | (rcases fR h with h|⟨_,_,_,h⟩<;>(cases h;done))
     |exact absurd h (hl _ _ _)
     |exact absurd h (hl2 _ _ _ _)
     |exact absurd h (hl3 _ _ _ _)
     |exact absurd h (hs1 _ _ _ _ _)
     |exact absurd h (hs2 _ _ _ _ _ _))
  |skip
 rename_i c ho
 split at h
 ·unfold bM at h
  split at h
  ·split at h
   ·split at h
    ·split at h
     ·rename_i lv hlv
      injection h with h1 h2 h3
      intro i sv hi hat
      rw[←h2]at hi
      obtain⟨x,hx,hex⟩:=lP hlv _ hi
      simp only[ax,ho,List.mem_flatMap]
      exact⟨x,hx,by rw[hex];exact hat⟩
     ·cases h
    ·cases h
   ·cases h
  ·cases h
 ·exact absurd h (hck _ _)
 ·rcases dZ h with h|⟨_,_,_,h⟩<;>(cases h;done)
 ·rcases dZ h with h|⟨_,_,_,h⟩<;>(cases h;done)
 ·exfalso
  split at h
  ·split at h
   ·exact hap _ _ _ h
   ·cases h
  ·exact hln _ h
theorem sH{w0:aU}{H:List (Nat×Hint)}{f:FuncId}{i:Nat}{r:j6}(h:fI P w0 H hn e row o=.fQ f i r):i∈ax e o∧isSlice r=true:=by
 have hp:∀(hn:Option Hint),bN P w0 hn e o≠.fQ f i r:=by
  intro hn h
  unfold bN at h
  repeat' (split at h)
  all_goals (cases h)
 have hc:dy P w0 hn e o≠.fQ f i r:=by
  intro h
  unfold dy at h
  repeat' (split at h)
  all_goals first | (cases h;done)|exact hp _ h
 have hmv:∀x,dH P w0 hn e o x≠.fQ f i r:=by
  intro x h
  unfold dH at h
  repeat' (split at h)
  all_goals first | (cases h;done)|exact hp _ h
 have hap:∀t' x y,fT P w0 row hn t' x y≠.fQ f i r:=by
  intro t x y h
  unfold fT kE at h
  repeat' (split at h)
  all_goals (cases h)
 have hco:∀c r',bM P e c r'≠.fQ f i r:=by
  intro c r' h
  unfold bM at h
  repeat' (split at h)
  all_goals (cases h)
 have hso:∀t' j r' off sv,bB P t' j r' off sv≠.fQ f i r:=by
  intro t' j r' off sv h
  unfold bB at h
  repeat' (split at h)
  all_goals (cases h)
 have hsl:∀t' x lo hi mx,cQ P w0 hn e row o t' x lo hi mx≠.fQ f i r:=by
  intro t' x lo hi mx h
  unfold cQ jV at h
  repeat' (split at h)
  all_goals first | (cases h;done)|exact hp _ h
 have hln:∀c,fi P w0 hn e row o c≠.fQ f i r:=by
  intro c h
  unfold fi at h
  repeat' (split at h)
  all_goals first | (cases h;done)|exact hc h
 have hl:∀t' r' off,cJ P t' r' off≠.fQ f i r:=by
  intro t r off h
  unfold cJ at h
  repeat' (split at h)
  all_goals (cases h)
 have hl2:∀t' r' off v,b7 P t' r' off v≠.fQ f i r:=by
  intro t r off v h
  unfold b7 at h
  repeat' (split at h)
  all_goals (cases h)
 have hl3:∀t' r' off v,bG P t' r' off v≠.fQ f i r:=by
  intro t r off v h
  unfold bG at h
  repeat' (split at h)
  all_goals (cases h)
 have hs1:∀t' j r' off sv,cP P t' j r' off sv≠.fQ f i r:=by
  intro t j r off sv h
  unfold cP at h
  repeat' (split at h)
  all_goals (cases h)
 have hs2:∀t' j r' off sv c,bO P t' j r' off sv c≠.fQ f i r:=by
  intro t j r off sv c h
  unfold bO at h
  repeat' (split at h)
  all_goals (cases h)
 unfold fI at h
 split at h
 all_goals first
  | (
    exfalso
    repeat' (split at h)
    all_goals first
     | (cases h;done)
     |exact absurd h (hp _)
     |exact absurd h (hsl _ _ _ _ _)
     |exact absurd h (hso _ _ _ _ _)
     |exact absurd h (hmv _)
     | (rcases eE h with h|⟨_,_,_,_,h⟩<;>(cases h;done)) | (rcases fR h with h|⟨_,_,_,h⟩<;>(cases h;done))
     |exact absurd h (hl _ _ _)
     |exact absurd h (hl2 _ _ _ _)
     |exact absurd h (hl3 _ _ _ _)
     |exact absurd h (hs1 _ _ _ _ _)
     |exact absurd h (hs2 _ _ _ _ _ _))
  |skip
 rename_i c ho
 split at h
 ·exact absurd h (hco _ _)
 ·unfold dh at h
  split at h
  ·rename_i f' args r' hr
   split at h
   ·split at h
    ·rename_i hs
     injection h with h1 h2 h3
     subst h2;subst h3
     obtain⟨x,hx,hex⟩:=jt hr _ (List.mem_singleton.2 rfl)
     refine⟨?_,hs⟩
     simp only[ax,ho,List.mem_flatMap]
     exact⟨x,hx,by rw[hex];simp[gy]⟩
    ·cases h
   ·cases h
  ·cases h
 ·rcases dZ h with h|⟨_,_,_,h⟩<;>(cases h;done)
 ·rcases dZ h with h|⟨_,_,_,h⟩<;>(cases h;done)
 ·exfalso
  split at h
  ·split at h
   ·exact hap _ _ _ h
   ·cases h
  ·exact hln _ h
theorem pC{w0:aU}{H:List (Nat×Hint)}{f:FuncId}{args:List SV}{x:XK}(h:fI P w0 H hn e row o=.eZ f args x):(∀i sv,sv∈args→i∈gy (some sv)→i∈ax e o)∧
  (∀p i r v,x=.gk p i r v→args[p]?=some (.ptr i 0)∧i∈ax e o∧∃r0,row i=some r0∧r.ty=r0.ty∧r0.fixed=true∧r.fixed=true∧r.cs.tag=r0.cs.tag)∧
  ∀ps,x=.Ex ps→∀q∈ps,args[q.1]?=some (.ptr q.2 0)∧∃r,row q.2=some r∧r.fixed=true:=by
 have hp:∀(hn:Option Hint),bN P w0 hn e o≠.eZ f args x:=by
  intro hn h
  unfold bN at h
  repeat' (split at h)
  all_goals (cases h)
 have hc:dy P w0 hn e o≠.eZ f args x:=by
  intro h
  unfold dy at h
  repeat' (split at h)
  all_goals first | (cases h;done)|exact hp _ h
 have hmv:∀y,dH P w0 hn e o y≠.eZ f args x:=by
  intro x h
  unfold dH at h
  repeat' (split at h)
  all_goals first | (cases h;done)|exact hp _ h
 have hap:∀t' y z,fT P w0 row hn t' y z≠.eZ f args x:=by
  intro t x y h
  unfold fT kE at h
  repeat' (split at h)
  all_goals (cases h)
 have hco:∀c r',bM P e c r'≠.eZ f args x:=by
  intro c r' h
  unfold bM at h
  repeat' (split at h)
  all_goals (cases h)
 have hck:∀c r',dh P e c r'≠.eZ f args x:=by
  intro c r' h
  unfold dh at h
  repeat' (split at h)
  all_goals (cases h)
 have hso:∀t' j r' off sv,bB P t' j r' off sv≠.eZ f args x:=by
  intro t' j r' off sv h
  unfold bB at h
  repeat' (split at h)
  all_goals (cases h)
 have hsl:∀t' y lo hi mx,cQ P w0 hn e row o t' y lo hi mx≠.eZ f args x:=by
  intro t' x lo hi mx h
  unfold cQ jV at h
  repeat' (split at h)
  all_goals first | (cases h;done)|exact hp _ h
 have hln:∀c,fi P w0 hn e row o c≠.eZ f args x:=by
  intro c h
  unfold fi at h
  repeat' (split at h)
  all_goals first | (cases h;done)|exact hc h
 have hl:∀t' r' off,cJ P t' r' off≠.eZ f args x:=by
  intro t r off h
  unfold cJ at h
  repeat' (split at h)
  all_goals (cases h)
 have hl2:∀t' r' off v,b7 P t' r' off v≠.eZ f args x:=by
  intro t r off v h
  unfold b7 at h
  repeat' (split at h)
  all_goals (cases h)
 have hl3:∀t' r' off v,bG P t' r' off v≠.eZ f args x:=by
  intro t r off v h
  unfold bG at h
  repeat' (split at h)
  all_goals (cases h)
 have hs1:∀t' j r' off sv,cP P t' j r' off sv≠.eZ f args x:=by
  intro t j r off sv h
  unfold cP at h
  repeat' (split at h)
  all_goals (cases h)
 have hs2:∀t' j r' off sv c,bO P t' j r' off sv c≠.eZ f args x:=by
  intro t j r off sv c h
  unfold bO at h
  repeat' (split at h)
  all_goals (cases h)
 have go:∀c hh,o.op=.call c→gw P e row c hh=.eZ f args x→(∀i sv,sv∈args→i∈gy (some sv)→i∈ax e o)∧
  (∀p i r v,x=.gk p i r v→args[p]?=some (.ptr i 0)∧i∈ax e o∧∃r0,row i=some r0∧r.ty=r0.ty∧r0.fixed=true∧r.fixed=true∧r.cs.tag=r0.cs.tag)∧
  ∀ps,x=.Ex ps→∀q∈ps,args[q.1]?=some (.ptr q.2 0)∧∃r,row q.2=some r∧r.fixed=true:=by
  intro c hh ho h
  have mem:∀{f' args' r'},bM P e c r'=.dS f' args' r'→∀i sv,sv∈args'→i∈gy (some sv)→i∈ax e o:=by
   intro f' args' r' hr i sv hi hat
   obtain⟨x,hx,hex⟩:=jt hr _ hi
   simp only[ax,ho,List.mem_flatMap]
   exact⟨x,hx,by rw[hex];exact hat⟩
  have back:∀{f' args' r' r''},bM P e c r'=.dS f' args' r''→r''=r':=by
   intro f' args' r' r'' hr
   unfold bM at hr
   repeat' (split at hr)
   all_goals first | (cases hr;done) | (injection hr with h1 h2 h3;exact h3.symm)
  unfold gw at h
  split at h
  ·split at h
   ·rename_i f' args' r' hr
    have hb:=back hr
    subst hb
    split at h
    ·rename_i i hpi
     split at h
     ·rename_i r0 hrow
      cases hcl:r0.cs.list with
      |none=>rw[hcl]at h;cases h
      |some l=>
       rw[hcl]at h
       simp only at h
       split at h
       ·injection h with h1 h2 h3
        subst h2
        refine⟨mem hr,fun p' i' r v' hx=>?_,fun ps hx=>by rw[←h3]at hx;cases hx⟩
        rw[←h3]at hx
        injection hx with e1 e2 e3 e4
        subst e1;subst e2;subst e3
        have hfx:r0.fixed=true:=by
         unfold Row.fixed
         unfold Cells.list at hcl
         split at hcl<;>first | (cases hcl;done) | (rename_i hcs;rw[hcs])
        exact⟨hpi,mem hr _ _ (List.mem_of_getElem? hpi) (by simp[gy]),r0,hrow,rfl,hfx,DV (T:=r0.ty) hfx,Ld⟩
       ·cases h
     ·cases h
    ·cases h
   ·cases h
  ·split at h
   ·rename_i f' args' r' hr
    have hb:=back hr
    subst hb
    injection h with h1 h2 h3
    subst h2
    subst h3
    refine⟨mem hr,(fun p i r v hx=>nomatch hx),fun ps hx q hq=>?_⟩
    injection hx with hx
    rw[←hx]at hq
    obtain⟨_,h2,h4⟩:=r7 hq
    exact⟨by simpa using h2,h4⟩
   ·cases h
  ·cases h
 unfold fI at h
 split at h
 all_goals first
  | (
    exfalso
    repeat' (split at h)
    all_goals first
     | (cases h;done)
     |exact absurd h (hp _)
     |exact absurd h (hsl _ _ _ _ _)
     |exact absurd h (hso _ _ _ _ _)
     |exact absurd h (hmv _)
     | (rcases eE h with h|⟨_,_,_,_,h⟩<;>(cases h;done)) | (rcases fR h with h|⟨_,_,_,h⟩<;>(cases h;done))
     |exact absurd h (hl _ _ _)
     |exact absurd h (hl2 _ _ _ _)
     |exact absurd h (hl3 _ _ _ _)
     |exact absurd h (hs1 _ _ _ _ _)
     |exact absurd h (hs2 _ _ _ _ _ _))
  |skip
 rename_i c ho
 split at h
 ·exact absurd h (hco _ _)
 ·exact absurd h (hck _ _)
 ·exact go c _ ho h
 ·exact go c _ ho h
 ·exfalso
  split at h
  ·split at h
   ·exact hap _ _ _ h
   ·cases h
  ·exact hln _ h
end
structure Hd(ds:List Deferred)(w0:aU)(n:Nat)(β:Env)(st:St)(a:Act)(w:World):Prop where
 size:a.tmps.size=n
 dn:a.defers=ds
 get:∀t sv,look st.fr t=some sv→a.tmps[t]?=some (sv.den β)
 b9:∀(i:Nat) (r:Row),st.mem[i]?=some r→aX β w i r
 new:∀(i:Nat) (r:Row) (k:Nat),st.mem[i]?=some r→av β i r=some k→k∈w0.S∨w0.w.heap.size≤k
 inj:∀(i j:Nat) (r r':Row) (k:Nat),st.mem[i]?=some r→st.mem[j]?=some r'→av β i r=some k→av β j r'=some k→i=j
 aG:ai w0.S w0.w w
 wj:∀t sv,look st.fr t=some sv→sv.on (· < st.mem.length)
 wg:∀(i:Nat) (r:Row),st.mem[i]?=some r→r.cs.on (· < st.mem.length)
section
variable{P:Program}{w0:aU}{ds:List Deferred}{w w':World}{n:Nat}{β:Env}{st:St}{a:Act}
theorem fL{d t:Nat}{v:SV}{fr:List (Nat×SV)}:look ((d,v)::fr) t=if d=t then v.known else look fr t:=by
 by_cases h:d=t
 ·subst h;simp[look]
 ·rw[if_neg h]
  have:Nat.beq d t=false:=by
   cases hb:Nat.beq d t
   ·rfl
   ·exact absurd (Nat.eq_of_beq_eq_true hb) h
  rw[look]
  simp only[this]
theorem js{d t:Nat}{v:Value}(h:d < a.tmps.size):(a.put (some d) v).tmps[t]?=if d=t then some v else a.tmps[t]?:=by
 simp only[Act.put,Array.getElem?_setIfInBounds]
 by_cases hd:d=t
 ·subst hd;simp[h]
 ·simp[hd]
theorem MO{d:Nat}{v:Value}(h:¬d < a.tmps.size):a.put (some d) v=a:=by
 unfold Act.put
 simp only
 rw[Array.setIfInBounds_eq_of_size_le (by omega)]
theorem Hd.put(h:Hd ds w0 n β st a w)(dst:Option Tmp){sv:SV}(hs:sv.on (· < st.mem.length)):Hd ds w0 n β (st.put n dst sv) (a.put dst (sv.den β)) w:=by
 cases dst with
 |none=>exact h
 |some d=>
  by_cases hd:d < n
  ·have hb:Nat.blt d n=true:=Nat.ble_eq_true_of_le hd
   have e:st.put n (some d) sv=⟨(d,sv)::st.fr,st.mem⟩:=by unfold St.put;simp only[hb]
   rw[e]
   have hsz:d < a.tmps.size:=by rw[h.size];exact hd
   refine⟨by simp[Act.put,h.size],h.dn,fun t u hu=>?_,h.b9,h.new,h.inj,h.aG,fun t u hu=>?_,h.wg⟩
   ·rw[js hsz]
    rw[fL]at hu
    split at hu
    ·rename_i hdt;rw[if_pos hdt];rw[cg hu]
    ·rename_i hdt;rw[if_neg hdt];exact h.get t u hu
   ·rw[fL]at hu
    split at hu
    ·rw[cg hu];exact hs
    ·exact h.wj t u hu
  ·have hb:Nat.blt d n=false:=by
    cases hb:Nat.blt d n
    ·rfl
    ·exact absurd (Nat.le_of_ble_eq_true hb) hd
   have e:st.put n (some d) sv=st:=by unfold St.put;simp only[hb]
   rw[e,MO (by rw[h.size];exact hd)]
   exact h
theorem Hd.later(h:Hd ds w0 n β st a w)(hc:ai [] w w'):Hd ds w0 n β st a w':=
 ⟨h.size,h.dn,h.get,fun i r hi=>(h.b9 i r hi).aG hc (fun _ _=>by simp),h.new,h.inj,h.aG.seq hc (by simp),h.wj,h.wg⟩
def Env.gk(β:Env)(m g:Nat):Env:=⟨fun i=>if i=m then g else β i,β.a,β.n,β.c⟩
theorem H4{m g:Nat}:β.same (β.gk m g) (·≠m):=fun i hi=>⟨by simp only[Env.gk,if_neg hi],rfl,rfl,rfl⟩
theorem jF{m g:Nat}:(β.gk m g) m=g:=by simp only[Env.gk,if_true]
theorem AD{m g:Nat}{ln:Option Nat}:(lZ m ln).den (β.gk m g)=oO g ln:=by
 cases ln<;>simp only[lZ,oO,SV.den,jF]
theorem EN{Q:Nat→Prop}{m:Nat}{ln:Option Nat}(h:Q m):(lZ m ln).on Q:=by
 cases ln<;>exact h
theorem Env.same.mono{β β':Env}{Q Q':Nat→Prop}(h:β.same β' Q)(hQ:∀i,Q' i→Q i):β.same β' Q':=fun i hi=>h i (hQ i hi)
theorem Hd.alloc(h:Hd ds w0 n β st a w)(t:TypeId){cs:Cells}(hf:(⟨t,cs⟩:Row).fixed=true)(hft:cs.tag=none)(hs:cs.on (· < st.mem.length)):Hd ds w0 n (β.gk st.mem.length w.heap.size) ⟨st.fr,st.mem++[⟨t,cs⟩]⟩ a (w.alloc (.cells (cs.den β).toArray t)):=by
 have same:β.same (β.gk st.mem.length w.heap.size) (· < st.mem.length):=H4.mono fun i hi=>Nat.ne_of_lt hi
 have lt:∀(i:Nat) (r:Row) (k:Nat),st.mem[i]?=some r→av β i r=some k→k < w.heap.size:=fun i r k hi hk=>(h.b9 i r hi).lt hk
 have at_:∀(i:Nat) (r:Row),(st.mem++[(⟨t,cs⟩:Row)])[i]?=some r→(i < st.mem.length∧st.mem[i]?=some r)∨(i=st.mem.length∧r=⟨t,cs⟩):=by
  intro i r hi
  by_cases hlt:i < st.mem.length
  ·rw[List.getElem?_append_left hlt]at hi
   exact .inl ⟨hlt,hi⟩
  ·have hl:i < (st.mem++[(⟨t,cs⟩:Row)]).length:=(List.getElem?_eq_some_iff.1 hi).1
   simp at hl
   obtain rfl:i=st.mem.length:=by omega
   rw[List.getElem?_append_right (Nat.le_refl _),Nat.sub_self]at hi
   exact .inr ⟨rfl,by simpa using hi.symm⟩
 have blkm:av (β.gk st.mem.length w.heap.size) st.mem.length ⟨t,cs⟩=some w.heap.size:=by rw[aH hf,jF]
 refine⟨h.size,h.dn,fun u sv hu=>?_,fun i r hi=>?_,fun i r k hi hk=>?_,fun i j r r' k hi hj hk hk'=>?_,h.aG.alloc _,fun u sv hu=>?_,fun i r hi=>?_⟩
 ·rw[h.get u sv hu,SV.ct same (h.wj u sv hu)]
 ·rcases at_ i r hi with⟨hlt,hi⟩ | ⟨rfl,rfl⟩
  ·refine aX.congr same hlt (h.wg i r hi) ((h.b9 i r hi).aG (S:=[]) ((ai.refl [] w).alloc _) (fun _ _=>by simp))
  ·refine aX.nr ?_ hf (fun g hg=>by rw[hft]at hg;cases hg)
   rw[jF,←Cells.ct same hs]
   exact au.new w t (cs.den β).toArray
 ·rcases at_ i r hi with⟨hlt,hi⟩ | ⟨rfl,rfl⟩
  ·rw[←ba same hlt]at hk;exact h.new i r k hi hk
  ·rw[blkm]at hk;cases hk;exact .inr h.aG.size
 ·rcases at_ i r hi with⟨hlt,hi⟩ | ⟨rfl,rfl⟩
  ·rw[←ba same hlt]at hk
   rcases at_ j r' hj with⟨hlt',hj⟩ | ⟨rfl,rfl⟩
   ·rw[←ba same hlt']at hk';exact h.inj i j r r' k hi hj hk hk'
   ·rw[blkm]at hk';cases hk'
    exact absurd (lt i r _ hi hk) (Nat.lt_irrefl _)
  ·rcases at_ j r' hj with⟨hlt',hj⟩ | ⟨rfl,rfl⟩
   ·rw[blkm]at hk;cases hk
    rw[←ba same hlt']at hk'
    exact absurd (lt j r' _ hj hk') (Nat.lt_irrefl _)
   ·rfl
 ·exact SV.bc (fun i hi=>by simp;omega) (h.wj u sv hu)
 ·rcases at_ i r hi with⟨hlt,hi⟩ | ⟨rfl,rfl⟩
  ·exact Cells.bc (fun i hi=>by simp;omega) (h.wg i r hi)
  ·exact Cells.bc (fun i hi=>by simp;omega) hs
theorem Hd.store(h:Hd ds w0 n β st a w){i:Nat}{r0 r:Row}(h0:st.mem[i]?=some r0)(hblk:av β i r=av β i r0)(hb:aX β w' i r)(hc:ai (av β i r0).toList w w')(hr:r.cs.on (· < st.mem.length)):Hd ds w0 n β ⟨st.fr,st.mem.set i r⟩ a w':=by
 have hi:i < st.mem.length:=(List.getElem?_eq_some_iff.1 h0).1
 have old:∀(j:Nat) (r':Row) (k:Nat),(st.mem.set i r)[j]?=some r'→av β j r'=some k→∃r2,st.mem[j]?=some r2∧av β j r2=some k:=by
  intro j r' k hj hk
  simp only[List.getElem?_set]at hj
  split at hj
  ·rename_i hij
   subst hij
   have:r=r':=by simpa[hi]using hj
   subst this
   exact⟨r0,h0,by rw[←hblk];exact hk⟩
  ·exact⟨r',hj,hk⟩
 refine⟨h.size,h.dn,h.get,fun j r' hj=>?_,fun j r' k hj hk=>?_,fun j j' r1 r2 k hj hj' hk hk'=>?_,?_,fun t sv ht=>?_,fun j r' hj=>?_⟩
 ·simp only[List.getElem?_set]at hj
  split at hj
  ·rename_i hij
   subst hij
   have:r=r':=by simpa[hi]using hj
   subst this
   exact hb
  ·rename_i hij
   refine(h.b9 j r' hj).aG hc fun k hk hm=>hij ?_
   exact h.inj i j r0 r' _ h0 hj (by simpa using hm) hk
 ·obtain⟨r2,h2,hk2⟩:=old j r' k hj hk
  exact h.new j r2 k h2 hk2
 ·obtain⟨x,hx,hkx⟩:=old j r1 k hj hk
  obtain⟨y,hy,hky⟩:=old j' r2 k hj' hk'
  exact h.inj j j' x y k hx hy hkx hky
 ·exact h.aG.seq hc (fun x hx=>h.new i r0 _ h0 (by simpa using hx))
 ·simp only[List.length_set];exact h.wj t sv ht
 ·simp only[List.length_set]
  simp only[List.getElem?_set]at hj
  split at hj
  ·have:r=r':=by simpa[hi]using hj
   subst this
   exact hr
  ·exact h.wg j r' hj
def Env.iz(β:Env)(m:Nat)(A:Option Addr)(n c:Nat):Env:=⟨β.b,fun i=>if i=m then A else β.a i,fun i=>if i=m then n else β.n i,fun i=>if i=m then c else β.c i⟩
theorem sW{m:Nat}{A:Option Addr}{nn cc:Nat}:β.same (β.iz m A nn cc) (·≠m):=fun i hi=>⟨rfl,by simp only[Env.iz,if_neg hi],by simp only[Env.iz,if_neg hi],by simp only[Env.iz,if_neg hi]⟩
theorem lM{m:Nat}{A:Option Addr}{nn cc:Nat}:(β.iz m A nn cc).sl m=.slice A nn cc:=by simp only[Env.sl,Env.iz,if_true]
theorem wJ{m:Nat}{A:Option Addr}{T size nn cc:Nat}{xs:List Value}(h:Own w T size (.slice A nn cc) nn xs):aX (β.iz m A nn cc) w m ⟨T,.own size nn xs⟩:=by
 show _∧Own w T size (.slice ((β.iz m A nn cc).a m) nn ((β.iz m A nn cc).c m)) nn xs
 simp only[Env.iz,if_true]
 exact⟨trivial,h⟩
theorem kW{m:Nat}{A:Option Addr}{T size nn cc:Nat}{xs:List Value}:av (β.iz m A nn cc) m ⟨T,.own size nn xs⟩=A.map (·.block):=by
 show((β.iz m A nn cc).a m).map _=_
 simp only[Env.iz,if_true]
theorem Hd.grow(h:Hd ds w0 n β st a w){kill:Option Nat}{A:Option Addr}{T size nn cc:Nat}{xs:List Value}{S:List Nat}(hown:Own w' T size (.slice A nn cc) nn xs)(hc:ai S w w')
  (hS:∀k∈S,∃i r0,kill=some i∧st.mem[i]?=some r0∧av β i r0=some k) (hA:∀k,A.map (·.block)=some k→k∈S∨w.heap.size≤k) :
  Hd ds w0 n (β.iz st.mem.length A nn cc) ⟨st.fr,eP st.mem kill++[⟨T,.own size nn xs⟩]⟩ a w':=by
 have same:β.same (β.iz st.mem.length A nn cc) (· < st.mem.length):=sW.mono fun i hi=>Nat.ne_of_lt hi
 have klen:(eP st.mem kill).length=st.mem.length:=by cases kill<;>simp[eP]
 have at_:∀(i:Nat) (r:Row),(eP st.mem kill++[(⟨T,.own size nn xs⟩:Row)])[i]?=some r→(i < st.mem.length∧kill≠some i∧st.mem[i]?=some r)∨(i < st.mem.length∧kill=some i∧r=an)∨(i=st.mem.length∧r=⟨T,.own size nn xs⟩):=by
  intro i r hi
  by_cases hlt:i < st.mem.length
  ·rw[List.getElem?_append_left (by rw[klen];exact hlt)]at hi
   cases kill with
   |none=>exact .inl ⟨hlt,by simp,hi⟩
   |some j=>
    simp only[eP,List.getElem?_set]at hi
    split at hi
    ·rename_i hij
     subst hij
     exact .inr (.inl ⟨hlt,rfl,by simpa[hlt]using hi.symm⟩)
    ·rename_i hij
     exact .inl ⟨hlt,by simpa using hij,hi⟩
  ·have hl:i < (eP st.mem kill++[(⟨T,.own size nn xs⟩:Row)]).length:=(List.getElem?_eq_some_iff.1 hi).1
   simp[klen]at hl
   obtain rfl:i=st.mem.length:=by omega
   rw[←klen,List.getElem?_append_right (Nat.le_refl _),Nat.sub_self]at hi
   exact .inr (.inr ⟨rfl,by simpa using hi.symm⟩)
 have new':∀k,A.map (·.block)=some k→k∈w0.S∨w0.w.heap.size≤k:=fun k hk=>by
  rcases hA k hk with hk|hk
  ·obtain⟨i,r0,_,h0,hb⟩:=hS k hk
   exact h.new i r0 k h0 hb
  ·exact .inr (Nat.le_trans h.aG.size hk)
 have apart:∀(i:Nat) (r:Row) (k:Nat),kill≠some i→st.mem[i]?=some r→av β i r=some k→A.map (·.block)≠some k:=fun i r k hki hi hk hk'=>by
  rcases hA k hk' with hk' | hk'
  ·obtain⟨j,r0,hj,h0,hb⟩:=hS k hk'
   have:=h.inj i j r r0 k hi h0 hk hb
   subst this
   exact hki hj
  ·have:=(h.b9 i r hi).lt hk
   omega
 refine⟨h.size,h.dn,fun u sv hu=>?_,fun i r hi=>?_,fun i r k hi hk=>?_,fun i j r r' k hi hj hk hk'=>?_,h.aG.seq hc (fun k hk=>?_),fun u sv hu=>?_,fun i r hi=>?_⟩
 ·rw[h.get u sv hu,SV.ct same (h.wj u sv hu)]
 ·rcases at_ i r hi with⟨hlt,hki,hi⟩ | ⟨hlt,hki,rfl⟩ | ⟨rfl,rfl⟩
  ·refine aX.congr same hlt (h.wg i r hi) ((h.b9 i r hi).aG hc fun k hk hm=>?_)
   obtain⟨j,r0,hj,h0,hb⟩:=hS k hm
   have:=h.inj i j r r0 k hi h0 hk hb
   subst this
   exact hki hj
  ·trivial
  ·exact wJ hown
 ·rcases at_ i r hi with⟨hlt,hki,hi⟩ | ⟨hlt,hki,rfl⟩ | ⟨rfl,rfl⟩
  ·rw[←ba same hlt]at hk;exact h.new i r k hi hk
  ·cases hk
  ·rw[kW]at hk;exact new' k hk
 ·rcases at_ i r hi with⟨hlt,hki,hi⟩ | ⟨hlt,hki,rfl⟩ | ⟨rfl,rfl⟩
  ·rw[←ba same hlt]at hk
   rcases at_ j r' hj with⟨hlt',hkj,hj⟩ | ⟨hlt',hkj,rfl⟩ | ⟨rfl,rfl⟩
   ·rw[←ba same hlt']at hk';exact h.inj i j r r' k hi hj hk hk'
   ·cases hk'
   ·rw[kW]at hk';exact absurd hk' (apart i r k hki hi hk)
  ·cases hk
  ·rcases at_ j r' hj with⟨hlt',hkj,hj⟩ | ⟨hlt',hkj,rfl⟩ | ⟨rfl,rfl⟩
   ·rw[←ba same hlt']at hk'
    rw[kW]at hk
    exact absurd hk (apart j r' k hkj hj hk')
   ·cases hk'
   ·rfl
 ·obtain⟨i,r0,_,h0,hb⟩:=hS k hk
  exact h.new i r0 k h0 hb
 ·exact SV.bc (fun i hi=>by simp[klen];omega) (h.wj u sv hu)
 ·rcases at_ i r hi with⟨hlt,hki,hi⟩ | ⟨hlt,hki,rfl⟩ | ⟨rfl,rfl⟩
  ·exact Cells.bc (fun i hi=>by simp[klen];omega) (h.wg i r hi)
  ·trivial
  ·trivial
theorem IN{r:j6}{e:Ending}(h:fU w r e w'):(∃v,r=.val v∧e=.returned v∧ai [] w w')∨(∃T size nn xs A cc,jg r=some ⟨T,.own size nn xs⟩∧Own w' T size (.slice A nn cc) nn xs∧ai [] w w'∧(∀k,A.map (·.block)=some k→w.heap.size≤k)∧
  ∀(β:Env) (m:Nat),e=.returned ((ik m r).den (β.iz m A nn cc))∧(ik m r).on (·=m)):=by
 have key:∀{T size nn:Nat} {xs:List Value} {s:Value},Acc w w' T size s nn xs→∃A cc,s=.slice A nn cc∧Own w' T size (.slice A nn cc) nn xs∧∀k,A.map (·.block)=some k→w.heap.size≤k:=by
  intro T size nn xs s h
  obtain⟨A,cc,rfl,_⟩:=h.own.form
  refine⟨A,cc,rfl,h.own,fun k hk=>h.new k ?_⟩
  cases A with
  |none=>cases hk
  |some ad=>simpa[Value.ownBlock]using hk
 cases r with
 |val v=>exact .inl ⟨v,rfl,h.1,h.2⟩
 |sl T size nn xs=>
  obtain⟨s,he,hacc⟩:=h
  obtain⟨A,cc,rfl,ho,hk⟩:=key hacc
  exact .inr ⟨T,size,nn,xs,A,cc,rfl,ho,hacc.aG,hk,fun β m=>⟨by rw[he];simp only[ik,SV.den,lM],rfl⟩⟩
 |wh pre T size nn xs post=>
  obtain⟨s,he,hacc⟩:=h
  obtain⟨A,cc,rfl,ho,hk⟩:=key hacc
  exact .inr ⟨T,size,nn,xs,A,cc,rfl,ho,hacc.aG,hk,fun β m=>⟨by rw[he];simp only[ik,SV.den,lM],rfl⟩⟩
theorem zS{β:Env}{i:Nat}:(β.sl i).ownBlock=(β.a i).map (·.block):=by
 unfold Env.sl
 cases h:β.a i<;>simp[Value.ownBlock]
theorem rU{A:Option Addr}{n c:Nat}:(Value.slice A n c).ownBlock=A.map (·.block):=by
 cases A<;>simp[Value.ownBlock]
theorem Ep{s0:Value}{r:j6}{e:Ending}(h:qc w s0 r e w'):∃T size nn xs A cc,jg r=some ⟨T,.own size nn xs⟩∧Own w' T size (.slice A nn cc) nn xs∧ai s0.ownBlock.toList w w'∧(∀k,A.map (·.block)=some k→s0.ownBlock=some k∨w.heap.size≤k)∧
  ∀(β:Env) (m:Nat),e=.returned ((ik m r).den (β.iz m A nn cc))∧(ik m r).on (·=m):=by
 cases r with
 |val v=>exact h.elim
 |sl T size nn xs=>
  obtain⟨s,he,ho,hc,hk⟩:=h
  obtain⟨A,cc,rfl,_⟩:=ho.form
  exact⟨T,size,nn,xs,A,cc,rfl,ho,hc,fun k h=>hk k (by rw[rU];exact h),fun β m=>⟨by rw[he];simp only[ik,SV.den,lM],rfl⟩⟩
 |wh pre T size nn xs post=>
  obtain⟨s,he,ho,hc,hk⟩:=h
  obtain⟨A,cc,rfl,_⟩:=ho.form
  exact⟨T,size,nn,xs,A,cc,rfl,ho,hc,fun k h=>hk k (by rw[rU];exact h),fun β m=>⟨by rw[he];simp only[ik,SV.den,lM],rfl⟩⟩
theorem Hd.eval(h:Hd ds w0 n β st a w){x:Operand}{sv:SV}(hx:ev st.fr x=some sv):a.eval x=sv.den β:=by
 cases x with
 |tmp t=>
  have:=h.get t sv hx
  simp[Act.eval,this]
 |const v=>simp only[ev,Option.some.injEq]at hx;subst hx;rfl
 |global g=>simp only[ev,Option.some.injEq]at hx;subst hx;rfl
 |func f=>simp only[ev,Option.some.injEq]at hx;subst hx;rfl
theorem Hd.Se(h:Hd ds w0 n β st a w){x:Operand}{sv:SV}(hx:ev st.fr x=some sv):sv.on (· < st.mem.length):=by
 cases x with
 |tmp t=>exact h.wj t sv hx
 |const v=>simp only[ev,Option.some.injEq]at hx;subst hx;trivial
 |global g=>simp only[ev,Option.some.injEq]at hx;subst hx;trivial
 |func f=>simp only[ev,Option.some.injEq]at hx;subst hx;trivial
end
def nN(m:Nat):Atom→Bool
 |.v _=>true
 |.o i=>Nat.blt i m
 |.p i _=>Nat.blt i m
 |.s i _ _ _=>Nat.blt i m
def DG(m:Nat):fz→Bool
 |.a x=>nN m x
 |.row l=>fj (nN m) l
 |.kT _ i _=>Nat.blt i m
def zJ(m:Nat):SV→Bool
 |.val _=>true
 |.ptr i _=>Nat.blt i m
 |.mP i _ _ _=>Nat.blt i m
 |.own i=>Nat.blt i m
 |.lV i _=>Nat.blt i m
 |.wh _ i _=>Nat.blt i m
 |.kQ i _ _ _=>Nat.blt i m
 |.gone=>true
 |.dD l=>fj (nN m) l
 |.Fm _ l=>fj (nN m) l
 |.kT _ i _=>Nat.blt i m
 |.oE l=>fj (DG m) l
 |.eG _ i _=>Nat.blt i m
def mn(m:Nat):Cells→Bool
 |.ak _=>true
 |.dK cs=>fj (zJ m) cs
 |.own _ _ _=>true
 |.dead=>true
 |.dF _ _=>true
 |.jR _ cs=>fj (zJ m) cs
theorem oB{m:Nat}{s:Atom}(h:nN m s=true):s.on (· < m):=by
 cases s with
 |v x=>trivial
 |o i=>exact Nat.le_of_ble_eq_true h
 |p i off=>exact Nat.le_of_ble_eq_true h
 |s i _ _ _=>exact Nat.le_of_ble_eq_true h
theorem G3{m:Nat}{s:fz}(h:DG m s=true):s.on (· < m):=by
 cases s with
 |a x=>exact oB h
 |row l=>exact fun a ha=>oB (aT (show fj (nN m) l=true from h) a ha)
 |kT t i off=>exact Nat.le_of_ble_eq_true h
theorem nU{m:Nat}{s:SV}(h:zJ m s=true):s.on (· < m):=by
 cases s with
 |val v=>trivial
 |ptr i o=>exact Nat.le_of_ble_eq_true h
 |mP i o n c=>exact Nat.le_of_ble_eq_true h
 |own i=>exact Nat.le_of_ble_eq_true h
 |lV i o=>exact Nat.le_of_ble_eq_true h
 |wh l i r=>exact Nat.le_of_ble_eq_true h
 |kQ i o n c=>exact Nat.le_of_ble_eq_true h
 |gone=>trivial
 |dD l=>exact fun a ha=>oB (aT (show fj (nN m) l=true from h) a ha)
 |Fm f l=>exact fun a ha=>oB (aT (show fj (nN m) l=true from h) a ha)
 |kT t i off=>exact Nat.le_of_ble_eq_true h
 |oE l=>exact fun a ha=>G3 (aT (show fj (DG m) l=true from h) a ha)
 |eG b i off=>exact Nat.le_of_ble_eq_true h
theorem jW{m:Nat}{c:Cells}(h:mn m c=true):c.on (· < m):=by
 unfold mn at h
 cases c with
 |ak cs=>trivial
 |own _ _ _=>trivial
 |dead=>trivial
 |dF _ _=>trivial
 |dK cs=>exact fun s hs=>nU (aT h s hs)
 |jR g cs=>exact fun s hs=>nU (aT h s hs)
def rowAt(mem:List Row)(i:Nat):Option Row:=mem[i]?
def fz.sv:fz→SV
 |.a x=>x.sv
 |.row l=>.dD l
 |.kT t i off=>.kT t i off
theorem fz.tG{β:Env}{a:fz}:a.sv.den β=a.den β:=by
 cases a with
 |a x=>exact Atom.tG
 |row l=>rfl
 |kT t i off=>rfl
theorem fz.Ec{Q:Nat→Prop}{a:fz}(h:a.on Q):a.sv.on Q:=by
 cases a with
 |a x=>exact Atom.Ec h
 |row l=>exact h
 |kT t i off=>exact h
def Jm(P:Program)(f:FuncId):Bool:=match P.funcs[f]? with
 |some fn=>match fn.name== "runtime.NumGoroutine"||fn.body.isNone with
  |true=>false
  |false=>true
 |none=>false
def vP(P:Program)(e:Operand→Option SV)(x:Operand):Option (FuncId×List SV):=match e x with
 |some sv=>match sv with
  |.val v=>match v with
   |.func fn first cap=>match fn with
    |.func f=>match first.toList with
     | []=>match Jm P f with
      |true=>some (f,cap.toList.map .val)
      |false=>none
     |_=>none
    |_=>none
   |_=>none
  |.Fm f l=>match Jm P f with
   |true=>some (f,l.map Atom.sv)
   |false=>none
  |_=>none
 |none=>none
inductive Lt where
 |no
 |val (sv:SV)
 |call (f:FuncId) (args:List SV) (g:cC)
 |iG (t:TypeId) (cs:List Value) (l:List (Nat×TypeId×Nat))
 |FN (t:TypeId) (l:List SV) (len:Nat)
def km(e:Operand→Option SV):Nat→List (Nat×Operand)→Option (List SV)
 |_,[]=>some []
 |k,p::r=>match Nat.beq p.1 k with
  |true=>match e p.2 with
   |some sv=>match km e (k+1) r with
    |some l=>some (sv::l)
    |none=>none
   |none=>none
  |false=>none
def zg:SV→Option (List Atom)
 |.val v=>some (v.cells.toList.map .v)
 |.own i=>some [.o i]
 |.ptr i off=>some [.p i off]
 |.kQ i off len cut=>some [.s i off len cut]
 |.dD l=>some l
 |_=>none
theorem BS{β:Env}{sv:SV}{l:List Atom}(h:zg sv=some l):(sv.den β).cells.toList=l.map (Atom.den β):=by
 cases sv with
 |val v=>cases h;rw[List.map_map];show v.cells.toList=_;exact(List.map_id _).symm
 |own i=>cases h;rfl
 |ptr i off=>cases h;rfl
 |kQ i off len cut=>cases h;rfl
 |dD l=>cases h;rfl
 |_=>cases h
theorem DO{Q:Nat→Prop}{sv:SV}{l:List Atom}(h:zg sv=some l)(hq:sv.on Q):∀a∈l,a.on Q:=by
 cases sv with
 |val v=>
  cases h
  intro a ha
  obtain⟨_,_,rfl⟩:=List.mem_map.1 ha
  trivial
 |own i=>cases h;intro a ha;rw[List.mem_singleton.1 ha];exact hq
 |ptr i off=>cases h;intro a ha;rw[List.mem_singleton.1 ha];exact hq
 |kQ i off len cut=>cases h;intro a ha;rw[List.mem_singleton.1 ha];exact hq
 |dD l=>cases h;exact hq
 |_=>cases h
def rl(e:Operand→Option SV):List (Nat×Operand)→Option (List (Nat×List Atom))
 | []=>some []
 |p::r=>match e p.2 with
  |some sv=>match zg sv with
   |some l=>match rl e r with
    |some q=>some ((p.1,l)::q)
    |none=>none
   |none=>none
  |none=>none
def xC(place:Nat→Option (Nat×Nat)):List Atom→List (Nat×List Atom)→Option (List Atom)
 |cells,[]=>some cells
 |cells,p::rest=>match place p.1 with
  |none=>none
  |some q=>match Nat.beq p.2.length q.2&&Nat.ble (q.1+p.2.length) cells.length with
   |true=>xC place (cells.take q.1++(p.2++cells.drop (q.1+p.2.length))) rest
   |false=>none
def placesOf(P:Program):List Field→Option (List (Nat×Nat))
 | []=>some []
 |f::r=>match P.info? f.type with
  |some i=>match placesOf P r with
   |some l=>some ((f.offset,i.size)::l)
   |none=>none
  |none=>none
theorem r9{P:Program}:∀{fs:List Field} {l:List (Nat×Nat)},placesOf P fs=some l→fs.mapM (fun f=>(P.info? f.type).map fun i=>(f.offset,i.size))=some l
 | [],l,h=>by cases h;rfl
 |f::r,l,h=>by
  unfold placesOf at h
  split at h
  ·rename_i i hi
   split at h
   ·rename_i q hq
    cases h
    rw[List.mapM_cons,hi,r9 hq];rfl
   ·cases h
  ·cases h
theorem vt(off:Nat):∀(l:List Value) (k:Nat) (cells:Array Value),off+k+l.length≤cells.size→
  ((l.zipIdx k).foldl (fun cs (p:Value×Nat)=>cs.setIfInBounds (off+p.2) p.1) cells).toList=cells.toList.take (off+k)++(l++cells.toList.drop (off+k+l.length))
 | [],k,cells,h=>by simp
 |v::l,k,cells,h=>by
  simp only[List.length_cons]at h
  rw[List.zipIdx_cons,List.foldl_cons,vt off l (k+1) _ (by simp;omega)]
  have hlt:off+k < cells.toList.length:=by simp;omega
  obtain⟨m,hm⟩:∃m,m=off+k:=⟨_,rfl⟩
  simp only[Array.toList_setIfInBounds,List.length_cons]
  rw[show off+(k+1)=m+1 by omega,←hm]
  rw[←hm]at hlt
  have hl:(cells.toList.take m).length=m:=by rw[List.length_take];omega
  have e0:cells.toList.set m v=cells.toList.take m++v::cells.toList.drop (m+1):=by rw[List.set_eq_take_append_cons_drop,if_pos hlt]
  have e1:(cells.toList.set m v).take (m+1)=cells.toList.take m++[v]:=by
   rw[e0,show cells.toList.take m++v::cells.toList.drop (m+1)=(cells.toList.take m++[v])++cells.toList.drop (m+1)by simp]
   exact List.take_left' (by rw[List.length_append,hl];rfl)
  have e2:(cells.toList.set m v).drop (m+1+l.length)=cells.toList.drop (m+(l.length+1)):=by
   rw[e0,show cells.toList.take m++v::cells.toList.drop (m+1)=(cells.toList.take m++[v])++cells.toList.drop (m+1)by simp,List.drop_append,List.drop_of_length_le (by rw[List.length_append,hl];simp)]
   rw[List.nil_append,List.length_append,hl,List.drop_drop]
   congr 1
   simp only[List.length_cons,List.length_nil]
   omega
  rw[e1,e2]
  simp
theorem Bh{β:Env}{place:Nat→Option (Nat×Nat)}:∀{ps:List (Nat×List Atom)} {vs:List (Nat×Value)} {cells out:List Atom},xC place cells ps=some out→vs.map (fun p=>(p.1,p.2.cells.toList))=ps.map (fun p=>(p.1,p.2.map (Atom.den β)))→
  Instr.fill place (cells.map (Atom.den β)).toArray vs=some (out.map (Atom.den β)).toArray
 | [],[],cells,out,h,_=>by cases h;rfl
 | [],_::_,_,_,_,hv=>by cases hv
 |_::_,[],_,_,_,hv=>by cases hv
 |p::ps,q::vs,cells,out,h,hv=>by
  rw[List.map_cons,List.map_cons]at hv
  injection hv with h1 h2
  injection h1 with h3 h4
  unfold xC at h
  unfold Instr.fill
  rw[h3]
  split at h
  ·cases h
  ·rename_i r hr
   rw[hr]
   split at h
   ·rename_i hb
    rw[Bool.and_eq_true]at hb
    have l1:p.2.length=r.2:=Nat.eq_of_beq_eq_true hb.1
    have l2:r.1+p.2.length≤cells.length:=Nat.le_of_ble_eq_true hb.2
    have hsz:q.2.cells.size=p.2.length:=by
     have:=congrArg List.length h4
     simpa using this
    have hz:q.2.cells.zipIdx.foldl (fun cs (p:Value×Nat)=>cs.setIfInBounds (r.1+p.2) p.1) (cells.map (Atom.den β)).toArray=((cells.take r.1++(p.2++cells.drop (r.1+p.2.length))).map (Atom.den β)).toArray:=by
     apply Array.toList_inj.1
     rw[←Array.foldl_toList,Array.toList_zipIdx,vt r.1 _ 0 _ (by simp[hsz];omega),h4]
     simp
    show(if(decide (q.2.cells.size≠r.2)||decide (r.1+q.2.cells.size > (cells.map (Atom.den β)).toArray.size))=true then none else Instr.fill place (q.2.cells.zipIdx.foldl (fun cs (p:Value×Nat)=>cs.setIfInBounds (r.1+p.2) p.1) (cells.map (Atom.den β)).toArray) vs)=_
    rw[if_neg (by simp[hsz,l1];omega),hz]
    exact Bh h h2
   ·cases h
theorem Bi{Q:Nat→Prop}{place:Nat→Option (Nat×Nat)}:∀{ps:List (Nat×List Atom)} {cells out:List Atom},xC place cells ps=some out→(∀a∈cells,a.on Q)→(∀p∈ps,∀a∈p.2,a.on Q)→∀a∈out,a.on Q
 | [],cells,out,h,hc,_=>by cases h;exact hc
 |p::ps,cells,out,h,hc,hp=>by
  unfold xC at h
  split at h
  ·cases h
  ·split at h
   ·refine Bi h (fun a ha=>?_) fun q hq=>hp q (List.mem_cons_of_mem _ hq)
    rcases List.mem_append.1 ha with ha|ha
    ·exact hc a (List.mem_of_mem_take ha)
    ·rcases List.mem_append.1 ha with ha|ha
     ·exact hp p (by simp) a ha
     ·exact hc a (List.mem_of_mem_drop ha)
   ·cases h
theorem ur{β:Env}{a:Act}{e:Operand→Option SV}:∀{l:List (Nat×Operand)} {ps:List (Nat×List Atom)},rl e l=some ps→(∀p∈l,∀sv,e p.2=some sv→a.eval p.2=sv.den β)→
  (l.map fun p=>(p.1,a.eval p.2)).map (fun p=>(p.1,p.2.cells.toList))=ps.map (fun p=>(p.1,p.2.map (Atom.den β)))
 | [],ps,h,_=>by cases h;rfl
 |p::l,ps,h,he=>by
  unfold rl at h
  split at h
  ·rename_i sv hsv
   split at h
   ·rename_i as has
    split at h
    ·rename_i q hq
     cases h
     have ih:=ur (β:=β) (a:=a) hq fun x hx=>he x (List.mem_cons_of_mem _ hx)
     have h1:=he p (by simp) sv hsv
     simp only[List.map_cons]at ih ⊢
     rw[ih,h1,BS has]
    ·cases h
   ·cases h
  ·cases h
theorem wW{Q:Nat→Prop}{e:Operand→Option SV}:∀{l:List (Nat×Operand)} {ps:List (Nat×List Atom)},rl e l=some ps→(∀p∈l,∀sv,e p.2=some sv→sv.on Q)→∀p∈ps,∀a∈p.2,a.on Q
 | [],ps,h,_=>by cases h;intro p hp;cases hp
 |p::l,ps,h,he=>by
  unfold rl at h
  split at h
  ·rename_i sv hsv
   split at h
   ·rename_i as has
    split at h
    ·rename_i q hq
     cases h
     intro x hx
     rcases List.mem_cons.1 hx with rfl|hx
     ·exact DO has (he p (by simp) sv hsv)
     ·exact wW hq (fun y hy=>he y (List.mem_cons_of_mem _ hy)) x hx
    ·cases h
   ·cases h
  ·cases h
def qK(P:Program)(e:Operand→Option SV)(t:TypeId)(parts:List (Nat×Operand)):Option (List Atom):=match P.underlying t with
 |some (.struct fields)=>match P.info? t with
  |some it=>match it.zero with
   |some z=>match placesOf P fields.toList with
    |some places=>match rl e parts with
     |some ps=>xC (fun i=>places[i]?) (z.cells.toList.map .v) ps
     |none=>none
    |none=>none
   |none=>none
  |none=>none
 |_=>none
theorem DM{P:Program}{β:Env}{a:Act}{e:Operand→Option SV}{t:TypeId}{parts:Array (Nat×Operand)}{l:List Atom}{W:World}(h:qK P e t parts.toList=some l)(he:∀p∈parts.toList,∀sv,e p.2=some sv→a.eval p.2=sv.den β) :
  (Instr.build t (parts.map fun p=>(p.1,a.eval p.2))).run P W=.ok (.agg (l.map (Atom.den β)).toArray) W:=by
 unfold qK at h
 split at h
 ·rename_i fields hu
  split at h
  ·rename_i it hi
   split at h
   ·rename_i z hz
    split at h
    ·rename_i places hp
     split at h
     ·rename_i ps hps
      refine run_build W t _ _ ?_
      unfold Program.built
      rw[hi,hu]
      simp only[hz,r9 hp]
      have hm:=ur (β:=β) (a:=a) hps he
      have hf:=Bh (β:=β) h (vs:=parts.toList.map fun p=>(p.1,a.eval p.2)) hm
      have hc:(z.cells.toList.map Atom.v).map (Atom.den β)=z.cells.toList:=by
       rw[List.map_map]
       exact List.map_id _
      rw[hc]at hf
      rw[Array.toList_map]
      simpa using hf
     ·cases h
    ·cases h
   ·cases h
  ·cases h
 ·cases h
theorem DL{P:Program}{Q:Nat→Prop}{e:Operand→Option SV}{t:TypeId}{parts:List (Nat×Operand)}{l:List Atom}(h:qK P e t parts=some l)(he:∀p∈parts,∀sv,e p.2=some sv→sv.on Q):∀a∈l,a.on Q:=by
 unfold qK at h
 split at h
 ·split at h
  ·split at h
   ·split at h
    ·split at h
     ·rename_i ps hps
      refine Bi h (fun a ha=>?_) (wW hps he)
      obtain⟨_,_,rfl⟩:=List.mem_map.1 ha
      trivial
     ·cases h
    ·cases h
   ·cases h
  ·cases h
 ·cases h
def Bu(P:Program)(t:TypeId)(s:SV)(v:Value):Bool:=match s with
 |.mP _ _ _ _=>match v with
  |.slice none _ _=>match P.underlying t with
   |some (.slice _)=>true
   |_=>false
  |_=>false
 |.ptr _ _=>match v with
  |.pointer none=>match P.underlying t with
   |some (.pointer _)=>true
   |_=>false
  |_=>false
 |.kT _ _ _=>match v with
  |.nilIface=>match P.underlying t with
   |some (.interface _)=>true
   |_=>false
  |_=>false
 |_=>false
theorem Kq{P:Program}{t:TypeId}{s:SV}{v:Value}{β:Env}{W:World}(h:Bu P t s v=true)(d:Nat):(Op.equalIn (d+1) t (s.den β) v).run P W=.ok false W:=by
 unfold Bu at h
 split at h
 ·split at h
  ·split at h
   ·rename_i hu
    simp[Op.equalIn,SV.den,run_underlying hu]
   ·cases h
  ·cases h
 ·split at h
  ·split at h
   ·rename_i hu
    simp[Op.equalIn,SV.den,run_underlying hu]
   ·cases h
  ·cases h
 ·split at h
  ·split at h
   ·rename_i hu
    simp[Op.equalIn,SV.den,run_underlying hu]
   ·cases h
  ·cases h
 ·cases h
theorem Dy{P:Program}{t:TypeId}{s:SV}{v:Value}{β:Env}(h:Bu P t s v=true):(∃a n c n' c',s.den β=.slice a n c∧v=.slice none n' c')∨(∃a,s.den β=.pointer a∧v=.pointer none)∨(∃t' p,s.den β=.iface t' p∧v=.nilIface):=by
 cases s with
 |mP b off n c=>
  cases v with
  |slice a n' c'=>
   cases a with
   |none=>exact .inl ⟨_,_,_,_,_,rfl,rfl⟩
   |some _=>cases h
  |_=>cases h
 |ptr b off=>
  cases v with
  |pointer a=>
   cases a with
   |none=>exact .inr (.inl ⟨_,rfl,rfl⟩)
   |some _=>cases h
  |_=>cases h
 |kT t' b off=>
  cases v with
  |nilIface=>exact .inr (.inr ⟨_,_,rfl,rfl⟩)
  |_=>cases h
 |_=>cases h
theorem Kp{P:Program}{t:TypeId}{s:SV}{v:Value}{β:Env}{W:World}(h:Bu P t s v=true)(x y:Operand) :
  (do eqGuard .eql t x y (s.den β) v;binOp .eql t (s.den β) v:Sem Value).run P W=.ok (.bool false) W∧(do eqGuard .neq t x y (s.den β) v;binOp .neq t (s.den β) v:Sem Value).run P W=.ok (.bool true) W:=by
 have he:=Kq (β:=β) (W:=W) h 9999
 have hf:=Dy (β:=β) h
 rcases hf with⟨_,_,_,_,_,h1,h2⟩ | ⟨_,h1,h2⟩ | ⟨_,_,h1,h2⟩
 ·subst h2
  rw[h1]at he ⊢
  constructor<;>simp[eqGuard,binOp,Op.equal,Op.maxDepth,he]
 ·subst h2
  rw[h1]at he ⊢
  constructor<;>simp[eqGuard,binOp,Op.equal,Op.maxDepth,he]
 ·subst h2
  rw[h1]at he ⊢
  constructor<;>simp[eqGuard,binOp,Op.equal,Op.maxDepth,he]
def Bd(P:Program)(H:List (Nat×Hint))(e:Operand→Option SV)(o:Oper):Lt:=match o.op with
 |.call c=>match hint H o.dst with
  |some (.aq g)=>match c.callee with
   |.value x=>match vP P e x with
    |some p=>match jH e c.args.toList with
     |some l=>.call p.1 (l++p.2) g
     |none=>.no
    |none=>.no
   |_=>.no
  |_=>.no
 |.indexAddr t x ix=>match e x with
  |some (.mP b off len _)=>match e ix with
   |some (.val (.int _ k))=>match P.underlying t with
    |some (.slice elem)=>match P.info? elem with
     |some inf=>match decide (0≤k∧k < len)with
      |true=>.val (.ptr b (off+k.toNat*inf.size))
      |false=>.no
     |none=>.no
    |_=>.no
   |_=>.no
  |_=>.no
 |.makeInterface t x=>match e x with
  |some (.ptr i off)=>match P.concrete t with
   |true=>.val (.kT t i off)
   |false=>.no
  |_=>.no
 |.extract x k=>match e x with
  |some (.oE l)=>match l[k]? with
   |some c=>.val c.sv
   |none=>.no
  |_=>.no
 |.makeFunc fn first captured=>match fn with
  |.func f=>match first.toList with
   | []=>match jH e captured.toList with
    |some l=>match gA l with
     |some as=>.val (.Fm f as)
     |none=>.no
    |none=>.no
   |_=>.no
  |_=>.no
 |.buildSlice t len parts=>match km e 0 parts.toList with
  |some l=>match P.underlying t with
   |some (.slice el)=>match P.info? el with
    |some inf=>match inf.zero with
     |some z=>match fj SV.one l&&(Nat.beq l.length len&&(Nat.beq inf.size 1&&(Nat.beq z.cells.toList.length 1&&(Nat.ble len 16777216&&Nat.blt 0 len))))with
      |true=>.FN el l len
      |false=>.no
     |none=>.no
    |none=>.no
   |_=>.no
  |none=>.no
 |.alloc t=>match hint H o.dst with
  |some (.uH l)=>match P.info? t with
   |some inf=>match inf.zero with
    |some z=>.iG t z.cells.toList l
    |none=>.no
   |none=>.no
  |_=>.no
 |.box t x=>match hint H o.dst with
  |some (.uH l)=>match e x with
   |some (.val v)=>.iG t v.cells.toList l
   |_=>.no
  |_=>.no
 |.build t parts=>match fj (fun p=>isVal e p.2) parts.toList with
  |true=>.no
  |false=>match qK P e t parts.toList with
   |some l=>.val (.dD l)
   |none=>.no
 |.binOp op t x y _=>match e x with
  |some s=>match e y with
   |some (.val v)=>match Bu P t s v with
    |true=>match op with
     |.eql=>.val (.val (.bool false))
     |.neq=>.val (.val (.bool true))
     |_=>.no
    |false=>.no
   |_=>.no
  |none=>.no
 |_=>.no
def Lt.Ok(P:Program)(β:Env)(W:World)(a:Act)(o:Oper):Lt→Prop
 |.no=>True
 |.val sv=>(execOp a.eval o).run P W=.ok (.value (sv.den β)) W
 |.call f args _=>(execOp a.eval o).run P W=.ok (.enter f (args.map (SV.den β)).toArray) W
 |.iG t cs _=>(execOp a.eval o).run P W=.ok (.value (.pointer (some ⟨W.heap.size,0,none⟩))) (W.alloc (.cells cs.toArray t))
 |.FN t l len=>(execOp a.eval o).run P W=.ok (.value (.slice (some ⟨W.heap.size,0,none⟩) len len)) (W.alloc (.cells (l.map (SV.den β)).toArray t))
def Lt.On(Q:Nat→Prop):Lt→Prop
 |.val sv=>sv.on Q
 |.FN _ l _=>∀s∈l,s.on Q
 |_=>True
section
variable{P:Program}{H:List (Nat×Hint)}{β:Env}{W:World}{a:Act}{o:Oper}{e:Operand→Option SV}
theorem Gm{f:FuncId}(h:Jm P f=true)(args:Array Value):(callFunc f args).run P W=.ok (.enter f args) W:=by
 unfold Jm at h
 split at h
 ·rename_i fn hf
  split at h
  ·cases h
  ·rename_i hb
   rw[Bool.or_eq_false_iff]at hb
   have hb1:¬fn.name= "runtime.NumGoroutine":=by simpa using hb.1
   have hb2:¬fn.body=none:=by intro h;rw[h]at hb;exact absurd hb.2 (by decide)
   simp[callFunc,hf,hb1,hb2]
 ·cases h
theorem Hb{x:Operand}{p:FuncId×List SV}(h:vP P e x=some p)(hx:∀sv,e x=some sv→a.eval x=sv.den β):Jm P p.1=true∧∃cap:Array Value,a.eval x=.func (.func p.1) #[] cap∧cap.toList=p.2.map (SV.den β):=by
 unfold vP at h
 split at h
 ·rename_i sv hsv
  have hx:=hx _ hsv
  split at h
  ·rename_i v
   split at h
   ·rename_i fn first cap
    split at h
    ·rename_i f
     split at h
     ·rename_i hfirst
      split at h
      ·rename_i hf
       cases h
       have:first=#[]:=by rw[←Array.toArray_toList (xs:=first),hfirst]
       subst this
       exact⟨hf,cap,hx,by simp[SV.den,Function.comp_def]⟩
      ·cases h
     ·cases h
    ·cases h
   ·cases h
  ·rename_i f l
   split at h
   ·rename_i hf
    cases h
    refine⟨hf,_,hx,?_⟩
    rw[List.map_map]
    exact List.map_congr_left fun a _=>Atom.tG.symm
   ·cases h
  ·cases h
 ·cases h
theorem qf{β:Env}{a:Act}{e:Operand→Option SV}:∀{l:List (Nat×Operand)} {k:Nat} {vs:List SV},km e k l=some vs→(∀i x,(i,x)∈l→∀sv,e x=some sv→a.eval x=sv.den β)→(l.map fun p=>(p.1,a.eval p.2))=((vs.map (SV.den β)).zipIdx k).map fun x=>(x.2,x.1)
 | [],k,vs,h,_=>by
  have:vs=[]:=by simpa[km]using h.symm
  subst this
  rfl
 | (i,x)::r,k,vs,h,he=>by
  unfold km at h
  simp only at h
  split at h
  ·rename_i hi
   split at h
   ·rename_i v hx
    split at h
    ·rename_i l hl
     cases h
     have h1:=qf hl fun i x hm=>he i x (List.mem_cons_of_mem _ hm)
     have h2:=he i x (by simp) _ hx
     rw[List.map_cons,List.map_cons,List.zipIdx_cons,List.map_cons,h1]
     simp only[h2,Nat.eq_of_beq_eq_true hi]
    ·cases h
   ·cases h
  ·cases h
theorem sa{e:Operand→Option SV}:∀{l:List (Nat×Operand)} {k:Nat} {vs:List SV},km e k l=some vs→∀s∈vs,∃i x,(i,x)∈l∧e x=some s
 | [],k,vs,h,s,hs=>by
  have:vs=[]:=by simpa[km]using h.symm
  subst this
  cases hs
 | (i,x)::r,k,vs,h,s,hs=>by
  unfold km at h
  simp only at h
  split at h
  ·split at h
   ·rename_i v hx
    split at h
    ·rename_i l hl
     cases h
     rcases List.mem_cons.1 hs with rfl|hs
     ·exact⟨i,x,by simp,hx⟩
     ·obtain⟨i',x',hm,hx'⟩:=sa hl s hs
      exact⟨i',x',List.mem_cons_of_mem _ hm,hx'⟩
    ·cases h
   ·cases h
  ·cases h
theorem Fb(he:∀x∈o.op.operands,∀sv,e x=some sv→a.eval x=sv.den β):(Bd P H e o).Ok P β W a o:=by
 unfold Bd
 split
 ·rename_i c ho
  split
  ·rename_i g hg
   split
   ·rename_i x hcal
    split
    ·rename_i p hp
     split
     ·rename_i l hl
      obtain⟨callee,args,ats⟩:=c
      simp only at hcal hl
      subst hcal
      obtain⟨hf,cap,hev,hcap⟩:=Hb (a:=a) (β:=β) hp (fun sv hsv=>he x (by simp[ho,Op.operands,Call.operands]) sv hsv)
      have hm:=nV (β:=β) (a:=a) hl (fun x hx sv hsv=>he x (by
       have hx:x∈args:=Array.mem_toList_iff.1 hx
       simp[ho,Op.operands,Call.operands,hx]) sv hsv)
      have hm2:args.map a.eval++cap=((l++p.2).map (SV.den β)).toArray:=by
       rw[List.map_append,←hm,←hcap,←Array.toList_map,←Array.toList_append,Array.toArray_toList]
      show _=_
      unfold execOp
      simp only[ho,resolve,hev,Deferred.ofValue,invoke,Sem.run_bind,Sem.run_pure,Result.andThen_ok]
      rw[show(#[]:Array Value)++args.map a.eval=args.map a.eval from by simp]
      rw[hm2]
      exact Gm hf _
     ·trivial
    ·trivial
   ·trivial
  ·trivial
 ·rename_i t x ix ho
  split
  ·rename_i b off len cap hx
   have hx:=he x (by simp[ho,Op.operands]) _ hx
   split
   ·rename_i kk k hk
    have hk:=he ix (by simp[ho,Op.operands]) _ hk
    split
    ·rename_i elem hu
     split
     ·rename_i inf hi
      split
      ·rename_i hb
       have hb:=of_decide_eq_true hb
       show _=_
       unfold execOp
       simp[ho,hx,hk,SV.den,Instr.indexAt,run_underlying hu,asIntOf,hb,sizeOf,typeInfo,hi,Addr.add_lit]
      ·trivial
     ·trivial
    ·trivial
   ·trivial
  ·trivial
 ·rename_i t x ho
  split
  ·rename_i i off hx
   have hx:=he x (by simp[ho,Op.operands]) _ hx
   split
   ·rename_i hc
    show _=_
    unfold execOp
    simp only[ho,hx,SV.den,Sem.run_bind,run_makeInterface W t _ hc,Result.andThen_ok,Sem.run_pure]
   ·trivial
  ·trivial
 ·rename_i x k ho
  split
  ·rename_i l hx
   have hx:=he x (by simp[ho,Op.operands]) _ hx
   split
   ·rename_i c hc
    show _=_
    unfold execOp
    rw[fz.tG]
    simp[ho,hx,show(SV.oE l).den β=.tuple (l.map (fz.den β)).toArray from rfl,Instr.extract,hc]
   ·trivial
  ·trivial
 ·rename_i fn first captured ho
  split
  ·rename_i f
   split
   ·rename_i hfirst
    split
    ·rename_i l hl
     split
     ·rename_i as has
      have hm:=nV (β:=β) (a:=a) hl (fun x hx sv hsv=>he x (by
       have hx:x∈captured:=Array.mem_toList_iff.1 hx
       simp[ho,Op.operands,hx]) sv hsv)
      have:first=#[]:=by rw[←Array.toArray_toList (xs:=first),hfirst]
      subst this
      show _=_
      unfold execOp
      simp only[ho,Instr.makeFunc,Sem.run_bind,Sem.run_pure,Result.andThen_ok,SV.den]
      rw[←mL has,←hm,←Array.toList_map,Array.toArray_toList,show Array.map a.eval #[]=#[]from by simp]
     ·trivial
    ·trivial
   ·trivial
  ·trivial
 ·rename_i t len parts ho
  split
  ·rename_i l hl
   have hp:=qf hl (fun i x hm sv hsv=>he x (by
    simp only[ho,Op.operands]
    simp only[List.mem_toArray,List.mem_map]
    exact⟨(i,x),hm,rfl⟩) sv hsv)
   split
   ·rename_i el hu
    split
    ·rename_i inf hi
     split
     ·rename_i z hz
      split
      ·rename_i hh
       simp only[Bool.and_eq_true]at hh
       obtain⟨h1,h2,h3,h4,h5,h6⟩:=hh
       have h1:=aT h1
       have h3:=Nat.eq_of_beq_eq_true h3
       have h2:=Nat.eq_of_beq_eq_true h2
       have h4:=Nat.eq_of_beq_eq_true h4
       have h5:=Nat.le_of_ble_eq_true h5
       have h6:0 < len:=Nat.le_of_ble_eq_true h6
       have h1':∀v∈l.map (SV.den β),v.cells.size=inf.size:=fun v hv=>by
        obtain⟨s,hs,rfl⟩:=List.mem_map.1 hv
        rw[(om (h1 s hs) β).1,h3];rfl
       have hflat:(l.map (SV.den β)).flatMap (fun v=>v.cells.toList)=l.map (SV.den β):=by
        have:∀l:List SV,(∀s∈l,s.one=true)→(l.map (SV.den β)).flatMap (fun v=>v.cells.toList)=l.map (SV.den β):=by
         intro l
         induction l with
         |nil=>intro _;rfl
         |cons s l ih=>
          intro h
          rw[List.map_cons,List.flatMap_cons,(om (h s (by simp)) β).1,ih fun s hs=>h s (List.mem_cons_of_mem _ hs)]
          rfl
        exact this l h1
       show _=_
       have hfill:=Great.fill_whole (s:=inf.size) (by omega) (l.map (SV.den β)) ((Array.range (len*inf.size)).map (z.cells[·%z.cells.size]!)) h1' (by simp[h2])
       rw[←hp]at hfill
       have hrun:=run_buildSlice (P:=P) W t el len (parts.map fun(i,x)=>(i,a.eval x)) _ inf z hu hi hz (by rw[h3];simp at h4 ⊢;omega) (by rw[h3];simp at h4 ⊢;omega) (by rw[Array.toList_map];exact hfill)
       unfold execOp
       simp only[ho,Sem.run_bind,hrun,Result.andThen_ok,Sem.run_pure]
       rw[hflat]
      ·trivial
     ·trivial
    ·trivial
   ·trivial
  ·trivial
 ·rename_i t ho
  split
  ·split
   ·rename_i inf hi
    split
    ·rename_i z hz
     show _=_
     have:=Jf (P:=P) (w0:=⟨W,[],fun _ _=>False⟩) (H:=[]) (β:=β) (W:=W) (a:=a) (o:=o) (e:=e) (row:=fun _=>none) (hn:=none) (ai.refl _ _) he (fun i r _ hi=>by cases hi)
     unfold fI at this
     simp only[ho,hi,hz]at this
     exact this
    ·trivial
   ·trivial
  ·trivial
 ·rename_i t x ho
  split
  ·split
   ·rename_i v hx
    have hx:=he x (by simp[ho,Op.operands]) _ hx
    show _=_
    unfold execOp
    simp[ho,hx,Instr.box,newVar,newRow,SV.den]
   ·trivial
  ·trivial
 ·rename_i t parts ho
  split
  ·trivial
  ·split
   ·rename_i l hl
    have hb:=DM (P:=P) (β:=β) (a:=a) (W:=W) hl fun p hp sv hsv=>he p.2 (by
     simp only[ho,Op.operands]
     simp only[List.mem_toArray,List.mem_map]
     exact⟨p,hp,rfl⟩) sv hsv
    show _=_
    unfold execOp
    simp only[ho,Sem.run_bind]
    rw[hb]
    rfl
   ·trivial
 ·rename_i op t x y yt ho
  split
  ·rename_i s hs
   split
   ·rename_i v hv
    split
    ·rename_i hq
     have hx:=he x (by simp[ho,Op.operands]) _ hs
     have hy:a.eval y=v:=he y (by simp[ho,Op.operands]) _ hv
     have hok:=Kp (β:=β) (W:=W) hq x y
     split
     ·show _=_
      unfold execOp
      simp only[ho,hx,hy,Sem.run_bind,Sem.run_pure]
      have:=hok.1
      simp only[Sem.run_bind]at this
      rw[this]
      rfl
     ·show _=_
      unfold execOp
      simp only[ho,hx,hy,Sem.run_bind,Sem.run_pure]
      have:=hok.2
      simp only[Sem.run_bind]at this
      rw[this]
      rfl
     ·trivial
    ·trivial
   ·trivial
  ·trivial
 ·trivial
theorem FJ{Q:Nat→Prop}{xs:List Operand}{l:List SV}(h:jH e xs=some l)(he:∀x∈xs,∀sv,e x=some sv→sv.on Q):∀s∈l,s.on Q:=fun s hs=>by
 obtain⟨x,hx,hsv⟩:=lP h s hs
 exact he x hx s hsv
theorem Fa{Q:Nat→Prop}(he:∀x∈o.op.operands,∀sv,e x=some sv→sv.on Q):(Bd P H e o).On Q:=by
 unfold Bd
 split
 ·repeat' split
  all_goals trivial
 ·rename_i t x ix ho
  split
  ·rename_i b off len cap hx
   have hx:=he x (by simp[ho,Op.operands]) _ hx
   repeat' split
   all_goals first|exact hx|trivial
  ·trivial
 ·rename_i t x ho
  split
  ·rename_i i off hx
   have hx:=he x (by simp[ho,Op.operands]) _ hx
   split
   ·exact hx
   ·trivial
  ·trivial
 ·rename_i x k ho
  split
  ·rename_i l hx
   have hx:=he x (by simp[ho,Op.operands]) _ hx
   split
   ·rename_i c hc
    exact fz.Ec (hx c (List.mem_of_getElem? hc))
   ·trivial
  ·trivial
 ·rename_i fn first captured ho
  split
  ·split
   ·split
    ·rename_i l hl
     split
     ·rename_i as has
      exact oX has (FJ hl fun x hx sv hsv=>he x (by
       have hx:x∈captured:=Array.mem_toList_iff.1 hx
       simp[ho,Op.operands,hx]) sv hsv)
     ·trivial
    ·trivial
   ·trivial
  ·trivial
 ·rename_i t len parts ho
  split
  ·rename_i l hl
   have hl:∀s∈l,s.on Q:=fun s hs=>by
    obtain⟨i,x,hm,hx⟩:=sa hl s hs
    refine he x ?_ s hx
    simp only[ho,Op.operands]
    simp only[List.mem_toArray,List.mem_map]
    exact⟨(i,x),hm,rfl⟩
   repeat' split
   all_goals first|exact hl|trivial
  ·trivial
 ·repeat' split
  all_goals trivial
 ·repeat' split
  all_goals trivial
 ·rename_i t parts ho
  split
  ·trivial
  ·split
   ·rename_i l hl
    exact DL hl fun p hp sv hsv=>he p.2 (by
     simp only[ho,Op.operands]
     simp only[List.mem_toArray,List.mem_map]
     exact⟨p,hp,rfl⟩) sv hsv
   ·trivial
 ·repeat' split
  all_goals trivial
 ·trivial
end
def cE(β:Env)(row:Nat→Option Row)(i:Nat):Option Nat:=match row i with
 |some r=>av β i r
 |none=>none
structure eF(b:aU)(β:Env)(W:World)(row:Nat→Option Row)(see:List Nat):Prop where
 aG:ai b.S b.w W
 held:∀i∈see,∀r,row i=some r→aX β W i r
 new:∀i∈see,∀r k,row i=some r→av β i r=some k→k∈b.S∨b.w.heap.size≤k
 inj:∀i∈see,∀j∈see,∀r r' k,row i=some r→row j=some r'→av β i r=some k→av β j r'=some k→i=j
def cC.ec(β:Env)(row:Nat→Option Row)(g:cC):List Nat:=(g.gk.map (·.1)++g.kill).filterMap (cE β row)
structure Cf(β:Env)(W:World)(row:Nat→Option Row)(m:Nat)(g:cC)(e:Ending)(w':World)(β':Env):Prop where
 same:β.same β' (· < m)
 ret:e=.returned (g.ret.den β')
 gk:∀q∈g.gk,aX β' w' q.1 q.2
 new:∀(k:Nat) (r:Row),g.new[k]?=some r→aX β' w' (m+k) r
 from_:∀(k:Nat) (r:Row) (x:Nat),g.new[k]?=some r→av β' (m+k) r=some x→x∈g.kill.filterMap (cE β row)∨W.heap.size≤x
 apart:∀(k k':Nat) (r r':Row) (x:Nat),g.new[k]?=some r→g.new[k']?=some r'→av β' (m+k) r=some x→av β' (m+k') r'=some x→k=k'
 aG:ai (g.ec β row) W w'
def aY(b:aU)(β:Env)(W:World)(row:Nat→Option Row)(m:Nat)(g:cC)(e:Ending)(w':World):Prop:=
 ((∀p,g.CO=some p→p)∧∃β',Cf β W row m g e w' β')∨(g.CO.isSome=true∧∃chain,e=.panicked chain∧b.PP chain w'∧ai (g.ec β row) W w')
def RN(p:Option Prop)(K:Prop):Prop:=match p with
 |none=>K
 |some q=>q→K
theorem M9{p:Option Prop}{K:Prop}(h:RN p K)(hp:∀q,p=some q→q):K:=by
 cases p with
 |none=>exact h
 |some q=>exact h (hp q rfl)
def O1(r:SV)(p:Option Prop)(K:Prop):Prop:=match r with
 |.gone=>match p with
  |some q=>¬q
  |none=>K
 |_=>RN p K
theorem J6{r:SV}{p:Option Prop}{K:Prop}(h:O1 r p K)(hp:∀q,p=some q→q):K:=by
 cases r with
 |gone=>
  cases p with
  |none=>exact h
  |some q=>exact absurd (hp q rfl) h
 |_=>exact M9 h hp
def AA(i:Nat):List Nat→Bool
 | []=>false
 |j::r=>match Nat.beq j i with
  |true=>true
  |false=>AA i r
theorem ny{i:Nat}:∀{l:List Nat},AA i l=true↔i∈l
 | []=>by simp[AA]
 |j::r=>by
  unfold AA
  split
  ·rename_i h
   rw[Nat.eq_of_beq_eq_true h]
   simp
  ·rename_i h
   have:j≠i:=fun hh=>by rw[hh,Nat.beq_refl]at h;cases h
   rw[ny,List.mem_cons]
   exact⟨.inr,fun hh=>hh.resolve_left (Ne.symm this)⟩
def xB(i:Nat):List (Nat×Row)→Option Row
 | []=>none
 |q::r=>match Nat.beq q.1 i with
  |true=>some q.2
  |false=>xB i r
theorem vB{i:Nat}{r:Row}:∀{l:List (Nat×Row)},xB i l=some r→(i,r)∈l
 |q::l,h=>by
  unfold xB at h
  split at h
  ·rename_i hb
   cases h
   rw[←Nat.eq_of_beq_eq_true hb]
   simp
  ·exact List.mem_cons_of_mem _ (vB h)
theorem vC{i:Nat}:∀{l:List (Nat×Row)},xB i l=none→i∉l.map (·.1)
 | [],_=>by simp
 |q::l,h=>by
  unfold xB at h
  split at h
  ·cases h
  ·rename_i hb
   have:q.1≠i:=fun hh=>by rw[hh,Nat.beq_refl]at hb;cases hb
   rw[List.map_cons,List.mem_cons,not_or]
   exact⟨Ne.symm this,vC h⟩
def To(g:cC)(i:Nat)(r:Row):Row:=match AA i g.kill with
 |true=>an
 |false=>match xB i g.gk with
  |some r'=>r'
  |none=>r
def Bc(g:cC):Nat→List Row→List Row
 |_,[]=>[]
 |i,r::l=>To g i r::Bc g (i+1) l
theorem Bb{g:cC}:∀{l:List Row} {k i:Nat},(Bc g k l)[i]?=(l[i]?).map (To g (k+i))
 | [],k,i=>by simp[Bc]
 |r::l,k,0=>by simp[Bc]
 |r::l,k,i+1=>by
  rw[Bc,List.getElem?_cons_succ,List.getElem?_cons_succ,Bb,show k+1+i=k+(i+1)by omega]
theorem jb{g:cC}:∀{l:List Row} {k:Nat},(Bc g k l).length=l.length
 | [],_=>rfl
 |r::l,k=>by rw[Bc,List.length_cons,List.length_cons,jb]
def yS(mem:List Row)(g:cC):List Row:=Bc g 0 mem++g.new
theorem ku{mem:List Row}{g:cC}:(yS mem g).length=mem.length+g.new.length:=by
 rw[yS,List.length_append,jb]
def yW(mem:List Row)(i:Nat):Bool:=match mem[i]? with
 |some r=>r.fixed
 |none=>false
def J8(mem:List Row)(g:cC):Bool:=
 fj (fun q=>(yW mem q.1&&q.2.fixed)&&(mn (mem.length+g.new.length) q.2.cs&&AA q.1 g.see)) g.gk&&(fj (fun i=>AA i g.see) g.kill&&(fj (fun r=>mn (mem.length+g.new.length) r.cs) g.new&&zJ (mem.length+g.new.length) g.ret))
section
variable{P:Program}{w0:aU}{ds:List Deferred}{w w':World}{n:Nat}{β β':Env}{st:St}{a:Act}{g:cC}
theorem qD{mem:List Row}{i:Nat}(h:yW mem i=true):∃r,mem[i]?=some r∧r.fixed=true:=by
 unfold yW at h
 split at h
 ·rename_i r hr;exact⟨r,hr,h⟩
 ·cases h
theorem Hd.see(h:Hd ds w0 n β st a w)(l:List Nat):eF w0 β w (rowAt st.mem) l:=
 ⟨h.aG,fun i _ r hr=>h.b9 i r hr,fun i _ r k hr hk=>h.new i r k hr hk,fun i _ j _ r r' k hi hj hk hk'=>h.inj i j r r' k hi hj hk hk'⟩
theorem qW{row:Nat→Option Row}{k:Nat}(hk:k∈g.ec β row):∃i r,(i∈g.gk.map (·.1)∨i∈g.kill)∧row i=some r∧av β i r=some k:=by
 unfold cC.ec at hk
 obtain⟨i,hi,hb⟩:=List.mem_filterMap.1 hk
 unfold cE at hb
 split at hb
 ·rename_i r hr
  exact⟨i,r,List.mem_append.1 hi,hr,hb⟩
 ·cases hb
theorem EW{row:Nat→Option Row}{k:Nat}(hk:k∈g.kill.filterMap (cE β row)):∃i r,i∈g.kill∧row i=some r∧av β i r=some k:=by
 obtain⟨i,hi,hb⟩:=List.mem_filterMap.1 hk
 unfold cE at hb
 split at hb
 ·rename_i r hr
  exact⟨i,r,hi,hr,hb⟩
 ·cases hb
theorem Hd.ec(h:Hd ds w0 n β st a w):∀k∈g.ec β (rowAt st.mem),k∈w0.S∨w0.w.heap.size≤k:=fun k hk=>by
 obtain⟨i,r,_,hr,hb⟩:=qW hk
 exact h.new i r k hr hb
theorem Hd.Sa{e:Ending}(h:Hd ds w0 n β st a w)(hok:J8 st.mem g=true)(hr:Cf β w (rowAt st.mem) st.mem.length g e w' β'):Hd ds w0 n β' ⟨st.fr,yS st.mem g⟩ a w'∧g.ret.on (· < (yS st.mem g).length):=by
 unfold J8 at hok
 simp only[Bool.and_eq_true]at hok
 obtain⟨hu,_,hn,hret⟩:=hok
 have hu:=aT hu
 have hn:=aT hn
 have updOk:∀q∈g.gk,(∃r,st.mem[q.1]?=some r∧r.fixed=true)∧q.2.fixed=true∧q.2.cs.on (· < (yS st.mem g).length):=fun q hq=>by
  have:=hu q hq
  simp only[Bool.and_eq_true]at this
  exact⟨qD this.1.1,this.1.2,by rw[ku];exact jW this.2.1⟩
 have up:∀i,i < st.mem.length→i < (yS st.mem g).length:=fun i hi=>by rw[ku];omega
 have at_:∀(i:Nat) (r:Row),(yS st.mem g)[i]?=some r→(i < st.mem.length∧((∃r0,st.mem[i]?=some r0∧i∉g.kill∧((i,r)∈g.gk∨(i∉g.gk.map (·.1)∧r=r0)))∨r=an))∨∃k,i=st.mem.length+k∧g.new[k]?=some r:=by
  intro i r hi
  unfold yS at hi
  by_cases hlt:i < st.mem.length
  ·rw[List.getElem?_append_left (by rw[jb];exact hlt),Bb,Nat.zero_add]at hi
   obtain⟨r0,h0⟩:∃r0,st.mem[i]?=some r0:=⟨_,List.getElem?_eq_getElem hlt⟩
   rw[h0,Option.map_some,Option.some.injEq]at hi
   refine .inl ⟨hlt,?_⟩
   unfold To at hi
   split at hi
   ·exact .inr hi.symm
   ·rename_i hkk
    have hkk:i∉g.kill:=fun hh=>by rw[ny.2 hh]at hkk;cases hkk
    split at hi
    ·rename_i r' hr'
     subst hi
     exact .inl ⟨r0,h0,hkk,.inl (vB hr')⟩
    ·rename_i hr'
     exact .inl ⟨r0,h0,hkk,.inr ⟨vC hr',hi.symm⟩⟩
  ·rw[List.getElem?_append_right (by rw[jb];omega),jb]at hi
   exact .inr ⟨i - st.mem.length,by omega,hi⟩
 have oldBlk:∀(i:Nat) (r:Row) (k:Nat),i < st.mem.length→(∃r0,st.mem[i]?=some r0∧i∉g.kill∧((i,r)∈g.gk∨(i∉g.gk.map (·.1)∧r=r0)))→av β' i r=some k→∃r0,st.mem[i]?=some r0∧i∉g.kill∧av β i r0=some k:=by
  rintro i r k hlt ⟨r0,h0,hkk,hc⟩ hb
  refine⟨r0,h0,hkk,?_⟩
  rcases hc with hq|⟨_,rfl⟩
  ·obtain⟨⟨r1,h1,hf1⟩,hf,_⟩:=updOk _ hq
   simp only at h1 hf
   rw[h0]at h1
   cases h1
   rw[aH hf]at hb
   rw[aH hf1,(hr.same i hlt).1]
   exact hb
  ·rw[ba hr.same hlt];exact hb
 have deadBlk:∀(γ:Env) (i k:Nat),av γ i an≠some k:=fun γ i k hh=>by cases hh
 refine⟨⟨h.size,h.dn,fun t sv ht=>?_,fun i r hi=>?_,fun i r k hi hb=>?_,fun i j r r' k hi hj hb hb'=>?_,h.aG.seq hr.aG h.ec,fun t sv ht=>?_,fun i r hi=>?_⟩,?_⟩
 ·rw[h.get t sv ht,SV.ct hr.same (h.wj t sv ht)]
 ·rcases at_ i r hi with⟨hlt,hc|rfl⟩ | ⟨k,rfl,hk'⟩
  ·obtain⟨r0,h0,hkk,hc⟩:=hc
   rcases hc with hq|⟨hnu,rfl⟩
   ·exact hr.gk _ hq
   ·refine aX.congr hr.same hlt (h.wg i r h0) ((h.b9 i r h0).aG hr.aG fun k hb hm=>?_)
    obtain⟨j,r1,hj,h1,hb1⟩:=qW hm
    have:=h.inj i j r r1 k h0 h1 hb hb1
    subst this
    rcases hj with hj|hj
    ·exact hnu hj
    ·exact hkk hj
  ·trivial
  ·exact hr.new k r hk'
 ·rcases at_ i r hi with⟨hlt,hc|rfl⟩ | ⟨k',rfl,hk'⟩
  ·obtain⟨r0,h0,_,hb0⟩:=oldBlk i r k hlt hc hb
   exact h.new i r0 k h0 hb0
  ·exact absurd hb (deadBlk _ _ _)
  ·rcases hr.from_ k' r k hk' hb with hx|hx
   ·obtain⟨j,r1,_,h1,hb1⟩:=EW hx
    exact h.new j r1 k h1 hb1
   ·exact .inr (Nat.le_trans h.aG.size hx)
 ·have mixed:∀(i k':Nat) (r r':Row),i < st.mem.length→(∃r0,st.mem[i]?=some r0∧i∉g.kill∧((i,r)∈g.gk∨(i∉g.gk.map (·.1)∧r=r0)))→av β' i r=some k→g.new[k']?=some r'→av β' (st.mem.length+k') r'=some k→False:=by
   intro i k' r r' hlt hc hb hk' hb'
   obtain⟨r0,h0,hkk,hb0⟩:=oldBlk i r k hlt hc hb
   rcases hr.from_ k' r' k hk' hb' with hx|hx
   ·obtain⟨j,r1,hj,h1,hb1⟩:=EW hx
    have:=h.inj i j r0 r1 k h0 h1 hb0 hb1
    subst this
    exact hkk hj
   ·have:=(h.b9 i r0 h0).lt hb0
    omega
  rcases at_ i r hi with⟨hlt,hc|rfl⟩ | ⟨k1,rfl,hk1⟩
  ·rcases at_ j r' hj with⟨hlt',hc' | rfl⟩ | ⟨k2,rfl,hk2⟩
   ·obtain⟨r0,h0,_,hb0⟩:=oldBlk i r k hlt hc hb
    obtain⟨r1,h1,_,hb1⟩:=oldBlk j r' k hlt' hc' hb'
    exact h.inj i j r0 r1 k h0 h1 hb0 hb1
   ·exact absurd hb' (deadBlk _ _ _)
   ·exact(mixed i k2 r r' hlt hc hb hk2 hb').elim
  ·exact absurd hb (deadBlk _ _ _)
  ·rcases at_ j r' hj with⟨hlt',hc' | rfl⟩ | ⟨k2,rfl,hk2⟩
   ·exact(mixed j k1 r' r hlt' hc' hb' hk1 hb).elim
   ·exact absurd hb' (deadBlk _ _ _)
   ·rw[hr.apart k1 k2 r r' k hk1 hk2 hb hb']
 ·exact SV.bc up (h.wj t sv ht)
 ·rcases at_ i r hi with⟨hlt,hc|rfl⟩ | ⟨k',rfl,hk'⟩
  ·obtain⟨r0,h0,_,hq|⟨_,rfl⟩⟩:=hc
   ·exact(updOk _ hq).2.2
   ·exact Cells.bc up (h.wg i r h0)
  ·trivial
  ·rw[ku];exact jW (hn r (List.mem_of_getElem? hk'))
 ·rw[ku];exact nU hret
def iO:St→Nat→List (Nat×TypeId×Nat)→Option St
 |st,_,[]=>some st
 |st,i,q::l=>match st.mem[i]? with
  |some r=>match r.cs with
   |.ak cs=>match cs[q.1]? with
    |some (.slice none 0 0)=>iO ⟨st.fr,(st.mem.set i ⟨r.ty,.dK ((cs.map .val).set q.1 (.own st.mem.length))⟩)++[⟨q.2.1,.own q.2.2 0 []⟩]⟩ i l
    |some (.pointer none)=>iO ⟨st.fr,st.mem.set i ⟨r.ty,.dK ((cs.map .val).set q.1 (.eG false i 0))⟩⟩ i l
    |_=>none
   |.dK cs=>match cs[q.1]? with
    |some (.val (.slice none 0 0))=>iO ⟨st.fr,(st.mem.set i ⟨r.ty,.dK (cs.set q.1 (.own st.mem.length))⟩)++[⟨q.2.1,.own q.2.2 0 []⟩]⟩ i l
    |some (.val (.pointer none))=>iO ⟨st.fr,st.mem.set i ⟨r.ty,.dK (cs.set q.1 (.eG false i 0))⟩⟩ i l
    |_=>none
   |_=>none
  |none=>none
theorem zU{α:Type}{l:List α}{k:Nat}{x:α}(h:l[k]?=some x):l.set k x=l:=by
 obtain⟨hk,rfl⟩:=List.getElem?_eq_some_iff.1 h
 exact List.set_getElem_self hk
theorem Hd.nil{i p T size:Nat}{r:Row}{cs:List SV}(h:Hd ds w0 n β st a w)(hi:st.mem[i]?=some r)(hd:r.cs.den β=cs.map (SV.den β))(hf:r.fixed=true)(hon:∀s∈cs,s.on (· < st.mem.length))(hp:cs[p]?=some (.val (.slice none 0 0))) :
  Hd ds w0 n (β.iz st.mem.length none 0 0) ⟨st.fr,(st.mem.set i ⟨r.ty,.dK (cs.set p (.own st.mem.length))⟩)++[⟨T,.own size 0 []⟩]⟩ a w:=by
 have hil:i < st.mem.length:=(List.getElem?_eq_some_iff.1 hi).1
 have hgrow:=h.grow (kill:=none) (A:=none) (T:=T) (size:=size) (nn:=0) (cc:=0) (xs:=[]) (S:=[]) (w':=w) ⟨by simp,.inl ⟨rfl,rfl⟩⟩ (ai.refl _ _) (by simp) (by simp)
 have same:β.same (β.iz st.mem.length none 0 0) (· < st.mem.length):=sW.mono fun i hi=>Nat.ne_of_lt hi
 have h0:(eP st.mem none++[(⟨T,.own size 0 []⟩:Row)])[i]?=some r:=by
  rw[eP,List.getElem?_append_left hil];exact hi
 have hfx:(⟨r.ty,.dK (cs.set p (.own st.mem.length))⟩:Row).fixed=true:=rfl
 have hcells:(Cells.dK (cs.set p (.own st.mem.length))).den (β.iz st.mem.length none 0 0)=r.cs.den β:=by
  rw[hd]
  show(cs.set p (.own st.mem.length)).map _=_
  rw[List.map_set]
  have e:cs.map (SV.den (β.iz st.mem.length none 0 0))=cs.map (SV.den β):=(List.map_congr_left fun s hm=>SV.ct same (hon s hm)).symm
  rw[e]
  refine zU ?_
  rw[List.getElem?_map,hp]
  show some (Value.slice none 0 0)=some ((β.iz st.mem.length none 0 0).sl st.mem.length)
  rw[lM]
 have hb:aX (β.iz st.mem.length none 0 0) w i ⟨r.ty,.dK (cs.set p (.own st.mem.length))⟩:=by
  refine aX.nr ?_ hfx (fun g hg=>by cases hg)
  rw[hcells]
  have:=(h.b9 i r hi).b9 hf
  rwa [(same i hil).1]at this
 have hst:=hgrow.store (i:=i) (r0:=r) (r:=⟨r.ty,.dK (cs.set p (.own st.mem.length))⟩) h0 (by rw[aH hfx,aH hf]) hb (ai.refl _ _) (fun s hs=>by
  rcases List.mem_or_eq_of_mem_set hs with hs|rfl
  ·exact SV.bc (fun i hi=>by show i < (eP st.mem none++_).length;simp[eP];omega) (hon s hs)
  ·show st.mem.length < (eP st.mem none++_).length;simp[eP])
 have e:(eP st.mem none++[(⟨T,.own size 0 []⟩:Row)]).set i ⟨r.ty,.dK (cs.set p (.own st.mem.length))⟩=(st.mem.set i ⟨r.ty,.dK (cs.set p (.own st.mem.length))⟩)++[⟨T,.own size 0 []⟩]:=by
  rw[eP,List.set_append_left _ _ hil]
 simp only at hst
 rw[e]at hst
 exact hst
theorem Hd.PV{i p:Nat}{r:Row}{cs:List SV}(h:Hd ds w0 n β st a w)(hi:st.mem[i]?=some r)(hd:r.cs.den β=cs.map (SV.den β))(hf:r.fixed=true)(hon:∀s∈cs,s.on (· < st.mem.length))(hp:cs[p]?=some (.val (.pointer none))) :
  Hd ds w0 n β ⟨st.fr,st.mem.set i ⟨r.ty,.dK (cs.set p (.eG false i 0))⟩⟩ a w:=by
 have hil:i < st.mem.length:=(List.getElem?_eq_some_iff.1 hi).1
 have hfx:(⟨r.ty,.dK (cs.set p (.eG false i 0))⟩:Row).fixed=true:=rfl
 have hcells:(Cells.dK (cs.set p (.eG false i 0))).den β=r.cs.den β:=by
  rw[hd]
  show(cs.set p (.eG false i 0)).map _=_
  rw[List.map_set]
  refine zU ?_
  rw[List.getElem?_map,hp]
  rfl
 have hb:aX β w i ⟨r.ty,.dK (cs.set p (.eG false i 0))⟩:=by
  refine aX.nr ?_ hfx (fun g hg=>by cases hg)
  rw[hcells]
  exact(h.b9 i r hi).b9 hf
 exact h.store (i:=i) (r0:=r) (r:=⟨r.ty,.dK (cs.set p (.eG false i 0))⟩) hi (by rw[aH hfx,aH hf]) hb (ai.refl _ _) (fun s hs=>by
  rcases List.mem_or_eq_of_mem_set hs with hs|rfl
  ·exact hon s hs
  ·exact hil)
theorem Hd.iG:∀{l:List (Nat×TypeId×Nat)} {st st':St} {β:Env} {i:Nat},Hd ds w0 n β st a w→iO st i l=some st'→∃β',Hd ds w0 n β' st' a w∧β.same β' (· < st.mem.length)∧st.mem.length≤st'.mem.length
 | [],st,st',β,i,h,hs=>by
  rw[iO]at hs
  cases hs
  exact⟨β,h,fun _ _=>⟨rfl,rfl,rfl,rfl⟩,Nat.le_refl _⟩
 |q::l,st,st',β,i,h,hs=>by
  have go:∀(cs:List SV) (r:Row),st.mem[i]?=some r→r.cs.den β=cs.map (SV.den β)→r.fixed=true→(∀s∈cs,s.on (· < st.mem.length))→cs[q.1]?=some (.val (.slice none 0 0))→iO ⟨st.fr,(st.mem.set i ⟨r.ty,.dK (cs.set q.1 (.own st.mem.length))⟩)++[⟨q.2.1,.own q.2.2 0 []⟩]⟩ i l=some st'→∃β',Hd ds w0 n β' st' a w∧β.same β' (· < st.mem.length)∧st.mem.length≤st'.mem.length:=by
   intro cs r hi hd hf hon hp hs
   obtain⟨β',h1,h2,h3⟩:=Hd.iG (h.nil (T:=q.2.1) (size:=q.2.2) hi hd hf hon hp) hs
   simp only[List.length_append,List.length_set,List.length_cons,List.length_nil]at h2 h3
   refine⟨β',h1,fun i hi=>?_,by omega⟩
   have s1:=(sW (β:=β) (m:=st.mem.length) (A:=none) (nn:=0) (cc:=0)) i (Nat.ne_of_lt hi)
   have s2:=h2 i (show i < _ by omega)
   exact⟨s1.1.trans s2.1,s1.2.1.trans s2.2.1,s1.2.2.1.trans s2.2.2.1,s1.2.2.2.trans s2.2.2.2⟩
  have goP:∀(cs:List SV) (r:Row),st.mem[i]?=some r→r.cs.den β=cs.map (SV.den β)→r.fixed=true→(∀s∈cs,s.on (· < st.mem.length))→cs[q.1]?=some (.val (.pointer none))→iO ⟨st.fr,st.mem.set i ⟨r.ty,.dK (cs.set q.1 (.eG false i 0))⟩⟩ i l=some st'→∃β',Hd ds w0 n β' st' a w∧β.same β' (· < st.mem.length)∧st.mem.length≤st'.mem.length:=by
   intro cs r hi hd hf hon hp hs
   obtain⟨β',h1,h2,h3⟩:=Hd.iG (h.PV hi hd hf hon hp) hs
   simp only[List.length_set]at h2 h3
   exact⟨β',h1,h2,h3⟩
  rw[iO]at hs
  split at hs
  ·rename_i r hi
   split at hs
   ·rename_i cs hcs
    have vv:∀s∈cs.map SV.val,s.on (· < st.mem.length):=fun s hs=>by
     obtain⟨v,_,rfl⟩:=List.mem_map.1 hs
     trivial
    split at hs
    ·rename_i hp
     exact go (cs.map .val) r hi (by rw[hcs];simp[Cells.den,SV.den,Function.comp_def]) (by unfold Row.fixed;rw[hcs]) vv (by rw[List.getElem?_map,hp];rfl) hs
    ·rename_i hp
     exact goP (cs.map .val) r hi (by rw[hcs];simp[Cells.den,SV.den,Function.comp_def]) (by unfold Row.fixed;rw[hcs]) vv (by rw[List.getElem?_map,hp];rfl) hs
    ·cases hs
   ·rename_i cs hcs
    have hon:=h.wg i r hi
    rw[hcs]at hon
    split at hs
    ·rename_i hp
     exact go cs r hi (by rw[hcs];rfl) (by unfold Row.fixed;rw[hcs]) hon hp hs
    ·rename_i hp
     exact goP cs r hi (by rw[hcs];rfl) (by unfold Row.fixed;rw[hcs]) hon hp hs
    ·cases hs
   ·cases hs
  ·cases hs
end
section
variable(P:Program)(H:List (Nat×Hint))(n:Nat)(w0:aU)
inductive cF {α:Type} (_:α):Prop
def Tag(_:Nat)(p:Prop):Prop:=p
def keyOf(o:Oper):Nat:=match o.dst with
 |some d=>d
 |none=>match o.op with
  |.store _ (.tmp x) _=>100000+x
  |_=>0
def oN(o:Oper)(ob:Option Prop)(K:Prop):Prop:=match ob with
 |none=>K
 |some p=>Tag (keyOf o) p∧K
theorem iX{o:Oper}{ob:Option Prop}{K:Prop}(h:oN o ob K):∀p,ob=some p→p:=by
 intro p hp
 subst hp
 exact h.1
theorem kn{o:Oper}{ob:Option Prop}{K:Prop}(h:oN o ob K):K:=by
 cases ob with
 |none=>exact h
 |some p=>exact h.2
def Iq(o:Oper)(st:St)(K:St→Prop):Prop:=
 match fI P w0 H (hint H o.dst) (ev st.fr) (rowAt st.mem) o with
 |.val sv ob=>oN o ob (K (st.put n o.dst sv))
 |.call f args v=>Tag (keyOf o) (∀W,ai w0.S w0.w W→Calls P f args.toArray W (Rn W v))∧K (st.put n o.dst (.val v))
 |.alloc t cs ln=>K ((⟨st.fr,st.mem++[⟨t,cs⟩]⟩:St).put n o.dst (lZ st.mem.length ln))
 |.store i r ob=>oN o ob (K ((⟨st.fr,st.mem.set i r⟩:St).put n o.dst (.val undef)))
 |.ef i r ob=>oN o ob (K ((⟨st.fr,st.mem.set i r⟩:St).put n o.dst (.val undef)))
 |.grow kill t size nn xs ob=>oN o ob (K ((⟨st.fr,eP st.mem kill++[⟨t,.own size nn xs⟩]⟩:St).put n o.dst (.own st.mem.length)))
 |.dS f args r=>Tag (keyOf o) (∀W,ai w0.S w0.w W→ia (rowAt st.mem) W args fun vs=>Calls P f vs.toArray W (fU W r))∧K ((⟨st.fr,D5 st.mem (jg r)⟩:St).put n o.dst (ik st.mem.length r))
 |.fQ f i r=>Tag (keyOf o) (∀W,ai w0.S w0.w W→DU (rowAt st.mem) W i fun s=>Calls P f #[s] W (qc W s r))∧K ((⟨st.fr,D5 (eP st.mem (some i)) (jg r)⟩:St).put n o.dst (ik st.mem.length r))
 |.eZ f args x=>match x with
  |.gk p i row v=>Tag (keyOf o) (∀W,ai w0.S w0.w W→ia (rowAt st.mem) W args fun vs=>Calls P f vs.toArray W (mG w0 W vs (.gk p i row v)))∧K ((⟨st.fr,st.mem.set i row⟩:St).put n o.dst (.val v))
  |.Ex ps=>Tag (keyOf o) (∀W,ai w0.S w0.w W→ia (rowAt st.mem) W args fun vs=>Calls P f vs.toArray W (mG w0 W vs (.Ex ps)))∧True
 |.bad=>cF o
def step(o:Oper)(st:St)(K:St→Prop):Prop:=match Bd P H (ev st.fr) o with
 |.val sv=>K (st.put n o.dst sv)
 |.call f args g=>match J8 st.mem g with
  |true=>Tag (keyOf o) (∀W β,eF w0 β W (rowAt st.mem) g.see→Calls P f (args.map (SV.den β)).toArray W (aY w0 β W (rowAt st.mem) st.mem.length g))∧O1 g.ret g.CO (K ((⟨st.fr,yS st.mem g⟩:St).put n o.dst g.ret))
  |false=>cF o
 |.iG t cs l=>match iO ⟨st.fr,st.mem++[⟨t,.ak cs⟩]⟩ st.mem.length l with
  |some st'=>K (st'.put n o.dst (.ptr st.mem.length 0))
  |none=>cF o
 |.FN t l len=>K ((⟨st.fr,st.mem++[⟨t,.dK l⟩]⟩:St).put n o.dst (.mP st.mem.length 0 len len))
 |.no=>Iq P H n w0 o st K
def guardOf(ops:Array Oper)(fr:List (Nat×SV))(o:Oper):Option Bool:=
 match o.guard with
 |none=>some true
 |some (j,b)=>match ops[j]? with
  |none=>none
  |some oj=>match oj.dst with
   |none=>none
   |some t=>match look fr t with
    |some (.val v)=>match v with
     |.bool c=>some (c==b)
     |_=>some false
    |_=>none
def rH(ops:Array Oper)(fr:List (Nat×SV))(o:Oper):Option (Nat×Bool):=match o.guard with
 |none=>none
 |some q=>match ops[q.1]? with
  |none=>none
  |some oj=>match oj.dst with
   |none=>none
   |some t=>match look fr t with
    |some (.val v)=>match v with
     |.bool c=>some (t,c)
     |_=>none
    |_=>none
def St.lit(st:St)(t:Nat)(c:Bool):St:=⟨(t,.val (.bool c))::st.fr,st.mem⟩
def xX(ops:Array Oper)(o:Oper)(st:St)(K:St→Prop):Prop:=match rH ops st.fr o with
 |none=>K st
 |some q=>match q.2 with
  |true=>K (st.lit q.1 true)
  |false=>K (st.lit q.1 false)
def sF(ops:Array Oper):List Oper→St→(St→Prop)→Prop
 | [],st,K=>K st
 |o::l,st,K=>xX ops o st fun st=>match guardOf ops st.fr o with
  |some true=>step P H n w0 o st (fun st'=>sF ops l st' K)
  |some false=>sF ops l (st.put n o.dst (.val undef)) K
  |none=>cF o
end
section
variable{P:Program}{H:List (Nat×Hint)}{n:Nat}{w0:aU}{ds:List Deferred}{w:World}{β:Env}{st:St}{a:Act}{ops:Array Oper}{Q:Exit→Act→World→Prop}
theorem qz{o:Oper}{b:Bool}(h:Hd ds w0 n β st a w)(hg:guardOf ops st.fr o=some b):Region.wanted o (yielded ops a.tmps)=b:=by
 unfold guardOf at hg
 unfold Region.wanted
 split at hg
 ·rename_i hn;rw[hn];simpa using hg
 ·rename_i j b' hn
  rw[hn]
  split at hg
  ·cases hg
  ·rename_i oj hoj
   split at hg
   ·cases hg
   ·rename_i t ht
    split at hg
    ·rename_i v hc
     have:=h.get t _ hc
     simp only[yielded,hoj,Option.bind_some,ht,this,SV.den]
     split at hg
     ·rename_i c
      have hb:(c==b')=b:=Option.some.inj hg
      rw[←hb]
      cases c<;>cases b'<;>rfl
     ·rename_i hnb
      have hb:false=b:=Option.some.inj hg
      rw[←hb]
      cases v<;>first|rfl|exact absurd rfl (hnb _)
    ·cases hg
theorem Ip{o:Oper}{K:St→Prop}{next:Act→World→Prop}(h:Hd ds w0 n β st a w)(hs:Iq P H n w0 o st K)(hP:∀chain a w',a.defers=ds→w0.PP chain w'→ai w0.S w0.w w'→Q (.panic chain) a w')(hK:∀β' st' a' w',K st'→Hd ds w0 n β' st' a' w'→next a' w'):o.wp P a w next Q:=by
 have ho:=Jf (P:=P) (w0:=w0) (H:=H) (β:=β) (W:=w) (a:=a) (o:=o) (e:=ev st.fr) (row:=rowAt st.mem) (hn:=hint H o.dst) h.aG (fun x _ sv hx=>h.eval hx) (fun i r _ hi=>h.b9 i r hi)
 have hon:=OT (P:=P) (w0:=w0) (H:=H) (o:=o) (e:=ev st.fr) (row:=rowAt st.mem) (hn:=hint H o.dst) (Q:=(· < st.mem.length)) (fun x _ sv hx=>h.Se hx) (fun i r _ hi=>h.wg i r hi)
 unfold Iq at hs
 unfold Oper.wp
 cases hr:fI P w0 H (hint H o.dst) (ev st.fr) (rowAt st.mem) o with
 |val sv ob=>
  rw[hr]at hs ho hon
  simp only at hs
  rw[ho (iX hs)]
  exact hK _ _ _ _ (kn hs) (h.put o.dst hon)
 |call f args v=>
  rw[hr]at hs ho hon
  simp only at hs
  rw[show(execOp a.eval o).run P w=_ from ho]
  refine(hs.1 w h.aG).mono fun e w' ⟨he,hc⟩=>?_
  subst he
  exact hK _ _ _ _ hs.2 ((h.later hc).put o.dst (sv:=.val v) trivial)
 |alloc t cs ln=>
  obtain⟨hf,hft⟩:=sI hr
  rw[hr]at hs ho hon
  simp only at hs
  rw[show(execOp a.eval o).run P w=_ from ho]
  have h2:=(h.alloc t hf hft hon).put o.dst (sv:=lZ st.mem.length ln) (EN (by simp))
  rw[AD]at h2
  exact hK _ _ _ _ hs h2
 |store i r ob=>
  obtain⟨_,hf,r0,h0,hf0,htg⟩:=mM hr
  rw[hr]at hs ho hon
  simp only at hs
  obtain⟨w',hrun,hb,hc⟩:=ho (iX hs)
  rw[hrun]
  exact hK _ _ _ _ (kn hs) ((h.store h0 (by rw[aH hf,aH hf0]) (aX.nr hb hf (fun g hg=>(h.b9 i r0 h0).tag g (by rw[←htg];exact hg))) (by rw[aH hf0];exact hc) hon.2).put o.dst (sv:=.val undef) trivial)
 |ef i r ob=>
  obtain⟨_,r0,h0,hbk⟩:=lR hr
  rw[hr]at hs ho hon
  simp only at hs
  obtain⟨w',hrun,hb,hc⟩:=ho (iX hs)
  rw[hrun]
  rw[hbk β]at hc
  exact hK _ _ _ _ (kn hs) ((h.store h0 (hbk β) hb hc hon.2).put o.dst (sv:=.val undef) trivial)
 |grow kill t size nn xs ob=>
  have htc:∀i,kill=some i→∃r,st.mem[i]?=some r∧∃s m ys,r.cs=.own s m ys:=fun i hi=>by
   subst hi
   exact(pv hr).2
  rw[hr]at hs ho
  simp only at hs
  obtain⟨A,cc,w',S,hrun,hown,hch,hS,hA⟩:=ho (iX hs)
  rw[hrun]
  have h2:=(h.grow (kill:=kill) hown hch (fun k hk=>by
   obtain⟨i,hi,hb⟩:=hS k hk
   obtain⟨r,h0,s,m,ys,hcs⟩:=htc i hi
   exact⟨i,r,hi,h0,by unfold av;rw[hcs];exact hb⟩) hA).put o.dst (sv:=.own st.mem.length) (by show _ < _;cases kill<;>simp[eP])
  simp only[SV.den,lM]at h2
  exact hK _ _ _ _ (kn hs) h2
 |dS f args r=>
  rw[hr]at hs ho
  simp only at hs
  rw[show(execOp a.eval o).run P w=_ from ho]
  have hcall:=fg (β:=β) (hs.1 w h.aG) (fun i _ _ _ r' hr'=>h.b9 i r' hr')
  refine hcall.mono fun e w' hp=>?_
  rcases IN hp with⟨v,rfl,rfl,hc⟩ | ⟨T,size,nn,xs,A,cc,hrr,hown,hc,hA,hsv⟩
  ·exact hK _ _ _ _ hs.2 ((h.later hc).put o.dst (sv:=.val v) trivial)
  ·obtain⟨he,hon'⟩:=hsv β st.mem.length
   subst he
   have hk:=hs.2
   rw[hrr]at hk
   exact hK _ _ _ _ hk ((h.grow (kill:=none) hown hc (by simp) (fun k hk=>.inr (hA k hk))).put o.dst (SV.bc (fun i hi=>by rw[hi];simp[eP]) hon'))
 |fQ f i r=>
  rw[hr]at hs ho
  simp only at hs
  rw[show(execOp a.eval o).run P w=_ from ho]
  have hcall:=FC (β:=β) (hs.1 w h.aG) (fun r' hr'=>h.b9 i r' hr')
  obtain⟨r0,h0,s0,m0,y0,hc0⟩:=vV (hs.1 w h.aG)
  refine hcall.mono fun e w' hp=>?_
  obtain⟨T,size,nn,xs,A,cc,hrr,hown,hc,hA,hsv⟩:=Ep hp
  obtain⟨he,hon'⟩:=hsv β st.mem.length
  subst he
  have hk:=hs.2
  rw[hrr]at hk
  rw[zS]at hc hA
  exact hK _ _ _ _ hk ((h.grow (kill:=some i) hown hc (fun k hk=>⟨i,r0,rfl,h0,by unfold av;rw[hc0];simpa using hk⟩) (fun k hk=>(hA k hk).imp (fun h=>by simpa using h) id)).put o.dst (SV.bc (fun i hi=>by rw[hi];simp[eP]) hon'))
 |eZ f args x=>
  obtain⟨_,hx2,hx3⟩:=pC hr
  rw[hr]at hs ho hon
  simp only at hs
  rw[show(execOp a.eval o).run P w=_ from ho]
  cases x with
  |gk p i row v=>
   obtain⟨hpi,_,r0,h0,hty,hf0,hf,htg⟩:=hx2 p i row v rfl
   have h0:st.mem[i]?=some r0:=h0
   have hcall:=fg (β:=β) (hs.1 w h.aG) (fun i _ _ _ r' hr'=>h.b9 i r' hr')
   refine hcall.mono fun e w' hp=>?_
   obtain⟨g,l,hg,hl,rfl,hb,hc⟩:=hp
   rw[List.getElem?_map,hpi]at hg
   have hgi:β i=g:=by simpa[SV.den]using hg
   have hden:row.cs.den β=l:=by
    unfold Cells.list at hl
    split at hl<;>first | (cases hl;done) | (rename_i hcs;cases hl;rw[hcs];rfl)
   rw[←hgi]at hb hc
   have hheld:aX β w' i row:=aX.nr (by rw[hden];exact hb) hf (fun g hg=>(h.b9 i r0 h0).tag g (by rw[←htg];exact hg))
   exact hK _ _ _ _ hs.2 ((h.store h0 (by rw[aH hf,aH hf0]) hheld (by rw[aH hf0];exact hc) hon.2).put o.dst (sv:=.val v) trivial)
  |Ex ps=>
   have hcall:=fg (β:=β) (hs.1 w h.aG) (fun i _ _ _ r' hr'=>h.b9 i r' hr')
   refine hcall.mono fun e w' hp=>?_
   obtain⟨chain,T,rfl,hpp,hc,hT⟩:=hp
   refine hP chain a w' h.dn hpp (h.aG.seq hc fun x hx=>?_)
   obtain⟨q,hq,hv⟩:=hT x hx
   obtain⟨hq1,r0,hr0,hf⟩:=hx3 ps rfl q hq
   rw[List.getElem?_map,hq1]at hv
   have hx:β q.2=x:=by simpa[SV.den]using hv
   exact h.new q.2 r0 x hr0 (by rw[aH hf,hx])
 |bad=>rw[hr]at hs;exact nomatch hs
theorem Ee{o:Oper}{K:St→Prop}{next:Act→World→Prop}(h:Hd ds w0 n β st a w)(hs:step P H n w0 o st K)(hP:∀chain a w',a.defers=ds→w0.PP chain w'→ai w0.S w0.w w'→Q (.panic chain) a w')(hK:∀β' st' a' w',K st'→Hd ds w0 n β' st' a' w'→next a' w'):o.wp P a w next Q:=by
 have hg:=Fb (P:=P) (H:=H) (β:=β) (W:=w) (a:=a) (o:=o) (e:=ev st.fr) (fun x _ sv hx=>h.eval hx)
 have hgo:=Fa (P:=P) (H:=H) (o:=o) (e:=ev st.fr) (Q:=(· < st.mem.length)) (fun x _ sv hx=>h.Se hx)
 unfold step at hs
 split at hs
 ·rename_i sv hr
  rw[hr]at hg hgo
  unfold Oper.wp
  rw[show(execOp a.eval o).run P w=_ from hg]
  exact hK _ _ _ _ hs (h.put o.dst hgo)
 ·rename_i f args g hr
  rw[hr]at hg
  split at hs
  ·rename_i hok
   unfold Oper.wp
   rw[show(execOp a.eval o).run P w=_ from hg]
   refine(hs.1 w β (h.see g.see)).mono fun e w' hp=>?_
   rcases hp with⟨hphi,β',hret⟩ | ⟨_,chain,rfl,hpp,hc⟩
   ·obtain⟨h2,hon⟩:=h.Sa hok hret
    rw[hret.ret]
    exact hK _ _ _ _ (J6 hs.2 hphi) (h2.put o.dst hon)
   ·exact hP chain a w' h.dn hpp (h.aG.seq hc h.ec)
  ·exact nomatch hs
 ·rename_i t cs l hr
  rw[hr]at hg
  split at hs
  ·rename_i st' hst
   unfold Oper.wp
   rw[show(execOp a.eval o).run P w=_ from hg]
   have ha:=h.alloc t (cs:=.ak cs) rfl rfl trivial
   obtain⟨β',h1,h2,h3⟩:=Hd.iG ha hst
   have h4:=h1.put o.dst (sv:=.ptr st.mem.length 0) (show st.mem.length < st'.mem.length by simp at h3;omega)
   have h5:=(h2 st.mem.length (by simp)).1
   rw[show(SV.ptr st.mem.length 0).den β'=.pointer (some ⟨w.heap.size,0,none⟩)by show Value.pointer (some ⟨β' st.mem.length,0,none⟩)=_;rw[←h5,jF]]at h4
   exact hK _ _ _ _ hs h4
  ·exact nomatch hs
 ·rename_i t l len hr
  rw[hr]at hg hgo
  unfold Oper.wp
  rw[show(execOp a.eval o).run P w=_ from hg]
  have ha:=h.alloc t (cs:=.dK l) rfl rfl hgo
  have h4:=ha.put o.dst (sv:=.mP st.mem.length 0 len len) (show st.mem.length < (st.mem++[_]).length by simp)
  rw[show(SV.mP st.mem.length 0 len len).den (β.gk st.mem.length w.heap.size)=.slice (some ⟨w.heap.size,0,none⟩) len len by show Value.slice (some ⟨(β.gk st.mem.length w.heap.size) st.mem.length,0,none⟩) _ _=_;rw[jF]]at h4
  exact hK _ _ _ _ hs h4
 ·exact Ip h hs hP hK
theorem Hd.lit{t:Nat}{c:Bool}(h:Hd ds w0 n β st a w)(ht:look st.fr t=some (.val (.bool c))):Hd ds w0 n β (st.lit t c) a w:=by
 have key:∀u sv,look (st.lit t c).fr u=some sv→(u=t∧sv=.val (.bool c))∨look st.fr u=some sv:=fun u sv hu=>by
  have e:look (st.lit t c).fr u=if t=u then(SV.val (.bool c)).known else look st.fr u:=fL
  rw[e]at hu
  by_cases htu:t=u
  ·rw[if_pos htu]at hu
   exact .inl ⟨htu.symm,(Option.some.inj hu).symm⟩
  ·rw[if_neg htu]at hu
   exact .inr hu
 refine⟨h.size,h.dn,fun u sv hu=>?_,h.b9,h.new,h.inj,h.aG,fun u sv hu=>?_,h.wg⟩
 ·rcases key u sv hu with⟨rfl,rfl⟩ | hu
  ·exact h.get _ _ ht
  ·exact h.get u sv hu
 ·rcases key u sv hu with⟨rfl,rfl⟩ | hu
  ·trivial
  ·exact h.wj u sv hu
theorem vl{ops:Array Oper}{fr:List (Nat×SV)}{o:Oper}{q:Nat×Bool}(h:rH ops fr o=some q):look fr q.1=some (.val (.bool q.2)):=by
 unfold rH at h
 split at h
 ·cases h
 ·split at h
  ·cases h
  ·split at h
   ·cases h
   ·split at h
    ·rename_i hl
     split at h
     ·injection h with h
      rw[←h];exact hl
     ·cases h
    ·cases h
theorem wK{o:Oper}{K:St→Prop}(h:Hd ds w0 n β st a w)(hx:xX ops o st K):∃st',K st'∧Hd ds w0 n β st' a w:=by
 unfold xX at hx
 split at hx
 ·exact⟨st,hx,h⟩
 ·rename_i q hq
  have hl:=vl hq
  split at hx
  ·rename_i hb
   rw[hb]at hl
   exact⟨_,hx,h.lit hl⟩
  ·rename_i hb
   rw[hb]at hl
   exact⟨_,hx,h.lit hl⟩
theorem ox(r:List Oper)(hP:∀chain a w',a.defers=ds→w0.PP chain w'→ai w0.S w0.w w'→Q (.panic chain) a w'):∀(l:List Oper) (st:St) (K:St→Prop) (β:Env) (a:Act) (w:World),Hd ds w0 n β st a w→sF P H n w0 ops l st K→(∀β' st' a' w',K st'→Hd ds w0 n β' st' a' w'→wpList P ops Q r a' w')→wpList P ops Q (l++r) a w
 | [],_,_,_,_,_,h,hx,hK=>hK _ _ _ _ hx h
 |o::l,st,K,β,a,w,h,hx,hK=>by
  unfold sF at hx
  rw[List.cons_append]
  unfold wpList
  obtain⟨st,hx,h⟩:=wK h hx
  split at hx
  ·rename_i hg
   rw[qz h hg,if_pos rfl]
   exact .inl (Ee h hx hP fun β' st' a' w' hk h'=>ox r hP l st' K β' a' w' h' hk hK)
  ·rename_i hg
   rw[qz h hg,if_neg (by decide)]
   exact ox r hP l _ K β _ w (h.put o.dst (sv:=.val undef) trivial) hx hK
  ·exact nomatch hx
theorem Bo(hP:∀chain a w',a.defers=ds→w0.PP chain w'→ai w0.S w0.w w'→Q (.panic chain) a w')(l:List Oper)(st:St)(K:St→Prop)(β:Env)(a:Act)(w:World)(h:Hd ds w0 n β st a w)(hx:sF P H n w0 ops l st K)(hK:∀β' st' a' w',K st'→Hd ds w0 n β' st' a' w'→Q .normal a' w'):wpList P ops Q l a w:=by
 have:=ox (ops:=ops) (Q:=Q) [] hP l st K β a w h hx hK
 rwa [List.append_nil]at this
end
end Sx
end Go.Proofs.YtnncigmpcdehnaaGreatDoor
