import Derived.Test.YtnncigmpcdehnaaGreatDoorQg01
import Derived.Scope
import Derived.Great.BuildSlice
import Derived.Laws.Tables
import Derived.Laws.BytesString
open True renaming intro→WN
open Nat renaming eq_of_beq_eq_true→WO,le_of_ble_eq_true→WR,beq→WZ,blt→Xd,mul_le_mul_right→Xt,le_refl→Xx,zero_add→Xz,eq_zero_or_pos→XA,ble→XQ,sub_self→XS,ne_of_lt→XT,add_assoc→X2,zero_mul→X7,add_zero→X8,add_mul→Yc,min_eq_left→Yh,lt_irrefl→Yo,le_trans→Ys,beq_refl→Yt,mul_pos→Yx
open Go.Op renaming operands→WQ,equalIn→X1,maxDepth→Ye,equal→Yr
open Bool renaming and_eq_true→WS,or_eq_false_iff→X9
open List renaming mem_cons_of_mem→WT,getElem?_append_right→WW,getElem?_eq_some_iff→WX,getElem?_append_left→WY,map_cons→W0,length_take→W2,map_congr_left→W3,mem_map→W4,getElem?_take→W6,getElem?_drop→W7,mem_or_eq_of_mem_set→W8,length_append→W9,length_cons→Xa,eq_nil_of_length_eq_zero→Xb,mem_of_getElem?→Xe,mem_singleton→Xg,mem_cons→Xh,getElem?_map→Xi,length_drop→Xm,map_map→Xn,getElem?_cons_succ→Xp,mem_append→Xv,append_nil→Xw,map_set→Xy,getElem?_set→XB,zipIdx_cons→XC,mem_toArray→XD,drop_of_length_le→XE,nil_append→XF,length_set→XG,length_nil→XH,length_map→XI,mem_of_mem_take→XL,mem_of_mem_drop→XM,set_eq_take_append_cons_drop→XO,take_succ_eq_append_getElem→XP,mem_flatMap→XU,map_id→XV,foldl_cons→XW,getElem?_eq_getElem→XY,take_of_length_le→X3,getElem_set_self→X6,take_set_of_le→Ya,mem_filterMap→Yd,map_toArray→Yf,cons_append→Yg,take_zero→Yi,drop_drop→Yj,map_take→Ym,map_drop→Yn,map_nil→Yp,length→Yu
open Go.Sem renaming run_bind→WU,run_pure→W5,run→Yw
open Go.Result renaming andThen_ok→WV
open Option renaming some→Xc,map_some→Xo
open Array renaming toList_inj→Xf,toArray_toList→Xj,toList_map→Xl,mem_toList_iff→Xs,toList_setIfInBounds→XX,foldl_toList→Yb,range→Yq
open Go.Instr renaming sureAddr→Xk,sliceBounds→Xq,fill→XJ,indexAt→XN,sliceBound→XR,storeAt→XZ,fieldAt→X0,loadAt→X4,box→X5,sliceAt→Yk,extract→Yl
open Go.Value renaming ownBlock→Xr,slice→Xu,int→Yv
namespace Go.Proofs.YtnncigmpcdehnaaGreatDoor
open Go Go.RowKit Go.Lib Go.Sort
namespace Sx
structure aV where
 w:World
 S:List Nat
 PP:List PanicEntry→World→Prop
structure Env where
 b:Nat→Nat
 a:Nat→Option Addr
 n:Nat→Nat
 c:Nat→Nat
def Env.sl(β:Env)(i:Nat):Value:=.slice (β.a i) (β.n i) (β.c i)
instance:CoeFun Env fun _=>Nat→Nat:=⟨Env.b⟩
inductive Atom where
 |v (x:Value)
 |o (i:Nat)
 |p (i off:Nat)
 |s (i off len cut:Nat)
def Atom.den(β:Env):Atom→Value
 |.v x=>x
 |.o i=>β.sl i
 |.p i off=>.pointer (some ⟨β i,off,none⟩)
 |.s i off len cut=>.slice (if β.c i=cut then β.a i else(β.a i).map (·.add off)) len (β.c i - cut)
def Atom.on(Q:Nat→Prop):Atom→Prop
 |.v _=>True
 |.o i=>Q i
 |.p i _=>Q i
 |.s i _ _ _=>Q i
inductive fx where
 |a (x:Atom)
 |row (l:List Atom)
 |kI (t:TypeId) (i off:Nat)
def fx.den(β:Env):fx→Value
 |.a x=>x.den β
 |.row l=>.agg (l.map (Atom.den β)).toArray
 |.kI t i off=>.iface t (.pointer (some ⟨β i,off,none⟩))
def fx.on(Q:Nat→Prop):fx→Prop
 |.a x=>x.on Q
 |.row l=>∀a∈l,a.on Q
 |.kI _ i _=>Q i
theorem Atom.bh{Q Q':Nat→Prop}(h:∀i,Q i→Q' i){s:Atom}(hs:s.on Q):s.on Q':=by cases s<;>first|trivial|exact h _ hs
theorem fx.bh{Q Q':Nat→Prop}(h:∀i,Q i→Q' i){s:fx}(hs:s.on Q):s.on Q':=by
 cases s with
 |a x=>exact Atom.bh h hs
 |row l=>exact fun a ha=>Atom.bh h (hs a ha)
 |kI t i off=>exact h _ hs
inductive SV where
 |val (v:Value)
 |ptr (i off:Nat)
 |nO (i off len cap:Nat)
 |own (i:Nat)
 |mM (i off:Nat)
 |nu (pre:List Value) (i:Nat) (post:List Value)
 |lj (i off len cut:Nat)
 |gone
 |ej (l:List Atom)
 |G0 (f:FuncId) (l:List Atom)
 |kI (t:TypeId) (i off:Nat)
 |nI (l:List fx)
 |eB (b:Bool) (i off:Nat)
def SV.den(β:Env):SV→Value
 |.val v=>v
 |.ptr i o=>.pointer (some ⟨β i,o,none⟩)
 |.nO i o n c=>.slice (some ⟨β i,o,none⟩) n c
 |.own i=>β.sl i
 |.mM i o=>.pointer ((β.a i).map (·.add o))
 |.nu l i r=>.tuple (l++(β.sl i::r)).toArray
 |.lj i off len cut=>.slice (if β.c i=cut then β.a i else(β.a i).map (·.add off)) len (β.c i - cut)
 |.gone=>undef
 |.ej l=>.agg (l.map (Atom.den β)).toArray
 |.G0 f l=>.func (.func f) #[] (l.map (Atom.den β)).toArray
 |.kI t i off=>.iface t (.pointer (some ⟨β i,off,none⟩))
 |.nI l=>.tuple (l.map (fx.den β)).toArray
 |.eB b i off=>.pointer (match b with|true=>some ⟨β i,off,none⟩ | false=>none)
def SV.on(Q:Nat→Prop):SV→Prop
 |.val _=>True
 |.ptr i _=>Q i
 |.nO i _ _ _=>Q i
 |.own i=>Q i
 |.mM i _=>Q i
 |.nu _ i _=>Q i
 |.lj i _ _ _=>Q i
 |.gone=>True
 |.ej l=>∀a∈l,a.on Q
 |.G0 _ l=>∀a∈l,a.on Q
 |.kI _ i _=>Q i
 |.nI l=>∀a∈l,a.on Q
 |.eB _ i _=>Q i
inductive Cells where
 |aj (cs:List Value)
 |dC (cs:List SV)
 |own (size n:Nat) (xs:List Value)
 |dead
 |cR (g:Nat) (cs:List Value)
 |ji (g:Nat) (cs:List SV)
def Cells.den(β:Env):Cells→List Value
 |.aj cs=>cs
 |.dC cs=>cs.map (SV.den β)
 |.own _ _ _=>[]
 |.dead=>[]
 |.cR _ cs=>cs
 |.ji _ cs=>cs.map (SV.den β)
def Cells.len:Cells→Nat
 |.aj cs=>cs.length
 |.dC cs=>cs.length
 |.own _ _ _=>0
 |.dead=>0
 |.cR _ cs=>cs.length
 |.ji _ cs=>cs.length
def Cells.tag:Cells→Option Nat
 |.cR g _=>some g
 |.ji g _=>some g
 |_=>none
def Cells.on(Q:Nat→Prop):Cells→Prop
 |.aj _=>True
 |.dC cs=>∀s∈cs,s.on Q
 |.own _ _ _=>True
 |.dead=>True
 |.cR _ _=>True
 |.ji _ cs=>∀s∈cs,s.on Q
structure Row where
 ty:TypeId
 cs:Cells
structure St where
 fr:List (Nat×SV)
 mem:List Row
def SV.known:SV→Option SV
 |.gone=>none
 |v=>some v
theorem b9{v u:SV}(h:v.known=some u):u=v:=by cases v<;>first | (cases h;done)|exact(Xc.inj h).symm
def SV.one:SV→Bool
 |.ptr _ _=>true
 |.nO _ _ _ _=>true
 |.own _=>true
 |.mM _ _=>true
 |.lj _ _ _ _=>true
 |.G0 _ _=>true
 |.kI _ _ _=>true
 |.eB _ _ _=>true
 |_=>false
theorem pg{s:SV}(h:s.one=true)(β:Env):(s.den β).cells=#[s.den β]∧(s.den β).oneCell'=true:=by
 cases s with
 |ptr _ _=>exact⟨rfl,rfl⟩
 |nO _ _ _ _=>exact⟨rfl,rfl⟩
 |own _=>exact⟨rfl,rfl⟩
 |mM _ _=>exact⟨rfl,rfl⟩
 |lj _ _ _ _=>exact⟨rfl,rfl⟩
 |val _=>cases h
 |nu _ _ _=>cases h
 |gone=>cases h
 |ej _=>cases h
 |G0 _ _=>exact⟨rfl,rfl⟩
 |kI _ _ _=>exact⟨rfl,rfl⟩
 |nI _=>cases h
 |eB _ _ _=>exact⟨rfl,rfl⟩
def look:List (Nat×SV)→Nat→Option SV
 | [],_=>none
 | (k,v)::r,t=>match WZ k t with
  |true=>v.known
  |false=>look r t
def ev(fr:List (Nat×SV)):Operand→Option SV
 |.tmp t=>look fr t
 |.const v=>some (.val v)
 |.global g=>some (.val (.pointer (some ⟨g,0,none⟩)))
 |.func f=>some (.val (.func (.func f) #[] #[]))
def St.put(n:Nat)(st:St)(dst:Option Tmp)(sv:SV):St:=
 match dst with
 |none=>st
 |some d=>match Xd d n with
  |true=>⟨(d,sv)::st.fr,st.mem⟩
  |false=>st
theorem SV.bh{Q Q':Nat→Prop}(h:∀i,Q i→Q' i){s:SV}(hs:s.on Q):s.on Q':=by cases s<;>first|trivial|exact h _ hs|exact fun a ha=>Atom.bh h (hs a ha)|exact fun a ha=>fx.bh h (hs a ha)
theorem Cells.bh{Q Q':Nat→Prop}(h:∀i,Q i→Q' i):∀{c:Cells},c.on Q→c.on Q'
 |.aj _,_=>trivial
 |.dC _,hs=>fun s hm=>SV.bh h (hs s hm)
 |.own _ _ _,_=>trivial
 |.dead,_=>trivial
 |.cR _ _,_=>trivial
 |.ji _ _,hs=>fun s hm=>SV.bh h (hs s hm)
def Env.same(β β':Env)(Q:Nat→Prop):Prop:=∀i,Q i→β i=β' i∧β.a i=β'.a i∧β.n i=β'.n i∧β.c i=β'.c i
theorem Atom.cg{β β':Env}{Q:Nat→Prop}(h:β.same β' Q){s:Atom}(hs:s.on Q):s.den β=s.den β':=by cases s<;>simp only[Atom.den,Env.sl]<;>first|rfl | (obtain⟨h1,h2,h3,h4⟩:=h _ hs;simp only[h1,h2,h3,h4])
theorem Atom.map_congr{β β':Env}{Q:Nat→Prop}(h:β.same β' Q){l:List Atom}(hs:∀a∈l,a.on Q):l.map (Atom.den β)=l.map (Atom.den β'):=W3 fun a ha=>Atom.cg h (hs a ha)
theorem fx.cg{β β':Env}{Q:Nat→Prop}(h:β.same β' Q){s:fx}(hs:s.on Q):s.den β=s.den β':=by
 cases s with
 |a x=>exact Atom.cg h hs
 |row l=>simp only[fx.den,Atom.map_congr h hs]
 |kI t i off=>simp only[fx.den];obtain⟨h1,_⟩:=h i hs;simp only[h1]
theorem SV.cg{β β':Env}{Q:Nat→Prop}(h:β.same β' Q){s:SV}(hs:s.on Q):s.den β=s.den β':=by
 cases s with
 |ej l=>simp only[SV.den,Atom.map_congr h hs]
 |G0 f l=>simp only[SV.den,Atom.map_congr h hs]
 |nI l=>have:l.map (fx.den β)=l.map (fx.den β'):=W3 fun a ha=>fx.cg h (hs a ha);simp only[SV.den,this]
 |val v=>rfl
 |gone=>rfl
 |_=>simp only[SV.den,Env.sl];obtain⟨h1,h2,h3,h4⟩:=h _ hs;simp only[h1,h2,h3,h4]
theorem Cells.cg{β β':Env}{Q:Nat→Prop}(h:β.same β' Q):∀{c:Cells},c.on Q→c.den β=c.den β'
 |.aj _,_=>rfl
 |.dC _,hs=>W3 fun s hm=>SV.cg h (hs s hm)
 |.own _ _ _,_=>rfl
 |.dead,_=>rfl
 |.cR _ _,_=>rfl
 |.ji _ _,hs=>W3 fun s hm=>SV.cg h (hs s hm)
theorem Cells.iG(β:Env):∀c:Cells,(c.den β).length=c.len
 |.aj _=>rfl
 |.dC cs=>by simp[Cells.den,Cells.len]
 |.own _ _ _=>rfl
 |.dead=>rfl
 |.cR _ _=>rfl
 |.ji _ cs=>by simp[Cells.den,Cells.len]
def aZ(β:Env)(w:World)(i:Nat)(r:Row):Prop:=match r.cs with
 |.own size n xs=>β.n i=n∧Own w r.ty size (.slice (β.a i) n (β.c i)) n xs
 |.aj cs=>aq w (β i) r.ty cs
 |.dC cs=>aq w (β i) r.ty (cs.map (SV.den β))
 |.dead=>True
 |.cR g cs=>β i=g∧aq w (β i) r.ty cs
 |.ji g cs=>β i=g∧aq w (β i) r.ty (cs.map (SV.den β))
def aB(β:Env)(i:Nat)(r:Row):Option Nat:=match r.cs with
 |.own _ _ _=>(β.a i).map (·.block)
 |.aj _=>some (β i)
 |.dC _=>some (β i)
 |.dead=>none
 |.cR _ _=>some (β i)
 |.ji _ _=>some (β i)
theorem pc{β:Env}{i n:Nat}:(Xu (β.a i) n (β.c i)).ownBlock=(β.a i).map (·.block):=by cases h:β.a i<;>simp[Xr]
theorem aZ.lt{β:Env}{w:World}{i k:Nat}{r:Row}(h:aZ β w i r)(hk:aB β i r=some k):k < w.heap.size:=by
 unfold aZ at h;unfold aB at hk;split at h
 ·rename_i size n xs hc
  rw[hc]at hk;exact Own.lt h.2 k (by rw[pc];exact hk)
 ·rename_i cs hc
  rw[hc]at hk;cases hk;exact h.lt
 ·rename_i cs hc
  rw[hc]at hk;cases hk;exact h.lt
 ·rename_i hc
  rw[hc]at hk;cases hk
 ·rename_i hc
  rw[hc]at hk;cases hk;exact h.2.lt
 ·rename_i hc
  rw[hc]at hk;cases hk;exact h.2.lt
theorem aZ.aF{β:Env}{S:List Nat}{w w':World}{i:Nat}{r:Row}(h:aZ β w i r)(hc:ai S w w')(hS:∀k,aB β i r=some k→k∉S):aZ β w' i r:=by
 unfold aZ at h ⊢;unfold aB at hS;split at h
 ·rename_i size n xs hcs
  rw[hcs]at hS;exact⟨h.1,Own.aF h.2 hc (by rw[pc];exact hS)⟩
 ·rename_i cs hcs
  rw[hcs]at hS;exact aq.aF h hc (hS _ rfl)
 ·rename_i cs hcs
  rw[hcs]at hS;exact aq.aF h hc (hS _ rfl)
 ·trivial
 ·rename_i hcs
  rw[hcs]at hS;exact⟨h.1,aq.aF h.2 hc (hS _ rfl)⟩
 ·rename_i hcs
  rw[hcs]at hS;exact⟨h.1,aq.aF h.2 hc (hS _ rfl)⟩
theorem aZ.congr{β β':Env}{w:World}{i:Nat}{r:Row}{Q:Nat→Prop}(hb:β.same β' Q)(hi:Q i)(hr:r.cs.on Q)(h:aZ β w i r):aZ β' w i r:=by
 obtain⟨h1,h2,h3,h4⟩:=hb i hi;obtain⟨T,cs⟩:=r;cases cs with
 |own size n xs=>show β'.n i=n∧Own w T size (.slice (β'.a i) n (β'.c i)) n xs;rw[←h2,←h3,←h4];exact h
 |aj cs=>show aq w (β' i) T cs;rw[←h1];exact h
 |dead=>trivial
 |cR g cs=>show β' i=g∧aq w (β' i) T cs;rw[←h1];exact h
 |dC cs=>show aq w (β' i) T (cs.map (SV.den β'));rw[←h1,show cs.map (SV.den β')=cs.map (SV.den β)from(W3 fun s hm=>SV.cg hb (hr s hm)).symm];exact h
 |ji g cs=>show β' i=g∧aq w (β' i) T (cs.map (SV.den β'));rw[←h1,show cs.map (SV.den β')=cs.map (SV.den β)from(W3 fun s hm=>SV.cg hb (hr s hm)).symm];exact h
theorem ba{β β':Env}{i:Nat}{r:Row}{Q:Nat→Prop}(hb:β.same β' Q)(hi:Q i):aB β i r=aB β' i r:=by
 obtain⟨h1,h2,_⟩:=hb i hi;obtain⟨T,cs⟩:=r;cases cs with
 |own size n xs=>show(β.a i).map _=(β'.a i).map _;rw[h2]
 |aj cs=>show some (β i)=some (β' i);rw[h1]
 |dead=>rfl
 |cR g cs=>show some (β i)=some (β' i);rw[h1]
 |ji g cs=>show some (β i)=some (β' i);rw[h1]
 |dC cs=>show some (β i)=some (β' i);rw[h1]
def Row.fixed(r:Row):Bool:=match r.cs with
 |.own _ _ _=>false
 |.dead=>false
 |_=>true
theorem aZ.bO{β:Env}{w:World}{i:Nat}{r:Row}(h:aZ β w i r)(hf:r.fixed=true):aq w (β i) r.ty (r.cs.den β):=by
 unfold aZ at h;unfold Row.fixed at hf;split at h
 ·rename_i hc;rw[hc]at hf;cases hf
 ·rename_i hc;rw[hc];exact h
 ·rename_i hc;rw[hc];exact h
 ·rename_i hc;rw[hc]at hf;cases hf
 ·rename_i hc;rw[hc];exact h.2
 ·rename_i hc;rw[hc];exact h.2
theorem aZ.tag{β:Env}{w:World}{i:Nat}{r:Row}(h:aZ β w i r):∀g,r.cs.tag=some g→β i=g:=by
 intro g hg;unfold aZ at h;split at h
 ·rename_i hc;rw[hc]at hg;cases hg
 ·rename_i hc;rw[hc]at hg;cases hg
 ·rename_i hc;rw[hc]at hg;cases hg
 ·rename_i hc;rw[hc]at hg;cases hg
 ·rename_i hc;rw[hc]at hg;cases hg;exact h.1
 ·rename_i hc;rw[hc]at hg;cases hg;exact h.1
theorem aZ.oo{β:Env}{w:World}{i:Nat}{r:Row}(h:aq w (β i) r.ty (r.cs.den β))(hf:r.fixed=true)(ht:∀g,r.cs.tag=some g→β i=g):aZ β w i r:=by
 unfold aZ;unfold Row.fixed at hf;split
 ·rename_i hc;rw[hc]at hf;cases hf
 ·rename_i hc;rw[hc]at h;exact h
 ·rename_i hc;rw[hc]at h;exact h
 ·trivial
 ·rename_i hc;rw[hc]at h ht;exact⟨ht _ rfl,h⟩
 ·rename_i hc;rw[hc]at h ht;exact⟨ht _ rfl,h⟩
theorem aH{β:Env}{i:Nat}{r:Row}(hf:r.fixed=true):aB β i r=some (β i):=by
 unfold aB;unfold Row.fixed at hf;split
 ·rename_i hc;rw[hc]at hf;cases hf
 ·rfl
 ·rfl
 ·rename_i hc;rw[hc]at hf;cases hf
 ·rfl
 ·rfl
def iL{α:Type}(P:Program):Sem α→Option α
 |.pure a=>some a
 |.program k=>iL P (k P)
 |.mark _ k=>iL P k
 |_=>none
theorem ql{α:Type}{P:Program}{s:Sem α}:∀{x:α},iL P s=some x→∀w,s.run P w=.ok x w:=by
 induction s with
 |pure a=>intro x h w;simp only[iL,Xc.injEq]at h;subst h;rfl
 |program k ih=>intro x h w;simp only[iL]at h;simp only[Yw];exact ih P h w
 |mark m k ih=>intro x h w;simp only[iL]at h;simp only[Yw];exact ih h w
 |_=>intro x h;simp[iL]at h
inductive gA where
 |val (v:Value)
 |sl (T:TypeId) (size n:Nat) (xs:List Value)
 |nu (pre:List Value) (T:TypeId) (size n:Nat) (xs:List Value) (post:List Value)
def dM(W:World)(r:gA)(e:Ending)(w':World):Prop:=match r with
 |.val v=>e=.returned v∧ai [] W w'
 |.sl T size n xs=>∃s,e=.returned s∧Acc W w' T size s n xs
 |.nu pre T size n xs post=>∃s,e=.returned (.tuple (pre++s::post).toArray)∧Acc W w' T size s n xs
def rh(W:World)(s0:Value)(r:gA)(e:Ending)(w':World):Prop:=match r with
 |.val _=>False
 |.sl T size n xs=>∃s,e=.returned s∧Own w' T size s n xs∧ai s0.ownBlock.toList W w'∧∀k,s.ownBlock=some k→s0.ownBlock=some k∨W.heap.size≤k
 |.nu pre T size n xs post=>∃s,e=.returned (.tuple (pre++s::post).toArray)∧Own w' T size s n xs∧ai s0.ownBlock.toList W w'∧∀k,s.ownBlock=some k→s0.ownBlock=some k∨W.heap.size≤k
structure ct where
 gw:List Nat
 de:List (Nat×Row)
 kill:List Nat
 new:List Row
 ret:SV
 En:Option Prop
inductive Hint where
 |is (v:Value)
 |any (v:Value)
 |bin (v:Value)
 |call (v:Value)
 |ld (v:Value)
 |st (cs:List Value)
 |ix
 |jq (t:TypeId) (size:Nat)
 |app (m:Nat) (news:List Value)
 |Ww (lo hi:Nat)
 |bS (r:gA)
 |fI (r:gA)
 |du (p:Nat) (cs:List Value) (v:Value)
 |rT
 |ay (g:ct)
 |vS (l:List (Nat×TypeId×Nat))
 |join (fr:List (Nat×SV)) (mem:List Row)
 |SA (l:List (Nat×List (Nat×SV)×List Row))
def hint:List (Nat×Hint)→Option Tmp→Option Hint
 |_,none=>none
 | [],_=>none
 | (k,v)::r,some t=>match WZ k t with
  |true=>some v
  |false=>hint r (some t)
inductive XK where
 |de (p i:Nat) (row:Row) (v:Value)
 |Gh (ps:List (Nat×Nat))
inductive qU where
 |val (sv:SV) (ob:Option Prop)
 |call (f:FuncId) (args:List Value) (v:Value)
 |alloc (t:TypeId) (cs:Cells) (ln:Option Nat)
 |store (i:Nat) (row:Row) (ob:Option Prop)
 |grow (kill:Option Nat) (t:TypeId) (size n:Nat) (xs:List Value) (ob:Option Prop)
 |bS (f:FuncId) (args:List SV) (r:gA)
 |ec (i:Nat) (row:Row) (ob:Option Prop)
 |fI (f:FuncId) (i:Nat) (r:gA)
 |eS (f:FuncId) (args:List SV) (x:XK)
 |bad
def QI(e:Operand→Option SV)(x:Operand):Value:=match e x with
 |some (.val v)=>v
 |_=>undef
def isVal(e:Operand→Option SV)(x:Operand):Bool:=match e x with
 |some (.val _)=>true
 |_=>false
def eA{α:Type}(p:α→Bool):List α→Bool
 | []=>true
 |x::r=>match p x with
  |true=>eA p r
  |false=>false
theorem aU{α:Type}{p:α→Bool}:∀{l:List α},eA p l=true→∀x∈l,p x=true
 |y::r,h,x,hx=>by
  unfold eA at h;split at h
  ·rcases Xh.1 hx with rfl|hx
   ·assumption
   ·exact aU h x hx
  ·cases h
def uQ:List SV→Option (List Value)
 | []=>some []
 |sv::r=>match sv with
  |.val v=>match uQ r with
   |some l=>some (v::l)
   |none=>none
  |_=>none
def gh:List SV→Option (List Atom)
 | []=>some []
 |sv::r=>match sv with
  |.val v=>match gh r with
   |some l=>some (.v v::l)
   |none=>none
  |.own i=>match gh r with
   |some l=>some (.o i::l)
   |none=>none
  |.ptr i off=>match gh r with
   |some l=>some (.p i off::l)
   |none=>none
  |.lj i off len cut=>match gh r with
   |some l=>some (.s i off len cut::l)
   |none=>none
  |_=>none
theorem uP{β:Env}:∀{l:List SV} {vs:List Value},uQ l=some vs→l.map (SV.den β)=vs
 | [],vs,h=>by
  have:vs=[]:=by simpa[uQ]using h.symm
  subst this;rfl
 |sv::r,vs,h=>by
  unfold uQ at h;split at h
  ·split at h
   ·rename_i l hl
    cases h;rw[W0,uP hl];rfl
   ·cases h
  ·cases h
theorem nJ{β:Env}:∀{l:List SV} {as:List Atom},gh l=some as→l.map (SV.den β)=as.map (Atom.den β)
 | [],vs,h=>by
  have:vs=[]:=by simpa[gh]using h.symm
  subst this;rfl
 |sv::r,vs,h=>by
  unfold gh at h;split at h
  all_goals first
   | (cases h;done)
   | (
     split at h
     ·rename_i l hl
      cases h;rw[W0,nJ hl];rfl
     ·cases h)
theorem qi{Q:Nat→Prop}:∀{l:List SV} {as:List Atom},gh l=some as→(∀s∈l,s.on Q)→∀a∈as,a.on Q
 | [],vs,h,_=>by
  have:vs=[]:=by simpa[gh]using h.symm
  subst this;intro a ha;cases ha
 |sv::r,vs,h,hq=>by
  unfold gh at h;have h0:=hq sv (by simp);split at h
  all_goals first
   | (cases h;done)
   | (
     split at h
     ·rename_i l hl
      cases h;intro a ha;rcases Xh.1 ha with rfl|ha
      ·exact h0
      ·exact qi hl (fun s hs=>hq s (WT _ hs)) a ha
     ·cases h)
def yh(cs:List SV):Option SV:=match uQ cs with
 |some vs=>some (.val (.agg vs.toArray))
 |none=>match gh cs with
  |some l=>some (.ej l)
  |none=>none
theorem yg{β:Env}{cs:List SV}{sv:SV}(h:yh cs=some sv):sv.den β=.agg (cs.map (SV.den β)).toArray:=by
 unfold yh at h;split at h
 ·rename_i vs hv
  cases h;rw[uP hv];rfl
 ·split at h
  ·rename_i l hl
   cases h;rw[nJ hl];rfl
  ·cases h
theorem BB{Q:Nat→Prop}{cs:List SV}{sv:SV}(h:yh cs=some sv)(hq:∀s∈cs,s.on Q):sv.on Q:=by
 unfold yh at h;split at h
 ·cases h;trivial
 ·split at h
  ·rename_i l hl
   cases h;exact qi hl hq
  ·cases h
def cH(P:Program)(t:TypeId)(r:Row)(off:Nat):qU:=
 match r.fixed with
 |false=>.bad
 |true=>match P.underlying t,P.info? t with
  |some d,some inf=>match d.isRow with
   |true=>match r.cs with
    |.aj cs=>match WZ off 0&&WZ inf.size cs.length with
     |true=>.val (.val (.agg cs.toArray)) none
     |false=>match XQ (off+inf.size) cs.length with
      |true=>.val (.val (.agg ((cs.drop off).take inf.size).toArray)) none
      |false=>.bad
    |.cR _ cs=>match WZ off 0&&WZ inf.size cs.length with
     |true=>.val (.val (.agg cs.toArray)) none
     |false=>match XQ (off+inf.size) cs.length with
      |true=>.val (.val (.agg ((cs.drop off).take inf.size).toArray)) none
      |false=>.bad
    |.dC cs=>match WZ off 0&&WZ inf.size cs.length with
     |true=>match yh cs with
      |some sv=>.val sv none
      |none=>.bad
     |false=>.bad
    |.ji _ cs=>match WZ off 0&&WZ inf.size cs.length with
     |true=>match yh cs with
      |some sv=>.val sv none
      |none=>.bad
     |false=>.bad
    |_=>.bad
   |false=>match r.cs with
    |.aj cs=>match cs[off]? with
     |some v=>.val (.val v) none
     |none=>.bad
    |.cR _ cs=>match cs[off]? with
     |some v=>.val (.val v) none
     |none=>.bad
    |.dC cs=>match cs[off]? with
     |some v=>.val v none
     |none=>.bad
    |.ji _ cs=>match cs[off]? with
     |some v=>.val v none
     |none=>.bad
    |_=>.bad
  |_,_=>.bad
def bC(P:Program)(t:TypeId)(r:Row)(off:Nat)(v:Value):qU:=
 match r.cs with
 |.own _ _ xs=>match P.underlying t,P.info? t with
  |some d,some inf=>match d.isRow with
   |true=>match v with
    |.agg arr=>match Xd 0 inf.size with
     |true=>.val (.val (.agg arr)) (some (arr.toList.length=inf.size∧(xs.drop off).take inf.size=arr.toList))
     |false=>.bad
    |_=>.bad
   |false=>.val (.val v) (some (xs[off]?=some v))
  |_,_=>.bad
 |_=>.bad
def Cells.JB(c:Cells)(l:List Value):Cells:=match c with
 |.cR g _=>.cR g l
 |.ji g _=>.cR g l
 |_=>.aj l
theorem Nc{β:Env}{c:Cells}{l:List Value}:(c.JB l).den β=l:=by cases c<;>rfl
theorem Nb{c:Cells}{l:List Value}:(c.JB l).tag=c.tag:=by cases c<;>rfl
theorem G9{c:Cells}{l:List Value}{Q:Nat→Prop}:(c.JB l).on Q:=by cases c<;>exact WN
theorem Fz{T T':TypeId}{c:Cells}{l:List Value}(h:(⟨T,c⟩:Row).fixed=true):(⟨T',c.JB l⟩:Row).fixed=true:=by cases c<;>first|rfl|cases h
def Atom.sv:Atom→SV
 |.v x=>.val x
 |.o i=>.own i
 |.p i off=>.ptr i off
 |.s i off len cut=>.lj i off len cut
theorem Atom.sj{β:Env}{a:Atom}:a.sv.den β=a.den β:=by cases a<;>rfl
theorem Atom.Bk{Q:Nat→Prop}{a:Atom}(h:a.on Q):a.sv.on Q:=by cases a<;>exact h
def Atom.one:Atom→Bool
 |.v x=>x.oneCell'
 |_=>true
theorem Atom.one_den{β:Env}{a:Atom}(h:a.one=true):(a.den β).oneCell'=true:=by
 cases a with
 |v x=>exact h
 |o i=>rfl
 |p i off=>rfl
 |s _ _ _ _=>rfl
def cO(P:Program)(t:TypeId)(i:Nat)(r:Row)(off:Nat)(sv:SV):qU:=
 match r.fixed with
 |false=>.bad
 |true=>match P.info? t with
 |none=>.bad
 |some inf=>match sv with
  |.val v=>match WZ v.cells.toList.length inf.size&&eA (·.oneCell') v.cells.toList with
   |true=>match WZ off 0&&WZ inf.size r.cs.len with
    |true=>.store i ⟨r.ty,r.cs.JB v.cells.toList⟩ none
    |false=>match XQ (off+inf.size) r.cs.len with
     |true=>.store i ⟨r.ty,match r.cs with
      |.aj cs=>.aj (cs.take off++(v.cells.toList++cs.drop (off+inf.size)))
      |.dC cs=>.dC (cs.take off++(v.cells.toList.map .val++cs.drop (off+inf.size)))
      |.cR g cs=>.cR g (cs.take off++(v.cells.toList++cs.drop (off+inf.size)))
      |.ji g cs=>.ji g (cs.take off++(v.cells.toList.map .val++cs.drop (off+inf.size)))
      |c=>c⟩ none
     |false=>.bad
   |false=>.bad
  |sv=>match sv.one&&WZ inf.size 1 with
   |true=>match Xd off r.cs.len with
    |true=>.store i ⟨r.ty,match r.cs with
     |.aj cs=>.dC ((cs.map .val).set off sv)
     |.dC cs=>.dC (cs.set off sv)
     |.cR g cs=>.ji g ((cs.map .val).set off sv)
     |.ji g cs=>.ji g (cs.set off sv)
     |c=>c⟩ none
    |false=>.bad
   |false=>match sv with
    |.ej l=>match(WZ off 0&&WZ inf.size r.cs.len)&&(WZ l.length inf.size&&eA Atom.one l)with
     |true=>.store i ⟨r.ty,match r.cs with
      |.cR g _=>.ji g (l.map Atom.sv)
      |.ji g _=>.ji g (l.map Atom.sv)
      |_=>.dC (l.map Atom.sv)⟩ none
     |false=>.bad
    |_=>.bad
def bB(P:Program)(t:TypeId)(i:Nat)(r:Row)(off:Nat)(sv:SV):qU:=match r.cs with
 |.own size n xs=>match P.info? t with
  |some inf=>match sv with
   |.val v=>match WZ v.cells.toList.length inf.size&&(eA (·.oneCell') v.cells.toList&&Xd 0 inf.size)with
    |true=>.ec i ⟨r.ty,.own size n (xs.take off++(v.cells.toList++xs.drop (off+inf.size)))⟩ (some (off+inf.size≤xs.length))
    |false=>.bad
   |_=>.bad
  |none=>.bad
 |_=>.bad
def bX(P:Program)(t:TypeId)(r:Row)(off:Nat)(v:Value):qU:=
 match P.underlying t with
 |some d=>match d.isRow with
  |false=>match r.cs with
   |.aj cs=>.val (.val v) (some (cs[off]?=some v))
   |.cR _ cs=>.val (.val v) (some (cs[off]?=some v))
   |_=>.bad
  |true=>.bad
 |none=>.bad
def bH(P:Program)(t:TypeId)(i:Nat)(r:Row)(off:Nat)(sv:SV)(cs':List Value):qU:=
 match P.info? t with
 |none=>.bad
 |some inf=>match sv with
  |.val v=>match WZ v.cells.toList.length inf.size&&eA (·.oneCell') v.cells.toList with
   |true=>match r.cs with
    |.aj cs=>.store i ⟨r.ty,.aj cs'⟩ (some (off+inf.size≤cs.length∧cs.take off++(v.cells.toList++cs.drop (off+inf.size))=cs'))
    |.cR g cs=>.store i ⟨r.ty,.cR g cs'⟩ (some (off+inf.size≤cs.length∧cs.take off++(v.cells.toList++cs.drop (off+inf.size))=cs'))
    |_=>.bad
   |false=>.bad
  |_=>.bad
def FW(ρ:Operand→Value)(o:Oper):Option (Sem Value):=
 match o.op with
 |.binOp op t x y _=>some (do eqGuard op t x y (ρ x) (ρ y);binOp op t (ρ x) (ρ y))
 |.unOp op _ x=>some (Op.unary op (ρ x))
 |.convert s d x=>some (convert s d (ρ x))
 |.slice t x lo hi mx=>some (Yk t (ρ x) (lo.map ρ) (hi.map ρ) (mx.map ρ))
 |.index t x i=>some (Instr.index t (ρ x) (ρ i))
 |.indexAddr t x i=>some (XN t (ρ x) (ρ i))
 |.field t x f=>some (Instr.field t (ρ x) f)
 |.load t x=>some (X4 t (ρ x))
 |.fieldAddr t x f=>some (X0 t (ρ x) f)
 |_=>none
def bG(P:Program)(w0:aV)(h:Option Hint)(e:Operand→Option SV)(o:Oper):qU:=
 match eA (isVal e) o.op.operands.toList&&Region.noSelect #[o]with
 |false=>.bad
 |true=>match h with
  |some (.any v)=>match FW (QI e) o with
   |some s=>.val (.val v) (some (∀W,ai w0.S w0.w W→s.run P W=.ok v W))
   |none=>.val (.val v) (some (∀W,ai w0.S w0.w W→(execOp (QI e) o).run P W=.ok (.value v) W))
  |some (.bin v)=>match FW (QI e) o with
   |some s=>.val (.val v) (some (∀W,s.run P W=.ok v W))
   |none=>.bad
  |some (.is v)=>match iL P (execOp (QI e) o)with
   |some (.value u)=>.val (.val v) (some (u=v))
   |_=>.bad
  |_=>match iL P (execOp (QI e) o)with
   |some (.value u)=>.val (.val u) none
   |_=>.bad
def dv(P:Program)(w0:aV)(h:Option Hint)(e:Operand→Option SV)(o:Oper):qU:=
 match h with
 |some (.call v)=>match eA (isVal e) o.op.operands.toList&&Region.noSelect #[o]with
  |false=>.bad
  |true=>match iL P (execOp (QI e) o)with
   |some (.enter f args)=>.call f args.toList v
   |_=>.bad
 |_=>bG P w0 h e o
def UD(H:List (Nat×Hint)):Operand→Option Hint
 |.tmp x=>hint H (some (100000+x))
 |_=>none
def EP(c:Call):Option (TypeId×Operand):=match c.callee with
 |.builtin b=>match b with
  |.len=>match c.args.toList,c.argTypes.toList with
   | [x],[t]=>some (t,x)
   |_,_=>none
  |_=>none
 |_=>none
def jX(e:Operand→Option SV):List Operand→Option (List SV)
 | []=>some []
 |x::r=>match e x,jX e r with
  |some sv,some l=>some (sv::l)
  |_,_=>none
def bE(P:Program)(e:Operand→Option SV)(c:Call)(r:gA):qU:=match c.callee with
 |.value (.func f)=>match P.funcs[f]? with
  |some fn=>match fn.name== "runtime.NumGoroutine"||fn.body.isNone with
   |false=>match jX e c.args.toList with
    |some l=>.bS f l r
    |none=>.bad
   |true=>.bad
  |none=>.bad
 |_=>.bad
def isSlice:gA→Bool
 |.val _=>false
 |_=>true
def di(P:Program)(e:Operand→Option SV)(c:Call)(r:gA):qU:=match bE P e c r with
 |.bS f args _=>match args with
  | [.own i]=>match isSlice r with
   |true=>.fI f i r
   |false=>.bad
  |_=>.bad
 |_=>.bad
def Cells.list:Cells→Option (List Value)
 |.aj cs=>some cs
 |.cR _ cs=>some cs
 |_=>none
def oc(row:Nat→Option Row):Nat→List SV→List (Nat×Nat)
 |_,[]=>[]
 |k,sv::r=>match sv with
  |.ptr i 0=>match row i with
   |some rw=>match rw.fixed with
    |true=>(k,i)::oc row (k+1) r
    |false=>oc row (k+1) r
   |none=>oc row (k+1) r
  |_=>oc row (k+1) r
theorem tC{row:Nat→Option Row}:∀{l:List SV} {k:Nat} {q:Nat×Nat},q∈oc row k l→k≤q.1∧l[q.1 - k]?=some (.ptr q.2 0)∧∃r,row q.2=some r∧r.fixed=true
 | [],k,q,h=>by cases h
 |sv::r,k,q,h=>by
  have tail:q∈oc row (k+1) r→k≤q.1∧(sv::r)[q.1 - k]?=some (.ptr q.2 0)∧∃r,row q.2=some r∧r.fixed=true:=fun h=>by obtain⟨h1,h2,h3⟩:=tC h;refine⟨by omega,?_,h3⟩;rw[show q.1 - k=(q.1 - (k+1))+1 by omega,Xp];exact h2
  unfold oc at h;split at h
  ·split at h
   ·rename_i rw hrow
    split at h
    ·rename_i hf
     rcases Xh.1 h with rfl|h
     ·exact⟨Xx _,by simp,rw,hrow,hf⟩
     ·exact tail h
    ·exact tail h
   ·exact tail h
  ·exact tail h
def ga(P:Program)(e:Operand→Option SV)(row:Nat→Option Row)(c:Call):Hint→qU
 |.du p cs v=>match bE P e c (.val v)with
  |.bS f args _=>match args[p]? with
   |some (.ptr i 0)=>match row i with
    |some r=>match r.cs.list with
     |some l=>match WZ l.length cs.length with
      |true=>.eS f args (.de p i ⟨r.ty,r.cs.JB cs⟩ v)
      |false=>.bad
     |none=>.bad
    |none=>.bad
   |_=>.bad
  |_=>.bad
 |.rT=>match bE P e c (.val undef)with
  |.bS f args _=>.eS f args (.Gh (oc row 0 args))
  |_=>.bad
 |_=>.bad
def FR(w0:aV)(row:Nat→Option Row)(size:Nat)(h:Option Hint):SV→Option (Nat×List Value×Prop)
 |.nO j off m _=>match row j with
  |some r=>match r.cs with
   |.aj cs=>some (m,(cs.drop off).take (m*size),True)
   |_=>none
  |none=>none
 |.own j=>match row j with
  |some r=>match r.cs with
   |.own _ n xs=>some (n,xs,True)
   |_=>none
  |none=>none
 |.lj j off m cut=>match row j with
  |some r=>match r.cs with
   |.own sz n xs=>some (m,(xs.drop off).take (m*size),off=cut*sz∧cut+m≤n)
   |_=>none
  |none=>none
 |.val v=>match h with
  |some (.app m news)=>some (m,news,∀W,ai w0.S w0.w W→∃A c,v=.slice A m c∧(0 < news.length→∃ad,A=some ad∧∀(j:Nat) (u:Value),news[j]?=some u→W.cell? (ad.add j)=some u))
  |_=>none
 |_=>none
def Dw(P:Program)(t:TypeId):Option (TypeId×Nat×Nat):=match P.underlying t with
 |some (.slice e)=>match P.info? e with
  |some inf=>match inf.zero with
   |some z=>match WZ z.cells.size inf.size&&Xd 0 inf.size with
    |true=>some (e,inf.size,inf.bytes)
    |false=>none
   |none=>none
  |none=>none
 |_=>none
def kT(P:Program)(w0:aV)(row:Nat→Option Row)(h:Option Hint)(t:TypeId)(kill:Option Nat)(el size n:Nat)(xs:List Value)(y:SV):qU:=
 match Dw P t with
 |some (e,sz,bytes)=>match WZ e el&&WZ sz size with
  |true=>match FR w0 row size h y with
   |some (m,news,ob)=>.grow kill el size (n+m) (xs++news) (some (ob∧news.length=m*size∧(∀u∈news,u.oneCell'=true)∧n+m≤maxLen∧(n+m)*bytes≤140737488355328))
   |none=>.bad
  |false=>.bad
 |none=>.bad
def fN(P:Program)(w0:aV)(row:Nat→Option Row)(h:Option Hint)(t:TypeId)(x y:SV):qU:=
 match x with
 |.own i=>match row i with
  |some r=>match r.cs with
   |.own size n xs=>kT P w0 row h t (some i) r.ty size n xs y
   |_=>.bad
  |none=>.bad
 |.val (.slice none 0 0)=>match Dw P t with
  |some (e,sz,_)=>kT P w0 row h t none e sz 0 [] y
  |none=>.bad
 |_=>.bad
def AX(c:Call):Option (TypeId×Operand×Operand):=match c.callee with
 |.builtin b=>match b with
  |.append=>match c.args.toList,c.argTypes.toList with
   | [x,y],[t,u]=>match WZ t u with
    |true=>some (t,x,y)
    |false=>none
   |_,_=>none
  |_=>none
 |_=>none
def dA(P:Program)(w0:aV)(h:Option Hint)(e:Operand→Option SV)(o:Oper)(x:Operand):qU:=match e x with
 |some sv=>match h with
  |none=>.val sv none
  |some (.jq t size)=>match sv with
   |.val (.slice none 0 0)=>.grow none t size 0 [] none
   |sv=>.val sv none
  |_=>bG P w0 h e o
 |none=>.bad
def US(e:Operand→Option SV)(d:Nat):Option Operand→Option Int
 |none=>some d
 |some x=>match e x with
  |some (.val (.int _ k))=>some k
  |_=>none
def kn(P:Program)(h:Option Hint)(e:Operand→Option SV)(row:Nat→Option Row)(t:TypeId)(i:Nat)(lo hi:Option Operand):qU:=match row i with
 |some r=>match r.cs with
  |.own size n _=>match Dw P t with
   |some (_,sz,_)=>match WZ sz size with
    |true=>match US e 0 lo,US e n hi with
     |some kl,some kh=>match h with
      |some (.Ww l u)=>.val (.lj i (l*size) (u - l) l) (some (kl=l∧kh=u∧l≤u∧u≤n))
      |_=>.bad
     |_,_=>.bad
    |false=>.bad
   |none=>.bad
  |_=>.bad
 |none=>.bad
def cP(P:Program)(w0:aV)(h:Option Hint)(e:Operand→Option SV)(row:Nat→Option Row)(o:Oper)(t:TypeId)(x:Operand)(lo hi mx:Option Operand):qU:=match e x with
 |some (.own i)=>match mx with
  |none=>kn P h e row t i lo hi
  |some _=>.bad
 |_=>bG P w0 h e o
def fb(P:Program)(w0:aV)(h:Option Hint)(e:Operand→Option SV)(row:Nat→Option Row)(o:Oper)(c:Call):qU:=match EP c with
 |some (t,x)=>match e x with
  |some (.own i)=>match row i with
   |some r=>match r.cs with
    |.own _ n _=>match P.underlying t with
     |some (.slice _)=>.val (.val (.int .i64 (n:Int))) none
     |_=>.bad
    |_=>.bad
   |none=>.bad
  |some (.nO _ _ n _)=>match P.underlying t with
   |some (.slice _)=>.val (.val (.int .i64 (n:Int))) none
   |_=>.bad
  |some (.lj _ _ n _)=>match P.underlying t with
   |some (.slice _)=>.val (.val (.int .i64 (n:Int))) none
   |_=>.bad
  |_=>dv P w0 h e o
 |none=>dv P w0 h e o
def od(e:Operand→Option SV):Nat→List (Nat×Operand)→Option (List Value)
 |_,[]=>some []
 |k,p::r=>match WZ p.1 k with
  |true=>match e p.2 with
   |some (.val v)=>match od e (k+1) r with
    |some l=>some (v::l)
    |none=>none
   |_=>none
  |false=>none
def kq(P:Program)(e:Operand→Option SV)(t:TypeId)(len:Nat)(parts:List (Nat×Operand)):qU:=match od e 0 parts with
 |some vs=>match P.underlying t with
  |some (.slice el)=>match P.info? el with
   |some inf=>match inf.zero with
    |some z=>match eA (fun v=>WZ v.cells.toList.length inf.size) vs&&(WZ vs.length len&&(WZ z.cells.toList.length inf.size&&(XQ (len*inf.size) 16777216&&(Xd 0 inf.size&&Xd 0 len))))with
     |true=>.alloc el (.aj (vs.flatMap fun v=>v.cells.toList)) (some len)
     |false=>.bad
    |none=>.bad
   |none=>.bad
  |_=>.bad
 |none=>.bad
def sW(P:Program):qU→qU
 |.alloc el (.aj cs) (some n)=>match P.info? el with
  |some inf=>match WZ cs.length (n*inf.size)&&XQ n 16777216 with
   |true=>.grow none el inf.size n cs none
   |false=>.bad
  |none=>.bad
 |_=>.bad
def Aq(P:Program)(s d:TypeId):Bool:=match P.underlying s with
 |some (.slice el)=>match P.underlying d with
  |some .string=>match P.underlying el with
   |some (.int .u8)=>true
   |_=>false
  |_=>false
 |_=>false
def fA(P:Program)(w0:aV)(H:List (Nat×Hint))(h:Option Hint)(e:Operand→Option SV)(row:Nat→Option Row)(o:Oper):qU:=
 match o.op with
 |.move x | .assign x=>dA P w0 h e o x
 |.nilCheck x=>match e x with
  |some (.ptr i off)=>.val (.ptr i off) none
  |_=>bG P w0 h e o
 |.alloc t=>match P.info? t with
  |some inf=>match inf.zero with
   |some z=>.alloc t (.aj z.cells.toList) none
   |none=>.bad
  |none=>.bad
 |.box t x=>match e x with
  |some (.val v)=>.alloc t (.aj v.cells.toList) none
  |some (.ej l)=>.alloc t (.dC (l.map Atom.sv)) none
  |some sv=>match sv.one with
   |true=>.alloc t (.dC [sv]) none
   |false=>.bad
  |none=>.bad
 |.load t x=>match e x with
  |some (.ptr i off)=>match row i with
   |some r=>match h with
    |some (.ld v)=>bX P t r off v
    |_=>cH P t r off
   |none=>.bad
  |some (.mM i off)=>match row i with
   |some r=>match h with
    |some (.ld v)=>bC P t r off v
    |_=>.bad
   |none=>.bad
  |_=>match h with
   |some (.any v)=>bG P w0 (some (.any v)) e o
   |_=>.bad
 |.store t x y=>match e x with
  |some (.ptr i off)=>match e y with
   |some sv=>match row i with
    |some r=>match UD H x with
     |some (.st cs')=>bH P t i r off sv cs'
     |_=>cO P t i r off sv
    |none=>.bad
   |none=>.bad
  |some (.mM i off)=>match e y with
   |some sv=>match row i with
    |some r=>bB P t i r off sv
    |none=>.bad
   |none=>.bad
  |_=>.bad
 |.extract x k=>match e x with
  |some (.nu l i r)=>match WZ k l.length with
   |true=>.val (.own i) none
   |false=>match l[k]? with
    |some v=>.val (.val v) none
    |none=>match Xd l.length k with
     |true=>match r[k - l.length - 1]? with
      |some v=>.val (.val v) none
      |none=>.bad
     |false=>.bad
  |_=>bG P w0 h e o
 |.buildSlice t len parts=>match h with
  |some (.jq _ _)=>sW P (kq P e t len parts.toList)
  |_=>match len,parts.toList with
  | 1,[(0,x)]=>match e x with
   |some (.val v)=>match P.underlying t with
    |some (.slice el)=>match P.info? el with
     |some inf=>match inf.zero with
      |some z=>match WZ v.cells.toList.length inf.size&&(WZ z.cells.toList.length inf.size&&(XQ inf.size 16777216&&Xd 0 inf.size))with
       |true=>.alloc el (.aj v.cells.toList) (some 1)
       |false=>.bad
      |none=>.bad
     |none=>.bad
    |_=>.bad
   |_=>.bad
  |_,_=>kq P e t len parts.toList
 |.fieldAddr s x f=>match e x with
  |some (.ptr i off)=>match P.underlying s with
   |some (.struct fields)=>match fields[f]? with
    |some fd=>match(P.info? fd.type).map (·.size)with
     |some (_+1)=>.val (.ptr i (off+fd.offset)) none
     |_=>.bad
    |none=>.bad
   |_=>.bad
  |some (.mM i off)=>match row i with
   |some r=>match r.cs with
    |.own _ n _=>match P.underlying s with
     |some (.struct fields)=>match fields[f]? with
      |some fd=>match(P.info? fd.type).map (·.size)with
       |some (_+1)=>.val (.mM i (off+fd.offset)) (some (0 < n))
       |_=>.bad
      |none=>.bad
     |_=>.bad
    |_=>.bad
   |none=>.bad
  |_=>bG P w0 h e o
 |.indexAddr t x ix=>match e x with
  |some (.ptr i off)=>match P.underlying t with
   |some (.array len elem)=>match e ix with
    |some (.val (.int _ k))=>match P.info? elem with
     |some inf=>match h with
      |some .ix=>.val (.ptr i (off+k.toNat*inf.size)) (some (0≤k∧k < len))
      |_=>match decide (0≤k∧k < len)with
       |true=>.val (.ptr i (off+k.toNat*inf.size)) none
       |false=>.bad
     |none=>.bad
    |_=>.bad
   |_=>.bad
  |some (.own i)=>match row i with
   |some r=>match r.cs with
    |.own _ n _=>match e ix with
     |some (.val (.int _ k))=>match P.underlying t with
      |some (.slice elem)=>match P.info? elem with
       |some inf=>match h with
        |some .ix=>.val (.mM i (k.toNat*inf.size)) (some (0≤k∧k < n))
        |_=>.bad
       |none=>.bad
      |_=>.bad
     |_=>.bad
    |_=>.bad
   |none=>.bad
  |_=>bG P w0 h e o
 |.convert s d x=>match e x with
  |some sv=>match h with
   |some (.is (.string b))=>match FR w0 row 1 h sv with
    |some (m,news,ob)=>match Aq P s d with
     |true=>.val (.val (.string b)) (some (ob∧b.size=m∧news=b.data.toList.map fun c=>.int .u8 (c.toNat:Int)))
     |false=>.bad
    |none=>bG P w0 h e o
   |_=>bG P w0 h e o
  |none=>bG P w0 h e o
 |.slice t x lo hi mx=>cP P w0 h e row o t x lo hi mx
 |.call c=>match h with
  |some (.bS r)=>bE P e c r
  |some (.fI r)=>di P e c r
  |some (.du p cs v)=>ga P e row c (.du p cs v)
  |some .rT=>ga P e row c .rT
  |_=>match AX c with
   |some (t,x,y)=>match e x,e y with
    |some sx,some sy=>fN P w0 row h t sx sy
    |_,_=>.bad
   |none=>fb P w0 h e row o c
 |_=>bG P w0 h e o
def gg:Option SV→List Nat
 |some (.ptr i _)=>[i]
 |some (.nO i _ _ _)=>[i]
 |some (.mM i _)=>[i]
 |some (.own i)=>[i]
 |some (.lj i _ _ _)=>[i]
 |_=>[]
def aD(e:Operand→Option SV)(o:Oper):List Nat:=
 match o.op with
 |.load _ x=>gg (e x)
 |.store _ x _=>gg (e x)
 |.indexAddr _ x _=>match e x with
  |some (.own i)=>[i]
  |_=>[]
 |.slice _ x _ _ _=>match e x with
  |some (.own i)=>[i]
  |_=>[]
 |.convert _ _ x=>gg (e x)
 |.fieldAddr _ x _=>match e x with
  |some (.mM i _)=>[i]
  |_=>[]
 |.call c=>c.args.toList.flatMap fun x=>gg (e x)
 |_=>[]
def mP(m:Nat):Option Nat→SV
 |none=>.ptr m 0
 |some n=>.nO m 0 n n
def ox(g:Nat):Option Nat→Value
 |none=>.pointer (some ⟨g,0,none⟩)
 |some n=>.slice (some ⟨g,0,none⟩) n n
def au:Row:=⟨0,.dead⟩
def jm:gA→Option Row
 |.val _=>none
 |.sl T size n xs=>some ⟨T,.own size n xs⟩
 |.nu _ T size n xs _=>some ⟨T,.own size n xs⟩
def ij(m:Nat):gA→SV
 |.val v=>.val v
 |.sl _ _ _ _=>.own m
 |.nu pre _ _ _ _ post=>.nu pre m post
def FI(mem:List Row):Option Row→List Row
 |none=>mem
 |some r=>mem++[r]
def eK(mem:List Row):Option Nat→List Row
 |none=>mem
 |some i=>mem.set i au
def Fy(row:Nat→Option Row)(W:World)(i:Nat)(K:Value→Prop):Prop:=match row i with
 |some r=>match r.cs with
  |.own size n xs=>∀s,Own W r.ty size s n xs→K s
  |_=>False
 |none=>False
theorem xv{row:Nat→Option Row}{W:World}{i:Nat}{K:Value→Prop}(h:Fy row W i K):∃r,row i=some r∧∃s m ys,r.cs=.own s m ys:=by
 unfold Fy at h;split at h
 ·rename_i r hr
  split at h
  ·rename_i s m ys hc
   exact⟨r,hr,s,m,ys,hc⟩
  ·exact h.elim
 ·exact h.elim
theorem G7{β:Env}{row:Nat→Option Row}{W:World}{i:Nat}{K:Value→Prop}(h:Fy row W i K)(hr:∀r,row i=some r→aZ β W i r):K (β.sl i):=by
 unfold Fy at h;split at h
 ·rename_i r hrow
  have hh:=hr r hrow;split at h
  ·rename_i s m ys hc
   unfold aZ at hh;rw[hc]at hh;have:=h _ hh.2;rw[←hh.1]at this;exact this
  ·exact h.elim
 ·exact h.elim
def ib(row:Nat→Option Row)(W:World):List SV→(List Value→Prop)→Prop
 | [],K=>K []
 |sv::l,K=>match sv with
  |.val v=>ib row W l fun vs=>K (v::vs)
  |.own i=>match row i with
   |some r=>match r.cs with
    |.own size n xs=>∀s,Own W r.ty size s n xs→ib row W l fun vs=>K (s::vs)
    |_=>False
   |none=>False
  |.ptr i 0=>match row i with
   |some r=>match r.cs with
    |.aj cs=>∀g,aq W g r.ty cs→ib row W l fun vs=>K (.pointer (some ⟨g,0,none⟩)::vs)
    |.cR g cs=>aq W g r.ty cs→ib row W l fun vs=>K (.pointer (some ⟨g,0,none⟩)::vs)
    |_=>False
   |none=>False
  |.lj i off m cut=>match row i with
   |some r=>match r.cs with
    |.own size n xs=>(off=cut*size∧cut+m≤n)∧∀s,Own W r.ty size s m ((xs.drop off).take (m*size))→(0 < n→∃g o c,s=.slice (some ⟨g,o,none⟩) m c)→ib row W l fun vs=>K (s::vs)
    |_=>False
   |none=>False
  |_=>False
def qV(b:aV)(W:World)(vs:List Value)(x:XK)(e:Ending)(w':World):Prop:=match x with
 |.de p _ row v=>∃g l,vs[p]?=some (.pointer (some ⟨g,0,none⟩))∧row.cs.list=some l∧e=.returned v∧aq w' g row.ty l∧ai [g] W w'
 |.Gh ps=>∃chain T,e=.panicked chain∧b.PP chain w'∧ai T W w'∧∀x∈T,∃q∈ps,vs[q.1]?=some (.pointer (some ⟨x,0,none⟩))
theorem O3{w:World}{T size n c:Nat}{A:Option Addr}{xs:List Value}(h:Own w T size (.slice A n c) n xs){off m cut:Nat}(ho:off=cut*size)(hm:cut+m≤n):Own w T size (.slice (if c=cut then A else A.map (·.add off)) m (c - cut)) m ((xs.drop off).take (m*size)):=by
 have hlen:((xs.drop off).take (m*size)).length=m*size:=by
  have h1:cut*size+m*size≤n*size:=by rw[←Yc];exact Xt _ hm
  rw[W2,Xm,h.len];omega
 refine⟨hlen,?_⟩;rcases h.2 with⟨hv,rfl⟩ | ⟨g,o,c',L,hv,hg,hn,hc,hL,hx⟩
 ·injection hv with h1 h2 h3
  subst h1;subst h3;have:m=0:=by omega
  subst this;have:cut=0:=by omega
  subst this;exact .inl ⟨by simp,rfl⟩
 ·injection hv with h1 h2 h3
  subst h1;subst h3;refine .inr ?_;have hcs:cut*size+(c - cut)*size=c*size:=by rw[←Yc]; congr 1; omega
  have hmn:cut*size+m*size≤n*size:=by rw[←Yc];exact Xt _ hm
  by_cases hcc:c=cut
  ·have:m=0:=by omega
   subst this;refine⟨g,o,c - cut,L,by rw[if_pos hcc],hg,by omega,by omega,?_,by simp⟩;rw[hcc,XS];omega
  ·refine⟨g,o+off,c - cut,L,by rw[if_neg hcc]; simp[Addr.add_lit],hg,by omega,by omega,by omega,?_⟩
   rw[←hx,List.drop_take,Yj,List.take_take];congr 1;rw[ho];omega
theorem eV{β:Env}{row:Nat→Option Row}{W:World}:∀{l:List SV} {K:List Value→Prop},ib row W l K→(∀i sv,sv∈l→i∈gg (some sv)→∀r,row i=some r→aZ β W i r)→K (l.map (SV.den β))
 | [],K,h,_=>h
 |sv::l,K,h,hr=>by
  unfold ib at h;split at h
  ·rename_i v
   have:=eV (l:=l) (K:=fun vs=>K (v::vs)) h fun i sv hi=>hr i sv (WT _ hi);exact this
  ·rename_i i
   split at h
   ·rename_i r hrow
    have hh:=hr i (.own i) (by simp) (by simp[gg]) r hrow;split at h
    ·rename_i size n xs hcs
     unfold aZ at hh;rw[hcs]at hh;have:=eV (l:=l) (K:=fun vs=>K (.slice (β.a i) n (β.c i)::vs)) (h (.slice (β.a i) n (β.c i)) hh.2) fun i sv hi=>hr i sv (WT _ hi);rw[←hh.1]at this;exact this
    ·exact h.elim
   ·exact h.elim
  ·rename_i i
   split at h
   ·rename_i r hrow
    have hh:=hr i (.ptr i 0) (by simp) (by simp[gg]) r hrow;split at h
    ·rename_i cs hcs
     unfold aZ at hh;rw[hcs]at hh;exact eV (l:=l) (K:=fun vs=>K (_::vs)) (h _ hh) fun i sv hi=>hr i sv (WT _ hi)
    ·rename_i g cs hcs
     unfold aZ at hh;rw[hcs]at hh;obtain⟨hg,hb⟩:=hh;rw[hg]at hb;have:=eV (l:=l) (K:=fun vs=>K (.pointer (some ⟨g,0,none⟩)::vs)) (h hb) fun i sv hi=>hr i sv (WT _ hi);rw[←hg]at this;exact this
    ·exact h.elim
   ·exact h.elim
  ·rename_i i off m cut
   split at h
   ·rename_i r hrow
    have hh:=hr i (.lj i off m cut) (by simp) (by simp[gg]) r hrow;split at h
    ·rename_i size n xs hcs
     unfold aZ at hh;rw[hcs]at hh;refine eV (l:=l) (K:=fun vs=>K (_::vs)) (h.2 _ (O3 hh.2 h.1.1 h.1.2) fun hn=>?_) fun i sv hi=>hr i sv (WT _ hi);obtain⟨g,o,c',hv,_⟩:=hh.2.some_ hn;injection hv with h1 h2 h3;simp only[SV.den,h1];by_cases hc:β.c i=cut
     ·exact⟨g,o,β.c i - cut,by rw[if_pos hc]⟩
     ·exact⟨g,o+off,β.c i - cut,by rw[if_neg hc]; simp[Addr.add_lit]⟩
    ·exact h.elim
   ·exact h.elim
  ·exact h.elim
end Sx
open Go Go.RowKit Go.Lib Go.Sort
theorem aq.setCells{b:Nat}{t:TypeId}:∀(vs:List Value) (off:Nat) {cs:List Value} {W:World},aq W b t cs→off+vs.length≤cs.length→aq (W.setCells b off vs) b t (cs.take off++(vs++cs.drop (off+vs.length)))
 | [],off,cs,W,h,_=>by simpa[World.setCells]using h
 |v::r,off,cs,W,h,hl=>by
  rw[World.setCells];simp only[Xa]at hl;have:=aq.setCells r (off+1) (h.q8 off v) (by simp;omega);have e:(cs.set off v).take (off+1)++(r++(cs.set off v).drop (off+1+r.length))=cs.take off++((v::r)++cs.drop (off+(v::r).length)):=by rw[XP (by simp;omega),List.drop_set_of_lt (by omega),X6,Ya (by omega)];simp only[List.append_assoc,Yg,XF,Xa];rw[show off+(r.length+1)=off+1+r.length by omega]
  rwa [e]at this
theorem ai.oZ{S:List Nat}{a:World}(b:Nat)(hb:b∈S∨a.heap.size≤b):∀(vs:List Value) (off:Nat) {W:World},ai S a W→ai S a (W.setCells b off vs)
 | [],_,_,h=>h
 |v::r,off,_,h=>ai.oZ b hb r (off+1) (h.setCell (p:=⟨b,off,none⟩) hb v)
namespace Sx
section
variable{P:Program}{β:Env}{W:World}{a:Act}{o:Oper}{e:Operand→Option SV}{row:Nat→Option Row}{hn:Option Hint}
def qU.Ok(P:Program)(β:Env)(W:World)(a:Act)(o:Oper):qU→Prop
 |.val sv ob=>(∀p,ob=some p→p)→(execOp a.eval o).run P W=.ok (.value (sv.den β)) W
 |.call f args _=>(execOp a.eval o).run P W=.ok (.enter f args.toArray) W
 |.alloc t cs ln=>(execOp a.eval o).run P W=.ok (.value (ox W.heap.size ln)) (W.alloc (.cells (cs.den β).toArray t))
 |.grow kill t size n xs ob=>(∀p,ob=some p→p)→∃A c W' S,(execOp a.eval o).run P W=.ok (.value (.slice A n c)) W'∧Own W' t size (.slice A n c) n xs∧ai S W W'∧(∀k∈S,∃i,kill=some i∧(β.a i).map (·.block)=some k)∧∀k,A.map (·.block)=some k→k∈S∨W.heap.size≤k
 |.bS f args _=>(execOp a.eval o).run P W=.ok (.enter f (args.map (SV.den β)).toArray) W
 |.fI f i _=>(execOp a.eval o).run P W=.ok (.enter f #[β.sl i]) W
 |.eS f args _=>(execOp a.eval o).run P W=.ok (.enter f (args.map (SV.den β)).toArray) W
 |.ec i r ob=>(∀p,ob=some p→p)→∃W',(execOp a.eval o).run P W=.ok .skip W'∧aZ β W' i r∧ai (aB β i r).toList W W'
 |.store i r ob=>(∀p,ob=some p→p)→∃W',(execOp a.eval o).run P W=.ok .skip W'∧aq W' (β i) r.ty (r.cs.den β)∧ai [β i] W W'
 |.bad=>True
theorem KN(he:∀x∈o.op.operands,∀sv,e x=some sv→a.eval x=sv.den β)(h:eA (isVal e) o.op.operands.toList=true)(hs:Region.noSelect #[o]=true):execOp a.eval o=execOp (QI e) o:=by
 refine execOp_congr o ?_ fun x hx=>?_
 ·exact fun cs b=>Region.noSelect_spec hs 0 o cs b rfl
 ·have:=aU h x (by simpa using hx)
  unfold isVal at this;unfold QI;split at this
  ·rename_i v hv
   rw[he x hx _ hv];rfl
  ·cases this
theorem Bx{ρ:Operand→Value}{s:Sem Value}(h:FW ρ o=some s){v:Value}(hr:s.run P W=.ok v W):(execOp ρ o).run P W=.ok (.value v) W:=by
 unfold FW at h;split at h
 all_goals first
  |cases h;done
  | (rename_i ho;cases h;unfold execOp;simp only[ho];rw[WU,hr];rfl)
theorem gj{w0:aV}(hw:ai w0.S w0.w W)(he:∀x∈o.op.operands,∀sv,e x=some sv→a.eval x=sv.den β):(bG P w0 hn e o).Ok P β W a o:=by
 unfold bG;split
 ·trivial
 ·rename_i hb
  rw[WS]at hb;have hq:=KN he hb.1 hb.2;split
  ·split
   ·rename_i s hs
    intro hob;rw[hq];exact Bx hs (hob _ rfl W hw)
   ·intro hob
    rw[hq];exact hob _ rfl W hw
  ·split
   ·rename_i s hs
    intro hob;rw[hq];exact Bx hs (hob _ rfl W)
   ·trivial
  ·split
   ·rename_i u hu
    intro hob;rw[hq,ql hu W,hob _ rfl];rfl
   ·trivial
  ·split
   ·rename_i u hu
    intro _;rw[hq,ql hu W];rfl
   ·trivial
theorem G3{w0:aV}(hw:ai w0.S w0.w W)(he:∀x∈o.op.operands,∀sv,e x=some sv→a.eval x=sv.den β):(dv P w0 hn e o).Ok P β W a o:=by
 unfold dv;split
 ·split
  ·trivial
  ·rename_i hb
   rw[WS]at hb;have hq:=KN he hb.1 hb.2;split
   ·rename_i f args hu
    show _=_;rw[hq,ql hu W]
   ·trivial
 ·exact gj hw he
theorem q9{b off:Nat}{t:TypeId}:(X4 t (.pointer (some ⟨b,off,none⟩))).run P W=(loadVar t ⟨b,off,none⟩).run P W:=by simp[X4,Xk]
theorem kj{t:TypeId}{x:Operand}{b off:Nat}{d:TypeDesc}{inf:TypeInfo}{cs:List Value}(ho:o.op=.load t x)(hx:a.eval x=.pointer (some ⟨b,off,none⟩))(hu:P.underlying t=some d)(hi:P.info? t=some inf)(hd:d.isRow=true)(hl:inf.size=cs.length)(hc:W.rangeAt b off cs) :
  (execOp a.eval o).run P W=.ok (.value (.agg cs.toArray)) W:=by
 have:=run_loadAt_mid (P:=P) W b off t cs d hc hu hd (by rw[hi];simpa using hl);unfold execOp;simp only[ho,hx,WU,this];rfl
theorem km{t:TypeId}{x:Operand}{b off:Nat}{d:TypeDesc}{v:Value}(ho:o.op=.load t x)(hx:a.eval x=.pointer (some ⟨b,off,none⟩))(hu:P.underlying t=some d)(hd:d.isRow=false)(hc:W.cell? ⟨b,off,none⟩=some v) :
  (execOp a.eval o).run P W=.ok (.value v) W:=by
 have hagg:(isAgg t).run P W=.ok false W:=by unfold isAgg;rw[WU,run_underlying hu W];cases d<;>simp_all
 unfold execOp;simp only[ho,hx,WU,q9];simp[loadVar,WU,hagg,load,Yw,hc]
theorem Gy{t:TypeId}{x:Operand}{i off:Nat}{r:Row}(ho:o.op=.load t x)(hx:a.eval x=.pointer (some ⟨β i,off,none⟩))(hb:aZ β W i r):(cH P t r off).Ok P β W a o:=by
 unfold cH;split
 ·trivial
 ·rename_i hf
  have hb:=hb.bO hf;split
  ·rename_i d inf hu hi
   split
   ·rename_i hd
    split
    ·rename_i cs hcs
     rw[hcs]at hb;split
     ·rename_i hh
      rw[WS]at hh;have h0:=WO hh.1;have h1:=WO hh.2;intro _;refine kj ho hx hu hi hd h1 fun j v hv=>?_;rw[h0,Xz];exact hb.cell_of hv
     ·split
      ·rename_i hh
       have hl:=WR hh;intro _;refine kj ho hx hu hi hd (by simp;omega) fun j v hv=>?_;refine hb.cell_of ?_;rw[W6]at hv;split at hv
       ·rw[W7]at hv;exact hv
       ·cases hv
      ·trivial
    ·rename_i cs hcs
     rw[hcs]at hb;split
     ·rename_i hh
      rw[WS]at hh;have h0:=WO hh.1;have h1:=WO hh.2;intro _;refine kj ho hx hu hi hd h1 fun j v hv=>?_;rw[h0,Xz];exact hb.cell_of hv
     ·split
      ·rename_i hh
       have hl:=WR hh;intro _;refine kj ho hx hu hi hd (by simp;omega) fun j v hv=>?_;refine hb.cell_of ?_;rw[W6]at hv;split at hv
       ·rw[W7]at hv;exact hv
       ·cases hv
      ·trivial
    ·rename_i cs hcs
     rw[hcs]at hb;split
     ·rename_i hh
      rw[WS]at hh;have h0:=WO hh.1;have h1:=WO hh.2;split
      ·rename_i sv hsv
       intro _;rw[yg hsv];refine kj ho hx hu hi hd (by simpa using h1) fun j v hv=>?_;rw[h0,Xz];exact hb.cell_of hv
      ·trivial
     ·trivial
    ·rename_i cs hcs
     rw[hcs]at hb;split
     ·rename_i hh
      rw[WS]at hh;have h0:=WO hh.1;have h1:=WO hh.2;split
      ·rename_i sv hsv
       intro _;rw[yg hsv];refine kj ho hx hu hi hd (by simpa using h1) fun j v hv=>?_;rw[h0,Xz];exact hb.cell_of hv
      ·trivial
     ·trivial
    ·trivial
   ·rename_i hd
    split
    ·rename_i cs hcs
     rw[hcs]at hb;split
     ·rename_i v hv
      intro _;exact km ho hx hu hd (hb.cell_of hv)
     ·trivial
    ·rename_i cs hcs
     rw[hcs]at hb;split
     ·rename_i v hv
      intro _;exact km ho hx hu hd (hb.cell_of hv)
     ·trivial
    ·rename_i cs hcs
     rw[hcs]at hb;split
     ·rename_i v hv
      intro _;exact km ho hx hu hd (hb.cell_of (by simp[Cells.den,hv]))
     ·trivial
    ·rename_i cs hcs
     rw[hcs]at hb;split
     ·rename_i v hv
      intro _;exact km ho hx hu hd (hb.cell_of (by simp[Cells.den,hv]))
     ·trivial
    ·trivial
  ·trivial
theorem IV{t:TypeId}{x:Operand}{i off:Nat}{r:Row}{v:Value}(ho:o.op=.load t x)(hx:a.eval x=.pointer (some ⟨β i,off,none⟩))(hb:aZ β W i r):(bX P t r off v).Ok P β W a o:=by
 unfold bX;split
 ·rename_i d hu
  split
  ·rename_i hd
   split
   ·rename_i cs hcs
    unfold aZ at hb;rw[hcs]at hb;intro hob;exact km ho hx hu hd (aq.cell_of hb (hob _ rfl))
   ·rename_i g cs hcs
    unfold aZ at hb;rw[hcs]at hb;intro hob;exact km ho hx hu hd (aq.cell_of hb.2 (hob _ rfl))
   ·trivial
  ·trivial
 ·trivial
theorem zT{i n:Nat}{T size:Nat}{xs:List Value}(h:Own W T size (.slice (β.a i) n (β.c i)) n xs)(hx:xs≠[]):∃g o,β.a i=some ⟨g,o,none⟩∧∀(j:Nat) (u:Value),xs[j]?=some u→W.cell? ⟨g,o+j,none⟩=some u:=by
 have hn:0 < n:=by
  rcases XA n with h0|h0
  ·have:=h.len
   rw[h0,X7]at this;exact absurd (Xb this) hx
  ·exact h0
 obtain⟨g,o,c,hv,_⟩:=h.some_ hn;injection hv with h1 _ h3;refine⟨g,o,h1,fun j u hu=>?_⟩;rw[h1]at h;exact(Own.cell h hu).1
theorem EI{t:TypeId}{x:Operand}{i off:Nat}{r:Row}{v:Value}(ho:o.op=.load t x)(hx:a.eval x=(SV.mM i off).den β)(hb:aZ β W i r):(bC P t r off v).Ok P β W a o:=by
 unfold bC;split
 ·rename_i size n xs hcs
  unfold aZ at hb;rw[hcs]at hb;split
  ·rename_i d inf hu hi
   split
   ·rename_i hd
    split
    ·rename_i arr
     split
     ·rename_i hpos
      have hpos:0 < inf.size:=WR hpos;intro hob;obtain⟨h1,h2⟩:=hob _ rfl;have hne:xs≠[]:=by rintro rfl;rw[List.drop_nil,List.take_nil]at h2;rw[←h2]at h1;simp at h1;omega
      obtain⟨g,o',ha,hc⟩:=zT hb.2 hne;have hx':a.eval x=.pointer (some ⟨g,o'+off,none⟩):=by rw[hx];simp only[SV.den,ha,Xo,Addr.add_mid]
      refine kj (cs:=arr.toList) ho hx' hu hi hd h1.symm fun j u hu=>?_;rw[X2];refine hc _ _ ?_;rw[←h2,W6]at hu;split at hu
      ·rw[W7]at hu;exact hu
      ·cases hu
     ·trivial
    ·trivial
   ·rename_i hd
    intro hob;have hu':=hob _ rfl;have hne:xs≠[]:=by rintro rfl;simp at hu'
    obtain⟨g,o',ha,hc⟩:=zT hb.2 hne;have hx':a.eval x=.pointer (some ⟨g,o'+off,none⟩):=by rw[hx];simp only[SV.den,ha,Xo,Addr.add_mid]
    exact km ho hx' hu hd (hc _ _ hu')
  ·trivial
 ·trivial
theorem jY(b off:Nat)(t:TypeId)(v:Value)(ht:W.there b off v.cells.size)(hi:(P.info? t).map (·.size)=some v.cells.size)(h1:∀u∈v.cells.toList,u.oneCell'=true) :
  (storeVar t ⟨b,off,none⟩ v).run P W=.ok () (W.setCells b off v.cells.toList):=by
 have:=run_storeCells_cells (P:=P) b off v.cells.toList 0 W (fun j hj=>by simpa using (ht j (by simpa using hj)).1) (fun j hj=>by simpa using (ht j (by simpa using hj)).2) h1;cases hq:P.info? t with
 |none=>simp[hq]at hi
 |some i=>
  have hs:v.cells.size=i.size:=by simp[hq]at hi;omega
  simp only[X8]at this;simp[storeVar,sizeOf,typeInfo,hq,hs,this]
theorem s6{b t:Nat}{cs:List Value}(hb:aq W b t cs){off n:Nat}(h:off+n≤cs.length):W.there b off n:=fun j hj=>⟨by rw[hb.cell,XY (by omega)];rfl,hb.frozen _⟩
theorem Kc{t:TypeId}{x y:Operand}{i off:Nat}{r:Row}{sv:SV}(ho:o.op=.store t x y)(hx:a.eval x=.pointer (some ⟨β i,off,none⟩))(hy:a.eval y=sv.den β)(hb:aZ β W i r):(cO P t i r off sv).Ok P β W a o:=by
 have main:r.fixed=true→∀(inf:TypeInfo) (v:Value) (row':List Value),sv.den β=v→P.info? t=some inf→v.cells.toList.length=inf.size→(∀u∈v.cells.toList,u.oneCell'=true)→off+inf.size≤r.cs.len→
   (r.cs.den β).take off++(v.cells.toList++(r.cs.den β).drop (off+inf.size))=row'→∃W',(execOp a.eval o).run P W=.ok .skip W'∧aq W' (β i) r.ty row'∧ai [β i] W W':=by
  intro hf inf v row' hv hi hl h1 hle hrow;have hb:=hb.bO hf;have hth:W.there (β i) off v.cells.size:=s6 hb (by rw[Cells.iG];simp at hl;omega);have hrun:=jY (P:=P) (β i) off t v hth (by rw[hi];simp at hl ⊢;omega) h1;refine⟨W.setCells (β i) off v.cells.toList,?_,?_,ai.oZ _ (.inl (by simp)) _ _ (ai.refl _ _)⟩
  ·unfold execOp
   simp only[ho,hx,hy,hv,WU,XZ,Xk,W5,WV,hrun]
  ·have:=hb.setCells v.cells.toList off (by rw[Cells.iG,hl];exact hle)
   rw[hl,hrow]at this;exact this
 unfold cO;split
 ·trivial
 rename_i hf;split
 ·trivial
 ·rename_i inf hi
  split
  ·rename_i v
   split
   ·rename_i hh
    rw[WS]at hh;have hl:=WO hh.1;have h1:=aU hh.2;split
    ·rename_i hz
     rw[WS]at hz;have h0:=WO hz.1;have hs:=WO hz.2;intro _;refine main hf inf v _ rfl hi hl h1 (by omega) ?_;subst h0;rw[Yi,XF,XE (by rw[Cells.iG];omega),Xw];exact Nc.symm
    ·split
     ·rename_i hle
      have hle:=WR hle;intro _;refine main hf inf v _ rfl hi hl h1 hle ?_;unfold Row.fixed at hf;cases hcc:r.cs with
      |own a b c=>rw[hcc]at hf;cases hf
      |dead=>rw[hcc]at hf;cases hf
      |aj cs=>rfl
      |cR g cs=>rfl
      |dC cs=>simp[Cells.den,Ym,Yn,SV.den,Function.comp_def]
      |ji g cs=>simp[Cells.den,Ym,Yn,SV.den,Function.comp_def]
     ·trivial
   ·trivial
  ·split
   ·rename_i h1
    rw[WS]at h1;obtain⟨ho1,h1⟩:=h1;have h1:=WO h1;obtain⟨hc0,hone⟩:=pg ho1 β;split
    ·rename_i hlt
     have hlt:off < r.cs.len:=WR hlt;have hc:(sv.den β).cells.toList=[sv.den β]:=by rw[hc0]
     have ho:=hone;intro _;refine main hf inf (sv.den β) _ rfl hi (by rw[hc];simp[h1]) (by rw[hc];simpa using ho) (by omega) ?_;rw[hc,h1];have key:∀(L:List Value),off < L.length→L.take off++([sv.den β]++L.drop (off+1))=L.set off (sv.den β):=by intro L hL;rw[XO,if_pos hL];rfl
     cases hr:r.cs with
     |own a b c=>unfold Row.fixed at hf;rw[hr]at hf;cases hf
     |dead=>unfold Row.fixed at hf;rw[hr]at hf;cases hf
     |cR g cs=>rw[hr]at hlt;simp only[Cells.den,Xy,Xn];rw[key cs hlt];congr 1;have:(SV.den β ∘ SV.val)=id:=rfl;rw[this,XV]
     |ji g cs=>rw[hr]at hlt;simp only[Cells.den,Xy];rw[key _ (by simpa[Cells.len]using hlt)]
     |aj cs=>rw[hr]at hlt;simp only[Cells.den,Xy,Xn];rw[key cs hlt];congr 1;have:(SV.den β ∘ SV.val)=id:=rfl;rw[this,XV]
     |dC cs=>rw[hr]at hlt;simp only[Cells.den,Xy];rw[key _ (by simpa[Cells.len]using hlt)]
    ·trivial
   ·split
    ·rename_i l _ _
     split
     ·rename_i hh
      rw[WS,WS,WS]at hh;have h0:=WO hh.1.1;have hs:=WO hh.1.2;have hl:=WO hh.2.1;have ho:=aU hh.2.2;have hcells:(SV.den β (.ej l)).cells.toList=l.map (Atom.den β):=rfl;intro _;refine main hf inf (SV.den β (.ej l)) _ rfl hi (by rw[hcells,XI,hl]) (fun u hu=>?_) (by omega) ?_
      ·rw[hcells]at hu
       obtain⟨x,hx,rfl⟩:=W4.1 hu;exact Atom.one_den (ho x hx)
      ·subst h0
       have hsv:(l.map Atom.sv).map (SV.den β)=l.map (Atom.den β):=by rw[Xn];exact W3 fun x _=>Atom.sj
       rw[Yi,XF,XE (by rw[Cells.iG];omega),Xw,hcells];cases hr:r.cs with
       |own a b c=>unfold Row.fixed at hf;rw[hr]at hf;cases hf
       |dead=>unfold Row.fixed at hf;rw[hr]at hf;cases hf
       |cR g cs=>exact hsv.symm
       |ji g cs=>exact hsv.symm
       |aj cs=>exact hsv.symm
       |dC cs=>exact hsv.symm
     ·trivial
    ·trivial
theorem D0{t:TypeId}{x y:Operand}{i off:Nat}{r:Row}{sv:SV}{cs':List Value}(ho:o.op=.store t x y)(hx:a.eval x=.pointer (some ⟨β i,off,none⟩))(hy:a.eval y=sv.den β)(hb:aZ β W i r):(bH P t i r off sv cs').Ok P β W a o:=by
 have main:r.fixed=true→∀(inf:TypeInfo) (v:Value) (row':List Value),sv.den β=v→P.info? t=some inf→v.cells.toList.length=inf.size→(∀u∈v.cells.toList,u.oneCell'=true)→off+inf.size≤r.cs.len→
   (r.cs.den β).take off++(v.cells.toList++(r.cs.den β).drop (off+inf.size))=row'→∃W',(execOp a.eval o).run P W=.ok .skip W'∧aq W' (β i) r.ty row'∧ai [β i] W W':=by
  intro hf inf v row' hv hi hl h1 hle hrow;have hb:=hb.bO hf;have hth:W.there (β i) off v.cells.size:=s6 hb (by rw[Cells.iG];simp at hl;omega);have hrun:=jY (P:=P) (β i) off t v hth (by rw[hi];simp at hl ⊢;omega) h1;refine⟨W.setCells (β i) off v.cells.toList,?_,?_,ai.oZ _ (.inl (by simp)) _ _ (ai.refl _ _)⟩
  ·unfold execOp
   simp only[ho,hx,hy,hv,WU,XZ,Xk,W5,WV,hrun]
  ·have:=hb.setCells v.cells.toList off (by rw[Cells.iG,hl];exact hle)
   rw[hl,hrow]at this;exact this
 unfold bH;split
 ·trivial
 ·rename_i inf hi
  split
  ·rename_i v
   split
   ·rename_i hh
    rw[WS]at hh;have hl:=WO hh.1;have h1:=aU hh.2;split
    ·rename_i cs hcs
     intro hob;have hob:=hob _ rfl;refine main (by unfold Row.fixed;rw[hcs]) inf v _ rfl hi hl h1 (by rw[hcs];exact hob.1) ?_;rw[hcs];exact hob.2
    ·rename_i cs hcs
     intro hob;have hob:=hob _ rfl;refine main (by unfold Row.fixed;rw[hcs]) inf v _ rfl hi hl h1 (by rw[hcs];exact hob.1) ?_;rw[hcs];exact hob.2
    ·trivial
   ·trivial
  ·trivial
theorem Hi{α:Type}(L:List α)(o N off:Nat)(xs cs:List α)(hx:(L.drop o).take N=xs)(hl:xs.length=N)(hfit:off+cs.length≤xs.length):((splice L (o+off) cs).drop o).take N=xs.take off++(cs++xs.drop (off+cs.length)):=by
 have hL:o+N≤L.length∨N=0:=by have:=congrArg Yu hx;rw[W2,Xm,hl]at this;omega
 rcases hL with hL|hN
 ·apply List.ext_getElem?
  intro j;unfold splice;rw[W6];by_cases hj:j < N
  ·rw[if_pos hj,W7]
   have hxj:∀i,i < N→xs[i]?=L[o+i]?:=fun i hi=>by rw[←hx,W6,if_pos hi,W7]
   by_cases h1:j < off
   ·rw[WY (by rw[W2];omega),WY (by rw[W2];omega),W6,W6,if_pos (by omega),if_pos h1,hxj j hj]
   ·have hl1:(L.take (o+off)++(cs++L.drop (o+off+cs.length)))[o+j]?=(cs++L.drop (o+off+cs.length))[j - off]?:=by
     rw[WW (by rw[W2];omega),W2,Yh (by omega)];congr 1;omega
    have hr1:(xs.take off++(cs++xs.drop (off+cs.length)))[j]?=(cs++xs.drop (off+cs.length))[j - off]?:=by rw[WW (by rw[W2];omega),W2,Yh (by omega)]
    rw[hl1,hr1];by_cases h2:j < off+cs.length
    ·rw[WY (by omega),WY (by omega)]
    ·have a1:(cs++L.drop (o+off+cs.length))[j - off]?=L[o+j]?:=by
      rw[WW (by omega),W7];congr 1;omega
     have a2:(cs++xs.drop (off+cs.length))[j - off]?=xs[j]?:=by rw[WW (by omega),W7];congr 1;omega
     rw[a1,a2,hxj _ hj]
  ·rw[if_neg hj]
   symm;apply List.getElem?_eq_none;simp only[W9,W2,Xm];omega
 ·subst hN
  have:xs=[]:=Xb hl;subst this;have:cs=[]:=Xb (by rw[XH]at hfit;omega);subst this;simp
theorem Bm{t:TypeId}{x y:Operand}{i off:Nat}{r:Row}{sv:SV}(ho:o.op=.store t x y)(hx:a.eval x=(SV.mM i off).den β)(hy:a.eval y=sv.den β)(hb:aZ β W i r):(bB P t i r off sv).Ok P β W a o:=by
 unfold bB;split
 ·rename_i size n xs hcs
  unfold aZ at hb;rw[hcs]at hb;split
  ·rename_i inf hi
   split
   ·rename_i v
    split
    ·rename_i hh
     simp only[WS]at hh;obtain⟨h1,h2,h3⟩:=hh;have h1:=WO h1;have h2:=aU h2;have h3:0 < inf.size:=WR h3;intro hob;have hfit:=hob _ rfl;obtain⟨hn,hown⟩:=hb;rcases hown.2 with⟨hv,h0⟩ | ⟨g,o',c',L,hv,hg,hnc,hcm,hL,hxs⟩
     ·have:=hown.len
      rw[h0,X7]at this;omega
     ·injection hv with ha _ hc
      have hlen:=hown.len;have hns:n*size≤c'*size:=Xt _ hnc;have hth:W.there g (o'+off) v.cells.size:=s6 hg (by simp at h1;omega);have hrun:=jY (P:=P) g (o'+off) t v hth (by rw[hi];simp at h1 ⊢;omega) h2;have hset:=hg.setCells v.cells.toList (o'+off) (by omega);have hx':a.eval x=.pointer (some ⟨g,o'+off,none⟩):=by rw[hx];simp only[SV.den,ha,Xo,Addr.add_mid]
      refine⟨W.setCells g (o'+off) v.cells.toList,?_,?_,?_⟩
      ·unfold execOp
       simp only[ho,hx',hy,SV.den,WU,XZ,Xk,W5,WV,hrun]
      ·show β.n i=n∧Own _ r.ty size (.slice (β.a i) n (β.c i)) n _
       refine⟨hn,?_,.inr ⟨g,o',c',_,by rw[ha,hc],hset,hnc,hcm,?_,?_⟩⟩
       ·simp only[W9,W2,Xm,h1]
        omega
       ·simp only[W9,W2,Xm]
        omega
       ·have:=Hi L o' (n*size) off xs v.cells.toList hxs hlen (by omega)
        rw[h1]at this;unfold splice at this;rw[h1]at this;rw[h1];exact this
      ·have e:aB β i ⟨r.ty,.own size n (xs.take off++(v.cells.toList++xs.drop (off+inf.size)))⟩=some g:=by
        show(β.a i).map _=_;rw[ha];rfl
       rw[e];exact ai.oZ _ (.inl (by simp)) _ _ (ai.refl _ _)
    ·trivial
   ·trivial
  ·trivial
 ·trivial
theorem foldl_set:∀(l:List Value) (k:Nat) (z:Array Value),z.size=k+l.length→(l.zipIdx k).foldl (fun(cs:Array Value) (x:Value×Nat)=>cs.setIfInBounds (0+x.2) x.1) z=(z.toList.take k++l).toArray
 | [],k,z,h=>by simp only[XH,X8]at h;rw[List.zipIdx_nil,List.foldl_nil,Xw,X3 (by simp;omega)]
 |v::l,k,z,h=>by simp only[Xa]at h;rw[XC,XW,foldl_set l (k+1) _ (by simp;omega)];apply congrArg List.toArray;simp only[Xz,XX];rw[XP (by simp;omega),X6,Ya (Xx _)];simp
theorem Mo(size:Nat)(v:Value)(z:Array Value)(hz:z.size=size)(hv:v.cells.size=size):XJ (fun i=>some (i*size,size)) z [(0,v)]=some v.cells:=by
 have h:=foldl_set v.cells.toList 0 z (by simp;omega);have e1:(v.cells.size≠size||0*size+v.cells.size > z.size)=false:=by simp[hv,hz]
 unfold XJ;simp only[e1,Bool.false_eq_true,if_false];unfold XJ;apply congrArg some;rw[←Yb,show v.cells.zipIdx.toList=v.cells.toList.zipIdx 0 by simp];simp only[X7];rw[h];simp
theorem p5{β:Env}{a:Act}{e:Operand→Option SV}:∀{l:List (Nat×Operand)} {k:Nat} {vs:List Value},od e k l=some vs→(∀i x,(i,x)∈l→∀sv,e x=some sv→a.eval x=sv.den β)→(l.map fun p=>(p.1,a.eval p.2))=(vs.zipIdx k).map fun x=>(x.2,x.1)
 | [],k,vs,h,_=>by
  have:vs=[]:=by simpa[od]using h.symm
  subst this;rfl
 | (i,x)::r,k,vs,h,he=>by
  unfold od at h;simp only at h;split at h
  ·rename_i hi
   split at h
   ·rename_i v hx
    split at h
    ·rename_i l hl
     cases h;have h1:=p5 hl fun i x hm=>he i x (WT _ hm);have h2:=he i x (by simp) _ hx;rw[W0,XC,W0,h1];simp only[h2,SV.den,WO hi]
    ·cases h
   ·cases h
  ·cases h
theorem Dp{P:Program}{β:Env}{W:World}{a:Act}{o:Oper}{e:Operand→Option SV}{t:TypeId}{len:Nat}{parts:Array (Nat×Operand)}(ho:o.op=.buildSlice t len parts)(he:∀i x,(i,x)∈parts.toList→∀sv,e x=some sv→a.eval x=sv.den β):(kq P e t len parts.toList).Ok P β W a o:=by
 unfold kq;split
 ·rename_i vs hvs
  have hp:=p5 hvs he;split
  ·rename_i el hu
   split
   ·rename_i inf hi
    split
    ·rename_i z hz
     split
     ·rename_i hh
      simp only[WS]at hh;obtain⟨h1,h2,h3,h4,h5,h6⟩:=hh;have h1':∀v∈vs,v.cells.size=inf.size:=fun v hv=>by have:=WO (aU h1 v hv);simpa using this
      have h2:=WO h2;have h3:=WO h3;have h4:=WR h4;have h5:0 < inf.size:=WR h5;have h6:0 < len:=WR h6;have hpos:0 < len*inf.size:=Yx h6 h5;show _=_;have hfill:=Great.fill_whole h5 vs ((Yq (len*inf.size)).map (z.cells[·%z.cells.size]!)) h1' (by simp[h2]);rw[←hp]at hfill;have hrun:=run_buildSlice (P:=P) W t el len (parts.map fun(i,x)=>(i,a.eval x)) _ inf z hu hi hz (by omega) (by omega) (by rw[Xl];exact hfill);unfold execOp;simp only[ho,WU,hrun,WV,W5,ox,Cells.den]
     ·trivial
    ·trivial
   ·trivial
  ·trivial
 ·trivial
theorem fJ{P:Program}{e:Operand→Option SV}{t:TypeId}{len:Nat}{parts:List (Nat×Operand)}{r:qU}(h:kq P e t len parts=r):r=.bad∨∃el cs ln,r=.alloc el (.aj cs) ln:=by
 unfold kq at h;repeat' (split at h)
 all_goals first
  |exact .inl h.symm
  |exact .inr ⟨_,_,_,h.symm⟩
theorem ey{P:Program}{r0 r:qU}(h:sW P r0=r):r=.bad∨∃el sz n cs,r=.grow none el sz n cs none:=by
 unfold sW at h;repeat' (split at h)
 all_goals first
  |exact .inl h.symm
  |exact .inr ⟨_,_,_,_,h.symm⟩
theorem I7{P:Program}{β:Env}{W:World}{a:Act}{o:Oper}{r:qU}(h:r.Ok P β W a o):(sW P r).Ok P β W a o:=by
 unfold sW;split
 ·rename_i el cs n
  split
  ·rename_i inf hi
   split
   ·rename_i hb
    rw[WS]at hb;have h1:=WO hb.1;have h2:=WR hb.2;intro _;have hrun:(execOp a.eval o).run P W=.ok (.value (ox W.heap.size (some n))) (W.alloc (.cells cs.toArray el)):=h;have ho:=Own.made W el inf.size n n cs (Xx _) (by unfold maxLen;omega) h1;rw[X3 (by omega)]at ho;refine⟨some ⟨W.heap.size,0,none⟩,n,_,[],hrun,ho,(ai.refl [] W).alloc _,by simp,fun k hk=>.inr ?_⟩;have:W.heap.size=k:=by simpa using hk
    omega
   ·trivial
  ·trivial
 ·trivial
theorem IW{c:Call}{t:TypeId}{x:Operand}(h:EP c=some (t,x)):c={ callee:=.builtin .len,args:=#[x],argTypes:=#[t] }:=by
 obtain⟨callee,args,ats⟩:=c;unfold EP at h;split at h
 ·rename_i b hb
  split at h
  ·split at h
   ·rename_i y u hy hu
    simp only at hb hy hu;injection h with h;injection h with h1 h2;subst h1;subst h2;have e1:args=#[y]:=by rw[←Xf,hy]
    have e2:ats=#[u]:=by rw[←Xf,hu]
    rw[hb,e1,e2]
   ·cases h
  ·cases h
 ·cases h
theorem Dv{t e sz bytes:Nat}(h:Dw P t=some (e,sz,bytes)):∃inf z,P.underlying t=some (.slice e)∧P.info? e=some inf∧inf.zero=some z∧inf.size=sz∧inf.bytes=bytes∧z.cells.size=sz∧0 < sz:=by
 unfold Dw at h;split at h
 ·rename_i e' hu
  split at h
  ·rename_i inf hi
   split at h
   ·rename_i z hz
    split at h
    ·rename_i hb
     rw[WS]at hb;injection h with h;injection h with h1 h2;injection h2 with h2 h3;subst h1;subst h2;subst h3;exact⟨inf,z,hu,hi,hz,rfl,rfl,WO hb.1,WR hb.2⟩
    ·cases h
   ·cases h
  ·cases h
 ·cases h
theorem Sd{c:Call}{w0:aV}(ho:o.op=.call c)(hw:ai w0.S w0.w W)(he:∀x∈o.op.operands,∀sv,e x=some sv→a.eval x=sv.den β)(hr:∀i r,i∈aD e o→row i=some r→aZ β W i r):(fb P w0 hn e row o c).Ok P β W a o:=by
 unfold fb;split
 ·rename_i t x hla
  have hc:c={ callee:=.builtin .len,args:=#[x],argTypes:=#[t] }:=IW hla;have mem:x∈o.op.operands:=by simp[ho,WQ,Call.operands,hc]
  have key:∀A n c',P.underlying t=some c'→(∃el,c'=.slice el)→∀cap,a.eval x=.slice A n cap→(execOp a.eval o).run P W=.ok (.value (.int .i64 (n:Int))) W:=by intro A n c' hu hel cap hx;obtain⟨el,rfl⟩:=hel;unfold execOp;simp[ho,hc,resolve,invoke,builtin,Builtin.len_,hx,run_underlying hu,goInt]
  split
  ·rename_i i hx
   have hx':=he x mem _ hx;split
   ·rename_i r hrow
    have hh:=hr i r (by simp[aD,ho,hc,hx,gg]) hrow;split
    ·rename_i size n xs hcs
     unfold aZ at hh;rw[hcs]at hh;split
     ·rename_i el hu
      intro _;have:=key (β.a i) (β.n i) _ hu ⟨el,rfl⟩ (β.c i) hx';rw[hh.1]at this;exact this
     ·trivial
    ·trivial
   ·trivial
  ·rename_i i off n cap hx
   have hx':=he x mem _ hx;split
   ·rename_i el hu
    intro _;exact key _ n _ hu ⟨el,rfl⟩ cap hx'
   ·trivial
  ·rename_i i off n cut hx
   have hx':=he x mem _ hx;split
   ·rename_i el hu
    intro _;exact key _ n _ hu ⟨el,rfl⟩ _ hx'
   ·trivial
  ·exact G3 hw he
 ·exact G3 hw he
theorem MT{d:Nat}{lo:Option Operand}{k:Int}(h:US e d lo=some k)(hm:∀x,lo=some x→x∈o.op.operands)(he:∀x∈o.op.operands,∀sv,e x=some sv→a.eval x=sv.den β):(lo=none∧k=d)∨∃x kk,lo=some x∧a.eval x=.int kk k:=by
 cases lo with
 |none=>simp only[US,Xc.injEq]at h;exact .inl ⟨rfl,h.symm⟩
 |some x=>
  unfold US at h;split at h
  ·cases ‹some x=none›
  ·rename_i y hy
   cases hy;split at h
   ·rename_i kk k' hx
    cases h;exact .inr ⟨x,kk,rfl,he x (hm x rfl) _ hx⟩
   ·cases h
theorem SB{t:TypeId}{x:Operand}{lo hi:Option Operand}{i:Nat}(ho:o.op=.slice t x lo hi none)(hx:a.eval x=β.sl i)(he:∀x∈o.op.operands,∀sv,e x=some sv→a.eval x=sv.den β)(hr:∀r,row i=some r→aZ β W i r):(kn P hn e row t i lo hi).Ok P β W a o:=by
 unfold kn;split
 ·rename_i r hrow
  have hh:=hr r hrow;split
  ·rename_i size n xs hcs
   unfold aZ at hh;rw[hcs]at hh;split
   ·rename_i el sz Wk hty
    split
    ·rename_i hb
     have hb:=WO hb;obtain⟨inf,z,hu,hi',_,hs,_,_,_⟩:=Dv hty;split
     ·rename_i kl kh hkl hkh
      split
      ·rename_i l u
       intro hob;obtain⟨h1,h2,h3,h4⟩:=hob _ rfl;subst h1;subst h2;obtain⟨_,_,hv,hnc,_⟩:=hh.2.form;injection hv with _ _ hcc;have hl:=MT (o:=o) hkl (fun y hy=>by subst hy;simp[ho,WQ]) he;have hu':=MT (o:=o) hkh (fun y hy=>by subst hy;simp[ho,WQ]) he;have e1:(0:Int)≤(u:Int)∧(u:Int)≤(β.c i:Nat):=by omega
       have e2:(0:Int)≤(l:Int)∧(l:Int)≤(u:Nat):=by omega
       have hbs:∀(H:Option Value) (Lo:Option Value),(H=none∧(u:Int)=n∨∃kk,H=some (.int kk (u:Int)))→(Lo=none∧(l:Int)=0∨∃kk,Lo=some (.int kk (l:Int)))→(Xq true n (β.c i) Lo H none).run P W=.ok (l,u,β.c i) W:=by
        intro H Lo hH hLo;rcases hH with⟨rfl,hu0⟩ | ⟨kk,rfl⟩<;>rcases hLo with⟨rfl,hl0⟩ | ⟨kk',rfl⟩
        ·have:n=u:=by omega
         have:l=0:=by omega
         subst this;simp[Xq, *]
        ·have:n=u:=by omega
         subst this;simp[Xq,XR,asIntOf,h3]
        ·have:l=0:=by omega
         subst this;have:u≤β.c i:=by omega
         simp[Xq,XR,asIntOf,this]
        ·have:u≤β.c i:=by omega
         simp[Xq,XR,asIntOf,this,h3]
       have hH:(hi.map a.eval=none∧(u:Int)=n∨∃kk,hi.map a.eval=some (.int kk (u:Int))):=by
        rcases hu' with⟨rfl,h⟩ | ⟨y,kk,rfl,h⟩
        ·exact .inl ⟨rfl,h⟩
        ·exact .inr ⟨kk,by rw[Xo,h]⟩
       have hL:(lo.map a.eval=none∧(l:Int)=0∨∃kk,lo.map a.eval=some (.int kk (l:Int))):=by
        rcases hl with⟨rfl,h⟩ | ⟨y,kk,rfl,h⟩
        ·exact .inl ⟨rfl,h⟩
        ·exact .inr ⟨kk,by rw[Xo,h]⟩
       have hrun:=hbs _ _ hH hL;have hn':=hh.1;subst hn';unfold execOp;simp only[ho,hx,Env.sl,Yk,WU,run_underlying hu,WV,Instr.slice,hrun,sizeOf,typeInfo,Option.map_none];simp[hi',SV.den,hs,hb]
      ·trivial
     ·trivial
    ·trivial
   ·trivial
  ·trivial
 ·trivial
theorem Ki{t:TypeId}{x:Operand}{lo hi mx:Option Operand}{w0:aV}(ho:o.op=.slice t x lo hi mx)(hw:ai w0.S w0.w W)(he:∀x∈o.op.operands,∀sv,e x=some sv→a.eval x=sv.den β)(hr:∀i r,i∈aD e o→row i=some r→aZ β W i r):(cP P w0 hn e row o t x lo hi mx).Ok P β W a o:=by
 unfold cP;split
 ·rename_i i hx
  split
  ·exact SB ho (he x (by simp[ho,WQ]) _ hx) he (fun r hr'=>hr i r (by simp[aD,ho,hx]) hr')
  ·trivial
 ·exact gj hw he
theorem oY{β:Env}{a:Act}{e:Operand→Option SV}:∀{xs:List Operand} {l:List SV},jX e xs=some l→(∀x∈xs,∀sv,e x=some sv→a.eval x=sv.den β)→xs.map a.eval=l.map (SV.den β)
 | [],l,h,_=>by
  have:l=[]:=by simpa[jX]using h.symm
  subst this;rfl
 |x::r,l,h,he=>by
  unfold jX at h;split at h
  ·rename_i sv l' hx hr
   cases h;rw[W0,W0,he x (by simp) _ hx,oY hr fun y hy=>he y (by simp[hy])]
  ·cases h
theorem rU{c:Call}{r:gA}(ho:o.op=.call c)(he:∀x∈o.op.operands,∀sv,e x=some sv→a.eval x=sv.den β):(bE P e c r).Ok P β W a o:=by
 unfold bE;split
 ·rename_i f hcal
  split
  ·rename_i fn hf
   split
   ·rename_i hb
    rw[X9]at hb;split
    ·rename_i l hl
     have hm:=oY (β:=β) (a:=a) hl (fun x hx sv hsv=>he x (by obtain⟨callee,args,ats⟩:=c;simp only at hcal hx;subst hcal;have hx:x∈args:=Xs.1 hx;simp[ho,WQ,Call.operands,hx]) sv hsv);have hm2:c.args.map a.eval=(l.map (SV.den β)).toArray:=by rw[←hm,←Xl,Xj]
     show _=_;obtain⟨callee,args,ats⟩:=c;simp only at hcal hm2;subst hcal;unfold execOp;simp only[ho,resolve,Act.eval,Deferred.ofValue,invoke,callFunc,WU,W5,WV];have hb1:¬fn.name= "runtime.NumGoroutine":=by simpa using hb.1
     have hb2:¬fn.body=none:=by intro h;rw[h]at hb;exact absurd hb.2 (by decide)
     simp[hf,hb1,hb2,hm2]
    ·trivial
   ·trivial
  ·trivial
 ·trivial
theorem dY{P:Program}{e:Operand→Option SV}{row:Nat→Option Row}{c:Call}{hh:Hint}{r:qU}(h:ga P e row c hh=r):r=.bad∨∃f args x,r=.eS f args x:=by
 unfold ga at h;repeat' (split at h)
 all_goals first
  |exact .inl h.symm
  |exact .inr ⟨_,_,_,h.symm⟩
theorem Dm{c:Call}{hh:Hint}(ho:o.op=.call c)(he:∀x∈o.op.operands,∀sv,e x=some sv→a.eval x=sv.den β):(ga P e row c hh).Ok P β W a o:=by
 unfold ga;split
 ·rename_i p cs v
  have h:=rU (P:=P) (W:=W) (r:=.val v) ho he;split
  ·rename_i f args r' hr
   rw[hr]at h;repeat' split
   all_goals first|exact h|trivial
  ·trivial
 ·have h:=rU (P:=P) (W:=W) (r:=.val undef) ho he
  split
  ·rename_i f args r' hr
   rw[hr]at h;exact h
  ·trivial
 ·trivial
theorem MK{c:Call}{r:gA}(ho:o.op=.call c)(he:∀x∈o.op.operands,∀sv,e x=some sv→a.eval x=sv.den β):(di P e c r).Ok P β W a o:=by
 have h:=rU (P:=P) (W:=W) (r:=r) ho he;unfold di;split
 ·rename_i f args r' hr
  rw[hr]at h;split
  ·rename_i i
   split
   ·exact h
   ·trivial
  ·trivial
 ·trivial
theorem qM{c:Call}{t:TypeId}{x y:Operand}(h:AX c=some (t,x,y)):c={ callee:=.builtin .append,args:=#[x,y],argTypes:=#[t,t] }:=by
 obtain⟨callee,args,ats⟩:=c;unfold AX at h;split at h
 ·rename_i b hb
  split at h
  ·split at h
   ·rename_i x' y' t' u' hx ht
    split at h
    ·rename_i hq
     have hq:=WO hq;simp only at hb hx ht;injection h with h;injection h with h1 h2;injection h2 with h2 h3;subst h1;subst h2;subst h3;subst hq;have e1:args=#[x',y']:=by rw[←Xf,hx]
     have e2:ats=#[t',t']:=by rw[←Xf,ht]
     rw[hb,e1,e2]
    ·cases h
   ·cases h
  ·cases h
 ·cases h
theorem u6(w:World)(t ty e:TypeId)(i:TypeInfo)(z:Value)(size bytes:Nat)(ht:P.underlying t=some (.slice e))(hi:P.info? e=some i)(hz:i.zero=some z)
  (hsize:i.size=size) (hby:i.bytes=bytes) (hzs:z.cells.size=size) (hsz:0 < size)
  (v:Value) (n:Nat) (xs:List Value) (hown:Own w e size v n xs)
  (sp:Option Addr) (m c:Nat) (news:List Value) (hl:news.length=m*size) (hnews:0 < news.length→∃ad,sp=some ad∧∀(j:Nat) (u:Value),news[j]?=some u→w.cell? (ad.add j)=some u) (h1:∀u∈news,u.oneCell'=true)
  (h63:n+m≤maxLen) (hbytes:(n+m)*bytes≤140737488355328) :
  ∃A' c' w',(Builtin.append_ #[t,t] ty #[v,.slice sp m c]).run P w=.ok (.slice A' (n+m) c') w'∧Own w' e size (.slice A' (n+m) c') (n+m) (xs++news)∧ai v.ownBlock.toList w w'∧
   ((Xu A' (n+m) c').ownBlock=v.ownBlock∨∃k,(Xu A' (n+m) c').ownBlock=some k∧w.heap.size≤k):=by
 cases sp with
 |some ad=>
  refine nS w t ty e i z size bytes ht hi hz hsize hby hzs hsz v n xs hown ad m c news hl (fun j u hu=>?_) h1 h63 hbytes;have hpos:0 < news.length:=by have:=(WX.1 hu).1;omega
  obtain⟨ad',ha,hc⟩:=hnews hpos;cases ha;exact hc j u hu
 |none=>
  have h0:news=[]:=by
   rcases XA news.length with h|h
   ·exact Xb h
   ·obtain⟨ad,ha,_⟩:=hnews h;cases ha
  subst h0;have hm:m=0:=by
   rcases XA m with h|h
   ·exact h
   ·have:=Yx h hsz
    simp at hl;omega
  subst hm;obtain⟨A,cap,rfl,hn,_⟩:=hown.form;rw[Xw,X8];refine⟨A,cap,w,?_,hown,ai.refl _ _,.inl rfl⟩;cases A<;>simp[Builtin.append_,run_underlying ht,sizeOf,typeInfo,hi,Builtin.lenOf,hn,Builtin.firstCells,storeCells]
theorem Bn{w0:aV}{size:Nat}{y:SV}{m:Nat}{news:List Value}{ob:Prop}(hw:ai w0.S w0.w W)(h:FR w0 row size hn y=some (m,news,ob))(hob:ob)(hl:news.length=m*size)(hr:∀j∈gg (some y),∀r,row j=some r→aZ β W j r) :
  ∃sp c,y.den β=.slice sp m c∧(0 < news.length→∃ad,sp=some ad∧∀(j:Nat) (u:Value),news[j]?=some u→W.cell? (ad.add j)=some u):=by
 unfold FR at h;split at h
 ·rename_i j off m' c
  split at h
  ·rename_i r hrow
   have hh:=hr j (by simp[gg]) r hrow;split at h
   ·rename_i cs hcs
    injection h with h;injection h with h1 h2;injection h2 with h2 h3;subst h1;subst h2;unfold aZ at hh;rw[hcs]at hh;refine⟨_,c,rfl,fun _=>⟨_,rfl,fun k u hu=>?_⟩⟩;rw[W6]at hu;split at hu
    ·rw[W7]at hu
     rw[Addr.add_lit];exact aq.cell_of hh hu
    ·cases hu
   ·cases h
  ·cases h
 ·rename_i j
  split at h
  ·rename_i r hrow
   have hh:=hr j (by simp[gg]) r hrow;split at h
   ·rename_i sz n xs hcs
    injection h with h;injection h with h1 h2;injection h2 with h2 h3;subst h1;subst h2;unfold aZ at hh;rw[hcs]at hh;refine⟨β.a j,β.c j,by rw[←hh.1];rfl,fun hpos=>?_⟩;obtain⟨g,o',ha,hc⟩:=zT hh.2 (by rintro rfl;simp at hpos);refine⟨_,ha,fun k u hu=>?_⟩;rw[Addr.add_lit];exact hc k u hu
   ·cases h
  ·cases h
 ·rename_i j off m' cut
  split at h
  ·rename_i r hrow
   have hh:=hr j (by simp[gg]) r hrow;split at h
   ·rename_i sz n xs hcs
    injection h with h;injection h with h1 h2;injection h2 with h2 h3;subst h1;subst h2;subst h3;unfold aZ at hh;rw[hcs]at hh;refine⟨_,_,rfl,fun hpos=>?_⟩;obtain⟨g,o',ha,hc⟩:=zT hh.2 (by rintro rfl;simp at hpos);obtain⟨_,_,hv,hnc,_⟩:=hh.2.form;injection hv with _ _ hcc;have hxl:=hh.2.len;have hlt:off < xs.length:=by rw[W2,Xm]at hpos;omega
    have hcut:cut < n:=by
     rcases Nat.lt_or_ge cut n with h|h
     ·exact h
     ·have:=Xt sz h
      rw[hxl,hob.1]at hlt;omega
    rw[if_neg (by omega),ha];refine⟨_,rfl,fun k u hu=>?_⟩;rw[W6]at hu;split at hu
    ·rw[W7]at hu
     have:=hc _ u hu;simp only[Addr.add_lit];rw[X2];exact this
    ·cases hu
   ·cases h
  ·cases h
 ·rename_i v
  split at h
  ·rename_i m' news'
   injection h with h;injection h with h1 h2;injection h2 with h2 h3;subst h1;subst h2;subst h3;obtain⟨A,c,hv,hc⟩:=hob W hw;exact⟨A,c,hv,hc⟩
  ·cases h
 ·cases h
theorem SQ{c:Call}{w0:aV}{t:TypeId}{x y:Operand}{sx sy:SV}(ho:o.op=.call c)(hc:c={ callee:=.builtin .append,args:=#[x,y],argTypes:=#[t,t] })(hw:ai w0.S w0.w W)(hx:a.eval x=sx.den β)(hy:a.eval y=sy.den β)
  (hrx:∀i,sx=.own i→∀r,row i=some r→aZ β W i r) (hry:∀j∈gg (some sy),∀r,row j=some r→aZ β W j r):(fN P w0 row hn t sx sy).Ok P β W a o:=by
 have go:∀(kill:Option Nat) (el size n:Nat) (xs:List Value),Own W el size (sx.den β) n xs→(∀k,(sx.den β).ownBlock=some k→∃i,kill=some i∧(β.a i).map (·.block)=some k)→(kT P w0 row hn t kill el size n xs sy).Ok P β W a o:=by
  intro kill el size n xs hown hk;unfold kT;split
  ·rename_i e' sz bytes hty
   split
   ·rename_i hb
    rw[WS]at hb;have hb1:=WO hb.1;have hb2:=WO hb.2;subst hb1;subst hb2;obtain⟨inf,z,hu,hi,hz,hs,hby,hzs,hpos⟩:=Dv hty;split
    ·rename_i m news ob hsrc
     intro hob;obtain⟨h0,h1,h2,h3,h4⟩:=hob _ rfl;obtain⟨sp,cp,hsl,hcells⟩:=Bn hw hsrc h0 h1 hry;obtain⟨A',c',w',hrun,hown',hch,hbl⟩:=u6 (P:=P) W t o.type e' inf z sz bytes hu hi hz hs hby hzs hpos (sx.den β) n xs hown sp m cp news h1 hcells h2 h3 h4;have hblk:∀k,A'.map (·.block)=some k→(Xu A' (n+m) c').ownBlock=some k:=by
      intro k hk;cases A' with
      |none=>cases hk
      |some ad=>simpa[Xr]using hk
     refine⟨A',c',w',(sx.den β).ownBlock.toList,?_,hown',hch,fun k hk'=>hk k (by simpa using hk'),fun k hk'=>?_⟩
     ·subst hc
      unfold execOp;simp only[ho,resolve,invoke,builtin,WU,W5,WV,Yf,W0,Yp,hx,hy,hsl,hrun]
     ·have hk2:=hblk k hk'
      rcases hbl with hbl|⟨k',hk3,hlt⟩
      ·left;rw[←hbl,hk2];simp
      ·right;rw[hk3]at hk2;cases hk2;exact hlt
    ·trivial
   ·trivial
  ·trivial
 unfold fN;split
 ·rename_i i
  split
  ·rename_i r hrow
   have hh:=hrx i rfl r hrow;split
   ·rename_i size n xs hcs
    unfold aZ at hh;rw[hcs]at hh;refine go (some i) r.ty size n xs ?_ fun k hk=>⟨i,rfl,?_⟩
    ·show Own W r.ty size (.slice (β.a i) (β.n i) (β.c i)) n xs
     rw[hh.1];exact hh.2
    ·rw[←hk,←pc (n:=β.n i)];rfl
   ·trivial
  ·trivial
 ·split
  ·rename_i e' sz b hty
   exact go none e' sz 0 [] (Own.nil W _ _) (by simp[SV.den,Xr])
  ·trivial
 ·trivial
theorem xq:∀(l:List UInt8) (r:ByteArray),(l.map fun c=>(c.toNat:Int)).foldl (fun r n=>r.push (UInt8.ofNat n.toNat)) r=⟨(r.data.toList++l).toArray⟩
 | [],r=>by simp
 |c::l,r=>by rw[W0,XW,xq l];congr 1;simp[ByteArray.push]
theorem Hr{P:Program}{W:World}{s d:TypeId}(hb:Aq P s d=true)(b:ByteArray)(sp:Option Addr)(c m:Nat)(news:List Value)(h1:b.size=m)(h2:news=b.data.toList.map fun c=>.int .u8 (c.toNat:Int))
  (hc:0 < news.length→∃ad,sp=some ad∧∀(j:Nat) (u:Value),news[j]?=some u→W.cell? (ad.add j)=some u):(convert s d (.slice sp m c)).run P W=.ok (.string b) W:=by
 unfold Aq at hb;split at hb
 ·rename_i el hs
  split at hb
  ·rename_i hd
   split at hb
   ·rename_i he
    rw[run_convert_bytes_string W s d el sp m c hs he hd];have hm:news.length=m:=by rw[h2,XI,←h1];rfl
    have e:news=(b.data.toList.map fun c=>(c.toNat:Int)).map (Yv .u8):=by rw[h2,Xn];rfl
    cases sp with
    |none=>
     have h0:news.length=0:=by
      rcases XA news.length with h|h
      ·exact h
      ·obtain⟨_,h,_⟩:=hc h;cases h
     have hz:b.data.toList=[]:=by
      have:b.data.toList.length=0:=by rw[h2,XI]at h0;exact h0
      exact Xb this
     have hb0:b=ByteArray.empty:=by
      cases b with
      |mk a=>have:a=#[]:=Xf.1 hz;rw[this];rfl
     rw[hb0];rfl
    |some a=>
     have hl:(loadCells a m).run P W=.ok ((b.data.toList.map fun c=>(c.toNat:Int)).map (Yv .u8)).toArray W:=by
      rw[←hm,←e];refine run_loadCells_list (P:=P) W a news fun j v hj=>?_;have hp:0 < news.length:=by have:=(WX.1 hj).1;omega
      obtain⟨ad,ha,hh⟩:=hc hp;injection ha with ha;rw[ha];exact hh j v hj
     rw[run_bytesToString W a m c _ hl,xq];rfl
   ·cases hb
  ·cases hb
 ·cases hb
theorem Li{w0:aV}{H:List (Nat×Hint)}(hw:ai w0.S w0.w W)(he:∀x∈o.op.operands,∀sv,e x=some sv→a.eval x=sv.den β)(hr:∀i r,i∈aD e o→row i=some r→aZ β W i r):(fA P w0 H hn e row o).Ok P β W a o:=by
 have move:∀x,(o.op=.move x∨o.op=.assign x)→(dA P w0 hn e o x).Ok P β W a o:=by
  intro x ho;unfold dA;split
  ·rename_i sv hsv
   have hx:=he x (by rcases ho with ho|ho<;>simp[ho,WQ]) _ hsv;split
   ·intro _
    unfold execOp;rcases ho with ho|ho<;>simp only[ho,hx]<;>rfl
   ·split
    ·intro _
     refine⟨none,0,W,[],?_,Own.nil W _ _,ai.refl _ _,by simp,by simp⟩;unfold execOp;rcases ho with ho|ho<;>simp only[ho,hx]<;>rfl
    ·intro _
     unfold execOp;rcases ho with ho|ho<;>simp only[ho,hx]<;>rfl
   ·exact gj hw he
  ·trivial
 unfold fA;split
 ·rename_i x ho;exact move x (.inl ho)
 ·rename_i x ho;exact move x (.inr ho)
 ·rename_i x ho
  split
  ·rename_i i off hx
   intro _;have hx:=he x (by simp[ho,WQ]) _ hx;unfold execOp;simp only[ho,hx];rfl
  ·exact gj hw he
 ·rename_i t ho
  split
  ·rename_i inf hi
   split
   ·rename_i z hz
    show _=_;unfold execOp;simp[ho,Instr.alloc,zeroValue,typeInfo,hi,hz,newVar,newRow,Cells.den,ox]
   ·trivial
  ·trivial
 ·rename_i t x ho
  split
  ·rename_i v hx
   have hx:=he x (by simp[ho,WQ]) _ hx;show _=_;unfold execOp;simp[ho,hx,X5,newVar,newRow,Cells.den,SV.den,ox]
  ·rename_i l hx
   have hx:=he x (by simp[ho,WQ]) _ hx;have hsv:(l.map Atom.sv).map (SV.den β)=l.map (Atom.den β):=by rw[Xn];exact W3 fun a _=>Atom.sj
   show _=_;unfold execOp;simp only[ho,hx,Cells.den,hsv];simp[X5,newVar,newRow,SV.den,ox,Value.cells]
  ·rename_i sv hnv _ hx
   split
   ·rename_i hone
    have hx:=he x (by simp[ho,WQ]) _ hx;obtain⟨hc,_⟩:=pg hone β;show _=_;unfold execOp;simp[ho,hx,X5,newVar,newRow,Cells.den,hc,ox]
   ·trivial
  ·trivial
 ·rename_i t x ho
  split
  ·rename_i i off hx
   split
   ·rename_i r hrow
    split
    ·exact IV ho (he x (by simp[ho,WQ]) _ hx) (hr i r (by simp[aD,ho,hx,gg]) hrow)
    ·exact Gy ho (he x (by simp[ho,WQ]) _ hx) (hr i r (by simp[aD,ho,hx,gg]) hrow)
   ·trivial
  ·rename_i i off hx
   split
   ·rename_i r hrow
    split
    ·exact EI ho (he x (by simp[ho,WQ]) _ hx) (hr i r (by simp[aD,ho,hx,gg]) hrow)
    ·trivial
   ·trivial
  ·split
   ·exact gj hw he
   ·trivial
 ·rename_i t x y ho
  split
  ·rename_i i off hx
   split
   ·rename_i sv hy
    split
    ·rename_i r hrow
     split
     ·exact D0 ho (he x (by simp[ho,WQ]) _ hx) (he y (by simp[ho,WQ]) _ hy) (hr i r (by simp[aD,ho,hx,gg]) hrow)
     ·exact Kc ho (he x (by simp[ho,WQ]) _ hx) (he y (by simp[ho,WQ]) _ hy) (hr i r (by simp[aD,ho,hx,gg]) hrow)
    ·trivial
   ·trivial
  ·rename_i i off hx
   split
   ·rename_i sv hy
    split
    ·rename_i r hrow
     exact Bm ho (he x (by simp[ho,WQ]) _ hx) (he y (by simp[ho,WQ]) _ hy) (hr i r (by simp[aD,ho,hx,gg]) hrow)
    ·trivial
   ·trivial
  ·trivial
 ·rename_i x k ho
  split
  ·rename_i l i r hx
   have hx:=he x (by simp[ho,WQ]) _ hx;have key:∀v,(l++(β.sl i::r))[k]?=some v→(execOp a.eval o).run P W=.ok (.value v) W:=by
    intro v hv;unfold execOp;have:(l++(β.sl i::r)).toArray[k]?=some v:=by simpa using hv
    simp only[ho,hx,SV.den,Yl,this,WU,W5,WV]
   split
   ·rename_i hk
    have hk:=WO hk;intro _;refine key _ ?_;rw[hk,WW (Xx _),XS];rfl
   ·split
    ·rename_i v hv
     intro _;refine key _ ?_;rw[WY (WX.1 hv).1];exact hv
    ·split
     ·rename_i hlt
      have hlt:l.length < k:=WR hlt;split
      ·rename_i v hv
       intro _;refine key _ ?_;rw[WW (by omega),show k - l.length=(k - l.length - 1)+1 by omega,Xp];exact hv
      ·trivial
     ·trivial
  ·exact gj hw he
 ·rename_i t len parts ho
  split
  ·exact I7 (Dp ho fun i x hm sv hx=>he x (by simp only[ho,WQ];simpa using ⟨i,by simpa using hm⟩) sv hx)
  ·split
   ·rename_i x hparts
    split
    ·rename_i v hx
     have hx:=he x (by
      have:(0,x)∈parts.toList:=by rw[hparts];simp
      simp only[ho,WQ];simpa using ⟨0,by simpa using this⟩) _ hx
     split
     ·rename_i el hu
      split
      ·rename_i inf hi
       split
       ·rename_i z hz
        split
        ·rename_i hh
         simp only[WS]at hh;obtain⟨h1,h2,h3,h4⟩:=hh;have h1:=WO h1;have h2:=WO h2;have h3:=WR h3;have h4:0 < inf.size:=WR h4;show _=_;have hp:parts=#[(0,x)]:=by rw[←Xf,hparts]
         have hrun:=run_buildSlice (P:=P) W t el 1 #[(0,v)] v.cells inf z hu hi hz (by omega) (by omega) (Mo inf.size v _ (by simp) (by simpa using h1));unfold execOp;subst hp;simp only[ho,Yf,W0,Yp,hx,SV.den,WU,hrun,WV,W5,ox,Cells.den]
        ·trivial
       ·trivial
      ·trivial
     ·trivial
    ·trivial
   ·exact Dp ho fun i x hm sv hx=>he x (by simp only[ho,WQ];simpa using ⟨i,by simpa using hm⟩) sv hx
 ·rename_i s x f ho
  split
  ·rename_i i off hx
   have hx:=he x (by simp[ho,WQ]) _ hx;split
   ·rename_i fields hu
    split
    ·rename_i fd hf
     split
     ·rename_i k hk
      intro _;cases hq:P.info? fd.type with
      |none=>rw[hq]at hk;cases hk
      |some inf=>
       rw[hq]at hk;have hk:inf.size=k+1:=by simpa using hk
       unfold execOp;simp[ho,hx,SV.den,X0,run_underlying hu,hf,Xk,fieldPlace,sizeOf,typeInfo,hq,hk,Addr.add_lit]
     ·trivial
    ·trivial
   ·trivial
  ·rename_i i off hx
   have hx':=he x (by simp[ho,WQ]) _ hx;split
   ·rename_i r hrow
    have hh:=hr i r (by simp[aD,ho,hx]) hrow;split
    ·rename_i size n xs hcs
     unfold aZ at hh;rw[hcs]at hh;split
     ·rename_i fields hu
      split
      ·rename_i fd hf
       split
       ·rename_i k hk
        intro hob;obtain⟨g,o',c',hv,_⟩:=hh.2.some_ (hob _ rfl);injection hv with ha _ _;cases hq:P.info? fd.type with
        |none=>rw[hq]at hk;cases hk
        |some inf=>
         rw[hq]at hk;have hk:inf.size=k+1:=by simpa using hk
         unfold execOp;simp[ho,hx',SV.den,ha,X0,run_underlying hu,hf,Xk,fieldPlace,sizeOf,typeInfo,hq,hk,Addr.add_lit,X2]
       ·trivial
      ·trivial
     ·trivial
    ·trivial
   ·trivial
  ·exact gj hw he
 ·rename_i t x ix ho
  split
  ·rename_i i off hx
   have hx:=he x (by simp[ho,WQ]) _ hx;split
   ·rename_i len elem hu
    split
    ·rename_i kk k hk
     have hk:=he ix (by simp[ho,WQ]) _ hk;split
     ·rename_i inf hi
      have key:0≤k∧k < len→(execOp a.eval o).run P W=.ok (.value (.pointer (some ⟨β i,off+k.toNat*inf.size,none⟩))) W:=by intro hb;unfold execOp;simp[ho,hx,hk,SV.den,XN,run_underlying hu,asIntOf,Xk,hb,sizeOf,typeInfo,hi,Addr.add_lit]
      split
      ·intro hob
       exact key (hob _ rfl)
      ·split
       ·rename_i hd
        intro _;exact key (of_decide_eq_true hd)
       ·trivial
     ·trivial
    ·trivial
   ·trivial
  ·rename_i i hx
   have hx':=he x (by simp[ho,WQ]) _ hx;split
   ·rename_i r hrow
    have hh:=hr i r (by simp[aD,ho,hx]) hrow;split
    ·rename_i size n xs hcs
     unfold aZ at hh;rw[hcs]at hh;split
     ·rename_i kk k hk
      have hk:=he ix (by simp[ho,WQ]) _ hk;split
      ·rename_i elem hu
       split
       ·rename_i inf hi
        split
        ·intro hob
         have hb:=hob _ rfl;have hne:0 < n:=by omega
         obtain⟨g,o',c',hv,_⟩:=hh.2.some_ hne;injection hv with ha _ _;have hbn:0≤k∧k < (β.n i:Int):=by rw[hh.1];exact hb
         unfold execOp;simp[ho,hx',hk,SV.den,Env.sl,XN,run_underlying hu,asIntOf,ha,hbn,sizeOf,typeInfo,hi]
        ·trivial
       ·trivial
      ·trivial
     ·trivial
    ·trivial
   ·trivial
  ·exact gj hw he
 ·rename_i s d x ho
  split
  ·rename_i sv hx
   have hx':=he x (by simp[ho,WQ]) _ hx;split
   ·rename_i b
    split
    ·rename_i m news ob hsrc
     split
     ·rename_i hb
      intro hob;obtain⟨h0,h1,h2⟩:=hob _ rfl;have hl:news.length=m*1:=by rw[h2,XI,Nat.mul_one,←h1];rfl
      obtain⟨sp,c,hd,hc⟩:=Bn hw hsrc h0 hl (fun j hj r hr'=>hr j r (by simp[aD,ho,hx,hj]) hr');unfold execOp;simp only[ho,hx',hd,WU,Hr hb b sp c m news h1 h2 hc,WV,W5];rfl
     ·trivial
    ·exact gj hw he
   ·exact gj hw he
  ·exact gj hw he
 ·rename_i t x lo hi mx ho
  exact Ki ho hw he hr
 ·rename_i c ho
  split
  ·exact rU ho he
  ·exact MK ho he
  ·exact Dm ho he
  ·exact Dm ho he
  ·split
   ·rename_i t x y hap
    have hc:=qM hap;split
    ·rename_i sx sy hx hy
     exact SQ ho hc hw (he x (by simp[ho,WQ,Call.operands,hc]) _ hx) (he y (by simp[ho,WQ,Call.operands,hc]) _ hy)
      (fun i hi r hr'=>hr i r (by subst hi;simp[aD,ho,hc,hx,gg]) hr') (fun j hj r hr'=>hr j r (by simp[aD,ho,hc,hy,hj]) hr')
    ·trivial
   ·exact Sd ho hw he (fun i r hi hr'=>hr i r hi hr')
 ·exact gj hw he
end
end Sx
open Go Go.RowKit Go.Lib Go.Sort
namespace Sx
section
variable{P:Program}{o:Oper}{e:Operand→Option SV}{row:Nat→Option Row}{hn:Option Hint}{Q:Nat→Prop}
def qU.On(Q:Nat→Prop):qU→Prop
 |.val sv _=>sv.on Q
 |.alloc _ cs _=>cs.on Q
 |.store i r _=>Q i∧r.cs.on Q
 |.grow kill _ _ _ _ _=>∀i,kill=some i→Q i
 |.ec i r _=>Q i∧r.cs.on Q
 |.fI _ i _=>Q i
 |.eS _ _ (.de _ i r _)=>Q i∧r.cs.on Q
 |_=>True
theorem I6{P:Program}{r0:qU}{Q:Nat→Prop}:(sW P r0).On Q:=by
 rcases ey (P:=P) (r0:=r0) rfl with h|⟨_,_,_,_,h⟩
 ·rw[h];exact WN
 ·rw[h];intro i hi;cases hi
theorem MR{P:Program}{e:Operand→Option SV}{t:TypeId}{len:Nat}{parts:List (Nat×Operand)}{Q:Nat→Prop}:(kq P e t len parts).On Q:=by rcases fJ (P:=P) (e:=e) (t:=t) (len:=len) (parts:=parts) rfl with h|⟨_,_,_,h⟩<;>rw[h]<;>exact WN
theorem gi{w0:aV}:(bG P w0 hn e o).On Q:=by
 unfold bG;split
 ·exact WN
 ·split
  ·split<;>exact WN
  ·split<;>exact WN
  ·split<;>exact WN
  ·split<;>exact WN
theorem Qc{w0:aV}:(dv P w0 hn e o).On Q:=by
 unfold dv;split
 ·split
  ·exact WN
  ·split<;>exact WN
 ·exact gi
theorem IU{t:TypeId}{r:Row}{off:Nat}{v:Value}:(bX P t r off v).On Q:=by
 unfold bX;split
 ·split
  ·split<;>trivial
  ·trivial
 ·trivial
theorem DZ{t:TypeId}{r:Row}{i off:Nat}{sv:SV}{cs':List Value}(hi:Q i):(bH P t i r off sv cs').On Q:=by
 unfold bH;split
 ·trivial
 ·split
  ·split
   ·split
    ·exact⟨hi,trivial⟩
    ·exact⟨hi,trivial⟩
    ·trivial
   ·trivial
  ·trivial
theorem Pj{t:TypeId}{r:Row}{off:Nat}(h:r.cs.on Q):(cH P t r off).On Q:=by
 unfold cH;split
 ·exact WN
 ·split
  ·split
   ·split
    ·split
     ·exact WN
     ·split<;>exact WN
    ·split
     ·exact WN
     ·split<;>exact WN
    ·rename_i cs hcs
     rw[hcs]at h;split
     ·split
      ·rename_i sv hsv
       exact BB hsv h
      ·exact WN
     ·exact WN
    ·rename_i cs hcs
     rw[hcs]at h;split
     ·split
      ·rename_i sv hsv
       exact BB hsv h
      ·exact WN
     ·exact WN
    ·exact WN
   ·split
    ·split<;>exact WN
    ·split<;>exact WN
    ·rename_i cs hcs
     rw[hcs]at h;split
     ·rename_i v hv
      exact h v (Xe hv)
     ·exact WN
    ·rename_i cs hcs
     rw[hcs]at h;split
     ·rename_i v hv
      exact h v (Xe hv)
     ·exact WN
    ·exact WN
  ·exact WN
theorem EH{t:TypeId}{r:Row}{off:Nat}{v:Value}:(bC P t r off v).On Q:=by
 unfold bC;split
 ·split
  ·split
   ·split
    ·split<;>exact WN
    ·exact WN
   ·exact WN
  ·exact WN
 ·exact WN
theorem Kb{t:TypeId}{r:Row}{i off:Nat}{sv:SV}(hi:Q i)(hs:sv.on Q)(h:r.cs.on Q):(cO P t i r off sv).On Q:=by
 unfold cO;split
 ·exact WN
 split
 ·exact WN
 ·split
  ·split
   ·split
    ·exact⟨hi,G9⟩
    ·split
     ·refine⟨hi,?_⟩
      cases hc:r.cs with
      |aj cs=>exact WN
      |own a b c=>exact WN
      |dead=>exact WN
      |cR g cs=>exact WN
      |dC cs=>
       rw[hc]at h;intro s hs;simp only[Xv,W4]at hs;rcases hs with hs|⟨v,_,rfl⟩ | hs
       ·exact h s (XL hs)
       ·exact WN
       ·exact h s (XM hs)
      |ji g cs=>
       rw[hc]at h;intro s hs;simp only[Xv,W4]at hs;rcases hs with hs|⟨v,_,rfl⟩ | hs
       ·exact h s (XL hs)
       ·exact WN
       ·exact h s (XM hs)
     ·exact WN
   ·exact WN
  ·split
   ·split
    ·refine⟨hi,?_⟩
     cases hc:r.cs with
     |own a b c=>exact WN
     |dead=>exact WN
     |cR g cs=>
      intro s hm;rcases W8 hm with hm|rfl
      ·obtain⟨v,_,rfl⟩:=W4.1 hm
       exact WN
      ·exact hs
     |aj cs=>
      intro s hm;rcases W8 hm with hm|rfl
      ·obtain⟨v,_,rfl⟩:=W4.1 hm
       exact WN
      ·exact hs
     |dC cs=>
      rw[hc]at h;intro s hm;rcases W8 hm with hm|rfl
      ·exact h s hm
      ·exact hs
     |ji g cs=>
      rw[hc]at h;intro s hm;rcases W8 hm with hm|rfl
      ·exact h s hm
      ·exact hs
    ·exact WN
   ·split
    ·rename_i l _ _
     split
     ·have hl:∀x∈l.map Atom.sv,x.on Q:=fun x hx=>by
       obtain⟨y,hy,rfl⟩:=W4.1 hx;exact Atom.Bk (hs y hy)
      refine⟨hi,?_⟩;cases hc:r.cs with
      |own a b c=>exact hl
      |dead=>exact hl
      |cR g cs=>exact hl
      |aj cs=>exact hl
      |dC cs=>exact hl
      |ji g cs=>exact hl
     ·exact WN
    ·exact WN
theorem my{e:Operand→Option SV}:∀{xs:List Operand} {l:List SV},jX e xs=some l→∀sv∈l,∃x∈xs,e x=some sv
 | [],l,h,sv,hm=>by
  have:l=[]:=by simpa[jX]using h.symm
  subst this;cases hm
 |x::r,l,h,sv,hm=>by
  unfold jX at h;split at h
  ·rename_i sv' l' hx hr
   cases h;rcases Xh.1 hm with rfl|hm
   ·exact⟨x,by simp,hx⟩
   ·obtain⟨y,hy,hey⟩:=my hr sv hm
    exact⟨y,by simp[hy],hey⟩
  ·cases h
theorem jL{c:Call}{r r':gA}{f:FuncId}{args:List SV}(h:bE P e c r=.bS f args r'):∀sv∈args,∃x∈c.args.toList,e x=some sv:=by
 unfold bE at h;split at h
 ·split at h
  ·split at h
   ·split at h
    ·rename_i lv hlv
     injection h with h1 h2 h3;intro sv hsv;rw[←h2]at hsv;exact my hlv sv hsv
    ·cases h
   ·cases h
  ·cases h
 ·cases h
theorem Dl{c:Call}{hh:Hint}(ho:o.op=.call c)(he:∀x∈o.op.operands,∀sv,e x=some sv→sv.on Q):(ga P e row c hh).On Q:=by
 unfold ga;split
 ·rename_i p cs v
  split
  ·rename_i f args r' hr
   split
   ·rename_i i hp
    split
    ·split
     ·split
      ·refine⟨?_,G9⟩
       obtain⟨x,hx,hex⟩:=jL hr (.ptr i 0) (Xe hp);exact he x (by
        obtain⟨callee,args,ats⟩:=c;have hx':x∈args:=by simpa using hx
        simp only[ho,WQ,Call.operands];cases callee<;>simp[hx']) _ hex
      ·exact WN
     ·exact WN
    ·exact WN
   ·exact WN
  ·exact WN
 ·split<;>exact WN
 ·exact WN
theorem QM{w0:aV}{H:List (Nat×Hint)}(he:∀x∈o.op.operands,∀sv,e x=some sv→sv.on Q)(hr:∀i r,i∈aD e o→row i=some r→r.cs.on Q):(fA P w0 H hn e row o).On Q:=by
 have move:∀x,(o.op=.move x∨o.op=.assign x)→(dA P w0 hn e o x).On Q:=by
  intro x ho;unfold dA;split
  ·rename_i sv hsv
   split
   ·exact he x (by rcases ho with ho|ho<;>simp[ho,WQ]) _ hsv
   ·split
    ·intro i hi;cases hi
    ·exact he x (by rcases ho with ho|ho<;>simp[ho,WQ]) _ hsv
   ·exact gi
  ·exact WN
 unfold fA;split
 ·rename_i x ho;exact move x (.inl ho)
 ·rename_i x ho;exact move x (.inr ho)
 ·rename_i x ho
  split
  ·rename_i i off hx
   exact he x (by simp[ho,WQ]) _ hx
  ·exact gi
 ·split
  ·split<;>exact WN
  ·exact WN
 ·rename_i t x ho
  split
  ·exact WN
  ·rename_i l hx
   intro s hs;obtain⟨y,hy,rfl⟩:=W4.1 hs;exact Atom.Bk (he x (by simp[ho,WQ]) _ hx y hy)
  ·rename_i sv hnv _ hx
   split
   ·intro s hs
    rw[Xg]at hs;subst hs;exact he x (by simp[ho,WQ]) _ hx
   ·exact WN
  ·exact WN
 ·rename_i t x ho
  split
  ·rename_i i off hx
   split
   ·rename_i r hrow
    split
    ·exact IU
    ·exact Pj (hr i r (by simp[aD,ho,hx,gg]) hrow)
   ·exact WN
  ·split
   ·split
    ·exact EH
    ·exact WN
   ·exact WN
  ·split
   ·exact gi
   ·exact WN
 ·rename_i t x y ho
  split
  ·rename_i i off hx
   split
   ·rename_i sv hy
    split
    ·rename_i r hrow
     split
     ·exact DZ (he x (by simp[ho,WQ]) _ hx)
     ·exact Kb (he x (by simp[ho,WQ]) _ hx) (he y (by simp[ho,WQ]) _ hy) (hr i r (by simp[aD,ho,hx,gg]) hrow)
    ·exact WN
   ·exact WN
  ·rename_i i off hx
   split
   ·split
    ·unfold bB
     repeat' split
     all_goals first|exact WN|exact⟨he x (by simp[ho,WQ]) _ hx,WN⟩
    ·exact WN
   ·exact WN
  ·exact WN
 ·rename_i x k ho
  split
  ·rename_i l i r hx
   split
   ·exact he x (by simp[ho,WQ]) _ hx
   ·split
    ·exact WN
    ·split
     ·split<;>exact WN
     ·exact WN
  ·exact gi
 ·split
  ·exact I6
  ·split
   ·split
    ·split
     ·split
      ·split
       ·split<;>exact WN
       ·exact WN
      ·exact WN
     ·exact WN
    ·exact WN
   ·exact MR
 ·rename_i s x f ho
  split
  ·rename_i i off hx
   split
   ·split
    ·split
     ·exact he x (by simp[ho,WQ]) _ hx
     ·exact WN
    ·exact WN
   ·exact WN
  ·rename_i i off hx
   repeat' split
   all_goals first|exact WN|exact he x (by simp[ho,WQ]) _ hx
  ·exact gi
 ·rename_i t x ix ho
  split
  ·rename_i i off hx
   split
   ·split
    ·split
     ·split
      ·exact he x (by simp[ho,WQ]) _ hx
      ·split
       ·exact he x (by simp[ho,WQ]) _ hx
       ·exact WN
     ·exact WN
    ·exact WN
   ·exact WN
  ·rename_i i hx
   split
   ·split
    ·split
     ·split
      ·split
       ·split
        ·exact he x (by simp[ho,WQ]) _ hx
        ·exact WN
       ·exact WN
      ·exact WN
     ·exact WN
    ·exact WN
   ·exact WN
  ·exact gi
 ·split
  ·split
   ·split
    ·split<;>exact WN
    ·exact gi
   ·exact gi
  ·exact gi
 ·rename_i t x lo hi mx ho
  unfold cP;split
  ·rename_i i hx
   split
   ·unfold kn
    repeat' split
    all_goals first|exact WN|exact he x (by simp[ho,WQ]) _ hx
   ·exact WN
  ·exact gi
 ·rename_i c ho
  split
  ·unfold bE
   repeat' split
   all_goals exact WN
  ·rename_i r
   unfold di;repeat' split
   all_goals first|exact WN|skip
   rename_i rr args j hr b hsl;have ht:=jL hr _ (Xg.2 rfl);obtain⟨x,hx,hex⟩:=ht;exact he x (by
    obtain⟨callee,args,ats⟩:=c;have hx':x∈args:=by simpa using hx
    simp only[ho,WQ,Call.operands];cases callee<;>simp[hx']) _ hex
  ·exact Dl ho he
  ·exact Dl ho he
  ·split
   ·rename_i t x y hap
    have hc:=qM hap;split
    ·rename_i sx sy hx hy
     have go:∀{kill:Option Nat} {el size n:Nat} {xs:List Value},(∀i,kill=some i→Q i)→(kT P w0 row hn t kill el size n xs sy).On Q:=by
      intro kill el size n xs hk;unfold kT;repeat' split
      all_goals first|exact WN|exact hk
     unfold fN;split
     ·split
      ·split
       ·refine go fun i hi=>?_
        cases hi;exact he x (by simp[ho,WQ,Call.operands,hc]) _ hx
       ·exact WN
      ·exact WN
     ·split
      ·exact go fun i hi=>by cases hi
      ·exact WN
     ·exact WN
    ·exact WN
   ·unfold fb
    repeat' split
    all_goals first|exact WN|exact Qc
 ·exact gi
theorem nK{w0:aV}{H:List (Nat×Hint)}{i:Nat}{r':Row}{ob:Option Prop}(h:fA P w0 H hn e row o=.store i r' ob):i∈aD e o∧r'.fixed=true∧∃r,row i=some r∧r.fixed=true∧r'.cs.tag=r.cs.tag:=by
 have hp:∀(hn:Option Hint),bG P w0 hn e o≠.store i r' ob:=by
  intro hn h;unfold bG at h;repeat' (split at h)
  all_goals (cases h)
 have hc:dv P w0 hn e o≠.store i r' ob:=by
  intro h;unfold dv at h;repeat' (split at h)
  all_goals first | (cases h;done)|exact hp _ h
 have hmv:∀x,dA P w0 hn e o x≠.store i r' ob:=by
  intro x h;unfold dA at h;repeat' (split at h)
  all_goals first | (cases h;done)|exact hp _ h
 have hco:∀c r,bE P e c r≠.store i r' ob:=by
  intro c r h;unfold bE at h;repeat' (split at h)
  all_goals (cases h)
 have hap:∀t x y,fN P w0 row hn t x y≠.store i r' ob:=by
  intro t x y h;unfold fN kT at h;repeat' (split at h)
  all_goals (cases h)
 have hck:∀c r,di P e c r≠.store i r' ob:=by
  intro c r h;unfold di at h;repeat' (split at h)
  all_goals (cases h)
 have hso:∀t' j r off sv,bB P t' j r off sv≠.store i r' ob:=by
  intro t' j r off sv h;unfold bB at h;repeat' (split at h)
  all_goals (cases h)
 have hsl:∀t' x lo hi mx,cP P w0 hn e row o t' x lo hi mx≠.store i r' ob:=by
  intro t' x lo hi mx h;unfold cP kn at h;repeat' (split at h)
  all_goals first | (cases h;done)|exact hp _ h
 have hln:∀c,fb P w0 hn e row o c≠.store i r' ob:=by
  intro c h;unfold fb at h;repeat' (split at h)
  all_goals first | (cases h;done)|exact hc h
 have hl:∀t r off,cH P t r off≠.store i r' ob:=by
  intro t r off h;unfold cH at h;repeat' (split at h)
  all_goals (cases h)
 have hl2:∀t r off v,bX P t r off v≠.store i r' ob:=by
  intro t r off v h;unfold bX at h;repeat' (split at h)
  all_goals (cases h)
 have hl3:∀t r off v,bC P t r off v≠.store i r' ob:=by
  intro t r off v h;unfold bC at h;repeat' (split at h)
  all_goals (cases h)
 unfold fA at h;split at h
 ·exact absurd h (hmv _)
 ·exact absurd h (hmv _)
 ·repeat' (split at h)
  all_goals first | (cases h;done)|exact absurd h (hp _) | (rcases ey h with h|⟨_,_,_,_,h⟩<;>(cases h;done)) | (rcases fJ h with h|⟨_,_,_,h⟩<;>(cases h;done))
 ·repeat' (split at h)
  all_goals (cases h)
 ·repeat' (split at h)
  all_goals (cases h)
 ·repeat' (split at h)
  all_goals first | (cases h;done)|exact absurd h (hl _ _ _)|exact absurd h (hl2 _ _ _ _)|exact absurd h (hl3 _ _ _ _)|exact absurd h (hp _)
 ·rename_i t x y ho
  split at h
  ·rename_i j off hx
   split at h
   ·split at h
    ·rename_i r hrow
     have:j=i∧r'.fixed=true∧r.fixed=true∧r'.cs.tag=r.cs.tag:=by
      split at h
      ·unfold bH at h
       split at h
       ·cases h
       ·split at h
        ·split at h
         ·split at h
          ·rename_i hcs
           injection h with h1 h2;subst h2;exact⟨h1,rfl,by unfold Row.fixed;rw[hcs],by rw[hcs];rfl⟩
          ·rename_i hcs
           injection h with h1 h2;subst h2;exact⟨h1,rfl,by unfold Row.fixed;rw[hcs],by rw[hcs];rfl⟩
          ·cases h
         ·cases h
        ·cases h
      ·unfold cO at h
       split at h
       ·cases h
       ·rename_i hf
        unfold Row.fixed at hf;cases hcr:r.cs with
        |own a b c=>rw[hcr]at hf;cases hf
        |dead=>rw[hcr]at hf;cases hf
        |aj cs=>
         simp only[hcr]at h;repeat' (split at h)
         all_goals first
          | (cases h;done)
          | (injection h with h1 h2;subst h2;exact⟨h1,rfl,by unfold Row.fixed;rw[hcr],by first|rfl | (rw[hcr];rfl)⟩)
        |dC cs=>
         simp only[hcr]at h;repeat' (split at h)
         all_goals first
          | (cases h;done)
          | (injection h with h1 h2;subst h2;exact⟨h1,rfl,by unfold Row.fixed;rw[hcr],by first|rfl | (rw[hcr];rfl)⟩)
        |cR g cs=>
         simp only[hcr]at h;repeat' (split at h)
         all_goals first
          | (cases h;done)
          | (injection h with h1 h2;subst h2;exact⟨h1,rfl,by unfold Row.fixed;rw[hcr],by first|rfl | (rw[hcr];rfl)⟩)
        |ji g cs=>
         simp only[hcr]at h;repeat' (split at h)
         all_goals first
          | (cases h;done)
          | (injection h with h1 h2;subst h2;exact⟨h1,rfl,by unfold Row.fixed;rw[hcr],by first|rfl | (rw[hcr];rfl)⟩)
     obtain⟨rfl,h1,h2,h3⟩:=this;exact⟨by simp[aD,ho,hx,gg],h1,r,hrow,h2,h3⟩
    ·cases h
   ·cases h
  ·split at h
   ·split at h
    ·exact absurd h (hso _ _ _ _ _)
    ·cases h
   ·cases h
  ·cases h
 ·repeat' (split at h)
  all_goals first | (cases h;done)|exact absurd h (hp _) | (rcases ey h with h|⟨_,_,_,_,h⟩<;>(cases h;done)) | (rcases fJ h with h|⟨_,_,_,h⟩<;>(cases h;done))
 ·repeat' (split at h)
  all_goals first | (cases h;done)|exact absurd h (hp _) | (rcases ey h with h|⟨_,_,_,_,h⟩<;>(cases h;done)) | (rcases fJ h with h|⟨_,_,_,h⟩<;>(cases h;done))
 ·repeat' (split at h)
  all_goals first | (cases h;done)|exact absurd h (hp _)
 ·repeat' (split at h)
  all_goals first | (cases h;done)|exact absurd h (hp _) | (rcases ey h with h|⟨_,_,_,_,h⟩<;>(cases h;done)) | (rcases fJ h with h|⟨_,_,_,h⟩<;>(cases h;done))
 ·repeat' (split at h)
  all_goals first | (cases h;done)|exact absurd h (hp _)
 ·exact absurd h (hsl _ _ _ _ _)
 ·repeat' (split at h)
  all_goals first | (cases h;done)|exact absurd h (hco _ _)|exact absurd h (hck _ _) | (rcases dY h with h|⟨_,_,_,h⟩<;>(cases h;done))|exact absurd h (hap _ _ _)|exact absurd h (hln _)
 ·exact absurd h (hp _)
theorem tX{w0:aV}{H:List (Nat×Hint)}{t:TypeId}{cs:Cells}{ln:Option Nat}(h:fA P w0 H hn e row o=.alloc t cs ln):(⟨t,cs⟩:Row).fixed=true∧cs.tag=none:=by
 have hp:∀(hn:Option Hint),bG P w0 hn e o≠.alloc t cs ln:=by
  intro hn h;unfold bG at h;repeat' (split at h)
  all_goals (cases h)
 have hc:dv P w0 hn e o≠.alloc t cs ln:=by
  intro h;unfold dv at h;repeat' (split at h)
  all_goals first | (cases h;done)|exact hp _ h
 have hmv:∀x,dA P w0 hn e o x≠.alloc t cs ln:=by
  intro x h;unfold dA at h;repeat' (split at h)
  all_goals first | (cases h;done)|exact hp _ h
 have hco:∀c r,bE P e c r≠.alloc t cs ln:=by
  intro c r h;unfold bE at h;repeat' (split at h)
  all_goals (cases h)
 have hap:∀t' x y,fN P w0 row hn t' x y≠.alloc t cs ln:=by
  intro t x y h;unfold fN kT at h;repeat' (split at h)
  all_goals (cases h)
 have hck:∀c r,di P e c r≠.alloc t cs ln:=by
  intro c r h;unfold di at h;repeat' (split at h)
  all_goals (cases h)
 have hso:∀t' j r off sv,bB P t' j r off sv≠.alloc t cs ln:=by
  intro t' j r off sv h;unfold bB at h;repeat' (split at h)
  all_goals (cases h)
 have hsl:∀t' x lo hi mx,cP P w0 hn e row o t' x lo hi mx≠.alloc t cs ln:=by
  intro t' x lo hi mx h;unfold cP kn at h;repeat' (split at h)
  all_goals first | (cases h;done)|exact hp _ h
 have hln:∀c,fb P w0 hn e row o c≠.alloc t cs ln:=by
  intro c h;unfold fb at h;repeat' (split at h)
  all_goals first | (cases h;done)|exact hc h
 have hl:∀t' r off,cH P t' r off≠.alloc t cs ln:=by
  intro t r off h;unfold cH at h;repeat' (split at h)
  all_goals (cases h)
 have hl2:∀t' r off v,bX P t' r off v≠.alloc t cs ln:=by
  intro t r off v h;unfold bX at h;repeat' (split at h)
  all_goals (cases h)
 have hl3:∀t' r off v,bC P t' r off v≠.alloc t cs ln:=by
  intro t r off v h;unfold bC at h;repeat' (split at h)
  all_goals (cases h)
 have hs1:∀t' i r off sv,cO P t' i r off sv≠.alloc t cs ln:=by
  intro t i r off sv h;unfold cO at h;repeat' (split at h)
  all_goals (cases h)
 have hs2:∀t' i r off sv c,bH P t' i r off sv c≠.alloc t cs ln:=by
  intro t i r off sv c h;unfold bH at h;repeat' (split at h)
  all_goals (cases h)
 unfold fA at h;split at h;all_goals repeat' (split at h)
 all_goals first
  | (cases h;done)
  | (injection h with h1 h2;subst h2;exact⟨rfl,rfl⟩)
  |exact absurd h (hp _)
  |exact absurd h (hmv _)
  |exact absurd h (hsl _ _ _ _ _)
  |exact absurd h (hso _ _ _ _ _)
  |exact absurd h (hco _ _)
  |exact absurd h (hck _ _)
  | (rcases dY h with h|⟨_,_,_,h⟩<;>(cases h;done))
  |exact absurd h (hap _ _ _)
  |exact absurd h (hln _)
  |exact absurd h (hl _ _ _)
  |exact absurd h (hl2 _ _ _ _)
  |exact absurd h (hl3 _ _ _ _)
  |exact absurd h (hs1 _ _ _ _ _)
  |exact absurd h (hs2 _ _ _ _ _ _)
  | (rcases ey h with h|⟨_,_,_,_,h⟩<;>(cases h;done))
  | (rcases fJ h with h|⟨_,_,_,h⟩<;>first | (cases h;done) | (injection h with h1 h2;subst h2;exact⟨rfl,rfl⟩))
theorem qC{w0:aV}{H:List (Nat×Hint)}{i t size n:Nat}{xs:List Value}{ob:Option Prop}(h:fA P w0 H hn e row o=.grow (some i) t size n xs ob):i∈aD e o∧∃r,row i=some r∧∃s m ys,r.cs=.own s m ys:=by
 have hp:∀(hn:Option Hint),bG P w0 hn e o≠.grow (some i) t size n xs ob:=by
  intro hn h;unfold bG at h;repeat' (split at h)
  all_goals (cases h)
 have hc:dv P w0 hn e o≠.grow (some i) t size n xs ob:=by
  intro h;unfold dv at h;repeat' (split at h)
  all_goals first | (cases h;done)|exact hp _ h
 have hmv:∀x,dA P w0 hn e o x≠.grow (some i) t size n xs ob:=by
  intro x h;unfold dA at h;repeat' (split at h)
  all_goals first | (cases h;done)|exact hp _ h
 have hco:∀c r,bE P e c r≠.grow (some i) t size n xs ob:=by
  intro c r h;unfold bE at h;repeat' (split at h)
  all_goals (cases h)
 have hck:∀c r,di P e c r≠.grow (some i) t size n xs ob:=by
  intro c r h;unfold di at h;repeat' (split at h)
  all_goals (cases h)
 have hso:∀t' j r off sv,bB P t' j r off sv≠.grow (some i) t size n xs ob:=by
  intro t' j r off sv h;unfold bB at h;repeat' (split at h)
  all_goals (cases h)
 have hsl:∀t' x lo hi mx,cP P w0 hn e row o t' x lo hi mx≠.grow (some i) t size n xs ob:=by
  intro t' x lo hi mx h;unfold cP kn at h;repeat' (split at h)
  all_goals first | (cases h;done)|exact hp _ h
 have hln:∀c,fb P w0 hn e row o c≠.grow (some i) t size n xs ob:=by
  intro c h;unfold fb at h;repeat' (split at h)
  all_goals first | (cases h;done)|exact hc h
 have hl:∀t' r off,cH P t' r off≠.grow (some i) t size n xs ob:=by
  intro t r off h;unfold cH at h;repeat' (split at h)
  all_goals (cases h)
 have hl2:∀t' r off v,bX P t' r off v≠.grow (some i) t size n xs ob:=by
  intro t r off v h;unfold bX at h;repeat' (split at h)
  all_goals (cases h)
 have hl3:∀t' r off v,bC P t' r off v≠.grow (some i) t size n xs ob:=by
  intro t r off v h;unfold bC at h;repeat' (split at h)
  all_goals (cases h)
 have hs1:∀t' j r off sv,cO P t' j r off sv≠.grow (some i) t size n xs ob:=by
  intro t j r off sv h;unfold cO at h;repeat' (split at h)
  all_goals (cases h)
 have hs2:∀t' j r off sv c,bH P t' j r off sv c≠.grow (some i) t size n xs ob:=by
  intro t j r off sv c h;unfold bH at h;repeat' (split at h)
  all_goals (cases h)
 have hgo:∀{t':TypeId} {kill:Option Nat} {el sz m:Nat} {ys:List Value} {y:SV},kT P w0 row hn t' kill el sz m ys y=.grow (some i) t size n xs ob→kill=some i:=by
  intro t' kill el sz m ys y h;unfold kT at h;repeat' (split at h)
  all_goals first | (cases h;done) | (injection h)
 unfold fA at h;split at h;all_goals try (repeat' (split at h));done
 all_goals first
  | (
    rename_i c ho;split at h
    ·exact absurd h (hco _ _)
    ·exact absurd h (hck _ _)
    ·rcases dY h with h|⟨_,_,_,h⟩<;>(cases h;done)
    ·rcases dY h with h|⟨_,_,_,h⟩<;>(cases h;done)
    ·split at h
     ·rename_i t' x y hap
      have hc':=qM hap;split at h
      ·rename_i sx sy hx hy
       unfold fN at h;split at h
       ·rename_i j
        split at h
        ·rename_i r hrow
         split at h
         ·rename_i s m ys hcs
          have hj:=hgo h;injection hj with hj;subst hj;exact⟨by simp[aD,ho,hc',hx,gg],r,hrow,s,m,ys,hcs⟩
         ·cases h
        ·cases h
       ·split at h
        ·have:=hgo h;cases this
        ·cases h
       ·cases h
      ·cases h
     ·exact absurd h (hln _))
  | (
    exfalso;repeat' (split at h)
    all_goals first
     | (cases h;done)
     |exact absurd h (hp _)
     |exact absurd h (hsl _ _ _ _ _)
     |exact absurd h (hso _ _ _ _ _)
     |exact absurd h (hmv _)
     | (rcases ey h with h|⟨_,_,_,_,h⟩<;>(cases h;done)) | (rcases fJ h with h|⟨_,_,_,h⟩<;>(cases h;done))
     |exact absurd h (hl _ _ _)
     |exact absurd h (hl2 _ _ _ _)
     |exact absurd h (hl3 _ _ _ _)
     |exact absurd h (hs1 _ _ _ _ _)
     |exact absurd h (hs2 _ _ _ _ _ _))
theorem mz{w0:aV}{H:List (Nat×Hint)}{i:Nat}{r':Row}{ob:Option Prop}(h:fA P w0 H hn e row o=.ec i r' ob):i∈aD e o∧∃r,row i=some r∧∀β:Env,aB β i r'=aB β i r:=by
 have hp:∀(hn:Option Hint),bG P w0 hn e o≠.ec i r' ob:=by
  intro hn h;unfold bG at h;repeat' (split at h)
  all_goals (cases h)
 have hc:dv P w0 hn e o≠.ec i r' ob:=by
  intro h;unfold dv at h;repeat' (split at h)
  all_goals first | (cases h;done)|exact hp _ h
 have hmv:∀x,dA P w0 hn e o x≠.ec i r' ob:=by
  intro x h;unfold dA at h;repeat' (split at h)
  all_goals first | (cases h;done)|exact hp _ h
 have hco:∀c r,bE P e c r≠.ec i r' ob:=by
  intro c r h;unfold bE at h;repeat' (split at h)
  all_goals (cases h)
 have hap:∀t' x y,fN P w0 row hn t' x y≠.ec i r' ob:=by
  intro t x y h;unfold fN kT at h;repeat' (split at h)
  all_goals (cases h)
 have hck:∀c r,di P e c r≠.ec i r' ob:=by
  intro c r h;unfold di at h;repeat' (split at h)
  all_goals (cases h)
 have hsl:∀t' x lo hi mx,cP P w0 hn e row o t' x lo hi mx≠.ec i r' ob:=by
  intro t' x lo hi mx h;unfold cP kn at h;repeat' (split at h)
  all_goals first | (cases h;done)|exact hp _ h
 have hln:∀c,fb P w0 hn e row o c≠.ec i r' ob:=by
  intro c h;unfold fb at h;repeat' (split at h)
  all_goals first | (cases h;done)|exact hc h
 have hl:∀t' r off,cH P t' r off≠.ec i r' ob:=by
  intro t r off h;unfold cH at h;repeat' (split at h)
  all_goals (cases h)
 have hl2:∀t' r off v,bX P t' r off v≠.ec i r' ob:=by
  intro t r off v h;unfold bX at h;repeat' (split at h)
  all_goals (cases h)
 have hl3:∀t' r off v,bC P t' r off v≠.ec i r' ob:=by
  intro t r off v h;unfold bC at h;repeat' (split at h)
  all_goals (cases h)
 have hs1:∀t' j r off sv,cO P t' j r off sv≠.ec i r' ob:=by
  intro t j r off sv h;unfold cO at h;repeat' (split at h)
  all_goals (cases h)
 have hs2:∀t' j r off sv c,bH P t' j r off sv c≠.ec i r' ob:=by
  intro t j r off sv c h;unfold bH at h;repeat' (split at h)
  all_goals (cases h)
 unfold fA at h;split at h
 all_goals first
  | (
    rename_i t x y ho;split at h
    ·rename_i j off hx
     exfalso;split at h
     ·split at h
      ·split at h
       ·exact hs2 _ _ _ _ _ _ h
       ·exact hs1 _ _ _ _ _ h
      ·cases h
     ·cases h
    ·rename_i j off hx
     split at h
     ·split at h
      ·rename_i r hrow
       unfold bB at h;split at h
       ·rename_i size n xs hcs
        split at h
        ·split at h
         ·split at h
          ·injection h with h1 h2
           subst h1;subst h2;exact⟨by simp[aD,ho,hx,gg],r,hrow,fun β=>by unfold aB;rw[hcs]⟩
          ·cases h
         ·cases h
        ·cases h
       ·cases h
      ·cases h
     ·cases h
    ·cases h)
  | (
    exfalso;repeat' (split at h)
    all_goals first
     | (cases h;done)
     |exact absurd h (hp _)
     |exact absurd h (hmv _)
     | (rcases ey h with h|⟨_,_,_,_,h⟩<;>(cases h;done)) | (rcases fJ h with h|⟨_,_,_,h⟩<;>(cases h;done))
     |exact absurd h (hco _ _)
     |exact absurd h (hck _ _)
     | (rcases dY h with h|⟨_,_,_,h⟩<;>(cases h;done))
     |exact absurd h (hap _ _ _)
     |exact absurd h (hln _)
     |exact absurd h (hsl _ _ _ _ _)
     |exact absurd h (hl _ _ _)
     |exact absurd h (hl2 _ _ _ _)
     |exact absurd h (hl3 _ _ _ _))
theorem Dn{w0:aV}{H:List (Nat×Hint)}{f:FuncId}{args:List SV}{r:gA}(h:fA P w0 H hn e row o=.bS f args r):∀i sv,sv∈args→i∈gg (some sv)→i∈aD e o:=by
 have hp:∀(hn:Option Hint),bG P w0 hn e o≠.bS f args r:=by
  intro hn h;unfold bG at h;repeat' (split at h)
  all_goals (cases h)
 have hc:dv P w0 hn e o≠.bS f args r:=by
  intro h;unfold dv at h;repeat' (split at h)
  all_goals first | (cases h;done)|exact hp _ h
 have hmv:∀x,dA P w0 hn e o x≠.bS f args r:=by
  intro x h;unfold dA at h;repeat' (split at h)
  all_goals first | (cases h;done)|exact hp _ h
 have hap:∀t' x y,fN P w0 row hn t' x y≠.bS f args r:=by
  intro t x y h;unfold fN kT at h;repeat' (split at h)
  all_goals (cases h)
 have hck:∀c r',di P e c r'≠.bS f args r:=by
  intro c r' h;unfold di at h;repeat' (split at h)
  all_goals (cases h)
 have hso:∀t' j r' off sv,bB P t' j r' off sv≠.bS f args r:=by
  intro t' j r' off sv h;unfold bB at h;repeat' (split at h)
  all_goals (cases h)
 have hsl:∀t' x lo hi mx,cP P w0 hn e row o t' x lo hi mx≠.bS f args r:=by
  intro t' x lo hi mx h;unfold cP kn at h;repeat' (split at h)
  all_goals first | (cases h;done)|exact hp _ h
 have hln:∀c,fb P w0 hn e row o c≠.bS f args r:=by
  intro c h;unfold fb at h;repeat' (split at h)
  all_goals first | (cases h;done)|exact hc h
 have hl:∀t' r' off,cH P t' r' off≠.bS f args r:=by
  intro t r off h;unfold cH at h;repeat' (split at h)
  all_goals (cases h)
 have hl2:∀t' r' off v,bX P t' r' off v≠.bS f args r:=by
  intro t r off v h;unfold bX at h;repeat' (split at h)
  all_goals (cases h)
 have hl3:∀t' r' off v,bC P t' r' off v≠.bS f args r:=by
  intro t r off v h;unfold bC at h;repeat' (split at h)
  all_goals (cases h)
 have hs1:∀t' j r' off sv,cO P t' j r' off sv≠.bS f args r:=by
  intro t j r off sv h;unfold cO at h;repeat' (split at h)
  all_goals (cases h)
 have hs2:∀t' j r' off sv c,bH P t' j r' off sv c≠.bS f args r:=by
  intro t j r off sv c h;unfold bH at h;repeat' (split at h)
  all_goals (cases h)
 unfold fA at h;split at h
 all_goals first
  | (
    exfalso;repeat' (split at h)
    all_goals first
     | (cases h;done)
     |exact absurd h (hp _)
     |exact absurd h (hsl _ _ _ _ _)
     |exact absurd h (hso _ _ _ _ _)
     |exact absurd h (hmv _)
     | (rcases ey h with h|⟨_,_,_,_,h⟩<;>(cases h;done)) | (rcases fJ h with h|⟨_,_,_,h⟩<;>(cases h;done))
     |exact absurd h (hl _ _ _)
     |exact absurd h (hl2 _ _ _ _)
     |exact absurd h (hl3 _ _ _ _)
     |exact absurd h (hs1 _ _ _ _ _)
     |exact absurd h (hs2 _ _ _ _ _ _))
  |skip
 rename_i c ho;split at h
 ·unfold bE at h
  split at h
  ·split at h
   ·split at h
    ·split at h
     ·rename_i lv hlv
      injection h with h1 h2 h3;intro i sv hi hat;rw[←h2]at hi;obtain⟨x,hx,hex⟩:=my hlv _ hi;simp only[aD,ho,XU];exact⟨x,hx,by rw[hex];exact hat⟩
     ·cases h
    ·cases h
   ·cases h
  ·cases h
 ·exact absurd h (hck _ _)
 ·rcases dY h with h|⟨_,_,_,h⟩<;>(cases h;done)
 ·rcases dY h with h|⟨_,_,_,h⟩<;>(cases h;done)
 ·exfalso
  split at h
  ·split at h
   ·exact hap _ _ _ h
   ·cases h
  ·exact hln _ h
theorem tW{w0:aV}{H:List (Nat×Hint)}{f:FuncId}{i:Nat}{r:gA}(h:fA P w0 H hn e row o=.fI f i r):i∈aD e o∧isSlice r=true:=by
 have hp:∀(hn:Option Hint),bG P w0 hn e o≠.fI f i r:=by
  intro hn h;unfold bG at h;repeat' (split at h)
  all_goals (cases h)
 have hc:dv P w0 hn e o≠.fI f i r:=by
  intro h;unfold dv at h;repeat' (split at h)
  all_goals first | (cases h;done)|exact hp _ h
 have hmv:∀x,dA P w0 hn e o x≠.fI f i r:=by
  intro x h;unfold dA at h;repeat' (split at h)
  all_goals first | (cases h;done)|exact hp _ h
 have hap:∀t' x y,fN P w0 row hn t' x y≠.fI f i r:=by
  intro t x y h;unfold fN kT at h;repeat' (split at h)
  all_goals (cases h)
 have hco:∀c r',bE P e c r'≠.fI f i r:=by
  intro c r' h;unfold bE at h;repeat' (split at h)
  all_goals (cases h)
 have hso:∀t' j r' off sv,bB P t' j r' off sv≠.fI f i r:=by
  intro t' j r' off sv h;unfold bB at h;repeat' (split at h)
  all_goals (cases h)
 have hsl:∀t' x lo hi mx,cP P w0 hn e row o t' x lo hi mx≠.fI f i r:=by
  intro t' x lo hi mx h;unfold cP kn at h;repeat' (split at h)
  all_goals first | (cases h;done)|exact hp _ h
 have hln:∀c,fb P w0 hn e row o c≠.fI f i r:=by
  intro c h;unfold fb at h;repeat' (split at h)
  all_goals first | (cases h;done)|exact hc h
 have hl:∀t' r' off,cH P t' r' off≠.fI f i r:=by
  intro t r off h;unfold cH at h;repeat' (split at h)
  all_goals (cases h)
 have hl2:∀t' r' off v,bX P t' r' off v≠.fI f i r:=by
  intro t r off v h;unfold bX at h;repeat' (split at h)
  all_goals (cases h)
 have hl3:∀t' r' off v,bC P t' r' off v≠.fI f i r:=by
  intro t r off v h;unfold bC at h;repeat' (split at h)
  all_goals (cases h)
 have hs1:∀t' j r' off sv,cO P t' j r' off sv≠.fI f i r:=by
  intro t j r off sv h;unfold cO at h;repeat' (split at h)
  all_goals (cases h)
 have hs2:∀t' j r' off sv c,bH P t' j r' off sv c≠.fI f i r:=by
  intro t j r off sv c h;unfold bH at h;repeat' (split at h)
  all_goals (cases h)
 unfold fA at h;split at h
 all_goals first
  | (
    exfalso;repeat' (split at h)
    all_goals first
     | (cases h;done)
     |exact absurd h (hp _)
     |exact absurd h (hsl _ _ _ _ _)
     |exact absurd h (hso _ _ _ _ _)
     |exact absurd h (hmv _)
     | (rcases ey h with h|⟨_,_,_,_,h⟩<;>(cases h;done)) | (rcases fJ h with h|⟨_,_,_,h⟩<;>(cases h;done))
     |exact absurd h (hl _ _ _)
     |exact absurd h (hl2 _ _ _ _)
     |exact absurd h (hl3 _ _ _ _)
     |exact absurd h (hs1 _ _ _ _ _)
     |exact absurd h (hs2 _ _ _ _ _ _))
  |skip
 rename_i c ho;split at h
 ·exact absurd h (hco _ _)
 ·unfold di at h
  split at h
  ·rename_i f' args r' hr
   split at h
   ·split at h
    ·rename_i hs
     injection h with h1 h2 h3;subst h2;subst h3;obtain⟨x,hx,hex⟩:=jL hr _ (Xg.2 rfl);refine⟨?_,hs⟩;simp only[aD,ho,XU];exact⟨x,hx,by rw[hex];simp[gg]⟩
    ·cases h
   ·cases h
  ·cases h
 ·rcases dY h with h|⟨_,_,_,h⟩<;>(cases h;done)
 ·rcases dY h with h|⟨_,_,_,h⟩<;>(cases h;done)
 ·exfalso
  split at h
  ·split at h
   ·exact hap _ _ _ h
   ·cases h
  ·exact hln _ h
theorem qH{w0:aV}{H:List (Nat×Hint)}{f:FuncId}{args:List SV}{x:XK}(h:fA P w0 H hn e row o=.eS f args x):(∀i sv,sv∈args→i∈gg (some sv)→i∈aD e o)∧
  (∀p i r v,x=.de p i r v→args[p]?=some (.ptr i 0)∧i∈aD e o∧∃r0,row i=some r0∧r.ty=r0.ty∧r0.fixed=true∧r.fixed=true∧r.cs.tag=r0.cs.tag)∧
  ∀ps,x=.Gh ps→∀q∈ps,args[q.1]?=some (.ptr q.2 0)∧∃r,row q.2=some r∧r.fixed=true:=by
 have hp:∀(hn:Option Hint),bG P w0 hn e o≠.eS f args x:=by
  intro hn h;unfold bG at h;repeat' (split at h)
  all_goals (cases h)
 have hc:dv P w0 hn e o≠.eS f args x:=by
  intro h;unfold dv at h;repeat' (split at h)
  all_goals first | (cases h;done)|exact hp _ h
 have hmv:∀y,dA P w0 hn e o y≠.eS f args x:=by
  intro x h;unfold dA at h;repeat' (split at h)
  all_goals first | (cases h;done)|exact hp _ h
 have hap:∀t' y z,fN P w0 row hn t' y z≠.eS f args x:=by
  intro t x y h;unfold fN kT at h;repeat' (split at h)
  all_goals (cases h)
 have hco:∀c r',bE P e c r'≠.eS f args x:=by
  intro c r' h;unfold bE at h;repeat' (split at h)
  all_goals (cases h)
 have hck:∀c r',di P e c r'≠.eS f args x:=by
  intro c r' h;unfold di at h;repeat' (split at h)
  all_goals (cases h)
 have hso:∀t' j r' off sv,bB P t' j r' off sv≠.eS f args x:=by
  intro t' j r' off sv h;unfold bB at h;repeat' (split at h)
  all_goals (cases h)
 have hsl:∀t' y lo hi mx,cP P w0 hn e row o t' y lo hi mx≠.eS f args x:=by
  intro t' x lo hi mx h;unfold cP kn at h;repeat' (split at h)
  all_goals first | (cases h;done)|exact hp _ h
 have hln:∀c,fb P w0 hn e row o c≠.eS f args x:=by
  intro c h;unfold fb at h;repeat' (split at h)
  all_goals first | (cases h;done)|exact hc h
 have hl:∀t' r' off,cH P t' r' off≠.eS f args x:=by
  intro t r off h;unfold cH at h;repeat' (split at h)
  all_goals (cases h)
 have hl2:∀t' r' off v,bX P t' r' off v≠.eS f args x:=by
  intro t r off v h;unfold bX at h;repeat' (split at h)
  all_goals (cases h)
 have hl3:∀t' r' off v,bC P t' r' off v≠.eS f args x:=by
  intro t r off v h;unfold bC at h;repeat' (split at h)
  all_goals (cases h)
 have hs1:∀t' j r' off sv,cO P t' j r' off sv≠.eS f args x:=by
  intro t j r off sv h;unfold cO at h;repeat' (split at h)
  all_goals (cases h)
 have hs2:∀t' j r' off sv c,bH P t' j r' off sv c≠.eS f args x:=by
  intro t j r off sv c h;unfold bH at h;repeat' (split at h)
  all_goals (cases h)
 have go:∀c hh,o.op=.call c→ga P e row c hh=.eS f args x→(∀i sv,sv∈args→i∈gg (some sv)→i∈aD e o)∧
  (∀p i r v,x=.de p i r v→args[p]?=some (.ptr i 0)∧i∈aD e o∧∃r0,row i=some r0∧r.ty=r0.ty∧r0.fixed=true∧r.fixed=true∧r.cs.tag=r0.cs.tag)∧
  ∀ps,x=.Gh ps→∀q∈ps,args[q.1]?=some (.ptr q.2 0)∧∃r,row q.2=some r∧r.fixed=true:=by
  intro c hh ho h;have mem:∀{f' args' r'},bE P e c r'=.bS f' args' r'→∀i sv,sv∈args'→i∈gg (some sv)→i∈aD e o:=by intro f' args' r' hr i sv hi hat;obtain⟨x,hx,hex⟩:=jL hr _ hi;simp only[aD,ho,XU];exact⟨x,hx,by rw[hex];exact hat⟩
  have back:∀{f' args' r' r''},bE P e c r'=.bS f' args' r''→r''=r':=by
   intro f' args' r' r'' hr;unfold bE at hr;repeat' (split at hr)
   all_goals first | (cases hr;done) | (injection hr with h1 h2 h3;exact h3.symm)
  unfold ga at h;split at h
  ·split at h
   ·rename_i f' args' r' hr
    have hb:=back hr;subst hb;split at h
    ·rename_i i hpi
     split at h
     ·rename_i r0 hrow
      cases hcl:r0.cs.list with
      |none=>rw[hcl]at h;cases h
      |some l=>
       rw[hcl]at h;simp only at h;split at h
       ·injection h with h1 h2 h3
        subst h2;refine⟨mem hr,fun p' i' r v' hx=>?_,fun ps hx=>by rw[←h3]at hx;cases hx⟩;rw[←h3]at hx;injection hx with e1 e2 e3 e4;subst e1;subst e2;subst e3;have hfx:r0.fixed=true:=by unfold Row.fixed;unfold Cells.list at hcl;split at hcl<;>first | (cases hcl;done) | (rename_i hcs;rw[hcs])
        exact⟨hpi,mem hr _ _ (Xe hpi) (by simp[gg]),r0,hrow,rfl,hfx,Fz (T:=r0.ty) hfx,Nb⟩
       ·cases h
     ·cases h
    ·cases h
   ·cases h
  ·split at h
   ·rename_i f' args' r' hr
    have hb:=back hr;subst hb;injection h with h1 h2 h3;subst h2;subst h3;refine⟨mem hr,(fun p i r v hx=>nomatch hx),fun ps hx q hq=>?_⟩;injection hx with hx;rw[←hx]at hq;obtain⟨_,h2,h4⟩:=tC hq;exact⟨by simpa using h2,h4⟩
   ·cases h
  ·cases h
 unfold fA at h;split at h
 all_goals first
  | (
    exfalso;repeat' (split at h)
    all_goals first
     | (cases h;done)
     |exact absurd h (hp _)
     |exact absurd h (hsl _ _ _ _ _)
     |exact absurd h (hso _ _ _ _ _)
     |exact absurd h (hmv _)
     | (rcases ey h with h|⟨_,_,_,_,h⟩<;>(cases h;done)) | (rcases fJ h with h|⟨_,_,_,h⟩<;>(cases h;done))
     |exact absurd h (hl _ _ _)
     |exact absurd h (hl2 _ _ _ _)
     |exact absurd h (hl3 _ _ _ _)
     |exact absurd h (hs1 _ _ _ _ _)
     |exact absurd h (hs2 _ _ _ _ _ _))
  |skip
 rename_i c ho;split at h
 ·exact absurd h (hco _ _)
 ·exact absurd h (hck _ _)
 ·exact go c _ ho h
 ·exact go c _ ho h
 ·exfalso
  split at h
  ·split at h
   ·exact hap _ _ _ h
   ·cases h
  ·exact hln _ h
end
structure Hd(ds:List Deferred)(w0:aV)(n:Nat)(β:Env)(st:St)(a:Act)(w:World):Prop where
 size:a.tmps.size=n
 dn:a.defers=ds
 get:∀t sv,look st.fr t=some sv→a.tmps[t]?=some (sv.den β)
 bO:∀(i:Nat) (r:Row),st.mem[i]?=some r→aZ β w i r
 new:∀(i:Nat) (r:Row) (k:Nat),st.mem[i]?=some r→aB β i r=some k→k∈w0.S∨w0.w.heap.size≤k
 inj:∀(i j:Nat) (r r':Row) (k:Nat),st.mem[i]?=some r→st.mem[j]?=some r'→aB β i r=some k→aB β j r'=some k→i=j
 aF:ai w0.S w0.w w
 xC:∀t sv,look st.fr t=some sv→sv.on (· < st.mem.length)
 uM:∀(i:Nat) (r:Row),st.mem[i]?=some r→r.cs.on (· < st.mem.length)
section
variable{P:Program}{w0:aV}{ds:List Deferred}{w w':World}{n:Nat}{β:Env}{st:St}{a:Act}
theorem fD{d t:Nat}{v:SV}{fr:List (Nat×SV)}:look ((d,v)::fr) t=if d=t then v.known else look fr t:=by
 by_cases h:d=t
 ·subst h;simp[look]
 ·rw[if_neg h]
  have:WZ d t=false:=by
   cases hb:WZ d t
   ·rfl
   ·exact absurd (WO hb) h
  rw[look];simp only[this]
theorem jI{d t:Nat}{v:Value}(h:d < a.tmps.size):(a.put (some d) v).tmps[t]?=if d=t then some v else a.tmps[t]?:=by
 simp only[Act.put,Array.getElem?_setIfInBounds];by_cases hd:d=t
 ·subst hd;simp[h]
 ·simp[hd]
theorem OR{d:Nat}{v:Value}(h:¬d < a.tmps.size):a.put (some d) v=a:=by unfold Act.put;simp only;rw[Array.setIfInBounds_eq_of_size_le (by omega)]
theorem Hd.put(h:Hd ds w0 n β st a w)(dst:Option Tmp){sv:SV}(hs:sv.on (· < st.mem.length)):Hd ds w0 n β (st.put n dst sv) (a.put dst (sv.den β)) w:=by
 cases dst with
 |none=>exact h
 |some d=>
  by_cases hd:d < n
  ·have hb:Xd d n=true:=Nat.ble_eq_true_of_le hd
   have e:st.put n (some d) sv=⟨(d,sv)::st.fr,st.mem⟩:=by unfold St.put;simp only[hb]
   rw[e];have hsz:d < a.tmps.size:=by rw[h.size];exact hd
   refine⟨by simp[Act.put,h.size],h.dn,fun t u hu=>?_,h.bO,h.new,h.inj,h.aF,fun t u hu=>?_,h.uM⟩
   ·rw[jI hsz]
    rw[fD]at hu;split at hu
    ·rename_i hdt;rw[if_pos hdt];rw[b9 hu]
    ·rename_i hdt;rw[if_neg hdt];exact h.get t u hu
   ·rw[fD]at hu
    split at hu
    ·rw[b9 hu];exact hs
    ·exact h.xC t u hu
  ·have hb:Xd d n=false:=by
    cases hb:Xd d n
    ·rfl
    ·exact absurd (WR hb) hd
   have e:st.put n (some d) sv=st:=by unfold St.put;simp only[hb]
   rw[e,OR (by rw[h.size];exact hd)];exact h
theorem Hd.later(h:Hd ds w0 n β st a w)(hc:ai [] w w'):Hd ds w0 n β st a w':=
 ⟨h.size,h.dn,h.get,fun i r hi=>(h.bO i r hi).aF hc (fun _ _=>by simp),h.new,h.inj,h.aF.seq hc (by simp),h.xC,h.uM⟩
def Env.de(β:Env)(m g:Nat):Env:=⟨fun i=>if i=m then g else β i,β.a,β.n,β.c⟩
theorem JW{m g:Nat}:β.same (β.de m g) (·≠m):=fun i hi=>⟨by simp only[Env.de,if_neg hi],rfl,rfl,rfl⟩
theorem jU{m g:Nat}:(β.de m g) m=g:=by simp only[Env.de,if_true]
theorem Ca{m g:Nat}{ln:Option Nat}:(mP m ln).den (β.de m g)=ox g ln:=by cases ln<;>simp only[mP,ox,SV.den,jU]
theorem Gv{Q:Nat→Prop}{m:Nat}{ln:Option Nat}(h:Q m):(mP m ln).on Q:=by cases ln<;>exact h
theorem Env.same.mono{β β':Env}{Q Q':Nat→Prop}(h:β.same β' Q)(hQ:∀i,Q' i→Q i):β.same β' Q':=fun i hi=>h i (hQ i hi)
theorem Hd.alloc(h:Hd ds w0 n β st a w)(t:TypeId){cs:Cells}(hf:(⟨t,cs⟩:Row).fixed=true)(hft:cs.tag=none)(hs:cs.on (· < st.mem.length)):Hd ds w0 n (β.de st.mem.length w.heap.size) ⟨st.fr,st.mem++[⟨t,cs⟩]⟩ a (w.alloc (.cells (cs.den β).toArray t)):=by
 have same:β.same (β.de st.mem.length w.heap.size) (· < st.mem.length):=JW.mono fun i hi=>XT hi;have lt:∀(i:Nat) (r:Row) (k:Nat),st.mem[i]?=some r→aB β i r=some k→k < w.heap.size:=fun i r k hi hk=>(h.bO i r hi).lt hk;have at_:∀(i:Nat) (r:Row),(st.mem++[(⟨t,cs⟩:Row)])[i]?=some r→(i < st.mem.length∧st.mem[i]?=some r)∨(i=st.mem.length∧r=⟨t,cs⟩):=by
  intro i r hi;by_cases hlt:i < st.mem.length
  ·rw[WY hlt]at hi
   exact .inl ⟨hlt,hi⟩
  ·have hl:i < (st.mem++[(⟨t,cs⟩:Row)]).length:=(WX.1 hi).1
   simp at hl;obtain rfl:i=st.mem.length:=by omega
   rw[WW (Xx _),XS]at hi;exact .inr ⟨rfl,by simpa using hi.symm⟩
 have blkm:aB (β.de st.mem.length w.heap.size) st.mem.length ⟨t,cs⟩=some w.heap.size:=by rw[aH hf,jU]
 refine⟨h.size,h.dn,fun u sv hu=>?_,fun i r hi=>?_,fun i r k hi hk=>?_,fun i j r r' k hi hj hk hk'=>?_,h.aF.alloc _,fun u sv hu=>?_,fun i r hi=>?_⟩
 ·rw[h.get u sv hu,SV.cg same (h.xC u sv hu)]
 ·rcases at_ i r hi with⟨hlt,hi⟩ | ⟨rfl,rfl⟩
  ·refine aZ.congr same hlt (h.uM i r hi) ((h.bO i r hi).aF (S:=[]) ((ai.refl [] w).alloc _) (fun _ _=>by simp))
  ·refine aZ.oo ?_ hf (fun g hg=>by rw[hft]at hg;cases hg)
   rw[jU,←Cells.cg same hs];exact aq.new w t (cs.den β).toArray
 ·rcases at_ i r hi with⟨hlt,hi⟩ | ⟨rfl,rfl⟩
  ·rw[←ba same hlt]at hk;exact h.new i r k hi hk
  ·rw[blkm]at hk;cases hk;exact .inr h.aF.size
 ·rcases at_ i r hi with⟨hlt,hi⟩ | ⟨rfl,rfl⟩
  ·rw[←ba same hlt]at hk
   rcases at_ j r' hj with⟨hlt',hj⟩ | ⟨rfl,rfl⟩
   ·rw[←ba same hlt']at hk';exact h.inj i j r r' k hi hj hk hk'
   ·rw[blkm]at hk';cases hk'
    exact absurd (lt i r _ hi hk) (Yo _)
  ·rcases at_ j r' hj with⟨hlt',hj⟩ | ⟨rfl,rfl⟩
   ·rw[blkm]at hk;cases hk
    rw[←ba same hlt']at hk';exact absurd (lt j r' _ hj hk') (Yo _)
   ·rfl
 ·exact SV.bh (fun i hi=>by simp;omega) (h.xC u sv hu)
 ·rcases at_ i r hi with⟨hlt,hi⟩ | ⟨rfl,rfl⟩
  ·exact Cells.bh (fun i hi=>by simp;omega) (h.uM i r hi)
  ·exact Cells.bh (fun i hi=>by simp;omega) hs
theorem Hd.store(h:Hd ds w0 n β st a w){i:Nat}{r0 r:Row}(h0:st.mem[i]?=some r0)(hblk:aB β i r=aB β i r0)(hb:aZ β w' i r)(hc:ai (aB β i r0).toList w w')(hr:r.cs.on (· < st.mem.length)):Hd ds w0 n β ⟨st.fr,st.mem.set i r⟩ a w':=by
 have hi:i < st.mem.length:=(WX.1 h0).1;have old:∀(j:Nat) (r':Row) (k:Nat),(st.mem.set i r)[j]?=some r'→aB β j r'=some k→∃r2,st.mem[j]?=some r2∧aB β j r2=some k:=by
  intro j r' k hj hk;simp only[XB]at hj;split at hj
  ·rename_i hij
   subst hij;have:r=r':=by simpa[hi]using hj
   subst this;exact⟨r0,h0,by rw[←hblk];exact hk⟩
  ·exact⟨r',hj,hk⟩
 refine⟨h.size,h.dn,h.get,fun j r' hj=>?_,fun j r' k hj hk=>?_,fun j j' r1 r2 k hj hj' hk hk'=>?_,?_,fun t sv ht=>?_,fun j r' hj=>?_⟩
 ·simp only[XB]at hj
  split at hj
  ·rename_i hij
   subst hij;have:r=r':=by simpa[hi]using hj
   subst this;exact hb
  ·rename_i hij
   refine(h.bO j r' hj).aF hc fun k hk hm=>hij ?_;exact h.inj i j r0 r' _ h0 hj (by simpa using hm) hk
 ·obtain⟨r2,h2,hk2⟩:=old j r' k hj hk
  exact h.new j r2 k h2 hk2
 ·obtain⟨x,hx,hkx⟩:=old j r1 k hj hk
  obtain⟨y,hy,hky⟩:=old j' r2 k hj' hk';exact h.inj j j' x y k hx hy hkx hky
 ·exact h.aF.seq hc (fun x hx=>h.new i r0 _ h0 (by simpa using hx))
 ·simp only[XG];exact h.xC t sv ht
 ·simp only[XG]
  simp only[XB]at hj;split at hj
  ·have:r=r':=by simpa[hi]using hj
   subst this;exact hr
  ·exact h.uM j r' hj
def Env.im(β:Env)(m:Nat)(A:Option Addr)(n c:Nat):Env:=⟨β.b,fun i=>if i=m then A else β.a i,fun i=>if i=m then n else β.n i,fun i=>if i=m then c else β.c i⟩
theorem um{m:Nat}{A:Option Addr}{nn cc:Nat}:β.same (β.im m A nn cc) (·≠m):=fun i hi=>⟨rfl,by simp only[Env.im,if_neg hi],by simp only[Env.im,if_neg hi],by simp only[Env.im,if_neg hi]⟩
theorem mq{m:Nat}{A:Option Addr}{nn cc:Nat}:(β.im m A nn cc).sl m=.slice A nn cc:=by simp only[Env.sl,Env.im,if_true]
theorem xW{m:Nat}{A:Option Addr}{T size nn cc:Nat}{xs:List Value}(h:Own w T size (.slice A nn cc) nn xs):aZ (β.im m A nn cc) w m ⟨T,.own size nn xs⟩:=by show _∧Own w T size (.slice ((β.im m A nn cc).a m) nn ((β.im m A nn cc).c m)) nn xs;simp only[Env.im,if_true];exact⟨trivial,h⟩
theorem lD{m:Nat}{A:Option Addr}{T size nn cc:Nat}{xs:List Value}:aB (β.im m A nn cc) m ⟨T,.own size nn xs⟩=A.map (·.block):=by show((β.im m A nn cc).a m).map _=_;simp only[Env.im,if_true]
theorem Hd.grow(h:Hd ds w0 n β st a w){kill:Option Nat}{A:Option Addr}{T size nn cc:Nat}{xs:List Value}{S:List Nat}(hown:Own w' T size (.slice A nn cc) nn xs)(hc:ai S w w')
  (hS:∀k∈S,∃i r0,kill=some i∧st.mem[i]?=some r0∧aB β i r0=some k) (hA:∀k,A.map (·.block)=some k→k∈S∨w.heap.size≤k) :
  Hd ds w0 n (β.im st.mem.length A nn cc) ⟨st.fr,eK st.mem kill++[⟨T,.own size nn xs⟩]⟩ a w':=by
 have same:β.same (β.im st.mem.length A nn cc) (· < st.mem.length):=um.mono fun i hi=>XT hi;have klen:(eK st.mem kill).length=st.mem.length:=by cases kill<;>simp[eK]
 have at_:∀(i:Nat) (r:Row),(eK st.mem kill++[(⟨T,.own size nn xs⟩:Row)])[i]?=some r→(i < st.mem.length∧kill≠some i∧st.mem[i]?=some r)∨(i < st.mem.length∧kill=some i∧r=au)∨(i=st.mem.length∧r=⟨T,.own size nn xs⟩):=by
  intro i r hi;by_cases hlt:i < st.mem.length
  ·rw[WY (by rw[klen];exact hlt)]at hi
   cases kill with
   |none=>exact .inl ⟨hlt,by simp,hi⟩
   |some j=>
    simp only[eK,XB]at hi;split at hi
    ·rename_i hij
     subst hij;exact .inr (.inl ⟨hlt,rfl,by simpa[hlt]using hi.symm⟩)
    ·rename_i hij
     exact .inl ⟨hlt,by simpa using hij,hi⟩
  ·have hl:i < (eK st.mem kill++[(⟨T,.own size nn xs⟩:Row)]).length:=(WX.1 hi).1
   simp[klen]at hl;obtain rfl:i=st.mem.length:=by omega
   rw[←klen,WW (Xx _),XS]at hi;exact .inr (.inr ⟨rfl,by simpa using hi.symm⟩)
 have new':∀k,A.map (·.block)=some k→k∈w0.S∨w0.w.heap.size≤k:=fun k hk=>by
  rcases hA k hk with hk|hk
  ·obtain⟨i,r0,_,h0,hb⟩:=hS k hk
   exact h.new i r0 k h0 hb
  ·exact .inr (Ys h.aF.size hk)
 have apart:∀(i:Nat) (r:Row) (k:Nat),kill≠some i→st.mem[i]?=some r→aB β i r=some k→A.map (·.block)≠some k:=fun i r k hki hi hk hk'=>by
  rcases hA k hk' with hk' | hk'
  ·obtain⟨j,r0,hj,h0,hb⟩:=hS k hk'
   have:=h.inj i j r r0 k hi h0 hk hb;subst this;exact hki hj
  ·have:=(h.bO i r hi).lt hk
   omega
 refine⟨h.size,h.dn,fun u sv hu=>?_,fun i r hi=>?_,fun i r k hi hk=>?_,fun i j r r' k hi hj hk hk'=>?_,h.aF.seq hc (fun k hk=>?_),fun u sv hu=>?_,fun i r hi=>?_⟩
 ·rw[h.get u sv hu,SV.cg same (h.xC u sv hu)]
 ·rcases at_ i r hi with⟨hlt,hki,hi⟩ | ⟨hlt,hki,rfl⟩ | ⟨rfl,rfl⟩
  ·refine aZ.congr same hlt (h.uM i r hi) ((h.bO i r hi).aF hc fun k hk hm=>?_)
   obtain⟨j,r0,hj,h0,hb⟩:=hS k hm;have:=h.inj i j r r0 k hi h0 hk hb;subst this;exact hki hj
  ·trivial
  ·exact xW hown
 ·rcases at_ i r hi with⟨hlt,hki,hi⟩ | ⟨hlt,hki,rfl⟩ | ⟨rfl,rfl⟩
  ·rw[←ba same hlt]at hk;exact h.new i r k hi hk
  ·cases hk
  ·rw[lD]at hk;exact new' k hk
 ·rcases at_ i r hi with⟨hlt,hki,hi⟩ | ⟨hlt,hki,rfl⟩ | ⟨rfl,rfl⟩
  ·rw[←ba same hlt]at hk
   rcases at_ j r' hj with⟨hlt',hkj,hj⟩ | ⟨hlt',hkj,rfl⟩ | ⟨rfl,rfl⟩
   ·rw[←ba same hlt']at hk';exact h.inj i j r r' k hi hj hk hk'
   ·cases hk'
   ·rw[lD]at hk';exact absurd hk' (apart i r k hki hi hk)
  ·cases hk
  ·rcases at_ j r' hj with⟨hlt',hkj,hj⟩ | ⟨hlt',hkj,rfl⟩ | ⟨rfl,rfl⟩
   ·rw[←ba same hlt']at hk'
    rw[lD]at hk;exact absurd hk (apart j r' k hkj hj hk')
   ·cases hk'
   ·rfl
 ·obtain⟨i,r0,_,h0,hb⟩:=hS k hk
  exact h.new i r0 k h0 hb
 ·exact SV.bh (fun i hi=>by simp[klen];omega) (h.xC u sv hu)
 ·rcases at_ i r hi with⟨hlt,hki,hi⟩ | ⟨hlt,hki,rfl⟩ | ⟨rfl,rfl⟩
  ·exact Cells.bh (fun i hi=>by simp[klen];omega) (h.uM i r hi)
  ·trivial
  ·trivial
theorem KO{r:gA}{e:Ending}(h:dM w r e w'):(∃v,r=.val v∧e=.returned v∧ai [] w w')∨(∃T size nn xs A cc,jm r=some ⟨T,.own size nn xs⟩∧Own w' T size (.slice A nn cc) nn xs∧ai [] w w'∧(∀k,A.map (·.block)=some k→w.heap.size≤k)∧
  ∀(β:Env) (m:Nat),e=.returned ((ij m r).den (β.im m A nn cc))∧(ij m r).on (·=m)):=by
 have key:∀{T size nn:Nat} {xs:List Value} {s:Value},Acc w w' T size s nn xs→∃A cc,s=.slice A nn cc∧Own w' T size (.slice A nn cc) nn xs∧∀k,A.map (·.block)=some k→w.heap.size≤k:=by
  intro T size nn xs s h;obtain⟨A,cc,rfl,_⟩:=h.own.form;refine⟨A,cc,rfl,h.own,fun k hk=>h.new k ?_⟩;cases A with
  |none=>cases hk
  |some ad=>simpa[Xr]using hk
 cases r with
 |val v=>exact .inl ⟨v,rfl,h.1,h.2⟩
 |sl T size nn xs=>obtain⟨s,he,hacc⟩:=h;obtain⟨A,cc,rfl,ho,hk⟩:=key hacc;exact .inr ⟨T,size,nn,xs,A,cc,rfl,ho,hacc.aF,hk,fun β m=>⟨by rw[he];simp only[ij,SV.den,mq],rfl⟩⟩
 |nu pre T size nn xs post=>obtain⟨s,he,hacc⟩:=h;obtain⟨A,cc,rfl,ho,hk⟩:=key hacc;exact .inr ⟨T,size,nn,xs,A,cc,rfl,ho,hacc.aF,hk,fun β m=>⟨by rw[he];simp only[ij,SV.den,mq],rfl⟩⟩
theorem Bu{β:Env}{i:Nat}:(β.sl i).ownBlock=(β.a i).map (·.block):=by unfold Env.sl;cases h:β.a i<;>simp[Xr]
theorem tj{A:Option Addr}{n c:Nat}:(Xu A n c).ownBlock=A.map (·.block):=by cases A<;>simp[Xr]
theorem F8{s0:Value}{r:gA}{e:Ending}(h:rh w s0 r e w'):∃T size nn xs A cc,jm r=some ⟨T,.own size nn xs⟩∧Own w' T size (.slice A nn cc) nn xs∧ai s0.ownBlock.toList w w'∧(∀k,A.map (·.block)=some k→s0.ownBlock=some k∨w.heap.size≤k)∧
  ∀(β:Env) (m:Nat),e=.returned ((ij m r).den (β.im m A nn cc))∧(ij m r).on (·=m):=by
 cases r with
 |val v=>exact h.elim
 |sl T size nn xs=>obtain⟨s,he,ho,hc,hk⟩:=h;obtain⟨A,cc,rfl,_⟩:=ho.form;exact⟨T,size,nn,xs,A,cc,rfl,ho,hc,fun k h=>hk k (by rw[tj];exact h),fun β m=>⟨by rw[he];simp only[ij,SV.den,mq],rfl⟩⟩
 |nu pre T size nn xs post=>obtain⟨s,he,ho,hc,hk⟩:=h;obtain⟨A,cc,rfl,_⟩:=ho.form;exact⟨T,size,nn,xs,A,cc,rfl,ho,hc,fun k h=>hk k (by rw[tj];exact h),fun β m=>⟨by rw[he];simp only[ij,SV.den,mq],rfl⟩⟩
theorem Hd.eval(h:Hd ds w0 n β st a w){x:Operand}{sv:SV}(hx:ev st.fr x=some sv):a.eval x=sv.den β:=by
 cases x with
 |tmp t=>have:=h.get t sv hx;simp[Act.eval,this]
 |const v=>simp only[ev,Xc.injEq]at hx;subst hx;rfl
 |global g=>simp only[ev,Xc.injEq]at hx;subst hx;rfl
 |func f=>simp only[ev,Xc.injEq]at hx;subst hx;rfl
theorem Hd.UJ(h:Hd ds w0 n β st a w){x:Operand}{sv:SV}(hx:ev st.fr x=some sv):sv.on (· < st.mem.length):=by
 cases x with
 |tmp t=>exact h.xC t sv hx
 |const v=>simp only[ev,Xc.injEq]at hx;subst hx;trivial
 |global g=>simp only[ev,Xc.injEq]at hx;subst hx;trivial
 |func f=>simp only[ev,Xc.injEq]at hx;subst hx;trivial
end
def oO(m:Nat):Atom→Bool
 |.v _=>true
 |.o i=>Xd i m
 |.p i _=>Xd i m
 |.s i _ _ _=>Xd i m
def Fi(m:Nat):fx→Bool
 |.a x=>oO m x
 |.row l=>eA (oO m) l
 |.kI _ i _=>Xd i m
def xF(m:Nat):SV→Bool
 |.val _=>true
 |.ptr i _=>Xd i m
 |.nO i _ _ _=>Xd i m
 |.own i=>Xd i m
 |.mM i _=>Xd i m
 |.nu _ i _=>Xd i m
 |.lj i _ _ _=>Xd i m
 |.gone=>true
 |.ej l=>eA (oO m) l
 |.G0 _ l=>eA (oO m) l
 |.kI _ i _=>Xd i m
 |.nI l=>eA (Fi m) l
 |.eB _ i _=>Xd i m
def jK(m:Nat):Cells→Bool
 |.aj _=>true
 |.dC cs=>eA (xF m) cs
 |.own _ _ _=>true
 |.dead=>true
 |.cR _ _=>true
 |.ji _ cs=>eA (xF m) cs
theorem pH{m:Nat}{s:Atom}(h:oO m s=true):s.on (· < m):=by
 cases s with
 |v x=>trivial
 |o i=>exact WR h
 |p i off=>exact WR h
 |s i _ _ _=>exact WR h
theorem Jl{m:Nat}{s:fx}(h:Fi m s=true):s.on (· < m):=by
 cases s with
 |a x=>exact pH h
 |row l=>exact fun a ha=>pH (aU (show eA (oO m) l=true from h) a ha)
 |kI t i off=>exact WR h
theorem mw{m:Nat}{s:SV}(h:xF m s=true):s.on (· < m):=by
 cases s with
 |val v=>trivial
 |ptr i o=>exact WR h
 |nO i o n c=>exact WR h
 |own i=>exact WR h
 |mM i o=>exact WR h
 |nu l i r=>exact WR h
 |lj i o n c=>exact WR h
 |gone=>trivial
 |ej l=>exact fun a ha=>pH (aU (show eA (oO m) l=true from h) a ha)
 |G0 f l=>exact fun a ha=>pH (aU (show eA (oO m) l=true from h) a ha)
 |kI t i off=>exact WR h
 |nI l=>exact fun a ha=>Jl (aU (show eA (Fi m) l=true from h) a ha)
 |eB b i off=>exact WR h
theorem iH{m:Nat}{c:Cells}(h:jK m c=true):c.on (· < m):=by
 unfold jK at h;cases c with
 |aj cs=>trivial
 |own _ _ _=>trivial
 |dead=>trivial
 |cR _ _=>trivial
 |dC cs=>exact fun s hs=>mw (aU h s hs)
 |ji g cs=>exact fun s hs=>mw (aU h s hs)
def rowAt(mem:List Row)(i:Nat):Option Row:=mem[i]?
def fx.sv:fx→SV
 |.a x=>x.sv
 |.row l=>.ej l
 |.kI t i off=>.kI t i off
theorem fx.sj{β:Env}{a:fx}:a.sv.den β=a.den β:=by
 cases a with
 |a x=>exact Atom.sj
 |row l=>rfl
 |kI t i off=>rfl
theorem fx.Bk{Q:Nat→Prop}{a:fx}(h:a.on Q):a.sv.on Q:=by
 cases a with
 |a x=>exact Atom.Bk h
 |row l=>exact h
 |kI t i off=>exact h
def Ln(P:Program)(f:FuncId):Bool:=match P.funcs[f]? with
 |some fn=>match fn.name== "runtime.NumGoroutine"||fn.body.isNone with
  |true=>false
  |false=>true
 |none=>false
def xp(P:Program)(e:Operand→Option SV)(x:Operand):Option (FuncId×List SV):=match e x with
 |some sv=>match sv with
  |.val v=>match v with
   |.func fn first cap=>match fn with
    |.func f=>match first.toList with
     | []=>match Ln P f with
      |true=>some (f,cap.toList.map .val)
      |false=>none
     |_=>none
    |_=>none
   |_=>none
  |.G0 f l=>match Ln P f with
   |true=>some (f,l.map Atom.sv)
   |false=>none
  |_=>none
 |none=>none
inductive Nu where
 |no
 |val (sv:SV)
 |call (f:FuncId) (args:List SV) (g:ct)
 |jq (t:TypeId) (cs:List Value) (l:List (Nat×TypeId×Nat))
 |Hk (t:TypeId) (l:List SV) (len:Nat)
def kD(e:Operand→Option SV):Nat→List (Nat×Operand)→Option (List SV)
 |_,[]=>some []
 |k,p::r=>match WZ p.1 k with
  |true=>match e p.2 with
   |some sv=>match kD e (k+1) r with
    |some l=>some (sv::l)
    |none=>none
   |none=>none
  |false=>none
def AS:SV→Option (List Atom)
 |.val v=>some (v.cells.toList.map .v)
 |.own i=>some [.o i]
 |.ptr i off=>some [.p i off]
 |.lj i off len cut=>some [.s i off len cut]
 |.ej l=>some l
 |_=>none
theorem Dr{β:Env}{sv:SV}{l:List Atom}(h:AS sv=some l):(sv.den β).cells.toList=l.map (Atom.den β):=by
 cases sv with
 |val v=>cases h;rw[Xn];show v.cells.toList=_;exact(XV _).symm
 |own i=>cases h;rfl
 |ptr i off=>cases h;rfl
 |lj i off len cut=>cases h;rfl
 |ej l=>cases h;rfl
 |_=>cases h
theorem Fs{Q:Nat→Prop}{sv:SV}{l:List Atom}(h:AS sv=some l)(hq:sv.on Q):∀a∈l,a.on Q:=by
 cases sv with
 |val v=>cases h;intro a ha;obtain⟨_,_,rfl⟩:=W4.1 ha;trivial
 |own i=>cases h;intro a ha;rw[Xg.1 ha];exact hq
 |ptr i off=>cases h;intro a ha;rw[Xg.1 ha];exact hq
 |lj i off len cut=>cases h;intro a ha;rw[Xg.1 ha];exact hq
 |ej l=>cases h;exact hq
 |_=>cases h
def sF(e:Operand→Option SV):List (Nat×Operand)→Option (List (Nat×List Atom))
 | []=>some []
 |p::r=>match e p.2 with
  |some sv=>match AS sv with
   |some l=>match sF e r with
    |some q=>some ((p.1,l)::q)
    |none=>none
   |none=>none
  |none=>none
def yR(place:Nat→Option (Nat×Nat)):List Atom→List (Nat×List Atom)→Option (List Atom)
 |cells,[]=>some cells
 |cells,p::rest=>match place p.1 with
  |none=>none
  |some q=>match WZ p.2.length q.2&&XQ (q.1+p.2.length) cells.length with
   |true=>yR place (cells.take q.1++(p.2++cells.drop (q.1+p.2.length))) rest
   |false=>none
def placesOf(P:Program):List Field→Option (List (Nat×Nat))
 | []=>some []
 |f::r=>match P.info? f.type with
  |some i=>match placesOf P r with
   |some l=>some ((f.offset,i.size)::l)
   |none=>none
  |none=>none
theorem tD{P:Program}:∀{fs:List Field} {l:List (Nat×Nat)},placesOf P fs=some l→fs.mapM (fun f=>(P.info? f.type).map fun i=>(f.offset,i.size))=some l
 | [],l,h=>by cases h;rfl
 |f::r,l,h=>by
  unfold placesOf at h;split at h
  ·rename_i i hi
   split at h
   ·rename_i q hq
    cases h;rw[List.mapM_cons,hi,tD hq];rfl
   ·cases h
  ·cases h
theorem wJ(off:Nat):∀(l:List Value) (k:Nat) (cells:Array Value),off+k+l.length≤cells.size→
  ((l.zipIdx k).foldl (fun cs (p:Value×Nat)=>cs.setIfInBounds (off+p.2) p.1) cells).toList=cells.toList.take (off+k)++(l++cells.toList.drop (off+k+l.length))
 | [],k,cells,h=>by simp
 |v::l,k,cells,h=>by
  simp only[Xa]at h;rw[XC,XW,wJ off l (k+1) _ (by simp;omega)];have hlt:off+k < cells.toList.length:=by simp;omega
  obtain⟨m,hm⟩:∃m,m=off+k:=⟨_,rfl⟩;simp only[XX,Xa];rw[show off+(k+1)=m+1 by omega,←hm];rw[←hm]at hlt;have hl:(cells.toList.take m).length=m:=by rw[W2];omega
  have e0:cells.toList.set m v=cells.toList.take m++v::cells.toList.drop (m+1):=by rw[XO,if_pos hlt]
  have e1:(cells.toList.set m v).take (m+1)=cells.toList.take m++[v]:=by rw[e0,show cells.toList.take m++v::cells.toList.drop (m+1)=(cells.toList.take m++[v])++cells.toList.drop (m+1)by simp];exact List.take_left' (by rw[W9,hl];rfl)
  have e2:(cells.toList.set m v).drop (m+1+l.length)=cells.toList.drop (m+(l.length+1)):=by rw[e0,show cells.toList.take m++v::cells.toList.drop (m+1)=(cells.toList.take m++[v])++cells.toList.drop (m+1)by simp,List.drop_append,XE (by rw[W9,hl];simp)];rw[XF,W9,hl,Yj];congr 1;simp only[Xa,XH];omega
  rw[e1,e2];simp
theorem CM{β:Env}{place:Nat→Option (Nat×Nat)}:∀{ps:List (Nat×List Atom)} {vs:List (Nat×Value)} {cells out:List Atom},yR place cells ps=some out→vs.map (fun p=>(p.1,p.2.cells.toList))=ps.map (fun p=>(p.1,p.2.map (Atom.den β)))→
  XJ place (cells.map (Atom.den β)).toArray vs=some (out.map (Atom.den β)).toArray
 | [],[],cells,out,h,_=>by cases h;rfl
 | [],_::_,_,_,_,hv=>by cases hv
 |_::_,[],_,_,_,hv=>by cases hv
 |p::ps,q::vs,cells,out,h,hv=>by
  rw[W0,W0]at hv;injection hv with h1 h2;injection h1 with h3 h4;unfold yR at h;unfold XJ;rw[h3];split at h
  ·cases h
  ·rename_i r hr
   rw[hr];split at h
   ·rename_i hb
    rw[WS]at hb;have l1:p.2.length=r.2:=WO hb.1;have l2:r.1+p.2.length≤cells.length:=WR hb.2;have hsz:q.2.cells.size=p.2.length:=by have:=congrArg Yu h4;simpa using this
    have hz:q.2.cells.zipIdx.foldl (fun cs (p:Value×Nat)=>cs.setIfInBounds (r.1+p.2) p.1) (cells.map (Atom.den β)).toArray=((cells.take r.1++(p.2++cells.drop (r.1+p.2.length))).map (Atom.den β)).toArray:=by apply Xf.1;rw[←Yb,Array.toList_zipIdx,wJ r.1 _ 0 _ (by simp[hsz];omega),h4];simp
    show(if(decide (q.2.cells.size≠r.2)||decide (r.1+q.2.cells.size > (cells.map (Atom.den β)).toArray.size))=true then none else XJ place (q.2.cells.zipIdx.foldl (fun cs (p:Value×Nat)=>cs.setIfInBounds (r.1+p.2) p.1) (cells.map (Atom.den β)).toArray) vs)=_;rw[if_neg (by simp[hsz,l1];omega),hz];exact CM h h2
   ·cases h
theorem CN{Q:Nat→Prop}{place:Nat→Option (Nat×Nat)}:∀{ps:List (Nat×List Atom)} {cells out:List Atom},yR place cells ps=some out→(∀a∈cells,a.on Q)→(∀p∈ps,∀a∈p.2,a.on Q)→∀a∈out,a.on Q
 | [],cells,out,h,hc,_=>by cases h;exact hc
 |p::ps,cells,out,h,hc,hp=>by
  unfold yR at h;split at h
  ·cases h
  ·split at h
   ·refine CN h (fun a ha=>?_) fun q hq=>hp q (WT _ hq)
    rcases Xv.1 ha with ha|ha
    ·exact hc a (XL ha)
    ·rcases Xv.1 ha with ha|ha
     ·exact hp p (by simp) a ha
     ·exact hc a (XM ha)
   ·cases h
theorem vF{β:Env}{a:Act}{e:Operand→Option SV}:∀{l:List (Nat×Operand)} {ps:List (Nat×List Atom)},sF e l=some ps→(∀p∈l,∀sv,e p.2=some sv→a.eval p.2=sv.den β)→
  (l.map fun p=>(p.1,a.eval p.2)).map (fun p=>(p.1,p.2.cells.toList))=ps.map (fun p=>(p.1,p.2.map (Atom.den β)))
 | [],ps,h,_=>by cases h;rfl
 |p::l,ps,h,he=>by
  unfold sF at h;split at h
  ·rename_i sv hsv
   split at h
   ·rename_i as has
    split at h
    ·rename_i q hq
     cases h;have ih:=vF (β:=β) (a:=a) hq fun x hx=>he x (WT _ hx);have h1:=he p (by simp) sv hsv;simp only[W0]at ih ⊢;rw[ih,h1,Dr has]
    ·cases h
   ·cases h
  ·cases h
theorem ym{Q:Nat→Prop}{e:Operand→Option SV}:∀{l:List (Nat×Operand)} {ps:List (Nat×List Atom)},sF e l=some ps→(∀p∈l,∀sv,e p.2=some sv→sv.on Q)→∀p∈ps,∀a∈p.2,a.on Q
 | [],ps,h,_=>by cases h;intro p hp;cases hp
 |p::l,ps,h,he=>by
  unfold sF at h;split at h
  ·rename_i sv hsv
   split at h
   ·rename_i as has
    split at h
    ·rename_i q hq
     cases h;intro x hx;rcases Xh.1 hx with rfl|hx
     ·exact Fs has (he p (by simp) sv hsv)
     ·exact ym hq (fun y hy=>he y (WT _ hy)) x hx
    ·cases h
   ·cases h
  ·cases h
def rW(P:Program)(e:Operand→Option SV)(t:TypeId)(parts:List (Nat×Operand)):Option (List Atom):=match P.underlying t with
 |some (.struct fields)=>match P.info? t with
  |some it=>match it.zero with
   |some z=>match placesOf P fields.toList with
    |some places=>match sF e parts with
     |some ps=>yR (fun i=>places[i]?) (z.cells.toList.map .v) ps
     |none=>none
    |none=>none
   |none=>none
  |none=>none
 |_=>none
theorem Fp{P:Program}{β:Env}{a:Act}{e:Operand→Option SV}{t:TypeId}{parts:Array (Nat×Operand)}{l:List Atom}{W:World}(h:rW P e t parts.toList=some l)(he:∀p∈parts.toList,∀sv,e p.2=some sv→a.eval p.2=sv.den β) :
  (Instr.build t (parts.map fun p=>(p.1,a.eval p.2))).run P W=.ok (.agg (l.map (Atom.den β)).toArray) W:=by
 unfold rW at h;split at h
 ·rename_i fields hu
  split at h
  ·rename_i it hi
   split at h
   ·rename_i z hz
    split at h
    ·rename_i places hp
     split at h
     ·rename_i ps hps
      refine run_build W t _ _ ?_;unfold Program.built;rw[hi,hu];simp only[hz,tD hp];have hm:=vF (β:=β) (a:=a) hps he;have hf:=CM (β:=β) h (vs:=parts.toList.map fun p=>(p.1,a.eval p.2)) hm;have hc:(z.cells.toList.map Atom.v).map (Atom.den β)=z.cells.toList:=by rw[Xn];exact XV _
      rw[hc]at hf;rw[Xl];simpa using hf
     ·cases h
    ·cases h
   ·cases h
  ·cases h
 ·cases h
theorem Fo{P:Program}{Q:Nat→Prop}{e:Operand→Option SV}{t:TypeId}{parts:List (Nat×Operand)}{l:List Atom}(h:rW P e t parts=some l)(he:∀p∈parts,∀sv,e p.2=some sv→sv.on Q):∀a∈l,a.on Q:=by
 unfold rW at h;split at h
 ·split at h
  ·split at h
   ·split at h
    ·split at h
     ·rename_i ps hps
      refine CN h (fun a ha=>?_) (ym hps he);obtain⟨_,_,rfl⟩:=W4.1 ha;trivial
     ·cases h
    ·cases h
   ·cases h
  ·cases h
 ·cases h
def CV(P:Program)(t:TypeId)(s:SV)(v:Value):Bool:=match s with
 |.nO _ _ _ _=>match v with
  |.slice none _ _=>match P.underlying t with
   |some (.slice _)=>true
   |_=>false
  |_=>false
 |.ptr _ _=>match v with
  |.pointer none=>match P.underlying t with
   |some (.pointer _)=>true
   |_=>false
  |_=>false
 |.kI _ _ _=>match v with
  |.nilIface=>match P.underlying t with
   |some (.interface _)=>true
   |_=>false
  |_=>false
 |_=>false
theorem Mu{P:Program}{t:TypeId}{s:SV}{v:Value}{β:Env}{W:World}(h:CV P t s v=true)(d:Nat):(X1 (d+1) t (s.den β) v).run P W=.ok false W:=by
 unfold CV at h;split at h
 ·split at h
  ·split at h
   ·rename_i hu
    simp[X1,SV.den,run_underlying hu]
   ·cases h
  ·cases h
 ·split at h
  ·split at h
   ·rename_i hu
    simp[X1,SV.den,run_underlying hu]
   ·cases h
  ·cases h
 ·split at h
  ·split at h
   ·rename_i hu
    simp[X1,SV.den,run_underlying hu]
   ·cases h
  ·cases h
 ·cases h
theorem Fc{P:Program}{t:TypeId}{s:SV}{v:Value}{β:Env}(h:CV P t s v=true):(∃a n c n' c',s.den β=.slice a n c∧v=.slice none n' c')∨(∃a,s.den β=.pointer a∧v=.pointer none)∨(∃t' p,s.den β=.iface t' p∧v=.nilIface):=by
 cases s with
 |nO b off n c=>
  cases v with
  |slice a n' c'=>
   cases a with
   |none=>exact .inl ⟨_,_,_,_,_,rfl,rfl⟩
   |some _=>cases h
  |_=>cases h
 |ptr b off=>
  cases v with
  |pointer a=>
   cases a with
   |none=>exact .inr (.inl ⟨_,rfl,rfl⟩)
   |some _=>cases h
  |_=>cases h
 |kI t' b off=>
  cases v with
  |nilIface=>exact .inr (.inr ⟨_,_,rfl,rfl⟩)
  |_=>cases h
 |_=>cases h
theorem Ms{P:Program}{t:TypeId}{s:SV}{v:Value}{β:Env}{W:World}(h:CV P t s v=true)(x y:Operand) :
  (do eqGuard .eql t x y (s.den β) v;binOp .eql t (s.den β) v:Sem Value).run P W=.ok (.bool false) W∧(do eqGuard .neq t x y (s.den β) v;binOp .neq t (s.den β) v:Sem Value).run P W=.ok (.bool true) W:=by
 have he:=Mu (β:=β) (W:=W) h 9999;have hf:=Fc (β:=β) h;rcases hf with⟨_,_,_,_,_,h1,h2⟩ | ⟨_,h1,h2⟩ | ⟨_,_,h1,h2⟩
 ·subst h2
  rw[h1]at he ⊢;constructor<;>simp[eqGuard,binOp,Yr,Ye,he]
 ·subst h2
  rw[h1]at he ⊢;constructor<;>simp[eqGuard,binOp,Yr,Ye,he]
 ·subst h2
  rw[h1]at he ⊢;constructor<;>simp[eqGuard,binOp,Yr,Ye,he]
def CJ(P:Program)(H:List (Nat×Hint))(e:Operand→Option SV)(o:Oper):Nu:=match o.op with
 |.call c=>match hint H o.dst with
  |some (.ay g)=>match c.callee with
   |.value x=>match xp P e x with
    |some p=>match jX e c.args.toList with
     |some l=>.call p.1 (l++p.2) g
     |none=>.no
    |none=>.no
   |_=>.no
  |_=>.no
 |.indexAddr t x ix=>match e x with
  |some (.nO b off len _)=>match e ix with
   |some (.val (.int _ k))=>match P.underlying t with
    |some (.slice elem)=>match P.info? elem with
     |some inf=>match decide (0≤k∧k < len)with
      |true=>.val (.ptr b (off+k.toNat*inf.size))
      |false=>.no
     |none=>.no
    |_=>.no
   |_=>.no
  |_=>.no
 |.makeInterface t x=>match e x with
  |some (.ptr i off)=>match P.concrete t with
   |true=>.val (.kI t i off)
   |false=>.no
  |_=>.no
 |.extract x k=>match e x with
  |some (.nI l)=>match l[k]? with
   |some c=>.val c.sv
   |none=>.no
  |_=>.no
 |.makeFunc fn first captured=>match fn with
  |.func f=>match first.toList with
   | []=>match jX e captured.toList with
    |some l=>match gh l with
     |some as=>.val (.G0 f as)
     |none=>.no
    |none=>.no
   |_=>.no
  |_=>.no
 |.buildSlice t len parts=>match kD e 0 parts.toList with
  |some l=>match P.underlying t with
   |some (.slice el)=>match P.info? el with
    |some inf=>match inf.zero with
     |some z=>match eA SV.one l&&(WZ l.length len&&(WZ inf.size 1&&(WZ z.cells.toList.length 1&&(XQ len 16777216&&Xd 0 len))))with
      |true=>.Hk el l len
      |false=>.no
     |none=>.no
    |none=>.no
   |_=>.no
  |none=>.no
 |.alloc t=>match hint H o.dst with
  |some (.vS l)=>match P.info? t with
   |some inf=>match inf.zero with
    |some z=>.jq t z.cells.toList l
    |none=>.no
   |none=>.no
  |_=>.no
 |.box t x=>match hint H o.dst with
  |some (.vS l)=>match e x with
   |some (.val v)=>.jq t v.cells.toList l
   |_=>.no
  |_=>.no
 |.build t parts=>match eA (fun p=>isVal e p.2) parts.toList with
  |true=>.no
  |false=>match rW P e t parts.toList with
   |some l=>.val (.ej l)
   |none=>.no
 |.binOp op t x y _=>match e x with
  |some s=>match e y with
   |some (.val v)=>match CV P t s v with
    |true=>match op with
     |.eql=>.val (.val (.bool false))
     |.neq=>.val (.val (.bool true))
     |_=>.no
    |false=>.no
   |_=>.no
  |none=>.no
 |_=>.no
def Nu.Ok(P:Program)(β:Env)(W:World)(a:Act)(o:Oper):Nu→Prop
 |.no=>True
 |.val sv=>(execOp a.eval o).run P W=.ok (.value (sv.den β)) W
 |.call f args _=>(execOp a.eval o).run P W=.ok (.enter f (args.map (SV.den β)).toArray) W
 |.jq t cs _=>(execOp a.eval o).run P W=.ok (.value (.pointer (some ⟨W.heap.size,0,none⟩))) (W.alloc (.cells cs.toArray t))
 |.Hk t l len=>(execOp a.eval o).run P W=.ok (.value (.slice (some ⟨W.heap.size,0,none⟩) len len)) (W.alloc (.cells (l.map (SV.den β)).toArray t))
def Nu.On(Q:Nat→Prop):Nu→Prop
 |.val sv=>sv.on Q
 |.Hk _ l _=>∀s∈l,s.on Q
 |_=>True
section
variable{P:Program}{H:List (Nat×Hint)}{β:Env}{W:World}{a:Act}{o:Oper}{e:Operand→Option SV}
theorem IC{f:FuncId}(h:Ln P f=true)(args:Array Value):(callFunc f args).run P W=.ok (.enter f args) W:=by
 unfold Ln at h;split at h
 ·rename_i fn hf
  split at h
  ·cases h
  ·rename_i hb
   rw[X9]at hb;have hb1:¬fn.name= "runtime.NumGoroutine":=by simpa using hb.1
   have hb2:¬fn.body=none:=by intro h;rw[h]at hb;exact absurd hb.2 (by decide)
   simp[callFunc,hf,hb1,hb2]
 ·cases h
theorem Js{x:Operand}{p:FuncId×List SV}(h:xp P e x=some p)(hx:∀sv,e x=some sv→a.eval x=sv.den β):Ln P p.1=true∧∃cap:Array Value,a.eval x=.func (.func p.1) #[] cap∧cap.toList=p.2.map (SV.den β):=by
 unfold xp at h;split at h
 ·rename_i sv hsv
  have hx:=hx _ hsv;split at h
  ·rename_i v
   split at h
   ·rename_i fn first cap
    split at h
    ·rename_i f
     split at h
     ·rename_i hfirst
      split at h
      ·rename_i hf
       cases h;have:first=#[]:=by rw[←Xj (xs:=first),hfirst]
       subst this;exact⟨hf,cap,hx,by simp[SV.den,Function.comp_def]⟩
      ·cases h
     ·cases h
    ·cases h
   ·cases h
  ·rename_i f l
   split at h
   ·rename_i hf
    cases h;refine⟨hf,_,hx,?_⟩;rw[Xn];exact W3 fun a _=>Atom.sj.symm
   ·cases h
  ·cases h
 ·cases h
theorem rp{β:Env}{a:Act}{e:Operand→Option SV}:∀{l:List (Nat×Operand)} {k:Nat} {vs:List SV},kD e k l=some vs→(∀i x,(i,x)∈l→∀sv,e x=some sv→a.eval x=sv.den β)→(l.map fun p=>(p.1,a.eval p.2))=((vs.map (SV.den β)).zipIdx k).map fun x=>(x.2,x.1)
 | [],k,vs,h,_=>by
  have:vs=[]:=by simpa[kD]using h.symm
  subst this;rfl
 | (i,x)::r,k,vs,h,he=>by
  unfold kD at h;simp only at h;split at h
  ·rename_i hi
   split at h
   ·rename_i v hx
    split at h
    ·rename_i l hl
     cases h;have h1:=rp hl fun i x hm=>he i x (WT _ hm);have h2:=he i x (by simp) _ hx;rw[W0,W0,XC,W0,h1];simp only[h2,WO hi]
    ·cases h
   ·cases h
  ·cases h
theorem tE{e:Operand→Option SV}:∀{l:List (Nat×Operand)} {k:Nat} {vs:List SV},kD e k l=some vs→∀s∈vs,∃i x,(i,x)∈l∧e x=some s
 | [],k,vs,h,s,hs=>by
  have:vs=[]:=by simpa[kD]using h.symm
  subst this;cases hs
 | (i,x)::r,k,vs,h,s,hs=>by
  unfold kD at h;simp only at h;split at h
  ·split at h
   ·rename_i v hx
    split at h
    ·rename_i l hl
     cases h;rcases Xh.1 hs with rfl|hs
     ·exact⟨i,x,by simp,hx⟩
     ·obtain⟨i',x',hm,hx'⟩:=tE hl s hs
      exact⟨i',x',WT _ hm,hx'⟩
    ·cases h
   ·cases h
  ·cases h
theorem GO(he:∀x∈o.op.operands,∀sv,e x=some sv→a.eval x=sv.den β):(CJ P H e o).Ok P β W a o:=by
 unfold CJ;split
 ·rename_i c ho
  split
  ·rename_i g hg
   split
   ·rename_i x hcal
    split
    ·rename_i p hp
     split
     ·rename_i l hl
      obtain⟨callee,args,ats⟩:=c;simp only at hcal hl;subst hcal;obtain⟨hf,cap,hev,hcap⟩:=Js (a:=a) (β:=β) hp (fun sv hsv=>he x (by simp[ho,WQ,Call.operands]) sv hsv);have hm:=oY (β:=β) (a:=a) hl (fun x hx sv hsv=>he x (by have hx:x∈args:=Xs.1 hx;simp[ho,WQ,Call.operands,hx]) sv hsv);have hm2:args.map a.eval++cap=((l++p.2).map (SV.den β)).toArray:=by rw[List.map_append,←hm,←hcap,←Xl,←Array.toList_append,Xj]
      show _=_;unfold execOp;simp only[ho,resolve,hev,Deferred.ofValue,invoke,WU,W5,WV];rw[show(#[]:Array Value)++args.map a.eval=args.map a.eval from by simp];rw[hm2];exact IC hf _
     ·trivial
    ·trivial
   ·trivial
  ·trivial
 ·rename_i t x ix ho
  split
  ·rename_i b off len cap hx
   have hx:=he x (by simp[ho,WQ]) _ hx;split
   ·rename_i kk k hk
    have hk:=he ix (by simp[ho,WQ]) _ hk;split
    ·rename_i elem hu
     split
     ·rename_i inf hi
      split
      ·rename_i hb
       have hb:=of_decide_eq_true hb;show _=_;unfold execOp;simp[ho,hx,hk,SV.den,XN,run_underlying hu,asIntOf,hb,sizeOf,typeInfo,hi,Addr.add_lit]
      ·trivial
     ·trivial
    ·trivial
   ·trivial
  ·trivial
 ·rename_i t x ho
  split
  ·rename_i i off hx
   have hx:=he x (by simp[ho,WQ]) _ hx;split
   ·rename_i hc
    show _=_;unfold execOp;simp only[ho,hx,SV.den,WU,run_makeInterface W t _ hc,WV,W5]
   ·trivial
  ·trivial
 ·rename_i x k ho
  split
  ·rename_i l hx
   have hx:=he x (by simp[ho,WQ]) _ hx;split
   ·rename_i c hc
    show _=_;unfold execOp;rw[fx.sj];simp[ho,hx,show(SV.nI l).den β=.tuple (l.map (fx.den β)).toArray from rfl,Yl,hc]
   ·trivial
  ·trivial
 ·rename_i fn first captured ho
  split
  ·rename_i f
   split
   ·rename_i hfirst
    split
    ·rename_i l hl
     split
     ·rename_i as has
      have hm:=oY (β:=β) (a:=a) hl (fun x hx sv hsv=>he x (by have hx:x∈captured:=Xs.1 hx;simp[ho,WQ,hx]) sv hsv);have:first=#[]:=by rw[←Xj (xs:=first),hfirst]
      subst this;show _=_;unfold execOp;simp only[ho,Instr.makeFunc,WU,W5,WV,SV.den];rw[←nJ has,←hm,←Xl,Xj,show Array.map a.eval #[]=#[]from by simp]
     ·trivial
    ·trivial
   ·trivial
  ·trivial
 ·rename_i t len parts ho
  split
  ·rename_i l hl
   have hp:=rp hl (fun i x hm sv hsv=>he x (by simp only[ho,WQ];simp only[XD,W4];exact⟨(i,x),hm,rfl⟩) sv hsv);split
   ·rename_i el hu
    split
    ·rename_i inf hi
     split
     ·rename_i z hz
      split
      ·rename_i hh
       simp only[WS]at hh;obtain⟨h1,h2,h3,h4,h5,h6⟩:=hh;have h1:=aU h1;have h3:=WO h3;have h2:=WO h2;have h4:=WO h4;have h5:=WR h5;have h6:0 < len:=WR h6;have h1':∀v∈l.map (SV.den β),v.cells.size=inf.size:=fun v hv=>by obtain⟨s,hs,rfl⟩:=W4.1 hv;rw[(pg (h1 s hs) β).1,h3];rfl
       have hflat:(l.map (SV.den β)).flatMap (fun v=>v.cells.toList)=l.map (SV.den β):=by
        have:∀l:List SV,(∀s∈l,s.one=true)→(l.map (SV.den β)).flatMap (fun v=>v.cells.toList)=l.map (SV.den β):=by
         intro l;induction l with
         |nil=>intro _;rfl
         |cons s l ih=>intro h;rw[W0,List.flatMap_cons,(pg (h s (by simp)) β).1,ih fun s hs=>h s (WT _ hs)];rfl
        exact this l h1
       show _=_;have hfill:=Great.fill_whole (s:=inf.size) (by omega) (l.map (SV.den β)) ((Yq (len*inf.size)).map (z.cells[·%z.cells.size]!)) h1' (by simp[h2]);rw[←hp]at hfill;have hrun:=run_buildSlice (P:=P) W t el len (parts.map fun(i,x)=>(i,a.eval x)) _ inf z hu hi hz (by rw[h3];simp at h4 ⊢;omega) (by rw[h3];simp at h4 ⊢;omega) (by rw[Xl];exact hfill);unfold execOp;simp only[ho,WU,hrun,WV,W5];rw[hflat]
      ·trivial
     ·trivial
    ·trivial
   ·trivial
  ·trivial
 ·rename_i t ho
  split
  ·split
   ·rename_i inf hi
    split
    ·rename_i z hz
     show _=_;have:=Li (P:=P) (w0:=⟨W,[],fun _ _=>False⟩) (H:=[]) (β:=β) (W:=W) (a:=a) (o:=o) (e:=e) (row:=fun _=>none) (hn:=none) (ai.refl _ _) he (fun i r _ hi=>by cases hi);unfold fA at this;simp only[ho,hi,hz]at this;exact this
    ·trivial
   ·trivial
  ·trivial
 ·rename_i t x ho
  split
  ·split
   ·rename_i v hx
    have hx:=he x (by simp[ho,WQ]) _ hx;show _=_;unfold execOp;simp[ho,hx,X5,newVar,newRow,SV.den]
   ·trivial
  ·trivial
 ·rename_i t parts ho
  split
  ·trivial
  ·split
   ·rename_i l hl
    have hb:=Fp (P:=P) (β:=β) (a:=a) (W:=W) hl fun p hp sv hsv=>he p.2 (by simp only[ho,WQ];simp only[XD,W4];exact⟨p,hp,rfl⟩) sv hsv;show _=_;unfold execOp;simp only[ho,WU];rw[hb];rfl
   ·trivial
 ·rename_i op t x y yt ho
  split
  ·rename_i s hs
   split
   ·rename_i v hv
    split
    ·rename_i hq
     have hx:=he x (by simp[ho,WQ]) _ hs;have hy:a.eval y=v:=he y (by simp[ho,WQ]) _ hv;have hok:=Ms (β:=β) (W:=W) hq x y;split
     ·show _=_
      unfold execOp;simp only[ho,hx,hy,WU,W5];have:=hok.1;simp only[WU]at this;rw[this];rfl
     ·show _=_
      unfold execOp;simp only[ho,hx,hy,WU,W5];have:=hok.2;simp only[WU]at this;rw[this];rfl
     ·trivial
    ·trivial
   ·trivial
  ·trivial
 ·trivial
theorem Hg{Q:Nat→Prop}{xs:List Operand}{l:List SV}(h:jX e xs=some l)(he:∀x∈xs,∀sv,e x=some sv→sv.on Q):∀s∈l,s.on Q:=fun s hs=>by obtain⟨x,hx,hsv⟩:=my h s hs;exact he x hx s hsv
theorem GN{Q:Nat→Prop}(he:∀x∈o.op.operands,∀sv,e x=some sv→sv.on Q):(CJ P H e o).On Q:=by
 unfold CJ;split
 ·repeat' split
  all_goals trivial
 ·rename_i t x ix ho
  split
  ·rename_i b off len cap hx
   have hx:=he x (by simp[ho,WQ]) _ hx;repeat' split
   all_goals first|exact hx|trivial
  ·trivial
 ·rename_i t x ho
  split
  ·rename_i i off hx
   have hx:=he x (by simp[ho,WQ]) _ hx;split
   ·exact hx
   ·trivial
  ·trivial
 ·rename_i x k ho
  split
  ·rename_i l hx
   have hx:=he x (by simp[ho,WQ]) _ hx;split
   ·rename_i c hc
    exact fx.Bk (hx c (Xe hc))
   ·trivial
  ·trivial
 ·rename_i fn first captured ho
  split
  ·split
   ·split
    ·rename_i l hl
     split
     ·rename_i as has
      exact qi has (Hg hl fun x hx sv hsv=>he x (by have hx:x∈captured:=Xs.1 hx;simp[ho,WQ,hx]) sv hsv)
     ·trivial
    ·trivial
   ·trivial
  ·trivial
 ·rename_i t len parts ho
  split
  ·rename_i l hl
   have hl:∀s∈l,s.on Q:=fun s hs=>by obtain⟨i,x,hm,hx⟩:=tE hl s hs;refine he x ?_ s hx;simp only[ho,WQ];simp only[XD,W4];exact⟨(i,x),hm,rfl⟩
   repeat' split
   all_goals first|exact hl|trivial
  ·trivial
 ·repeat' split
  all_goals trivial
 ·repeat' split
  all_goals trivial
 ·rename_i t parts ho
  split
  ·trivial
  ·split
   ·rename_i l hl
    exact Fo hl fun p hp sv hsv=>he p.2 (by simp only[ho,WQ];simp only[XD,W4];exact⟨p,hp,rfl⟩) sv hsv
   ·trivial
 ·repeat' split
  all_goals trivial
 ·trivial
end
def b8(β:Env)(row:Nat→Option Row)(i:Nat):Option Nat:=match row i with
 |some r=>aB β i r
 |none=>none
structure eM(b:aV)(β:Env)(W:World)(row:Nat→Option Row)(gw:List Nat):Prop where
 aF:ai b.S b.w W
 held:∀i∈gw,∀r,row i=some r→aZ β W i r
 new:∀i∈gw,∀r k,row i=some r→aB β i r=some k→k∈b.S∨b.w.heap.size≤k
 inj:∀i∈gw,∀j∈gw,∀r r' k,row i=some r→row j=some r'→aB β i r=some k→aB β j r'=some k→i=j
def ct.dQ(β:Env)(row:Nat→Option Row)(g:ct):List Nat:=(g.de.map (·.1)++g.kill).filterMap (b8 β row)
structure FD(β:Env)(W:World)(row:Nat→Option Row)(m:Nat)(g:ct)(e:Ending)(w':World)(β':Env):Prop where
 same:β.same β' (· < m)
 ret:e=.returned (g.ret.den β')
 de:∀q∈g.de,aZ β' w' q.1 q.2
 new:∀(k:Nat) (r:Row),g.new[k]?=some r→aZ β' w' (m+k) r
 from_:∀(k:Nat) (r:Row) (x:Nat),g.new[k]?=some r→aB β' (m+k) r=some x→x∈g.kill.filterMap (b8 β row)∨W.heap.size≤x
 apart:∀(k k':Nat) (r r':Row) (x:Nat),g.new[k]?=some r→g.new[k']?=some r'→aB β' (m+k) r=some x→aB β' (m+k') r'=some x→k=k'
 aF:ai (g.dQ β row) W w'
def br(b:aV)(β:Env)(W:World)(row:Nat→Option Row)(m:Nat)(g:ct)(e:Ending)(w':World):Prop:=
 ((∀p,g.En=some p→p)∧∃β',FD β W row m g e w' β')∨(g.En.isSome=true∧∃chain,e=.panicked chain∧b.PP chain w'∧ai (g.dQ β row) W w')
def Ul(p:Option Prop)(K:Prop):Prop:=match p with
 |none=>K
 |some q=>q→K
theorem O1{p:Option Prop}{K:Prop}(h:Ul p K)(hp:∀q,p=some q→q):K:=by
 cases p with
 |none=>exact h
 |some q=>exact h (hp q rfl)
def QV(r:SV)(p:Option Prop)(K:Prop):Prop:=match r with
 |.gone=>match p with
  |some q=>¬q
  |none=>K
 |_=>Ul p K
theorem Md{r:SV}{p:Option Prop}{K:Prop}(h:QV r p K)(hp:∀q,p=some q→q):K:=by
 cases r with
 |gone=>
  cases p with
  |none=>exact h
  |some q=>exact absurd (hp q rfl) h
 |_=>exact O1 h hp
def B7(i:Nat):List Nat→Bool
 | []=>false
 |j::r=>match WZ j i with
  |true=>true
  |false=>B7 i r
theorem ov{i:Nat}:∀{l:List Nat},B7 i l=true↔i∈l
 | []=>by simp[B7]
 |j::r=>by
  unfold B7;split
  ·rename_i h
   rw[WO h];simp
  ·rename_i h
   have:j≠i:=fun hh=>by rw[hh,Yt]at h;cases h
   rw[ov,Xh];exact⟨.inr,fun hh=>hh.resolve_left (Ne.symm this)⟩
def yQ(i:Nat):List (Nat×Row)→Option Row
 | []=>none
 |q::r=>match WZ q.1 i with
  |true=>some q.2
  |false=>yQ i r
theorem wP{i:Nat}{r:Row}:∀{l:List (Nat×Row)},yQ i l=some r→(i,r)∈l
 |q::l,h=>by
  unfold yQ at h;split at h
  ·rename_i hb
   cases h;rw[←WO hb];simp
  ·exact WT _ (wP h)
theorem wQ{i:Nat}:∀{l:List (Nat×Row)},yQ i l=none→i∉l.map (·.1)
 | [],_=>by simp
 |q::l,h=>by
  unfold yQ at h;split at h
  ·cases h
  ·rename_i hb
   have:q.1≠i:=fun hh=>by rw[hh,Yt]at hb;cases hb
   rw[W0,Xh,not_or];exact⟨Ne.symm this,wQ h⟩
def VP(g:ct)(i:Nat)(r:Row):Row:=match B7 i g.kill with
 |true=>au
 |false=>match yQ i g.de with
  |some r'=>r'
  |none=>r
def CI(g:ct):Nat→List Row→List Row
 |_,[]=>[]
 |i,r::l=>VP g i r::CI g (i+1) l
theorem CG{g:ct}:∀{l:List Row} {k i:Nat},(CI g k l)[i]?=(l[i]?).map (VP g (k+i))
 | [],k,i=>by simp[CI]
 |r::l,k,0=>by simp[CI]
 |r::l,k,i+1=>by rw[CI,Xp,Xp,CG,show k+1+i=k+(i+1)by omega]
theorem jc{g:ct}:∀{l:List Row} {k:Nat},(CI g k l).length=l.length
 | [],_=>rfl
 |r::l,k=>by rw[CI,Xa,Xa,jc]
def AA(mem:List Row)(g:ct):List Row:=CI g 0 mem++g.new
theorem kN{mem:List Row}{g:ct}:(AA mem g).length=mem.length+g.new.length:=by rw[AA,W9,jc]
def AG(mem:List Row)(i:Nat):Bool:=match mem[i]? with
 |some r=>r.fixed
 |none=>false
def Mg(mem:List Row)(g:ct):Bool:=
 eA (fun q=>(AG mem q.1&&q.2.fixed)&&(jK (mem.length+g.new.length) q.2.cs&&B7 q.1 g.gw)) g.de&&(eA (fun i=>B7 i g.gw) g.kill&&(eA (fun r=>jK (mem.length+g.new.length) r.cs) g.new&&xF (mem.length+g.new.length) g.ret))
section
variable{P:Program}{w0:aV}{ds:List Deferred}{w w':World}{n:Nat}{β β':Env}{st:St}{a:Act}{g:ct}
theorem rQ{mem:List Row}{i:Nat}(h:AG mem i=true):∃r,mem[i]?=some r∧r.fixed=true:=by
 unfold AG at h;split at h
 ·rename_i r hr;exact⟨r,hr,h⟩
 ·cases h
theorem Hd.gw(h:Hd ds w0 n β st a w)(l:List Nat):eM w0 β w (rowAt st.mem) l:=
 ⟨h.aF,fun i _ r hr=>h.bO i r hr,fun i _ r k hr hk=>h.new i r k hr hk,fun i _ j _ r r' k hi hj hk hk'=>h.inj i j r r' k hi hj hk hk'⟩
theorem sh{row:Nat→Option Row}{k:Nat}(hk:k∈g.dQ β row):∃i r,(i∈g.de.map (·.1)∨i∈g.kill)∧row i=some r∧aB β i r=some k:=by
 unfold ct.dQ at hk;obtain⟨i,hi,hb⟩:=Yd.1 hk;unfold b8 at hb;split at hb
 ·rename_i r hr
  exact⟨i,r,Xv.1 hi,hr,hb⟩
 ·cases hb
theorem GF{row:Nat→Option Row}{k:Nat}(hk:k∈g.kill.filterMap (b8 β row)):∃i r,i∈g.kill∧row i=some r∧aB β i r=some k:=by
 obtain⟨i,hi,hb⟩:=Yd.1 hk;unfold b8 at hb;split at hb
 ·rename_i r hr
  exact⟨i,r,hi,hr,hb⟩
 ·cases hb
theorem Hd.dQ(h:Hd ds w0 n β st a w):∀k∈g.dQ β (rowAt st.mem),k∈w0.S∨w0.w.heap.size≤k:=fun k hk=>by obtain⟨i,r,_,hr,hb⟩:=sh hk;exact h.new i r k hr hb
theorem Hd.UF{e:Ending}(h:Hd ds w0 n β st a w)(hok:Mg st.mem g=true)(hr:FD β w (rowAt st.mem) st.mem.length g e w' β'):Hd ds w0 n β' ⟨st.fr,AA st.mem g⟩ a w'∧g.ret.on (· < (AA st.mem g).length):=by
 unfold Mg at hok;simp only[WS]at hok;obtain⟨hu,_,hn,hret⟩:=hok;have hu:=aU hu;have hn:=aU hn;have updOk:∀q∈g.de,(∃r,st.mem[q.1]?=some r∧r.fixed=true)∧q.2.fixed=true∧q.2.cs.on (· < (AA st.mem g).length):=fun q hq=>by have:=hu q hq;simp only[WS]at this;exact⟨rQ this.1.1,this.1.2,by rw[kN];exact iH this.2.1⟩
 have up:∀i,i < st.mem.length→i < (AA st.mem g).length:=fun i hi=>by rw[kN];omega
 have at_:∀(i:Nat) (r:Row),(AA st.mem g)[i]?=some r→(i < st.mem.length∧((∃r0,st.mem[i]?=some r0∧i∉g.kill∧((i,r)∈g.de∨(i∉g.de.map (·.1)∧r=r0)))∨r=au))∨∃k,i=st.mem.length+k∧g.new[k]?=some r:=by
  intro i r hi;unfold AA at hi;by_cases hlt:i < st.mem.length
  ·rw[WY (by rw[jc];exact hlt),CG,Xz]at hi
   obtain⟨r0,h0⟩:∃r0,st.mem[i]?=some r0:=⟨_,XY hlt⟩;rw[h0,Xo,Xc.injEq]at hi;refine .inl ⟨hlt,?_⟩;unfold VP at hi;split at hi
   ·exact .inr hi.symm
   ·rename_i hkk
    have hkk:i∉g.kill:=fun hh=>by rw[ov.2 hh]at hkk;cases hkk
    split at hi
    ·rename_i r' hr'
     subst hi;exact .inl ⟨r0,h0,hkk,.inl (wP hr')⟩
    ·rename_i hr'
     exact .inl ⟨r0,h0,hkk,.inr ⟨wQ hr',hi.symm⟩⟩
  ·rw[WW (by rw[jc];omega),jc]at hi
   exact .inr ⟨i - st.mem.length,by omega,hi⟩
 have oldBlk:∀(i:Nat) (r:Row) (k:Nat),i < st.mem.length→(∃r0,st.mem[i]?=some r0∧i∉g.kill∧((i,r)∈g.de∨(i∉g.de.map (·.1)∧r=r0)))→aB β' i r=some k→∃r0,st.mem[i]?=some r0∧i∉g.kill∧aB β i r0=some k:=by
  rintro i r k hlt ⟨r0,h0,hkk,hc⟩ hb;refine⟨r0,h0,hkk,?_⟩;rcases hc with hq|⟨_,rfl⟩
  ·obtain⟨⟨r1,h1,hf1⟩,hf,_⟩:=updOk _ hq
   simp only at h1 hf;rw[h0]at h1;cases h1;rw[aH hf]at hb;rw[aH hf1,(hr.same i hlt).1];exact hb
  ·rw[ba hr.same hlt];exact hb
 have deadBlk:∀(γ:Env) (i k:Nat),aB γ i au≠some k:=fun γ i k hh=>by cases hh
 refine⟨⟨h.size,h.dn,fun t sv ht=>?_,fun i r hi=>?_,fun i r k hi hb=>?_,fun i j r r' k hi hj hb hb'=>?_,h.aF.seq hr.aF h.dQ,fun t sv ht=>?_,fun i r hi=>?_⟩,?_⟩
 ·rw[h.get t sv ht,SV.cg hr.same (h.xC t sv ht)]
 ·rcases at_ i r hi with⟨hlt,hc|rfl⟩ | ⟨k,rfl,hk'⟩
  ·obtain⟨r0,h0,hkk,hc⟩:=hc
   rcases hc with hq|⟨hnu,rfl⟩
   ·exact hr.de _ hq
   ·refine aZ.congr hr.same hlt (h.uM i r h0) ((h.bO i r h0).aF hr.aF fun k hb hm=>?_)
    obtain⟨j,r1,hj,h1,hb1⟩:=sh hm;have:=h.inj i j r r1 k h0 h1 hb hb1;subst this;rcases hj with hj|hj
    ·exact hnu hj
    ·exact hkk hj
  ·trivial
  ·exact hr.new k r hk'
 ·rcases at_ i r hi with⟨hlt,hc|rfl⟩ | ⟨k',rfl,hk'⟩
  ·obtain⟨r0,h0,_,hb0⟩:=oldBlk i r k hlt hc hb
   exact h.new i r0 k h0 hb0
  ·exact absurd hb (deadBlk _ _ _)
  ·rcases hr.from_ k' r k hk' hb with hx|hx
   ·obtain⟨j,r1,_,h1,hb1⟩:=GF hx
    exact h.new j r1 k h1 hb1
   ·exact .inr (Ys h.aF.size hx)
 ·have mixed:∀(i k':Nat) (r r':Row),i < st.mem.length→(∃r0,st.mem[i]?=some r0∧i∉g.kill∧((i,r)∈g.de∨(i∉g.de.map (·.1)∧r=r0)))→aB β' i r=some k→g.new[k']?=some r'→aB β' (st.mem.length+k') r'=some k→False:=by
   intro i k' r r' hlt hc hb hk' hb';obtain⟨r0,h0,hkk,hb0⟩:=oldBlk i r k hlt hc hb;rcases hr.from_ k' r' k hk' hb' with hx|hx
   ·obtain⟨j,r1,hj,h1,hb1⟩:=GF hx
    have:=h.inj i j r0 r1 k h0 h1 hb0 hb1;subst this;exact hkk hj
   ·have:=(h.bO i r0 h0).lt hb0
    omega
  rcases at_ i r hi with⟨hlt,hc|rfl⟩ | ⟨k1,rfl,hk1⟩
  ·rcases at_ j r' hj with⟨hlt',hc' | rfl⟩ | ⟨k2,rfl,hk2⟩
   ·obtain⟨r0,h0,_,hb0⟩:=oldBlk i r k hlt hc hb
    obtain⟨r1,h1,_,hb1⟩:=oldBlk j r' k hlt' hc' hb';exact h.inj i j r0 r1 k h0 h1 hb0 hb1
   ·exact absurd hb' (deadBlk _ _ _)
   ·exact(mixed i k2 r r' hlt hc hb hk2 hb').elim
  ·exact absurd hb (deadBlk _ _ _)
  ·rcases at_ j r' hj with⟨hlt',hc' | rfl⟩ | ⟨k2,rfl,hk2⟩
   ·exact(mixed j k1 r' r hlt' hc' hb' hk1 hb).elim
   ·exact absurd hb' (deadBlk _ _ _)
   ·rw[hr.apart k1 k2 r r' k hk1 hk2 hb hb']
 ·exact SV.bh up (h.xC t sv ht)
 ·rcases at_ i r hi with⟨hlt,hc|rfl⟩ | ⟨k',rfl,hk'⟩
  ·obtain⟨r0,h0,_,hq|⟨_,rfl⟩⟩:=hc
   ·exact(updOk _ hq).2.2
   ·exact Cells.bh up (h.uM i r h0)
  ·trivial
  ·rw[kN];exact iH (hn r (Xe hk'))
 ·rw[kN];exact mw hret
def iP:St→Nat→List (Nat×TypeId×Nat)→Option St
 |st,_,[]=>some st
 |st,i,q::l=>match st.mem[i]? with
  |some r=>match r.cs with
   |.aj cs=>match cs[q.1]? with
    |some (.slice none 0 0)=>iP ⟨st.fr,(st.mem.set i ⟨r.ty,.dC ((cs.map .val).set q.1 (.own st.mem.length))⟩)++[⟨q.2.1,.own q.2.2 0 []⟩]⟩ i l
    |some (.pointer none)=>iP ⟨st.fr,st.mem.set i ⟨r.ty,.dC ((cs.map .val).set q.1 (.eB false i 0))⟩⟩ i l
    |_=>none
   |.dC cs=>match cs[q.1]? with
    |some (.val (.slice none 0 0))=>iP ⟨st.fr,(st.mem.set i ⟨r.ty,.dC (cs.set q.1 (.own st.mem.length))⟩)++[⟨q.2.1,.own q.2.2 0 []⟩]⟩ i l
    |some (.val (.pointer none))=>iP ⟨st.fr,st.mem.set i ⟨r.ty,.dC (cs.set q.1 (.eB false i 0))⟩⟩ i l
    |_=>none
   |_=>none
  |none=>none
theorem Bw{α:Type}{l:List α}{k:Nat}{x:α}(h:l[k]?=some x):l.set k x=l:=by obtain⟨hk,rfl⟩:=WX.1 h;exact List.set_getElem_self hk
theorem Hd.nil{i p T size:Nat}{r:Row}{cs:List SV}(h:Hd ds w0 n β st a w)(hi:st.mem[i]?=some r)(hd:r.cs.den β=cs.map (SV.den β))(hf:r.fixed=true)(hon:∀s∈cs,s.on (· < st.mem.length))(hp:cs[p]?=some (.val (.slice none 0 0))) :
  Hd ds w0 n (β.im st.mem.length none 0 0) ⟨st.fr,(st.mem.set i ⟨r.ty,.dC (cs.set p (.own st.mem.length))⟩)++[⟨T,.own size 0 []⟩]⟩ a w:=by
 have hil:i < st.mem.length:=(WX.1 hi).1;have hgrow:=h.grow (kill:=none) (A:=none) (T:=T) (size:=size) (nn:=0) (cc:=0) (xs:=[]) (S:=[]) (w':=w) ⟨by simp,.inl ⟨rfl,rfl⟩⟩ (ai.refl _ _) (by simp) (by simp);have same:β.same (β.im st.mem.length none 0 0) (· < st.mem.length):=um.mono fun i hi=>XT hi;have h0:(eK st.mem none++[(⟨T,.own size 0 []⟩:Row)])[i]?=some r:=by rw[eK,WY hil];exact hi
 have hfx:(⟨r.ty,.dC (cs.set p (.own st.mem.length))⟩:Row).fixed=true:=rfl;have hcells:(Cells.dC (cs.set p (.own st.mem.length))).den (β.im st.mem.length none 0 0)=r.cs.den β:=by rw[hd];show(cs.set p (.own st.mem.length)).map _=_;rw[Xy];have e:cs.map (SV.den (β.im st.mem.length none 0 0))=cs.map (SV.den β):=(W3 fun s hm=>SV.cg same (hon s hm)).symm;rw[e];refine Bw ?_;rw[Xi,hp];show some (Xu none 0 0)=some ((β.im st.mem.length none 0 0).sl st.mem.length);rw[mq]
 have hb:aZ (β.im st.mem.length none 0 0) w i ⟨r.ty,.dC (cs.set p (.own st.mem.length))⟩:=by refine aZ.oo ?_ hfx (fun g hg=>by cases hg);rw[hcells];have:=(h.bO i r hi).bO hf;rwa [(same i hil).1]at this
 have hst:=hgrow.store (i:=i) (r0:=r) (r:=⟨r.ty,.dC (cs.set p (.own st.mem.length))⟩) h0 (by rw[aH hfx,aH hf]) hb (ai.refl _ _) (fun s hs=>by
  rcases W8 hs with hs|rfl
  ·exact SV.bh (fun i hi=>by show i < (eK st.mem none++_).length;simp[eK];omega) (hon s hs)
  ·show st.mem.length < (eK st.mem none++_).length;simp[eK])
 have e:(eK st.mem none++[(⟨T,.own size 0 []⟩:Row)]).set i ⟨r.ty,.dC (cs.set p (.own st.mem.length))⟩=(st.mem.set i ⟨r.ty,.dC (cs.set p (.own st.mem.length))⟩)++[⟨T,.own size 0 []⟩]:=by rw[eK,List.set_append_left _ _ hil]
 simp only at hst;rw[e]at hst;exact hst
theorem Hd.RT{i p:Nat}{r:Row}{cs:List SV}(h:Hd ds w0 n β st a w)(hi:st.mem[i]?=some r)(hd:r.cs.den β=cs.map (SV.den β))(hf:r.fixed=true)(hon:∀s∈cs,s.on (· < st.mem.length))(hp:cs[p]?=some (.val (.pointer none))) :
  Hd ds w0 n β ⟨st.fr,st.mem.set i ⟨r.ty,.dC (cs.set p (.eB false i 0))⟩⟩ a w:=by
 have hil:i < st.mem.length:=(WX.1 hi).1;have hfx:(⟨r.ty,.dC (cs.set p (.eB false i 0))⟩:Row).fixed=true:=rfl;have hcells:(Cells.dC (cs.set p (.eB false i 0))).den β=r.cs.den β:=by rw[hd];show(cs.set p (.eB false i 0)).map _=_;rw[Xy];refine Bw ?_;rw[Xi,hp];rfl
 have hb:aZ β w i ⟨r.ty,.dC (cs.set p (.eB false i 0))⟩:=by refine aZ.oo ?_ hfx (fun g hg=>by cases hg);rw[hcells];exact(h.bO i r hi).bO hf
 exact h.store (i:=i) (r0:=r) (r:=⟨r.ty,.dC (cs.set p (.eB false i 0))⟩) hi (by rw[aH hfx,aH hf]) hb (ai.refl _ _) (fun s hs=>by
  rcases W8 hs with hs|rfl
  ·exact hon s hs
  ·exact hil)
theorem Hd.jq:∀{l:List (Nat×TypeId×Nat)} {st st':St} {β:Env} {i:Nat},Hd ds w0 n β st a w→iP st i l=some st'→∃β',Hd ds w0 n β' st' a w∧β.same β' (· < st.mem.length)∧st.mem.length≤st'.mem.length
 | [],st,st',β,i,h,hs=>by rw[iP]at hs;cases hs;exact⟨β,h,fun _ _=>⟨rfl,rfl,rfl,rfl⟩,Xx _⟩
 |q::l,st,st',β,i,h,hs=>by
  have go:∀(cs:List SV) (r:Row),st.mem[i]?=some r→r.cs.den β=cs.map (SV.den β)→r.fixed=true→(∀s∈cs,s.on (· < st.mem.length))→cs[q.1]?=some (.val (.slice none 0 0))→iP ⟨st.fr,(st.mem.set i ⟨r.ty,.dC (cs.set q.1 (.own st.mem.length))⟩)++[⟨q.2.1,.own q.2.2 0 []⟩]⟩ i l=some st'→∃β',Hd ds w0 n β' st' a w∧β.same β' (· < st.mem.length)∧st.mem.length≤st'.mem.length:=by intro cs r hi hd hf hon hp hs;obtain⟨β',h1,h2,h3⟩:=Hd.jq (h.nil (T:=q.2.1) (size:=q.2.2) hi hd hf hon hp) hs;simp only[W9,XG,Xa,XH]at h2 h3;refine⟨β',h1,fun i hi=>?_,by omega⟩;have s1:=(um (β:=β) (m:=st.mem.length) (A:=none) (nn:=0) (cc:=0)) i (XT hi);have s2:=h2 i (show i < _ by omega);exact⟨s1.1.trans s2.1,s1.2.1.trans s2.2.1,s1.2.2.1.trans s2.2.2.1,s1.2.2.2.trans s2.2.2.2⟩
  have goP:∀(cs:List SV) (r:Row),st.mem[i]?=some r→r.cs.den β=cs.map (SV.den β)→r.fixed=true→(∀s∈cs,s.on (· < st.mem.length))→cs[q.1]?=some (.val (.pointer none))→iP ⟨st.fr,st.mem.set i ⟨r.ty,.dC (cs.set q.1 (.eB false i 0))⟩⟩ i l=some st'→∃β',Hd ds w0 n β' st' a w∧β.same β' (· < st.mem.length)∧st.mem.length≤st'.mem.length:=by intro cs r hi hd hf hon hp hs;obtain⟨β',h1,h2,h3⟩:=Hd.jq (h.RT hi hd hf hon hp) hs;simp only[XG]at h2 h3;exact⟨β',h1,h2,h3⟩
  rw[iP]at hs;split at hs
  ·rename_i r hi
   split at hs
   ·rename_i cs hcs
    have vv:∀s∈cs.map SV.val,s.on (· < st.mem.length):=fun s hs=>by obtain⟨v,_,rfl⟩:=W4.1 hs;trivial
    split at hs
    ·rename_i hp
     exact go (cs.map .val) r hi (by rw[hcs];simp[Cells.den,SV.den,Function.comp_def]) (by unfold Row.fixed;rw[hcs]) vv (by rw[Xi,hp];rfl) hs
    ·rename_i hp
     exact goP (cs.map .val) r hi (by rw[hcs];simp[Cells.den,SV.den,Function.comp_def]) (by unfold Row.fixed;rw[hcs]) vv (by rw[Xi,hp];rfl) hs
    ·cases hs
   ·rename_i cs hcs
    have hon:=h.uM i r hi;rw[hcs]at hon;split at hs
    ·rename_i hp
     exact go cs r hi (by rw[hcs];rfl) (by unfold Row.fixed;rw[hcs]) hon hp hs
    ·rename_i hp
     exact goP cs r hi (by rw[hcs];rfl) (by unfold Row.fixed;rw[hcs]) hon hp hs
    ·cases hs
   ·cases hs
  ·cases hs
end
section
variable(P:Program)(H:List (Nat×Hint))(n:Nat)(w0:aV)
inductive cE {α:Type} (_:α):Prop
def Tag(_:Nat)(p:Prop):Prop:=p
def keyOf(o:Oper):Nat:=match o.dst with
 |some d=>d
 |none=>match o.op with
  |.store _ (.tmp x) _=>100000+x
  |_=>0
def p6(o:Oper)(ob:Option Prop)(K:Prop):Prop:=match ob with
 |none=>K
 |some p=>Tag (keyOf o) p∧K
theorem iX{o:Oper}{ob:Option Prop}{K:Prop}(h:p6 o ob K):∀p,ob=some p→p:=by intro p hp;subst hp;exact h.1
theorem kE{o:Oper}{ob:Option Prop}{K:Prop}(h:p6 o ob K):K:=by
 cases ob with
 |none=>exact h
 |some p=>exact h.2
def Kf(o:Oper)(st:St)(K:St→Prop):Prop:=
 match fA P w0 H (hint H o.dst) (ev st.fr) (rowAt st.mem) o with
 |.val sv ob=>p6 o ob (K (st.put n o.dst sv))
 |.call f args v=>Tag (keyOf o) (∀W,ai w0.S w0.w W→Calls P f args.toArray W (Rn W v))∧K (st.put n o.dst (.val v))
 |.alloc t cs ln=>K ((⟨st.fr,st.mem++[⟨t,cs⟩]⟩:St).put n o.dst (mP st.mem.length ln))
 |.store i r ob=>p6 o ob (K ((⟨st.fr,st.mem.set i r⟩:St).put n o.dst (.val undef)))
 |.ec i r ob=>p6 o ob (K ((⟨st.fr,st.mem.set i r⟩:St).put n o.dst (.val undef)))
 |.grow kill t size nn xs ob=>p6 o ob (K ((⟨st.fr,eK st.mem kill++[⟨t,.own size nn xs⟩]⟩:St).put n o.dst (.own st.mem.length)))
 |.bS f args r=>Tag (keyOf o) (∀W,ai w0.S w0.w W→ib (rowAt st.mem) W args fun vs=>Calls P f vs.toArray W (dM W r))∧K ((⟨st.fr,FI st.mem (jm r)⟩:St).put n o.dst (ij st.mem.length r))
 |.fI f i r=>Tag (keyOf o) (∀W,ai w0.S w0.w W→Fy (rowAt st.mem) W i fun s=>Calls P f #[s] W (rh W s r))∧K ((⟨st.fr,FI (eK st.mem (some i)) (jm r)⟩:St).put n o.dst (ij st.mem.length r))
 |.eS f args x=>match x with
  |.de p i row v=>Tag (keyOf o) (∀W,ai w0.S w0.w W→ib (rowAt st.mem) W args fun vs=>Calls P f vs.toArray W (qV w0 W vs (.de p i row v)))∧K ((⟨st.fr,st.mem.set i row⟩:St).put n o.dst (.val v))
  |.Gh ps=>Tag (keyOf o) (∀W,ai w0.S w0.w W→ib (rowAt st.mem) W args fun vs=>Calls P f vs.toArray W (qV w0 W vs (.Gh ps)))∧True
 |.bad=>cE o
def step(o:Oper)(st:St)(K:St→Prop):Prop:=match CJ P H (ev st.fr) o with
 |.val sv=>K (st.put n o.dst sv)
 |.call f args g=>match Mg st.mem g with
  |true=>Tag (keyOf o) (∀W β,eM w0 β W (rowAt st.mem) g.gw→Calls P f (args.map (SV.den β)).toArray W (br w0 β W (rowAt st.mem) st.mem.length g))∧QV g.ret g.En (K ((⟨st.fr,AA st.mem g⟩:St).put n o.dst g.ret))
  |false=>cE o
 |.jq t cs l=>match iP ⟨st.fr,st.mem++[⟨t,.aj cs⟩]⟩ st.mem.length l with
  |some st'=>K (st'.put n o.dst (.ptr st.mem.length 0))
  |none=>cE o
 |.Hk t l len=>K ((⟨st.fr,st.mem++[⟨t,.dC l⟩]⟩:St).put n o.dst (.nO st.mem.length 0 len len))
 |.no=>Kf P H n w0 o st K
def guardOf(ops:Array Oper)(fr:List (Nat×SV))(o:Oper):Option Bool:=
 match o.guard with
 |none=>some true
 |some (j,b)=>match ops[j]? with
  |none=>none
  |some oj=>match oj.dst with
   |none=>none
   |some t=>match look fr t with
    |some (.val v)=>match v with
     |.bool c=>some (c==b)
     |_=>some false
    |_=>none
def sU(ops:Array Oper)(fr:List (Nat×SV))(o:Oper):Option (Nat×Bool):=match o.guard with
 |none=>none
 |some q=>match ops[q.1]? with
  |none=>none
  |some oj=>match oj.dst with
   |none=>none
   |some t=>match look fr t with
    |some (.val v)=>match v with
     |.bool c=>some (t,c)
     |_=>none
    |_=>none
def St.lit(st:St)(t:Nat)(c:Bool):St:=⟨(t,.val (.bool c))::st.fr,st.mem⟩
def zo(ops:Array Oper)(o:Oper)(st:St)(K:St→Prop):Prop:=match sU ops st.fr o with
 |none=>K st
 |some q=>match q.2 with
  |true=>K (st.lit q.1 true)
  |false=>K (st.lit q.1 false)
def l9(ops:Array Oper):List Oper→St→(St→Prop)→Prop
 | [],st,K=>K st
 |o::l,st,K=>zo ops o st fun st=>match guardOf ops st.fr o with
  |some true=>step P H n w0 o st (fun st'=>l9 ops l st' K)
  |some false=>l9 ops l (st.put n o.dst (.val undef)) K
  |none=>cE o
end
section
variable{P:Program}{H:List (Nat×Hint)}{n:Nat}{w0:aV}{ds:List Deferred}{w:World}{β:Env}{st:St}{a:Act}{ops:Array Oper}{Q:Exit→Act→World→Prop}
theorem rM{o:Oper}{b:Bool}(h:Hd ds w0 n β st a w)(hg:guardOf ops st.fr o=some b):Region.wanted o (yielded ops a.tmps)=b:=by
 unfold guardOf at hg;unfold Region.wanted;split at hg
 ·rename_i hn;rw[hn];simpa using hg
 ·rename_i j b' hn
  rw[hn];split at hg
  ·cases hg
  ·rename_i oj hoj
   split at hg
   ·cases hg
   ·rename_i t ht
    split at hg
    ·rename_i v hc
     have:=h.get t _ hc;simp only[yielded,hoj,Option.bind_some,ht,this,SV.den];split at hg
     ·rename_i c
      have hb:(c==b')=b:=Xc.inj hg;rw[←hb];cases c<;>cases b'<;>rfl
     ·rename_i hnb
      have hb:false=b:=Xc.inj hg;rw[←hb];cases v<;>first|rfl|exact absurd rfl (hnb _)
    ·cases hg
theorem Ke{o:Oper}{K:St→Prop}{next:Act→World→Prop}(h:Hd ds w0 n β st a w)(hs:Kf P H n w0 o st K)(hP:∀chain a w',a.defers=ds→w0.PP chain w'→ai w0.S w0.w w'→Q (.panic chain) a w')(hK:∀β' st' a' w',K st'→Hd ds w0 n β' st' a' w'→next a' w'):o.wp P a w next Q:=by
 have ho:=Li (P:=P) (w0:=w0) (H:=H) (β:=β) (W:=w) (a:=a) (o:=o) (e:=ev st.fr) (row:=rowAt st.mem) (hn:=hint H o.dst) h.aF (fun x _ sv hx=>h.eval hx) (fun i r _ hi=>h.bO i r hi);have hon:=QM (P:=P) (w0:=w0) (H:=H) (o:=o) (e:=ev st.fr) (row:=rowAt st.mem) (hn:=hint H o.dst) (Q:=(· < st.mem.length)) (fun x _ sv hx=>h.UJ hx) (fun i r _ hi=>h.uM i r hi);unfold Kf at hs;unfold Oper.wp;cases hr:fA P w0 H (hint H o.dst) (ev st.fr) (rowAt st.mem) o with
 |val sv ob=>rw[hr]at hs ho hon;simp only at hs;rw[ho (iX hs)];exact hK _ _ _ _ (kE hs) (h.put o.dst hon)
 |call f args v=>rw[hr]at hs ho hon;simp only at hs;rw[show(execOp a.eval o).run P w=_ from ho];refine(hs.1 w h.aF).mono fun e w' ⟨he,hc⟩=>?_;subst he;exact hK _ _ _ _ hs.2 ((h.later hc).put o.dst (sv:=.val v) trivial)
 |alloc t cs ln=>obtain⟨hf,hft⟩:=tX hr;rw[hr]at hs ho hon;simp only at hs;rw[show(execOp a.eval o).run P w=_ from ho];have h2:=(h.alloc t hf hft hon).put o.dst (sv:=mP st.mem.length ln) (Gv (by simp));rw[Ca]at h2;exact hK _ _ _ _ hs h2
 |store i r ob=>obtain⟨_,hf,r0,h0,hf0,htg⟩:=nK hr;rw[hr]at hs ho hon;simp only at hs;obtain⟨w',hrun,hb,hc⟩:=ho (iX hs);rw[hrun];exact hK _ _ _ _ (kE hs) ((h.store h0 (by rw[aH hf,aH hf0]) (aZ.oo hb hf (fun g hg=>(h.bO i r0 h0).tag g (by rw[←htg];exact hg))) (by rw[aH hf0];exact hc) hon.2).put o.dst (sv:=.val undef) trivial)
 |ec i r ob=>obtain⟨_,r0,h0,hbk⟩:=mz hr;rw[hr]at hs ho hon;simp only at hs;obtain⟨w',hrun,hb,hc⟩:=ho (iX hs);rw[hrun];rw[hbk β]at hc;exact hK _ _ _ _ (kE hs) ((h.store h0 (hbk β) hb hc hon.2).put o.dst (sv:=.val undef) trivial)
 |grow kill t size nn xs ob=>
  have htc:∀i,kill=some i→∃r,st.mem[i]?=some r∧∃s m ys,r.cs=.own s m ys:=fun i hi=>by subst hi;exact(qC hr).2
  rw[hr]at hs ho;simp only at hs;obtain⟨A,cc,w',S,hrun,hown,hch,hS,hA⟩:=ho (iX hs);rw[hrun];have h2:=(h.grow (kill:=kill) hown hch (fun k hk=>by obtain⟨i,hi,hb⟩:=hS k hk;obtain⟨r,h0,s,m,ys,hcs⟩:=htc i hi;exact⟨i,r,hi,h0,by unfold aB;rw[hcs];exact hb⟩) hA).put o.dst (sv:=.own st.mem.length) (by show _ < _;cases kill<;>simp[eK]);simp only[SV.den,mq]at h2;exact hK _ _ _ _ (kE hs) h2
 |bS f args r=>
  rw[hr]at hs ho;simp only at hs;rw[show(execOp a.eval o).run P w=_ from ho];have hcall:=eV (β:=β) (hs.1 w h.aF) (fun i _ _ _ r' hr'=>h.bO i r' hr');refine hcall.mono fun e w' hp=>?_;rcases KO hp with⟨v,rfl,rfl,hc⟩ | ⟨T,size,nn,xs,A,cc,hrr,hown,hc,hA,hsv⟩
  ·exact hK _ _ _ _ hs.2 ((h.later hc).put o.dst (sv:=.val v) trivial)
  ·obtain⟨he,hon'⟩:=hsv β st.mem.length
   subst he;have hk:=hs.2;rw[hrr]at hk;exact hK _ _ _ _ hk ((h.grow (kill:=none) hown hc (by simp) (fun k hk=>.inr (hA k hk))).put o.dst (SV.bh (fun i hi=>by rw[hi];simp[eK]) hon'))
 |fI f i r=>rw[hr]at hs ho;simp only at hs;rw[show(execOp a.eval o).run P w=_ from ho];have hcall:=G7 (β:=β) (hs.1 w h.aF) (fun r' hr'=>h.bO i r' hr');obtain⟨r0,h0,s0,m0,y0,hc0⟩:=xv (hs.1 w h.aF);refine hcall.mono fun e w' hp=>?_;obtain⟨T,size,nn,xs,A,cc,hrr,hown,hc,hA,hsv⟩:=F8 hp;obtain⟨he,hon'⟩:=hsv β st.mem.length;subst he;have hk:=hs.2;rw[hrr]at hk;rw[Bu]at hc hA;exact hK _ _ _ _ hk ((h.grow (kill:=some i) hown hc (fun k hk=>⟨i,r0,rfl,h0,by unfold aB;rw[hc0];simpa using hk⟩) (fun k hk=>(hA k hk).imp (fun h=>by simpa using h) id)).put o.dst (SV.bh (fun i hi=>by rw[hi];simp[eK]) hon'))
 |eS f args x=>
  obtain⟨_,hx2,hx3⟩:=qH hr;rw[hr]at hs ho hon;simp only at hs;rw[show(execOp a.eval o).run P w=_ from ho];cases x with
  |de p i row v=>
   obtain⟨hpi,_,r0,h0,hty,hf0,hf,htg⟩:=hx2 p i row v rfl;have h0:st.mem[i]?=some r0:=h0;have hcall:=eV (β:=β) (hs.1 w h.aF) (fun i _ _ _ r' hr'=>h.bO i r' hr');refine hcall.mono fun e w' hp=>?_;obtain⟨g,l,hg,hl,rfl,hb,hc⟩:=hp;rw[Xi,hpi]at hg;have hgi:β i=g:=by simpa[SV.den]using hg
   have hden:row.cs.den β=l:=by unfold Cells.list at hl;split at hl<;>first | (cases hl;done) | (rename_i hcs;cases hl;rw[hcs];rfl)
   rw[←hgi]at hb hc;have hheld:aZ β w' i row:=aZ.oo (by rw[hden];exact hb) hf (fun g hg=>(h.bO i r0 h0).tag g (by rw[←htg];exact hg));exact hK _ _ _ _ hs.2 ((h.store h0 (by rw[aH hf,aH hf0]) hheld (by rw[aH hf0];exact hc) hon.2).put o.dst (sv:=.val v) trivial)
  |Gh ps=>
   have hcall:=eV (β:=β) (hs.1 w h.aF) (fun i _ _ _ r' hr'=>h.bO i r' hr');refine hcall.mono fun e w' hp=>?_;obtain⟨chain,T,rfl,hpp,hc,hT⟩:=hp;refine hP chain a w' h.dn hpp (h.aF.seq hc fun x hx=>?_);obtain⟨q,hq,hv⟩:=hT x hx;obtain⟨hq1,r0,hr0,hf⟩:=hx3 ps rfl q hq;rw[Xi,hq1]at hv;have hx:β q.2=x:=by simpa[SV.den]using hv
   exact h.new q.2 r0 x hr0 (by rw[aH hf,hx])
 |bad=>rw[hr]at hs;exact nomatch hs
theorem FP{o:Oper}{K:St→Prop}{next:Act→World→Prop}(h:Hd ds w0 n β st a w)(hs:step P H n w0 o st K)(hP:∀chain a w',a.defers=ds→w0.PP chain w'→ai w0.S w0.w w'→Q (.panic chain) a w')(hK:∀β' st' a' w',K st'→Hd ds w0 n β' st' a' w'→next a' w'):o.wp P a w next Q:=by
 have hg:=GO (P:=P) (H:=H) (β:=β) (W:=w) (a:=a) (o:=o) (e:=ev st.fr) (fun x _ sv hx=>h.eval hx);have hgo:=GN (P:=P) (H:=H) (o:=o) (e:=ev st.fr) (Q:=(· < st.mem.length)) (fun x _ sv hx=>h.UJ hx);unfold step at hs;split at hs
 ·rename_i sv hr
  rw[hr]at hg hgo;unfold Oper.wp;rw[show(execOp a.eval o).run P w=_ from hg];exact hK _ _ _ _ hs (h.put o.dst hgo)
 ·rename_i f args g hr
  rw[hr]at hg;split at hs
  ·rename_i hok
   unfold Oper.wp;rw[show(execOp a.eval o).run P w=_ from hg];refine(hs.1 w β (h.gw g.gw)).mono fun e w' hp=>?_;rcases hp with⟨hphi,β',hret⟩ | ⟨_,chain,rfl,hpp,hc⟩
   ·obtain⟨h2,hon⟩:=h.UF hok hret
    rw[hret.ret];exact hK _ _ _ _ (Md hs.2 hphi) (h2.put o.dst hon)
   ·exact hP chain a w' h.dn hpp (h.aF.seq hc h.dQ)
  ·exact nomatch hs
 ·rename_i t cs l hr
  rw[hr]at hg;split at hs
  ·rename_i st' hst
   unfold Oper.wp;rw[show(execOp a.eval o).run P w=_ from hg];have ha:=h.alloc t (cs:=.aj cs) rfl rfl trivial;obtain⟨β',h1,h2,h3⟩:=Hd.jq ha hst;have h4:=h1.put o.dst (sv:=.ptr st.mem.length 0) (show st.mem.length < st'.mem.length by simp at h3;omega);have h5:=(h2 st.mem.length (by simp)).1;rw[show(SV.ptr st.mem.length 0).den β'=.pointer (some ⟨w.heap.size,0,none⟩)by show Value.pointer (some ⟨β' st.mem.length,0,none⟩)=_;rw[←h5,jU]]at h4;exact hK _ _ _ _ hs h4
  ·exact nomatch hs
 ·rename_i t l len hr
  rw[hr]at hg hgo;unfold Oper.wp;rw[show(execOp a.eval o).run P w=_ from hg];have ha:=h.alloc t (cs:=.dC l) rfl rfl hgo;have h4:=ha.put o.dst (sv:=.nO st.mem.length 0 len len) (show st.mem.length < (st.mem++[_]).length by simp);rw[show(SV.nO st.mem.length 0 len len).den (β.de st.mem.length w.heap.size)=.slice (some ⟨w.heap.size,0,none⟩) len len by show Xu (some ⟨(β.de st.mem.length w.heap.size) st.mem.length,0,none⟩) _ _=_;rw[jU]]at h4;exact hK _ _ _ _ hs h4
 ·exact Ke h hs hP hK
theorem Hd.lit{t:Nat}{c:Bool}(h:Hd ds w0 n β st a w)(ht:look st.fr t=some (.val (.bool c))):Hd ds w0 n β (st.lit t c) a w:=by
 have key:∀u sv,look (st.lit t c).fr u=some sv→(u=t∧sv=.val (.bool c))∨look st.fr u=some sv:=fun u sv hu=>by
  have e:look (st.lit t c).fr u=if t=u then(SV.val (.bool c)).known else look st.fr u:=fD
  rw[e]at hu;by_cases htu:t=u
  ·rw[if_pos htu]at hu
   exact .inl ⟨htu.symm,(Xc.inj hu).symm⟩
  ·rw[if_neg htu]at hu
   exact .inr hu
 refine⟨h.size,h.dn,fun u sv hu=>?_,h.bO,h.new,h.inj,h.aF,fun u sv hu=>?_,h.uM⟩
 ·rcases key u sv hu with⟨rfl,rfl⟩ | hu
  ·exact h.get _ _ ht
  ·exact h.get u sv hu
 ·rcases key u sv hu with⟨rfl,rfl⟩ | hu
  ·trivial
  ·exact h.xC u sv hu
theorem wB{ops:Array Oper}{fr:List (Nat×SV)}{o:Oper}{q:Nat×Bool}(h:sU ops fr o=some q):look fr q.1=some (.val (.bool q.2)):=by
 unfold sU at h;split at h
 ·cases h
 ·split at h
  ·cases h
  ·split at h
   ·cases h
   ·split at h
    ·rename_i hl
     split at h
     ·injection h with h
      rw[←h];exact hl
     ·cases h
    ·cases h
theorem ya{o:Oper}{K:St→Prop}(h:Hd ds w0 n β st a w)(hx:zo ops o st K):∃st',K st'∧Hd ds w0 n β st' a w:=by
 unfold zo at hx;split at hx
 ·exact⟨st,hx,h⟩
 ·rename_i q hq
  have hl:=wB hq;split at hx
  ·rename_i hb
   rw[hb]at hl;exact⟨_,hx,h.lit hl⟩
  ·rename_i hb
   rw[hb]at hl;exact⟨_,hx,h.lit hl⟩
theorem pC(r:List Oper)(hP:∀chain a w',a.defers=ds→w0.PP chain w'→ai w0.S w0.w w'→Q (.panic chain) a w'):∀(l:List Oper) (st:St) (K:St→Prop) (β:Env) (a:Act) (w:World),Hd ds w0 n β st a w→l9 P H n w0 ops l st K→(∀β' st' a' w',K st'→Hd ds w0 n β' st' a' w'→wpList P ops Q r a' w')→wpList P ops Q (l++r) a w
 | [],_,_,_,_,_,h,hx,hK=>hK _ _ _ _ hx h
 |o::l,st,K,β,a,w,h,hx,hK=>by
  unfold l9 at hx;rw[Yg];unfold wpList;obtain⟨st,hx,h⟩:=ya h hx;split at hx
  ·rename_i hg
   rw[rM h hg,if_pos rfl];exact .inl (FP h hx hP fun β' st' a' w' hk h'=>pC r hP l st' K β' a' w' h' hk hK)
  ·rename_i hg
   rw[rM h hg,if_neg (by decide)];exact pC r hP l _ K β _ w (h.put o.dst (sv:=.val undef) trivial) hx hK
  ·exact nomatch hx
theorem wX(hP:∀chain a w',a.defers=ds→w0.PP chain w'→ai w0.S w0.w w'→Q (.panic chain) a w')(l:List Oper)(st:St)(K:St→Prop)(β:Env)(a:Act)(w:World)(h:Hd ds w0 n β st a w)(hx:l9 P H n w0 ops l st K)(hK:∀β' st' a' w',K st'→Hd ds w0 n β' st' a' w'→Q .normal a' w'):wpList P ops Q l a w:=by have:=pC (ops:=ops) (Q:=Q) [] hP l st K β a w h hx hK;rwa [Xw]at this
end
end Sx
end Go.Proofs.YtnncigmpcdehnaaGreatDoor
