import Derived.Test.YtnncigmpcdehnaaGreatDoorQh01
import Derived.Scope
import Derived.Great.BuildSlice
import Derived.Laws.Tables
import Derived.Laws.BytesString
open True renaming intro→Xy
open Nat renaming eq_of_beq_eq_true→Xz,le_of_ble_eq_true→XB,beq→XJ,blt→XX,mul_le_mul_right→Yd,le_refl→Yh,zero_add→Yj,eq_zero_or_pos→Yk,ble→Yz,sub_self→YB,ne_of_lt→YC,add_assoc→YL,zero_mul→YQ,add_zero→YR,add_mul→YV,min_eq_left→Y0,lt_irrefl→Y7,le_trans→Zb,beq_refl→Zc,mul_pos→Zg
open Go.Op renaming operands→XA,equalIn→YK,maxDepth→YX,equal→Za
open Bool renaming and_eq_true→XC,or_eq_false_iff→YS
open List renaming mem_cons_of_mem→XD,getElem?_append_right→XG,getElem?_eq_some_iff→XH,getElem?_append_left→XI,map_cons→XL,length_take→XM,map_congr_left→XN,mem_map→XO,getElem?_take→XQ,getElem?_drop→XR,mem_or_eq_of_mem_set→XS,length_append→XT,length_cons→XU,eq_nil_of_length_eq_zero→XV,mem_of_getElem?→XY,mem_singleton→X0,mem_cons→X1,getElem?_map→X2,length_drop→X6,map_map→X7,getElem?_cons_succ→X9,mem_append→Yf,append_nil→Yg,map_set→Yi,getElem?_set→Yl,zipIdx_cons→Ym,mem_toArray→Yn,drop_of_length_le→Yo,nil_append→Yp,length_set→Yq,length_nil→Yr,length_map→Ys,mem_of_mem_take→Yu,mem_of_mem_drop→Yv,set_eq_take_append_cons_drop→Yx,take_succ_eq_append_getElem→Yy,mem_flatMap→YD,map_id→YE,foldl_cons→YF,getElem?_eq_getElem→YH,take_of_length_le→YM,getElem_set_self→YP,take_set_of_le→YT,mem_filterMap→YW,map_toArray→YY,cons_append→YZ,take_zero→Y1,drop_drop→Y2,map_take→Y5,map_drop→Y6,map_nil→Y8,length→Zd
open Go.Sem renaming run_bind→XE,run_pure→XP,run→Zf
open Go.Result renaming andThen_ok→XF
open Option renaming some→XW,map_some→X8
open Array renaming toList_inj→XZ,toArray_toList→X3,toList_map→X5,mem_toList_iff→Yc,toList_setIfInBounds→YG,foldl_toList→YU,range→Y9
open Go.Instr renaming sureAddr→X4,sliceBounds→Ya,fill→Yt,indexAt→Yw,sliceBound→YA,storeAt→YI,fieldAt→YJ,loadAt→YN,box→YO,sliceAt→Y3,extract→Y4
open Go.Value renaming ownBlock→Yb,slice→Ye,int→Ze
namespace Go.Proofs.YtnncigmpcdehnaaGreatDoor
open Go Go.RowKit Go.Lib Go.Sort
namespace Sx
structure bu where
 w:World
 S:List Nat
 PP:List PanicEntry→World→Prop
structure Env where
 b:Nat→Nat
 a:Nat→Option Addr
 n:Nat→Nat
 c:Nat→Nat
def Env.sl(β:Env)(i:Nat):Value:=.slice (β.a i) (β.n i) (β.c i)
instance:CoeFun Env fun _=>Nat→Nat:=⟨Env.b⟩
inductive Atom where
 |v (x:Value)
 |o (i:Nat)
 |p (i off:Nat)
 |s (i off len cut:Nat)
def Atom.den(β:Env):Atom→Value
 |.v x=>x
 |.o i=>β.sl i
 |.p i off=>.pointer (some ⟨β i,off,none⟩)
 |.s i off len cut=>.slice (if β.c i=cut then β.a i else(β.a i).map (·.add off)) len (β.c i - cut)
def Atom.on(Q:Nat→Prop):Atom→Prop
 |.v _=>True
 |.o i=>Q i
 |.p i _=>Q i
 |.s i _ _ _=>Q i
inductive fX where
 |a (x:Atom)
 |row (l:List Atom)
 |ml (t:TypeId) (i off:Nat)
def fX.den(β:Env):fX→Value
 |.a x=>x.den β
 |.row l=>.agg (l.map (Atom.den β)).toArray
 |.ml t i off=>.iface t (.pointer (some ⟨β i,off,none⟩))
def fX.on(Q:Nat→Prop):fX→Prop
 |.a x=>x.on Q
 |.row l=>∀a∈l,a.on Q
 |.ml _ i _=>Q i
theorem Atom.bD{Q Q':Nat→Prop}(h:∀i,Q i→Q' i){s:Atom}(hs:s.on Q):s.on Q':=by cases s<;>first|trivial|exact h _ hs
theorem fX.bD{Q Q':Nat→Prop}(h:∀i,Q i→Q' i){s:fX}(hs:s.on Q):s.on Q':=by
 cases s with
 |a x=>exact Atom.bD h hs
 |row l=>exact fun a ha=>Atom.bD h (hs a ha)
 |ml t i off=>exact h _ hs
inductive SV where
 |val (v:Value)
 |ptr (i off:Nat)
 |oI (i off len cap:Nat)
 |own (i:Nat)
 |nK (i off:Nat)
 |oo (pre:List Value) (i:Nat) (post:List Value)
 |mf (i off len cut:Nat)
 |gone
 |dX (l:List Atom)
 |Ik (f:FuncId) (l:List Atom)
 |ml (t:TypeId) (i off:Nat)
 |nz (l:List fX)
 |eU (b:Bool) (i off:Nat)
def SV.den(β:Env):SV→Value
 |.val v=>v
 |.ptr i o=>.pointer (some ⟨β i,o,none⟩)
 |.oI i o n c=>.slice (some ⟨β i,o,none⟩) n c
 |.own i=>β.sl i
 |.nK i o=>.pointer ((β.a i).map (·.add o))
 |.oo l i r=>.tuple (l++(β.sl i::r)).toArray
 |.mf i off len cut=>.slice (if β.c i=cut then β.a i else(β.a i).map (·.add off)) len (β.c i - cut)
 |.gone=>undef
 |.dX l=>.agg (l.map (Atom.den β)).toArray
 |.Ik f l=>.func (.func f) #[] (l.map (Atom.den β)).toArray
 |.ml t i off=>.iface t (.pointer (some ⟨β i,off,none⟩))
 |.nz l=>.tuple (l.map (fX.den β)).toArray
 |.eU b i off=>.pointer (match b with|true=>some ⟨β i,off,none⟩ | false=>none)
def SV.on(Q:Nat→Prop):SV→Prop
 |.val _=>True
 |.ptr i _=>Q i
 |.oI i _ _ _=>Q i
 |.own i=>Q i
 |.nK i _=>Q i
 |.oo _ i _=>Q i
 |.mf i _ _ _=>Q i
 |.gone=>True
 |.dX l=>∀a∈l,a.on Q
 |.Ik _ l=>∀a∈l,a.on Q
 |.ml _ i _=>Q i
 |.nz l=>∀a∈l,a.on Q
 |.eU _ i _=>Q i
inductive Cells where
 |an (cs:List Value)
 |dK (cs:List SV)
 |own (size n:Nat) (xs:List Value)
 |dead
 |dG (g:Nat) (cs:List Value)
 |j5 (g:Nat) (cs:List SV)
def Cells.den(β:Env):Cells→List Value
 |.an cs=>cs
 |.dK cs=>cs.map (SV.den β)
 |.own _ _ _=>[]
 |.dead=>[]
 |.dG _ cs=>cs
 |.j5 _ cs=>cs.map (SV.den β)
def Cells.len:Cells→Nat
 |.an cs=>cs.length
 |.dK cs=>cs.length
 |.own _ _ _=>0
 |.dead=>0
 |.dG _ cs=>cs.length
 |.j5 _ cs=>cs.length
def Cells.tag:Cells→Option Nat
 |.dG g _=>some g
 |.j5 g _=>some g
 |_=>none
def Cells.on(Q:Nat→Prop):Cells→Prop
 |.an _=>True
 |.dK cs=>∀s∈cs,s.on Q
 |.own _ _ _=>True
 |.dead=>True
 |.dG _ _=>True
 |.j5 _ cs=>∀s∈cs,s.on Q
structure Row where
 ty:TypeId
 cs:Cells
structure St where
 fr:List (Nat×SV)
 mem:List Row
def SV.known:SV→Option SV
 |.gone=>none
 |v=>some v
theorem cE{v u:SV}(h:v.known=some u):u=v:=by cases v<;>first | (cases h;done)|exact(XW.inj h).symm
def SV.one:SV→Bool
 |.ptr _ _=>true
 |.oI _ _ _ _=>true
 |.own _=>true
 |.nK _ _=>true
 |.mf _ _ _ _=>true
 |.Ik _ _=>true
 |.ml _ _ _=>true
 |.eU _ _ _=>true
 |_=>false
theorem qi{s:SV}(h:s.one=true)(β:Env):(s.den β).cells=#[s.den β]∧(s.den β).oneCell'=true:=by
 cases s with
 |ptr _ _=>exact⟨rfl,rfl⟩
 |oI _ _ _ _=>exact⟨rfl,rfl⟩
 |own _=>exact⟨rfl,rfl⟩
 |nK _ _=>exact⟨rfl,rfl⟩
 |mf _ _ _ _=>exact⟨rfl,rfl⟩
 |val _=>cases h
 |oo _ _ _=>cases h
 |gone=>cases h
 |dX _=>cases h
 |Ik _ _=>exact⟨rfl,rfl⟩
 |ml _ _ _=>exact⟨rfl,rfl⟩
 |nz _=>cases h
 |eU _ _ _=>exact⟨rfl,rfl⟩
def look:List (Nat×SV)→Nat→Option SV
 | [],_=>none
 | (k,v)::r,t=>match XJ k t with
  |true=>v.known
  |false=>look r t
def ev(fr:List (Nat×SV)):Operand→Option SV
 |.tmp t=>look fr t
 |.const v=>some (.val v)
 |.global g=>some (.val (.pointer (some ⟨g,0,none⟩)))
 |.func f=>some (.val (.func (.func f) #[] #[]))
def St.put(n:Nat)(st:St)(dst:Option Tmp)(sv:SV):St:=
 match dst with
 |none=>st
 |some d=>match XX d n with
  |true=>⟨(d,sv)::st.fr,st.mem⟩
  |false=>st
theorem SV.bD{Q Q':Nat→Prop}(h:∀i,Q i→Q' i){s:SV}(hs:s.on Q):s.on Q':=by cases s<;>first|trivial|exact h _ hs|exact fun a ha=>Atom.bD h (hs a ha)|exact fun a ha=>fX.bD h (hs a ha)
theorem Cells.bD{Q Q':Nat→Prop}(h:∀i,Q i→Q' i):∀{c:Cells},c.on Q→c.on Q'
 |.an _,_=>trivial
 |.dK _,hs=>fun s hm=>SV.bD h (hs s hm)
 |.own _ _ _,_=>trivial
 |.dead,_=>trivial
 |.dG _ _,_=>trivial
 |.j5 _ _,hs=>fun s hm=>SV.bD h (hs s hm)
def Env.same(β β':Env)(Q:Nat→Prop):Prop:=∀i,Q i→β i=β' i∧β.a i=β'.a i∧β.n i=β'.n i∧β.c i=β'.c i
theorem Atom.cI{β β':Env}{Q:Nat→Prop}(h:β.same β' Q){s:Atom}(hs:s.on Q):s.den β=s.den β':=by cases s<;>simp only[Atom.den,Env.sl]<;>first|rfl | (obtain⟨h1,h2,h3,h4⟩:=h _ hs;simp only[h1,h2,h3,h4])
theorem Atom.map_congr{β β':Env}{Q:Nat→Prop}(h:β.same β' Q){l:List Atom}(hs:∀a∈l,a.on Q):l.map (Atom.den β)=l.map (Atom.den β'):=XN fun a ha=>Atom.cI h (hs a ha)
theorem fX.cI{β β':Env}{Q:Nat→Prop}(h:β.same β' Q){s:fX}(hs:s.on Q):s.den β=s.den β':=by
 cases s with
 |a x=>exact Atom.cI h hs
 |row l=>simp only[fX.den,Atom.map_congr h hs]
 |ml t i off=>simp only[fX.den];obtain⟨h1,_⟩:=h i hs;simp only[h1]
theorem SV.cI{β β':Env}{Q:Nat→Prop}(h:β.same β' Q){s:SV}(hs:s.on Q):s.den β=s.den β':=by
 cases s with
 |dX l=>simp only[SV.den,Atom.map_congr h hs]
 |Ik f l=>simp only[SV.den,Atom.map_congr h hs]
 |nz l=>have:l.map (fX.den β)=l.map (fX.den β'):=XN fun a ha=>fX.cI h (hs a ha);simp only[SV.den,this]
 |val v=>rfl
 |gone=>rfl
 |_=>simp only[SV.den,Env.sl];obtain⟨h1,h2,h3,h4⟩:=h _ hs;simp only[h1,h2,h3,h4]
theorem Cells.cI{β β':Env}{Q:Nat→Prop}(h:β.same β' Q):∀{c:Cells},c.on Q→c.den β=c.den β'
 |.an _,_=>rfl
 |.dK _,hs=>XN fun s hm=>SV.cI h (hs s hm)
 |.own _ _ _,_=>rfl
 |.dead,_=>rfl
 |.dG _ _,_=>rfl
 |.j5 _ _,hs=>XN fun s hm=>SV.cI h (hs s hm)
theorem Cells.jm(β:Env):∀c:Cells,(c.den β).length=c.len
 |.an _=>rfl
 |.dK cs=>by simp[Cells.den,Cells.len]
 |.own _ _ _=>rfl
 |.dead=>rfl
 |.dG _ _=>rfl
 |.j5 _ cs=>by simp[Cells.den,Cells.len]
def br(β:Env)(w:World)(i:Nat)(r:Row):Prop:=match r.cs with
 |.own size n xs=>β.n i=n∧Own w r.ty size (.slice (β.a i) n (β.c i)) n xs
 |.an cs=>aw w (β i) r.ty cs
 |.dK cs=>aw w (β i) r.ty (cs.map (SV.den β))
 |.dead=>True
 |.dG g cs=>β i=g∧aw w (β i) r.ty cs
 |.j5 g cs=>β i=g∧aw w (β i) r.ty (cs.map (SV.den β))
def az(β:Env)(i:Nat)(r:Row):Option Nat:=match r.cs with
 |.own _ _ _=>(β.a i).map (·.block)
 |.an _=>some (β i)
 |.dK _=>some (β i)
 |.dead=>none
 |.dG _ _=>some (β i)
 |.j5 _ _=>some (β i)
theorem qh{β:Env}{i n:Nat}:(Ye (β.a i) n (β.c i)).ownBlock=(β.a i).map (·.block):=by cases h:β.a i<;>simp[Yb]
theorem br.lt{β:Env}{w:World}{i k:Nat}{r:Row}(h:br β w i r)(hk:az β i r=some k):k < w.heap.size:=by
 unfold br at h;unfold az at hk;split at h
 ·rename_i size n xs hc
  rw[hc]at hk;exact Own.lt h.2 k (by rw[qh];exact hk)
 ·rename_i cs hc
  rw[hc]at hk;cases hk;exact h.lt
 ·rename_i cs hc
  rw[hc]at hk;cases hk;exact h.lt
 ·rename_i hc
  rw[hc]at hk;cases hk
 ·rename_i hc
  rw[hc]at hk;cases hk;exact h.2.lt
 ·rename_i hc
  rw[hc]at hk;cases hk;exact h.2.lt
theorem br.aJ{β:Env}{S:List Nat}{w w':World}{i:Nat}{r:Row}(h:br β w i r)(hc:ai S w w')(hS:∀k,az β i r=some k→k∉S):br β w' i r:=by
 unfold br at h ⊢;unfold az at hS;split at h
 ·rename_i size n xs hcs
  rw[hcs]at hS;exact⟨h.1,Own.aJ h.2 hc (by rw[qh];exact hS)⟩
 ·rename_i cs hcs
  rw[hcs]at hS;exact aw.aJ h hc (hS _ rfl)
 ·rename_i cs hcs
  rw[hcs]at hS;exact aw.aJ h hc (hS _ rfl)
 ·trivial
 ·rename_i hcs
  rw[hcs]at hS;exact⟨h.1,aw.aJ h.2 hc (hS _ rfl)⟩
 ·rename_i hcs
  rw[hcs]at hS;exact⟨h.1,aw.aJ h.2 hc (hS _ rfl)⟩
theorem br.congr{β β':Env}{w:World}{i:Nat}{r:Row}{Q:Nat→Prop}(hb:β.same β' Q)(hi:Q i)(hr:r.cs.on Q)(h:br β w i r):br β' w i r:=by
 obtain⟨h1,h2,h3,h4⟩:=hb i hi;obtain⟨T,cs⟩:=r;cases cs with
 |own size n xs=>show β'.n i=n∧Own w T size (.slice (β'.a i) n (β'.c i)) n xs;rw[←h2,←h3,←h4];exact h
 |an cs=>show aw w (β' i) T cs;rw[←h1];exact h
 |dead=>trivial
 |dG g cs=>show β' i=g∧aw w (β' i) T cs;rw[←h1];exact h
 |dK cs=>show aw w (β' i) T (cs.map (SV.den β'));rw[←h1,show cs.map (SV.den β')=cs.map (SV.den β)from(XN fun s hm=>SV.cI hb (hr s hm)).symm];exact h
 |j5 g cs=>show β' i=g∧aw w (β' i) T (cs.map (SV.den β'));rw[←h1,show cs.map (SV.den β')=cs.map (SV.den β)from(XN fun s hm=>SV.cI hb (hr s hm)).symm];exact h
theorem bC{β β':Env}{i:Nat}{r:Row}{Q:Nat→Prop}(hb:β.same β' Q)(hi:Q i):az β i r=az β' i r:=by
 obtain⟨h1,h2,_⟩:=hb i hi;obtain⟨T,cs⟩:=r;cases cs with
 |own size n xs=>show(β.a i).map _=(β'.a i).map _;rw[h2]
 |an cs=>show some (β i)=some (β' i);rw[h1]
 |dead=>rfl
 |dG g cs=>show some (β i)=some (β' i);rw[h1]
 |j5 g cs=>show some (β i)=some (β' i);rw[h1]
 |dK cs=>show some (β i)=some (β' i);rw[h1]
def Row.fixed(r:Row):Bool:=match r.cs with
 |.own _ _ _=>false
 |.dead=>false
 |_=>true
theorem br.cw{β:Env}{w:World}{i:Nat}{r:Row}(h:br β w i r)(hf:r.fixed=true):aw w (β i) r.ty (r.cs.den β):=by
 unfold br at h;unfold Row.fixed at hf;split at h
 ·rename_i hc;rw[hc]at hf;cases hf
 ·rename_i hc;rw[hc];exact h
 ·rename_i hc;rw[hc];exact h
 ·rename_i hc;rw[hc]at hf;cases hf
 ·rename_i hc;rw[hc];exact h.2
 ·rename_i hc;rw[hc];exact h.2
theorem br.tag{β:Env}{w:World}{i:Nat}{r:Row}(h:br β w i r):∀g,r.cs.tag=some g→β i=g:=by
 intro g hg;unfold br at h;split at h
 ·rename_i hc;rw[hc]at hg;cases hg
 ·rename_i hc;rw[hc]at hg;cases hg
 ·rename_i hc;rw[hc]at hg;cases hg
 ·rename_i hc;rw[hc]at hg;cases hg
 ·rename_i hc;rw[hc]at hg;cases hg;exact h.1
 ·rename_i hc;rw[hc]at hg;cases hg;exact h.1
theorem br.pb{β:Env}{w:World}{i:Nat}{r:Row}(h:aw w (β i) r.ty (r.cs.den β))(hf:r.fixed=true)(ht:∀g,r.cs.tag=some g→β i=g):br β w i r:=by
 unfold br;unfold Row.fixed at hf;split
 ·rename_i hc;rw[hc]at hf;cases hf
 ·rename_i hc;rw[hc]at h;exact h
 ·rename_i hc;rw[hc]at h;exact h
 ·trivial
 ·rename_i hc;rw[hc]at h ht;exact⟨ht _ rfl,h⟩
 ·rename_i hc;rw[hc]at h ht;exact⟨ht _ rfl,h⟩
theorem aM{β:Env}{i:Nat}{r:Row}(hf:r.fixed=true):az β i r=some (β i):=by
 unfold az;unfold Row.fixed at hf;split
 ·rename_i hc;rw[hc]at hf;cases hf
 ·rfl
 ·rfl
 ·rename_i hc;rw[hc]at hf;cases hf
 ·rfl
 ·rfl
def js{α:Type}(P:Program):Sem α→Option α
 |.pure a=>some a
 |.program k=>js P (k P)
 |.mark _ k=>js P k
 |_=>none
theorem rh{α:Type}{P:Program}{s:Sem α}:∀{x:α},js P s=some x→∀w,s.run P w=.ok x w:=by
 induction s with
 |pure a=>intro x h w;simp only[js,XW.injEq]at h;subst h;rfl
 |program k ih=>intro x h w;simp only[js]at h;simp only[Zf];exact ih P h w
 |mark m k ih=>intro x h w;simp only[js]at h;simp only[Zf];exact ih h w
 |_=>intro x h;simp[js]at h
inductive gV where
 |val (v:Value)
 |sl (T:TypeId) (size n:Nat) (xs:List Value)
 |oo (pre:List Value) (T:TypeId) (size n:Nat) (xs:List Value) (post:List Value)
def eh(W:World)(r:gV)(e:Ending)(w':World):Prop:=match r with
 |.val v=>e=.returned v∧ai [] W w'
 |.sl T size n xs=>∃s,e=.returned s∧Acc W w' T size s n xs
 |.oo pre T size n xs post=>∃s,e=.returned (.tuple (pre++s::post).toArray)∧Acc W w' T size s n xs
def ss(W:World)(s0:Value)(r:gV)(e:Ending)(w':World):Prop:=match r with
 |.val _=>False
 |.sl T size n xs=>∃s,e=.returned s∧Own w' T size s n xs∧ai s0.ownBlock.toList W w'∧∀k,s.ownBlock=some k→s0.ownBlock=some k∨W.heap.size≤k
 |.oo pre T size n xs post=>∃s,e=.returned (.tuple (pre++s::post).toArray)∧Own w' T size s n xs∧ai s0.ownBlock.toList W w'∧∀k,s.ownBlock=some k→s0.ownBlock=some k∨W.heap.size≤k
structure cS where
 iT:List Nat
 dW:List (Nat×Row)
 kill:List Nat
 new:List Row
 ret:SV
 phi:Option Prop
inductive Hint where
 |is (v:Value)
 |any (v:Value)
 |bin (v:Value)
 |call (v:Value)
 |ld (v:Value)
 |st (cs:List Value)
 |ix
 |jG (t:TypeId) (size:Nat)
 |app (m:Nat) (news:List Value)
 |Xm (lo hi:Nat)
 |ct (r:gV)
 |gi (r:gV)
 |aX (p:Nat) (cs:List Value) (v:Value)
 |sY
 |aB (g:cS)
 |tL (l:List (Nat×TypeId×Nat))
 |join (fr:List (Nat×SV)) (mem:List Row)
 |TK (l:List (Nat×List (Nat×SV)×List Row))
def hint:List (Nat×Hint)→Option Tmp→Option Hint
 |_,none=>none
 | [],_=>none
 | (k,v)::r,some t=>match XJ k t with
  |true=>some v
  |false=>hint r (some t)
inductive XK where
 |dW (p i:Nat) (row:Row) (v:Value)
 |G9 (ps:List (Nat×Nat))
inductive rZ where
 |val (sv:SV) (ob:Option Prop)
 |call (f:FuncId) (args:List Value) (v:Value)
 |alloc (t:TypeId) (cs:Cells) (ln:Option Nat)
 |store (i:Nat) (row:Row) (ob:Option Prop)
 |grow (kill:Option Nat) (t:TypeId) (size n:Nat) (xs:List Value) (ob:Option Prop)
 |ct (f:FuncId) (args:List SV) (r:gV)
 |eH (i:Nat) (row:Row) (ob:Option Prop)
 |gi (f:FuncId) (i:Nat) (r:gV)
 |fB (f:FuncId) (args:List SV) (x:XK)
 |bad
def R2(e:Operand→Option SV)(x:Operand):Value:=match e x with
 |some (.val v)=>v
 |_=>undef
def isVal(e:Operand→Option SV)(x:Operand):Bool:=match e x with
 |some (.val _)=>true
 |_=>false
def fM{α:Type}(p:α→Bool):List α→Bool
 | []=>true
 |x::r=>match p x with
  |true=>fM p r
  |false=>false
theorem bn{α:Type}{p:α→Bool}:∀{l:List α},fM p l=true→∀x∈l,p x=true
 |y::r,h,x,hx=>by
  unfold fM at h;split at h
  ·rcases X1.1 hx with rfl|hx
   ·assumption
   ·exact bn h x hx
  ·cases h
def vK:List SV→Option (List Value)
 | []=>some []
 |sv::r=>match sv with
  |.val v=>match vK r with
   |some l=>some (v::l)
   |none=>none
  |_=>none
def gO:List SV→Option (List Atom)
 | []=>some []
 |sv::r=>match sv with
  |.val v=>match gO r with
   |some l=>some (.v v::l)
   |none=>none
  |.own i=>match gO r with
   |some l=>some (.o i::l)
   |none=>none
  |.ptr i off=>match gO r with
   |some l=>some (.p i off::l)
   |none=>none
  |.mf i off len cut=>match gO r with
   |some l=>some (.s i off len cut::l)
   |none=>none
  |_=>none
theorem vJ{β:Env}:∀{l:List SV} {vs:List Value},vK l=some vs→l.map (SV.den β)=vs
 | [],vs,h=>by
  have:vs=[]:=by simpa[vK]using h.symm
  subst this;rfl
 |sv::r,vs,h=>by
  unfold vK at h;split at h
  ·split at h
   ·rename_i l hl
    cases h;rw[XL,vJ hl];rfl
   ·cases h
  ·cases h
theorem oE{β:Env}:∀{l:List SV} {as:List Atom},gO l=some as→l.map (SV.den β)=as.map (Atom.den β)
 | [],vs,h=>by
  have:vs=[]:=by simpa[gO]using h.symm
  subst this;rfl
 |sv::r,vs,h=>by
  unfold gO at h;split at h
  all_goals first
   | (cases h;done)
   | (
     split at h
     ·rename_i l hl
      cases h;rw[XL,oE hl];rfl
     ·cases h)
theorem q5{Q:Nat→Prop}:∀{l:List SV} {as:List Atom},gO l=some as→(∀s∈l,s.on Q)→∀a∈as,a.on Q
 | [],vs,h,_=>by
  have:vs=[]:=by simpa[gO]using h.symm
  subst this;intro a ha;cases ha
 |sv::r,vs,h,hq=>by
  unfold gO at h;have h0:=hq sv (by simp);split at h
  all_goals first
   | (cases h;done)
   | (
     split at h
     ·rename_i l hl
      cases h;intro a ha;rcases X1.1 ha with rfl|ha
      ·exact h0
      ·exact q5 hl (fun s hs=>hq s (XD _ hs)) a ha
     ·cases h)
def y8(cs:List SV):Option SV:=match vK cs with
 |some vs=>some (.val (.agg vs.toArray))
 |none=>match gO cs with
  |some l=>some (.dX l)
  |none=>none
theorem y7{β:Env}{cs:List SV}{sv:SV}(h:y8 cs=some sv):sv.den β=.agg (cs.map (SV.den β)).toArray:=by
 unfold y8 at h;split at h
 ·rename_i vs hv
  cases h;rw[vJ hv];rfl
 ·split at h
  ·rename_i l hl
   cases h;rw[oE hl];rfl
  ·cases h
theorem Cu{Q:Nat→Prop}{cs:List SV}{sv:SV}(h:y8 cs=some sv)(hq:∀s∈cs,s.on Q):sv.on Q:=by
 unfold y8 at h;split at h
 ·cases h;trivial
 ·split at h
  ·rename_i l hl
   cases h;exact q5 hl hq
  ·cases h
def cV(P:Program)(t:TypeId)(r:Row)(off:Nat):rZ:=
 match r.fixed with
 |false=>.bad
 |true=>match P.underlying t,P.info? t with
  |some d,some inf=>match d.isRow with
   |true=>match r.cs with
    |.an cs=>match XJ off 0&&XJ inf.size cs.length with
     |true=>.val (.val (.agg cs.toArray)) none
     |false=>match Yz (off+inf.size) cs.length with
      |true=>.val (.val (.agg ((cs.drop off).take inf.size).toArray)) none
      |false=>.bad
    |.dG _ cs=>match XJ off 0&&XJ inf.size cs.length with
     |true=>.val (.val (.agg cs.toArray)) none
     |false=>match Yz (off+inf.size) cs.length with
      |true=>.val (.val (.agg ((cs.drop off).take inf.size).toArray)) none
      |false=>.bad
    |.dK cs=>match XJ off 0&&XJ inf.size cs.length with
     |true=>match y8 cs with
      |some sv=>.val sv none
      |none=>.bad
     |false=>.bad
    |.j5 _ cs=>match XJ off 0&&XJ inf.size cs.length with
     |true=>match y8 cs with
      |some sv=>.val sv none
      |none=>.bad
     |false=>.bad
    |_=>.bad
   |false=>match r.cs with
    |.an cs=>match cs[off]? with
     |some v=>.val (.val v) none
     |none=>.bad
    |.dG _ cs=>match cs[off]? with
     |some v=>.val (.val v) none
     |none=>.bad
    |.dK cs=>match cs[off]? with
     |some v=>.val v none
     |none=>.bad
    |.j5 _ cs=>match cs[off]? with
     |some v=>.val v none
     |none=>.bad
    |_=>.bad
  |_,_=>.bad
def bS(P:Program)(t:TypeId)(r:Row)(off:Nat)(v:Value):rZ:=
 match r.cs with
 |.own _ _ xs=>match P.underlying t,P.info? t with
  |some d,some inf=>match d.isRow with
   |true=>match v with
    |.agg arr=>match XX 0 inf.size with
     |true=>.val (.val (.agg arr)) (some (arr.toList.length=inf.size∧(xs.drop off).take inf.size=arr.toList))
     |false=>.bad
    |_=>.bad
   |false=>.val (.val v) (some (xs[off]?=some v))
  |_,_=>.bad
 |_=>.bad
def Cells.Kw(c:Cells)(l:List Value):Cells:=match c with
 |.dG g _=>.dG g l
 |.j5 g _=>.dG g l
 |_=>.an l
theorem Ol{β:Env}{c:Cells}{l:List Value}:(c.Kw l).den β=l:=by cases c<;>rfl
theorem Oj{c:Cells}{l:List Value}:(c.Kw l).tag=c.tag:=by cases c<;>rfl
theorem Iw{c:Cells}{l:List Value}{Q:Nat→Prop}:(c.Kw l).on Q:=by cases c<;>exact Xy
theorem Gl{T T':TypeId}{c:Cells}{l:List Value}(h:(⟨T,c⟩:Row).fixed=true):(⟨T',c.Kw l⟩:Row).fixed=true:=by cases c<;>first|rfl|cases h
def Atom.sv:Atom→SV
 |.v x=>.val x
 |.o i=>.own i
 |.p i off=>.ptr i off
 |.s i off len cut=>.mf i off len cut
theorem Atom.tq{β:Env}{a:Atom}:a.sv.den β=a.den β:=by cases a<;>rfl
theorem Atom.Cc{Q:Nat→Prop}{a:Atom}(h:a.on Q):a.sv.on Q:=by cases a<;>exact h
def Atom.one:Atom→Bool
 |.v x=>x.oneCell'
 |_=>true
theorem Atom.one_den{β:Env}{a:Atom}(h:a.one=true):(a.den β).oneCell'=true:=by
 cases a with
 |v x=>exact h
 |o i=>rfl
 |p i off=>rfl
 |s _ _ _ _=>rfl
def dc(P:Program)(t:TypeId)(i:Nat)(r:Row)(off:Nat)(sv:SV):rZ:=
 match r.fixed with
 |false=>.bad
 |true=>match P.info? t with
 |none=>.bad
 |some inf=>match sv with
  |.val v=>match XJ v.cells.toList.length inf.size&&fM (·.oneCell') v.cells.toList with
   |true=>match XJ off 0&&XJ inf.size r.cs.len with
    |true=>.store i ⟨r.ty,r.cs.Kw v.cells.toList⟩ none
    |false=>match Yz (off+inf.size) r.cs.len with
     |true=>.store i ⟨r.ty,match r.cs with
      |.an cs=>.an (cs.take off++(v.cells.toList++cs.drop (off+inf.size)))
      |.dK cs=>.dK (cs.take off++(v.cells.toList.map .val++cs.drop (off+inf.size)))
      |.dG g cs=>.dG g (cs.take off++(v.cells.toList++cs.drop (off+inf.size)))
      |.j5 g cs=>.j5 g (cs.take off++(v.cells.toList.map .val++cs.drop (off+inf.size)))
      |c=>c⟩ none
     |false=>.bad
   |false=>.bad
  |sv=>match sv.one&&XJ inf.size 1 with
   |true=>match XX off r.cs.len with
    |true=>.store i ⟨r.ty,match r.cs with
     |.an cs=>.dK ((cs.map .val).set off sv)
     |.dK cs=>.dK (cs.set off sv)
     |.dG g cs=>.j5 g ((cs.map .val).set off sv)
     |.j5 g cs=>.j5 g (cs.set off sv)
     |c=>c⟩ none
    |false=>.bad
   |false=>match sv with
    |.dX l=>match(XJ off 0&&XJ inf.size r.cs.len)&&(XJ l.length inf.size&&fM Atom.one l)with
     |true=>.store i ⟨r.ty,match r.cs with
      |.dG g _=>.j5 g (l.map Atom.sv)
      |.j5 g _=>.j5 g (l.map Atom.sv)
      |_=>.dK (l.map Atom.sv)⟩ none
     |false=>.bad
    |_=>.bad
def bL(P:Program)(t:TypeId)(i:Nat)(r:Row)(off:Nat)(sv:SV):rZ:=match r.cs with
 |.own size n xs=>match P.info? t with
  |some inf=>match sv with
   |.val v=>match XJ v.cells.toList.length inf.size&&(fM (·.oneCell') v.cells.toList&&XX 0 inf.size)with
    |true=>.eH i ⟨r.ty,.own size n (xs.take off++(v.cells.toList++xs.drop (off+inf.size)))⟩ (some (off+inf.size≤xs.length))
    |false=>.bad
   |_=>.bad
  |none=>.bad
 |_=>.bad
def cB(P:Program)(t:TypeId)(r:Row)(off:Nat)(v:Value):rZ:=
 match P.underlying t with
 |some d=>match d.isRow with
  |false=>match r.cs with
   |.an cs=>.val (.val v) (some (cs[off]?=some v))
   |.dG _ cs=>.val (.val v) (some (cs[off]?=some v))
   |_=>.bad
  |true=>.bad
 |none=>.bad
def bY(P:Program)(t:TypeId)(i:Nat)(r:Row)(off:Nat)(sv:SV)(cs':List Value):rZ:=
 match P.info? t with
 |none=>.bad
 |some inf=>match sv with
  |.val v=>match XJ v.cells.toList.length inf.size&&fM (·.oneCell') v.cells.toList with
   |true=>match r.cs with
    |.an cs=>.store i ⟨r.ty,.an cs'⟩ (some (off+inf.size≤cs.length∧cs.take off++(v.cells.toList++cs.drop (off+inf.size))=cs'))
    |.dG g cs=>.store i ⟨r.ty,.dG g cs'⟩ (some (off+inf.size≤cs.length∧cs.take off++(v.cells.toList++cs.drop (off+inf.size))=cs'))
    |_=>.bad
   |false=>.bad
  |_=>.bad
def GO(ρ:Operand→Value)(o:Oper):Option (Sem Value):=
 match o.op with
 |.binOp op t x y _=>some (do eqGuard op t x y (ρ x) (ρ y);binOp op t (ρ x) (ρ y))
 |.unOp op _ x=>some (Op.unary op (ρ x))
 |.convert s d x=>some (convert s d (ρ x))
 |.slice t x lo hi mx=>some (Y3 t (ρ x) (lo.map ρ) (hi.map ρ) (mx.map ρ))
 |.index t x i=>some (Instr.index t (ρ x) (ρ i))
 |.indexAddr t x i=>some (Yw t (ρ x) (ρ i))
 |.field t x f=>some (Instr.field t (ρ x) f)
 |.load t x=>some (YN t (ρ x))
 |.fieldAddr t x f=>some (YJ t (ρ x) f)
 |_=>none
def bV(P:Program)(w0:bu)(h:Option Hint)(e:Operand→Option SV)(o:Oper):rZ:=
 match fM (isVal e) o.op.operands.toList&&Region.noSelect #[o]with
 |false=>.bad
 |true=>match h with
  |some (.any v)=>match GO (R2 e) o with
   |some s=>.val (.val v) (some (∀W,ai w0.S w0.w W→s.run P W=.ok v W))
   |none=>.val (.val v) (some (∀W,ai w0.S w0.w W→(execOp (R2 e) o).run P W=.ok (.value v) W))
  |some (.bin v)=>match GO (R2 e) o with
   |some s=>.val (.val v) (some (∀W,s.run P W=.ok v W))
   |none=>.bad
  |some (.is v)=>match js P (execOp (R2 e) o)with
   |some (.value u)=>.val (.val v) (some (u=v))
   |_=>.bad
  |_=>match js P (execOp (R2 e) o)with
   |some (.value u)=>.val (.val u) none
   |_=>.bad
def dI(P:Program)(w0:bu)(h:Option Hint)(e:Operand→Option SV)(o:Oper):rZ:=
 match h with
 |some (.call v)=>match fM (isVal e) o.op.operands.toList&&Region.noSelect #[o]with
  |false=>.bad
  |true=>match js P (execOp (R2 e) o)with
   |some (.enter f args)=>.call f args.toList v
   |_=>.bad
 |_=>bV P w0 h e o
def Vy(H:List (Nat×Hint)):Operand→Option Hint
 |.tmp x=>hint H (some (100000+x))
 |_=>none
def FM(c:Call):Option (TypeId×Operand):=match c.callee with
 |.builtin b=>match b with
  |.len=>match c.args.toList,c.argTypes.toList with
   | [x],[t]=>some (t,x)
   |_,_=>none
  |_=>none
 |_=>none
def kH(e:Operand→Option SV):List Operand→Option (List SV)
 | []=>some []
 |x::r=>match e x,kH e r with
  |some sv,some l=>some (sv::l)
  |_,_=>none
def bU(P:Program)(e:Operand→Option SV)(c:Call)(r:gV):rZ:=match c.callee with
 |.value (.func f)=>match P.funcs[f]? with
  |some fn=>match fn.name== "runtime.NumGoroutine"||fn.body.isNone with
   |false=>match kH e c.args.toList with
    |some l=>.ct f l r
    |none=>.bad
   |true=>.bad
  |none=>.bad
 |_=>.bad
def isSlice:gV→Bool
 |.val _=>false
 |_=>true
def dA(P:Program)(e:Operand→Option SV)(c:Call)(r:gV):rZ:=match bU P e c r with
 |.ct f args _=>match args with
  | [.own i]=>match isSlice r with
   |true=>.gi f i r
   |false=>.bad
  |_=>.bad
 |_=>.bad
def Cells.list:Cells→Option (List Value)
 |.an cs=>some cs
 |.dG _ cs=>some cs
 |_=>none
def oX(row:Nat→Option Row):Nat→List SV→List (Nat×Nat)
 |_,[]=>[]
 |k,sv::r=>match sv with
  |.ptr i 0=>match row i with
   |some rw=>match rw.fixed with
    |true=>(k,i)::oX row (k+1) r
    |false=>oX row (k+1) r
   |none=>oX row (k+1) r
  |_=>oX row (k+1) r
theorem uz{row:Nat→Option Row}:∀{l:List SV} {k:Nat} {q:Nat×Nat},q∈oX row k l→k≤q.1∧l[q.1 - k]?=some (.ptr q.2 0)∧∃r,row q.2=some r∧r.fixed=true
 | [],k,q,h=>by cases h
 |sv::r,k,q,h=>by
  have tail:q∈oX row (k+1) r→k≤q.1∧(sv::r)[q.1 - k]?=some (.ptr q.2 0)∧∃r,row q.2=some r∧r.fixed=true:=fun h=>by obtain⟨h1,h2,h3⟩:=uz h;refine⟨by omega,?_,h3⟩;rw[show q.1 - k=(q.1 - (k+1))+1 by omega,X9];exact h2
  unfold oX at h;split at h
  ·split at h
   ·rename_i rw hrow
    split at h
    ·rename_i hf
     rcases X1.1 h with rfl|h
     ·exact⟨Yh _,by simp,rw,hrow,hf⟩
     ·exact tail h
    ·exact tail h
   ·exact tail h
  ·exact tail h
def gL(P:Program)(e:Operand→Option SV)(row:Nat→Option Row)(c:Call):Hint→rZ
 |.aX p cs v=>match bU P e c (.val v)with
  |.ct f args _=>match args[p]? with
   |some (.ptr i 0)=>match row i with
    |some r=>match r.cs.list with
     |some l=>match XJ l.length cs.length with
      |true=>.fB f args (.dW p i ⟨r.ty,r.cs.Kw cs⟩ v)
      |false=>.bad
     |none=>.bad
    |none=>.bad
   |_=>.bad
  |_=>.bad
 |.sY=>match bU P e c (.val undef)with
  |.ct f args _=>.fB f args (.G9 (oX row 0 args))
  |_=>.bad
 |_=>.bad
def GI(w0:bu)(row:Nat→Option Row)(size:Nat)(h:Option Hint):SV→Option (Nat×List Value×Prop)
 |.oI j off m _=>match row j with
  |some r=>match r.cs with
   |.an cs=>some (m,(cs.drop off).take (m*size),True)
   |_=>none
  |none=>none
 |.own j=>match row j with
  |some r=>match r.cs with
   |.own _ n xs=>some (n,xs,True)
   |_=>none
  |none=>none
 |.mf j off m cut=>match row j with
  |some r=>match r.cs with
   |.own sz n xs=>some (m,(xs.drop off).take (m*size),off=cut*sz∧cut+m≤n)
   |_=>none
  |none=>none
 |.val v=>match h with
  |some (.app m news)=>some (m,news,∀W,ai w0.S w0.w W→∃A c,v=.slice A m c∧(0 < news.length→∃ad,A=some ad∧∀(j:Nat) (u:Value),news[j]?=some u→W.cell? (ad.add j)=some u))
  |_=>none
 |_=>none
def Ei(P:Program)(t:TypeId):Option (TypeId×Nat×Nat):=match P.underlying t with
 |some (.slice e)=>match P.info? e with
  |some inf=>match inf.zero with
   |some z=>match XJ z.cells.size inf.size&&XX 0 inf.size with
    |true=>some (e,inf.size,inf.bytes)
    |false=>none
   |none=>none
  |none=>none
 |_=>none
def lS(P:Program)(w0:bu)(row:Nat→Option Row)(h:Option Hint)(t:TypeId)(kill:Option Nat)(el size n:Nat)(xs:List Value)(y:SV):rZ:=
 match Ei P t with
 |some (e,sz,bytes)=>match XJ e el&&XJ sz size with
  |true=>match GI w0 row size h y with
   |some (m,news,ob)=>.grow kill el size (n+m) (xs++news) (some (ob∧news.length=m*size∧(∀u∈news,u.oneCell'=true)∧n+m≤maxLen∧(n+m)*bytes≤140737488355328))
   |none=>.bad
  |false=>.bad
 |none=>.bad
def gp(P:Program)(w0:bu)(row:Nat→Option Row)(h:Option Hint)(t:TypeId)(x y:SV):rZ:=
 match x with
 |.own i=>match row i with
  |some r=>match r.cs with
   |.own size n xs=>lS P w0 row h t (some i) r.ty size n xs y
   |_=>.bad
  |none=>.bad
 |.val (.slice none 0 0)=>match Ei P t with
  |some (e,sz,_)=>lS P w0 row h t none e sz 0 [] y
  |none=>.bad
 |_=>.bad
def BN(c:Call):Option (TypeId×Operand×Operand):=match c.callee with
 |.builtin b=>match b with
  |.append=>match c.args.toList,c.argTypes.toList with
   | [x,y],[t,u]=>match XJ t u with
    |true=>some (t,x,y)
    |false=>none
   |_,_=>none
  |_=>none
 |_=>none
def dS(P:Program)(w0:bu)(h:Option Hint)(e:Operand→Option SV)(o:Oper)(x:Operand):rZ:=match e x with
 |some sv=>match h with
  |none=>.val sv none
  |some (.jG t size)=>match sv with
   |.val (.slice none 0 0)=>.grow none t size 0 [] none
   |sv=>.val sv none
  |_=>bV P w0 h e o
 |none=>.bad
def VO(e:Operand→Option SV)(d:Nat):Option Operand→Option Int
 |none=>some d
 |some x=>match e x with
  |some (.val (.int _ k))=>some k
  |_=>none
def lg(P:Program)(h:Option Hint)(e:Operand→Option SV)(row:Nat→Option Row)(t:TypeId)(i:Nat)(lo hi:Option Operand):rZ:=match row i with
 |some r=>match r.cs with
  |.own size n _=>match Ei P t with
   |some (_,sz,_)=>match XJ sz size with
    |true=>match VO e 0 lo,VO e n hi with
     |some kl,some kh=>match h with
      |some (.Xm l u)=>.val (.mf i (l*size) (u - l) l) (some (kl=l∧kh=u∧l≤u∧u≤n))
      |_=>.bad
     |_,_=>.bad
    |false=>.bad
   |none=>.bad
  |_=>.bad
 |none=>.bad
def de(P:Program)(w0:bu)(h:Option Hint)(e:Operand→Option SV)(row:Nat→Option Row)(o:Oper)(t:TypeId)(x:Operand)(lo hi mx:Option Operand):rZ:=match e x with
 |some (.own i)=>match mx with
  |none=>lg P h e row t i lo hi
  |some _=>.bad
 |_=>bV P w0 h e o
def fJ(P:Program)(w0:bu)(h:Option Hint)(e:Operand→Option SV)(row:Nat→Option Row)(o:Oper)(c:Call):rZ:=match FM c with
 |some (t,x)=>match e x with
  |some (.own i)=>match row i with
   |some r=>match r.cs with
    |.own _ n _=>match P.underlying t with
     |some (.slice _)=>.val (.val (.int .i64 (n:Int))) none
     |_=>.bad
    |_=>.bad
   |none=>.bad
  |some (.oI _ _ n _)=>match P.underlying t with
   |some (.slice _)=>.val (.val (.int .i64 (n:Int))) none
   |_=>.bad
  |some (.mf _ _ n _)=>match P.underlying t with
   |some (.slice _)=>.val (.val (.int .i64 (n:Int))) none
   |_=>.bad
  |_=>dI P w0 h e o
 |none=>dI P w0 h e o
def oY(e:Operand→Option SV):Nat→List (Nat×Operand)→Option (List Value)
 |_,[]=>some []
 |k,p::r=>match XJ p.1 k with
  |true=>match e p.2 with
   |some (.val v)=>match oY e (k+1) r with
    |some l=>some (v::l)
    |none=>none
   |_=>none
  |false=>none
def ll(P:Program)(e:Operand→Option SV)(t:TypeId)(len:Nat)(parts:List (Nat×Operand)):rZ:=match oY e 0 parts with
 |some vs=>match P.underlying t with
  |some (.slice el)=>match P.info? el with
   |some inf=>match inf.zero with
    |some z=>match fM (fun v=>XJ v.cells.toList.length inf.size) vs&&(XJ vs.length len&&(XJ z.cells.toList.length inf.size&&(Yz (len*inf.size) 16777216&&(XX 0 inf.size&&XX 0 len))))with
     |true=>.alloc el (.an (vs.flatMap fun v=>v.cells.toList)) (some len)
     |false=>.bad
    |none=>.bad
   |none=>.bad
  |_=>.bad
 |none=>.bad
def tW(P:Program):rZ→rZ
 |.alloc el (.an cs) (some n)=>match P.info? el with
  |some inf=>match XJ cs.length (n*inf.size)&&Yz n 16777216 with
   |true=>.grow none el inf.size n cs none
   |false=>.bad
  |none=>.bad
 |_=>.bad
def Bi(P:Program)(s d:TypeId):Bool:=match P.underlying s with
 |some (.slice el)=>match P.underlying d with
  |some .string=>match P.underlying el with
   |some (.int .u8)=>true
   |_=>false
  |_=>false
 |_=>false
def fZ(P:Program)(w0:bu)(H:List (Nat×Hint))(h:Option Hint)(e:Operand→Option SV)(row:Nat→Option Row)(o:Oper):rZ:=
 match o.op with
 |.move x | .assign x=>dS P w0 h e o x
 |.nilCheck x=>match e x with
  |some (.ptr i off)=>.val (.ptr i off) none
  |_=>bV P w0 h e o
 |.alloc t=>match P.info? t with
  |some inf=>match inf.zero with
   |some z=>.alloc t (.an z.cells.toList) none
   |none=>.bad
  |none=>.bad
 |.box t x=>match e x with
  |some (.val v)=>.alloc t (.an v.cells.toList) none
  |some (.dX l)=>.alloc t (.dK (l.map Atom.sv)) none
  |some sv=>match sv.one with
   |true=>.alloc t (.dK [sv]) none
   |false=>.bad
  |none=>.bad
 |.load t x=>match e x with
  |some (.ptr i off)=>match row i with
   |some r=>match h with
    |some (.ld v)=>cB P t r off v
    |_=>cV P t r off
   |none=>.bad
  |some (.nK i off)=>match row i with
   |some r=>match h with
    |some (.ld v)=>bS P t r off v
    |_=>.bad
   |none=>.bad
  |_=>match h with
   |some (.any v)=>bV P w0 (some (.any v)) e o
   |_=>.bad
 |.store t x y=>match e x with
  |some (.ptr i off)=>match e y with
   |some sv=>match row i with
    |some r=>match Vy H x with
     |some (.st cs')=>bY P t i r off sv cs'
     |_=>dc P t i r off sv
    |none=>.bad
   |none=>.bad
  |some (.nK i off)=>match e y with
   |some sv=>match row i with
    |some r=>bL P t i r off sv
    |none=>.bad
   |none=>.bad
  |_=>.bad
 |.extract x k=>match e x with
  |some (.oo l i r)=>match XJ k l.length with
   |true=>.val (.own i) none
   |false=>match l[k]? with
    |some v=>.val (.val v) none
    |none=>match XX l.length k with
     |true=>match r[k - l.length - 1]? with
      |some v=>.val (.val v) none
      |none=>.bad
     |false=>.bad
  |_=>bV P w0 h e o
 |.buildSlice t len parts=>match h with
  |some (.jG _ _)=>tW P (ll P e t len parts.toList)
  |_=>match len,parts.toList with
  | 1,[(0,x)]=>match e x with
   |some (.val v)=>match P.underlying t with
    |some (.slice el)=>match P.info? el with
     |some inf=>match inf.zero with
      |some z=>match XJ v.cells.toList.length inf.size&&(XJ z.cells.toList.length inf.size&&(Yz inf.size 16777216&&XX 0 inf.size))with
       |true=>.alloc el (.an v.cells.toList) (some 1)
       |false=>.bad
      |none=>.bad
     |none=>.bad
    |_=>.bad
   |_=>.bad
  |_,_=>ll P e t len parts.toList
 |.fieldAddr s x f=>match e x with
  |some (.ptr i off)=>match P.underlying s with
   |some (.struct fields)=>match fields[f]? with
    |some fd=>match(P.info? fd.type).map (·.size)with
     |some (_+1)=>.val (.ptr i (off+fd.offset)) none
     |_=>.bad
    |none=>.bad
   |_=>.bad
  |some (.nK i off)=>match row i with
   |some r=>match r.cs with
    |.own _ n _=>match P.underlying s with
     |some (.struct fields)=>match fields[f]? with
      |some fd=>match(P.info? fd.type).map (·.size)with
       |some (_+1)=>.val (.nK i (off+fd.offset)) (some (0 < n))
       |_=>.bad
      |none=>.bad
     |_=>.bad
    |_=>.bad
   |none=>.bad
  |_=>bV P w0 h e o
 |.indexAddr t x ix=>match e x with
  |some (.ptr i off)=>match P.underlying t with
   |some (.array len elem)=>match e ix with
    |some (.val (.int _ k))=>match P.info? elem with
     |some inf=>match h with
      |some .ix=>.val (.ptr i (off+k.toNat*inf.size)) (some (0≤k∧k < len))
      |_=>match decide (0≤k∧k < len)with
       |true=>.val (.ptr i (off+k.toNat*inf.size)) none
       |false=>.bad
     |none=>.bad
    |_=>.bad
   |_=>.bad
  |some (.own i)=>match row i with
   |some r=>match r.cs with
    |.own _ n _=>match e ix with
     |some (.val (.int _ k))=>match P.underlying t with
      |some (.slice elem)=>match P.info? elem with
       |some inf=>match h with
        |some .ix=>.val (.nK i (k.toNat*inf.size)) (some (0≤k∧k < n))
        |_=>.bad
       |none=>.bad
      |_=>.bad
     |_=>.bad
    |_=>.bad
   |none=>.bad
  |_=>bV P w0 h e o
 |.convert s d x=>match e x with
  |some sv=>match h with
   |some (.is (.string b))=>match GI w0 row 1 h sv with
    |some (m,news,ob)=>match Bi P s d with
     |true=>.val (.val (.string b)) (some (ob∧b.size=m∧news=b.data.toList.map fun c=>.int .u8 (c.toNat:Int)))
     |false=>.bad
    |none=>bV P w0 h e o
   |_=>bV P w0 h e o
  |none=>bV P w0 h e o
 |.slice t x lo hi mx=>de P w0 h e row o t x lo hi mx
 |.call c=>match h with
  |some (.ct r)=>bU P e c r
  |some (.gi r)=>dA P e c r
  |some (.aX p cs v)=>gL P e row c (.aX p cs v)
  |some .sY=>gL P e row c .sY
  |_=>match BN c with
   |some (t,x,y)=>match e x,e y with
    |some sx,some sy=>gp P w0 row h t sx sy
    |_,_=>.bad
   |none=>fJ P w0 h e row o c
 |_=>bV P w0 h e o
def gN:Option SV→List Nat
 |some (.ptr i _)=>[i]
 |some (.oI i _ _ _)=>[i]
 |some (.nK i _)=>[i]
 |some (.own i)=>[i]
 |some (.mf i _ _ _)=>[i]
 |_=>[]
def aF(e:Operand→Option SV)(o:Oper):List Nat:=
 match o.op with
 |.load _ x=>gN (e x)
 |.store _ x _=>gN (e x)
 |.indexAddr _ x _=>match e x with
  |some (.own i)=>[i]
  |_=>[]
 |.slice _ x _ _ _=>match e x with
  |some (.own i)=>[i]
  |_=>[]
 |.convert _ _ x=>gN (e x)
 |.fieldAddr _ x _=>match e x with
  |some (.nK i _)=>[i]
  |_=>[]
 |.call c=>c.args.toList.flatMap fun x=>gN (e x)
 |_=>[]
def nN(m:Nat):Option Nat→SV
 |none=>.ptr m 0
 |some n=>.oI m 0 n n
def pq(g:Nat):Option Nat→Value
 |none=>.pointer (some ⟨g,0,none⟩)
 |some n=>.slice (some ⟨g,0,none⟩) n n
def au:Row:=⟨0,.dead⟩
def jR:gV→Option Row
 |.val _=>none
 |.sl T size n xs=>some ⟨T,.own size n xs⟩
 |.oo _ T size n xs _=>some ⟨T,.own size n xs⟩
def iY(m:Nat):gV→SV
 |.val v=>.val v
 |.sl _ _ _ _=>.own m
 |.oo pre _ _ _ _ post=>.oo pre m post
def Gw(mem:List Row):Option Row→List Row
 |none=>mem
 |some r=>mem++[r]
def fi(mem:List Row):Option Nat→List Row
 |none=>mem
 |some i=>mem.set i au
def Gk(row:Nat→Option Row)(W:World)(i:Nat)(K:Value→Prop):Prop:=match row i with
 |some r=>match r.cs with
  |.own size n xs=>∀s,Own W r.ty size s n xs→K s
  |_=>False
 |none=>False
theorem yo{row:Nat→Option Row}{W:World}{i:Nat}{K:Value→Prop}(h:Gk row W i K):∃r,row i=some r∧∃s m ys,r.cs=.own s m ys:=by
 unfold Gk at h;split at h
 ·rename_i r hr
  split at h
  ·rename_i s m ys hc
   exact⟨r,hr,s,m,ys,hc⟩
  ·exact h.elim
 ·exact h.elim
theorem Iu{β:Env}{row:Nat→Option Row}{W:World}{i:Nat}{K:Value→Prop}(h:Gk row W i K)(hr:∀r,row i=some r→br β W i r):K (β.sl i):=by
 unfold Gk at h;split at h
 ·rename_i r hrow
  have hh:=hr r hrow;split at h
  ·rename_i s m ys hc
   unfold br at hh;rw[hc]at hh;have:=h _ hh.2;rw[←hh.1]at this;exact this
  ·exact h.elim
 ·exact h.elim
def iS(row:Nat→Option Row)(W:World):List SV→(List Value→Prop)→Prop
 | [],K=>K []
 |sv::l,K=>match sv with
  |.val v=>iS row W l fun vs=>K (v::vs)
  |.own i=>match row i with
   |some r=>match r.cs with
    |.own size n xs=>∀s,Own W r.ty size s n xs→iS row W l fun vs=>K (s::vs)
    |_=>False
   |none=>False
  |.ptr i 0=>match row i with
   |some r=>match r.cs with
    |.an cs=>∀g,aw W g r.ty cs→iS row W l fun vs=>K (.pointer (some ⟨g,0,none⟩)::vs)
    |.dG g cs=>aw W g r.ty cs→iS row W l fun vs=>K (.pointer (some ⟨g,0,none⟩)::vs)
    |_=>False
   |none=>False
  |.mf i off m cut=>match row i with
   |some r=>match r.cs with
    |.own size n xs=>(off=cut*size∧cut+m≤n)∧∀s,Own W r.ty size s m ((xs.drop off).take (m*size))→(0 < n→∃g o c,s=.slice (some ⟨g,o,none⟩) m c)→iS row W l fun vs=>K (s::vs)
    |_=>False
   |none=>False
  |_=>False
def qJ(b:bu)(W:World)(vs:List Value)(x:XK)(e:Ending)(w':World):Prop:=match x with
 |.dW p _ row v=>∃g l,vs[p]?=some (.pointer (some ⟨g,0,none⟩))∧row.cs.list=some l∧e=.returned v∧aw w' g row.ty l∧ai [g] W w'
 |.G9 ps=>∃chain T,e=.panicked chain∧b.PP chain w'∧ai T W w'∧∀x∈T,∃q∈ps,vs[q.1]?=some (.pointer (some ⟨x,0,none⟩))
theorem Qg{w:World}{T size n c:Nat}{A:Option Addr}{xs:List Value}(h:Own w T size (.slice A n c) n xs){off m cut:Nat}(ho:off=cut*size)(hm:cut+m≤n):Own w T size (.slice (if c=cut then A else A.map (·.add off)) m (c - cut)) m ((xs.drop off).take (m*size)):=by
 have hlen:((xs.drop off).take (m*size)).length=m*size:=by
  have h1:cut*size+m*size≤n*size:=by rw[←YV];exact Yd _ hm
  rw[XM,X6,h.len];omega
 refine⟨hlen,?_⟩;rcases h.2 with⟨hv,rfl⟩ | ⟨g,o,c',L,hv,hg,hn,hc,hL,hx⟩
 ·injection hv with h1 h2 h3
  subst h1;subst h3;have:m=0:=by omega
  subst this;have:cut=0:=by omega
  subst this;exact .inl ⟨by simp,rfl⟩
 ·injection hv with h1 h2 h3
  subst h1;subst h3;refine .inr ?_;have hcs:cut*size+(c - cut)*size=c*size:=by rw[←YV]; congr 1; omega
  have hmn:cut*size+m*size≤n*size:=by rw[←YV];exact Yd _ hm
  by_cases hcc:c=cut
  ·have:m=0:=by omega
   subst this;refine⟨g,o,c - cut,L,by rw[if_pos hcc],hg,by omega,by omega,?_,by simp⟩;rw[hcc,YB];omega
  ·refine⟨g,o+off,c - cut,L,by rw[if_neg hcc]; simp[Addr.add_lit],hg,by omega,by omega,by omega,?_⟩
   rw[←hx,List.drop_take,Y2,List.take_take];congr 1;rw[ho];omega
theorem fF{β:Env}{row:Nat→Option Row}{W:World}:∀{l:List SV} {K:List Value→Prop},iS row W l K→(∀i sv,sv∈l→i∈gN (some sv)→∀r,row i=some r→br β W i r)→K (l.map (SV.den β))
 | [],K,h,_=>h
 |sv::l,K,h,hr=>by
  unfold iS at h;split at h
  ·rename_i v
   have:=fF (l:=l) (K:=fun vs=>K (v::vs)) h fun i sv hi=>hr i sv (XD _ hi);exact this
  ·rename_i i
   split at h
   ·rename_i r hrow
    have hh:=hr i (.own i) (by simp) (by simp[gN]) r hrow;split at h
    ·rename_i size n xs hcs
     unfold br at hh;rw[hcs]at hh;have:=fF (l:=l) (K:=fun vs=>K (.slice (β.a i) n (β.c i)::vs)) (h (.slice (β.a i) n (β.c i)) hh.2) fun i sv hi=>hr i sv (XD _ hi);rw[←hh.1]at this;exact this
    ·exact h.elim
   ·exact h.elim
  ·rename_i i
   split at h
   ·rename_i r hrow
    have hh:=hr i (.ptr i 0) (by simp) (by simp[gN]) r hrow;split at h
    ·rename_i cs hcs
     unfold br at hh;rw[hcs]at hh;exact fF (l:=l) (K:=fun vs=>K (_::vs)) (h _ hh) fun i sv hi=>hr i sv (XD _ hi)
    ·rename_i g cs hcs
     unfold br at hh;rw[hcs]at hh;obtain⟨hg,hb⟩:=hh;rw[hg]at hb;have:=fF (l:=l) (K:=fun vs=>K (.pointer (some ⟨g,0,none⟩)::vs)) (h hb) fun i sv hi=>hr i sv (XD _ hi);rw[←hg]at this;exact this
    ·exact h.elim
   ·exact h.elim
  ·rename_i i off m cut
   split at h
   ·rename_i r hrow
    have hh:=hr i (.mf i off m cut) (by simp) (by simp[gN]) r hrow;split at h
    ·rename_i size n xs hcs
     unfold br at hh;rw[hcs]at hh;refine fF (l:=l) (K:=fun vs=>K (_::vs)) (h.2 _ (Qg hh.2 h.1.1 h.1.2) fun hn=>?_) fun i sv hi=>hr i sv (XD _ hi);obtain⟨g,o,c',hv,_⟩:=hh.2.some_ hn;injection hv with h1 h2 h3;simp only[SV.den,h1];by_cases hc:β.c i=cut
     ·exact⟨g,o,β.c i - cut,by rw[if_pos hc]⟩
     ·exact⟨g,o+off,β.c i - cut,by rw[if_neg hc]; simp[Addr.add_lit]⟩
    ·exact h.elim
   ·exact h.elim
  ·exact h.elim
end Sx
open Go Go.RowKit Go.Lib Go.Sort
theorem aw.setCells{b:Nat}{t:TypeId}:∀(vs:List Value) (off:Nat) {cs:List Value} {W:World},aw W b t cs→off+vs.length≤cs.length→aw (W.setCells b off vs) b t (cs.take off++(vs++cs.drop (off+vs.length)))
 | [],off,cs,W,h,_=>by simpa[World.setCells]using h
 |v::r,off,cs,W,h,hl=>by
  rw[World.setCells];simp only[XU]at hl;have:=aw.setCells r (off+1) (h.sh off v) (by simp;omega);have e:(cs.set off v).take (off+1)++(r++(cs.set off v).drop (off+1+r.length))=cs.take off++((v::r)++cs.drop (off+(v::r).length)):=by rw[Yy (by simp;omega),List.drop_set_of_lt (by omega),YP,YT (by omega)];simp only[List.append_assoc,YZ,Yp,XU];rw[show off+(r.length+1)=off+1+r.length by omega]
  rwa [e]at this
theorem ai.qa{S:List Nat}{a:World}(b:Nat)(hb:b∈S∨a.heap.size≤b):∀(vs:List Value) (off:Nat) {W:World},ai S a W→ai S a (W.setCells b off vs)
 | [],_,_,h=>h
 |v::r,off,_,h=>ai.qa b hb r (off+1) (h.setCell (p:=⟨b,off,none⟩) hb v)
namespace Sx
section
variable{P:Program}{β:Env}{W:World}{a:Act}{o:Oper}{e:Operand→Option SV}{row:Nat→Option Row}{hn:Option Hint}
def rZ.Ok(P:Program)(β:Env)(W:World)(a:Act)(o:Oper):rZ→Prop
 |.val sv ob=>(∀p,ob=some p→p)→(execOp a.eval o).run P W=.ok (.value (sv.den β)) W
 |.call f args _=>(execOp a.eval o).run P W=.ok (.enter f args.toArray) W
 |.alloc t cs ln=>(execOp a.eval o).run P W=.ok (.value (pq W.heap.size ln)) (W.alloc (.cells (cs.den β).toArray t))
 |.grow kill t size n xs ob=>(∀p,ob=some p→p)→∃A c W' S,(execOp a.eval o).run P W=.ok (.value (.slice A n c)) W'∧Own W' t size (.slice A n c) n xs∧ai S W W'∧(∀k∈S,∃i,kill=some i∧(β.a i).map (·.block)=some k)∧∀k,A.map (·.block)=some k→k∈S∨W.heap.size≤k
 |.ct f args _=>(execOp a.eval o).run P W=.ok (.enter f (args.map (SV.den β)).toArray) W
 |.gi f i _=>(execOp a.eval o).run P W=.ok (.enter f #[β.sl i]) W
 |.fB f args _=>(execOp a.eval o).run P W=.ok (.enter f (args.map (SV.den β)).toArray) W
 |.eH i r ob=>(∀p,ob=some p→p)→∃W',(execOp a.eval o).run P W=.ok .skip W'∧br β W' i r∧ai (az β i r).toList W W'
 |.store i r ob=>(∀p,ob=some p→p)→∃W',(execOp a.eval o).run P W=.ok .skip W'∧aw W' (β i) r.ty (r.cs.den β)∧ai [β i] W W'
 |.bad=>True
theorem LS(he:∀x∈o.op.operands,∀sv,e x=some sv→a.eval x=sv.den β)(h:fM (isVal e) o.op.operands.toList=true)(hs:Region.noSelect #[o]=true):execOp a.eval o=execOp (R2 e) o:=by
 refine execOp_congr o ?_ fun x hx=>?_
 ·exact fun cs b=>Region.noSelect_spec hs 0 o cs b rfl
 ·have:=bn h x (by simpa using hx)
  unfold isVal at this;unfold R2;split at this
  ·rename_i v hv
   rw[he x hx _ hv];rfl
  ·cases this
theorem Co{ρ:Operand→Value}{s:Sem Value}(h:GO ρ o=some s){v:Value}(hr:s.run P W=.ok v W):(execOp ρ o).run P W=.ok (.value v) W:=by
 unfold GO at h;split at h
 all_goals first
  |cases h;done
  | (rename_i ho;cases h;unfold execOp;simp only[ho];rw[XE,hr];rfl)
theorem gQ{w0:bu}(hw:ai w0.S w0.w W)(he:∀x∈o.op.operands,∀sv,e x=some sv→a.eval x=sv.den β):(bV P w0 hn e o).Ok P β W a o:=by
 unfold bV;split
 ·trivial
 ·rename_i hb
  rw[XC]at hb;have hq:=LS he hb.1 hb.2;split
  ·split
   ·rename_i s hs
    intro hob;rw[hq];exact Co hs (hob _ rfl W hw)
   ·intro hob
    rw[hq];exact hob _ rfl W hw
  ·split
   ·rename_i s hs
    intro hob;rw[hq];exact Co hs (hob _ rfl W)
   ·trivial
  ·split
   ·rename_i u hu
    intro hob;rw[hq,rh hu W,hob _ rfl];rfl
   ·trivial
  ·split
   ·rename_i u hu
    intro _;rw[hq,rh hu W];rfl
   ·trivial
theorem Ip{w0:bu}(hw:ai w0.S w0.w W)(he:∀x∈o.op.operands,∀sv,e x=some sv→a.eval x=sv.den β):(dI P w0 hn e o).Ok P β W a o:=by
 unfold dI;split
 ·split
  ·trivial
  ·rename_i hb
   rw[XC]at hb;have hq:=LS he hb.1 hb.2;split
   ·rename_i f args hu
    show _=_;rw[hq,rh hu W]
   ·trivial
 ·exact gQ hw he
theorem si{b off:Nat}{t:TypeId}:(YN t (.pointer (some ⟨b,off,none⟩))).run P W=(loadVar t ⟨b,off,none⟩).run P W:=by simp[YN,X4]
theorem kZ{t:TypeId}{x:Operand}{b off:Nat}{d:TypeDesc}{inf:TypeInfo}{cs:List Value}(ho:o.op=.load t x)(hx:a.eval x=.pointer (some ⟨b,off,none⟩))(hu:P.underlying t=some d)(hi:P.info? t=some inf)(hd:d.isRow=true)(hl:inf.size=cs.length)(hc:W.rangeAt b off cs) :
  (execOp a.eval o).run P W=.ok (.value (.agg cs.toArray)) W:=by
 have:=run_loadAt_mid (P:=P) W b off t cs d hc hu hd (by rw[hi];simpa using hl);unfold execOp;simp only[ho,hx,XE,this];rfl
theorem lf{t:TypeId}{x:Operand}{b off:Nat}{d:TypeDesc}{v:Value}(ho:o.op=.load t x)(hx:a.eval x=.pointer (some ⟨b,off,none⟩))(hu:P.underlying t=some d)(hd:d.isRow=false)(hc:W.cell? ⟨b,off,none⟩=some v) :
  (execOp a.eval o).run P W=.ok (.value v) W:=by
 have hagg:(isAgg t).run P W=.ok false W:=by unfold isAgg;rw[XE,run_underlying hu W];cases d<;>simp_all
 unfold execOp;simp only[ho,hx,XE,si];simp[loadVar,XE,hagg,load,Zf,hc]
theorem Hs{t:TypeId}{x:Operand}{i off:Nat}{r:Row}(ho:o.op=.load t x)(hx:a.eval x=.pointer (some ⟨β i,off,none⟩))(hb:br β W i r):(cV P t r off).Ok P β W a o:=by
 unfold cV;split
 ·trivial
 ·rename_i hf
  have hb:=hb.cw hf;split
  ·rename_i d inf hu hi
   split
   ·rename_i hd
    split
    ·rename_i cs hcs
     rw[hcs]at hb;split
     ·rename_i hh
      rw[XC]at hh;have h0:=Xz hh.1;have h1:=Xz hh.2;intro _;refine kZ ho hx hu hi hd h1 fun j v hv=>?_;rw[h0,Yj];exact hb.cell_of hv
     ·split
      ·rename_i hh
       have hl:=XB hh;intro _;refine kZ ho hx hu hi hd (by simp;omega) fun j v hv=>?_;refine hb.cell_of ?_;rw[XQ]at hv;split at hv
       ·rw[XR]at hv;exact hv
       ·cases hv
      ·trivial
    ·rename_i cs hcs
     rw[hcs]at hb;split
     ·rename_i hh
      rw[XC]at hh;have h0:=Xz hh.1;have h1:=Xz hh.2;intro _;refine kZ ho hx hu hi hd h1 fun j v hv=>?_;rw[h0,Yj];exact hb.cell_of hv
     ·split
      ·rename_i hh
       have hl:=XB hh;intro _;refine kZ ho hx hu hi hd (by simp;omega) fun j v hv=>?_;refine hb.cell_of ?_;rw[XQ]at hv;split at hv
       ·rw[XR]at hv;exact hv
       ·cases hv
      ·trivial
    ·rename_i cs hcs
     rw[hcs]at hb;split
     ·rename_i hh
      rw[XC]at hh;have h0:=Xz hh.1;have h1:=Xz hh.2;split
      ·rename_i sv hsv
       intro _;rw[y7 hsv];refine kZ ho hx hu hi hd (by simpa using h1) fun j v hv=>?_;rw[h0,Yj];exact hb.cell_of hv
      ·trivial
     ·trivial
    ·rename_i cs hcs
     rw[hcs]at hb;split
     ·rename_i hh
      rw[XC]at hh;have h0:=Xz hh.1;have h1:=Xz hh.2;split
      ·rename_i sv hsv
       intro _;rw[y7 hsv];refine kZ ho hx hu hi hd (by simpa using h1) fun j v hv=>?_;rw[h0,Yj];exact hb.cell_of hv
      ·trivial
     ·trivial
    ·trivial
   ·rename_i hd
    split
    ·rename_i cs hcs
     rw[hcs]at hb;split
     ·rename_i v hv
      intro _;exact lf ho hx hu hd (hb.cell_of hv)
     ·trivial
    ·rename_i cs hcs
     rw[hcs]at hb;split
     ·rename_i v hv
      intro _;exact lf ho hx hu hd (hb.cell_of hv)
     ·trivial
    ·rename_i cs hcs
     rw[hcs]at hb;split
     ·rename_i v hv
      intro _;exact lf ho hx hu hd (hb.cell_of (by simp[Cells.den,hv]))
     ·trivial
    ·rename_i cs hcs
     rw[hcs]at hb;split
     ·rename_i v hv
      intro _;exact lf ho hx hu hd (hb.cell_of (by simp[Cells.den,hv]))
     ·trivial
    ·trivial
  ·trivial
theorem JN{t:TypeId}{x:Operand}{i off:Nat}{r:Row}{v:Value}(ho:o.op=.load t x)(hx:a.eval x=.pointer (some ⟨β i,off,none⟩))(hb:br β W i r):(cB P t r off v).Ok P β W a o:=by
 unfold cB;split
 ·rename_i d hu
  split
  ·rename_i hd
   split
   ·rename_i cs hcs
    unfold br at hb;rw[hcs]at hb;intro hob;exact lf ho hx hu hd (aw.cell_of hb (hob _ rfl))
   ·rename_i g cs hcs
    unfold br at hb;rw[hcs]at hb;intro hob;exact lf ho hx hu hd (aw.cell_of hb.2 (hob _ rfl))
   ·trivial
  ·trivial
 ·trivial
theorem AS{i n:Nat}{T size:Nat}{xs:List Value}(h:Own W T size (.slice (β.a i) n (β.c i)) n xs)(hx:xs≠[]):∃g o,β.a i=some ⟨g,o,none⟩∧∀(j:Nat) (u:Value),xs[j]?=some u→W.cell? ⟨g,o+j,none⟩=some u:=by
 have hn:0 < n:=by
  rcases Yk n with h0|h0
  ·have:=h.len
   rw[h0,YQ]at this;exact absurd (XV this) hx
  ·exact h0
 obtain⟨g,o,c,hv,_⟩:=h.some_ hn;injection hv with h1 _ h3;refine⟨g,o,h1,fun j u hu=>?_⟩;rw[h1]at h;exact(Own.cell h hu).1
theorem FF{t:TypeId}{x:Operand}{i off:Nat}{r:Row}{v:Value}(ho:o.op=.load t x)(hx:a.eval x=(SV.nK i off).den β)(hb:br β W i r):(bS P t r off v).Ok P β W a o:=by
 unfold bS;split
 ·rename_i size n xs hcs
  unfold br at hb;rw[hcs]at hb;split
  ·rename_i d inf hu hi
   split
   ·rename_i hd
    split
    ·rename_i arr
     split
     ·rename_i hpos
      have hpos:0 < inf.size:=XB hpos;intro hob;obtain⟨h1,h2⟩:=hob _ rfl;have hne:xs≠[]:=by rintro rfl;rw[List.drop_nil,List.take_nil]at h2;rw[←h2]at h1;simp at h1;omega
      obtain⟨g,o',ha,hc⟩:=AS hb.2 hne;have hx':a.eval x=.pointer (some ⟨g,o'+off,none⟩):=by rw[hx];simp only[SV.den,ha,X8,Addr.add_mid]
      refine kZ (cs:=arr.toList) ho hx' hu hi hd h1.symm fun j u hu=>?_;rw[YL];refine hc _ _ ?_;rw[←h2,XQ]at hu;split at hu
      ·rw[XR]at hu;exact hu
      ·cases hu
     ·trivial
    ·trivial
   ·rename_i hd
    intro hob;have hu':=hob _ rfl;have hne:xs≠[]:=by rintro rfl;simp at hu'
    obtain⟨g,o',ha,hc⟩:=AS hb.2 hne;have hx':a.eval x=.pointer (some ⟨g,o'+off,none⟩):=by rw[hx];simp only[SV.den,ha,X8,Addr.add_mid]
    exact lf ho hx' hu hd (hc _ _ hu')
  ·trivial
 ·trivial
theorem kI(b off:Nat)(t:TypeId)(v:Value)(ht:W.there b off v.cells.size)(hi:(P.info? t).map (·.size)=some v.cells.size)(h1:∀u∈v.cells.toList,u.oneCell'=true) :
  (storeVar t ⟨b,off,none⟩ v).run P W=.ok () (W.setCells b off v.cells.toList):=by
 have:=run_storeCells_cells (P:=P) b off v.cells.toList 0 W (fun j hj=>by simpa using (ht j (by simpa using hj)).1) (fun j hj=>by simpa using (ht j (by simpa using hj)).2) h1;cases hq:P.info? t with
 |none=>simp[hq]at hi
 |some i=>
  have hs:v.cells.size=i.size:=by simp[hq]at hi;omega
  simp only[YR]at this;simp[storeVar,sizeOf,typeInfo,hq,hs,this]
theorem ug{b t:Nat}{cs:List Value}(hb:aw W b t cs){off n:Nat}(h:off+n≤cs.length):W.there b off n:=fun j hj=>⟨by rw[hb.cell,YH (by omega)];rfl,hb.frozen _⟩
theorem Lc{t:TypeId}{x y:Operand}{i off:Nat}{r:Row}{sv:SV}(ho:o.op=.store t x y)(hx:a.eval x=.pointer (some ⟨β i,off,none⟩))(hy:a.eval y=sv.den β)(hb:br β W i r):(dc P t i r off sv).Ok P β W a o:=by
 have main:r.fixed=true→∀(inf:TypeInfo) (v:Value) (row':List Value),sv.den β=v→P.info? t=some inf→v.cells.toList.length=inf.size→(∀u∈v.cells.toList,u.oneCell'=true)→off+inf.size≤r.cs.len→
   (r.cs.den β).take off++(v.cells.toList++(r.cs.den β).drop (off+inf.size))=row'→∃W',(execOp a.eval o).run P W=.ok .skip W'∧aw W' (β i) r.ty row'∧ai [β i] W W':=by
  intro hf inf v row' hv hi hl h1 hle hrow;have hb:=hb.cw hf;have hth:W.there (β i) off v.cells.size:=ug hb (by rw[Cells.jm];simp at hl;omega);have hrun:=kI (P:=P) (β i) off t v hth (by rw[hi];simp at hl ⊢;omega) h1;refine⟨W.setCells (β i) off v.cells.toList,?_,?_,ai.qa _ (.inl (by simp)) _ _ (ai.refl _ _)⟩
  ·unfold execOp
   simp only[ho,hx,hy,hv,XE,YI,X4,XP,XF,hrun]
  ·have:=hb.setCells v.cells.toList off (by rw[Cells.jm,hl];exact hle)
   rw[hl,hrow]at this;exact this
 unfold dc;split
 ·trivial
 rename_i hf;split
 ·trivial
 ·rename_i inf hi
  split
  ·rename_i v
   split
   ·rename_i hh
    rw[XC]at hh;have hl:=Xz hh.1;have h1:=bn hh.2;split
    ·rename_i hz
     rw[XC]at hz;have h0:=Xz hz.1;have hs:=Xz hz.2;intro _;refine main hf inf v _ rfl hi hl h1 (by omega) ?_;subst h0;rw[Y1,Yp,Yo (by rw[Cells.jm];omega),Yg];exact Ol.symm
    ·split
     ·rename_i hle
      have hle:=XB hle;intro _;refine main hf inf v _ rfl hi hl h1 hle ?_;unfold Row.fixed at hf;cases hcc:r.cs with
      |own a b c=>rw[hcc]at hf;cases hf
      |dead=>rw[hcc]at hf;cases hf
      |an cs=>rfl
      |dG g cs=>rfl
      |dK cs=>simp[Cells.den,Y5,Y6,SV.den,Function.comp_def]
      |j5 g cs=>simp[Cells.den,Y5,Y6,SV.den,Function.comp_def]
     ·trivial
   ·trivial
  ·split
   ·rename_i h1
    rw[XC]at h1;obtain⟨ho1,h1⟩:=h1;have h1:=Xz h1;obtain⟨hc0,hone⟩:=qi ho1 β;split
    ·rename_i hlt
     have hlt:off < r.cs.len:=XB hlt;have hc:(sv.den β).cells.toList=[sv.den β]:=by rw[hc0]
     have ho:=hone;intro _;refine main hf inf (sv.den β) _ rfl hi (by rw[hc];simp[h1]) (by rw[hc];simpa using ho) (by omega) ?_;rw[hc,h1];have key:∀(L:List Value),off < L.length→L.take off++([sv.den β]++L.drop (off+1))=L.set off (sv.den β):=by intro L hL;rw[Yx,if_pos hL];rfl
     cases hr:r.cs with
     |own a b c=>unfold Row.fixed at hf;rw[hr]at hf;cases hf
     |dead=>unfold Row.fixed at hf;rw[hr]at hf;cases hf
     |dG g cs=>rw[hr]at hlt;simp only[Cells.den,Yi,X7];rw[key cs hlt];congr 1;have:(SV.den β ∘ SV.val)=id:=rfl;rw[this,YE]
     |j5 g cs=>rw[hr]at hlt;simp only[Cells.den,Yi];rw[key _ (by simpa[Cells.len]using hlt)]
     |an cs=>rw[hr]at hlt;simp only[Cells.den,Yi,X7];rw[key cs hlt];congr 1;have:(SV.den β ∘ SV.val)=id:=rfl;rw[this,YE]
     |dK cs=>rw[hr]at hlt;simp only[Cells.den,Yi];rw[key _ (by simpa[Cells.len]using hlt)]
    ·trivial
   ·split
    ·rename_i l _ _
     split
     ·rename_i hh
      rw[XC,XC,XC]at hh;have h0:=Xz hh.1.1;have hs:=Xz hh.1.2;have hl:=Xz hh.2.1;have ho:=bn hh.2.2;have hcells:(SV.den β (.dX l)).cells.toList=l.map (Atom.den β):=rfl;intro _;refine main hf inf (SV.den β (.dX l)) _ rfl hi (by rw[hcells,Ys,hl]) (fun u hu=>?_) (by omega) ?_
      ·rw[hcells]at hu
       obtain⟨x,hx,rfl⟩:=XO.1 hu;exact Atom.one_den (ho x hx)
      ·subst h0
       have hsv:(l.map Atom.sv).map (SV.den β)=l.map (Atom.den β):=by rw[X7];exact XN fun x _=>Atom.tq
       rw[Y1,Yp,Yo (by rw[Cells.jm];omega),Yg,hcells];cases hr:r.cs with
       |own a b c=>unfold Row.fixed at hf;rw[hr]at hf;cases hf
       |dead=>unfold Row.fixed at hf;rw[hr]at hf;cases hf
       |dG g cs=>exact hsv.symm
       |j5 g cs=>exact hsv.symm
       |an cs=>exact hsv.symm
       |dK cs=>exact hsv.symm
     ·trivial
    ·trivial
theorem EP{t:TypeId}{x y:Operand}{i off:Nat}{r:Row}{sv:SV}{cs':List Value}(ho:o.op=.store t x y)(hx:a.eval x=.pointer (some ⟨β i,off,none⟩))(hy:a.eval y=sv.den β)(hb:br β W i r):(bY P t i r off sv cs').Ok P β W a o:=by
 have main:r.fixed=true→∀(inf:TypeInfo) (v:Value) (row':List Value),sv.den β=v→P.info? t=some inf→v.cells.toList.length=inf.size→(∀u∈v.cells.toList,u.oneCell'=true)→off+inf.size≤r.cs.len→
   (r.cs.den β).take off++(v.cells.toList++(r.cs.den β).drop (off+inf.size))=row'→∃W',(execOp a.eval o).run P W=.ok .skip W'∧aw W' (β i) r.ty row'∧ai [β i] W W':=by
  intro hf inf v row' hv hi hl h1 hle hrow;have hb:=hb.cw hf;have hth:W.there (β i) off v.cells.size:=ug hb (by rw[Cells.jm];simp at hl;omega);have hrun:=kI (P:=P) (β i) off t v hth (by rw[hi];simp at hl ⊢;omega) h1;refine⟨W.setCells (β i) off v.cells.toList,?_,?_,ai.qa _ (.inl (by simp)) _ _ (ai.refl _ _)⟩
  ·unfold execOp
   simp only[ho,hx,hy,hv,XE,YI,X4,XP,XF,hrun]
  ·have:=hb.setCells v.cells.toList off (by rw[Cells.jm,hl];exact hle)
   rw[hl,hrow]at this;exact this
 unfold bY;split
 ·trivial
 ·rename_i inf hi
  split
  ·rename_i v
   split
   ·rename_i hh
    rw[XC]at hh;have hl:=Xz hh.1;have h1:=bn hh.2;split
    ·rename_i cs hcs
     intro hob;have hob:=hob _ rfl;refine main (by unfold Row.fixed;rw[hcs]) inf v _ rfl hi hl h1 (by rw[hcs];exact hob.1) ?_;rw[hcs];exact hob.2
    ·rename_i cs hcs
     intro hob;have hob:=hob _ rfl;refine main (by unfold Row.fixed;rw[hcs]) inf v _ rfl hi hl h1 (by rw[hcs];exact hob.1) ?_;rw[hcs];exact hob.2
    ·trivial
   ·trivial
  ·trivial
theorem ID{α:Type}(L:List α)(o N off:Nat)(xs cs:List α)(hx:(L.drop o).take N=xs)(hl:xs.length=N)(hfit:off+cs.length≤xs.length):((splice L (o+off) cs).drop o).take N=xs.take off++(cs++xs.drop (off+cs.length)):=by
 have hL:o+N≤L.length∨N=0:=by have:=congrArg Zd hx;rw[XM,X6,hl]at this;omega
 rcases hL with hL|hN
 ·apply List.ext_getElem?
  intro j;unfold splice;rw[XQ];by_cases hj:j < N
  ·rw[if_pos hj,XR]
   have hxj:∀i,i < N→xs[i]?=L[o+i]?:=fun i hi=>by rw[←hx,XQ,if_pos hi,XR]
   by_cases h1:j < off
   ·rw[XI (by rw[XM];omega),XI (by rw[XM];omega),XQ,XQ,if_pos (by omega),if_pos h1,hxj j hj]
   ·have hl1:(L.take (o+off)++(cs++L.drop (o+off+cs.length)))[o+j]?=(cs++L.drop (o+off+cs.length))[j - off]?:=by
     rw[XG (by rw[XM];omega),XM,Y0 (by omega)];congr 1;omega
    have hr1:(xs.take off++(cs++xs.drop (off+cs.length)))[j]?=(cs++xs.drop (off+cs.length))[j - off]?:=by rw[XG (by rw[XM];omega),XM,Y0 (by omega)]
    rw[hl1,hr1];by_cases h2:j < off+cs.length
    ·rw[XI (by omega),XI (by omega)]
    ·have a1:(cs++L.drop (o+off+cs.length))[j - off]?=L[o+j]?:=by
      rw[XG (by omega),XR];congr 1;omega
     have a2:(cs++xs.drop (off+cs.length))[j - off]?=xs[j]?:=by rw[XG (by omega),XR];congr 1;omega
     rw[a1,a2,hxj _ hj]
  ·rw[if_neg hj]
   symm;apply List.getElem?_eq_none;simp only[XT,XM,X6];omega
 ·subst hN
  have:xs=[]:=XV hl;subst this;have:cs=[]:=XV (by rw[Yr]at hfit;omega);subst this;simp
theorem Cf{t:TypeId}{x y:Operand}{i off:Nat}{r:Row}{sv:SV}(ho:o.op=.store t x y)(hx:a.eval x=(SV.nK i off).den β)(hy:a.eval y=sv.den β)(hb:br β W i r):(bL P t i r off sv).Ok P β W a o:=by
 unfold bL;split
 ·rename_i size n xs hcs
  unfold br at hb;rw[hcs]at hb;split
  ·rename_i inf hi
   split
   ·rename_i v
    split
    ·rename_i hh
     simp only[XC]at hh;obtain⟨h1,h2,h3⟩:=hh;have h1:=Xz h1;have h2:=bn h2;have h3:0 < inf.size:=XB h3;intro hob;have hfit:=hob _ rfl;obtain⟨hn,hown⟩:=hb;rcases hown.2 with⟨hv,h0⟩ | ⟨g,o',c',L,hv,hg,hnc,hcm,hL,hxs⟩
     ·have:=hown.len
      rw[h0,YQ]at this;omega
     ·injection hv with ha _ hc
      have hlen:=hown.len;have hns:n*size≤c'*size:=Yd _ hnc;have hth:W.there g (o'+off) v.cells.size:=ug hg (by simp at h1;omega);have hrun:=kI (P:=P) g (o'+off) t v hth (by rw[hi];simp at h1 ⊢;omega) h2;have hset:=hg.setCells v.cells.toList (o'+off) (by omega);have hx':a.eval x=.pointer (some ⟨g,o'+off,none⟩):=by rw[hx];simp only[SV.den,ha,X8,Addr.add_mid]
      refine⟨W.setCells g (o'+off) v.cells.toList,?_,?_,?_⟩
      ·unfold execOp
       simp only[ho,hx',hy,SV.den,XE,YI,X4,XP,XF,hrun]
      ·show β.n i=n∧Own _ r.ty size (.slice (β.a i) n (β.c i)) n _
       refine⟨hn,?_,.inr ⟨g,o',c',_,by rw[ha,hc],hset,hnc,hcm,?_,?_⟩⟩
       ·simp only[XT,XM,X6,h1]
        omega
       ·simp only[XT,XM,X6]
        omega
       ·have:=ID L o' (n*size) off xs v.cells.toList hxs hlen (by omega)
        rw[h1]at this;unfold splice at this;rw[h1]at this;rw[h1];exact this
      ·have e:az β i ⟨r.ty,.own size n (xs.take off++(v.cells.toList++xs.drop (off+inf.size)))⟩=some g:=by
        show(β.a i).map _=_;rw[ha];rfl
       rw[e];exact ai.qa _ (.inl (by simp)) _ _ (ai.refl _ _)
    ·trivial
   ·trivial
  ·trivial
 ·trivial
theorem foldl_set:∀(l:List Value) (k:Nat) (z:Array Value),z.size=k+l.length→(l.zipIdx k).foldl (fun(cs:Array Value) (x:Value×Nat)=>cs.setIfInBounds (0+x.2) x.1) z=(z.toList.take k++l).toArray
 | [],k,z,h=>by simp only[Yr,YR]at h;rw[List.zipIdx_nil,List.foldl_nil,Yg,YM (by simp;omega)]
 |v::l,k,z,h=>by simp only[XU]at h;rw[Ym,YF,foldl_set l (k+1) _ (by simp;omega)];apply congrArg List.toArray;simp only[Yj,YG];rw[Yy (by simp;omega),YP,YT (Yh _)];simp
theorem Nv(size:Nat)(v:Value)(z:Array Value)(hz:z.size=size)(hv:v.cells.size=size):Yt (fun i=>some (i*size,size)) z [(0,v)]=some v.cells:=by
 have h:=foldl_set v.cells.toList 0 z (by simp;omega);have e1:(v.cells.size≠size||0*size+v.cells.size > z.size)=false:=by simp[hv,hz]
 unfold Yt;simp only[e1,Bool.false_eq_true,if_false];unfold Yt;apply congrArg some;rw[←YU,show v.cells.zipIdx.toList=v.cells.toList.zipIdx 0 by simp];simp only[YQ];rw[h];simp
theorem qM{β:Env}{a:Act}{e:Operand→Option SV}:∀{l:List (Nat×Operand)} {k:Nat} {vs:List Value},oY e k l=some vs→(∀i x,(i,x)∈l→∀sv,e x=some sv→a.eval x=sv.den β)→(l.map fun p=>(p.1,a.eval p.2))=(vs.zipIdx k).map fun x=>(x.2,x.1)
 | [],k,vs,h,_=>by
  have:vs=[]:=by simpa[oY]using h.symm
  subst this;rfl
 | (i,x)::r,k,vs,h,he=>by
  unfold oY at h;simp only at h;split at h
  ·rename_i hi
   split at h
   ·rename_i v hx
    split at h
    ·rename_i l hl
     cases h;have h1:=qM hl fun i x hm=>he i x (XD _ hm);have h2:=he i x (by simp) _ hx;rw[XL,Ym,XL,h1];simp only[h2,SV.den,Xz hi]
    ·cases h
   ·cases h
  ·cases h
theorem Eb{P:Program}{β:Env}{W:World}{a:Act}{o:Oper}{e:Operand→Option SV}{t:TypeId}{len:Nat}{parts:Array (Nat×Operand)}(ho:o.op=.buildSlice t len parts)(he:∀i x,(i,x)∈parts.toList→∀sv,e x=some sv→a.eval x=sv.den β):(ll P e t len parts.toList).Ok P β W a o:=by
 unfold ll;split
 ·rename_i vs hvs
  have hp:=qM hvs he;split
  ·rename_i el hu
   split
   ·rename_i inf hi
    split
    ·rename_i z hz
     split
     ·rename_i hh
      simp only[XC]at hh;obtain⟨h1,h2,h3,h4,h5,h6⟩:=hh;have h1':∀v∈vs,v.cells.size=inf.size:=fun v hv=>by have:=Xz (bn h1 v hv);simpa using this
      have h2:=Xz h2;have h3:=Xz h3;have h4:=XB h4;have h5:0 < inf.size:=XB h5;have h6:0 < len:=XB h6;have hpos:0 < len*inf.size:=Zg h6 h5;show _=_;have hfill:=Great.fill_whole h5 vs ((Y9 (len*inf.size)).map (z.cells[·%z.cells.size]!)) h1' (by simp[h2]);rw[←hp]at hfill;have hrun:=run_buildSlice (P:=P) W t el len (parts.map fun(i,x)=>(i,a.eval x)) _ inf z hu hi hz (by omega) (by omega) (by rw[X5];exact hfill);unfold execOp;simp only[ho,XE,hrun,XF,XP,pq,Cells.den]
     ·trivial
    ·trivial
   ·trivial
  ·trivial
 ·trivial
theorem gj{P:Program}{e:Operand→Option SV}{t:TypeId}{len:Nat}{parts:List (Nat×Operand)}{r:rZ}(h:ll P e t len parts=r):r=.bad∨∃el cs ln,r=.alloc el (.an cs) ln:=by
 unfold ll at h;repeat' (split at h)
 all_goals first
  |exact .inl h.symm
  |exact .inr ⟨_,_,_,h.symm⟩
theorem eR{P:Program}{r0 r:rZ}(h:tW P r0=r):r=.bad∨∃el sz n cs,r=.grow none el sz n cs none:=by
 unfold tW at h;repeat' (split at h)
 all_goals first
  |exact .inl h.symm
  |exact .inr ⟨_,_,_,_,h.symm⟩
theorem JY{P:Program}{β:Env}{W:World}{a:Act}{o:Oper}{r:rZ}(h:r.Ok P β W a o):(tW P r).Ok P β W a o:=by
 unfold tW;split
 ·rename_i el cs n
  split
  ·rename_i inf hi
   split
   ·rename_i hb
    rw[XC]at hb;have h1:=Xz hb.1;have h2:=XB hb.2;intro _;have hrun:(execOp a.eval o).run P W=.ok (.value (pq W.heap.size (some n))) (W.alloc (.cells cs.toArray el)):=h;have ho:=Own.made W el inf.size n n cs (Yh _) (by unfold maxLen;omega) h1;rw[YM (by omega)]at ho;refine⟨some ⟨W.heap.size,0,none⟩,n,_,[],hrun,ho,(ai.refl [] W).alloc _,by simp,fun k hk=>.inr ?_⟩;have:W.heap.size=k:=by simpa using hk
    omega
   ·trivial
  ·trivial
 ·trivial
theorem JO{c:Call}{t:TypeId}{x:Operand}(h:FM c=some (t,x)):c={ callee:=.builtin .len,args:=#[x],argTypes:=#[t] }:=by
 obtain⟨callee,args,ats⟩:=c;unfold FM at h;split at h
 ·rename_i b hb
  split at h
  ·split at h
   ·rename_i y u hy hu
    simp only at hb hy hu;injection h with h;injection h with h1 h2;subst h1;subst h2;have e1:args=#[y]:=by rw[←XZ,hy]
    have e2:ats=#[u]:=by rw[←XZ,hu]
    rw[hb,e1,e2]
   ·cases h
  ·cases h
 ·cases h
theorem Eh{t e sz bytes:Nat}(h:Ei P t=some (e,sz,bytes)):∃inf z,P.underlying t=some (.slice e)∧P.info? e=some inf∧inf.zero=some z∧inf.size=sz∧inf.bytes=bytes∧z.cells.size=sz∧0 < sz:=by
 unfold Ei at h;split at h
 ·rename_i e' hu
  split at h
  ·rename_i inf hi
   split at h
   ·rename_i z hz
    split at h
    ·rename_i hb
     rw[XC]at hb;injection h with h;injection h with h1 h2;injection h2 with h2 h3;subst h1;subst h2;subst h3;exact⟨inf,z,hu,hi,hz,rfl,rfl,Xz hb.1,XB hb.2⟩
    ·cases h
   ·cases h
  ·cases h
 ·cases h
theorem Tr{c:Call}{w0:bu}(ho:o.op=.call c)(hw:ai w0.S w0.w W)(he:∀x∈o.op.operands,∀sv,e x=some sv→a.eval x=sv.den β)(hr:∀i r,i∈aF e o→row i=some r→br β W i r):(fJ P w0 hn e row o c).Ok P β W a o:=by
 unfold fJ;split
 ·rename_i t x hla
  have hc:c={ callee:=.builtin .len,args:=#[x],argTypes:=#[t] }:=JO hla;have mem:x∈o.op.operands:=by simp[ho,XA,Call.operands,hc]
  have key:∀A n c',P.underlying t=some c'→(∃el,c'=.slice el)→∀cap,a.eval x=.slice A n cap→(execOp a.eval o).run P W=.ok (.value (.int .i64 (n:Int))) W:=by intro A n c' hu hel cap hx;obtain⟨el,rfl⟩:=hel;unfold execOp;simp[ho,hc,resolve,invoke,builtin,Builtin.len_,hx,run_underlying hu,goInt]
  split
  ·rename_i i hx
   have hx':=he x mem _ hx;split
   ·rename_i r hrow
    have hh:=hr i r (by simp[aF,ho,hc,hx,gN]) hrow;split
    ·rename_i size n xs hcs
     unfold br at hh;rw[hcs]at hh;split
     ·rename_i el hu
      intro _;have:=key (β.a i) (β.n i) _ hu ⟨el,rfl⟩ (β.c i) hx';rw[hh.1]at this;exact this
     ·trivial
    ·trivial
   ·trivial
  ·rename_i i off n cap hx
   have hx':=he x mem _ hx;split
   ·rename_i el hu
    intro _;exact key _ n _ hu ⟨el,rfl⟩ cap hx'
   ·trivial
  ·rename_i i off n cut hx
   have hx':=he x mem _ hx;split
   ·rename_i el hu
    intro _;exact key _ n _ hu ⟨el,rfl⟩ _ hx'
   ·trivial
  ·exact Ip hw he
 ·exact Ip hw he
theorem N3{d:Nat}{lo:Option Operand}{k:Int}(h:VO e d lo=some k)(hm:∀x,lo=some x→x∈o.op.operands)(he:∀x∈o.op.operands,∀sv,e x=some sv→a.eval x=sv.den β):(lo=none∧k=d)∨∃x kk,lo=some x∧a.eval x=.int kk k:=by
 cases lo with
 |none=>simp only[VO,XW.injEq]at h;exact .inl ⟨rfl,h.symm⟩
 |some x=>
  unfold VO at h;split at h
  ·cases ‹some x=none›
  ·rename_i y hy
   cases hy;split at h
   ·rename_i kk k' hx
    cases h;exact .inr ⟨x,kk,rfl,he x (hm x rfl) _ hx⟩
   ·cases h
theorem TL{t:TypeId}{x:Operand}{lo hi:Option Operand}{i:Nat}(ho:o.op=.slice t x lo hi none)(hx:a.eval x=β.sl i)(he:∀x∈o.op.operands,∀sv,e x=some sv→a.eval x=sv.den β)(hr:∀r,row i=some r→br β W i r):(lg P hn e row t i lo hi).Ok P β W a o:=by
 unfold lg;split
 ·rename_i r hrow
  have hh:=hr r hrow;split
  ·rename_i size n xs hcs
   unfold br at hh;rw[hcs]at hh;split
   ·rename_i el sz W9 hty
    split
    ·rename_i hb
     have hb:=Xz hb;obtain⟨inf,z,hu,hi',_,hs,_,_,_⟩:=Eh hty;split
     ·rename_i kl kh hkl hkh
      split
      ·rename_i l u
       intro hob;obtain⟨h1,h2,h3,h4⟩:=hob _ rfl;subst h1;subst h2;obtain⟨_,_,hv,hnc,_⟩:=hh.2.form;injection hv with _ _ hcc;have hl:=N3 (o:=o) hkl (fun y hy=>by subst hy;simp[ho,XA]) he;have hu':=N3 (o:=o) hkh (fun y hy=>by subst hy;simp[ho,XA]) he;have e1:(0:Int)≤(u:Int)∧(u:Int)≤(β.c i:Nat):=by omega
       have e2:(0:Int)≤(l:Int)∧(l:Int)≤(u:Nat):=by omega
       have hbs:∀(H:Option Value) (Lo:Option Value),(H=none∧(u:Int)=n∨∃kk,H=some (.int kk (u:Int)))→(Lo=none∧(l:Int)=0∨∃kk,Lo=some (.int kk (l:Int)))→(Ya true n (β.c i) Lo H none).run P W=.ok (l,u,β.c i) W:=by
        intro H Lo hH hLo;rcases hH with⟨rfl,hu0⟩ | ⟨kk,rfl⟩<;>rcases hLo with⟨rfl,hl0⟩ | ⟨kk',rfl⟩
        ·have:n=u:=by omega
         have:l=0:=by omega
         subst this;simp[Ya, *]
        ·have:n=u:=by omega
         subst this;simp[Ya,YA,asIntOf,h3]
        ·have:l=0:=by omega
         subst this;have:u≤β.c i:=by omega
         simp[Ya,YA,asIntOf,this]
        ·have:u≤β.c i:=by omega
         simp[Ya,YA,asIntOf,this,h3]
       have hH:(hi.map a.eval=none∧(u:Int)=n∨∃kk,hi.map a.eval=some (.int kk (u:Int))):=by
        rcases hu' with⟨rfl,h⟩ | ⟨y,kk,rfl,h⟩
        ·exact .inl ⟨rfl,h⟩
        ·exact .inr ⟨kk,by rw[X8,h]⟩
       have hL:(lo.map a.eval=none∧(l:Int)=0∨∃kk,lo.map a.eval=some (.int kk (l:Int))):=by
        rcases hl with⟨rfl,h⟩ | ⟨y,kk,rfl,h⟩
        ·exact .inl ⟨rfl,h⟩
        ·exact .inr ⟨kk,by rw[X8,h]⟩
       have hrun:=hbs _ _ hH hL;have hn':=hh.1;subst hn';unfold execOp;simp only[ho,hx,Env.sl,Y3,XE,run_underlying hu,XF,Instr.slice,hrun,sizeOf,typeInfo,Option.map_none];simp[hi',SV.den,hs,hb]
      ·trivial
     ·trivial
    ·trivial
   ·trivial
  ·trivial
 ·trivial
theorem Lh{t:TypeId}{x:Operand}{lo hi mx:Option Operand}{w0:bu}(ho:o.op=.slice t x lo hi mx)(hw:ai w0.S w0.w W)(he:∀x∈o.op.operands,∀sv,e x=some sv→a.eval x=sv.den β)(hr:∀i r,i∈aF e o→row i=some r→br β W i r):(de P w0 hn e row o t x lo hi mx).Ok P β W a o:=by
 unfold de;split
 ·rename_i i hx
  split
  ·exact TL ho (he x (by simp[ho,XA]) _ hx) he (fun r hr'=>hr i r (by simp[aF,ho,hx]) hr')
  ·trivial
 ·exact gQ hw he
theorem p6{β:Env}{a:Act}{e:Operand→Option SV}:∀{xs:List Operand} {l:List SV},kH e xs=some l→(∀x∈xs,∀sv,e x=some sv→a.eval x=sv.den β)→xs.map a.eval=l.map (SV.den β)
 | [],l,h,_=>by
  have:l=[]:=by simpa[kH]using h.symm
  subst this;rfl
 |x::r,l,h,he=>by
  unfold kH at h;split at h
  ·rename_i sv l' hx hr
   cases h;rw[XL,XL,he x (by simp) _ hx,p6 hr fun y hy=>he y (by simp[hy])]
  ·cases h
theorem sZ{c:Call}{r:gV}(ho:o.op=.call c)(he:∀x∈o.op.operands,∀sv,e x=some sv→a.eval x=sv.den β):(bU P e c r).Ok P β W a o:=by
 unfold bU;split
 ·rename_i f hcal
  split
  ·rename_i fn hf
   split
   ·rename_i hb
    rw[YS]at hb;split
    ·rename_i l hl
     have hm:=p6 (β:=β) (a:=a) hl (fun x hx sv hsv=>he x (by obtain⟨callee,args,ats⟩:=c;simp only at hcal hx;subst hcal;have hx:x∈args:=Yc.1 hx;simp[ho,XA,Call.operands,hx]) sv hsv);have hm2:c.args.map a.eval=(l.map (SV.den β)).toArray:=by rw[←hm,←X5,X3]
     show _=_;obtain⟨callee,args,ats⟩:=c;simp only at hcal hm2;subst hcal;unfold execOp;simp only[ho,resolve,Act.eval,Deferred.ofValue,invoke,callFunc,XE,XP,XF];have hb1:¬fn.name= "runtime.NumGoroutine":=by simpa using hb.1
     have hb2:¬fn.body=none:=by intro h;rw[h]at hb;exact absurd hb.2 (by decide)
     simp[hf,hb1,hb2,hm2]
    ·trivial
   ·trivial
  ·trivial
 ·trivial
theorem eD{P:Program}{e:Operand→Option SV}{row:Nat→Option Row}{c:Call}{hh:Hint}{r:rZ}(h:gL P e row c hh=r):r=.bad∨∃f args x,r=.fB f args x:=by
 unfold gL at h;repeat' (split at h)
 all_goals first
  |exact .inl h.symm
  |exact .inr ⟨_,_,_,h.symm⟩
theorem D8{c:Call}{hh:Hint}(ho:o.op=.call c)(he:∀x∈o.op.operands,∀sv,e x=some sv→a.eval x=sv.den β):(gL P e row c hh).Ok P β W a o:=by
 unfold gL;split
 ·rename_i p cs v
  have h:=sZ (P:=P) (W:=W) (r:=.val v) ho he;split
  ·rename_i f args r' hr
   rw[hr]at h;repeat' split
   all_goals first|exact h|trivial
  ·trivial
 ·have h:=sZ (P:=P) (W:=W) (r:=.val undef) ho he
  split
  ·rename_i f args r' hr
   rw[hr]at h;exact h
  ·trivial
 ·trivial
theorem NU{c:Call}{r:gV}(ho:o.op=.call c)(he:∀x∈o.op.operands,∀sv,e x=some sv→a.eval x=sv.den β):(dA P e c r).Ok P β W a o:=by
 have h:=sZ (P:=P) (W:=W) (r:=r) ho he;unfold dA;split
 ·rename_i f args r' hr
  rw[hr]at h;split
  ·rename_i i
   split
   ·exact h
   ·trivial
  ·trivial
 ·trivial
theorem rU{c:Call}{t:TypeId}{x y:Operand}(h:BN c=some (t,x,y)):c={ callee:=.builtin .append,args:=#[x,y],argTypes:=#[t,t] }:=by
 obtain⟨callee,args,ats⟩:=c;unfold BN at h;split at h
 ·rename_i b hb
  split at h
  ·split at h
   ·rename_i x' y' t' u' hx ht
    split at h
    ·rename_i hq
     have hq:=Xz hq;simp only at hb hx ht;injection h with h;injection h with h1 h2;injection h2 with h2 h3;subst h1;subst h2;subst h3;subst hq;have e1:args=#[x',y']:=by rw[←XZ,hx]
     have e2:ats=#[t',t']:=by rw[←XZ,ht]
     rw[hb,e1,e2]
    ·cases h
   ·cases h
  ·cases h
 ·cases h
theorem vS(w:World)(t ty e:TypeId)(i:TypeInfo)(z:Value)(size bytes:Nat)(ht:P.underlying t=some (.slice e))(hi:P.info? e=some i)(hz:i.zero=some z)
  (hsize:i.size=size) (hby:i.bytes=bytes) (hzs:z.cells.size=size) (hsz:0 < size)
  (v:Value) (n:Nat) (xs:List Value) (hown:Own w e size v n xs)
  (sp:Option Addr) (m c:Nat) (news:List Value) (hl:news.length=m*size) (hnews:0 < news.length→∃ad,sp=some ad∧∀(j:Nat) (u:Value),news[j]?=some u→w.cell? (ad.add j)=some u) (h1:∀u∈news,u.oneCell'=true)
  (h63:n+m≤maxLen) (hbytes:(n+m)*bytes≤140737488355328) :
  ∃A' c' w',(Builtin.append_ #[t,t] ty #[v,.slice sp m c]).run P w=.ok (.slice A' (n+m) c') w'∧Own w' e size (.slice A' (n+m) c') (n+m) (xs++news)∧ai v.ownBlock.toList w w'∧
   ((Ye A' (n+m) c').ownBlock=v.ownBlock∨∃k,(Ye A' (n+m) c').ownBlock=some k∧w.heap.size≤k):=by
 cases sp with
 |some ad=>
  refine oN w t ty e i z size bytes ht hi hz hsize hby hzs hsz v n xs hown ad m c news hl (fun j u hu=>?_) h1 h63 hbytes;have hpos:0 < news.length:=by have:=(XH.1 hu).1;omega
  obtain⟨ad',ha,hc⟩:=hnews hpos;cases ha;exact hc j u hu
 |none=>
  have h0:news=[]:=by
   rcases Yk news.length with h|h
   ·exact XV h
   ·obtain⟨ad,ha,_⟩:=hnews h;cases ha
  subst h0;have hm:m=0:=by
   rcases Yk m with h|h
   ·exact h
   ·have:=Zg h hsz
    simp at hl;omega
  subst hm;obtain⟨A,cap,rfl,hn,_⟩:=hown.form;rw[Yg,YR];refine⟨A,cap,w,?_,hown,ai.refl _ _,.inl rfl⟩;cases A<;>simp[Builtin.append_,run_underlying ht,sizeOf,typeInfo,hi,Builtin.lenOf,hn,Builtin.firstCells,storeCells]
theorem Cg{w0:bu}{size:Nat}{y:SV}{m:Nat}{news:List Value}{ob:Prop}(hw:ai w0.S w0.w W)(h:GI w0 row size hn y=some (m,news,ob))(hob:ob)(hl:news.length=m*size)(hr:∀j∈gN (some y),∀r,row j=some r→br β W j r) :
  ∃sp c,y.den β=.slice sp m c∧(0 < news.length→∃ad,sp=some ad∧∀(j:Nat) (u:Value),news[j]?=some u→W.cell? (ad.add j)=some u):=by
 unfold GI at h;split at h
 ·rename_i j off m' c
  split at h
  ·rename_i r hrow
   have hh:=hr j (by simp[gN]) r hrow;split at h
   ·rename_i cs hcs
    injection h with h;injection h with h1 h2;injection h2 with h2 h3;subst h1;subst h2;unfold br at hh;rw[hcs]at hh;refine⟨_,c,rfl,fun _=>⟨_,rfl,fun k u hu=>?_⟩⟩;rw[XQ]at hu;split at hu
    ·rw[XR]at hu
     rw[Addr.add_lit];exact aw.cell_of hh hu
    ·cases hu
   ·cases h
  ·cases h
 ·rename_i j
  split at h
  ·rename_i r hrow
   have hh:=hr j (by simp[gN]) r hrow;split at h
   ·rename_i sz n xs hcs
    injection h with h;injection h with h1 h2;injection h2 with h2 h3;subst h1;subst h2;unfold br at hh;rw[hcs]at hh;refine⟨β.a j,β.c j,by rw[←hh.1];rfl,fun hpos=>?_⟩;obtain⟨g,o',ha,hc⟩:=AS hh.2 (by rintro rfl;simp at hpos);refine⟨_,ha,fun k u hu=>?_⟩;rw[Addr.add_lit];exact hc k u hu
   ·cases h
  ·cases h
 ·rename_i j off m' cut
  split at h
  ·rename_i r hrow
   have hh:=hr j (by simp[gN]) r hrow;split at h
   ·rename_i sz n xs hcs
    injection h with h;injection h with h1 h2;injection h2 with h2 h3;subst h1;subst h2;subst h3;unfold br at hh;rw[hcs]at hh;refine⟨_,_,rfl,fun hpos=>?_⟩;obtain⟨g,o',ha,hc⟩:=AS hh.2 (by rintro rfl;simp at hpos);obtain⟨_,_,hv,hnc,_⟩:=hh.2.form;injection hv with _ _ hcc;have hxl:=hh.2.len;have hlt:off < xs.length:=by rw[XM,X6]at hpos;omega
    have hcut:cut < n:=by
     rcases Nat.lt_or_ge cut n with h|h
     ·exact h
     ·have:=Yd sz h
      rw[hxl,hob.1]at hlt;omega
    rw[if_neg (by omega),ha];refine⟨_,rfl,fun k u hu=>?_⟩;rw[XQ]at hu;split at hu
    ·rw[XR]at hu
     have:=hc _ u hu;simp only[Addr.add_lit];rw[YL];exact this
    ·cases hu
   ·cases h
  ·cases h
 ·rename_i v
  split at h
  ·rename_i m' news'
   injection h with h;injection h with h1 h2;injection h2 with h2 h3;subst h1;subst h2;subst h3;obtain⟨A,c,hv,hc⟩:=hob W hw;exact⟨A,c,hv,hc⟩
  ·cases h
 ·cases h
theorem T6{c:Call}{w0:bu}{t:TypeId}{x y:Operand}{sx sy:SV}(ho:o.op=.call c)(hc:c={ callee:=.builtin .append,args:=#[x,y],argTypes:=#[t,t] })(hw:ai w0.S w0.w W)(hx:a.eval x=sx.den β)(hy:a.eval y=sy.den β)
  (hrx:∀i,sx=.own i→∀r,row i=some r→br β W i r) (hry:∀j∈gN (some sy),∀r,row j=some r→br β W j r):(gp P w0 row hn t sx sy).Ok P β W a o:=by
 have go:∀(kill:Option Nat) (el size n:Nat) (xs:List Value),Own W el size (sx.den β) n xs→(∀k,(sx.den β).ownBlock=some k→∃i,kill=some i∧(β.a i).map (·.block)=some k)→(lS P w0 row hn t kill el size n xs sy).Ok P β W a o:=by
  intro kill el size n xs hown hk;unfold lS;split
  ·rename_i e' sz bytes hty
   split
   ·rename_i hb
    rw[XC]at hb;have hb1:=Xz hb.1;have hb2:=Xz hb.2;subst hb1;subst hb2;obtain⟨inf,z,hu,hi,hz,hs,hby,hzs,hpos⟩:=Eh hty;split
    ·rename_i m news ob hsrc
     intro hob;obtain⟨h0,h1,h2,h3,h4⟩:=hob _ rfl;obtain⟨sp,cp,hsl,hcells⟩:=Cg hw hsrc h0 h1 hry;obtain⟨A',c',w',hrun,hown',hch,hbl⟩:=vS (P:=P) W t o.type e' inf z sz bytes hu hi hz hs hby hzs hpos (sx.den β) n xs hown sp m cp news h1 hcells h2 h3 h4;have hblk:∀k,A'.map (·.block)=some k→(Ye A' (n+m) c').ownBlock=some k:=by
      intro k hk;cases A' with
      |none=>cases hk
      |some ad=>simpa[Yb]using hk
     refine⟨A',c',w',(sx.den β).ownBlock.toList,?_,hown',hch,fun k hk'=>hk k (by simpa using hk'),fun k hk'=>?_⟩
     ·subst hc
      unfold execOp;simp only[ho,resolve,invoke,builtin,XE,XP,XF,YY,XL,Y8,hx,hy,hsl,hrun]
     ·have hk2:=hblk k hk'
      rcases hbl with hbl|⟨k',hk3,hlt⟩
      ·left;rw[←hbl,hk2];simp
      ·right;rw[hk3]at hk2;cases hk2;exact hlt
    ·trivial
   ·trivial
  ·trivial
 unfold gp;split
 ·rename_i i
  split
  ·rename_i r hrow
   have hh:=hrx i rfl r hrow;split
   ·rename_i size n xs hcs
    unfold br at hh;rw[hcs]at hh;refine go (some i) r.ty size n xs ?_ fun k hk=>⟨i,rfl,?_⟩
    ·show Own W r.ty size (.slice (β.a i) (β.n i) (β.c i)) n xs
     rw[hh.1];exact hh.2
    ·rw[←hk,←qh (n:=β.n i)];rfl
   ·trivial
  ·trivial
 ·split
  ·rename_i e' sz b hty
   exact go none e' sz 0 [] (Own.nil W _ _) (by simp[SV.den,Yb])
  ·trivial
 ·trivial
theorem yk:∀(l:List UInt8) (r:ByteArray),(l.map fun c=>(c.toNat:Int)).foldl (fun r n=>r.push (UInt8.ofNat n.toNat)) r=⟨(r.data.toList++l).toArray⟩
 | [],r=>by simp
 |c::l,r=>by rw[XL,YF,yk l];congr 1;simp[ByteArray.push]
theorem IL{P:Program}{W:World}{s d:TypeId}(hb:Bi P s d=true)(b:ByteArray)(sp:Option Addr)(c m:Nat)(news:List Value)(h1:b.size=m)(h2:news=b.data.toList.map fun c=>.int .u8 (c.toNat:Int))
  (hc:0 < news.length→∃ad,sp=some ad∧∀(j:Nat) (u:Value),news[j]?=some u→W.cell? (ad.add j)=some u):(convert s d (.slice sp m c)).run P W=.ok (.string b) W:=by
 unfold Bi at hb;split at hb
 ·rename_i el hs
  split at hb
  ·rename_i hd
   split at hb
   ·rename_i he
    rw[run_convert_bytes_string W s d el sp m c hs he hd];have hm:news.length=m:=by rw[h2,Ys,←h1];rfl
    have e:news=(b.data.toList.map fun c=>(c.toNat:Int)).map (Ze .u8):=by rw[h2,X7];rfl
    cases sp with
    |none=>
     have h0:news.length=0:=by
      rcases Yk news.length with h|h
      ·exact h
      ·obtain⟨_,h,_⟩:=hc h;cases h
     have hz:b.data.toList=[]:=by
      have:b.data.toList.length=0:=by rw[h2,Ys]at h0;exact h0
      exact XV this
     have hb0:b=ByteArray.empty:=by
      cases b with
      |mk a=>have:a=#[]:=XZ.1 hz;rw[this];rfl
     rw[hb0];rfl
    |some a=>
     have hl:(loadCells a m).run P W=.ok ((b.data.toList.map fun c=>(c.toNat:Int)).map (Ze .u8)).toArray W:=by
      rw[←hm,←e];refine run_loadCells_list (P:=P) W a news fun j v hj=>?_;have hp:0 < news.length:=by have:=(XH.1 hj).1;omega
      obtain⟨ad,ha,hh⟩:=hc hp;injection ha with ha;rw[ha];exact hh j v hj
     rw[run_bytesToString W a m c _ hl,yk];rfl
   ·cases hb
  ·cases hb
 ·cases hb
theorem Mq{w0:bu}{H:List (Nat×Hint)}(hw:ai w0.S w0.w W)(he:∀x∈o.op.operands,∀sv,e x=some sv→a.eval x=sv.den β)(hr:∀i r,i∈aF e o→row i=some r→br β W i r):(fZ P w0 H hn e row o).Ok P β W a o:=by
 have move:∀x,(o.op=.move x∨o.op=.assign x)→(dS P w0 hn e o x).Ok P β W a o:=by
  intro x ho;unfold dS;split
  ·rename_i sv hsv
   have hx:=he x (by rcases ho with ho|ho<;>simp[ho,XA]) _ hsv;split
   ·intro _
    unfold execOp;rcases ho with ho|ho<;>simp only[ho,hx]<;>rfl
   ·split
    ·intro _
     refine⟨none,0,W,[],?_,Own.nil W _ _,ai.refl _ _,by simp,by simp⟩;unfold execOp;rcases ho with ho|ho<;>simp only[ho,hx]<;>rfl
    ·intro _
     unfold execOp;rcases ho with ho|ho<;>simp only[ho,hx]<;>rfl
   ·exact gQ hw he
  ·trivial
 unfold fZ;split
 ·rename_i x ho;exact move x (.inl ho)
 ·rename_i x ho;exact move x (.inr ho)
 ·rename_i x ho
  split
  ·rename_i i off hx
   intro _;have hx:=he x (by simp[ho,XA]) _ hx;unfold execOp;simp only[ho,hx];rfl
  ·exact gQ hw he
 ·rename_i t ho
  split
  ·rename_i inf hi
   split
   ·rename_i z hz
    show _=_;unfold execOp;simp[ho,Instr.alloc,zeroValue,typeInfo,hi,hz,newVar,newRow,Cells.den,pq]
   ·trivial
  ·trivial
 ·rename_i t x ho
  split
  ·rename_i v hx
   have hx:=he x (by simp[ho,XA]) _ hx;show _=_;unfold execOp;simp[ho,hx,YO,newVar,newRow,Cells.den,SV.den,pq]
  ·rename_i l hx
   have hx:=he x (by simp[ho,XA]) _ hx;have hsv:(l.map Atom.sv).map (SV.den β)=l.map (Atom.den β):=by rw[X7];exact XN fun a _=>Atom.tq
   show _=_;unfold execOp;simp only[ho,hx,Cells.den,hsv];simp[YO,newVar,newRow,SV.den,pq,Value.cells]
  ·rename_i sv hnv _ hx
   split
   ·rename_i hone
    have hx:=he x (by simp[ho,XA]) _ hx;obtain⟨hc,_⟩:=qi hone β;show _=_;unfold execOp;simp[ho,hx,YO,newVar,newRow,Cells.den,hc,pq]
   ·trivial
  ·trivial
 ·rename_i t x ho
  split
  ·rename_i i off hx
   split
   ·rename_i r hrow
    split
    ·exact JN ho (he x (by simp[ho,XA]) _ hx) (hr i r (by simp[aF,ho,hx,gN]) hrow)
    ·exact Hs ho (he x (by simp[ho,XA]) _ hx) (hr i r (by simp[aF,ho,hx,gN]) hrow)
   ·trivial
  ·rename_i i off hx
   split
   ·rename_i r hrow
    split
    ·exact FF ho (he x (by simp[ho,XA]) _ hx) (hr i r (by simp[aF,ho,hx,gN]) hrow)
    ·trivial
   ·trivial
  ·split
   ·exact gQ hw he
   ·trivial
 ·rename_i t x y ho
  split
  ·rename_i i off hx
   split
   ·rename_i sv hy
    split
    ·rename_i r hrow
     split
     ·exact EP ho (he x (by simp[ho,XA]) _ hx) (he y (by simp[ho,XA]) _ hy) (hr i r (by simp[aF,ho,hx,gN]) hrow)
     ·exact Lc ho (he x (by simp[ho,XA]) _ hx) (he y (by simp[ho,XA]) _ hy) (hr i r (by simp[aF,ho,hx,gN]) hrow)
    ·trivial
   ·trivial
  ·rename_i i off hx
   split
   ·rename_i sv hy
    split
    ·rename_i r hrow
     exact Cf ho (he x (by simp[ho,XA]) _ hx) (he y (by simp[ho,XA]) _ hy) (hr i r (by simp[aF,ho,hx,gN]) hrow)
    ·trivial
   ·trivial
  ·trivial
 ·rename_i x k ho
  split
  ·rename_i l i r hx
   have hx:=he x (by simp[ho,XA]) _ hx;have key:∀v,(l++(β.sl i::r))[k]?=some v→(execOp a.eval o).run P W=.ok (.value v) W:=by
    intro v hv;unfold execOp;have:(l++(β.sl i::r)).toArray[k]?=some v:=by simpa using hv
    simp only[ho,hx,SV.den,Y4,this,XE,XP,XF]
   split
   ·rename_i hk
    have hk:=Xz hk;intro _;refine key _ ?_;rw[hk,XG (Yh _),YB];rfl
   ·split
    ·rename_i v hv
     intro _;refine key _ ?_;rw[XI (XH.1 hv).1];exact hv
    ·split
     ·rename_i hlt
      have hlt:l.length < k:=XB hlt;split
      ·rename_i v hv
       intro _;refine key _ ?_;rw[XG (by omega),show k - l.length=(k - l.length - 1)+1 by omega,X9];exact hv
      ·trivial
     ·trivial
  ·exact gQ hw he
 ·rename_i t len parts ho
  split
  ·exact JY (Eb ho fun i x hm sv hx=>he x (by simp only[ho,XA];simpa using ⟨i,by simpa using hm⟩) sv hx)
  ·split
   ·rename_i x hparts
    split
    ·rename_i v hx
     have hx:=he x (by
      have:(0,x)∈parts.toList:=by rw[hparts];simp
      simp only[ho,XA];simpa using ⟨0,by simpa using this⟩) _ hx
     split
     ·rename_i el hu
      split
      ·rename_i inf hi
       split
       ·rename_i z hz
        split
        ·rename_i hh
         simp only[XC]at hh;obtain⟨h1,h2,h3,h4⟩:=hh;have h1:=Xz h1;have h2:=Xz h2;have h3:=XB h3;have h4:0 < inf.size:=XB h4;show _=_;have hp:parts=#[(0,x)]:=by rw[←XZ,hparts]
         have hrun:=run_buildSlice (P:=P) W t el 1 #[(0,v)] v.cells inf z hu hi hz (by omega) (by omega) (Nv inf.size v _ (by simp) (by simpa using h1));unfold execOp;subst hp;simp only[ho,YY,XL,Y8,hx,SV.den,XE,hrun,XF,XP,pq,Cells.den]
        ·trivial
       ·trivial
      ·trivial
     ·trivial
    ·trivial
   ·exact Eb ho fun i x hm sv hx=>he x (by simp only[ho,XA];simpa using ⟨i,by simpa using hm⟩) sv hx
 ·rename_i s x f ho
  split
  ·rename_i i off hx
   have hx:=he x (by simp[ho,XA]) _ hx;split
   ·rename_i fields hu
    split
    ·rename_i fd hf
     split
     ·rename_i k hk
      intro _;cases hq:P.info? fd.type with
      |none=>rw[hq]at hk;cases hk
      |some inf=>
       rw[hq]at hk;have hk:inf.size=k+1:=by simpa using hk
       unfold execOp;simp[ho,hx,SV.den,YJ,run_underlying hu,hf,X4,fieldPlace,sizeOf,typeInfo,hq,hk,Addr.add_lit]
     ·trivial
    ·trivial
   ·trivial
  ·rename_i i off hx
   have hx':=he x (by simp[ho,XA]) _ hx;split
   ·rename_i r hrow
    have hh:=hr i r (by simp[aF,ho,hx]) hrow;split
    ·rename_i size n xs hcs
     unfold br at hh;rw[hcs]at hh;split
     ·rename_i fields hu
      split
      ·rename_i fd hf
       split
       ·rename_i k hk
        intro hob;obtain⟨g,o',c',hv,_⟩:=hh.2.some_ (hob _ rfl);injection hv with ha _ _;cases hq:P.info? fd.type with
        |none=>rw[hq]at hk;cases hk
        |some inf=>
         rw[hq]at hk;have hk:inf.size=k+1:=by simpa using hk
         unfold execOp;simp[ho,hx',SV.den,ha,YJ,run_underlying hu,hf,X4,fieldPlace,sizeOf,typeInfo,hq,hk,Addr.add_lit,YL]
       ·trivial
      ·trivial
     ·trivial
    ·trivial
   ·trivial
  ·exact gQ hw he
 ·rename_i t x ix ho
  split
  ·rename_i i off hx
   have hx:=he x (by simp[ho,XA]) _ hx;split
   ·rename_i len elem hu
    split
    ·rename_i kk k hk
     have hk:=he ix (by simp[ho,XA]) _ hk;split
     ·rename_i inf hi
      have key:0≤k∧k < len→(execOp a.eval o).run P W=.ok (.value (.pointer (some ⟨β i,off+k.toNat*inf.size,none⟩))) W:=by intro hb;unfold execOp;simp[ho,hx,hk,SV.den,Yw,run_underlying hu,asIntOf,X4,hb,sizeOf,typeInfo,hi,Addr.add_lit]
      split
      ·intro hob
       exact key (hob _ rfl)
      ·split
       ·rename_i hd
        intro _;exact key (of_decide_eq_true hd)
       ·trivial
     ·trivial
    ·trivial
   ·trivial
  ·rename_i i hx
   have hx':=he x (by simp[ho,XA]) _ hx;split
   ·rename_i r hrow
    have hh:=hr i r (by simp[aF,ho,hx]) hrow;split
    ·rename_i size n xs hcs
     unfold br at hh;rw[hcs]at hh;split
     ·rename_i kk k hk
      have hk:=he ix (by simp[ho,XA]) _ hk;split
      ·rename_i elem hu
       split
       ·rename_i inf hi
        split
        ·intro hob
         have hb:=hob _ rfl;have hne:0 < n:=by omega
         obtain⟨g,o',c',hv,_⟩:=hh.2.some_ hne;injection hv with ha _ _;have hbn:0≤k∧k < (β.n i:Int):=by rw[hh.1];exact hb
         unfold execOp;simp[ho,hx',hk,SV.den,Env.sl,Yw,run_underlying hu,asIntOf,ha,hbn,sizeOf,typeInfo,hi]
        ·trivial
       ·trivial
      ·trivial
     ·trivial
    ·trivial
   ·trivial
  ·exact gQ hw he
 ·rename_i s d x ho
  split
  ·rename_i sv hx
   have hx':=he x (by simp[ho,XA]) _ hx;split
   ·rename_i b
    split
    ·rename_i m news ob hsrc
     split
     ·rename_i hb
      intro hob;obtain⟨h0,h1,h2⟩:=hob _ rfl;have hl:news.length=m*1:=by rw[h2,Ys,Nat.mul_one,←h1];rfl
      obtain⟨sp,c,hd,hc⟩:=Cg hw hsrc h0 hl (fun j hj r hr'=>hr j r (by simp[aF,ho,hx,hj]) hr');unfold execOp;simp only[ho,hx',hd,XE,IL hb b sp c m news h1 h2 hc,XF,XP];rfl
     ·trivial
    ·exact gQ hw he
   ·exact gQ hw he
  ·exact gQ hw he
 ·rename_i t x lo hi mx ho
  exact Lh ho hw he hr
 ·rename_i c ho
  split
  ·exact sZ ho he
  ·exact NU ho he
  ·exact D8 ho he
  ·exact D8 ho he
  ·split
   ·rename_i t x y hap
    have hc:=rU hap;split
    ·rename_i sx sy hx hy
     exact T6 ho hc hw (he x (by simp[ho,XA,Call.operands,hc]) _ hx) (he y (by simp[ho,XA,Call.operands,hc]) _ hy)
      (fun i hi r hr'=>hr i r (by subst hi;simp[aF,ho,hc,hx,gN]) hr') (fun j hj r hr'=>hr j r (by simp[aF,ho,hc,hy,hj]) hr')
    ·trivial
   ·exact Tr ho hw he (fun i r hi hr'=>hr i r hi hr')
 ·exact gQ hw he
end
end Sx
open Go Go.RowKit Go.Lib Go.Sort
namespace Sx
section
variable{P:Program}{o:Oper}{e:Operand→Option SV}{row:Nat→Option Row}{hn:Option Hint}{Q:Nat→Prop}
def rZ.On(Q:Nat→Prop):rZ→Prop
 |.val sv _=>sv.on Q
 |.alloc _ cs _=>cs.on Q
 |.store i r _=>Q i∧r.cs.on Q
 |.grow kill _ _ _ _ _=>∀i,kill=some i→Q i
 |.eH i r _=>Q i∧r.cs.on Q
 |.gi _ i _=>Q i
 |.fB _ _ (.dW _ i r _)=>Q i∧r.cs.on Q
 |_=>True
theorem JX{P:Program}{r0:rZ}{Q:Nat→Prop}:(tW P r0).On Q:=by
 rcases eR (P:=P) (r0:=r0) rfl with h|⟨_,_,_,_,h⟩
 ·rw[h];exact Xy
 ·rw[h];intro i hi;cases hi
theorem N2{P:Program}{e:Operand→Option SV}{t:TypeId}{len:Nat}{parts:List (Nat×Operand)}{Q:Nat→Prop}:(ll P e t len parts).On Q:=by rcases gj (P:=P) (e:=e) (t:=t) (len:=len) (parts:=parts) rfl with h|⟨_,_,_,h⟩<;>rw[h]<;>exact Xy
theorem gP{w0:bu}:(bV P w0 hn e o).On Q:=by
 unfold bV;split
 ·exact Xy
 ·split
  ·split<;>exact Xy
  ·split<;>exact Xy
  ·split<;>exact Xy
  ·split<;>exact Xy
theorem Rq{w0:bu}:(dI P w0 hn e o).On Q:=by
 unfold dI;split
 ·split
  ·exact Xy
  ·split<;>exact Xy
 ·exact gP
theorem JM{t:TypeId}{r:Row}{off:Nat}{v:Value}:(cB P t r off v).On Q:=by
 unfold cB;split
 ·split
  ·split<;>trivial
  ·trivial
 ·trivial
theorem EO{t:TypeId}{r:Row}{i off:Nat}{sv:SV}{cs':List Value}(hi:Q i):(bY P t i r off sv cs').On Q:=by
 unfold bY;split
 ·trivial
 ·split
  ·split
   ·split
    ·exact⟨hi,trivial⟩
    ·exact⟨hi,trivial⟩
    ·trivial
   ·trivial
  ·trivial
theorem Qx{t:TypeId}{r:Row}{off:Nat}(h:r.cs.on Q):(cV P t r off).On Q:=by
 unfold cV;split
 ·exact Xy
 ·split
  ·split
   ·split
    ·split
     ·exact Xy
     ·split<;>exact Xy
    ·split
     ·exact Xy
     ·split<;>exact Xy
    ·rename_i cs hcs
     rw[hcs]at h;split
     ·split
      ·rename_i sv hsv
       exact Cu hsv h
      ·exact Xy
     ·exact Xy
    ·rename_i cs hcs
     rw[hcs]at h;split
     ·split
      ·rename_i sv hsv
       exact Cu hsv h
      ·exact Xy
     ·exact Xy
    ·exact Xy
   ·split
    ·split<;>exact Xy
    ·split<;>exact Xy
    ·rename_i cs hcs
     rw[hcs]at h;split
     ·rename_i v hv
      exact h v (XY hv)
     ·exact Xy
    ·rename_i cs hcs
     rw[hcs]at h;split
     ·rename_i v hv
      exact h v (XY hv)
     ·exact Xy
    ·exact Xy
  ·exact Xy
theorem FE{t:TypeId}{r:Row}{off:Nat}{v:Value}:(bS P t r off v).On Q:=by
 unfold bS;split
 ·split
  ·split
   ·split
    ·split<;>exact Xy
    ·exact Xy
   ·exact Xy
  ·exact Xy
 ·exact Xy
theorem Lb{t:TypeId}{r:Row}{i off:Nat}{sv:SV}(hi:Q i)(hs:sv.on Q)(h:r.cs.on Q):(dc P t i r off sv).On Q:=by
 unfold dc;split
 ·exact Xy
 split
 ·exact Xy
 ·split
  ·split
   ·split
    ·exact⟨hi,Iw⟩
    ·split
     ·refine⟨hi,?_⟩
      cases hc:r.cs with
      |an cs=>exact Xy
      |own a b c=>exact Xy
      |dead=>exact Xy
      |dG g cs=>exact Xy
      |dK cs=>
       rw[hc]at h;intro s hs;simp only[Yf,XO]at hs;rcases hs with hs|⟨v,_,rfl⟩ | hs
       ·exact h s (Yu hs)
       ·exact Xy
       ·exact h s (Yv hs)
      |j5 g cs=>
       rw[hc]at h;intro s hs;simp only[Yf,XO]at hs;rcases hs with hs|⟨v,_,rfl⟩ | hs
       ·exact h s (Yu hs)
       ·exact Xy
       ·exact h s (Yv hs)
     ·exact Xy
   ·exact Xy
  ·split
   ·split
    ·refine⟨hi,?_⟩
     cases hc:r.cs with
     |own a b c=>exact Xy
     |dead=>exact Xy
     |dG g cs=>
      intro s hm;rcases XS hm with hm|rfl
      ·obtain⟨v,_,rfl⟩:=XO.1 hm
       exact Xy
      ·exact hs
     |an cs=>
      intro s hm;rcases XS hm with hm|rfl
      ·obtain⟨v,_,rfl⟩:=XO.1 hm
       exact Xy
      ·exact hs
     |dK cs=>
      rw[hc]at h;intro s hm;rcases XS hm with hm|rfl
      ·exact h s hm
      ·exact hs
     |j5 g cs=>
      rw[hc]at h;intro s hm;rcases XS hm with hm|rfl
      ·exact h s hm
      ·exact hs
    ·exact Xy
   ·split
    ·rename_i l _ _
     split
     ·have hl:∀x∈l.map Atom.sv,x.on Q:=fun x hx=>by
       obtain⟨y,hy,rfl⟩:=XO.1 hx;exact Atom.Cc (hs y hy)
      refine⟨hi,?_⟩;cases hc:r.cs with
      |own a b c=>exact hl
      |dead=>exact hl
      |dG g cs=>exact hl
      |an cs=>exact hl
      |dK cs=>exact hl
      |j5 g cs=>exact hl
     ·exact Xy
    ·exact Xy
theorem nC{e:Operand→Option SV}:∀{xs:List Operand} {l:List SV},kH e xs=some l→∀sv∈l,∃x∈xs,e x=some sv
 | [],l,h,sv,hm=>by
  have:l=[]:=by simpa[kH]using h.symm
  subst this;cases hm
 |x::r,l,h,sv,hm=>by
  unfold kH at h;split at h
  ·rename_i sv' l' hx hr
   cases h;rcases X1.1 hm with rfl|hm
   ·exact⟨x,by simp,hx⟩
   ·obtain⟨y,hy,hey⟩:=nC hr sv hm
    exact⟨y,by simp[hy],hey⟩
  ·cases h
theorem kp{c:Call}{r r':gV}{f:FuncId}{args:List SV}(h:bU P e c r=.ct f args r'):∀sv∈args,∃x∈c.args.toList,e x=some sv:=by
 unfold bU at h;split at h
 ·split at h
  ·split at h
   ·split at h
    ·rename_i lv hlv
     injection h with h1 h2 h3;intro sv hsv;rw[←h2]at hsv;exact nC hlv sv hsv
    ·cases h
   ·cases h
  ·cases h
 ·cases h
theorem D7{c:Call}{hh:Hint}(ho:o.op=.call c)(he:∀x∈o.op.operands,∀sv,e x=some sv→sv.on Q):(gL P e row c hh).On Q:=by
 unfold gL;split
 ·rename_i p cs v
  split
  ·rename_i f args r' hr
   split
   ·rename_i i hp
    split
    ·split
     ·split
      ·refine⟨?_,Iw⟩
       obtain⟨x,hx,hex⟩:=kp hr (.ptr i 0) (XY hp);exact he x (by
        obtain⟨callee,args,ats⟩:=c;have hx':x∈args:=by simpa using hx
        simp only[ho,XA,Call.operands];cases callee<;>simp[hx']) _ hex
      ·exact Xy
     ·exact Xy
    ·exact Xy
   ·exact Xy
  ·exact Xy
 ·split<;>exact Xy
 ·exact Xy
theorem R7{w0:bu}{H:List (Nat×Hint)}(he:∀x∈o.op.operands,∀sv,e x=some sv→sv.on Q)(hr:∀i r,i∈aF e o→row i=some r→r.cs.on Q):(fZ P w0 H hn e row o).On Q:=by
 have move:∀x,(o.op=.move x∨o.op=.assign x)→(dS P w0 hn e o x).On Q:=by
  intro x ho;unfold dS;split
  ·rename_i sv hsv
   split
   ·exact he x (by rcases ho with ho|ho<;>simp[ho,XA]) _ hsv
   ·split
    ·intro i hi;cases hi
    ·exact he x (by rcases ho with ho|ho<;>simp[ho,XA]) _ hsv
   ·exact gP
  ·exact Xy
 unfold fZ;split
 ·rename_i x ho;exact move x (.inl ho)
 ·rename_i x ho;exact move x (.inr ho)
 ·rename_i x ho
  split
  ·rename_i i off hx
   exact he x (by simp[ho,XA]) _ hx
  ·exact gP
 ·split
  ·split<;>exact Xy
  ·exact Xy
 ·rename_i t x ho
  split
  ·exact Xy
  ·rename_i l hx
   intro s hs;obtain⟨y,hy,rfl⟩:=XO.1 hs;exact Atom.Cc (he x (by simp[ho,XA]) _ hx y hy)
  ·rename_i sv hnv _ hx
   split
   ·intro s hs
    rw[X0]at hs;subst hs;exact he x (by simp[ho,XA]) _ hx
   ·exact Xy
  ·exact Xy
 ·rename_i t x ho
  split
  ·rename_i i off hx
   split
   ·rename_i r hrow
    split
    ·exact JM
    ·exact Qx (hr i r (by simp[aF,ho,hx,gN]) hrow)
   ·exact Xy
  ·split
   ·split
    ·exact FE
    ·exact Xy
   ·exact Xy
  ·split
   ·exact gP
   ·exact Xy
 ·rename_i t x y ho
  split
  ·rename_i i off hx
   split
   ·rename_i sv hy
    split
    ·rename_i r hrow
     split
     ·exact EO (he x (by simp[ho,XA]) _ hx)
     ·exact Lb (he x (by simp[ho,XA]) _ hx) (he y (by simp[ho,XA]) _ hy) (hr i r (by simp[aF,ho,hx,gN]) hrow)
    ·exact Xy
   ·exact Xy
  ·rename_i i off hx
   split
   ·split
    ·unfold bL
     repeat' split
     all_goals first|exact Xy|exact⟨he x (by simp[ho,XA]) _ hx,Xy⟩
    ·exact Xy
   ·exact Xy
  ·exact Xy
 ·rename_i x k ho
  split
  ·rename_i l i r hx
   split
   ·exact he x (by simp[ho,XA]) _ hx
   ·split
    ·exact Xy
    ·split
     ·split<;>exact Xy
     ·exact Xy
  ·exact gP
 ·split
  ·exact JX
  ·split
   ·split
    ·split
     ·split
      ·split
       ·split<;>exact Xy
       ·exact Xy
      ·exact Xy
     ·exact Xy
    ·exact Xy
   ·exact N2
 ·rename_i s x f ho
  split
  ·rename_i i off hx
   split
   ·split
    ·split
     ·exact he x (by simp[ho,XA]) _ hx
     ·exact Xy
    ·exact Xy
   ·exact Xy
  ·rename_i i off hx
   repeat' split
   all_goals first|exact Xy|exact he x (by simp[ho,XA]) _ hx
  ·exact gP
 ·rename_i t x ix ho
  split
  ·rename_i i off hx
   split
   ·split
    ·split
     ·split
      ·exact he x (by simp[ho,XA]) _ hx
      ·split
       ·exact he x (by simp[ho,XA]) _ hx
       ·exact Xy
     ·exact Xy
    ·exact Xy
   ·exact Xy
  ·rename_i i hx
   split
   ·split
    ·split
     ·split
      ·split
       ·split
        ·exact he x (by simp[ho,XA]) _ hx
        ·exact Xy
       ·exact Xy
      ·exact Xy
     ·exact Xy
    ·exact Xy
   ·exact Xy
  ·exact gP
 ·split
  ·split
   ·split
    ·split<;>exact Xy
    ·exact gP
   ·exact gP
  ·exact gP
 ·rename_i t x lo hi mx ho
  unfold de;split
  ·rename_i i hx
   split
   ·unfold lg
    repeat' split
    all_goals first|exact Xy|exact he x (by simp[ho,XA]) _ hx
   ·exact Xy
  ·exact gP
 ·rename_i c ho
  split
  ·unfold bU
   repeat' split
   all_goals exact Xy
  ·rename_i r
   unfold dA;repeat' split
   all_goals first|exact Xy|skip
   rename_i rr args j hr b hsl;have ht:=kp hr _ (X0.2 rfl);obtain⟨x,hx,hex⟩:=ht;exact he x (by
    obtain⟨callee,args,ats⟩:=c;have hx':x∈args:=by simpa using hx
    simp only[ho,XA,Call.operands];cases callee<;>simp[hx']) _ hex
  ·exact D7 ho he
  ·exact D7 ho he
  ·split
   ·rename_i t x y hap
    have hc:=rU hap;split
    ·rename_i sx sy hx hy
     have go:∀{kill:Option Nat} {el size n:Nat} {xs:List Value},(∀i,kill=some i→Q i)→(lS P w0 row hn t kill el size n xs sy).On Q:=by
      intro kill el size n xs hk;unfold lS;repeat' split
      all_goals first|exact Xy|exact hk
     unfold gp;split
     ·split
      ·split
       ·refine go fun i hi=>?_
        cases hi;exact he x (by simp[ho,XA,Call.operands,hc]) _ hx
       ·exact Xy
      ·exact Xy
     ·split
      ·exact go fun i hi=>by cases hi
      ·exact Xy
     ·exact Xy
    ·exact Xy
   ·unfold fJ
    repeat' split
    all_goals first|exact Xy|exact Rq
 ·exact gP
theorem oF{w0:bu}{H:List (Nat×Hint)}{i:Nat}{r':Row}{ob:Option Prop}(h:fZ P w0 H hn e row o=.store i r' ob):i∈aF e o∧r'.fixed=true∧∃r,row i=some r∧r.fixed=true∧r'.cs.tag=r.cs.tag:=by
 have hp:∀(hn:Option Hint),bV P w0 hn e o≠.store i r' ob:=by
  intro hn h;unfold bV at h;repeat' (split at h)
  all_goals (cases h)
 have hc:dI P w0 hn e o≠.store i r' ob:=by
  intro h;unfold dI at h;repeat' (split at h)
  all_goals first | (cases h;done)|exact hp _ h
 have hmv:∀x,dS P w0 hn e o x≠.store i r' ob:=by
  intro x h;unfold dS at h;repeat' (split at h)
  all_goals first | (cases h;done)|exact hp _ h
 have hco:∀c r,bU P e c r≠.store i r' ob:=by
  intro c r h;unfold bU at h;repeat' (split at h)
  all_goals (cases h)
 have hap:∀t x y,gp P w0 row hn t x y≠.store i r' ob:=by
  intro t x y h;unfold gp lS at h;repeat' (split at h)
  all_goals (cases h)
 have hck:∀c r,dA P e c r≠.store i r' ob:=by
  intro c r h;unfold dA at h;repeat' (split at h)
  all_goals (cases h)
 have hso:∀t' j r off sv,bL P t' j r off sv≠.store i r' ob:=by
  intro t' j r off sv h;unfold bL at h;repeat' (split at h)
  all_goals (cases h)
 have hsl:∀t' x lo hi mx,de P w0 hn e row o t' x lo hi mx≠.store i r' ob:=by
  intro t' x lo hi mx h;unfold de lg at h;repeat' (split at h)
  all_goals first | (cases h;done)|exact hp _ h
 have hln:∀c,fJ P w0 hn e row o c≠.store i r' ob:=by
  intro c h;unfold fJ at h;repeat' (split at h)
  all_goals first | (cases h;done)|exact hc h
 have hl:∀t r off,cV P t r off≠.store i r' ob:=by
  intro t r off h;unfold cV at h;repeat' (split at h)
  all_goals (cases h)
 have hl2:∀t r off v,cB P t r off v≠.store i r' ob:=by
  intro t r off v h;unfold cB at h;repeat' (split at h)
  all_goals (cases h)
 have hl3:∀t r off v,bS P t r off v≠.store i r' ob:=by
  intro t r off v h;unfold bS at h;repeat' (split at h)
  all_goals (cases h)
 unfold fZ at h;split at h
 ·exact absurd h (hmv _)
 ·exact absurd h (hmv _)
 ·repeat' (split at h)
  all_goals first | (cases h;done)|exact absurd h (hp _) | (rcases eR h with h|⟨_,_,_,_,h⟩<;>(cases h;done)) | (rcases gj h with h|⟨_,_,_,h⟩<;>(cases h;done))
 ·repeat' (split at h)
  all_goals (cases h)
 ·repeat' (split at h)
  all_goals (cases h)
 ·repeat' (split at h)
  all_goals first | (cases h;done)|exact absurd h (hl _ _ _)|exact absurd h (hl2 _ _ _ _)|exact absurd h (hl3 _ _ _ _)|exact absurd h (hp _)
 ·rename_i t x y ho
  split at h
  ·rename_i j off hx
   split at h
   ·split at h
    ·rename_i r hrow
     have:j=i∧r'.fixed=true∧r.fixed=true∧r'.cs.tag=r.cs.tag:=by
      split at h
      ·unfold bY at h
       split at h
       ·cases h
       ·split at h
        ·split at h
         ·split at h
          ·rename_i hcs
           injection h with h1 h2;subst h2;exact⟨h1,rfl,by unfold Row.fixed;rw[hcs],by rw[hcs];rfl⟩
          ·rename_i hcs
           injection h with h1 h2;subst h2;exact⟨h1,rfl,by unfold Row.fixed;rw[hcs],by rw[hcs];rfl⟩
          ·cases h
         ·cases h
        ·cases h
      ·unfold dc at h
       split at h
       ·cases h
       ·rename_i hf
        unfold Row.fixed at hf;cases hcr:r.cs with
        |own a b c=>rw[hcr]at hf;cases hf
        |dead=>rw[hcr]at hf;cases hf
        |an cs=>
         simp only[hcr]at h;repeat' (split at h)
         all_goals first
          | (cases h;done)
          | (injection h with h1 h2;subst h2;exact⟨h1,rfl,by unfold Row.fixed;rw[hcr],by first|rfl | (rw[hcr];rfl)⟩)
        |dK cs=>
         simp only[hcr]at h;repeat' (split at h)
         all_goals first
          | (cases h;done)
          | (injection h with h1 h2;subst h2;exact⟨h1,rfl,by unfold Row.fixed;rw[hcr],by first|rfl | (rw[hcr];rfl)⟩)
        |dG g cs=>
         simp only[hcr]at h;repeat' (split at h)
         all_goals first
          | (cases h;done)
          | (injection h with h1 h2;subst h2;exact⟨h1,rfl,by unfold Row.fixed;rw[hcr],by first|rfl | (rw[hcr];rfl)⟩)
        |j5 g cs=>
         simp only[hcr]at h;repeat' (split at h)
         all_goals first
          | (cases h;done)
          | (injection h with h1 h2;subst h2;exact⟨h1,rfl,by unfold Row.fixed;rw[hcr],by first|rfl | (rw[hcr];rfl)⟩)
     obtain⟨rfl,h1,h2,h3⟩:=this;exact⟨by simp[aF,ho,hx,gN],h1,r,hrow,h2,h3⟩
    ·cases h
   ·cases h
  ·split at h
   ·split at h
    ·exact absurd h (hso _ _ _ _ _)
    ·cases h
   ·cases h
  ·cases h
 ·repeat' (split at h)
  all_goals first | (cases h;done)|exact absurd h (hp _) | (rcases eR h with h|⟨_,_,_,_,h⟩<;>(cases h;done)) | (rcases gj h with h|⟨_,_,_,h⟩<;>(cases h;done))
 ·repeat' (split at h)
  all_goals first | (cases h;done)|exact absurd h (hp _) | (rcases eR h with h|⟨_,_,_,_,h⟩<;>(cases h;done)) | (rcases gj h with h|⟨_,_,_,h⟩<;>(cases h;done))
 ·repeat' (split at h)
  all_goals first | (cases h;done)|exact absurd h (hp _)
 ·repeat' (split at h)
  all_goals first | (cases h;done)|exact absurd h (hp _) | (rcases eR h with h|⟨_,_,_,_,h⟩<;>(cases h;done)) | (rcases gj h with h|⟨_,_,_,h⟩<;>(cases h;done))
 ·repeat' (split at h)
  all_goals first | (cases h;done)|exact absurd h (hp _)
 ·exact absurd h (hsl _ _ _ _ _)
 ·repeat' (split at h)
  all_goals first | (cases h;done)|exact absurd h (hco _ _)|exact absurd h (hck _ _) | (rcases eD h with h|⟨_,_,_,h⟩<;>(cases h;done))|exact absurd h (hap _ _ _)|exact absurd h (hln _)
 ·exact absurd h (hp _)
theorem uX{w0:bu}{H:List (Nat×Hint)}{t:TypeId}{cs:Cells}{ln:Option Nat}(h:fZ P w0 H hn e row o=.alloc t cs ln):(⟨t,cs⟩:Row).fixed=true∧cs.tag=none:=by
 have hp:∀(hn:Option Hint),bV P w0 hn e o≠.alloc t cs ln:=by
  intro hn h;unfold bV at h;repeat' (split at h)
  all_goals (cases h)
 have hc:dI P w0 hn e o≠.alloc t cs ln:=by
  intro h;unfold dI at h;repeat' (split at h)
  all_goals first | (cases h;done)|exact hp _ h
 have hmv:∀x,dS P w0 hn e o x≠.alloc t cs ln:=by
  intro x h;unfold dS at h;repeat' (split at h)
  all_goals first | (cases h;done)|exact hp _ h
 have hco:∀c r,bU P e c r≠.alloc t cs ln:=by
  intro c r h;unfold bU at h;repeat' (split at h)
  all_goals (cases h)
 have hap:∀t' x y,gp P w0 row hn t' x y≠.alloc t cs ln:=by
  intro t x y h;unfold gp lS at h;repeat' (split at h)
  all_goals (cases h)
 have hck:∀c r,dA P e c r≠.alloc t cs ln:=by
  intro c r h;unfold dA at h;repeat' (split at h)
  all_goals (cases h)
 have hso:∀t' j r off sv,bL P t' j r off sv≠.alloc t cs ln:=by
  intro t' j r off sv h;unfold bL at h;repeat' (split at h)
  all_goals (cases h)
 have hsl:∀t' x lo hi mx,de P w0 hn e row o t' x lo hi mx≠.alloc t cs ln:=by
  intro t' x lo hi mx h;unfold de lg at h;repeat' (split at h)
  all_goals first | (cases h;done)|exact hp _ h
 have hln:∀c,fJ P w0 hn e row o c≠.alloc t cs ln:=by
  intro c h;unfold fJ at h;repeat' (split at h)
  all_goals first | (cases h;done)|exact hc h
 have hl:∀t' r off,cV P t' r off≠.alloc t cs ln:=by
  intro t r off h;unfold cV at h;repeat' (split at h)
  all_goals (cases h)
 have hl2:∀t' r off v,cB P t' r off v≠.alloc t cs ln:=by
  intro t r off v h;unfold cB at h;repeat' (split at h)
  all_goals (cases h)
 have hl3:∀t' r off v,bS P t' r off v≠.alloc t cs ln:=by
  intro t r off v h;unfold bS at h;repeat' (split at h)
  all_goals (cases h)
 have hs1:∀t' i r off sv,dc P t' i r off sv≠.alloc t cs ln:=by
  intro t i r off sv h;unfold dc at h;repeat' (split at h)
  all_goals (cases h)
 have hs2:∀t' i r off sv c,bY P t' i r off sv c≠.alloc t cs ln:=by
  intro t i r off sv c h;unfold bY at h;repeat' (split at h)
  all_goals (cases h)
 unfold fZ at h;split at h;all_goals repeat' (split at h)
 all_goals first
  | (cases h;done)
  | (injection h with h1 h2;subst h2;exact⟨rfl,rfl⟩)
  |exact absurd h (hp _)
  |exact absurd h (hmv _)
  |exact absurd h (hsl _ _ _ _ _)
  |exact absurd h (hso _ _ _ _ _)
  |exact absurd h (hco _ _)
  |exact absurd h (hck _ _)
  | (rcases eD h with h|⟨_,_,_,h⟩<;>(cases h;done))
  |exact absurd h (hap _ _ _)
  |exact absurd h (hln _)
  |exact absurd h (hl _ _ _)
  |exact absurd h (hl2 _ _ _ _)
  |exact absurd h (hl3 _ _ _ _)
  |exact absurd h (hs1 _ _ _ _ _)
  |exact absurd h (hs2 _ _ _ _ _ _)
  | (rcases eR h with h|⟨_,_,_,_,h⟩<;>(cases h;done))
  | (rcases gj h with h|⟨_,_,_,h⟩<;>first | (cases h;done) | (injection h with h1 h2;subst h2;exact⟨rfl,rfl⟩))
theorem rI{w0:bu}{H:List (Nat×Hint)}{i t size n:Nat}{xs:List Value}{ob:Option Prop}(h:fZ P w0 H hn e row o=.grow (some i) t size n xs ob):i∈aF e o∧∃r,row i=some r∧∃s m ys,r.cs=.own s m ys:=by
 have hp:∀(hn:Option Hint),bV P w0 hn e o≠.grow (some i) t size n xs ob:=by
  intro hn h;unfold bV at h;repeat' (split at h)
  all_goals (cases h)
 have hc:dI P w0 hn e o≠.grow (some i) t size n xs ob:=by
  intro h;unfold dI at h;repeat' (split at h)
  all_goals first | (cases h;done)|exact hp _ h
 have hmv:∀x,dS P w0 hn e o x≠.grow (some i) t size n xs ob:=by
  intro x h;unfold dS at h;repeat' (split at h)
  all_goals first | (cases h;done)|exact hp _ h
 have hco:∀c r,bU P e c r≠.grow (some i) t size n xs ob:=by
  intro c r h;unfold bU at h;repeat' (split at h)
  all_goals (cases h)
 have hck:∀c r,dA P e c r≠.grow (some i) t size n xs ob:=by
  intro c r h;unfold dA at h;repeat' (split at h)
  all_goals (cases h)
 have hso:∀t' j r off sv,bL P t' j r off sv≠.grow (some i) t size n xs ob:=by
  intro t' j r off sv h;unfold bL at h;repeat' (split at h)
  all_goals (cases h)
 have hsl:∀t' x lo hi mx,de P w0 hn e row o t' x lo hi mx≠.grow (some i) t size n xs ob:=by
  intro t' x lo hi mx h;unfold de lg at h;repeat' (split at h)
  all_goals first | (cases h;done)|exact hp _ h
 have hln:∀c,fJ P w0 hn e row o c≠.grow (some i) t size n xs ob:=by
  intro c h;unfold fJ at h;repeat' (split at h)
  all_goals first | (cases h;done)|exact hc h
 have hl:∀t' r off,cV P t' r off≠.grow (some i) t size n xs ob:=by
  intro t r off h;unfold cV at h;repeat' (split at h)
  all_goals (cases h)
 have hl2:∀t' r off v,cB P t' r off v≠.grow (some i) t size n xs ob:=by
  intro t r off v h;unfold cB at h;repeat' (split at h)
  all_goals (cases h)
 have hl3:∀t' r off v,bS P t' r off v≠.grow (some i) t size n xs ob:=by
  intro t r off v h;unfold bS at h;repeat' (split at h)
  all_goals (cases h)
 have hs1:∀t' j r off sv,dc P t' j r off sv≠.grow (some i) t size n xs ob:=by
  intro t j r off sv h;unfold dc at h;repeat' (split at h)
  all_goals (cases h)
 have hs2:∀t' j r off sv c,bY P t' j r off sv c≠.grow (some i) t size n xs ob:=by
  intro t j r off sv c h;unfold bY at h;repeat' (split at h)
  all_goals (cases h)
 have hgo:∀{t':TypeId} {kill:Option Nat} {el sz m:Nat} {ys:List Value} {y:SV},lS P w0 row hn t' kill el sz m ys y=.grow (some i) t size n xs ob→kill=some i:=by
  intro t' kill el sz m ys y h;unfold lS at h;repeat' (split at h)
  all_goals first | (cases h;done) | (injection h)
 unfold fZ at h;split at h;all_goals try (repeat' (split at h));done
 all_goals first
  | (
    rename_i c ho;split at h
    ·exact absurd h (hco _ _)
    ·exact absurd h (hck _ _)
    ·rcases eD h with h|⟨_,_,_,h⟩<;>(cases h;done)
    ·rcases eD h with h|⟨_,_,_,h⟩<;>(cases h;done)
    ·split at h
     ·rename_i t' x y hap
      have hc':=rU hap;split at h
      ·rename_i sx sy hx hy
       unfold gp at h;split at h
       ·rename_i j
        split at h
        ·rename_i r hrow
         split at h
         ·rename_i s m ys hcs
          have hj:=hgo h;injection hj with hj;subst hj;exact⟨by simp[aF,ho,hc',hx,gN],r,hrow,s,m,ys,hcs⟩
         ·cases h
        ·cases h
       ·split at h
        ·have:=hgo h;cases this
        ·cases h
       ·cases h
      ·cases h
     ·exact absurd h (hln _))
  | (
    exfalso;repeat' (split at h)
    all_goals first
     | (cases h;done)
     |exact absurd h (hp _)
     |exact absurd h (hsl _ _ _ _ _)
     |exact absurd h (hso _ _ _ _ _)
     |exact absurd h (hmv _)
     | (rcases eR h with h|⟨_,_,_,_,h⟩<;>(cases h;done)) | (rcases gj h with h|⟨_,_,_,h⟩<;>(cases h;done))
     |exact absurd h (hl _ _ _)
     |exact absurd h (hl2 _ _ _ _)
     |exact absurd h (hl3 _ _ _ _)
     |exact absurd h (hs1 _ _ _ _ _)
     |exact absurd h (hs2 _ _ _ _ _ _))
theorem nD{w0:bu}{H:List (Nat×Hint)}{i:Nat}{r':Row}{ob:Option Prop}(h:fZ P w0 H hn e row o=.eH i r' ob):i∈aF e o∧∃r,row i=some r∧∀β:Env,az β i r'=az β i r:=by
 have hp:∀(hn:Option Hint),bV P w0 hn e o≠.eH i r' ob:=by
  intro hn h;unfold bV at h;repeat' (split at h)
  all_goals (cases h)
 have hc:dI P w0 hn e o≠.eH i r' ob:=by
  intro h;unfold dI at h;repeat' (split at h)
  all_goals first | (cases h;done)|exact hp _ h
 have hmv:∀x,dS P w0 hn e o x≠.eH i r' ob:=by
  intro x h;unfold dS at h;repeat' (split at h)
  all_goals first | (cases h;done)|exact hp _ h
 have hco:∀c r,bU P e c r≠.eH i r' ob:=by
  intro c r h;unfold bU at h;repeat' (split at h)
  all_goals (cases h)
 have hap:∀t' x y,gp P w0 row hn t' x y≠.eH i r' ob:=by
  intro t x y h;unfold gp lS at h;repeat' (split at h)
  all_goals (cases h)
 have hck:∀c r,dA P e c r≠.eH i r' ob:=by
  intro c r h;unfold dA at h;repeat' (split at h)
  all_goals (cases h)
 have hsl:∀t' x lo hi mx,de P w0 hn e row o t' x lo hi mx≠.eH i r' ob:=by
  intro t' x lo hi mx h;unfold de lg at h;repeat' (split at h)
  all_goals first | (cases h;done)|exact hp _ h
 have hln:∀c,fJ P w0 hn e row o c≠.eH i r' ob:=by
  intro c h;unfold fJ at h;repeat' (split at h)
  all_goals first | (cases h;done)|exact hc h
 have hl:∀t' r off,cV P t' r off≠.eH i r' ob:=by
  intro t r off h;unfold cV at h;repeat' (split at h)
  all_goals (cases h)
 have hl2:∀t' r off v,cB P t' r off v≠.eH i r' ob:=by
  intro t r off v h;unfold cB at h;repeat' (split at h)
  all_goals (cases h)
 have hl3:∀t' r off v,bS P t' r off v≠.eH i r' ob:=by
  intro t r off v h;unfold bS at h;repeat' (split at h)
  all_goals (cases h)
 have hs1:∀t' j r off sv,dc P t' j r off sv≠.eH i r' ob:=by
  intro t j r off sv h;unfold dc at h;repeat' (split at h)
  all_goals (cases h)
 have hs2:∀t' j r off sv c,bY P t' j r off sv c≠.eH i r' ob:=by
  intro t j r off sv c h;unfold bY at h;repeat' (split at h)
  all_goals (cases h)
 unfold fZ at h;split at h
 all_goals first
  | (
    rename_i t x y ho;split at h
    ·rename_i j off hx
     exfalso;split at h
     ·split at h
      ·split at h
       ·exact hs2 _ _ _ _ _ _ h
       ·exact hs1 _ _ _ _ _ h
      ·cases h
     ·cases h
    ·rename_i j off hx
     split at h
     ·split at h
      ·rename_i r hrow
       unfold bL at h;split at h
       ·rename_i size n xs hcs
        split at h
        ·split at h
         ·split at h
          ·injection h with h1 h2
           subst h1;subst h2;exact⟨by simp[aF,ho,hx,gN],r,hrow,fun β=>by unfold az;rw[hcs]⟩
          ·cases h
         ·cases h
        ·cases h
       ·cases h
      ·cases h
     ·cases h
    ·cases h)
  | (
    exfalso;repeat' (split at h)
    all_goals first
     | (cases h;done)
     |exact absurd h (hp _)
     |exact absurd h (hmv _)
     | (rcases eR h with h|⟨_,_,_,_,h⟩<;>(cases h;done)) | (rcases gj h with h|⟨_,_,_,h⟩<;>(cases h;done))
     |exact absurd h (hco _ _)
     |exact absurd h (hck _ _)
     | (rcases eD h with h|⟨_,_,_,h⟩<;>(cases h;done))
     |exact absurd h (hap _ _ _)
     |exact absurd h (hln _)
     |exact absurd h (hsl _ _ _ _ _)
     |exact absurd h (hl _ _ _)
     |exact absurd h (hl2 _ _ _ _)
     |exact absurd h (hl3 _ _ _ _))
theorem D9{w0:bu}{H:List (Nat×Hint)}{f:FuncId}{args:List SV}{r:gV}(h:fZ P w0 H hn e row o=.ct f args r):∀i sv,sv∈args→i∈gN (some sv)→i∈aF e o:=by
 have hp:∀(hn:Option Hint),bV P w0 hn e o≠.ct f args r:=by
  intro hn h;unfold bV at h;repeat' (split at h)
  all_goals (cases h)
 have hc:dI P w0 hn e o≠.ct f args r:=by
  intro h;unfold dI at h;repeat' (split at h)
  all_goals first | (cases h;done)|exact hp _ h
 have hmv:∀x,dS P w0 hn e o x≠.ct f args r:=by
  intro x h;unfold dS at h;repeat' (split at h)
  all_goals first | (cases h;done)|exact hp _ h
 have hap:∀t' x y,gp P w0 row hn t' x y≠.ct f args r:=by
  intro t x y h;unfold gp lS at h;repeat' (split at h)
  all_goals (cases h)
 have hck:∀c r',dA P e c r'≠.ct f args r:=by
  intro c r' h;unfold dA at h;repeat' (split at h)
  all_goals (cases h)
 have hso:∀t' j r' off sv,bL P t' j r' off sv≠.ct f args r:=by
  intro t' j r' off sv h;unfold bL at h;repeat' (split at h)
  all_goals (cases h)
 have hsl:∀t' x lo hi mx,de P w0 hn e row o t' x lo hi mx≠.ct f args r:=by
  intro t' x lo hi mx h;unfold de lg at h;repeat' (split at h)
  all_goals first | (cases h;done)|exact hp _ h
 have hln:∀c,fJ P w0 hn e row o c≠.ct f args r:=by
  intro c h;unfold fJ at h;repeat' (split at h)
  all_goals first | (cases h;done)|exact hc h
 have hl:∀t' r' off,cV P t' r' off≠.ct f args r:=by
  intro t r off h;unfold cV at h;repeat' (split at h)
  all_goals (cases h)
 have hl2:∀t' r' off v,cB P t' r' off v≠.ct f args r:=by
  intro t r off v h;unfold cB at h;repeat' (split at h)
  all_goals (cases h)
 have hl3:∀t' r' off v,bS P t' r' off v≠.ct f args r:=by
  intro t r off v h;unfold bS at h;repeat' (split at h)
  all_goals (cases h)
 have hs1:∀t' j r' off sv,dc P t' j r' off sv≠.ct f args r:=by
  intro t j r off sv h;unfold dc at h;repeat' (split at h)
  all_goals (cases h)
 have hs2:∀t' j r' off sv c,bY P t' j r' off sv c≠.ct f args r:=by
  intro t j r off sv c h;unfold bY at h;repeat' (split at h)
  all_goals (cases h)
 unfold fZ at h;split at h
 all_goals first
  | (
    exfalso;repeat' (split at h)
    all_goals first
     | (cases h;done)
     |exact absurd h (hp _)
     |exact absurd h (hsl _ _ _ _ _)
     |exact absurd h (hso _ _ _ _ _)
     |exact absurd h (hmv _)
     | (rcases eR h with h|⟨_,_,_,_,h⟩<;>(cases h;done)) | (rcases gj h with h|⟨_,_,_,h⟩<;>(cases h;done))
     |exact absurd h (hl _ _ _)
     |exact absurd h (hl2 _ _ _ _)
     |exact absurd h (hl3 _ _ _ _)
     |exact absurd h (hs1 _ _ _ _ _)
     |exact absurd h (hs2 _ _ _ _ _ _))
  |skip
 rename_i c ho;split at h
 ·unfold bU at h
  split at h
  ·split at h
   ·split at h
    ·split at h
     ·rename_i lv hlv
      injection h with h1 h2 h3;intro i sv hi hat;rw[←h2]at hi;obtain⟨x,hx,hex⟩:=nC hlv _ hi;simp only[aF,ho,YD];exact⟨x,hx,by rw[hex];exact hat⟩
     ·cases h
    ·cases h
   ·cases h
  ·cases h
 ·exact absurd h (hck _ _)
 ·rcases eD h with h|⟨_,_,_,h⟩<;>(cases h;done)
 ·rcases eD h with h|⟨_,_,_,h⟩<;>(cases h;done)
 ·exfalso
  split at h
  ·split at h
   ·exact hap _ _ _ h
   ·cases h
  ·exact hln _ h
theorem uV{w0:bu}{H:List (Nat×Hint)}{f:FuncId}{i:Nat}{r:gV}(h:fZ P w0 H hn e row o=.gi f i r):i∈aF e o∧isSlice r=true:=by
 have hp:∀(hn:Option Hint),bV P w0 hn e o≠.gi f i r:=by
  intro hn h;unfold bV at h;repeat' (split at h)
  all_goals (cases h)
 have hc:dI P w0 hn e o≠.gi f i r:=by
  intro h;unfold dI at h;repeat' (split at h)
  all_goals first | (cases h;done)|exact hp _ h
 have hmv:∀x,dS P w0 hn e o x≠.gi f i r:=by
  intro x h;unfold dS at h;repeat' (split at h)
  all_goals first | (cases h;done)|exact hp _ h
 have hap:∀t' x y,gp P w0 row hn t' x y≠.gi f i r:=by
  intro t x y h;unfold gp lS at h;repeat' (split at h)
  all_goals (cases h)
 have hco:∀c r',bU P e c r'≠.gi f i r:=by
  intro c r' h;unfold bU at h;repeat' (split at h)
  all_goals (cases h)
 have hso:∀t' j r' off sv,bL P t' j r' off sv≠.gi f i r:=by
  intro t' j r' off sv h;unfold bL at h;repeat' (split at h)
  all_goals (cases h)
 have hsl:∀t' x lo hi mx,de P w0 hn e row o t' x lo hi mx≠.gi f i r:=by
  intro t' x lo hi mx h;unfold de lg at h;repeat' (split at h)
  all_goals first | (cases h;done)|exact hp _ h
 have hln:∀c,fJ P w0 hn e row o c≠.gi f i r:=by
  intro c h;unfold fJ at h;repeat' (split at h)
  all_goals first | (cases h;done)|exact hc h
 have hl:∀t' r' off,cV P t' r' off≠.gi f i r:=by
  intro t r off h;unfold cV at h;repeat' (split at h)
  all_goals (cases h)
 have hl2:∀t' r' off v,cB P t' r' off v≠.gi f i r:=by
  intro t r off v h;unfold cB at h;repeat' (split at h)
  all_goals (cases h)
 have hl3:∀t' r' off v,bS P t' r' off v≠.gi f i r:=by
  intro t r off v h;unfold bS at h;repeat' (split at h)
  all_goals (cases h)
 have hs1:∀t' j r' off sv,dc P t' j r' off sv≠.gi f i r:=by
  intro t j r off sv h;unfold dc at h;repeat' (split at h)
  all_goals (cases h)
 have hs2:∀t' j r' off sv c,bY P t' j r' off sv c≠.gi f i r:=by
  intro t j r off sv c h;unfold bY at h;repeat' (split at h)
  all_goals (cases h)
 unfold fZ at h;split at h
 all_goals first
  | (
    exfalso;repeat' (split at h)
    all_goals first
     | (cases h;done)
     |exact absurd h (hp _)
     |exact absurd h (hsl _ _ _ _ _)
     |exact absurd h (hso _ _ _ _ _)
     |exact absurd h (hmv _)
     | (rcases eR h with h|⟨_,_,_,_,h⟩<;>(cases h;done)) | (rcases gj h with h|⟨_,_,_,h⟩<;>(cases h;done))
     |exact absurd h (hl _ _ _)
     |exact absurd h (hl2 _ _ _ _)
     |exact absurd h (hl3 _ _ _ _)
     |exact absurd h (hs1 _ _ _ _ _)
     |exact absurd h (hs2 _ _ _ _ _ _))
  |skip
 rename_i c ho;split at h
 ·exact absurd h (hco _ _)
 ·unfold dA at h
  split at h
  ·rename_i f' args r' hr
   split at h
   ·split at h
    ·rename_i hs
     injection h with h1 h2 h3;subst h2;subst h3;obtain⟨x,hx,hex⟩:=kp hr _ (X0.2 rfl);refine⟨?_,hs⟩;simp only[aF,ho,YD];exact⟨x,hx,by rw[hex];simp[gN]⟩
    ·cases h
   ·cases h
  ·cases h
 ·rcases eD h with h|⟨_,_,_,h⟩<;>(cases h;done)
 ·rcases eD h with h|⟨_,_,_,h⟩<;>(cases h;done)
 ·exfalso
  split at h
  ·split at h
   ·exact hap _ _ _ h
   ·cases h
  ·exact hln _ h
theorem rP{w0:bu}{H:List (Nat×Hint)}{f:FuncId}{args:List SV}{x:XK}(h:fZ P w0 H hn e row o=.fB f args x):(∀i sv,sv∈args→i∈gN (some sv)→i∈aF e o)∧
  (∀p i r v,x=.dW p i r v→args[p]?=some (.ptr i 0)∧i∈aF e o∧∃r0,row i=some r0∧r.ty=r0.ty∧r0.fixed=true∧r.fixed=true∧r.cs.tag=r0.cs.tag)∧
  ∀ps,x=.G9 ps→∀q∈ps,args[q.1]?=some (.ptr q.2 0)∧∃r,row q.2=some r∧r.fixed=true:=by
 have hp:∀(hn:Option Hint),bV P w0 hn e o≠.fB f args x:=by
  intro hn h;unfold bV at h;repeat' (split at h)
  all_goals (cases h)
 have hc:dI P w0 hn e o≠.fB f args x:=by
  intro h;unfold dI at h;repeat' (split at h)
  all_goals first | (cases h;done)|exact hp _ h
 have hmv:∀y,dS P w0 hn e o y≠.fB f args x:=by
  intro x h;unfold dS at h;repeat' (split at h)
  all_goals first | (cases h;done)|exact hp _ h
 have hap:∀t' y z,gp P w0 row hn t' y z≠.fB f args x:=by
  intro t x y h;unfold gp lS at h;repeat' (split at h)
  all_goals (cases h)
 have hco:∀c r',bU P e c r'≠.fB f args x:=by
  intro c r' h;unfold bU at h;repeat' (split at h)
  all_goals (cases h)
 have hck:∀c r',dA P e c r'≠.fB f args x:=by
  intro c r' h;unfold dA at h;repeat' (split at h)
  all_goals (cases h)
 have hso:∀t' j r' off sv,bL P t' j r' off sv≠.fB f args x:=by
  intro t' j r' off sv h;unfold bL at h;repeat' (split at h)
  all_goals (cases h)
 have hsl:∀t' y lo hi mx,de P w0 hn e row o t' y lo hi mx≠.fB f args x:=by
  intro t' x lo hi mx h;unfold de lg at h;repeat' (split at h)
  all_goals first | (cases h;done)|exact hp _ h
 have hln:∀c,fJ P w0 hn e row o c≠.fB f args x:=by
  intro c h;unfold fJ at h;repeat' (split at h)
  all_goals first | (cases h;done)|exact hc h
 have hl:∀t' r' off,cV P t' r' off≠.fB f args x:=by
  intro t r off h;unfold cV at h;repeat' (split at h)
  all_goals (cases h)
 have hl2:∀t' r' off v,cB P t' r' off v≠.fB f args x:=by
  intro t r off v h;unfold cB at h;repeat' (split at h)
  all_goals (cases h)
 have hl3:∀t' r' off v,bS P t' r' off v≠.fB f args x:=by
  intro t r off v h;unfold bS at h;repeat' (split at h)
  all_goals (cases h)
 have hs1:∀t' j r' off sv,dc P t' j r' off sv≠.fB f args x:=by
  intro t j r off sv h;unfold dc at h;repeat' (split at h)
  all_goals (cases h)
 have hs2:∀t' j r' off sv c,bY P t' j r' off sv c≠.fB f args x:=by
  intro t j r off sv c h;unfold bY at h;repeat' (split at h)
  all_goals (cases h)
 have go:∀c hh,o.op=.call c→gL P e row c hh=.fB f args x→(∀i sv,sv∈args→i∈gN (some sv)→i∈aF e o)∧
  (∀p i r v,x=.dW p i r v→args[p]?=some (.ptr i 0)∧i∈aF e o∧∃r0,row i=some r0∧r.ty=r0.ty∧r0.fixed=true∧r.fixed=true∧r.cs.tag=r0.cs.tag)∧
  ∀ps,x=.G9 ps→∀q∈ps,args[q.1]?=some (.ptr q.2 0)∧∃r,row q.2=some r∧r.fixed=true:=by
  intro c hh ho h;have mem:∀{f' args' r'},bU P e c r'=.ct f' args' r'→∀i sv,sv∈args'→i∈gN (some sv)→i∈aF e o:=by intro f' args' r' hr i sv hi hat;obtain⟨x,hx,hex⟩:=kp hr _ hi;simp only[aF,ho,YD];exact⟨x,hx,by rw[hex];exact hat⟩
  have back:∀{f' args' r' r''},bU P e c r'=.ct f' args' r''→r''=r':=by
   intro f' args' r' r'' hr;unfold bU at hr;repeat' (split at hr)
   all_goals first | (cases hr;done) | (injection hr with h1 h2 h3;exact h3.symm)
  unfold gL at h;split at h
  ·split at h
   ·rename_i f' args' r' hr
    have hb:=back hr;subst hb;split at h
    ·rename_i i hpi
     split at h
     ·rename_i r0 hrow
      cases hcl:r0.cs.list with
      |none=>rw[hcl]at h;cases h
      |some l=>
       rw[hcl]at h;simp only at h;split at h
       ·injection h with h1 h2 h3
        subst h2;refine⟨mem hr,fun p' i' r v' hx=>?_,fun ps hx=>by rw[←h3]at hx;cases hx⟩;rw[←h3]at hx;injection hx with e1 e2 e3 e4;subst e1;subst e2;subst e3;have hfx:r0.fixed=true:=by unfold Row.fixed;unfold Cells.list at hcl;split at hcl<;>first | (cases hcl;done) | (rename_i hcs;rw[hcs])
        exact⟨hpi,mem hr _ _ (XY hpi) (by simp[gN]),r0,hrow,rfl,hfx,Gl (T:=r0.ty) hfx,Oj⟩
       ·cases h
     ·cases h
    ·cases h
   ·cases h
  ·split at h
   ·rename_i f' args' r' hr
    have hb:=back hr;subst hb;injection h with h1 h2 h3;subst h2;subst h3;refine⟨mem hr,(fun p i r v hx=>nomatch hx),fun ps hx q hq=>?_⟩;injection hx with hx;rw[←hx]at hq;obtain⟨_,h2,h4⟩:=uz hq;exact⟨by simpa using h2,h4⟩
   ·cases h
  ·cases h
 unfold fZ at h;split at h
 all_goals first
  | (
    exfalso;repeat' (split at h)
    all_goals first
     | (cases h;done)
     |exact absurd h (hp _)
     |exact absurd h (hsl _ _ _ _ _)
     |exact absurd h (hso _ _ _ _ _)
     |exact absurd h (hmv _)
     | (rcases eR h with h|⟨_,_,_,_,h⟩<;>(cases h;done)) | (rcases gj h with h|⟨_,_,_,h⟩<;>(cases h;done))
     |exact absurd h (hl _ _ _)
     |exact absurd h (hl2 _ _ _ _)
     |exact absurd h (hl3 _ _ _ _)
     |exact absurd h (hs1 _ _ _ _ _)
     |exact absurd h (hs2 _ _ _ _ _ _))
  |skip
 rename_i c ho;split at h
 ·exact absurd h (hco _ _)
 ·exact absurd h (hck _ _)
 ·exact go c _ ho h
 ·exact go c _ ho h
 ·exfalso
  split at h
  ·split at h
   ·exact hap _ _ _ h
   ·cases h
  ·exact hln _ h
end
structure Hd(ds:List Deferred)(w0:bu)(n:Nat)(β:Env)(st:St)(a:Act)(w:World):Prop where
 size:a.tmps.size=n
 dn:a.defers=ds
 get:∀t sv,look st.fr t=some sv→a.tmps[t]?=some (sv.den β)
 cw:∀(i:Nat) (r:Row),st.mem[i]?=some r→br β w i r
 new:∀(i:Nat) (r:Row) (k:Nat),st.mem[i]?=some r→az β i r=some k→k∈w0.S∨w0.w.heap.size≤k
 inj:∀(i j:Nat) (r r':Row) (k:Nat),st.mem[i]?=some r→st.mem[j]?=some r'→az β i r=some k→az β j r'=some k→i=j
 aJ:ai w0.S w0.w w
 yC:∀t sv,look st.fr t=some sv→sv.on (· < st.mem.length)
 yy:∀(i:Nat) (r:Row),st.mem[i]?=some r→r.cs.on (· < st.mem.length)
section
variable{P:Program}{w0:bu}{ds:List Deferred}{w w':World}{n:Nat}{β:Env}{st:St}{a:Act}
theorem gf{d t:Nat}{v:SV}{fr:List (Nat×SV)}:look ((d,v)::fr) t=if d=t then v.known else look fr t:=by
 by_cases h:d=t
 ·subst h;simp[look]
 ·rw[if_neg h]
  have:XJ d t=false:=by
   cases hb:XJ d t
   ·rfl
   ·exact absurd (Xz hb) h
  rw[look];simp only[this]
theorem km{d t:Nat}{v:Value}(h:d < a.tmps.size):(a.put (some d) v).tmps[t]?=if d=t then some v else a.tmps[t]?:=by
 simp only[Act.put,Array.getElem?_setIfInBounds];by_cases hd:d=t
 ·subst hd;simp[h]
 ·simp[hd]
theorem P3{d:Nat}{v:Value}(h:¬d < a.tmps.size):a.put (some d) v=a:=by unfold Act.put;simp only;rw[Array.setIfInBounds_eq_of_size_le (by omega)]
theorem Hd.put(h:Hd ds w0 n β st a w)(dst:Option Tmp){sv:SV}(hs:sv.on (· < st.mem.length)):Hd ds w0 n β (st.put n dst sv) (a.put dst (sv.den β)) w:=by
 cases dst with
 |none=>exact h
 |some d=>
  by_cases hd:d < n
  ·have hb:XX d n=true:=Nat.ble_eq_true_of_le hd
   have e:st.put n (some d) sv=⟨(d,sv)::st.fr,st.mem⟩:=by unfold St.put;simp only[hb]
   rw[e];have hsz:d < a.tmps.size:=by rw[h.size];exact hd
   refine⟨by simp[Act.put,h.size],h.dn,fun t u hu=>?_,h.cw,h.new,h.inj,h.aJ,fun t u hu=>?_,h.yy⟩
   ·rw[km hsz]
    rw[gf]at hu;split at hu
    ·rename_i hdt;rw[if_pos hdt];rw[cE hu]
    ·rename_i hdt;rw[if_neg hdt];exact h.get t u hu
   ·rw[gf]at hu
    split at hu
    ·rw[cE hu];exact hs
    ·exact h.yC t u hu
  ·have hb:XX d n=false:=by
    cases hb:XX d n
    ·rfl
    ·exact absurd (XB hb) hd
   have e:st.put n (some d) sv=st:=by unfold St.put;simp only[hb]
   rw[e,P3 (by rw[h.size];exact hd)];exact h
theorem Hd.later(h:Hd ds w0 n β st a w)(hc:ai [] w w'):Hd ds w0 n β st a w':=
 ⟨h.size,h.dn,h.get,fun i r hi=>(h.cw i r hi).aJ hc (fun _ _=>by simp),h.new,h.inj,h.aJ.seq hc (by simp),h.yC,h.yy⟩
def Env.dW(β:Env)(m g:Nat):Env:=⟨fun i=>if i=m then g else β i,β.a,β.n,β.c⟩
theorem KS{m g:Nat}:β.same (β.dW m g) (·≠m):=fun i hi=>⟨by simp only[Env.dW,if_neg hi],rfl,rfl,rfl⟩
theorem kD{m g:Nat}:(β.dW m g) m=g:=by simp only[Env.dW,if_true]
theorem CY{m g:Nat}{ln:Option Nat}:(nN m ln).den (β.dW m g)=pq g ln:=by cases ln<;>simp only[nN,pq,SV.den,kD]
theorem Ho{Q:Nat→Prop}{m:Nat}{ln:Option Nat}(h:Q m):(nN m ln).on Q:=by cases ln<;>exact h
theorem Env.same.mono{β β':Env}{Q Q':Nat→Prop}(h:β.same β' Q)(hQ:∀i,Q' i→Q i):β.same β' Q':=fun i hi=>h i (hQ i hi)
theorem Hd.alloc(h:Hd ds w0 n β st a w)(t:TypeId){cs:Cells}(hf:(⟨t,cs⟩:Row).fixed=true)(hft:cs.tag=none)(hs:cs.on (· < st.mem.length)):Hd ds w0 n (β.dW st.mem.length w.heap.size) ⟨st.fr,st.mem++[⟨t,cs⟩]⟩ a (w.alloc (.cells (cs.den β).toArray t)):=by
 have same:β.same (β.dW st.mem.length w.heap.size) (· < st.mem.length):=KS.mono fun i hi=>YC hi;have lt:∀(i:Nat) (r:Row) (k:Nat),st.mem[i]?=some r→az β i r=some k→k < w.heap.size:=fun i r k hi hk=>(h.cw i r hi).lt hk;have at_:∀(i:Nat) (r:Row),(st.mem++[(⟨t,cs⟩:Row)])[i]?=some r→(i < st.mem.length∧st.mem[i]?=some r)∨(i=st.mem.length∧r=⟨t,cs⟩):=by
  intro i r hi;by_cases hlt:i < st.mem.length
  ·rw[XI hlt]at hi
   exact .inl ⟨hlt,hi⟩
  ·have hl:i < (st.mem++[(⟨t,cs⟩:Row)]).length:=(XH.1 hi).1
   simp at hl;obtain rfl:i=st.mem.length:=by omega
   rw[XG (Yh _),YB]at hi;exact .inr ⟨rfl,by simpa using hi.symm⟩
 have blkm:az (β.dW st.mem.length w.heap.size) st.mem.length ⟨t,cs⟩=some w.heap.size:=by rw[aM hf,kD]
 refine⟨h.size,h.dn,fun u sv hu=>?_,fun i r hi=>?_,fun i r k hi hk=>?_,fun i j r r' k hi hj hk hk'=>?_,h.aJ.alloc _,fun u sv hu=>?_,fun i r hi=>?_⟩
 ·rw[h.get u sv hu,SV.cI same (h.yC u sv hu)]
 ·rcases at_ i r hi with⟨hlt,hi⟩ | ⟨rfl,rfl⟩
  ·refine br.congr same hlt (h.yy i r hi) ((h.cw i r hi).aJ (S:=[]) ((ai.refl [] w).alloc _) (fun _ _=>by simp))
  ·refine br.pb ?_ hf (fun g hg=>by rw[hft]at hg;cases hg)
   rw[kD,←Cells.cI same hs];exact aw.new w t (cs.den β).toArray
 ·rcases at_ i r hi with⟨hlt,hi⟩ | ⟨rfl,rfl⟩
  ·rw[←bC same hlt]at hk;exact h.new i r k hi hk
  ·rw[blkm]at hk;cases hk;exact .inr h.aJ.size
 ·rcases at_ i r hi with⟨hlt,hi⟩ | ⟨rfl,rfl⟩
  ·rw[←bC same hlt]at hk
   rcases at_ j r' hj with⟨hlt',hj⟩ | ⟨rfl,rfl⟩
   ·rw[←bC same hlt']at hk';exact h.inj i j r r' k hi hj hk hk'
   ·rw[blkm]at hk';cases hk'
    exact absurd (lt i r _ hi hk) (Y7 _)
  ·rcases at_ j r' hj with⟨hlt',hj⟩ | ⟨rfl,rfl⟩
   ·rw[blkm]at hk;cases hk
    rw[←bC same hlt']at hk';exact absurd (lt j r' _ hj hk') (Y7 _)
   ·rfl
 ·exact SV.bD (fun i hi=>by simp;omega) (h.yC u sv hu)
 ·rcases at_ i r hi with⟨hlt,hi⟩ | ⟨rfl,rfl⟩
  ·exact Cells.bD (fun i hi=>by simp;omega) (h.yy i r hi)
  ·exact Cells.bD (fun i hi=>by simp;omega) hs
theorem Hd.store(h:Hd ds w0 n β st a w){i:Nat}{r0 r:Row}(h0:st.mem[i]?=some r0)(hblk:az β i r=az β i r0)(hb:br β w' i r)(hc:ai (az β i r0).toList w w')(hr:r.cs.on (· < st.mem.length)):Hd ds w0 n β ⟨st.fr,st.mem.set i r⟩ a w':=by
 have hi:i < st.mem.length:=(XH.1 h0).1;have old:∀(j:Nat) (r':Row) (k:Nat),(st.mem.set i r)[j]?=some r'→az β j r'=some k→∃r2,st.mem[j]?=some r2∧az β j r2=some k:=by
  intro j r' k hj hk;simp only[Yl]at hj;split at hj
  ·rename_i hij
   subst hij;have:r=r':=by simpa[hi]using hj
   subst this;exact⟨r0,h0,by rw[←hblk];exact hk⟩
  ·exact⟨r',hj,hk⟩
 refine⟨h.size,h.dn,h.get,fun j r' hj=>?_,fun j r' k hj hk=>?_,fun j j' r1 r2 k hj hj' hk hk'=>?_,?_,fun t sv ht=>?_,fun j r' hj=>?_⟩
 ·simp only[Yl]at hj
  split at hj
  ·rename_i hij
   subst hij;have:r=r':=by simpa[hi]using hj
   subst this;exact hb
  ·rename_i hij
   refine(h.cw j r' hj).aJ hc fun k hk hm=>hij ?_;exact h.inj i j r0 r' _ h0 hj (by simpa using hm) hk
 ·obtain⟨r2,h2,hk2⟩:=old j r' k hj hk
  exact h.new j r2 k h2 hk2
 ·obtain⟨x,hx,hkx⟩:=old j r1 k hj hk
  obtain⟨y,hy,hky⟩:=old j' r2 k hj' hk';exact h.inj j j' x y k hx hy hkx hky
 ·exact h.aJ.seq hc (fun x hx=>h.new i r0 _ h0 (by simpa using hx))
 ·simp only[Yq];exact h.yC t sv ht
 ·simp only[Yq]
  simp only[Yl]at hj;split at hj
  ·have:r=r':=by simpa[hi]using hj
   subst this;exact hr
  ·exact h.yy j r' hj
def Env.jc(β:Env)(m:Nat)(A:Option Addr)(n c:Nat):Env:=⟨β.b,fun i=>if i=m then A else β.a i,fun i=>if i=m then n else β.n i,fun i=>if i=m then c else β.c i⟩
theorem vg{m:Nat}{A:Option Addr}{nn cc:Nat}:β.same (β.jc m A nn cc) (·≠m):=fun i hi=>⟨rfl,by simp only[Env.jc,if_neg hi],by simp only[Env.jc,if_neg hi],by simp only[Env.jc,if_neg hi]⟩
theorem nt{m:Nat}{A:Option Addr}{nn cc:Nat}:(β.jc m A nn cc).sl m=.slice A nn cc:=by simp only[Env.sl,Env.jc,if_true]
theorem yS{m:Nat}{A:Option Addr}{T size nn cc:Nat}{xs:List Value}(h:Own w T size (.slice A nn cc) nn xs):br (β.jc m A nn cc) w m ⟨T,.own size nn xs⟩:=by show _∧Own w T size (.slice ((β.jc m A nn cc).a m) nn ((β.jc m A nn cc).c m)) nn xs;simp only[Env.jc,if_true];exact⟨trivial,h⟩
theorem mz{m:Nat}{A:Option Addr}{T size nn cc:Nat}{xs:List Value}:az (β.jc m A nn cc) m ⟨T,.own size nn xs⟩=A.map (·.block):=by show((β.jc m A nn cc).a m).map _=_;simp only[Env.jc,if_true]
theorem Hd.grow(h:Hd ds w0 n β st a w){kill:Option Nat}{A:Option Addr}{T size nn cc:Nat}{xs:List Value}{S:List Nat}(hown:Own w' T size (.slice A nn cc) nn xs)(hc:ai S w w')
  (hS:∀k∈S,∃i r0,kill=some i∧st.mem[i]?=some r0∧az β i r0=some k) (hA:∀k,A.map (·.block)=some k→k∈S∨w.heap.size≤k) :
  Hd ds w0 n (β.jc st.mem.length A nn cc) ⟨st.fr,fi st.mem kill++[⟨T,.own size nn xs⟩]⟩ a w':=by
 have same:β.same (β.jc st.mem.length A nn cc) (· < st.mem.length):=vg.mono fun i hi=>YC hi;have klen:(fi st.mem kill).length=st.mem.length:=by cases kill<;>simp[fi]
 have at_:∀(i:Nat) (r:Row),(fi st.mem kill++[(⟨T,.own size nn xs⟩:Row)])[i]?=some r→(i < st.mem.length∧kill≠some i∧st.mem[i]?=some r)∨(i < st.mem.length∧kill=some i∧r=au)∨(i=st.mem.length∧r=⟨T,.own size nn xs⟩):=by
  intro i r hi;by_cases hlt:i < st.mem.length
  ·rw[XI (by rw[klen];exact hlt)]at hi
   cases kill with
   |none=>exact .inl ⟨hlt,by simp,hi⟩
   |some j=>
    simp only[fi,Yl]at hi;split at hi
    ·rename_i hij
     subst hij;exact .inr (.inl ⟨hlt,rfl,by simpa[hlt]using hi.symm⟩)
    ·rename_i hij
     exact .inl ⟨hlt,by simpa using hij,hi⟩
  ·have hl:i < (fi st.mem kill++[(⟨T,.own size nn xs⟩:Row)]).length:=(XH.1 hi).1
   simp[klen]at hl;obtain rfl:i=st.mem.length:=by omega
   rw[←klen,XG (Yh _),YB]at hi;exact .inr (.inr ⟨rfl,by simpa using hi.symm⟩)
 have new':∀k,A.map (·.block)=some k→k∈w0.S∨w0.w.heap.size≤k:=fun k hk=>by
  rcases hA k hk with hk|hk
  ·obtain⟨i,r0,_,h0,hb⟩:=hS k hk
   exact h.new i r0 k h0 hb
  ·exact .inr (Zb h.aJ.size hk)
 have apart:∀(i:Nat) (r:Row) (k:Nat),kill≠some i→st.mem[i]?=some r→az β i r=some k→A.map (·.block)≠some k:=fun i r k hki hi hk hk'=>by
  rcases hA k hk' with hk' | hk'
  ·obtain⟨j,r0,hj,h0,hb⟩:=hS k hk'
   have:=h.inj i j r r0 k hi h0 hk hb;subst this;exact hki hj
  ·have:=(h.cw i r hi).lt hk
   omega
 refine⟨h.size,h.dn,fun u sv hu=>?_,fun i r hi=>?_,fun i r k hi hk=>?_,fun i j r r' k hi hj hk hk'=>?_,h.aJ.seq hc (fun k hk=>?_),fun u sv hu=>?_,fun i r hi=>?_⟩
 ·rw[h.get u sv hu,SV.cI same (h.yC u sv hu)]
 ·rcases at_ i r hi with⟨hlt,hki,hi⟩ | ⟨hlt,hki,rfl⟩ | ⟨rfl,rfl⟩
  ·refine br.congr same hlt (h.yy i r hi) ((h.cw i r hi).aJ hc fun k hk hm=>?_)
   obtain⟨j,r0,hj,h0,hb⟩:=hS k hm;have:=h.inj i j r r0 k hi h0 hk hb;subst this;exact hki hj
  ·trivial
  ·exact yS hown
 ·rcases at_ i r hi with⟨hlt,hki,hi⟩ | ⟨hlt,hki,rfl⟩ | ⟨rfl,rfl⟩
  ·rw[←bC same hlt]at hk;exact h.new i r k hi hk
  ·cases hk
  ·rw[mz]at hk;exact new' k hk
 ·rcases at_ i r hi with⟨hlt,hki,hi⟩ | ⟨hlt,hki,rfl⟩ | ⟨rfl,rfl⟩
  ·rw[←bC same hlt]at hk
   rcases at_ j r' hj with⟨hlt',hkj,hj⟩ | ⟨hlt',hkj,rfl⟩ | ⟨rfl,rfl⟩
   ·rw[←bC same hlt']at hk';exact h.inj i j r r' k hi hj hk hk'
   ·cases hk'
   ·rw[mz]at hk';exact absurd hk' (apart i r k hki hi hk)
  ·cases hk
  ·rcases at_ j r' hj with⟨hlt',hkj,hj⟩ | ⟨hlt',hkj,rfl⟩ | ⟨rfl,rfl⟩
   ·rw[←bC same hlt']at hk'
    rw[mz]at hk;exact absurd hk (apart j r' k hkj hj hk')
   ·cases hk'
   ·rfl
 ·obtain⟨i,r0,_,h0,hb⟩:=hS k hk
  exact h.new i r0 k h0 hb
 ·exact SV.bD (fun i hi=>by simp[klen];omega) (h.yC u sv hu)
 ·rcases at_ i r hi with⟨hlt,hki,hi⟩ | ⟨hlt,hki,rfl⟩ | ⟨rfl,rfl⟩
  ·exact Cells.bD (fun i hi=>by simp[klen];omega) (h.yy i r hi)
  ·trivial
  ·trivial
theorem LU{r:gV}{e:Ending}(h:eh w r e w'):(∃v,r=.val v∧e=.returned v∧ai [] w w')∨(∃T size nn xs A cc,jR r=some ⟨T,.own size nn xs⟩∧Own w' T size (.slice A nn cc) nn xs∧ai [] w w'∧(∀k,A.map (·.block)=some k→w.heap.size≤k)∧
  ∀(β:Env) (m:Nat),e=.returned ((iY m r).den (β.jc m A nn cc))∧(iY m r).on (·=m)):=by
 have key:∀{T size nn:Nat} {xs:List Value} {s:Value},Acc w w' T size s nn xs→∃A cc,s=.slice A nn cc∧Own w' T size (.slice A nn cc) nn xs∧∀k,A.map (·.block)=some k→w.heap.size≤k:=by
  intro T size nn xs s h;obtain⟨A,cc,rfl,_⟩:=h.own.form;refine⟨A,cc,rfl,h.own,fun k hk=>h.new k ?_⟩;cases A with
  |none=>cases hk
  |some ad=>simpa[Yb]using hk
 cases r with
 |val v=>exact .inl ⟨v,rfl,h.1,h.2⟩
 |sl T size nn xs=>obtain⟨s,he,hacc⟩:=h;obtain⟨A,cc,rfl,ho,hk⟩:=key hacc;exact .inr ⟨T,size,nn,xs,A,cc,rfl,ho,hacc.aJ,hk,fun β m=>⟨by rw[he];simp only[iY,SV.den,nt],rfl⟩⟩
 |oo pre T size nn xs post=>obtain⟨s,he,hacc⟩:=h;obtain⟨A,cc,rfl,ho,hk⟩:=key hacc;exact .inr ⟨T,size,nn,xs,A,cc,rfl,ho,hacc.aJ,hk,fun β m=>⟨by rw[he];simp only[iY,SV.den,nt],rfl⟩⟩
theorem Cl{β:Env}{i:Nat}:(β.sl i).ownBlock=(β.a i).map (·.block):=by unfold Env.sl;cases h:β.a i<;>simp[Yb]
theorem uk{A:Option Addr}{n c:Nat}:(Ye A n c).ownBlock=A.map (·.block):=by cases A<;>simp[Yb]
theorem GZ{s0:Value}{r:gV}{e:Ending}(h:ss w s0 r e w'):∃T size nn xs A cc,jR r=some ⟨T,.own size nn xs⟩∧Own w' T size (.slice A nn cc) nn xs∧ai s0.ownBlock.toList w w'∧(∀k,A.map (·.block)=some k→s0.ownBlock=some k∨w.heap.size≤k)∧
  ∀(β:Env) (m:Nat),e=.returned ((iY m r).den (β.jc m A nn cc))∧(iY m r).on (·=m):=by
 cases r with
 |val v=>exact h.elim
 |sl T size nn xs=>obtain⟨s,he,ho,hc,hk⟩:=h;obtain⟨A,cc,rfl,_⟩:=ho.form;exact⟨T,size,nn,xs,A,cc,rfl,ho,hc,fun k h=>hk k (by rw[uk];exact h),fun β m=>⟨by rw[he];simp only[iY,SV.den,nt],rfl⟩⟩
 |oo pre T size nn xs post=>obtain⟨s,he,ho,hc,hk⟩:=h;obtain⟨A,cc,rfl,_⟩:=ho.form;exact⟨T,size,nn,xs,A,cc,rfl,ho,hc,fun k h=>hk k (by rw[uk];exact h),fun β m=>⟨by rw[he];simp only[iY,SV.den,nt],rfl⟩⟩
theorem Hd.eval(h:Hd ds w0 n β st a w){x:Operand}{sv:SV}(hx:ev st.fr x=some sv):a.eval x=sv.den β:=by
 cases x with
 |tmp t=>have:=h.get t sv hx;simp[Act.eval,this]
 |const v=>simp only[ev,XW.injEq]at hx;subst hx;rfl
 |global g=>simp only[ev,XW.injEq]at hx;subst hx;rfl
 |func f=>simp only[ev,XW.injEq]at hx;subst hx;rfl
theorem Hd.VE(h:Hd ds w0 n β st a w){x:Operand}{sv:SV}(hx:ev st.fr x=some sv):sv.on (· < st.mem.length):=by
 cases x with
 |tmp t=>exact h.yC t sv hx
 |const v=>simp only[ev,XW.injEq]at hx;subst hx;trivial
 |global g=>simp only[ev,XW.injEq]at hx;subst hx;trivial
 |func f=>simp only[ev,XW.injEq]at hx;subst hx;trivial
end
def pP(m:Nat):Atom→Bool
 |.v _=>true
 |.o i=>XX i m
 |.p i _=>XX i m
 |.s i _ _ _=>XX i m
def F7(m:Nat):fX→Bool
 |.a x=>pP m x
 |.row l=>fM (pP m) l
 |.ml _ i _=>XX i m
def Cd(m:Nat):SV→Bool
 |.val _=>true
 |.ptr i _=>XX i m
 |.oI i _ _ _=>XX i m
 |.own i=>XX i m
 |.nK i _=>XX i m
 |.oo _ i _=>XX i m
 |.mf i _ _ _=>XX i m
 |.gone=>true
 |.dX l=>fM (pP m) l
 |.Ik _ l=>fM (pP m) l
 |.ml _ i _=>XX i m
 |.nz l=>fM (F7 m) l
 |.eU _ i _=>XX i m
def nZ(m:Nat):Cells→Bool
 |.an _=>true
 |.dK cs=>fM (Cd m) cs
 |.own _ _ _=>true
 |.dead=>true
 |.dG _ _=>true
 |.j5 _ cs=>fM (Cd m) cs
theorem qA{m:Nat}{s:Atom}(h:pP m s=true):s.on (· < m):=by
 cases s with
 |v x=>trivial
 |o i=>exact XB h
 |p i off=>exact XB h
 |s i _ _ _=>exact XB h
theorem Kf{m:Nat}{s:fX}(h:F7 m s=true):s.on (· < m):=by
 cases s with
 |a x=>exact qA h
 |row l=>exact fun a ha=>qA (bn (show fM (pP m) l=true from h) a ha)
 |ml t i off=>exact XB h
theorem p5{m:Nat}{s:SV}(h:Cd m s=true):s.on (· < m):=by
 cases s with
 |val v=>trivial
 |ptr i o=>exact XB h
 |oI i o n c=>exact XB h
 |own i=>exact XB h
 |nK i o=>exact XB h
 |oo l i r=>exact XB h
 |mf i o n c=>exact XB h
 |gone=>trivial
 |dX l=>exact fun a ha=>qA (bn (show fM (pP m) l=true from h) a ha)
 |Ik f l=>exact fun a ha=>qA (bn (show fM (pP m) l=true from h) a ha)
 |ml t i off=>exact XB h
 |nz l=>exact fun a ha=>Kf (bn (show fM (F7 m) l=true from h) a ha)
 |eU b i off=>exact XB h
theorem lh{m:Nat}{c:Cells}(h:nZ m c=true):c.on (· < m):=by
 unfold nZ at h;cases c with
 |an cs=>trivial
 |own _ _ _=>trivial
 |dead=>trivial
 |dG _ _=>trivial
 |dK cs=>exact fun s hs=>p5 (bn h s hs)
 |j5 g cs=>exact fun s hs=>p5 (bn h s hs)
def rowAt(mem:List Row)(i:Nat):Option Row:=mem[i]?
def fX.sv:fX→SV
 |.a x=>x.sv
 |.row l=>.dX l
 |.ml t i off=>.ml t i off
theorem fX.tq{β:Env}{a:fX}:a.sv.den β=a.den β:=by
 cases a with
 |a x=>exact Atom.tq
 |row l=>rfl
 |ml t i off=>rfl
theorem fX.Cc{Q:Nat→Prop}{a:fX}(h:a.on Q):a.sv.on Q:=by
 cases a with
 |a x=>exact Atom.Cc h
 |row l=>exact h
 |ml t i off=>exact h
def Mx(P:Program)(f:FuncId):Bool:=match P.funcs[f]? with
 |some fn=>match fn.name== "runtime.NumGoroutine"||fn.body.isNone with
  |true=>false
  |false=>true
 |none=>false
def yj(P:Program)(e:Operand→Option SV)(x:Operand):Option (FuncId×List SV):=match e x with
 |some sv=>match sv with
  |.val v=>match v with
   |.func fn first cap=>match fn with
    |.func f=>match first.toList with
     | []=>match Mx P f with
      |true=>some (f,cap.toList.map .val)
      |false=>none
     |_=>none
    |_=>none
   |_=>none
  |.Ik f l=>match Mx P f with
   |true=>some (f,l.map Atom.sv)
   |false=>none
  |_=>none
 |none=>none
inductive OD where
 |no
 |val (sv:SV)
 |call (f:FuncId) (args:List SV) (g:cS)
 |jG (t:TypeId) (cs:List Value) (l:List (Nat×TypeId×Nat))
 |IF (t:TypeId) (l:List SV) (len:Nat)
def lF(e:Operand→Option SV):Nat→List (Nat×Operand)→Option (List SV)
 |_,[]=>some []
 |k,p::r=>match XJ p.1 k with
  |true=>match e p.2 with
   |some sv=>match lF e (k+1) r with
    |some l=>some (sv::l)
    |none=>none
   |none=>none
  |false=>none
def BH:SV→Option (List Atom)
 |.val v=>some (v.cells.toList.map .v)
 |.own i=>some [.o i]
 |.ptr i off=>some [.p i off]
 |.mf i off len cut=>some [.s i off len cut]
 |.dX l=>some l
 |_=>none
theorem Ed{β:Env}{sv:SV}{l:List Atom}(h:BH sv=some l):(sv.den β).cells.toList=l.map (Atom.den β):=by
 cases sv with
 |val v=>cases h;rw[X7];show v.cells.toList=_;exact(YE _).symm
 |own i=>cases h;rfl
 |ptr i off=>cases h;rfl
 |mf i off len cut=>cases h;rfl
 |dX l=>cases h;rfl
 |_=>cases h
theorem Ge{Q:Nat→Prop}{sv:SV}{l:List Atom}(h:BH sv=some l)(hq:sv.on Q):∀a∈l,a.on Q:=by
 cases sv with
 |val v=>cases h;intro a ha;obtain⟨_,_,rfl⟩:=XO.1 ha;trivial
 |own i=>cases h;intro a ha;rw[X0.1 ha];exact hq
 |ptr i off=>cases h;intro a ha;rw[X0.1 ha];exact hq
 |mf i off len cut=>cases h;intro a ha;rw[X0.1 ha];exact hq
 |dX l=>cases h;exact hq
 |_=>cases h
def tG(e:Operand→Option SV):List (Nat×Operand)→Option (List (Nat×List Atom))
 | []=>some []
 |p::r=>match e p.2 with
  |some sv=>match BH sv with
   |some l=>match tG e r with
    |some q=>some ((p.1,l)::q)
    |none=>none
   |none=>none
  |none=>none
def zZ(place:Nat→Option (Nat×Nat)):List Atom→List (Nat×List Atom)→Option (List Atom)
 |cells,[]=>some cells
 |cells,p::rest=>match place p.1 with
  |none=>none
  |some q=>match XJ p.2.length q.2&&Yz (q.1+p.2.length) cells.length with
   |true=>zZ place (cells.take q.1++(p.2++cells.drop (q.1+p.2.length))) rest
   |false=>none
def placesOf(P:Program):List Field→Option (List (Nat×Nat))
 | []=>some []
 |f::r=>match P.info? f.type with
  |some i=>match placesOf P r with
   |some l=>some ((f.offset,i.size)::l)
   |none=>none
  |none=>none
theorem uA{P:Program}:∀{fs:List Field} {l:List (Nat×Nat)},placesOf P fs=some l→fs.mapM (fun f=>(P.info? f.type).map fun i=>(f.offset,i.size))=some l
 | [],l,h=>by cases h;rfl
 |f::r,l,h=>by
  unfold placesOf at h;split at h
  ·rename_i i hi
   split at h
   ·rename_i q hq
    cases h;rw[List.mapM_cons,hi,uA hq];rfl
   ·cases h
  ·cases h
theorem xK(off:Nat):∀(l:List Value) (k:Nat) (cells:Array Value),off+k+l.length≤cells.size→
  ((l.zipIdx k).foldl (fun cs (p:Value×Nat)=>cs.setIfInBounds (off+p.2) p.1) cells).toList=cells.toList.take (off+k)++(l++cells.toList.drop (off+k+l.length))
 | [],k,cells,h=>by simp
 |v::l,k,cells,h=>by
  simp only[XU]at h;rw[Ym,YF,xK off l (k+1) _ (by simp;omega)];have hlt:off+k < cells.toList.length:=by simp;omega
  obtain⟨m,hm⟩:∃m,m=off+k:=⟨_,rfl⟩;simp only[YG,XU];rw[show off+(k+1)=m+1 by omega,←hm];rw[←hm]at hlt;have hl:(cells.toList.take m).length=m:=by rw[XM];omega
  have e0:cells.toList.set m v=cells.toList.take m++v::cells.toList.drop (m+1):=by rw[Yx,if_pos hlt]
  have e1:(cells.toList.set m v).take (m+1)=cells.toList.take m++[v]:=by rw[e0,show cells.toList.take m++v::cells.toList.drop (m+1)=(cells.toList.take m++[v])++cells.toList.drop (m+1)by simp];exact List.take_left' (by rw[XT,hl];rfl)
  have e2:(cells.toList.set m v).drop (m+1+l.length)=cells.toList.drop (m+(l.length+1)):=by rw[e0,show cells.toList.take m++v::cells.toList.drop (m+1)=(cells.toList.take m++[v])++cells.toList.drop (m+1)by simp,List.drop_append,Yo (by rw[XT,hl];simp)];rw[Yp,XT,hl,Y2];congr 1;simp only[XU,Yr];omega
  rw[e1,e2];simp
theorem DG{β:Env}{place:Nat→Option (Nat×Nat)}:∀{ps:List (Nat×List Atom)} {vs:List (Nat×Value)} {cells out:List Atom},zZ place cells ps=some out→vs.map (fun p=>(p.1,p.2.cells.toList))=ps.map (fun p=>(p.1,p.2.map (Atom.den β)))→
  Yt place (cells.map (Atom.den β)).toArray vs=some (out.map (Atom.den β)).toArray
 | [],[],cells,out,h,_=>by cases h;rfl
 | [],_::_,_,_,_,hv=>by cases hv
 |_::_,[],_,_,_,hv=>by cases hv
 |p::ps,q::vs,cells,out,h,hv=>by
  rw[XL,XL]at hv;injection hv with h1 h2;injection h1 with h3 h4;unfold zZ at h;unfold Yt;rw[h3];split at h
  ·cases h
  ·rename_i r hr
   rw[hr];split at h
   ·rename_i hb
    rw[XC]at hb;have l1:p.2.length=r.2:=Xz hb.1;have l2:r.1+p.2.length≤cells.length:=XB hb.2;have hsz:q.2.cells.size=p.2.length:=by have:=congrArg Zd h4;simpa using this
    have hz:q.2.cells.zipIdx.foldl (fun cs (p:Value×Nat)=>cs.setIfInBounds (r.1+p.2) p.1) (cells.map (Atom.den β)).toArray=((cells.take r.1++(p.2++cells.drop (r.1+p.2.length))).map (Atom.den β)).toArray:=by apply XZ.1;rw[←YU,Array.toList_zipIdx,xK r.1 _ 0 _ (by simp[hsz];omega),h4];simp
    show(if(decide (q.2.cells.size≠r.2)||decide (r.1+q.2.cells.size > (cells.map (Atom.den β)).toArray.size))=true then none else Yt place (q.2.cells.zipIdx.foldl (fun cs (p:Value×Nat)=>cs.setIfInBounds (r.1+p.2) p.1) (cells.map (Atom.den β)).toArray) vs)=_;rw[if_neg (by simp[hsz,l1];omega),hz];exact DG h h2
   ·cases h
theorem DH{Q:Nat→Prop}{place:Nat→Option (Nat×Nat)}:∀{ps:List (Nat×List Atom)} {cells out:List Atom},zZ place cells ps=some out→(∀a∈cells,a.on Q)→(∀p∈ps,∀a∈p.2,a.on Q)→∀a∈out,a.on Q
 | [],cells,out,h,hc,_=>by cases h;exact hc
 |p::ps,cells,out,h,hc,hp=>by
  unfold zZ at h;split at h
  ·cases h
  ·split at h
   ·refine DH h (fun a ha=>?_) fun q hq=>hp q (XD _ hq)
    rcases Yf.1 ha with ha|ha
    ·exact hc a (Yu ha)
    ·rcases Yf.1 ha with ha|ha
     ·exact hp p (by simp) a ha
     ·exact hc a (Yv ha)
   ·cases h
theorem wO{β:Env}{a:Act}{e:Operand→Option SV}:∀{l:List (Nat×Operand)} {ps:List (Nat×List Atom)},tG e l=some ps→(∀p∈l,∀sv,e p.2=some sv→a.eval p.2=sv.den β)→
  (l.map fun p=>(p.1,a.eval p.2)).map (fun p=>(p.1,p.2.cells.toList))=ps.map (fun p=>(p.1,p.2.map (Atom.den β)))
 | [],ps,h,_=>by cases h;rfl
 |p::l,ps,h,he=>by
  unfold tG at h;split at h
  ·rename_i sv hsv
   split at h
   ·rename_i as has
    split at h
    ·rename_i q hq
     cases h;have ih:=wO (β:=β) (a:=a) hq fun x hx=>he x (XD _ hx);have h1:=he p (by simp) sv hsv;simp only[XL]at ih ⊢;rw[ih,h1,Ed has]
    ·cases h
   ·cases h
  ·cases h
theorem zq{Q:Nat→Prop}{e:Operand→Option SV}:∀{l:List (Nat×Operand)} {ps:List (Nat×List Atom)},tG e l=some ps→(∀p∈l,∀sv,e p.2=some sv→sv.on Q)→∀p∈ps,∀a∈p.2,a.on Q
 | [],ps,h,_=>by cases h;intro p hp;cases hp
 |p::l,ps,h,he=>by
  unfold tG at h;split at h
  ·rename_i sv hsv
   split at h
   ·rename_i as has
    split at h
    ·rename_i q hq
     cases h;intro x hx;rcases X1.1 hx with rfl|hx
     ·exact Ge has (he p (by simp) sv hsv)
     ·exact zq hq (fun y hy=>he y (XD _ hy)) x hx
    ·cases h
   ·cases h
  ·cases h
def s4(P:Program)(e:Operand→Option SV)(t:TypeId)(parts:List (Nat×Operand)):Option (List Atom):=match P.underlying t with
 |some (.struct fields)=>match P.info? t with
  |some it=>match it.zero with
   |some z=>match placesOf P fields.toList with
    |some places=>match tG e parts with
     |some ps=>zZ (fun i=>places[i]?) (z.cells.toList.map .v) ps
     |none=>none
    |none=>none
   |none=>none
  |none=>none
 |_=>none
theorem Gc{P:Program}{β:Env}{a:Act}{e:Operand→Option SV}{t:TypeId}{parts:Array (Nat×Operand)}{l:List Atom}{W:World}(h:s4 P e t parts.toList=some l)(he:∀p∈parts.toList,∀sv,e p.2=some sv→a.eval p.2=sv.den β) :
  (Instr.build t (parts.map fun p=>(p.1,a.eval p.2))).run P W=.ok (.agg (l.map (Atom.den β)).toArray) W:=by
 unfold s4 at h;split at h
 ·rename_i fields hu
  split at h
  ·rename_i it hi
   split at h
   ·rename_i z hz
    split at h
    ·rename_i places hp
     split at h
     ·rename_i ps hps
      refine run_build W t _ _ ?_;unfold Program.built;rw[hi,hu];simp only[hz,uA hp];have hm:=wO (β:=β) (a:=a) hps he;have hf:=DG (β:=β) h (vs:=parts.toList.map fun p=>(p.1,a.eval p.2)) hm;have hc:(z.cells.toList.map Atom.v).map (Atom.den β)=z.cells.toList:=by rw[X7];exact YE _
      rw[hc]at hf;rw[X5];simpa using hf
     ·cases h
    ·cases h
   ·cases h
  ·cases h
 ·cases h
theorem Gb{P:Program}{Q:Nat→Prop}{e:Operand→Option SV}{t:TypeId}{parts:List (Nat×Operand)}{l:List Atom}(h:s4 P e t parts=some l)(he:∀p∈parts,∀sv,e p.2=some sv→sv.on Q):∀a∈l,a.on Q:=by
 unfold s4 at h;split at h
 ·split at h
  ·split at h
   ·split at h
    ·split at h
     ·rename_i ps hps
      refine DH h (fun a ha=>?_) (zq hps he);obtain⟨_,_,rfl⟩:=XO.1 ha;trivial
     ·cases h
    ·cases h
   ·cases h
  ·cases h
 ·cases h
def DQ(P:Program)(t:TypeId)(s:SV)(v:Value):Bool:=match s with
 |.oI _ _ _ _=>match v with
  |.slice none _ _=>match P.underlying t with
   |some (.slice _)=>true
   |_=>false
  |_=>false
 |.ptr _ _=>match v with
  |.pointer none=>match P.underlying t with
   |some (.pointer _)=>true
   |_=>false
  |_=>false
 |.ml _ _ _=>match v with
  |.nilIface=>match P.underlying t with
   |some (.interface _)=>true
   |_=>false
  |_=>false
 |_=>false
theorem Nz{P:Program}{t:TypeId}{s:SV}{v:Value}{β:Env}{W:World}(h:DQ P t s v=true)(d:Nat):(YK (d+1) t (s.den β) v).run P W=.ok false W:=by
 unfold DQ at h;split at h
 ·split at h
  ·split at h
   ·rename_i hu
    simp[YK,SV.den,run_underlying hu]
   ·cases h
  ·cases h
 ·split at h
  ·split at h
   ·rename_i hu
    simp[YK,SV.den,run_underlying hu]
   ·cases h
  ·cases h
 ·split at h
  ·split at h
   ·rename_i hu
    simp[YK,SV.den,run_underlying hu]
   ·cases h
  ·cases h
 ·cases h
theorem F2{P:Program}{t:TypeId}{s:SV}{v:Value}{β:Env}(h:DQ P t s v=true):(∃a n c n' c',s.den β=.slice a n c∧v=.slice none n' c')∨(∃a,s.den β=.pointer a∧v=.pointer none)∨(∃t' p,s.den β=.iface t' p∧v=.nilIface):=by
 cases s with
 |oI b off n c=>
  cases v with
  |slice a n' c'=>
   cases a with
   |none=>exact .inl ⟨_,_,_,_,_,rfl,rfl⟩
   |some _=>cases h
  |_=>cases h
 |ptr b off=>
  cases v with
  |pointer a=>
   cases a with
   |none=>exact .inr (.inl ⟨_,rfl,rfl⟩)
   |some _=>cases h
  |_=>cases h
 |ml t' b off=>
  cases v with
  |nilIface=>exact .inr (.inr ⟨_,_,rfl,rfl⟩)
  |_=>cases h
 |_=>cases h
theorem Ny{P:Program}{t:TypeId}{s:SV}{v:Value}{β:Env}{W:World}(h:DQ P t s v=true)(x y:Operand) :
  (do eqGuard .eql t x y (s.den β) v;binOp .eql t (s.den β) v:Sem Value).run P W=.ok (.bool false) W∧(do eqGuard .neq t x y (s.den β) v;binOp .neq t (s.den β) v:Sem Value).run P W=.ok (.bool true) W:=by
 have he:=Nz (β:=β) (W:=W) h 9999;have hf:=F2 (β:=β) h;rcases hf with⟨_,_,_,_,_,h1,h2⟩ | ⟨_,h1,h2⟩ | ⟨_,_,h1,h2⟩
 ·subst h2
  rw[h1]at he ⊢;constructor<;>simp[eqGuard,binOp,Za,YX,he]
 ·subst h2
  rw[h1]at he ⊢;constructor<;>simp[eqGuard,binOp,Za,YX,he]
 ·subst h2
  rw[h1]at he ⊢;constructor<;>simp[eqGuard,binOp,Za,YX,he]
def DD(P:Program)(H:List (Nat×Hint))(e:Operand→Option SV)(o:Oper):OD:=match o.op with
 |.call c=>match hint H o.dst with
  |some (.aB g)=>match c.callee with
   |.value x=>match yj P e x with
    |some p=>match kH e c.args.toList with
     |some l=>.call p.1 (l++p.2) g
     |none=>.no
    |none=>.no
   |_=>.no
  |_=>.no
 |.indexAddr t x ix=>match e x with
  |some (.oI b off len _)=>match e ix with
   |some (.val (.int _ k))=>match P.underlying t with
    |some (.slice elem)=>match P.info? elem with
     |some inf=>match decide (0≤k∧k < len)with
      |true=>.val (.ptr b (off+k.toNat*inf.size))
      |false=>.no
     |none=>.no
    |_=>.no
   |_=>.no
  |_=>.no
 |.makeInterface t x=>match e x with
  |some (.ptr i off)=>match P.concrete t with
   |true=>.val (.ml t i off)
   |false=>.no
  |_=>.no
 |.extract x k=>match e x with
  |some (.nz l)=>match l[k]? with
   |some c=>.val c.sv
   |none=>.no
  |_=>.no
 |.makeFunc fn first captured=>match fn with
  |.func f=>match first.toList with
   | []=>match kH e captured.toList with
    |some l=>match gO l with
     |some as=>.val (.Ik f as)
     |none=>.no
    |none=>.no
   |_=>.no
  |_=>.no
 |.buildSlice t len parts=>match lF e 0 parts.toList with
  |some l=>match P.underlying t with
   |some (.slice el)=>match P.info? el with
    |some inf=>match inf.zero with
     |some z=>match fM SV.one l&&(XJ l.length len&&(XJ inf.size 1&&(XJ z.cells.toList.length 1&&(Yz len 16777216&&XX 0 len))))with
      |true=>.IF el l len
      |false=>.no
     |none=>.no
    |none=>.no
   |_=>.no
  |none=>.no
 |.alloc t=>match hint H o.dst with
  |some (.tL l)=>match P.info? t with
   |some inf=>match inf.zero with
    |some z=>.jG t z.cells.toList l
    |none=>.no
   |none=>.no
  |_=>.no
 |.box t x=>match hint H o.dst with
  |some (.tL l)=>match e x with
   |some (.val v)=>.jG t v.cells.toList l
   |_=>.no
  |_=>.no
 |.build t parts=>match fM (fun p=>isVal e p.2) parts.toList with
  |true=>.no
  |false=>match s4 P e t parts.toList with
   |some l=>.val (.dX l)
   |none=>.no
 |.binOp op t x y _=>match e x with
  |some s=>match e y with
   |some (.val v)=>match DQ P t s v with
    |true=>match op with
     |.eql=>.val (.val (.bool false))
     |.neq=>.val (.val (.bool true))
     |_=>.no
    |false=>.no
   |_=>.no
  |none=>.no
 |_=>.no
def OD.Ok(P:Program)(β:Env)(W:World)(a:Act)(o:Oper):OD→Prop
 |.no=>True
 |.val sv=>(execOp a.eval o).run P W=.ok (.value (sv.den β)) W
 |.call f args _=>(execOp a.eval o).run P W=.ok (.enter f (args.map (SV.den β)).toArray) W
 |.jG t cs _=>(execOp a.eval o).run P W=.ok (.value (.pointer (some ⟨W.heap.size,0,none⟩))) (W.alloc (.cells cs.toArray t))
 |.IF t l len=>(execOp a.eval o).run P W=.ok (.value (.slice (some ⟨W.heap.size,0,none⟩) len len)) (W.alloc (.cells (l.map (SV.den β)).toArray t))
def OD.On(Q:Nat→Prop):OD→Prop
 |.val sv=>sv.on Q
 |.IF _ l _=>∀s∈l,s.on Q
 |_=>True
section
variable{P:Program}{H:List (Nat×Hint)}{β:Env}{W:World}{a:Act}{o:Oper}{e:Operand→Option SV}
theorem Jv{f:FuncId}(h:Mx P f=true)(args:Array Value):(callFunc f args).run P W=.ok (.enter f args) W:=by
 unfold Mx at h;split at h
 ·rename_i fn hf
  split at h
  ·cases h
  ·rename_i hb
   rw[YS]at hb;have hb1:¬fn.name= "runtime.NumGoroutine":=by simpa using hb.1
   have hb2:¬fn.body=none:=by intro h;rw[h]at hb;exact absurd hb.2 (by decide)
   simp[callFunc,hf,hb1,hb2]
 ·cases h
theorem Km{x:Operand}{p:FuncId×List SV}(h:yj P e x=some p)(hx:∀sv,e x=some sv→a.eval x=sv.den β):Mx P p.1=true∧∃cap:Array Value,a.eval x=.func (.func p.1) #[] cap∧cap.toList=p.2.map (SV.den β):=by
 unfold yj at h;split at h
 ·rename_i sv hsv
  have hx:=hx _ hsv;split at h
  ·rename_i v
   split at h
   ·rename_i fn first cap
    split at h
    ·rename_i f
     split at h
     ·rename_i hfirst
      split at h
      ·rename_i hf
       cases h;have:first=#[]:=by rw[←X3 (xs:=first),hfirst]
       subst this;exact⟨hf,cap,hx,by simp[SV.den,Function.comp_def]⟩
      ·cases h
     ·cases h
    ·cases h
   ·cases h
  ·rename_i f l
   split at h
   ·rename_i hf
    cases h;refine⟨hf,_,hx,?_⟩;rw[X7];exact XN fun a _=>Atom.tq.symm
   ·cases h
  ·cases h
 ·cases h
theorem sD{β:Env}{a:Act}{e:Operand→Option SV}:∀{l:List (Nat×Operand)} {k:Nat} {vs:List SV},lF e k l=some vs→(∀i x,(i,x)∈l→∀sv,e x=some sv→a.eval x=sv.den β)→(l.map fun p=>(p.1,a.eval p.2))=((vs.map (SV.den β)).zipIdx k).map fun x=>(x.2,x.1)
 | [],k,vs,h,_=>by
  have:vs=[]:=by simpa[lF]using h.symm
  subst this;rfl
 | (i,x)::r,k,vs,h,he=>by
  unfold lF at h;simp only at h;split at h
  ·rename_i hi
   split at h
   ·rename_i v hx
    split at h
    ·rename_i l hl
     cases h;have h1:=sD hl fun i x hm=>he i x (XD _ hm);have h2:=he i x (by simp) _ hx;rw[XL,XL,Ym,XL,h1];simp only[h2,Xz hi]
    ·cases h
   ·cases h
  ·cases h
theorem uB{e:Operand→Option SV}:∀{l:List (Nat×Operand)} {k:Nat} {vs:List SV},lF e k l=some vs→∀s∈vs,∃i x,(i,x)∈l∧e x=some s
 | [],k,vs,h,s,hs=>by
  have:vs=[]:=by simpa[lF]using h.symm
  subst this;cases hs
 | (i,x)::r,k,vs,h,s,hs=>by
  unfold lF at h;simp only at h;split at h
  ·split at h
   ·rename_i v hx
    split at h
    ·rename_i l hl
     cases h;rcases X1.1 hs with rfl|hs
     ·exact⟨i,x,by simp,hx⟩
     ·obtain⟨i',x',hm,hx'⟩:=uB hl s hs
      exact⟨i',x',XD _ hm,hx'⟩
    ·cases h
   ·cases h
  ·cases h
theorem H8(he:∀x∈o.op.operands,∀sv,e x=some sv→a.eval x=sv.den β):(DD P H e o).Ok P β W a o:=by
 unfold DD;split
 ·rename_i c ho
  split
  ·rename_i g hg
   split
   ·rename_i x hcal
    split
    ·rename_i p hp
     split
     ·rename_i l hl
      obtain⟨callee,args,ats⟩:=c;simp only at hcal hl;subst hcal;obtain⟨hf,cap,hev,hcap⟩:=Km (a:=a) (β:=β) hp (fun sv hsv=>he x (by simp[ho,XA,Call.operands]) sv hsv);have hm:=p6 (β:=β) (a:=a) hl (fun x hx sv hsv=>he x (by have hx:x∈args:=Yc.1 hx;simp[ho,XA,Call.operands,hx]) sv hsv);have hm2:args.map a.eval++cap=((l++p.2).map (SV.den β)).toArray:=by rw[List.map_append,←hm,←hcap,←X5,←Array.toList_append,X3]
      show _=_;unfold execOp;simp only[ho,resolve,hev,Deferred.ofValue,invoke,XE,XP,XF];rw[show(#[]:Array Value)++args.map a.eval=args.map a.eval from by simp];rw[hm2];exact Jv hf _
     ·trivial
    ·trivial
   ·trivial
  ·trivial
 ·rename_i t x ix ho
  split
  ·rename_i b off len cap hx
   have hx:=he x (by simp[ho,XA]) _ hx;split
   ·rename_i kk k hk
    have hk:=he ix (by simp[ho,XA]) _ hk;split
    ·rename_i elem hu
     split
     ·rename_i inf hi
      split
      ·rename_i hb
       have hb:=of_decide_eq_true hb;show _=_;unfold execOp;simp[ho,hx,hk,SV.den,Yw,run_underlying hu,asIntOf,hb,sizeOf,typeInfo,hi,Addr.add_lit]
      ·trivial
     ·trivial
    ·trivial
   ·trivial
  ·trivial
 ·rename_i t x ho
  split
  ·rename_i i off hx
   have hx:=he x (by simp[ho,XA]) _ hx;split
   ·rename_i hc
    show _=_;unfold execOp;simp only[ho,hx,SV.den,XE,run_makeInterface W t _ hc,XF,XP]
   ·trivial
  ·trivial
 ·rename_i x k ho
  split
  ·rename_i l hx
   have hx:=he x (by simp[ho,XA]) _ hx;split
   ·rename_i c hc
    show _=_;unfold execOp;rw[fX.tq];simp[ho,hx,show(SV.nz l).den β=.tuple (l.map (fX.den β)).toArray from rfl,Y4,hc]
   ·trivial
  ·trivial
 ·rename_i fn first captured ho
  split
  ·rename_i f
   split
   ·rename_i hfirst
    split
    ·rename_i l hl
     split
     ·rename_i as has
      have hm:=p6 (β:=β) (a:=a) hl (fun x hx sv hsv=>he x (by have hx:x∈captured:=Yc.1 hx;simp[ho,XA,hx]) sv hsv);have:first=#[]:=by rw[←X3 (xs:=first),hfirst]
      subst this;show _=_;unfold execOp;simp only[ho,Instr.makeFunc,XE,XP,XF,SV.den];rw[←oE has,←hm,←X5,X3,show Array.map a.eval #[]=#[]from by simp]
     ·trivial
    ·trivial
   ·trivial
  ·trivial
 ·rename_i t len parts ho
  split
  ·rename_i l hl
   have hp:=sD hl (fun i x hm sv hsv=>he x (by simp only[ho,XA];simp only[Yn,XO];exact⟨(i,x),hm,rfl⟩) sv hsv);split
   ·rename_i el hu
    split
    ·rename_i inf hi
     split
     ·rename_i z hz
      split
      ·rename_i hh
       simp only[XC]at hh;obtain⟨h1,h2,h3,h4,h5,h6⟩:=hh;have h1:=bn h1;have h3:=Xz h3;have h2:=Xz h2;have h4:=Xz h4;have h5:=XB h5;have h6:0 < len:=XB h6;have h1':∀v∈l.map (SV.den β),v.cells.size=inf.size:=fun v hv=>by obtain⟨s,hs,rfl⟩:=XO.1 hv;rw[(qi (h1 s hs) β).1,h3];rfl
       have hflat:(l.map (SV.den β)).flatMap (fun v=>v.cells.toList)=l.map (SV.den β):=by
        have:∀l:List SV,(∀s∈l,s.one=true)→(l.map (SV.den β)).flatMap (fun v=>v.cells.toList)=l.map (SV.den β):=by
         intro l;induction l with
         |nil=>intro _;rfl
         |cons s l ih=>intro h;rw[XL,List.flatMap_cons,(qi (h s (by simp)) β).1,ih fun s hs=>h s (XD _ hs)];rfl
        exact this l h1
       show _=_;have hfill:=Great.fill_whole (s:=inf.size) (by omega) (l.map (SV.den β)) ((Y9 (len*inf.size)).map (z.cells[·%z.cells.size]!)) h1' (by simp[h2]);rw[←hp]at hfill;have hrun:=run_buildSlice (P:=P) W t el len (parts.map fun(i,x)=>(i,a.eval x)) _ inf z hu hi hz (by rw[h3];simp at h4 ⊢;omega) (by rw[h3];simp at h4 ⊢;omega) (by rw[X5];exact hfill);unfold execOp;simp only[ho,XE,hrun,XF,XP];rw[hflat]
      ·trivial
     ·trivial
    ·trivial
   ·trivial
  ·trivial
 ·rename_i t ho
  split
  ·split
   ·rename_i inf hi
    split
    ·rename_i z hz
     show _=_;have:=Mq (P:=P) (w0:=⟨W,[],fun _ _=>False⟩) (H:=[]) (β:=β) (W:=W) (a:=a) (o:=o) (e:=e) (row:=fun _=>none) (hn:=none) (ai.refl _ _) he (fun i r _ hi=>by cases hi);unfold fZ at this;simp only[ho,hi,hz]at this;exact this
    ·trivial
   ·trivial
  ·trivial
 ·rename_i t x ho
  split
  ·split
   ·rename_i v hx
    have hx:=he x (by simp[ho,XA]) _ hx;show _=_;unfold execOp;simp[ho,hx,YO,newVar,newRow,SV.den]
   ·trivial
  ·trivial
 ·rename_i t parts ho
  split
  ·trivial
  ·split
   ·rename_i l hl
    have hb:=Gc (P:=P) (β:=β) (a:=a) (W:=W) hl fun p hp sv hsv=>he p.2 (by simp only[ho,XA];simp only[Yn,XO];exact⟨p,hp,rfl⟩) sv hsv;show _=_;unfold execOp;simp only[ho,XE];rw[hb];rfl
   ·trivial
 ·rename_i op t x y yt ho
  split
  ·rename_i s hs
   split
   ·rename_i v hv
    split
    ·rename_i hq
     have hx:=he x (by simp[ho,XA]) _ hs;have hy:a.eval y=v:=he y (by simp[ho,XA]) _ hv;have hok:=Ny (β:=β) (W:=W) hq x y;split
     ·show _=_
      unfold execOp;simp only[ho,hx,hy,XE,XP];have:=hok.1;simp only[XE]at this;rw[this];rfl
     ·show _=_
      unfold execOp;simp only[ho,hx,hy,XE,XP];have:=hok.2;simp only[XE]at this;rw[this];rfl
     ·trivial
    ·trivial
   ·trivial
  ·trivial
 ·trivial
theorem IB{Q:Nat→Prop}{xs:List Operand}{l:List SV}(h:kH e xs=some l)(he:∀x∈xs,∀sv,e x=some sv→sv.on Q):∀s∈l,s.on Q:=fun s hs=>by obtain⟨x,hx,hsv⟩:=nC h s hs;exact he x hx s hsv
theorem H7{Q:Nat→Prop}(he:∀x∈o.op.operands,∀sv,e x=some sv→sv.on Q):(DD P H e o).On Q:=by
 unfold DD;split
 ·repeat' split
  all_goals trivial
 ·rename_i t x ix ho
  split
  ·rename_i b off len cap hx
   have hx:=he x (by simp[ho,XA]) _ hx;repeat' split
   all_goals first|exact hx|trivial
  ·trivial
 ·rename_i t x ho
  split
  ·rename_i i off hx
   have hx:=he x (by simp[ho,XA]) _ hx;split
   ·exact hx
   ·trivial
  ·trivial
 ·rename_i x k ho
  split
  ·rename_i l hx
   have hx:=he x (by simp[ho,XA]) _ hx;split
   ·rename_i c hc
    exact fX.Cc (hx c (XY hc))
   ·trivial
  ·trivial
 ·rename_i fn first captured ho
  split
  ·split
   ·split
    ·rename_i l hl
     split
     ·rename_i as has
      exact q5 has (IB hl fun x hx sv hsv=>he x (by have hx:x∈captured:=Yc.1 hx;simp[ho,XA,hx]) sv hsv)
     ·trivial
    ·trivial
   ·trivial
  ·trivial
 ·rename_i t len parts ho
  split
  ·rename_i l hl
   have hl:∀s∈l,s.on Q:=fun s hs=>by obtain⟨i,x,hm,hx⟩:=uB hl s hs;refine he x ?_ s hx;simp only[ho,XA];simp only[Yn,XO];exact⟨(i,x),hm,rfl⟩
   repeat' split
   all_goals first|exact hl|trivial
  ·trivial
 ·repeat' split
  all_goals trivial
 ·repeat' split
  all_goals trivial
 ·rename_i t parts ho
  split
  ·trivial
  ·split
   ·rename_i l hl
    exact Gb hl fun p hp sv hsv=>he p.2 (by simp only[ho,XA];simp only[Yn,XO];exact⟨p,hp,rfl⟩) sv hsv
   ·trivial
 ·repeat' split
  all_goals trivial
 ·trivial
end
def cQ(β:Env)(row:Nat→Option Row)(i:Nat):Option Nat:=match row i with
 |some r=>az β i r
 |none=>none
structure fD(b:bu)(β:Env)(W:World)(row:Nat→Option Row)(iT:List Nat):Prop where
 aJ:ai b.S b.w W
 held:∀i∈iT,∀r,row i=some r→br β W i r
 new:∀i∈iT,∀r k,row i=some r→az β i r=some k→k∈b.S∨b.w.heap.size≤k
 inj:∀i∈iT,∀j∈iT,∀r r' k,row i=some r→row j=some r'→az β i r=some k→az β j r'=some k→i=j
def cS.eG(β:Env)(row:Nat→Option Row)(g:cS):List Nat:=(g.dW.map (·.1)++g.kill).filterMap (cQ β row)
structure BT(β:Env)(W:World)(row:Nat→Option Row)(m:Nat)(g:cS)(e:Ending)(w':World)(β':Env):Prop where
 same:β.same β' (· < m)
 ret:e=.returned (g.ret.den β')
 dW:∀q∈g.dW,br β' w' q.1 q.2
 new:∀(k:Nat) (r:Row),g.new[k]?=some r→br β' w' (m+k) r
 from_:∀(k:Nat) (r:Row) (x:Nat),g.new[k]?=some r→az β' (m+k) r=some x→x∈g.kill.filterMap (cQ β row)∨W.heap.size≤x
 apart:∀(k k':Nat) (r r':Row) (x:Nat),g.new[k]?=some r→g.new[k']?=some r'→az β' (m+k) r=some x→az β' (m+k') r'=some x→k=k'
 aJ:ai (g.eG β row) W w'
def bK(b:bu)(β:Env)(W:World)(row:Nat→Option Row)(m:Nat)(g:cS)(e:Ending)(w':World):Prop:=
 ((∀p,g.phi=some p→p)∧∃β',BT β W row m g e w' β')∨(g.phi.isSome=true∧∃chain,e=.panicked chain∧b.PP chain w'∧ai (g.eG β row) W w')
def Vf(p:Option Prop)(K:Prop):Prop:=match p with
 |none=>K
 |some q=>q→K
theorem Qe{p:Option Prop}{K:Prop}(h:Vf p K)(hp:∀q,p=some q→q):K:=by
 cases p with
 |none=>exact h
 |some q=>exact h (hp q rfl)
def Sf(r:SV)(p:Option Prop)(K:Prop):Prop:=match r with
 |.gone=>match p with
  |some q=>¬q
  |none=>K
 |_=>Vf p K
theorem Nl{r:SV}{p:Option Prop}{K:Prop}(h:Sf r p K)(hp:∀q,p=some q→q):K:=by
 cases r with
 |gone=>
  cases p with
  |none=>exact h
  |some q=>exact absurd (hp q rfl) h
 |_=>exact Qe h hp
def CV(i:Nat):List Nat→Bool
 | []=>false
 |j::r=>match XJ j i with
  |true=>true
  |false=>CV i r
theorem pn{i:Nat}:∀{l:List Nat},CV i l=true↔i∈l
 | []=>by simp[CV]
 |j::r=>by
  unfold CV;split
  ·rename_i h
   rw[Xz h];simp
  ·rename_i h
   have:j≠i:=fun hh=>by rw[hh,Zc]at h;cases h
   rw[pn,X1];exact⟨.inr,fun hh=>hh.resolve_left (Ne.symm this)⟩
def zY(i:Nat):List (Nat×Row)→Option Row
 | []=>none
 |q::r=>match XJ q.1 i with
  |true=>some q.2
  |false=>zY i r
theorem xQ{i:Nat}{r:Row}:∀{l:List (Nat×Row)},zY i l=some r→(i,r)∈l
 |q::l,h=>by
  unfold zY at h;split at h
  ·rename_i hb
   cases h;rw[←Xz hb];simp
  ·exact XD _ (xQ h)
theorem xR{i:Nat}:∀{l:List (Nat×Row)},zY i l=none→i∉l.map (·.1)
 | [],_=>by simp
 |q::l,h=>by
  unfold zY at h;split at h
  ·cases h
  ·rename_i hb
   have:q.1≠i:=fun hh=>by rw[hh,Zc]at hb;cases hb
   rw[XL,X1,not_or];exact⟨Ne.symm this,xR h⟩
def WK(g:cS)(i:Nat)(r:Row):Row:=match CV i g.kill with
 |true=>au
 |false=>match zY i g.dW with
  |some r'=>r'
  |none=>r
def DC(g:cS):Nat→List Row→List Row
 |_,[]=>[]
 |i,r::l=>WK g i r::DC g (i+1) l
theorem DB{g:cS}:∀{l:List Row} {k i:Nat},(DC g k l)[i]?=(l[i]?).map (WK g (k+i))
 | [],k,i=>by simp[DC]
 |r::l,k,0=>by simp[DC]
 |r::l,k,i+1=>by rw[DC,X9,X9,DB,show k+1+i=k+(i+1)by omega]
theorem jJ{g:cS}:∀{l:List Row} {k:Nat},(DC g k l).length=l.length
 | [],_=>rfl
 |r::l,k=>by rw[DC,XU,XU,jJ]
def Bo(mem:List Row)(g:cS):List Row:=DC g 0 mem++g.new
theorem lL{mem:List Row}{g:cS}:(Bo mem g).length=mem.length+g.new.length:=by rw[Bo,XT,jJ]
def Bt(mem:List Row)(i:Nat):Bool:=match mem[i]? with
 |some r=>r.fixed
 |none=>false
def No(mem:List Row)(g:cS):Bool:=
 fM (fun q=>(Bt mem q.1&&q.2.fixed)&&(nZ (mem.length+g.new.length) q.2.cs&&CV q.1 g.iT)) g.dW&&(fM (fun i=>CV i g.iT) g.kill&&(fM (fun r=>nZ (mem.length+g.new.length) r.cs) g.new&&Cd (mem.length+g.new.length) g.ret))
section
variable{P:Program}{w0:bu}{ds:List Deferred}{w w':World}{n:Nat}{β β':Env}{st:St}{a:Act}{g:cS}
theorem sU{mem:List Row}{i:Nat}(h:Bt mem i=true):∃r,mem[i]?=some r∧r.fixed=true:=by
 unfold Bt at h;split at h
 ·rename_i r hr;exact⟨r,hr,h⟩
 ·cases h
theorem Hd.iT(h:Hd ds w0 n β st a w)(l:List Nat):fD w0 β w (rowAt st.mem) l:=
 ⟨h.aJ,fun i _ r hr=>h.cw i r hr,fun i _ r k hr hk=>h.new i r k hr hk,fun i _ j _ r r' k hi hj hk hk'=>h.inj i j r r' k hi hj hk hk'⟩
theorem tn{row:Nat→Option Row}{k:Nat}(hk:k∈g.eG β row):∃i r,(i∈g.dW.map (·.1)∨i∈g.kill)∧row i=some r∧az β i r=some k:=by
 unfold cS.eG at hk;obtain⟨i,hi,hb⟩:=YW.1 hk;unfold cQ at hb;split at hb
 ·rename_i r hr
  exact⟨i,r,Yf.1 hi,hr,hb⟩
 ·cases hb
theorem Hy{row:Nat→Option Row}{k:Nat}(hk:k∈g.kill.filterMap (cQ β row)):∃i r,i∈g.kill∧row i=some r∧az β i r=some k:=by
 obtain⟨i,hi,hb⟩:=YW.1 hk;unfold cQ at hb;split at hb
 ·rename_i r hr
  exact⟨i,r,hi,hr,hb⟩
 ·cases hb
theorem Hd.eG(h:Hd ds w0 n β st a w):∀k∈g.eG β (rowAt st.mem),k∈w0.S∨w0.w.heap.size≤k:=fun k hk=>by obtain⟨i,r,_,hr,hb⟩:=tn hk;exact h.new i r k hr hb
theorem Hd.VA{e:Ending}(h:Hd ds w0 n β st a w)(hok:No st.mem g=true)(hr:BT β w (rowAt st.mem) st.mem.length g e w' β'):Hd ds w0 n β' ⟨st.fr,Bo st.mem g⟩ a w'∧g.ret.on (· < (Bo st.mem g).length):=by
 unfold No at hok;simp only[XC]at hok;obtain⟨hu,_,hn,hret⟩:=hok;have hu:=bn hu;have hn:=bn hn;have updOk:∀q∈g.dW,(∃r,st.mem[q.1]?=some r∧r.fixed=true)∧q.2.fixed=true∧q.2.cs.on (· < (Bo st.mem g).length):=fun q hq=>by have:=hu q hq;simp only[XC]at this;exact⟨sU this.1.1,this.1.2,by rw[lL];exact lh this.2.1⟩
 have up:∀i,i < st.mem.length→i < (Bo st.mem g).length:=fun i hi=>by rw[lL];omega
 have at_:∀(i:Nat) (r:Row),(Bo st.mem g)[i]?=some r→(i < st.mem.length∧((∃r0,st.mem[i]?=some r0∧i∉g.kill∧((i,r)∈g.dW∨(i∉g.dW.map (·.1)∧r=r0)))∨r=au))∨∃k,i=st.mem.length+k∧g.new[k]?=some r:=by
  intro i r hi;unfold Bo at hi;by_cases hlt:i < st.mem.length
  ·rw[XI (by rw[jJ];exact hlt),DB,Yj]at hi
   obtain⟨r0,h0⟩:∃r0,st.mem[i]?=some r0:=⟨_,YH hlt⟩;rw[h0,X8,XW.injEq]at hi;refine .inl ⟨hlt,?_⟩;unfold WK at hi;split at hi
   ·exact .inr hi.symm
   ·rename_i hkk
    have hkk:i∉g.kill:=fun hh=>by rw[pn.2 hh]at hkk;cases hkk
    split at hi
    ·rename_i r' hr'
     subst hi;exact .inl ⟨r0,h0,hkk,.inl (xQ hr')⟩
    ·rename_i hr'
     exact .inl ⟨r0,h0,hkk,.inr ⟨xR hr',hi.symm⟩⟩
  ·rw[XG (by rw[jJ];omega),jJ]at hi
   exact .inr ⟨i - st.mem.length,by omega,hi⟩
 have oldBlk:∀(i:Nat) (r:Row) (k:Nat),i < st.mem.length→(∃r0,st.mem[i]?=some r0∧i∉g.kill∧((i,r)∈g.dW∨(i∉g.dW.map (·.1)∧r=r0)))→az β' i r=some k→∃r0,st.mem[i]?=some r0∧i∉g.kill∧az β i r0=some k:=by
  rintro i r k hlt ⟨r0,h0,hkk,hc⟩ hb;refine⟨r0,h0,hkk,?_⟩;rcases hc with hq|⟨_,rfl⟩
  ·obtain⟨⟨r1,h1,hf1⟩,hf,_⟩:=updOk _ hq
   simp only at h1 hf;rw[h0]at h1;cases h1;rw[aM hf]at hb;rw[aM hf1,(hr.same i hlt).1];exact hb
  ·rw[bC hr.same hlt];exact hb
 have deadBlk:∀(γ:Env) (i k:Nat),az γ i au≠some k:=fun γ i k hh=>by cases hh
 refine⟨⟨h.size,h.dn,fun t sv ht=>?_,fun i r hi=>?_,fun i r k hi hb=>?_,fun i j r r' k hi hj hb hb'=>?_,h.aJ.seq hr.aJ h.eG,fun t sv ht=>?_,fun i r hi=>?_⟩,?_⟩
 ·rw[h.get t sv ht,SV.cI hr.same (h.yC t sv ht)]
 ·rcases at_ i r hi with⟨hlt,hc|rfl⟩ | ⟨k,rfl,hk'⟩
  ·obtain⟨r0,h0,hkk,hc⟩:=hc
   rcases hc with hq|⟨hnu,rfl⟩
   ·exact hr.dW _ hq
   ·refine br.congr hr.same hlt (h.yy i r h0) ((h.cw i r h0).aJ hr.aJ fun k hb hm=>?_)
    obtain⟨j,r1,hj,h1,hb1⟩:=tn hm;have:=h.inj i j r r1 k h0 h1 hb hb1;subst this;rcases hj with hj|hj
    ·exact hnu hj
    ·exact hkk hj
  ·trivial
  ·exact hr.new k r hk'
 ·rcases at_ i r hi with⟨hlt,hc|rfl⟩ | ⟨k',rfl,hk'⟩
  ·obtain⟨r0,h0,_,hb0⟩:=oldBlk i r k hlt hc hb
   exact h.new i r0 k h0 hb0
  ·exact absurd hb (deadBlk _ _ _)
  ·rcases hr.from_ k' r k hk' hb with hx|hx
   ·obtain⟨j,r1,_,h1,hb1⟩:=Hy hx
    exact h.new j r1 k h1 hb1
   ·exact .inr (Zb h.aJ.size hx)
 ·have mixed:∀(i k':Nat) (r r':Row),i < st.mem.length→(∃r0,st.mem[i]?=some r0∧i∉g.kill∧((i,r)∈g.dW∨(i∉g.dW.map (·.1)∧r=r0)))→az β' i r=some k→g.new[k']?=some r'→az β' (st.mem.length+k') r'=some k→False:=by
   intro i k' r r' hlt hc hb hk' hb';obtain⟨r0,h0,hkk,hb0⟩:=oldBlk i r k hlt hc hb;rcases hr.from_ k' r' k hk' hb' with hx|hx
   ·obtain⟨j,r1,hj,h1,hb1⟩:=Hy hx
    have:=h.inj i j r0 r1 k h0 h1 hb0 hb1;subst this;exact hkk hj
   ·have:=(h.cw i r0 h0).lt hb0
    omega
  rcases at_ i r hi with⟨hlt,hc|rfl⟩ | ⟨k1,rfl,hk1⟩
  ·rcases at_ j r' hj with⟨hlt',hc' | rfl⟩ | ⟨k2,rfl,hk2⟩
   ·obtain⟨r0,h0,_,hb0⟩:=oldBlk i r k hlt hc hb
    obtain⟨r1,h1,_,hb1⟩:=oldBlk j r' k hlt' hc' hb';exact h.inj i j r0 r1 k h0 h1 hb0 hb1
   ·exact absurd hb' (deadBlk _ _ _)
   ·exact(mixed i k2 r r' hlt hc hb hk2 hb').elim
  ·exact absurd hb (deadBlk _ _ _)
  ·rcases at_ j r' hj with⟨hlt',hc' | rfl⟩ | ⟨k2,rfl,hk2⟩
   ·exact(mixed j k1 r' r hlt' hc' hb' hk1 hb).elim
   ·exact absurd hb' (deadBlk _ _ _)
   ·rw[hr.apart k1 k2 r r' k hk1 hk2 hb hb']
 ·exact SV.bD up (h.yC t sv ht)
 ·rcases at_ i r hi with⟨hlt,hc|rfl⟩ | ⟨k',rfl,hk'⟩
  ·obtain⟨r0,h0,_,hq|⟨_,rfl⟩⟩:=hc
   ·exact(updOk _ hq).2.2
   ·exact Cells.bD up (h.yy i r h0)
  ·trivial
  ·rw[lL];exact lh (hn r (XY hk'))
 ·rw[lL];exact p5 hret
def jx:St→Nat→List (Nat×TypeId×Nat)→Option St
 |st,_,[]=>some st
 |st,i,q::l=>match st.mem[i]? with
  |some r=>match r.cs with
   |.an cs=>match cs[q.1]? with
    |some (.slice none 0 0)=>jx ⟨st.fr,(st.mem.set i ⟨r.ty,.dK ((cs.map .val).set q.1 (.own st.mem.length))⟩)++[⟨q.2.1,.own q.2.2 0 []⟩]⟩ i l
    |some (.pointer none)=>jx ⟨st.fr,st.mem.set i ⟨r.ty,.dK ((cs.map .val).set q.1 (.eU false i 0))⟩⟩ i l
    |_=>none
   |.dK cs=>match cs[q.1]? with
    |some (.val (.slice none 0 0))=>jx ⟨st.fr,(st.mem.set i ⟨r.ty,.dK (cs.set q.1 (.own st.mem.length))⟩)++[⟨q.2.1,.own q.2.2 0 []⟩]⟩ i l
    |some (.val (.pointer none))=>jx ⟨st.fr,st.mem.set i ⟨r.ty,.dK (cs.set q.1 (.eU false i 0))⟩⟩ i l
    |_=>none
   |_=>none
  |none=>none
theorem Cn{α:Type}{l:List α}{k:Nat}{x:α}(h:l[k]?=some x):l.set k x=l:=by obtain⟨hk,rfl⟩:=XH.1 h;exact List.set_getElem_self hk
theorem Hd.nil{i p T size:Nat}{r:Row}{cs:List SV}(h:Hd ds w0 n β st a w)(hi:st.mem[i]?=some r)(hd:r.cs.den β=cs.map (SV.den β))(hf:r.fixed=true)(hon:∀s∈cs,s.on (· < st.mem.length))(hp:cs[p]?=some (.val (.slice none 0 0))) :
  Hd ds w0 n (β.jc st.mem.length none 0 0) ⟨st.fr,(st.mem.set i ⟨r.ty,.dK (cs.set p (.own st.mem.length))⟩)++[⟨T,.own size 0 []⟩]⟩ a w:=by
 have hil:i < st.mem.length:=(XH.1 hi).1;have hgrow:=h.grow (kill:=none) (A:=none) (T:=T) (size:=size) (nn:=0) (cc:=0) (xs:=[]) (S:=[]) (w':=w) ⟨by simp,.inl ⟨rfl,rfl⟩⟩ (ai.refl _ _) (by simp) (by simp);have same:β.same (β.jc st.mem.length none 0 0) (· < st.mem.length):=vg.mono fun i hi=>YC hi;have h0:(fi st.mem none++[(⟨T,.own size 0 []⟩:Row)])[i]?=some r:=by rw[fi,XI hil];exact hi
 have hfx:(⟨r.ty,.dK (cs.set p (.own st.mem.length))⟩:Row).fixed=true:=rfl;have hcells:(Cells.dK (cs.set p (.own st.mem.length))).den (β.jc st.mem.length none 0 0)=r.cs.den β:=by rw[hd];show(cs.set p (.own st.mem.length)).map _=_;rw[Yi];have e:cs.map (SV.den (β.jc st.mem.length none 0 0))=cs.map (SV.den β):=(XN fun s hm=>SV.cI same (hon s hm)).symm;rw[e];refine Cn ?_;rw[X2,hp];show some (Ye none 0 0)=some ((β.jc st.mem.length none 0 0).sl st.mem.length);rw[nt]
 have hb:br (β.jc st.mem.length none 0 0) w i ⟨r.ty,.dK (cs.set p (.own st.mem.length))⟩:=by refine br.pb ?_ hfx (fun g hg=>by cases hg);rw[hcells];have:=(h.cw i r hi).cw hf;rwa [(same i hil).1]at this
 have hst:=hgrow.store (i:=i) (r0:=r) (r:=⟨r.ty,.dK (cs.set p (.own st.mem.length))⟩) h0 (by rw[aM hfx,aM hf]) hb (ai.refl _ _) (fun s hs=>by
  rcases XS hs with hs|rfl
  ·exact SV.bD (fun i hi=>by show i < (fi st.mem none++_).length;simp[fi];omega) (hon s hs)
  ·show st.mem.length < (fi st.mem none++_).length;simp[fi])
 have e:(fi st.mem none++[(⟨T,.own size 0 []⟩:Row)]).set i ⟨r.ty,.dK (cs.set p (.own st.mem.length))⟩=(st.mem.set i ⟨r.ty,.dK (cs.set p (.own st.mem.length))⟩)++[⟨T,.own size 0 []⟩]:=by rw[fi,List.set_append_left _ _ hil]
 simp only at hst;rw[e]at hst;exact hst
theorem Hd.S0{i p:Nat}{r:Row}{cs:List SV}(h:Hd ds w0 n β st a w)(hi:st.mem[i]?=some r)(hd:r.cs.den β=cs.map (SV.den β))(hf:r.fixed=true)(hon:∀s∈cs,s.on (· < st.mem.length))(hp:cs[p]?=some (.val (.pointer none))) :
  Hd ds w0 n β ⟨st.fr,st.mem.set i ⟨r.ty,.dK (cs.set p (.eU false i 0))⟩⟩ a w:=by
 have hil:i < st.mem.length:=(XH.1 hi).1;have hfx:(⟨r.ty,.dK (cs.set p (.eU false i 0))⟩:Row).fixed=true:=rfl;have hcells:(Cells.dK (cs.set p (.eU false i 0))).den β=r.cs.den β:=by rw[hd];show(cs.set p (.eU false i 0)).map _=_;rw[Yi];refine Cn ?_;rw[X2,hp];rfl
 have hb:br β w i ⟨r.ty,.dK (cs.set p (.eU false i 0))⟩:=by refine br.pb ?_ hfx (fun g hg=>by cases hg);rw[hcells];exact(h.cw i r hi).cw hf
 exact h.store (i:=i) (r0:=r) (r:=⟨r.ty,.dK (cs.set p (.eU false i 0))⟩) hi (by rw[aM hfx,aM hf]) hb (ai.refl _ _) (fun s hs=>by
  rcases XS hs with hs|rfl
  ·exact hon s hs
  ·exact hil)
theorem Hd.jG:∀{l:List (Nat×TypeId×Nat)} {st st':St} {β:Env} {i:Nat},Hd ds w0 n β st a w→jx st i l=some st'→∃β',Hd ds w0 n β' st' a w∧β.same β' (· < st.mem.length)∧st.mem.length≤st'.mem.length
 | [],st,st',β,i,h,hs=>by rw[jx]at hs;cases hs;exact⟨β,h,fun _ _=>⟨rfl,rfl,rfl,rfl⟩,Yh _⟩
 |q::l,st,st',β,i,h,hs=>by
  have go:∀(cs:List SV) (r:Row),st.mem[i]?=some r→r.cs.den β=cs.map (SV.den β)→r.fixed=true→(∀s∈cs,s.on (· < st.mem.length))→cs[q.1]?=some (.val (.slice none 0 0))→jx ⟨st.fr,(st.mem.set i ⟨r.ty,.dK (cs.set q.1 (.own st.mem.length))⟩)++[⟨q.2.1,.own q.2.2 0 []⟩]⟩ i l=some st'→∃β',Hd ds w0 n β' st' a w∧β.same β' (· < st.mem.length)∧st.mem.length≤st'.mem.length:=by intro cs r hi hd hf hon hp hs;obtain⟨β',h1,h2,h3⟩:=Hd.jG (h.nil (T:=q.2.1) (size:=q.2.2) hi hd hf hon hp) hs;simp only[XT,Yq,XU,Yr]at h2 h3;refine⟨β',h1,fun i hi=>?_,by omega⟩;have s1:=(vg (β:=β) (m:=st.mem.length) (A:=none) (nn:=0) (cc:=0)) i (YC hi);have s2:=h2 i (show i < _ by omega);exact⟨s1.1.trans s2.1,s1.2.1.trans s2.2.1,s1.2.2.1.trans s2.2.2.1,s1.2.2.2.trans s2.2.2.2⟩
  have goP:∀(cs:List SV) (r:Row),st.mem[i]?=some r→r.cs.den β=cs.map (SV.den β)→r.fixed=true→(∀s∈cs,s.on (· < st.mem.length))→cs[q.1]?=some (.val (.pointer none))→jx ⟨st.fr,st.mem.set i ⟨r.ty,.dK (cs.set q.1 (.eU false i 0))⟩⟩ i l=some st'→∃β',Hd ds w0 n β' st' a w∧β.same β' (· < st.mem.length)∧st.mem.length≤st'.mem.length:=by intro cs r hi hd hf hon hp hs;obtain⟨β',h1,h2,h3⟩:=Hd.jG (h.S0 hi hd hf hon hp) hs;simp only[Yq]at h2 h3;exact⟨β',h1,h2,h3⟩
  rw[jx]at hs;split at hs
  ·rename_i r hi
   split at hs
   ·rename_i cs hcs
    have vv:∀s∈cs.map SV.val,s.on (· < st.mem.length):=fun s hs=>by obtain⟨v,_,rfl⟩:=XO.1 hs;trivial
    split at hs
    ·rename_i hp
     exact go (cs.map .val) r hi (by rw[hcs];simp[Cells.den,SV.den,Function.comp_def]) (by unfold Row.fixed;rw[hcs]) vv (by rw[X2,hp];rfl) hs
    ·rename_i hp
     exact goP (cs.map .val) r hi (by rw[hcs];simp[Cells.den,SV.den,Function.comp_def]) (by unfold Row.fixed;rw[hcs]) vv (by rw[X2,hp];rfl) hs
    ·cases hs
   ·rename_i cs hcs
    have hon:=h.yy i r hi;rw[hcs]at hon;split at hs
    ·rename_i hp
     exact go cs r hi (by rw[hcs];rfl) (by unfold Row.fixed;rw[hcs]) hon hp hs
    ·rename_i hp
     exact goP cs r hi (by rw[hcs];rfl) (by unfold Row.fixed;rw[hcs]) hon hp hs
    ·cases hs
   ·cases hs
  ·cases hs
end
section
variable(P:Program)(H:List (Nat×Hint))(n:Nat)(w0:bu)
inductive cR {α:Type} (_:α):Prop
def Tag(_:Nat)(p:Prop):Prop:=p
def keyOf(o:Oper):Nat:=match o.dst with
 |some d=>d
 |none=>match o.op with
  |.store _ (.tmp x) _=>100000+x
  |_=>0
def qN(o:Oper)(ob:Option Prop)(K:Prop):Prop:=match ob with
 |none=>K
 |some p=>Tag (keyOf o) p∧K
theorem jF{o:Oper}{ob:Option Prop}{K:Prop}(h:qN o ob K):∀p,ob=some p→p:=by intro p hp;subst hp;exact h.1
theorem lG{o:Oper}{ob:Option Prop}{K:Prop}(h:qN o ob K):K:=by
 cases ob with
 |none=>exact h
 |some p=>exact h.2
def Le(o:Oper)(st:St)(K:St→Prop):Prop:=
 match fZ P w0 H (hint H o.dst) (ev st.fr) (rowAt st.mem) o with
 |.val sv ob=>qN o ob (K (st.put n o.dst sv))
 |.call f args v=>Tag (keyOf o) (∀W,ai w0.S w0.w W→Calls P f args.toArray W (Rn W v))∧K (st.put n o.dst (.val v))
 |.alloc t cs ln=>K ((⟨st.fr,st.mem++[⟨t,cs⟩]⟩:St).put n o.dst (nN st.mem.length ln))
 |.store i r ob=>qN o ob (K ((⟨st.fr,st.mem.set i r⟩:St).put n o.dst (.val undef)))
 |.eH i r ob=>qN o ob (K ((⟨st.fr,st.mem.set i r⟩:St).put n o.dst (.val undef)))
 |.grow kill t size nn xs ob=>qN o ob (K ((⟨st.fr,fi st.mem kill++[⟨t,.own size nn xs⟩]⟩:St).put n o.dst (.own st.mem.length)))
 |.ct f args r=>Tag (keyOf o) (∀W,ai w0.S w0.w W→iS (rowAt st.mem) W args fun vs=>Calls P f vs.toArray W (eh W r))∧K ((⟨st.fr,Gw st.mem (jR r)⟩:St).put n o.dst (iY st.mem.length r))
 |.gi f i r=>Tag (keyOf o) (∀W,ai w0.S w0.w W→Gk (rowAt st.mem) W i fun s=>Calls P f #[s] W (ss W s r))∧K ((⟨st.fr,Gw (fi st.mem (some i)) (jR r)⟩:St).put n o.dst (iY st.mem.length r))
 |.fB f args x=>match x with
  |.dW p i row v=>Tag (keyOf o) (∀W,ai w0.S w0.w W→iS (rowAt st.mem) W args fun vs=>Calls P f vs.toArray W (qJ w0 W vs (.dW p i row v)))∧K ((⟨st.fr,st.mem.set i row⟩:St).put n o.dst (.val v))
  |.G9 ps=>Tag (keyOf o) (∀W,ai w0.S w0.w W→iS (rowAt st.mem) W args fun vs=>Calls P f vs.toArray W (qJ w0 W vs (.G9 ps)))∧True
 |.bad=>cR o
def step(o:Oper)(st:St)(K:St→Prop):Prop:=match DD P H (ev st.fr) o with
 |.val sv=>K (st.put n o.dst sv)
 |.call f args g=>match No st.mem g with
  |true=>Tag (keyOf o) (∀W β,fD w0 β W (rowAt st.mem) g.iT→Calls P f (args.map (SV.den β)).toArray W (bK w0 β W (rowAt st.mem) st.mem.length g))∧Sf g.ret g.phi (K ((⟨st.fr,Bo st.mem g⟩:St).put n o.dst g.ret))
  |false=>cR o
 |.jG t cs l=>match jx ⟨st.fr,st.mem++[⟨t,.an cs⟩]⟩ st.mem.length l with
  |some st'=>K (st'.put n o.dst (.ptr st.mem.length 0))
  |none=>cR o
 |.IF t l len=>K ((⟨st.fr,st.mem++[⟨t,.dK l⟩]⟩:St).put n o.dst (.oI st.mem.length 0 len len))
 |.no=>Le P H n w0 o st K
def guardOf(ops:Array Oper)(fr:List (Nat×SV))(o:Oper):Option Bool:=
 match o.guard with
 |none=>some true
 |some (j,b)=>match ops[j]? with
  |none=>none
  |some oj=>match oj.dst with
   |none=>none
   |some t=>match look fr t with
    |some (.val v)=>match v with
     |.bool c=>some (c==b)
     |_=>some false
    |_=>none
def tV(ops:Array Oper)(fr:List (Nat×SV))(o:Oper):Option (Nat×Bool):=match o.guard with
 |none=>none
 |some q=>match ops[q.1]? with
  |none=>none
  |some oj=>match oj.dst with
   |none=>none
   |some t=>match look fr t with
    |some (.val v)=>match v with
     |.bool c=>some (t,c)
     |_=>none
    |_=>none
def St.lit(st:St)(t:Nat)(c:Bool):St:=⟨(t,.val (.bool c))::st.fr,st.mem⟩
def As(ops:Array Oper)(o:Oper)(st:St)(K:St→Prop):Prop:=match tV ops st.fr o with
 |none=>K st
 |some q=>match q.2 with
  |true=>K (st.lit q.1 true)
  |false=>K (st.lit q.1 false)
def uQ(ops:Array Oper):List Oper→St→(St→Prop)→Prop
 | [],st,K=>K st
 |o::l,st,K=>As ops o st fun st=>match guardOf ops st.fr o with
  |some true=>step P H n w0 o st (fun st'=>uQ ops l st' K)
  |some false=>uQ ops l (st.put n o.dst (.val undef)) K
  |none=>cR o
end
section
variable{P:Program}{H:List (Nat×Hint)}{n:Nat}{w0:bu}{ds:List Deferred}{w:World}{β:Env}{st:St}{a:Act}{ops:Array Oper}{Q:Exit→Act→World→Prop}
theorem sO{o:Oper}{b:Bool}(h:Hd ds w0 n β st a w)(hg:guardOf ops st.fr o=some b):Region.wanted o (yielded ops a.tmps)=b:=by
 unfold guardOf at hg;unfold Region.wanted;split at hg
 ·rename_i hn;rw[hn];simpa using hg
 ·rename_i j b' hn
  rw[hn];split at hg
  ·cases hg
  ·rename_i oj hoj
   split at hg
   ·cases hg
   ·rename_i t ht
    split at hg
    ·rename_i v hc
     have:=h.get t _ hc;simp only[yielded,hoj,Option.bind_some,ht,this,SV.den];split at hg
     ·rename_i c
      have hb:(c==b')=b:=XW.inj hg;rw[←hb];cases c<;>cases b'<;>rfl
     ·rename_i hnb
      have hb:false=b:=XW.inj hg;rw[←hb];cases v<;>first|rfl|exact absurd rfl (hnb _)
    ·cases hg
theorem Ld{o:Oper}{K:St→Prop}{next:Act→World→Prop}(h:Hd ds w0 n β st a w)(hs:Le P H n w0 o st K)(hP:∀chain a w',a.defers=ds→w0.PP chain w'→ai w0.S w0.w w'→Q (.panic chain) a w')(hK:∀β' st' a' w',K st'→Hd ds w0 n β' st' a' w'→next a' w'):o.wp P a w next Q:=by
 have ho:=Mq (P:=P) (w0:=w0) (H:=H) (β:=β) (W:=w) (a:=a) (o:=o) (e:=ev st.fr) (row:=rowAt st.mem) (hn:=hint H o.dst) h.aJ (fun x _ sv hx=>h.eval hx) (fun i r _ hi=>h.cw i r hi);have hon:=R7 (P:=P) (w0:=w0) (H:=H) (o:=o) (e:=ev st.fr) (row:=rowAt st.mem) (hn:=hint H o.dst) (Q:=(· < st.mem.length)) (fun x _ sv hx=>h.VE hx) (fun i r _ hi=>h.yy i r hi);unfold Le at hs;unfold Oper.wp;cases hr:fZ P w0 H (hint H o.dst) (ev st.fr) (rowAt st.mem) o with
 |val sv ob=>rw[hr]at hs ho hon;simp only at hs;rw[ho (jF hs)];exact hK _ _ _ _ (lG hs) (h.put o.dst hon)
 |call f args v=>rw[hr]at hs ho hon;simp only at hs;rw[show(execOp a.eval o).run P w=_ from ho];refine(hs.1 w h.aJ).mono fun e w' ⟨he,hc⟩=>?_;subst he;exact hK _ _ _ _ hs.2 ((h.later hc).put o.dst (sv:=.val v) trivial)
 |alloc t cs ln=>obtain⟨hf,hft⟩:=uX hr;rw[hr]at hs ho hon;simp only at hs;rw[show(execOp a.eval o).run P w=_ from ho];have h2:=(h.alloc t hf hft hon).put o.dst (sv:=nN st.mem.length ln) (Ho (by simp));rw[CY]at h2;exact hK _ _ _ _ hs h2
 |store i r ob=>obtain⟨_,hf,r0,h0,hf0,htg⟩:=oF hr;rw[hr]at hs ho hon;simp only at hs;obtain⟨w',hrun,hb,hc⟩:=ho (jF hs);rw[hrun];exact hK _ _ _ _ (lG hs) ((h.store h0 (by rw[aM hf,aM hf0]) (br.pb hb hf (fun g hg=>(h.cw i r0 h0).tag g (by rw[←htg];exact hg))) (by rw[aM hf0];exact hc) hon.2).put o.dst (sv:=.val undef) trivial)
 |eH i r ob=>obtain⟨_,r0,h0,hbk⟩:=nD hr;rw[hr]at hs ho hon;simp only at hs;obtain⟨w',hrun,hb,hc⟩:=ho (jF hs);rw[hrun];rw[hbk β]at hc;exact hK _ _ _ _ (lG hs) ((h.store h0 (hbk β) hb hc hon.2).put o.dst (sv:=.val undef) trivial)
 |grow kill t size nn xs ob=>
  have htc:∀i,kill=some i→∃r,st.mem[i]?=some r∧∃s m ys,r.cs=.own s m ys:=fun i hi=>by subst hi;exact(rI hr).2
  rw[hr]at hs ho;simp only at hs;obtain⟨A,cc,w',S,hrun,hown,hch,hS,hA⟩:=ho (jF hs);rw[hrun];have h2:=(h.grow (kill:=kill) hown hch (fun k hk=>by obtain⟨i,hi,hb⟩:=hS k hk;obtain⟨r,h0,s,m,ys,hcs⟩:=htc i hi;exact⟨i,r,hi,h0,by unfold az;rw[hcs];exact hb⟩) hA).put o.dst (sv:=.own st.mem.length) (by show _ < _;cases kill<;>simp[fi]);simp only[SV.den,nt]at h2;exact hK _ _ _ _ (lG hs) h2
 |ct f args r=>
  rw[hr]at hs ho;simp only at hs;rw[show(execOp a.eval o).run P w=_ from ho];have hcall:=fF (β:=β) (hs.1 w h.aJ) (fun i _ _ _ r' hr'=>h.cw i r' hr');refine hcall.mono fun e w' hp=>?_;rcases LU hp with⟨v,rfl,rfl,hc⟩ | ⟨T,size,nn,xs,A,cc,hrr,hown,hc,hA,hsv⟩
  ·exact hK _ _ _ _ hs.2 ((h.later hc).put o.dst (sv:=.val v) trivial)
  ·obtain⟨he,hon'⟩:=hsv β st.mem.length
   subst he;have hk:=hs.2;rw[hrr]at hk;exact hK _ _ _ _ hk ((h.grow (kill:=none) hown hc (by simp) (fun k hk=>.inr (hA k hk))).put o.dst (SV.bD (fun i hi=>by rw[hi];simp[fi]) hon'))
 |gi f i r=>rw[hr]at hs ho;simp only at hs;rw[show(execOp a.eval o).run P w=_ from ho];have hcall:=Iu (β:=β) (hs.1 w h.aJ) (fun r' hr'=>h.cw i r' hr');obtain⟨r0,h0,s0,m0,y0,hc0⟩:=yo (hs.1 w h.aJ);refine hcall.mono fun e w' hp=>?_;obtain⟨T,size,nn,xs,A,cc,hrr,hown,hc,hA,hsv⟩:=GZ hp;obtain⟨he,hon'⟩:=hsv β st.mem.length;subst he;have hk:=hs.2;rw[hrr]at hk;rw[Cl]at hc hA;exact hK _ _ _ _ hk ((h.grow (kill:=some i) hown hc (fun k hk=>⟨i,r0,rfl,h0,by unfold az;rw[hc0];simpa using hk⟩) (fun k hk=>(hA k hk).imp (fun h=>by simpa using h) id)).put o.dst (SV.bD (fun i hi=>by rw[hi];simp[fi]) hon'))
 |fB f args x=>
  obtain⟨_,hx2,hx3⟩:=rP hr;rw[hr]at hs ho hon;simp only at hs;rw[show(execOp a.eval o).run P w=_ from ho];cases x with
  |dW p i row v=>
   obtain⟨hpi,_,r0,h0,hty,hf0,hf,htg⟩:=hx2 p i row v rfl;have h0:st.mem[i]?=some r0:=h0;have hcall:=fF (β:=β) (hs.1 w h.aJ) (fun i _ _ _ r' hr'=>h.cw i r' hr');refine hcall.mono fun e w' hp=>?_;obtain⟨g,l,hg,hl,rfl,hb,hc⟩:=hp;rw[X2,hpi]at hg;have hgi:β i=g:=by simpa[SV.den]using hg
   have hden:row.cs.den β=l:=by unfold Cells.list at hl;split at hl<;>first | (cases hl;done) | (rename_i hcs;cases hl;rw[hcs];rfl)
   rw[←hgi]at hb hc;have hheld:br β w' i row:=br.pb (by rw[hden];exact hb) hf (fun g hg=>(h.cw i r0 h0).tag g (by rw[←htg];exact hg));exact hK _ _ _ _ hs.2 ((h.store h0 (by rw[aM hf,aM hf0]) hheld (by rw[aM hf0];exact hc) hon.2).put o.dst (sv:=.val v) trivial)
  |G9 ps=>
   have hcall:=fF (β:=β) (hs.1 w h.aJ) (fun i _ _ _ r' hr'=>h.cw i r' hr');refine hcall.mono fun e w' hp=>?_;obtain⟨chain,T,rfl,hpp,hc,hT⟩:=hp;refine hP chain a w' h.dn hpp (h.aJ.seq hc fun x hx=>?_);obtain⟨q,hq,hv⟩:=hT x hx;obtain⟨hq1,r0,hr0,hf⟩:=hx3 ps rfl q hq;rw[X2,hq1]at hv;have hx:β q.2=x:=by simpa[SV.den]using hv
   exact h.new q.2 r0 x hr0 (by rw[aM hf,hx])
 |bad=>rw[hr]at hs;exact nomatch hs
theorem GF{o:Oper}{K:St→Prop}{next:Act→World→Prop}(h:Hd ds w0 n β st a w)(hs:step P H n w0 o st K)(hP:∀chain a w',a.defers=ds→w0.PP chain w'→ai w0.S w0.w w'→Q (.panic chain) a w')(hK:∀β' st' a' w',K st'→Hd ds w0 n β' st' a' w'→next a' w'):o.wp P a w next Q:=by
 have hg:=H8 (P:=P) (H:=H) (β:=β) (W:=w) (a:=a) (o:=o) (e:=ev st.fr) (fun x _ sv hx=>h.eval hx);have hgo:=H7 (P:=P) (H:=H) (o:=o) (e:=ev st.fr) (Q:=(· < st.mem.length)) (fun x _ sv hx=>h.VE hx);unfold step at hs;split at hs
 ·rename_i sv hr
  rw[hr]at hg hgo;unfold Oper.wp;rw[show(execOp a.eval o).run P w=_ from hg];exact hK _ _ _ _ hs (h.put o.dst hgo)
 ·rename_i f args g hr
  rw[hr]at hg;split at hs
  ·rename_i hok
   unfold Oper.wp;rw[show(execOp a.eval o).run P w=_ from hg];refine(hs.1 w β (h.iT g.iT)).mono fun e w' hp=>?_;rcases hp with⟨hphi,β',hret⟩ | ⟨_,chain,rfl,hpp,hc⟩
   ·obtain⟨h2,hon⟩:=h.VA hok hret
    rw[hret.ret];exact hK _ _ _ _ (Nl hs.2 hphi) (h2.put o.dst hon)
   ·exact hP chain a w' h.dn hpp (h.aJ.seq hc h.eG)
  ·exact nomatch hs
 ·rename_i t cs l hr
  rw[hr]at hg;split at hs
  ·rename_i st' hst
   unfold Oper.wp;rw[show(execOp a.eval o).run P w=_ from hg];have ha:=h.alloc t (cs:=.an cs) rfl rfl trivial;obtain⟨β',h1,h2,h3⟩:=Hd.jG ha hst;have h4:=h1.put o.dst (sv:=.ptr st.mem.length 0) (show st.mem.length < st'.mem.length by simp at h3;omega);have h5:=(h2 st.mem.length (by simp)).1;rw[show(SV.ptr st.mem.length 0).den β'=.pointer (some ⟨w.heap.size,0,none⟩)by show Value.pointer (some ⟨β' st.mem.length,0,none⟩)=_;rw[←h5,kD]]at h4;exact hK _ _ _ _ hs h4
  ·exact nomatch hs
 ·rename_i t l len hr
  rw[hr]at hg hgo;unfold Oper.wp;rw[show(execOp a.eval o).run P w=_ from hg];have ha:=h.alloc t (cs:=.dK l) rfl rfl hgo;have h4:=ha.put o.dst (sv:=.oI st.mem.length 0 len len) (show st.mem.length < (st.mem++[_]).length by simp);rw[show(SV.oI st.mem.length 0 len len).den (β.dW st.mem.length w.heap.size)=.slice (some ⟨w.heap.size,0,none⟩) len len by show Ye (some ⟨(β.dW st.mem.length w.heap.size) st.mem.length,0,none⟩) _ _=_;rw[kD]]at h4;exact hK _ _ _ _ hs h4
 ·exact Ld h hs hP hK
theorem Hd.lit{t:Nat}{c:Bool}(h:Hd ds w0 n β st a w)(ht:look st.fr t=some (.val (.bool c))):Hd ds w0 n β (st.lit t c) a w:=by
 have key:∀u sv,look (st.lit t c).fr u=some sv→(u=t∧sv=.val (.bool c))∨look st.fr u=some sv:=fun u sv hu=>by
  have e:look (st.lit t c).fr u=if t=u then(SV.val (.bool c)).known else look st.fr u:=gf
  rw[e]at hu;by_cases htu:t=u
  ·rw[if_pos htu]at hu
   exact .inl ⟨htu.symm,(XW.inj hu).symm⟩
  ·rw[if_neg htu]at hu
   exact .inr hu
 refine⟨h.size,h.dn,fun u sv hu=>?_,h.cw,h.new,h.inj,h.aJ,fun u sv hu=>?_,h.yy⟩
 ·rcases key u sv hu with⟨rfl,rfl⟩ | hu
  ·exact h.get _ _ ht
  ·exact h.get u sv hu
 ·rcases key u sv hu with⟨rfl,rfl⟩ | hu
  ·trivial
  ·exact h.yC u sv hu
theorem xD{ops:Array Oper}{fr:List (Nat×SV)}{o:Oper}{q:Nat×Bool}(h:tV ops fr o=some q):look fr q.1=some (.val (.bool q.2)):=by
 unfold tV at h;split at h
 ·cases h
 ·split at h
  ·cases h
  ·split at h
   ·cases h
   ·split at h
    ·rename_i hl
     split at h
     ·injection h with h
      rw[←h];exact hl
     ·cases h
    ·cases h
theorem yV{o:Oper}{K:St→Prop}(h:Hd ds w0 n β st a w)(hx:As ops o st K):∃st',K st'∧Hd ds w0 n β st' a w:=by
 unfold As at hx;split at hx
 ·exact⟨st,hx,h⟩
 ·rename_i q hq
  have hl:=xD hq;split at hx
  ·rename_i hb
   rw[hb]at hl;exact⟨_,hx,h.lit hl⟩
  ·rename_i hb
   rw[hb]at hl;exact⟨_,hx,h.lit hl⟩
theorem qv(r:List Oper)(hP:∀chain a w',a.defers=ds→w0.PP chain w'→ai w0.S w0.w w'→Q (.panic chain) a w'):∀(l:List Oper) (st:St) (K:St→Prop) (β:Env) (a:Act) (w:World),Hd ds w0 n β st a w→uQ P H n w0 ops l st K→(∀β' st' a' w',K st'→Hd ds w0 n β' st' a' w'→wpList P ops Q r a' w')→wpList P ops Q (l++r) a w
 | [],_,_,_,_,_,h,hx,hK=>hK _ _ _ _ hx h
 |o::l,st,K,β,a,w,h,hx,hK=>by
  unfold uQ at hx;rw[YZ];unfold wpList;obtain⟨st,hx,h⟩:=yV h hx;split at hx
  ·rename_i hg
   rw[sO h hg,if_pos rfl];exact .inl (GF h hx hP fun β' st' a' w' hk h'=>qv r hP l st' K β' a' w' h' hk hK)
  ·rename_i hg
   rw[sO h hg,if_neg (by decide)];exact qv r hP l _ K β _ w (h.put o.dst (sv:=.val undef) trivial) hx hK
  ·exact nomatch hx
theorem DM(hP:∀chain a w',a.defers=ds→w0.PP chain w'→ai w0.S w0.w w'→Q (.panic chain) a w')(l:List Oper)(st:St)(K:St→Prop)(β:Env)(a:Act)(w:World)(h:Hd ds w0 n β st a w)(hx:uQ P H n w0 ops l st K)(hK:∀β' st' a' w',K st'→Hd ds w0 n β' st' a' w'→Q .normal a' w'):wpList P ops Q l a w:=by have:=qv (ops:=ops) (Q:=Q) [] hP l st K β a w h hx hK;rwa [Yg]at this
end
end Sx
end Go.Proofs.YtnncigmpcdehnaaGreatDoor
