import Derived.Test.YtnncigmpcdehnaaGreatDoorQi01
import Derived.Scope
import Derived.Great.BuildSlice
import Derived.Laws.Tables
import Derived.Laws.BytesString
open True renaming intro→VE
open Nat renaming eq_of_beq_eq_true→VF,le_of_ble_eq_true→VH,beq→VP,blt→Wc,mul_le_mul_right→Wt,le_refl→Wx,zero_add→Wz,eq_zero_or_pos→WA,ble→WR,sub_self→WT,ne_of_lt→WU,add_assoc→Xd,zero_mul→Xi,add_zero→Xj,add_mul→Xn,min_eq_left→Xs,lt_irrefl→Xz,le_trans→XD,beq_refl→XE,mul_pos→XI
open Go.Op renaming operands→VG,equalIn→Xc,maxDepth→Xp,equal→XC
open Bool renaming and_eq_true→VI,or_eq_false_iff→Xk
open List renaming mem_cons_of_mem→VJ,getElem?_append_right→VM,getElem?_eq_some_iff→VN,getElem?_append_left→VO,map_cons→VQ,length_take→VR,map_congr_left→VS,mem_map→VT,getElem?_take→VV,getElem?_drop→VW,mem_or_eq_of_mem_set→VX,length_append→VY,length_cons→VZ,eq_nil_of_length_eq_zero→Wa,mem_of_getElem?→Wd,mem_singleton→Wg,mem_cons→Wh,getElem?_map→Wi,length_drop→Wm,map_map→Wn,getElem?_cons_succ→Wp,mem_append→Wv,append_nil→Ww,map_set→Wy,getElem?_set→WB,zipIdx_cons→WC,mem_toArray→WD,drop_of_length_le→WE,nil_append→WG,length_set→WH,length_nil→WI,length_map→WJ,mem_of_mem_take→WL,mem_of_mem_drop→WM,set_eq_take_append_cons_drop→WO,take_succ_eq_append_getElem→WQ,mem_flatMap→WV,map_id→WW,foldl_cons→WX,getElem?_eq_getElem→WZ,take_of_length_le→Xe,getElem_set_self→Xh,take_set_of_le→Xl,mem_filterMap→Xo,map_toArray→Xq,cons_append→Xr,take_zero→Xt,drop_drop→Xu,map_take→Xx,map_drop→Xy,map_nil→XA,length→XF
open Go.Sem renaming run_bind→VK,run_pure→VU,run→XH
open Go.Result renaming andThen_ok→VL
open Option renaming some→Wb,map_some→Wo
open Array renaming toList_inj→We,toArray_toList→Wj,toList_map→Wl,mem_toList_iff→Ws,toList_setIfInBounds→WY,foldl_toList→Xm,range→XB
open Go.Instr renaming sureAddr→Wk,sliceBounds→Wq,fill→WK,indexAt→WN,sliceBound→WS,storeAt→Xa,fieldAt→Xb,loadAt→Xf,box→Xg,sliceAt→Xv,extract→Xw
open Go.Value renaming ownBlock→Wr,slice→Wu,int→XG
namespace Go.Proofs.YtnncigmpcdehnaaGreatDoor
open Go Go.RowKit Go.Lib Go.Sort
namespace Sx
structure aY where
 w:World
 S:List Nat
 PP:List PanicEntry→World→Prop
structure Env where
 b:Nat→Nat
 a:Nat→Option Addr
 n:Nat→Nat
 c:Nat→Nat
def Env.sl(β:Env)(i:Nat):Value:=.slice (β.a i) (β.n i) (β.c i)
instance:CoeFun Env fun _=>Nat→Nat:=⟨Env.b⟩
inductive Atom where
 |v (x:Value)
 |o (i:Nat)
 |p (i off:Nat)
 |s (i off len cut:Nat)
def Atom.den(β:Env):Atom→Value
 |.v x=>x
 |.o i=>β.sl i
 |.p i off=>.pointer (some ⟨β i,off,none⟩)
 |.s i off len cut=>.slice (if β.c i=cut then β.a i else(β.a i).map (·.add off)) len (β.c i - cut)
def Atom.on(Q:Nat→Prop):Atom→Prop
 |.v _=>True
 |.o i=>Q i
 |.p i _=>Q i
 |.s i _ _ _=>Q i
inductive eK where
 |a (x:Atom)
 |row (l:List Atom)
 |jK (t:TypeId) (i off:Nat)
def eK.den(β:Env):eK→Value
 |.a x=>x.den β
 |.row l=>.agg (l.map (Atom.den β)).toArray
 |.jK t i off=>.iface t (.pointer (some ⟨β i,off,none⟩))
def eK.on(Q:Nat→Prop):eK→Prop
 |.a x=>x.on Q
 |.row l=>∀a∈l,a.on Q
 |.jK _ i _=>Q i
theorem Atom.aW{Q Q':Nat→Prop}(h:∀i,Q i→Q' i){s:Atom}(hs:s.on Q):s.on Q':=by cases s<;>first|trivial|exact h _ hs
theorem eK.aW{Q Q':Nat→Prop}(h:∀i,Q i→Q' i){s:eK}(hs:s.on Q):s.on Q':=by
 cases s with
 |a x=>exact Atom.aW h hs
 |row l=>exact fun a ha=>Atom.aW h (hs a ha)
 |jK t i off=>exact h _ hs
inductive SV where
 |val (v:Value)
 |ptr (i off:Nat)
 |lO (i off len cap:Nat)
 |own (i:Nat)
 |kT (i off:Nat)
 |vh (pre:List Value) (i:Nat) (post:List Value)
 |jJ (i off len cut:Nat)
 |gone
 |dG (l:List Atom)
 |Fe (f:FuncId) (l:List Atom)
 |jK (t:TypeId) (i off:Nat)
 |kG (l:List eK)
 |dQ (b:Bool) (i off:Nat)
def SV.den(β:Env):SV→Value
 |.val v=>v
 |.ptr i o=>.pointer (some ⟨β i,o,none⟩)
 |.lO i o n c=>.slice (some ⟨β i,o,none⟩) n c
 |.own i=>β.sl i
 |.kT i o=>.pointer ((β.a i).map (·.add o))
 |.vh l i r=>.tuple (l++(β.sl i::r)).toArray
 |.jJ i off len cut=>.slice (if β.c i=cut then β.a i else(β.a i).map (·.add off)) len (β.c i - cut)
 |.gone=>undef
 |.dG l=>.agg (l.map (Atom.den β)).toArray
 |.Fe f l=>.func (.func f) #[] (l.map (Atom.den β)).toArray
 |.jK t i off=>.iface t (.pointer (some ⟨β i,off,none⟩))
 |.kG l=>.tuple (l.map (eK.den β)).toArray
 |.dQ b i off=>.pointer (match b with|true=>some ⟨β i,off,none⟩ | false=>none)
def SV.on(Q:Nat→Prop):SV→Prop
 |.val _=>True
 |.ptr i _=>Q i
 |.lO i _ _ _=>Q i
 |.own i=>Q i
 |.kT i _=>Q i
 |.vh _ i _=>Q i
 |.jJ i _ _ _=>Q i
 |.gone=>True
 |.dG l=>∀a∈l,a.on Q
 |.Fe _ l=>∀a∈l,a.on Q
 |.jK _ i _=>Q i
 |.kG l=>∀a∈l,a.on Q
 |.dQ _ i _=>Q i
inductive Cells where
 |ai (cs:List Value)
 |cU (cs:List SV)
 |own (size n:Nat) (xs:List Value)
 |dead
 |dj (g:Nat) (cs:List Value)
 |iC (g:Nat) (cs:List SV)
def Cells.den(β:Env):Cells→List Value
 |.ai cs=>cs
 |.cU cs=>cs.map (SV.den β)
 |.own _ _ _=>[]
 |.dead=>[]
 |.dj _ cs=>cs
 |.iC _ cs=>cs.map (SV.den β)
def Cells.len:Cells→Nat
 |.ai cs=>cs.length
 |.cU cs=>cs.length
 |.own _ _ _=>0
 |.dead=>0
 |.dj _ cs=>cs.length
 |.iC _ cs=>cs.length
def Cells.tag:Cells→Option Nat
 |.dj g _=>some g
 |.iC g _=>some g
 |_=>none
def Cells.on(Q:Nat→Prop):Cells→Prop
 |.ai _=>True
 |.cU cs=>∀s∈cs,s.on Q
 |.own _ _ _=>True
 |.dead=>True
 |.dj _ _=>True
 |.iC _ cs=>∀s∈cs,s.on Q
structure Row where
 ty:TypeId
 cs:Cells
structure St where
 fr:List (Nat×SV)
 mem:List Row
def SV.known:SV→Option SV
 |.gone=>none
 |v=>some v
theorem bS{v u:SV}(h:v.known=some u):u=v:=by cases v<;>first | (cases h;done)|exact(Wb.inj h).symm
def SV.one:SV→Bool
 |.ptr _ _=>true
 |.lO _ _ _ _=>true
 |.own _=>true
 |.kT _ _=>true
 |.jJ _ _ _ _=>true
 |.Fe _ _=>true
 |.jK _ _ _=>true
 |.dQ _ _ _=>true
 |_=>false
theorem nq{s:SV}(h:s.one=true)(β:Env):(s.den β).cells=#[s.den β]∧(s.den β).oneCell'=true:=by
 cases s with
 |ptr _ _=>exact⟨rfl,rfl⟩
 |lO _ _ _ _=>exact⟨rfl,rfl⟩
 |own _=>exact⟨rfl,rfl⟩
 |kT _ _=>exact⟨rfl,rfl⟩
 |jJ _ _ _ _=>exact⟨rfl,rfl⟩
 |val _=>cases h
 |vh _ _ _=>cases h
 |gone=>cases h
 |dG _=>cases h
 |Fe _ _=>exact⟨rfl,rfl⟩
 |jK _ _ _=>exact⟨rfl,rfl⟩
 |kG _=>cases h
 |dQ _ _ _=>exact⟨rfl,rfl⟩
def look:List (Nat×SV)→Nat→Option SV
 | [],_=>none
 | (k,v)::r,t=>match VP k t with
  |true=>v.known
  |false=>look r t
def ev(fr:List (Nat×SV)):Operand→Option SV
 |.tmp t=>look fr t
 |.const v=>some (.val v)
 |.global g=>some (.val (.pointer (some ⟨g,0,none⟩)))
 |.func f=>some (.val (.func (.func f) #[] #[]))
def St.put(n:Nat)(st:St)(dst:Option Tmp)(sv:SV):St:=
 match dst with
 |none=>st
 |some d=>match Wc d n with
  |true=>⟨(d,sv)::st.fr,st.mem⟩
  |false=>st
theorem SV.aW{Q Q':Nat→Prop}(h:∀i,Q i→Q' i){s:SV}(hs:s.on Q):s.on Q':=by cases s<;>first|trivial|exact h _ hs|exact fun a ha=>Atom.aW h (hs a ha)|exact fun a ha=>eK.aW h (hs a ha)
theorem Cells.aW{Q Q':Nat→Prop}(h:∀i,Q i→Q' i):∀{c:Cells},c.on Q→c.on Q'
 |.ai _,_=>trivial
 |.cU _,hs=>fun s hm=>SV.aW h (hs s hm)
 |.own _ _ _,_=>trivial
 |.dead,_=>trivial
 |.dj _ _,_=>trivial
 |.iC _ _,hs=>fun s hm=>SV.aW h (hs s hm)
def Env.same(β β':Env)(Q:Nat→Prop):Prop:=∀i,Q i→β i=β' i∧β.a i=β'.a i∧β.n i=β'.n i∧β.c i=β'.c i
theorem Atom.bV{β β':Env}{Q:Nat→Prop}(h:β.same β' Q){s:Atom}(hs:s.on Q):s.den β=s.den β':=by cases s<;>simp only[Atom.den,Env.sl]<;>first|rfl | (obtain⟨h1,h2,h3,h4⟩:=h _ hs;simp only[h1,h2,h3,h4])
theorem Atom.map_congr{β β':Env}{Q:Nat→Prop}(h:β.same β' Q){l:List Atom}(hs:∀a∈l,a.on Q):l.map (Atom.den β)=l.map (Atom.den β'):=VS fun a ha=>Atom.bV h (hs a ha)
theorem eK.bV{β β':Env}{Q:Nat→Prop}(h:β.same β' Q){s:eK}(hs:s.on Q):s.den β=s.den β':=by
 cases s with
 |a x=>exact Atom.bV h hs
 |row l=>simp only[eK.den,Atom.map_congr h hs]
 |jK t i off=>simp only[eK.den];obtain⟨h1,_⟩:=h i hs;simp only[h1]
theorem SV.bV{β β':Env}{Q:Nat→Prop}(h:β.same β' Q){s:SV}(hs:s.on Q):s.den β=s.den β':=by
 cases s with
 |dG l=>simp only[SV.den,Atom.map_congr h hs]
 |Fe f l=>simp only[SV.den,Atom.map_congr h hs]
 |kG l=>have:l.map (eK.den β)=l.map (eK.den β'):=VS fun a ha=>eK.bV h (hs a ha);simp only[SV.den,this]
 |val v=>rfl
 |gone=>rfl
 |_=>simp only[SV.den,Env.sl];obtain⟨h1,h2,h3,h4⟩:=h _ hs;simp only[h1,h2,h3,h4]
theorem Cells.bV{β β':Env}{Q:Nat→Prop}(h:β.same β' Q):∀{c:Cells},c.on Q→c.den β=c.den β'
 |.ai _,_=>rfl
 |.cU _,hs=>VS fun s hm=>SV.bV h (hs s hm)
 |.own _ _ _,_=>rfl
 |.dead,_=>rfl
 |.dj _ _,_=>rfl
 |.iC _ _,hs=>VS fun s hm=>SV.bV h (hs s hm)
theorem Cells.gB(β:Env):∀c:Cells,(c.den β).length=c.len
 |.ai _=>rfl
 |.cU cs=>by simp[Cells.den,Cells.len]
 |.own _ _ _=>rfl
 |.dead=>rfl
 |.dj _ _=>rfl
 |.iC _ cs=>by simp[Cells.den,Cells.len]
def aT(β:Env)(w:World)(i:Nat)(r:Row):Prop:=match r.cs with
 |.own size n xs=>β.n i=n∧Own w r.ty size (.slice (β.a i) n (β.c i)) n xs
 |.ai cs=>aq w (β i) r.ty cs
 |.cU cs=>aq w (β i) r.ty (cs.map (SV.den β))
 |.dead=>True
 |.dj g cs=>β i=g∧aq w (β i) r.ty cs
 |.iC g cs=>β i=g∧aq w (β i) r.ty (cs.map (SV.den β))
def av(β:Env)(i:Nat)(r:Row):Option Nat:=match r.cs with
 |.own _ _ _=>(β.a i).map (·.block)
 |.ai _=>some (β i)
 |.cU _=>some (β i)
 |.dead=>none
 |.dj _ _=>some (β i)
 |.iC _ _=>some (β i)
theorem np{β:Env}{i n:Nat}:(Wu (β.a i) n (β.c i)).ownBlock=(β.a i).map (·.block):=by cases h:β.a i<;>simp[Wr]
theorem aT.lt{β:Env}{w:World}{i k:Nat}{r:Row}(h:aT β w i r)(hk:av β i r=some k):k < w.heap.size:=by
 unfold aT at h;unfold av at hk;split at h
 ·rename_i size n xs hc
  rw[hc]at hk;exact Own.lt h.2 k (by rw[np];exact hk)
 ·rename_i cs hc
  rw[hc]at hk;cases hk;exact h.lt
 ·rename_i cs hc
  rw[hc]at hk;cases hk;exact h.lt
 ·rename_i hc
  rw[hc]at hk;cases hk
 ·rename_i hc
  rw[hc]at hk;cases hk;exact h.2.lt
 ·rename_i hc
  rw[hc]at hk;cases hk;exact h.2.lt
theorem aT.aD{β:Env}{S:List Nat}{w w':World}{i:Nat}{r:Row}(h:aT β w i r)(hc:ah S w w')(hS:∀k,av β i r=some k→k∉S):aT β w' i r:=by
 unfold aT at h ⊢;unfold av at hS;split at h
 ·rename_i size n xs hcs
  rw[hcs]at hS;exact⟨h.1,Own.aD h.2 hc (by rw[np];exact hS)⟩
 ·rename_i cs hcs
  rw[hcs]at hS;exact aq.aD h hc (hS _ rfl)
 ·rename_i cs hcs
  rw[hcs]at hS;exact aq.aD h hc (hS _ rfl)
 ·trivial
 ·rename_i hcs
  rw[hcs]at hS;exact⟨h.1,aq.aD h.2 hc (hS _ rfl)⟩
 ·rename_i hcs
  rw[hcs]at hS;exact⟨h.1,aq.aD h.2 hc (hS _ rfl)⟩
theorem aT.congr{β β':Env}{w:World}{i:Nat}{r:Row}{Q:Nat→Prop}(hb:β.same β' Q)(hi:Q i)(hr:r.cs.on Q)(h:aT β w i r):aT β' w i r:=by
 obtain⟨h1,h2,h3,h4⟩:=hb i hi;obtain⟨T,cs⟩:=r;cases cs with
 |own size n xs=>show β'.n i=n∧Own w T size (.slice (β'.a i) n (β'.c i)) n xs;rw[←h2,←h3,←h4];exact h
 |ai cs=>show aq w (β' i) T cs;rw[←h1];exact h
 |dead=>trivial
 |dj g cs=>show β' i=g∧aq w (β' i) T cs;rw[←h1];exact h
 |cU cs=>show aq w (β' i) T (cs.map (SV.den β'));rw[←h1,show cs.map (SV.den β')=cs.map (SV.den β)from(VS fun s hm=>SV.bV hb (hr s hm)).symm];exact h
 |iC g cs=>show β' i=g∧aq w (β' i) T (cs.map (SV.den β'));rw[←h1,show cs.map (SV.den β')=cs.map (SV.den β)from(VS fun s hm=>SV.bV hb (hr s hm)).symm];exact h
theorem aV{β β':Env}{i:Nat}{r:Row}{Q:Nat→Prop}(hb:β.same β' Q)(hi:Q i):av β i r=av β' i r:=by
 obtain⟨h1,h2,_⟩:=hb i hi;obtain⟨T,cs⟩:=r;cases cs with
 |own size n xs=>show(β.a i).map _=(β'.a i).map _;rw[h2]
 |ai cs=>show some (β i)=some (β' i);rw[h1]
 |dead=>rfl
 |dj g cs=>show some (β i)=some (β' i);rw[h1]
 |iC g cs=>show some (β i)=some (β' i);rw[h1]
 |cU cs=>show some (β i)=some (β' i);rw[h1]
def Row.fixed(r:Row):Bool:=match r.cs with
 |.own _ _ _=>false
 |.dead=>false
 |_=>true
theorem aT.bY{β:Env}{w:World}{i:Nat}{r:Row}(h:aT β w i r)(hf:r.fixed=true):aq w (β i) r.ty (r.cs.den β):=by
 unfold aT at h;unfold Row.fixed at hf;split at h
 ·rename_i hc;rw[hc]at hf;cases hf
 ·rename_i hc;rw[hc];exact h
 ·rename_i hc;rw[hc];exact h
 ·rename_i hc;rw[hc]at hf;cases hf
 ·rename_i hc;rw[hc];exact h.2
 ·rename_i hc;rw[hc];exact h.2
theorem aT.tag{β:Env}{w:World}{i:Nat}{r:Row}(h:aT β w i r):∀g,r.cs.tag=some g→β i=g:=by
 intro g hg;unfold aT at h;split at h
 ·rename_i hc;rw[hc]at hg;cases hg
 ·rename_i hc;rw[hc]at hg;cases hg
 ·rename_i hc;rw[hc]at hg;cases hg
 ·rename_i hc;rw[hc]at hg;cases hg
 ·rename_i hc;rw[hc]at hg;cases hg;exact h.1
 ·rename_i hc;rw[hc]at hg;cases hg;exact h.1
theorem aT.ml{β:Env}{w:World}{i:Nat}{r:Row}(h:aq w (β i) r.ty (r.cs.den β))(hf:r.fixed=true)(ht:∀g,r.cs.tag=some g→β i=g):aT β w i r:=by
 unfold aT;unfold Row.fixed at hf;split
 ·rename_i hc;rw[hc]at hf;cases hf
 ·rename_i hc;rw[hc]at h;exact h
 ·rename_i hc;rw[hc]at h;exact h
 ·trivial
 ·rename_i hc;rw[hc]at h ht;exact⟨ht _ rfl,h⟩
 ·rename_i hc;rw[hc]at h ht;exact⟨ht _ rfl,h⟩
theorem aF{β:Env}{i:Nat}{r:Row}(hf:r.fixed=true):av β i r=some (β i):=by
 unfold av;unfold Row.fixed at hf;split
 ·rename_i hc;rw[hc]at hf;cases hf
 ·rfl
 ·rfl
 ·rename_i hc;rw[hc]at hf;cases hf
 ·rfl
 ·rfl
def gD{α:Type}(P:Program):Sem α→Option α
 |.pure a=>some a
 |.program k=>gD P (k P)
 |.mark _ k=>gD P k
 |_=>none
theorem om{α:Type}{P:Program}{s:Sem α}:∀{x:α},gD P s=some x→∀w,s.run P w=.ok x w:=by
 induction s with
 |pure a=>intro x h w;simp only[gD,Wb.injEq]at h;subst h;rfl
 |program k ih=>intro x h w;simp only[gD]at h;simp only[XH];exact ih P h w
 |mark m k ih=>intro x h w;simp only[gD]at h;simp only[XH];exact ih h w
 |_=>intro x h;simp[gD]at h
inductive jy where
 |val (v:Value)
 |sl (T:TypeId) (size n:Nat) (xs:List Value)
 |vh (pre:List Value) (T:TypeId) (size n:Nat) (xs:List Value) (post:List Value)
def eC(W:World)(r:jy)(e:Ending)(w':World):Prop:=match r with
 |.val v=>e=.returned v∧ah [] W w'
 |.sl T size n xs=>∃s,e=.returned s∧Acc W w' T size s n xs
 |.vh pre T size n xs post=>∃s,e=.returned (.tuple (pre++s::post).toArray)∧Acc W w' T size s n xs
def pc(W:World)(s0:Value)(r:jy)(e:Ending)(w':World):Prop:=match r with
 |.val _=>False
 |.sl T size n xs=>∃s,e=.returned s∧Own w' T size s n xs∧ah s0.ownBlock.toList W w'∧∀k,s.ownBlock=some k→s0.ownBlock=some k∨W.heap.size≤k
 |.vh pre T size n xs post=>∃s,e=.returned (.tuple (pre++s::post).toArray)∧Own w' T size s n xs∧ah s0.ownBlock.toList W w'∧∀k,s.ownBlock=some k→s0.ownBlock=some k∨W.heap.size≤k
structure cn where
 gh:List Nat
 fI:List (Nat×Row)
 kill:List Nat
 new:List Row
 ret:SV
 Cq:Option Prop
inductive Hint where
 |is (v:Value)
 |any (v:Value)
 |bin (v:Value)
 |call (v:Value)
 |ld (v:Value)
 |st (cs:List Value)
 |ix
 |ij (t:TypeId) (size:Nat)
 |app (m:Nat) (news:List Value)
 |Vp (lo hi:Nat)
 |dc (r:jy)
 |eS (r:jy)
 |Le (p:Nat) (cs:List Value) (v:Value)
 |pW
 |au (g:cn)
 |tM (l:List (Nat×TypeId×Nat))
 |join (fr:List (Nat×SV)) (mem:List Row)
 |UI (l:List (Nat×List (Nat×SV)×List Row))
def hint:List (Nat×Hint)→Option Tmp→Option Hint
 |_,none=>none
 | [],_=>none
 | (k,v)::r,some t=>match VP k t with
  |true=>some v
  |false=>hint r (some t)
inductive XK where
 |fI (p i:Nat) (row:Row) (v:Value)
 |El (ps:List (Nat×Nat))
inductive oR where
 |val (sv:SV) (ob:Option Prop)
 |call (f:FuncId) (args:List Value) (v:Value)
 |alloc (t:TypeId) (cs:Cells) (ln:Option Nat)
 |store (i:Nat) (row:Row) (ob:Option Prop)
 |grow (kill:Option Nat) (t:TypeId) (size n:Nat) (xs:List Value) (ob:Option Prop)
 |dc (f:FuncId) (args:List SV) (r:jy)
 |dF (i:Nat) (row:Row) (ob:Option Prop)
 |eS (f:FuncId) (i:Nat) (r:jy)
 |ek (f:FuncId) (args:List SV) (x:XK)
 |bad
def Pz(e:Operand→Option SV)(x:Operand):Value:=match e x with
 |some (.val v)=>v
 |_=>undef
def isVal(e:Operand→Option SV)(x:Operand):Bool:=match e x with
 |some (.val _)=>true
 |_=>false
def eJ{α:Type}(p:α→Bool):List α→Bool
 | []=>true
 |x::r=>match p x with
  |true=>eJ p r
  |false=>false
theorem aQ{α:Type}{p:α→Bool}:∀{l:List α},eJ p l=true→∀x∈l,p x=true
 |y::r,h,x,hx=>by
  unfold eJ at h;split at h
  ·rcases Wh.1 hx with rfl|hx
   ·assumption
   ·exact aQ h x hx
  ·cases h
def sA:List SV→Option (List Value)
 | []=>some []
 |sv::r=>match sv with
  |.val v=>match sA r with
   |some l=>some (v::l)
   |none=>none
  |_=>none
def fx:List SV→Option (List Atom)
 | []=>some []
 |sv::r=>match sv with
  |.val v=>match fx r with
   |some l=>some (.v v::l)
   |none=>none
  |.own i=>match fx r with
   |some l=>some (.o i::l)
   |none=>none
  |.ptr i off=>match fx r with
   |some l=>some (.p i off::l)
   |none=>none
  |.jJ i off len cut=>match fx r with
   |some l=>some (.s i off len cut::l)
   |none=>none
  |_=>none
theorem sw{β:Env}:∀{l:List SV} {vs:List Value},sA l=some vs→l.map (SV.den β)=vs
 | [],vs,h=>by
  have:vs=[]:=by simpa[sA]using h.symm
  subst this;rfl
 |sv::r,vs,h=>by
  unfold sA at h;split at h
  ·split at h
   ·rename_i l hl
    cases h;rw[VQ,sw hl];rfl
   ·cases h
  ·cases h
theorem lK{β:Env}:∀{l:List SV} {asq:List Atom},fx l=some asq→l.map (SV.den β)=asq.map (Atom.den β)
 | [],vs,h=>by
  have:vs=[]:=by simpa[fx]using h.symm
  subst this;rfl
 |sv::r,vs,h=>by
  unfold fx at h;split at h
  all_goals first
   | (cases h;done)
   | (
     split at h
     ·rename_i l hl
      cases h;rw[VQ,lK hl];rfl
     ·cases h)
theorem nZ{Q:Nat→Prop}:∀{l:List SV} {asq:List Atom},fx l=some asq→(∀s∈l,s.on Q)→∀a∈asq,a.on Q
 | [],vs,h,_=>by
  have:vs=[]:=by simpa[fx]using h.symm
  subst this;intro a ha;cases ha
 |sv::r,vs,h,hq=>by
  unfold fx at h;have h0:=hq sv (by simp);split at h
  all_goals first
   | (cases h;done)
   | (
     split at h
     ·rename_i l hl
      cases h;intro a ha;rcases Wh.1 ha with rfl|ha
      ·exact h0
      ·exact nZ hl (fun s hs=>hq s (VJ _ hs)) a ha
     ·cases h)
def vP(cs:List SV):Option SV:=match sA cs with
 |some vs=>some (.val (.agg vs.toArray))
 |none=>match fx cs with
  |some l=>some (.dG l)
  |none=>none
theorem vO{β:Env}{cs:List SV}{sv:SV}(h:vP cs=some sv):sv.den β=.agg (cs.map (SV.den β)).toArray:=by
 unfold vP at h;split at h
 ·rename_i vs hv
  cases h;rw[sw hv];rfl
 ·split at h
  ·rename_i l hl
   cases h;rw[lK hl];rfl
  ·cases h
theorem zB{Q:Nat→Prop}{cs:List SV}{sv:SV}(h:vP cs=some sv)(hq:∀s∈cs,s.on Q):sv.on Q:=by
 unfold vP at h;split at h
 ·cases h;trivial
 ·split at h
  ·rename_i l hl
   cases h;exact nZ hl hq
  ·cases h
def cw(P:Program)(t:TypeId)(r:Row)(off:Nat):oR:=
 match r.fixed with
 |false=>.bad
 |true=>match P.underlying t,P.info? t with
  |some d,some inf=>match d.isRow with
   |true=>match r.cs with
    |.ai cs=>match VP off 0&&VP inf.size cs.length with
     |true=>.val (.val (.agg cs.toArray)) none
     |false=>match WR (off+inf.size) cs.length with
      |true=>.val (.val (.agg ((cs.drop off).take inf.size).toArray)) none
      |false=>.bad
    |.dj _ cs=>match VP off 0&&VP inf.size cs.length with
     |true=>.val (.val (.agg cs.toArray)) none
     |false=>match WR (off+inf.size) cs.length with
      |true=>.val (.val (.agg ((cs.drop off).take inf.size).toArray)) none
      |false=>.bad
    |.cU cs=>match VP off 0&&VP inf.size cs.length with
     |true=>match vP cs with
      |some sv=>.val sv none
      |none=>.bad
     |false=>.bad
    |.iC _ cs=>match VP off 0&&VP inf.size cs.length with
     |true=>match vP cs with
      |some sv=>.val sv none
      |none=>.bad
     |false=>.bad
    |_=>.bad
   |false=>match r.cs with
    |.ai cs=>match cs[off]? with
     |some v=>.val (.val v) none
     |none=>.bad
    |.dj _ cs=>match cs[off]? with
     |some v=>.val (.val v) none
     |none=>.bad
    |.cU cs=>match cs[off]? with
     |some v=>.val v none
     |none=>.bad
    |.iC _ cs=>match cs[off]? with
     |some v=>.val v none
     |none=>.bad
    |_=>.bad
  |_,_=>.bad
def bn(P:Program)(t:TypeId)(r:Row)(off:Nat)(v:Value):oR:=
 match r.cs with
 |.own _ _ xs=>match P.underlying t,P.info? t with
  |some d,some inf=>match d.isRow with
   |true=>match v with
    |.agg arr=>match Wc 0 inf.size with
     |true=>.val (.val (.agg arr)) (some (arr.toList.length=inf.size∧(xs.drop off).take inf.size=arr.toList))
     |false=>.bad
    |_=>.bad
   |false=>.val (.val v) (some (xs[off]?=some v))
  |_,_=>.bad
 |_=>.bad
def Cells.Hx(c:Cells)(l:List Value):Cells:=match c with
 |.dj g _=>.dj g l
 |.iC g _=>.dj g l
 |_=>.ai l
theorem LD{β:Env}{c:Cells}{l:List Value}:(c.Hx l).den β=l:=by cases c<;>rfl
theorem LC{c:Cells}{l:List Value}:(c.Hx l).tag=c.tag:=by cases c<;>rfl
theorem Fp{c:Cells}{l:List Value}{Q:Nat→Prop}:(c.Hx l).on Q:=by cases c<;>exact VE
theorem DB{T T':TypeId}{c:Cells}{l:List Value}(h:(⟨T,c⟩:Row).fixed=true):(⟨T',c.Hx l⟩:Row).fixed=true:=by cases c<;>first|rfl|cases h
def Atom.sv:Atom→SV
 |.v x=>.val x
 |.o i=>.own i
 |.p i off=>.ptr i off
 |.s i off len cut=>.jJ i off len cut
theorem Atom.qi{β:Env}{a:Atom}:a.sv.den β=a.den β:=by cases a<;>rfl
theorem Atom.yZ{Q:Nat→Prop}{a:Atom}(h:a.on Q):a.sv.on Q:=by cases a<;>exact h
def Atom.one:Atom→Bool
 |.v x=>x.oneCell'
 |_=>true
theorem Atom.one_den{β:Env}{a:Atom}(h:a.one=true):(a.den β).oneCell'=true:=by
 cases a with
 |v x=>exact h
 |o i=>rfl
 |p i off=>rfl
 |s _ _ _ _=>rfl
def cB(P:Program)(t:TypeId)(i:Nat)(r:Row)(off:Nat)(sv:SV):oR:=
 match r.fixed with
 |false=>.bad
 |true=>match P.info? t with
 |none=>.bad
 |some inf=>match sv with
  |.val v=>match VP v.cells.toList.length inf.size&&eJ (·.oneCell') v.cells.toList with
   |true=>match VP off 0&&VP inf.size r.cs.len with
    |true=>.store i ⟨r.ty,r.cs.Hx v.cells.toList⟩ none
    |false=>match WR (off+inf.size) r.cs.len with
     |true=>.store i ⟨r.ty,match r.cs with
      |.ai cs=>.ai (cs.take off++(v.cells.toList++cs.drop (off+inf.size)))
      |.cU cs=>.cU (cs.take off++(v.cells.toList.map .val++cs.drop (off+inf.size)))
      |.dj g cs=>.dj g (cs.take off++(v.cells.toList++cs.drop (off+inf.size)))
      |.iC g cs=>.iC g (cs.take off++(v.cells.toList.map .val++cs.drop (off+inf.size)))
      |c=>c⟩ none
     |false=>.bad
   |false=>.bad
  |sv=>match sv.one&&VP inf.size 1 with
   |true=>match Wc off r.cs.len with
    |true=>.store i ⟨r.ty,match r.cs with
     |.ai cs=>.cU ((cs.map .val).set off sv)
     |.cU cs=>.cU (cs.set off sv)
     |.dj g cs=>.iC g ((cs.map .val).set off sv)
     |.iC g cs=>.iC g (cs.set off sv)
     |c=>c⟩ none
    |false=>.bad
   |false=>match sv with
    |.dG l=>match(VP off 0&&VP inf.size r.cs.len)&&(VP l.length inf.size&&eJ Atom.one l)with
     |true=>.store i ⟨r.ty,match r.cs with
      |.dj g _=>.iC g (l.map Atom.sv)
      |.iC g _=>.iC g (l.map Atom.sv)
      |_=>.cU (l.map Atom.sv)⟩ none
     |false=>.bad
    |_=>.bad
def bh(P:Program)(t:TypeId)(i:Nat)(r:Row)(off:Nat)(sv:SV):oR:=match r.cs with
 |.own size n xs=>match P.info? t with
  |some inf=>match sv with
   |.val v=>match VP v.cells.toList.length inf.size&&(eJ (·.oneCell') v.cells.toList&&Wc 0 inf.size)with
    |true=>.dF i ⟨r.ty,.own size n (xs.take off++(v.cells.toList++xs.drop (off+inf.size)))⟩ (some (off+inf.size≤xs.length))
    |false=>.bad
   |_=>.bad
  |none=>.bad
 |_=>.bad
def bM(P:Program)(t:TypeId)(r:Row)(off:Nat)(v:Value):oR:=
 match P.underlying t with
 |some d=>match d.isRow with
  |false=>match r.cs with
   |.ai cs=>.val (.val v) (some (cs[off]?=some v))
   |.dj _ cs=>.val (.val v) (some (cs[off]?=some v))
   |_=>.bad
  |true=>.bad
 |none=>.bad
def bB(P:Program)(t:TypeId)(i:Nat)(r:Row)(off:Nat)(sv:SV)(cs':List Value):oR:=
 match P.info? t with
 |none=>.bad
 |some inf=>match sv with
  |.val v=>match VP v.cells.toList.length inf.size&&eJ (·.oneCell') v.cells.toList with
   |true=>match r.cs with
    |.ai cs=>.store i ⟨r.ty,.ai cs'⟩ (some (off+inf.size≤cs.length∧cs.take off++(v.cells.toList++cs.drop (off+inf.size))=cs'))
    |.dj g cs=>.store i ⟨r.ty,.dj g cs'⟩ (some (off+inf.size≤cs.length∧cs.take off++(v.cells.toList++cs.drop (off+inf.size))=cs'))
    |_=>.bad
   |false=>.bad
  |_=>.bad
def DY(ρ:Operand→Value)(o:Oper):Option (Sem Value):=
 match o.op with
 |.binOp op t x y _=>some (do eqGuard op t x y (ρ x) (ρ y);binOp op t (ρ x) (ρ y))
 |.unOp op _ x=>some (Op.unary op (ρ x))
 |.convert s d x=>some (convert s d (ρ x))
 |.slice t x lo hi mx=>some (Xv t (ρ x) (lo.map ρ) (hi.map ρ) (mx.map ρ))
 |.index t x i=>some (Instr.index t (ρ x) (ρ i))
 |.indexAddr t x i=>some (WN t (ρ x) (ρ i))
 |.field t x f=>some (Instr.field t (ρ x) f)
 |.load t x=>some (Xf t (ρ x))
 |.fieldAddr t x f=>some (Xb t (ρ x) f)
 |_=>none
def bw(P:Program)(w0:aY)(h:Option Hint)(e:Operand→Option SV)(o:Oper):oR:=
 match eJ (isVal e) o.op.operands.toList&&Region.noSelect #[o]with
 |false=>.bad
 |true=>match h with
  |some (.any v)=>match DY (Pz e) o with
   |some s=>.val (.val v) (some (∀W,ah w0.S w0.w W→s.run P W=.ok v W))
   |none=>.val (.val v) (some (∀W,ah w0.S w0.w W→(execOp (Pz e) o).run P W=.ok (.value v) W))
  |some (.bin v)=>match DY (Pz e) o with
   |some s=>.val (.val v) (some (∀W,s.run P W=.ok v W))
   |none=>.bad
  |some (.is v)=>match gD P (execOp (Pz e) o)with
   |some (.value u)=>.val (.val v) (some (u=v))
   |_=>.bad
  |_=>match gD P (execOp (Pz e) o)with
   |some (.value u)=>.val (.val u) none
   |_=>.bad
def cQ(P:Program)(w0:aY)(h:Option Hint)(e:Operand→Option SV)(o:Oper):oR:=
 match h with
 |some (.call v)=>match eJ (isVal e) o.op.operands.toList&&Region.noSelect #[o]with
  |false=>.bad
  |true=>match gD P (execOp (Pz e) o)with
   |some (.enter f args)=>.call f args.toList v
   |_=>.bad
 |_=>bw P w0 h e o
def Ti(H:List (Nat×Hint)):Operand→Option Hint
 |.tmp x=>hint H (some (100000+x))
 |_=>none
def CO(c:Call):Option (TypeId×Operand):=match c.callee with
 |.builtin b=>match b with
  |.len=>match c.args.toList,c.argTypes.toList with
   | [x],[t]=>some (t,x)
   |_,_=>none
  |_=>none
 |_=>none
def iK(e:Operand→Option SV):List Operand→Option (List SV)
 | []=>some []
 |x::r=>match e x,iK e r with
  |some sv,some l=>some (sv::l)
  |_,_=>none
def bu(P:Program)(e:Operand→Option SV)(c:Call)(r:jy):oR:=match c.callee with
 |.value (.func f)=>match P.funcs[f]? with
  |some fn=>match fn.name== "runtime.NumGoroutine"||fn.body.isNone with
   |false=>match iK e c.args.toList with
    |some l=>.dc f l r
    |none=>.bad
   |true=>.bad
  |none=>.bad
 |_=>.bad
def isSlice:jy→Bool
 |.val _=>false
 |_=>true
def cM(P:Program)(e:Operand→Option SV)(c:Call)(r:jy):oR:=match bu P e c r with
 |.dc f args _=>match args with
  | [.own i]=>match isSlice r with
   |true=>.eS f i r
   |false=>.bad
  |_=>.bad
 |_=>.bad
def Cells.list:Cells→Option (List Value)
 |.ai cs=>some cs
 |.dj _ cs=>some cs
 |_=>none
def mf(row:Nat→Option Row):Nat→List SV→List (Nat×Nat)
 |_,[]=>[]
 |k,sv::r=>match sv with
  |.ptr i 0=>match row i with
   |some rw=>match rw.fixed with
    |true=>(k,i)::mf row (k+1) r
    |false=>mf row (k+1) r
   |none=>mf row (k+1) r
  |_=>mf row (k+1) r
theorem qT{row:Nat→Option Row}:∀{l:List SV} {k:Nat} {q:Nat×Nat},q∈mf row k l→k≤q.1∧l[q.1 - k]?=some (.ptr q.2 0)∧∃r,row q.2=some r∧r.fixed=true
 | [],k,q,h=>by cases h
 |sv::r,k,q,h=>by
  have tail:q∈mf row (k+1) r→k≤q.1∧(sv::r)[q.1 - k]?=some (.ptr q.2 0)∧∃r,row q.2=some r∧r.fixed=true:=fun h=>by obtain⟨h1,h2,h3⟩:=qT h;refine⟨by omega,?_,h3⟩;rw[show q.1 - k=(q.1 - (k+1))+1 by omega,Wp];exact h2
  unfold mf at h;split at h
  ·split at h
   ·rename_i rw hrow
    split at h
    ·rename_i hf
     rcases Wh.1 h with rfl|h
     ·exact⟨Wx _,by simp,rw,hrow,hf⟩
     ·exact tail h
    ·exact tail h
   ·exact tail h
  ·exact tail h
def ft(P:Program)(e:Operand→Option SV)(row:Nat→Option Row)(c:Call):Hint→oR
 |.Le p cs v=>match bu P e c (.val v)with
  |.dc f args _=>match args[p]? with
   |some (.ptr i 0)=>match row i with
    |some r=>match r.cs.list with
     |some l=>match VP l.length cs.length with
      |true=>.ek f args (.fI p i ⟨r.ty,r.cs.Hx cs⟩ v)
      |false=>.bad
     |none=>.bad
    |none=>.bad
   |_=>.bad
  |_=>.bad
 |.pW=>match bu P e c (.val undef)with
  |.dc f args _=>.ek f args (.El (mf row 0 args))
  |_=>.bad
 |_=>.bad
def DU(w0:aY)(row:Nat→Option Row)(size:Nat)(h:Option Hint):SV→Option (Nat×List Value×Prop)
 |.lO j off m _=>match row j with
  |some r=>match r.cs with
   |.ai cs=>some (m,(cs.drop off).take (m*size),True)
   |_=>none
  |none=>none
 |.own j=>match row j with
  |some r=>match r.cs with
   |.own _ n xs=>some (n,xs,True)
   |_=>none
  |none=>none
 |.jJ j off m cut=>match row j with
  |some r=>match r.cs with
   |.own sz n xs=>some (m,(xs.drop off).take (m*size),off=cut*sz∧cut+m≤n)
   |_=>none
  |none=>none
 |.val v=>match h with
  |some (.app m news)=>some (m,news,∀W,ah w0.S w0.w W→∃A c,v=.slice A m c∧(0 < news.length→∃ad,A=some ad∧∀(j:Nat) (u:Value),news[j]?=some u→W.cell? (ad.add j)=some u))
  |_=>none
 |_=>none
def Bv(P:Program)(t:TypeId):Option (TypeId×Nat×Nat):=match P.underlying t with
 |some (.slice e)=>match P.info? e with
  |some inf=>match inf.zero with
   |some z=>match VP z.cells.size inf.size&&Wc 0 inf.size with
    |true=>some (e,inf.size,inf.bytes)
    |false=>none
   |none=>none
  |none=>none
 |_=>none
def jx(P:Program)(w0:aY)(row:Nat→Option Row)(h:Option Hint)(t:TypeId)(kill:Option Nat)(el size n:Nat)(xs:List Value)(y:SV):oR:=
 match Bv P t with
 |some (e,sz,bytes)=>match VP e el&&VP sz size with
  |true=>match DU w0 row size h y with
   |some (m,news,ob)=>.grow kill el size (n+m) (xs++news) (some (ob∧news.length=m*size∧(∀u∈news,u.oneCell'=true)∧n+m≤maxLen∧(n+m)*bytes≤140737488355328))
   |none=>.bad
  |false=>.bad
 |none=>.bad
def eY(P:Program)(w0:aY)(row:Nat→Option Row)(h:Option Hint)(t:TypeId)(x y:SV):oR:=
 match x with
 |.own i=>match row i with
  |some r=>match r.cs with
   |.own size n xs=>jx P w0 row h t (some i) r.ty size n xs y
   |_=>.bad
  |none=>.bad
 |.val (.slice none 0 0)=>match Bv P t with
  |some (e,sz,_)=>jx P w0 row h t none e sz 0 [] y
  |none=>.bad
 |_=>.bad
def yI(c:Call):Option (TypeId×Operand×Operand):=match c.callee with
 |.builtin b=>match b with
  |.append=>match c.args.toList,c.argTypes.toList with
   | [x,y],[t,u]=>match VP t u with
    |true=>some (t,x,y)
    |false=>none
   |_,_=>none
  |_=>none
 |_=>none
def da(P:Program)(w0:aY)(h:Option Hint)(e:Operand→Option SV)(o:Oper)(x:Operand):oR:=match e x with
 |some sv=>match h with
  |none=>.val sv none
  |some (.ij t size)=>match sv with
   |.val (.slice none 0 0)=>.grow none t size 0 [] none
   |sv=>.val sv none
  |_=>bw P w0 h e o
 |none=>.bad
def TA(e:Operand→Option SV)(d:Nat):Option Operand→Option Int
 |none=>some d
 |some x=>match e x with
  |some (.val (.int _ k))=>some k
  |_=>none
def iY(P:Program)(h:Option Hint)(e:Operand→Option SV)(row:Nat→Option Row)(t:TypeId)(i:Nat)(lo hi:Option Operand):oR:=match row i with
 |some r=>match r.cs with
  |.own size n _=>match Bv P t with
   |some (_,sz,_)=>match VP sz size with
    |true=>match TA e 0 lo,TA e n hi with
     |some kl,some kh=>match h with
      |some (.Vp l u)=>.val (.jJ i (l*size) (u - l) l) (some (kl=l∧kh=u∧l≤u∧u≤n))
      |_=>.bad
     |_,_=>.bad
    |false=>.bad
   |none=>.bad
  |_=>.bad
 |none=>.bad
def cC(P:Program)(w0:aY)(h:Option Hint)(e:Operand→Option SV)(row:Nat→Option Row)(o:Oper)(t:TypeId)(x:Operand)(lo hi mx:Option Operand):oR:=match e x with
 |some (.own i)=>match mx with
  |none=>iY P h e row t i lo hi
  |some _=>.bad
 |_=>bw P w0 h e o
def ew(P:Program)(w0:aY)(h:Option Hint)(e:Operand→Option SV)(row:Nat→Option Row)(o:Oper)(c:Call):oR:=match CO c with
 |some (t,x)=>match e x with
  |some (.own i)=>match row i with
   |some r=>match r.cs with
    |.own _ n _=>match P.underlying t with
     |some (.slice _)=>.val (.val (.int .i64 (n:Int))) none
     |_=>.bad
    |_=>.bad
   |none=>.bad
  |some (.lO _ _ n _)=>match P.underlying t with
   |some (.slice _)=>.val (.val (.int .i64 (n:Int))) none
   |_=>.bad
  |some (.jJ _ _ n _)=>match P.underlying t with
   |some (.slice _)=>.val (.val (.int .i64 (n:Int))) none
   |_=>.bad
  |_=>cQ P w0 h e o
 |none=>cQ P w0 h e o
def mg(e:Operand→Option SV):Nat→List (Nat×Operand)→Option (List Value)
 |_,[]=>some []
 |k,p::r=>match VP p.1 k with
  |true=>match e p.2 with
   |some (.val v)=>match mg e (k+1) r with
    |some l=>some (v::l)
    |none=>none
   |_=>none
  |false=>none
def jc(P:Program)(e:Operand→Option SV)(t:TypeId)(len:Nat)(parts:List (Nat×Operand)):oR:=match mg e 0 parts with
 |some vs=>match P.underlying t with
  |some (.slice el)=>match P.info? el with
   |some inf=>match inf.zero with
    |some z=>match eJ (fun v=>VP v.cells.toList.length inf.size) vs&&(VP vs.length len&&(VP z.cells.toList.length inf.size&&(WR (len*inf.size) 16777216&&(Wc 0 inf.size&&Wc 0 len))))with
     |true=>.alloc el (.ai (vs.flatMap fun v=>v.cells.toList)) (some len)
     |false=>.bad
    |none=>.bad
   |none=>.bad
  |_=>.bad
 |none=>.bad
def qC(P:Program):oR→oR
 |.alloc el (.ai cs) (some n)=>match P.info? el with
  |some inf=>match VP cs.length (n*inf.size)&&WR n 16777216 with
   |true=>.grow none el inf.size n cs none
   |false=>.bad
  |none=>.bad
 |_=>.bad
def ye(P:Program)(s d:TypeId):Bool:=match P.underlying s with
 |some (.slice el)=>match P.underlying d with
  |some .string=>match P.underlying el with
   |some (.int .u8)=>true
   |_=>false
  |_=>false
 |_=>false
def eM(P:Program)(w0:aY)(H:List (Nat×Hint))(h:Option Hint)(e:Operand→Option SV)(row:Nat→Option Row)(o:Oper):oR:=
 match o.op with
 |.move x | .assign x=>da P w0 h e o x
 |.nilCheck x=>match e x with
  |some (.ptr i off)=>.val (.ptr i off) none
  |_=>bw P w0 h e o
 |.alloc t=>match P.info? t with
  |some inf=>match inf.zero with
   |some z=>.alloc t (.ai z.cells.toList) none
   |none=>.bad
  |none=>.bad
 |.box t x=>match e x with
  |some (.val v)=>.alloc t (.ai v.cells.toList) none
  |some (.dG l)=>.alloc t (.cU (l.map Atom.sv)) none
  |some sv=>match sv.one with
   |true=>.alloc t (.cU [sv]) none
   |false=>.bad
  |none=>.bad
 |.load t x=>match e x with
  |some (.ptr i off)=>match row i with
   |some r=>match h with
    |some (.ld v)=>bM P t r off v
    |_=>cw P t r off
   |none=>.bad
  |some (.kT i off)=>match row i with
   |some r=>match h with
    |some (.ld v)=>bn P t r off v
    |_=>.bad
   |none=>.bad
  |_=>match h with
   |some (.any v)=>bw P w0 (some (.any v)) e o
   |_=>.bad
 |.store t x y=>match e x with
  |some (.ptr i off)=>match e y with
   |some sv=>match row i with
    |some r=>match Ti H x with
     |some (.st cs')=>bB P t i r off sv cs'
     |_=>cB P t i r off sv
    |none=>.bad
   |none=>.bad
  |some (.kT i off)=>match e y with
   |some sv=>match row i with
    |some r=>bh P t i r off sv
    |none=>.bad
   |none=>.bad
  |_=>.bad
 |.extract x k=>match e x with
  |some (.vh l i r)=>match VP k l.length with
   |true=>.val (.own i) none
   |false=>match l[k]? with
    |some v=>.val (.val v) none
    |none=>match Wc l.length k with
     |true=>match r[k - l.length - 1]? with
      |some v=>.val (.val v) none
      |none=>.bad
     |false=>.bad
  |_=>bw P w0 h e o
 |.buildSlice t len parts=>match h with
  |some (.ij _ _)=>qC P (jc P e t len parts.toList)
  |_=>match len,parts.toList with
  | 1,[(0,x)]=>match e x with
   |some (.val v)=>match P.underlying t with
    |some (.slice el)=>match P.info? el with
     |some inf=>match inf.zero with
      |some z=>match VP v.cells.toList.length inf.size&&(VP z.cells.toList.length inf.size&&(WR inf.size 16777216&&Wc 0 inf.size))with
       |true=>.alloc el (.ai v.cells.toList) (some 1)
       |false=>.bad
      |none=>.bad
     |none=>.bad
    |_=>.bad
   |_=>.bad
  |_,_=>jc P e t len parts.toList
 |.fieldAddr s x f=>match e x with
  |some (.ptr i off)=>match P.underlying s with
   |some (.struct fields)=>match fields[f]? with
    |some fd=>match(P.info? fd.type).map (·.size)with
     |some (_+1)=>.val (.ptr i (off+fd.offset)) none
     |_=>.bad
    |none=>.bad
   |_=>.bad
  |some (.kT i off)=>match row i with
   |some r=>match r.cs with
    |.own _ n _=>match P.underlying s with
     |some (.struct fields)=>match fields[f]? with
      |some fd=>match(P.info? fd.type).map (·.size)with
       |some (_+1)=>.val (.kT i (off+fd.offset)) (some (0 < n))
       |_=>.bad
      |none=>.bad
     |_=>.bad
    |_=>.bad
   |none=>.bad
  |_=>bw P w0 h e o
 |.indexAddr t x ix=>match e x with
  |some (.ptr i off)=>match P.underlying t with
   |some (.array len elem)=>match e ix with
    |some (.val (.int _ k))=>match P.info? elem with
     |some inf=>match h with
      |some .ix=>.val (.ptr i (off+k.toNat*inf.size)) (some (0≤k∧k < len))
      |_=>match decide (0≤k∧k < len)with
       |true=>.val (.ptr i (off+k.toNat*inf.size)) none
       |false=>.bad
     |none=>.bad
    |_=>.bad
   |_=>.bad
  |some (.own i)=>match row i with
   |some r=>match r.cs with
    |.own _ n _=>match e ix with
     |some (.val (.int _ k))=>match P.underlying t with
      |some (.slice elem)=>match P.info? elem with
       |some inf=>match h with
        |some .ix=>.val (.kT i (k.toNat*inf.size)) (some (0≤k∧k < n))
        |_=>.bad
       |none=>.bad
      |_=>.bad
     |_=>.bad
    |_=>.bad
   |none=>.bad
  |_=>bw P w0 h e o
 |.convert s d x=>match e x with
  |some sv=>match h with
   |some (.is (.string b))=>match DU w0 row 1 h sv with
    |some (m,news,ob)=>match ye P s d with
     |true=>.val (.val (.string b)) (some (ob∧b.size=m∧news=b.data.toList.map fun c=>.int .u8 (c.toNat:Int)))
     |false=>.bad
    |none=>bw P w0 h e o
   |_=>bw P w0 h e o
  |none=>bw P w0 h e o
 |.slice t x lo hi mx=>cC P w0 h e row o t x lo hi mx
 |.call c=>match h with
  |some (.dc r)=>bu P e c r
  |some (.eS r)=>cM P e c r
  |some (.Le p cs v)=>ft P e row c (.Le p cs v)
  |some .pW=>ft P e row c .pW
  |_=>match yI c with
   |some (t,x,y)=>match e x,e y with
    |some sx,some sy=>eY P w0 row h t sx sy
    |_,_=>.bad
   |none=>ew P w0 h e row o c
 |_=>bw P w0 h e o
def fw:Option SV→List Nat
 |some (.ptr i _)=>[i]
 |some (.lO i _ _ _)=>[i]
 |some (.kT i _)=>[i]
 |some (.own i)=>[i]
 |some (.jJ i _ _ _)=>[i]
 |_=>[]
def ax(e:Operand→Option SV)(o:Oper):List Nat:=
 match o.op with
 |.load _ x=>fw (e x)
 |.store _ x _=>fw (e x)
 |.indexAddr _ x _=>match e x with
  |some (.own i)=>[i]
  |_=>[]
 |.slice _ x _ _ _=>match e x with
  |some (.own i)=>[i]
  |_=>[]
 |.convert _ _ x=>fw (e x)
 |.fieldAddr _ x _=>match e x with
  |some (.kT i _)=>[i]
  |_=>[]
 |.call c=>c.args.toList.flatMap fun x=>fw (e x)
 |_=>[]
def kW(m:Nat):Option Nat→SV
 |none=>.ptr m 0
 |some n=>.lO m 0 n n
def mr(g:Nat):Option Nat→Value
 |none=>.pointer (some ⟨g,0,none⟩)
 |some n=>.slice (some ⟨g,0,none⟩) n n
def ak:Row:=⟨0,.dead⟩
def gT:jy→Option Row
 |.val _=>none
 |.sl T size n xs=>some ⟨T,.own size n xs⟩
 |.vh _ T size n xs _=>some ⟨T,.own size n xs⟩
def gn(m:Nat):jy→SV
 |.val v=>.val v
 |.sl _ _ _ _=>.own m
 |.vh pre _ _ _ _ post=>.vh pre m post
def DL(mem:List Row):Option Row→List Row
 |none=>mem
 |some r=>mem++[r]
def dZ(mem:List Row):Option Nat→List Row
 |none=>mem
 |some i=>mem.set i ak
def DA(row:Nat→Option Row)(W:World)(i:Nat)(K:Value→Prop):Prop:=match row i with
 |some r=>match r.cs with
  |.own size n xs=>∀s,Own W r.ty size s n xs→K s
  |_=>False
 |none=>False
theorem uV{row:Nat→Option Row}{W:World}{i:Nat}{K:Value→Prop}(h:DA row W i K):∃r,row i=some r∧∃s m ys,r.cs=.own s m ys:=by
 unfold DA at h;split at h
 ·rename_i r hr
  split at h
  ·rename_i s m ys hc
   exact⟨r,hr,s,m,ys,hc⟩
  ·exact h.elim
 ·exact h.elim
theorem Fm{β:Env}{row:Nat→Option Row}{W:World}{i:Nat}{K:Value→Prop}(h:DA row W i K)(hr:∀r,row i=some r→aT β W i r):K (β.sl i):=by
 unfold DA at h;split at h
 ·rename_i r hrow
  have hh:=hr r hrow;split at h
  ·rename_i s m ys hc
   unfold aT at hh;rw[hc]at hh;have:=h _ hh.2;rw[←hh.1]at this;exact this
  ·exact h.elim
 ·exact h.elim
def gg(row:Nat→Option Row)(W:World):List SV→(List Value→Prop)→Prop
 | [],K=>K []
 |sv::l,K=>match sv with
  |.val v=>gg row W l fun vs=>K (v::vs)
  |.own i=>match row i with
   |some r=>match r.cs with
    |.own size n xs=>∀s,Own W r.ty size s n xs→gg row W l fun vs=>K (s::vs)
    |_=>False
   |none=>False
  |.ptr i 0=>match row i with
   |some r=>match r.cs with
    |.ai cs=>∀g,aq W g r.ty cs→gg row W l fun vs=>K (.pointer (some ⟨g,0,none⟩)::vs)
    |.dj g cs=>aq W g r.ty cs→gg row W l fun vs=>K (.pointer (some ⟨g,0,none⟩)::vs)
    |_=>False
   |none=>False
  |.jJ i off m cut=>match row i with
   |some r=>match r.cs with
    |.own size n xs=>(off=cut*size∧cut+m≤n)∧∀s,Own W r.ty size s m ((xs.drop off).take (m*size))→(0 < n→∃g o c,s=.slice (some ⟨g,o,none⟩) m c)→gg row W l fun vs=>K (s::vs)
    |_=>False
   |none=>False
  |_=>False
def sg(b:aY)(W:World)(vs:List Value)(x:XK)(e:Ending)(w':World):Prop:=match x with
 |.fI p _ row v=>∃g l,vs[p]?=some (.pointer (some ⟨g,0,none⟩))∧row.cs.list=some l∧e=.returned v∧aq w' g row.ty l∧ah [g] W w'
 |.El ps=>∃chain T,e=.panicked chain∧b.PP chain w'∧ah T W w'∧∀x∈T,∃q∈ps,vs[q.1]?=some (.pointer (some ⟨x,0,none⟩))
theorem Nx{w:World}{T size n c:Nat}{A:Option Addr}{xs:List Value}(h:Own w T size (.slice A n c) n xs){off m cut:Nat}(ho:off=cut*size)(hm:cut+m≤n):Own w T size (.slice (if c=cut then A else A.map (·.add off)) m (c - cut)) m ((xs.drop off).take (m*size)):=by
 have hlen:((xs.drop off).take (m*size)).length=m*size:=by
  have h1:cut*size+m*size≤n*size:=by rw[←Xn];exact Wt _ hm
  rw[VR,Wm,h.len];omega
 refine⟨hlen,?_⟩;rcases h.2 with⟨hv,rfl⟩ | ⟨g,o,c',L,hv,hg,hn,hc,hL,hx⟩
 ·injection hv with h1 h2 h3
  subst h1;subst h3;have:m=0:=by omega
  subst this;have:cut=0:=by omega
  subst this;exact .inl ⟨by simp,rfl⟩
 ·injection hv with h1 h2 h3
  subst h1;subst h3;refine .inr ?_;have hcs:cut*size+(c - cut)*size=c*size:=by rw[←Xn]; congr 1; omega
  have hmn:cut*size+m*size≤n*size:=by rw[←Xn];exact Wt _ hm
  by_cases hcc:c=cut
  ·have:m=0:=by omega
   subst this;refine⟨g,o,c - cut,L,by rw[if_pos hcc],hg,by omega,by omega,?_,by simp⟩;rw[hcc,WT];omega
  ·refine⟨g,o+off,c - cut,L,by rw[if_neg hcc]; simp[Addr.add_lit],hg,by omega,by omega,by omega,?_⟩
   rw[←hx,List.drop_take,Xu,List.take_take];congr 1;rw[ho];omega
theorem eu{β:Env}{row:Nat→Option Row}{W:World}:∀{l:List SV} {K:List Value→Prop},gg row W l K→(∀i sv,sv∈l→i∈fw (some sv)→∀r,row i=some r→aT β W i r)→K (l.map (SV.den β))
 | [],K,h,_=>h
 |sv::l,K,h,hr=>by
  unfold gg at h;split at h
  ·rename_i v
   have:=eu (l:=l) (K:=fun vs=>K (v::vs)) h fun i sv hi=>hr i sv (VJ _ hi);exact this
  ·rename_i i
   split at h
   ·rename_i r hrow
    have hh:=hr i (.own i) (by simp) (by simp[fw]) r hrow;split at h
    ·rename_i size n xs hcs
     unfold aT at hh;rw[hcs]at hh;have:=eu (l:=l) (K:=fun vs=>K (.slice (β.a i) n (β.c i)::vs)) (h (.slice (β.a i) n (β.c i)) hh.2) fun i sv hi=>hr i sv (VJ _ hi);rw[←hh.1]at this;exact this
    ·exact h.elim
   ·exact h.elim
  ·rename_i i
   split at h
   ·rename_i r hrow
    have hh:=hr i (.ptr i 0) (by simp) (by simp[fw]) r hrow;split at h
    ·rename_i cs hcs
     unfold aT at hh;rw[hcs]at hh;exact eu (l:=l) (K:=fun vs=>K (_::vs)) (h _ hh) fun i sv hi=>hr i sv (VJ _ hi)
    ·rename_i g cs hcs
     unfold aT at hh;rw[hcs]at hh;obtain⟨hg,hb⟩:=hh;rw[hg]at hb;have:=eu (l:=l) (K:=fun vs=>K (.pointer (some ⟨g,0,none⟩)::vs)) (h hb) fun i sv hi=>hr i sv (VJ _ hi);rw[←hg]at this;exact this
    ·exact h.elim
   ·exact h.elim
  ·rename_i i off m cut
   split at h
   ·rename_i r hrow
    have hh:=hr i (.jJ i off m cut) (by simp) (by simp[fw]) r hrow;split at h
    ·rename_i size n xs hcs
     unfold aT at hh;rw[hcs]at hh;refine eu (l:=l) (K:=fun vs=>K (_::vs)) (h.2 _ (Nx hh.2 h.1.1 h.1.2) fun hn=>?_) fun i sv hi=>hr i sv (VJ _ hi);obtain⟨g,o,c',hv,_⟩:=hh.2.some_ hn;injection hv with h1 h2 h3;simp only[SV.den,h1];by_cases hc:β.c i=cut
     ·exact⟨g,o,β.c i - cut,by rw[if_pos hc]⟩
     ·exact⟨g,o+off,β.c i - cut,by rw[if_neg hc]; simp[Addr.add_lit]⟩
    ·exact h.elim
   ·exact h.elim
  ·exact h.elim
end Sx
open Go Go.RowKit Go.Lib Go.Sort
theorem aq.setCells{b:Nat}{t:TypeId}:∀(vs:List Value) (off:Nat) {cs:List Value} {W:World},aq W b t cs→off+vs.length≤cs.length→aq (W.setCells b off vs) b t (cs.take off++(vs++cs.drop (off+vs.length)))
 | [],off,cs,W,h,_=>by simpa[World.setCells]using h
 |v::r,off,cs,W,h,hl=>by
  rw[World.setCells];simp only[VZ]at hl;have:=aq.setCells r (off+1) (h.oW off v) (by simp;omega);have e:(cs.set off v).take (off+1)++(r++(cs.set off v).drop (off+1+r.length))=cs.take off++((v::r)++cs.drop (off+(v::r).length)):=by rw[WQ (by simp;omega),List.drop_set_of_lt (by omega),Xh,Xl (by omega)];simp only[List.append_assoc,Xr,WG,VZ];rw[show off+(r.length+1)=off+1+r.length by omega]
  rwa [e]at this
theorem ah.nc{S:List Nat}{a:World}(b:Nat)(hb:b∈S∨a.heap.size≤b):∀(vs:List Value) (off:Nat) {W:World},ah S a W→ah S a (W.setCells b off vs)
 | [],_,_,h=>h
 |v::r,off,_,h=>ah.nc b hb r (off+1) (h.setCell (p:=⟨b,off,none⟩) hb v)
namespace Sx
section
variable{P:Program}{β:Env}{W:World}{a:Act}{o:Oper}{e:Operand→Option SV}{row:Nat→Option Row}{hn:Option Hint}
def oR.Ok(P:Program)(β:Env)(W:World)(a:Act)(o:Oper):oR→Prop
 |.val sv ob=>(∀p,ob=some p→p)→(execOp a.eval o).run P W=.ok (.value (sv.den β)) W
 |.call f args _=>(execOp a.eval o).run P W=.ok (.enter f args.toArray) W
 |.alloc t cs ln=>(execOp a.eval o).run P W=.ok (.value (mr W.heap.size ln)) (W.alloc (.cells (cs.den β).toArray t))
 |.grow kill t size n xs ob=>(∀p,ob=some p→p)→∃A c W' S,(execOp a.eval o).run P W=.ok (.value (.slice A n c)) W'∧Own W' t size (.slice A n c) n xs∧ah S W W'∧(∀k∈S,∃i,kill=some i∧(β.a i).map (·.block)=some k)∧∀k,A.map (·.block)=some k→k∈S∨W.heap.size≤k
 |.dc f args _=>(execOp a.eval o).run P W=.ok (.enter f (args.map (SV.den β)).toArray) W
 |.eS f i _=>(execOp a.eval o).run P W=.ok (.enter f #[β.sl i]) W
 |.ek f args _=>(execOp a.eval o).run P W=.ok (.enter f (args.map (SV.den β)).toArray) W
 |.dF i r ob=>(∀p,ob=some p→p)→∃W',(execOp a.eval o).run P W=.ok .skip W'∧aT β W' i r∧ah (av β i r).toList W W'
 |.store i r ob=>(∀p,ob=some p→p)→∃W',(execOp a.eval o).run P W=.ok .skip W'∧aq W' (β i) r.ty (r.cs.den β)∧ah [β i] W W'
 |.bad=>True
theorem Ja(he:∀x∈o.op.operands,∀sv,e x=some sv→a.eval x=sv.den β)(h:eJ (isVal e) o.op.operands.toList=true)(hs:Region.noSelect #[o]=true):execOp a.eval o=execOp (Pz e) o:=by
 refine execOp_congr o ?_ fun x hx=>?_
 ·exact fun cs b=>Region.noSelect_spec hs 0 o cs b rfl
 ·have:=aQ h x (by simpa using hx)
  unfold isVal at this;unfold Pz;split at this
  ·rename_i v hv
   rw[he x hx _ hv];rfl
  ·cases this
theorem zv{ρ:Operand→Value}{s:Sem Value}(h:DY ρ o=some s){v:Value}(hr:s.run P W=.ok v W):(execOp ρ o).run P W=.ok (.value v) W:=by
 unfold DY at h;split at h
 all_goals first
  |cases h;done
  | (rename_i ho;cases h;unfold execOp;simp only[ho];rw[VK,hr];rfl)
theorem fz{w0:aY}(hw:ah w0.S w0.w W)(he:∀x∈o.op.operands,∀sv,e x=some sv→a.eval x=sv.den β):(bw P w0 hn e o).Ok P β W a o:=by
 unfold bw;split
 ·trivial
 ·rename_i hb
  rw[VI]at hb;have hq:=Ja he hb.1 hb.2;split
  ·split
   ·rename_i s hs
    intro hob;rw[hq];exact zv hs (hob _ rfl W hw)
   ·intro hob
    rw[hq];exact hob _ rfl W hw
  ·split
   ·rename_i s hs
    intro hob;rw[hq];exact zv hs (hob _ rfl W)
   ·trivial
  ·split
   ·rename_i u hu
    intro hob;rw[hq,om hu W,hob _ rfl];rfl
   ·trivial
  ·split
   ·rename_i u hu
    intro _;rw[hq,om hu W];rfl
   ·trivial
theorem Fi{w0:aY}(hw:ah w0.S w0.w W)(he:∀x∈o.op.operands,∀sv,e x=some sv→a.eval x=sv.den β):(cQ P w0 hn e o).Ok P β W a o:=by
 unfold cQ;split
 ·split
  ·trivial
  ·rename_i hb
   rw[VI]at hb;have hq:=Ja he hb.1 hb.2;split
   ·rename_i f args hu
    show _=_;rw[hq,om hu W]
   ·trivial
 ·exact fz hw he
theorem oX{b off:Nat}{t:TypeId}:(Xf t (.pointer (some ⟨b,off,none⟩))).run P W=(loadVar t ⟨b,off,none⟩).run P W:=by simp[Xf,Wk]
theorem iU{t:TypeId}{x:Operand}{b off:Nat}{d:TypeDesc}{inf:TypeInfo}{cs:List Value}(ho:o.op=.load t x)(hx:a.eval x=.pointer (some ⟨b,off,none⟩))(hu:P.underlying t=some d)(hi:P.info? t=some inf)(hd:d.isRow=true)(hl:inf.size=cs.length)(hc:W.rangeAt b off cs) :
  (execOp a.eval o).run P W=.ok (.value (.agg cs.toArray)) W:=by
 have:=run_loadAt_mid (P:=P) W b off t cs d hc hu hd (by rw[hi];simpa using hl);unfold execOp;simp only[ho,hx,VK,this];rfl
theorem iV{t:TypeId}{x:Operand}{b off:Nat}{d:TypeDesc}{v:Value}(ho:o.op=.load t x)(hx:a.eval x=.pointer (some ⟨b,off,none⟩))(hu:P.underlying t=some d)(hd:d.isRow=false)(hc:W.cell? ⟨b,off,none⟩=some v) :
  (execOp a.eval o).run P W=.ok (.value v) W:=by
 have hagg:(isAgg t).run P W=.ok false W:=by unfold isAgg;rw[VK,run_underlying hu W];cases d<;>simp_all
 unfold execOp;simp only[ho,hx,VK,oX];simp[loadVar,VK,hagg,load,XH,hc]
theorem EF{t:TypeId}{x:Operand}{i off:Nat}{r:Row}(ho:o.op=.load t x)(hx:a.eval x=.pointer (some ⟨β i,off,none⟩))(hb:aT β W i r):(cw P t r off).Ok P β W a o:=by
 unfold cw;split
 ·trivial
 ·rename_i hf
  have hb:=hb.bY hf;split
  ·rename_i d inf hu hi
   split
   ·rename_i hd
    split
    ·rename_i cs hcs
     rw[hcs]at hb;split
     ·rename_i hh
      rw[VI]at hh;have h0:=VF hh.1;have h1:=VF hh.2;intro _;refine iU ho hx hu hi hd h1 fun j v hv=>?_;rw[h0,Wz];exact hb.cell_of hv
     ·split
      ·rename_i hh
       have hl:=VH hh;intro _;refine iU ho hx hu hi hd (by simp;omega) fun j v hv=>?_;refine hb.cell_of ?_;rw[VV]at hv;split at hv
       ·rw[VW]at hv;exact hv
       ·cases hv
      ·trivial
    ·rename_i cs hcs
     rw[hcs]at hb;split
     ·rename_i hh
      rw[VI]at hh;have h0:=VF hh.1;have h1:=VF hh.2;intro _;refine iU ho hx hu hi hd h1 fun j v hv=>?_;rw[h0,Wz];exact hb.cell_of hv
     ·split
      ·rename_i hh
       have hl:=VH hh;intro _;refine iU ho hx hu hi hd (by simp;omega) fun j v hv=>?_;refine hb.cell_of ?_;rw[VV]at hv;split at hv
       ·rw[VW]at hv;exact hv
       ·cases hv
      ·trivial
    ·rename_i cs hcs
     rw[hcs]at hb;split
     ·rename_i hh
      rw[VI]at hh;have h0:=VF hh.1;have h1:=VF hh.2;split
      ·rename_i sv hsv
       intro _;rw[vO hsv];refine iU ho hx hu hi hd (by simpa using h1) fun j v hv=>?_;rw[h0,Wz];exact hb.cell_of hv
      ·trivial
     ·trivial
    ·rename_i cs hcs
     rw[hcs]at hb;split
     ·rename_i hh
      rw[VI]at hh;have h0:=VF hh.1;have h1:=VF hh.2;split
      ·rename_i sv hsv
       intro _;rw[vO hsv];refine iU ho hx hu hi hd (by simpa using h1) fun j v hv=>?_;rw[h0,Wz];exact hb.cell_of hv
      ·trivial
     ·trivial
    ·trivial
   ·rename_i hd
    split
    ·rename_i cs hcs
     rw[hcs]at hb;split
     ·rename_i v hv
      intro _;exact iV ho hx hu hd (hb.cell_of hv)
     ·trivial
    ·rename_i cs hcs
     rw[hcs]at hb;split
     ·rename_i v hv
      intro _;exact iV ho hx hu hd (hb.cell_of hv)
     ·trivial
    ·rename_i cs hcs
     rw[hcs]at hb;split
     ·rename_i v hv
      intro _;exact iV ho hx hu hd (hb.cell_of (by simp[Cells.den,hv]))
     ·trivial
    ·rename_i cs hcs
     rw[hcs]at hb;split
     ·rename_i v hv
      intro _;exact iV ho hx hu hd (hb.cell_of (by simp[Cells.den,hv]))
     ·trivial
    ·trivial
  ·trivial
theorem GA{t:TypeId}{x:Operand}{i off:Nat}{r:Row}{v:Value}(ho:o.op=.load t x)(hx:a.eval x=.pointer (some ⟨β i,off,none⟩))(hb:aT β W i r):(bM P t r off v).Ok P β W a o:=by
 unfold bM;split
 ·rename_i d hu
  split
  ·rename_i hd
   split
   ·rename_i cs hcs
    unfold aT at hb;rw[hcs]at hb;intro hob;exact iV ho hx hu hd (aq.cell_of hb (hob _ rfl))
   ·rename_i g cs hcs
    unfold aT at hb;rw[hcs]at hb;intro hob;exact iV ho hx hu hd (aq.cell_of hb.2 (hob _ rfl))
   ·trivial
  ·trivial
 ·trivial
theorem xL{i n:Nat}{T size:Nat}{xs:List Value}(h:Own W T size (.slice (β.a i) n (β.c i)) n xs)(hx:xs≠[]):∃g o,β.a i=some ⟨g,o,none⟩∧∀(j:Nat) (u:Value),xs[j]?=some u→W.cell? ⟨g,o+j,none⟩=some u:=by
 have hn:0 < n:=by
  rcases WA n with h0|h0
  ·have:=h.len
   rw[h0,Xi]at this;exact absurd (Wa this) hx
  ·exact h0
 obtain⟨g,o,c,hv,_⟩:=h.some_ hn;injection hv with h1 _ h3;refine⟨g,o,h1,fun j u hu=>?_⟩;rw[h1]at h;exact(Own.cell h hu).1
theorem CI{t:TypeId}{x:Operand}{i off:Nat}{r:Row}{v:Value}(ho:o.op=.load t x)(hx:a.eval x=(SV.kT i off).den β)(hb:aT β W i r):(bn P t r off v).Ok P β W a o:=by
 unfold bn;split
 ·rename_i size n xs hcs
  unfold aT at hb;rw[hcs]at hb;split
  ·rename_i d inf hu hi
   split
   ·rename_i hd
    split
    ·rename_i arr
     split
     ·rename_i hpos
      have hpos:0 < inf.size:=VH hpos;intro hob;obtain⟨h1,h2⟩:=hob _ rfl;have hne:xs≠[]:=by rintro rfl;rw[List.drop_nil,List.take_nil]at h2;rw[←h2]at h1;simp at h1;omega
      obtain⟨g,o',ha,hc⟩:=xL hb.2 hne;have hx':a.eval x=.pointer (some ⟨g,o'+off,none⟩):=by rw[hx];simp only[SV.den,ha,Wo,Addr.add_mid]
      refine iU (cs:=arr.toList) ho hx' hu hi hd h1.symm fun j u hu=>?_;rw[Xd];refine hc _ _ ?_;rw[←h2,VV]at hu;split at hu
      ·rw[VW]at hu;exact hu
      ·cases hu
     ·trivial
    ·trivial
   ·rename_i hd
    intro hob;have hu':=hob _ rfl;have hne:xs≠[]:=by rintro rfl;simp at hu'
    obtain⟨g,o',ha,hc⟩:=xL hb.2 hne;have hx':a.eval x=.pointer (some ⟨g,o'+off,none⟩):=by rw[hx];simp only[SV.den,ha,Wo,Addr.add_mid]
    exact iV ho hx' hu hd (hc _ _ hu')
  ·trivial
 ·trivial
theorem iL(b off:Nat)(t:TypeId)(v:Value)(ht:W.there b off v.cells.size)(hi:(P.info? t).map (·.size)=some v.cells.size)(h1:∀u∈v.cells.toList,u.oneCell'=true) :
  (storeVar t ⟨b,off,none⟩ v).run P W=.ok () (W.setCells b off v.cells.toList):=by
 have:=run_storeCells_cells (P:=P) b off v.cells.toList 0 W (fun j hj=>by simpa using (ht j (by simpa using hj)).1) (fun j hj=>by simpa using (ht j (by simpa using hj)).2) h1;cases hq:P.info? t with
 |none=>simp[hq]at hi
 |some i=>
  have hs:v.cells.size=i.size:=by simp[hq]at hi;omega
  simp only[Xj]at this;simp[storeVar,sizeOf,typeInfo,hq,hs,this]
theorem qJ{b t:Nat}{cs:List Value}(hb:aq W b t cs){off n:Nat}(h:off+n≤cs.length):W.there b off n:=fun j hj=>⟨by rw[hb.cell,WZ (by omega)];rfl,hb.frozen _⟩
theorem IG{t:TypeId}{x y:Operand}{i off:Nat}{r:Row}{sv:SV}(ho:o.op=.store t x y)(hx:a.eval x=.pointer (some ⟨β i,off,none⟩))(hy:a.eval y=sv.den β)(hb:aT β W i r):(cB P t i r off sv).Ok P β W a o:=by
 have main:r.fixed=true→∀(inf:TypeInfo) (v:Value) (row':List Value),sv.den β=v→P.info? t=some inf→v.cells.toList.length=inf.size→(∀u∈v.cells.toList,u.oneCell'=true)→off+inf.size≤r.cs.len→
   (r.cs.den β).take off++(v.cells.toList++(r.cs.den β).drop (off+inf.size))=row'→∃W',(execOp a.eval o).run P W=.ok .skip W'∧aq W' (β i) r.ty row'∧ah [β i] W W':=by
  intro hf inf v row' hv hi hl h1 hle hrow;have hb:=hb.bY hf;have hth:W.there (β i) off v.cells.size:=qJ hb (by rw[Cells.gB];simp at hl;omega);have hrun:=iL (P:=P) (β i) off t v hth (by rw[hi];simp at hl ⊢;omega) h1;refine⟨W.setCells (β i) off v.cells.toList,?_,?_,ah.nc _ (.inl (by simp)) _ _ (ah.refl _ _)⟩
  ·unfold execOp
   simp only[ho,hx,hy,hv,VK,Xa,Wk,VU,VL,hrun]
  ·have:=hb.setCells v.cells.toList off (by rw[Cells.gB,hl];exact hle)
   rw[hl,hrow]at this;exact this
 unfold cB;split
 ·trivial
 rename_i hf;split
 ·trivial
 ·rename_i inf hi
  split
  ·rename_i v
   split
   ·rename_i hh
    rw[VI]at hh;have hl:=VF hh.1;have h1:=aQ hh.2;split
    ·rename_i hz
     rw[VI]at hz;have h0:=VF hz.1;have hs:=VF hz.2;intro _;refine main hf inf v _ rfl hi hl h1 (by omega) ?_;subst h0;rw[Xt,WG,WE (by rw[Cells.gB];omega),Ww];exact LD.symm
    ·split
     ·rename_i hle
      have hle:=VH hle;intro _;refine main hf inf v _ rfl hi hl h1 hle ?_;unfold Row.fixed at hf;cases hcc:r.cs with
      |own a b c=>rw[hcc]at hf;cases hf
      |dead=>rw[hcc]at hf;cases hf
      |ai cs=>rfl
      |dj g cs=>rfl
      |cU cs=>simp[Cells.den,Xx,Xy,SV.den,Function.comp_def]
      |iC g cs=>simp[Cells.den,Xx,Xy,SV.den,Function.comp_def]
     ·trivial
   ·trivial
  ·split
   ·rename_i h1
    rw[VI]at h1;obtain⟨ho1,h1⟩:=h1;have h1:=VF h1;obtain⟨hc0,hone⟩:=nq ho1 β;split
    ·rename_i hlt
     have hlt:off < r.cs.len:=VH hlt;have hc:(sv.den β).cells.toList=[sv.den β]:=by rw[hc0]
     have ho:=hone;intro _;refine main hf inf (sv.den β) _ rfl hi (by rw[hc];simp[h1]) (by rw[hc];simpa using ho) (by omega) ?_;rw[hc,h1];have key:∀(L:List Value),off < L.length→L.take off++([sv.den β]++L.drop (off+1))=L.set off (sv.den β):=by intro L hL;rw[WO,if_pos hL];rfl
     cases hr:r.cs with
     |own a b c=>unfold Row.fixed at hf;rw[hr]at hf;cases hf
     |dead=>unfold Row.fixed at hf;rw[hr]at hf;cases hf
     |dj g cs=>rw[hr]at hlt;simp only[Cells.den,Wy,Wn];rw[key cs hlt];congr 1;have:(SV.den β ∘ SV.val)=id:=rfl;rw[this,WW]
     |iC g cs=>rw[hr]at hlt;simp only[Cells.den,Wy];rw[key _ (by simpa[Cells.len]using hlt)]
     |ai cs=>rw[hr]at hlt;simp only[Cells.den,Wy,Wn];rw[key cs hlt];congr 1;have:(SV.den β ∘ SV.val)=id:=rfl;rw[this,WW]
     |cU cs=>rw[hr]at hlt;simp only[Cells.den,Wy];rw[key _ (by simpa[Cells.len]using hlt)]
    ·trivial
   ·split
    ·rename_i l _ _
     split
     ·rename_i hh
      rw[VI,VI,VI]at hh;have h0:=VF hh.1.1;have hs:=VF hh.1.2;have hl:=VF hh.2.1;have ho:=aQ hh.2.2;have hcells:(SV.den β (.dG l)).cells.toList=l.map (Atom.den β):=rfl;intro _;refine main hf inf (SV.den β (.dG l)) _ rfl hi (by rw[hcells,WJ,hl]) (fun u hu=>?_) (by omega) ?_
      ·rw[hcells]at hu
       obtain⟨x,hx,rfl⟩:=VT.1 hu;exact Atom.one_den (ho x hx)
      ·subst h0
       have hsv:(l.map Atom.sv).map (SV.den β)=l.map (Atom.den β):=by rw[Wn];exact VS fun x _=>Atom.qi
       rw[Xt,WG,WE (by rw[Cells.gB];omega),Ww,hcells];cases hr:r.cs with
       |own a b c=>unfold Row.fixed at hf;rw[hr]at hf;cases hf
       |dead=>unfold Row.fixed at hf;rw[hr]at hf;cases hf
       |dj g cs=>exact hsv.symm
       |iC g cs=>exact hsv.symm
       |ai cs=>exact hsv.symm
       |cU cs=>exact hsv.symm
     ·trivial
    ·trivial
theorem BW{t:TypeId}{x y:Operand}{i off:Nat}{r:Row}{sv:SV}{cs':List Value}(ho:o.op=.store t x y)(hx:a.eval x=.pointer (some ⟨β i,off,none⟩))(hy:a.eval y=sv.den β)(hb:aT β W i r):(bB P t i r off sv cs').Ok P β W a o:=by
 have main:r.fixed=true→∀(inf:TypeInfo) (v:Value) (row':List Value),sv.den β=v→P.info? t=some inf→v.cells.toList.length=inf.size→(∀u∈v.cells.toList,u.oneCell'=true)→off+inf.size≤r.cs.len→
   (r.cs.den β).take off++(v.cells.toList++(r.cs.den β).drop (off+inf.size))=row'→∃W',(execOp a.eval o).run P W=.ok .skip W'∧aq W' (β i) r.ty row'∧ah [β i] W W':=by
  intro hf inf v row' hv hi hl h1 hle hrow;have hb:=hb.bY hf;have hth:W.there (β i) off v.cells.size:=qJ hb (by rw[Cells.gB];simp at hl;omega);have hrun:=iL (P:=P) (β i) off t v hth (by rw[hi];simp at hl ⊢;omega) h1;refine⟨W.setCells (β i) off v.cells.toList,?_,?_,ah.nc _ (.inl (by simp)) _ _ (ah.refl _ _)⟩
  ·unfold execOp
   simp only[ho,hx,hy,hv,VK,Xa,Wk,VU,VL,hrun]
  ·have:=hb.setCells v.cells.toList off (by rw[Cells.gB,hl];exact hle)
   rw[hl,hrow]at this;exact this
 unfold bB;split
 ·trivial
 ·rename_i inf hi
  split
  ·rename_i v
   split
   ·rename_i hh
    rw[VI]at hh;have hl:=VF hh.1;have h1:=aQ hh.2;split
    ·rename_i cs hcs
     intro hob;have hob:=hob _ rfl;refine main (by unfold Row.fixed;rw[hcs]) inf v _ rfl hi hl h1 (by rw[hcs];exact hob.1) ?_;rw[hcs];exact hob.2
    ·rename_i cs hcs
     intro hob;have hob:=hob _ rfl;refine main (by unfold Row.fixed;rw[hcs]) inf v _ rfl hi hl h1 (by rw[hcs];exact hob.1) ?_;rw[hcs];exact hob.2
    ·trivial
   ·trivial
  ·trivial
theorem Fx{α:Type}(L:List α)(o N off:Nat)(xs cs:List α)(hx:(L.drop o).take N=xs)(hl:xs.length=N)(hfit:off+cs.length≤xs.length):((splice L (o+off) cs).drop o).take N=xs.take off++(cs++xs.drop (off+cs.length)):=by
 have hL:o+N≤L.length∨N=0:=by have:=congrArg XF hx;rw[VR,Wm,hl]at this;omega
 rcases hL with hL|hN
 ·apply List.ext_getElem?
  intro j;unfold splice;rw[VV];by_cases hj:j < N
  ·rw[if_pos hj,VW]
   have hxj:∀i,i < N→xs[i]?=L[o+i]?:=fun i hi=>by rw[←hx,VV,if_pos hi,VW]
   by_cases h1:j < off
   ·rw[VO (by rw[VR];omega),VO (by rw[VR];omega),VV,VV,if_pos (by omega),if_pos h1,hxj j hj]
   ·have hl1:(L.take (o+off)++(cs++L.drop (o+off+cs.length)))[o+j]?=(cs++L.drop (o+off+cs.length))[j - off]?:=by
     rw[VM (by rw[VR];omega),VR,Xs (by omega)];congr 1;omega
    have hr1:(xs.take off++(cs++xs.drop (off+cs.length)))[j]?=(cs++xs.drop (off+cs.length))[j - off]?:=by rw[VM (by rw[VR];omega),VR,Xs (by omega)]
    rw[hl1,hr1];by_cases h2:j < off+cs.length
    ·rw[VO (by omega),VO (by omega)]
    ·have a1:(cs++L.drop (o+off+cs.length))[j - off]?=L[o+j]?:=by
      rw[VM (by omega),VW];congr 1;omega
     have a2:(cs++xs.drop (off+cs.length))[j - off]?=xs[j]?:=by rw[VM (by omega),VW];congr 1;omega
     rw[a1,a2,hxj _ hj]
  ·rw[if_neg hj]
   symm;apply List.getElem?_eq_none;simp only[VY,VR,Wm];omega
 ·subst hN
  have:xs=[]:=Wa hl;subst this;have:cs=[]:=Wa (by rw[WI]at hfit;omega);subst this;simp
theorem zg{t:TypeId}{x y:Operand}{i off:Nat}{r:Row}{sv:SV}(ho:o.op=.store t x y)(hx:a.eval x=(SV.kT i off).den β)(hy:a.eval y=sv.den β)(hb:aT β W i r):(bh P t i r off sv).Ok P β W a o:=by
 unfold bh;split
 ·rename_i size n xs hcs
  unfold aT at hb;rw[hcs]at hb;split
  ·rename_i inf hi
   split
   ·rename_i v
    split
    ·rename_i hh
     simp only[VI]at hh;obtain⟨h1,h2,h3⟩:=hh;have h1:=VF h1;have h2:=aQ h2;have h3:0 < inf.size:=VH h3;intro hob;have hfit:=hob _ rfl;obtain⟨hn,hown⟩:=hb;rcases hown.2 with⟨hv,h0⟩ | ⟨g,o',c',L,hv,hg,hnc,hcm,hL,hxs⟩
     ·have:=hown.len
      rw[h0,Xi]at this;omega
     ·injection hv with ha _ hc
      have hlen:=hown.len;have hns:n*size≤c'*size:=Wt _ hnc;have hth:W.there g (o'+off) v.cells.size:=qJ hg (by simp at h1;omega);have hrun:=iL (P:=P) g (o'+off) t v hth (by rw[hi];simp at h1 ⊢;omega) h2;have hset:=hg.setCells v.cells.toList (o'+off) (by omega);have hx':a.eval x=.pointer (some ⟨g,o'+off,none⟩):=by rw[hx];simp only[SV.den,ha,Wo,Addr.add_mid]
      refine⟨W.setCells g (o'+off) v.cells.toList,?_,?_,?_⟩
      ·unfold execOp
       simp only[ho,hx',hy,SV.den,VK,Xa,Wk,VU,VL,hrun]
      ·show β.n i=n∧Own _ r.ty size (.slice (β.a i) n (β.c i)) n _
       refine⟨hn,?_,.inr ⟨g,o',c',_,by rw[ha,hc],hset,hnc,hcm,?_,?_⟩⟩
       ·simp only[VY,VR,Wm,h1]
        omega
       ·simp only[VY,VR,Wm]
        omega
       ·have:=Fx L o' (n*size) off xs v.cells.toList hxs hlen (by omega)
        rw[h1]at this;unfold splice at this;rw[h1]at this;rw[h1];exact this
      ·have e:av β i ⟨r.ty,.own size n (xs.take off++(v.cells.toList++xs.drop (off+inf.size)))⟩=some g:=by
        show(β.a i).map _=_;rw[ha];rfl
       rw[e];exact ah.nc _ (.inl (by simp)) _ _ (ah.refl _ _)
    ·trivial
   ·trivial
  ·trivial
 ·trivial
theorem foldl_set:∀(l:List Value) (k:Nat) (z:Array Value),z.size=k+l.length→(l.zipIdx k).foldl (fun(cs:Array Value) (x:Value×Nat)=>cs.setIfInBounds (0+x.2) x.1) z=(z.toList.take k++l).toArray
 | [],k,z,h=>by simp only[WI,Xj]at h;rw[List.zipIdx_nil,List.foldl_nil,Ww,Xe (by simp;omega)]
 |v::l,k,z,h=>by simp only[VZ]at h;rw[WC,WX,foldl_set l (k+1) _ (by simp;omega)];apply congrArg List.toArray;simp only[Wz,WY];rw[WQ (by simp;omega),Xh,Xl (Wx _)];simp
theorem KH(size:Nat)(v:Value)(z:Array Value)(hz:z.size=size)(hv:v.cells.size=size):WK (fun i=>some (i*size,size)) z [(0,v)]=some v.cells:=by
 have h:=foldl_set v.cells.toList 0 z (by simp;omega);have e1:(v.cells.size≠size||0*size+v.cells.size > z.size)=false:=by simp[hv,hz]
 unfold WK;simp only[e1,Bool.false_eq_true,if_false];unfold WK;apply congrArg some;rw[←Xm,show v.cells.zipIdx.toList=v.cells.toList.zipIdx 0 by simp];simp only[Xi];rw[h];simp
theorem nN{β:Env}{a:Act}{e:Operand→Option SV}:∀{l:List (Nat×Operand)} {k:Nat} {vs:List Value},mg e k l=some vs→(∀i x,(i,x)∈l→∀sv,e x=some sv→a.eval x=sv.den β)→(l.map fun p=>(p.1,a.eval p.2))=(vs.zipIdx k).map fun x=>(x.2,x.1)
 | [],k,vs,h,_=>by
  have:vs=[]:=by simpa[mg]using h.symm
  subst this;rfl
 | (i,x)::r,k,vs,h,he=>by
  unfold mg at h;simp only at h;split at h
  ·rename_i hi
   split at h
   ·rename_i v hx
    split at h
    ·rename_i l hl
     cases h;have h1:=nN hl fun i x hm=>he i x (VJ _ hm);have h2:=he i x (by simp) _ hx;rw[VQ,WC,VQ,h1];simp only[h2,SV.den,VF hi]
    ·cases h
   ·cases h
  ·cases h
theorem Bn{P:Program}{β:Env}{W:World}{a:Act}{o:Oper}{e:Operand→Option SV}{t:TypeId}{len:Nat}{parts:Array (Nat×Operand)}(ho:o.op=.buildSlice t len parts)(he:∀i x,(i,x)∈parts.toList→∀sv,e x=some sv→a.eval x=sv.den β):(jc P e t len parts.toList).Ok P β W a o:=by
 unfold jc;split
 ·rename_i vs hvs
  have hp:=nN hvs he;split
  ·rename_i el hu
   split
   ·rename_i inf hi
    split
    ·rename_i z hz
     split
     ·rename_i hh
      simp only[VI]at hh;obtain⟨h1,h2,h3,h4,h5,h6⟩:=hh;have h1':∀v∈vs,v.cells.size=inf.size:=fun v hv=>by have:=VF (aQ h1 v hv);simpa using this
      have h2:=VF h2;have h3:=VF h3;have h4:=VH h4;have h5:0 < inf.size:=VH h5;have h6:0 < len:=VH h6;have hpos:0 < len*inf.size:=XI h6 h5;show _=_;have hfill:=Great.fill_whole h5 vs ((XB (len*inf.size)).map (z.cells[·%z.cells.size]!)) h1' (by simp[h2]);rw[←hp]at hfill;have hrun:=run_buildSlice (P:=P) W t el len (parts.map fun(i,x)=>(i,a.eval x)) _ inf z hu hi hz (by omega) (by omega) (by rw[Wl];exact hfill);unfold execOp;simp only[ho,VK,hrun,VL,VU,mr,Cells.den]
     ·trivial
    ·trivial
   ·trivial
  ·trivial
 ·trivial
theorem eU{P:Program}{e:Operand→Option SV}{t:TypeId}{len:Nat}{parts:List (Nat×Operand)}{r:oR}(h:jc P e t len parts=r):r=.bad∨∃el cs ln,r=.alloc el (.ai cs) ln:=by
 unfold jc at h;repeat' (split at h)
 all_goals first
  |exact .inl h.symm
  |exact .inr ⟨_,_,_,h.symm⟩
theorem dP{P:Program}{r0 r:oR}(h:qC P r0=r):r=.bad∨∃el sz n cs,r=.grow none el sz n cs none:=by
 unfold qC at h;repeat' (split at h)
 all_goals first
  |exact .inl h.symm
  |exact .inr ⟨_,_,_,_,h.symm⟩
theorem GO{P:Program}{β:Env}{W:World}{a:Act}{o:Oper}{r:oR}(h:r.Ok P β W a o):(qC P r).Ok P β W a o:=by
 unfold qC;split
 ·rename_i el cs n
  split
  ·rename_i inf hi
   split
   ·rename_i hb
    rw[VI]at hb;have h1:=VF hb.1;have h2:=VH hb.2;intro _;have hrun:(execOp a.eval o).run P W=.ok (.value (mr W.heap.size (some n))) (W.alloc (.cells cs.toArray el)):=h;have ho:=Own.made W el inf.size n n cs (Wx _) (by unfold maxLen;omega) h1;rw[Xe (by omega)]at ho;refine⟨some ⟨W.heap.size,0,none⟩,n,_,[],hrun,ho,(ah.refl [] W).alloc _,by simp,fun k hk=>.inr ?_⟩;have:W.heap.size=k:=by simpa using hk
    omega
   ·trivial
  ·trivial
 ·trivial
theorem GB{c:Call}{t:TypeId}{x:Operand}(h:CO c=some (t,x)):c={ callee:=.builtin .len,args:=#[x],argTypes:=#[t] }:=by
 obtain⟨callee,args,ats⟩:=c;unfold CO at h;split at h
 ·rename_i b hb
  split at h
  ·split at h
   ·rename_i y u hy hu
    simp only at hb hy hu;injection h with h;injection h with h1 h2;subst h1;subst h2;have e1:args=#[y]:=by rw[←We,hy]
    have e2:ats=#[u]:=by rw[←We,hu]
    rw[hb,e1,e2]
   ·cases h
  ·cases h
 ·cases h
theorem Bu{t e sz bytes:Nat}(h:Bv P t=some (e,sz,bytes)):∃inf z,P.underlying t=some (.slice e)∧P.info? e=some inf∧inf.zero=some z∧inf.size=sz∧inf.bytes=bytes∧z.cells.size=sz∧0 < sz:=by
 unfold Bv at h;split at h
 ·rename_i e' hu
  split at h
  ·rename_i inf hi
   split at h
   ·rename_i z hz
    split at h
    ·rename_i hb
     rw[VI]at hb;injection h with h;injection h with h1 h2;injection h2 with h2 h3;subst h1;subst h2;subst h3;exact⟨inf,z,hu,hi,hz,rfl,rfl,VF hb.1,VH hb.2⟩
    ·cases h
   ·cases h
  ·cases h
 ·cases h
theorem QS{c:Call}{w0:aY}(ho:o.op=.call c)(hw:ah w0.S w0.w W)(he:∀x∈o.op.operands,∀sv,e x=some sv→a.eval x=sv.den β)(hr:∀i r,i∈ax e o→row i=some r→aT β W i r):(ew P w0 hn e row o c).Ok P β W a o:=by
 unfold ew;split
 ·rename_i t x hla
  have hc:c={ callee:=.builtin .len,args:=#[x],argTypes:=#[t] }:=GB hla;have mem:x∈o.op.operands:=by simp[ho,VG,Call.operands,hc]
  have key:∀A n c',P.underlying t=some c'→(∃el,c'=.slice el)→∀cap,a.eval x=.slice A n cap→(execOp a.eval o).run P W=.ok (.value (.int .i64 (n:Int))) W:=by intro A n c' hu hel cap hx;obtain⟨el,rfl⟩:=hel;unfold execOp;simp[ho,hc,resolve,invoke,builtin,Builtin.len_,hx,run_underlying hu,goInt]
  split
  ·rename_i i hx
   have hx':=he x mem _ hx;split
   ·rename_i r hrow
    have hh:=hr i r (by simp[ax,ho,hc,hx,fw]) hrow;split
    ·rename_i size n xs hcs
     unfold aT at hh;rw[hcs]at hh;split
     ·rename_i el hu
      intro _;have:=key (β.a i) (β.n i) _ hu ⟨el,rfl⟩ (β.c i) hx';rw[hh.1]at this;exact this
     ·trivial
    ·trivial
   ·trivial
  ·rename_i i off n cap hx
   have hx':=he x mem _ hx;split
   ·rename_i el hu
    intro _;exact key _ n _ hu ⟨el,rfl⟩ cap hx'
   ·trivial
  ·rename_i i off n cut hx
   have hx':=he x mem _ hx;split
   ·rename_i el hu
    intro _;exact key _ n _ hu ⟨el,rfl⟩ _ hx'
   ·trivial
  ·exact Fi hw he
 ·exact Fi hw he
theorem Ln{d:Nat}{lo:Option Operand}{k:Int}(h:TA e d lo=some k)(hm:∀x,lo=some x→x∈o.op.operands)(he:∀x∈o.op.operands,∀sv,e x=some sv→a.eval x=sv.den β):(lo=none∧k=d)∨∃x kk,lo=some x∧a.eval x=.int kk k:=by
 cases lo with
 |none=>simp only[TA,Wb.injEq]at h;exact .inl ⟨rfl,h.symm⟩
 |some x=>
  unfold TA at h;split at h
  ·cases ‹some x=none›
  ·rename_i y hy
   cases hy;split at h
   ·rename_i kk k' hx
    cases h;exact .inr ⟨x,kk,rfl,he x (hm x rfl) _ hx⟩
   ·cases h
theorem Rp{t:TypeId}{x:Operand}{lo hi:Option Operand}{i:Nat}(ho:o.op=.slice t x lo hi none)(hx:a.eval x=β.sl i)(he:∀x∈o.op.operands,∀sv,e x=some sv→a.eval x=sv.den β)(hr:∀r,row i=some r→aT β W i r):(iY P hn e row t i lo hi).Ok P β W a o:=by
 unfold iY;split
 ·rename_i r hrow
  have hh:=hr r hrow;split
  ·rename_i size n xs hcs
   unfold aT at hh;rw[hcs]at hh;split
   ·rename_i el sz Vd hty
    split
    ·rename_i hb
     have hb:=VF hb;obtain⟨inf,z,hu,hi',_,hs,_,_,_⟩:=Bu hty;split
     ·rename_i kl kh hkl hkh
      split
      ·rename_i l u
       intro hob;obtain⟨h1,h2,h3,h4⟩:=hob _ rfl;subst h1;subst h2;obtain⟨_,_,hv,hnc,_⟩:=hh.2.form;injection hv with _ _ hcc;have hl:=Ln (o:=o) hkl (fun y hy=>by subst hy;simp[ho,VG]) he;have hu':=Ln (o:=o) hkh (fun y hy=>by subst hy;simp[ho,VG]) he;have e1:(0:Int)≤(u:Int)∧(u:Int)≤(β.c i:Nat):=by omega
       have e2:(0:Int)≤(l:Int)∧(l:Int)≤(u:Nat):=by omega
       have hbs:∀(H:Option Value) (Lo:Option Value),(H=none∧(u:Int)=n∨∃kk,H=some (.int kk (u:Int)))→(Lo=none∧(l:Int)=0∨∃kk,Lo=some (.int kk (l:Int)))→(Wq true n (β.c i) Lo H none).run P W=.ok (l,u,β.c i) W:=by
        intro H Lo hH hLo;rcases hH with⟨rfl,hu0⟩ | ⟨kk,rfl⟩<;>rcases hLo with⟨rfl,hl0⟩ | ⟨kk',rfl⟩
        ·have:n=u:=by omega
         have:l=0:=by omega
         subst this;simp[Wq, *]
        ·have:n=u:=by omega
         subst this;simp[Wq,WS,asIntOf,h3]
        ·have:l=0:=by omega
         subst this;have:u≤β.c i:=by omega
         simp[Wq,WS,asIntOf,this]
        ·have:u≤β.c i:=by omega
         simp[Wq,WS,asIntOf,this,h3]
       have hH:(hi.map a.eval=none∧(u:Int)=n∨∃kk,hi.map a.eval=some (.int kk (u:Int))):=by
        rcases hu' with⟨rfl,h⟩ | ⟨y,kk,rfl,h⟩
        ·exact .inl ⟨rfl,h⟩
        ·exact .inr ⟨kk,by rw[Wo,h]⟩
       have hL:(lo.map a.eval=none∧(l:Int)=0∨∃kk,lo.map a.eval=some (.int kk (l:Int))):=by
        rcases hl with⟨rfl,h⟩ | ⟨y,kk,rfl,h⟩
        ·exact .inl ⟨rfl,h⟩
        ·exact .inr ⟨kk,by rw[Wo,h]⟩
       have hrun:=hbs _ _ hH hL;have hn':=hh.1;subst hn';unfold execOp;simp only[ho,hx,Env.sl,Xv,VK,run_underlying hu,VL,Instr.slice,hrun,sizeOf,typeInfo,Option.map_none];simp[hi',SV.den,hs,hb]
      ·trivial
     ·trivial
    ·trivial
   ·trivial
  ·trivial
 ·trivial
theorem IL{t:TypeId}{x:Operand}{lo hi mx:Option Operand}{w0:aY}(ho:o.op=.slice t x lo hi mx)(hw:ah w0.S w0.w W)(he:∀x∈o.op.operands,∀sv,e x=some sv→a.eval x=sv.den β)(hr:∀i r,i∈ax e o→row i=some r→aT β W i r):(cC P w0 hn e row o t x lo hi mx).Ok P β W a o:=by
 unfold cC;split
 ·rename_i i hx
  split
  ·exact Rp ho (he x (by simp[ho,VG]) _ hx) he (fun r hr'=>hr i r (by simp[ax,ho,hx]) hr')
  ·trivial
 ·exact fz hw he
theorem mY{β:Env}{a:Act}{e:Operand→Option SV}:∀{xs:List Operand} {l:List SV},iK e xs=some l→(∀x∈xs,∀sv,e x=some sv→a.eval x=sv.den β)→xs.map a.eval=l.map (SV.den β)
 | [],l,h,_=>by
  have:l=[]:=by simpa[iK]using h.symm
  subst this;rfl
 |x::r,l,h,he=>by
  unfold iK at h;split at h
  ·rename_i sv l' hx hr
   cases h;rw[VQ,VQ,he x (by simp) _ hx,mY hr fun y hy=>he y (by simp[hy])]
  ·cases h
theorem pX{c:Call}{r:jy}(ho:o.op=.call c)(he:∀x∈o.op.operands,∀sv,e x=some sv→a.eval x=sv.den β):(bu P e c r).Ok P β W a o:=by
 unfold bu;split
 ·rename_i f hcal
  split
  ·rename_i fn hf
   split
   ·rename_i hb
    rw[Xk]at hb;split
    ·rename_i l hl
     have hm:=mY (β:=β) (a:=a) hl (fun x hx sv hsv=>he x (by obtain⟨callee,args,ats⟩:=c;simp only at hcal hx;subst hcal;have hx:x∈args:=Ws.1 hx;simp[ho,VG,Call.operands,hx]) sv hsv);have hm2:c.args.map a.eval=(l.map (SV.den β)).toArray:=by rw[←hm,←Wl,Wj]
     show _=_;obtain⟨callee,args,ats⟩:=c;simp only at hcal hm2;subst hcal;unfold execOp;simp only[ho,resolve,Act.eval,Deferred.ofValue,invoke,callFunc,VK,VU,VL];have hb1:¬fn.name= "runtime.NumGoroutine":=by simpa using hb.1
     have hb2:¬fn.body=none:=by intro h;rw[h]at hb;exact absurd hb.2 (by decide)
     simp[hf,hb1,hb2,hm2]
    ·trivial
   ·trivial
  ·trivial
 ·trivial
theorem dC{P:Program}{e:Operand→Option SV}{row:Nat→Option Row}{c:Call}{hh:Hint}{r:oR}(h:ft P e row c hh=r):r=.bad∨∃f args x,r=.ek f args x:=by
 unfold ft at h;repeat' (split at h)
 all_goals first
  |exact .inl h.symm
  |exact .inr ⟨_,_,_,h.symm⟩
theorem Bh{c:Call}{hh:Hint}(ho:o.op=.call c)(he:∀x∈o.op.operands,∀sv,e x=some sv→a.eval x=sv.den β):(ft P e row c hh).Ok P β W a o:=by
 unfold ft;split
 ·rename_i p cs v
  have h:=pX (P:=P) (W:=W) (r:=.val v) ho he;split
  ·rename_i f args r' hr
   rw[hr]at h;repeat' split
   all_goals first|exact h|trivial
  ·trivial
 ·have h:=pX (P:=P) (W:=W) (r:=.val undef) ho he
  split
  ·rename_i f args r' hr
   rw[hr]at h;exact h
  ·trivial
 ·trivial
theorem Lf{c:Call}{r:jy}(ho:o.op=.call c)(he:∀x∈o.op.operands,∀sv,e x=some sv→a.eval x=sv.den β):(cM P e c r).Ok P β W a o:=by
 have h:=pX (P:=P) (W:=W) (r:=r) ho he;unfold cM;split
 ·rename_i f args r' hr
  rw[hr]at h;split
  ·rename_i i
   split
   ·exact h
   ·trivial
  ·trivial
 ·trivial
theorem oI{c:Call}{t:TypeId}{x y:Operand}(h:yI c=some (t,x,y)):c={ callee:=.builtin .append,args:=#[x,y],argTypes:=#[t,t] }:=by
 obtain⟨callee,args,ats⟩:=c;unfold yI at h;split at h
 ·rename_i b hb
  split at h
  ·split at h
   ·rename_i x' y' t' u' hx ht
    split at h
    ·rename_i hq
     have hq:=VF hq;simp only at hb hx ht;injection h with h;injection h with h1 h2;injection h2 with h2 h3;subst h1;subst h2;subst h3;subst hq;have e1:args=#[x',y']:=by rw[←We,hx]
     have e2:ats=#[t',t']:=by rw[←We,ht]
     rw[hb,e1,e2]
    ·cases h
   ·cases h
  ·cases h
 ·cases h
theorem sF(w:World)(t ty e:TypeId)(i:TypeInfo)(z:Value)(size bytes:Nat)(ht:P.underlying t=some (.slice e))(hi:P.info? e=some i)(hz:i.zero=some z)
  (hsize:i.size=size) (hby:i.bytes=bytes) (hzs:z.cells.size=size) (hsz:0 < size)
  (v:Value) (n:Nat) (xs:List Value) (hown:Own w e size v n xs)
  (sp:Option Addr) (m c:Nat) (news:List Value) (hl:news.length=m*size) (hnews:0 < news.length→∃ad,sp=some ad∧∀(j:Nat) (u:Value),news[j]?=some u→w.cell? (ad.add j)=some u) (h1:∀u∈news,u.oneCell'=true)
  (h63:n+m≤maxLen) (hbytes:(n+m)*bytes≤140737488355328) :
  ∃A' c' w',(Builtin.append_ #[t,t] ty #[v,.slice sp m c]).run P w=.ok (.slice A' (n+m) c') w'∧Own w' e size (.slice A' (n+m) c') (n+m) (xs++news)∧ah v.ownBlock.toList w w'∧
   ((Wu A' (n+m) c').ownBlock=v.ownBlock∨∃k,(Wu A' (n+m) c').ownBlock=some k∧w.heap.size≤k):=by
 cases sp with
 |some ad=>
  refine lS w t ty e i z size bytes ht hi hz hsize hby hzs hsz v n xs hown ad m c news hl (fun j u hu=>?_) h1 h63 hbytes;have hpos:0 < news.length:=by have:=(VN.1 hu).1;omega
  obtain⟨ad',ha,hc⟩:=hnews hpos;cases ha;exact hc j u hu
 |none=>
  have h0:news=[]:=by
   rcases WA news.length with h|h
   ·exact Wa h
   ·obtain⟨ad,ha,_⟩:=hnews h;cases ha
  subst h0;have hm:m=0:=by
   rcases WA m with h|h
   ·exact h
   ·have:=XI h hsz
    simp at hl;omega
  subst hm;obtain⟨A,cap,rfl,hn,_⟩:=hown.form;rw[Ww,Xj];refine⟨A,cap,w,?_,hown,ah.refl _ _,.inl rfl⟩;cases A<;>simp[Builtin.append_,run_underlying ht,sizeOf,typeInfo,hi,Builtin.lenOf,hn,Builtin.firstCells,storeCells]
theorem zh{w0:aY}{size:Nat}{y:SV}{m:Nat}{news:List Value}{ob:Prop}(hw:ah w0.S w0.w W)(h:DU w0 row size hn y=some (m,news,ob))(hob:ob)(hl:news.length=m*size)(hr:∀j∈fw (some y),∀r,row j=some r→aT β W j r) :
  ∃sp c,y.den β=.slice sp m c∧(0 < news.length→∃ad,sp=some ad∧∀(j:Nat) (u:Value),news[j]?=some u→W.cell? (ad.add j)=some u):=by
 unfold DU at h;split at h
 ·rename_i j off m' c
  split at h
  ·rename_i r hrow
   have hh:=hr j (by simp[fw]) r hrow;split at h
   ·rename_i cs hcs
    injection h with h;injection h with h1 h2;injection h2 with h2 h3;subst h1;subst h2;unfold aT at hh;rw[hcs]at hh;refine⟨_,c,rfl,fun _=>⟨_,rfl,fun k u hu=>?_⟩⟩;rw[VV]at hu;split at hu
    ·rw[VW]at hu
     rw[Addr.add_lit];exact aq.cell_of hh hu
    ·cases hu
   ·cases h
  ·cases h
 ·rename_i j
  split at h
  ·rename_i r hrow
   have hh:=hr j (by simp[fw]) r hrow;split at h
   ·rename_i sz n xs hcs
    injection h with h;injection h with h1 h2;injection h2 with h2 h3;subst h1;subst h2;unfold aT at hh;rw[hcs]at hh;refine⟨β.a j,β.c j,by rw[←hh.1];rfl,fun hpos=>?_⟩;obtain⟨g,o',ha,hc⟩:=xL hh.2 (by rintro rfl;simp at hpos);refine⟨_,ha,fun k u hu=>?_⟩;rw[Addr.add_lit];exact hc k u hu
   ·cases h
  ·cases h
 ·rename_i j off m' cut
  split at h
  ·rename_i r hrow
   have hh:=hr j (by simp[fw]) r hrow;split at h
   ·rename_i sz n xs hcs
    injection h with h;injection h with h1 h2;injection h2 with h2 h3;subst h1;subst h2;subst h3;unfold aT at hh;rw[hcs]at hh;refine⟨_,_,rfl,fun hpos=>?_⟩;obtain⟨g,o',ha,hc⟩:=xL hh.2 (by rintro rfl;simp at hpos);obtain⟨_,_,hv,hnc,_⟩:=hh.2.form;injection hv with _ _ hcc;have hxl:=hh.2.len;have hlt:off < xs.length:=by rw[VR,Wm]at hpos;omega
    have hcut:cut < n:=by
     rcases Nat.lt_or_ge cut n with h|h
     ·exact h
     ·have:=Wt sz h
      rw[hxl,hob.1]at hlt;omega
    rw[if_neg (by omega),ha];refine⟨_,rfl,fun k u hu=>?_⟩;rw[VV]at hu;split at hu
    ·rw[VW]at hu
     have:=hc _ u hu;simp only[Addr.add_lit];rw[Xd];exact this
    ·cases hu
   ·cases h
  ·cases h
 ·rename_i v
  split at h
  ·rename_i m' news'
   injection h with h;injection h with h1 h2;injection h2 with h2 h3;subst h1;subst h2;subst h3;obtain⟨A,c,hv,hc⟩:=hob W hw;exact⟨A,c,hv,hc⟩
  ·cases h
 ·cases h
theorem RG{c:Call}{w0:aY}{t:TypeId}{x y:Operand}{sx sy:SV}(ho:o.op=.call c)(hc:c={ callee:=.builtin .append,args:=#[x,y],argTypes:=#[t,t] })(hw:ah w0.S w0.w W)(hx:a.eval x=sx.den β)(hy:a.eval y=sy.den β)
  (hrx:∀i,sx=.own i→∀r,row i=some r→aT β W i r) (hry:∀j∈fw (some sy),∀r,row j=some r→aT β W j r):(eY P w0 row hn t sx sy).Ok P β W a o:=by
 have go:∀(kill:Option Nat) (el size n:Nat) (xs:List Value),Own W el size (sx.den β) n xs→(∀k,(sx.den β).ownBlock=some k→∃i,kill=some i∧(β.a i).map (·.block)=some k)→(jx P w0 row hn t kill el size n xs sy).Ok P β W a o:=by
  intro kill el size n xs hown hk;unfold jx;split
  ·rename_i e' sz bytes hty
   split
   ·rename_i hb
    rw[VI]at hb;have hb1:=VF hb.1;have hb2:=VF hb.2;subst hb1;subst hb2;obtain⟨inf,z,hu,hi,hz,hs,hby,hzs,hpos⟩:=Bu hty;split
    ·rename_i m news ob hsrc
     intro hob;obtain⟨h0,h1,h2,h3,h4⟩:=hob _ rfl;obtain⟨sp,cp,hsl,hcells⟩:=zh hw hsrc h0 h1 hry;obtain⟨A',c',w',hrun,hown',hch,hbl⟩:=sF (P:=P) W t o.type e' inf z sz bytes hu hi hz hs hby hzs hpos (sx.den β) n xs hown sp m cp news h1 hcells h2 h3 h4;have hblk:∀k,A'.map (·.block)=some k→(Wu A' (n+m) c').ownBlock=some k:=by
      intro k hk;cases A' with
      |none=>cases hk
      |some ad=>simpa[Wr]using hk
     refine⟨A',c',w',(sx.den β).ownBlock.toList,?_,hown',hch,fun k hk'=>hk k (by simpa using hk'),fun k hk'=>?_⟩
     ·subst hc
      unfold execOp;simp only[ho,resolve,invoke,builtin,VK,VU,VL,Xq,VQ,XA,hx,hy,hsl,hrun]
     ·have hk2:=hblk k hk'
      rcases hbl with hbl|⟨k',hk3,hlt⟩
      ·left;rw[←hbl,hk2];simp
      ·right;rw[hk3]at hk2;cases hk2;exact hlt
    ·trivial
   ·trivial
  ·trivial
 unfold eY;split
 ·rename_i i
  split
  ·rename_i r hrow
   have hh:=hrx i rfl r hrow;split
   ·rename_i size n xs hcs
    unfold aT at hh;rw[hcs]at hh;refine go (some i) r.ty size n xs ?_ fun k hk=>⟨i,rfl,?_⟩
    ·show Own W r.ty size (.slice (β.a i) (β.n i) (β.c i)) n xs
     rw[hh.1];exact hh.2
    ·rw[←hk,←np (n:=β.n i)];rfl
   ·trivial
  ·trivial
 ·split
  ·rename_i e' sz b hty
   exact go none e' sz 0 [] (Own.nil W _ _) (by simp[SV.den,Wr])
  ·trivial
 ·trivial
theorem uP:∀(l:List UInt8) (r:ByteArray),(l.map fun c=>(c.toNat:Int)).foldl (fun r n=>r.push (UInt8.ofNat n.toNat)) r=⟨(r.data.toList++l).toArray⟩
 | [],r=>by simp
 |c::l,r=>by rw[VQ,WX,uP l];congr 1;simp[ByteArray.push]
theorem FD{P:Program}{W:World}{s d:TypeId}(hb:ye P s d=true)(b:ByteArray)(sp:Option Addr)(c m:Nat)(news:List Value)(h1:b.size=m)(h2:news=b.data.toList.map fun c=>.int .u8 (c.toNat:Int))
  (hc:0 < news.length→∃ad,sp=some ad∧∀(j:Nat) (u:Value),news[j]?=some u→W.cell? (ad.add j)=some u):(convert s d (.slice sp m c)).run P W=.ok (.string b) W:=by
 unfold ye at hb;split at hb
 ·rename_i el hs
  split at hb
  ·rename_i hd
   split at hb
   ·rename_i he
    rw[run_convert_bytes_string W s d el sp m c hs he hd];have hm:news.length=m:=by rw[h2,WJ,←h1];rfl
    have e:news=(b.data.toList.map fun c=>(c.toNat:Int)).map (XG .u8):=by rw[h2,Wn];rfl
    cases sp with
    |none=>
     have h0:news.length=0:=by
      rcases WA news.length with h|h
      ·exact h
      ·obtain⟨_,h,_⟩:=hc h;cases h
     have hz:b.data.toList=[]:=by
      have:b.data.toList.length=0:=by rw[h2,WJ]at h0;exact h0
      exact Wa this
     have hb0:b=ByteArray.empty:=by
      cases b with
      |mk a=>have:a=#[]:=We.1 hz;rw[this];rfl
     rw[hb0];rfl
    |some a=>
     have hl:(loadCells a m).run P W=.ok ((b.data.toList.map fun c=>(c.toNat:Int)).map (XG .u8)).toArray W:=by
      rw[←hm,←e];refine run_loadCells_list (P:=P) W a news fun j v hj=>?_;have hp:0 < news.length:=by have:=(VN.1 hj).1;omega
      obtain⟨ad,ha,hh⟩:=hc hp;injection ha with ha;rw[ha];exact hh j v hj
     rw[run_bytesToString W a m c _ hl,uP];rfl
   ·cases hb
  ·cases hb
 ·cases hb
theorem JA{w0:aY}{H:List (Nat×Hint)}(hw:ah w0.S w0.w W)(he:∀x∈o.op.operands,∀sv,e x=some sv→a.eval x=sv.den β)(hr:∀i r,i∈ax e o→row i=some r→aT β W i r):(eM P w0 H hn e row o).Ok P β W a o:=by
 have move:∀x,(o.op=.move x∨o.op=.assign x)→(da P w0 hn e o x).Ok P β W a o:=by
  intro x ho;unfold da;split
  ·rename_i sv hsv
   have hx:=he x (by rcases ho with ho|ho<;>simp[ho,VG]) _ hsv;split
   ·intro _
    unfold execOp;rcases ho with ho|ho<;>simp only[ho,hx]<;>rfl
   ·split
    ·intro _
     refine⟨none,0,W,[],?_,Own.nil W _ _,ah.refl _ _,by simp,by simp⟩;unfold execOp;rcases ho with ho|ho<;>simp only[ho,hx]<;>rfl
    ·intro _
     unfold execOp;rcases ho with ho|ho<;>simp only[ho,hx]<;>rfl
   ·exact fz hw he
  ·trivial
 unfold eM;split
 ·rename_i x ho;exact move x (.inl ho)
 ·rename_i x ho;exact move x (.inr ho)
 ·rename_i x ho
  split
  ·rename_i i off hx
   intro _;have hx:=he x (by simp[ho,VG]) _ hx;unfold execOp;simp only[ho,hx];rfl
  ·exact fz hw he
 ·rename_i t ho
  split
  ·rename_i inf hi
   split
   ·rename_i z hz
    show _=_;unfold execOp;simp[ho,Instr.alloc,zeroValue,typeInfo,hi,hz,newVar,newRow,Cells.den,mr]
   ·trivial
  ·trivial
 ·rename_i t x ho
  split
  ·rename_i v hx
   have hx:=he x (by simp[ho,VG]) _ hx;show _=_;unfold execOp;simp[ho,hx,Xg,newVar,newRow,Cells.den,SV.den,mr]
  ·rename_i l hx
   have hx:=he x (by simp[ho,VG]) _ hx;have hsv:(l.map Atom.sv).map (SV.den β)=l.map (Atom.den β):=by rw[Wn];exact VS fun a _=>Atom.qi
   show _=_;unfold execOp;simp only[ho,hx,Cells.den,hsv];simp[Xg,newVar,newRow,SV.den,mr,Value.cells]
  ·rename_i sv hnv _ hx
   split
   ·rename_i hone
    have hx:=he x (by simp[ho,VG]) _ hx;obtain⟨hc,_⟩:=nq hone β;show _=_;unfold execOp;simp[ho,hx,Xg,newVar,newRow,Cells.den,hc,mr]
   ·trivial
  ·trivial
 ·rename_i t x ho
  split
  ·rename_i i off hx
   split
   ·rename_i r hrow
    split
    ·exact GA ho (he x (by simp[ho,VG]) _ hx) (hr i r (by simp[ax,ho,hx,fw]) hrow)
    ·exact EF ho (he x (by simp[ho,VG]) _ hx) (hr i r (by simp[ax,ho,hx,fw]) hrow)
   ·trivial
  ·rename_i i off hx
   split
   ·rename_i r hrow
    split
    ·exact CI ho (he x (by simp[ho,VG]) _ hx) (hr i r (by simp[ax,ho,hx,fw]) hrow)
    ·trivial
   ·trivial
  ·split
   ·exact fz hw he
   ·trivial
 ·rename_i t x y ho
  split
  ·rename_i i off hx
   split
   ·rename_i sv hy
    split
    ·rename_i r hrow
     split
     ·exact BW ho (he x (by simp[ho,VG]) _ hx) (he y (by simp[ho,VG]) _ hy) (hr i r (by simp[ax,ho,hx,fw]) hrow)
     ·exact IG ho (he x (by simp[ho,VG]) _ hx) (he y (by simp[ho,VG]) _ hy) (hr i r (by simp[ax,ho,hx,fw]) hrow)
    ·trivial
   ·trivial
  ·rename_i i off hx
   split
   ·rename_i sv hy
    split
    ·rename_i r hrow
     exact zg ho (he x (by simp[ho,VG]) _ hx) (he y (by simp[ho,VG]) _ hy) (hr i r (by simp[ax,ho,hx,fw]) hrow)
    ·trivial
   ·trivial
  ·trivial
 ·rename_i x k ho
  split
  ·rename_i l i r hx
   have hx:=he x (by simp[ho,VG]) _ hx;have key:∀v,(l++(β.sl i::r))[k]?=some v→(execOp a.eval o).run P W=.ok (.value v) W:=by
    intro v hv;unfold execOp;have:(l++(β.sl i::r)).toArray[k]?=some v:=by simpa using hv
    simp only[ho,hx,SV.den,Xw,this,VK,VU,VL]
   split
   ·rename_i hk
    have hk:=VF hk;intro _;refine key _ ?_;rw[hk,VM (Wx _),WT];rfl
   ·split
    ·rename_i v hv
     intro _;refine key _ ?_;rw[VO (VN.1 hv).1];exact hv
    ·split
     ·rename_i hlt
      have hlt:l.length < k:=VH hlt;split
      ·rename_i v hv
       intro _;refine key _ ?_;rw[VM (by omega),show k - l.length=(k - l.length - 1)+1 by omega,Wp];exact hv
      ·trivial
     ·trivial
  ·exact fz hw he
 ·rename_i t len parts ho
  split
  ·exact GO (Bn ho fun i x hm sv hx=>he x (by simp only[ho,VG];simpa using ⟨i,by simpa using hm⟩) sv hx)
  ·split
   ·rename_i x hparts
    split
    ·rename_i v hx
     have hx:=he x (by
      have:(0,x)∈parts.toList:=by rw[hparts];simp
      simp only[ho,VG];simpa using ⟨0,by simpa using this⟩) _ hx
     split
     ·rename_i el hu
      split
      ·rename_i inf hi
       split
       ·rename_i z hz
        split
        ·rename_i hh
         simp only[VI]at hh;obtain⟨h1,h2,h3,h4⟩:=hh;have h1:=VF h1;have h2:=VF h2;have h3:=VH h3;have h4:0 < inf.size:=VH h4;show _=_;have hp:parts=#[(0,x)]:=by rw[←We,hparts]
         have hrun:=run_buildSlice (P:=P) W t el 1 #[(0,v)] v.cells inf z hu hi hz (by omega) (by omega) (KH inf.size v _ (by simp) (by simpa using h1));unfold execOp;subst hp;simp only[ho,Xq,VQ,XA,hx,SV.den,VK,hrun,VL,VU,mr,Cells.den]
        ·trivial
       ·trivial
      ·trivial
     ·trivial
    ·trivial
   ·exact Bn ho fun i x hm sv hx=>he x (by simp only[ho,VG];simpa using ⟨i,by simpa using hm⟩) sv hx
 ·rename_i s x f ho
  split
  ·rename_i i off hx
   have hx:=he x (by simp[ho,VG]) _ hx;split
   ·rename_i fields hu
    split
    ·rename_i fd hf
     split
     ·rename_i k hk
      intro _;cases hq:P.info? fd.type with
      |none=>rw[hq]at hk;cases hk
      |some inf=>
       rw[hq]at hk;have hk:inf.size=k+1:=by simpa using hk
       unfold execOp;simp[ho,hx,SV.den,Xb,run_underlying hu,hf,Wk,fieldPlace,sizeOf,typeInfo,hq,hk,Addr.add_lit]
     ·trivial
    ·trivial
   ·trivial
  ·rename_i i off hx
   have hx':=he x (by simp[ho,VG]) _ hx;split
   ·rename_i r hrow
    have hh:=hr i r (by simp[ax,ho,hx]) hrow;split
    ·rename_i size n xs hcs
     unfold aT at hh;rw[hcs]at hh;split
     ·rename_i fields hu
      split
      ·rename_i fd hf
       split
       ·rename_i k hk
        intro hob;obtain⟨g,o',c',hv,_⟩:=hh.2.some_ (hob _ rfl);injection hv with ha _ _;cases hq:P.info? fd.type with
        |none=>rw[hq]at hk;cases hk
        |some inf=>
         rw[hq]at hk;have hk:inf.size=k+1:=by simpa using hk
         unfold execOp;simp[ho,hx',SV.den,ha,Xb,run_underlying hu,hf,Wk,fieldPlace,sizeOf,typeInfo,hq,hk,Addr.add_lit,Xd]
       ·trivial
      ·trivial
     ·trivial
    ·trivial
   ·trivial
  ·exact fz hw he
 ·rename_i t x ix ho
  split
  ·rename_i i off hx
   have hx:=he x (by simp[ho,VG]) _ hx;split
   ·rename_i len elem hu
    split
    ·rename_i kk k hk
     have hk:=he ix (by simp[ho,VG]) _ hk;split
     ·rename_i inf hi
      have key:0≤k∧k < len→(execOp a.eval o).run P W=.ok (.value (.pointer (some ⟨β i,off+k.toNat*inf.size,none⟩))) W:=by intro hb;unfold execOp;simp[ho,hx,hk,SV.den,WN,run_underlying hu,asIntOf,Wk,hb,sizeOf,typeInfo,hi,Addr.add_lit]
      split
      ·intro hob
       exact key (hob _ rfl)
      ·split
       ·rename_i hd
        intro _;exact key (of_decide_eq_true hd)
       ·trivial
     ·trivial
    ·trivial
   ·trivial
  ·rename_i i hx
   have hx':=he x (by simp[ho,VG]) _ hx;split
   ·rename_i r hrow
    have hh:=hr i r (by simp[ax,ho,hx]) hrow;split
    ·rename_i size n xs hcs
     unfold aT at hh;rw[hcs]at hh;split
     ·rename_i kk k hk
      have hk:=he ix (by simp[ho,VG]) _ hk;split
      ·rename_i elem hu
       split
       ·rename_i inf hi
        split
        ·intro hob
         have hb:=hob _ rfl;have hne:0 < n:=by omega
         obtain⟨g,o',c',hv,_⟩:=hh.2.some_ hne;injection hv with ha _ _;have hbn:0≤k∧k < (β.n i:Int):=by rw[hh.1];exact hb
         unfold execOp;simp[ho,hx',hk,SV.den,Env.sl,WN,run_underlying hu,asIntOf,ha,hbn,sizeOf,typeInfo,hi]
        ·trivial
       ·trivial
      ·trivial
     ·trivial
    ·trivial
   ·trivial
  ·exact fz hw he
 ·rename_i s d x ho
  split
  ·rename_i sv hx
   have hx':=he x (by simp[ho,VG]) _ hx;split
   ·rename_i b
    split
    ·rename_i m news ob hsrc
     split
     ·rename_i hb
      intro hob;obtain⟨h0,h1,h2⟩:=hob _ rfl;have hl:news.length=m*1:=by rw[h2,WJ,Nat.mul_one,←h1];rfl
      obtain⟨sp,c,hd,hc⟩:=zh hw hsrc h0 hl (fun j hj r hr'=>hr j r (by simp[ax,ho,hx,hj]) hr');unfold execOp;simp only[ho,hx',hd,VK,FD hb b sp c m news h1 h2 hc,VL,VU];rfl
     ·trivial
    ·exact fz hw he
   ·exact fz hw he
  ·exact fz hw he
 ·rename_i t x lo hi mx ho
  exact IL ho hw he hr
 ·rename_i c ho
  split
  ·exact pX ho he
  ·exact Lf ho he
  ·exact Bh ho he
  ·exact Bh ho he
  ·split
   ·rename_i t x y hap
    have hc:=oI hap;split
    ·rename_i sx sy hx hy
     exact RG ho hc hw (he x (by simp[ho,VG,Call.operands,hc]) _ hx) (he y (by simp[ho,VG,Call.operands,hc]) _ hy)
      (fun i hi r hr'=>hr i r (by subst hi;simp[ax,ho,hc,hx,fw]) hr') (fun j hj r hr'=>hr j r (by simp[ax,ho,hc,hy,hj]) hr')
    ·trivial
   ·exact QS ho hw he (fun i r hi hr'=>hr i r hi hr')
 ·exact fz hw he
end
end Sx
open Go Go.RowKit Go.Lib Go.Sort
namespace Sx
section
variable{P:Program}{o:Oper}{e:Operand→Option SV}{row:Nat→Option Row}{hn:Option Hint}{Q:Nat→Prop}
def oR.On(Q:Nat→Prop):oR→Prop
 |.val sv _=>sv.on Q
 |.alloc _ cs _=>cs.on Q
 |.store i r _=>Q i∧r.cs.on Q
 |.grow kill _ _ _ _ _=>∀i,kill=some i→Q i
 |.dF i r _=>Q i∧r.cs.on Q
 |.eS _ i _=>Q i
 |.ek _ _ (.fI _ i r _)=>Q i∧r.cs.on Q
 |_=>True
theorem GN{P:Program}{r0:oR}{Q:Nat→Prop}:(qC P r0).On Q:=by
 rcases dP (P:=P) (r0:=r0) rfl with h|⟨_,_,_,_,h⟩
 ·rw[h];exact VE
 ·rw[h];intro i hi;cases hi
theorem Lm{P:Program}{e:Operand→Option SV}{t:TypeId}{len:Nat}{parts:List (Nat×Operand)}{Q:Nat→Prop}:(jc P e t len parts).On Q:=by rcases eU (P:=P) (e:=e) (t:=t) (len:=len) (parts:=parts) rfl with h|⟨_,_,_,h⟩<;>rw[h]<;>exact VE
theorem fy{w0:aY}:(bw P w0 hn e o).On Q:=by
 unfold bw;split
 ·exact VE
 ·split
  ·split<;>exact VE
  ·split<;>exact VE
  ·split<;>exact VE
  ·split<;>exact VE
theorem OR{w0:aY}:(cQ P w0 hn e o).On Q:=by
 unfold cQ;split
 ·split
  ·exact VE
  ·split<;>exact VE
 ·exact fy
theorem Gz{t:TypeId}{r:Row}{off:Nat}{v:Value}:(bM P t r off v).On Q:=by
 unfold bM;split
 ·split
  ·split<;>trivial
  ·trivial
 ·trivial
theorem BV{t:TypeId}{r:Row}{i off:Nat}{sv:SV}{cs':List Value}(hi:Q i):(bB P t i r off sv cs').On Q:=by
 unfold bB;split
 ·trivial
 ·split
  ·split
   ·split
    ·exact⟨hi,trivial⟩
    ·exact⟨hi,trivial⟩
    ·trivial
   ·trivial
  ·trivial
theorem NO{t:TypeId}{r:Row}{off:Nat}(h:r.cs.on Q):(cw P t r off).On Q:=by
 unfold cw;split
 ·exact VE
 ·split
  ·split
   ·split
    ·split
     ·exact VE
     ·split<;>exact VE
    ·split
     ·exact VE
     ·split<;>exact VE
    ·rename_i cs hcs
     rw[hcs]at h;split
     ·split
      ·rename_i sv hsv
       exact zB hsv h
      ·exact VE
     ·exact VE
    ·rename_i cs hcs
     rw[hcs]at h;split
     ·split
      ·rename_i sv hsv
       exact zB hsv h
      ·exact VE
     ·exact VE
    ·exact VE
   ·split
    ·split<;>exact VE
    ·split<;>exact VE
    ·rename_i cs hcs
     rw[hcs]at h;split
     ·rename_i v hv
      exact h v (Wd hv)
     ·exact VE
    ·rename_i cs hcs
     rw[hcs]at h;split
     ·rename_i v hv
      exact h v (Wd hv)
     ·exact VE
    ·exact VE
  ·exact VE
theorem CG{t:TypeId}{r:Row}{off:Nat}{v:Value}:(bn P t r off v).On Q:=by
 unfold bn;split
 ·split
  ·split
   ·split
    ·split<;>exact VE
    ·exact VE
   ·exact VE
  ·exact VE
 ·exact VE
theorem IF{t:TypeId}{r:Row}{i off:Nat}{sv:SV}(hi:Q i)(hs:sv.on Q)(h:r.cs.on Q):(cB P t i r off sv).On Q:=by
 unfold cB;split
 ·exact VE
 split
 ·exact VE
 ·split
  ·split
   ·split
    ·exact⟨hi,Fp⟩
    ·split
     ·refine⟨hi,?_⟩
      cases hc:r.cs with
      |ai cs=>exact VE
      |own a b c=>exact VE
      |dead=>exact VE
      |dj g cs=>exact VE
      |cU cs=>
       rw[hc]at h;intro s hs;simp only[Wv,VT]at hs;rcases hs with hs|⟨v,_,rfl⟩ | hs
       ·exact h s (WL hs)
       ·exact VE
       ·exact h s (WM hs)
      |iC g cs=>
       rw[hc]at h;intro s hs;simp only[Wv,VT]at hs;rcases hs with hs|⟨v,_,rfl⟩ | hs
       ·exact h s (WL hs)
       ·exact VE
       ·exact h s (WM hs)
     ·exact VE
   ·exact VE
  ·split
   ·split
    ·refine⟨hi,?_⟩
     cases hc:r.cs with
     |own a b c=>exact VE
     |dead=>exact VE
     |dj g cs=>
      intro s hm;rcases VX hm with hm|rfl
      ·obtain⟨v,_,rfl⟩:=VT.1 hm
       exact VE
      ·exact hs
     |ai cs=>
      intro s hm;rcases VX hm with hm|rfl
      ·obtain⟨v,_,rfl⟩:=VT.1 hm
       exact VE
      ·exact hs
     |cU cs=>
      rw[hc]at h;intro s hm;rcases VX hm with hm|rfl
      ·exact h s hm
      ·exact hs
     |iC g cs=>
      rw[hc]at h;intro s hm;rcases VX hm with hm|rfl
      ·exact h s hm
      ·exact hs
    ·exact VE
   ·split
    ·rename_i l _ _
     split
     ·have hl:∀x∈l.map Atom.sv,x.on Q:=fun x hx=>by
       obtain⟨y,hy,rfl⟩:=VT.1 hx;exact Atom.yZ (hs y hy)
      refine⟨hi,?_⟩;cases hc:r.cs with
      |own a b c=>exact hl
      |dead=>exact hl
      |dj g cs=>exact hl
      |ai cs=>exact hl
      |cU cs=>exact hl
      |iC g cs=>exact hl
     ·exact VE
    ·exact VE
theorem kH{e:Operand→Option SV}:∀{xs:List Operand} {l:List SV},iK e xs=some l→∀sv∈l,∃x∈xs,e x=some sv
 | [],l,h,sv,hm=>by
  have:l=[]:=by simpa[iK]using h.symm
  subst this;cases hm
 |x::r,l,h,sv,hm=>by
  unfold iK at h;split at h
  ·rename_i sv' l' hx hr
   cases h;rcases Wh.1 hm with rfl|hm
   ·exact⟨x,by simp,hx⟩
   ·obtain⟨y,hy,hey⟩:=kH hr sv hm
    exact⟨y,by simp[hy],hey⟩
  ·cases h
theorem im{c:Call}{r r':jy}{f:FuncId}{args:List SV}(h:bu P e c r=.dc f args r'):∀sv∈args,∃x∈c.args.toList,e x=some sv:=by
 unfold bu at h;split at h
 ·split at h
  ·split at h
   ·split at h
    ·rename_i lv hlv
     injection h with h1 h2 h3;intro sv hsv;rw[←h2]at hsv;exact kH hlv sv hsv
    ·cases h
   ·cases h
  ·cases h
 ·cases h
theorem Bg{c:Call}{hh:Hint}(ho:o.op=.call c)(he:∀x∈o.op.operands,∀sv,e x=some sv→sv.on Q):(ft P e row c hh).On Q:=by
 unfold ft;split
 ·rename_i p cs v
  split
  ·rename_i f args r' hr
   split
   ·rename_i i hp
    split
    ·split
     ·split
      ·refine⟨?_,Fp⟩
       obtain⟨x,hx,hex⟩:=im hr (.ptr i 0) (Wd hp);exact he x (by
        obtain⟨callee,args,ats⟩:=c;have hx':x∈args:=by simpa using hx
        simp only[ho,VG,Call.operands];cases callee<;>simp[hx']) _ hex
      ·exact VE
     ·exact VE
    ·exact VE
   ·exact VE
  ·exact VE
 ·split<;>exact VE
 ·exact VE
theorem PD{w0:aY}{H:List (Nat×Hint)}(he:∀x∈o.op.operands,∀sv,e x=some sv→sv.on Q)(hr:∀i r,i∈ax e o→row i=some r→r.cs.on Q):(eM P w0 H hn e row o).On Q:=by
 have move:∀x,(o.op=.move x∨o.op=.assign x)→(da P w0 hn e o x).On Q:=by
  intro x ho;unfold da;split
  ·rename_i sv hsv
   split
   ·exact he x (by rcases ho with ho|ho<;>simp[ho,VG]) _ hsv
   ·split
    ·intro i hi;cases hi
    ·exact he x (by rcases ho with ho|ho<;>simp[ho,VG]) _ hsv
   ·exact fy
  ·exact VE
 unfold eM;split
 ·rename_i x ho;exact move x (.inl ho)
 ·rename_i x ho;exact move x (.inr ho)
 ·rename_i x ho
  split
  ·rename_i i off hx
   exact he x (by simp[ho,VG]) _ hx
  ·exact fy
 ·split
  ·split<;>exact VE
  ·exact VE
 ·rename_i t x ho
  split
  ·exact VE
  ·rename_i l hx
   intro s hs;obtain⟨y,hy,rfl⟩:=VT.1 hs;exact Atom.yZ (he x (by simp[ho,VG]) _ hx y hy)
  ·rename_i sv hnv _ hx
   split
   ·intro s hs
    rw[Wg]at hs;subst hs;exact he x (by simp[ho,VG]) _ hx
   ·exact VE
  ·exact VE
 ·rename_i t x ho
  split
  ·rename_i i off hx
   split
   ·rename_i r hrow
    split
    ·exact Gz
    ·exact NO (hr i r (by simp[ax,ho,hx,fw]) hrow)
   ·exact VE
  ·split
   ·split
    ·exact CG
    ·exact VE
   ·exact VE
  ·split
   ·exact fy
   ·exact VE
 ·rename_i t x y ho
  split
  ·rename_i i off hx
   split
   ·rename_i sv hy
    split
    ·rename_i r hrow
     split
     ·exact BV (he x (by simp[ho,VG]) _ hx)
     ·exact IF (he x (by simp[ho,VG]) _ hx) (he y (by simp[ho,VG]) _ hy) (hr i r (by simp[ax,ho,hx,fw]) hrow)
    ·exact VE
   ·exact VE
  ·rename_i i off hx
   split
   ·split
    ·unfold bh
     repeat' split
     all_goals first|exact VE|exact⟨he x (by simp[ho,VG]) _ hx,VE⟩
    ·exact VE
   ·exact VE
  ·exact VE
 ·rename_i x k ho
  split
  ·rename_i l i r hx
   split
   ·exact he x (by simp[ho,VG]) _ hx
   ·split
    ·exact VE
    ·split
     ·split<;>exact VE
     ·exact VE
  ·exact fy
 ·split
  ·exact GN
  ·split
   ·split
    ·split
     ·split
      ·split
       ·split<;>exact VE
       ·exact VE
      ·exact VE
     ·exact VE
    ·exact VE
   ·exact Lm
 ·rename_i s x f ho
  split
  ·rename_i i off hx
   split
   ·split
    ·split
     ·exact he x (by simp[ho,VG]) _ hx
     ·exact VE
    ·exact VE
   ·exact VE
  ·rename_i i off hx
   repeat' split
   all_goals first|exact VE|exact he x (by simp[ho,VG]) _ hx
  ·exact fy
 ·rename_i t x ix ho
  split
  ·rename_i i off hx
   split
   ·split
    ·split
     ·split
      ·exact he x (by simp[ho,VG]) _ hx
      ·split
       ·exact he x (by simp[ho,VG]) _ hx
       ·exact VE
     ·exact VE
    ·exact VE
   ·exact VE
  ·rename_i i hx
   split
   ·split
    ·split
     ·split
      ·split
       ·split
        ·exact he x (by simp[ho,VG]) _ hx
        ·exact VE
       ·exact VE
      ·exact VE
     ·exact VE
    ·exact VE
   ·exact VE
  ·exact fy
 ·split
  ·split
   ·split
    ·split<;>exact VE
    ·exact fy
   ·exact fy
  ·exact fy
 ·rename_i t x lo hi mx ho
  unfold cC;split
  ·rename_i i hx
   split
   ·unfold iY
    repeat' split
    all_goals first|exact VE|exact he x (by simp[ho,VG]) _ hx
   ·exact VE
  ·exact fy
 ·rename_i c ho
  split
  ·unfold bu
   repeat' split
   all_goals exact VE
  ·rename_i r
   unfold cM;repeat' split
   all_goals first|exact VE|skip
   rename_i rr args j hr b hsl;have ht:=im hr _ (Wg.2 rfl);obtain⟨x,hx,hex⟩:=ht;exact he x (by
    obtain⟨callee,args,ats⟩:=c;have hx':x∈args:=by simpa using hx
    simp only[ho,VG,Call.operands];cases callee<;>simp[hx']) _ hex
  ·exact Bg ho he
  ·exact Bg ho he
  ·split
   ·rename_i t x y hap
    have hc:=oI hap;split
    ·rename_i sx sy hx hy
     have go:∀{kill:Option Nat} {el size n:Nat} {xs:List Value},(∀i,kill=some i→Q i)→(jx P w0 row hn t kill el size n xs sy).On Q:=by
      intro kill el size n xs hk;unfold jx;repeat' split
      all_goals first|exact VE|exact hk
     unfold eY;split
     ·split
      ·split
       ·refine go fun i hi=>?_
        cases hi;exact he x (by simp[ho,VG,Call.operands,hc]) _ hx
       ·exact VE
      ·exact VE
     ·split
      ·exact go fun i hi=>by cases hi
      ·exact VE
     ·exact VE
    ·exact VE
   ·unfold ew
    repeat' split
    all_goals first|exact VE|exact OR
 ·exact fy
theorem lL{w0:aY}{H:List (Nat×Hint)}{i:Nat}{r':Row}{ob:Option Prop}(h:eM P w0 H hn e row o=.store i r' ob):i∈ax e o∧r'.fixed=true∧∃r,row i=some r∧r.fixed=true∧r'.cs.tag=r.cs.tag:=by
 have hp:∀(hn:Option Hint),bw P w0 hn e o≠.store i r' ob:=by
  intro hn h;unfold bw at h;repeat' (split at h)
  all_goals (cases h)
 have hc:cQ P w0 hn e o≠.store i r' ob:=by
  intro h;unfold cQ at h;repeat' (split at h)
  all_goals first | (cases h;done)|exact hp _ h
 have hmv:∀x,da P w0 hn e o x≠.store i r' ob:=by
  intro x h;unfold da at h;repeat' (split at h)
  all_goals first | (cases h;done)|exact hp _ h
 have hco:∀c r,bu P e c r≠.store i r' ob:=by
  intro c r h;unfold bu at h;repeat' (split at h)
  all_goals (cases h)
 have hap:∀t x y,eY P w0 row hn t x y≠.store i r' ob:=by
  intro t x y h;unfold eY jx at h;repeat' (split at h)
  all_goals (cases h)
 have hck:∀c r,cM P e c r≠.store i r' ob:=by
  intro c r h;unfold cM at h;repeat' (split at h)
  all_goals (cases h)
 have hso:∀t' j r off sv,bh P t' j r off sv≠.store i r' ob:=by
  intro t' j r off sv h;unfold bh at h;repeat' (split at h)
  all_goals (cases h)
 have hsl:∀t' x lo hi mx,cC P w0 hn e row o t' x lo hi mx≠.store i r' ob:=by
  intro t' x lo hi mx h;unfold cC iY at h;repeat' (split at h)
  all_goals first | (cases h;done)|exact hp _ h
 have hln:∀c,ew P w0 hn e row o c≠.store i r' ob:=by
  intro c h;unfold ew at h;repeat' (split at h)
  all_goals first | (cases h;done)|exact hc h
 have hl:∀t r off,cw P t r off≠.store i r' ob:=by
  intro t r off h;unfold cw at h;repeat' (split at h)
  all_goals (cases h)
 have hl2:∀t r off v,bM P t r off v≠.store i r' ob:=by
  intro t r off v h;unfold bM at h;repeat' (split at h)
  all_goals (cases h)
 have hl3:∀t r off v,bn P t r off v≠.store i r' ob:=by
  intro t r off v h;unfold bn at h;repeat' (split at h)
  all_goals (cases h)
 unfold eM at h;split at h
 ·exact absurd h (hmv _)
 ·exact absurd h (hmv _)
 ·repeat' (split at h)
  all_goals first | (cases h;done)|exact absurd h (hp _) | (rcases dP h with h|⟨_,_,_,_,h⟩<;>(cases h;done)) | (rcases eU h with h|⟨_,_,_,h⟩<;>(cases h;done))
 ·repeat' (split at h)
  all_goals (cases h)
 ·repeat' (split at h)
  all_goals (cases h)
 ·repeat' (split at h)
  all_goals first | (cases h;done)|exact absurd h (hl _ _ _)|exact absurd h (hl2 _ _ _ _)|exact absurd h (hl3 _ _ _ _)|exact absurd h (hp _)
 ·rename_i t x y ho
  split at h
  ·rename_i j off hx
   split at h
   ·split at h
    ·rename_i r hrow
     have:j=i∧r'.fixed=true∧r.fixed=true∧r'.cs.tag=r.cs.tag:=by
      split at h
      ·unfold bB at h
       split at h
       ·cases h
       ·split at h
        ·split at h
         ·split at h
          ·rename_i hcs
           injection h with h1 h2;subst h2;exact⟨h1,rfl,by unfold Row.fixed;rw[hcs],by rw[hcs];rfl⟩
          ·rename_i hcs
           injection h with h1 h2;subst h2;exact⟨h1,rfl,by unfold Row.fixed;rw[hcs],by rw[hcs];rfl⟩
          ·cases h
         ·cases h
        ·cases h
      ·unfold cB at h
       split at h
       ·cases h
       ·rename_i hf
        unfold Row.fixed at hf;cases hcr:r.cs with
        |own a b c=>rw[hcr]at hf;cases hf
        |dead=>rw[hcr]at hf;cases hf
        |ai cs=>
         simp only[hcr]at h;repeat' (split at h)
         all_goals first
          | (cases h;done)
          | (injection h with h1 h2;subst h2;exact⟨h1,rfl,by unfold Row.fixed;rw[hcr],by first|rfl | (rw[hcr];rfl)⟩)
        |cU cs=>
         simp only[hcr]at h;repeat' (split at h)
         all_goals first
          | (cases h;done)
          | (injection h with h1 h2;subst h2;exact⟨h1,rfl,by unfold Row.fixed;rw[hcr],by first|rfl | (rw[hcr];rfl)⟩)
        |dj g cs=>
         simp only[hcr]at h;repeat' (split at h)
         all_goals first
          | (cases h;done)
          | (injection h with h1 h2;subst h2;exact⟨h1,rfl,by unfold Row.fixed;rw[hcr],by first|rfl | (rw[hcr];rfl)⟩)
        |iC g cs=>
         simp only[hcr]at h;repeat' (split at h)
         all_goals first
          | (cases h;done)
          | (injection h with h1 h2;subst h2;exact⟨h1,rfl,by unfold Row.fixed;rw[hcr],by first|rfl | (rw[hcr];rfl)⟩)
     obtain⟨rfl,h1,h2,h3⟩:=this;exact⟨by simp[ax,ho,hx,fw],h1,r,hrow,h2,h3⟩
    ·cases h
   ·cases h
  ·split at h
   ·split at h
    ·exact absurd h (hso _ _ _ _ _)
    ·cases h
   ·cases h
  ·cases h
 ·repeat' (split at h)
  all_goals first | (cases h;done)|exact absurd h (hp _) | (rcases dP h with h|⟨_,_,_,_,h⟩<;>(cases h;done)) | (rcases eU h with h|⟨_,_,_,h⟩<;>(cases h;done))
 ·repeat' (split at h)
  all_goals first | (cases h;done)|exact absurd h (hp _) | (rcases dP h with h|⟨_,_,_,_,h⟩<;>(cases h;done)) | (rcases eU h with h|⟨_,_,_,h⟩<;>(cases h;done))
 ·repeat' (split at h)
  all_goals first | (cases h;done)|exact absurd h (hp _)
 ·repeat' (split at h)
  all_goals first | (cases h;done)|exact absurd h (hp _) | (rcases dP h with h|⟨_,_,_,_,h⟩<;>(cases h;done)) | (rcases eU h with h|⟨_,_,_,h⟩<;>(cases h;done))
 ·repeat' (split at h)
  all_goals first | (cases h;done)|exact absurd h (hp _)
 ·exact absurd h (hsl _ _ _ _ _)
 ·repeat' (split at h)
  all_goals first | (cases h;done)|exact absurd h (hco _ _)|exact absurd h (hck _ _) | (rcases dC h with h|⟨_,_,_,h⟩<;>(cases h;done))|exact absurd h (hap _ _ _)|exact absurd h (hln _)
 ·exact absurd h (hp _)
theorem rC{w0:aY}{H:List (Nat×Hint)}{t:TypeId}{cs:Cells}{ln:Option Nat}(h:eM P w0 H hn e row o=.alloc t cs ln):(⟨t,cs⟩:Row).fixed=true∧cs.tag=none:=by
 have hp:∀(hn:Option Hint),bw P w0 hn e o≠.alloc t cs ln:=by
  intro hn h;unfold bw at h;repeat' (split at h)
  all_goals (cases h)
 have hc:cQ P w0 hn e o≠.alloc t cs ln:=by
  intro h;unfold cQ at h;repeat' (split at h)
  all_goals first | (cases h;done)|exact hp _ h
 have hmv:∀x,da P w0 hn e o x≠.alloc t cs ln:=by
  intro x h;unfold da at h;repeat' (split at h)
  all_goals first | (cases h;done)|exact hp _ h
 have hco:∀c r,bu P e c r≠.alloc t cs ln:=by
  intro c r h;unfold bu at h;repeat' (split at h)
  all_goals (cases h)
 have hap:∀t' x y,eY P w0 row hn t' x y≠.alloc t cs ln:=by
  intro t x y h;unfold eY jx at h;repeat' (split at h)
  all_goals (cases h)
 have hck:∀c r,cM P e c r≠.alloc t cs ln:=by
  intro c r h;unfold cM at h;repeat' (split at h)
  all_goals (cases h)
 have hso:∀t' j r off sv,bh P t' j r off sv≠.alloc t cs ln:=by
  intro t' j r off sv h;unfold bh at h;repeat' (split at h)
  all_goals (cases h)
 have hsl:∀t' x lo hi mx,cC P w0 hn e row o t' x lo hi mx≠.alloc t cs ln:=by
  intro t' x lo hi mx h;unfold cC iY at h;repeat' (split at h)
  all_goals first | (cases h;done)|exact hp _ h
 have hln:∀c,ew P w0 hn e row o c≠.alloc t cs ln:=by
  intro c h;unfold ew at h;repeat' (split at h)
  all_goals first | (cases h;done)|exact hc h
 have hl:∀t' r off,cw P t' r off≠.alloc t cs ln:=by
  intro t r off h;unfold cw at h;repeat' (split at h)
  all_goals (cases h)
 have hl2:∀t' r off v,bM P t' r off v≠.alloc t cs ln:=by
  intro t r off v h;unfold bM at h;repeat' (split at h)
  all_goals (cases h)
 have hl3:∀t' r off v,bn P t' r off v≠.alloc t cs ln:=by
  intro t r off v h;unfold bn at h;repeat' (split at h)
  all_goals (cases h)
 have hs1:∀t' i r off sv,cB P t' i r off sv≠.alloc t cs ln:=by
  intro t i r off sv h;unfold cB at h;repeat' (split at h)
  all_goals (cases h)
 have hs2:∀t' i r off sv c,bB P t' i r off sv c≠.alloc t cs ln:=by
  intro t i r off sv c h;unfold bB at h;repeat' (split at h)
  all_goals (cases h)
 unfold eM at h;split at h;all_goals repeat' (split at h)
 all_goals first
  | (cases h;done)
  | (injection h with h1 h2;subst h2;exact⟨rfl,rfl⟩)
  |exact absurd h (hp _)
  |exact absurd h (hmv _)
  |exact absurd h (hsl _ _ _ _ _)
  |exact absurd h (hso _ _ _ _ _)
  |exact absurd h (hco _ _)
  |exact absurd h (hck _ _)
  | (rcases dC h with h|⟨_,_,_,h⟩<;>(cases h;done))
  |exact absurd h (hap _ _ _)
  |exact absurd h (hln _)
  |exact absurd h (hl _ _ _)
  |exact absurd h (hl2 _ _ _ _)
  |exact absurd h (hl3 _ _ _ _)
  |exact absurd h (hs1 _ _ _ _ _)
  |exact absurd h (hs2 _ _ _ _ _ _)
  | (rcases dP h with h|⟨_,_,_,_,h⟩<;>(cases h;done))
  | (rcases eU h with h|⟨_,_,_,h⟩<;>first | (cases h;done) | (injection h with h1 h2;subst h2;exact⟨rfl,rfl⟩))
theorem oC{w0:aY}{H:List (Nat×Hint)}{i t size n:Nat}{xs:List Value}{ob:Option Prop}(h:eM P w0 H hn e row o=.grow (some i) t size n xs ob):i∈ax e o∧∃r,row i=some r∧∃s m ys,r.cs=.own s m ys:=by
 have hp:∀(hn:Option Hint),bw P w0 hn e o≠.grow (some i) t size n xs ob:=by
  intro hn h;unfold bw at h;repeat' (split at h)
  all_goals (cases h)
 have hc:cQ P w0 hn e o≠.grow (some i) t size n xs ob:=by
  intro h;unfold cQ at h;repeat' (split at h)
  all_goals first | (cases h;done)|exact hp _ h
 have hmv:∀x,da P w0 hn e o x≠.grow (some i) t size n xs ob:=by
  intro x h;unfold da at h;repeat' (split at h)
  all_goals first | (cases h;done)|exact hp _ h
 have hco:∀c r,bu P e c r≠.grow (some i) t size n xs ob:=by
  intro c r h;unfold bu at h;repeat' (split at h)
  all_goals (cases h)
 have hck:∀c r,cM P e c r≠.grow (some i) t size n xs ob:=by
  intro c r h;unfold cM at h;repeat' (split at h)
  all_goals (cases h)
 have hso:∀t' j r off sv,bh P t' j r off sv≠.grow (some i) t size n xs ob:=by
  intro t' j r off sv h;unfold bh at h;repeat' (split at h)
  all_goals (cases h)
 have hsl:∀t' x lo hi mx,cC P w0 hn e row o t' x lo hi mx≠.grow (some i) t size n xs ob:=by
  intro t' x lo hi mx h;unfold cC iY at h;repeat' (split at h)
  all_goals first | (cases h;done)|exact hp _ h
 have hln:∀c,ew P w0 hn e row o c≠.grow (some i) t size n xs ob:=by
  intro c h;unfold ew at h;repeat' (split at h)
  all_goals first | (cases h;done)|exact hc h
 have hl:∀t' r off,cw P t' r off≠.grow (some i) t size n xs ob:=by
  intro t r off h;unfold cw at h;repeat' (split at h)
  all_goals (cases h)
 have hl2:∀t' r off v,bM P t' r off v≠.grow (some i) t size n xs ob:=by
  intro t r off v h;unfold bM at h;repeat' (split at h)
  all_goals (cases h)
 have hl3:∀t' r off v,bn P t' r off v≠.grow (some i) t size n xs ob:=by
  intro t r off v h;unfold bn at h;repeat' (split at h)
  all_goals (cases h)
 have hs1:∀t' j r off sv,cB P t' j r off sv≠.grow (some i) t size n xs ob:=by
  intro t j r off sv h;unfold cB at h;repeat' (split at h)
  all_goals (cases h)
 have hs2:∀t' j r off sv c,bB P t' j r off sv c≠.grow (some i) t size n xs ob:=by
  intro t j r off sv c h;unfold bB at h;repeat' (split at h)
  all_goals (cases h)
 have hgo:∀{t':TypeId} {kill:Option Nat} {el sz m:Nat} {ys:List Value} {y:SV},jx P w0 row hn t' kill el sz m ys y=.grow (some i) t size n xs ob→kill=some i:=by
  intro t' kill el sz m ys y h;unfold jx at h;repeat' (split at h)
  all_goals first | (cases h;done) | (injection h)
 unfold eM at h;split at h;all_goals try (repeat' (split at h));done
 all_goals first
  | (
    rename_i c ho;split at h
    ·exact absurd h (hco _ _)
    ·exact absurd h (hck _ _)
    ·rcases dC h with h|⟨_,_,_,h⟩<;>(cases h;done)
    ·rcases dC h with h|⟨_,_,_,h⟩<;>(cases h;done)
    ·split at h
     ·rename_i t' x y hap
      have hc':=oI hap;split at h
      ·rename_i sx sy hx hy
       unfold eY at h;split at h
       ·rename_i j
        split at h
        ·rename_i r hrow
         split at h
         ·rename_i s m ys hcs
          have hj:=hgo h;injection hj with hj;subst hj;exact⟨by simp[ax,ho,hc',hx,fw],r,hrow,s,m,ys,hcs⟩
         ·cases h
        ·cases h
       ·split at h
        ·have:=hgo h;cases this
        ·cases h
       ·cases h
      ·cases h
     ·exact absurd h (hln _))
  | (
    exfalso;repeat' (split at h)
    all_goals first
     | (cases h;done)
     |exact absurd h (hp _)
     |exact absurd h (hsl _ _ _ _ _)
     |exact absurd h (hso _ _ _ _ _)
     |exact absurd h (hmv _)
     | (rcases dP h with h|⟨_,_,_,_,h⟩<;>(cases h;done)) | (rcases eU h with h|⟨_,_,_,h⟩<;>(cases h;done))
     |exact absurd h (hl _ _ _)
     |exact absurd h (hl2 _ _ _ _)
     |exact absurd h (hl3 _ _ _ _)
     |exact absurd h (hs1 _ _ _ _ _)
     |exact absurd h (hs2 _ _ _ _ _ _))
theorem kI{w0:aY}{H:List (Nat×Hint)}{i:Nat}{r':Row}{ob:Option Prop}(h:eM P w0 H hn e row o=.dF i r' ob):i∈ax e o∧∃r,row i=some r∧∀β:Env,av β i r'=av β i r:=by
 have hp:∀(hn:Option Hint),bw P w0 hn e o≠.dF i r' ob:=by
  intro hn h;unfold bw at h;repeat' (split at h)
  all_goals (cases h)
 have hc:cQ P w0 hn e o≠.dF i r' ob:=by
  intro h;unfold cQ at h;repeat' (split at h)
  all_goals first | (cases h;done)|exact hp _ h
 have hmv:∀x,da P w0 hn e o x≠.dF i r' ob:=by
  intro x h;unfold da at h;repeat' (split at h)
  all_goals first | (cases h;done)|exact hp _ h
 have hco:∀c r,bu P e c r≠.dF i r' ob:=by
  intro c r h;unfold bu at h;repeat' (split at h)
  all_goals (cases h)
 have hap:∀t' x y,eY P w0 row hn t' x y≠.dF i r' ob:=by
  intro t x y h;unfold eY jx at h;repeat' (split at h)
  all_goals (cases h)
 have hck:∀c r,cM P e c r≠.dF i r' ob:=by
  intro c r h;unfold cM at h;repeat' (split at h)
  all_goals (cases h)
 have hsl:∀t' x lo hi mx,cC P w0 hn e row o t' x lo hi mx≠.dF i r' ob:=by
  intro t' x lo hi mx h;unfold cC iY at h;repeat' (split at h)
  all_goals first | (cases h;done)|exact hp _ h
 have hln:∀c,ew P w0 hn e row o c≠.dF i r' ob:=by
  intro c h;unfold ew at h;repeat' (split at h)
  all_goals first | (cases h;done)|exact hc h
 have hl:∀t' r off,cw P t' r off≠.dF i r' ob:=by
  intro t r off h;unfold cw at h;repeat' (split at h)
  all_goals (cases h)
 have hl2:∀t' r off v,bM P t' r off v≠.dF i r' ob:=by
  intro t r off v h;unfold bM at h;repeat' (split at h)
  all_goals (cases h)
 have hl3:∀t' r off v,bn P t' r off v≠.dF i r' ob:=by
  intro t r off v h;unfold bn at h;repeat' (split at h)
  all_goals (cases h)
 have hs1:∀t' j r off sv,cB P t' j r off sv≠.dF i r' ob:=by
  intro t j r off sv h;unfold cB at h;repeat' (split at h)
  all_goals (cases h)
 have hs2:∀t' j r off sv c,bB P t' j r off sv c≠.dF i r' ob:=by
  intro t j r off sv c h;unfold bB at h;repeat' (split at h)
  all_goals (cases h)
 unfold eM at h;split at h
 all_goals first
  | (
    rename_i t x y ho;split at h
    ·rename_i j off hx
     exfalso;split at h
     ·split at h
      ·split at h
       ·exact hs2 _ _ _ _ _ _ h
       ·exact hs1 _ _ _ _ _ h
      ·cases h
     ·cases h
    ·rename_i j off hx
     split at h
     ·split at h
      ·rename_i r hrow
       unfold bh at h;split at h
       ·rename_i size n xs hcs
        split at h
        ·split at h
         ·split at h
          ·injection h with h1 h2
           subst h1;subst h2;exact⟨by simp[ax,ho,hx,fw],r,hrow,fun β=>by unfold av;rw[hcs]⟩
          ·cases h
         ·cases h
        ·cases h
       ·cases h
      ·cases h
     ·cases h
    ·cases h)
  | (
    exfalso;repeat' (split at h)
    all_goals first
     | (cases h;done)
     |exact absurd h (hp _)
     |exact absurd h (hmv _)
     | (rcases dP h with h|⟨_,_,_,_,h⟩<;>(cases h;done)) | (rcases eU h with h|⟨_,_,_,h⟩<;>(cases h;done))
     |exact absurd h (hco _ _)
     |exact absurd h (hck _ _)
     | (rcases dC h with h|⟨_,_,_,h⟩<;>(cases h;done))
     |exact absurd h (hap _ _ _)
     |exact absurd h (hln _)
     |exact absurd h (hsl _ _ _ _ _)
     |exact absurd h (hl _ _ _)
     |exact absurd h (hl2 _ _ _ _)
     |exact absurd h (hl3 _ _ _ _))
theorem Bi{w0:aY}{H:List (Nat×Hint)}{f:FuncId}{args:List SV}{r:jy}(h:eM P w0 H hn e row o=.dc f args r):∀i sv,sv∈args→i∈fw (some sv)→i∈ax e o:=by
 have hp:∀(hn:Option Hint),bw P w0 hn e o≠.dc f args r:=by
  intro hn h;unfold bw at h;repeat' (split at h)
  all_goals (cases h)
 have hc:cQ P w0 hn e o≠.dc f args r:=by
  intro h;unfold cQ at h;repeat' (split at h)
  all_goals first | (cases h;done)|exact hp _ h
 have hmv:∀x,da P w0 hn e o x≠.dc f args r:=by
  intro x h;unfold da at h;repeat' (split at h)
  all_goals first | (cases h;done)|exact hp _ h
 have hap:∀t' x y,eY P w0 row hn t' x y≠.dc f args r:=by
  intro t x y h;unfold eY jx at h;repeat' (split at h)
  all_goals (cases h)
 have hck:∀c r',cM P e c r'≠.dc f args r:=by
  intro c r' h;unfold cM at h;repeat' (split at h)
  all_goals (cases h)
 have hso:∀t' j r' off sv,bh P t' j r' off sv≠.dc f args r:=by
  intro t' j r' off sv h;unfold bh at h;repeat' (split at h)
  all_goals (cases h)
 have hsl:∀t' x lo hi mx,cC P w0 hn e row o t' x lo hi mx≠.dc f args r:=by
  intro t' x lo hi mx h;unfold cC iY at h;repeat' (split at h)
  all_goals first | (cases h;done)|exact hp _ h
 have hln:∀c,ew P w0 hn e row o c≠.dc f args r:=by
  intro c h;unfold ew at h;repeat' (split at h)
  all_goals first | (cases h;done)|exact hc h
 have hl:∀t' r' off,cw P t' r' off≠.dc f args r:=by
  intro t r off h;unfold cw at h;repeat' (split at h)
  all_goals (cases h)
 have hl2:∀t' r' off v,bM P t' r' off v≠.dc f args r:=by
  intro t r off v h;unfold bM at h;repeat' (split at h)
  all_goals (cases h)
 have hl3:∀t' r' off v,bn P t' r' off v≠.dc f args r:=by
  intro t r off v h;unfold bn at h;repeat' (split at h)
  all_goals (cases h)
 have hs1:∀t' j r' off sv,cB P t' j r' off sv≠.dc f args r:=by
  intro t j r off sv h;unfold cB at h;repeat' (split at h)
  all_goals (cases h)
 have hs2:∀t' j r' off sv c,bB P t' j r' off sv c≠.dc f args r:=by
  intro t j r off sv c h;unfold bB at h;repeat' (split at h)
  all_goals (cases h)
 unfold eM at h;split at h
 all_goals first
  | (
    exfalso;repeat' (split at h)
    all_goals first
     | (cases h;done)
     |exact absurd h (hp _)
     |exact absurd h (hsl _ _ _ _ _)
     |exact absurd h (hso _ _ _ _ _)
     |exact absurd h (hmv _)
     | (rcases dP h with h|⟨_,_,_,_,h⟩<;>(cases h;done)) | (rcases eU h with h|⟨_,_,_,h⟩<;>(cases h;done))
     |exact absurd h (hl _ _ _)
     |exact absurd h (hl2 _ _ _ _)
     |exact absurd h (hl3 _ _ _ _)
     |exact absurd h (hs1 _ _ _ _ _)
     |exact absurd h (hs2 _ _ _ _ _ _))
  |skip
 rename_i c ho;split at h
 ·unfold bu at h
  split at h
  ·split at h
   ·split at h
    ·split at h
     ·rename_i lv hlv
      injection h with h1 h2 h3;intro i sv hi hat;rw[←h2]at hi;obtain⟨x,hx,hex⟩:=kH hlv _ hi;simp only[ax,ho,WV];exact⟨x,hx,by rw[hex];exact hat⟩
     ·cases h
    ·cases h
   ·cases h
  ·cases h
 ·exact absurd h (hck _ _)
 ·rcases dC h with h|⟨_,_,_,h⟩<;>(cases h;done)
 ·rcases dC h with h|⟨_,_,_,h⟩<;>(cases h;done)
 ·exfalso
  split at h
  ·split at h
   ·exact hap _ _ _ h
   ·cases h
  ·exact hln _ h
theorem rB{w0:aY}{H:List (Nat×Hint)}{f:FuncId}{i:Nat}{r:jy}(h:eM P w0 H hn e row o=.eS f i r):i∈ax e o∧isSlice r=true:=by
 have hp:∀(hn:Option Hint),bw P w0 hn e o≠.eS f i r:=by
  intro hn h;unfold bw at h;repeat' (split at h)
  all_goals (cases h)
 have hc:cQ P w0 hn e o≠.eS f i r:=by
  intro h;unfold cQ at h;repeat' (split at h)
  all_goals first | (cases h;done)|exact hp _ h
 have hmv:∀x,da P w0 hn e o x≠.eS f i r:=by
  intro x h;unfold da at h;repeat' (split at h)
  all_goals first | (cases h;done)|exact hp _ h
 have hap:∀t' x y,eY P w0 row hn t' x y≠.eS f i r:=by
  intro t x y h;unfold eY jx at h;repeat' (split at h)
  all_goals (cases h)
 have hco:∀c r',bu P e c r'≠.eS f i r:=by
  intro c r' h;unfold bu at h;repeat' (split at h)
  all_goals (cases h)
 have hso:∀t' j r' off sv,bh P t' j r' off sv≠.eS f i r:=by
  intro t' j r' off sv h;unfold bh at h;repeat' (split at h)
  all_goals (cases h)
 have hsl:∀t' x lo hi mx,cC P w0 hn e row o t' x lo hi mx≠.eS f i r:=by
  intro t' x lo hi mx h;unfold cC iY at h;repeat' (split at h)
  all_goals first | (cases h;done)|exact hp _ h
 have hln:∀c,ew P w0 hn e row o c≠.eS f i r:=by
  intro c h;unfold ew at h;repeat' (split at h)
  all_goals first | (cases h;done)|exact hc h
 have hl:∀t' r' off,cw P t' r' off≠.eS f i r:=by
  intro t r off h;unfold cw at h;repeat' (split at h)
  all_goals (cases h)
 have hl2:∀t' r' off v,bM P t' r' off v≠.eS f i r:=by
  intro t r off v h;unfold bM at h;repeat' (split at h)
  all_goals (cases h)
 have hl3:∀t' r' off v,bn P t' r' off v≠.eS f i r:=by
  intro t r off v h;unfold bn at h;repeat' (split at h)
  all_goals (cases h)
 have hs1:∀t' j r' off sv,cB P t' j r' off sv≠.eS f i r:=by
  intro t j r off sv h;unfold cB at h;repeat' (split at h)
  all_goals (cases h)
 have hs2:∀t' j r' off sv c,bB P t' j r' off sv c≠.eS f i r:=by
  intro t j r off sv c h;unfold bB at h;repeat' (split at h)
  all_goals (cases h)
 unfold eM at h;split at h
 all_goals first
  | (
    exfalso;repeat' (split at h)
    all_goals first
     | (cases h;done)
     |exact absurd h (hp _)
     |exact absurd h (hsl _ _ _ _ _)
     |exact absurd h (hso _ _ _ _ _)
     |exact absurd h (hmv _)
     | (rcases dP h with h|⟨_,_,_,_,h⟩<;>(cases h;done)) | (rcases eU h with h|⟨_,_,_,h⟩<;>(cases h;done))
     |exact absurd h (hl _ _ _)
     |exact absurd h (hl2 _ _ _ _)
     |exact absurd h (hl3 _ _ _ _)
     |exact absurd h (hs1 _ _ _ _ _)
     |exact absurd h (hs2 _ _ _ _ _ _))
  |skip
 rename_i c ho;split at h
 ·exact absurd h (hco _ _)
 ·unfold cM at h
  split at h
  ·rename_i f' args r' hr
   split at h
   ·split at h
    ·rename_i hs
     injection h with h1 h2 h3;subst h2;subst h3;obtain⟨x,hx,hex⟩:=im hr _ (Wg.2 rfl);refine⟨?_,hs⟩;simp only[ax,ho,WV];exact⟨x,hx,by rw[hex];simp[fw]⟩
    ·cases h
   ·cases h
  ·cases h
 ·rcases dC h with h|⟨_,_,_,h⟩<;>(cases h;done)
 ·rcases dC h with h|⟨_,_,_,h⟩<;>(cases h;done)
 ·exfalso
  split at h
  ·split at h
   ·exact hap _ _ _ h
   ·cases h
  ·exact hln _ h
theorem oG{w0:aY}{H:List (Nat×Hint)}{f:FuncId}{args:List SV}{x:XK}(h:eM P w0 H hn e row o=.ek f args x):(∀i sv,sv∈args→i∈fw (some sv)→i∈ax e o)∧
  (∀p i r v,x=.fI p i r v→args[p]?=some (.ptr i 0)∧i∈ax e o∧∃r0,row i=some r0∧r.ty=r0.ty∧r0.fixed=true∧r.fixed=true∧r.cs.tag=r0.cs.tag)∧
  ∀ps,x=.El ps→∀q∈ps,args[q.1]?=some (.ptr q.2 0)∧∃r,row q.2=some r∧r.fixed=true:=by
 have hp:∀(hn:Option Hint),bw P w0 hn e o≠.ek f args x:=by
  intro hn h;unfold bw at h;repeat' (split at h)
  all_goals (cases h)
 have hc:cQ P w0 hn e o≠.ek f args x:=by
  intro h;unfold cQ at h;repeat' (split at h)
  all_goals first | (cases h;done)|exact hp _ h
 have hmv:∀y,da P w0 hn e o y≠.ek f args x:=by
  intro x h;unfold da at h;repeat' (split at h)
  all_goals first | (cases h;done)|exact hp _ h
 have hap:∀t' y z,eY P w0 row hn t' y z≠.ek f args x:=by
  intro t x y h;unfold eY jx at h;repeat' (split at h)
  all_goals (cases h)
 have hco:∀c r',bu P e c r'≠.ek f args x:=by
  intro c r' h;unfold bu at h;repeat' (split at h)
  all_goals (cases h)
 have hck:∀c r',cM P e c r'≠.ek f args x:=by
  intro c r' h;unfold cM at h;repeat' (split at h)
  all_goals (cases h)
 have hso:∀t' j r' off sv,bh P t' j r' off sv≠.ek f args x:=by
  intro t' j r' off sv h;unfold bh at h;repeat' (split at h)
  all_goals (cases h)
 have hsl:∀t' y lo hi mx,cC P w0 hn e row o t' y lo hi mx≠.ek f args x:=by
  intro t' x lo hi mx h;unfold cC iY at h;repeat' (split at h)
  all_goals first | (cases h;done)|exact hp _ h
 have hln:∀c,ew P w0 hn e row o c≠.ek f args x:=by
  intro c h;unfold ew at h;repeat' (split at h)
  all_goals first | (cases h;done)|exact hc h
 have hl:∀t' r' off,cw P t' r' off≠.ek f args x:=by
  intro t r off h;unfold cw at h;repeat' (split at h)
  all_goals (cases h)
 have hl2:∀t' r' off v,bM P t' r' off v≠.ek f args x:=by
  intro t r off v h;unfold bM at h;repeat' (split at h)
  all_goals (cases h)
 have hl3:∀t' r' off v,bn P t' r' off v≠.ek f args x:=by
  intro t r off v h;unfold bn at h;repeat' (split at h)
  all_goals (cases h)
 have hs1:∀t' j r' off sv,cB P t' j r' off sv≠.ek f args x:=by
  intro t j r off sv h;unfold cB at h;repeat' (split at h)
  all_goals (cases h)
 have hs2:∀t' j r' off sv c,bB P t' j r' off sv c≠.ek f args x:=by
  intro t j r off sv c h;unfold bB at h;repeat' (split at h)
  all_goals (cases h)
 have go:∀c hh,o.op=.call c→ft P e row c hh=.ek f args x→(∀i sv,sv∈args→i∈fw (some sv)→i∈ax e o)∧
  (∀p i r v,x=.fI p i r v→args[p]?=some (.ptr i 0)∧i∈ax e o∧∃r0,row i=some r0∧r.ty=r0.ty∧r0.fixed=true∧r.fixed=true∧r.cs.tag=r0.cs.tag)∧
  ∀ps,x=.El ps→∀q∈ps,args[q.1]?=some (.ptr q.2 0)∧∃r,row q.2=some r∧r.fixed=true:=by
  intro c hh ho h;have mem:∀{f' args' r'},bu P e c r'=.dc f' args' r'→∀i sv,sv∈args'→i∈fw (some sv)→i∈ax e o:=by intro f' args' r' hr i sv hi hat;obtain⟨x,hx,hex⟩:=im hr _ hi;simp only[ax,ho,WV];exact⟨x,hx,by rw[hex];exact hat⟩
  have back:∀{f' args' r' r''},bu P e c r'=.dc f' args' r''→r''=r':=by
   intro f' args' r' r'' hr;unfold bu at hr;repeat' (split at hr)
   all_goals first | (cases hr;done) | (injection hr with h1 h2 h3;exact h3.symm)
  unfold ft at h;split at h
  ·split at h
   ·rename_i f' args' r' hr
    have hb:=back hr;subst hb;split at h
    ·rename_i i hpi
     split at h
     ·rename_i r0 hrow
      cases hcl:r0.cs.list with
      |none=>rw[hcl]at h;cases h
      |some l=>
       rw[hcl]at h;simp only at h;split at h
       ·injection h with h1 h2 h3
        subst h2;refine⟨mem hr,fun p' i' r v' hx=>?_,fun ps hx=>by rw[←h3]at hx;cases hx⟩;rw[←h3]at hx;injection hx with e1 e2 e3 e4;subst e1;subst e2;subst e3;have hfx:r0.fixed=true:=by unfold Row.fixed;unfold Cells.list at hcl;split at hcl<;>first | (cases hcl;done) | (rename_i hcs;rw[hcs])
        exact⟨hpi,mem hr _ _ (Wd hpi) (by simp[fw]),r0,hrow,rfl,hfx,DB (T:=r0.ty) hfx,LC⟩
       ·cases h
     ·cases h
    ·cases h
   ·cases h
  ·split at h
   ·rename_i f' args' r' hr
    have hb:=back hr;subst hb;injection h with h1 h2 h3;subst h2;subst h3;refine⟨mem hr,(fun p i r v hx=>nomatch hx),fun ps hx q hq=>?_⟩;injection hx with hx;rw[←hx]at hq;obtain⟨_,h2,h4⟩:=qT hq;exact⟨by simpa using h2,h4⟩
   ·cases h
  ·cases h
 unfold eM at h;split at h
 all_goals first
  | (
    exfalso;repeat' (split at h)
    all_goals first
     | (cases h;done)
     |exact absurd h (hp _)
     |exact absurd h (hsl _ _ _ _ _)
     |exact absurd h (hso _ _ _ _ _)
     |exact absurd h (hmv _)
     | (rcases dP h with h|⟨_,_,_,_,h⟩<;>(cases h;done)) | (rcases eU h with h|⟨_,_,_,h⟩<;>(cases h;done))
     |exact absurd h (hl _ _ _)
     |exact absurd h (hl2 _ _ _ _)
     |exact absurd h (hl3 _ _ _ _)
     |exact absurd h (hs1 _ _ _ _ _)
     |exact absurd h (hs2 _ _ _ _ _ _))
  |skip
 rename_i c ho;split at h
 ·exact absurd h (hco _ _)
 ·exact absurd h (hck _ _)
 ·exact go c _ ho h
 ·exact go c _ ho h
 ·exfalso
  split at h
  ·split at h
   ·exact hap _ _ _ h
   ·cases h
  ·exact hln _ h
end
structure Hd(ds:List Deferred)(w0:aY)(n:Nat)(β:Env)(st:St)(a:Act)(w:World):Prop where
 size:a.tmps.size=n
 dn:a.defers=ds
 get:∀t sv,look st.fr t=some sv→a.tmps[t]?=some (sv.den β)
 bY:∀(i:Nat) (r:Row),st.mem[i]?=some r→aT β w i r
 new:∀(i:Nat) (r:Row) (k:Nat),st.mem[i]?=some r→av β i r=some k→k∈w0.S∨w0.w.heap.size≤k
 inj:∀(i j:Nat) (r r':Row) (k:Nat),st.mem[i]?=some r→st.mem[j]?=some r'→av β i r=some k→av β j r'=some k→i=j
 aD:ah w0.S w0.w w
 vo:∀t sv,look st.fr t=some sv→sv.on (· < st.mem.length)
 vg:∀(i:Nat) (r:Row),st.mem[i]?=some r→r.cs.on (· < st.mem.length)
section
variable{P:Program}{w0:aY}{ds:List Deferred}{w w':World}{n:Nat}{β:Env}{st:St}{a:Act}
theorem eQ{d t:Nat}{v:SV}{fr:List (Nat×SV)}:look ((d,v)::fr) t=if d=t then v.known else look fr t:=by
 by_cases h:d=t
 ·subst h;simp[look]
 ·rw[if_neg h]
  have:VP d t=false:=by
   cases hb:VP d t
   ·rfl
   ·exact absurd (VF hb) h
  rw[look];simp only[this]
theorem il{d t:Nat}{v:Value}(h:d < a.tmps.size):(a.put (some d) v).tmps[t]?=if d=t then some v else a.tmps[t]?:=by
 simp only[Act.put,Array.getElem?_setIfInBounds];by_cases hd:d=t
 ·subst hd;simp[h]
 ·simp[hd]
theorem Nj{d:Nat}{v:Value}(h:¬d < a.tmps.size):a.put (some d) v=a:=by unfold Act.put;simp only;rw[Array.setIfInBounds_eq_of_size_le (by omega)]
theorem Hd.put(h:Hd ds w0 n β st a w)(dst:Option Tmp){sv:SV}(hs:sv.on (· < st.mem.length)):Hd ds w0 n β (st.put n dst sv) (a.put dst (sv.den β)) w:=by
 cases dst with
 |none=>exact h
 |some d=>
  by_cases hd:d < n
  ·have hb:Wc d n=true:=Nat.ble_eq_true_of_le hd
   have e:st.put n (some d) sv=⟨(d,sv)::st.fr,st.mem⟩:=by unfold St.put;simp only[hb]
   rw[e];have hsz:d < a.tmps.size:=by rw[h.size];exact hd
   refine⟨by simp[Act.put,h.size],h.dn,fun t u hu=>?_,h.bY,h.new,h.inj,h.aD,fun t u hu=>?_,h.vg⟩
   ·rw[il hsz]
    rw[eQ]at hu;split at hu
    ·rename_i hdt;rw[if_pos hdt];rw[bS hu]
    ·rename_i hdt;rw[if_neg hdt];exact h.get t u hu
   ·rw[eQ]at hu
    split at hu
    ·rw[bS hu];exact hs
    ·exact h.vo t u hu
  ·have hb:Wc d n=false:=by
    cases hb:Wc d n
    ·rfl
    ·exact absurd (VH hb) hd
   have e:st.put n (some d) sv=st:=by unfold St.put;simp only[hb]
   rw[e,Nj (by rw[h.size];exact hd)];exact h
theorem Hd.later(h:Hd ds w0 n β st a w)(hc:ah [] w w'):Hd ds w0 n β st a w':=
 ⟨h.size,h.dn,h.get,fun i r hi=>(h.bY i r hi).aD hc (fun _ _=>by simp),h.new,h.inj,h.aD.seq hc (by simp),h.vo,h.vg⟩
def Env.fI(β:Env)(m g:Nat):Env:=⟨fun i=>if i=m then g else β i,β.a,β.n,β.c⟩
theorem It{m g:Nat}:β.same (β.fI m g) (·≠m):=fun i hi=>⟨by simp only[Env.fI,if_neg hi],rfl,rfl,rfl⟩
theorem iG{m g:Nat}:(β.fI m g) m=g:=by simp only[Env.fI,if_true]
theorem zY{m g:Nat}{ln:Option Nat}:(kW m ln).den (β.fI m g)=mr g ln:=by cases ln<;>simp only[kW,mr,SV.den,iG]
theorem EB{Q:Nat→Prop}{m:Nat}{ln:Option Nat}(h:Q m):(kW m ln).on Q:=by cases ln<;>exact h
theorem Env.same.mono{β β':Env}{Q Q':Nat→Prop}(h:β.same β' Q)(hQ:∀i,Q' i→Q i):β.same β' Q':=fun i hi=>h i (hQ i hi)
theorem Hd.alloc(h:Hd ds w0 n β st a w)(t:TypeId){cs:Cells}(hf:(⟨t,cs⟩:Row).fixed=true)(hft:cs.tag=none)(hs:cs.on (· < st.mem.length)):Hd ds w0 n (β.fI st.mem.length w.heap.size) ⟨st.fr,st.mem++[⟨t,cs⟩]⟩ a (w.alloc (.cells (cs.den β).toArray t)):=by
 have same:β.same (β.fI st.mem.length w.heap.size) (· < st.mem.length):=It.mono fun i hi=>WU hi;have lt:∀(i:Nat) (r:Row) (k:Nat),st.mem[i]?=some r→av β i r=some k→k < w.heap.size:=fun i r k hi hk=>(h.bY i r hi).lt hk;have at_:∀(i:Nat) (r:Row),(st.mem++[(⟨t,cs⟩:Row)])[i]?=some r→(i < st.mem.length∧st.mem[i]?=some r)∨(i=st.mem.length∧r=⟨t,cs⟩):=by
  intro i r hi;by_cases hlt:i < st.mem.length
  ·rw[VO hlt]at hi
   exact .inl ⟨hlt,hi⟩
  ·have hl:i < (st.mem++[(⟨t,cs⟩:Row)]).length:=(VN.1 hi).1
   simp at hl;obtain rfl:i=st.mem.length:=by omega
   rw[VM (Wx _),WT]at hi;exact .inr ⟨rfl,by simpa using hi.symm⟩
 have blkm:av (β.fI st.mem.length w.heap.size) st.mem.length ⟨t,cs⟩=some w.heap.size:=by rw[aF hf,iG]
 refine⟨h.size,h.dn,fun u sv hu=>?_,fun i r hi=>?_,fun i r k hi hk=>?_,fun i j r r' k hi hj hk hk'=>?_,h.aD.alloc _,fun u sv hu=>?_,fun i r hi=>?_⟩
 ·rw[h.get u sv hu,SV.bV same (h.vo u sv hu)]
 ·rcases at_ i r hi with⟨hlt,hi⟩ | ⟨rfl,rfl⟩
  ·refine aT.congr same hlt (h.vg i r hi) ((h.bY i r hi).aD (S:=[]) ((ah.refl [] w).alloc _) (fun _ _=>by simp))
  ·refine aT.ml ?_ hf (fun g hg=>by rw[hft]at hg;cases hg)
   rw[iG,←Cells.bV same hs];exact aq.new w t (cs.den β).toArray
 ·rcases at_ i r hi with⟨hlt,hi⟩ | ⟨rfl,rfl⟩
  ·rw[←aV same hlt]at hk;exact h.new i r k hi hk
  ·rw[blkm]at hk;cases hk;exact .inr h.aD.size
 ·rcases at_ i r hi with⟨hlt,hi⟩ | ⟨rfl,rfl⟩
  ·rw[←aV same hlt]at hk
   rcases at_ j r' hj with⟨hlt',hj⟩ | ⟨rfl,rfl⟩
   ·rw[←aV same hlt']at hk';exact h.inj i j r r' k hi hj hk hk'
   ·rw[blkm]at hk';cases hk'
    exact absurd (lt i r _ hi hk) (Xz _)
  ·rcases at_ j r' hj with⟨hlt',hj⟩ | ⟨rfl,rfl⟩
   ·rw[blkm]at hk;cases hk
    rw[←aV same hlt']at hk';exact absurd (lt j r' _ hj hk') (Xz _)
   ·rfl
 ·exact SV.aW (fun i hi=>by simp;omega) (h.vo u sv hu)
 ·rcases at_ i r hi with⟨hlt,hi⟩ | ⟨rfl,rfl⟩
  ·exact Cells.aW (fun i hi=>by simp;omega) (h.vg i r hi)
  ·exact Cells.aW (fun i hi=>by simp;omega) hs
theorem Hd.store(h:Hd ds w0 n β st a w){i:Nat}{r0 r:Row}(h0:st.mem[i]?=some r0)(hblk:av β i r=av β i r0)(hb:aT β w' i r)(hc:ah (av β i r0).toList w w')(hr:r.cs.on (· < st.mem.length)):Hd ds w0 n β ⟨st.fr,st.mem.set i r⟩ a w':=by
 have hi:i < st.mem.length:=(VN.1 h0).1;have old:∀(j:Nat) (r':Row) (k:Nat),(st.mem.set i r)[j]?=some r'→av β j r'=some k→∃r2,st.mem[j]?=some r2∧av β j r2=some k:=by
  intro j r' k hj hk;simp only[WB]at hj;split at hj
  ·rename_i hij
   subst hij;have:r=r':=by simpa[hi]using hj
   subst this;exact⟨r0,h0,by rw[←hblk];exact hk⟩
  ·exact⟨r',hj,hk⟩
 refine⟨h.size,h.dn,h.get,fun j r' hj=>?_,fun j r' k hj hk=>?_,fun j j' r1 r2 k hj hj' hk hk'=>?_,?_,fun t sv ht=>?_,fun j r' hj=>?_⟩
 ·simp only[WB]at hj
  split at hj
  ·rename_i hij
   subst hij;have:r=r':=by simpa[hi]using hj
   subst this;exact hb
  ·rename_i hij
   refine(h.bY j r' hj).aD hc fun k hk hm=>hij ?_;exact h.inj i j r0 r' _ h0 hj (by simpa using hm) hk
 ·obtain⟨r2,h2,hk2⟩:=old j r' k hj hk
  exact h.new j r2 k h2 hk2
 ·obtain⟨x,hx,hkx⟩:=old j r1 k hj hk
  obtain⟨y,hy,hky⟩:=old j' r2 k hj' hk';exact h.inj j j' x y k hx hy hkx hky
 ·exact h.aD.seq hc (fun x hx=>h.new i r0 _ h0 (by simpa using hx))
 ·simp only[WH];exact h.vo t sv ht
 ·simp only[WH]
  simp only[WB]at hj;split at hj
  ·have:r=r':=by simpa[hi]using hj
   subst this;exact hr
  ·exact h.vg j r' hj
def Env.gp(β:Env)(m:Nat)(A:Option Addr)(n c:Nat):Env:=⟨β.b,fun i=>if i=m then A else β.a i,fun i=>if i=m then n else β.n i,fun i=>if i=m then c else β.c i⟩
theorem rN{m:Nat}{A:Option Addr}{nn cc:Nat}:β.same (β.gp m A nn cc) (·≠m):=fun i hi=>⟨rfl,by simp only[Env.gp,if_neg hi],by simp only[Env.gp,if_neg hi],by simp only[Env.gp,if_neg hi]⟩
theorem kE{m:Nat}{A:Option Addr}{nn cc:Nat}:(β.gp m A nn cc).sl m=.slice A nn cc:=by simp only[Env.sl,Env.gp,if_true]
theorem vF{m:Nat}{A:Option Addr}{T size nn cc:Nat}{xs:List Value}(h:Own w T size (.slice A nn cc) nn xs):aT (β.gp m A nn cc) w m ⟨T,.own size nn xs⟩:=by show _∧Own w T size (.slice ((β.gp m A nn cc).a m) nn ((β.gp m A nn cc).c m)) nn xs;simp only[Env.gp,if_true];exact⟨trivial,h⟩
theorem jP{m:Nat}{A:Option Addr}{T size nn cc:Nat}{xs:List Value}:av (β.gp m A nn cc) m ⟨T,.own size nn xs⟩=A.map (·.block):=by show((β.gp m A nn cc).a m).map _=_;simp only[Env.gp,if_true]
theorem Hd.grow(h:Hd ds w0 n β st a w){kill:Option Nat}{A:Option Addr}{T size nn cc:Nat}{xs:List Value}{S:List Nat}(hown:Own w' T size (.slice A nn cc) nn xs)(hc:ah S w w')
  (hS:∀k∈S,∃i r0,kill=some i∧st.mem[i]?=some r0∧av β i r0=some k) (hA:∀k,A.map (·.block)=some k→k∈S∨w.heap.size≤k) :
  Hd ds w0 n (β.gp st.mem.length A nn cc) ⟨st.fr,dZ st.mem kill++[⟨T,.own size nn xs⟩]⟩ a w':=by
 have same:β.same (β.gp st.mem.length A nn cc) (· < st.mem.length):=rN.mono fun i hi=>WU hi;have klen:(dZ st.mem kill).length=st.mem.length:=by cases kill<;>simp[dZ]
 have at_:∀(i:Nat) (r:Row),(dZ st.mem kill++[(⟨T,.own size nn xs⟩:Row)])[i]?=some r→(i < st.mem.length∧kill≠some i∧st.mem[i]?=some r)∨(i < st.mem.length∧kill=some i∧r=ak)∨(i=st.mem.length∧r=⟨T,.own size nn xs⟩):=by
  intro i r hi;by_cases hlt:i < st.mem.length
  ·rw[VO (by rw[klen];exact hlt)]at hi
   cases kill with
   |none=>exact .inl ⟨hlt,by simp,hi⟩
   |some j=>
    simp only[dZ,WB]at hi;split at hi
    ·rename_i hij
     subst hij;exact .inr (.inl ⟨hlt,rfl,by simpa[hlt]using hi.symm⟩)
    ·rename_i hij
     exact .inl ⟨hlt,by simpa using hij,hi⟩
  ·have hl:i < (dZ st.mem kill++[(⟨T,.own size nn xs⟩:Row)]).length:=(VN.1 hi).1
   simp[klen]at hl;obtain rfl:i=st.mem.length:=by omega
   rw[←klen,VM (Wx _),WT]at hi;exact .inr (.inr ⟨rfl,by simpa using hi.symm⟩)
 have new':∀k,A.map (·.block)=some k→k∈w0.S∨w0.w.heap.size≤k:=fun k hk=>by
  rcases hA k hk with hk|hk
  ·obtain⟨i,r0,_,h0,hb⟩:=hS k hk
   exact h.new i r0 k h0 hb
  ·exact .inr (XD h.aD.size hk)
 have apart:∀(i:Nat) (r:Row) (k:Nat),kill≠some i→st.mem[i]?=some r→av β i r=some k→A.map (·.block)≠some k:=fun i r k hki hi hk hk'=>by
  rcases hA k hk' with hk' | hk'
  ·obtain⟨j,r0,hj,h0,hb⟩:=hS k hk'
   have:=h.inj i j r r0 k hi h0 hk hb;subst this;exact hki hj
  ·have:=(h.bY i r hi).lt hk
   omega
 refine⟨h.size,h.dn,fun u sv hu=>?_,fun i r hi=>?_,fun i r k hi hk=>?_,fun i j r r' k hi hj hk hk'=>?_,h.aD.seq hc (fun k hk=>?_),fun u sv hu=>?_,fun i r hi=>?_⟩
 ·rw[h.get u sv hu,SV.bV same (h.vo u sv hu)]
 ·rcases at_ i r hi with⟨hlt,hki,hi⟩ | ⟨hlt,hki,rfl⟩ | ⟨rfl,rfl⟩
  ·refine aT.congr same hlt (h.vg i r hi) ((h.bY i r hi).aD hc fun k hk hm=>?_)
   obtain⟨j,r0,hj,h0,hb⟩:=hS k hm;have:=h.inj i j r r0 k hi h0 hk hb;subst this;exact hki hj
  ·trivial
  ·exact vF hown
 ·rcases at_ i r hi with⟨hlt,hki,hi⟩ | ⟨hlt,hki,rfl⟩ | ⟨rfl,rfl⟩
  ·rw[←aV same hlt]at hk;exact h.new i r k hi hk
  ·cases hk
  ·rw[jP]at hk;exact new' k hk
 ·rcases at_ i r hi with⟨hlt,hki,hi⟩ | ⟨hlt,hki,rfl⟩ | ⟨rfl,rfl⟩
  ·rw[←aV same hlt]at hk
   rcases at_ j r' hj with⟨hlt',hkj,hj⟩ | ⟨hlt',hkj,rfl⟩ | ⟨rfl,rfl⟩
   ·rw[←aV same hlt']at hk';exact h.inj i j r r' k hi hj hk hk'
   ·cases hk'
   ·rw[jP]at hk';exact absurd hk' (apart i r k hki hi hk)
  ·cases hk
  ·rcases at_ j r' hj with⟨hlt',hkj,hj⟩ | ⟨hlt',hkj,rfl⟩ | ⟨rfl,rfl⟩
   ·rw[←aV same hlt']at hk'
    rw[jP]at hk;exact absurd hk (apart j r' k hkj hj hk')
   ·cases hk'
   ·rfl
 ·obtain⟨i,r0,_,h0,hb⟩:=hS k hk
  exact h.new i r0 k h0 hb
 ·exact SV.aW (fun i hi=>by simp[klen];omega) (h.vo u sv hu)
 ·rcases at_ i r hi with⟨hlt,hki,hi⟩ | ⟨hlt,hki,rfl⟩ | ⟨rfl,rfl⟩
  ·exact Cells.aW (fun i hi=>by simp[klen];omega) (h.vg i r hi)
  ·trivial
  ·trivial
theorem Jb{r:jy}{e:Ending}(h:eC w r e w'):(∃v,r=.val v∧e=.returned v∧ah [] w w')∨(∃T size nn xs A cc,gT r=some ⟨T,.own size nn xs⟩∧Own w' T size (.slice A nn cc) nn xs∧ah [] w w'∧(∀k,A.map (·.block)=some k→w.heap.size≤k)∧
  ∀(β:Env) (m:Nat),e=.returned ((gn m r).den (β.gp m A nn cc))∧(gn m r).on (·=m)):=by
 have key:∀{T size nn:Nat} {xs:List Value} {s:Value},Acc w w' T size s nn xs→∃A cc,s=.slice A nn cc∧Own w' T size (.slice A nn cc) nn xs∧∀k,A.map (·.block)=some k→w.heap.size≤k:=by
  intro T size nn xs s h;obtain⟨A,cc,rfl,_⟩:=h.own.form;refine⟨A,cc,rfl,h.own,fun k hk=>h.new k ?_⟩;cases A with
  |none=>cases hk
  |some ad=>simpa[Wr]using hk
 cases r with
 |val v=>exact .inl ⟨v,rfl,h.1,h.2⟩
 |sl T size nn xs=>obtain⟨s,he,hacc⟩:=h;obtain⟨A,cc,rfl,ho,hk⟩:=key hacc;exact .inr ⟨T,size,nn,xs,A,cc,rfl,ho,hacc.aD,hk,fun β m=>⟨by rw[he];simp only[gn,SV.den,kE],rfl⟩⟩
 |vh pre T size nn xs post=>obtain⟨s,he,hacc⟩:=h;obtain⟨A,cc,rfl,ho,hk⟩:=key hacc;exact .inr ⟨T,size,nn,xs,A,cc,rfl,ho,hacc.aD,hk,fun β m=>⟨by rw[he];simp only[gn,SV.den,kE],rfl⟩⟩
theorem zq{β:Env}{i:Nat}:(β.sl i).ownBlock=(β.a i).map (·.block):=by unfold Env.sl;cases h:β.a i<;>simp[Wr]
theorem qN{A:Option Addr}{n c:Nat}:(Wu A n c).ownBlock=A.map (·.block):=by cases A<;>simp[Wr]
theorem Eh{s0:Value}{r:jy}{e:Ending}(h:pc w s0 r e w'):∃T size nn xs A cc,gT r=some ⟨T,.own size nn xs⟩∧Own w' T size (.slice A nn cc) nn xs∧ah s0.ownBlock.toList w w'∧(∀k,A.map (·.block)=some k→s0.ownBlock=some k∨w.heap.size≤k)∧
  ∀(β:Env) (m:Nat),e=.returned ((gn m r).den (β.gp m A nn cc))∧(gn m r).on (·=m):=by
 cases r with
 |val v=>exact h.elim
 |sl T size nn xs=>obtain⟨s,he,ho,hc,hk⟩:=h;obtain⟨A,cc,rfl,_⟩:=ho.form;exact⟨T,size,nn,xs,A,cc,rfl,ho,hc,fun k h=>hk k (by rw[qN];exact h),fun β m=>⟨by rw[he];simp only[gn,SV.den,kE],rfl⟩⟩
 |vh pre T size nn xs post=>obtain⟨s,he,ho,hc,hk⟩:=h;obtain⟨A,cc,rfl,_⟩:=ho.form;exact⟨T,size,nn,xs,A,cc,rfl,ho,hc,fun k h=>hk k (by rw[qN];exact h),fun β m=>⟨by rw[he];simp only[gn,SV.den,kE],rfl⟩⟩
theorem Hd.eval(h:Hd ds w0 n β st a w){x:Operand}{sv:SV}(hx:ev st.fr x=some sv):a.eval x=sv.den β:=by
 cases x with
 |tmp t=>have:=h.get t sv hx;simp[Act.eval,this]
 |const v=>simp only[ev,Wb.injEq]at hx;subst hx;rfl
 |global g=>simp only[ev,Wb.injEq]at hx;subst hx;rfl
 |func f=>simp only[ev,Wb.injEq]at hx;subst hx;rfl
theorem Hd.Tn(h:Hd ds w0 n β st a w){x:Operand}{sv:SV}(hx:ev st.fr x=some sv):sv.on (· < st.mem.length):=by
 cases x with
 |tmp t=>exact h.vo t sv hx
 |const v=>simp only[ev,Wb.injEq]at hx;subst hx;trivial
 |global g=>simp only[ev,Wb.injEq]at hx;subst hx;trivial
 |func f=>simp only[ev,Wb.injEq]at hx;subst hx;trivial
end
def mM(m:Nat):Atom→Bool
 |.v _=>true
 |.o i=>Wc i m
 |.p i _=>Wc i m
 |.s i _ _ _=>Wc i m
def Dj(m:Nat):eK→Bool
 |.a x=>mM m x
 |.row l=>eJ (mM m) l
 |.jK _ i _=>Wc i m
def zb(m:Nat):SV→Bool
 |.val _=>true
 |.ptr i _=>Wc i m
 |.lO i _ _ _=>Wc i m
 |.own i=>Wc i m
 |.kT i _=>Wc i m
 |.vh _ i _=>Wc i m
 |.jJ i _ _ _=>Wc i m
 |.gone=>true
 |.dG l=>eJ (mM m) l
 |.Fe _ l=>eJ (mM m) l
 |.jK _ i _=>Wc i m
 |.kG l=>eJ (Dj m) l
 |.dQ _ i _=>Wc i m
def lk(m:Nat):Cells→Bool
 |.ai _=>true
 |.cU cs=>eJ (zb m) cs
 |.own _ _ _=>true
 |.dead=>true
 |.dj _ _=>true
 |.iC _ cs=>eJ (zb m) cs
theorem nD{m:Nat}{s:Atom}(h:mM m s=true):s.on (· < m):=by
 cases s with
 |v x=>trivial
 |o i=>exact VH h
 |p i off=>exact VH h
 |s i _ _ _=>exact VH h
theorem Hg{m:Nat}{s:eK}(h:Dj m s=true):s.on (· < m):=by
 cases s with
 |a x=>exact nD h
 |row l=>exact fun a ha=>nD (aQ (show eJ (mM m) l=true from h) a ha)
 |jK t i off=>exact VH h
theorem mX{m:Nat}{s:SV}(h:zb m s=true):s.on (· < m):=by
 cases s with
 |val v=>trivial
 |ptr i o=>exact VH h
 |lO i o n c=>exact VH h
 |own i=>exact VH h
 |kT i o=>exact VH h
 |vh l i r=>exact VH h
 |jJ i o n c=>exact VH h
 |gone=>trivial
 |dG l=>exact fun a ha=>nD (aQ (show eJ (mM m) l=true from h) a ha)
 |Fe f l=>exact fun a ha=>nD (aQ (show eJ (mM m) l=true from h) a ha)
 |jK t i off=>exact VH h
 |kG l=>exact fun a ha=>Hg (aQ (show eJ (Dj m) l=true from h) a ha)
 |dQ b i off=>exact VH h
theorem iZ{m:Nat}{c:Cells}(h:lk m c=true):c.on (· < m):=by
 unfold lk at h;cases c with
 |ai cs=>trivial
 |own _ _ _=>trivial
 |dead=>trivial
 |dj _ _=>trivial
 |cU cs=>exact fun s hs=>mX (aQ h s hs)
 |iC g cs=>exact fun s hs=>mX (aQ h s hs)
def rowAt(mem:List Row)(i:Nat):Option Row:=mem[i]?
def eK.sv:eK→SV
 |.a x=>x.sv
 |.row l=>.dG l
 |.jK t i off=>.jK t i off
theorem eK.qi{β:Env}{a:eK}:a.sv.den β=a.den β:=by
 cases a with
 |a x=>exact Atom.qi
 |row l=>rfl
 |jK t i off=>rfl
theorem eK.yZ{Q:Nat→Prop}{a:eK}(h:a.on Q):a.sv.on Q:=by
 cases a with
 |a x=>exact Atom.yZ h
 |row l=>exact h
 |jK t i off=>exact h
def JH(P:Program)(f:FuncId):Bool:=match P.funcs[f]? with
 |some fn=>match fn.name== "runtime.NumGoroutine"||fn.body.isNone with
  |true=>false
  |false=>true
 |none=>false
def uO(P:Program)(e:Operand→Option SV)(x:Operand):Option (FuncId×List SV):=match e x with
 |some sv=>match sv with
  |.val v=>match v with
   |.func fn first cap=>match fn with
    |.func f=>match first.toList with
     | []=>match JH P f with
      |true=>some (f,cap.toList.map .val)
      |false=>none
     |_=>none
    |_=>none
   |_=>none
  |.Fe f l=>match JH P f with
   |true=>some (f,l.map Atom.sv)
   |false=>none
  |_=>none
 |none=>none
inductive LV where
 |no
 |val (sv:SV)
 |call (f:FuncId) (args:List SV) (g:cn)
 |ij (t:TypeId) (cs:List Value) (l:List (Nat×TypeId×Nat))
 |Fz (t:TypeId) (l:List SV) (len:Nat)
def jk(e:Operand→Option SV):Nat→List (Nat×Operand)→Option (List SV)
 |_,[]=>some []
 |k,p::r=>match VP p.1 k with
  |true=>match e p.2 with
   |some sv=>match jk e (k+1) r with
    |some l=>some (sv::l)
    |none=>none
   |none=>none
  |false=>none
def yC:SV→Option (List Atom)
 |.val v=>some (v.cells.toList.map .v)
 |.own i=>some [.o i]
 |.ptr i off=>some [.p i off]
 |.jJ i off len cut=>some [.s i off len cut]
 |.dG l=>some l
 |_=>none
theorem Bo{β:Env}{sv:SV}{l:List Atom}(h:yC sv=some l):(sv.den β).cells.toList=l.map (Atom.den β):=by
 cases sv with
 |val v=>cases h;rw[Wn];show v.cells.toList=_;exact(WW _).symm
 |own i=>cases h;rfl
 |ptr i off=>cases h;rfl
 |jJ i off len cut=>cases h;rfl
 |dG l=>cases h;rfl
 |_=>cases h
theorem Du{Q:Nat→Prop}{sv:SV}{l:List Atom}(h:yC sv=some l)(hq:sv.on Q):∀a∈l,a.on Q:=by
 cases sv with
 |val v=>cases h;intro a ha;obtain⟨_,_,rfl⟩:=VT.1 ha;trivial
 |own i=>cases h;intro a ha;rw[Wg.1 ha];exact hq
 |ptr i off=>cases h;intro a ha;rw[Wg.1 ha];exact hq
 |jJ i off len cut=>cases h;intro a ha;rw[Wg.1 ha];exact hq
 |dG l=>cases h;exact hq
 |_=>cases h
def qn(e:Operand→Option SV):List (Nat×Operand)→Option (List (Nat×List Atom))
 | []=>some []
 |p::r=>match e p.2 with
  |some sv=>match yC sv with
   |some l=>match qn e r with
    |some q=>some ((p.1,l)::q)
    |none=>none
   |none=>none
  |none=>none
def wP(place:Nat→Option (Nat×Nat)):List Atom→List (Nat×List Atom)→Option (List Atom)
 |cells,[]=>some cells
 |cells,p::rest=>match place p.1 with
  |none=>none
  |some q=>match VP p.2.length q.2&&WR (q.1+p.2.length) cells.length with
   |true=>wP place (cells.take q.1++(p.2++cells.drop (q.1+p.2.length))) rest
   |false=>none
def placesOf(P:Program):List Field→Option (List (Nat×Nat))
 | []=>some []
 |f::r=>match P.info? f.type with
  |some i=>match placesOf P r with
   |some l=>some ((f.offset,i.size)::l)
   |none=>none
  |none=>none
theorem qU{P:Program}:∀{fs:List Field} {l:List (Nat×Nat)},placesOf P fs=some l→fs.mapM (fun f=>(P.info? f.type).map fun i=>(f.offset,i.size))=some l
 | [],l,h=>by cases h;rfl
 |f::r,l,h=>by
  unfold placesOf at h;split at h
  ·rename_i i hi
   split at h
   ·rename_i q hq
    cases h;rw[List.mapM_cons,hi,qU hq];rfl
   ·cases h
  ·cases h
theorem uz(off:Nat):∀(l:List Value) (k:Nat) (cells:Array Value),off+k+l.length≤cells.size→
  ((l.zipIdx k).foldl (fun cs (p:Value×Nat)=>cs.setIfInBounds (off+p.2) p.1) cells).toList=cells.toList.take (off+k)++(l++cells.toList.drop (off+k+l.length))
 | [],k,cells,h=>by simp
 |v::l,k,cells,h=>by
  simp only[VZ]at h;rw[WC,WX,uz off l (k+1) _ (by simp;omega)];have hlt:off+k < cells.toList.length:=by simp;omega
  obtain⟨m,hm⟩:∃m,m=off+k:=⟨_,rfl⟩;simp only[WY,VZ];rw[show off+(k+1)=m+1 by omega,←hm];rw[←hm]at hlt;have hl:(cells.toList.take m).length=m:=by rw[VR];omega
  have e0:cells.toList.set m v=cells.toList.take m++v::cells.toList.drop (m+1):=by rw[WO,if_pos hlt]
  have e1:(cells.toList.set m v).take (m+1)=cells.toList.take m++[v]:=by rw[e0,show cells.toList.take m++v::cells.toList.drop (m+1)=(cells.toList.take m++[v])++cells.toList.drop (m+1)by simp];exact List.take_left' (by rw[VY,hl];rfl)
  have e2:(cells.toList.set m v).drop (m+1+l.length)=cells.toList.drop (m+(l.length+1)):=by rw[e0,show cells.toList.take m++v::cells.toList.drop (m+1)=(cells.toList.take m++[v])++cells.toList.drop (m+1)by simp,List.drop_append,WE (by rw[VY,hl];simp)];rw[WG,VY,hl,Xu];congr 1;simp only[VZ,WI];omega
  rw[e1,e2];simp
theorem AI{β:Env}{place:Nat→Option (Nat×Nat)}:∀{ps:List (Nat×List Atom)} {vs:List (Nat×Value)} {cells out:List Atom},wP place cells ps=some out→vs.map (fun p=>(p.1,p.2.cells.toList))=ps.map (fun p=>(p.1,p.2.map (Atom.den β)))→
  WK place (cells.map (Atom.den β)).toArray vs=some (out.map (Atom.den β)).toArray
 | [],[],cells,out,h,_=>by cases h;rfl
 | [],_::_,_,_,_,hv=>by cases hv
 |_::_,[],_,_,_,hv=>by cases hv
 |p::ps,q::vs,cells,out,h,hv=>by
  rw[VQ,VQ]at hv;injection hv with h1 h2;injection h1 with h3 h4;unfold wP at h;unfold WK;rw[h3];split at h
  ·cases h
  ·rename_i r hr
   rw[hr];split at h
   ·rename_i hb
    rw[VI]at hb;have l1:p.2.length=r.2:=VF hb.1;have l2:r.1+p.2.length≤cells.length:=VH hb.2;have hsz:q.2.cells.size=p.2.length:=by have:=congrArg XF h4;simpa using this
    have hz:q.2.cells.zipIdx.foldl (fun cs (p:Value×Nat)=>cs.setIfInBounds (r.1+p.2) p.1) (cells.map (Atom.den β)).toArray=((cells.take r.1++(p.2++cells.drop (r.1+p.2.length))).map (Atom.den β)).toArray:=by apply We.1;rw[←Xm,Array.toList_zipIdx,uz r.1 _ 0 _ (by simp[hsz];omega),h4];simp
    show(if(decide (q.2.cells.size≠r.2)||decide (r.1+q.2.cells.size > (cells.map (Atom.den β)).toArray.size))=true then none else WK place (q.2.cells.zipIdx.foldl (fun cs (p:Value×Nat)=>cs.setIfInBounds (r.1+p.2) p.1) (cells.map (Atom.den β)).toArray) vs)=_;rw[if_neg (by simp[hsz,l1];omega),hz];exact AI h h2
   ·cases h
theorem AJ{Q:Nat→Prop}{place:Nat→Option (Nat×Nat)}:∀{ps:List (Nat×List Atom)} {cells out:List Atom},wP place cells ps=some out→(∀a∈cells,a.on Q)→(∀p∈ps,∀a∈p.2,a.on Q)→∀a∈out,a.on Q
 | [],cells,out,h,hc,_=>by cases h;exact hc
 |p::ps,cells,out,h,hc,hp=>by
  unfold wP at h;split at h
  ·cases h
  ·split at h
   ·refine AJ h (fun a ha=>?_) fun q hq=>hp q (VJ _ hq)
    rcases Wv.1 ha with ha|ha
    ·exact hc a (WL ha)
    ·rcases Wv.1 ha with ha|ha
     ·exact hp p (by simp) a ha
     ·exact hc a (WM ha)
   ·cases h
theorem tp{β:Env}{a:Act}{e:Operand→Option SV}:∀{l:List (Nat×Operand)} {ps:List (Nat×List Atom)},qn e l=some ps→(∀p∈l,∀sv,e p.2=some sv→a.eval p.2=sv.den β)→
  (l.map fun p=>(p.1,a.eval p.2)).map (fun p=>(p.1,p.2.cells.toList))=ps.map (fun p=>(p.1,p.2.map (Atom.den β)))
 | [],ps,h,_=>by cases h;rfl
 |p::l,ps,h,he=>by
  unfold qn at h;split at h
  ·rename_i sv hsv
   split at h
   ·rename_i asq has
    split at h
    ·rename_i q hq
     cases h;have ih:=tp (β:=β) (a:=a) hq fun x hx=>he x (VJ _ hx);have h1:=he p (by simp) sv hsv;simp only[VQ]at ih ⊢;rw[ih,h1,Bo has]
    ·cases h
   ·cases h
  ·cases h
theorem vV{Q:Nat→Prop}{e:Operand→Option SV}:∀{l:List (Nat×Operand)} {ps:List (Nat×List Atom)},qn e l=some ps→(∀p∈l,∀sv,e p.2=some sv→sv.on Q)→∀p∈ps,∀a∈p.2,a.on Q
 | [],ps,h,_=>by cases h;intro p hp;cases hp
 |p::l,ps,h,he=>by
  unfold qn at h;split at h
  ·rename_i sv hsv
   split at h
   ·rename_i asq has
    split at h
    ·rename_i q hq
     cases h;intro x hx;rcases Wh.1 hx with rfl|hx
     ·exact Du has (he p (by simp) sv hsv)
     ·exact vV hq (fun y hy=>he y (VJ _ hy)) x hx
    ·cases h
   ·cases h
  ·cases h
def pY(P:Program)(e:Operand→Option SV)(t:TypeId)(parts:List (Nat×Operand)):Option (List Atom):=match P.underlying t with
 |some (.struct fields)=>match P.info? t with
  |some it=>match it.zero with
   |some z=>match placesOf P fields.toList with
    |some places=>match qn e parts with
     |some ps=>wP (fun i=>places[i]?) (z.cells.toList.map .v) ps
     |none=>none
    |none=>none
   |none=>none
  |none=>none
 |_=>none
theorem Dr{P:Program}{β:Env}{a:Act}{e:Operand→Option SV}{t:TypeId}{parts:Array (Nat×Operand)}{l:List Atom}{W:World}(h:pY P e t parts.toList=some l)(he:∀p∈parts.toList,∀sv,e p.2=some sv→a.eval p.2=sv.den β) :
  (Instr.build t (parts.map fun p=>(p.1,a.eval p.2))).run P W=.ok (.agg (l.map (Atom.den β)).toArray) W:=by
 unfold pY at h;split at h
 ·rename_i fields hu
  split at h
  ·rename_i it hi
   split at h
   ·rename_i z hz
    split at h
    ·rename_i places hp
     split at h
     ·rename_i ps hps
      refine run_build W t _ _ ?_;unfold Program.built;rw[hi,hu];simp only[hz,qU hp];have hm:=tp (β:=β) (a:=a) hps he;have hf:=AI (β:=β) h (vs:=parts.toList.map fun p=>(p.1,a.eval p.2)) hm;have hc:(z.cells.toList.map Atom.v).map (Atom.den β)=z.cells.toList:=by rw[Wn];exact WW _
      rw[hc]at hf;rw[Wl];simpa using hf
     ·cases h
    ·cases h
   ·cases h
  ·cases h
 ·cases h
theorem Dq{P:Program}{Q:Nat→Prop}{e:Operand→Option SV}{t:TypeId}{parts:List (Nat×Operand)}{l:List Atom}(h:pY P e t parts=some l)(he:∀p∈parts,∀sv,e p.2=some sv→sv.on Q):∀a∈l,a.on Q:=by
 unfold pY at h;split at h
 ·split at h
  ·split at h
   ·split at h
    ·split at h
     ·rename_i ps hps
      refine AJ h (fun a ha=>?_) (vV hps he);obtain⟨_,_,rfl⟩:=VT.1 ha;trivial
     ·cases h
    ·cases h
   ·cases h
  ·cases h
 ·cases h
def AR(P:Program)(t:TypeId)(s:SV)(v:Value):Bool:=match s with
 |.lO _ _ _ _=>match v with
  |.slice none _ _=>match P.underlying t with
   |some (.slice _)=>true
   |_=>false
  |_=>false
 |.ptr _ _=>match v with
  |.pointer none=>match P.underlying t with
   |some (.pointer _)=>true
   |_=>false
  |_=>false
 |.jK _ _ _=>match v with
  |.nilIface=>match P.underlying t with
   |some (.interface _)=>true
   |_=>false
  |_=>false
 |_=>false
theorem KM{P:Program}{t:TypeId}{s:SV}{v:Value}{β:Env}{W:World}(h:AR P t s v=true)(d:Nat):(Xc (d+1) t (s.den β) v).run P W=.ok false W:=by
 unfold AR at h;split at h
 ·split at h
  ·split at h
   ·rename_i hu
    simp[Xc,SV.den,run_underlying hu]
   ·cases h
  ·cases h
 ·split at h
  ·split at h
   ·rename_i hu
    simp[Xc,SV.den,run_underlying hu]
   ·cases h
  ·cases h
 ·split at h
  ·split at h
   ·rename_i hu
    simp[Xc,SV.den,run_underlying hu]
   ·cases h
  ·cases h
 ·cases h
theorem Dc{P:Program}{t:TypeId}{s:SV}{v:Value}{β:Env}(h:AR P t s v=true):(∃a n c n' c',s.den β=.slice a n c∧v=.slice none n' c')∨(∃a,s.den β=.pointer a∧v=.pointer none)∨(∃t' p,s.den β=.iface t' p∧v=.nilIface):=by
 cases s with
 |lO b off n c=>
  cases v with
  |slice a n' c'=>
   cases a with
   |none=>exact .inl ⟨_,_,_,_,_,rfl,rfl⟩
   |some _=>cases h
  |_=>cases h
 |ptr b off=>
  cases v with
  |pointer a=>
   cases a with
   |none=>exact .inr (.inl ⟨_,rfl,rfl⟩)
   |some _=>cases h
  |_=>cases h
 |jK t' b off=>
  cases v with
  |nilIface=>exact .inr (.inr ⟨_,_,rfl,rfl⟩)
  |_=>cases h
 |_=>cases h
theorem KL{P:Program}{t:TypeId}{s:SV}{v:Value}{β:Env}{W:World}(h:AR P t s v=true)(x y:Operand) :
  (do eqGuard .eql t x y (s.den β) v;binOp .eql t (s.den β) v:Sem Value).run P W=.ok (.bool false) W∧(do eqGuard .neq t x y (s.den β) v;binOp .neq t (s.den β) v:Sem Value).run P W=.ok (.bool true) W:=by
 have he:=KM (β:=β) (W:=W) h 9999;have hf:=Dc (β:=β) h;rcases hf with⟨_,_,_,_,_,h1,h2⟩ | ⟨_,h1,h2⟩ | ⟨_,_,h1,h2⟩
 ·subst h2
  rw[h1]at he ⊢;constructor<;>simp[eqGuard,binOp,XC,Xp,he]
 ·subst h2
  rw[h1]at he ⊢;constructor<;>simp[eqGuard,binOp,XC,Xp,he]
 ·subst h2
  rw[h1]at he ⊢;constructor<;>simp[eqGuard,binOp,XC,Xp,he]
def AD(P:Program)(H:List (Nat×Hint))(e:Operand→Option SV)(o:Oper):LV:=match o.op with
 |.call c=>match hint H o.dst with
  |some (.au g)=>match c.callee with
   |.value x=>match uO P e x with
    |some p=>match iK e c.args.toList with
     |some l=>.call p.1 (l++p.2) g
     |none=>.no
    |none=>.no
   |_=>.no
  |_=>.no
 |.indexAddr t x ix=>match e x with
  |some (.lO b off len _)=>match e ix with
   |some (.val (.int _ k))=>match P.underlying t with
    |some (.slice elem)=>match P.info? elem with
     |some inf=>match decide (0≤k∧k < len)with
      |true=>.val (.ptr b (off+k.toNat*inf.size))
      |false=>.no
     |none=>.no
    |_=>.no
   |_=>.no
  |_=>.no
 |.makeInterface t x=>match e x with
  |some (.ptr i off)=>match P.concrete t with
   |true=>.val (.jK t i off)
   |false=>.no
  |_=>.no
 |.extract x k=>match e x with
  |some (.kG l)=>match l[k]? with
   |some c=>.val c.sv
   |none=>.no
  |_=>.no
 |.makeFunc fn first captured=>match fn with
  |.func f=>match first.toList with
   | []=>match iK e captured.toList with
    |some l=>match fx l with
     |some asq=>.val (.Fe f asq)
     |none=>.no
    |none=>.no
   |_=>.no
  |_=>.no
 |.buildSlice t len parts=>match jk e 0 parts.toList with
  |some l=>match P.underlying t with
   |some (.slice el)=>match P.info? el with
    |some inf=>match inf.zero with
     |some z=>match eJ SV.one l&&(VP l.length len&&(VP inf.size 1&&(VP z.cells.toList.length 1&&(WR len 16777216&&Wc 0 len))))with
      |true=>.Fz el l len
      |false=>.no
     |none=>.no
    |none=>.no
   |_=>.no
  |none=>.no
 |.alloc t=>match hint H o.dst with
  |some (.tM l)=>match P.info? t with
   |some inf=>match inf.zero with
    |some z=>.ij t z.cells.toList l
    |none=>.no
   |none=>.no
  |_=>.no
 |.box t x=>match hint H o.dst with
  |some (.tM l)=>match e x with
   |some (.val v)=>.ij t v.cells.toList l
   |_=>.no
  |_=>.no
 |.build t parts=>match eJ (fun p=>isVal e p.2) parts.toList with
  |true=>.no
  |false=>match pY P e t parts.toList with
   |some l=>.val (.dG l)
   |none=>.no
 |.binOp op t x y _=>match e x with
  |some s=>match e y with
   |some (.val v)=>match AR P t s v with
    |true=>match op with
     |.eql=>.val (.val (.bool false))
     |.neq=>.val (.val (.bool true))
     |_=>.no
    |false=>.no
   |_=>.no
  |none=>.no
 |_=>.no
def LV.Ok(P:Program)(β:Env)(W:World)(a:Act)(o:Oper):LV→Prop
 |.no=>True
 |.val sv=>(execOp a.eval o).run P W=.ok (.value (sv.den β)) W
 |.call f args _=>(execOp a.eval o).run P W=.ok (.enter f (args.map (SV.den β)).toArray) W
 |.ij t cs _=>(execOp a.eval o).run P W=.ok (.value (.pointer (some ⟨W.heap.size,0,none⟩))) (W.alloc (.cells cs.toArray t))
 |.Fz t l len=>(execOp a.eval o).run P W=.ok (.value (.slice (some ⟨W.heap.size,0,none⟩) len len)) (W.alloc (.cells (l.map (SV.den β)).toArray t))
def LV.On(Q:Nat→Prop):LV→Prop
 |.val sv=>sv.on Q
 |.Fz _ l _=>∀s∈l,s.on Q
 |_=>True
section
variable{P:Program}{H:List (Nat×Hint)}{β:Env}{W:World}{a:Act}{o:Oper}{e:Operand→Option SV}
theorem Gm{f:FuncId}(h:JH P f=true)(args:Array Value):(callFunc f args).run P W=.ok (.enter f args) W:=by
 unfold JH at h;split at h
 ·rename_i fn hf
  split at h
  ·cases h
  ·rename_i hb
   rw[Xk]at hb;have hb1:¬fn.name= "runtime.NumGoroutine":=by simpa using hb.1
   have hb2:¬fn.body=none:=by intro h;rw[h]at hb;exact absurd hb.2 (by decide)
   simp[callFunc,hf,hb1,hb2]
 ·cases h
theorem Hn{x:Operand}{p:FuncId×List SV}(h:uO P e x=some p)(hx:∀sv,e x=some sv→a.eval x=sv.den β):JH P p.1=true∧∃cap:Array Value,a.eval x=.func (.func p.1) #[] cap∧cap.toList=p.2.map (SV.den β):=by
 unfold uO at h;split at h
 ·rename_i sv hsv
  have hx:=hx _ hsv;split at h
  ·rename_i v
   split at h
   ·rename_i fn first cap
    split at h
    ·rename_i f
     split at h
     ·rename_i hfirst
      split at h
      ·rename_i hf
       cases h;have:first=#[]:=by rw[←Wj (xs:=first),hfirst]
       subst this;exact⟨hf,cap,hx,by simp[SV.den,Function.comp_def]⟩
      ·cases h
     ·cases h
    ·cases h
   ·cases h
  ·rename_i f l
   split at h
   ·rename_i hf
    cases h;refine⟨hf,_,hx,?_⟩;rw[Wn];exact VS fun a _=>Atom.qi.symm
   ·cases h
  ·cases h
 ·cases h
theorem pj{β:Env}{a:Act}{e:Operand→Option SV}:∀{l:List (Nat×Operand)} {k:Nat} {vs:List SV},jk e k l=some vs→(∀i x,(i,x)∈l→∀sv,e x=some sv→a.eval x=sv.den β)→(l.map fun p=>(p.1,a.eval p.2))=((vs.map (SV.den β)).zipIdx k).map fun x=>(x.2,x.1)
 | [],k,vs,h,_=>by
  have:vs=[]:=by simpa[jk]using h.symm
  subst this;rfl
 | (i,x)::r,k,vs,h,he=>by
  unfold jk at h;simp only at h;split at h
  ·rename_i hi
   split at h
   ·rename_i v hx
    split at h
    ·rename_i l hl
     cases h;have h1:=pj hl fun i x hm=>he i x (VJ _ hm);have h2:=he i x (by simp) _ hx;rw[VQ,VQ,WC,VQ,h1];simp only[h2,VF hi]
    ·cases h
   ·cases h
  ·cases h
theorem qV{e:Operand→Option SV}:∀{l:List (Nat×Operand)} {k:Nat} {vs:List SV},jk e k l=some vs→∀s∈vs,∃i x,(i,x)∈l∧e x=some s
 | [],k,vs,h,s,hs=>by
  have:vs=[]:=by simpa[jk]using h.symm
  subst this;cases hs
 | (i,x)::r,k,vs,h,s,hs=>by
  unfold jk at h;simp only at h;split at h
  ·split at h
   ·rename_i v hx
    split at h
    ·rename_i l hl
     cases h;rcases Wh.1 hs with rfl|hs
     ·exact⟨i,x,by simp,hx⟩
     ·obtain⟨i',x',hm,hx'⟩:=qV hl s hs
      exact⟨i',x',VJ _ hm,hx'⟩
    ·cases h
   ·cases h
  ·cases h
theorem ET(he:∀x∈o.op.operands,∀sv,e x=some sv→a.eval x=sv.den β):(AD P H e o).Ok P β W a o:=by
 unfold AD;split
 ·rename_i c ho
  split
  ·rename_i g hg
   split
   ·rename_i x hcal
    split
    ·rename_i p hp
     split
     ·rename_i l hl
      obtain⟨callee,args,ats⟩:=c;simp only at hcal hl;subst hcal;obtain⟨hf,cap,hev,hcap⟩:=Hn (a:=a) (β:=β) hp (fun sv hsv=>he x (by simp[ho,VG,Call.operands]) sv hsv);have hm:=mY (β:=β) (a:=a) hl (fun x hx sv hsv=>he x (by have hx:x∈args:=Ws.1 hx;simp[ho,VG,Call.operands,hx]) sv hsv);have hm2:args.map a.eval++cap=((l++p.2).map (SV.den β)).toArray:=by rw[List.map_append,←hm,←hcap,←Wl,←Array.toList_append,Wj]
      show _=_;unfold execOp;simp only[ho,resolve,hev,Deferred.ofValue,invoke,VK,VU,VL];rw[show(#[]:Array Value)++args.map a.eval=args.map a.eval from by simp];rw[hm2];exact Gm hf _
     ·trivial
    ·trivial
   ·trivial
  ·trivial
 ·rename_i t x ix ho
  split
  ·rename_i b off len cap hx
   have hx:=he x (by simp[ho,VG]) _ hx;split
   ·rename_i kk k hk
    have hk:=he ix (by simp[ho,VG]) _ hk;split
    ·rename_i elem hu
     split
     ·rename_i inf hi
      split
      ·rename_i hb
       have hb:=of_decide_eq_true hb;show _=_;unfold execOp;simp[ho,hx,hk,SV.den,WN,run_underlying hu,asIntOf,hb,sizeOf,typeInfo,hi,Addr.add_lit]
      ·trivial
     ·trivial
    ·trivial
   ·trivial
  ·trivial
 ·rename_i t x ho
  split
  ·rename_i i off hx
   have hx:=he x (by simp[ho,VG]) _ hx;split
   ·rename_i hc
    show _=_;unfold execOp;simp only[ho,hx,SV.den,VK,run_makeInterface W t _ hc,VL,VU]
   ·trivial
  ·trivial
 ·rename_i x k ho
  split
  ·rename_i l hx
   have hx:=he x (by simp[ho,VG]) _ hx;split
   ·rename_i c hc
    show _=_;unfold execOp;rw[eK.qi];simp[ho,hx,show(SV.kG l).den β=.tuple (l.map (eK.den β)).toArray from rfl,Xw,hc]
   ·trivial
  ·trivial
 ·rename_i fn first captured ho
  split
  ·rename_i f
   split
   ·rename_i hfirst
    split
    ·rename_i l hl
     split
     ·rename_i asq has
      have hm:=mY (β:=β) (a:=a) hl (fun x hx sv hsv=>he x (by have hx:x∈captured:=Ws.1 hx;simp[ho,VG,hx]) sv hsv);have:first=#[]:=by rw[←Wj (xs:=first),hfirst]
      subst this;show _=_;unfold execOp;simp only[ho,Instr.makeFunc,VK,VU,VL,SV.den];rw[←lK has,←hm,←Wl,Wj,show Array.map a.eval #[]=#[]from by simp]
     ·trivial
    ·trivial
   ·trivial
  ·trivial
 ·rename_i t len parts ho
  split
  ·rename_i l hl
   have hp:=pj hl (fun i x hm sv hsv=>he x (by simp only[ho,VG];simp only[WD,VT];exact⟨(i,x),hm,rfl⟩) sv hsv);split
   ·rename_i el hu
    split
    ·rename_i inf hi
     split
     ·rename_i z hz
      split
      ·rename_i hh
       simp only[VI]at hh;obtain⟨h1,h2,h3,h4,h5,h6⟩:=hh;have h1:=aQ h1;have h3:=VF h3;have h2:=VF h2;have h4:=VF h4;have h5:=VH h5;have h6:0 < len:=VH h6;have h1':∀v∈l.map (SV.den β),v.cells.size=inf.size:=fun v hv=>by obtain⟨s,hs,rfl⟩:=VT.1 hv;rw[(nq (h1 s hs) β).1,h3];rfl
       have hflat:(l.map (SV.den β)).flatMap (fun v=>v.cells.toList)=l.map (SV.den β):=by
        have:∀l:List SV,(∀s∈l,s.one=true)→(l.map (SV.den β)).flatMap (fun v=>v.cells.toList)=l.map (SV.den β):=by
         intro l;induction l with
         |nil=>intro _;rfl
         |cons s l ih=>intro h;rw[VQ,List.flatMap_cons,(nq (h s (by simp)) β).1,ih fun s hs=>h s (VJ _ hs)];rfl
        exact this l h1
       show _=_;have hfill:=Great.fill_whole (s:=inf.size) (by omega) (l.map (SV.den β)) ((XB (len*inf.size)).map (z.cells[·%z.cells.size]!)) h1' (by simp[h2]);rw[←hp]at hfill;have hrun:=run_buildSlice (P:=P) W t el len (parts.map fun(i,x)=>(i,a.eval x)) _ inf z hu hi hz (by rw[h3];simp at h4 ⊢;omega) (by rw[h3];simp at h4 ⊢;omega) (by rw[Wl];exact hfill);unfold execOp;simp only[ho,VK,hrun,VL,VU];rw[hflat]
      ·trivial
     ·trivial
    ·trivial
   ·trivial
  ·trivial
 ·rename_i t ho
  split
  ·split
   ·rename_i inf hi
    split
    ·rename_i z hz
     show _=_;have:=JA (P:=P) (w0:=⟨W,[],fun _ _=>False⟩) (H:=[]) (β:=β) (W:=W) (a:=a) (o:=o) (e:=e) (row:=fun _=>none) (hn:=none) (ah.refl _ _) he (fun i r _ hi=>by cases hi);unfold eM at this;simp only[ho,hi,hz]at this;exact this
    ·trivial
   ·trivial
  ·trivial
 ·rename_i t x ho
  split
  ·split
   ·rename_i v hx
    have hx:=he x (by simp[ho,VG]) _ hx;show _=_;unfold execOp;simp[ho,hx,Xg,newVar,newRow,SV.den]
   ·trivial
  ·trivial
 ·rename_i t parts ho
  split
  ·trivial
  ·split
   ·rename_i l hl
    have hb:=Dr (P:=P) (β:=β) (a:=a) (W:=W) hl fun p hp sv hsv=>he p.2 (by simp only[ho,VG];simp only[WD,VT];exact⟨p,hp,rfl⟩) sv hsv;show _=_;unfold execOp;simp only[ho,VK];rw[hb];rfl
   ·trivial
 ·rename_i op t x y yt ho
  split
  ·rename_i s hs
   split
   ·rename_i v hv
    split
    ·rename_i hq
     have hx:=he x (by simp[ho,VG]) _ hs;have hy:a.eval y=v:=he y (by simp[ho,VG]) _ hv;have hok:=KL (β:=β) (W:=W) hq x y;split
     ·show _=_
      unfold execOp;simp only[ho,hx,hy,VK,VU];have:=hok.1;simp only[VK]at this;rw[this];rfl
     ·show _=_
      unfold execOp;simp only[ho,hx,hy,VK,VU];have:=hok.2;simp only[VK]at this;rw[this];rfl
     ·trivial
    ·trivial
   ·trivial
  ·trivial
 ·trivial
theorem Fv{Q:Nat→Prop}{xs:List Operand}{l:List SV}(h:iK e xs=some l)(he:∀x∈xs,∀sv,e x=some sv→sv.on Q):∀s∈l,s.on Q:=fun s hs=>by obtain⟨x,hx,hsv⟩:=kH h s hs;exact he x hx s hsv
theorem ES{Q:Nat→Prop}(he:∀x∈o.op.operands,∀sv,e x=some sv→sv.on Q):(AD P H e o).On Q:=by
 unfold AD;split
 ·repeat' split
  all_goals trivial
 ·rename_i t x ix ho
  split
  ·rename_i b off len cap hx
   have hx:=he x (by simp[ho,VG]) _ hx;repeat' split
   all_goals first|exact hx|trivial
  ·trivial
 ·rename_i t x ho
  split
  ·rename_i i off hx
   have hx:=he x (by simp[ho,VG]) _ hx;split
   ·exact hx
   ·trivial
  ·trivial
 ·rename_i x k ho
  split
  ·rename_i l hx
   have hx:=he x (by simp[ho,VG]) _ hx;split
   ·rename_i c hc
    exact eK.yZ (hx c (Wd hc))
   ·trivial
  ·trivial
 ·rename_i fn first captured ho
  split
  ·split
   ·split
    ·rename_i l hl
     split
     ·rename_i asq has
      exact nZ has (Fv hl fun x hx sv hsv=>he x (by have hx:x∈captured:=Ws.1 hx;simp[ho,VG,hx]) sv hsv)
     ·trivial
    ·trivial
   ·trivial
  ·trivial
 ·rename_i t len parts ho
  split
  ·rename_i l hl
   have hl:∀s∈l,s.on Q:=fun s hs=>by obtain⟨i,x,hm,hx⟩:=qV hl s hs;refine he x ?_ s hx;simp only[ho,VG];simp only[WD,VT];exact⟨(i,x),hm,rfl⟩
   repeat' split
   all_goals first|exact hl|trivial
  ·trivial
 ·repeat' split
  all_goals trivial
 ·repeat' split
  all_goals trivial
 ·rename_i t parts ho
  split
  ·trivial
  ·split
   ·rename_i l hl
    exact Dq hl fun p hp sv hsv=>he p.2 (by simp only[ho,VG];simp only[WD,VT];exact⟨p,hp,rfl⟩) sv hsv
   ·trivial
 ·repeat' split
  all_goals trivial
 ·trivial
end
def cg(β:Env)(row:Nat→Option Row)(i:Nat):Option Nat:=match row i with
 |some r=>av β i r
 |none=>none
structure dS(b:aY)(β:Env)(W:World)(row:Nat→Option Row)(gh:List Nat):Prop where
 aD:ah b.S b.w W
 held:∀i∈gh,∀r,row i=some r→aT β W i r
 new:∀i∈gh,∀r k,row i=some r→av β i r=some k→k∈b.S∨b.w.heap.size≤k
 inj:∀i∈gh,∀j∈gh,∀r r' k,row i=some r→row j=some r'→av β i r=some k→av β j r'=some k→i=j
def cn.dE(β:Env)(row:Nat→Option Row)(g:cn):List Nat:=(g.fI.map (·.1)++g.kill).filterMap (cg β row)
structure DH(β:Env)(W:World)(row:Nat→Option Row)(m:Nat)(g:cn)(e:Ending)(w':World)(β':Env):Prop where
 same:β.same β' (· < m)
 ret:e=.returned (g.ret.den β')
 fI:∀q∈g.fI,aT β' w' q.1 q.2
 new:∀(k:Nat) (r:Row),g.new[k]?=some r→aT β' w' (m+k) r
 from_:∀(k:Nat) (r:Row) (x:Nat),g.new[k]?=some r→av β' (m+k) r=some x→x∈g.kill.filterMap (cg β row)∨W.heap.size≤x
 apart:∀(k k':Nat) (r r':Row) (x:Nat),g.new[k]?=some r→g.new[k']?=some r'→av β' (m+k) r=some x→av β' (m+k') r'=some x→k=k'
 aD:ah (g.dE β row) W w'
def br(b:aY)(β:Env)(W:World)(row:Nat→Option Row)(m:Nat)(g:cn)(e:Ending)(w':World):Prop:=
 ((∀p,g.Cq=some p→p)∧∃β',DH β W row m g e w' β')∨(g.Cq.isSome=true∧∃chain,e=.panicked chain∧b.PP chain w'∧ah (g.dE β row) W w')
def SM(p:Option Prop)(K:Prop):Prop:=match p with
 |none=>K
 |some q=>q→K
theorem Nv{p:Option Prop}{K:Prop}(h:SM p K)(hp:∀q,p=some q→q):K:=by
 cases p with
 |none=>exact h
 |some q=>exact h (hp q rfl)
def PM(r:SV)(p:Option Prop)(K:Prop):Prop:=match r with
 |.gone=>match p with
  |some q=>¬q
  |none=>K
 |_=>SM p K
theorem KA{r:SV}{p:Option Prop}{K:Prop}(h:PM r p K)(hp:∀q,p=some q→q):K:=by
 cases r with
 |gone=>
  cases p with
  |none=>exact h
  |some q=>exact absurd (hp q rfl) h
 |_=>exact Nv h hp
def zV(i:Nat):List Nat→Bool
 | []=>false
 |j::r=>match VP j i with
  |true=>true
  |false=>zV i r
theorem mq{i:Nat}:∀{l:List Nat},zV i l=true↔i∈l
 | []=>by simp[zV]
 |j::r=>by
  unfold zV;split
  ·rename_i h
   rw[VF h];simp
  ·rename_i h
   have:j≠i:=fun hh=>by rw[hh,XE]at h;cases h
   rw[mq,Wh];exact⟨.inr,fun hh=>hh.resolve_left (Ne.symm this)⟩
def wO(i:Nat):List (Nat×Row)→Option Row
 | []=>none
 |q::r=>match VP q.1 i with
  |true=>some q.2
  |false=>wO i r
theorem uD{i:Nat}{r:Row}:∀{l:List (Nat×Row)},wO i l=some r→(i,r)∈l
 |q::l,h=>by
  unfold wO at h;split at h
  ·rename_i hb
   cases h;rw[←VF hb];simp
  ·exact VJ _ (uD h)
theorem uE{i:Nat}:∀{l:List (Nat×Row)},wO i l=none→i∉l.map (·.1)
 | [],_=>by simp
 |q::l,h=>by
  unfold wO at h;split at h
  ·cases h
  ·rename_i hb
   have:q.1≠i:=fun hh=>by rw[hh,XE]at hb;cases hb
   rw[VQ,Wh,not_or];exact⟨Ne.symm this,uE h⟩
def UF(g:cn)(i:Nat)(r:Row):Row:=match zV i g.kill with
 |true=>ak
 |false=>match wO i g.fI with
  |some r'=>r'
  |none=>r
def AB(g:cn):Nat→List Row→List Row
 |_,[]=>[]
 |i,r::l=>UF g i r::AB g (i+1) l
theorem AA{g:cn}:∀{l:List Row} {k i:Nat},(AB g k l)[i]?=(l[i]?).map (UF g (k+i))
 | [],k,i=>by simp[AB]
 |r::l,k,0=>by simp[AB]
 |r::l,k,i+1=>by rw[AB,Wp,Wp,AA,show k+1+i=k+(i+1)by omega]
theorem gN{g:cn}:∀{l:List Row} {k:Nat},(AB g k l).length=l.length
 | [],_=>rfl
 |r::l,k=>by rw[AB,VZ,VZ,gN]
def yj(mem:List Row)(g:cn):List Row:=AB g 0 mem++g.new
theorem jq{mem:List Row}{g:cn}:(yj mem g).length=mem.length+g.new.length:=by rw[yj,VY,gN]
def ym(mem:List Row)(i:Nat):Bool:=match mem[i]? with
 |some r=>r.fixed
 |none=>false
def KC(mem:List Row)(g:cn):Bool:=
 eJ (fun q=>(ym mem q.1&&q.2.fixed)&&(lk (mem.length+g.new.length) q.2.cs&&zV q.1 g.gh)) g.fI&&(eJ (fun i=>zV i g.gh) g.kill&&(eJ (fun r=>lk (mem.length+g.new.length) r.cs) g.new&&zb (mem.length+g.new.length) g.ret))
section
variable{P:Program}{w0:aY}{ds:List Deferred}{w w':World}{n:Nat}{β β':Env}{st:St}{a:Act}{g:cn}
theorem pN{mem:List Row}{i:Nat}(h:ym mem i=true):∃r,mem[i]?=some r∧r.fixed=true:=by
 unfold ym at h;split at h
 ·rename_i r hr;exact⟨r,hr,h⟩
 ·cases h
theorem Hd.gh(h:Hd ds w0 n β st a w)(l:List Nat):dS w0 β w (rowAt st.mem) l:=
 ⟨h.aD,fun i _ r hr=>h.bY i r hr,fun i _ r k hr hk=>h.new i r k hr hk,fun i _ j _ r r' k hi hj hk hk'=>h.inj i j r r' k hi hj hk hk'⟩
theorem qg{row:Nat→Option Row}{k:Nat}(hk:k∈g.dE β row):∃i r,(i∈g.fI.map (·.1)∨i∈g.kill)∧row i=some r∧av β i r=some k:=by
 unfold cn.dE at hk;obtain⟨i,hi,hb⟩:=Xo.1 hk;unfold cg at hb;split at hb
 ·rename_i r hr
  exact⟨i,r,Wv.1 hi,hr,hb⟩
 ·cases hb
theorem EL{row:Nat→Option Row}{k:Nat}(hk:k∈g.kill.filterMap (cg β row)):∃i r,i∈g.kill∧row i=some r∧av β i r=some k:=by
 obtain⟨i,hi,hb⟩:=Xo.1 hk;unfold cg at hb;split at hb
 ·rename_i r hr
  exact⟨i,r,hi,hr,hb⟩
 ·cases hb
theorem Hd.dE(h:Hd ds w0 n β st a w):∀k∈g.dE β (rowAt st.mem),k∈w0.S∨w0.w.heap.size≤k:=fun k hk=>by obtain⟨i,r,_,hr,hb⟩:=qg hk;exact h.new i r k hr hb
theorem Hd.Tj{e:Ending}(h:Hd ds w0 n β st a w)(hok:KC st.mem g=true)(hr:DH β w (rowAt st.mem) st.mem.length g e w' β'):Hd ds w0 n β' ⟨st.fr,yj st.mem g⟩ a w'∧g.ret.on (· < (yj st.mem g).length):=by
 unfold KC at hok;simp only[VI]at hok;obtain⟨hu,_,hn,hret⟩:=hok;have hu:=aQ hu;have hn:=aQ hn;have updOk:∀q∈g.fI,(∃r,st.mem[q.1]?=some r∧r.fixed=true)∧q.2.fixed=true∧q.2.cs.on (· < (yj st.mem g).length):=fun q hq=>by have:=hu q hq;simp only[VI]at this;exact⟨pN this.1.1,this.1.2,by rw[jq];exact iZ this.2.1⟩
 have up:∀i,i < st.mem.length→i < (yj st.mem g).length:=fun i hi=>by rw[jq];omega
 have at_:∀(i:Nat) (r:Row),(yj st.mem g)[i]?=some r→(i < st.mem.length∧((∃r0,st.mem[i]?=some r0∧i∉g.kill∧((i,r)∈g.fI∨(i∉g.fI.map (·.1)∧r=r0)))∨r=ak))∨∃k,i=st.mem.length+k∧g.new[k]?=some r:=by
  intro i r hi;unfold yj at hi;by_cases hlt:i < st.mem.length
  ·rw[VO (by rw[gN];exact hlt),AA,Wz]at hi
   obtain⟨r0,h0⟩:∃r0,st.mem[i]?=some r0:=⟨_,WZ hlt⟩;rw[h0,Wo,Wb.injEq]at hi;refine .inl ⟨hlt,?_⟩;unfold UF at hi;split at hi
   ·exact .inr hi.symm
   ·rename_i hkk
    have hkk:i∉g.kill:=fun hh=>by rw[mq.2 hh]at hkk;cases hkk
    split at hi
    ·rename_i r' hr'
     subst hi;exact .inl ⟨r0,h0,hkk,.inl (uD hr')⟩
    ·rename_i hr'
     exact .inl ⟨r0,h0,hkk,.inr ⟨uE hr',hi.symm⟩⟩
  ·rw[VM (by rw[gN];omega),gN]at hi
   exact .inr ⟨i - st.mem.length,by omega,hi⟩
 have oldBlk:∀(i:Nat) (r:Row) (k:Nat),i < st.mem.length→(∃r0,st.mem[i]?=some r0∧i∉g.kill∧((i,r)∈g.fI∨(i∉g.fI.map (·.1)∧r=r0)))→av β' i r=some k→∃r0,st.mem[i]?=some r0∧i∉g.kill∧av β i r0=some k:=by
  rintro i r k hlt ⟨r0,h0,hkk,hc⟩ hb;refine⟨r0,h0,hkk,?_⟩;rcases hc with hq|⟨_,rfl⟩
  ·obtain⟨⟨r1,h1,hf1⟩,hf,_⟩:=updOk _ hq
   simp only at h1 hf;rw[h0]at h1;cases h1;rw[aF hf]at hb;rw[aF hf1,(hr.same i hlt).1];exact hb
  ·rw[aV hr.same hlt];exact hb
 have deadBlk:∀(γ:Env) (i k:Nat),av γ i ak≠some k:=fun γ i k hh=>by cases hh
 refine⟨⟨h.size,h.dn,fun t sv ht=>?_,fun i r hi=>?_,fun i r k hi hb=>?_,fun i j r r' k hi hj hb hb'=>?_,h.aD.seq hr.aD h.dE,fun t sv ht=>?_,fun i r hi=>?_⟩,?_⟩
 ·rw[h.get t sv ht,SV.bV hr.same (h.vo t sv ht)]
 ·rcases at_ i r hi with⟨hlt,hc|rfl⟩ | ⟨k,rfl,hk'⟩
  ·obtain⟨r0,h0,hkk,hc⟩:=hc
   rcases hc with hq|⟨hnu,rfl⟩
   ·exact hr.fI _ hq
   ·refine aT.congr hr.same hlt (h.vg i r h0) ((h.bY i r h0).aD hr.aD fun k hb hm=>?_)
    obtain⟨j,r1,hj,h1,hb1⟩:=qg hm;have:=h.inj i j r r1 k h0 h1 hb hb1;subst this;rcases hj with hj|hj
    ·exact hnu hj
    ·exact hkk hj
  ·trivial
  ·exact hr.new k r hk'
 ·rcases at_ i r hi with⟨hlt,hc|rfl⟩ | ⟨k',rfl,hk'⟩
  ·obtain⟨r0,h0,_,hb0⟩:=oldBlk i r k hlt hc hb
   exact h.new i r0 k h0 hb0
  ·exact absurd hb (deadBlk _ _ _)
  ·rcases hr.from_ k' r k hk' hb with hx|hx
   ·obtain⟨j,r1,_,h1,hb1⟩:=EL hx
    exact h.new j r1 k h1 hb1
   ·exact .inr (XD h.aD.size hx)
 ·have mixed:∀(i k':Nat) (r r':Row),i < st.mem.length→(∃r0,st.mem[i]?=some r0∧i∉g.kill∧((i,r)∈g.fI∨(i∉g.fI.map (·.1)∧r=r0)))→av β' i r=some k→g.new[k']?=some r'→av β' (st.mem.length+k') r'=some k→False:=by
   intro i k' r r' hlt hc hb hk' hb';obtain⟨r0,h0,hkk,hb0⟩:=oldBlk i r k hlt hc hb;rcases hr.from_ k' r' k hk' hb' with hx|hx
   ·obtain⟨j,r1,hj,h1,hb1⟩:=EL hx
    have:=h.inj i j r0 r1 k h0 h1 hb0 hb1;subst this;exact hkk hj
   ·have:=(h.bY i r0 h0).lt hb0
    omega
  rcases at_ i r hi with⟨hlt,hc|rfl⟩ | ⟨k1,rfl,hk1⟩
  ·rcases at_ j r' hj with⟨hlt',hc' | rfl⟩ | ⟨k2,rfl,hk2⟩
   ·obtain⟨r0,h0,_,hb0⟩:=oldBlk i r k hlt hc hb
    obtain⟨r1,h1,_,hb1⟩:=oldBlk j r' k hlt' hc' hb';exact h.inj i j r0 r1 k h0 h1 hb0 hb1
   ·exact absurd hb' (deadBlk _ _ _)
   ·exact(mixed i k2 r r' hlt hc hb hk2 hb').elim
  ·exact absurd hb (deadBlk _ _ _)
  ·rcases at_ j r' hj with⟨hlt',hc' | rfl⟩ | ⟨k2,rfl,hk2⟩
   ·exact(mixed j k1 r' r hlt' hc' hb' hk1 hb).elim
   ·exact absurd hb' (deadBlk _ _ _)
   ·rw[hr.apart k1 k2 r r' k hk1 hk2 hb hb']
 ·exact SV.aW up (h.vo t sv ht)
 ·rcases at_ i r hi with⟨hlt,hc|rfl⟩ | ⟨k',rfl,hk'⟩
  ·obtain⟨r0,h0,_,hq|⟨_,rfl⟩⟩:=hc
   ·exact(updOk _ hq).2.2
   ·exact Cells.aW up (h.vg i r h0)
  ·trivial
  ·rw[jq];exact iZ (hn r (Wd hk'))
 ·rw[jq];exact mX hret
def gF:St→Nat→List (Nat×TypeId×Nat)→Option St
 |st,_,[]=>some st
 |st,i,q::l=>match st.mem[i]? with
  |some r=>match r.cs with
   |.ai cs=>match cs[q.1]? with
    |some (.slice none 0 0)=>gF ⟨st.fr,(st.mem.set i ⟨r.ty,.cU ((cs.map .val).set q.1 (.own st.mem.length))⟩)++[⟨q.2.1,.own q.2.2 0 []⟩]⟩ i l
    |some (.pointer none)=>gF ⟨st.fr,st.mem.set i ⟨r.ty,.cU ((cs.map .val).set q.1 (.dQ false i 0))⟩⟩ i l
    |_=>none
   |.cU cs=>match cs[q.1]? with
    |some (.val (.slice none 0 0))=>gF ⟨st.fr,(st.mem.set i ⟨r.ty,.cU (cs.set q.1 (.own st.mem.length))⟩)++[⟨q.2.1,.own q.2.2 0 []⟩]⟩ i l
    |some (.val (.pointer none))=>gF ⟨st.fr,st.mem.set i ⟨r.ty,.cU (cs.set q.1 (.dQ false i 0))⟩⟩ i l
    |_=>none
   |_=>none
  |none=>none
theorem zu{α:Type}{l:List α}{k:Nat}{x:α}(h:l[k]?=some x):l.set k x=l:=by obtain⟨hk,rfl⟩:=VN.1 h;exact List.set_getElem_self hk
theorem Hd.nil{i p T size:Nat}{r:Row}{cs:List SV}(h:Hd ds w0 n β st a w)(hi:st.mem[i]?=some r)(hd:r.cs.den β=cs.map (SV.den β))(hf:r.fixed=true)(hon:∀s∈cs,s.on (· < st.mem.length))(hp:cs[p]?=some (.val (.slice none 0 0))) :
  Hd ds w0 n (β.gp st.mem.length none 0 0) ⟨st.fr,(st.mem.set i ⟨r.ty,.cU (cs.set p (.own st.mem.length))⟩)++[⟨T,.own size 0 []⟩]⟩ a w:=by
 have hil:i < st.mem.length:=(VN.1 hi).1;have hgrow:=h.grow (kill:=none) (A:=none) (T:=T) (size:=size) (nn:=0) (cc:=0) (xs:=[]) (S:=[]) (w':=w) ⟨by simp,.inl ⟨rfl,rfl⟩⟩ (ah.refl _ _) (by simp) (by simp);have same:β.same (β.gp st.mem.length none 0 0) (· < st.mem.length):=rN.mono fun i hi=>WU hi;have h0:(dZ st.mem none++[(⟨T,.own size 0 []⟩:Row)])[i]?=some r:=by rw[dZ,VO hil];exact hi
 have hfx:(⟨r.ty,.cU (cs.set p (.own st.mem.length))⟩:Row).fixed=true:=rfl;have hcells:(Cells.cU (cs.set p (.own st.mem.length))).den (β.gp st.mem.length none 0 0)=r.cs.den β:=by rw[hd];show(cs.set p (.own st.mem.length)).map _=_;rw[Wy];have e:cs.map (SV.den (β.gp st.mem.length none 0 0))=cs.map (SV.den β):=(VS fun s hm=>SV.bV same (hon s hm)).symm;rw[e];refine zu ?_;rw[Wi,hp];show some (Wu none 0 0)=some ((β.gp st.mem.length none 0 0).sl st.mem.length);rw[kE]
 have hb:aT (β.gp st.mem.length none 0 0) w i ⟨r.ty,.cU (cs.set p (.own st.mem.length))⟩:=by refine aT.ml ?_ hfx (fun g hg=>by cases hg);rw[hcells];have:=(h.bY i r hi).bY hf;rwa [(same i hil).1]at this
 have hst:=hgrow.store (i:=i) (r0:=r) (r:=⟨r.ty,.cU (cs.set p (.own st.mem.length))⟩) h0 (by rw[aF hfx,aF hf]) hb (ah.refl _ _) (fun s hs=>by
  rcases VX hs with hs|rfl
  ·exact SV.aW (fun i hi=>by show i < (dZ st.mem none++_).length;simp[dZ];omega) (hon s hs)
  ·show st.mem.length < (dZ st.mem none++_).length;simp[dZ])
 have e:(dZ st.mem none++[(⟨T,.own size 0 []⟩:Row)]).set i ⟨r.ty,.cU (cs.set p (.own st.mem.length))⟩=(st.mem.set i ⟨r.ty,.cU (cs.set p (.own st.mem.length))⟩)++[⟨T,.own size 0 []⟩]:=by rw[dZ,List.set_append_left _ _ hil]
 simp only at hst;rw[e]at hst;exact hst
theorem Hd.Qw{i p:Nat}{r:Row}{cs:List SV}(h:Hd ds w0 n β st a w)(hi:st.mem[i]?=some r)(hd:r.cs.den β=cs.map (SV.den β))(hf:r.fixed=true)(hon:∀s∈cs,s.on (· < st.mem.length))(hp:cs[p]?=some (.val (.pointer none))) :
  Hd ds w0 n β ⟨st.fr,st.mem.set i ⟨r.ty,.cU (cs.set p (.dQ false i 0))⟩⟩ a w:=by
 have hil:i < st.mem.length:=(VN.1 hi).1;have hfx:(⟨r.ty,.cU (cs.set p (.dQ false i 0))⟩:Row).fixed=true:=rfl;have hcells:(Cells.cU (cs.set p (.dQ false i 0))).den β=r.cs.den β:=by rw[hd];show(cs.set p (.dQ false i 0)).map _=_;rw[Wy];refine zu ?_;rw[Wi,hp];rfl
 have hb:aT β w i ⟨r.ty,.cU (cs.set p (.dQ false i 0))⟩:=by refine aT.ml ?_ hfx (fun g hg=>by cases hg);rw[hcells];exact(h.bY i r hi).bY hf
 exact h.store (i:=i) (r0:=r) (r:=⟨r.ty,.cU (cs.set p (.dQ false i 0))⟩) hi (by rw[aF hfx,aF hf]) hb (ah.refl _ _) (fun s hs=>by
  rcases VX hs with hs|rfl
  ·exact hon s hs
  ·exact hil)
theorem Hd.ij:∀{l:List (Nat×TypeId×Nat)} {st st':St} {β:Env} {i:Nat},Hd ds w0 n β st a w→gF st i l=some st'→∃β',Hd ds w0 n β' st' a w∧β.same β' (· < st.mem.length)∧st.mem.length≤st'.mem.length
 | [],st,st',β,i,h,hs=>by rw[gF]at hs;cases hs;exact⟨β,h,fun _ _=>⟨rfl,rfl,rfl,rfl⟩,Wx _⟩
 |q::l,st,st',β,i,h,hs=>by
  have go:∀(cs:List SV) (r:Row),st.mem[i]?=some r→r.cs.den β=cs.map (SV.den β)→r.fixed=true→(∀s∈cs,s.on (· < st.mem.length))→cs[q.1]?=some (.val (.slice none 0 0))→gF ⟨st.fr,(st.mem.set i ⟨r.ty,.cU (cs.set q.1 (.own st.mem.length))⟩)++[⟨q.2.1,.own q.2.2 0 []⟩]⟩ i l=some st'→∃β',Hd ds w0 n β' st' a w∧β.same β' (· < st.mem.length)∧st.mem.length≤st'.mem.length:=by intro cs r hi hd hf hon hp hs;obtain⟨β',h1,h2,h3⟩:=Hd.ij (h.nil (T:=q.2.1) (size:=q.2.2) hi hd hf hon hp) hs;simp only[VY,WH,VZ,WI]at h2 h3;refine⟨β',h1,fun i hi=>?_,by omega⟩;have s1:=(rN (β:=β) (m:=st.mem.length) (A:=none) (nn:=0) (cc:=0)) i (WU hi);have s2:=h2 i (show i < _ by omega);exact⟨s1.1.trans s2.1,s1.2.1.trans s2.2.1,s1.2.2.1.trans s2.2.2.1,s1.2.2.2.trans s2.2.2.2⟩
  have goP:∀(cs:List SV) (r:Row),st.mem[i]?=some r→r.cs.den β=cs.map (SV.den β)→r.fixed=true→(∀s∈cs,s.on (· < st.mem.length))→cs[q.1]?=some (.val (.pointer none))→gF ⟨st.fr,st.mem.set i ⟨r.ty,.cU (cs.set q.1 (.dQ false i 0))⟩⟩ i l=some st'→∃β',Hd ds w0 n β' st' a w∧β.same β' (· < st.mem.length)∧st.mem.length≤st'.mem.length:=by intro cs r hi hd hf hon hp hs;obtain⟨β',h1,h2,h3⟩:=Hd.ij (h.Qw hi hd hf hon hp) hs;simp only[WH]at h2 h3;exact⟨β',h1,h2,h3⟩
  rw[gF]at hs;split at hs
  ·rename_i r hi
   split at hs
   ·rename_i cs hcs
    have vv:∀s∈cs.map SV.val,s.on (· < st.mem.length):=fun s hs=>by obtain⟨v,_,rfl⟩:=VT.1 hs;trivial
    split at hs
    ·rename_i hp
     exact go (cs.map .val) r hi (by rw[hcs];simp[Cells.den,SV.den,Function.comp_def]) (by unfold Row.fixed;rw[hcs]) vv (by rw[Wi,hp];rfl) hs
    ·rename_i hp
     exact goP (cs.map .val) r hi (by rw[hcs];simp[Cells.den,SV.den,Function.comp_def]) (by unfold Row.fixed;rw[hcs]) vv (by rw[Wi,hp];rfl) hs
    ·cases hs
   ·rename_i cs hcs
    have hon:=h.vg i r hi;rw[hcs]at hon;split at hs
    ·rename_i hp
     exact go cs r hi (by rw[hcs];rfl) (by unfold Row.fixed;rw[hcs]) hon hp hs
    ·rename_i hp
     exact goP cs r hi (by rw[hcs];rfl) (by unfold Row.fixed;rw[hcs]) hon hp hs
    ·cases hs
   ·cases hs
  ·cases hs
end
section
variable(P:Program)(H:List (Nat×Hint))(n:Nat)(w0:aY)
inductive cj {α:Type} (_:α):Prop
def Tag(_:Nat)(p:Prop):Prop:=p
def keyOf(o:Oper):Nat:=match o.dst with
 |some d=>d
 |none=>match o.op with
  |.store _ (.tmp x) _=>100000+x
  |_=>0
def nO(o:Oper)(ob:Option Prop)(K:Prop):Prop:=match ob with
 |none=>K
 |some p=>Tag (keyOf o) p∧K
theorem gL{o:Oper}{ob:Option Prop}{K:Prop}(h:nO o ob K):∀p,ob=some p→p:=by intro p hp;subst hp;exact h.1
theorem jl{o:Oper}{ob:Option Prop}{K:Prop}(h:nO o ob K):K:=by
 cases ob with
 |none=>exact h
 |some p=>exact h.2
def II(o:Oper)(st:St)(K:St→Prop):Prop:=
 match eM P w0 H (hint H o.dst) (ev st.fr) (rowAt st.mem) o with
 |.val sv ob=>nO o ob (K (st.put n o.dst sv))
 |.call f args v=>Tag (keyOf o) (∀W,ah w0.S w0.w W→Calls P f args.toArray W (Rn W v))∧K (st.put n o.dst (.val v))
 |.alloc t cs ln=>K ((⟨st.fr,st.mem++[⟨t,cs⟩]⟩:St).put n o.dst (kW st.mem.length ln))
 |.store i r ob=>nO o ob (K ((⟨st.fr,st.mem.set i r⟩:St).put n o.dst (.val undef)))
 |.dF i r ob=>nO o ob (K ((⟨st.fr,st.mem.set i r⟩:St).put n o.dst (.val undef)))
 |.grow kill t size nn xs ob=>nO o ob (K ((⟨st.fr,dZ st.mem kill++[⟨t,.own size nn xs⟩]⟩:St).put n o.dst (.own st.mem.length)))
 |.dc f args r=>Tag (keyOf o) (∀W,ah w0.S w0.w W→gg (rowAt st.mem) W args fun vs=>Calls P f vs.toArray W (eC W r))∧K ((⟨st.fr,DL st.mem (gT r)⟩:St).put n o.dst (gn st.mem.length r))
 |.eS f i r=>Tag (keyOf o) (∀W,ah w0.S w0.w W→DA (rowAt st.mem) W i fun s=>Calls P f #[s] W (pc W s r))∧K ((⟨st.fr,DL (dZ st.mem (some i)) (gT r)⟩:St).put n o.dst (gn st.mem.length r))
 |.ek f args x=>match x with
  |.fI p i row v=>Tag (keyOf o) (∀W,ah w0.S w0.w W→gg (rowAt st.mem) W args fun vs=>Calls P f vs.toArray W (sg w0 W vs (.fI p i row v)))∧K ((⟨st.fr,st.mem.set i row⟩:St).put n o.dst (.val v))
  |.El ps=>Tag (keyOf o) (∀W,ah w0.S w0.w W→gg (rowAt st.mem) W args fun vs=>Calls P f vs.toArray W (sg w0 W vs (.El ps)))∧True
 |.bad=>cj o
def step(o:Oper)(st:St)(K:St→Prop):Prop:=match AD P H (ev st.fr) o with
 |.val sv=>K (st.put n o.dst sv)
 |.call f args g=>match KC st.mem g with
  |true=>Tag (keyOf o) (∀W β,dS w0 β W (rowAt st.mem) g.gh→Calls P f (args.map (SV.den β)).toArray W (br w0 β W (rowAt st.mem) st.mem.length g))∧PM g.ret g.Cq (K ((⟨st.fr,yj st.mem g⟩:St).put n o.dst g.ret))
  |false=>cj o
 |.ij t cs l=>match gF ⟨st.fr,st.mem++[⟨t,.ai cs⟩]⟩ st.mem.length l with
  |some st'=>K (st'.put n o.dst (.ptr st.mem.length 0))
  |none=>cj o
 |.Fz t l len=>K ((⟨st.fr,st.mem++[⟨t,.cU l⟩]⟩:St).put n o.dst (.lO st.mem.length 0 len len))
 |.no=>II P H n w0 o st K
def guardOf(ops:Array Oper)(fr:List (Nat×SV))(o:Oper):Option Bool:=
 match o.guard with
 |none=>some true
 |some (j,b)=>match ops[j]? with
  |none=>none
  |some oj=>match oj.dst with
   |none=>none
   |some t=>match look fr t with
    |some (.val v)=>match v with
     |.bool c=>some (c==b)
     |_=>some false
    |_=>none
def qB(ops:Array Oper)(fr:List (Nat×SV))(o:Oper):Option (Nat×Bool):=match o.guard with
 |none=>none
 |some q=>match ops[q.1]? with
  |none=>none
  |some oj=>match oj.dst with
   |none=>none
   |some t=>match look fr t with
    |some (.val v)=>match v with
     |.bool c=>some (t,c)
     |_=>none
    |_=>none
def St.lit(st:St)(t:Nat)(c:Bool):St:=⟨(t,.val (.bool c))::st.fr,st.mem⟩
def xv(ops:Array Oper)(o:Oper)(st:St)(K:St→Prop):Prop:=match qB ops st.fr o with
 |none=>K st
 |some q=>match q.2 with
  |true=>K (st.lit q.1 true)
  |false=>K (st.lit q.1 false)
def ru(ops:Array Oper):List Oper→St→(St→Prop)→Prop
 | [],st,K=>K st
 |o::l,st,K=>xv ops o st fun st=>match guardOf ops st.fr o with
  |some true=>step P H n w0 o st (fun st'=>ru ops l st' K)
  |some false=>ru ops l (st.put n o.dst (.val undef)) K
  |none=>cj o
end
section
variable{P:Program}{H:List (Nat×Hint)}{n:Nat}{w0:aY}{ds:List Deferred}{w:World}{β:Env}{st:St}{a:Act}{ops:Array Oper}{Q:Exit→Act→World→Prop}
theorem pI{o:Oper}{b:Bool}(h:Hd ds w0 n β st a w)(hg:guardOf ops st.fr o=some b):Region.wanted o (yielded ops a.tmps)=b:=by
 unfold guardOf at hg;unfold Region.wanted;split at hg
 ·rename_i hn;rw[hn];simpa using hg
 ·rename_i j b' hn
  rw[hn];split at hg
  ·cases hg
  ·rename_i oj hoj
   split at hg
   ·cases hg
   ·rename_i t ht
    split at hg
    ·rename_i v hc
     have:=h.get t _ hc;simp only[yielded,hoj,Option.bind_some,ht,this,SV.den];split at hg
     ·rename_i c
      have hb:(c==b')=b:=Wb.inj hg;rw[←hb];cases c<;>cases b'<;>rfl
     ·rename_i hnb
      have hb:false=b:=Wb.inj hg;rw[←hb];cases v<;>first|rfl|exact absurd rfl (hnb _)
    ·cases hg
theorem IH{o:Oper}{K:St→Prop}{next:Act→World→Prop}(h:Hd ds w0 n β st a w)(hs:II P H n w0 o st K)(hP:∀chain a w',a.defers=ds→w0.PP chain w'→ah w0.S w0.w w'→Q (.panic chain) a w')(hK:∀β' st' a' w',K st'→Hd ds w0 n β' st' a' w'→next a' w'):o.wp P a w next Q:=by
 have ho:=JA (P:=P) (w0:=w0) (H:=H) (β:=β) (W:=w) (a:=a) (o:=o) (e:=ev st.fr) (row:=rowAt st.mem) (hn:=hint H o.dst) h.aD (fun x _ sv hx=>h.eval hx) (fun i r _ hi=>h.bY i r hi);have hon:=PD (P:=P) (w0:=w0) (H:=H) (o:=o) (e:=ev st.fr) (row:=rowAt st.mem) (hn:=hint H o.dst) (Q:=(· < st.mem.length)) (fun x _ sv hx=>h.Tn hx) (fun i r _ hi=>h.vg i r hi);unfold II at hs;unfold Oper.wp;cases hr:eM P w0 H (hint H o.dst) (ev st.fr) (rowAt st.mem) o with
 |val sv ob=>rw[hr]at hs ho hon;simp only at hs;rw[ho (gL hs)];exact hK _ _ _ _ (jl hs) (h.put o.dst hon)
 |call f args v=>rw[hr]at hs ho hon;simp only at hs;rw[show(execOp a.eval o).run P w=_ from ho];refine(hs.1 w h.aD).mono fun e w' ⟨he,hc⟩=>?_;subst he;exact hK _ _ _ _ hs.2 ((h.later hc).put o.dst (sv:=.val v) trivial)
 |alloc t cs ln=>obtain⟨hf,hft⟩:=rC hr;rw[hr]at hs ho hon;simp only at hs;rw[show(execOp a.eval o).run P w=_ from ho];have h2:=(h.alloc t hf hft hon).put o.dst (sv:=kW st.mem.length ln) (EB (by simp));rw[zY]at h2;exact hK _ _ _ _ hs h2
 |store i r ob=>obtain⟨_,hf,r0,h0,hf0,htg⟩:=lL hr;rw[hr]at hs ho hon;simp only at hs;obtain⟨w',hrun,hb,hc⟩:=ho (gL hs);rw[hrun];exact hK _ _ _ _ (jl hs) ((h.store h0 (by rw[aF hf,aF hf0]) (aT.ml hb hf (fun g hg=>(h.bY i r0 h0).tag g (by rw[←htg];exact hg))) (by rw[aF hf0];exact hc) hon.2).put o.dst (sv:=.val undef) trivial)
 |dF i r ob=>obtain⟨_,r0,h0,hbk⟩:=kI hr;rw[hr]at hs ho hon;simp only at hs;obtain⟨w',hrun,hb,hc⟩:=ho (gL hs);rw[hrun];rw[hbk β]at hc;exact hK _ _ _ _ (jl hs) ((h.store h0 (hbk β) hb hc hon.2).put o.dst (sv:=.val undef) trivial)
 |grow kill t size nn xs ob=>
  have htc:∀i,kill=some i→∃r,st.mem[i]?=some r∧∃s m ys,r.cs=.own s m ys:=fun i hi=>by subst hi;exact(oC hr).2
  rw[hr]at hs ho;simp only at hs;obtain⟨A,cc,w',S,hrun,hown,hch,hS,hA⟩:=ho (gL hs);rw[hrun];have h2:=(h.grow (kill:=kill) hown hch (fun k hk=>by obtain⟨i,hi,hb⟩:=hS k hk;obtain⟨r,h0,s,m,ys,hcs⟩:=htc i hi;exact⟨i,r,hi,h0,by unfold av;rw[hcs];exact hb⟩) hA).put o.dst (sv:=.own st.mem.length) (by show _ < _;cases kill<;>simp[dZ]);simp only[SV.den,kE]at h2;exact hK _ _ _ _ (jl hs) h2
 |dc f args r=>
  rw[hr]at hs ho;simp only at hs;rw[show(execOp a.eval o).run P w=_ from ho];have hcall:=eu (β:=β) (hs.1 w h.aD) (fun i _ _ _ r' hr'=>h.bY i r' hr');refine hcall.mono fun e w' hp=>?_;rcases Jb hp with⟨v,rfl,rfl,hc⟩ | ⟨T,size,nn,xs,A,cc,hrr,hown,hc,hA,hsv⟩
  ·exact hK _ _ _ _ hs.2 ((h.later hc).put o.dst (sv:=.val v) trivial)
  ·obtain⟨he,hon'⟩:=hsv β st.mem.length
   subst he;have hk:=hs.2;rw[hrr]at hk;exact hK _ _ _ _ hk ((h.grow (kill:=none) hown hc (by simp) (fun k hk=>.inr (hA k hk))).put o.dst (SV.aW (fun i hi=>by rw[hi];simp[dZ]) hon'))
 |eS f i r=>rw[hr]at hs ho;simp only at hs;rw[show(execOp a.eval o).run P w=_ from ho];have hcall:=Fm (β:=β) (hs.1 w h.aD) (fun r' hr'=>h.bY i r' hr');obtain⟨r0,h0,s0,m0,y0,hc0⟩:=uV (hs.1 w h.aD);refine hcall.mono fun e w' hp=>?_;obtain⟨T,size,nn,xs,A,cc,hrr,hown,hc,hA,hsv⟩:=Eh hp;obtain⟨he,hon'⟩:=hsv β st.mem.length;subst he;have hk:=hs.2;rw[hrr]at hk;rw[zq]at hc hA;exact hK _ _ _ _ hk ((h.grow (kill:=some i) hown hc (fun k hk=>⟨i,r0,rfl,h0,by unfold av;rw[hc0];simpa using hk⟩) (fun k hk=>(hA k hk).imp (fun h=>by simpa using h) id)).put o.dst (SV.aW (fun i hi=>by rw[hi];simp[dZ]) hon'))
 |ek f args x=>
  obtain⟨_,hx2,hx3⟩:=oG hr;rw[hr]at hs ho hon;simp only at hs;rw[show(execOp a.eval o).run P w=_ from ho];cases x with
  |fI p i row v=>
   obtain⟨hpi,_,r0,h0,hty,hf0,hf,htg⟩:=hx2 p i row v rfl;have h0:st.mem[i]?=some r0:=h0;have hcall:=eu (β:=β) (hs.1 w h.aD) (fun i _ _ _ r' hr'=>h.bY i r' hr');refine hcall.mono fun e w' hp=>?_;obtain⟨g,l,hg,hl,rfl,hb,hc⟩:=hp;rw[Wi,hpi]at hg;have hgi:β i=g:=by simpa[SV.den]using hg
   have hden:row.cs.den β=l:=by unfold Cells.list at hl;split at hl<;>first | (cases hl;done) | (rename_i hcs;cases hl;rw[hcs];rfl)
   rw[←hgi]at hb hc;have hheld:aT β w' i row:=aT.ml (by rw[hden];exact hb) hf (fun g hg=>(h.bY i r0 h0).tag g (by rw[←htg];exact hg));exact hK _ _ _ _ hs.2 ((h.store h0 (by rw[aF hf,aF hf0]) hheld (by rw[aF hf0];exact hc) hon.2).put o.dst (sv:=.val v) trivial)
  |El ps=>
   have hcall:=eu (β:=β) (hs.1 w h.aD) (fun i _ _ _ r' hr'=>h.bY i r' hr');refine hcall.mono fun e w' hp=>?_;obtain⟨chain,T,rfl,hpp,hc,hT⟩:=hp;refine hP chain a w' h.dn hpp (h.aD.seq hc fun x hx=>?_);obtain⟨q,hq,hv⟩:=hT x hx;obtain⟨hq1,r0,hr0,hf⟩:=hx3 ps rfl q hq;rw[Wi,hq1]at hv;have hx:β q.2=x:=by simpa[SV.den]using hv
   exact h.new q.2 r0 x hr0 (by rw[aF hf,hx])
 |bad=>rw[hr]at hs;exact nomatch hs
theorem DT{o:Oper}{K:St→Prop}{next:Act→World→Prop}(h:Hd ds w0 n β st a w)(hs:step P H n w0 o st K)(hP:∀chain a w',a.defers=ds→w0.PP chain w'→ah w0.S w0.w w'→Q (.panic chain) a w')(hK:∀β' st' a' w',K st'→Hd ds w0 n β' st' a' w'→next a' w'):o.wp P a w next Q:=by
 have hg:=ET (P:=P) (H:=H) (β:=β) (W:=w) (a:=a) (o:=o) (e:=ev st.fr) (fun x _ sv hx=>h.eval hx);have hgo:=ES (P:=P) (H:=H) (o:=o) (e:=ev st.fr) (Q:=(· < st.mem.length)) (fun x _ sv hx=>h.Tn hx);unfold step at hs;split at hs
 ·rename_i sv hr
  rw[hr]at hg hgo;unfold Oper.wp;rw[show(execOp a.eval o).run P w=_ from hg];exact hK _ _ _ _ hs (h.put o.dst hgo)
 ·rename_i f args g hr
  rw[hr]at hg;split at hs
  ·rename_i hok
   unfold Oper.wp;rw[show(execOp a.eval o).run P w=_ from hg];refine(hs.1 w β (h.gh g.gh)).mono fun e w' hp=>?_;rcases hp with⟨hphi,β',hret⟩ | ⟨_,chain,rfl,hpp,hc⟩
   ·obtain⟨h2,hon⟩:=h.Tj hok hret
    rw[hret.ret];exact hK _ _ _ _ (KA hs.2 hphi) (h2.put o.dst hon)
   ·exact hP chain a w' h.dn hpp (h.aD.seq hc h.dE)
  ·exact nomatch hs
 ·rename_i t cs l hr
  rw[hr]at hg;split at hs
  ·rename_i st' hst
   unfold Oper.wp;rw[show(execOp a.eval o).run P w=_ from hg];have ha:=h.alloc t (cs:=.ai cs) rfl rfl trivial;obtain⟨β',h1,h2,h3⟩:=Hd.ij ha hst;have h4:=h1.put o.dst (sv:=.ptr st.mem.length 0) (show st.mem.length < st'.mem.length by simp at h3;omega);have h5:=(h2 st.mem.length (by simp)).1;rw[show(SV.ptr st.mem.length 0).den β'=.pointer (some ⟨w.heap.size,0,none⟩)by show Value.pointer (some ⟨β' st.mem.length,0,none⟩)=_;rw[←h5,iG]]at h4;exact hK _ _ _ _ hs h4
  ·exact nomatch hs
 ·rename_i t l len hr
  rw[hr]at hg hgo;unfold Oper.wp;rw[show(execOp a.eval o).run P w=_ from hg];have ha:=h.alloc t (cs:=.cU l) rfl rfl hgo;have h4:=ha.put o.dst (sv:=.lO st.mem.length 0 len len) (show st.mem.length < (st.mem++[_]).length by simp);rw[show(SV.lO st.mem.length 0 len len).den (β.fI st.mem.length w.heap.size)=.slice (some ⟨w.heap.size,0,none⟩) len len by show Wu (some ⟨(β.fI st.mem.length w.heap.size) st.mem.length,0,none⟩) _ _=_;rw[iG]]at h4;exact hK _ _ _ _ hs h4
 ·exact IH h hs hP hK
theorem Hd.lit{t:Nat}{c:Bool}(h:Hd ds w0 n β st a w)(ht:look st.fr t=some (.val (.bool c))):Hd ds w0 n β (st.lit t c) a w:=by
 have key:∀u sv,look (st.lit t c).fr u=some sv→(u=t∧sv=.val (.bool c))∨look st.fr u=some sv:=fun u sv hu=>by
  have e:look (st.lit t c).fr u=if t=u then(SV.val (.bool c)).known else look st.fr u:=eQ
  rw[e]at hu;by_cases htu:t=u
  ·rw[if_pos htu]at hu
   exact .inl ⟨htu.symm,(Wb.inj hu).symm⟩
  ·rw[if_neg htu]at hu
   exact .inr hu
 refine⟨h.size,h.dn,fun u sv hu=>?_,h.bY,h.new,h.inj,h.aD,fun u sv hu=>?_,h.vg⟩
 ·rcases key u sv hu with⟨rfl,rfl⟩ | hu
  ·exact h.get _ _ ht
  ·exact h.get u sv hu
 ·rcases key u sv hu with⟨rfl,rfl⟩ | hu
  ·trivial
  ·exact h.vo u sv hu
theorem ur{ops:Array Oper}{fr:List (Nat×SV)}{o:Oper}{q:Nat×Bool}(h:qB ops fr o=some q):look fr q.1=some (.val (.bool q.2)):=by
 unfold qB at h;split at h
 ·cases h
 ·split at h
  ·cases h
  ·split at h
   ·cases h
   ·split at h
    ·rename_i hl
     split at h
     ·injection h with h
      rw[←h];exact hl
     ·cases h
    ·cases h
theorem vI{o:Oper}{K:St→Prop}(h:Hd ds w0 n β st a w)(hx:xv ops o st K):∃st',K st'∧Hd ds w0 n β st' a w:=by
 unfold xv at hx;split at hx
 ·exact⟨st,hx,h⟩
 ·rename_i q hq
  have hl:=ur hq;split at hx
  ·rename_i hb
   rw[hb]at hl;exact⟨_,hx,h.lit hl⟩
  ·rename_i hb
   rw[hb]at hl;exact⟨_,hx,h.lit hl⟩
theorem nz(r:List Oper)(hP:∀chain a w',a.defers=ds→w0.PP chain w'→ah w0.S w0.w w'→Q (.panic chain) a w'):∀(l:List Oper) (st:St) (K:St→Prop) (β:Env) (a:Act) (w:World),Hd ds w0 n β st a w→ru P H n w0 ops l st K→(∀β' st' a' w',K st'→Hd ds w0 n β' st' a' w'→wpList P ops Q r a' w')→wpList P ops Q (l++r) a w
 | [],_,_,_,_,_,h,hx,hK=>hK _ _ _ _ hx h
 |o::l,st,K,β,a,w,h,hx,hK=>by
  unfold ru at hx;rw[Xr];unfold wpList;obtain⟨st,hx,h⟩:=vI h hx;split at hx
  ·rename_i hg
   rw[pI h hg,if_pos rfl];exact .inl (DT h hx hP fun β' st' a' w' hk h'=>nz r hP l st' K β' a' w' h' hk hK)
  ·rename_i hg
   rw[pI h hg,if_neg (by decide)];exact nz r hP l _ K β _ w (h.put o.dst (sv:=.val undef) trivial) hx hK
  ·exact nomatch hx
theorem AN(hP:∀chain a w',a.defers=ds→w0.PP chain w'→ah w0.S w0.w w'→Q (.panic chain) a w')(l:List Oper)(st:St)(K:St→Prop)(β:Env)(a:Act)(w:World)(h:Hd ds w0 n β st a w)(hx:ru P H n w0 ops l st K)(hK:∀β' st' a' w',K st'→Hd ds w0 n β' st' a' w'→Q .normal a' w'):wpList P ops Q l a w:=by have:=nz (ops:=ops) (Q:=Q) [] hP l st K β a w h hx hK;rwa [Ww]at this
end
end Sx
end Go.Proofs.YtnncigmpcdehnaaGreatDoor
