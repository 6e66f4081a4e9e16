import Derived.Test.YtnncigmpcdehnaaGreatDoorQc01
import Derived.DeepKeys
namespace Go.Proofs.YtnncigmpcdehnaaGreatDoor
open Go Go.RowKit Go.Lib Go.Sort
inductive Kd where
 |b
 |i (q:IntKind)
 |s
def yJ(P:Program)(f:TypeId→Option (List Kd)):Nat→List Field→Option (List Kd)
 |_,[]=>some []
 |off,x::fs=>match Nat.beq x.offset off&&x.name != "_" with
  |true=>match f x.type with
   |some ks=>match Nat.beq ks.length (P.cellsOf x.type)with
    |true=>match yJ P f (off+ks.length) fs with
     |some r=>some (ks++r)
     |none=>none
    |false=>none
   |none=>none
  |false=>none
def vF:Nat→List Kd→List Kd
 | 0,_=>[]
 |n+1,ks=>ks++vF n ks
def ij(P:Program):Nat→TypeId→Option (List Kd)
 | 0,_=>none
 |d+1,t=>match P.underlying t with
  |some .bool=>some [.b]
  |some (.int q)=>some [.i q]
  |some .string=>some [.s]
  |some (.array n e)=>match ij P d e with
   |some ks=>match Nat.beq ks.length (P.cellsOf e)&&Nat.beq (n*ks.length) (P.cellsOf t)with
    |true=>some (vF n ks)
    |false=>none
   |none=>none
  |some (.struct fs)=>match yJ P (ij P d) 0 fs.toList with
   |some ks=>match Nat.beq ks.length (P.cellsOf t)with
    |true=>some ks
    |false=>none
   |none=>none
  |_=>none
def Ly:Kd→Value→Prop
 |.b,.bool _=>True
 |.i q,.int q' n=>q'=q∧(Lit.int q n).wf=true
 |.s,.string s=>s.size≤maxLen
 |_,_=>False
def nT:Value→Lit
 |.bool b=>.bool b
 |.int q n=>.int q n
 |.string s=>.string s.data.toList
 |_=>.bool false
def cF:List Kd→List Value→Prop
 | [],[]=>True
 |k::ks,v::vs=>Ly k v∧cF ks vs
 |_,_=>False
theorem cF.len:∀{ks:List Kd} {vs:List Value},cF ks vs→vs.length=ks.length
 | [],[],_=>rfl
 |_::_,_::_,h=>by simp only[List.length_cons,h.2.len]
 | [],_::_,h=>h.elim
 |_::_,[],h=>h.elim
theorem cF.split:∀{k1 k2:List Kd} {vs:List Value},cF (k1++k2) vs→cF k1 (vs.take k1.length)∧cF k2 (vs.drop k1.length)
 | [],_,_,h=>⟨by simp[cF],h⟩
 |_::_,_,_::_,h=>by
  have:=cF.split (k1:=_) (k2:=_) h.2
  exact⟨⟨h.1,this.1⟩,this.2⟩
 |_::_,_,[],h=>h.elim
theorem cF.app:∀{k1 k2:List Kd} {v1 v2:List Value},cF k1 v1→cF k2 v2→cF (k1++k2) (v1++v2)
 | [],_,[],_,_,h=>h
 |_::_,_,_::_,_,h,h2=>⟨h.1,h.2.app h2⟩
 | [],_,_::_,_,h,_=>h.elim
 |_::_,_,[],_,h,_=>h.elim
theorem JW{k:Kd}{a b:Value}(ha:Ly k a)(hb:Ly k b)(h:nT a=nT b):a=b:=by
 cases k with
 |b=>cases a<;>first|exact ha.elim | (cases b<;>first|exact hb.elim | (injection h with h;subst h;rfl))
 |i q=>cases a<;>first|exact ha.elim | (cases b<;>first|exact hb.elim | (injection h with h1 h2;subst h1 h2;rfl))
 |s=>
  cases a<;>first|exact ha.elim|skip
  cases b<;>first|exact hb.elim|skip
  rename_i s t
  injection h with h
  have:s.data=t.data:=Array.toList_inj.1 h
  cases s;cases t
  simp only at this
  rw[this]
theorem cF.inj:∀{ks:List Kd} {as bs:List Value},cF ks as→cF ks bs→as.map nT=bs.map nT→as=bs
 | [],[],[],_,_,_=>rfl
 |_::_,_::_,_::_,ha,hb,h=>by
  rw[List.map_cons,List.map_cons]at h
  injection h with h1 h2
  rw[JW ha.1 hb.1 h1,ha.2.inj hb.2 h2]
 | [],_::_,_,ha,_,_=>ha.elim
 |_::_,[],_,ha,_,_=>ha.elim
 | [],[],_::_,_,hb,_=>hb.elim
 |_::_,_::_,[],_,hb,_=>hb.elim
theorem lQ(ks:List Kd):∀n,(vF n ks).length=n*ks.length
 | 0=>by simp[vF]
 |n+1=>by rw[vF,List.length_append,lQ ks n,Nat.succ_mul];omega
section
variable{P:Program}
theorem qE{d:Nat}(ih:∀t ks cs,ij P d t=some ks→cF ks cs→P.keyLits d t cs=some (cs.map nT))(cs:List Value):∀(fs:List Field) (off:Nat) (ks:List Kd),yJ P (ij P d) off fs=some ks→cF ks (cs.drop off)→
  (∃l,fs.mapM (fun f=>P.keyLits d f.type ((cs.drop f.offset).take (P.cellsOf f.type)))=some l∧l.flatten=(cs.drop off).map nT)∧fs.all (fun f=>f.name != "_")=true
 | [],off,ks,h,ha=>by
  simp only[yJ,Option.some.injEq]at h
  subst h
  refine⟨⟨[],rfl,?_⟩,rfl⟩
  cases hd:cs.drop off with
  |nil=>rfl
  |cons a l=>rw[hd]at ha;exact ha.elim
 |x::fs,off,ks,h,ha=>by
  unfold yJ at h
  split at h
  ·rename_i hb
   rw[Bool.and_eq_true]at hb
   have ho:x.offset=off:=Nat.eq_of_beq_eq_true hb.1
   split at h
   ·rename_i kx hx
    split at h
    ·rename_i hl
     have hl:kx.length=P.cellsOf x.type:=Nat.eq_of_beq_eq_true hl
     split at h
     ·rename_i r hr
      injection h with h
      subst h
      obtain⟨h1,h2⟩:=ha.split
      rw[List.drop_drop]at h2
      obtain⟨⟨l,e1,e2⟩,e3⟩:=qE ih cs fs (off+kx.length) r hr h2
      have hk:=ih _ _ _ hx h1
      refine⟨⟨((cs.drop off).take kx.length).map nT::l,?_,?_⟩,?_⟩
      ·rw[List.mapM_cons,ho,←hl,hk]
       show(do let as ←fs.mapM (fun(f:Field)=>P.keyLits d f.type ((cs.drop f.offset).take (P.cellsOf f.type)));pure (((cs.drop off).take kx.length).map nT::as))=_
       rw[e1];rfl
      ·rw[List.flatten_cons,e2,←List.drop_drop,←List.map_append,List.take_append_drop]
      ·rw[List.all_cons,e3,hb.2];rfl
     ·cases h
    ·cases h
   ·cases h
  ·cases h
theorem sQ{d e:Nat}(ih:∀cs,∀ks,ij P d e=some ks→cF ks cs→P.keyLits d e cs=some (cs.map nT)){ke:List Kd}(he:ij P d e=some ke)(hl:ke.length=P.cellsOf e)(cs:List Value):∀(n k:Nat),cF (vF n ke) (cs.drop (k*P.cellsOf e))→
  ∃l,((List.range' k n).mapM fun i=>P.keyLits d e ((cs.drop (i*P.cellsOf e)).take (P.cellsOf e)))=some l∧l.flatten=(cs.drop (k*P.cellsOf e)).map nT
 | 0,k,ha=>by
  refine⟨[],rfl,?_⟩
  cases hd:cs.drop (k*P.cellsOf e)with
  |nil=>rfl
  |cons a l=>rw[hd]at ha;exact ha.elim
 |n+1,k,ha=>by
  obtain⟨h1,h2⟩:=ha.split
  rw[List.drop_drop,hl,show k*P.cellsOf e+P.cellsOf e=(k+1)*P.cellsOf e by rw[Nat.succ_mul]]at h2
  obtain⟨l,e1,e2⟩:=sQ ih he hl cs n (k+1) h2
  have hk:=ih _ _ he h1
  refine⟨((cs.drop (k*P.cellsOf e)).take ke.length).map nT::l,?_,?_⟩
  ·rw[List.range'_succ,List.mapM_cons,←hl]
   rw[hl]at hk ⊢
   rw[hk]
   show(do let as ←(List.range' (k+1) n).mapM (fun i=>P.keyLits d e ((cs.drop (i*P.cellsOf e)).take (P.cellsOf e)));pure (((cs.drop (k*P.cellsOf e)).take (P.cellsOf e)).map nT::as))=_
   rw[e1];rfl
  ·rw[List.flatten_cons,e2,hl,show(k+1)*P.cellsOf e=k*P.cellsOf e+P.cellsOf e by rw[Nat.succ_mul],←List.drop_drop,←List.map_append,List.take_append_drop]
theorem iI:∀(d:Nat) (t:TypeId) (ks:List Kd) (cs:List Value),ij P d t=some ks→cF ks cs→P.keyLits d t cs=some (cs.map nT)
 | 0,_,_,_,h,_=>by cases h
 |d+1,t,ks,cs,h,ha=>by
  unfold ij at h
  split at h
  ·rename_i hu
   injection h with h
   subst h
   match cs,ha with
   | [.bool b],_=>unfold Program.keyLits;rw[hu];rfl
  ·rename_i q hu
   injection h with h
   subst h
   match cs,ha with
   | [.int q' n],ha=>
    have hq:q'=q∧(Lit.int q n).wf=true:=ha.1
    unfold Program.keyLits
    rw[hu]
    show(if q'=q∧(Lit.int q n).wf=true then some [Lit.int q n] else none)=_
    rw[if_pos hq,hq.1];rfl
  ·rename_i hu
   injection h with h
   subst h
   match cs,ha with
   | [.string s],ha=>
    have hs:s.size≤maxLen:=ha.1
    unfold Program.keyLits
    rw[hu]
    show(if s.size≤maxLen then some [Lit.string s.data.toList] else none)=_
    rw[if_pos hs];rfl
  ·rename_i n e hu
   split at h
   ·rename_i ke he
    split at h
    ·rename_i hb
     injection h with h
     subst h
     rw[Bool.and_eq_true]at hb
     have hl:ke.length=P.cellsOf e:=Nat.eq_of_beq_eq_true hb.1
     have ht:n*ke.length=P.cellsOf t:=Nat.eq_of_beq_eq_true hb.2
     have hlen:cs.length=P.cellsOf t:=by rw[ha.len,lQ,ht]
     obtain⟨l,e1,e2⟩:=sQ (fun c k hk hc=>iI d e k c hk hc) he hl cs n 0 (by rw[Nat.zero_mul,List.drop_zero];exact ha)
     rw[Nat.zero_mul,List.drop_zero]at e2
     unfold Program.keyLits
     rw[hu]
     show(if cs.length=P.cellsOf t then((List.range n).mapM fun i=>P.keyLits d e ((cs.drop (i*P.cellsOf e)).take (P.cellsOf e))).map List.flatten else none)=_
     rw[if_pos hlen,List.range_eq_range',e1,←e2];rfl
    ·cases h
   ·cases h
  ·rename_i fs hu
   split at h
   ·rename_i kf hf
    split at h
    ·rename_i hb
     injection h with h
     subst h
     have ht:kf.length=P.cellsOf t:=Nat.eq_of_beq_eq_true hb
     have hlen:cs.length=P.cellsOf t:=by rw[ha.len,ht]
     obtain⟨⟨l,e1,e2⟩,e3⟩:=qE (fun t k c=>iI d t k c) cs fs.toList 0 kf hf (by rw[List.drop_zero];exact ha)
     rw[List.drop_zero]at e2
     unfold Program.keyLits
     rw[hu]
     show(if cs.length=P.cellsOf t∧fs.all (·.name != "_")=true then(fs.toList.mapM fun f=>P.keyLits d f.type ((cs.drop f.offset).take (P.cellsOf f.type))).map List.flatten else none)=_
     rw[if_pos ⟨hlen,by rw[←Array.all_toList];exact e3⟩,e1,←e2];rfl
    ·cases h
   ·cases h
  ·cases h
def EJ(P:Program)(t:TypeId):Bool:=match P.underlying t with
 |some (.struct _)=>true
 |some (.array _ _)=>true
 |_=>false
theorem G8{d:Nat}{t:TypeId}{ks:List Kd}(h:ij P d t=some ks)(ha:EJ P t=true):ks.length=P.cellsOf t:=by
 cases d with
 |zero=>cases h
 |succ d=>
  unfold ij at h
  unfold EJ at ha
  split at h
  ·rename_i hu;rw[hu]at ha;cases ha
  ·rename_i hu;rw[hu]at ha;cases ha
  ·rename_i hu;rw[hu]at ha;cases ha
  ·split at h
   ·split at h
    ·rename_i hb
     injection h with h
     subst h
     rw[Bool.and_eq_true]at hb
     rw[lQ]
     exact Nat.eq_of_beq_eq_true hb.2
    ·cases h
   ·cases h
  ·split at h
   ·split at h
    ·rename_i hb
     injection h with h
     subst h
     exact Nat.eq_of_beq_eq_true hb
    ·cases h
   ·cases h
  ·cases h
theorem s6{t:TypeId}{cs:List Value}(ha:EJ P t=true)(hl:cs.length=P.cellsOf t):(Value.agg cs.toArray).formed P t=true:=by
 unfold EJ at ha
 unfold Value.formed
 split at ha
 ·rename_i h;rw[h];simp[hl]
 ·rename_i h;rw[h];simp[hl]
 ·cases ha
theorem Hl{t:TypeId}{ks:List Kd}{as bs:List Value}(W:World)(hk:P.keyTypeAt 6 t=true)(hf:ij P 6 t=some ks)(hg:EJ P t=true)(ha:cF ks as)(hb:cF ks bs) :
  ∃r,(Op.equalIn 10000 t (.agg as.toArray) (.agg bs.toArray)).run P W=.ok r W∧(r=true↔as=bs):=by
 have hl:=G8 hf hg
 obtain⟨r,h1,h2⟩:=run_equalIn_deep (P:=P) 9994 6 t hk W 6 6 (.agg as.toArray) (.agg bs.toArray) (as.map nT) (bs.map nT) (s6 hg (by rw[ha.len,hl])) (s6 hg (by rw[hb.len,hl])) (iI 6 t ks as hf ha) (iI 6 t ks bs hf hb)
 refine⟨r,h1,h2.trans ⟨fun h=>ha.inj hb h,fun h=>by rw[h]⟩⟩
theorem tr{t:TypeId}{ks:List Kd}{as bs:List Value}{r:Bool}(x y:Operand)(hk:P.keyTypeAt 6 t=true)(hf:ij P 6 t=some ks)(hg:EJ P t=true)(hq:P.eqGuardType P.depth t=false)(ha:cF ks as)(hb:cF ks bs)(hr:r=true↔as=bs)(W:World) :
  (do eqGuard .eql t x y (.agg as.toArray) (.agg bs.toArray);binOp .eql t (.agg as.toArray) (.agg bs.toArray):Sem Value).run P W=.ok (.bool r) W∧
  (do eqGuard .neq t x y (.agg as.toArray) (.agg bs.toArray);binOp .neq t (.agg as.toArray) (.agg bs.toArray):Sem Value).run P W=.ok (.bool (!r)) W:=by
 obtain⟨q,h1,h2⟩:=Hl W hk hf hg ha hb
 have hqr:q=r:=by rw[Bool.eq_iff_iff,h2,hr]
 subst hqr
 have h1:(Op.equal t (.agg as.toArray) (.agg bs.toArray)).run P W=.ok q W:=h1
 have g1:(eqGuard .eql t x y (.agg as.toArray) (.agg bs.toArray)).run P W=.ok () W:=by simp[eqGuard,hq]
 have g2:(eqGuard .neq t x y (.agg as.toArray) (.agg bs.toArray)).run P W=.ok () W:=by simp[eqGuard,hq]
 constructor
 ·rw[Sem.run_bind,g1,Result.andThen_ok]
  show(do pure (.bool (←Op.equal t (.agg as.toArray) (.agg bs.toArray))):Sem Value).run P W=_
  rw[Sem.run_bind,h1];rfl
 ·rw[Sem.run_bind,g2,Result.andThen_ok]
  show(do pure (.bool (!(←Op.equal t (.agg as.toArray) (.agg bs.toArray)))):Sem Value).run P W=_
  rw[Sem.run_bind,h1];rfl
end
end Go.Proofs.YtnncigmpcdehnaaGreatDoor
