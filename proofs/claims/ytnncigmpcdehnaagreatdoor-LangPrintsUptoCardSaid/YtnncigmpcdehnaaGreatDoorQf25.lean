import Derived.Test.YtnncigmpcdehnaaGreatDoorQf24
namespace Go.Proofs.YtnncigmpcdehnaaGreatDoor
set_option maxRecDepth 100000
open Go.RowKit Go.Lib Go.Sort _root_.Go.Proofs.Tryz
set_option maxRecDepth 100000
def fB(s:Bs)(cm:Bool)(i:Nat):List (Nat×Sx.SV):=[(0,.val (ab s)),(1,.val (.bool cm)),(5,.own 0),(6,.val (.int .i64 (i:Int)))]
def rR(s:Bs)(cm:Bool)(o i:Nat):List (Nat×Sx.SV):=[(0,.val (ab s)),(1,.val (.bool cm)),(5,.own o),(6,.val (.int .i64 (i:Int)))]
def gn(s:Bs)(cm:Bool)(b i:Nat):List (Nat×Sx.SV):=(7,.val (.int .i64 (b:Int)))::fB s cm i
def aO(acc:List Bs):List Sx.Row:=[⟨9,.own 1 acc.length (acc.map ab)⟩]
theorem qJ{c d:UInt8}(h:c=d):((c.toNat:Int)==(d.toNat:Int))=true:=by rw[h];simp
theorem mo{c d:UInt8}(h:c≠d):((c.toNat:Int)==(d.toNat:Int))=false:=by
 rw[beq_eq_false_iff_ne]
 intro hh
 exact h (UInt8.toNat_inj.1 (by omega))
theorem qI{c d:UInt8}(h:c=d):((c.toNat:Int) !=(d.toNat:Int))=false:=by rw[h];simp
theorem jY{c d:UInt8}(h:c≠d):((c.toNat:Int) !=(d.toNat:Int))=true:=by
 rw[bne,mo h];rfl
theorem nX(s:Bs)(lo hi:Nat)(h:lo≤hi)(h2:hi≤s.length)(W:World):(Instr.sliceAt 9 (ab s) (some (.int .i64 (lo:Int))) (some (.int .i64 (hi:Int))) none).run prog W=.ok (ab ((s.take hi).drop lo)) W:=by
 have:=wL ⟨s.toArray⟩ lo hi h (by simpa[ByteArray.size]using h2) W
 rw[N0]at this
 exact this
theorem oI{PP:List PanicEntry→World→Prop}(w:World)(s:Bs)(cm:Bool)(hs:s.length≤100000000)(i:Nat)(hi:i≤s.length)(acc:List Bs)(Kr:Sx.St→Prop)(j:Nat)(hj:i≤j∧j≤runN sB s i) :
  ∃H' L',Sx.jU prog f90.ntmps ⟨w,[],PP⟩ (Sx.aQ f90 0) H' L' ⟨fB s cm j,aO acc⟩ (Sx.dR (fun j=>i≤j∧j≤runN sB s i) (fB s cm) (fun _=>aO acc) (fun j=>j+1) (fun j=>s.length+1 - j) (fun(_:Unit)=>True) (fun _=>fB s cm (runN sB s i)) (fun _=>aO acc) (fun _=>()) (Sx.dM (Sx.aQ f90 0) - 1) Kr j):=by
 have hle:=j8 sB s i hi
 obtain⟨hj1,hj2⟩:=hj
 have c10:=iq s
 by_cases hlt:j < runN sB s i
 ·obtain⟨c,hc,hp⟩:=yf hj1 hlt
  have oA:=bT ((j:Int) < (s.length:Int)) (by omega)
  have c15:=gK s j c hc
  have c20:=gK s j c hc
  unfold sB at hp
  rw[Bool.or_eq_true,beq_iff_eq,beq_iff_eq]at hp
  by_cases h32:c=32
  ·have ir:Value.bool ((c.toNat:Int)==32)=.bool true:=j4 (qJ h32)
   have c25:=my (i:=j) (by omega)
   have h0:i≤j+1∧j+1≤runN sB s i:=⟨by omega,by omega⟩
   have h1:s.length+1 - (j+1) < s.length+1 - j:=by omega
   have h2:fB s cm (j+1)=fB s cm (j+1):=rfl
   have z3:aO acc=aO acc:=rfl
   refine⟨[(10,.is (.int .i64 (s.length:Int))),(11,.is (.bool true)),(15,.bin (u8 c)),(16,.is (.bool true)),(25,.is (.int .i64 ((j+1:Nat):Int)))],[],?_⟩
   exact Eq.mp (by kernel_rfl) (Sx.t8 c10 oA c15 ir c25 h0 h1 h2 z3)
  ·have h9:c=9:=hp.resolve_left h32
   have ir:Value.bool ((c.toNat:Int)==32)=.bool false:=ib (mo h32)
   have c21:Value.bool ((c.toNat:Int)==9)=.bool true:=j4 (qJ h9)
   have c25:=my (i:=j) (by omega)
   have h0:i≤j+1∧j+1≤runN sB s i:=⟨by omega,by omega⟩
   have h1:s.length+1 - (j+1) < s.length+1 - j:=by omega
   have h2:fB s cm (j+1)=fB s cm (j+1):=rfl
   have z3:aO acc=aO acc:=rfl
   refine⟨[(10,.is (.int .i64 (s.length:Int))),(11,.is (.bool true)),(15,.bin (u8 c)),(16,.is (.bool false)),(20,.bin (u8 c)),(21,.is (.bool true)),(25,.is (.int .i64 ((j+1:Nat):Int)))],[],?_⟩
   exact Eq.mp (by kernel_rfl) (Sx.t8 c10 oA c15 ir c20 c21 c25 h0 (Sx.t2 h1 h2 z3))
 ·have hje:j=runN sB s i:=by omega
  have h0:True:=trivial
  have h1:fB s cm j=fB s cm (runN sB s i):=by rw[hje]
  have z2:aO acc=aO acc:=rfl
  by_cases hend:j < s.length
  ·obtain⟨c,hc,hp⟩:=jJ hi (by omega:runN sB s i < s.length)
   rw[←hje]at hc
   have oA:=bT ((j:Int) < (s.length:Int)) (by omega)
   have c15:=gK s j c hc
   have c20:=gK s j c hc
   unfold sB at hp
   rw[Bool.or_eq_false_iff,beq_eq_false_iff_ne,beq_eq_false_iff_ne]at hp
   have ir:Value.bool ((c.toNat:Int)==32)=.bool false:=ib (mo hp.1)
   have c21:Value.bool ((c.toNat:Int)==9)=.bool false:=ib (mo hp.2)
   refine⟨[(10,.is (.int .i64 (s.length:Int))),(11,.is (.bool true)),(15,.bin (u8 c)),(16,.is (.bool false)),(20,.bin (u8 c)),(21,.is (.bool false))],[],?_⟩
   exact Eq.mp (by kernel_rfl) (Sx.t8 c10 oA c15 ir c20 c21 h0 h1 z2)
  ·have oA:=bF ((j:Int) < (s.length:Int)) (by omega)
   refine⟨[(10,.is (.int .i64 (s.length:Int))),(11,.is (.bool false))],[],?_⟩
   exact Eq.mp (by kernel_rfl) (Sx.t4 c10 oA h0 h1 z2)
theorem D8{PP:List PanicEntry→World→Prop}(w:World)(s:Bs)(cm:Bool)(hs:s.length≤100000000)(i:Nat)(hi:i≤s.length)(acc:List Bs)(Kr:Sx.St→Prop)(j:Nat)(hj:i≤j∧j≤runN (wC cm) s i) :
  ∃H' L',Sx.jU prog f90.ntmps ⟨w,[],PP⟩ (Sx.aQ f90 1) H' L' ⟨gn s cm i j,aO acc⟩ (Sx.dR (fun j=>i≤j∧j≤runN (wC cm) s i) (gn s cm i) (fun _=>aO acc) (fun j=>j+1) (fun j=>s.length+1 - j) (fun(_:Unit)=>True) (fun _=>gn s cm i (runN (wC cm) s i)) (fun _=>aO acc) (fun _=>()) (Sx.dM (Sx.aQ f90 1) - 1) Kr j):=by
 have hle:=j8 (wC cm) s i hi
 obtain⟨hj1,hj2⟩:=hj
 have c43:=iq s
 cases cm with
 |true=>
  by_cases hlt:j < runN (wC true) s i
  ·obtain⟨c,hc,hp⟩:=yf hj1 hlt
   have c44:=bT ((j:Int) < (s.length:Int)) (by omega)
   have c48:=gK s j c hc
   have c54:=gK s j c hc
   have c62:=gK s j c hc
   unfold wC sB at hp
   rw[Bool.and_eq_true,Bool.not_eq_true',Bool.not_eq_true',Bool.or_eq_false_iff,beq_eq_false_iff_ne,beq_eq_false_iff_ne]at hp
   have c49:Value.bool ((c.toNat:Int) !=32)=.bool true:=j4 (jY hp.1.1)
   have c55:Value.bool ((c.toNat:Int) !=9)=.bool true:=j4 (jY hp.1.2)
   have n35:c≠35:=fun h=>by rw[h]at hp;exact absurd hp.2 (by decide)
   have c63:Value.bool ((c.toNat:Int)==35)=.bool false:=ib (mo n35)
   have c68:=my (i:=j) (by omega)
   have h0:i≤j+1∧j+1≤runN (wC true) s i:=⟨by omega,by omega⟩
   have h1:s.length+1 - (j+1) < s.length+1 - j:=by omega
   have h2:gn s true i (j+1)=gn s true i (j+1):=rfl
   have z3:aO acc=aO acc:=rfl
   refine⟨[(43,.is (.int .i64 (s.length:Int))),(44,.is (.bool true)),(48,.bin (u8 c)),(49,.is (.bool true)),(54,.bin (u8 c)),(55,.is (.bool true)),(62,.bin (u8 c)),(63,.is (.bool false)),(68,.is (.int .i64 ((j+1:Nat):Int)))],[],?_⟩
   exact Eq.mp (by kernel_rfl) (Sx.t8 c43 c44 c48 c49 c54 c55 c62 c63 (Sx.t4 c68 h0 h1 h2 z3))
  ·have hje:j=runN (wC true) s i:=by omega
   have h0:True:=trivial
   have h1:gn s true i j=gn s true i (runN (wC true) s i):=by rw[hje]
   have z2:aO acc=aO acc:=rfl
   by_cases hend:j < s.length
   ·obtain⟨c,hc,hp⟩:=jJ hi (by omega:runN (wC true) s i < s.length)
    rw[←hje]at hc
    have c44:=bT ((j:Int) < (s.length:Int)) (by omega)
    have c48:=gK s j c hc
    have c54:=gK s j c hc
    by_cases h32:c=32
    ·have c49:Value.bool ((c.toNat:Int) !=32)=.bool false:=ib (qI h32)
     refine⟨[(43,.is (.int .i64 (s.length:Int))),(44,.is (.bool true)),(48,.bin (u8 c)),(49,.is (.bool false))],[],?_⟩
     exact Eq.mp (by kernel_rfl) (Sx.t4 c43 c44 c48 c49 (Sx.t2 h0 h1 z2))
    ·have c49:Value.bool ((c.toNat:Int) !=32)=.bool true:=j4 (jY h32)
     by_cases h9:c=9
     ·have c55:Value.bool ((c.toNat:Int) !=9)=.bool false:=ib (qI h9)
      refine⟨[(43,.is (.int .i64 (s.length:Int))),(44,.is (.bool true)),(48,.bin (u8 c)),(49,.is (.bool true)),(54,.bin (u8 c)),(55,.is (.bool false))],[],?_⟩
      exact Eq.mp (by kernel_rfl) (Sx.t8 c43 c44 c48 c49 c54 c55 h0 h1 z2)
     ·have c55:Value.bool ((c.toNat:Int) !=9)=.bool true:=j4 (jY h9)
      have c62:=gK s j c hc
      have h35:c=35:=by
       unfold wC sB at hp
       simpa[h32,h9]using hp
      have c63:Value.bool ((c.toNat:Int)==35)=.bool true:=j4 (qJ h35)
      refine⟨[(43,.is (.int .i64 (s.length:Int))),(44,.is (.bool true)),(48,.bin (u8 c)),(49,.is (.bool true)),(54,.bin (u8 c)),(55,.is (.bool true)),(62,.bin (u8 c)),(63,.is (.bool true))],[],?_⟩
      exact Eq.mp (by kernel_rfl) (Sx.t8 c43 c44 c48 c49 c54 c55 c62 c63 (Sx.t2 h0 h1 z2))
   ·have c44:=bF ((j:Int) < (s.length:Int)) (by omega)
    refine⟨[(43,.is (.int .i64 (s.length:Int))),(44,.is (.bool false))],[],?_⟩
    exact Eq.mp (by kernel_rfl) (Sx.t4 c43 c44 h0 h1 z2)
 |false=>
  by_cases hlt:j < runN (wC false) s i
  ·obtain⟨c,hc,hp⟩:=yf hj1 hlt
   have c44:=bT ((j:Int) < (s.length:Int)) (by omega)
   have c48:=gK s j c hc
   have c54:=gK s j c hc
   unfold wC sB at hp
   rw[Bool.and_eq_true,Bool.not_eq_true',Bool.not_eq_true',Bool.or_eq_false_iff,beq_eq_false_iff_ne,beq_eq_false_iff_ne]at hp
   have c49:Value.bool ((c.toNat:Int) !=32)=.bool true:=j4 (jY hp.1.1)
   have c55:Value.bool ((c.toNat:Int) !=9)=.bool true:=j4 (jY hp.1.2)
   have c68:=my (i:=j) (by omega)
   have h0:i≤j+1∧j+1≤runN (wC false) s i:=⟨by omega,by omega⟩
   have h1:s.length+1 - (j+1) < s.length+1 - j:=by omega
   have h2:gn s false i (j+1)=gn s false i (j+1):=rfl
   have z3:aO acc=aO acc:=rfl
   refine⟨[(43,.is (.int .i64 (s.length:Int))),(44,.is (.bool true)),(48,.bin (u8 c)),(49,.is (.bool true)),(54,.bin (u8 c)),(55,.is (.bool true)),(68,.is (.int .i64 ((j+1:Nat):Int)))],[],?_⟩
   exact Eq.mp (by kernel_rfl) (Sx.t8 c43 c44 c48 c49 c54 c55 c68 h0 (Sx.t2 h1 h2 z3))
  ·have hje:j=runN (wC false) s i:=by omega
   have h0:True:=trivial
   have h1:gn s false i j=gn s false i (runN (wC false) s i):=by rw[hje]
   have z2:aO acc=aO acc:=rfl
   by_cases hend:j < s.length
   ·obtain⟨c,hc,hp⟩:=jJ hi (by omega:runN (wC false) s i < s.length)
    rw[←hje]at hc
    have c44:=bT ((j:Int) < (s.length:Int)) (by omega)
    have c48:=gK s j c hc
    have c54:=gK s j c hc
    by_cases h32:c=32
    ·have c49:Value.bool ((c.toNat:Int) !=32)=.bool false:=ib (qI h32)
     refine⟨[(43,.is (.int .i64 (s.length:Int))),(44,.is (.bool true)),(48,.bin (u8 c)),(49,.is (.bool false))],[],?_⟩
     exact Eq.mp (by kernel_rfl) (Sx.t4 c43 c44 c48 c49 (Sx.t2 h0 h1 z2))
    ·have c49:Value.bool ((c.toNat:Int) !=32)=.bool true:=j4 (jY h32)
     by_cases h9:c=9
     ·have c55:Value.bool ((c.toNat:Int) !=9)=.bool false:=ib (qI h9)
      refine⟨[(43,.is (.int .i64 (s.length:Int))),(44,.is (.bool true)),(48,.bin (u8 c)),(49,.is (.bool true)),(54,.bin (u8 c)),(55,.is (.bool false))],[],?_⟩
      exact Eq.mp (by kernel_rfl) (Sx.t8 c43 c44 c48 c49 c54 c55 h0 h1 z2)
     ·exfalso
      unfold wC sB at hp
      simp[h32,h9]at hp
   ·have c44:=bF ((j:Int) < (s.length:Int)) (by omega)
    refine⟨[(43,.is (.int .i64 (s.length:Int))),(44,.is (.bool false))],[],?_⟩
    exact Eq.mp (by kernel_rfl) (Sx.t4 c43 c44 h0 h1 z2)
def cw(s:Bs)(cm:Bool)(k:Nat×List Bs):Nat×List Bs:=(runN (wC cm) s (runN sB s k.1),k.2++[(s.take (runN (wC cm) s (runN sB s k.1))).drop (runN sB s k.1)])
def Hs(s:Bs)(cm:Bool)(k:Nat×List Bs):Prop:=k.1≤s.length∧k.2.length≤k.1∧k.2++mv cm s k.1=mv cm s 0
def tu(s:Bs)(cm:Bool)(l:List Sx.SV)(mem:List Sx.Row):Prop:=∃j,l=[.own j]∧mem[j]?=some ⟨9,.own 1 (aK cm s).length ((aK cm s).map ab)⟩
def wk(s:Bs)(cm:Bool)(i:Nat)(acc:List Bs):Sx.Loop:=.mk Nat i (fun j=>i≤j∧j≤runN sB s i) (fB s cm) (fun _=>aO acc) (fun j=>j+1) (fun j=>s.length+1 - j) Unit (fun _=>True) (fun _=>fB s cm (runN sB s i)) (fun _=>aO acc) (fun _=>())
def LR(s:Bs)(cm:Bool)(i:Nat)(acc:List Bs):Sx.Loop:=.mk Nat i (fun j=>i≤j∧j≤runN (wC cm) s i) (gn s cm i) (fun _=>aO acc) (fun j=>j+1) (fun j=>s.length+1 - j) Unit (fun _=>True) (fun _=>gn s cm i (runN (wC cm) s i)) (fun _=>aO acc) (fun _=>())
noncomputable def Hy:Code:=Sx.ND (Sx.Ej (f90.body.getD .skip)) 0
theorem LQ{PP:List PanicEntry→World→Prop}(w:World)(s:Bs)(cm:Bool)(hs:s.length≤1000000)(k:Nat×List Bs)(hk:Hs s cm k) :
  ∃H' L',Sx.jU prog f90.ntmps ⟨w,[],PP⟩ Hy H' L' ⟨fB s cm k.1,aO k.2⟩ (Sx.AU 0 (Hs s cm) (fun k=>fB s cm k.1) (fun k=>aO k.2) (s.length - (cw s cm k).1 < s.length - k.1) (cw s cm k) (Sx.bY prog f90 (tu s cm))):=by
 have hi:=hk.1
 have hbl:=j8 sB s k.1 hi
 have hs:s.length≤100000000:=by omega
 cases cm with
 |true=>
  have hsk:=lK true s k.1
  by_cases hend:(runN sB s k.1) < s.length
  ·obtain⟨c,hc,hp⟩:=jJ hi hend
   by_cases h35:c=35
   ·have hfin:aK true s=k.2:=by
     have:=hk.2.2
     rw[hsk,tB s (runN sB s k.1) (by rw[hc,h35]),List.append_nil]at this
     exact this.symm
    have h0:k.1≤k.1∧k.1≤(runN sB s k.1):=⟨Nat.le_refl _,cO _ _ _⟩
    have e1:fB s true k.1=fB s true k.1∧aO k.2=aO k.2:=⟨rfl,rfl⟩
    have jo:=oI (PP:=PP) w s true hs k.1 hi k.2 (Sx.bY prog f90 (tu s true) .ret)
    have c28f:=fun(_:Unit) (_:True)=>iq s
    have c29f:=fun(_:Unit) (_:True)=>(show Value.bool (((runN sB s k.1):Int)==(s.length:Int))=.bool false from ib (by rw[beq_eq_false_iff_ne];omega))
    have c35f:=fun(_:Unit) (_:True)=>gK s (runN sB s k.1) c hc
    have c36f:=fun(_:Unit) (_:True)=>(show Value.bool ((c.toNat:Int)==35)=.bool true from j4 (qJ h35))
    have z5f:=fun(_:Unit) (_:True)=>(show tu s true [.own 0] (aO k.2)from⟨0,rfl,by rw[hfin];rfl⟩)
    refine⟨[(28,.is (.int .i64 (s.length:Int))),(29,.is (.bool false)),(35,.bin (u8 c)),(36,.is (.bool true))],[wk s true k.1 k.2],?_⟩
    exact Eq.mp (by kernel_rfl) (Sx.t2 h0 e1 (And.intro jo (fun(x3:Unit) (hx4:True)=>(Sx.t4 (c28f x3 hx4) (c29f x3 hx4) (c35f x3 hx4) (c36f x3 hx4) (z5f x3 hx4)))))
   ·have hw:wC true c=true:=by unfold wC;rw[hp];simp[h35]
    have hwd:=lJ true s (runN sB s k.1) hc hw
    have hel:=j8 (wC true) s (runN sB s k.1) hbl
    have hgt:=pX hc hw
    have hge:=cO sB s k.1
    have hfew:(k.2:List Bs).length≤1000000:=by have:=hk.2.1;omega
    have hmu:s.length - (cw s true k).1 < s.length - k.1:=by show s.length - runN (wC true) s (runN sB s k.1) < _; omega
    have hnx:Hs s true (cw s true k):=by
     refine⟨hel,?_,?_⟩
     ·have:=hk.2.1
      simp only[cw,List.length_append,List.length_singleton]
      first|omega | (simp at this ⊢;omega)
     ·have:=hk.2.2
      rw[hsk,hwd]at this
      rw[←this]
      simp[cw]
    have h0:k.1≤k.1∧k.1≤(runN sB s k.1):=⟨Nat.le_refl _,cO _ _ _⟩
    have e1:fB s true k.1=fB s true k.1∧aO k.2=aO k.2:=⟨rfl,rfl⟩
    have jo:=oI (PP:=PP) w s true hs k.1 hi k.2 (Sx.bY prog f90 (tu s true) .ret)
    have c28f:=fun(_:Unit) (_:True)=>iq s
    have c29f:=fun(_:Unit) (_:True)=>(show Value.bool (((runN sB s k.1):Int)==(s.length:Int))=.bool false from ib (by rw[beq_eq_false_iff_ne];omega))
    have c35f:=fun(_:Unit) (_:True)=>gK s (runN sB s k.1) c hc
    have c36f:=fun(_:Unit) (_:True)=>(show Value.bool ((c.toNat:Int)==35)=.bool false from ib (mo h35))
    have h5f:=fun(_:Unit) (_:True)=>(show(runN sB s k.1)≤(runN sB s k.1)∧(runN sB s k.1)≤(runN (wC true) s (runN sB s k.1))from⟨Nat.le_refl _,cO _ _ _⟩)
    have e6f:=fun(_:Unit) (_:True)=>(show gn s true (runN sB s k.1) (runN sB s k.1)=gn s true (runN sB s k.1) (runN sB s k.1)∧aO k.2=aO k.2 from⟨rfl,rfl⟩)
    have rd7f:=fun(_:Unit) (_:True)=>D8 (PP:=PP) w s true hs (runN sB s k.1) hbl k.2 (Sx.bY prog f90 (tu s true) .ret)
    have c73f:=fun(_:Unit) (_:True) (_:Unit) (_:True)=>nX s (runN sB s k.1) (runN (wC true) s (runN sB s k.1)) (cO _ _ _) hel
    have c75f:=fun(_:Unit) (_:True) (_:Unit) (_:True)=>mq (cells:=[ab ((s.take (runN (wC true) s (runN sB s k.1))).drop (runN sB s k.1))]) (size:=1) (len:=k.2.length) (B:=bytesOf 9) (by kernel_rfl) (by kernel_rfl) hfew (by decide+kernel)
    have h10f:=fun(_:Unit) (_:True) (_:Unit) (_:True)=>hmu
    have h11f:=fun(_:Unit) (_:True) (_:Unit) (_:True)=>(show Hs s true (cw s true k)from hnx)
    have h12f:=fun(_:Unit) (_:True) (_:Unit) (_:True)=>(rfl:rR s true 2 (runN (wC true) s (runN sB s k.1))=rR s true 2 (cw s true k).1)
    have z13f:=fun(_:Unit) (_:True) (_:Unit) (_:True)=>(show [(⟨9,.own 1 (k.2.length+1) (k.2.map ab++[ab ((s.take (runN (wC true) s (runN sB s k.1))).drop (runN sB s k.1))])⟩:Sx.Row)]=aO (cw s true k).2 from by simp[aO,cw])
    refine⟨[(28,.is (.int .i64 (s.length:Int))),(29,.is (.bool false)),(35,.bin (u8 c)),(36,.is (.bool false)),(73,.bin (ab ((s.take (runN (wC true) s (runN sB s k.1))).drop (runN sB s k.1))))],[wk s true k.1 k.2,LR s true (runN sB s k.1) k.2],?_⟩
    exact Eq.mp (by kernel_rfl) (Sx.t2 h0 e1 (And.intro jo (fun(x3:Unit) (hx4:True)=>(Sx.t4 (c28f x3 hx4) (c29f x3 hx4) (c35f x3 hx4) (c36f x3 hx4) (Sx.t2 (h5f x3 hx4) (e6f x3 hx4) (And.intro (rd7f x3 hx4) (fun(x8:Unit) (hx9:True)=>(Sx.t4 (c73f x3 hx4 x8 hx9) (c75f x3 hx4 x8 hx9) (h10f x3 hx4 x8 hx9) (h11f x3 hx4 x8 hx9) (And.intro (h12f x3 hx4 x8 hx9) (z13f x3 hx4 x8 hx9))))))))))
  ·have hb:(runN sB s k.1)=s.length:=by omega
   have hfin:aK true s=k.2:=by
    have:=hk.2.2
    rw[hsk,hb,nS,List.append_nil]at this
    exact this.symm
   have h0:k.1≤k.1∧k.1≤(runN sB s k.1):=⟨Nat.le_refl _,cO _ _ _⟩
   have e1:fB s true k.1=fB s true k.1∧aO k.2=aO k.2:=⟨rfl,rfl⟩
   have jo:=oI (PP:=PP) w s true hs k.1 hi k.2 (Sx.bY prog f90 (tu s true) .ret)
   have c28f:=fun(_:Unit) (_:True)=>iq s
   have c29f:=fun(_:Unit) (_:True)=>(show Value.bool (((runN sB s k.1):Int)==(s.length:Int))=.bool true from j4 (by rw[hb];simp))
   have z5f:=fun(_:Unit) (_:True)=>(show tu s true [.own 0] (aO k.2)from⟨0,rfl,by rw[hfin];rfl⟩)
   refine⟨[(28,.is (.int .i64 (s.length:Int))),(29,.is (.bool true))],[wk s true k.1 k.2],?_⟩
   exact Eq.mp (by kernel_rfl) (Sx.t2 h0 e1 (And.intro jo (fun(x3:Unit) (hx4:True)=>(Sx.t2 (c28f x3 hx4) (c29f x3 hx4) (z5f x3 hx4)))))
 |false=>
  have hsk:=lK false s k.1
  by_cases hend:(runN sB s k.1) < s.length
  ·obtain⟨c,hc,hp⟩:=jJ hi hend
   have hw:wC false c=true:=by unfold wC;rw[hp];rfl
   have hwd:=lJ false s (runN sB s k.1) hc hw
   have hel:=j8 (wC false) s (runN sB s k.1) hbl
   have hgt:=pX hc hw
   have hge:=cO sB s k.1
   have hfew:(k.2:List Bs).length≤1000000:=by have:=hk.2.1;omega
   have hmu:s.length - (cw s false k).1 < s.length - k.1:=by show s.length - runN (wC false) s (runN sB s k.1) < _; omega
   have hnx:Hs s false (cw s false k):=by
    refine⟨hel,?_,?_⟩
    ·have:=hk.2.1
     simp only[cw,List.length_append,List.length_singleton]
     first|omega | (simp at this ⊢;omega)
    ·have:=hk.2.2
     rw[hsk,hwd]at this
     rw[←this]
     simp[cw]
   have h0:k.1≤k.1∧k.1≤(runN sB s k.1):=⟨Nat.le_refl _,cO _ _ _⟩
   have e1:fB s false k.1=fB s false k.1∧aO k.2=aO k.2:=⟨rfl,rfl⟩
   have jo:=oI (PP:=PP) w s false hs k.1 hi k.2 (Sx.bY prog f90 (tu s false) .ret)
   have c28f:=fun(_:Unit) (_:True)=>iq s
   have c29f:=fun(_:Unit) (_:True)=>(show Value.bool (((runN sB s k.1):Int)==(s.length:Int))=.bool false from ib (by rw[beq_eq_false_iff_ne];omega))
   have h5f:=fun(_:Unit) (_:True)=>(show(runN sB s k.1)≤(runN sB s k.1)∧(runN sB s k.1)≤(runN (wC false) s (runN sB s k.1))from⟨Nat.le_refl _,cO _ _ _⟩)
   have e6f:=fun(_:Unit) (_:True)=>(show gn s false (runN sB s k.1) (runN sB s k.1)=gn s false (runN sB s k.1) (runN sB s k.1)∧aO k.2=aO k.2 from⟨rfl,rfl⟩)
   have rd7f:=fun(_:Unit) (_:True)=>D8 (PP:=PP) w s false hs (runN sB s k.1) hbl k.2 (Sx.bY prog f90 (tu s false) .ret)
   have c73f:=fun(_:Unit) (_:True) (_:Unit) (_:True)=>nX s (runN sB s k.1) (runN (wC false) s (runN sB s k.1)) (cO _ _ _) hel
   have c75f:=fun(_:Unit) (_:True) (_:Unit) (_:True)=>mq (cells:=[ab ((s.take (runN (wC false) s (runN sB s k.1))).drop (runN sB s k.1))]) (size:=1) (len:=k.2.length) (B:=bytesOf 9) (by kernel_rfl) (by kernel_rfl) hfew (by decide+kernel)
   have h10f:=fun(_:Unit) (_:True) (_:Unit) (_:True)=>hmu
   have h11f:=fun(_:Unit) (_:True) (_:Unit) (_:True)=>(show Hs s false (cw s false k)from hnx)
   have h12f:=fun(_:Unit) (_:True) (_:Unit) (_:True)=>(rfl:rR s false 2 (runN (wC false) s (runN sB s k.1))=rR s false 2 (cw s false k).1)
   have z13f:=fun(_:Unit) (_:True) (_:Unit) (_:True)=>(show [(⟨9,.own 1 (k.2.length+1) (k.2.map ab++[ab ((s.take (runN (wC false) s (runN sB s k.1))).drop (runN sB s k.1))])⟩:Sx.Row)]=aO (cw s false k).2 from by simp[aO,cw])
   refine⟨[(28,.is (.int .i64 (s.length:Int))),(29,.is (.bool false)),(73,.bin (ab ((s.take (runN (wC false) s (runN sB s k.1))).drop (runN sB s k.1))))],[wk s false k.1 k.2,LR s false (runN sB s k.1) k.2],?_⟩
   exact Eq.mp (by kernel_rfl) (Sx.t2 h0 e1 (And.intro jo (fun(x3:Unit) (hx4:True)=>(Sx.t4 (c28f x3 hx4) (c29f x3 hx4) (h5f x3 hx4) (e6f x3 hx4) (And.intro (rd7f x3 hx4) (fun(x8:Unit) (hx9:True)=>(Sx.t4 (c73f x3 hx4 x8 hx9) (c75f x3 hx4 x8 hx9) (h10f x3 hx4 x8 hx9) (h11f x3 hx4 x8 hx9) (And.intro (h12f x3 hx4 x8 hx9) (z13f x3 hx4 x8 hx9)))))))))
  ·have hb:(runN sB s k.1)=s.length:=by omega
   have hfin:aK false s=k.2:=by
    have:=hk.2.2
    rw[hsk,hb,nS,List.append_nil]at this
    exact this.symm
   have h0:k.1≤k.1∧k.1≤(runN sB s k.1):=⟨Nat.le_refl _,cO _ _ _⟩
   have e1:fB s false k.1=fB s false k.1∧aO k.2=aO k.2:=⟨rfl,rfl⟩
   have jo:=oI (PP:=PP) w s false hs k.1 hi k.2 (Sx.bY prog f90 (tu s false) .ret)
   have c28f:=fun(_:Unit) (_:True)=>iq s
   have c29f:=fun(_:Unit) (_:True)=>(show Value.bool (((runN sB s k.1):Int)==(s.length:Int))=.bool true from j4 (by rw[hb];simp))
   have z5f:=fun(_:Unit) (_:True)=>(show tu s false [.own 0] (aO k.2)from⟨0,rfl,by rw[hfin];rfl⟩)
   refine⟨[(28,.is (.int .i64 (s.length:Int))),(29,.is (.bool true))],[wk s false k.1 k.2],?_⟩
   exact Eq.mp (by kernel_rfl) (Sx.t2 h0 e1 (And.intro jo (fun(x3:Unit) (hx4:True)=>(Sx.t2 (c28f x3 hx4) (c29f x3 hx4) (z5f x3 hx4)))))
def QO(s:Bs)(cm:Bool)(w:World)(e:Ending)(w':World):Prop:=∃(A:Option Go.Addr) (cc:Nat),e=.returned (.slice A (aK cm s).length cc)∧Own w' 9 1 (.slice A (aK cm s).length cc) (aK cm s).length ((aK cm s).map ab)∧(∀k,A.map (·.block)=some k→w.heap.size≤k)∧ai [] w w'
theorem LN(w:World)(s:Bs)(cm:Bool)(hs:s.length≤1000000):Calls prog 90 #[ab s,.bool cm] w (QO s cm w):=by
 have key:Calls prog 90 #[ab s,.bool cm] w (Sx.cq ⟨w,[],fun _ _=>False⟩ (tu s cm)):=by
  have hF:=Sx.gP (w:=w) (S:=[]) (PP:=fun _ _=>False) (G:=[]) (fun q hq=>by cases hq) (fun q hq=>by cases hq) (by simp)
  have hk:Hs s cm (0,[]):=⟨Nat.zero_le _,Nat.le_refl _,rfl⟩
  have hi:0≤s.length:=Nat.zero_le _
  have hbl:=j8 sB s 0 hi
  have first:=Sx.DK (args:=[.val (ab s),.val (.bool cm)]) hF 0 (cw s cm (0,[])) (Hs s cm) (fun k=>fB s cm k.1) (fun k=>aO k.2) (cw s cm) (fun k=>s.length - k.1) [] (P:=prog) (fn:=f90) (a0:=Sx.Qj (f90.body.getD .skip)) (c:=Sx.Ej (f90.body.getD .skip)) (f:=90) (rest:=Hy) (R:=tu s cm)
  have hs':s.length≤100000000:=by omega
  replace first:=fun H L hx=>first H L (by kernel_rfl) func90 rfl (by kernel_rfl) (cn rfl) rfl (LQ w s cm hs) hx
  have hs:=hs'
  cases cm with
  |true=>
   have hsk:=lK true s 0
   by_cases hend:(runN sB s 0) < s.length
   ·obtain⟨c,hc,hp⟩:=jJ hi hend
    by_cases h35:c=35
    ·have hfin:aK true s=([]:List Bs):=by
      exact hsk.trans (tB s (runN sB s 0) (by rw[hc,h35]))
     have h0:0≤0∧0≤(runN sB s 0):=⟨Nat.le_refl _,cO _ _ _⟩
     have e1:fB s true 0=fB s true 0∧aO ([]:List Bs)=aO ([]:List Bs):=⟨rfl,rfl⟩
     have jo:=oI (PP:=fun _ _=>False) w s true hs 0 hi ([]:List Bs) (Sx.bY prog f90 (tu s true) .ret)
     have c28f:=fun(_:Unit) (_:True)=>iq s
     have c29f:=fun(_:Unit) (_:True)=>(show Value.bool (((runN sB s 0):Int)==(s.length:Int))=.bool false from ib (by rw[beq_eq_false_iff_ne];omega))
     have c35f:=fun(_:Unit) (_:True)=>gK s (runN sB s 0) c hc
     have c36f:=fun(_:Unit) (_:True)=>(show Value.bool ((c.toNat:Int)==35)=.bool true from j4 (qJ h35))
     have z5f:=fun(_:Unit) (_:True)=>(show tu s true [.own 0] (aO ([]:List Bs))from⟨0,rfl,by rw[hfin];rfl⟩)
     refine first [(5,.iG 9 1),(28,.is (.int .i64 (s.length:Int))),(29,.is (.bool false)),(35,.bin (u8 c)),(36,.is (.bool true))] [wk s true 0 ([]:List Bs)] ?_
     exact Eq.mp (by kernel_rfl) (Sx.t2 h0 e1 (And.intro jo (fun(x3:Unit) (hx4:True)=>(Sx.t4 (c28f x3 hx4) (c29f x3 hx4) (c35f x3 hx4) (c36f x3 hx4) (z5f x3 hx4)))))
    ·have hw:wC true c=true:=by unfold wC;rw[hp];simp[h35]
     have hwd:=lJ true s (runN sB s 0) hc hw
     have hel:=j8 (wC true) s (runN sB s 0) hbl
     have hgt:=pX hc hw
     have hge:=cO sB s 0
     have hfew:(([]:List Bs):List Bs).length≤1000000:=Nat.zero_le _
     have hnx:Hs s true (cw s true (0,[])):=by
      refine⟨hel,?_,?_⟩
      ·have:=hk.2.1
       simp only[cw,List.length_append,List.length_singleton]
       first|omega | (simp at this ⊢;omega)
      ·exact(hsk.trans hwd).symm
     have h0:0≤0∧0≤(runN sB s 0):=⟨Nat.le_refl _,cO _ _ _⟩
     have e1:fB s true 0=fB s true 0∧aO ([]:List Bs)=aO ([]:List Bs):=⟨rfl,rfl⟩
     have jo:=oI (PP:=fun _ _=>False) w s true hs 0 hi ([]:List Bs) (Sx.bY prog f90 (tu s true) .ret)
     have c28f:=fun(_:Unit) (_:True)=>iq s
     have c29f:=fun(_:Unit) (_:True)=>(show Value.bool (((runN sB s 0):Int)==(s.length:Int))=.bool false from ib (by rw[beq_eq_false_iff_ne];omega))
     have c35f:=fun(_:Unit) (_:True)=>gK s (runN sB s 0) c hc
     have c36f:=fun(_:Unit) (_:True)=>(show Value.bool ((c.toNat:Int)==35)=.bool false from ib (mo h35))
     have h5f:=fun(_:Unit) (_:True)=>(show(runN sB s 0)≤(runN sB s 0)∧(runN sB s 0)≤(runN (wC true) s (runN sB s 0))from⟨Nat.le_refl _,cO _ _ _⟩)
     have e6f:=fun(_:Unit) (_:True)=>(show gn s true (runN sB s 0) (runN sB s 0)=gn s true (runN sB s 0) (runN sB s 0)∧aO ([]:List Bs)=aO ([]:List Bs)from⟨rfl,rfl⟩)
     have rd7f:=fun(_:Unit) (_:True)=>D8 (PP:=fun _ _=>False) w s true hs (runN sB s 0) hbl ([]:List Bs) (Sx.bY prog f90 (tu s true) .ret)
     have c73f:=fun(_:Unit) (_:True) (_:Unit) (_:True)=>nX s (runN sB s 0) (runN (wC true) s (runN sB s 0)) (cO _ _ _) hel
     have c75f:=fun(_:Unit) (_:True) (_:Unit) (_:True)=>mq (cells:=[ab ((s.take (runN (wC true) s (runN sB s 0))).drop (runN sB s 0))]) (size:=1) (len:=([]:List Bs).length) (B:=bytesOf 9) (by kernel_rfl) (by kernel_rfl) hfew (by decide+kernel)
     have h10f:=fun(_:Unit) (_:True) (_:Unit) (_:True)=>trivial
     have h11f:=fun(_:Unit) (_:True) (_:Unit) (_:True)=>(show Hs s true (cw s true (0,[]))from hnx)
     have h12f:=fun(_:Unit) (_:True) (_:Unit) (_:True)=>(rfl:rR s true 2 (runN (wC true) s (runN sB s 0))=rR s true 2 (cw s true (0,[])).1)
     have z13f:=fun(_:Unit) (_:True) (_:Unit) (_:True)=>(show [(⟨9,.own 1 (([]:List Bs).length+1) (([]:List Bs).map ab++[ab ((s.take (runN (wC true) s (runN sB s 0))).drop (runN sB s 0))])⟩:Sx.Row)]=aO (cw s true (0,[])).2 from by simp[aO,cw])
     refine first [(5,.iG 9 1),(28,.is (.int .i64 (s.length:Int))),(29,.is (.bool false)),(35,.bin (u8 c)),(36,.is (.bool false)),(73,.bin (ab ((s.take (runN (wC true) s (runN sB s 0))).drop (runN sB s 0))))] [wk s true 0 ([]:List Bs),LR s true (runN sB s 0) ([]:List Bs)] ?_
     exact Eq.mp (by kernel_rfl) (Sx.t2 h0 e1 (And.intro jo (fun(x3:Unit) (hx4:True)=>(Sx.t4 (c28f x3 hx4) (c29f x3 hx4) (c35f x3 hx4) (c36f x3 hx4) (Sx.t2 (h5f x3 hx4) (e6f x3 hx4) (And.intro (rd7f x3 hx4) (fun(x8:Unit) (hx9:True)=>(Sx.t4 (c73f x3 hx4 x8 hx9) (c75f x3 hx4 x8 hx9) (h10f x3 hx4 x8 hx9) (h11f x3 hx4 x8 hx9) (And.intro (h12f x3 hx4 x8 hx9) (z13f x3 hx4 x8 hx9))))))))))
   ·have hb:(runN sB s 0)=s.length:=by omega
    have hfin:aK true s=([]:List Bs):=by
     exact hsk.trans (by rw[hb];exact nS _ _)
    have h0:0≤0∧0≤(runN sB s 0):=⟨Nat.le_refl _,cO _ _ _⟩
    have e1:fB s true 0=fB s true 0∧aO ([]:List Bs)=aO ([]:List Bs):=⟨rfl,rfl⟩
    have jo:=oI (PP:=fun _ _=>False) w s true hs 0 hi ([]:List Bs) (Sx.bY prog f90 (tu s true) .ret)
    have c28f:=fun(_:Unit) (_:True)=>iq s
    have c29f:=fun(_:Unit) (_:True)=>(show Value.bool (((runN sB s 0):Int)==(s.length:Int))=.bool true from j4 (by rw[hb];simp))
    have z5f:=fun(_:Unit) (_:True)=>(show tu s true [.own 0] (aO ([]:List Bs))from⟨0,rfl,by rw[hfin];rfl⟩)
    refine first [(5,.iG 9 1),(28,.is (.int .i64 (s.length:Int))),(29,.is (.bool true))] [wk s true 0 ([]:List Bs)] ?_
    exact Eq.mp (by kernel_rfl) (Sx.t2 h0 e1 (And.intro jo (fun(x3:Unit) (hx4:True)=>(Sx.t2 (c28f x3 hx4) (c29f x3 hx4) (z5f x3 hx4)))))
  |false=>
   have hsk:=lK false s 0
   by_cases hend:(runN sB s 0) < s.length
   ·obtain⟨c,hc,hp⟩:=jJ hi hend
    have hw:wC false c=true:=by unfold wC;rw[hp];rfl
    have hwd:=lJ false s (runN sB s 0) hc hw
    have hel:=j8 (wC false) s (runN sB s 0) hbl
    have hgt:=pX hc hw
    have hge:=cO sB s 0
    have hfew:(([]:List Bs):List Bs).length≤1000000:=Nat.zero_le _
    have hnx:Hs s false (cw s false (0,[])):=by
     refine⟨hel,?_,?_⟩
     ·have:=hk.2.1
      simp only[cw,List.length_append,List.length_singleton]
      first|omega | (simp at this ⊢;omega)
     ·exact(hsk.trans hwd).symm
    have h0:0≤0∧0≤(runN sB s 0):=⟨Nat.le_refl _,cO _ _ _⟩
    have e1:fB s false 0=fB s false 0∧aO ([]:List Bs)=aO ([]:List Bs):=⟨rfl,rfl⟩
    have jo:=oI (PP:=fun _ _=>False) w s false hs 0 hi ([]:List Bs) (Sx.bY prog f90 (tu s false) .ret)
    have c28f:=fun(_:Unit) (_:True)=>iq s
    have c29f:=fun(_:Unit) (_:True)=>(show Value.bool (((runN sB s 0):Int)==(s.length:Int))=.bool false from ib (by rw[beq_eq_false_iff_ne];omega))
    have h5f:=fun(_:Unit) (_:True)=>(show(runN sB s 0)≤(runN sB s 0)∧(runN sB s 0)≤(runN (wC false) s (runN sB s 0))from⟨Nat.le_refl _,cO _ _ _⟩)
    have e6f:=fun(_:Unit) (_:True)=>(show gn s false (runN sB s 0) (runN sB s 0)=gn s false (runN sB s 0) (runN sB s 0)∧aO ([]:List Bs)=aO ([]:List Bs)from⟨rfl,rfl⟩)
    have rd7f:=fun(_:Unit) (_:True)=>D8 (PP:=fun _ _=>False) w s false hs (runN sB s 0) hbl ([]:List Bs) (Sx.bY prog f90 (tu s false) .ret)
    have c73f:=fun(_:Unit) (_:True) (_:Unit) (_:True)=>nX s (runN sB s 0) (runN (wC false) s (runN sB s 0)) (cO _ _ _) hel
    have c75f:=fun(_:Unit) (_:True) (_:Unit) (_:True)=>mq (cells:=[ab ((s.take (runN (wC false) s (runN sB s 0))).drop (runN sB s 0))]) (size:=1) (len:=([]:List Bs).length) (B:=bytesOf 9) (by kernel_rfl) (by kernel_rfl) hfew (by decide+kernel)
    have h10f:=fun(_:Unit) (_:True) (_:Unit) (_:True)=>trivial
    have h11f:=fun(_:Unit) (_:True) (_:Unit) (_:True)=>(show Hs s false (cw s false (0,[]))from hnx)
    have h12f:=fun(_:Unit) (_:True) (_:Unit) (_:True)=>(rfl:rR s false 2 (runN (wC false) s (runN sB s 0))=rR s false 2 (cw s false (0,[])).1)
    have z13f:=fun(_:Unit) (_:True) (_:Unit) (_:True)=>(show [(⟨9,.own 1 (([]:List Bs).length+1) (([]:List Bs).map ab++[ab ((s.take (runN (wC false) s (runN sB s 0))).drop (runN sB s 0))])⟩:Sx.Row)]=aO (cw s false (0,[])).2 from by simp[aO,cw])
    refine first [(5,.iG 9 1),(28,.is (.int .i64 (s.length:Int))),(29,.is (.bool false)),(73,.bin (ab ((s.take (runN (wC false) s (runN sB s 0))).drop (runN sB s 0))))] [wk s false 0 ([]:List Bs),LR s false (runN sB s 0) ([]:List Bs)] ?_
    exact Eq.mp (by kernel_rfl) (Sx.t2 h0 e1 (And.intro jo (fun(x3:Unit) (hx4:True)=>(Sx.t4 (c28f x3 hx4) (c29f x3 hx4) (h5f x3 hx4) (e6f x3 hx4) (And.intro (rd7f x3 hx4) (fun(x8:Unit) (hx9:True)=>(Sx.t4 (c73f x3 hx4 x8 hx9) (c75f x3 hx4 x8 hx9) (h10f x3 hx4 x8 hx9) (h11f x3 hx4 x8 hx9) (And.intro (h12f x3 hx4 x8 hx9) (z13f x3 hx4 x8 hx9)))))))))
   ·have hb:(runN sB s 0)=s.length:=by omega
    have hfin:aK false s=([]:List Bs):=by
     exact hsk.trans (by rw[hb];exact nS _ _)
    have h0:0≤0∧0≤(runN sB s 0):=⟨Nat.le_refl _,cO _ _ _⟩
    have e1:fB s false 0=fB s false 0∧aO ([]:List Bs)=aO ([]:List Bs):=⟨rfl,rfl⟩
    have jo:=oI (PP:=fun _ _=>False) w s false hs 0 hi ([]:List Bs) (Sx.bY prog f90 (tu s false) .ret)
    have c28f:=fun(_:Unit) (_:True)=>iq s
    have c29f:=fun(_:Unit) (_:True)=>(show Value.bool (((runN sB s 0):Int)==(s.length:Int))=.bool true from j4 (by rw[hb];simp))
    have z5f:=fun(_:Unit) (_:True)=>(show tu s false [.own 0] (aO ([]:List Bs))from⟨0,rfl,by rw[hfin];rfl⟩)
    refine first [(5,.iG 9 1),(28,.is (.int .i64 (s.length:Int))),(29,.is (.bool true))] [wk s false 0 ([]:List Bs)] ?_
    exact Eq.mp (by kernel_rfl) (Sx.t2 h0 e1 (And.intro jo (fun(x3:Unit) (hx4:True)=>(Sx.t2 (c28f x3 hx4) (c29f x3 hx4) (z5f x3 hx4)))))
 refine key.mono fun e w' hp=>?_
 rcases hp with⟨β,l,mem,⟨j,rfl,hm⟩,he,hR⟩ | ⟨_,_,hf,_⟩
 ·have h0:β.n j=(aK cm s).length∧Own w' 9 1 (.slice (β.a j) (aK cm s).length (β.c j)) (aK cm s).length ((aK cm s).map ab):=hR.held j _ hm
  refine⟨β.a j,β.c j,?_,h0.2,fun k hk=>?_,hR.aG⟩
  ·rw[he]
   show Ending.returned (.slice (β.a j) (β.n j) (β.c j))=_
   rw[h0.1]
  ·rcases hR.new j _ k hm hk with hx|hx
   ·cases hx
   ·exact hx
 ·exact hf.elim
end Go.Proofs.YtnncigmpcdehnaaGreatDoor
