import Derived.Test.YtnncigmpcdehnaaGreatDoorQd26
namespace Go.Proofs.YtnncigmpcdehnaaGreatDoor
set_option maxRecDepth 100000
open Go.RowKit Go.Lib Go.Sort
def eW(s:Bs)(cm:Bool)(i:Nat):List (Nat×Sx.SV):=[(0,.val (ab s)),(1,.val (.bool cm)),(5,.own 0),(6,.val (.int .i64 (i:Int)))]
def qo(s:Bs)(cm:Bool)(o i:Nat):List (Nat×Sx.SV):=[(0,.val (ab s)),(1,.val (.bool cm)),(5,.own o),(6,.val (.int .i64 (i:Int)))]
def fB(s:Bs)(cm:Bool)(b i:Nat):List (Nat×Sx.SV):=(7,.val (.int .i64 (b:Int)))::eW s cm i
def aK(acc:List Bs):List Sx.Row:=[⟨9,.own 1 acc.length (acc.map ab)⟩]
theorem pG{c d:UInt8}(h:c=d):((c.toNat:Int)==(d.toNat:Int))=true:=by rw[h];simp
theorem ll{c d:UInt8}(h:c≠d):((c.toNat:Int)==(d.toNat:Int))=false:=by
 rw[beq_eq_false_iff_ne]
 intro hh
 exact h (UInt8.toNat_inj.1 (by omega))
theorem pF{c d:UInt8}(h:c=d):((c.toNat:Int) !=(d.toNat:Int))=false:=by rw[h];simp
theorem jo{c d:UInt8}(h:c≠d):((c.toNat:Int) !=(d.toNat:Int))=true:=by
 rw[bne,ll h];rfl
theorem mO(s:Bs)(lo hi:Nat)(h:lo≤hi)(h2:hi≤s.length)(W:World):(Instr.sliceAt 9 (ab s) (some (.int .i64 (lo:Int))) (some (.int .i64 (hi:Int))) none).run Tryz.prog W=.ok (ab ((s.take hi).drop lo)) W:=by
 have:=uu ⟨s.toArray⟩ lo hi h (by simpa[ByteArray.size]using h2) W
 rw[KJ]at this
 exact this
theorem nE{PP:List PanicEntry→World→Prop}(w:World)(s:Bs)(cm:Bool)(hs:s.length≤100000000)(i:Nat)(hi:i≤s.length)(acc:List Bs)(Kr:Sx.St→Prop)(j:Nat)(hj:i≤j∧j≤runN sB s i) :
  ∃H' L',Sx.jk Tryz.prog Tryz.f90.ntmps ⟨w,[],PP⟩ (Sx.bB Tryz.f90 0) H' L' ⟨eW s cm j,aK acc⟩ (Sx.ek (fun j=>i≤j∧j≤runN sB s i) (eW s cm) (fun _=>aK acc) (fun j=>j+1) (fun j=>s.length+1 - j) (fun(_:Unit)=>True) (fun _=>eW s cm (runN sB s i)) (fun _=>aK acc) (fun _=>()) (Sx.ei (Sx.bB Tryz.f90 0) - 1) Kr j):=by
 have hle:=jx sB s i hi
 obtain⟨hj1,hj2⟩:=hj
 have c10:=jF s
 by_cases hlt:j < runN sB s i
 ·obtain⟨c,hc,hp⟩:=vJ hj1 hlt
  have nM:Value.bool (decide ((j:Int) < (s.length:Int)))=.bool true:=gv (decide_eq_true (by omega))
  have c15:=gy s j c hc
  have c20:=gy s j c hc
  unfold sB at hp
  rw[Bool.or_eq_true,beq_iff_eq,beq_iff_eq]at hp
  by_cases h32:c=32
  ·have gB:Value.bool ((c.toNat:Int)==32)=.bool true:=gv (pG h32)
   have c25:Value.int .i64 (IntKind.i64.wrap ((j:Int)+1))=.int .i64 ((j+1:Nat):Int):=iw (gE (by omega) (by omega))
   have h0:i≤j+1∧j+1≤runN sB s i:=⟨by omega,by omega⟩
   have h1:s.length+1 - (j+1) < s.length+1 - j:=by omega
   have h2:eW s cm (j+1)=eW s cm (j+1):=rfl
   have z3:aK acc=aK acc:=rfl
   refine⟨[(10,.is (.int .i64 (s.length:Int))),(11,.is (.bool true)),(15,.bin (u8 c)),(16,.is (.bool true)),(25,.is (.int .i64 ((j+1:Nat):Int)))],[],?_⟩
   exact Eq.mp (by kernel_rfl) (Sx.t8 c10 nM c15 gB c25 h0 h1 h2 z3)
  ·have h9:c=9:=hp.resolve_left h32
   have gB:Value.bool ((c.toNat:Int)==32)=.bool false:=gZ (ll h32)
   have c21:Value.bool ((c.toNat:Int)==9)=.bool true:=gv (pG h9)
   have c25:Value.int .i64 (IntKind.i64.wrap ((j:Int)+1))=.int .i64 ((j+1:Nat):Int):=iw (gE (by omega) (by omega))
   have h0:i≤j+1∧j+1≤runN sB s i:=⟨by omega,by omega⟩
   have h1:s.length+1 - (j+1) < s.length+1 - j:=by omega
   have h2:eW s cm (j+1)=eW s cm (j+1):=rfl
   have z3:aK acc=aK acc:=rfl
   refine⟨[(10,.is (.int .i64 (s.length:Int))),(11,.is (.bool true)),(15,.bin (u8 c)),(16,.is (.bool false)),(20,.bin (u8 c)),(21,.is (.bool true)),(25,.is (.int .i64 ((j+1:Nat):Int)))],[],?_⟩
   exact Eq.mp (by kernel_rfl) (Sx.t8 c10 nM c15 gB c20 c21 c25 h0 (Sx.t2 h1 h2 z3))
 ·have hje:j=runN sB s i:=by omega
  have h0:True:=trivial
  have h1:eW s cm j=eW s cm (runN sB s i):=by rw[hje]
  have z2:aK acc=aK acc:=rfl
  by_cases hend:j < s.length
  ·obtain⟨c,hc,hp⟩:=jb hi (by omega:runN sB s i < s.length)
   rw[←hje]at hc
   have nM:Value.bool (decide ((j:Int) < (s.length:Int)))=.bool true:=gv (decide_eq_true (by omega))
   have c15:=gy s j c hc
   have c20:=gy s j c hc
   unfold sB at hp
   rw[Bool.or_eq_false_iff,beq_eq_false_iff_ne,beq_eq_false_iff_ne]at hp
   have gB:Value.bool ((c.toNat:Int)==32)=.bool false:=gZ (ll hp.1)
   have c21:Value.bool ((c.toNat:Int)==9)=.bool false:=gZ (ll hp.2)
   refine⟨[(10,.is (.int .i64 (s.length:Int))),(11,.is (.bool true)),(15,.bin (u8 c)),(16,.is (.bool false)),(20,.bin (u8 c)),(21,.is (.bool false))],[],?_⟩
   exact Eq.mp (by kernel_rfl) (Sx.t8 c10 nM c15 gB c20 c21 h0 h1 z2)
  ·have nM:Value.bool (decide ((j:Int) < (s.length:Int)))=.bool false:=gZ (decide_eq_false (by omega))
   refine⟨[(10,.is (.int .i64 (s.length:Int))),(11,.is (.bool false))],[],?_⟩
   exact Eq.mp (by kernel_rfl) (Sx.t4 c10 nM h0 h1 z2)
theorem BP{PP:List PanicEntry→World→Prop}(w:World)(s:Bs)(cm:Bool)(hs:s.length≤100000000)(i:Nat)(hi:i≤s.length)(acc:List Bs)(Kr:Sx.St→Prop)(j:Nat)(hj:i≤j∧j≤runN (wC cm) s i) :
  ∃H' L',Sx.jk Tryz.prog Tryz.f90.ntmps ⟨w,[],PP⟩ (Sx.bB Tryz.f90 1) H' L' ⟨fB s cm i j,aK acc⟩ (Sx.ek (fun j=>i≤j∧j≤runN (wC cm) s i) (fB s cm i) (fun _=>aK acc) (fun j=>j+1) (fun j=>s.length+1 - j) (fun(_:Unit)=>True) (fun _=>fB s cm i (runN (wC cm) s i)) (fun _=>aK acc) (fun _=>()) (Sx.ei (Sx.bB Tryz.f90 1) - 1) Kr j):=by
 have hle:=jx (wC cm) s i hi
 obtain⟨hj1,hj2⟩:=hj
 have c43:=jF s
 cases cm with
 |true=>
  by_cases hlt:j < runN (wC true) s i
  ·obtain⟨c,hc,hp⟩:=vJ hj1 hlt
   have c44:Value.bool (decide ((j:Int) < (s.length:Int)))=.bool true:=gv (decide_eq_true (by omega))
   have c48:=gy s j c hc
   have c54:=gy s j c hc
   have c62:=gy s j c hc
   unfold wC sB at hp
   rw[Bool.and_eq_true,Bool.not_eq_true',Bool.not_eq_true',Bool.or_eq_false_iff,beq_eq_false_iff_ne,beq_eq_false_iff_ne]at hp
   have c49:Value.bool ((c.toNat:Int) !=32)=.bool true:=gv (jo hp.1.1)
   have c55:Value.bool ((c.toNat:Int) !=9)=.bool true:=gv (jo hp.1.2)
   have n35:c≠35:=fun h=>by rw[h]at hp;exact absurd hp.2 (by decide)
   have c63:Value.bool ((c.toNat:Int)==35)=.bool false:=gZ (ll n35)
   have c68:Value.int .i64 (IntKind.i64.wrap ((j:Int)+1))=.int .i64 ((j+1:Nat):Int):=iw (gE (by omega) (by omega))
   have h0:i≤j+1∧j+1≤runN (wC true) s i:=⟨by omega,by omega⟩
   have h1:s.length+1 - (j+1) < s.length+1 - j:=by omega
   have h2:fB s true i (j+1)=fB s true i (j+1):=rfl
   have z3:aK acc=aK acc:=rfl
   refine⟨[(43,.is (.int .i64 (s.length:Int))),(44,.is (.bool true)),(48,.bin (u8 c)),(49,.is (.bool true)),(54,.bin (u8 c)),(55,.is (.bool true)),(62,.bin (u8 c)),(63,.is (.bool false)),(68,.is (.int .i64 ((j+1:Nat):Int)))],[],?_⟩
   exact Eq.mp (by kernel_rfl) (Sx.t8 c43 c44 c48 c49 c54 c55 c62 c63 (Sx.t4 c68 h0 h1 h2 z3))
  ·have hje:j=runN (wC true) s i:=by omega
   have h0:True:=trivial
   have h1:fB s true i j=fB s true i (runN (wC true) s i):=by rw[hje]
   have z2:aK acc=aK acc:=rfl
   by_cases hend:j < s.length
   ·obtain⟨c,hc,hp⟩:=jb hi (by omega:runN (wC true) s i < s.length)
    rw[←hje]at hc
    have c44:Value.bool (decide ((j:Int) < (s.length:Int)))=.bool true:=gv (decide_eq_true (by omega))
    have c48:=gy s j c hc
    have c54:=gy s j c hc
    by_cases h32:c=32
    ·have c49:Value.bool ((c.toNat:Int) !=32)=.bool false:=gZ (pF h32)
     refine⟨[(43,.is (.int .i64 (s.length:Int))),(44,.is (.bool true)),(48,.bin (u8 c)),(49,.is (.bool false))],[],?_⟩
     exact Eq.mp (by kernel_rfl) (Sx.t4 c43 c44 c48 c49 (Sx.t2 h0 h1 z2))
    ·have c49:Value.bool ((c.toNat:Int) !=32)=.bool true:=gv (jo h32)
     by_cases h9:c=9
     ·have c55:Value.bool ((c.toNat:Int) !=9)=.bool false:=gZ (pF h9)
      refine⟨[(43,.is (.int .i64 (s.length:Int))),(44,.is (.bool true)),(48,.bin (u8 c)),(49,.is (.bool true)),(54,.bin (u8 c)),(55,.is (.bool false))],[],?_⟩
      exact Eq.mp (by kernel_rfl) (Sx.t8 c43 c44 c48 c49 c54 c55 h0 h1 z2)
     ·have c55:Value.bool ((c.toNat:Int) !=9)=.bool true:=gv (jo h9)
      have c62:=gy s j c hc
      have h35:c=35:=by
       unfold wC sB at hp
       simpa[h32,h9]using hp
      have c63:Value.bool ((c.toNat:Int)==35)=.bool true:=gv (pG h35)
      refine⟨[(43,.is (.int .i64 (s.length:Int))),(44,.is (.bool true)),(48,.bin (u8 c)),(49,.is (.bool true)),(54,.bin (u8 c)),(55,.is (.bool true)),(62,.bin (u8 c)),(63,.is (.bool true))],[],?_⟩
      exact Eq.mp (by kernel_rfl) (Sx.t8 c43 c44 c48 c49 c54 c55 c62 c63 (Sx.t2 h0 h1 z2))
   ·have c44:Value.bool (decide ((j:Int) < (s.length:Int)))=.bool false:=gZ (decide_eq_false (by omega))
    refine⟨[(43,.is (.int .i64 (s.length:Int))),(44,.is (.bool false))],[],?_⟩
    exact Eq.mp (by kernel_rfl) (Sx.t4 c43 c44 h0 h1 z2)
 |false=>
  by_cases hlt:j < runN (wC false) s i
  ·obtain⟨c,hc,hp⟩:=vJ hj1 hlt
   have c44:Value.bool (decide ((j:Int) < (s.length:Int)))=.bool true:=gv (decide_eq_true (by omega))
   have c48:=gy s j c hc
   have c54:=gy s j c hc
   unfold wC sB at hp
   rw[Bool.and_eq_true,Bool.not_eq_true',Bool.not_eq_true',Bool.or_eq_false_iff,beq_eq_false_iff_ne,beq_eq_false_iff_ne]at hp
   have c49:Value.bool ((c.toNat:Int) !=32)=.bool true:=gv (jo hp.1.1)
   have c55:Value.bool ((c.toNat:Int) !=9)=.bool true:=gv (jo hp.1.2)
   have c68:Value.int .i64 (IntKind.i64.wrap ((j:Int)+1))=.int .i64 ((j+1:Nat):Int):=iw (gE (by omega) (by omega))
   have h0:i≤j+1∧j+1≤runN (wC false) s i:=⟨by omega,by omega⟩
   have h1:s.length+1 - (j+1) < s.length+1 - j:=by omega
   have h2:fB s false i (j+1)=fB s false i (j+1):=rfl
   have z3:aK acc=aK acc:=rfl
   refine⟨[(43,.is (.int .i64 (s.length:Int))),(44,.is (.bool true)),(48,.bin (u8 c)),(49,.is (.bool true)),(54,.bin (u8 c)),(55,.is (.bool true)),(68,.is (.int .i64 ((j+1:Nat):Int)))],[],?_⟩
   exact Eq.mp (by kernel_rfl) (Sx.t8 c43 c44 c48 c49 c54 c55 c68 h0 (Sx.t2 h1 h2 z3))
  ·have hje:j=runN (wC false) s i:=by omega
   have h0:True:=trivial
   have h1:fB s false i j=fB s false i (runN (wC false) s i):=by rw[hje]
   have z2:aK acc=aK acc:=rfl
   by_cases hend:j < s.length
   ·obtain⟨c,hc,hp⟩:=jb hi (by omega:runN (wC false) s i < s.length)
    rw[←hje]at hc
    have c44:Value.bool (decide ((j:Int) < (s.length:Int)))=.bool true:=gv (decide_eq_true (by omega))
    have c48:=gy s j c hc
    have c54:=gy s j c hc
    by_cases h32:c=32
    ·have c49:Value.bool ((c.toNat:Int) !=32)=.bool false:=gZ (pF h32)
     refine⟨[(43,.is (.int .i64 (s.length:Int))),(44,.is (.bool true)),(48,.bin (u8 c)),(49,.is (.bool false))],[],?_⟩
     exact Eq.mp (by kernel_rfl) (Sx.t4 c43 c44 c48 c49 (Sx.t2 h0 h1 z2))
    ·have c49:Value.bool ((c.toNat:Int) !=32)=.bool true:=gv (jo h32)
     by_cases h9:c=9
     ·have c55:Value.bool ((c.toNat:Int) !=9)=.bool false:=gZ (pF h9)
      refine⟨[(43,.is (.int .i64 (s.length:Int))),(44,.is (.bool true)),(48,.bin (u8 c)),(49,.is (.bool true)),(54,.bin (u8 c)),(55,.is (.bool false))],[],?_⟩
      exact Eq.mp (by kernel_rfl) (Sx.t8 c43 c44 c48 c49 c54 c55 h0 h1 z2)
     ·exfalso
      unfold wC sB at hp
      simp[h32,h9]at hp
   ·have c44:Value.bool (decide ((j:Int) < (s.length:Int)))=.bool false:=gZ (decide_eq_false (by omega))
    refine⟨[(43,.is (.int .i64 (s.length:Int))),(44,.is (.bool false))],[],?_⟩
    exact Eq.mp (by kernel_rfl) (Sx.t4 c43 c44 h0 h1 z2)
def b8(s:Bs)(cm:Bool)(k:Nat×List Bs):Nat×List Bs:=(runN (wC cm) s (runN sB s k.1),k.2++[(s.take (runN (wC cm) s (runN sB s k.1))).drop (runN sB s k.1)])
def EV(s:Bs)(cm:Bool)(k:Nat×List Bs):Prop:=k.1≤s.length∧k.2.length≤k.1∧k.2++lx cm s k.1=lx cm s 0
def rH(s:Bs)(cm:Bool)(l:List Sx.SV)(mem:List Sx.Row):Prop:=∃j,l=[.own j]∧mem[j]?=some ⟨9,.own 1 (aJ cm s).length ((aJ cm s).map ab)⟩
def ud(s:Bs)(cm:Bool)(i:Nat)(acc:List Bs):Sx.Loop:=.mk Nat i (fun j=>i≤j∧j≤runN sB s i) (eW s cm) (fun _=>aK acc) (fun j=>j+1) (fun j=>s.length+1 - j) Unit (fun _=>True) (fun _=>eW s cm (runN sB s i)) (fun _=>aK acc) (fun _=>())
def I8(s:Bs)(cm:Bool)(i:Nat)(acc:List Bs):Sx.Loop:=.mk Nat i (fun j=>i≤j∧j≤runN (wC cm) s i) (fB s cm i) (fun _=>aK acc) (fun j=>j+1) (fun j=>s.length+1 - j) Unit (fun _=>True) (fun _=>fB s cm i (runN (wC cm) s i)) (fun _=>aK acc) (fun _=>())
noncomputable def Fa:Code:=Sx.Ko (Sx.BZ (Tryz.f90.body.getD .skip)) 0
theorem I7{PP:List PanicEntry→World→Prop}(w:World)(s:Bs)(cm:Bool)(hs:s.length≤1000000)(k:Nat×List Bs)(hk:EV s cm k) :
  ∃H' L',Sx.jk Tryz.prog Tryz.f90.ntmps ⟨w,[],PP⟩ Fa H' L' ⟨eW s cm k.1,aK k.2⟩ (Sx.yM 0 (EV s cm) (fun k=>eW s cm k.1) (fun k=>aK k.2) (s.length - (b8 s cm k).1 < s.length - k.1) (b8 s cm k) (Sx.bR Tryz.prog Tryz.f90 (rH s cm))):=by
 have hi:=hk.1
 have hbl:=jx sB s k.1 hi
 have hs:s.length≤100000000:=by omega
 cases cm with
 |true=>
  have hsk:=kA true s k.1
  by_cases hend:(runN sB s k.1) < s.length
  ·obtain⟨c,hc,hp⟩:=jb hi hend
   by_cases h35:c=35
   ·have hfin:aJ true s=k.2:=by
     have:=hk.2.2
     rw[hsk,rK s (runN sB s k.1) (by rw[hc,h35]),List.append_nil]at this
     exact this.symm
    have h0:k.1≤k.1∧k.1≤(runN sB s k.1):=⟨Nat.le_refl _,cF _ _ _⟩
    have e1:eW s true k.1=eW s true k.1∧aK k.2=aK k.2:=⟨rfl,rfl⟩
    have jA:=nE (PP:=PP) w s true hs k.1 hi k.2 (Sx.bR Tryz.prog Tryz.f90 (rH s true) .ret)
    have c28f:=fun(_:Unit) (_:True)=>jF s
    have c29f:=fun(_:Unit) (_:True)=>(show Value.bool (((runN sB s k.1):Int)==(s.length:Int))=.bool false from gZ (by rw[beq_eq_false_iff_ne];omega))
    have c35f:=fun(_:Unit) (_:True)=>gy s (runN sB s k.1) c hc
    have c36f:=fun(_:Unit) (_:True)=>(show Value.bool ((c.toNat:Int)==35)=.bool true from gv (pG h35))
    have z5f:=fun(_:Unit) (_:True)=>(show rH s true [.own 0] (aK k.2)from⟨0,rfl,by rw[hfin];rfl⟩)
    refine⟨[(28,.is (.int .i64 (s.length:Int))),(29,.is (.bool false)),(35,.bin (u8 c)),(36,.is (.bool true))],[ud s true k.1 k.2],?_⟩
    exact Eq.mp (by kernel_rfl) (Sx.t2 h0 e1 (And.intro jA (fun(x3:Unit) (hx4:True)=>(Sx.t4 (c28f x3 hx4) (c29f x3 hx4) (c35f x3 hx4) (c36f x3 hx4) (z5f x3 hx4)))))
   ·have hw:wC true c=true:=by unfold wC;rw[hp];simp[h35]
    have hwd:=kz true s (runN sB s k.1) hc hw
    have hel:=jx (wC true) s (runN sB s k.1) hbl
    have hgt:=oR hc hw
    have hge:=cF sB s k.1
    have hfew:(k.2:List Bs).length≤1000000:=by have:=hk.2.1;omega
    have hmu:s.length - (b8 s true k).1 < s.length - k.1:=by show s.length - runN (wC true) s (runN sB s k.1) < _; omega
    have hnx:EV s true (b8 s true k):=by
     refine⟨hel,?_,?_⟩
     ·have:=hk.2.1
      simp only[b8,List.length_append,List.length_singleton]
      first|omega | (simp at this ⊢;omega)
     ·have:=hk.2.2
      rw[hsk,hwd]at this
      rw[←this]
      simp[b8]
    have h0:k.1≤k.1∧k.1≤(runN sB s k.1):=⟨Nat.le_refl _,cF _ _ _⟩
    have e1:eW s true k.1=eW s true k.1∧aK k.2=aK k.2:=⟨rfl,rfl⟩
    have jA:=nE (PP:=PP) w s true hs k.1 hi k.2 (Sx.bR Tryz.prog Tryz.f90 (rH s true) .ret)
    have c28f:=fun(_:Unit) (_:True)=>jF s
    have c29f:=fun(_:Unit) (_:True)=>(show Value.bool (((runN sB s k.1):Int)==(s.length:Int))=.bool false from gZ (by rw[beq_eq_false_iff_ne];omega))
    have c35f:=fun(_:Unit) (_:True)=>gy s (runN sB s k.1) c hc
    have c36f:=fun(_:Unit) (_:True)=>(show Value.bool ((c.toNat:Int)==35)=.bool false from gZ (ll h35))
    have h5f:=fun(_:Unit) (_:True)=>(show(runN sB s k.1)≤(runN sB s k.1)∧(runN sB s k.1)≤(runN (wC true) s (runN sB s k.1))from⟨Nat.le_refl _,cF _ _ _⟩)
    have e6f:=fun(_:Unit) (_:True)=>(show fB s true (runN sB s k.1) (runN sB s k.1)=fB s true (runN sB s k.1) (runN sB s k.1)∧aK k.2=aK k.2 from⟨rfl,rfl⟩)
    have rd7f:=fun(_:Unit) (_:True)=>BP (PP:=PP) w s true hs (runN sB s k.1) hbl k.2 (Sx.bR Tryz.prog Tryz.f90 (rH s true) .ret)
    have c73f:=fun(_:Unit) (_:True) (_:Unit) (_:True)=>mO s (runN sB s k.1) (runN (wC true) s (runN sB s k.1)) (cF _ _ _) hel
    have c75f:=fun(_:Unit) (_:True) (_:Unit) (_:True)=>lq (cells:=[ab ((s.take (runN (wC true) s (runN sB s k.1))).drop (runN sB s k.1))]) (size:=1) (len:=k.2.length) (B:=bytesOf 9) (by kernel_rfl) (by kernel_rfl) hfew (by decide+kernel)
    have h10f:=fun(_:Unit) (_:True) (_:Unit) (_:True)=>hmu
    have h11f:=fun(_:Unit) (_:True) (_:Unit) (_:True)=>(show EV s true (b8 s true k)from hnx)
    have h12f:=fun(_:Unit) (_:True) (_:Unit) (_:True)=>(rfl:qo s true 2 (runN (wC true) s (runN sB s k.1))=qo s true 2 (b8 s true k).1)
    have z13f:=fun(_:Unit) (_:True) (_:Unit) (_:True)=>(show [(⟨9,.own 1 (k.2.length+1) (k.2.map ab++[ab ((s.take (runN (wC true) s (runN sB s k.1))).drop (runN sB s k.1))])⟩:Sx.Row)]=aK (b8 s true k).2 from by simp[aK,b8])
    refine⟨[(28,.is (.int .i64 (s.length:Int))),(29,.is (.bool false)),(35,.bin (u8 c)),(36,.is (.bool false)),(73,.bin (ab ((s.take (runN (wC true) s (runN sB s k.1))).drop (runN sB s k.1))))],[ud s true k.1 k.2,I8 s true (runN sB s k.1) k.2],?_⟩
    exact Eq.mp (by kernel_rfl) (Sx.t2 h0 e1 (And.intro jA (fun(x3:Unit) (hx4:True)=>(Sx.t4 (c28f x3 hx4) (c29f x3 hx4) (c35f x3 hx4) (c36f x3 hx4) (Sx.t2 (h5f x3 hx4) (e6f x3 hx4) (And.intro (rd7f x3 hx4) (fun(x8:Unit) (hx9:True)=>(Sx.t4 (c73f x3 hx4 x8 hx9) (c75f x3 hx4 x8 hx9) (h10f x3 hx4 x8 hx9) (h11f x3 hx4 x8 hx9) (And.intro (h12f x3 hx4 x8 hx9) (z13f x3 hx4 x8 hx9))))))))))
  ·have hb:(runN sB s k.1)=s.length:=by omega
   have hfin:aJ true s=k.2:=by
    have:=hk.2.2
    rw[hsk,hb,mJ,List.append_nil]at this
    exact this.symm
   have h0:k.1≤k.1∧k.1≤(runN sB s k.1):=⟨Nat.le_refl _,cF _ _ _⟩
   have e1:eW s true k.1=eW s true k.1∧aK k.2=aK k.2:=⟨rfl,rfl⟩
   have jA:=nE (PP:=PP) w s true hs k.1 hi k.2 (Sx.bR Tryz.prog Tryz.f90 (rH s true) .ret)
   have c28f:=fun(_:Unit) (_:True)=>jF s
   have c29f:=fun(_:Unit) (_:True)=>(show Value.bool (((runN sB s k.1):Int)==(s.length:Int))=.bool true from gv (by rw[hb];simp))
   have z5f:=fun(_:Unit) (_:True)=>(show rH s true [.own 0] (aK k.2)from⟨0,rfl,by rw[hfin];rfl⟩)
   refine⟨[(28,.is (.int .i64 (s.length:Int))),(29,.is (.bool true))],[ud s true k.1 k.2],?_⟩
   exact Eq.mp (by kernel_rfl) (Sx.t2 h0 e1 (And.intro jA (fun(x3:Unit) (hx4:True)=>(Sx.t2 (c28f x3 hx4) (c29f x3 hx4) (z5f x3 hx4)))))
 |false=>
  have hsk:=kA false s k.1
  by_cases hend:(runN sB s k.1) < s.length
  ·obtain⟨c,hc,hp⟩:=jb hi hend
   have hw:wC false c=true:=by unfold wC;rw[hp];rfl
   have hwd:=kz false s (runN sB s k.1) hc hw
   have hel:=jx (wC false) s (runN sB s k.1) hbl
   have hgt:=oR hc hw
   have hge:=cF sB s k.1
   have hfew:(k.2:List Bs).length≤1000000:=by have:=hk.2.1;omega
   have hmu:s.length - (b8 s false k).1 < s.length - k.1:=by show s.length - runN (wC false) s (runN sB s k.1) < _; omega
   have hnx:EV s false (b8 s false k):=by
    refine⟨hel,?_,?_⟩
    ·have:=hk.2.1
     simp only[b8,List.length_append,List.length_singleton]
     first|omega | (simp at this ⊢;omega)
    ·have:=hk.2.2
     rw[hsk,hwd]at this
     rw[←this]
     simp[b8]
   have h0:k.1≤k.1∧k.1≤(runN sB s k.1):=⟨Nat.le_refl _,cF _ _ _⟩
   have e1:eW s false k.1=eW s false k.1∧aK k.2=aK k.2:=⟨rfl,rfl⟩
   have jA:=nE (PP:=PP) w s false hs k.1 hi k.2 (Sx.bR Tryz.prog Tryz.f90 (rH s false) .ret)
   have c28f:=fun(_:Unit) (_:True)=>jF s
   have c29f:=fun(_:Unit) (_:True)=>(show Value.bool (((runN sB s k.1):Int)==(s.length:Int))=.bool false from gZ (by rw[beq_eq_false_iff_ne];omega))
   have h5f:=fun(_:Unit) (_:True)=>(show(runN sB s k.1)≤(runN sB s k.1)∧(runN sB s k.1)≤(runN (wC false) s (runN sB s k.1))from⟨Nat.le_refl _,cF _ _ _⟩)
   have e6f:=fun(_:Unit) (_:True)=>(show fB s false (runN sB s k.1) (runN sB s k.1)=fB s false (runN sB s k.1) (runN sB s k.1)∧aK k.2=aK k.2 from⟨rfl,rfl⟩)
   have rd7f:=fun(_:Unit) (_:True)=>BP (PP:=PP) w s false hs (runN sB s k.1) hbl k.2 (Sx.bR Tryz.prog Tryz.f90 (rH s false) .ret)
   have c73f:=fun(_:Unit) (_:True) (_:Unit) (_:True)=>mO s (runN sB s k.1) (runN (wC false) s (runN sB s k.1)) (cF _ _ _) hel
   have c75f:=fun(_:Unit) (_:True) (_:Unit) (_:True)=>lq (cells:=[ab ((s.take (runN (wC false) s (runN sB s k.1))).drop (runN sB s k.1))]) (size:=1) (len:=k.2.length) (B:=bytesOf 9) (by kernel_rfl) (by kernel_rfl) hfew (by decide+kernel)
   have h10f:=fun(_:Unit) (_:True) (_:Unit) (_:True)=>hmu
   have h11f:=fun(_:Unit) (_:True) (_:Unit) (_:True)=>(show EV s false (b8 s false k)from hnx)
   have h12f:=fun(_:Unit) (_:True) (_:Unit) (_:True)=>(rfl:qo s false 2 (runN (wC false) s (runN sB s k.1))=qo s false 2 (b8 s false k).1)
   have z13f:=fun(_:Unit) (_:True) (_:Unit) (_:True)=>(show [(⟨9,.own 1 (k.2.length+1) (k.2.map ab++[ab ((s.take (runN (wC false) s (runN sB s k.1))).drop (runN sB s k.1))])⟩:Sx.Row)]=aK (b8 s false k).2 from by simp[aK,b8])
   refine⟨[(28,.is (.int .i64 (s.length:Int))),(29,.is (.bool false)),(73,.bin (ab ((s.take (runN (wC false) s (runN sB s k.1))).drop (runN sB s k.1))))],[ud s false k.1 k.2,I8 s false (runN sB s k.1) k.2],?_⟩
   exact Eq.mp (by kernel_rfl) (Sx.t2 h0 e1 (And.intro jA (fun(x3:Unit) (hx4:True)=>(Sx.t4 (c28f x3 hx4) (c29f x3 hx4) (h5f x3 hx4) (e6f x3 hx4) (And.intro (rd7f x3 hx4) (fun(x8:Unit) (hx9:True)=>(Sx.t4 (c73f x3 hx4 x8 hx9) (c75f x3 hx4 x8 hx9) (h10f x3 hx4 x8 hx9) (h11f x3 hx4 x8 hx9) (And.intro (h12f x3 hx4 x8 hx9) (z13f x3 hx4 x8 hx9)))))))))
  ·have hb:(runN sB s k.1)=s.length:=by omega
   have hfin:aJ false s=k.2:=by
    have:=hk.2.2
    rw[hsk,hb,mJ,List.append_nil]at this
    exact this.symm
   have h0:k.1≤k.1∧k.1≤(runN sB s k.1):=⟨Nat.le_refl _,cF _ _ _⟩
   have e1:eW s false k.1=eW s false k.1∧aK k.2=aK k.2:=⟨rfl,rfl⟩
   have jA:=nE (PP:=PP) w s false hs k.1 hi k.2 (Sx.bR Tryz.prog Tryz.f90 (rH s false) .ret)
   have c28f:=fun(_:Unit) (_:True)=>jF s
   have c29f:=fun(_:Unit) (_:True)=>(show Value.bool (((runN sB s k.1):Int)==(s.length:Int))=.bool true from gv (by rw[hb];simp))
   have z5f:=fun(_:Unit) (_:True)=>(show rH s false [.own 0] (aK k.2)from⟨0,rfl,by rw[hfin];rfl⟩)
   refine⟨[(28,.is (.int .i64 (s.length:Int))),(29,.is (.bool true))],[ud s false k.1 k.2],?_⟩
   exact Eq.mp (by kernel_rfl) (Sx.t2 h0 e1 (And.intro jA (fun(x3:Unit) (hx4:True)=>(Sx.t2 (c28f x3 hx4) (c29f x3 hx4) (z5f x3 hx4)))))
def Nh(s:Bs)(cm:Bool)(w:World)(e:Ending)(w':World):Prop:=∃(A:Option Go.Addr) (cc:Nat),e=.returned (.slice A (aJ cm s).length cc)∧Own w' 9 1 (.slice A (aJ cm s).length cc) (aJ cm s).length ((aJ cm s).map ab)∧(∀k,A.map (·.block)=some k→w.heap.size≤k)∧ag [] w w'
theorem I3(w:World)(s:Bs)(cm:Bool)(hs:s.length≤1000000):Calls Tryz.prog 90 #[ab s,.bool cm] w (Nh s cm w):=by
 have key:Calls Tryz.prog 90 #[ab s,.bool cm] w (Sx.cd ⟨w,[],fun _ _=>False⟩ (rH s cm)):=by
  have hF:=Sx.gb (w:=w) (S:=[]) (PP:=fun _ _=>False) (G:=[]) (fun q hq=>by cases hq) (fun q hq=>by cases hq) (by simp)
  have hk:EV s cm (0,[]):=⟨Nat.zero_le _,Nat.le_refl _,rfl⟩
  have hi:0≤s.length:=Nat.zero_le _
  have hbl:=jx sB s 0 hi
  have first:=Sx.Bu (args:=[.val (ab s),.val (.bool cm)]) hF 0 (b8 s cm (0,[])) (EV s cm) (fun k=>eW s cm k.1) (fun k=>aK k.2) (b8 s cm) (fun k=>s.length - k.1) [] (P:=Tryz.prog) (fn:=Tryz.f90) (a0:=Sx.ML (Tryz.f90.body.getD .skip)) (c:=Sx.BZ (Tryz.f90.body.getD .skip)) (f:=90) (rest:=Fa) (R:=rH s cm)
  have hs':s.length≤100000000:=by omega
  replace first:=fun H L hx=>first H L (by kernel_rfl) Tryz.func90 rfl (by kernel_rfl) (Nat.le_of_ble_eq_true rfl) rfl (I7 w s cm hs) hx
  have hs:=hs'
  cases cm with
  |true=>
   have hsk:=kA true s 0
   by_cases hend:(runN sB s 0) < s.length
   ·obtain⟨c,hc,hp⟩:=jb hi hend
    by_cases h35:c=35
    ·have hfin:aJ true s=([]:List Bs):=by
      exact hsk.trans (rK s (runN sB s 0) (by rw[hc,h35]))
     have h0:0≤0∧0≤(runN sB s 0):=⟨Nat.le_refl _,cF _ _ _⟩
     have e1:eW s true 0=eW s true 0∧aK ([]:List Bs)=aK ([]:List Bs):=⟨rfl,rfl⟩
     have jA:=nE (PP:=fun _ _=>False) w s true hs 0 hi ([]:List Bs) (Sx.bR Tryz.prog Tryz.f90 (rH s true) .ret)
     have c28f:=fun(_:Unit) (_:True)=>jF s
     have c29f:=fun(_:Unit) (_:True)=>(show Value.bool (((runN sB s 0):Int)==(s.length:Int))=.bool false from gZ (by rw[beq_eq_false_iff_ne];omega))
     have c35f:=fun(_:Unit) (_:True)=>gy s (runN sB s 0) c hc
     have c36f:=fun(_:Unit) (_:True)=>(show Value.bool ((c.toNat:Int)==35)=.bool true from gv (pG h35))
     have z5f:=fun(_:Unit) (_:True)=>(show rH s true [.own 0] (aK ([]:List Bs))from⟨0,rfl,by rw[hfin];rfl⟩)
     refine first [(5,.gL 9 1),(28,.is (.int .i64 (s.length:Int))),(29,.is (.bool false)),(35,.bin (u8 c)),(36,.is (.bool true))] [ud s true 0 ([]:List Bs)] ?_
     exact Eq.mp (by kernel_rfl) (Sx.t2 h0 e1 (And.intro jA (fun(x3:Unit) (hx4:True)=>(Sx.t4 (c28f x3 hx4) (c29f x3 hx4) (c35f x3 hx4) (c36f x3 hx4) (z5f x3 hx4)))))
    ·have hw:wC true c=true:=by unfold wC;rw[hp];simp[h35]
     have hwd:=kz true s (runN sB s 0) hc hw
     have hel:=jx (wC true) s (runN sB s 0) hbl
     have hgt:=oR hc hw
     have hge:=cF sB s 0
     have hfew:(([]:List Bs):List Bs).length≤1000000:=Nat.zero_le _
     have hnx:EV s true (b8 s true (0,[])):=by
      refine⟨hel,?_,?_⟩
      ·have:=hk.2.1
       simp only[b8,List.length_append,List.length_singleton]
       first|omega | (simp at this ⊢;omega)
      ·exact(hsk.trans hwd).symm
     have h0:0≤0∧0≤(runN sB s 0):=⟨Nat.le_refl _,cF _ _ _⟩
     have e1:eW s true 0=eW s true 0∧aK ([]:List Bs)=aK ([]:List Bs):=⟨rfl,rfl⟩
     have jA:=nE (PP:=fun _ _=>False) w s true hs 0 hi ([]:List Bs) (Sx.bR Tryz.prog Tryz.f90 (rH s true) .ret)
     have c28f:=fun(_:Unit) (_:True)=>jF s
     have c29f:=fun(_:Unit) (_:True)=>(show Value.bool (((runN sB s 0):Int)==(s.length:Int))=.bool false from gZ (by rw[beq_eq_false_iff_ne];omega))
     have c35f:=fun(_:Unit) (_:True)=>gy s (runN sB s 0) c hc
     have c36f:=fun(_:Unit) (_:True)=>(show Value.bool ((c.toNat:Int)==35)=.bool false from gZ (ll h35))
     have h5f:=fun(_:Unit) (_:True)=>(show(runN sB s 0)≤(runN sB s 0)∧(runN sB s 0)≤(runN (wC true) s (runN sB s 0))from⟨Nat.le_refl _,cF _ _ _⟩)
     have e6f:=fun(_:Unit) (_:True)=>(show fB s true (runN sB s 0) (runN sB s 0)=fB s true (runN sB s 0) (runN sB s 0)∧aK ([]:List Bs)=aK ([]:List Bs)from⟨rfl,rfl⟩)
     have rd7f:=fun(_:Unit) (_:True)=>BP (PP:=fun _ _=>False) w s true hs (runN sB s 0) hbl ([]:List Bs) (Sx.bR Tryz.prog Tryz.f90 (rH s true) .ret)
     have c73f:=fun(_:Unit) (_:True) (_:Unit) (_:True)=>mO s (runN sB s 0) (runN (wC true) s (runN sB s 0)) (cF _ _ _) hel
     have c75f:=fun(_:Unit) (_:True) (_:Unit) (_:True)=>lq (cells:=[ab ((s.take (runN (wC true) s (runN sB s 0))).drop (runN sB s 0))]) (size:=1) (len:=([]:List Bs).length) (B:=bytesOf 9) (by kernel_rfl) (by kernel_rfl) hfew (by decide+kernel)
     have h10f:=fun(_:Unit) (_:True) (_:Unit) (_:True)=>trivial
     have h11f:=fun(_:Unit) (_:True) (_:Unit) (_:True)=>(show EV s true (b8 s true (0,[]))from hnx)
     have h12f:=fun(_:Unit) (_:True) (_:Unit) (_:True)=>(rfl:qo s true 2 (runN (wC true) s (runN sB s 0))=qo s true 2 (b8 s true (0,[])).1)
     have z13f:=fun(_:Unit) (_:True) (_:Unit) (_:True)=>(show [(⟨9,.own 1 (([]:List Bs).length+1) (([]:List Bs).map ab++[ab ((s.take (runN (wC true) s (runN sB s 0))).drop (runN sB s 0))])⟩:Sx.Row)]=aK (b8 s true (0,[])).2 from by simp[aK,b8])
     refine first [(5,.gL 9 1),(28,.is (.int .i64 (s.length:Int))),(29,.is (.bool false)),(35,.bin (u8 c)),(36,.is (.bool false)),(73,.bin (ab ((s.take (runN (wC true) s (runN sB s 0))).drop (runN sB s 0))))] [ud s true 0 ([]:List Bs),I8 s true (runN sB s 0) ([]:List Bs)] ?_
     exact Eq.mp (by kernel_rfl) (Sx.t2 h0 e1 (And.intro jA (fun(x3:Unit) (hx4:True)=>(Sx.t4 (c28f x3 hx4) (c29f x3 hx4) (c35f x3 hx4) (c36f x3 hx4) (Sx.t2 (h5f x3 hx4) (e6f x3 hx4) (And.intro (rd7f x3 hx4) (fun(x8:Unit) (hx9:True)=>(Sx.t4 (c73f x3 hx4 x8 hx9) (c75f x3 hx4 x8 hx9) (h10f x3 hx4 x8 hx9) (h11f x3 hx4 x8 hx9) (And.intro (h12f x3 hx4 x8 hx9) (z13f x3 hx4 x8 hx9))))))))))
   ·have hb:(runN sB s 0)=s.length:=by omega
    have hfin:aJ true s=([]:List Bs):=by
     exact hsk.trans (by rw[hb];exact mJ _ _)
    have h0:0≤0∧0≤(runN sB s 0):=⟨Nat.le_refl _,cF _ _ _⟩
    have e1:eW s true 0=eW s true 0∧aK ([]:List Bs)=aK ([]:List Bs):=⟨rfl,rfl⟩
    have jA:=nE (PP:=fun _ _=>False) w s true hs 0 hi ([]:List Bs) (Sx.bR Tryz.prog Tryz.f90 (rH s true) .ret)
    have c28f:=fun(_:Unit) (_:True)=>jF s
    have c29f:=fun(_:Unit) (_:True)=>(show Value.bool (((runN sB s 0):Int)==(s.length:Int))=.bool true from gv (by rw[hb];simp))
    have z5f:=fun(_:Unit) (_:True)=>(show rH s true [.own 0] (aK ([]:List Bs))from⟨0,rfl,by rw[hfin];rfl⟩)
    refine first [(5,.gL 9 1),(28,.is (.int .i64 (s.length:Int))),(29,.is (.bool true))] [ud s true 0 ([]:List Bs)] ?_
    exact Eq.mp (by kernel_rfl) (Sx.t2 h0 e1 (And.intro jA (fun(x3:Unit) (hx4:True)=>(Sx.t2 (c28f x3 hx4) (c29f x3 hx4) (z5f x3 hx4)))))
  |false=>
   have hsk:=kA false s 0
   by_cases hend:(runN sB s 0) < s.length
   ·obtain⟨c,hc,hp⟩:=jb hi hend
    have hw:wC false c=true:=by unfold wC;rw[hp];rfl
    have hwd:=kz false s (runN sB s 0) hc hw
    have hel:=jx (wC false) s (runN sB s 0) hbl
    have hgt:=oR hc hw
    have hge:=cF sB s 0
    have hfew:(([]:List Bs):List Bs).length≤1000000:=Nat.zero_le _
    have hnx:EV s false (b8 s false (0,[])):=by
     refine⟨hel,?_,?_⟩
     ·have:=hk.2.1
      simp only[b8,List.length_append,List.length_singleton]
      first|omega | (simp at this ⊢;omega)
     ·exact(hsk.trans hwd).symm
    have h0:0≤0∧0≤(runN sB s 0):=⟨Nat.le_refl _,cF _ _ _⟩
    have e1:eW s false 0=eW s false 0∧aK ([]:List Bs)=aK ([]:List Bs):=⟨rfl,rfl⟩
    have jA:=nE (PP:=fun _ _=>False) w s false hs 0 hi ([]:List Bs) (Sx.bR Tryz.prog Tryz.f90 (rH s false) .ret)
    have c28f:=fun(_:Unit) (_:True)=>jF s
    have c29f:=fun(_:Unit) (_:True)=>(show Value.bool (((runN sB s 0):Int)==(s.length:Int))=.bool false from gZ (by rw[beq_eq_false_iff_ne];omega))
    have h5f:=fun(_:Unit) (_:True)=>(show(runN sB s 0)≤(runN sB s 0)∧(runN sB s 0)≤(runN (wC false) s (runN sB s 0))from⟨Nat.le_refl _,cF _ _ _⟩)
    have e6f:=fun(_:Unit) (_:True)=>(show fB s false (runN sB s 0) (runN sB s 0)=fB s false (runN sB s 0) (runN sB s 0)∧aK ([]:List Bs)=aK ([]:List Bs)from⟨rfl,rfl⟩)
    have rd7f:=fun(_:Unit) (_:True)=>BP (PP:=fun _ _=>False) w s false hs (runN sB s 0) hbl ([]:List Bs) (Sx.bR Tryz.prog Tryz.f90 (rH s false) .ret)
    have c73f:=fun(_:Unit) (_:True) (_:Unit) (_:True)=>mO s (runN sB s 0) (runN (wC false) s (runN sB s 0)) (cF _ _ _) hel
    have c75f:=fun(_:Unit) (_:True) (_:Unit) (_:True)=>lq (cells:=[ab ((s.take (runN (wC false) s (runN sB s 0))).drop (runN sB s 0))]) (size:=1) (len:=([]:List Bs).length) (B:=bytesOf 9) (by kernel_rfl) (by kernel_rfl) hfew (by decide+kernel)
    have h10f:=fun(_:Unit) (_:True) (_:Unit) (_:True)=>trivial
    have h11f:=fun(_:Unit) (_:True) (_:Unit) (_:True)=>(show EV s false (b8 s false (0,[]))from hnx)
    have h12f:=fun(_:Unit) (_:True) (_:Unit) (_:True)=>(rfl:qo s false 2 (runN (wC false) s (runN sB s 0))=qo s false 2 (b8 s false (0,[])).1)
    have z13f:=fun(_:Unit) (_:True) (_:Unit) (_:True)=>(show [(⟨9,.own 1 (([]:List Bs).length+1) (([]:List Bs).map ab++[ab ((s.take (runN (wC false) s (runN sB s 0))).drop (runN sB s 0))])⟩:Sx.Row)]=aK (b8 s false (0,[])).2 from by simp[aK,b8])
    refine first [(5,.gL 9 1),(28,.is (.int .i64 (s.length:Int))),(29,.is (.bool false)),(73,.bin (ab ((s.take (runN (wC false) s (runN sB s 0))).drop (runN sB s 0))))] [ud s false 0 ([]:List Bs),I8 s false (runN sB s 0) ([]:List Bs)] ?_
    exact Eq.mp (by kernel_rfl) (Sx.t2 h0 e1 (And.intro jA (fun(x3:Unit) (hx4:True)=>(Sx.t4 (c28f x3 hx4) (c29f x3 hx4) (h5f x3 hx4) (e6f x3 hx4) (And.intro (rd7f x3 hx4) (fun(x8:Unit) (hx9:True)=>(Sx.t4 (c73f x3 hx4 x8 hx9) (c75f x3 hx4 x8 hx9) (h10f x3 hx4 x8 hx9) (h11f x3 hx4 x8 hx9) (And.intro (h12f x3 hx4 x8 hx9) (z13f x3 hx4 x8 hx9)))))))))
   ·have hb:(runN sB s 0)=s.length:=by omega
    have hfin:aJ false s=([]:List Bs):=by
     exact hsk.trans (by rw[hb];exact mJ _ _)
    have h0:0≤0∧0≤(runN sB s 0):=⟨Nat.le_refl _,cF _ _ _⟩
    have e1:eW s false 0=eW s false 0∧aK ([]:List Bs)=aK ([]:List Bs):=⟨rfl,rfl⟩
    have jA:=nE (PP:=fun _ _=>False) w s false hs 0 hi ([]:List Bs) (Sx.bR Tryz.prog Tryz.f90 (rH s false) .ret)
    have c28f:=fun(_:Unit) (_:True)=>jF s
    have c29f:=fun(_:Unit) (_:True)=>(show Value.bool (((runN sB s 0):Int)==(s.length:Int))=.bool true from gv (by rw[hb];simp))
    have z5f:=fun(_:Unit) (_:True)=>(show rH s false [.own 0] (aK ([]:List Bs))from⟨0,rfl,by rw[hfin];rfl⟩)
    refine first [(5,.gL 9 1),(28,.is (.int .i64 (s.length:Int))),(29,.is (.bool true))] [ud s false 0 ([]:List Bs)] ?_
    exact Eq.mp (by kernel_rfl) (Sx.t2 h0 e1 (And.intro jA (fun(x3:Unit) (hx4:True)=>(Sx.t2 (c28f x3 hx4) (c29f x3 hx4) (z5f x3 hx4)))))
 refine key.mono fun e w' hp=>?_
 rcases hp with⟨β,l,mem,⟨j,rfl,hm⟩,he,hR⟩ | ⟨_,_,hf,_⟩
 ·have h0:β.n j=(aJ cm s).length∧Own w' 9 1 (.slice (β.a j) (aJ cm s).length (β.c j)) (aJ cm s).length ((aJ cm s).map ab):=hR.held j _ hm
  refine⟨β.a j,β.c j,?_,h0.2,fun k hk=>?_,hR.aF⟩
  ·rw[he]
   show Ending.returned (.slice (β.a j) (β.n j) (β.c j))=_
   rw[h0.1]
  ·rcases hR.new j _ k hm hk with hx|hx
   ·cases hx
   ·exact hx
 ·exact hf.elim
end Go.Proofs.YtnncigmpcdehnaaGreatDoor
