import Derived.Test.YtnncigmpcdehnaaGreatDoorQc25
namespace Go.Proofs.YtnncigmpcdehnaaGreatDoor
set_option maxRecDepth 100000
open Go.RowKit Go.Lib Go.Sort
def eW(s:Bs)(cm:Bool)(i:Nat):List (Nat×Sx.SV):=[(0,.val (ab s)),(1,.val (.bool cm)),(5,.own 0),(6,.val (.int .i64 (i:Int)))]
def qd(s:Bs)(cm:Bool)(o i:Nat):List (Nat×Sx.SV):=[(0,.val (ab s)),(1,.val (.bool cm)),(5,.own o),(6,.val (.int .i64 (i:Int)))]
def fy(s:Bs)(cm:Bool)(b i:Nat):List (Nat×Sx.SV):=(7,.val (.int .i64 (b:Int)))::eW s cm i
def aR(acc:List Bs):List Sx.Row:=[⟨9,.own 1 acc.length (acc.map ab)⟩]
theorem ph{c d:UInt8}(h:c=d):((c.toNat:Int)==(d.toNat:Int))=true:=by rw[h];simp
theorem lf{c d:UInt8}(h:c≠d):((c.toNat:Int)==(d.toNat:Int))=false:=by
 rw[beq_eq_false_iff_ne]
 intro hh
 exact h (UInt8.toNat_inj.1 (by omega))
theorem pg{c d:UInt8}(h:c=d):((c.toNat:Int) !=(d.toNat:Int))=false:=by rw[h];simp
theorem jl{c d:UInt8}(h:c≠d):((c.toNat:Int) !=(d.toNat:Int))=true:=by
 rw[bne,lf h];rfl
theorem mH(s:Bs)(lo hi:Nat)(h:lo≤hi)(h2:hi≤s.length)(W:World):(Instr.sliceAt 9 (ab s) (some (.int .i64 (lo:Int))) (some (.int .i64 (hi:Int))) none).run Tryz.prog W=.ok (ab ((s.take hi).drop lo)) W:=by
 have:=Dq ⟨s.toArray⟩ lo hi h (by simpa[ByteArray.size]using h2) W
 rw[KF]at this
 exact this
theorem nt{PP:List PanicEntry→World→Prop}(w:World)(s:Bs)(cm:Bool)(hs:s.length≤100000000)(i:Nat)(hi:i≤s.length)(acc:List Bs)(Kr:Sx.St→Prop)(j:Nat)(hj:i≤j∧j≤runN sB s i) :
  ∃H' L',Sx.iz Tryz.prog Tryz.f90.ntmps ⟨w,[],PP⟩ (Sx.cA Tryz.f90 0) H' L' ⟨eW s cm j,aR acc⟩ (Sx.gg (fun j=>i≤j∧j≤runN sB s i) (eW s cm) (fun _=>aR acc) (fun j=>j+1) (fun j=>s.length+1 - j) (fun(_:Unit)=>True) (fun _=>eW s cm (runN sB s i)) (fun _=>aR acc) (fun _=>()) (Sx.fq (Sx.cA Tryz.f90 0) - 1) Kr j):=by
 have hle:=jx sB s i hi
 obtain⟨hj1,hj2⟩:=hj
 have c10:=jD s
 by_cases hlt:j < runN sB s i
 ·obtain⟨c,hc,hp⟩:=vC hj1 hlt
  have zm:Value.bool (decide ((j:Int) < (s.length:Int)))=.bool true:=gF (decide_eq_true (by omega))
  have c15:=gA s j c hc
  have c20:=gA s j c hc
  unfold sB at hp
  rw[Bool.or_eq_true,beq_iff_eq,beq_iff_eq]at hp
  by_cases h32:c=32
  ·have k9:Value.bool ((c.toNat:Int)==32)=.bool true:=gF (ph h32)
   have c25:Value.int .i64 (IntKind.i64.wrap ((j:Int)+1))=.int .i64 ((j+1:Nat):Int):=iw (jR (by omega) (by omega))
   have h0:i≤j+1∧j+1≤runN sB s i:=⟨by omega,by omega⟩
   have h1:s.length+1 - (j+1) < s.length+1 - j:=by omega
   have h2:eW s cm (j+1)=eW s cm (j+1):=rfl
   have z3:aR acc=aR acc:=rfl
   refine⟨[(10,.is (.int .i64 (s.length:Int))),(11,.is (.bool true)),(15,.bin (u8 c)),(16,.is (.bool true)),(25,.is (.int .i64 ((j+1:Nat):Int)))],[],?_⟩
   exact Eq.mp (by kernel_rfl) (Sx.t8 c10 zm c15 k9 c25 h0 h1 h2 z3)
  ·have h9:c=9:=hp.resolve_left h32
   have k9:Value.bool ((c.toNat:Int)==32)=.bool false:=iB (lf h32)
   have c21:Value.bool ((c.toNat:Int)==9)=.bool true:=gF (ph h9)
   have c25:Value.int .i64 (IntKind.i64.wrap ((j:Int)+1))=.int .i64 ((j+1:Nat):Int):=iw (jR (by omega) (by omega))
   have h0:i≤j+1∧j+1≤runN sB s i:=⟨by omega,by omega⟩
   have h1:s.length+1 - (j+1) < s.length+1 - j:=by omega
   have h2:eW s cm (j+1)=eW s cm (j+1):=rfl
   have z3:aR acc=aR acc:=rfl
   refine⟨[(10,.is (.int .i64 (s.length:Int))),(11,.is (.bool true)),(15,.bin (u8 c)),(16,.is (.bool false)),(20,.bin (u8 c)),(21,.is (.bool true)),(25,.is (.int .i64 ((j+1:Nat):Int)))],[],?_⟩
   exact Eq.mp (by kernel_rfl) (Sx.t8 c10 zm c15 k9 c20 c21 c25 h0 (Sx.t2 h1 h2 z3))
 ·have hje:j=runN sB s i:=by omega
  have h0:True:=trivial
  have h1:eW s cm j=eW s cm (runN sB s i):=by rw[hje]
  have z2:aR acc=aR acc:=rfl
  by_cases hend:j < s.length
  ·obtain⟨c,hc,hp⟩:=iZ hi (by omega:runN sB s i < s.length)
   rw[←hje]at hc
   have zm:Value.bool (decide ((j:Int) < (s.length:Int)))=.bool true:=gF (decide_eq_true (by omega))
   have c15:=gA s j c hc
   have c20:=gA s j c hc
   unfold sB at hp
   rw[Bool.or_eq_false_iff,beq_eq_false_iff_ne,beq_eq_false_iff_ne]at hp
   have k9:Value.bool ((c.toNat:Int)==32)=.bool false:=iB (lf hp.1)
   have c21:Value.bool ((c.toNat:Int)==9)=.bool false:=iB (lf hp.2)
   refine⟨[(10,.is (.int .i64 (s.length:Int))),(11,.is (.bool true)),(15,.bin (u8 c)),(16,.is (.bool false)),(20,.bin (u8 c)),(21,.is (.bool false))],[],?_⟩
   exact Eq.mp (by kernel_rfl) (Sx.t8 c10 zm c15 k9 c20 c21 h0 h1 z2)
  ·have zm:Value.bool (decide ((j:Int) < (s.length:Int)))=.bool false:=iB (decide_eq_false (by omega))
   refine⟨[(10,.is (.int .i64 (s.length:Int))),(11,.is (.bool false))],[],?_⟩
   exact Eq.mp (by kernel_rfl) (Sx.t4 c10 zm h0 h1 z2)
theorem BI{PP:List PanicEntry→World→Prop}(w:World)(s:Bs)(cm:Bool)(hs:s.length≤100000000)(i:Nat)(hi:i≤s.length)(acc:List Bs)(Kr:Sx.St→Prop)(j:Nat)(hj:i≤j∧j≤runN (wC cm) s i) :
  ∃H' L',Sx.iz Tryz.prog Tryz.f90.ntmps ⟨w,[],PP⟩ (Sx.cA Tryz.f90 1) H' L' ⟨fy s cm i j,aR acc⟩ (Sx.gg (fun j=>i≤j∧j≤runN (wC cm) s i) (fy s cm i) (fun _=>aR acc) (fun j=>j+1) (fun j=>s.length+1 - j) (fun(_:Unit)=>True) (fun _=>fy s cm i (runN (wC cm) s i)) (fun _=>aR acc) (fun _=>()) (Sx.fq (Sx.cA Tryz.f90 1) - 1) Kr j):=by
 have hle:=jx (wC cm) s i hi
 obtain⟨hj1,hj2⟩:=hj
 have c43:=jD s
 cases cm with
 |true=>
  by_cases hlt:j < runN (wC true) s i
  ·obtain⟨c,hc,hp⟩:=vC hj1 hlt
   have c44:Value.bool (decide ((j:Int) < (s.length:Int)))=.bool true:=gF (decide_eq_true (by omega))
   have c48:=gA s j c hc
   have c54:=gA s j c hc
   have c62:=gA s j c hc
   unfold wC sB at hp
   rw[Bool.and_eq_true,Bool.not_eq_true',Bool.not_eq_true',Bool.or_eq_false_iff,beq_eq_false_iff_ne,beq_eq_false_iff_ne]at hp
   have c49:Value.bool ((c.toNat:Int) !=32)=.bool true:=gF (jl hp.1.1)
   have c55:Value.bool ((c.toNat:Int) !=9)=.bool true:=gF (jl hp.1.2)
   have n35:c≠35:=fun h=>by rw[h]at hp;exact absurd hp.2 (by decide)
   have c63:Value.bool ((c.toNat:Int)==35)=.bool false:=iB (lf n35)
   have c68:Value.int .i64 (IntKind.i64.wrap ((j:Int)+1))=.int .i64 ((j+1:Nat):Int):=iw (jR (by omega) (by omega))
   have h0:i≤j+1∧j+1≤runN (wC true) s i:=⟨by omega,by omega⟩
   have h1:s.length+1 - (j+1) < s.length+1 - j:=by omega
   have h2:fy s true i (j+1)=fy s true i (j+1):=rfl
   have z3:aR acc=aR acc:=rfl
   refine⟨[(43,.is (.int .i64 (s.length:Int))),(44,.is (.bool true)),(48,.bin (u8 c)),(49,.is (.bool true)),(54,.bin (u8 c)),(55,.is (.bool true)),(62,.bin (u8 c)),(63,.is (.bool false)),(68,.is (.int .i64 ((j+1:Nat):Int)))],[],?_⟩
   exact Eq.mp (by kernel_rfl) (Sx.t8 c43 c44 c48 c49 c54 c55 c62 c63 (Sx.t4 c68 h0 h1 h2 z3))
  ·have hje:j=runN (wC true) s i:=by omega
   have h0:True:=trivial
   have h1:fy s true i j=fy s true i (runN (wC true) s i):=by rw[hje]
   have z2:aR acc=aR acc:=rfl
   by_cases hend:j < s.length
   ·obtain⟨c,hc,hp⟩:=iZ hi (by omega:runN (wC true) s i < s.length)
    rw[←hje]at hc
    have c44:Value.bool (decide ((j:Int) < (s.length:Int)))=.bool true:=gF (decide_eq_true (by omega))
    have c48:=gA s j c hc
    have c54:=gA s j c hc
    by_cases h32:c=32
    ·have c49:Value.bool ((c.toNat:Int) !=32)=.bool false:=iB (pg h32)
     refine⟨[(43,.is (.int .i64 (s.length:Int))),(44,.is (.bool true)),(48,.bin (u8 c)),(49,.is (.bool false))],[],?_⟩
     exact Eq.mp (by kernel_rfl) (Sx.t4 c43 c44 c48 c49 (Sx.t2 h0 h1 z2))
    ·have c49:Value.bool ((c.toNat:Int) !=32)=.bool true:=gF (jl h32)
     by_cases h9:c=9
     ·have c55:Value.bool ((c.toNat:Int) !=9)=.bool false:=iB (pg h9)
      refine⟨[(43,.is (.int .i64 (s.length:Int))),(44,.is (.bool true)),(48,.bin (u8 c)),(49,.is (.bool true)),(54,.bin (u8 c)),(55,.is (.bool false))],[],?_⟩
      exact Eq.mp (by kernel_rfl) (Sx.t8 c43 c44 c48 c49 c54 c55 h0 h1 z2)
     ·have c55:Value.bool ((c.toNat:Int) !=9)=.bool true:=gF (jl h9)
      have c62:=gA s j c hc
      have h35:c=35:=by
       unfold wC sB at hp
       simpa[h32,h9]using hp
      have c63:Value.bool ((c.toNat:Int)==35)=.bool true:=gF (ph h35)
      refine⟨[(43,.is (.int .i64 (s.length:Int))),(44,.is (.bool true)),(48,.bin (u8 c)),(49,.is (.bool true)),(54,.bin (u8 c)),(55,.is (.bool true)),(62,.bin (u8 c)),(63,.is (.bool true))],[],?_⟩
      exact Eq.mp (by kernel_rfl) (Sx.t8 c43 c44 c48 c49 c54 c55 c62 c63 (Sx.t2 h0 h1 z2))
   ·have c44:Value.bool (decide ((j:Int) < (s.length:Int)))=.bool false:=iB (decide_eq_false (by omega))
    refine⟨[(43,.is (.int .i64 (s.length:Int))),(44,.is (.bool false))],[],?_⟩
    exact Eq.mp (by kernel_rfl) (Sx.t4 c43 c44 h0 h1 z2)
 |false=>
  by_cases hlt:j < runN (wC false) s i
  ·obtain⟨c,hc,hp⟩:=vC hj1 hlt
   have c44:Value.bool (decide ((j:Int) < (s.length:Int)))=.bool true:=gF (decide_eq_true (by omega))
   have c48:=gA s j c hc
   have c54:=gA s j c hc
   unfold wC sB at hp
   rw[Bool.and_eq_true,Bool.not_eq_true',Bool.not_eq_true',Bool.or_eq_false_iff,beq_eq_false_iff_ne,beq_eq_false_iff_ne]at hp
   have c49:Value.bool ((c.toNat:Int) !=32)=.bool true:=gF (jl hp.1.1)
   have c55:Value.bool ((c.toNat:Int) !=9)=.bool true:=gF (jl hp.1.2)
   have c68:Value.int .i64 (IntKind.i64.wrap ((j:Int)+1))=.int .i64 ((j+1:Nat):Int):=iw (jR (by omega) (by omega))
   have h0:i≤j+1∧j+1≤runN (wC false) s i:=⟨by omega,by omega⟩
   have h1:s.length+1 - (j+1) < s.length+1 - j:=by omega
   have h2:fy s false i (j+1)=fy s false i (j+1):=rfl
   have z3:aR acc=aR acc:=rfl
   refine⟨[(43,.is (.int .i64 (s.length:Int))),(44,.is (.bool true)),(48,.bin (u8 c)),(49,.is (.bool true)),(54,.bin (u8 c)),(55,.is (.bool true)),(68,.is (.int .i64 ((j+1:Nat):Int)))],[],?_⟩
   exact Eq.mp (by kernel_rfl) (Sx.t8 c43 c44 c48 c49 c54 c55 c68 h0 (Sx.t2 h1 h2 z3))
  ·have hje:j=runN (wC false) s i:=by omega
   have h0:True:=trivial
   have h1:fy s false i j=fy s false i (runN (wC false) s i):=by rw[hje]
   have z2:aR acc=aR acc:=rfl
   by_cases hend:j < s.length
   ·obtain⟨c,hc,hp⟩:=iZ hi (by omega:runN (wC false) s i < s.length)
    rw[←hje]at hc
    have c44:Value.bool (decide ((j:Int) < (s.length:Int)))=.bool true:=gF (decide_eq_true (by omega))
    have c48:=gA s j c hc
    have c54:=gA s j c hc
    by_cases h32:c=32
    ·have c49:Value.bool ((c.toNat:Int) !=32)=.bool false:=iB (pg h32)
     refine⟨[(43,.is (.int .i64 (s.length:Int))),(44,.is (.bool true)),(48,.bin (u8 c)),(49,.is (.bool false))],[],?_⟩
     exact Eq.mp (by kernel_rfl) (Sx.t4 c43 c44 c48 c49 (Sx.t2 h0 h1 z2))
    ·have c49:Value.bool ((c.toNat:Int) !=32)=.bool true:=gF (jl h32)
     by_cases h9:c=9
     ·have c55:Value.bool ((c.toNat:Int) !=9)=.bool false:=iB (pg h9)
      refine⟨[(43,.is (.int .i64 (s.length:Int))),(44,.is (.bool true)),(48,.bin (u8 c)),(49,.is (.bool true)),(54,.bin (u8 c)),(55,.is (.bool false))],[],?_⟩
      exact Eq.mp (by kernel_rfl) (Sx.t8 c43 c44 c48 c49 c54 c55 h0 h1 z2)
     ·exfalso
      unfold wC sB at hp
      simp[h32,h9]at hp
   ·have c44:Value.bool (decide ((j:Int) < (s.length:Int)))=.bool false:=iB (decide_eq_false (by omega))
    refine⟨[(43,.is (.int .i64 (s.length:Int))),(44,.is (.bool false))],[],?_⟩
    exact Eq.mp (by kernel_rfl) (Sx.t4 c43 c44 h0 h1 z2)
def cd(s:Bs)(cm:Bool)(k:Nat×List Bs):Nat×List Bs:=(runN (wC cm) s (runN sB s k.1),k.2++[(s.take (runN (wC cm) s (runN sB s k.1))).drop (runN sB s k.1)])
def EP(s:Bs)(cm:Bool)(k:Nat×List Bs):Prop:=k.1≤s.length∧k.2.length≤k.1∧k.2++lk cm s k.1=lk cm s 0
def rf(s:Bs)(cm:Bool)(l:List Sx.SV)(mem:List Sx.Row):Prop:=∃j,l=[.own j]∧mem[j]?=some ⟨9,.own 1 (aI cm s).length ((aI cm s).map ab)⟩
def tU(s:Bs)(cm:Bool)(i:Nat)(acc:List Bs):Sx.Loop:=.mk Nat i (fun j=>i≤j∧j≤runN sB s i) (eW s cm) (fun _=>aR acc) (fun j=>j+1) (fun j=>s.length+1 - j) Unit (fun _=>True) (fun _=>eW s cm (runN sB s i)) (fun _=>aR acc) (fun _=>())
def IZ(s:Bs)(cm:Bool)(i:Nat)(acc:List Bs):Sx.Loop:=.mk Nat i (fun j=>i≤j∧j≤runN (wC cm) s i) (fy s cm i) (fun _=>aR acc) (fun j=>j+1) (fun j=>s.length+1 - j) Unit (fun _=>True) (fun _=>fy s cm i (runN (wC cm) s i)) (fun _=>aR acc) (fun _=>())
noncomputable def EV:Code:=Sx.Kj (Sx.BT (Tryz.f90.body.getD .skip)) 0
theorem IY{PP:List PanicEntry→World→Prop}(w:World)(s:Bs)(cm:Bool)(hs:s.length≤1000000)(k:Nat×List Bs)(hk:EP s cm k) :
  ∃H' L',Sx.iz Tryz.prog Tryz.f90.ntmps ⟨w,[],PP⟩ EV H' L' ⟨eW s cm k.1,aR k.2⟩ (Sx.yr 0 (EP s cm) (fun k=>eW s cm k.1) (fun k=>aR k.2) (s.length - (cd s cm k).1 < s.length - k.1) (cd s cm k) (Sx.bN Tryz.prog Tryz.f90 (rf s cm))):=by
 have hi:=hk.1
 have hbl:=jx sB s k.1 hi
 have hs:s.length≤100000000:=by omega
 cases cm with
 |true=>
  have hsk:=kC true s k.1
  by_cases hend:(runN sB s k.1) < s.length
  ·obtain⟨c,hc,hp⟩:=iZ hi hend
   by_cases h35:c=35
   ·have hfin:aI true s=k.2:=by
     have:=hk.2.2
     rw[hsk,rl s (runN sB s k.1) (by rw[hc,h35]),List.append_nil]at this
     exact this.symm
    have h0:k.1≤k.1∧k.1≤(runN sB s k.1):=⟨Nat.le_refl _,cK _ _ _⟩
    have e1:eW s true k.1=eW s true k.1∧aR k.2=aR k.2:=⟨rfl,rfl⟩
    have nq:=nt (PP:=PP) w s true hs k.1 hi k.2 (Sx.bN Tryz.prog Tryz.f90 (rf s true) .ret)
    have c28f:=fun(_:Unit) (_:True)=>jD s
    have c29f:=fun(_:Unit) (_:True)=>(show Value.bool (((runN sB s k.1):Int)==(s.length:Int))=.bool false from iB (by rw[beq_eq_false_iff_ne];omega))
    have c35f:=fun(_:Unit) (_:True)=>gA s (runN sB s k.1) c hc
    have c36f:=fun(_:Unit) (_:True)=>(show Value.bool ((c.toNat:Int)==35)=.bool true from gF (ph h35))
    have z5f:=fun(_:Unit) (_:True)=>(show rf s true [.own 0] (aR k.2)from⟨0,rfl,by rw[hfin];rfl⟩)
    refine⟨[(28,.is (.int .i64 (s.length:Int))),(29,.is (.bool false)),(35,.bin (u8 c)),(36,.is (.bool true))],[tU s true k.1 k.2],?_⟩
    exact Eq.mp (by kernel_rfl) (Sx.t2 h0 e1 (And.intro nq (fun(x3:Unit) (hx4:True)=>(Sx.t4 (c28f x3 hx4) (c29f x3 hx4) (c35f x3 hx4) (c36f x3 hx4) (z5f x3 hx4)))))
   ·have hw:wC true c=true:=by unfold wC;rw[hp];simp[h35]
    have hwd:=kB true s (runN sB s k.1) hc hw
    have hel:=jx (wC true) s (runN sB s k.1) hbl
    have hgt:=oE hc hw
    have hge:=cK sB s k.1
    have hfew:(k.2:List Bs).length≤1000000:=by have:=hk.2.1;omega
    have hmu:s.length - (cd s true k).1 < s.length - k.1:=by show s.length - runN (wC true) s (runN sB s k.1) < _; omega
    have hnx:EP s true (cd s true k):=by
     refine⟨hel,?_,?_⟩
     ·have:=hk.2.1
      simp only[cd,List.length_append,List.length_singleton]
      first|omega | (simp at this ⊢;omega)
     ·have:=hk.2.2
      rw[hsk,hwd]at this
      rw[←this]
      simp[cd]
    have h0:k.1≤k.1∧k.1≤(runN sB s k.1):=⟨Nat.le_refl _,cK _ _ _⟩
    have e1:eW s true k.1=eW s true k.1∧aR k.2=aR k.2:=⟨rfl,rfl⟩
    have nq:=nt (PP:=PP) w s true hs k.1 hi k.2 (Sx.bN Tryz.prog Tryz.f90 (rf s true) .ret)
    have c28f:=fun(_:Unit) (_:True)=>jD s
    have c29f:=fun(_:Unit) (_:True)=>(show Value.bool (((runN sB s k.1):Int)==(s.length:Int))=.bool false from iB (by rw[beq_eq_false_iff_ne];omega))
    have c35f:=fun(_:Unit) (_:True)=>gA s (runN sB s k.1) c hc
    have c36f:=fun(_:Unit) (_:True)=>(show Value.bool ((c.toNat:Int)==35)=.bool false from iB (lf h35))
    have h5f:=fun(_:Unit) (_:True)=>(show(runN sB s k.1)≤(runN sB s k.1)∧(runN sB s k.1)≤(runN (wC true) s (runN sB s k.1))from⟨Nat.le_refl _,cK _ _ _⟩)
    have e6f:=fun(_:Unit) (_:True)=>(show fy s true (runN sB s k.1) (runN sB s k.1)=fy s true (runN sB s k.1) (runN sB s k.1)∧aR k.2=aR k.2 from⟨rfl,rfl⟩)
    have rd7f:=fun(_:Unit) (_:True)=>BI (PP:=PP) w s true hs (runN sB s k.1) hbl k.2 (Sx.bN Tryz.prog Tryz.f90 (rf s true) .ret)
    have c73f:=fun(_:Unit) (_:True) (_:Unit) (_:True)=>mH s (runN sB s k.1) (runN (wC true) s (runN sB s k.1)) (cK _ _ _) hel
    have c75f:=fun(_:Unit) (_:True) (_:Unit) (_:True)=>gq (cells:=[ab ((s.take (runN (wC true) s (runN sB s k.1))).drop (runN sB s k.1))]) (size:=1) (len:=k.2.length) (B:=bytesOf 9) (by kernel_rfl) (by kernel_rfl) hfew (by decide+kernel)
    have h10f:=fun(_:Unit) (_:True) (_:Unit) (_:True)=>hmu
    have h11f:=fun(_:Unit) (_:True) (_:Unit) (_:True)=>(show EP s true (cd s true k)from hnx)
    have h12f:=fun(_:Unit) (_:True) (_:Unit) (_:True)=>(rfl:qd s true 2 (runN (wC true) s (runN sB s k.1))=qd s true 2 (cd s true k).1)
    have z13f:=fun(_:Unit) (_:True) (_:Unit) (_:True)=>(show [(⟨9,.own 1 (k.2.length+1) (k.2.map ab++[ab ((s.take (runN (wC true) s (runN sB s k.1))).drop (runN sB s k.1))])⟩:Sx.Row)]=aR (cd s true k).2 from by simp[aR,cd])
    refine⟨[(28,.is (.int .i64 (s.length:Int))),(29,.is (.bool false)),(35,.bin (u8 c)),(36,.is (.bool false)),(73,.bin (ab ((s.take (runN (wC true) s (runN sB s k.1))).drop (runN sB s k.1))))],[tU s true k.1 k.2,IZ s true (runN sB s k.1) k.2],?_⟩
    exact Eq.mp (by kernel_rfl) (Sx.t2 h0 e1 (And.intro nq (fun(x3:Unit) (hx4:True)=>(Sx.t4 (c28f x3 hx4) (c29f x3 hx4) (c35f x3 hx4) (c36f x3 hx4) (Sx.t2 (h5f x3 hx4) (e6f x3 hx4) (And.intro (rd7f x3 hx4) (fun(x8:Unit) (hx9:True)=>(Sx.t4 (c73f x3 hx4 x8 hx9) (c75f x3 hx4 x8 hx9) (h10f x3 hx4 x8 hx9) (h11f x3 hx4 x8 hx9) (And.intro (h12f x3 hx4 x8 hx9) (z13f x3 hx4 x8 hx9))))))))))
  ·have hb:(runN sB s k.1)=s.length:=by omega
   have hfin:aI true s=k.2:=by
    have:=hk.2.2
    rw[hsk,hb,mD,List.append_nil]at this
    exact this.symm
   have h0:k.1≤k.1∧k.1≤(runN sB s k.1):=⟨Nat.le_refl _,cK _ _ _⟩
   have e1:eW s true k.1=eW s true k.1∧aR k.2=aR k.2:=⟨rfl,rfl⟩
   have nq:=nt (PP:=PP) w s true hs k.1 hi k.2 (Sx.bN Tryz.prog Tryz.f90 (rf s true) .ret)
   have c28f:=fun(_:Unit) (_:True)=>jD s
   have c29f:=fun(_:Unit) (_:True)=>(show Value.bool (((runN sB s k.1):Int)==(s.length:Int))=.bool true from gF (by rw[hb];simp))
   have z5f:=fun(_:Unit) (_:True)=>(show rf s true [.own 0] (aR k.2)from⟨0,rfl,by rw[hfin];rfl⟩)
   refine⟨[(28,.is (.int .i64 (s.length:Int))),(29,.is (.bool true))],[tU s true k.1 k.2],?_⟩
   exact Eq.mp (by kernel_rfl) (Sx.t2 h0 e1 (And.intro nq (fun(x3:Unit) (hx4:True)=>(Sx.t2 (c28f x3 hx4) (c29f x3 hx4) (z5f x3 hx4)))))
 |false=>
  have hsk:=kC false s k.1
  by_cases hend:(runN sB s k.1) < s.length
  ·obtain⟨c,hc,hp⟩:=iZ hi hend
   have hw:wC false c=true:=by unfold wC;rw[hp];rfl
   have hwd:=kB false s (runN sB s k.1) hc hw
   have hel:=jx (wC false) s (runN sB s k.1) hbl
   have hgt:=oE hc hw
   have hge:=cK sB s k.1
   have hfew:(k.2:List Bs).length≤1000000:=by have:=hk.2.1;omega
   have hmu:s.length - (cd s false k).1 < s.length - k.1:=by show s.length - runN (wC false) s (runN sB s k.1) < _; omega
   have hnx:EP s false (cd s false k):=by
    refine⟨hel,?_,?_⟩
    ·have:=hk.2.1
     simp only[cd,List.length_append,List.length_singleton]
     first|omega | (simp at this ⊢;omega)
    ·have:=hk.2.2
     rw[hsk,hwd]at this
     rw[←this]
     simp[cd]
   have h0:k.1≤k.1∧k.1≤(runN sB s k.1):=⟨Nat.le_refl _,cK _ _ _⟩
   have e1:eW s false k.1=eW s false k.1∧aR k.2=aR k.2:=⟨rfl,rfl⟩
   have nq:=nt (PP:=PP) w s false hs k.1 hi k.2 (Sx.bN Tryz.prog Tryz.f90 (rf s false) .ret)
   have c28f:=fun(_:Unit) (_:True)=>jD s
   have c29f:=fun(_:Unit) (_:True)=>(show Value.bool (((runN sB s k.1):Int)==(s.length:Int))=.bool false from iB (by rw[beq_eq_false_iff_ne];omega))
   have h5f:=fun(_:Unit) (_:True)=>(show(runN sB s k.1)≤(runN sB s k.1)∧(runN sB s k.1)≤(runN (wC false) s (runN sB s k.1))from⟨Nat.le_refl _,cK _ _ _⟩)
   have e6f:=fun(_:Unit) (_:True)=>(show fy s false (runN sB s k.1) (runN sB s k.1)=fy s false (runN sB s k.1) (runN sB s k.1)∧aR k.2=aR k.2 from⟨rfl,rfl⟩)
   have rd7f:=fun(_:Unit) (_:True)=>BI (PP:=PP) w s false hs (runN sB s k.1) hbl k.2 (Sx.bN Tryz.prog Tryz.f90 (rf s false) .ret)
   have c73f:=fun(_:Unit) (_:True) (_:Unit) (_:True)=>mH s (runN sB s k.1) (runN (wC false) s (runN sB s k.1)) (cK _ _ _) hel
   have c75f:=fun(_:Unit) (_:True) (_:Unit) (_:True)=>gq (cells:=[ab ((s.take (runN (wC false) s (runN sB s k.1))).drop (runN sB s k.1))]) (size:=1) (len:=k.2.length) (B:=bytesOf 9) (by kernel_rfl) (by kernel_rfl) hfew (by decide+kernel)
   have h10f:=fun(_:Unit) (_:True) (_:Unit) (_:True)=>hmu
   have h11f:=fun(_:Unit) (_:True) (_:Unit) (_:True)=>(show EP s false (cd s false k)from hnx)
   have h12f:=fun(_:Unit) (_:True) (_:Unit) (_:True)=>(rfl:qd s false 2 (runN (wC false) s (runN sB s k.1))=qd s false 2 (cd s false k).1)
   have z13f:=fun(_:Unit) (_:True) (_:Unit) (_:True)=>(show [(⟨9,.own 1 (k.2.length+1) (k.2.map ab++[ab ((s.take (runN (wC false) s (runN sB s k.1))).drop (runN sB s k.1))])⟩:Sx.Row)]=aR (cd s false k).2 from by simp[aR,cd])
   refine⟨[(28,.is (.int .i64 (s.length:Int))),(29,.is (.bool false)),(73,.bin (ab ((s.take (runN (wC false) s (runN sB s k.1))).drop (runN sB s k.1))))],[tU s false k.1 k.2,IZ s false (runN sB s k.1) k.2],?_⟩
   exact Eq.mp (by kernel_rfl) (Sx.t2 h0 e1 (And.intro nq (fun(x3:Unit) (hx4:True)=>(Sx.t4 (c28f x3 hx4) (c29f x3 hx4) (h5f x3 hx4) (e6f x3 hx4) (And.intro (rd7f x3 hx4) (fun(x8:Unit) (hx9:True)=>(Sx.t4 (c73f x3 hx4 x8 hx9) (c75f x3 hx4 x8 hx9) (h10f x3 hx4 x8 hx9) (h11f x3 hx4 x8 hx9) (And.intro (h12f x3 hx4 x8 hx9) (z13f x3 hx4 x8 hx9)))))))))
  ·have hb:(runN sB s k.1)=s.length:=by omega
   have hfin:aI false s=k.2:=by
    have:=hk.2.2
    rw[hsk,hb,mD,List.append_nil]at this
    exact this.symm
   have h0:k.1≤k.1∧k.1≤(runN sB s k.1):=⟨Nat.le_refl _,cK _ _ _⟩
   have e1:eW s false k.1=eW s false k.1∧aR k.2=aR k.2:=⟨rfl,rfl⟩
   have nq:=nt (PP:=PP) w s false hs k.1 hi k.2 (Sx.bN Tryz.prog Tryz.f90 (rf s false) .ret)
   have c28f:=fun(_:Unit) (_:True)=>jD s
   have c29f:=fun(_:Unit) (_:True)=>(show Value.bool (((runN sB s k.1):Int)==(s.length:Int))=.bool true from gF (by rw[hb];simp))
   have z5f:=fun(_:Unit) (_:True)=>(show rf s false [.own 0] (aR k.2)from⟨0,rfl,by rw[hfin];rfl⟩)
   refine⟨[(28,.is (.int .i64 (s.length:Int))),(29,.is (.bool true))],[tU s false k.1 k.2],?_⟩
   exact Eq.mp (by kernel_rfl) (Sx.t2 h0 e1 (And.intro nq (fun(x3:Unit) (hx4:True)=>(Sx.t2 (c28f x3 hx4) (c29f x3 hx4) (z5f x3 hx4)))))
def Nk(s:Bs)(cm:Bool)(w:World)(e:Ending)(w':World):Prop:=∃(A:Option Go.Addr) (cc:Nat),e=.returned (.slice A (aI cm s).length cc)∧Own w' 9 1 (.slice A (aI cm s).length cc) (aI cm s).length ((aI cm s).map ab)∧(∀k,A.map (·.block)=some k→w.heap.size≤k)∧ah [] w w'
theorem BC(w:World)(s:Bs)(cm:Bool)(hs:s.length≤1000000):Calls Tryz.prog 90 #[ab s,.bool cm] w (Nk s cm w):=by
 have key:Calls Tryz.prog 90 #[ab s,.bool cm] w (Sx.bJ ⟨w,[],fun _ _=>False⟩ (rf s cm)):=by
  have hF:=Sx.ga (w:=w) (S:=[]) (PP:=fun _ _=>False) (G:=[]) (fun q hq=>by cases hq) (fun q hq=>by cases hq) (by simp)
  have hk:EP s cm (0,[]):=⟨Nat.zero_le _,Nat.le_refl _,rfl⟩
  have hi:0≤s.length:=Nat.zero_le _
  have hbl:=jx sB s 0 hi
  have first:=Sx.Bh (args:=[.val (ab s),.val (.bool cm)]) hF 0 (cd s cm (0,[])) (EP s cm) (fun k=>eW s cm k.1) (fun k=>aR k.2) (cd s cm) (fun k=>s.length - k.1) [] (P:=Tryz.prog) (fn:=Tryz.f90) (a0:=Sx.MH (Tryz.f90.body.getD .skip)) (c:=Sx.BT (Tryz.f90.body.getD .skip)) (f:=90) (rest:=EV) (R:=rf s cm)
  have hs':s.length≤100000000:=by omega
  replace first:=fun H L hx=>first H L (by kernel_rfl) Tryz.func90 rfl (by kernel_rfl) (Nat.le_of_ble_eq_true rfl) rfl (IY w s cm hs) hx
  have hs:=hs'
  cases cm with
  |true=>
   have hsk:=kC true s 0
   by_cases hend:(runN sB s 0) < s.length
   ·obtain⟨c,hc,hp⟩:=iZ hi hend
    by_cases h35:c=35
    ·have hfin:aI true s=([]:List Bs):=by
      exact hsk.trans (rl s (runN sB s 0) (by rw[hc,h35]))
     have h0:0≤0∧0≤(runN sB s 0):=⟨Nat.le_refl _,cK _ _ _⟩
     have e1:eW s true 0=eW s true 0∧aR ([]:List Bs)=aR ([]:List Bs):=⟨rfl,rfl⟩
     have nq:=nt (PP:=fun _ _=>False) w s true hs 0 hi ([]:List Bs) (Sx.bN Tryz.prog Tryz.f90 (rf s true) .ret)
     have c28f:=fun(_:Unit) (_:True)=>jD s
     have c29f:=fun(_:Unit) (_:True)=>(show Value.bool (((runN sB s 0):Int)==(s.length:Int))=.bool false from iB (by rw[beq_eq_false_iff_ne];omega))
     have c35f:=fun(_:Unit) (_:True)=>gA s (runN sB s 0) c hc
     have c36f:=fun(_:Unit) (_:True)=>(show Value.bool ((c.toNat:Int)==35)=.bool true from gF (ph h35))
     have z5f:=fun(_:Unit) (_:True)=>(show rf s true [.own 0] (aR ([]:List Bs))from⟨0,rfl,by rw[hfin];rfl⟩)
     refine first [(5,.iy 9 1),(28,.is (.int .i64 (s.length:Int))),(29,.is (.bool false)),(35,.bin (u8 c)),(36,.is (.bool true))] [tU s true 0 ([]:List Bs)] ?_
     exact Eq.mp (by kernel_rfl) (Sx.t2 h0 e1 (And.intro nq (fun(x3:Unit) (hx4:True)=>(Sx.t4 (c28f x3 hx4) (c29f x3 hx4) (c35f x3 hx4) (c36f x3 hx4) (z5f x3 hx4)))))
    ·have hw:wC true c=true:=by unfold wC;rw[hp];simp[h35]
     have hwd:=kB true s (runN sB s 0) hc hw
     have hel:=jx (wC true) s (runN sB s 0) hbl
     have hgt:=oE hc hw
     have hge:=cK sB s 0
     have hfew:(([]:List Bs):List Bs).length≤1000000:=Nat.zero_le _
     have hnx:EP s true (cd s true (0,[])):=by
      refine⟨hel,?_,?_⟩
      ·have:=hk.2.1
       simp only[cd,List.length_append,List.length_singleton]
       first|omega | (simp at this ⊢;omega)
      ·exact(hsk.trans hwd).symm
     have h0:0≤0∧0≤(runN sB s 0):=⟨Nat.le_refl _,cK _ _ _⟩
     have e1:eW s true 0=eW s true 0∧aR ([]:List Bs)=aR ([]:List Bs):=⟨rfl,rfl⟩
     have nq:=nt (PP:=fun _ _=>False) w s true hs 0 hi ([]:List Bs) (Sx.bN Tryz.prog Tryz.f90 (rf s true) .ret)
     have c28f:=fun(_:Unit) (_:True)=>jD s
     have c29f:=fun(_:Unit) (_:True)=>(show Value.bool (((runN sB s 0):Int)==(s.length:Int))=.bool false from iB (by rw[beq_eq_false_iff_ne];omega))
     have c35f:=fun(_:Unit) (_:True)=>gA s (runN sB s 0) c hc
     have c36f:=fun(_:Unit) (_:True)=>(show Value.bool ((c.toNat:Int)==35)=.bool false from iB (lf h35))
     have h5f:=fun(_:Unit) (_:True)=>(show(runN sB s 0)≤(runN sB s 0)∧(runN sB s 0)≤(runN (wC true) s (runN sB s 0))from⟨Nat.le_refl _,cK _ _ _⟩)
     have e6f:=fun(_:Unit) (_:True)=>(show fy s true (runN sB s 0) (runN sB s 0)=fy s true (runN sB s 0) (runN sB s 0)∧aR ([]:List Bs)=aR ([]:List Bs)from⟨rfl,rfl⟩)
     have rd7f:=fun(_:Unit) (_:True)=>BI (PP:=fun _ _=>False) w s true hs (runN sB s 0) hbl ([]:List Bs) (Sx.bN Tryz.prog Tryz.f90 (rf s true) .ret)
     have c73f:=fun(_:Unit) (_:True) (_:Unit) (_:True)=>mH s (runN sB s 0) (runN (wC true) s (runN sB s 0)) (cK _ _ _) hel
     have c75f:=fun(_:Unit) (_:True) (_:Unit) (_:True)=>gq (cells:=[ab ((s.take (runN (wC true) s (runN sB s 0))).drop (runN sB s 0))]) (size:=1) (len:=([]:List Bs).length) (B:=bytesOf 9) (by kernel_rfl) (by kernel_rfl) hfew (by decide+kernel)
     have h10f:=fun(_:Unit) (_:True) (_:Unit) (_:True)=>trivial
     have h11f:=fun(_:Unit) (_:True) (_:Unit) (_:True)=>(show EP s true (cd s true (0,[]))from hnx)
     have h12f:=fun(_:Unit) (_:True) (_:Unit) (_:True)=>(rfl:qd s true 2 (runN (wC true) s (runN sB s 0))=qd s true 2 (cd s true (0,[])).1)
     have z13f:=fun(_:Unit) (_:True) (_:Unit) (_:True)=>(show [(⟨9,.own 1 (([]:List Bs).length+1) (([]:List Bs).map ab++[ab ((s.take (runN (wC true) s (runN sB s 0))).drop (runN sB s 0))])⟩:Sx.Row)]=aR (cd s true (0,[])).2 from by simp[aR,cd])
     refine first [(5,.iy 9 1),(28,.is (.int .i64 (s.length:Int))),(29,.is (.bool false)),(35,.bin (u8 c)),(36,.is (.bool false)),(73,.bin (ab ((s.take (runN (wC true) s (runN sB s 0))).drop (runN sB s 0))))] [tU s true 0 ([]:List Bs),IZ s true (runN sB s 0) ([]:List Bs)] ?_
     exact Eq.mp (by kernel_rfl) (Sx.t2 h0 e1 (And.intro nq (fun(x3:Unit) (hx4:True)=>(Sx.t4 (c28f x3 hx4) (c29f x3 hx4) (c35f x3 hx4) (c36f x3 hx4) (Sx.t2 (h5f x3 hx4) (e6f x3 hx4) (And.intro (rd7f x3 hx4) (fun(x8:Unit) (hx9:True)=>(Sx.t4 (c73f x3 hx4 x8 hx9) (c75f x3 hx4 x8 hx9) (h10f x3 hx4 x8 hx9) (h11f x3 hx4 x8 hx9) (And.intro (h12f x3 hx4 x8 hx9) (z13f x3 hx4 x8 hx9))))))))))
   ·have hb:(runN sB s 0)=s.length:=by omega
    have hfin:aI true s=([]:List Bs):=by
     exact hsk.trans (by rw[hb];exact mD _ _)
    have h0:0≤0∧0≤(runN sB s 0):=⟨Nat.le_refl _,cK _ _ _⟩
    have e1:eW s true 0=eW s true 0∧aR ([]:List Bs)=aR ([]:List Bs):=⟨rfl,rfl⟩
    have nq:=nt (PP:=fun _ _=>False) w s true hs 0 hi ([]:List Bs) (Sx.bN Tryz.prog Tryz.f90 (rf s true) .ret)
    have c28f:=fun(_:Unit) (_:True)=>jD s
    have c29f:=fun(_:Unit) (_:True)=>(show Value.bool (((runN sB s 0):Int)==(s.length:Int))=.bool true from gF (by rw[hb];simp))
    have z5f:=fun(_:Unit) (_:True)=>(show rf s true [.own 0] (aR ([]:List Bs))from⟨0,rfl,by rw[hfin];rfl⟩)
    refine first [(5,.iy 9 1),(28,.is (.int .i64 (s.length:Int))),(29,.is (.bool true))] [tU s true 0 ([]:List Bs)] ?_
    exact Eq.mp (by kernel_rfl) (Sx.t2 h0 e1 (And.intro nq (fun(x3:Unit) (hx4:True)=>(Sx.t2 (c28f x3 hx4) (c29f x3 hx4) (z5f x3 hx4)))))
  |false=>
   have hsk:=kC false s 0
   by_cases hend:(runN sB s 0) < s.length
   ·obtain⟨c,hc,hp⟩:=iZ hi hend
    have hw:wC false c=true:=by unfold wC;rw[hp];rfl
    have hwd:=kB false s (runN sB s 0) hc hw
    have hel:=jx (wC false) s (runN sB s 0) hbl
    have hgt:=oE hc hw
    have hge:=cK sB s 0
    have hfew:(([]:List Bs):List Bs).length≤1000000:=Nat.zero_le _
    have hnx:EP s false (cd s false (0,[])):=by
     refine⟨hel,?_,?_⟩
     ·have:=hk.2.1
      simp only[cd,List.length_append,List.length_singleton]
      first|omega | (simp at this ⊢;omega)
     ·exact(hsk.trans hwd).symm
    have h0:0≤0∧0≤(runN sB s 0):=⟨Nat.le_refl _,cK _ _ _⟩
    have e1:eW s false 0=eW s false 0∧aR ([]:List Bs)=aR ([]:List Bs):=⟨rfl,rfl⟩
    have nq:=nt (PP:=fun _ _=>False) w s false hs 0 hi ([]:List Bs) (Sx.bN Tryz.prog Tryz.f90 (rf s false) .ret)
    have c28f:=fun(_:Unit) (_:True)=>jD s
    have c29f:=fun(_:Unit) (_:True)=>(show Value.bool (((runN sB s 0):Int)==(s.length:Int))=.bool false from iB (by rw[beq_eq_false_iff_ne];omega))
    have h5f:=fun(_:Unit) (_:True)=>(show(runN sB s 0)≤(runN sB s 0)∧(runN sB s 0)≤(runN (wC false) s (runN sB s 0))from⟨Nat.le_refl _,cK _ _ _⟩)
    have e6f:=fun(_:Unit) (_:True)=>(show fy s false (runN sB s 0) (runN sB s 0)=fy s false (runN sB s 0) (runN sB s 0)∧aR ([]:List Bs)=aR ([]:List Bs)from⟨rfl,rfl⟩)
    have rd7f:=fun(_:Unit) (_:True)=>BI (PP:=fun _ _=>False) w s false hs (runN sB s 0) hbl ([]:List Bs) (Sx.bN Tryz.prog Tryz.f90 (rf s false) .ret)
    have c73f:=fun(_:Unit) (_:True) (_:Unit) (_:True)=>mH s (runN sB s 0) (runN (wC false) s (runN sB s 0)) (cK _ _ _) hel
    have c75f:=fun(_:Unit) (_:True) (_:Unit) (_:True)=>gq (cells:=[ab ((s.take (runN (wC false) s (runN sB s 0))).drop (runN sB s 0))]) (size:=1) (len:=([]:List Bs).length) (B:=bytesOf 9) (by kernel_rfl) (by kernel_rfl) hfew (by decide+kernel)
    have h10f:=fun(_:Unit) (_:True) (_:Unit) (_:True)=>trivial
    have h11f:=fun(_:Unit) (_:True) (_:Unit) (_:True)=>(show EP s false (cd s false (0,[]))from hnx)
    have h12f:=fun(_:Unit) (_:True) (_:Unit) (_:True)=>(rfl:qd s false 2 (runN (wC false) s (runN sB s 0))=qd s false 2 (cd s false (0,[])).1)
    have z13f:=fun(_:Unit) (_:True) (_:Unit) (_:True)=>(show [(⟨9,.own 1 (([]:List Bs).length+1) (([]:List Bs).map ab++[ab ((s.take (runN (wC false) s (runN sB s 0))).drop (runN sB s 0))])⟩:Sx.Row)]=aR (cd s false (0,[])).2 from by simp[aR,cd])
    refine first [(5,.iy 9 1),(28,.is (.int .i64 (s.length:Int))),(29,.is (.bool false)),(73,.bin (ab ((s.take (runN (wC false) s (runN sB s 0))).drop (runN sB s 0))))] [tU s false 0 ([]:List Bs),IZ s false (runN sB s 0) ([]:List Bs)] ?_
    exact Eq.mp (by kernel_rfl) (Sx.t2 h0 e1 (And.intro nq (fun(x3:Unit) (hx4:True)=>(Sx.t4 (c28f x3 hx4) (c29f x3 hx4) (h5f x3 hx4) (e6f x3 hx4) (And.intro (rd7f x3 hx4) (fun(x8:Unit) (hx9:True)=>(Sx.t4 (c73f x3 hx4 x8 hx9) (c75f x3 hx4 x8 hx9) (h10f x3 hx4 x8 hx9) (h11f x3 hx4 x8 hx9) (And.intro (h12f x3 hx4 x8 hx9) (z13f x3 hx4 x8 hx9)))))))))
   ·have hb:(runN sB s 0)=s.length:=by omega
    have hfin:aI false s=([]:List Bs):=by
     exact hsk.trans (by rw[hb];exact mD _ _)
    have h0:0≤0∧0≤(runN sB s 0):=⟨Nat.le_refl _,cK _ _ _⟩
    have e1:eW s false 0=eW s false 0∧aR ([]:List Bs)=aR ([]:List Bs):=⟨rfl,rfl⟩
    have nq:=nt (PP:=fun _ _=>False) w s false hs 0 hi ([]:List Bs) (Sx.bN Tryz.prog Tryz.f90 (rf s false) .ret)
    have c28f:=fun(_:Unit) (_:True)=>jD s
    have c29f:=fun(_:Unit) (_:True)=>(show Value.bool (((runN sB s 0):Int)==(s.length:Int))=.bool true from gF (by rw[hb];simp))
    have z5f:=fun(_:Unit) (_:True)=>(show rf s false [.own 0] (aR ([]:List Bs))from⟨0,rfl,by rw[hfin];rfl⟩)
    refine first [(5,.iy 9 1),(28,.is (.int .i64 (s.length:Int))),(29,.is (.bool true))] [tU s false 0 ([]:List Bs)] ?_
    exact Eq.mp (by kernel_rfl) (Sx.t2 h0 e1 (And.intro nq (fun(x3:Unit) (hx4:True)=>(Sx.t2 (c28f x3 hx4) (c29f x3 hx4) (z5f x3 hx4)))))
 refine key.mono fun e w' hp=>?_
 rcases hp with⟨β,l,mem,⟨j,rfl,hm⟩,he,hR⟩ | ⟨_,_,hf,_⟩
 ·have h0:β.n j=(aI cm s).length∧Own w' 9 1 (.slice (β.a j) (aI cm s).length (β.c j)) (aI cm s).length ((aI cm s).map ab):=hR.held j _ hm
  refine⟨β.a j,β.c j,?_,h0.2,fun k hk=>?_,hR.az⟩
  ·rw[he]
   show Ending.returned (.slice (β.a j) (β.n j) (β.c j))=_
   rw[h0.1]
  ·rcases hR.new j _ k hm hk with hx|hx
   ·cases hx
   ·exact hx
 ·exact hf.elim
end Go.Proofs.YtnncigmpcdehnaaGreatDoor
