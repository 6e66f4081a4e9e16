import Derived.Test.YtnncigmpcdehnaaGreatDoorQa26
namespace Go.Proofs.YtnncigmpcdehnaaGreatDoor
set_option maxRecDepth 100000
open Go.RowKit Go.Lib Go.Sort
def wdFr(s:Bs)(cm:Bool)(i:Nat):List (Nat×Sx.SV):=[(0,.val (strV s)),(1,.val (.bool cm)),(5,.own 0),(6,.val (.int .i64 (i:Int)))]
def wdFrO(s:Bs)(cm:Bool)(o i:Nat):List (Nat×Sx.SV):=[(0,.val (strV s)),(1,.val (.bool cm)),(5,.own o),(6,.val (.int .i64 (i:Int)))]
def wdFr2(s:Bs)(cm:Bool)(b i:Nat):List (Nat×Sx.SV):=(7,.val (.int .i64 (b:Int)))::wdFr s cm i
def wdMem(acc:List Bs):List Sx.Row:=[⟨9,.own 1 acc.length (acc.map strV)⟩]
theorem byte_eq{c d:UInt8}(h:c=d):((c.toNat:Int)==(d.toNat:Int))=true:=by rw[h];simp
theorem byte_ne{c d:UInt8}(h:c≠d):((c.toNat:Int)==(d.toNat:Int))=false:=by
 rw[beq_eq_false_iff_ne]
 intro hh
 exact h (UInt8.toNat_inj.1 (by omega))
theorem byte_eq'{c d:UInt8}(h:c=d):((c.toNat:Int) !=(d.toNat:Int))=false:=by rw[h];simp
theorem byte_ne'{c d:UInt8}(h:c≠d):((c.toNat:Int) !=(d.toNat:Int))=true:=by
 rw[bne,byte_ne h];rfl
theorem slice_mid(s:Bs)(lo hi:Nat)(h:lo≤hi)(h2:hi≤s.length)(W:World):(Instr.sliceAt 9 (strV s) (some (.int .i64 (lo:Int))) (some (.int .i64 (hi:Int))) none).run Tryz.prog W=.ok (strV ((s.take hi).drop lo)) W:=by
 have:=slice_str ⟨s.toArray⟩ lo hi h (by simpa[ByteArray.size]using h2) W
 rw[ext_str]at this
 exact this
theorem wd_l1{PP:List PanicEntry→World→Prop}(w:World)(s:Bs)(cm:Bool)(hs:s.length≤100000000)(i:Nat)(hi:i≤s.length)(acc:List Bs)(Kr:Sx.St→Prop)(j:Nat)(hj:i≤j∧j≤runN sB s i) :
  ∃H' L',Sx.exB Tryz.prog Tryz.f90.ntmps ⟨w,[],PP⟩ (Sx.bodyOf Tryz.f90 0) H' L' ⟨wdFr s cm j,wdMem acc⟩ (Sx.loopK (fun j=>i≤j∧j≤runN sB s i) (wdFr s cm) (fun _=>wdMem acc) (fun j=>j+1) (fun j=>s.length+1 - j) (fun(_:Unit)=>True) (fun _=>wdFr s cm (runN sB s i)) (fun _=>wdMem acc) (fun _=>()) (Sx.outId (Sx.bodyOf Tryz.f90 0) - 1) Kr j):=by
 have hle:=runP_le sB s i hi
 obtain⟨hj1,hj2⟩:=hj
 have c10:=len_i s
 by_cases hlt:j < runN sB s i
 ·obtain⟨c,hc,hp⟩:=runP_in hj1 hlt
  have c11:Value.bool (decide ((j:Int) < (s.length:Int)))=.bool true:=bzt (decide_eq_true (by omega))
  have c15:=u8_at s j c hc
  have c20:=u8_at s j c hc
  unfold sB at hp
  rw[Bool.or_eq_true,beq_iff_eq,beq_iff_eq]at hp
  by_cases h32:c=32
  ·have c16:Value.bool ((c.toNat:Int)==32)=.bool true:=bzt (byte_eq h32)
   have c25:Value.int .i64 (IntKind.i64.wrap ((j:Int)+1))=.int .i64 ((j+1:Nat):Int):=iw (w64 (by omega) (by omega))
   have h0:i≤j+1∧j+1≤runN sB s i:=⟨by omega,by omega⟩
   have h1:s.length+1 - (j+1) < s.length+1 - j:=by omega
   have h2:wdFr s cm (j+1)=wdFr s cm (j+1):=rfl
   have z3:wdMem acc=wdMem acc:=rfl
   refine⟨[(10,.is (.int .i64 (s.length:Int))),(11,.is (.bool true)),(15,.bin (u8 c)),(16,.is (.bool true)),(25,.is (.int .i64 ((j+1:Nat):Int)))],[],?_⟩
   exact Eq.mp (by kernel_rfl) (Sx.t8 c10 c11 c15 c16 c25 h0 h1 h2 z3)
  ·have h9:c=9:=hp.resolve_left h32
   have c16:Value.bool ((c.toNat:Int)==32)=.bool false:=bzf (byte_ne h32)
   have c21:Value.bool ((c.toNat:Int)==9)=.bool true:=bzt (byte_eq h9)
   have c25:Value.int .i64 (IntKind.i64.wrap ((j:Int)+1))=.int .i64 ((j+1:Nat):Int):=iw (w64 (by omega) (by omega))
   have h0:i≤j+1∧j+1≤runN sB s i:=⟨by omega,by omega⟩
   have h1:s.length+1 - (j+1) < s.length+1 - j:=by omega
   have h2:wdFr s cm (j+1)=wdFr s cm (j+1):=rfl
   have z3:wdMem acc=wdMem acc:=rfl
   refine⟨[(10,.is (.int .i64 (s.length:Int))),(11,.is (.bool true)),(15,.bin (u8 c)),(16,.is (.bool false)),(20,.bin (u8 c)),(21,.is (.bool true)),(25,.is (.int .i64 ((j+1:Nat):Int)))],[],?_⟩
   exact Eq.mp (by kernel_rfl) (Sx.t8 c10 c11 c15 c16 c20 c21 c25 h0 (Sx.t2 h1 h2 z3))
 ·have hje:j=runN sB s i:=by omega
  have h0:True:=trivial
  have h1:wdFr s cm j=wdFr s cm (runN sB s i):=by rw[hje]
  have z2:wdMem acc=wdMem acc:=rfl
  by_cases hend:j < s.length
  ·obtain⟨c,hc,hp⟩:=runP_out hi (by omega:runN sB s i < s.length)
   rw[←hje]at hc
   have c11:Value.bool (decide ((j:Int) < (s.length:Int)))=.bool true:=bzt (decide_eq_true (by omega))
   have c15:=u8_at s j c hc
   have c20:=u8_at s j c hc
   unfold sB at hp
   rw[Bool.or_eq_false_iff,beq_eq_false_iff_ne,beq_eq_false_iff_ne]at hp
   have c16:Value.bool ((c.toNat:Int)==32)=.bool false:=bzf (byte_ne hp.1)
   have c21:Value.bool ((c.toNat:Int)==9)=.bool false:=bzf (byte_ne hp.2)
   refine⟨[(10,.is (.int .i64 (s.length:Int))),(11,.is (.bool true)),(15,.bin (u8 c)),(16,.is (.bool false)),(20,.bin (u8 c)),(21,.is (.bool false))],[],?_⟩
   exact Eq.mp (by kernel_rfl) (Sx.t8 c10 c11 c15 c16 c20 c21 h0 h1 z2)
  ·have c11:Value.bool (decide ((j:Int) < (s.length:Int)))=.bool false:=bzf (decide_eq_false (by omega))
   refine⟨[(10,.is (.int .i64 (s.length:Int))),(11,.is (.bool false))],[],?_⟩
   exact Eq.mp (by kernel_rfl) (Sx.t4 c10 c11 h0 h1 z2)
theorem wd_l2{PP:List PanicEntry→World→Prop}(w:World)(s:Bs)(cm:Bool)(hs:s.length≤100000000)(i:Nat)(hi:i≤s.length)(acc:List Bs)(Kr:Sx.St→Prop)(j:Nat)(hj:i≤j∧j≤runN (wC cm) s i) :
  ∃H' L',Sx.exB Tryz.prog Tryz.f90.ntmps ⟨w,[],PP⟩ (Sx.bodyOf Tryz.f90 1) H' L' ⟨wdFr2 s cm i j,wdMem acc⟩ (Sx.loopK (fun j=>i≤j∧j≤runN (wC cm) s i) (wdFr2 s cm i) (fun _=>wdMem acc) (fun j=>j+1) (fun j=>s.length+1 - j) (fun(_:Unit)=>True) (fun _=>wdFr2 s cm i (runN (wC cm) s i)) (fun _=>wdMem acc) (fun _=>()) (Sx.outId (Sx.bodyOf Tryz.f90 1) - 1) Kr j):=by
 have hle:=runP_le (wC cm) s i hi
 obtain⟨hj1,hj2⟩:=hj
 have c43:=len_i s
 cases cm with
 |true=>
  by_cases hlt:j < runN (wC true) s i
  ·obtain⟨c,hc,hp⟩:=runP_in hj1 hlt
   have c44:Value.bool (decide ((j:Int) < (s.length:Int)))=.bool true:=bzt (decide_eq_true (by omega))
   have c48:=u8_at s j c hc
   have c54:=u8_at s j c hc
   have c62:=u8_at s j c hc
   unfold wC sB at hp
   rw[Bool.and_eq_true,Bool.not_eq_true',Bool.not_eq_true',Bool.or_eq_false_iff,beq_eq_false_iff_ne,beq_eq_false_iff_ne]at hp
   have c49:Value.bool ((c.toNat:Int) !=32)=.bool true:=bzt (byte_ne' hp.1.1)
   have c55:Value.bool ((c.toNat:Int) !=9)=.bool true:=bzt (byte_ne' hp.1.2)
   have n35:c≠35:=fun h=>by rw[h]at hp;exact absurd hp.2 (by decide)
   have c63:Value.bool ((c.toNat:Int)==35)=.bool false:=bzf (byte_ne n35)
   have c68:Value.int .i64 (IntKind.i64.wrap ((j:Int)+1))=.int .i64 ((j+1:Nat):Int):=iw (w64 (by omega) (by omega))
   have h0:i≤j+1∧j+1≤runN (wC true) s i:=⟨by omega,by omega⟩
   have h1:s.length+1 - (j+1) < s.length+1 - j:=by omega
   have h2:wdFr2 s true i (j+1)=wdFr2 s true i (j+1):=rfl
   have z3:wdMem acc=wdMem acc:=rfl
   refine⟨[(43,.is (.int .i64 (s.length:Int))),(44,.is (.bool true)),(48,.bin (u8 c)),(49,.is (.bool true)),(54,.bin (u8 c)),(55,.is (.bool true)),(62,.bin (u8 c)),(63,.is (.bool false)),(68,.is (.int .i64 ((j+1:Nat):Int)))],[],?_⟩
   exact Eq.mp (by kernel_rfl) (Sx.t8 c43 c44 c48 c49 c54 c55 c62 c63 (Sx.t4 c68 h0 h1 h2 z3))
  ·have hje:j=runN (wC true) s i:=by omega
   have h0:True:=trivial
   have h1:wdFr2 s true i j=wdFr2 s true i (runN (wC true) s i):=by rw[hje]
   have z2:wdMem acc=wdMem acc:=rfl
   by_cases hend:j < s.length
   ·obtain⟨c,hc,hp⟩:=runP_out hi (by omega:runN (wC true) s i < s.length)
    rw[←hje]at hc
    have c44:Value.bool (decide ((j:Int) < (s.length:Int)))=.bool true:=bzt (decide_eq_true (by omega))
    have c48:=u8_at s j c hc
    have c54:=u8_at s j c hc
    by_cases h32:c=32
    ·have c49:Value.bool ((c.toNat:Int) !=32)=.bool false:=bzf (byte_eq' h32)
     refine⟨[(43,.is (.int .i64 (s.length:Int))),(44,.is (.bool true)),(48,.bin (u8 c)),(49,.is (.bool false))],[],?_⟩
     exact Eq.mp (by kernel_rfl) (Sx.t4 c43 c44 c48 c49 (Sx.t2 h0 h1 z2))
    ·have c49:Value.bool ((c.toNat:Int) !=32)=.bool true:=bzt (byte_ne' h32)
     by_cases h9:c=9
     ·have c55:Value.bool ((c.toNat:Int) !=9)=.bool false:=bzf (byte_eq' h9)
      refine⟨[(43,.is (.int .i64 (s.length:Int))),(44,.is (.bool true)),(48,.bin (u8 c)),(49,.is (.bool true)),(54,.bin (u8 c)),(55,.is (.bool false))],[],?_⟩
      exact Eq.mp (by kernel_rfl) (Sx.t8 c43 c44 c48 c49 c54 c55 h0 h1 z2)
     ·have c55:Value.bool ((c.toNat:Int) !=9)=.bool true:=bzt (byte_ne' h9)
      have c62:=u8_at s j c hc
      have h35:c=35:=by
       unfold wC sB at hp
       simpa[h32,h9]using hp
      have c63:Value.bool ((c.toNat:Int)==35)=.bool true:=bzt (byte_eq h35)
      refine⟨[(43,.is (.int .i64 (s.length:Int))),(44,.is (.bool true)),(48,.bin (u8 c)),(49,.is (.bool true)),(54,.bin (u8 c)),(55,.is (.bool true)),(62,.bin (u8 c)),(63,.is (.bool true))],[],?_⟩
      exact Eq.mp (by kernel_rfl) (Sx.t8 c43 c44 c48 c49 c54 c55 c62 c63 (Sx.t2 h0 h1 z2))
   ·have c44:Value.bool (decide ((j:Int) < (s.length:Int)))=.bool false:=bzf (decide_eq_false (by omega))
    refine⟨[(43,.is (.int .i64 (s.length:Int))),(44,.is (.bool false))],[],?_⟩
    exact Eq.mp (by kernel_rfl) (Sx.t4 c43 c44 h0 h1 z2)
 |false=>
  by_cases hlt:j < runN (wC false) s i
  ·obtain⟨c,hc,hp⟩:=runP_in hj1 hlt
   have c44:Value.bool (decide ((j:Int) < (s.length:Int)))=.bool true:=bzt (decide_eq_true (by omega))
   have c48:=u8_at s j c hc
   have c54:=u8_at s j c hc
   unfold wC sB at hp
   rw[Bool.and_eq_true,Bool.not_eq_true',Bool.not_eq_true',Bool.or_eq_false_iff,beq_eq_false_iff_ne,beq_eq_false_iff_ne]at hp
   have c49:Value.bool ((c.toNat:Int) !=32)=.bool true:=bzt (byte_ne' hp.1.1)
   have c55:Value.bool ((c.toNat:Int) !=9)=.bool true:=bzt (byte_ne' hp.1.2)
   have c68:Value.int .i64 (IntKind.i64.wrap ((j:Int)+1))=.int .i64 ((j+1:Nat):Int):=iw (w64 (by omega) (by omega))
   have h0:i≤j+1∧j+1≤runN (wC false) s i:=⟨by omega,by omega⟩
   have h1:s.length+1 - (j+1) < s.length+1 - j:=by omega
   have h2:wdFr2 s false i (j+1)=wdFr2 s false i (j+1):=rfl
   have z3:wdMem acc=wdMem acc:=rfl
   refine⟨[(43,.is (.int .i64 (s.length:Int))),(44,.is (.bool true)),(48,.bin (u8 c)),(49,.is (.bool true)),(54,.bin (u8 c)),(55,.is (.bool true)),(68,.is (.int .i64 ((j+1:Nat):Int)))],[],?_⟩
   exact Eq.mp (by kernel_rfl) (Sx.t8 c43 c44 c48 c49 c54 c55 c68 h0 (Sx.t2 h1 h2 z3))
  ·have hje:j=runN (wC false) s i:=by omega
   have h0:True:=trivial
   have h1:wdFr2 s false i j=wdFr2 s false i (runN (wC false) s i):=by rw[hje]
   have z2:wdMem acc=wdMem acc:=rfl
   by_cases hend:j < s.length
   ·obtain⟨c,hc,hp⟩:=runP_out hi (by omega:runN (wC false) s i < s.length)
    rw[←hje]at hc
    have c44:Value.bool (decide ((j:Int) < (s.length:Int)))=.bool true:=bzt (decide_eq_true (by omega))
    have c48:=u8_at s j c hc
    have c54:=u8_at s j c hc
    by_cases h32:c=32
    ·have c49:Value.bool ((c.toNat:Int) !=32)=.bool false:=bzf (byte_eq' h32)
     refine⟨[(43,.is (.int .i64 (s.length:Int))),(44,.is (.bool true)),(48,.bin (u8 c)),(49,.is (.bool false))],[],?_⟩
     exact Eq.mp (by kernel_rfl) (Sx.t4 c43 c44 c48 c49 (Sx.t2 h0 h1 z2))
    ·have c49:Value.bool ((c.toNat:Int) !=32)=.bool true:=bzt (byte_ne' h32)
     by_cases h9:c=9
     ·have c55:Value.bool ((c.toNat:Int) !=9)=.bool false:=bzf (byte_eq' h9)
      refine⟨[(43,.is (.int .i64 (s.length:Int))),(44,.is (.bool true)),(48,.bin (u8 c)),(49,.is (.bool true)),(54,.bin (u8 c)),(55,.is (.bool false))],[],?_⟩
      exact Eq.mp (by kernel_rfl) (Sx.t8 c43 c44 c48 c49 c54 c55 h0 h1 z2)
     ·exfalso
      unfold wC sB at hp
      simp[h32,h9]at hp
   ·have c44:Value.bool (decide ((j:Int) < (s.length:Int)))=.bool false:=bzf (decide_eq_false (by omega))
    refine⟨[(43,.is (.int .i64 (s.length:Int))),(44,.is (.bool false))],[],?_⟩
    exact Eq.mp (by kernel_rfl) (Sx.t4 c43 c44 h0 h1 z2)
def wdNext(s:Bs)(cm:Bool)(k:Nat×List Bs):Nat×List Bs:=(runN (wC cm) s (runN sB s k.1),k.2++[(s.take (runN (wC cm) s (runN sB s k.1))).drop (runN sB s k.1)])
def wdR(s:Bs)(cm:Bool)(k:Nat×List Bs):Prop:=k.1≤s.length∧k.2.length≤k.1∧k.2++wFrom cm s k.1=wFrom cm s 0
def wdE(s:Bs)(cm:Bool)(l:List Sx.SV)(mem:List Sx.Row):Prop:=∃j,l=[.own j]∧mem[j]?=some ⟨9,.own 1 (wordsW cm s).length ((wordsW cm s).map strV)⟩
def wdL1(s:Bs)(cm:Bool)(i:Nat)(acc:List Bs):Sx.Loop:=.mk Nat i (fun j=>i≤j∧j≤runN sB s i) (wdFr s cm) (fun _=>wdMem acc) (fun j=>j+1) (fun j=>s.length+1 - j) Unit (fun _=>True) (fun _=>wdFr s cm (runN sB s i)) (fun _=>wdMem acc) (fun _=>())
def wdL2(s:Bs)(cm:Bool)(i:Nat)(acc:List Bs):Sx.Loop:=.mk Nat i (fun j=>i≤j∧j≤runN (wC cm) s i) (wdFr2 s cm i) (fun _=>wdMem acc) (fun j=>j+1) (fun j=>s.length+1 - j) Unit (fun _=>True) (fun _=>wdFr2 s cm i (runN (wC cm) s i)) (fun _=>wdMem acc) (fun _=>())
noncomputable def wdRest:Code:=Sx.labelIn (Sx.scopeOf (Tryz.f90.body.getD .skip)) 0
theorem wd_pass{PP:List PanicEntry→World→Prop}(w:World)(s:Bs)(cm:Bool)(hs:s.length≤1000000)(k:Nat×List Bs)(hk:wdR s cm k) :
  ∃H' L',Sx.exB Tryz.prog Tryz.f90.ntmps ⟨w,[],PP⟩ wdRest H' L' ⟨wdFr s cm k.1,wdMem k.2⟩ (Sx.jumpK 0 (wdR s cm) (fun k=>wdFr s cm k.1) (fun k=>wdMem k.2) (s.length - (wdNext s cm k).1 < s.length - k.1) (wdNext s cm k) (Sx.atEndA Tryz.prog Tryz.f90 (wdE s cm))):=by
 have hi:=hk.1
 have hbl:=runP_le sB s k.1 hi
 have hs:s.length≤100000000:=by omega
 cases cm with
 |true=>
  have hsk:=wFrom_skip true s k.1
  by_cases hend:(runN sB s k.1) < s.length
  ·obtain⟨c,hc,hp⟩:=runP_out hi hend
   by_cases h35:c=35
   ·have hfin:wordsW true s=k.2:=by
     have:=hk.2.2
     rw[hsk,wFrom_hash s (runN sB s k.1) (by rw[hc,h35]),List.append_nil]at this
     exact this.symm
    have h0:k.1≤k.1∧k.1≤(runN sB s k.1):=⟨Nat.le_refl _,runP_ge _ _ _⟩
    have e1:wdFr s true k.1=wdFr s true k.1∧wdMem k.2=wdMem k.2:=⟨rfl,rfl⟩
    have rd2:=wd_l1 (PP:=PP) w s true hs k.1 hi k.2 (Sx.atEndA Tryz.prog Tryz.f90 (wdE s true) .ret)
    have c28f:=fun(_:Unit) (_:True)=>len_i s
    have c29f:=fun(_:Unit) (_:True)=>(show Value.bool (((runN sB s k.1):Int)==(s.length:Int))=.bool false from bzf (by rw[beq_eq_false_iff_ne];omega))
    have c35f:=fun(_:Unit) (_:True)=>u8_at s (runN sB s k.1) c hc
    have c36f:=fun(_:Unit) (_:True)=>(show Value.bool ((c.toNat:Int)==35)=.bool true from bzt (byte_eq h35))
    have z5f:=fun(_:Unit) (_:True)=>(show wdE s true [.own 0] (wdMem k.2)from⟨0,rfl,by rw[hfin];rfl⟩)
    refine⟨[(28,.is (.int .i64 (s.length:Int))),(29,.is (.bool false)),(35,.bin (u8 c)),(36,.is (.bool true))],[wdL1 s true k.1 k.2],?_⟩
    exact Eq.mp (by kernel_rfl) (Sx.t2 h0 e1 (And.intro rd2 (fun(x3:Unit) (hx4:True)=>(Sx.t4 (c28f x3 hx4) (c29f x3 hx4) (c35f x3 hx4) (c36f x3 hx4) (z5f x3 hx4)))))
   ·have hw:wC true c=true:=by unfold wC;rw[hp];simp[h35]
    have hwd:=wFrom_word true s (runN sB s k.1) hc hw
    have hel:=runP_le (wC true) s (runN sB s k.1) hbl
    have hgt:=runP_pos hc hw
    have hge:=runP_ge sB s k.1
    have hfew:(k.2:List Bs).length≤1000000:=by have:=hk.2.1;omega
    have hmu:s.length - (wdNext s true k).1 < s.length - k.1:=by show s.length - runN (wC true) s (runN sB s k.1) < _; omega
    have hnx:wdR s true (wdNext s true k):=by
     refine⟨hel,?_,?_⟩
     ·have:=hk.2.1
      simp only[wdNext,List.length_append,List.length_singleton]
      first|omega | (simp at this ⊢;omega)
     ·have:=hk.2.2
      rw[hsk,hwd]at this
      rw[←this]
      simp[wdNext]
    have h0:k.1≤k.1∧k.1≤(runN sB s k.1):=⟨Nat.le_refl _,runP_ge _ _ _⟩
    have e1:wdFr s true k.1=wdFr s true k.1∧wdMem k.2=wdMem k.2:=⟨rfl,rfl⟩
    have rd2:=wd_l1 (PP:=PP) w s true hs k.1 hi k.2 (Sx.atEndA Tryz.prog Tryz.f90 (wdE s true) .ret)
    have c28f:=fun(_:Unit) (_:True)=>len_i s
    have c29f:=fun(_:Unit) (_:True)=>(show Value.bool (((runN sB s k.1):Int)==(s.length:Int))=.bool false from bzf (by rw[beq_eq_false_iff_ne];omega))
    have c35f:=fun(_:Unit) (_:True)=>u8_at s (runN sB s k.1) c hc
    have c36f:=fun(_:Unit) (_:True)=>(show Value.bool ((c.toNat:Int)==35)=.bool false from bzf (byte_ne h35))
    have h5f:=fun(_:Unit) (_:True)=>(show(runN sB s k.1)≤(runN sB s k.1)∧(runN sB s k.1)≤(runN (wC true) s (runN sB s k.1))from⟨Nat.le_refl _,runP_ge _ _ _⟩)
    have e6f:=fun(_:Unit) (_:True)=>(show wdFr2 s true (runN sB s k.1) (runN sB s k.1)=wdFr2 s true (runN sB s k.1) (runN sB s k.1)∧wdMem k.2=wdMem k.2 from⟨rfl,rfl⟩)
    have rd7f:=fun(_:Unit) (_:True)=>wd_l2 (PP:=PP) w s true hs (runN sB s k.1) hbl k.2 (Sx.atEndA Tryz.prog Tryz.f90 (wdE s true) .ret)
    have c73f:=fun(_:Unit) (_:True) (_:Unit) (_:True)=>slice_mid s (runN sB s k.1) (runN (wC true) s (runN sB s k.1)) (runP_ge _ _ _) hel
    have c75f:=fun(_:Unit) (_:True) (_:Unit) (_:True)=>app_ob (cells:=[strV ((s.take (runN (wC true) s (runN sB s k.1))).drop (runN sB s k.1))]) (size:=1) (len:=k.2.length) (B:=bytesOf 9) (by kernel_rfl) (by kernel_rfl) hfew (by decide+kernel)
    have h10f:=fun(_:Unit) (_:True) (_:Unit) (_:True)=>hmu
    have h11f:=fun(_:Unit) (_:True) (_:Unit) (_:True)=>(show wdR s true (wdNext s true k)from hnx)
    have h12f:=fun(_:Unit) (_:True) (_:Unit) (_:True)=>(rfl:wdFrO s true 2 (runN (wC true) s (runN sB s k.1))=wdFrO s true 2 (wdNext s true k).1)
    have z13f:=fun(_:Unit) (_:True) (_:Unit) (_:True)=>(show [(⟨9,.own 1 (k.2.length+1) (k.2.map strV++[strV ((s.take (runN (wC true) s (runN sB s k.1))).drop (runN sB s k.1))])⟩:Sx.Row)]=wdMem (wdNext s true k).2 from by simp[wdMem,wdNext])
    refine⟨[(28,.is (.int .i64 (s.length:Int))),(29,.is (.bool false)),(35,.bin (u8 c)),(36,.is (.bool false)),(73,.bin (strV ((s.take (runN (wC true) s (runN sB s k.1))).drop (runN sB s k.1))))],[wdL1 s true k.1 k.2,wdL2 s true (runN sB s k.1) k.2],?_⟩
    exact Eq.mp (by kernel_rfl) (Sx.t2 h0 e1 (And.intro rd2 (fun(x3:Unit) (hx4:True)=>(Sx.t4 (c28f x3 hx4) (c29f x3 hx4) (c35f x3 hx4) (c36f x3 hx4) (Sx.t2 (h5f x3 hx4) (e6f x3 hx4) (And.intro (rd7f x3 hx4) (fun(x8:Unit) (hx9:True)=>(Sx.t4 (c73f x3 hx4 x8 hx9) (c75f x3 hx4 x8 hx9) (h10f x3 hx4 x8 hx9) (h11f x3 hx4 x8 hx9) (And.intro (h12f x3 hx4 x8 hx9) (z13f x3 hx4 x8 hx9))))))))))
  ·have hb:(runN sB s k.1)=s.length:=by omega
   have hfin:wordsW true s=k.2:=by
    have:=hk.2.2
    rw[hsk,hb,wFrom_end,List.append_nil]at this
    exact this.symm
   have h0:k.1≤k.1∧k.1≤(runN sB s k.1):=⟨Nat.le_refl _,runP_ge _ _ _⟩
   have e1:wdFr s true k.1=wdFr s true k.1∧wdMem k.2=wdMem k.2:=⟨rfl,rfl⟩
   have rd2:=wd_l1 (PP:=PP) w s true hs k.1 hi k.2 (Sx.atEndA Tryz.prog Tryz.f90 (wdE s true) .ret)
   have c28f:=fun(_:Unit) (_:True)=>len_i s
   have c29f:=fun(_:Unit) (_:True)=>(show Value.bool (((runN sB s k.1):Int)==(s.length:Int))=.bool true from bzt (by rw[hb];simp))
   have z5f:=fun(_:Unit) (_:True)=>(show wdE s true [.own 0] (wdMem k.2)from⟨0,rfl,by rw[hfin];rfl⟩)
   refine⟨[(28,.is (.int .i64 (s.length:Int))),(29,.is (.bool true))],[wdL1 s true k.1 k.2],?_⟩
   exact Eq.mp (by kernel_rfl) (Sx.t2 h0 e1 (And.intro rd2 (fun(x3:Unit) (hx4:True)=>(Sx.t2 (c28f x3 hx4) (c29f x3 hx4) (z5f x3 hx4)))))
 |false=>
  have hsk:=wFrom_skip false s k.1
  by_cases hend:(runN sB s k.1) < s.length
  ·obtain⟨c,hc,hp⟩:=runP_out hi hend
   have hw:wC false c=true:=by unfold wC;rw[hp];rfl
   have hwd:=wFrom_word false s (runN sB s k.1) hc hw
   have hel:=runP_le (wC false) s (runN sB s k.1) hbl
   have hgt:=runP_pos hc hw
   have hge:=runP_ge sB s k.1
   have hfew:(k.2:List Bs).length≤1000000:=by have:=hk.2.1;omega
   have hmu:s.length - (wdNext s false k).1 < s.length - k.1:=by show s.length - runN (wC false) s (runN sB s k.1) < _; omega
   have hnx:wdR s false (wdNext s false k):=by
    refine⟨hel,?_,?_⟩
    ·have:=hk.2.1
     simp only[wdNext,List.length_append,List.length_singleton]
     first|omega | (simp at this ⊢;omega)
    ·have:=hk.2.2
     rw[hsk,hwd]at this
     rw[←this]
     simp[wdNext]
   have h0:k.1≤k.1∧k.1≤(runN sB s k.1):=⟨Nat.le_refl _,runP_ge _ _ _⟩
   have e1:wdFr s false k.1=wdFr s false k.1∧wdMem k.2=wdMem k.2:=⟨rfl,rfl⟩
   have rd2:=wd_l1 (PP:=PP) w s false hs k.1 hi k.2 (Sx.atEndA Tryz.prog Tryz.f90 (wdE s false) .ret)
   have c28f:=fun(_:Unit) (_:True)=>len_i s
   have c29f:=fun(_:Unit) (_:True)=>(show Value.bool (((runN sB s k.1):Int)==(s.length:Int))=.bool false from bzf (by rw[beq_eq_false_iff_ne];omega))
   have h5f:=fun(_:Unit) (_:True)=>(show(runN sB s k.1)≤(runN sB s k.1)∧(runN sB s k.1)≤(runN (wC false) s (runN sB s k.1))from⟨Nat.le_refl _,runP_ge _ _ _⟩)
   have e6f:=fun(_:Unit) (_:True)=>(show wdFr2 s false (runN sB s k.1) (runN sB s k.1)=wdFr2 s false (runN sB s k.1) (runN sB s k.1)∧wdMem k.2=wdMem k.2 from⟨rfl,rfl⟩)
   have rd7f:=fun(_:Unit) (_:True)=>wd_l2 (PP:=PP) w s false hs (runN sB s k.1) hbl k.2 (Sx.atEndA Tryz.prog Tryz.f90 (wdE s false) .ret)
   have c73f:=fun(_:Unit) (_:True) (_:Unit) (_:True)=>slice_mid s (runN sB s k.1) (runN (wC false) s (runN sB s k.1)) (runP_ge _ _ _) hel
   have c75f:=fun(_:Unit) (_:True) (_:Unit) (_:True)=>app_ob (cells:=[strV ((s.take (runN (wC false) s (runN sB s k.1))).drop (runN sB s k.1))]) (size:=1) (len:=k.2.length) (B:=bytesOf 9) (by kernel_rfl) (by kernel_rfl) hfew (by decide+kernel)
   have h10f:=fun(_:Unit) (_:True) (_:Unit) (_:True)=>hmu
   have h11f:=fun(_:Unit) (_:True) (_:Unit) (_:True)=>(show wdR s false (wdNext s false k)from hnx)
   have h12f:=fun(_:Unit) (_:True) (_:Unit) (_:True)=>(rfl:wdFrO s false 2 (runN (wC false) s (runN sB s k.1))=wdFrO s false 2 (wdNext s false k).1)
   have z13f:=fun(_:Unit) (_:True) (_:Unit) (_:True)=>(show [(⟨9,.own 1 (k.2.length+1) (k.2.map strV++[strV ((s.take (runN (wC false) s (runN sB s k.1))).drop (runN sB s k.1))])⟩:Sx.Row)]=wdMem (wdNext s false k).2 from by simp[wdMem,wdNext])
   refine⟨[(28,.is (.int .i64 (s.length:Int))),(29,.is (.bool false)),(73,.bin (strV ((s.take (runN (wC false) s (runN sB s k.1))).drop (runN sB s k.1))))],[wdL1 s false k.1 k.2,wdL2 s false (runN sB s k.1) k.2],?_⟩
   exact Eq.mp (by kernel_rfl) (Sx.t2 h0 e1 (And.intro rd2 (fun(x3:Unit) (hx4:True)=>(Sx.t4 (c28f x3 hx4) (c29f x3 hx4) (h5f x3 hx4) (e6f x3 hx4) (And.intro (rd7f x3 hx4) (fun(x8:Unit) (hx9:True)=>(Sx.t4 (c73f x3 hx4 x8 hx9) (c75f x3 hx4 x8 hx9) (h10f x3 hx4 x8 hx9) (h11f x3 hx4 x8 hx9) (And.intro (h12f x3 hx4 x8 hx9) (z13f x3 hx4 x8 hx9)))))))))
  ·have hb:(runN sB s k.1)=s.length:=by omega
   have hfin:wordsW false s=k.2:=by
    have:=hk.2.2
    rw[hsk,hb,wFrom_end,List.append_nil]at this
    exact this.symm
   have h0:k.1≤k.1∧k.1≤(runN sB s k.1):=⟨Nat.le_refl _,runP_ge _ _ _⟩
   have e1:wdFr s false k.1=wdFr s false k.1∧wdMem k.2=wdMem k.2:=⟨rfl,rfl⟩
   have rd2:=wd_l1 (PP:=PP) w s false hs k.1 hi k.2 (Sx.atEndA Tryz.prog Tryz.f90 (wdE s false) .ret)
   have c28f:=fun(_:Unit) (_:True)=>len_i s
   have c29f:=fun(_:Unit) (_:True)=>(show Value.bool (((runN sB s k.1):Int)==(s.length:Int))=.bool true from bzt (by rw[hb];simp))
   have z5f:=fun(_:Unit) (_:True)=>(show wdE s false [.own 0] (wdMem k.2)from⟨0,rfl,by rw[hfin];rfl⟩)
   refine⟨[(28,.is (.int .i64 (s.length:Int))),(29,.is (.bool true))],[wdL1 s false k.1 k.2],?_⟩
   exact Eq.mp (by kernel_rfl) (Sx.t2 h0 e1 (And.intro rd2 (fun(x3:Unit) (hx4:True)=>(Sx.t2 (c28f x3 hx4) (c29f x3 hx4) (z5f x3 hx4)))))
def WdPost(s:Bs)(cm:Bool)(w:World)(e:Ending)(w':World):Prop:=∃(A:Option Go.Addr) (cc:Nat),e=.returned (.slice A (wordsW cm s).length cc)∧Own w' 9 1 (.slice A (wordsW cm s).length cc) (wordsW cm s).length ((wordsW cm s).map strV)∧(∀k,A.map (·.block)=some k→w.heap.size≤k)∧Chg [] w w'
theorem words_N(w:World)(s:Bs)(cm:Bool)(hs:s.length≤1000000):Calls Tryz.prog 90 #[strV s,.bool cm] w (WdPost s cm w):=by
 have key:Calls Tryz.prog 90 #[strV s,.bool cm] w (Sx.anyPost ⟨w,[],fun _ _=>False⟩ (wdE s cm)):=by
  have hF:=Sx.rows_giv (w:=w) (S:=[]) (PP:=fun _ _=>False) (G:=[]) (fun q hq=>by cases hq) (fun q hq=>by cases hq) (by simp)
  have hk:wdR s cm (0,[]):=⟨Nat.zero_le _,Nat.le_refl _,rfl⟩
  have hi:0≤s.length:=Nat.zero_le _
  have hbl:=runP_le sB s 0 hi
  have first:=Sx.calls_jump (args:=[.val (strV s),.val (.bool cm)]) hF 0 (wdNext s cm (0,[])) (wdR s cm) (fun k=>wdFr s cm k.1) (fun k=>wdMem k.2) (wdNext s cm) (fun k=>s.length - k.1) [] (P:=Tryz.prog) (fn:=Tryz.f90) (a0:=Sx.headOf (Tryz.f90.body.getD .skip)) (c:=Sx.scopeOf (Tryz.f90.body.getD .skip)) (f:=90) (rest:=wdRest) (R:=wdE s cm)
  have hs':s.length≤100000000:=by omega
  replace first:=fun H L hx=>first H L (by kernel_rfl) Tryz.func90 rfl (by kernel_rfl) (Nat.le_of_ble_eq_true rfl) rfl (wd_pass w s cm hs) hx
  have hs:=hs'
  cases cm with
  |true=>
   have hsk:=wFrom_skip true s 0
   by_cases hend:(runN sB s 0) < s.length
   ·obtain⟨c,hc,hp⟩:=runP_out hi hend
    by_cases h35:c=35
    ·have hfin:wordsW true s=([]:List Bs):=by
      exact hsk.trans (wFrom_hash s (runN sB s 0) (by rw[hc,h35]))
     have h0:0≤0∧0≤(runN sB s 0):=⟨Nat.le_refl _,runP_ge _ _ _⟩
     have e1:wdFr s true 0=wdFr s true 0∧wdMem ([]:List Bs)=wdMem ([]:List Bs):=⟨rfl,rfl⟩
     have rd2:=wd_l1 (PP:=fun _ _=>False) w s true hs 0 hi ([]:List Bs) (Sx.atEndA Tryz.prog Tryz.f90 (wdE s true) .ret)
     have c28f:=fun(_:Unit) (_:True)=>len_i s
     have c29f:=fun(_:Unit) (_:True)=>(show Value.bool (((runN sB s 0):Int)==(s.length:Int))=.bool false from bzf (by rw[beq_eq_false_iff_ne];omega))
     have c35f:=fun(_:Unit) (_:True)=>u8_at s (runN sB s 0) c hc
     have c36f:=fun(_:Unit) (_:True)=>(show Value.bool ((c.toNat:Int)==35)=.bool true from bzt (byte_eq h35))
     have z5f:=fun(_:Unit) (_:True)=>(show wdE s true [.own 0] (wdMem ([]:List Bs))from⟨0,rfl,by rw[hfin];rfl⟩)
     refine first [(5,.nils 9 1),(28,.is (.int .i64 (s.length:Int))),(29,.is (.bool false)),(35,.bin (u8 c)),(36,.is (.bool true))] [wdL1 s true 0 ([]:List Bs)] ?_
     exact Eq.mp (by kernel_rfl) (Sx.t2 h0 e1 (And.intro rd2 (fun(x3:Unit) (hx4:True)=>(Sx.t4 (c28f x3 hx4) (c29f x3 hx4) (c35f x3 hx4) (c36f x3 hx4) (z5f x3 hx4)))))
    ·have hw:wC true c=true:=by unfold wC;rw[hp];simp[h35]
     have hwd:=wFrom_word true s (runN sB s 0) hc hw
     have hel:=runP_le (wC true) s (runN sB s 0) hbl
     have hgt:=runP_pos hc hw
     have hge:=runP_ge sB s 0
     have hfew:(([]:List Bs):List Bs).length≤1000000:=Nat.zero_le _
     have hnx:wdR s true (wdNext s true (0,[])):=by
      refine⟨hel,?_,?_⟩
      ·have:=hk.2.1
       simp only[wdNext,List.length_append,List.length_singleton]
       first|omega | (simp at this ⊢;omega)
      ·exact(hsk.trans hwd).symm
     have h0:0≤0∧0≤(runN sB s 0):=⟨Nat.le_refl _,runP_ge _ _ _⟩
     have e1:wdFr s true 0=wdFr s true 0∧wdMem ([]:List Bs)=wdMem ([]:List Bs):=⟨rfl,rfl⟩
     have rd2:=wd_l1 (PP:=fun _ _=>False) w s true hs 0 hi ([]:List Bs) (Sx.atEndA Tryz.prog Tryz.f90 (wdE s true) .ret)
     have c28f:=fun(_:Unit) (_:True)=>len_i s
     have c29f:=fun(_:Unit) (_:True)=>(show Value.bool (((runN sB s 0):Int)==(s.length:Int))=.bool false from bzf (by rw[beq_eq_false_iff_ne];omega))
     have c35f:=fun(_:Unit) (_:True)=>u8_at s (runN sB s 0) c hc
     have c36f:=fun(_:Unit) (_:True)=>(show Value.bool ((c.toNat:Int)==35)=.bool false from bzf (byte_ne h35))
     have h5f:=fun(_:Unit) (_:True)=>(show(runN sB s 0)≤(runN sB s 0)∧(runN sB s 0)≤(runN (wC true) s (runN sB s 0))from⟨Nat.le_refl _,runP_ge _ _ _⟩)
     have e6f:=fun(_:Unit) (_:True)=>(show wdFr2 s true (runN sB s 0) (runN sB s 0)=wdFr2 s true (runN sB s 0) (runN sB s 0)∧wdMem ([]:List Bs)=wdMem ([]:List Bs)from⟨rfl,rfl⟩)
     have rd7f:=fun(_:Unit) (_:True)=>wd_l2 (PP:=fun _ _=>False) w s true hs (runN sB s 0) hbl ([]:List Bs) (Sx.atEndA Tryz.prog Tryz.f90 (wdE s true) .ret)
     have c73f:=fun(_:Unit) (_:True) (_:Unit) (_:True)=>slice_mid s (runN sB s 0) (runN (wC true) s (runN sB s 0)) (runP_ge _ _ _) hel
     have c75f:=fun(_:Unit) (_:True) (_:Unit) (_:True)=>app_ob (cells:=[strV ((s.take (runN (wC true) s (runN sB s 0))).drop (runN sB s 0))]) (size:=1) (len:=([]:List Bs).length) (B:=bytesOf 9) (by kernel_rfl) (by kernel_rfl) hfew (by decide+kernel)
     have h10f:=fun(_:Unit) (_:True) (_:Unit) (_:True)=>trivial
     have h11f:=fun(_:Unit) (_:True) (_:Unit) (_:True)=>(show wdR s true (wdNext s true (0,[]))from hnx)
     have h12f:=fun(_:Unit) (_:True) (_:Unit) (_:True)=>(rfl:wdFrO s true 2 (runN (wC true) s (runN sB s 0))=wdFrO s true 2 (wdNext s true (0,[])).1)
     have z13f:=fun(_:Unit) (_:True) (_:Unit) (_:True)=>(show [(⟨9,.own 1 (([]:List Bs).length+1) (([]:List Bs).map strV++[strV ((s.take (runN (wC true) s (runN sB s 0))).drop (runN sB s 0))])⟩:Sx.Row)]=wdMem (wdNext s true (0,[])).2 from by simp[wdMem,wdNext])
     refine first [(5,.nils 9 1),(28,.is (.int .i64 (s.length:Int))),(29,.is (.bool false)),(35,.bin (u8 c)),(36,.is (.bool false)),(73,.bin (strV ((s.take (runN (wC true) s (runN sB s 0))).drop (runN sB s 0))))] [wdL1 s true 0 ([]:List Bs),wdL2 s true (runN sB s 0) ([]:List Bs)] ?_
     exact Eq.mp (by kernel_rfl) (Sx.t2 h0 e1 (And.intro rd2 (fun(x3:Unit) (hx4:True)=>(Sx.t4 (c28f x3 hx4) (c29f x3 hx4) (c35f x3 hx4) (c36f x3 hx4) (Sx.t2 (h5f x3 hx4) (e6f x3 hx4) (And.intro (rd7f x3 hx4) (fun(x8:Unit) (hx9:True)=>(Sx.t4 (c73f x3 hx4 x8 hx9) (c75f x3 hx4 x8 hx9) (h10f x3 hx4 x8 hx9) (h11f x3 hx4 x8 hx9) (And.intro (h12f x3 hx4 x8 hx9) (z13f x3 hx4 x8 hx9))))))))))
   ·have hb:(runN sB s 0)=s.length:=by omega
    have hfin:wordsW true s=([]:List Bs):=by
     exact hsk.trans (by rw[hb];exact wFrom_end _ _)
    have h0:0≤0∧0≤(runN sB s 0):=⟨Nat.le_refl _,runP_ge _ _ _⟩
    have e1:wdFr s true 0=wdFr s true 0∧wdMem ([]:List Bs)=wdMem ([]:List Bs):=⟨rfl,rfl⟩
    have rd2:=wd_l1 (PP:=fun _ _=>False) w s true hs 0 hi ([]:List Bs) (Sx.atEndA Tryz.prog Tryz.f90 (wdE s true) .ret)
    have c28f:=fun(_:Unit) (_:True)=>len_i s
    have c29f:=fun(_:Unit) (_:True)=>(show Value.bool (((runN sB s 0):Int)==(s.length:Int))=.bool true from bzt (by rw[hb];simp))
    have z5f:=fun(_:Unit) (_:True)=>(show wdE s true [.own 0] (wdMem ([]:List Bs))from⟨0,rfl,by rw[hfin];rfl⟩)
    refine first [(5,.nils 9 1),(28,.is (.int .i64 (s.length:Int))),(29,.is (.bool true))] [wdL1 s true 0 ([]:List Bs)] ?_
    exact Eq.mp (by kernel_rfl) (Sx.t2 h0 e1 (And.intro rd2 (fun(x3:Unit) (hx4:True)=>(Sx.t2 (c28f x3 hx4) (c29f x3 hx4) (z5f x3 hx4)))))
  |false=>
   have hsk:=wFrom_skip false s 0
   by_cases hend:(runN sB s 0) < s.length
   ·obtain⟨c,hc,hp⟩:=runP_out hi hend
    have hw:wC false c=true:=by unfold wC;rw[hp];rfl
    have hwd:=wFrom_word false s (runN sB s 0) hc hw
    have hel:=runP_le (wC false) s (runN sB s 0) hbl
    have hgt:=runP_pos hc hw
    have hge:=runP_ge sB s 0
    have hfew:(([]:List Bs):List Bs).length≤1000000:=Nat.zero_le _
    have hnx:wdR s false (wdNext s false (0,[])):=by
     refine⟨hel,?_,?_⟩
     ·have:=hk.2.1
      simp only[wdNext,List.length_append,List.length_singleton]
      first|omega | (simp at this ⊢;omega)
     ·exact(hsk.trans hwd).symm
    have h0:0≤0∧0≤(runN sB s 0):=⟨Nat.le_refl _,runP_ge _ _ _⟩
    have e1:wdFr s false 0=wdFr s false 0∧wdMem ([]:List Bs)=wdMem ([]:List Bs):=⟨rfl,rfl⟩
    have rd2:=wd_l1 (PP:=fun _ _=>False) w s false hs 0 hi ([]:List Bs) (Sx.atEndA Tryz.prog Tryz.f90 (wdE s false) .ret)
    have c28f:=fun(_:Unit) (_:True)=>len_i s
    have c29f:=fun(_:Unit) (_:True)=>(show Value.bool (((runN sB s 0):Int)==(s.length:Int))=.bool false from bzf (by rw[beq_eq_false_iff_ne];omega))
    have h5f:=fun(_:Unit) (_:True)=>(show(runN sB s 0)≤(runN sB s 0)∧(runN sB s 0)≤(runN (wC false) s (runN sB s 0))from⟨Nat.le_refl _,runP_ge _ _ _⟩)
    have e6f:=fun(_:Unit) (_:True)=>(show wdFr2 s false (runN sB s 0) (runN sB s 0)=wdFr2 s false (runN sB s 0) (runN sB s 0)∧wdMem ([]:List Bs)=wdMem ([]:List Bs)from⟨rfl,rfl⟩)
    have rd7f:=fun(_:Unit) (_:True)=>wd_l2 (PP:=fun _ _=>False) w s false hs (runN sB s 0) hbl ([]:List Bs) (Sx.atEndA Tryz.prog Tryz.f90 (wdE s false) .ret)
    have c73f:=fun(_:Unit) (_:True) (_:Unit) (_:True)=>slice_mid s (runN sB s 0) (runN (wC false) s (runN sB s 0)) (runP_ge _ _ _) hel
    have c75f:=fun(_:Unit) (_:True) (_:Unit) (_:True)=>app_ob (cells:=[strV ((s.take (runN (wC false) s (runN sB s 0))).drop (runN sB s 0))]) (size:=1) (len:=([]:List Bs).length) (B:=bytesOf 9) (by kernel_rfl) (by kernel_rfl) hfew (by decide+kernel)
    have h10f:=fun(_:Unit) (_:True) (_:Unit) (_:True)=>trivial
    have h11f:=fun(_:Unit) (_:True) (_:Unit) (_:True)=>(show wdR s false (wdNext s false (0,[]))from hnx)
    have h12f:=fun(_:Unit) (_:True) (_:Unit) (_:True)=>(rfl:wdFrO s false 2 (runN (wC false) s (runN sB s 0))=wdFrO s false 2 (wdNext s false (0,[])).1)
    have z13f:=fun(_:Unit) (_:True) (_:Unit) (_:True)=>(show [(⟨9,.own 1 (([]:List Bs).length+1) (([]:List Bs).map strV++[strV ((s.take (runN (wC false) s (runN sB s 0))).drop (runN sB s 0))])⟩:Sx.Row)]=wdMem (wdNext s false (0,[])).2 from by simp[wdMem,wdNext])
    refine first [(5,.nils 9 1),(28,.is (.int .i64 (s.length:Int))),(29,.is (.bool false)),(73,.bin (strV ((s.take (runN (wC false) s (runN sB s 0))).drop (runN sB s 0))))] [wdL1 s false 0 ([]:List Bs),wdL2 s false (runN sB s 0) ([]:List Bs)] ?_
    exact Eq.mp (by kernel_rfl) (Sx.t2 h0 e1 (And.intro rd2 (fun(x3:Unit) (hx4:True)=>(Sx.t4 (c28f x3 hx4) (c29f x3 hx4) (h5f x3 hx4) (e6f x3 hx4) (And.intro (rd7f x3 hx4) (fun(x8:Unit) (hx9:True)=>(Sx.t4 (c73f x3 hx4 x8 hx9) (c75f x3 hx4 x8 hx9) (h10f x3 hx4 x8 hx9) (h11f x3 hx4 x8 hx9) (And.intro (h12f x3 hx4 x8 hx9) (z13f x3 hx4 x8 hx9)))))))))
   ·have hb:(runN sB s 0)=s.length:=by omega
    have hfin:wordsW false s=([]:List Bs):=by
     exact hsk.trans (by rw[hb];exact wFrom_end _ _)
    have h0:0≤0∧0≤(runN sB s 0):=⟨Nat.le_refl _,runP_ge _ _ _⟩
    have e1:wdFr s false 0=wdFr s false 0∧wdMem ([]:List Bs)=wdMem ([]:List Bs):=⟨rfl,rfl⟩
    have rd2:=wd_l1 (PP:=fun _ _=>False) w s false hs 0 hi ([]:List Bs) (Sx.atEndA Tryz.prog Tryz.f90 (wdE s false) .ret)
    have c28f:=fun(_:Unit) (_:True)=>len_i s
    have c29f:=fun(_:Unit) (_:True)=>(show Value.bool (((runN sB s 0):Int)==(s.length:Int))=.bool true from bzt (by rw[hb];simp))
    have z5f:=fun(_:Unit) (_:True)=>(show wdE s false [.own 0] (wdMem ([]:List Bs))from⟨0,rfl,by rw[hfin];rfl⟩)
    refine first [(5,.nils 9 1),(28,.is (.int .i64 (s.length:Int))),(29,.is (.bool true))] [wdL1 s false 0 ([]:List Bs)] ?_
    exact Eq.mp (by kernel_rfl) (Sx.t2 h0 e1 (And.intro rd2 (fun(x3:Unit) (hx4:True)=>(Sx.t2 (c28f x3 hx4) (c29f x3 hx4) (z5f x3 hx4)))))
 refine key.mono fun e w' hp=>?_
 rcases hp with⟨β,l,mem,⟨j,rfl,hm⟩,he,hR⟩ | ⟨_,_,hf,_⟩
 ·have h0:β.n j=(wordsW cm s).length∧Own w' 9 1 (.slice (β.a j) (wordsW cm s).length (β.c j)) (wordsW cm s).length ((wordsW cm s).map strV):=hR.held j _ hm
  refine⟨β.a j,β.c j,?_,h0.2,fun k hk=>?_,hR.chg⟩
  ·rw[he]
   show Ending.returned (.slice (β.a j) (β.n j) (β.c j))=_
   rw[h0.1]
  ·rcases hR.new j _ k hm hk with hx|hx
   ·cases hx
   ·exact hx
 ·exact hf.elim
end Go.Proofs.YtnncigmpcdehnaaGreatDoor
