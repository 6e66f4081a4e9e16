import Derived.Test.YtnncigmpcdehnaaGreatDoorQd12
namespace Go.Proofs.YtnncigmpcdehnaaGreatDoor
set_option maxRecDepth 100000
open Go.RowKit Go.Lib Go.Sort
theorem uu(s:ByteArray)(lo hi:Nat)(h:lo≤hi)(h2:hi≤s.size)(W:World):(Instr.sliceAt 9 (.string s) (some (.int .i64 lo)) (some (.int .i64 hi)) none).run Tryz.prog W=.ok (.string (s.extract lo hi)) W:=by
 simp[Instr.sliceAt,run_underlying Tryz.underlying9,Instr.slice,Instr.sliceBounds,Instr.sliceBound,asIntOf,h,h2]
def Lt:ByteArray:=⟨#[48,49,50,51,52,53,54,55,56,57,97,98,99,100,101,102]⟩
theorem Jl:∀d:Fin 16,Lt.extract d.val (d.val+1)=⟨#[sig d.val]⟩:=by decide+kernel
theorem FF(d:Nat)(hd:d < 16)(W:World):(Instr.sliceAt 9 (.string ⟨#[48,49,50,51,52,53,54,55,56,57,97,98,99,100,101,102]⟩) (some (.int .i64 (d:Int))) (some (.int .i64 ((d+1:Nat):Int))) none).run Tryz.prog W=.ok (.string ⟨#[sig d]⟩) W:=by
 have h:=uu Lt d (d+1) (by omega) (by show d+1≤16;omega) W
 rw[Jl ⟨d,hd⟩]at h
 exact h
theorem bN(x y:Operand)(a b:List UInt8)(h:a.length+b.length≤9000000000000000000)(W:World):(do eqGuard .add 9 x y (.string ⟨a.toArray⟩) (.string ⟨b.toArray⟩);binOp .add 9 (.string ⟨a.toArray⟩) (.string ⟨b.toArray⟩):Sem Value).run Tryz.prog W=.ok (.string ⟨(a++b).toArray⟩) W:=by
 have e:¬(((⟨a.toArray⟩:ByteArray).size+(⟨b.toArray⟩:ByteArray).size:Nat):Int) > IntKind.i64.max:=by
  have:IntKind.i64.max=9223372036854775807:=by decide
  rw[this]
  simp[ByteArray.size]
  omega
 show(Op.stringOp .add (⟨a.toArray⟩) (⟨b.toArray⟩)).run Tryz.prog W=_
 unfold Op.stringOp
 simp only[if_neg e]
 show Result.ok (Value.string (⟨a.toArray⟩++⟨b.toArray⟩)) W=_
 congr 2
theorem Hv{b:Nat}(hb:2≤b):∀(n:Nat),(ak b n).length≤n+1:=by
 intro n
 induction n using Nat.strongRecOn with
 |_ n ih=>
  by_cases h:n < b
  ·rw[bj h];simp
  ·rw[dy hb h]
   have h1:=ih (n / b) (Nat.div_lt_self (by omega) (by omega))
   have h2:n / b≤n / 2:=Nat.div_le_div_left hb (by omega)
   simp only[List.length_append,List.length_cons,List.length_nil]
   omega
theorem iw{a b:Int}(h:a=b):Value.int .i64 a=.int .i64 b:=by rw[h]
theorem gE{a:Int}(h0 : -9223372036854775808≤a)(h1:a≤9223372036854775807):IntKind.i64.wrap a=a:=IntWalk.i64_in _ ⟨h0,h1⟩
theorem pY(b:Nat)(hb:b=10∨b=16):∀(n:Nat),n≤4000000000000000000→∀w,Calls Tryz.prog 102 #[.int .i64 (n:Int),.int .i64 (b:Int)] w fun e w'=>e=.returned (.string ⟨(ak b n).toArray⟩)∧ag [] w w':=by
 intro n
 induction n using Nat.strongRecOn with
 |_ n ih=>
  intro hn w
  by_cases h:n < b
  ·have c7:Value.bool (decide ((n:Int) < (b:Int)))=.bool true:=by rw[decide_eq_true (by omega)]
   have c10:Value.int .i64 (IntKind.i64.wrap ((n:Int)+1))=.int .i64 ((n+1:Nat):Int):=iw (by rw[gE (by omega) (by omega)];rfl)
   have nM:=FF n (by omega)
   have z0:Value.string ⟨#[sig n]⟩=.string ⟨(ak b n).toArray⟩:=by rw[bj h]
   refine Sx.aG (args:=[.int .i64 (n:Int),.int .i64 (b:Int)]) [(7,.is (.bool true)),(10,.is (.int .i64 ((n+1:Nat):Int))),(11,.bin (.string ⟨#[sig n]⟩))] [] (by kernel_rfl) Tryz.func102 rfl (Nat.le_of_ble_eq_true rfl) ?_
   exact Eq.mp (by kernel_rfl) (Sx.t2 c7 c10 (And.intro nM z0))
  ·have c7:Value.bool (decide ((n:Int) < (b:Int)))=.bool false:=by rw[decide_eq_false (by omega)]
   have hq:n / b≤n / 2:=Nat.div_le_div_left (by omega) (by omega)
   have hm:n%b < b:=Nat.mod_lt _ (by omega)
   have gB:=fun W (_:ag [] w W)=>ih (n / b) (Nat.div_lt_self (by omega) (by omega)) (by omega) W
   have c24:=FF (n%b) (by omega)
   have c23:Value.int .i64 (IntKind.i64.wrap (((n%b:Nat):Int)+1))=.int .i64 ((n%b+1:Nat):Int):=iw (by rw[gE (by omega) (by omega)];rfl)
   have hl:=Hv (b:=b) (by omega) (n / b)
   have c25:=bN (.tmp 16) (.tmp 24) (ak b (n / b)) [sig (n%b)] (by simp only[List.length_cons,List.length_nil]; omega)
   have z0:Value.string ⟨(ak b (n / b)++[sig (n%b)]).toArray⟩=.string ⟨(ak b n).toArray⟩:=by rw[dy (by omega) h]
   have ed:((n:Int).tdiv (b:Int))=((n / b:Nat):Int):=by rw[Int.tdiv_eq_ediv_of_nonneg (by omega)]; rfl
   have em:((n:Int).tmod (b:Int))=((n%b:Nat):Int):=by rw[Int.tmod_eq_emod_of_nonneg (by omega)];rfl
   rcases hb with rfl|rfl
   ·have c14:Value.int .i64 (IntKind.i64.wrap ((n:Int).tdiv 10))=.int .i64 ((n / 10:Nat):Int):=iw (by rw[show((10:Int))=((10:Nat):Int)from rfl,ed,gE (by omega) (by omega)])
    have c19:Value.int .i64 ((n:Int).tmod 10)=.int .i64 ((n%10:Nat):Int):=iw em
    have c22:=c19
    refine Sx.aG (args:=[.int .i64 (n:Int),.int .i64 ((10:Nat):Int)]) [(7,.is (.bool false)),(14,.is (.int .i64 ((n / 10:Nat):Int))),(16,.call (.string ⟨(ak 10 (n / 10)).toArray⟩)),(19,.is (.int .i64 ((n%10:Nat):Int))),(22,.is (.int .i64 ((n%10:Nat):Int))),(23,.is (.int .i64 ((n%10+1:Nat):Int))),(24,.bin (.string ⟨#[sig (n%10)]⟩)),(25,.bin (.string ⟨(ak 10 (n / 10)++[sig (n%10)]).toArray⟩))] [] (by kernel_rfl) Tryz.func102 rfl (Nat.le_of_ble_eq_true rfl) ?_
    exact Eq.mp (by kernel_rfl) (Sx.t8 c7 c14 gB c19 c22 c23 c24 c25 z0)
   ·have c14:Value.int .i64 (IntKind.i64.wrap ((n:Int).tdiv 16))=.int .i64 ((n / 16:Nat):Int):=iw (by rw[show((16:Int))=((16:Nat):Int)from rfl,ed,gE (by omega) (by omega)])
    have c19:Value.int .i64 ((n:Int).tmod 16)=.int .i64 ((n%16:Nat):Int):=iw em
    have c22:=c19
    refine Sx.aG (args:=[.int .i64 (n:Int),.int .i64 ((16:Nat):Int)]) [(7,.is (.bool false)),(14,.is (.int .i64 ((n / 16:Nat):Int))),(16,.call (.string ⟨(ak 16 (n / 16)).toArray⟩)),(19,.is (.int .i64 ((n%16:Nat):Int))),(22,.is (.int .i64 ((n%16:Nat):Int))),(23,.is (.int .i64 ((n%16+1:Nat):Int))),(24,.bin (.string ⟨#[sig (n%16)]⟩)),(25,.bin (.string ⟨(ak 16 (n / 16)++[sig (n%16)]).toArray⟩))] [] (by kernel_rfl) Tryz.func102 rfl (Nat.le_of_ble_eq_true rfl) ?_
    exact Eq.mp (by kernel_rfl) (Sx.t8 c7 c14 gB c19 c22 c23 c24 c25 z0)
theorem w8(v:Bool)(n j:Nat)(hj:j < 16):(cx v n)[1+j]?=some (.int .u8 (ah n j:Int)):=cn v (ah n) j hj
theorem Ie(n j:Nat):(0:Int)≤(ah n j:Int)∧(ah n j:Int)≤255:=by have:=aZ n j;omega
theorem yl(v:Bool)(n i:Nat)(hi:i < 8)(w:World):Calls Tryz.prog 104 #[.agg (cx v n).toArray,.int .i64 (i:Int)] w fun e w'=>e=.returned (.int .i64 (dO n i:Nat))∧ag [] w w':=by
 obtain⟨a0,a1⟩:=Ie n (2*i)
 obtain⟨b0,b1⟩:=Ie n (2*i+1)
 have c6:Value.int .i64 (IntKind.i64.wrap (2*(i:Int)))=.int .i64 ((2*i:Nat):Int):=iw (by rw[gE (by omega) (by omega)];rfl)
 have c8:(0:Int)≤((2*i:Nat):Int)∧((2*i:Nat):Int) < ((16:Nat):Int):=by omega
 have c9:(cx v n)[1+((2*i:Nat):Int).toNat*1]?=some (.int .u8 (ah n (2*i):Int)):=by rw[Int.toNat_natCast,Nat.mul_one];exact w8 v n _ (by omega)
 have c10:Value.int .i64 (IntKind.i64.wrap (ah n (2*i):Int))=.int .i64 (ah n (2*i):Int):=iw (gE (by omega) (by omega))
 have nM:Value.int .i64 (IntKind.i64.wrap ((ah n (2*i):Int)*256))=.int .i64 ((ah n (2*i):Int)*256):=iw (gE (by omega) (by omega))
 have c13:=c6
 have c14:Value.int .i64 (IntKind.i64.wrap (((2*i:Nat):Int)+1))=.int .i64 ((2*i+1:Nat):Int):=iw (by rw[gE (by omega) (by omega)];rfl)
 have gB:(0:Int)≤((2*i+1:Nat):Int)∧((2*i+1:Nat):Int) < ((16:Nat):Int):=by omega
 have c17:(cx v n)[1+((2*i+1:Nat):Int).toNat*1]?=some (.int .u8 (ah n (2*i+1):Int)):=by rw[Int.toNat_natCast,Nat.mul_one];exact w8 v n _ (by omega)
 have c18:Value.int .i64 (IntKind.i64.wrap (ah n (2*i+1):Int))=.int .i64 (ah n (2*i+1):Int):=iw (gE (by omega) (by omega))
 have c19:Value.int .i64 (IntKind.i64.wrap ((ah n (2*i):Int)*256+(ah n (2*i+1):Int)))=.int .i64 (dO n i:Nat):=iw (by rw[gE (by omega) (by omega)];unfold dO;omega)
 have z0:Value.int .i64 (dO n i:Nat)=.int .i64 (dO n i:Nat):=rfl
 refine Sx.aG (args:=[.agg (cx v n).toArray,.int .i64 (i:Int)]) [(6,.is (.int .i64 ((2*i:Nat):Int))),(8,.ix),(9,.ld (.int .u8 (ah n (2*i):Int))),(10,.is (.int .i64 (ah n (2*i):Int))),(11,.is (.int .i64 ((ah n (2*i):Int)*256))),(13,.is (.int .i64 ((2*i:Nat):Int))),(14,.is (.int .i64 ((2*i+1:Nat):Int))),(16,.ix),(17,.ld (.int .u8 (ah n (2*i+1):Int))),(18,.is (.int .i64 (ah n (2*i+1):Int))),(19,.is (.int .i64 (dO n i:Nat)))] [] (by kernel_rfl) Tryz.func104 rfl (Nat.le_of_ble_eq_true rfl) ?_
 exact Eq.mp (by kernel_rfl) (Sx.t8 c6 c8 c9 c10 nM c13 c14 gB (Sx.t2 c17 c18 (And.intro c19 z0)))
def fE(n i:Nat):Nat:=gw ((zs (aM n)).drop i)
theorem vK(n i:Nat)(hi:i≤8):i+fE n i≤8:=by
 have:=vI ((zs (aM n)).drop i)
 have e:((zs (aM n)).drop i).length=8 - i:=by simp[zs,aM]
 unfold fE;omega
theorem E0(n j:Nat)(hj:j < 8):(zs (aM n))[j]?=some (dO n j==0):=by
 match j,hj with
 | 0,_=>rfl
 | 1,_=>rfl
 | 2,_=>rfl
 | 3,_=>rfl
 | 4,_=>rfl
 | 5,_=>rfl
 | 6,_=>rfl
 | 7,_=>rfl
theorem B8:∀(l:List Bool) (m:Nat),m < gw l→l[m]?=some true
 |true::l,0,_=>rfl
 |true::l,m+1,h=>by simpa using B8 l m (by simpa[gw]using h)
 |false::l,m,h=>by simp[gw]at h
 | [],m,h=>by simp[gw]at h
theorem xR:∀(l:List Bool),gw l < l.length→l[gw l]?=some false
 |true::l,h=>by simpa[gw]using xR l (by simpa[gw]using h)
 |false::l,_=>rfl
 | [],h=>by simp at h
theorem L9{n i m:Nat}(h:m < fE n i)(h8:i+m < 8):dO n (i+m)=0:=by
 have:=B8 _ m h
 rw[List.getElem?_drop,E0 n (i+m) h8]at this
 simpa using this
theorem Jw{n i:Nat}(h8:i+fE n i < 8):dO n (i+fE n i)≠0:=by
 have:=xR ((zs (aM n)).drop i) (by simp[zs,aM];exact Nat.lt_sub_of_add_lt (by rw[Nat.add_comm];exact h8))
 rw[List.getElem?_drop,show i+gw ((zs (aM n)).drop i)=i+fE n i from rfl,E0 n _ h8]at this
 simpa using this
structure q8 where
 i:Nat
 a:Nat
 l:Nat
structure Aa(n:Nat)(k:q8):Prop where
 i8:k.i≤8
 a8:k.a≤8
 l8:k.l≤8
 rest:DA (zs (aM n)) (8 - k.i) k.i k.a k.l=iz (zs (aM n))
def jz(n:Nat)(k:q8):q8:=⟨k.i+1,if fE n k.i > k.l then k.i else k.a,if fE n k.i > k.l then fE n k.i else k.l⟩
def nG(k:q8):List (Nat×Sx.SV):=[(1,.ptr 0 0),(4,.val (.int .i64 (k.a:Int))),(5,.val (.int .i64 (k.l:Int))),(6,.val (.int .i64 (k.i:Int)))]
def aX(v:Bool)(n:Nat):List Sx.Row:=[⟨24,.aj (cx v n)⟩]
def vM(n:Nat):List (Nat×Sx.SV):=[(4,.val (.int .i64 ((iz (zs (aM n))).1:Int))),(5,.val (.int .i64 ((iz (zs (aM n))).2:Int)))]
def dZ(k:q8)(m:Nat):List (Nat×Sx.SV):=(7,.val (.int .i64 (m:Int)))::nG k
def Lu(v:Bool)(n:Nat)(k:q8):Sx.Loop:=.mk Nat 0 (fun m=>m≤fE n k.i) (dZ k) (fun _=>aX v n) (fun m=>m+1) (fun m=>8 - m) Unit (fun _=>True) (fun _=>dZ k (fE n k.i)) (fun _=>aX v n) (fun _=>())
def Pf(v:Bool)(n:Nat):Sx.Loop:=.mk q8 ⟨0,0,0⟩ (Aa n) nG (fun _=>aX v n) (jz n) (fun k=>8 - k.i) Unit (fun _=>True) (fun _=>vM n) (fun _=>aX v n) (fun _=>())
theorem Dz{n:Nat}{k:q8}(h:Aa n k)(hi:k.i < 8):Aa n (jz n k):=by
 have hr:=vK n k.i (by omega)
 refine⟨by show k.i+1≤8;omega,?_,?_,?_⟩
 ·show(if fE n k.i > k.l then k.i else k.a)≤8
  have:=h.a8
  split<;>omega
 ·show(if fE n k.i > k.l then fE n k.i else k.l)≤8
  have:=h.l8
  split<;>omega
 ·rw[←h.rest]
  show DA _ (8 - (k.i+1)) (k.i+1) (if fE n k.i > k.l then k.i else k.a) (if fE n k.i > k.l then fE n k.i else k.l)=_
  rw[show 8 - k.i=(8 - (k.i+1))+1 by omega,DA]
  unfold fE
  by_cases hc:gw ((zs (aM n)).drop k.i) > k.l
  ·rw[if_pos hc,if_pos hc,if_pos hc]
  ·rw[if_neg hc,if_neg hc,if_neg hc]
theorem FM{n:Nat}{k:q8}(h:Aa n k)(hi:k.i=8):(iz (zs (aM n)))=(k.a,k.l):=by
 have:=h.rest
 rw[hi]at this
 exact this.symm
theorem bz{a b:Bool}(h:a=b):Value.bool a=.bool b:=by rw[h]
section
variable{v:Bool}{n:Nat}{w:World}{Kr:Sx.St→Prop}
theorem Mb(k:q8)(hi:k.i < 8)(m:Nat)(hm:m≤fE n k.i):∃H' L',Sx.ex Tryz.prog 33 w (Sx.inBody (Sx.bB Tryz.f103 0) 0) H' L' ⟨dZ k m,aX v n⟩ (Sx.ek (fun m=>m≤fE n k.i) (dZ k) (fun _=>aX v n) (fun m=>m+1) (fun m=>8 - m) (fun _=>True) (fun _=>dZ k (fE n k.i)) (fun _=>aX v n) (fun _=>()) 2 Kr m):=by
 have hr:=vK n k.i (by omega)
 have e14:IntKind.i64.wrap ((k.i:Int)+(m:Int))=((k.i+m:Nat):Int):=by rw[gE (by omega) (by omega)];rfl
 have c14:Value.int .i64 (IntKind.i64.wrap ((k.i:Int)+(m:Int)))=.int .i64 ((k.i+m:Nat):Int):=iw e14
 by_cases h8:k.i+m < 8
 ·have c15:Value.bool (decide (((k.i+m:Nat):Int) < 8))=.bool true:=bz (decide_eq_true (by omega))
  have c20:=c14
  have c21:=fun W (_:ag [] w W)=>yl v n (k.i+m) h8 W
  by_cases hlt:m < fE n k.i
  ·rw[L9 hlt h8]at c21
   have c25:Value.int .i64 (IntKind.i64.wrap ((m:Int)+1))=.int .i64 ((m+1:Nat):Int):=iw (by rw[gE (by omega) (by omega)];rfl)
   have h0:m+1≤fE n k.i:=hlt
   have h1:8 - (m+1) < 8 - m:=by omega
   refine⟨[(14,.is (.int .i64 ((k.i+m:Nat):Int))),(15,.is (.bool true)),(20,.is (.int .i64 ((k.i+m:Nat):Int))),(21,.call (.int .i64 ((0:Nat):Int))),(25,.is (.int .i64 ((m+1:Nat):Int)))],[],?_⟩
   have h2:dZ k (m+1)=dZ k (m+1):=rfl
   have z3:aX v n=aX v n:=rfl
   exact Eq.mp (by kernel_rfl) (Sx.t8 c14 c15 c20 c21 c25 h0 h1 h2 z3)
  ·have e:m=fE n k.i:=by omega
   have hne:=Jw (n:=n) (i:=k.i) (by omega)
   rw[←e]at hne
   have c22:Value.bool (((dO n (k.i+m):Nat):Int)==0)=.bool false:=bz (beq_eq_false_iff_ne.2 (by omega))
   refine⟨[(14,.is (.int .i64 ((k.i+m:Nat):Int))),(15,.is (.bool true)),(20,.is (.int .i64 ((k.i+m:Nat):Int))),(21,.call (.int .i64 (dO n (k.i+m):Nat))),(22,.is (.bool false))],[],?_⟩
   have h0:True:=trivial
   have h1:dZ k m=dZ k (fE n k.i):=congrArg (dZ k) e
   have z2:aX v n=aX v n:=rfl
   exact Eq.mp (by kernel_rfl) (Sx.t4 c14 c15 c20 c21 (Sx.t2 c22 h0 (And.intro h1 z2)))
 ·have c15:Value.bool (decide (((k.i+m:Nat):Int) < 8))=.bool false:=bz (decide_eq_false (by omega))
  refine⟨[(14,.is (.int .i64 ((k.i+m:Nat):Int))),(15,.is (.bool false))],[],?_⟩
  have h0:True:=trivial
  have h1:dZ k m=dZ k (fE n k.i):=congrArg (dZ k) (by omega)
  have z2:aX v n=aX v n:=rfl
  exact Eq.mp (by kernel_rfl) (Sx.t4 c14 c15 h0 h1 z2)
theorem JA(k:q8)(hk:Aa n k):∃H' L',Sx.ex Tryz.prog 33 w (Sx.bB Tryz.f103 0) H' L' ⟨nG k,aX v n⟩ (Sx.ek (Aa n) nG (fun _=>aX v n) (jz n) (fun k=>8 - k.i) (fun _=>True) (fun _=>vM n) (fun _=>aX v n) (fun _=>()) 0 Kr k):=by
 have i8:=hk.i8
 have a8:=hk.a8
 have l8:=hk.l8
 by_cases hi:k.i < 8
 ·have hr:=vK n k.i (by omega)
  have c9:Value.bool (decide ((k.i:Int) < 8))=.bool true:=bz (decide_eq_true (by omega))
  have nM:Value.int .i64 (IntKind.i64.wrap ((k.i:Int)+1))=.int .i64 ((k.i+1:Nat):Int):=iw (by rw[gE (by omega) (by omega)];rfl)
  have h0:0≤fE n k.i:=Nat.zero_le _
  have e1:dZ k 0=dZ k 0∧aX v n=aX v n:=⟨rfl,rfl⟩
  have jA:=fun(m:Nat) (hm:m≤fE n k.i)=>Mb (v:=v) (w:=w) (Kr:=Kr) k hi m hm
  have hnext:=Dz hk hi
  have hmu:8 - (jz n k).i < 8 - k.i:=by show 8 - (k.i+1) < 8 - k.i; omega
  have hz:aX v n=aX v n:=rfl
  by_cases hc:fE n k.i > k.l
  ·have c28:Value.bool (decide (((fE n k.i:Nat):Int) > (k.l:Int)))=.bool true:=bz (decide_eq_true (by omega))
   have hf:nG ⟨k.i+1,k.i,fE n k.i⟩=nG (jz n k):=by unfold jz;rw[if_pos hc,if_pos hc]
   refine⟨[(9,.is (.bool true)),(11,.is (.int .i64 ((k.i+1:Nat):Int))),(28,.is (.bool true))],[Lu v n k],?_⟩
   have e1:dZ k 0=dZ k 0∧aX v n=aX v n:=⟨rfl,rfl⟩
   have h5:=hnext
   have h6:=hmu
   have h7:=hf
   have z8:aX v n=aX v n:=rfl
   exact Eq.mp (by kernel_rfl) (Sx.t4 c9 h0 e1 jA (fun(x:Unit) (hx4:True)=>(Sx.t4 c28 nM h5 h6 (And.intro h7 z8))))
  ·have c28:Value.bool (decide (((fE n k.i:Nat):Int) > (k.l:Int)))=.bool false:=bz (decide_eq_false (by omega))
   have hf:nG ⟨k.i+1,k.a,k.l⟩=nG (jz n k):=by unfold jz;rw[if_neg hc,if_neg hc]
   refine⟨[(9,.is (.bool true)),(11,.is (.int .i64 ((k.i+1:Nat):Int))),(28,.is (.bool false))],[Lu v n k],?_⟩
   have e1:dZ k 0=dZ k 0∧aX v n=aX v n:=⟨rfl,rfl⟩
   have h5:=hnext
   have h6:=hmu
   have h7:=hf
   have z8:aX v n=aX v n:=rfl
   exact Eq.mp (by kernel_rfl) (Sx.t4 c9 h0 e1 jA (fun(x:Unit) (hx4:True)=>(Sx.t4 c28 nM h5 h6 (And.intro h7 z8))))
 ·have c9:Value.bool (decide ((k.i:Int) < 8))=.bool false:=bz (decide_eq_false (by omega))
  have he:=FM hk (by omega)
  have h0:True:=trivial
  have h1:[(4,Sx.SV.val (.int .i64 (k.a:Int))),(5,Sx.SV.val (.int .i64 (k.l:Int)))]=vM n:=by unfold vM;rw[he]
  have z2:aX v n=aX v n:=rfl
  refine⟨[(9,.is (.bool false))],[],?_⟩
  exact Eq.mp (by kernel_rfl) (Sx.t2 c9 h0 (And.intro h1 z2))
theorem NN(v:Bool)(n:Nat)(w:World):Calls Tryz.prog 103 #[.agg (cx v n).toArray] w fun e w'=>e=.returned (.tuple #[.int .i64 ((iz (zs (aM n))).1:Int),.int .i64 ((iz (zs (aM n))).2:Int)])∧ag [] w w':=by
 refine Sx.aG (args:=[.agg (cx v n).toArray]) [] [Pf v n] (by kernel_rfl) Tryz.func103 rfl (Nat.le_of_ble_eq_true rfl) ?_
 have h0:Aa n ⟨0,0,0⟩:=⟨by simp,by simp,by simp,rfl⟩
 have e1:nG ⟨0,0,0⟩=nG ⟨0,0,0⟩∧aX v n=aX v n:=⟨rfl,rfl⟩
 have jA:=fun(k:q8) (hk:Aa n k)=>JA (v:=v) (w:=w) (Kr:=Sx.atEnd Tryz.prog Tryz.f103 (fun u=>u=.tuple #[.int .i64 ((iz (zs (aM n))).1:Int),.int .i64 ((iz (zs (aM n))).2:Int)]) .ret) k hk
 have z5:Value.tuple #[.int .i64 ((iz (zs (aM n))).1:Int),.int .i64 ((iz (zs (aM n))).2:Int)]=.tuple #[.int .i64 ((iz (zs (aM n))).1:Int),.int .i64 ((iz (zs (aM n))).2:Int)]:=rfl
 exact Eq.mp (by kernel_rfl) (Sx.t2 h0 e1 (And.intro jA (fun(x:Unit) (hx4:True)=>z5)))
end
theorem DJ{v:Bool}{n:Nat}(hn:n < 2^128)(h:iG v n=false)(w:World):Calls Tryz.prog 47 #[.agg (cx v n).toArray] w fun e w'=>e=.returned (.tuple #[.string ⟨#[]⟩,.int .i64 150])∧ag [] w w':=by
 have c9:=fun W (_:ag [] w W)=>gf v n hn W
 rw[show eu v n=150 by unfold eu;rw[h];rfl]at c9
 have z0:Value.tuple #[.string ⟨#[]⟩,.int .i64 150]=.tuple #[.string ⟨#[]⟩,.int .i64 150]:=rfl
 refine Sx.aG (args:=[.agg (cx v n).toArray]) [(9,.call (.int .i64 150))] [] (by kernel_rfl) Tryz.func47 rfl (Nat.le_of_ble_eq_true rfl) ?_
 exact Eq.mp (by kernel_rfl) (And.intro c9 z0)
theorem OW(n j:Nat):Value.int .i64 (IntKind.i64.wrap (ah n j:Int))=.int .i64 ((ah n j:Nat):Int):=iw (by have:=aZ n j;exact gE (by omega) (by omega))
theorem JF{n:Nat}(hn:n < 2^128)(h:iG false n=true)(w:World):Calls Tryz.prog 47 #[.agg (cx false n).toArray] w fun e w'=>e=.returned (.tuple #[.string ⟨(fD n).toArray⟩,.int .i64 0])∧ag [] w w':=by
 have c9:=fun W (_:ag [] w W)=>gf false n hn W
 rw[show eu false n=0 by unfold eu;rw[h];rfl]at c9
 have d:=fun j=>gO (u:=ah n j) (by have:=aZ n j;omega)
 have dn:=fun j W (_:ag [] w W)=>pY 10 (.inl rfl) (ah n j) (by have:=aZ n j;omega) W
 have c17:=OW n 0
 have c23:=OW n 1
 have c30:=OW n 2
 have c37:=OW n 3
 have c18:=dn 0
 have c24:=dn 1
 have c31:=dn 2
 have c38:=dn 3
 obtain⟨d0,h0⟩:∃x,x=ak 10 (ah n 0):=⟨_,rfl⟩
 obtain⟨d1,h1⟩:∃x,x=ak 10 (ah n 1):=⟨_,rfl⟩
 obtain⟨d2,h2⟩:∃x,x=ak 10 (ah n 2):=⟨_,rfl⟩
 obtain⟨d3,h3⟩:∃x,x=ak 10 (ah n 3):=⟨_,rfl⟩
 have l0:=d 0
 have l1:=d 1
 have l2:=d 2
 have l3:=d 3
 rw[←h0]at c18 l0
 rw[←h1]at c24 l1
 rw[←h2]at c31 l2
 rw[←h3]at c38 l3
 have c19:=bN (.tmp 18) (.const (.string ⟨#[46]⟩)) d0 [46] (by simp only[List.length_cons,List.length_nil];omega)
 have c25:=bN (.tmp 19) (.tmp 24) (d0++[46]) d1 (by simp only[List.length_append,List.length_cons,List.length_nil];omega)
 have c26:=bN (.tmp 25) (.const (.string ⟨#[46]⟩)) (d0++[46]++d1) [46] (by simp only[List.length_append,List.length_cons,List.length_nil];omega)
 have c32:=bN (.tmp 26) (.tmp 31) (d0++[46]++d1++[46]) d2 (by simp only[List.length_append,List.length_cons,List.length_nil];omega)
 have c33:=bN (.tmp 32) (.const (.string ⟨#[46]⟩)) (d0++[46]++d1++[46]++d2) [46] (by simp only[List.length_append,List.length_cons,List.length_nil];omega)
 have c39:=bN (.tmp 33) (.tmp 38) (d0++[46]++d1++[46]++d2++[46]) d3 (by simp only[List.length_append,List.length_cons,List.length_nil];omega)
 have e:d0++[46]++d1++[46]++d2++[46]++d3=fD n:=by
  unfold fD
  rw[←h0,←h1,←h2,←h3]
  simp[ao]
 have z0:Value.tuple #[.string ⟨(d0++[46]++d1++[46]++d2++[46]++d3).toArray⟩,.int .i64 0]=.tuple #[.string ⟨(fD n).toArray⟩,.int .i64 0]:=by rw[e]
 refine Sx.aG (args:=[.agg (cx false n).toArray]) [(9,.call (.int .i64 0)),(17,.is (.int .i64 ((ah n 0:Nat):Int))),(18,.call (.string ⟨d0.toArray⟩)),(19,.bin (.string ⟨(d0++[46]).toArray⟩)),(23,.is (.int .i64 ((ah n 1:Nat):Int))),(24,.call (.string ⟨d1.toArray⟩)),(25,.bin (.string ⟨(d0++[46]++d1).toArray⟩)),(26,.bin (.string ⟨(d0++[46]++d1++[46]).toArray⟩)),(30,.is (.int .i64 ((ah n 2:Nat):Int))),(31,.call (.string ⟨d2.toArray⟩)),(32,.bin (.string ⟨(d0++[46]++d1++[46]++d2).toArray⟩)),(33,.bin (.string ⟨(d0++[46]++d1++[46]++d2++[46]).toArray⟩)),(37,.is (.int .i64 ((ah n 3:Nat):Int))),(38,.call (.string ⟨d3.toArray⟩)),(39,.bin (.string ⟨(d0++[46]++d1++[46]++d2++[46]++d3).toArray⟩))] [] (by kernel_rfl) Tryz.func47 rfl (Nat.le_of_ble_eq_true rfl) ?_
 exact Eq.mp (by kernel_rfl) (Sx.t8 c9 c17 c18 c19 c23 c24 c25 c26 (Sx.t4 c30 c31 c32 c33 (Sx.t2 c37 c38 (And.intro c39 z0))))
def p5(n a k i:Nat):List UInt8:=(List.range i).flatMap fun j=>dM a k j (ak 16 (dO n j))
theorem uC(n a k i:Nat):p5 n a k (i+1)=p5 n a k i++dM a k i (ak 16 (dO n i)):=by
 unfold p5;rw[List.range_succ,List.flatMap_append];simp
theorem Mq(n a k:Nat):p5 n a k 8=cO a k (aM n) 0:=by
 unfold p5 aM
 simp[cO,List.range,List.range.loop]
theorem Im(n a k i:Nat):(dM a k i (ak 16 (dO n i))).length≤7:=by
 have:=gN (wI n i)
 unfold dM
 simp only[List.length_append]
 split<;>split<;>(try split)<;>simp<;>omega
theorem yc(n a k:Nat):∀i,(p5 n a k i).length≤7*i
 | 0=>by simp[p5]
 |i+1=>by
  have h1:=yc n a k i
  have h2:=Im n a k i
  rw[uC,List.length_append];omega
def nT(n a k i:Nat):List (Nat×Sx.SV):=[(1,.ptr 0 0),(4,.val (.int .i64 (a:Int))),(5,.val (.int .i64 (k:Int))),(6,.val (.string ⟨(p5 n a k i).toArray⟩)),(7,.val (.int .i64 (i:Int)))]
def IS(a k i:Nat)(s:List UInt8):List (Nat×Sx.SV):=[(1,.ptr 0 0),(4,.val (.int .i64 (a:Int))),(5,.val (.int .i64 (k:Int))),(6,.val (.string ⟨s.toArray⟩)),(7,.val (.int .i64 (i:Int)))]
def Fk(n a k:Nat):List (Nat×Sx.SV):=[(6,.val (.string ⟨(p5 n a k 8).toArray⟩))]
def P0(n a k:Nat):Sx.Loop:=.mk Nat 0 (fun i=>i≤8) (nT n a k) (fun _=>aX true n) (fun i=>i+1) (fun i=>8 - i) Unit (fun _=>True) (fun _=>Fk n a k) (fun _=>aX true n) (fun _=>())
theorem kD{n a k i:Nat}{s:List UInt8}(h:s=p5 n a k i):IS a k i s=nT n a k i:=by rw[h];rfl
section
variable{n a k:Nat}{w:World}{Kr:Sx.St→Prop}
theorem Fi(ha:a≤8)(hk:k≤8)(i:Nat)(hi:i≤8):∃H' L',Sx.ex Tryz.prog 95 w (Sx.bB Tryz.f47 0) H' L' ⟨nT n a k i,aX true n⟩ (Sx.ek (fun i=>i≤8) (nT n a k) (fun _=>aX true n) (fun i=>i+1) (fun i=>8 - i) (fun _=>True) (fun _=>Fk n a k) (fun _=>aX true n) (fun _=>()) 0 Kr i):=by
 by_cases h8:i < 8
 ·have c46:Value.bool (decide ((i:Int) < 8))=.bool true:=bz (decide_eq_true (by omega))
  have c48:Value.int .i64 (IntKind.i64.wrap ((i:Int)+1))=.int .i64 ((i+1:Nat):Int):=iw (by rw[gE (by omega) (by omega)];rfl)
  have c91:=fun W (_:ag [] w W)=>yl true n i h8 W
  have c92:=fun W (_:ag [] w W)=>pY 16 (.inr rfl) (dO n i) (by have:=wI n i;omega) W
  have ld:=gN (wI n i)
  have lp:=yc n a k i
  have hs:=uC n a k i
  obtain⟨d,hd⟩:∃d,d=ak 16 (dO n i):=⟨_,rfl⟩
  obtain⟨s,hsd⟩:∃s,s=p5 n a k i:=⟨_,rfl⟩
  have hfr:nT n a k i=IS a k i s:=(kD hsd).symm
  rw[←hd]at c92 ld hs
  rw[←hsd]at lp hs
  rw[hfr]
  have nx:i+1≤8:=h8
  have mu:8 - (i+1) < 8 - i:=by omega
  have zm:aX true n=aX true n:=rfl
  have c69:Value.int .i64 (IntKind.i64.wrap ((a:Int)+(k:Int)))=.int .i64 ((a+k:Nat):Int):=iw (by rw[gE (by omega) (by omega)];rfl)
  have c81:=c69
  by_cases hL:1 < k
  ·by_cases hia:i=a
   ·have c50:Value.bool (decide ((k:Int) > 1))=.bool true:=bz (decide_eq_true (by omega))
    have c59:Value.bool (decide ((k:Int) > 1))=.bool true:=bz (decide_eq_true (by omega))
    have c54:Value.bool ((i:Int)==(a:Int))=.bool true:=bz (beq_iff_eq.2 (by omega))
    have c57:=bN (.tmp 56) (.const (.string ⟨#[58,58]⟩)) s [58,58] (by simp only[List.length_cons,List.length_nil];omega)
    have c63:Value.bool (decide ((i:Int)≥(a:Int)))=.bool true:=bz (decide_eq_true (by omega))
    have c70:Value.bool (decide ((i:Int) < ((a+k:Nat):Int)))=.bool true:=bz (decide_eq_true (by omega))
    have h2:IS a k (i+1) (s++[58,58])=nT n a k (i+1):=kD (by rw[hs];unfold dM;rw[if_pos (by omega),if_pos (by omega)];simp)
    have h0:=nx
    have h1:=mu
    have z3:=zm
    refine⟨[(46,.is (.bool true)),(48,.is (.int .i64 ((i+1:Nat):Int))),(50,.is (.bool true)),(59,.is (.bool true)),(54,.is (.bool true)),(57,.bin (.string ⟨(s++[58,58]).toArray⟩)),(63,.is (.bool true)),(69,.is (.int .i64 ((a+k:Nat):Int))),(70,.is (.bool true))],[],?_⟩
    exact Eq.mp (by kernel_rfl) (Sx.t8 c46 c50 c54 c57 c59 c63 c69 c70 (Sx.t4 c48 h0 h1 h2 z3))
   ·by_cases hge:a≤i
    ·by_cases hlt:i < a+k
     ·have c50:Value.bool (decide ((k:Int) > 1))=.bool true:=bz (decide_eq_true (by omega))
      have c59:Value.bool (decide ((k:Int) > 1))=.bool true:=bz (decide_eq_true (by omega))
      have c54:Value.bool ((i:Int)==(a:Int))=.bool false:=bz (beq_eq_false_iff_ne.2 (by omega))
      have c63:Value.bool (decide ((i:Int)≥(a:Int)))=.bool true:=bz (decide_eq_true (by omega))
      have c70:Value.bool (decide ((i:Int) < ((a+k:Nat):Int)))=.bool true:=bz (decide_eq_true (by omega))
      have h2:IS a k (i+1) s=nT n a k (i+1):=kD (by rw[hs];unfold dM;rw[if_neg (by omega),if_pos (by omega)];simp)
      have h0:=nx
      have h1:=mu
      have z3:=zm
      refine⟨[(46,.is (.bool true)),(48,.is (.int .i64 ((i+1:Nat):Int))),(50,.is (.bool true)),(59,.is (.bool true)),(54,.is (.bool false)),(63,.is (.bool true)),(69,.is (.int .i64 ((a+k:Nat):Int))),(70,.is (.bool true))],[],?_⟩
      exact Eq.mp (by kernel_rfl) (Sx.t8 c46 c50 c54 c59 c63 c69 c70 c48 (Sx.t2 h0 h1 (And.intro h2 z3)))
     ·by_cases hend:i=a+k
      ·have c50:Value.bool (decide ((k:Int) > 1))=.bool true:=bz (decide_eq_true (by omega))
       have c59:Value.bool (decide ((k:Int) > 1))=.bool true:=bz (decide_eq_true (by omega))
       have c54:Value.bool ((i:Int)==(a:Int))=.bool false:=bz (beq_eq_false_iff_ne.2 (by omega))
       have c63:Value.bool (decide ((i:Int)≥(a:Int)))=.bool true:=bz (decide_eq_true (by omega))
       have c70:Value.bool (decide ((i:Int) < ((a+k:Nat):Int)))=.bool false:=bz (decide_eq_false (by omega))
       have c73:Value.bool (decide ((i:Int) > 0))=.bool true:=bz (decide_eq_true (by omega))
       have c76:Value.bool (decide ((k:Int) > 1))=.bool true:=bz (decide_eq_true (by omega))
       have c82:Value.bool ((i:Int)==((a+k:Nat):Int))=.bool true:=bz (beq_iff_eq.2 (by omega))
       have c93:=bN (.tmp 88) (.tmp 92) s d (by omega)
       have h2:IS a k (i+1) (s++d)=nT n a k (i+1):=kD (by rw[hs];unfold dM;rw[if_neg (by omega),if_neg (by omega),if_neg (by omega)];simp)
       have h0:=nx
       have h1:=mu
       have z3:=zm
       refine⟨[(46,.is (.bool true)),(48,.is (.int .i64 ((i+1:Nat):Int))),(50,.is (.bool true)),(59,.is (.bool true)),(54,.is (.bool false)),(63,.is (.bool true)),(69,.is (.int .i64 ((a+k:Nat):Int))),(70,.is (.bool false)),(73,.is (.bool true)),(76,.is (.bool true)),(81,.is (.int .i64 ((a+k:Nat):Int))),(82,.is (.bool true)),(91,.call (.int .i64 (dO n i:Nat))),(92,.call (.string ⟨d.toArray⟩)),(93,.bin (.string ⟨(s++d).toArray⟩))],[],?_⟩
       exact Eq.mp (by kernel_rfl) (Sx.t8 c46 c50 c54 c59 c63 c69 c70 c73 (Sx.t8 c76 c81 c82 c91 c92 c93 c48 h0 (Sx.t2 h1 h2 z3)))
      ·have c50:Value.bool (decide ((k:Int) > 1))=.bool true:=bz (decide_eq_true (by omega))
       have c59:Value.bool (decide ((k:Int) > 1))=.bool true:=bz (decide_eq_true (by omega))
       have c54:Value.bool ((i:Int)==(a:Int))=.bool false:=bz (beq_eq_false_iff_ne.2 (by omega))
       have c63:Value.bool (decide ((i:Int)≥(a:Int)))=.bool true:=bz (decide_eq_true (by omega))
       have c70:Value.bool (decide ((i:Int) < ((a+k:Nat):Int)))=.bool false:=bz (decide_eq_false (by omega))
       have c73:Value.bool (decide ((i:Int) > 0))=.bool true:=bz (decide_eq_true (by omega))
       have c76:Value.bool (decide ((k:Int) > 1))=.bool true:=bz (decide_eq_true (by omega))
       have c82:Value.bool ((i:Int)==((a+k:Nat):Int))=.bool false:=bz (beq_eq_false_iff_ne.2 (by omega))
       have c87:=bN (.tmp 86) (.const (.string ⟨#[58]⟩)) s [58] (by simp only[List.length_cons,List.length_nil];omega)
       have c93:=bN (.tmp 88) (.tmp 92) (s++[58]) d (by simp only[List.length_append,List.length_cons,List.length_nil];omega)
       have h2:IS a k (i+1) ((s++[58])++d)=nT n a k (i+1):=kD (by rw[hs];unfold dM;rw[if_neg (by omega),if_neg (by omega),if_pos (by omega)];simp)
       have h0:=nx
       have h1:=mu
       have z3:=zm
       refine⟨[(46,.is (.bool true)),(48,.is (.int .i64 ((i+1:Nat):Int))),(50,.is (.bool true)),(59,.is (.bool true)),(54,.is (.bool false)),(63,.is (.bool true)),(69,.is (.int .i64 ((a+k:Nat):Int))),(70,.is (.bool false)),(73,.is (.bool true)),(76,.is (.bool true)),(81,.is (.int .i64 ((a+k:Nat):Int))),(82,.is (.bool false)),(87,.bin (.string ⟨(s++[58]).toArray⟩)),(91,.call (.int .i64 (dO n i:Nat))),(92,.call (.string ⟨d.toArray⟩)),(93,.bin (.string ⟨((s++[58])++d).toArray⟩))],[],?_⟩
       exact Eq.mp (by kernel_rfl) (Sx.t8 c46 c50 c54 c59 c63 c69 c70 c73 (Sx.t8 c76 c81 c82 c87 c91 c92 c93 c48 (Sx.t2 h0 h1 (And.intro h2 z3))))
    ·by_cases hp:0 < i
     ·have c50:Value.bool (decide ((k:Int) > 1))=.bool true:=bz (decide_eq_true (by omega))
      have c59:Value.bool (decide ((k:Int) > 1))=.bool true:=bz (decide_eq_true (by omega))
      have c54:Value.bool ((i:Int)==(a:Int))=.bool false:=bz (beq_eq_false_iff_ne.2 (by omega))
      have c63:Value.bool (decide ((i:Int)≥(a:Int)))=.bool false:=bz (decide_eq_false (by omega))
      have c73:Value.bool (decide ((i:Int) > 0))=.bool true:=bz (decide_eq_true (by omega))
      have c76:Value.bool (decide ((k:Int) > 1))=.bool true:=bz (decide_eq_true (by omega))
      have c82:Value.bool ((i:Int)==((a+k:Nat):Int))=.bool false:=bz (beq_eq_false_iff_ne.2 (by omega))
      have c87:=bN (.tmp 86) (.const (.string ⟨#[58]⟩)) s [58] (by simp only[List.length_cons,List.length_nil];omega)
      have c93:=bN (.tmp 88) (.tmp 92) (s++[58]) d (by simp only[List.length_append,List.length_cons,List.length_nil];omega)
      have h2:IS a k (i+1) ((s++[58])++d)=nT n a k (i+1):=kD (by rw[hs];unfold dM;rw[if_neg (by omega),if_neg (by omega),if_pos (by omega)];simp)
      have h0:=nx
      have h1:=mu
      have z3:=zm
      refine⟨[(46,.is (.bool true)),(48,.is (.int .i64 ((i+1:Nat):Int))),(50,.is (.bool true)),(59,.is (.bool true)),(54,.is (.bool false)),(63,.is (.bool false)),(73,.is (.bool true)),(76,.is (.bool true)),(81,.is (.int .i64 ((a+k:Nat):Int))),(82,.is (.bool false)),(87,.bin (.string ⟨(s++[58]).toArray⟩)),(91,.call (.int .i64 (dO n i:Nat))),(92,.call (.string ⟨d.toArray⟩)),(93,.bin (.string ⟨((s++[58])++d).toArray⟩))],[],?_⟩
      exact Eq.mp (by kernel_rfl) (Sx.t8 c46 c50 c54 c59 c63 c73 c76 c81 (Sx.t8 c82 c87 c91 c92 c93 c48 h0 h1 (And.intro h2 z3)))
     ·have c50:Value.bool (decide ((k:Int) > 1))=.bool true:=bz (decide_eq_true (by omega))
      have c59:Value.bool (decide ((k:Int) > 1))=.bool true:=bz (decide_eq_true (by omega))
      have c54:Value.bool ((i:Int)==(a:Int))=.bool false:=bz (beq_eq_false_iff_ne.2 (by omega))
      have c63:Value.bool (decide ((i:Int)≥(a:Int)))=.bool false:=bz (decide_eq_false (by omega))
      have c73:Value.bool (decide ((i:Int) > 0))=.bool false:=bz (decide_eq_false (by omega))
      have c93:=bN (.tmp 88) (.tmp 92) s d (by omega)
      have h2:IS a k (i+1) (s++d)=nT n a k (i+1):=kD (by rw[hs];unfold dM;rw[if_neg (by omega),if_neg (by omega),if_neg (by omega)];simp)
      have h0:=nx
      have h1:=mu
      have z3:=zm
      refine⟨[(46,.is (.bool true)),(48,.is (.int .i64 ((i+1:Nat):Int))),(50,.is (.bool true)),(59,.is (.bool true)),(54,.is (.bool false)),(63,.is (.bool false)),(73,.is (.bool false)),(91,.call (.int .i64 (dO n i:Nat))),(92,.call (.string ⟨d.toArray⟩)),(93,.bin (.string ⟨(s++d).toArray⟩))],[],?_⟩
      exact Eq.mp (by kernel_rfl) (Sx.t8 c46 c50 c54 c59 c63 c73 c91 c92 (Sx.t4 c93 c48 h0 h1 (And.intro h2 z3)))
  ·by_cases hp:0 < i
   ·have c50:Value.bool (decide ((k:Int) > 1))=.bool false:=bz (decide_eq_false (by omega))
    have c59:Value.bool (decide ((k:Int) > 1))=.bool false:=bz (decide_eq_false (by omega))
    have c73:Value.bool (decide ((i:Int) > 0))=.bool true:=bz (decide_eq_true (by omega))
    have c76:Value.bool (decide ((k:Int) > 1))=.bool false:=bz (decide_eq_false (by omega))
    have c87:=bN (.tmp 86) (.const (.string ⟨#[58]⟩)) s [58] (by simp only[List.length_cons,List.length_nil];omega)
    have c93:=bN (.tmp 88) (.tmp 92) (s++[58]) d (by simp only[List.length_append,List.length_cons,List.length_nil];omega)
    have h2:IS a k (i+1) ((s++[58])++d)=nT n a k (i+1):=kD (by rw[hs];unfold dM;rw[if_neg (by omega),if_neg (by omega),if_pos (by omega)];simp)
    have h0:=nx
    have h1:=mu
    have z3:=zm
    refine⟨[(46,.is (.bool true)),(48,.is (.int .i64 ((i+1:Nat):Int))),(50,.is (.bool false)),(59,.is (.bool false)),(73,.is (.bool true)),(76,.is (.bool false)),(87,.bin (.string ⟨(s++[58]).toArray⟩)),(91,.call (.int .i64 (dO n i:Nat))),(92,.call (.string ⟨d.toArray⟩)),(93,.bin (.string ⟨((s++[58])++d).toArray⟩))],[],?_⟩
    exact Eq.mp (by kernel_rfl) (Sx.t8 c46 c50 c59 c73 c76 c87 c91 c92 (Sx.t4 c93 c48 h0 h1 (And.intro h2 z3)))
   ·have c50:Value.bool (decide ((k:Int) > 1))=.bool false:=bz (decide_eq_false (by omega))
    have c59:Value.bool (decide ((k:Int) > 1))=.bool false:=bz (decide_eq_false (by omega))
    have c73:Value.bool (decide ((i:Int) > 0))=.bool false:=bz (decide_eq_false (by omega))
    have c93:=bN (.tmp 88) (.tmp 92) s d (by omega)
    have h2:IS a k (i+1) (s++d)=nT n a k (i+1):=kD (by rw[hs];unfold dM;rw[if_neg (by omega),if_neg (by omega),if_neg (by omega)];simp)
    have h0:=nx
    have h1:=mu
    have z3:=zm
    refine⟨[(46,.is (.bool true)),(48,.is (.int .i64 ((i+1:Nat):Int))),(50,.is (.bool false)),(59,.is (.bool false)),(73,.is (.bool false)),(91,.call (.int .i64 (dO n i:Nat))),(92,.call (.string ⟨d.toArray⟩)),(93,.bin (.string ⟨(s++d).toArray⟩))],[],?_⟩
    exact Eq.mp (by kernel_rfl) (Sx.t8 c46 c50 c59 c73 c91 c92 c93 c48 (Sx.t2 h0 h1 (And.intro h2 z3)))
 ·have c46:Value.bool (decide ((i:Int) < 8))=.bool false:=bz (decide_eq_false (by omega))
  have h0:True:=trivial
  have h1:[(6,Sx.SV.val (.string ⟨(p5 n a k i).toArray⟩))]=Fk n a k:=by rw[show i=8 by omega];rfl
  have z2:aX true n=aX true n:=rfl
  refine⟨[(46,.is (.bool false))],[],?_⟩
  exact Eq.mp (by kernel_rfl) (Sx.t2 c46 h0 (And.intro h1 z2))
end
theorem JE{n:Nat}(hn:n < 2^128)(h:iG true n=true)(w:World):Calls Tryz.prog 47 #[.agg (cx true n).toArray] w fun e w'=>e=.returned (.tuple #[.string ⟨(cH (aM n)).toArray⟩,.int .i64 0])∧ag [] w w':=by
 have c9:=fun W (_:ag [] w W)=>gf true n hn W
 rw[show eu true n=0 by unfold eu;rw[h];rfl]at c9
 have c42:=fun W (_:ag [] w W)=>NN true n W
 have hb:=wK (dO n 0==0) (dO n 1==0) (dO n 2==0) (dO n 3==0) (dO n 4==0) (dO n 5==0) (dO n 6==0) (dO n 7==0)
 have ht:=An n
 have hz:zs (aM n)=[dO n 0==0,dO n 1==0,dO n 2==0,dO n 3==0,dO n 4==0,dO n 5==0,dO n 6==0,dO n 7==0]:=rfl
 rw[←hz]at hb
 obtain⟨a,ha⟩:∃a,a=(iz (zs (aM n))).1:=⟨_,rfl⟩
 obtain⟨k,hk⟩:∃k,k=(iz (zs (aM n))).2:=⟨_,rfl⟩
 have hak:=hb.2.1
 rw[←ha,←hk]at hak c42 ht
 have z5:Value.tuple #[.string ⟨(p5 n a k 8).toArray⟩,.int .i64 0]=.tuple #[.string ⟨(cH (aM n)).toArray⟩,.int .i64 0]:=by rw[Mq,ht]
 refine Sx.aG (args:=[.agg (cx true n).toArray]) [(9,.call (.int .i64 0)),(42,.call (.tuple #[.int .i64 (a:Int),.int .i64 (k:Int)]))] [P0 n a k] (by kernel_rfl) Tryz.func47 rfl (Nat.le_of_ble_eq_true rfl) ?_
 have h0:0≤8:=by omega
 have e1:nT n a k 0=nT n a k 0∧aX true n=aX true n:=⟨rfl,rfl⟩
 have jA:=fun(i:Nat) (hi:i≤8)=>Fi (n:=n) (a:=a) (k:=k) (w:=w) (Kr:=Sx.atEnd Tryz.prog Tryz.f47 (fun u=>u=.tuple #[.string ⟨(cH (aM n)).toArray⟩,.int .i64 0]) .ret) (by omega) (by omega) i hi
 exact Eq.mp (by kernel_rfl) (Sx.t4 c9 c42 h0 e1 (And.intro jA (fun(x:Unit) (hx4:True)=>z5)))
theorem yb(v:Bool)(n:Nat)(hn:n < 2^128)(w:World):Calls Tryz.prog 47 #[.agg (cx v n).toArray] w fun e w'=>e=.returned (.tuple #[.string ⟨(lH v n).toArray⟩,.int .i64 (eu v n)])∧ag [] w w':=by
 cases h:iG v n with
 |false=>
  rw[show lH v n=[] by unfold lH;rw[h];rfl,show eu v n=150 by unfold eu;rw[h];rfl]
  exact DJ hn h w
 |true=>
  rw[show lH v n=fC v n by unfold lH;rw[if_pos h],show eu v n=0 by unfold eu;rw[if_pos h]]
  cases v with
  |false=>exact JF hn h w
  |true=>exact JE hn h w
theorem FI{v:Bool}{n K:Nat}(hn:n < 2^128)(h:fA v n K=true)(w:World):Calls Tryz.prog 52 #[.agg (cV v n K).toArray] w fun e w'=>e=.returned (.tuple #[.string ⟨(ly v n K).toArray⟩,.int .i64 0])∧ag [] w w':=by
 have hb:=lZ h
 have c7:=fun W (_:ag [] w W)=>ya v n K hn W
 rw[show df v n K=0 by unfold df;rw[if_pos h]]at c7
 have c12:=fun W (_:ag [] w W)=>yb v n hn W
 have hA:=o7 h
 rw[show lH v n=fC v n by unfold lH;rw[if_pos hA],show eu v n=0 by unfold eu;rw[if_pos hA]]at c12
 have hl:=pT v n
 have h4:=gO (u:=K) (by omega)
 have gB:=bN (.tmp 15) (.const (.string ⟨#[47]⟩)) (fC v n) [47] (by simp only[List.length_cons,List.length_nil];omega)
 have c19:=fun W (_:ag [] w W)=>pY 10 (.inl rfl) K (by omega) W
 have c20:=bN (.tmp 16) (.tmp 19) (fC v n++[47]) (ak 10 K) (by simp only[List.length_append,List.length_cons,List.length_nil];omega)
 have z0:Value.tuple #[.string ⟨(fC v n++[47]++ak 10 K).toArray⟩,.int .i64 0]=.tuple #[.string ⟨(ly v n K).toArray⟩,.int .i64 0]:=by unfold ly;rw[Int.toNat_natCast];simp
 refine Sx.aG (args:=[.agg (cV v n K).toArray]) [(7,.call (.int .i64 0)),(12,.call (.tuple #[.string ⟨(fC v n).toArray⟩,.int .i64 0])),(16,.bin (.string ⟨(fC v n++[47]).toArray⟩)),(19,.call (.string ⟨(ak 10 K).toArray⟩)),(20,.bin (.string ⟨(fC v n++[47]++ak 10 K).toArray⟩))] [] (by kernel_rfl) Tryz.func52 rfl (Nat.le_of_ble_eq_true rfl) ?_
 exact Eq.mp (by kernel_rfl) (Sx.t4 c7 c12 gB c19 (And.intro c20 z0))
theorem Dy{v:Bool}{n:Nat}{k:Int}(hn:n < 2^128)(h:fA v n k=false)(w:World):Calls Tryz.prog 52 #[.agg (cV v n k).toArray] w fun e w'=>e=.returned (.tuple #[.string ⟨#[]⟩,.int .i64 151])∧ag [] w w':=by
 have c7:=fun W (_:ag [] w W)=>ya v n k hn W
 rw[show df v n k=151 by unfold df;rw[h];rfl]at c7
 have z0:Value.tuple #[.string ⟨#[]⟩,.int .i64 151]=.tuple #[.string ⟨#[]⟩,.int .i64 151]:=rfl
 refine Sx.aG (args:=[.agg (cV v n k).toArray]) [(7,.call (.int .i64 151))] [] (by kernel_rfl) Tryz.func52 rfl (Nat.le_of_ble_eq_true rfl) ?_
 exact Eq.mp (by kernel_rfl) (And.intro c7 z0)
theorem Ca(v:Bool)(n:Nat)(k:Int)(hn:n < 2^128)(w:World):Calls Tryz.prog 52 #[.agg (cV v n k).toArray] w fun e w'=>e=.returned (.tuple #[.string ⟨(nY v n k).toArray⟩,.int .i64 (df v n k)])∧ag [] w w':=by
 cases h:fA v n k with
 |false=>
  rw[show nY v n k=[] by unfold nY;rw[h];rfl,show df v n k=151 by unfold df;rw[h];rfl]
  exact Dy hn h w
 |true=>
  rw[show nY v n k=ly v n k by unfold nY;rw[if_pos h],show df v n k=0 by unfold df;rw[if_pos h]]
  obtain⟨k0,_⟩:=lZ h
  obtain⟨K,rfl⟩:=Int.eq_ofNat_of_zero_le k0
  exact FI hn h w
end Go.Proofs.YtnncigmpcdehnaaGreatDoor
