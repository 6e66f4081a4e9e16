import Derived.Test.YtnncigmpcdehnaaGreatDoorQf12
namespace Go.Proofs.YtnncigmpcdehnaaGreatDoor
set_option maxRecDepth 100000
open Go.RowKit Go.Lib Go.Sort _root_.Go.Proofs.Tryz
set_option maxRecDepth 100000
theorem wL(s:ByteArray)(lo hi:Nat)(h:lo≤hi)(h2:hi≤s.size)(W:World):(Instr.sliceAt 9 (.string s) (some (.int .i64 lo)) (some (.int .i64 hi)) none).run prog W=.ok (.string (s.extract lo hi)) W:=by
 simp[Instr.sliceAt,run_underlying underlying9,Instr.slice,Instr.sliceBounds,Instr.sliceBound,asIntOf,h,h2]
def ON:ByteArray:=⟨#[48,49,50,51,52,53,54,55,56,57,97,98,99,100,101,102]⟩
theorem Ml:∀d:Fin 16,ON.extract d.val (d.val+1)=⟨#[sig d.val]⟩:=by decide+kernel
theorem Iu(d:Nat)(hd:d < 16)(W:World):(Instr.sliceAt 9 (.string ⟨#[48,49,50,51,52,53,54,55,56,57,97,98,99,100,101,102]⟩) (some (.int .i64 (d:Int))) (some (.int .i64 ((d+1:Nat):Int))) none).run prog W=.ok (.string ⟨#[sig d]⟩) W:=by
 have h:=wL ON d (d+1) (by omega) (by show d+1≤16;omega) W
 rw[Ml ⟨d,hd⟩]at h
 exact h
theorem bq(x y:Operand)(a b:List UInt8)(h:a.length+b.length≤9000000000000000000)(W:World):(do eqGuard .add 9 x y (.string ⟨a.toArray⟩) (.string ⟨b.toArray⟩);binOp .add 9 (.string ⟨a.toArray⟩) (.string ⟨b.toArray⟩):Sem Value).run prog W=.ok (.string ⟨(a++b).toArray⟩) W:=by
 have e:¬(((⟨a.toArray⟩:ByteArray).size+(⟨b.toArray⟩:ByteArray).size:Nat):Int) > IntKind.i64.max:=by
  have:IntKind.i64.max=9223372036854775807:=by decide
  rw[this]
  simp[ByteArray.size]
  omega
 show(Op.stringOp .add (⟨a.toArray⟩) (⟨b.toArray⟩)).run prog W=_
 unfold Op.stringOp
 simp only[if_neg e]
 show Result.ok (Value.string (⟨a.toArray⟩++⟨b.toArray⟩)) W=_
 congr 2
theorem Kv{b:Nat}(hb:2≤b):∀(n:Nat),(aj b n).length≤n+1:=by
 intro n
 induction n using Nat.strongRecOn with
 |_ n ih=>
  by_cases h:n < b
  ·rw[aW h];simp
  ·rw[dE hb h]
   have h1:=ih (n / b) (Nat.div_lt_self (by omega) (by omega))
   have h2:n / b≤n / 2:=Nat.div_le_div_left hb (by omega)
   simp only[List.length_append,List.length_cons,List.length_nil]
   omega
theorem iw{a b:Int}(h:a=b):Value.int .i64 a=.int .i64 b:=by rw[h]
theorem sV{a:Int}(h0 : -9223372036854775808≤a)(h1:a≤9223372036854775807):IntKind.i64.wrap a=a:=IntWalk.i64_in _ ⟨h0,h1⟩
theorem re(b:Nat)(hb:b=10∨b=16):∀(n:Nat),n≤4000000000000000000→∀w,Calls prog 102 #[.int .i64 (n:Int),.int .i64 (b:Int)] w (Rn w (.string ⟨(aj b n).toArray⟩)):=by
 intro n
 induction n using Nat.strongRecOn with
 |_ n ih=>
  intro hn w
  by_cases h:n < b
  ·have c7:Value.bool (decide ((n:Int) < (b:Int)))=.bool true:=by rw[decide_eq_true (by omega)]
   have c10:=my (i:=n) (by omega)
   have oA:=Iu n (by omega)
   have z0:Value.string ⟨#[sig n]⟩=.string ⟨(aj b n).toArray⟩:=by rw[aW h]
   refine Sx.aF (args:=[.int .i64 (n:Int),.int .i64 (b:Int)]) [(7,.is (.bool true)),(10,.is (.int .i64 ((n+1:Nat):Int))),(11,.bin (.string ⟨#[sig n]⟩))] [] (by kernel_rfl) func102 rfl (cn rfl) ?_
   exact Eq.mp (by kernel_rfl) (Sx.t2 c7 c10 (And.intro oA z0))
  ·have c7:Value.bool (decide ((n:Int) < (b:Int)))=.bool false:=by rw[decide_eq_false (by omega)]
   have hq:n / b≤n / 2:=Nat.div_le_div_left (by omega) (by omega)
   have hm:n%b < b:=Nat.mod_lt _ (by omega)
   have ir:=fun W (_:ai [] w W)=>ih (n / b) (Nat.div_lt_self (by omega) (by omega)) (by omega) W
   have c24:=Iu (n%b) (by omega)
   have c23:Value.int .i64 (IntKind.i64.wrap (((n%b:Nat):Int)+1))=.int .i64 ((n%b+1:Nat):Int):=iw (by rw[sV (by omega) (by omega)];rfl)
   have hl:=Kv (b:=b) (by omega) (n / b)
   have c25:=bq (.tmp 16) (.tmp 24) (aj b (n / b)) [sig (n%b)] (by simp only[List.length_cons,List.length_nil]; omega)
   have z0:Value.string ⟨(aj b (n / b)++[sig (n%b)]).toArray⟩=.string ⟨(aj b n).toArray⟩:=by rw[dE (by omega) h]
   have ed:((n:Int).tdiv (b:Int))=((n / b:Nat):Int):=by rw[Int.tdiv_eq_ediv_of_nonneg (by omega)]; rfl
   have em:((n:Int).tmod (b:Int))=((n%b:Nat):Int):=by rw[Int.tmod_eq_emod_of_nonneg (by omega)];rfl
   rcases hb with rfl|rfl
   ·have c14:Value.int .i64 (IntKind.i64.wrap ((n:Int).tdiv 10))=.int .i64 ((n / 10:Nat):Int):=iw (by rw[show((10:Int))=((10:Nat):Int)from rfl,ed,sV (by omega) (by omega)])
    have c19:Value.int .i64 ((n:Int).tmod 10)=.int .i64 ((n%10:Nat):Int):=iw em
    have c22:=c19
    refine Sx.aF (args:=[.int .i64 (n:Int),.int .i64 ((10:Nat):Int)]) [(7,.is (.bool false)),(14,.is (.int .i64 ((n / 10:Nat):Int))),(16,.call (.string ⟨(aj 10 (n / 10)).toArray⟩)),(19,.is (.int .i64 ((n%10:Nat):Int))),(22,.is (.int .i64 ((n%10:Nat):Int))),(23,.is (.int .i64 ((n%10+1:Nat):Int))),(24,.bin (.string ⟨#[sig (n%10)]⟩)),(25,.bin (.string ⟨(aj 10 (n / 10)++[sig (n%10)]).toArray⟩))] [] (by kernel_rfl) func102 rfl (cn rfl) ?_
    exact Eq.mp (by kernel_rfl) (Sx.t8 c7 c14 ir c19 c22 c23 c24 c25 z0)
   ·have c14:Value.int .i64 (IntKind.i64.wrap ((n:Int).tdiv 16))=.int .i64 ((n / 16:Nat):Int):=iw (by rw[show((16:Int))=((16:Nat):Int)from rfl,ed,sV (by omega) (by omega)])
    have c19:Value.int .i64 ((n:Int).tmod 16)=.int .i64 ((n%16:Nat):Int):=iw em
    have c22:=c19
    refine Sx.aF (args:=[.int .i64 (n:Int),.int .i64 ((16:Nat):Int)]) [(7,.is (.bool false)),(14,.is (.int .i64 ((n / 16:Nat):Int))),(16,.call (.string ⟨(aj 16 (n / 16)).toArray⟩)),(19,.is (.int .i64 ((n%16:Nat):Int))),(22,.is (.int .i64 ((n%16:Nat):Int))),(23,.is (.int .i64 ((n%16+1:Nat):Int))),(24,.bin (.string ⟨#[sig (n%16)]⟩)),(25,.bin (.string ⟨(aj 16 (n / 16)++[sig (n%16)]).toArray⟩))] [] (by kernel_rfl) func102 rfl (cn rfl) ?_
    exact Eq.mp (by kernel_rfl) (Sx.t8 c7 c14 ir c19 c22 c23 c24 c25 z0)
theorem zh(v:Bool)(n j:Nat)(hj:j < 16):(cH v n)[1+j]?=some (.int .u8 (ah n j:Int)):=cB v (ah n) j hj
theorem KQ(n j:Nat):(0:Int)≤(ah n j:Int)∧(ah n j:Int)≤255:=by have:=a7 n j;omega
theorem Ar(v:Bool)(n i:Nat)(hi:i < 8)(w:World):Calls prog 104 #[.agg (cH v n).toArray,.int .i64 (i:Int)] w (Rn w (.int .i64 (eu n i:Nat))):=by
 obtain⟨a0,a1⟩:=KQ n (2*i)
 obtain⟨b0,b1⟩:=KQ n (2*i+1)
 have c6:Value.int .i64 (IntKind.i64.wrap (2*(i:Int)))=.int .i64 ((2*i:Nat):Int):=iw (by rw[sV (by omega) (by omega)];rfl)
 have c8:(0:Int)≤((2*i:Nat):Int)∧((2*i:Nat):Int) < ((16:Nat):Int):=by omega
 have c9:(cH v n)[1+((2*i:Nat):Int).toNat*1]?=some (.int .u8 (ah n (2*i):Int)):=by rw[Int.toNat_natCast,Nat.mul_one];exact zh v n _ (by omega)
 have c10:Value.int .i64 (IntKind.i64.wrap (ah n (2*i):Int))=.int .i64 (ah n (2*i):Int):=iw (sV (by omega) (by omega))
 have oA:Value.int .i64 (IntKind.i64.wrap ((ah n (2*i):Int)*256))=.int .i64 ((ah n (2*i):Int)*256):=iw (sV (by omega) (by omega))
 have c13:=c6
 have c14:Value.int .i64 (IntKind.i64.wrap (((2*i:Nat):Int)+1))=.int .i64 ((2*i+1:Nat):Int):=iw (by rw[sV (by omega) (by omega)];rfl)
 have ir:(0:Int)≤((2*i+1:Nat):Int)∧((2*i+1:Nat):Int) < ((16:Nat):Int):=by omega
 have c17:(cH v n)[1+((2*i+1:Nat):Int).toNat*1]?=some (.int .u8 (ah n (2*i+1):Int)):=by rw[Int.toNat_natCast,Nat.mul_one];exact zh v n _ (by omega)
 have c18:Value.int .i64 (IntKind.i64.wrap (ah n (2*i+1):Int))=.int .i64 (ah n (2*i+1):Int):=iw (sV (by omega) (by omega))
 have c19:Value.int .i64 (IntKind.i64.wrap ((ah n (2*i):Int)*256+(ah n (2*i+1):Int)))=.int .i64 (eu n i:Nat):=iw (by rw[sV (by omega) (by omega)];unfold eu;omega)
 have z0:Value.int .i64 (eu n i:Nat)=.int .i64 (eu n i:Nat):=rfl
 refine Sx.aF (args:=[.agg (cH v n).toArray,.int .i64 (i:Int)]) [(6,.is (.int .i64 ((2*i:Nat):Int))),(8,.ix),(9,.ld (.int .u8 (ah n (2*i):Int))),(10,.is (.int .i64 (ah n (2*i):Int))),(11,.is (.int .i64 ((ah n (2*i):Int)*256))),(13,.is (.int .i64 ((2*i:Nat):Int))),(14,.is (.int .i64 ((2*i+1:Nat):Int))),(16,.ix),(17,.ld (.int .u8 (ah n (2*i+1):Int))),(18,.is (.int .i64 (ah n (2*i+1):Int))),(19,.is (.int .i64 (eu n i:Nat)))] [] (by kernel_rfl) func104 rfl (cn rfl) ?_
 exact Eq.mp (by kernel_rfl) (Sx.t8 c6 c8 c9 c10 oA c13 c14 ir (Sx.t2 c17 c18 (And.intro c19 z0)))
def gq(n i:Nat):Nat:=ie ((zs (aL n)).drop i)
theorem yg(n i:Nat)(hi:i≤8):i+gq n i≤8:=by
 have:=ye ((zs (aL n)).drop i)
 have e:((zs (aL n)).drop i).length=8 - i:=by simp[zs,aL]
 unfold gq;omega
theorem Hw(n j:Nat)(hj:j < 8):(zs (aL n))[j]?=some (eu n j==0):=by
 match j,hj with
 | 0,_=>rfl
 | 1,_=>rfl
 | 2,_=>rfl
 | 3,_=>rfl
 | 4,_=>rfl
 | 5,_=>rfl
 | 6,_=>rfl
 | 7,_=>rfl
theorem Em:∀(l:List Bool) (m:Nat),m < ie l→l[m]?=some true
 |true::l,0,_=>rfl
 |true::l,m+1,h=>by simpa using Em l m (by simpa[ie]using h)
 |false::l,m,h=>by simp[ie]at h
 | [],m,h=>by simp[ie]at h
theorem zX:∀(l:List Bool),ie l < l.length→l[ie l]?=some false
 |true::l,h=>by simpa[ie]using zX l (by simpa[ie]using h)
 |false::l,_=>rfl
 | [],h=>by simp at h
theorem PD{n i m:Nat}(h:m < gq n i)(h8:i+m < 8):eu n (i+m)=0:=by
 have:=Em _ m h
 rw[List.getElem?_drop,Hw n (i+m) h8]at this
 simpa using this
theorem Mz{n i:Nat}(h8:i+gq n i < 8):eu n (i+gq n i)≠0:=by
 have:=zX ((zs (aL n)).drop i) (by simp[zs,aL];exact Nat.lt_sub_of_add_lt (by rw[Nat.add_comm];exact h8))
 rw[List.getElem?_drop,show i+ie ((zs (aL n)).drop i)=i+gq n i from rfl,Hw n _ h8]at this
 simpa using this
structure sS where
 i:Nat
 a:Nat
 l:Nat
structure Ce(n:Nat)(k:sS):Prop where
 i8:k.i≤8
 a8:k.a≤8
 l8:k.l≤8
 rest:F3 (zs (aL n)) (8 - k.i) k.i k.a k.l=jf (zs (aL n))
def kg(n:Nat)(k:sS):sS:=⟨k.i+1,if gq n k.i > k.l then k.i else k.a,if gq n k.i > k.l then gq n k.i else k.l⟩
def oK(k:sS):List (Nat×Sx.SV):=[(1,.ptr 0 0),(4,.val (.int .i64 (k.a:Int))),(5,.val (.int .i64 (k.l:Int))),(6,.val (.int .i64 (k.i:Int)))]
def bj(v:Bool)(n:Nat):List Sx.Row:=[⟨24,.ak (cH v n)⟩]
def yj(n:Nat):List (Nat×Sx.SV):=[(4,.val (.int .i64 ((jf (zs (aL n))).1:Int))),(5,.val (.int .i64 ((jf (zs (aL n))).2:Int)))]
def eL(k:sS)(m:Nat):List (Nat×Sx.SV):=(7,.val (.int .i64 (m:Int)))::oK k
def OO(v:Bool)(n:Nat)(k:sS):Sx.Loop:=.mk Nat 0 (fun m=>m≤gq n k.i) (eL k) (fun _=>bj v n) (fun m=>m+1) (fun m=>8 - m) Unit (fun _=>True) (fun _=>eL k (gq n k.i)) (fun _=>bj v n) (fun _=>())
def S5(v:Bool)(n:Nat):Sx.Loop:=.mk sS ⟨0,0,0⟩ (Ce n) oK (fun _=>bj v n) (kg n) (fun k=>8 - k.i) Unit (fun _=>True) (fun _=>yj n) (fun _=>bj v n) (fun _=>())
theorem F2{n:Nat}{k:sS}(h:Ce n k)(hi:k.i < 8):Ce n (kg n k):=by
 have hr:=yg n k.i (by omega)
 refine⟨by show k.i+1≤8;omega,?_,?_,?_⟩
 ·show(if gq n k.i > k.l then k.i else k.a)≤8
  have:=h.a8
  split<;>omega
 ·show(if gq n k.i > k.l then gq n k.i else k.l)≤8
  have:=h.l8
  split<;>omega
 ·rw[←h.rest]
  show F3 _ (8 - (k.i+1)) (k.i+1) (if gq n k.i > k.l then k.i else k.a) (if gq n k.i > k.l then gq n k.i else k.l)=_
  rw[show 8 - k.i=(8 - (k.i+1))+1 by omega,F3]
  unfold gq
  by_cases hc:ie ((zs (aL n)).drop k.i) > k.l
  ·rw[if_pos hc,if_pos hc,if_pos hc]
  ·rw[if_neg hc,if_neg hc,if_neg hc]
theorem IF{n:Nat}{k:sS}(h:Ce n k)(hi:k.i=8):(jf (zs (aL n)))=(k.a,k.l):=by
 have:=h.rest
 rw[hi]at this
 exact this.symm
theorem bz{a b:Bool}(h:a=b):Value.bool a=.bool b:=by rw[h]
section
variable{v:Bool}{n:Nat}{w:World}{Kr:Sx.St→Prop}
theorem PG(k:sS)(hi:k.i < 8)(m:Nat)(hm:m≤gq n k.i):∃H' L',Sx.ex prog 33 w (Sx.inBody (Sx.aQ f103 0) 0) H' L' ⟨eL k m,bj v n⟩ (Sx.dR (fun m=>m≤gq n k.i) (eL k) (fun _=>bj v n) (fun m=>m+1) (fun m=>8 - m) (fun _=>True) (fun _=>eL k (gq n k.i)) (fun _=>bj v n) (fun _=>()) 2 Kr m):=by
 have hr:=yg n k.i (by omega)
 have e14:IntKind.i64.wrap ((k.i:Int)+(m:Int))=((k.i+m:Nat):Int):=by rw[sV (by omega) (by omega)];rfl
 have c14:Value.int .i64 (IntKind.i64.wrap ((k.i:Int)+(m:Int)))=.int .i64 ((k.i+m:Nat):Int):=iw e14
 by_cases h8:k.i+m < 8
 ·have c15:Value.bool (decide (((k.i+m:Nat):Int) < 8))=.bool true:=bz (decide_eq_true (by omega))
  have c20:=c14
  have c21:=fun W (_:ai [] w W)=>Ar v n (k.i+m) h8 W
  by_cases hlt:m < gq n k.i
  ·rw[PD hlt h8]at c21
   have c25:=my (i:=m) (by omega)
   have h0:m+1≤gq n k.i:=hlt
   have h1:8 - (m+1) < 8 - m:=by omega
   refine⟨[(14,.is (.int .i64 ((k.i+m:Nat):Int))),(15,.is (.bool true)),(20,.is (.int .i64 ((k.i+m:Nat):Int))),(21,.call (.int .i64 ((0:Nat):Int))),(25,.is (.int .i64 ((m+1:Nat):Int)))],[],?_⟩
   have h2:eL k (m+1)=eL k (m+1):=rfl
   have z3:bj v n=bj v n:=rfl
   exact Eq.mp (by kernel_rfl) (Sx.t8 c14 c15 c20 c21 c25 h0 h1 h2 z3)
  ·have e:m=gq n k.i:=by omega
   have hne:=Mz (n:=n) (i:=k.i) (by omega)
   rw[←e]at hne
   have c22:Value.bool (((eu n (k.i+m):Nat):Int)==0)=.bool false:=bz (beq_eq_false_iff_ne.2 (by omega))
   refine⟨[(14,.is (.int .i64 ((k.i+m:Nat):Int))),(15,.is (.bool true)),(20,.is (.int .i64 ((k.i+m:Nat):Int))),(21,.call (.int .i64 (eu n (k.i+m):Nat))),(22,.is (.bool false))],[],?_⟩
   have h0:True:=trivial
   have h1:eL k m=eL k (gq n k.i):=congrArg (eL k) e
   have z2:bj v n=bj v n:=rfl
   exact Eq.mp (by kernel_rfl) (Sx.t4 c14 c15 c20 c21 (Sx.t2 c22 h0 (And.intro h1 z2)))
 ·have c15:Value.bool (decide (((k.i+m:Nat):Int) < 8))=.bool false:=bz (decide_eq_false (by omega))
  refine⟨[(14,.is (.int .i64 ((k.i+m:Nat):Int))),(15,.is (.bool false))],[],?_⟩
  have h0:True:=trivial
  have h1:eL k m=eL k (gq n k.i):=congrArg (eL k) (by omega)
  have z2:bj v n=bj v n:=rfl
  exact Eq.mp (by kernel_rfl) (Sx.t4 c14 c15 h0 h1 z2)
theorem MC(k:sS)(hk:Ce n k):∃H' L',Sx.ex prog 33 w (Sx.aQ f103 0) H' L' ⟨oK k,bj v n⟩ (Sx.dR (Ce n) oK (fun _=>bj v n) (kg n) (fun k=>8 - k.i) (fun _=>True) (fun _=>yj n) (fun _=>bj v n) (fun _=>()) 0 Kr k):=by
 have i8:=hk.i8
 have a8:=hk.a8
 have l8:=hk.l8
 by_cases hi:k.i < 8
 ·have hr:=yg n k.i (by omega)
  have c9:Value.bool (decide ((k.i:Int) < 8))=.bool true:=bz (decide_eq_true (by omega))
  have oA:Value.int .i64 (IntKind.i64.wrap ((k.i:Int)+1))=.int .i64 ((k.i+1:Nat):Int):=iw (by rw[sV (by omega) (by omega)];rfl)
  have h0:0≤gq n k.i:=Nat.zero_le _
  have e1:eL k 0=eL k 0∧bj v n=bj v n:=⟨rfl,rfl⟩
  have jo:=fun(m:Nat) (hm:m≤gq n k.i)=>PG (v:=v) (w:=w) (Kr:=Kr) k hi m hm
  have hnext:=F2 hk hi
  have hmu:8 - (kg n k).i < 8 - k.i:=by show 8 - (k.i+1) < 8 - k.i; omega
  have hz:bj v n=bj v n:=rfl
  by_cases hc:gq n k.i > k.l
  ·have c28:Value.bool (decide (((gq n k.i:Nat):Int) > (k.l:Int)))=.bool true:=bz (decide_eq_true (by omega))
   have hf:oK ⟨k.i+1,k.i,gq n k.i⟩=oK (kg n k):=by unfold kg;rw[if_pos hc,if_pos hc]
   refine⟨[(9,.is (.bool true)),(11,.is (.int .i64 ((k.i+1:Nat):Int))),(28,.is (.bool true))],[OO v n k],?_⟩
   have e1:eL k 0=eL k 0∧bj v n=bj v n:=⟨rfl,rfl⟩
   have h5:=hnext
   have h6:=hmu
   have h7:=hf
   have z8:bj v n=bj v n:=rfl
   exact Eq.mp (by kernel_rfl) (Sx.t4 c9 h0 e1 jo (fun(x:Unit) (hx4:True)=>(Sx.t4 c28 oA h5 h6 (And.intro h7 z8))))
  ·have c28:Value.bool (decide (((gq n k.i:Nat):Int) > (k.l:Int)))=.bool false:=bz (decide_eq_false (by omega))
   have hf:oK ⟨k.i+1,k.a,k.l⟩=oK (kg n k):=by unfold kg;rw[if_neg hc,if_neg hc]
   refine⟨[(9,.is (.bool true)),(11,.is (.int .i64 ((k.i+1:Nat):Int))),(28,.is (.bool false))],[OO v n k],?_⟩
   have e1:eL k 0=eL k 0∧bj v n=bj v n:=⟨rfl,rfl⟩
   have h5:=hnext
   have h6:=hmu
   have h7:=hf
   have z8:bj v n=bj v n:=rfl
   exact Eq.mp (by kernel_rfl) (Sx.t4 c9 h0 e1 jo (fun(x:Unit) (hx4:True)=>(Sx.t4 c28 oA h5 h6 (And.intro h7 z8))))
 ·have c9:Value.bool (decide ((k.i:Int) < 8))=.bool false:=bz (decide_eq_false (by omega))
  have he:=IF hk (by omega)
  have h0:True:=trivial
  have h1:[(4,Sx.SV.val (.int .i64 (k.a:Int))),(5,Sx.SV.val (.int .i64 (k.l:Int)))]=yj n:=by unfold yj;rw[he]
  have z2:bj v n=bj v n:=rfl
  refine⟨[(9,.is (.bool false))],[],?_⟩
  exact Eq.mp (by kernel_rfl) (Sx.t2 c9 h0 (And.intro h1 z2))
theorem Rj(v:Bool)(n:Nat)(w:World):Calls prog 103 #[.agg (cH v n).toArray] w (Rn w (.tuple #[.int .i64 ((jf (zs (aL n))).1:Int),.int .i64 ((jf (zs (aL n))).2:Int)])):=by
 refine Sx.aF (args:=[.agg (cH v n).toArray]) [] [S5 v n] (by kernel_rfl) func103 rfl (cn rfl) ?_
 have h0:Ce n ⟨0,0,0⟩:=⟨by simp,by simp,by simp,rfl⟩
 have e1:oK ⟨0,0,0⟩=oK ⟨0,0,0⟩∧bj v n=bj v n:=⟨rfl,rfl⟩
 have jo:=fun(k:sS) (hk:Ce n k)=>MC (v:=v) (w:=w) (Kr:=Sx.atEnd prog f103 (fun u=>u=.tuple #[.int .i64 ((jf (zs (aL n))).1:Int),.int .i64 ((jf (zs (aL n))).2:Int)]) .ret) k hk
 have z5:Value.tuple #[.int .i64 ((jf (zs (aL n))).1:Int),.int .i64 ((jf (zs (aL n))).2:Int)]=.tuple #[.int .i64 ((jf (zs (aL n))).1:Int),.int .i64 ((jf (zs (aL n))).2:Int)]:=rfl
 exact Eq.mp (by kernel_rfl) (Sx.t2 h0 e1 (And.intro jo (fun(x:Unit) (hx4:True)=>z5)))
end
theorem Gc{v:Bool}{n:Nat}(hn:n < 2^128)(h:jk v n=false)(w:World):Calls prog 47 #[.agg (cH v n).toArray] w (Rn w (.tuple #[.string ⟨#[]⟩,.int .i64 150])):=by
 have c9:=fun W (_:ai [] w W)=>gR v n hn W
 rw[show eY v n=150 by unfold eY;rw[h];rfl]at c9
 have z0:Value.tuple #[.string ⟨#[]⟩,.int .i64 150]=.tuple #[.string ⟨#[]⟩,.int .i64 150]:=rfl
 refine Sx.aF (args:=[.agg (cH v n).toArray]) [(9,.call (.int .i64 150))] [] (by kernel_rfl) func47 rfl (cn rfl) ?_
 exact Eq.mp (by kernel_rfl) (And.intro c9 z0)
theorem SG(n j:Nat):Value.int .i64 (IntKind.i64.wrap (ah n j:Int))=.int .i64 ((ah n j:Nat):Int):=iw (by have:=a7 n j;exact sV (by omega) (by omega))
theorem MI{n:Nat}(hn:n < 2^128)(h:jk false n=true)(w:World):Calls prog 47 #[.agg (cH false n).toArray] w (Rn w (.tuple #[.string ⟨(gb n).toArray⟩,.int .i64 0])):=by
 have c9:=fun W (_:ai [] w W)=>gR false n hn W
 rw[show eY false n=0 by unfold eY;rw[h];rfl]at c9
 have d:=fun j=>fO (u:=ah n j) (by have:=a7 n j;omega)
 have dn:=fun j W (_:ai [] w W)=>re 10 (.inl rfl) (ah n j) (by have:=a7 n j;omega) W
 have c17:=SG n 0
 have c23:=SG n 1
 have c30:=SG n 2
 have c37:=SG n 3
 have c18:=dn 0
 have c24:=dn 1
 have c31:=dn 2
 have c38:=dn 3
 obtain⟨d0,h0⟩:∃x,x=aj 10 (ah n 0):=⟨_,rfl⟩
 obtain⟨d1,h1⟩:∃x,x=aj 10 (ah n 1):=⟨_,rfl⟩
 obtain⟨d2,h2⟩:∃x,x=aj 10 (ah n 2):=⟨_,rfl⟩
 obtain⟨d3,h3⟩:∃x,x=aj 10 (ah n 3):=⟨_,rfl⟩
 have l0:=d 0
 have l1:=d 1
 have l2:=d 2
 have l3:=d 3
 rw[←h0]at c18 l0
 rw[←h1]at c24 l1
 rw[←h2]at c31 l2
 rw[←h3]at c38 l3
 have c19:=bq (.tmp 18) (.const (.string ⟨#[46]⟩)) d0 [46] (by simp only[List.length_cons,List.length_nil];omega)
 have c25:=bq (.tmp 19) (.tmp 24) (d0++[46]) d1 (by simp only[List.length_append,List.length_cons,List.length_nil];omega)
 have c26:=bq (.tmp 25) (.const (.string ⟨#[46]⟩)) (d0++[46]++d1) [46] (by simp only[List.length_append,List.length_cons,List.length_nil];omega)
 have c32:=bq (.tmp 26) (.tmp 31) (d0++[46]++d1++[46]) d2 (by simp only[List.length_append,List.length_cons,List.length_nil];omega)
 have c33:=bq (.tmp 32) (.const (.string ⟨#[46]⟩)) (d0++[46]++d1++[46]++d2) [46] (by simp only[List.length_append,List.length_cons,List.length_nil];omega)
 have c39:=bq (.tmp 33) (.tmp 38) (d0++[46]++d1++[46]++d2++[46]) d3 (by simp only[List.length_append,List.length_cons,List.length_nil];omega)
 have e:d0++[46]++d1++[46]++d2++[46]++d3=gb n:=by
  unfold gb
  rw[←h0,←h1,←h2,←h3]
  simp[ao]
 have z0:Value.tuple #[.string ⟨(d0++[46]++d1++[46]++d2++[46]++d3).toArray⟩,.int .i64 0]=.tuple #[.string ⟨(gb n).toArray⟩,.int .i64 0]:=by rw[e]
 refine Sx.aF (args:=[.agg (cH false n).toArray]) [(9,.call (.int .i64 0)),(17,.is (.int .i64 ((ah n 0:Nat):Int))),(18,.call (.string ⟨d0.toArray⟩)),(19,.bin (.string ⟨(d0++[46]).toArray⟩)),(23,.is (.int .i64 ((ah n 1:Nat):Int))),(24,.call (.string ⟨d1.toArray⟩)),(25,.bin (.string ⟨(d0++[46]++d1).toArray⟩)),(26,.bin (.string ⟨(d0++[46]++d1++[46]).toArray⟩)),(30,.is (.int .i64 ((ah n 2:Nat):Int))),(31,.call (.string ⟨d2.toArray⟩)),(32,.bin (.string ⟨(d0++[46]++d1++[46]++d2).toArray⟩)),(33,.bin (.string ⟨(d0++[46]++d1++[46]++d2++[46]).toArray⟩)),(37,.is (.int .i64 ((ah n 3:Nat):Int))),(38,.call (.string ⟨d3.toArray⟩)),(39,.bin (.string ⟨(d0++[46]++d1++[46]++d2++[46]++d3).toArray⟩))] [] (by kernel_rfl) func47 rfl (cn rfl) ?_
 exact Eq.mp (by kernel_rfl) (Sx.t8 c9 c17 c18 c19 c23 c24 c25 c26 (Sx.t4 c30 c31 c32 c33 (Sx.t2 c37 c38 (And.intro c39 z0))))
def ri(n a k i:Nat):List UInt8:=(List.range i).flatMap fun j=>ei a k j (aj 16 (eu n j))
theorem wS(n a k i:Nat):ri n a k (i+1)=ri n a k i++ei a k i (aj 16 (eu n i)):=by
 unfold ri;rw[List.range_succ,List.flatMap_append];simp
theorem PW(n a k:Nat):ri n a k 8=cW a k (aL n) 0:=by
 unfold ri aL
 simp[cW,List.range,List.range.loop]
theorem KY(n a k i:Nat):(ei a k i (aj 16 (eu n i))).length≤7:=by
 have:=gI (vo n i)
 unfold ei
 simp only[List.length_append]
 split<;>split<;>(try split)<;>simp<;>omega
theorem Ai(n a k:Nat):∀i,(ri n a k i).length≤7*i
 | 0=>by simp[ri]
 |i+1=>by
  have h1:=Ai n a k i
  have h2:=KY n a k i
  rw[wS,List.length_append];omega
def oW(n a k i:Nat):List (Nat×Sx.SV):=[(1,.ptr 0 0),(4,.val (.int .i64 (a:Int))),(5,.val (.int .i64 (k:Int))),(6,.val (.string ⟨(ri n a k i).toArray⟩)),(7,.val (.int .i64 (i:Int)))]
def Ly(a k i:Nat)(s:List UInt8):List (Nat×Sx.SV):=[(1,.ptr 0 0),(4,.val (.int .i64 (a:Int))),(5,.val (.int .i64 (k:Int))),(6,.val (.string ⟨s.toArray⟩)),(7,.val (.int .i64 (i:Int)))]
def H9(n a k:Nat):List (Nat×Sx.SV):=[(6,.val (.string ⟨(ri n a k 8).toArray⟩))]
def TS(n a k:Nat):Sx.Loop:=.mk Nat 0 (fun i=>i≤8) (oW n a k) (fun _=>bj true n) (fun i=>i+1) (fun i=>8 - i) Unit (fun _=>True) (fun _=>H9 n a k) (fun _=>bj true n) (fun _=>())
theorem lN{n a k i:Nat}{s:List UInt8}(h:s=ri n a k i):Ly a k i s=oW n a k i:=by rw[h];rfl
section
variable{n a k:Nat}{w:World}{Kr:Sx.St→Prop}
theorem H7(ha:a≤8)(hk:k≤8)(i:Nat)(hi:i≤8):∃H' L',Sx.ex prog 95 w (Sx.aQ f47 0) H' L' ⟨oW n a k i,bj true n⟩ (Sx.dR (fun i=>i≤8) (oW n a k) (fun _=>bj true n) (fun i=>i+1) (fun i=>8 - i) (fun _=>True) (fun _=>H9 n a k) (fun _=>bj true n) (fun _=>()) 0 Kr i):=by
 by_cases h8:i < 8
 ·have c46:Value.bool (decide ((i:Int) < 8))=.bool true:=bz (decide_eq_true (by omega))
  have c48:=my (i:=i) (by omega)
  have c91:=fun W (_:ai [] w W)=>Ar true n i h8 W
  have c92:=fun W (_:ai [] w W)=>re 16 (.inr rfl) (eu n i) (by have:=vo n i;omega) W
  have ld:=gI (vo n i)
  have lp:=Ai n a k i
  have hs:=wS n a k i
  obtain⟨d,hd⟩:∃d,d=aj 16 (eu n i):=⟨_,rfl⟩
  obtain⟨s,hsd⟩:∃s,s=ri n a k i:=⟨_,rfl⟩
  have hfr:oW n a k i=Ly a k i s:=(lN hsd).symm
  rw[←hd]at c92 ld hs
  rw[←hsd]at lp hs
  rw[hfr]
  have nx:i+1≤8:=h8
  have mu:8 - (i+1) < 8 - i:=by omega
  have zm:bj true n=bj true n:=rfl
  have c69:Value.int .i64 (IntKind.i64.wrap ((a:Int)+(k:Int)))=.int .i64 ((a+k:Nat):Int):=iw (by rw[sV (by omega) (by omega)];rfl)
  have c81:=c69
  by_cases hL:1 < k
  ·by_cases hia:i=a
   ·have c50:Value.bool (decide ((k:Int) > 1))=.bool true:=bz (decide_eq_true (by omega))
    have c59:Value.bool (decide ((k:Int) > 1))=.bool true:=bz (decide_eq_true (by omega))
    have c54:Value.bool ((i:Int)==(a:Int))=.bool true:=bz (beq_iff_eq.2 (by omega))
    have c57:=bq (.tmp 56) (.const (.string ⟨#[58,58]⟩)) s [58,58] (by simp only[List.length_cons,List.length_nil];omega)
    have c63:Value.bool (decide ((i:Int)≥(a:Int)))=.bool true:=bz (decide_eq_true (by omega))
    have c70:Value.bool (decide ((i:Int) < ((a+k:Nat):Int)))=.bool true:=bz (decide_eq_true (by omega))
    have h2:Ly a k (i+1) (s++[58,58])=oW n a k (i+1):=lN (by rw[hs];unfold ei;rw[if_pos (by omega),if_pos (by omega)];simp)
    have h0:=nx
    have h1:=mu
    have z3:=zm
    refine⟨[(46,.is (.bool true)),(48,.is (.int .i64 ((i+1:Nat):Int))),(50,.is (.bool true)),(59,.is (.bool true)),(54,.is (.bool true)),(57,.bin (.string ⟨(s++[58,58]).toArray⟩)),(63,.is (.bool true)),(69,.is (.int .i64 ((a+k:Nat):Int))),(70,.is (.bool true))],[],?_⟩
    exact Eq.mp (by kernel_rfl) (Sx.t8 c46 c50 c54 c57 c59 c63 c69 c70 (Sx.t4 c48 h0 h1 h2 z3))
   ·by_cases hge:a≤i
    ·by_cases hlt:i < a+k
     ·have c50:Value.bool (decide ((k:Int) > 1))=.bool true:=bz (decide_eq_true (by omega))
      have c59:Value.bool (decide ((k:Int) > 1))=.bool true:=bz (decide_eq_true (by omega))
      have c54:Value.bool ((i:Int)==(a:Int))=.bool false:=bz (beq_eq_false_iff_ne.2 (by omega))
      have c63:Value.bool (decide ((i:Int)≥(a:Int)))=.bool true:=bz (decide_eq_true (by omega))
      have c70:Value.bool (decide ((i:Int) < ((a+k:Nat):Int)))=.bool true:=bz (decide_eq_true (by omega))
      have h2:Ly a k (i+1) s=oW n a k (i+1):=lN (by rw[hs];unfold ei;rw[if_neg (by omega),if_pos (by omega)];simp)
      have h0:=nx
      have h1:=mu
      have z3:=zm
      refine⟨[(46,.is (.bool true)),(48,.is (.int .i64 ((i+1:Nat):Int))),(50,.is (.bool true)),(59,.is (.bool true)),(54,.is (.bool false)),(63,.is (.bool true)),(69,.is (.int .i64 ((a+k:Nat):Int))),(70,.is (.bool true))],[],?_⟩
      exact Eq.mp (by kernel_rfl) (Sx.t8 c46 c50 c54 c59 c63 c69 c70 c48 (Sx.t2 h0 h1 (And.intro h2 z3)))
     ·by_cases hend:i=a+k
      ·have c50:Value.bool (decide ((k:Int) > 1))=.bool true:=bz (decide_eq_true (by omega))
       have c59:Value.bool (decide ((k:Int) > 1))=.bool true:=bz (decide_eq_true (by omega))
       have c54:Value.bool ((i:Int)==(a:Int))=.bool false:=bz (beq_eq_false_iff_ne.2 (by omega))
       have c63:Value.bool (decide ((i:Int)≥(a:Int)))=.bool true:=bz (decide_eq_true (by omega))
       have c70:Value.bool (decide ((i:Int) < ((a+k:Nat):Int)))=.bool false:=bz (decide_eq_false (by omega))
       have c73:Value.bool (decide ((i:Int) > 0))=.bool true:=bz (decide_eq_true (by omega))
       have c76:Value.bool (decide ((k:Int) > 1))=.bool true:=bz (decide_eq_true (by omega))
       have c82:Value.bool ((i:Int)==((a+k:Nat):Int))=.bool true:=bz (beq_iff_eq.2 (by omega))
       have c93:=bq (.tmp 88) (.tmp 92) s d (by omega)
       have h2:Ly a k (i+1) (s++d)=oW n a k (i+1):=lN (by rw[hs];unfold ei;rw[if_neg (by omega),if_neg (by omega),if_neg (by omega)];simp)
       have h0:=nx
       have h1:=mu
       have z3:=zm
       refine⟨[(46,.is (.bool true)),(48,.is (.int .i64 ((i+1:Nat):Int))),(50,.is (.bool true)),(59,.is (.bool true)),(54,.is (.bool false)),(63,.is (.bool true)),(69,.is (.int .i64 ((a+k:Nat):Int))),(70,.is (.bool false)),(73,.is (.bool true)),(76,.is (.bool true)),(81,.is (.int .i64 ((a+k:Nat):Int))),(82,.is (.bool true)),(91,.call (.int .i64 (eu n i:Nat))),(92,.call (.string ⟨d.toArray⟩)),(93,.bin (.string ⟨(s++d).toArray⟩))],[],?_⟩
       exact Eq.mp (by kernel_rfl) (Sx.t8 c46 c50 c54 c59 c63 c69 c70 c73 (Sx.t8 c76 c81 c82 c91 c92 c93 c48 h0 (Sx.t2 h1 h2 z3)))
      ·have c50:Value.bool (decide ((k:Int) > 1))=.bool true:=bz (decide_eq_true (by omega))
       have c59:Value.bool (decide ((k:Int) > 1))=.bool true:=bz (decide_eq_true (by omega))
       have c54:Value.bool ((i:Int)==(a:Int))=.bool false:=bz (beq_eq_false_iff_ne.2 (by omega))
       have c63:Value.bool (decide ((i:Int)≥(a:Int)))=.bool true:=bz (decide_eq_true (by omega))
       have c70:Value.bool (decide ((i:Int) < ((a+k:Nat):Int)))=.bool false:=bz (decide_eq_false (by omega))
       have c73:Value.bool (decide ((i:Int) > 0))=.bool true:=bz (decide_eq_true (by omega))
       have c76:Value.bool (decide ((k:Int) > 1))=.bool true:=bz (decide_eq_true (by omega))
       have c82:Value.bool ((i:Int)==((a+k:Nat):Int))=.bool false:=bz (beq_eq_false_iff_ne.2 (by omega))
       have c87:=bq (.tmp 86) (.const (.string ⟨#[58]⟩)) s [58] (by simp only[List.length_cons,List.length_nil];omega)
       have c93:=bq (.tmp 88) (.tmp 92) (s++[58]) d (by simp only[List.length_append,List.length_cons,List.length_nil];omega)
       have h2:Ly a k (i+1) ((s++[58])++d)=oW n a k (i+1):=lN (by rw[hs];unfold ei;rw[if_neg (by omega),if_neg (by omega),if_pos (by omega)];simp)
       have h0:=nx
       have h1:=mu
       have z3:=zm
       refine⟨[(46,.is (.bool true)),(48,.is (.int .i64 ((i+1:Nat):Int))),(50,.is (.bool true)),(59,.is (.bool true)),(54,.is (.bool false)),(63,.is (.bool true)),(69,.is (.int .i64 ((a+k:Nat):Int))),(70,.is (.bool false)),(73,.is (.bool true)),(76,.is (.bool true)),(81,.is (.int .i64 ((a+k:Nat):Int))),(82,.is (.bool false)),(87,.bin (.string ⟨(s++[58]).toArray⟩)),(91,.call (.int .i64 (eu n i:Nat))),(92,.call (.string ⟨d.toArray⟩)),(93,.bin (.string ⟨((s++[58])++d).toArray⟩))],[],?_⟩
       exact Eq.mp (by kernel_rfl) (Sx.t8 c46 c50 c54 c59 c63 c69 c70 c73 (Sx.t8 c76 c81 c82 c87 c91 c92 c93 c48 (Sx.t2 h0 h1 (And.intro h2 z3))))
    ·by_cases hp:0 < i
     ·have c50:Value.bool (decide ((k:Int) > 1))=.bool true:=bz (decide_eq_true (by omega))
      have c59:Value.bool (decide ((k:Int) > 1))=.bool true:=bz (decide_eq_true (by omega))
      have c54:Value.bool ((i:Int)==(a:Int))=.bool false:=bz (beq_eq_false_iff_ne.2 (by omega))
      have c63:Value.bool (decide ((i:Int)≥(a:Int)))=.bool false:=bz (decide_eq_false (by omega))
      have c73:Value.bool (decide ((i:Int) > 0))=.bool true:=bz (decide_eq_true (by omega))
      have c76:Value.bool (decide ((k:Int) > 1))=.bool true:=bz (decide_eq_true (by omega))
      have c82:Value.bool ((i:Int)==((a+k:Nat):Int))=.bool false:=bz (beq_eq_false_iff_ne.2 (by omega))
      have c87:=bq (.tmp 86) (.const (.string ⟨#[58]⟩)) s [58] (by simp only[List.length_cons,List.length_nil];omega)
      have c93:=bq (.tmp 88) (.tmp 92) (s++[58]) d (by simp only[List.length_append,List.length_cons,List.length_nil];omega)
      have h2:Ly a k (i+1) ((s++[58])++d)=oW n a k (i+1):=lN (by rw[hs];unfold ei;rw[if_neg (by omega),if_neg (by omega),if_pos (by omega)];simp)
      have h0:=nx
      have h1:=mu
      have z3:=zm
      refine⟨[(46,.is (.bool true)),(48,.is (.int .i64 ((i+1:Nat):Int))),(50,.is (.bool true)),(59,.is (.bool true)),(54,.is (.bool false)),(63,.is (.bool false)),(73,.is (.bool true)),(76,.is (.bool true)),(81,.is (.int .i64 ((a+k:Nat):Int))),(82,.is (.bool false)),(87,.bin (.string ⟨(s++[58]).toArray⟩)),(91,.call (.int .i64 (eu n i:Nat))),(92,.call (.string ⟨d.toArray⟩)),(93,.bin (.string ⟨((s++[58])++d).toArray⟩))],[],?_⟩
      exact Eq.mp (by kernel_rfl) (Sx.t8 c46 c50 c54 c59 c63 c73 c76 c81 (Sx.t8 c82 c87 c91 c92 c93 c48 h0 h1 (And.intro h2 z3)))
     ·have c50:Value.bool (decide ((k:Int) > 1))=.bool true:=bz (decide_eq_true (by omega))
      have c59:Value.bool (decide ((k:Int) > 1))=.bool true:=bz (decide_eq_true (by omega))
      have c54:Value.bool ((i:Int)==(a:Int))=.bool false:=bz (beq_eq_false_iff_ne.2 (by omega))
      have c63:Value.bool (decide ((i:Int)≥(a:Int)))=.bool false:=bz (decide_eq_false (by omega))
      have c73:Value.bool (decide ((i:Int) > 0))=.bool false:=bz (decide_eq_false (by omega))
      have c93:=bq (.tmp 88) (.tmp 92) s d (by omega)
      have h2:Ly a k (i+1) (s++d)=oW n a k (i+1):=lN (by rw[hs];unfold ei;rw[if_neg (by omega),if_neg (by omega),if_neg (by omega)];simp)
      have h0:=nx
      have h1:=mu
      have z3:=zm
      refine⟨[(46,.is (.bool true)),(48,.is (.int .i64 ((i+1:Nat):Int))),(50,.is (.bool true)),(59,.is (.bool true)),(54,.is (.bool false)),(63,.is (.bool false)),(73,.is (.bool false)),(91,.call (.int .i64 (eu n i:Nat))),(92,.call (.string ⟨d.toArray⟩)),(93,.bin (.string ⟨(s++d).toArray⟩))],[],?_⟩
      exact Eq.mp (by kernel_rfl) (Sx.t8 c46 c50 c54 c59 c63 c73 c91 c92 (Sx.t4 c93 c48 h0 h1 (And.intro h2 z3)))
  ·by_cases hp:0 < i
   ·have c50:Value.bool (decide ((k:Int) > 1))=.bool false:=bz (decide_eq_false (by omega))
    have c59:Value.bool (decide ((k:Int) > 1))=.bool false:=bz (decide_eq_false (by omega))
    have c73:Value.bool (decide ((i:Int) > 0))=.bool true:=bz (decide_eq_true (by omega))
    have c76:Value.bool (decide ((k:Int) > 1))=.bool false:=bz (decide_eq_false (by omega))
    have c87:=bq (.tmp 86) (.const (.string ⟨#[58]⟩)) s [58] (by simp only[List.length_cons,List.length_nil];omega)
    have c93:=bq (.tmp 88) (.tmp 92) (s++[58]) d (by simp only[List.length_append,List.length_cons,List.length_nil];omega)
    have h2:Ly a k (i+1) ((s++[58])++d)=oW n a k (i+1):=lN (by rw[hs];unfold ei;rw[if_neg (by omega),if_neg (by omega),if_pos (by omega)];simp)
    have h0:=nx
    have h1:=mu
    have z3:=zm
    refine⟨[(46,.is (.bool true)),(48,.is (.int .i64 ((i+1:Nat):Int))),(50,.is (.bool false)),(59,.is (.bool false)),(73,.is (.bool true)),(76,.is (.bool false)),(87,.bin (.string ⟨(s++[58]).toArray⟩)),(91,.call (.int .i64 (eu n i:Nat))),(92,.call (.string ⟨d.toArray⟩)),(93,.bin (.string ⟨((s++[58])++d).toArray⟩))],[],?_⟩
    exact Eq.mp (by kernel_rfl) (Sx.t8 c46 c50 c59 c73 c76 c87 c91 c92 (Sx.t4 c93 c48 h0 h1 (And.intro h2 z3)))
   ·have c50:Value.bool (decide ((k:Int) > 1))=.bool false:=bz (decide_eq_false (by omega))
    have c59:Value.bool (decide ((k:Int) > 1))=.bool false:=bz (decide_eq_false (by omega))
    have c73:Value.bool (decide ((i:Int) > 0))=.bool false:=bz (decide_eq_false (by omega))
    have c93:=bq (.tmp 88) (.tmp 92) s d (by omega)
    have h2:Ly a k (i+1) (s++d)=oW n a k (i+1):=lN (by rw[hs];unfold ei;rw[if_neg (by omega),if_neg (by omega),if_neg (by omega)];simp)
    have h0:=nx
    have h1:=mu
    have z3:=zm
    refine⟨[(46,.is (.bool true)),(48,.is (.int .i64 ((i+1:Nat):Int))),(50,.is (.bool false)),(59,.is (.bool false)),(73,.is (.bool false)),(91,.call (.int .i64 (eu n i:Nat))),(92,.call (.string ⟨d.toArray⟩)),(93,.bin (.string ⟨(s++d).toArray⟩))],[],?_⟩
    exact Eq.mp (by kernel_rfl) (Sx.t8 c46 c50 c59 c73 c91 c92 c93 c48 (Sx.t2 h0 h1 (And.intro h2 z3)))
 ·have c46:Value.bool (decide ((i:Int) < 8))=.bool false:=bz (decide_eq_false (by omega))
  have h0:True:=trivial
  have h1:[(6,Sx.SV.val (.string ⟨(ri n a k i).toArray⟩))]=H9 n a k:=by rw[show i=8 by omega];rfl
  have z2:bj true n=bj true n:=rfl
  refine⟨[(46,.is (.bool false))],[],?_⟩
  exact Eq.mp (by kernel_rfl) (Sx.t2 c46 h0 (And.intro h1 z2))
end
theorem MH{n:Nat}(hn:n < 2^128)(h:jk true n=true)(w:World):Calls prog 47 #[.agg (cH true n).toArray] w (Rn w (.tuple #[.string ⟨(cM (aL n)).toArray⟩,.int .i64 0])):=by
 have c9:=fun W (_:ai [] w W)=>gR true n hn W
 rw[show eY true n=0 by unfold eY;rw[h];rfl]at c9
 have c42:=fun W (_:ai [] w W)=>Rj true n W
 have hb:=yR (eu n 0==0) (eu n 1==0) (eu n 2==0) (eu n 3==0) (eu n 4==0) (eu n 5==0) (eu n 6==0) (eu n 7==0)
 have ht:=Ct n
 have hz:zs (aL n)=[eu n 0==0,eu n 1==0,eu n 2==0,eu n 3==0,eu n 4==0,eu n 5==0,eu n 6==0,eu n 7==0]:=rfl
 rw[←hz]at hb
 obtain⟨a,ha⟩:∃a,a=(jf (zs (aL n))).1:=⟨_,rfl⟩
 obtain⟨k,hk⟩:∃k,k=(jf (zs (aL n))).2:=⟨_,rfl⟩
 have hak:=hb.2.1
 rw[←ha,←hk]at hak c42 ht
 have z5:Value.tuple #[.string ⟨(ri n a k 8).toArray⟩,.int .i64 0]=.tuple #[.string ⟨(cM (aL n)).toArray⟩,.int .i64 0]:=by rw[PW,ht]
 refine Sx.aF (args:=[.agg (cH true n).toArray]) [(9,.call (.int .i64 0)),(42,.call (.tuple #[.int .i64 (a:Int),.int .i64 (k:Int)]))] [TS n a k] (by kernel_rfl) func47 rfl (cn rfl) ?_
 have h0:0≤8:=by omega
 have e1:oW n a k 0=oW n a k 0∧bj true n=bj true n:=⟨rfl,rfl⟩
 have jo:=fun(i:Nat) (hi:i≤8)=>H7 (n:=n) (a:=a) (k:=k) (w:=w) (Kr:=Sx.atEnd prog f47 (fun u=>u=.tuple #[.string ⟨(cM (aL n)).toArray⟩,.int .i64 0]) .ret) (by omega) (by omega) i hi
 exact Eq.mp (by kernel_rfl) (Sx.t4 c9 c42 h0 e1 (And.intro jo (fun(x:Unit) (hx4:True)=>z5)))
theorem Ag(v:Bool)(n:Nat)(hn:n < 2^128)(w:World):Calls prog 47 #[.agg (cH v n).toArray] w (Rn w (.tuple #[.string ⟨(mC v n).toArray⟩,.int .i64 (eY v n)])):=by
 cases h:jk v n with
 |false=>
  rw[show mC v n=[] by unfold mC;rw[h];rfl,show eY v n=150 by unfold eY;rw[h];rfl]
  exact Gc hn h w
 |true=>
  rw[show mC v n=fD v n by unfold mC;rw[if_pos h],show eY v n=0 by unfold eY;rw[if_pos h]]
  cases v with
  |false=>exact MI hn h w
  |true=>exact MH hn h w
theorem Iy{v:Bool}{n K:Nat}(hn:n < 2^128)(h:gh v n K=true)(w:World):Calls prog 52 #[.agg (dm v n K).toArray] w (Rn w (.tuple #[.string ⟨(kX v n K).toArray⟩,.int .i64 0])):=by
 have hb:=nq h
 have c7:=fun W (_:ai [] w W)=>Af v n K hn W
 rw[show dC v n K=0 by unfold dC;rw[if_pos h]]at c7
 have c12:=fun W (_:ai [] w W)=>Ag v n hn W
 have hA:=qk h
 rw[show mC v n=fD v n by unfold mC;rw[if_pos hA],show eY v n=0 by unfold eY;rw[if_pos hA]]at c12
 have hl:=qY v n
 have h4:=fO (u:=K) (by omega)
 have ir:=bq (.tmp 15) (.const (.string ⟨#[47]⟩)) (fD v n) [47] (by simp only[List.length_cons,List.length_nil];omega)
 have c19:=fun W (_:ai [] w W)=>re 10 (.inl rfl) K (by omega) W
 have c20:=bq (.tmp 16) (.tmp 19) (fD v n++[47]) (aj 10 K) (by simp only[List.length_append,List.length_cons,List.length_nil];omega)
 have z0:Value.tuple #[.string ⟨(fD v n++[47]++aj 10 K).toArray⟩,.int .i64 0]=.tuple #[.string ⟨(kX v n K).toArray⟩,.int .i64 0]:=by unfold kX;rw[Int.toNat_natCast];simp
 refine Sx.aF (args:=[.agg (dm v n K).toArray]) [(7,.call (.int .i64 0)),(12,.call (.tuple #[.string ⟨(fD v n).toArray⟩,.int .i64 0])),(16,.bin (.string ⟨(fD v n++[47]).toArray⟩)),(19,.call (.string ⟨(aj 10 K).toArray⟩)),(20,.bin (.string ⟨(fD v n++[47]++aj 10 K).toArray⟩))] [] (by kernel_rfl) func52 rfl (cn rfl) ?_
 exact Eq.mp (by kernel_rfl) (Sx.t4 c7 c12 ir c19 (And.intro c20 z0))
theorem F1{v:Bool}{n:Nat}{k:Int}(hn:n < 2^128)(h:gh v n k=false)(w:World):Calls prog 52 #[.agg (dm v n k).toArray] w (Rn w (.tuple #[.string ⟨#[]⟩,.int .i64 151])):=by
 have c7:=fun W (_:ai [] w W)=>Af v n k hn W
 rw[show dC v n k=151 by unfold dC;rw[h];rfl]at c7
 have z0:Value.tuple #[.string ⟨#[]⟩,.int .i64 151]=.tuple #[.string ⟨#[]⟩,.int .i64 151]:=rfl
 refine Sx.aF (args:=[.agg (dm v n k).toArray]) [(7,.call (.int .i64 151))] [] (by kernel_rfl) func52 rfl (cn rfl) ?_
 exact Eq.mp (by kernel_rfl) (And.intro c7 z0)
theorem yh(v:Bool)(n:Nat)(k:Int)(hn:n < 2^128)(w:World):Calls prog 52 #[.agg (dm v n k).toArray] w (Rn w (.tuple #[.string ⟨(nh v n k).toArray⟩,.int .i64 (dC v n k)])):=by
 cases h:gh v n k with
 |false=>
  rw[show nh v n k=[] by unfold nh;rw[h];rfl,show dC v n k=151 by unfold dC;rw[h];rfl]
  exact F1 hn h w
 |true=>
  rw[show nh v n k=kX v n k by unfold nh;rw[if_pos h],show dC v n k=0 by unfold dC;rw[if_pos h]]
  obtain⟨k0,_⟩:=nq h
  obtain⟨K,rfl⟩:=Int.eq_ofNat_of_zero_le k0
  exact Iy hn h w
end Go.Proofs.YtnncigmpcdehnaaGreatDoor
