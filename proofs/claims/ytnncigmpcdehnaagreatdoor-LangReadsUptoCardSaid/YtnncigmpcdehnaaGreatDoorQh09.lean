import Derived.Test.YtnncigmpcdehnaaGreatDoorQh08
import Derived.ScopeJumps
import Derived.Defers
import Derived.Recover
import Derived.LaidEql
import Derived.Stop.Asserts
import Derived.RowKitTokens
open List renaming mem_filterMap→Xy,mem_singleton→XA,getElem?_eq_some_iff→XB,nodup_cons→XC,mem_cons_of_mem→XE,mem_cons→XF,length_append→XH,getElem?_eq_getElem→XL,length_take→XN,mem_map→XO,mem_of_getElem?→XP,length_pos_iff→XQ,drop_append_of_le_length→XR,mem_append→XU,length_nil→XV,map_cons→XW,length_singleton→XY,not_mem_nil→X1,length_cons→X2,append_nil→X3
open Nat renaming le_refl→Xz,lt_of_lt_of_le→X0,strongRecOn→X5,le_trans→X8,add_zero→X9,zero_le→Yb
open And renaming intro→XD
open Go.Value renaming bool→XG,int→Ya
open Go.Result renaming andThen→XI
open Option renaming map→XJ,some→XX
open Bool renaming eq_false_iff→XM,and_eq_true→XS,false_or→X7
open Array renaming replicate→XT
namespace Go.Proofs.YtnncigmpcdehnaaGreatDoor
open Go Go.RowKit Go.Lib Go.Sort
theorem sN{p:Nat→Prop}(h:∃m,p m):∃m,p m∧∀m',p m'→m≤m':=by
 obtain⟨m,hm⟩:=h;induction m using X5 with
 |_ m ih=>
  by_cases hx:∃m',m' < m∧p m'
  ·obtain⟨m',h1,h2⟩:=hx
   exact ih m' h1 h2
  ·exact⟨m,hm,fun m' h'=>Nat.le_of_not_lt fun hlt=>hx ⟨m',hlt,h'⟩⟩
theorem vE{P:Program}{Q:Exit→Act→World→Prop}{a:Act}{w:World}{c rest:Code}(l:Nat)(J:Nat→Act→World→Prop)(hf:findLabel c l=some rest)
  (first:c.wp P (Exit.jump l (fun a w=>∃m,J m a w) Q) a w)
  (pass:∀m a w,J m a w→rest.wp P (Exit.jump l (fun a' w'=>∃m',m' < m∧J m' a' w') Q) a w):(Code.scope c).wp P Q a w:=by
 classical
 let μ:Act→World→Nat:=fun a w=>if h:∃m,J m a w then(sN h).choose else 0
 have hμ:∀a w m,J m a w→μ a w≤m∧J (μ a w) a w:=fun a w m hm=>by have h:∃m,J m a w:=⟨m,hm⟩;have e:μ a w=(sN h).choose:=dif_pos h;rw[e];exact⟨(sN h).choose_spec.2 m hm,(sN h).choose_spec.1⟩
 refine wp_scope_jumps l (fun a w=>∃m,J m a w) μ hf first fun a w ⟨m,hm⟩=>?_
 refine Code.wp_mono (fun e a' w' hq=>?_) (pass (μ a w) a w (hμ a w m hm).2);cases e with
 |goto l'=>obtain⟨he,m',hlt,hj⟩:=hq;exact⟨he,⟨m',hj⟩,Nat.lt_of_le_of_lt (hμ a' w' m' hj).1 hlt⟩
 |normal=>exact hq
 |exit id=>exact hq
 |ret=>exact hq
 |panic ch=>exact hq
 |outgrown=>exact hq
namespace Sx
def Dn{κ:Type}(l:Nat)(R:κ→Prop)(fr:κ→List (Nat×SV))(mem:κ→List Row)(M:Prop)(k:κ)(K:Exit→St→Prop):Exit→St→Prop
 |.goto l',st=>match Nat.beq l' l with
  |true=>M∧R k∧BP st (fr k) (mem k)
  |false=>cR st
 |e,st=>K e st
def QK(c:Code)(l:Nat):Code:=(findLabel c l).getD .skip
def GP:Code→Code
 |.seq _ (.scope c)=>c
 |_=>.skip
def Ty:Code→Code
 |.seq a _=>a
 |_=>.skip
section
variable{P:Program}{w0:bu}{ds:List Deferred}{n:Nat}
theorem zN{κ:Type}{l:Nat}{R:κ→Prop}{fr:κ→List (Nat×SV)}{mem:κ→List Row}{M:Prop}{k:κ}{K:Exit→St→Prop}{e:Exit}{a:Act}{w:World}{J:Act→World→Prop}
  (h:lift ds w0 n (Dn l R fr mem M k K) e a w) (hJ:∀β,M→R k→Hd ds w0 n β ⟨fr k,mem k⟩ a w→J a w):Exit.jump l J (lift ds w0 n K) e a w:=by
 cases e with
 |goto l'=>
  obtain⟨β,st,hk,h'⟩:=h;simp only[Dn]at hk;split at hk
  ·rename_i hb
   obtain⟨hm,hr,hs⟩:=hk;obtain⟨β2,h2⟩:=h'.same hs;exact⟨Nat.eq_of_beq_eq_true hb,hJ β2 hm hr h2⟩
  ·exact nomatch hk
 |normal=>exact h
 |exit id=>exact h
 |ret=>exact h
 |panic ch=>exact h
 |outgrown=>exact h
theorem Ga{w:World}{f:FuncId}{fn:Func}{a0 c rest:Code}{S:List Nat}{PP:List PanicEntry→World→Prop}{β:Env}{mem:List Row}{args:List SV}{R:List SV→List Row→Prop}(hF:Rows ⟨w,S,PP⟩ β w mem)
  {κ:Type} (l:Nat) (k0:κ) (Rk:κ→Prop) (frk:κ→List (Nat×SV)) (memk:κ→List Row) (next:κ→κ) (μ:κ→Nat)
  (H0 H:List (Nat×Hint)) (L:List Loop) (hm:P.follows .mixedOrders=true) (hf:P.funcs[f]?=some fn) (hb:fn.body=some (.seq a0 (.scope c))) (hl:findLabel c l=some rest) (hn:args.length≤fn.ntmps) (hw:(fM (fun r=>nZ mem.length r.cs) mem&&fM (Cd mem.length) args)=true)
  (pass:∀k,Rk k→∃H' L',lN P fn.ntmps ⟨w,S,PP⟩ rest H' L' ⟨frk k,memk k⟩ (Dn l Rk frk memk (μ (next k) < μ k) (next k) (fm P fn R)))
  (first:lN P fn.ntmps ⟨w,S,PP⟩ a0 H0 [] ⟨lR 0 args,mem⟩ (fun e st=>match e with | .normal=>lN P fn.ntmps ⟨w,S,PP⟩ c H L st (Dn l Rk frk memk True k0 (fm P fn R))|_=>False)) :
  Calls P f (args.map (SV.den β)).toArray w (cN ⟨w,S,PP⟩ R):=by
 rw[XS]at hw;have start:Hd [] ⟨w,S,PP⟩ fn.ntmps β ⟨lR 0 args,mem⟩ { tmps:=(args.map (SV.den β)).toArray++XT (fn.ntmps - (args.map (SV.den β)).toArray.size) undef,defers:=[] } w:=by
  refine⟨by simp;omega,rfl,fun t sv ht=>?_,hF.held,hF.new,hF.inj,hF.aJ,fun t sv ht=>?_,fun i r hi=>?_⟩
  ·obtain⟨_,hv⟩:=ic ht
   have hlt:t < args.length:=(XB.1 hv).1;rw[Array.getElem?_append_left (by simpa using hlt)];simp only[Nat.sub_zero]at hv;simp[hv]
  ·obtain⟨_,hv⟩:=ic ht
   exact p5 (bn hw.2 sv (XP hv))
  ·exact lh (bn hw.1 r (XP hi))
 refine calls_of_wp hf hb ?_;refine wp_seq (Code.wp_mono (fun e a' w' hq=>?_) (jK hm a0 H0 [] _ _ β _ w start first));cases e with
 |normal=>
  obtain⟨β',st',hk,h'⟩:=hq;have main:(Code.scope c).wp P (lift [] ⟨w,S,PP⟩ fn.ntmps (fm P fn R)) a' w':=by
   refine vE l (fun m a w'=>∃β k,μ k=m∧Rk k∧Hd [] ⟨w,S,PP⟩ fn.ntmps β ⟨frk k,memk k⟩ a w') hl ?_ ?_
   ·exact Code.wp_mono (fun e a2 w2 hq=>zN hq fun β2 _ hr h2=>⟨μ k0,β2,k0,rfl,hr,h2⟩) (jK hm c H L st' _ β' a' w' h' hk)
   ·rintro m a2 w2 ⟨β2,k,rfl,hr,h2⟩
    obtain⟨H',L',hp⟩:=pass k hr;exact Code.wp_mono (fun e a3 w3 hq=>zN hq fun β3 hlt hr3 h3=>⟨μ (next k),hlt,β3,next k,rfl,hr3,h3⟩) (jK hm rest H' L' _ _ β2 a2 w2 h2 hp)
  exact Code.wp_mono (fun e a w hq=>Ai hq) main
 |exit id=>obtain⟨_,_,hk,_⟩:=hq;exact hk.elim
 |goto l=>obtain⟨_,_,hk,_⟩:=hq;exact hk.elim
 |ret=>obtain⟨_,_,hk,_⟩:=hq;exact hk.elim
 |panic ch=>exact⟨hq.1,.inr ⟨ch,rfl,hq.2⟩⟩
 |outgrown=>obtain⟨_,_,hk,_⟩:=hq;exact hk.elim
end
end Sx
set_option maxRecDepth 100000
open Go.RowKit Go.Lib Go.Sort _root_.Go.Proofs.Tryz
set_option maxRecDepth 100000
def oB(s:Bs)(cm:Bool)(i:Nat):List (Nat×Sx.SV):=[(0,.val (ae s)),(1,.val (.bool cm)),(5,.own 0),(6,.val (.int .i64 (i:Int)))]
def GA(s:Bs)(cm:Bool)(o i:Nat):List (Nat×Sx.SV):=[(0,.val (ae s)),(1,.val (.bool cm)),(5,.own o),(6,.val (.int .i64 (i:Int)))]
def mv(s:Bs)(cm:Bool)(b i:Nat):List (Nat×Sx.SV):=(7,.val (.int .i64 (b:Int)))::oB s cm i
def dw(acc:List Bs):List Sx.Row:=[⟨9,.own 1 acc.length (acc.map ae)⟩]
theorem pM{c:UInt8}{k:Nat}(d:UInt8)(hd:d.toNat=k):XG ((c.toNat:Int)==(k:Int))=.bool (decide (c=d)):=by congr 1;rw[Bool.eq_iff_iff,beq_iff_eq,decide_eq_true_iff,←UInt8.toNat_inj,hd];omega
theorem NW{c:UInt8}{k:Nat}(d:UInt8)(hd:d.toNat=k):XG ((c.toNat:Int) !=(k:Int))=.bool (!decide (c=d)):=by have h:=pM (c:=c) d hd;injection h with h;show XG (!((c.toNat:Int)==(k:Int)))=_;rw[h]
theorem p8(s:Bs)(lo hi:Nat)(h:lo≤hi)(h2:hi≤s.length)(W:World):(Instr.sliceAt 9 (ae s) (some (.int .i64 (lo:Int))) (some (.int .i64 (hi:Int))) none).run prog W=.ok (ae ((s.take hi).drop lo)) W:=by have:=yW ⟨s.toArray⟩ lo hi h (by simpa[ByteArray.size]using h2) W;rw[Bu]at this;exact this
theorem Lv(p:UInt8→Bool){s:Bs}{i j:Nat}(hi:i≤s.length)(hj:i≤j∧j≤runN p s i):∃c,(decide (j < s.length)=true→s[j]?=some c)∧(decide (j < s.length)&&p c)=decide (j+1≤runN p s i):=by
 have hle:=nG p s i hi;by_cases hlt:j < runN p s i
 ·obtain⟨c,hc,hp⟩:=PA hj.1 hlt
  exact⟨c,fun _=>hc,by rw[hp,decide_eq_true (show j < s.length by omega),decide_eq_true (show j+1≤runN p s i by omega)];rfl⟩
 ·have he:runN p s i=j:=by omega
  by_cases hl:j < s.length
  ·obtain⟨c,hc,hp⟩:=Cr hi (by omega:runN p s i < s.length)
   rw[he]at hc;exact⟨c,fun _=>hc,by rw[hp,Bool.and_false,decide_eq_false (by omega)]⟩
  ·exact⟨0,fun h=>absurd (of_decide_eq_true h) hl,by rw[decide_eq_false hl,decide_eq_false (by omega)];rfl⟩
theorem RO{PP:List PanicEntry→World→Prop}(w:World)(s:Bs)(cm:Bool)(hs:s.length≤100000000)(i:Nat)(hi:i≤s.length)(acc:List Bs)(Kr:Sx.St→Prop)(j:Nat)(hj:i≤j∧j≤runN sB s i) :
  ∃H' L',Sx.lN prog f90.ntmps ⟨w,[],PP⟩ (Sx.a7 f90 0) H' L' ⟨oB s cm j,dw acc⟩ (Sx.dP (fun j=>i≤j∧j≤runN sB s i) (oB s cm) (fun _=>dw acc) (fun j=>j+1) (fun j=>s.length+1 - j) (fun(_:Unit)=>True) (fun _=>oB s cm (runN sB s i)) (fun _=>dw acc) (fun _=>()) (Sx.ej (Sx.a7 f90 0) - 1) Kr j):=by
 have hle:=nG sB s i hi;obtain⟨c,hc,st⟩:=Lv sB hi hj;obtain⟨e,hre⟩:∃e,runN sB s i=e:=⟨_,rfl⟩;rw[hre]at hj hle st ⊢;have c10:=gz s;have iB:XG (decide ((j:Int) < (s.length:Int)))=.bool (decide (j < s.length)):=yz rfl;have kq:XG ((c.toNat:Int)==32)=.bool (c==32):=pM 32 rfl;have c21:XG ((c.toNat:Int)==9)=.bool (c==9):=pM 9 rfl;have c25:=mW (i:=j) (by omega);unfold sB at st;have c15:=fun h=>kE s j c (hc h);generalize decide (j < s.length)=z at*;generalize (c==32)=n1 at*;generalize (c==9)=n2 at*;have hs':(z&&(n1||n2))=true→((i≤j+1∧j+1≤e)∧s.length+1 - (j+1) < s.length+1 - j∧oB s cm (j+1)=oB s cm (j+1)∧dw acc=dw acc):=fun h=>by rw[st,decide_eq_true_eq]at h;exact⟨⟨by omega,h⟩,by omega,rfl,rfl⟩
 have he:(z&&(n1||n2))=false→True∧oB s cm j=oB s cm e∧dw acc=dw acc:=fun h=>by rw[st,decide_eq_false_iff_not]at h;rw[show j=e by omega];exact⟨trivial,rfl,rfl⟩
 have CH:=Sx.t2 c10 iB (bA.mk (b:=!z) (fun h=>c15 (by cases z;cases h;rfl)) (bA.mk (b:=!z) (fun _=>kq) (bA.mk (b:=!z||n1) (fun h=>c15 (by cases z;cases h;rfl)) (bA.mk (b:=!z||n1) (fun _=>c21) (jZ.mk (b:=z&&(n1||n2)) (fun h=>XD c25 (hs' h)) he)))));refine⟨[(10,.is (.int .i64 (s.length:Int))),ao 11 z,(15,.bin (u8 c)),ao 16 n1,(20,.bin (u8 c)),ao 21 n2,cO 25 (j+1)],[],?_⟩;clear hs' he st c15 hc;cases z<;>cases n1<;>cases n2<;>exact Eq.mp (by kernel_rfl) CH
theorem RN{PP:List PanicEntry→World→Prop}(w:World)(s:Bs)(cm:Bool)(hs:s.length≤100000000)(i:Nat)(hi:i≤s.length)(acc:List Bs)(Kr:Sx.St→Prop)(j:Nat)(hj:i≤j∧j≤runN (wC cm) s i) :
  ∃H' L',Sx.lN prog f90.ntmps ⟨w,[],PP⟩ (Sx.a7 f90 1) H' L' ⟨mv s cm i j,dw acc⟩ (Sx.dP (fun j=>i≤j∧j≤runN (wC cm) s i) (mv s cm i) (fun _=>dw acc) (fun j=>j+1) (fun j=>s.length+1 - j) (fun(_:Unit)=>True) (fun _=>mv s cm i (runN (wC cm) s i)) (fun _=>dw acc) (fun _=>()) (Sx.ej (Sx.a7 f90 1) - 1) Kr j):=by
 have hle:=nG (wC cm) s i hi;obtain⟨c,hc,st⟩:=Lv (wC cm) hi hj;have Ea:=gz s;have c44:XG (decide ((j:Int) < (s.length:Int)))=.bool (decide (j < s.length)):=yz rfl;have c49:XG ((c.toNat:Int) !=32)=.bool (!(c==32)):=NW 32 rfl;have c55:XG ((c.toNat:Int) !=9)=.bool (!(c==9)):=NW 9 rfl;have c63:XG ((c.toNat:Int)==35)=.bool (c==35):=pM 35 rfl;have c68:=mW (i:=j) (by omega);have c48:=fun h=>kE s j c (hc h);obtain⟨e,hre⟩:∃e,runN (wC cm) s i=e:=⟨_,rfl⟩;rw[hre]at hj hle st ⊢;unfold wC sB at st;generalize decide (j < s.length)=z at*;generalize (c==32)=n1 at*;generalize (c==9)=n2 at*;generalize (c==35)=n3 at*;have hs':(z&&(!(n1||n2)&&!(cm&&n3)))=true→((i≤j+1∧j+1≤e)∧s.length+1 - (j+1) < s.length+1 - j∧mv s cm i (j+1)=mv s cm i (j+1)∧dw acc=dw acc):=fun h=>by rw[st,decide_eq_true_eq]at h;exact⟨⟨by omega,h⟩,by omega,rfl,rfl⟩
 have he:(z&&(!(n1||n2)&&!(cm&&n3)))=false→True∧mv s cm i j=mv s cm i e∧dw acc=dw acc:=fun h=>by rw[st,decide_eq_false_iff_not]at h;rw[show j=e by omega];exact⟨trivial,rfl,rfl⟩
 have CH:=Sx.t2 Ea c44 (bA.mk (b:=!z) (fun h=>c48 (by cases z;cases h;rfl)) (bA.mk (b:=!z) (fun _=>c49) (bA.mk (b:=!z||n1) (fun h=>c48 (by cases z;cases h;rfl)) (bA.mk (b:=!z||n1) (fun _=>c55) (bA.mk (b:=!z||n1||n2||!cm) (fun h=>c48 (by cases z;cases h;rfl)) (bA.mk (b:=!z||n1||n2||!cm) (fun _=>c63) (jZ.mk (b:=z&&(!(n1||n2)&&!(cm&&n3))) (fun h=>XD c68 (hs' h)) he)))))));refine⟨[(43,.is (.int .i64 (s.length:Int))),ao 44 z,(48,.bin (u8 c)),(49,.is (.bool !n1)),(54,.bin (u8 c)),(55,.is (.bool !n2)),(62,.bin (u8 c)),ao 63 n3,cO 68 (j+1)],[],?_⟩;clear hs' he st c48 hc hj hre;cases z<;>cases n1<;>cases n2<;>cases cm<;>cases n3<;>exact Eq.mp (by kernel_rfl) CH
def iC(s:Bs)(cm:Bool)(k:Nat×List Bs):Nat×List Bs:=(runN (wC cm) s (runN sB s k.1),k.2++[(s.take (runN (wC cm) s (runN sB s k.1))).drop (runN sB s k.1)])
def Uj(s:Bs)(cm:Bool)(k:Nat×List Bs):Prop:=k.1≤s.length∧k.2.length≤k.1∧k.2++my cm s k.1=my cm s 0
def O5(s:Bs)(cm:Bool)(l:List Sx.SV)(mem:List Sx.Row):Prop:=∃j,l=[.own j]∧mem[j]?=some ⟨9,.own 1 (aD cm s).length ((aD cm s).map ae)⟩
def Uy(s:Bs)(cm:Bool)(i:Nat)(acc:List Bs):Sx.Loop:=.mk Nat i (fun j=>i≤j∧j≤runN sB s i) (oB s cm) (fun _=>dw acc) (fun j=>j+1) (fun j=>s.length+1 - j) Unit (fun _=>True) (fun _=>oB s cm (runN sB s i)) (fun _=>dw acc) (fun _=>())
def Ux(s:Bs)(cm:Bool)(i:Nat)(acc:List Bs):Sx.Loop:=.mk Nat i (fun j=>i≤j∧j≤runN (wC cm) s i) (mv s cm i) (fun _=>dw acc) (fun j=>j+1) (fun j=>s.length+1 - j) Unit (fun _=>True) (fun _=>mv s cm i (runN (wC cm) s i)) (fun _=>dw acc) (fun _=>())
noncomputable def KQ:Code:=Sx.QK (Sx.GP (f90.body.getD .skip)) 0
structure Xu(s:Bs)(cm:Bool)(k:Nat×List Bs)(c:UInt8)(z zc:Bool):Prop where
 qz:XG ((runN sB s k.1:Int)==(s.length:Int))=.bool z
 vz:z=false→∀W:World,(Instr.index 9 (.string ⟨s.toArray⟩) (.int .i64 (runN sB s k.1:Int))).run prog W=.ok (u8 c) W
 yO:XG ((c.toNat:Int)==35)=.bool zc
 fin:(z||(cm&&zc))=true→O5 s cm [.own 0] (dw k.2)
 nx:(z||(cm&&zc))=false→Uj s cm (iC s cm k)∧s.length - (iC s cm k).1 < s.length - k.1
 nc:k.2.length≤1100000
 el:runN (wC cm) s (runN sB s k.1)≤s.length
theorem BX(s:Bs)(cm:Bool)(hs:s.length≤1100000)(k:Nat×List Bs)(hk:Uj s cm k):∃c z zc,Xu s cm k c z zc:=by
 have hi:=hk.1;have hbl:=nG sB s k.1 hi;have hsk:=EF cm s k.1;have hge:=nH sB s k.1;have hel:=nG (wC cm) s (runN sB s k.1) hbl;have nc:k.2.length≤1100000:=by have:=hk.2.1;omega
 have hfin:my cm s (runN sB s k.1)=[]→O5 s cm [.own 0] (dw k.2):=fun h=>by have:=hk.2.2;rw[hsk,h,X3]at this;exact⟨0,rfl,by rw[show aD cm s=k.2 from this.symm];rfl⟩
 by_cases hend:runN sB s k.1 < s.length
 ·obtain⟨c,hc,hp⟩:=Cr hi hend
  refine⟨c,false,_,qQ (by rw[beq_eq_false_iff_ne];omega),fun _=>kE s _ c hc,pM 35 rfl,fun h=>hfin ?_,fun h=>?_,nc,hel⟩
  ·rw[X7,XS,decide_eq_true_eq]at h
   rw[h.1];exact EG s _ (by rw[hc,h.2])
  ·have hw:wC cm c=true:=by
    unfold wC;rw[hp,show(c==35)=decide (c=35)from rfl];rw[X7]at h;rw[h];rfl
   have hwd:=EE cm s (runN sB s k.1) hc hw;have hgt:=Lw hc hw;refine⟨⟨hel,?_,?_⟩,by show s.length - runN (wC cm) s (runN sB s k.1) < _; omega⟩
   ·have:=hk.2.1
    simp only[iC,XH,XY];omega
   ·have:=hk.2.2
    rw[hsk,hwd]at this;rw[←this];simp[iC]
 ·have hb:runN sB s k.1=s.length:=by omega
  exact⟨0,true,_,rY (by rw[hb];simp),fun h=>(by cases h),pM 35 rfl,fun _=>hfin (by rw[hb];exact Ix _ _),fun h=>(by cases h),nc,hel⟩
theorem O4{PP:List PanicEntry→World→Prop}(w:World)(s:Bs)(cm:Bool)(hs:s.length≤1100000)(k:Nat×List Bs)(hk:Uj s cm k) :
  ∃H' L',Sx.lN prog f90.ntmps ⟨w,[],PP⟩ KQ H' L' ⟨oB s cm k.1,dw k.2⟩ (Sx.Dn 0 (Uj s cm) (fun k=>oB s cm k.1) (fun k=>dw k.2) (s.length - (iC s cm k).1 < s.length - k.1) (iC s cm k) (Sx.fm prog f90 (O5 s cm))):=by
 have hi:=hk.1;have hs':s.length≤100000000:=by omega
 obtain⟨c,z,zc,qz,vz,yO,fin,nx,nc,el⟩:=BX s cm hs k hk;have c73:=p8 s (runN sB s k.1) (runN (wC cm) s (runN sB s k.1)) (nH _ _ _) el;have c75:=jX (cells:=[ae ((s.take (runN (wC cm) s (runN sB s k.1))).drop (runN sB s k.1))]) (size:=1) (len:=k.2.length) (B:=bytesOf 9) (by kernel_rfl) (by kernel_rfl) nc (by decide+kernel);have wn:GA s cm 2 (runN (wC cm) s (runN sB s k.1))=GA s cm 2 (iC s cm k).1∧[(⟨9,.own 1 (k.2.length+1) (k.2.map ae++[ae ((s.take (runN (wC cm) s (runN sB s k.1))).drop (runN sB s k.1))])⟩:Sx.Row)]=dw (iC s cm k).2:=⟨rfl,by simp[dw,iC]⟩;have iZ:=RO (PP:=PP) w s cm hs' k.1 hi k.2 (Sx.fm prog f90 (O5 s cm) .ret);have rd7:=RN (PP:=PP) w s cm hs' (runN sB s k.1) (nG _ _ _ hi) k.2 (Sx.fm prog f90 (O5 s cm) .ret);have CH:=Sx.t2 (XD (Xz k.1) (nH sB s k.1)) (show oB s cm k.1=oB s cm k.1∧dw k.2=dw k.2 from⟨rfl,rfl⟩) (XD iZ (fun(_:Unit) (_:True)=>Sx.t2 (gz s) qz (bA.mk (b:=z||!cm) (fun h=>vz (by cases z;rfl;cases h)) (bA.mk (b:=z||!cm) (fun _=>yO) (jZ.mk (b:=z||(cm&&zc)) fin (fun h=>Sx.t2 (XD (Xz (runN sB s k.1)) (nH (wC cm) s (runN sB s k.1))) (show mv s cm (runN sB s k.1) (runN sB s k.1)=mv s cm (runN sB s k.1) (runN sB s k.1)∧dw k.2=dw k.2 from⟨rfl,rfl⟩) (XD rd7 (fun(_:Unit) (_:True)=>XD c73 (XD c75 (XD (nx h).2 (XD (nx h).1 wn)))))))))));refine⟨[(28,.is (.int .i64 (s.length:Int))),ao 29 z,(35,.bin (u8 c)),ao 36 zc,(73,.bin (ae ((s.take (runN (wC cm) s (runN sB s k.1))).drop (runN sB s k.1))))],[Uy s cm k.1 k.2,Ux s cm (runN sB s k.1) k.2],?_⟩;clear wn qz vz yO fin nx nc el iZ rd7 c73 c75;cases z<;>cases cm<;>cases zc<;>exact Eq.mp (by kernel_rfl) CH
def T9(s:Bs)(cm:Bool)(w:World)(e:Ending)(w':World):Prop:=∃(A:Option Go.Addr) (cc:Nat),e=.returned (.slice A (aD cm s).length cc)∧Own w' 9 1 (.slice A (aD cm s).length cc) (aD cm s).length ((aD cm s).map ae)∧(∀k,A.map (·.block)=some k→w.heap.size≤k)∧ai [] w w'
theorem O2(w:World)(s:Bs)(cm:Bool)(hs:s.length≤1100000):Calls prog 90 #[ae s,.bool cm] w (T9 s cm w):=by
 have key:Calls prog 90 #[ae s,.bool cm] w (Sx.cN ⟨w,[],fun _ _=>False⟩ (O5 s cm)):=by
  have hF:=Sx.gI (w:=w) (S:=[]) (PP:=fun _ _=>False) (G:=[]) (fun q hq=>by cases hq) (fun q hq=>by cases hq) (by simp);have hk:Uj s cm (0,[]):=⟨Yb _,Xz _,rfl⟩;have first:=Sx.Ga (args:=[.val (ae s),.val (.bool cm)]) hF 0 (iC s cm (0,[])) (Uj s cm) (fun k=>oB s cm k.1) (fun k=>dw k.2) (iC s cm) (fun k=>s.length - k.1) [] (P:=prog) (fn:=f90) (a0:=Sx.Ty (f90.body.getD .skip)) (c:=Sx.GP (f90.body.getD .skip)) (f:=90) (rest:=KQ) (R:=O5 s cm)
  have hs':s.length≤100000000:=by omega
  replace first:=fun H L hx=>first H L (by kernel_rfl) func90 rfl (by kernel_rfl) (bN rfl) rfl (O4 w s cm hs) hx
  obtain⟨c,z,zc,qz,vz,yO,fin,nx,nc,el⟩:=BX s cm hs _ hk;have hi:=hk.1;have c73:=p8 s (runN sB s 0) (runN (wC cm) s (runN sB s 0)) (nH _ _ _) el;have c75:=jX (cells:=[ae ((s.take (runN (wC cm) s (runN sB s 0))).drop (runN sB s 0))]) (size:=1) (len:=([]:List Bs).length) (B:=bytesOf 9) (by kernel_rfl) (by kernel_rfl) nc (by decide+kernel);have wn:GA s cm 2 (runN (wC cm) s (runN sB s 0))=GA s cm 2 (iC s cm (0,[])).1∧[(⟨9,.own 1 (([]:List Bs).length+1) (([]:List Bs).map ae++[ae ((s.take (runN (wC cm) s (runN sB s 0))).drop (runN sB s 0))])⟩:Sx.Row)]=dw (iC s cm (0,[])).2:=⟨rfl,by simp[dw,iC]⟩;have iZ:=RO (PP:=fun _ _=>False) w s cm hs' 0 hi [] (Sx.fm prog f90 (O5 s cm) .ret);have rd7:=RN (PP:=fun _ _=>False) w s cm hs' (runN sB s 0) (nG _ _ _ hi) [] (Sx.fm prog f90 (O5 s cm) .ret);have CH:=Sx.t2 (XD (Xz 0) (nH sB s 0)) (show oB s cm 0=oB s cm 0∧dw []=dw []from⟨rfl,rfl⟩) (XD iZ (fun(_:Unit) (_:True)=>Sx.t2 (gz s) qz (bA.mk (b:=z||!cm) (fun h=>vz (by cases z;rfl;cases h)) (bA.mk (b:=z||!cm) (fun _=>yO) (jZ.mk (b:=z||(cm&&zc)) fin (fun h=>Sx.t2 (XD (Xz (runN sB s 0)) (nH (wC cm) s (runN sB s 0))) (show mv s cm (runN sB s 0) (runN sB s 0)=mv s cm (runN sB s 0) (runN sB s 0)∧dw []=dw []from⟨rfl,rfl⟩) (XD rd7 (fun(_:Unit) (_:True)=>XD c73 (XD c75 (XD trivial (XD (nx h).1 wn)))))))))));refine first [(5,.jG 9 1),(28,.is (.int .i64 (s.length:Int))),ao 29 z,(35,.bin (u8 c)),ao 36 zc,(73,.bin (ae ((s.take (runN (wC cm) s (runN sB s 0))).drop (runN sB s 0))))] [Uy s cm 0 [],Ux s cm (runN sB s 0) []] ?_
  clear wn qz vz yO fin nx nc el iZ rd7 c73 c75 first
  cases z<;>cases cm<;>cases zc<;>exact Eq.mp (by kernel_rfl) CH
 refine key.mono fun e w' hp=>?_;rcases hp with⟨β,l,mem,⟨j,rfl,hm⟩,he,hR⟩ | ⟨_,_,hf,_⟩
 ·have h0:β.n j=(aD cm s).length∧Own w' 9 1 (.slice (β.a j) (aD cm s).length (β.c j)) (aD cm s).length ((aD cm s).map ae):=hR.held j _ hm
  refine⟨β.a j,β.c j,?_,h0.2,fun k hk=>?_,hR.aJ⟩
  ·rw[he]
   show Ending.returned (.slice (β.a j) (β.n j) (β.c j))=_;rw[h0.1]
  ·rcases hR.new j _ k hm hk with hx|hx
   ·cases hx
   ·exact hx
 ·exact hf.elim
set_option maxRecDepth 100000
open Go.RowKit Go.Lib Go.Sort _root_.Go.Proofs.Tryz
set_option maxRecDepth 100000
theorem nr(cm:Bool):∀(l cur:Bs),(bB cm cur l).length≤l.length+(if cur=[] then 0 else 1)∧∀x∈bB cm cur l,x.length≤cur.length+l.length
 | [],cur=>by
  unfold bB;by_cases h:cur=[]
  ·simp[h]
  ·simp[h]
 |c::l,cur=>by
  unfold bB;have h0:=nr cm l [];have h1:=nr cm l (cur++[c]);rw[if_neg (by simp:¬cur++[c]=[])]at h1;rw[if_pos rfl]at h0;simp only[XH,XY,XV]at h0 h1;split
  ·by_cases h:cur=[]
   ·simp[h]
   ·rw[if_neg h]
    refine⟨by simp[h],fun x hx=>?_⟩;rw[XA.1 hx];simp
  ·split
   ·by_cases h:cur=[]
    ·rw[if_pos h]
     refine⟨by simp[h];omega,fun x hx=>?_⟩;have:=h0.2 x hx;simp[h];omega
    ·rw[if_neg h]
     refine⟨by simp[h];omega,fun x hx=>?_⟩;rcases XF.1 hx with rfl|hx
     ·omega
     ·have:=h0.2 x hx;simp;omega
   ·refine⟨by have:=h1.1;simp;split<;>omega,fun x hx=>?_⟩
    have:=h1.2 x hx;simp;omega
theorem BW(cm:Bool)(s:Bs):(aD cm s).length≤s.length∧∀x∈aD cm s,x.length≤s.length:=by have:=nr cm s [];simpa[aD]using this
theorem J3(N:Nat)(w:World):Calls prog 92 #[.iface 103 (.pointer (some ⟨N,0,none⟩))] w fun e w'=>e=.returned (.iface 103 (.pointer (some ⟨N,0,none⟩)))∧w'=w:=by
 have hta:∀w,(Instr.typeAssert (.iface 103 (.pointer (some ⟨N,0,none⟩))) 20 103 true).run prog w=.ok (.tuple #[.pointer (some ⟨N,0,none⟩),.bool true]) w:=fun w=>by kernel_rfl
 go_enter func92,ntmps92
 go_wp2
 go_ret
 exact⟨rfl,rfl⟩
theorem Kl(p:Go.Addr)(N:Nat)(older:List PanicEntry)(w:World)(hc:w.cell? p=some .nilIface)(hz:w.frozen? p=false) :
  CallsD prog 130 #[.pointer (some p)] (.panicking ({ v:=.iface 103 (.pointer (some ⟨N,0,none⟩)),recovered:=false }::older)) w fun e u' w'=>e=.returned (.tuple #[])∧u'=.panicking ({ v:=.iface 103 (.pointer (some ⟨N,0,none⟩)),recovered:=true }::older)∧w'=w.setCell p (.iface 103 (.pointer (some ⟨N,0,none⟩))):=by
 refine callsD_of_wpS func130 rfl fun c₀ cs hu=>?_;apply wpS_seq;apply wpS_region;simp[wpOpsS,go_sem,recoverD,hu,ntmps130,Exit.thenS];apply wpS_seq;apply wpS_region;simp[wpOpsS,go_sem,Exit.thenS];refine wpS_cond (t:=true) (by simp[Act.eval,XT]) ?_;simp only[if_true];refine wpS_of_wp ?_;go_wp2_with (go_at_call 92;refine(J3 N _).mono ?_;rintro e w2 ⟨rfl,rfl⟩)
 cases c₀;simp_all[bodyPostS,results,results130]
theorem D5(p:Go.Addr)(w:World) :
  CallsD prog 130 #[.pointer (some p)] .returning w fun e u' w'=>e=.returned (.tuple #[])∧u'=.returning∧w'=w:=by
 refine callsD_of_wpS func130 rfl fun c₀ cs hu=>?_;apply wpS_seq;apply wpS_region;simp[wpOpsS,go_sem,recoverD,hu,ntmps130,Exit.thenS];apply wpS_seq;apply wpS_region;simp[wpOpsS,go_sem,Exit.thenS];refine wpS_cond (t:=false) (by simp[Act.eval,XT]) ?_;simp only[Bool.false_eq_true,if_false];refine wpS_of_wp (wp_skip ?_);cases c₀;simp_all[bodyPostS,results,results130]
open Go.RowKit Go.Lib Go.Sort
def cy(gc gd:Nat)(s:gU):List Nat:=[some gc,some gd,s.p.A.map (·.block),s.r.A.map (·.block),s.l.A.map (·.block),s.m.A.map (·.block),s.i.A.map (·.block)].filterMap id
theorem jI(g gc gd:Nat)(s:gU):Dw g gc gd s=g::cy gc gd s:=rfl
structure V0(w:World)(gc gd:Nat)(cf:CF)(d:Nat)(s:gU):Prop where
 at_:qI w gc cf s
 bd:aw w gd 3 [.int .i64 (d:Int)]
 nd:(cy gc gd s).Nodup
 nc:cf.aj.length≤1100000∧cf.af.length≤1100000∧cf.rules.length≤1100000∧cf.ag.length≤1100000∧cf.ab.length≤1100000
 V8:d≤1100000
 yA:eF w
 s9:∀k∈cy gc gd s,9≤k
theorem dY{gc gd:Nat}{s:gU}{k:Nat}:k∈cy gc gd s↔k=gc∨k=gd∨s.p.A.map (·.block)=some k∨s.r.A.map (·.block)=some k∨s.l.A.map (·.block)=some k∨s.m.A.map (·.block)=some k∨s.i.A.map (·.block)=some k:=by
 unfold cy;simp only[Xy,XF,X1,or_false,id_eq];constructor
 ·rintro⟨o,ho,hk⟩
  subst hk;rcases ho with h|h|h|h|h|h|h
  ·injection h with h;exact .inl h
  ·injection h with h;exact .inr (.inl h)
  ·exact .inr (.inr (.inl h.symm))
  ·exact .inr (.inr (.inr (.inl h.symm)))
  ·exact .inr (.inr (.inr (.inr (.inl h.symm))))
  ·exact .inr (.inr (.inr (.inr (.inr (.inl h.symm)))))
  ·exact .inr (.inr (.inr (.inr (.inr (.inr h.symm)))))
 ·rintro(rfl|rfl|h|h|h|h|h)
  ·exact⟨_,.inl rfl,rfl⟩
  ·exact⟨_,.inr (.inl rfl),rfl⟩
  ·exact⟨_,.inr (.inr (.inl rfl)),h⟩
  ·exact⟨_,.inr (.inr (.inr (.inl rfl))),h⟩
  ·exact⟨_,.inr (.inr (.inr (.inr (.inl rfl)))),h⟩
  ·exact⟨_,.inr (.inr (.inr (.inr (.inr (.inl rfl))))),h⟩
  ·exact⟨_,.inr (.inr (.inr (.inr (.inr (.inr rfl))))),h⟩
theorem gv(A:Option Go.Addr)(n c:Nat):(Value.slice A n c).ownBlock=A.map (·.block):=by cases A<;>rfl
theorem qI.lt{w:World}{gc gd:Nat}{cf:CF}{d:Nat}{s:gU}(h:qI w gc cf s)(hb:aw w gd 3 [.int .i64 (d:Int)]):∀k∈cy gc gd s,k < w.heap.size:=fun k hk=>by
 rcases dY.1 hk with rfl|rfl|hk|hk|hk|hk|hk
 ·exact h.cw.lt
 ·exact hb.lt
 ·exact h.p.lt k ((gv _ _ _).trans hk)
 ·exact h.r.lt k ((gv _ _ _).trans hk)
 ·exact h.l.lt k ((gv _ _ _).trans hk)
 ·exact h.m.lt k ((gv _ _ _).trans hk)
 ·exact h.i.lt k ((gv _ _ _).trans hk)
theorem qI.aJ{w w':World}{gc gd:Nat}{cf:CF}{s:gU}(h:qI w gc cf s){S:List Nat}(hc:ai S w w')(hS:∀k∈cy gc gd s,k∉S):qI w' gc cf s:=
 ⟨h.cw.aJ hc (hS _ (dY.2 (.inl rfl))),h.p.aJ hc fun k hk=>hS k (dY.2 (.inr (.inr (.inl ((gv _ _ _).symm.trans hk))))),h.r.aJ hc fun k hk=>hS k (dY.2 (.inr (.inr (.inr (.inl ((gv _ _ _).symm.trans hk)))))),
  h.l.aJ hc fun k hk=>hS k (dY.2 (.inr (.inr (.inr (.inr (.inl ((gv _ _ _).symm.trans hk))))))),h.m.aJ hc fun k hk=>hS k (dY.2 (.inr (.inr (.inr (.inr (.inr (.inl ((gv _ _ _).symm.trans hk)))))))),h.i.aJ hc fun k hk=>hS k (dY.2 (.inr (.inr (.inr (.inr (.inr (.inr ((gv _ _ _).symm.trans hk)))))))) ⟩
def BQ(l:Bs)(gc gd:Nat)(cf:CF)(d:Nat)(s:gU)(w:World)(e:Ending)(w':World):Prop:=
 (∃cf' i s',ef (aD true l) cf d=.ok cf' i∧e=.returned .nilIface∧qI w' gc cf' s'∧aw w' gd 3 [.int .i64 (dN (aD true l) d:Nat)]∧(cy gc gd s').Nodup∧(∀k∈cy gc gd s',k∈cy gc gd s∨w.heap.size≤k)∧ai (cy gc gd s) w w')∨
 (∃code p N:Nat,ef (aD true l) cf d=.no code p∧e=.returned (.iface 103 ((pt N 0)))∧w.heap.size≤N∧aw w' N 105 [.int .i64 (code:Int),.int .i64 (p:Int)]∧ai (cy gc gd s) w w')
theorem Gz{w w':World}{A:Option Go.Addr}{n c:Nat}{ws:List Bs}{S:List Nat}(h:Own w 9 1 (.slice A n c) n (ws.map ae))(hl:ws.length=n)(hc:ai [] w w')(hS:∀k,A.map (·.block)=some k→k∉S):BO w' S A n ws:=by
 refine⟨hl,fun h0=>?_⟩;rcases h.2 with⟨hv,h1⟩ | ⟨g,o,c',L,hv,hg,hn,hcm,hL,hx⟩
 ·omega
 ·injection hv with h1 h2 h3
  subst h1;refine⟨g,o,rfl,hS g rfl,X0 hg.lt hc.size,fun j x hj=>?_⟩;have hg':=hg.aJ hc (by simp);have hjn:j < n:=by rw[←hl];exact(XB.1 hj).1
  refine hg'.cell_of ?_;have e1:((L.drop o).take (n*1))[j]?=some (ae x):=by rw[hx,List.getElem?_map,hj];rfl
  rw[List.getElem?_take,if_pos (by omega),List.getElem?_drop]at e1;exact e1
def dv(tg:Option Nat)(cs:List Sx.SV):Sx.Row:=match tg with
 |some g=>⟨46,.j5 g cs⟩
 |none=>⟨46,.dK cs⟩
def mZ(tg:Option Nat)(d:Nat):Sx.Row:=match tg with
 |some g=>⟨3,.dG g [.int .i64 (d:Int)]⟩
 |none=>⟨3,.an [.int .i64 (d:Int)]⟩
def eX(k0 k1 k2 k3 k4:Nat)(cf:CF):List Sx.SV:=[.own k0,.own k1,.own k2,.own k3,.own k4,.val (.int .i64 cf.aZ)]
structure vC(row:Nat→Option Sx.Row)(tc:Option Nat)(rd:Sx.Row)(kc kd k0 k1 k2 k3 k4:Nat)(cf:CF):Prop where
 c:row kc=some (dv tc (eX k0 k1 k2 k3 k4 cf))
 d:row kd=some rd
 p:row k0=some ⟨3,.own 1 cf.aj.length cf.cp⟩
 r:row k1=some ⟨118,.own 19 cf.af.length cf.cr⟩
 l:row k2=some ⟨81,.own 49 cf.rules.length cf.cl⟩
 m:row k3=some ⟨122,.own 4 cf.ag.length cf.cm⟩
 i:row k4=some ⟨124,.own 3 cf.ab.length cf.ci⟩
abbrev yx(row:Nat→Option Sx.Row)(tc td:Option Nat)(kc kd k0 k1 k2 k3 k4:Nat)(cf:CF)(d:Nat):Prop:=vC row tc (mZ td d) kc kd k0 k1 k2 k3 k4 cf
def kK(β:Sx.Env)(k0 k1 k2 k3 k4:Nat):gU:=⟨⟨β.a k0,β.c k0⟩,⟨β.a k1,β.c k1⟩,⟨β.a k2,β.c k2⟩,⟨β.a k3,β.c k3⟩,⟨β.a k4,β.c k4⟩⟩
theorem Ke{β:Sx.Env}{W:World}{tc:Option Nat}{kc:Nat}{cs:List Sx.SV}(h:Sx.br β W kc (dv tc cs)):aw W (β kc) 46 (cs.map (Sx.SV.den β))∧∀g,tc=some g→β kc=g:=by
 cases tc with
 |some g=>exact⟨h.2,fun g' hg=>by cases hg;exact h.1⟩
 |none=>exact⟨h,fun g hg=>by cases hg⟩
theorem JW{β:Sx.Env}{W:World}{tc:Option Nat}{kc:Nat}{cs:List Sx.SV}(h:aw W (β kc) 46 (cs.map (Sx.SV.den β)))(ht:∀g,tc=some g→β kc=g):Sx.br β W kc (dv tc cs):=by
 cases tc with
 |some g=>exact⟨ht g rfl,h⟩
 |none=>exact h
theorem QU{β:Sx.Env}{W:World}{td:Option Nat}{kd d:Nat}(h:Sx.br β W kd (mZ td d)):aw W (β kd) 3 [.int .i64 (d:Int)]∧∀g,td=some g→β kd=g:=by
 cases td with
 |some g=>exact⟨h.2,fun g' hg=>by cases hg;exact h.1⟩
 |none=>exact⟨h,fun g hg=>by cases hg⟩
theorem QP{β:Sx.Env}{W:World}{td:Option Nat}{kd d:Nat}(h:aw W (β kd) 3 [.int .i64 (d:Int)])(ht:∀g,td=some g→β kd=g):Sx.br β W kd (mZ td d):=by
 cases td with
 |some g=>exact⟨ht g rfl,h⟩
 |none=>exact h
theorem sX{β:Sx.Env}{tc:Option Nat}{kc:Nat}{cs:List Sx.SV}:Sx.az β kc (dv tc cs)=some (β kc):=by cases tc<;>rfl
theorem FR{β:Sx.Env}{td:Option Nat}{kd d:Nat}:Sx.az β kd (mZ td d)=some (β kd):=by cases td<;>rfl
def Wb(β:Sx.Env)(kc kd k0 k1 k2 k3 k4:Nat):List (Nat×Option Nat):=[(kc,some (β kc)),(kd,some (β kd)),(k0,(β.a k0).map (·.block)),(k1,(β.a k1).map (·.block)),(k2,(β.a k2).map (·.block)),(k3,(β.a k3).map (·.block)),(k4,(β.a k4).map (·.block))]
theorem Il{b:Sx.bu}{β:Sx.Env}{W:World}{row:Nat→Option Sx.Row}{iT:List Nat}{tc:Option Nat}{rd:Sx.Row}{kc kd k0 k1 k2 k3 k4:Nat}{cf:CF}(hS:Sx.fD b β W row iT)(h:vC row tc rd kc kd k0 k1 k2 k3 k4 cf)(hrd:Sx.az β kd rd=some (β kd))(hs:∀k∈[kc,kd,k0,k1,k2,k3,k4],k∈iT)(hn:[kc,kd,k0,k1,k2,k3,k4].Nodup) :
  qI W (β kc) cf (kK β k0 k1 k2 k3 k4)∧(cy (β kc) (β kd) (kK β k0 k1 k2 k3 k4)).Nodup∧(∀k∈cy (β kc) (β kd) (kK β k0 k1 k2 k3 k4),k∈b.S∨b.w.heap.size≤k):=by
 have c:=Ke (hS.held kc (hs _ (by simp)) _ h.c);have p:β.n k0=cf.aj.length∧Own W 3 1 (.slice (β.a k0) cf.aj.length (β.c k0)) cf.aj.length cf.cp:=hS.held k0 (hs _ (by simp)) _ h.p;have r:β.n k1=cf.af.length∧Own W 118 19 (.slice (β.a k1) cf.af.length (β.c k1)) cf.af.length cf.cr:=hS.held k1 (hs _ (by simp)) _ h.r;have l:β.n k2=cf.rules.length∧Own W 81 49 (.slice (β.a k2) cf.rules.length (β.c k2)) cf.rules.length cf.cl:=hS.held k2 (hs _ (by simp)) _ h.l;have m:β.n k3=cf.ag.length∧Own W 122 4 (.slice (β.a k3) cf.ag.length (β.c k3)) cf.ag.length cf.cm:=hS.held k3 (hs _ (by simp)) _ h.m;have i:β.n k4=cf.ab.length∧Own W 124 3 (.slice (β.a k4) cf.ab.length (β.c k4)) cf.ab.length cf.ci:=hS.held k4 (hs _ (by simp)) _ h.i;have hb:aw W (β kc) 46 [.slice (β.a k0) cf.aj.length (β.c k0),.slice (β.a k1) cf.af.length (β.c k1),.slice (β.a k2) cf.rules.length (β.c k2),.slice (β.a k3) cf.ag.length (β.c k3),.slice (β.a k4) cf.ab.length (β.c k4),.int .i64 cf.aZ]:=by have:=c.1;have hh:(eX k0 k1 k2 k3 k4 cf).map (Sx.SV.den β)=[β.sl k0,β.sl k1,β.sl k2,β.sl k3,β.sl k4,.int .i64 cf.aZ]:=rfl;rw[hh]at this;unfold Sx.Env.sl at this;rw[p.1,r.1,l.1,m.1,i.1]at this;exact this
 have rows:∀x∈Wb β kc kd k0 k1 k2 k3 k4,∀k,x.2=some k→x.1∈iT∧∃r,row x.1=some r∧Sx.az β x.1 r=some k:=by
  intro x hx k hk;simp only[Wb,XF,X1,or_false]at hx;rcases hx with rfl|rfl|rfl|rfl|rfl|rfl|rfl
  ·exact⟨hs _ (by simp),_,h.c,sX.trans hk⟩
  ·exact⟨hs _ (by simp),_,h.d,hrd.trans hk⟩
  ·exact⟨hs _ (by simp),_,h.p,hk⟩
  ·exact⟨hs _ (by simp),_,h.r,hk⟩
  ·exact⟨hs _ (by simp),_,h.l,hk⟩
  ·exact⟨hs _ (by simp),_,h.m,hk⟩
  ·exact⟨hs _ (by simp),_,h.i,hk⟩
 have nd:∀(l:List (Nat×Option Nat)),(l.map (·.1)).Nodup→(∀x∈l,∀k,x.2=some k→x.1∈iT∧∃r,row x.1=some r∧Sx.az β x.1 r=some k)→((l.map (·.2)).filterMap id).Nodup:=by
  intro l;induction l with
  |nil=>intro _ _;simp
  |cons x l ih=>
   intro hn hr;rw[XW,XC]at hn;have ih:=ih hn.2 fun y hy=>hr y (XE _ hy);cases hx:x.2 with
   |none=>simpa[hx]using ih
   |some k=>
    have e:((x::l).map (·.2)).filterMap id=k::(l.map (·.2)).filterMap id:=by simp[hx]
    rw[e,XC];refine⟨fun hk=>?_,ih⟩;obtain⟨o,ho,hok⟩:=Xy.1 hk;obtain⟨y,hy,rfl⟩:=XO.1 ho;obtain⟨s1,r1,h1,h2⟩:=hr x (by simp) k hx;obtain⟨s2,r2,h3,h4⟩:=hr y (XE _ hy) k hok;have:=hS.inj _ s1 _ s2 _ _ _ h1 h3 h2 h4;exact hn.1 (XO.2 ⟨y,hy,this.symm⟩)
 refine⟨⟨hb,p.2,r.2,l.2,m.2,i.2⟩,nd (Wb β kc kd k0 k1 k2 k3 k4) hn rows,fun k hk=>?_⟩;obtain⟨o,ho,hok⟩:=Xy.1 hk;have hm:o∈(Wb β kc kd k0 k1 k2 k3 k4).map (·.2):=ho;obtain⟨x,hx,rfl⟩:=XO.1 hm;obtain⟨hsee,r,hr,hbk⟩:=rows x hx k hok;exact hS.new x.1 hsee r k hr hbk
theorem NQ{b:Sx.bu}{β:Sx.Env}{W:World}{row:Nat→Option Sx.Row}{iT:List Nat}{tc td:Option Nat}{kc kd k0 k1 k2 k3 k4:Nat}{cf:CF}{d:Nat}(hS:Sx.fD b β W row iT)(h:yx row tc td kc kd k0 k1 k2 k3 k4 cf d)(hs:∀k∈[kc,kd,k0,k1,k2,k3,k4],k∈iT)(hn:[kc,kd,k0,k1,k2,k3,k4].Nodup) :
  qI W (β kc) cf (kK β k0 k1 k2 k3 k4)∧aw W (β kd) 3 [.int .i64 (d:Int)]∧(cy (β kc) (β kd) (kK β k0 k1 k2 k3 k4)).Nodup∧(∀k∈cy (β kc) (β kd) (kK β k0 k1 k2 k3 k4),k∈b.S∨b.w.heap.size≤k):=
 let ⟨a,c,e⟩:=Il hS h FR hs hn
 ⟨a,(QU (hS.held kd (hs _ (by simp)) _ h.d)).1,c,e⟩
def aL(β:Sx.Env)(m:Nat)(cf:CF)(s:gU):Sx.Env:=
 ⟨β.b,fun i=>if i=m then s.p.A else if i=m+1 then s.r.A else if i=m+2 then s.l.A else if i=m+3 then s.m.A else if i=m+4 then s.i.A else β.a i,
  fun i=>if i=m then cf.aj.length else if i=m+1 then cf.af.length else if i=m+2 then cf.rules.length else if i=m+3 then cf.ag.length else if i=m+4 then cf.ab.length else β.n i,
  fun i=>if i=m then s.p.c else if i=m+1 then s.r.c else if i=m+2 then s.l.c else if i=m+3 then s.m.c else if i=m+4 then s.i.c else β.c i⟩
def TP(tc:Option Nat)(rd:Sx.Row)(kx:List Nat)(kc kd k0 k1 k2 k3 k4 m:Nat)(cf:CF)(v:Value)(phi:Option Prop):Sx.cS:=
 ⟨kx++[kc,kd,k0,k1,k2,k3,k4],[(kc,dv tc (eX m (m+1) (m+2) (m+3) (m+4) cf)),(kd,rd)],kx++[k0,k1,k2,k3,k4],bX cf,.val v,phi⟩
theorem D3{β:Sx.Env}{W w':World}{row:Nat→Option Sx.Row}{tc:Option Nat}{rd rd':Sx.Row}{kx:List Nat}{kc kd k0 k1 k2 k3 k4 m:Nat}{cf cf':CF}{s':gU}{v:Value}{e:Ending}{phi:Option Prop}{X:List Nat}
  (h:vC row tc rd kc kd k0 k1 k2 k3 k4 cf) (hrd:Sx.az β kd rd=some (β kd)) (htc:∀g,tc=some g→β kc=g)
  (he:e=.returned v) (hcf:qI w' (β kc) cf' s') (hbd:Sx.br (aL β m cf' s') w' kd rd') (hnd:(cy (β kc) (β kd) s').Nodup)
  (hX:∀k∈X,∃i∈kx,Sx.cQ β row i=some k)
  (hfrom:∀k∈cy (β kc) (β kd) s',k∈X++cy (β kc) (β kd) (kK β k0 k1 k2 k3 k4)∨W.heap.size≤k) (hc:ai (X++cy (β kc) (β kd) (kK β k0 k1 k2 k3 k4)) W w') :
  Sx.BT β W row m (TP tc rd' kx kc kd k0 k1 k2 k3 k4 m cf' v phi) e w' (aL β m cf' s'):=by
 have bk:∀{i:Nat} {r:Sx.Row} {k:Nat},row i=some r→Sx.az β i r=some k→Sx.cQ β row i=some k:=fun {i r k} hi hk=>by unfold Sx.cQ;rw[hi];exact hk
 have eG:∀k∈X++cy (β kc) (β kd) (kK β k0 k1 k2 k3 k4),k∈Sx.cS.eG β row (TP tc rd' kx kc kd k0 k1 k2 k3 k4 m cf' v phi):=fun k hk=>by
  show k∈([kc,kd]++(kx++[k0,k1,k2,k3,k4])).filterMap (Sx.cQ β row);rcases XU.1 hk with hk|hk
  ·obtain⟨i,hi,hb⟩:=hX k hk
   exact Xy.2 ⟨i,by simp[hi],hb⟩
  ·rcases dY.1 hk with rfl|rfl|hk|hk|hk|hk|hk
   ·exact Xy.2 ⟨kc,by simp,bk h.c sX⟩
   ·exact Xy.2 ⟨kd,by simp,bk h.d hrd⟩
   ·exact Xy.2 ⟨k0,by simp,bk h.p hk⟩
   ·exact Xy.2 ⟨k1,by simp,bk h.r hk⟩
   ·exact Xy.2 ⟨k2,by simp,bk h.l hk⟩
   ·exact Xy.2 ⟨k3,by simp,bk h.m hk⟩
   ·exact Xy.2 ⟨k4,by simp,bk h.i hk⟩
 have ea:∀j,j < 5→(aL β m cf' s').a (m+j)=[s'.p.A,s'.r.A,s'.l.A,s'.m.A,s'.i.A].getD j none:=fun j hj=>by
  match j,hj with
  | 0,_=>simp[aL]
  | 1,_=>simp[aL]
  | 2,_=>simp[aL]
  | 3,_=>simp[aL]
  | 4,_=>simp[aL]
 have cells:(eX m (m+1) (m+2) (m+3) (m+4) cf').map (Sx.SV.den (aL β m cf' s'))=[.slice s'.p.A cf'.aj.length s'.p.c,.slice s'.r.A cf'.af.length s'.r.c,.slice s'.l.A cf'.rules.length s'.l.c,.slice s'.m.A cf'.ag.length s'.m.c,.slice s'.i.A cf'.ab.length s'.i.c,.int .i64 cf'.aZ]:=by simp[eX,Sx.SV.den,Sx.Env.sl,aL]
 have own5:∀(j:Nat) (r:Sx.Row) (x:Nat),(bX cf')[j]?=some r→Sx.az (aL β m cf' s') (m+j) r=some x→j < 5∧([s'.p.A,s'.r.A,s'.l.A,s'.m.A,s'.i.A].getD j none).map (·.block)=some x:=fun j r x hr hx=>by
  have hj:j < 5:=(XB.1 hr).1;refine⟨hj,?_⟩;rw[←ea j hj];match j,hj,hr with
  | 0,_,hr=>cases hr;exact hx
  | 1,_,hr=>cases hr;exact hx
  | 2,_,hr=>cases hr;exact hx
  | 3,_,hr=>cases hr;exact hx
  | 4,_,hr=>cases hr;exact hx
 have mem5:∀(j x:Nat),j < 5→([s'.p.A,s'.r.A,s'.l.A,s'.m.A,s'.i.A].getD j none).map (·.block)=some x→x∈cy (β kc) (β kd) s':=fun j x hj hx=>by
  refine dY.2 ?_;match j,hj,hx with
  | 0,_,hx=>exact .inr (.inr (.inl hx))
  | 1,_,hx=>exact .inr (.inr (.inr (.inl hx)))
  | 2,_,hx=>exact .inr (.inr (.inr (.inr (.inl hx))))
  | 3,_,hx=>exact .inr (.inr (.inr (.inr (.inr (.inl hx)))))
  | 4,_,hx=>exact .inr (.inr (.inr (.inr (.inr (.inr hx)))))
 have ne2:∀x,(∃j,j < 5∧([s'.p.A,s'.r.A,s'.l.A,s'.m.A,s'.i.A].getD j none).map (·.block)=some x)→x≠β kc∧x≠β kd:=fun x ⟨j,hj,hx⟩=>by
  have h1:cy (β kc) (β kd) s'=β kc::β kd::([s'.p.A,s'.r.A,s'.l.A,s'.m.A,s'.i.A].map (XJ (·.block))).filterMap id:=rfl;rw[h1,XC,XC]at hnd;have hin:x∈([s'.p.A,s'.r.A,s'.l.A,s'.m.A,s'.i.A].map (XJ (·.block))).filterMap id:=by
   refine Xy.2 ⟨some x,?_,rfl⟩;rw[←hx];refine XO.2 ⟨_,?_,rfl⟩;match j,hj with
   | 0,_=>simp
   | 1,_=>simp
   | 2,_=>simp
   | 3,_=>simp
   | 4,_=>simp
  exact⟨fun he=>hnd.1 (by rw[←he];exact XE _ hin),fun he=>hnd.2.1 (by rw[←he];exact hin)⟩
 refine⟨fun i hi=>⟨rfl,?_,?_,?_⟩,he,fun q hq=>?_,fun k r hr=>?_,fun k r x hr hx=>?_,fun k k' r r' x hr hr' hx hx'=>?_,hc.mono fun k hk=>.inl (eG k hk)⟩
 ·simp[aL,show i≠m by omega,show i≠m+1 by omega,show i≠m+2 by omega,show i≠m+3 by omega,show i≠m+4 by omega]
 ·simp[aL,show i≠m by omega,show i≠m+1 by omega,show i≠m+2 by omega,show i≠m+3 by omega,show i≠m+4 by omega]
 ·simp[aL,show i≠m by omega,show i≠m+1 by omega,show i≠m+2 by omega,show i≠m+3 by omega,show i≠m+4 by omega]
 ·have hq:q=(kc,dv tc (eX m (m+1) (m+2) (m+3) (m+4) cf'))∨q=(kd,rd'):=by
   have:q∈[(kc,dv tc (eX m (m+1) (m+2) (m+3) (m+4) cf')),(kd,rd')]:=hq;simpa using this
  rcases hq with rfl|rfl
  ·refine JW ?_ htc
   show aw w' (β kc) 46 _;rw[cells];exact hcf.cw
  ·exact hbd
 ·have hj:k < 5:=(XB.1 (show(bX cf')[k]?=some r from hr)).1
  match k,hj,hr with
  | 0,_,hr=>cases hr;refine⟨by simp[aL],?_⟩;have:=hcf.p;simpa[aL]using this
  | 1,_,hr=>cases hr;refine⟨by simp[aL],?_⟩;have:=hcf.r;simpa[aL]using this
  | 2,_,hr=>cases hr;refine⟨by simp[aL],?_⟩;have:=hcf.l;simpa[aL]using this
  | 3,_,hr=>cases hr;refine⟨by simp[aL],?_⟩;have:=hcf.m;simpa[aL]using this
  | 4,_,hr=>cases hr;refine⟨by simp[aL],?_⟩;have:=hcf.i;simpa[aL]using this
 ·obtain⟨hj,hb⟩:=own5 k r x hr hx
  have hne:=ne2 x ⟨k,hj,hb⟩;rcases hfrom x (mem5 k x hj hb)with hx|hx
  ·refine .inl ?_
   show x∈(kx++[k0,k1,k2,k3,k4]).filterMap (Sx.cQ β row);rcases XU.1 hx with hx|hx
   ·obtain⟨i,hi,hbk⟩:=hX x hx
    exact Xy.2 ⟨i,by simp[hi],hbk⟩
   ·rcases dY.1 hx with hx|hx|hk|hk|hk|hk|hk
    ·exact absurd hx hne.1
    ·exact absurd hx hne.2
    ·exact Xy.2 ⟨k0,by simp,bk h.p hk⟩
    ·exact Xy.2 ⟨k1,by simp,bk h.r hk⟩
    ·exact Xy.2 ⟨k2,by simp,bk h.l hk⟩
    ·exact Xy.2 ⟨k3,by simp,bk h.m hk⟩
    ·exact Xy.2 ⟨k4,by simp,bk h.i hk⟩
  ·exact .inr hx
 ·obtain⟨hj,hb⟩:=own5 k r x hr hx
  obtain⟨hj',hb'⟩:=own5 k' r' x hr' hx';have h1:cy (β kc) (β kd) s'=β kc::β kd::([s'.p.A,s'.r.A,s'.l.A,s'.m.A,s'.i.A].map (XJ (·.block))).filterMap id:=rfl;rw[h1,XC,XC]at hnd;have key:∀(l:List (Option Go.Addr)) (j j':Nat),((l.map (XJ (·.block))).filterMap id).Nodup→j < l.length→j' < l.length→(l.getD j none).map (·.block)=some x→(l.getD j' none).map (·.block)=some x→j=j':=by
   intro l;induction l with
   |nil=>intro j j' _ hj;simp at hj
   |cons o l ih=>
    intro j j' hn hj hj' hb hb';have no:o.map (·.block)=some x→∀i,i < l.length→(l.getD i none).map (·.block)=some x→False:=fun ho i hi hbi=>by
     have e:((o::l).map (XJ (·.block))).filterMap id=x::(l.map (XJ (·.block))).filterMap id:=by rw[XW,ho];rfl
     rw[e,XC]at hn;refine hn.1 (Xy.2 ⟨some x,XO.2 ⟨l.getD i none,?_,hbi⟩,rfl⟩);rw[List.getD_eq_getElem?_getD,XL hi];exact List.getElem_mem hi
    have hn':((l.map (XJ (·.block))).filterMap id).Nodup:=by
     rw[XW]at hn;cases ho:o.map (·.block)with
     |none=>rw[ho]at hn;exact hn
     |some y=>rw[ho]at hn;exact(XC.1 hn).2
    cases j with
    |zero=>
     cases j' with
     |zero=>rfl
     |succ j'=>exact(no hb j' (by simpa using hj') hb').elim
    |succ j=>
     cases j' with
     |zero=>exact(no hb' j (by simpa using hj) hb).elim
     |succ j'=>rw[ih j j' hn' (by simpa using hj) (by simpa using hj') hb hb']
  exact key _ k k' hnd.2.2 hj hj' hb hb'
abbrev WO(tc td:Option Nat)(kx:List Nat)(kc kd k0 k1 k2 k3 k4 m:Nat)(cf:CF)(d:Nat)(v:Value)(phi:Option Prop):Sx.cS:=TP tc (mZ td d) kx kc kd k0 k1 k2 k3 k4 m cf v phi
theorem Rj{β:Sx.Env}{W w':World}{row:Nat→Option Sx.Row}{tc td:Option Nat}{kx:List Nat}{kc kd k0 k1 k2 k3 k4 m:Nat}{cf cf':CF}{d d':Nat}{s':gU}{v:Value}{e:Ending}{phi:Option Prop}{X:List Nat}
  (h:yx row tc td kc kd k0 k1 k2 k3 k4 cf d) (htc:∀g,tc=some g→β kc=g) (htd:∀g,td=some g→β kd=g)
  (he:e=.returned v) (hcf:qI w' (β kc) cf' s') (hbd:aw w' (β kd) 3 [.int .i64 (d':Int)]) (hnd:(cy (β kc) (β kd) s').Nodup)
  (hX:∀k∈X,∃i∈kx,Sx.cQ β row i=some k)
  (hfrom:∀k∈cy (β kc) (β kd) s',k∈X++cy (β kc) (β kd) (kK β k0 k1 k2 k3 k4)∨W.heap.size≤k) (hc:ai (X++cy (β kc) (β kd) (kK β k0 k1 k2 k3 k4)) W w') :
  Sx.BT β W row m (WO tc td kx kc kd k0 k1 k2 k3 k4 m cf' d' v phi) e w' (aL β m cf' s'):=
 D3 h FR htc he hcf (QP hbd htd) hnd hX hfrom hc
set_option maxRecDepth 100000
open Go.RowKit Go.Lib Go.Sort _root_.Go.Proofs.Tryz
set_option maxRecDepth 100000
theorem sK{t:Nat}{sv:Sx.SV}:∀{fr:List (Nat×Sx.SV)},Sx.look fr t=some sv→(t,sv)∈fr
 | [],h=>by cases h
 | (k,v)::r,h=>by
  rw[Sx.gf]at h;split at h
  ·rename_i hk
   subst hk;rw[Sx.cE h];simp
  ·exact XE _ (sK h)
theorem Gv(w:World)(l:Bs)(hl:l.length≤1100000):Calls prog 90 #[ae l,.bool true] w (Sx.eh w (.sl 9 1 (aD true l).length ((aD true l).map ae))):=
 (O2 w l true hl).mono fun _ _ ⟨_,_,he,hO,hA,hC⟩=>⟨_,he,hO,fun k hk=>hA k ((gv _ _ _).symm.trans hk),hC⟩
theorem Rf(ws:List Bs)(d:Nat):DU (aV ws 0).val d=dN ws d:=by
 unfold DU dN aV;cases h:ws[0]? with
 |none=>rfl
 |some x=>
  show(if x=aO then d+1 else d)=_;by_cases hx:x=aO
  ·rw[if_pos hx,if_pos (by rw[hx])]
  ·rw[if_neg hx,if_neg (fun hh=>hx (XX.inj hh))]
theorem wR{w w4:World}{S:List Nat}{p:Nat}(v:Value)(hb:aw w4 p 48 [.nilIface])(hc:ai S w w4)(hp:w.heap.size≤p):(w4.setCell ⟨p,0,none⟩ v).cell? ⟨p,0,none⟩=some v∧ai [p] w4 (w4.setCell ⟨p,0,none⟩ v)∧ai S w (w4.setCell ⟨p,0,none⟩ v):=by
 have h2:ai [p] w4 (w4.setCell ⟨p,0,none⟩ v):=(ai.refl [p] w4).setCell (.inl (by simp)) v;refine⟨(hb.sh 0 v).cell_of rfl,h2,((hc.mono (S':=p::S) fun k hk=>.inl (XE p hk)).trans (h2.mono fun k hk=>.inl (by rw[XA.1 hk];simp))).mono fun k hk=>?_⟩;rcases XF.1 hk with rfl|hk
 ·exact .inr hp
 ·exact .inl hk
def VW(l:Bs)(gc gd:Nat)(cf:CF)(d:Nat)(s:gU)(w w':World):Prop:=∃cf' i s',aw w' w.heap.size 48 [.nilIface]∧ef (aD true l) cf d=.ok cf' i∧qI w' gc cf' s'∧aw w' gd 3 [.int .i64 (dN (aD true l) d:Nat)]∧(cy gc gd s').Nodup∧(∀k∈cy gc gd s',k∈cy gc gd s∨w.heap.size < k)∧ai (cy gc gd s) w w'
def WX(l:Bs)(gc gd:Nat)(cf:CF)(d:Nat)(s:gU)(w:World)(N:Nat)(w':World):Prop:=∃code p:Nat,aw w' w.heap.size 48 [.nilIface]∧ef (aD true l) cf d=.no code p∧w.heap.size < N∧aw w' N 105 [.int .i64 (code:Int),.int .i64 (p:Int)]∧ai (cy gc gd s) w w'
set_option maxHeartbeats 4000000 in
theorem Mr(l:Bs)(hl:l.length≤1100000){w:World}{gc gd:Nat}{cf:CF}{d:Nat}{s:gU}(h:V0 w gc gd cf d s)(hne:aD true l≠[]) :
  Calls prog 64 #[ae l,.pointer (some ⟨gc,0,none⟩),.pointer (some ⟨gd,0,none⟩)] w (BQ l gc gd cf d s w):=by
 obtain⟨t,ht⟩:∃t:Value,t=ae l:=⟨_,rfl⟩;have HT:Hid (t=ae l):=hid ht;rw[←ht];clear ht;have hmf:∀(fn:Fn) (first cap:Array Value) (w:World),(Instr.makeFunc fn first cap).run prog w=.ok (.func fn first cap) w:=fun _ _ _ _=>rfl;have hlt:=h.at_.lt h.bd;have HH:=hid h;clear h;obtain⟨n,hn⟩:∃n,n=(aD true l).length:=⟨_,rfl⟩;obtain⟨xs,hxs⟩:∃xs,xs=(aD true l).map ae:=⟨_,rfl⟩;have HW:Hid (∀W,Calls prog 90 #[t,.bool true] W (Sx.eh W (.sl 9 1 n xs))):=hid fun W=>by rw[HT.out,hn,hxs];exact Gv W l hl
 have HN:=hid hn;have HX:=hid hxs;clear hn hxs;go_enter_defers func64,ntmps64
 go_upto_region 3 with(go_at_call 90;refine(HW.out _).mono ?_;intro e w2 hp;obtain⟨sv,he,hacc⟩:=hp;obtain⟨A,cc,hsv,_,_⟩:=hacc.own.form;subst hsv;subst he)
 rename_i K1 hK1 K2 hK2;have h:=HH.out;obtain⟨w1,hw1⟩:∃w1,w1=w.alloc (.cells #[.nilIface] 48):=⟨_,rfl⟩;have C1:ai [] w w1:=by rw[hw1];exact(ai.refl [] w).alloc _
 have B0:aw w1 w.heap.size 48 [.nilIface]:=by rw[hw1];exact aw.new w 48 #[.nilIface]
 have z1:w1.heap.size=w.heap.size+1:=by rw[hw1];simp
 rw[←hw1]at hacc;obtain⟨w3,hw3⟩:∃w3,w3=w2.alloc (.cells #[.slice A n cc,.int .i64 0] 154):=⟨_,rfl⟩;have C3:ai [] w2 w3:=by rw[hw3];exact(ai.refl [] w2).alloc _
 have B3:aw w3 w2.heap.size 154 [.slice A n cc,.int .i64 0]:=by rw[hw3];exact aw.new w2 154 #[.slice A n cc,.int .i64 0]
 rw[←hw3];have C13:=hacc.aJ.trans C3;have C03:=C1.trans C13;have hO3:=hacc.own.aJ C3 (by simp);have z2:=hacc.aJ.size;have hat:=h.at_.aJ (gd:=gd) C03 (by simp);have hbd:=h.bd.aJ C03 (by simp);have hA:∀k,A.map (·.block)=some k→w1.heap.size≤k∧k < w2.heap.size:=fun k hk=>⟨hacc.new k ((gv _ _ _).trans hk),hacc.own.lt k ((gv _ _ _).trans hk)⟩;have hlan:=h.yA.dO C03;have hwc:=BW true l;have hnl:=HN.out;have hpos:0 < n:=by rw[hnl];exact XQ.2 hne
 have hI:Wc w3 w2.heap.size gc gd A n cc 0 (aD true l) cf d s:=by
  refine⟨⟨B3,Gz (by rw[←HX.out];exact hO3) hnl.symm (ai.refl _ _) fun k hk=>?_,Yb _,by omega,hlan,fun k hk=>?_,by rw[jI];simp,fun x hx=>by have:=hwc.2 x hx;omega⟩,hat,hbd,?_,h.nc,h.V8⟩
  ·rw[jI,XF,not_or]
   have h1:=hA k hk;exact⟨by omega,fun hr=>by have:=hlt k hr;omega⟩
  ·rw[jI]at hk
   rcases XF.1 hk with rfl|hk
   ·have:=h.yA.low;omega
   ·exact h.s9 k hk
  ·rw[jI,XC]
   exact⟨fun hr=>by have:=hlt _ hr;omega,h.nd⟩
 have hc0:w3.cell? ⟨w2.heap.size,0,none⟩=some (.slice A n cc):=B3.cell_of rfl;have hgt:decide ((0:Int) < (n:Int))=true:=decide_eq_true (by omega);have hB3:=B0.aJ C13 (by simp);have hp0:w.heap.size∉Dw w2.heap.size gc gd s:=by rw[jI,XF,not_or];exact⟨by omega,fun hr=>by have:=hlt _ hr;omega⟩
 have HC:=hid ((Tv hI).mono fun e w4 (hp:uf w2.heap.size gc gd A n cc (pz (aD true l) 0 cf d) _ _ w3 e w4)=>(show(e=.returned (.tuple #[])∧w4.cell? ⟨w.heap.size,0,none⟩=some .nilIface∧w4.frozen? ⟨w.heap.size,0,none⟩=false∧Hid (VW l gc gd cf d s w w4))∨∃N,e=.panicked [{ v:=.iface 103 (.pointer (some ⟨N,0,none⟩)),recovered:=false }]∧w4.cell? ⟨w.heap.size,0,none⟩=some .nilIface∧w4.frozen? ⟨w.heap.size,0,none⟩=false∧Hid (WX l gc gd cf d s w N w4)from by
  have hline:ef (aD true l) cf d=pz (aD true l) 0 cf d:=by
   unfold ef;split
   ·rename_i h0;exact absurd h0 hne
   ·rfl
  have aJ:∀{w4},ai (Dw w2.heap.size gc gd s) w3 w4→ai (cy gc gd s) w w4:=fun {w4} hc=>((C03.mono (by simp)).trans hc).mono fun k hk=>by
   rw[jI]at hk;rcases XF.1 hk with rfl|hk
   ·exact .inr (by omega)
   ·exact .inl hk
  rcases hp with⟨cf',i',s',hT,_,he,_,hcf,hb',hn',hf',hc⟩ | ⟨code,q,chain,hT,he,hf,hc⟩
  ·have hB4:=hB3.aJ hc hp0
   rw[Rf]at hb';rw[jI]at hn';refine .inl ⟨he,hB4.cell_of rfl,hB4.frozen 0,hid ⟨cf',i',s',hB4,hline.trans hT,hcf,hb',(XC.1 hn').2,fun k hk=>?_,aJ hc⟩⟩;rcases hf' k (XE _ hk)with hx|hx
   ·rw[jI]at hx
    rcases XF.1 hx with rfl|hx
    ·exact .inr (by omega)
    ·exact .inl hx
   ·have:=C3.size;exact .inr (by omega)
  ·have hB4:=hB3.aJ hc hp0
   obtain⟨N,rfl,h1,h2⟩:=hf;exact .inr ⟨N,he,hB4.cell_of rfl,hB4.frozen 0,hid ⟨code,q,hB4,hline.trans hT,by have:=C3.size;omega,h2,aJ hc⟩⟩))
 have HLT:=hid hlt;clear hI hat hbd hO3 hA C1 C3 C13 C03 B0 B3 hlan hwc hnl h hlt z1 z2 hacc hw1 hw3 hne hB3 hp0;go_wp2_with (go_at_call 131;refine HC.out.mono ?_;rintro e w4 (⟨rfl,hcell,hfz,HO⟩ | ⟨N,rfl,hcell,hfz,HO⟩))
 ·have HL:=HLT.out
  have ho:=HO.out;refine leaves_cons (f:=130) (args:=#[.pointer (some ⟨w.heap.size,0,none⟩)]) (by simp) (by simp[go_sem]) ?_;refine(D5 ⟨w.heap.size,0,none⟩ _).mono ?_;rintro e u' w'' ⟨rfl,rfl,rfl⟩;obtain⟨cf',i',s',hB4,hT,hcf,hb',hn',hf',hc⟩:=ho;obtain⟨h1,h2,h3⟩:=wR .nilIface hB4 hc (Xz _);simp[Leaves,settle,results,results64,go_sem,h1];have hp:w.heap.size∉cy gc gd s':=fun hk=>by
   rcases hf' _ hk with hx|hx
   ·have:=HL _ hx;omega
   ·omega
  refine .inl ⟨cf',i',s',hT,rfl,hcf.aJ (gd:=gd) h2 (fun k hk he=>hp (by rw[←XA.1 he];exact hk)),hb'.aJ h2 (fun he=>hp (by rw[←XA.1 he];exact dY.2 (.inr (.inl rfl)))),hn',fun k hk=>?_,h3⟩;rcases hf' k hk with hx|hx
  ·exact .inl hx
  ·exact .inr (by omega)
 ·have ho:=HO.out
  refine leaves_cons (f:=130) (args:=#[.pointer (some ⟨w.heap.size,0,none⟩)]) (by simp) (by simp[go_sem]) ?_;refine(Kl ⟨w.heap.size,0,none⟩ N [] _ hcell hfz).mono ?_;rintro e u' w'' ⟨rfl,rfl,rfl⟩;obtain⟨code,q,hB4,hT,hN,hb,hc⟩:=ho;obtain⟨h1,h2,h3⟩:=wR (.iface 103 (.pointer (some ⟨N,0,none⟩))) hB4 hc (Xz _);simp[Leaves,settle,results,results64,go_sem,h1];exact .inr ⟨code,q,N,hT,rfl,by omega,hb.aJ h2 (fun he=>by have:=XA.1 he;omega),h3⟩
set_option maxHeartbeats 4000000 in
theorem Ms(l:Bs)(hl:l.length≤1100000){w:World}{gc gd:Nat}{cf:CF}{d:Nat}{s:gU}(h:V0 w gc gd cf d s)(hne:aD true l=[]) :
  Calls prog 64 #[ae l,.pointer (some ⟨gc,0,none⟩),.pointer (some ⟨gd,0,none⟩)] w (BQ l gc gd cf d s w):=by
 obtain⟨t,ht⟩:∃t:Value,t=ae l:=⟨_,rfl⟩;have HT:Hid (t=ae l):=hid ht;rw[←ht];clear ht;have hmf:∀(fn:Fn) (first cap:Array Value) (w:World),(Instr.makeFunc fn first cap).run prog w=.ok (.func fn first cap) w:=fun _ _ _ _=>rfl;have hlt:=h.at_.lt h.bd;have HH:=hid h;clear h;have HW:Hid (∀W,Calls prog 90 #[t,.bool true] W (Sx.eh W (.sl 9 1 0 []))):=hid fun W=>by have:=Gv W l hl;rw[hne]at this;rw[HT.out];exact this
 go_enter_defers func64,ntmps64
 go_upto_region 3 with(go_at_call 90;refine(HW.out _).mono ?_;intro e w2 hp;obtain⟨sv,he,hacc⟩:=hp;obtain⟨A,cc,hsv,_,_⟩:=hacc.own.form;subst hsv;subst he)
 rename_i K1 hK1 K2 hK2;have h:=HH.out;obtain⟨w1,hw1⟩:∃w1,w1=w.alloc (.cells #[.nilIface] 48):=⟨_,rfl⟩;have C1:ai [] w w1:=by rw[hw1];exact(ai.refl [] w).alloc _
 have B0:aw w1 w.heap.size 48 [.nilIface]:=by rw[hw1];exact aw.new w 48 #[.nilIface]
 rw[←hw1]at hacc;obtain⟨w3,hw3⟩:∃w3,w3=w2.alloc (.cells #[.slice A 0 cc,.int .i64 0] 154):=⟨_,rfl⟩;have C3:ai [] w2 w3:=by rw[hw3];exact(ai.refl [] w2).alloc _
 have B3:aw w3 w2.heap.size 154 [.slice A 0 cc,.int .i64 0]:=by rw[hw3];exact aw.new w2 154 #[.slice A 0 cc,.int .i64 0]
 rw[←hw3];have C13:=hacc.aJ.trans C3;have C03:=C1.trans C13;have hB3:=B0.aJ C13 (by simp);have HO:=hid (show VW l gc gd cf d s w w3 from⟨cf,0,s,hB3,by rw[hne];rfl,h.at_.aJ (gd:=gd) C03 (by simp),by rw[hne];exact h.bd.aJ C03 (by simp),h.nd,fun k hk=>.inl hk,C03.mono (by simp)⟩);have hc0:w3.cell? ⟨w2.heap.size,0,none⟩=some (.slice A 0 cc):=B3.cell_of rfl;have hcell:w3.cell? ⟨w.heap.size,0,none⟩=some .nilIface:=hB3.cell_of rfl;have hfz:w3.frozen? ⟨w.heap.size,0,none⟩=false:=hB3.frozen 0;have HLT:=hid hlt;clear C1 C3 C13 C03 B0 B3 h hlt hacc hw1 hw3 hB3 hne;go_wp2
 have HL:=HLT.out;have ho:=HO.out;refine leaves_cons (f:=130) (args:=#[.pointer (some ⟨w.heap.size,0,none⟩)]) (by simp) (by simp[go_sem]) ?_;refine(D5 ⟨w.heap.size,0,none⟩ _).mono ?_;rintro e u' w'' ⟨rfl,rfl,rfl⟩;obtain⟨cf',i',s',hB4,hT,hcf,hb',hn',hf',hc⟩:=ho;obtain⟨h1,h2,h3⟩:=wR .nilIface hB4 hc (Xz _);simp[Leaves,settle,results,results64,go_sem,h1];have hp:w.heap.size∉cy gc gd s':=fun hk=>by
  rcases hf' _ hk with hx|hx
  ·have:=HL _ hx;omega
  ·omega
 refine .inl ⟨cf',i',s',hT,rfl,hcf.aJ (gd:=gd) h2 (fun k hk he=>hp (by rw[←XA.1 he];exact hk)),hb'.aJ h2 (fun he=>hp (by rw[←XA.1 he];exact dY.2 (.inr (.inl rfl)))),hn',fun k hk=>?_,h3⟩;rcases hf' k hk with hx|hx
 ·exact .inl hx
 ·exact .inr (by omega)
theorem R8(l:Bs)(hl:l.length≤1100000){w:World}{gc gd:Nat}{cf:CF}{d:Nat}{s:gU}(h:V0 w gc gd cf d s) :
  Calls prog 64 #[ae l,(pt gc 0),(pt gd 0)] w (BQ l gc gd cf d s w):=by
 by_cases hne:aD true l=[]
 ·exact Ms l hl h hne
 ·exact Mr l hl h hne
set_option maxRecDepth 100000
open Go.RowKit Go.Extern.Stop Go.Stop Go.Extern _root_.Go.Proofs.Tryz
theorem TX(t:Value)(w:World) :
  Calls prog 63 #[.nilIface,t] w fun e w'=>e=.returned (.bool false)∧w'=w:=by
 go_enter func63,ntmps63
 go_wp2
 go_ret
 exact⟨rfl,rfl⟩
theorem Ef(t:Addr)(w:World):(ReflectliteValue.unpack (.iface 111 (.pointer (some t)))).run prog w
  =.ok (.agg #[(pt 9 111),(pt (w.heap.size) 0),.int .u64 150]) (w.alloc (.cells #[.pointer (some t)] 111)):=by kernel_rfl
theorem Oe(a:Addr)(w:World):(ReflectliteValue.methodAny (ReflectliteValue.valueError "reflectlite.Value.Type" 0) (fun t _ _ _=>ReflectliteType.toType t) #[.agg #[(pt 9 111),.pointer (some a),.int .u64 150]]).run prog w
  =.ok (.iface 242 (.agg #[(pt 9 111)])) w:=by kernel_rfl
theorem BJ(h:Value)(w:World):(Go.method 430 242 (.agg #[h]) "Kind").run prog w=.ok (262,h) w:=by kernel_rfl
theorem Of(w:World):((ReflectliteType.abiMethod fun t=>(fun a:Nat=>Ya IntKind.u8 (a:Int)) <$> Rtype.kind t) #[(pt 9 111)]).run prog w=.ok (.int .u8 22) w:=by kernel_rfl
theorem Og(w:World):((ReflectliteType.abiMethod fun t=>(fun a:Nat=>Ya IntKind.u8 (a:Int)) <$> Rtype.kind t) #[(pt 9 103)]).run prog w=.ok (.int .u8 22) w:=by kernel_rfl
theorem WZ(z:Sem Value)(f:TypeId→Addr→Nat→Nat→Sem Value)(v:Value) :
  ReflectliteValue.method z f #[v]=(do match ←ReflectliteValue.parts v with|none=>z|some (t,a,fl)=>f t a fl (fl%32)):=rfl
theorem Aj(a:Addr)(w:World):(ReflectliteValue.parts (.agg #[(pt 9 111),.pointer (some a),.int .u64 150])).run prog w=.ok (some (111,a,150)) w:=by kernel_rfl
theorem Ku(a p:Addr)(W:World)(ha:W.cell? a=some (.pointer (some p))) :
  (ReflectliteValue.method (ReflectliteValue.valueError "reflectlite.Value.IsNil" 0) ReflectliteValue.isNil #[.agg #[.pointer (some ⟨9,111,none⟩),.pointer (some a),.int .u64 150]]).run prog W=.ok (.bool false) W:=by
 rw[WZ];simp only[Sem.run_bind,Aj,XI];simp[ReflectliteValue.isNil,loadVar,isAgg,underlying,underlying111,ha,XI]
theorem BK(h:Value)(w:World):(Go.method 430 242 (.agg #[h]) "Elem").run prog w=.ok (275,.agg #[h]) w:=by kernel_rfl
theorem rT(h:Value)(w:World):(Go.method 430 242 (.agg #[h]) "Implements").run prog w=.ok (276,.agg #[h]) w:=by kernel_rfl
theorem pR(h:Value)(w:World):(Go.method 430 242 (.agg #[h]) "AssignableTo").run prog w=.ok (273,.agg #[h]) w:=by kernel_rfl
theorem Oh(w:World):(ReflectliteType.method ReflectliteType.elem #[.agg #[(pt 9 111)]]).run prog w=.ok (.iface 242 (.agg #[(pt 9 103)])) w:=by kernel_rfl
theorem yl(w:World):(ReflectliteType.relation "Implements" ReflectliteType.implements_ #[.agg #[(pt 9 103)],.iface 242 (.agg #[(pt 9 48)])]).run prog w=.ok (.bool true) w:=by kernel_rfl
theorem Gg(v:Value)(w:World):(ReflectliteType.typeOf #[.iface 103 v]).run prog w=.ok (.iface 242 (.agg #[(pt 9 103)])) w:=by kernel_rfl
theorem ym(w:World):(ReflectliteType.relation "AssignableTo" ReflectliteType.assignableTo #[.agg #[(pt 9 103)],.iface 242 (.agg #[(pt 9 103)])]).run prog w=.ok (.bool true) w:=by kernel_rfl
theorem Eg(e:Addr)(w:World):(ReflectliteValue.unpack (.iface 103 (.pointer (some e)))).run prog w
  =.ok (.agg #[(pt 9 103),(pt (w.heap.size) 0),.int .u64 150]) (w.alloc (.cells #[.pointer (some e)] 103)):=by kernel_rfl
theorem Gi(w:World):(Rtype.elem? 111).run prog w=.ok (some 103) w:=by kernel_rfl
theorem TZ(p:Addr)(w:World):(ReflectliteValue.mk 103 p ReflectliteValue.flagAddr).run prog w=.ok (.agg #[(pt 9 103),.pointer (some p),.int .u64 406]) w:=by kernel_rfl
theorem Kv(a p:Addr)(W:World)(ha:W.cell? a=some (.pointer (some p))) :
  (ReflectliteValue.method (ReflectliteValue.valueError "reflectlite.Value.Elem" 0) ReflectliteValue.elem #[.agg #[.pointer (some ⟨9,111,none⟩),.pointer (some a),.int .u64 150]]).run prog W
   =.ok (.agg #[.pointer (some ⟨9,103,none⟩),.pointer (some p),.int .u64 406]) W:=by
 rw[WZ];simp only[Sem.run_bind,Aj,XI];simp[ReflectliteValue.elem,loadVar,isAgg,underlying,underlying111,ha,XI,Gi,TZ]
theorem Xi(v x:Value):ReflectliteValue.set #[v,x]=(do
  let (some (dst,a,fl),some (src,b,_)):=(←ReflectliteValue.parts v,←ReflectliteValue.parts x)
   |unsupported (.noEntry "extern/(internal/reflectlite.Value).Set.zeroValue")
  if fl / ReflectliteValue.flagAddr%2==0 then unsupported (.noEntry "extern/(internal/reflectlite.Value).Set.unaddressable")
  let val ←loadVar src b
  if ←Rtype.directlyAssignable dst src then storeVar dst a val
  else if ←Rtype.implements dst src then
   if(←Rtype.kind src)==20 then
    match val with
    |.nilIface=>unsupported (.noEntry "extern/reflectlite: a nil value of one interface type handed on as a value of another")
    |_=>storeVar dst a val
   else storeVar dst a (.iface src val)
  else panicString ("reflectlite.Set: value of type "++(←Rtype.spelt src)++ " is not assignable to type "++(←Rtype.spelt dst))
  pure (.tuple #[])):=rfl
theorem Gh(a:Addr)(w:World):(ReflectliteValue.parts (.agg #[(pt 9 103),.pointer (some a),.int .u64 406])).run prog w=.ok (some (103,a,406)) w:=by kernel_rfl
theorem Kt(a:Addr)(w:World):(ReflectliteValue.parts (.agg #[(pt 9 103),.pointer (some a),.int .u64 150])).run prog w=.ok (some (103,a,150)) w:=by kernel_rfl
theorem Gj(w:World):(Rtype.directlyAssignable 103 103).run prog w=.ok true w:=by kernel_rfl
theorem RC(ta b e:Addr)(old:Value)(W:World)(hb:W.cell? b=some (.pointer (some e)))(ht:W.cell? ta=some old)(hf:W.frozen? ta=false) :
  (ReflectliteValue.set #[.agg #[.pointer (some ⟨9,103,none⟩),.pointer (some ta),.int .u64 406],.agg #[.pointer (some ⟨9,103,none⟩),.pointer (some b),.int .u64 150]]).run prog W
   =.ok (.tuple #[]) (W.setCell ta (.pointer (some e))):=by
 rw[Xi];simp only[Sem.run_bind,Gh,Kt,XI];simp[ReflectliteValue.flagAddr,loadVar,isAgg,underlying,underlying103,hb,XI,Gj,storeVar,Value.cells,storeCells,Addr.add];rw[run_store prog W ta _ _ (by rfl)];simp[ht,hf]
set_option maxHeartbeats 4000000 in
theorem TY(e t:Addr)(old:Value)(w:World)(hg:w.cell? ⟨0,0,none⟩=some (.iface 242 (.agg #[.pointer (some ⟨9,48,none⟩)])))(ht0:w.cell? t=some old)(hf0:w.frozen? t=false) :
  Calls prog 63 #[.iface 103 (.pointer (some e)),.iface 111 (.pointer (some t))] w fun ev w'=>ev=.returned (.bool true)∧w'=((((w.alloc (.cells #[.pointer (some t)] 111)).alloc (.cells #[.pointer (some ⟨9,111,none⟩),.pointer (some ⟨w.heap.size,0,none⟩),.int .u64 150] 191)).alloc (.cells #[.pointer (some ⟨9,111,none⟩),.pointer (some ⟨w.heap.size,0,none⟩),.int .u64 150] 191)).alloc (.cells #[.pointer (some e)] 103)).setCell t (.pointer (some e)):=by
 have h6:=@run_callFunc_extern prog 126 _ (fun args=>ReflectliteValue.unpack (args.getD 0 (.tuple #[]))) func126 (by kernel_rfl) (by kernel_rfl) (by kernel_rfl) (by kernel_rfl);have h7:=@run_callFunc_extern prog 127 _ (ReflectliteValue.methodAny (ReflectliteValue.valueError "reflectlite.Value.Type" 0) (fun t _ _ _=>ReflectliteType.toType t)) func127 (by kernel_rfl) (by kernel_rfl) (by kernel_rfl) (by kernel_rfl);have h8:=@run_callFunc_extern prog 128 _ (ReflectliteValue.method (ReflectliteValue.valueError "reflectlite.Value.IsNil" 0) ReflectliteValue.isNil) func128 (by kernel_rfl) (by kernel_rfl) (by kernel_rfl) (by kernel_rfl);have W6:=@run_callFunc_extern prog 262 _ (ReflectliteType.abiMethod fun t=>do pure (.int .u8 (←Rtype.kind t))) func262 (by kernel_rfl) (by kernel_rfl) (by kernel_rfl) (by kernel_rfl);have h37:=@run_callFunc_extern prog 275 _ (ReflectliteType.method ReflectliteType.elem) func275 (by kernel_rfl) (by kernel_rfl) (by kernel_rfl) (by kernel_rfl);have h38:=@run_callFunc_extern prog 276 _ (ReflectliteType.relation "Implements" ReflectliteType.implements_) func276 (by kernel_rfl) (by kernel_rfl) (by kernel_rfl) (by kernel_rfl);have h10:=@run_callFunc_extern prog 139 _ ReflectliteType.typeOf func139 (by kernel_rfl) (by kernel_rfl) (by kernel_rfl) (by kernel_rfl);have h35:=@run_callFunc_extern prog 273 _ (ReflectliteType.relation "AssignableTo" ReflectliteType.assignableTo) func273 (by kernel_rfl) (by kernel_rfl) (by kernel_rfl) (by kernel_rfl);have h11:=@run_callFunc_extern prog 184 _ (ReflectliteValue.method (ReflectliteValue.valueError "reflectlite.Value.Elem" 0) ReflectliteValue.elem) func184 (by kernel_rfl) (by kernel_rfl) (by kernel_rfl) (by kernel_rfl);have h12:=@run_callFunc_extern prog 185 _ ReflectliteValue.set func185 (by kernel_rfl) (by kernel_rfl) (by kernel_rfl) (by kernel_rfl);have tO:=Gg;have mA:=pR;have a25:=ym;have v25:=Eg;have f6:=Ef;have f7:=Oe;have mK:=BJ;have mE:=BK;have mI:=rT;have k27:=Of;have k25:=Og;have e27:=Oh;have i25:=yl;have n8:=Ku ⟨w.heap.size,0,none⟩ t ((w.alloc (.cells #[.pointer (some t)] 111)).alloc (.cells #[.pointer (some ⟨9,111,none⟩),.pointer (some ⟨w.heap.size,0,none⟩),.int .u64 150] 191)) (by simp);have hlt:0 < w.heap.size:=by
  rcases Nat.eq_zero_or_pos w.heap.size with h0|h
  ·simp[World.cell?,h0]at hg
  ·exact h
 have hg2:((w.alloc (.cells #[.pointer (some t)] 111)).alloc (.cells #[.pointer (some ⟨9,111,none⟩),.pointer (some ⟨w.heap.size,0,none⟩),.int .u64 150] 191)).cell? ⟨0,0,none⟩=some (.iface 242 (.agg #[.pointer (some ⟨9,48,none⟩)])):=by rw[World.cell?_alloc_lt _ _ ⟨0,0,none⟩ (by simp),World.cell?_alloc_lt _ _ ⟨0,0,none⟩ hlt];exact hg
 have htl:t.block < w.heap.size:=by
  rcases Nat.lt_or_ge t.block w.heap.size with h|h
  ·exact h
  ·simp[World.cell?,Array.getElem?_eq_none h]at ht0
 have el:=Kv ⟨w.heap.size,0,none⟩ t (((w.alloc (.cells #[.pointer (some t)] 111)).alloc (.cells #[.pointer (some ⟨9,111,none⟩),.pointer (some ⟨w.heap.size,0,none⟩),.int .u64 150] 191)).alloc (.cells #[.pointer (some ⟨9,111,none⟩),.pointer (some ⟨w.heap.size,0,none⟩),.int .u64 150] 191)) (by rw[World.cell?_alloc_lt _ _ ⟨w.heap.size,0,none⟩ (by simp;omega)];simp)
 have st:=RC t ⟨w.heap.size+1+1+1,0,none⟩ e old ((((w.alloc (.cells #[.pointer (some t)] 111)).alloc (.cells #[.pointer (some ⟨9,111,none⟩),.pointer (some ⟨w.heap.size,0,none⟩),.int .u64 150] 191)).alloc (.cells #[.pointer (some ⟨9,111,none⟩),.pointer (some ⟨w.heap.size,0,none⟩),.int .u64 150] 191)).alloc (.cells #[.pointer (some e)] 103))
  (by rw[World.cell?_alloc_at _ _ _ _ (by simp)];rfl)
  (by rw[World.cell?_alloc_lt _ _ t (by simp;omega),World.cell?_alloc_lt _ _ t (by simp;omega),World.cell?_alloc_lt _ _ t (by simp;omega),World.cell?_alloc_lt _ _ t htl];exact ht0)
  (by rw[World.frozen?_alloc_old _ _ t (by simp;omega),World.frozen?_alloc_old _ _ t (by simp;omega),World.frozen?_alloc_old _ _ t (by simp;omega),World.frozen?_alloc_old _ _ t (Nat.ne_of_lt htl)];exact hf0)
 go_enter func63,ntmps63
 go_wp2
 refine wp_loop_rounds 1 ?_;rw[rounds_succ];go_wp2
 go_ret
 exact⟨rfl,rfl⟩
open Go.RowKit Go.Lib Go.Sort _root_.Go.Proofs.Tryz
structure lz(w:World):Prop where
 yA:eF w
 et:w.cell? ⟨0,0,none⟩=some (.iface 242 (.agg #[(pt 9 48)]))
theorem lz.aJ{S:List Nat}{w w':World}(h:lz w)(hc:ai S w w')(hS:∀k∈S,9≤k):lz w':=
 ⟨h.yA.aJ hc hS,(hc.cell (p:=⟨0,0,none⟩) (X0 (show 0 < 9 by omega) h.yA.low) (fun hk=>by have:=hS 0 hk;omega)).trans h.et⟩
def aG(s:Bs):List Bs:=bH 10 s
theorem Pf(w:World)(s:Bs)(hs:s.length≤1100000)(hl:eF w):Calls prog 62 #[ae s,.string ⟨#[10]⟩] w (Sx.eh w (.sl 9 1 (aG s).length ((aG s).map ae))):=by refine(Ar s 10 (by omega) w hl).mono ?_;rintro e w' ⟨rfl,rfl⟩;have hc:=eZ 10 s;refine⟨_,rfl,⟨by simp,.inr ⟨w.heap.size,0,_,strs (bH 10 s),rfl,aw.new w 9 (strs (bH 10 s)).toArray,Xz _,by unfold maxLen;omega,by simp[strs],?_⟩⟩,fun k hk=>(by cases hk;exact Xz _),(ai.refl [] w).alloc _⟩;rw[List.drop_zero,List.take_of_length_le (by simp[strs,aG])];rfl
theorem Td{b:Sx.bu}{mem:List Sx.Row}{l:Bs}{cf cf':CF}{d i:Nat}(m:Nat)(hm:m=mem.length)(hlan:lz b.w)(hS9:∀k∈b.S,9≤k)(hl:l.length≤1100000)(nc:cf.aj.length≤1100000∧cf.af.length≤1100000∧cf.rules.length≤1100000∧cf.ag.length≤1100000∧cf.ab.length≤1100000)(hd:d≤1100000)
  (hr:yx (Sx.rowAt mem) none none 1 2 3 4 5 6 7 cf d) (hT:ef (aD true l) cf d=.ok cf' i) (W:World) (β:Sx.Env) (hS:Sx.fD b β W (Sx.rowAt mem) [1,2,3,4,5,6,7]) :
  Calls prog 64 (([.val (ae l),.ptr 1 0,.ptr 2 0]:List Sx.SV).map (Sx.SV.den β)).toArray W (Sx.bK b β W (Sx.rowAt mem) m (WO none none [] 1 2 3 4 5 6 7 m cf' (dN (aD true l) d) .nilIface none)):=by
 subst hm;obtain⟨hat,hbd,hnd,hnew⟩:=NQ hS hr (by simp) (by decide);have hC:V0 W (β 1) (β 2) cf d (kK β 3 4 5 6 7):=⟨hat,hbd,hnd,nc,hd,hlan.yA.aJ hS.aJ hS9,fun k hk=>by
  rcases hnew k hk with hx|hx
  ·exact hS9 k hx
  ·exact X8 hlan.yA.low hx⟩
 show Calls prog 64 #[ae l,.pointer (some ⟨β 1,0,none⟩),.pointer (some ⟨β 2,0,none⟩)] W _;refine(R8 l hl hC).mono fun e w' hp=>?_;rcases hp with⟨cf2,i2,s',hT2,he,hcf,hb',hn',hf',hc⟩ | ⟨code,p,N,hT2,_⟩
 ·rw[hT]at hT2
  injection hT2 with h1 _;subst h1;exact .inl ⟨fun p hp=>(by cases hp),aL β mem.length cf' s',Rj (X:=[]) hr (fun g hg=>(by cases hg)) (fun g hg=>(by cases hg)) he hcf hb' hn' (fun k hk=>(by cases hk)) (fun k hk=>by simpa using hf' k hk) (by simpa using hc)⟩
 ·rw[hT]at hT2;cases hT2
def VR(m:Nat)(code p:Nat):Sx.cS:=⟨[1,2,3,4,5,6,7],[],[1,2,3,4,5,6,7],[⟨105,.an [.int .i64 (code:Int),.int .i64 (p:Int)]⟩],.ml 103 m 0,none⟩
theorem Qk{b:Sx.bu}{mem:List Sx.Row}{l:Bs}{cf:CF}{d code p:Nat}(m:Nat)(hm:m=mem.length)(hlan:lz b.w)(hS9:∀k∈b.S,9≤k)(hl:l.length≤1100000)(nc:cf.aj.length≤1100000∧cf.af.length≤1100000∧cf.rules.length≤1100000∧cf.ag.length≤1100000∧cf.ab.length≤1100000)(hd:d≤1100000)
  (hr:yx (Sx.rowAt mem) none none 1 2 3 4 5 6 7 cf d) (hT:ef (aD true l) cf d=.no code p) (W:World) (β:Sx.Env) (hS:Sx.fD b β W (Sx.rowAt mem) [1,2,3,4,5,6,7]) :
  Calls prog 64 (([.val (ae l),.ptr 1 0,.ptr 2 0]:List Sx.SV).map (Sx.SV.den β)).toArray W (Sx.bK b β W (Sx.rowAt mem) m (VR m code p)):=by
 obtain⟨hat,hbd,hnd,hnew⟩:=NQ hS hr (by simp) (by decide);have hC:V0 W (β 1) (β 2) cf d (kK β 3 4 5 6 7):=⟨hat,hbd,hnd,nc,hd,hlan.yA.aJ hS.aJ hS9,fun k hk=>by
  rcases hnew k hk with hx|hx
  ·exact hS9 k hx
  ·exact X8 hlan.yA.low hx⟩
 show Calls prog 64 #[ae l,.pointer (some ⟨β 1,0,none⟩),.pointer (some ⟨β 2,0,none⟩)] W _;refine(R8 l hl hC).mono fun e w' hp=>?_;rcases hp with⟨cf2,i2,s',hT2,_⟩ | ⟨code2,p2,N,hT2,he,hN,hB,hc⟩
 ·rw[hT]at hT2;cases hT2
 ·rw[hT]at hT2
  injection hT2 with h1 h2;subst h1 h2;refine .inl ⟨fun p hp=>(by cases hp),⟨fun i=>if i=m then N else β.b i,β.a,β.n,β.c⟩,fun i hi=>⟨by show _=if i=m then N else β.b i;rw[if_neg (by omega)],rfl,rfl,rfl⟩,?_,fun q hq=>(by cases hq),fun k r hk=>?_,fun k r x hk hx=>?_,fun k k' r r' x hk hk' _ _=>?_,hc.mono fun k hk=>.inl ?_⟩
  ·rw[he]
   show _=Ending.returned (.iface 103 (.pointer (some ⟨if m=m then N else β.b m,0,none⟩)));rw[if_pos rfl]
  ·match k,hk with
   | 0,hk=>cases hk;show aw w' (if m+0=m then N else β.b (m+0)) 105 _;rw[X9,if_pos rfl];exact hB
  ·match k,hk with
   | 0,hk=>cases hk;have hx:some (if m+0=m then N else β.b (m+0))=some x:=hx;rw[X9,if_pos rfl]at hx;cases hx;exact .inr hN
  ·match k,k',hk,hk' with
   | 0,0,_,_=>rfl
  ·show k∈([]++[1,2,3,4,5,6,7]).filterMap (Sx.cQ β (Sx.rowAt mem))
   have bk:∀{i:Nat} {r:Sx.Row} {k:Nat},Sx.rowAt mem i=some r→Sx.az β i r=some k→Sx.cQ β (Sx.rowAt mem) i=some k:=fun {i r k} hi hk=>by unfold Sx.cQ;rw[hi];exact hk
   rcases dY.1 hk with hx|hx|hx|hx|hx|hx|hx
   ·exact Xy.2 ⟨1,by simp,bk hr.c (by rw[hx];exact sX)⟩
   ·exact Xy.2 ⟨2,by simp,bk hr.d (by rw[hx];exact FR)⟩
   ·exact Xy.2 ⟨3,by simp,bk hr.p hx⟩
   ·exact Xy.2 ⟨4,by simp,bk hr.r hx⟩
   ·exact Xy.2 ⟨5,by simp,bk hr.l hx⟩
   ·exact Xy.2 ⟨6,by simp,bk hr.m hx⟩
   ·exact Xy.2 ⟨7,by simp,bk hr.i hx⟩
theorem RB{b:Sx.bu}{row:Nat→Option Sx.Row}{m k:Nat}(W:World)(β:Sx.Env)(_:Sx.fD b β W row []) :
  Calls prog 63 (([.val .nilIface,.ml 111 k 0]:List Sx.SV).map (Sx.SV.den β)).toArray W (Sx.bK b β W row m ⟨[],[],[],[],.val (.bool false),none⟩):=
 (TX _ W).mono fun e w' ⟨he,hw⟩=>.inl ⟨fun p hp=>(by cases hp),β,Sx.ep (v:=.bool false) rfl rfl he (fun q hq=>by cases hq) (by rw[hw];exact ai.refl _ _)⟩
theorem It{b:Sx.bu}{row:Nat→Option Sx.Row}{m k N:Nat}(hlan:lz b.w)(hS9:∀k∈b.S,9≤k)(hk:row k=some ⟨103,.an [.pointer none]⟩)(W:World)(β:Sx.Env)(hS:Sx.fD b β W row [k]) :
  Calls prog 63 (([.ml 103 N 0,.ml 111 k 0]:List Sx.SV).map (Sx.SV.den β)).toArray W (Sx.bK b β W row m ⟨[k],[(k,⟨103,.dK [.ptr N 0]⟩)],[],[],.val (.bool true),none⟩):=by
 have hB:aw W (β k) 103 [.pointer none]:=hS.held k (by simp) _ hk;refine(TY ⟨β N,0,none⟩ ⟨β k,0,none⟩ (.pointer none) W (hlan.aJ hS.aJ hS9).et (hB.cell_of rfl) (hB.frozen 0)).mono fun e w' ⟨he,hw⟩=>.inl ⟨fun p hp=>(by cases hp),β,Sx.ep (v:=.bool true) rfl rfl he (fun q hq=>?_) ?_⟩
 ·have hq:q=(k,⟨103,.dK [.ptr N 0]⟩):=XA.1 hq
  subst hq;show aw w' (β k) 103 [.pointer (some ⟨β N,0,none⟩)];rw[hw];refine aw.sh (cs:=[.pointer none]) ?_ 0 _;exact(((hB.aJ ((ai.refl [] W).alloc _) (by simp)).aJ ((ai.refl [] _).alloc _) (by simp)).aJ ((ai.refl [] _).alloc _) (by simp)).aJ ((ai.refl [] _).alloc _) (by simp)
 ·have ht:Sx.cS.eG β row ⟨[k],[(k,⟨103,.dK [.ptr N 0]⟩)],[],[],.val (.bool true),none⟩=[β k]:=by
   have:Sx.cQ β row k=some (β k):=by unfold Sx.cQ;rw[hk];rfl
   show([k]++[]).filterMap (Sx.cQ β row)=_;simp[this]
  rw[ht,hw];exact((((ai.refl _ W).alloc _).alloc _).alloc _ |>.alloc _).setCell (.inl (by simp)) _
open Go.RowKit Go.Lib Go.Sort
def mF(s:Bs)(b i:Nat):Bs:=(s.take i).drop b
theorem Cp{s:Bs}{b i:Nat}{c:UInt8}(h:s[i]?=some c)(hb:b≤i):mF s b (i+1)=mF s b i++[c]:=by have hl:=(XB.1 h).1;unfold mF;rw[List.take_add_one,h,XR (by rw[XN];omega)];rfl
theorem Ay(s:Bs)(i:Nat):mF s i i=[]:=by unfold mF;rw[List.drop_eq_nil_iff,XN];omega
theorem Pr{s:Bs}{b i:Nat}(h:i≤s.length):(mF s b i).length=i - b:=by unfold mF;rw[List.length_drop,XN];omega
theorem qb{s:Bs}{b i:Nat}(h:i≤s.length)(hb:b≤i):mF s b i=[]↔¬b < i:=by rw[←List.length_eq_zero_iff,Pr h];omega
theorem drop_at{s:Bs}{i:Nat}{c:UInt8}(h:s[i]?=some c):s.drop i=c::s.drop (i+1):=by obtain⟨h1,rfl⟩:=XB.1 h;exact List.drop_eq_getElem_cons h1
def jg(s:Bs):Nat→List Bs×Nat
 | 0=>([],0)
 |i+1=>match decide (s[i]?=some 10)with
  |true=>((jg s i).1++[mF s (jg s i).2 i],i+1)
  |false=>jg s i
theorem A6(s:Bs):∀i,(jg s i).2≤i∧(jg s i).1.length≤i
 | 0=>⟨Xz _,Xz _⟩
 |i+1=>by
  have:=A6 s i;rw[jg];cases decide (s[i]?=some 10)with
  |true=>exact⟨Xz _,by show((jg s i).1++[_]).length≤_;rw[XH];show _+1≤_;omega⟩
  |false=>exact⟨by show(jg s i).2≤_;omega,by show(jg s i).1.length≤_;omega⟩
theorem NC{s:Bs}{b i:Nat}(hb:b≤i)(hi:i≤s.length):s.drop b=mF s b i++s.drop i:=by
 unfold mF
 conv=>lhs;rw[←List.take_append_drop i s]
 rw[XR (by rw[XN];omega)]
theorem Hp(s:Bs):∀i,i≤s.length→(jg s i).1++bH 10 (s.drop (jg s i).2)=bH 10 s∧(10:UInt8)∉mF s (jg s i).2 i
 | 0,_=>⟨by simp[jg],by simp[jg,mF]⟩
 |i+1,hi=>by
  obtain⟨h1,h2⟩:=Hp s i (by omega);have hb:=(A6 s i).1;obtain⟨c,hc⟩:∃c,s[i]?=some c:=⟨s[i],XL (by omega)⟩;rw[jg];by_cases h10:c=10
  ·subst h10
   rw[decide_eq_true hc];refine⟨?_,by rw[Ay];simp⟩;rw[NC hb (by omega),drop_at hc,kJ 10 _ _ h2]at h1;show((jg s i).1++[mF s (jg s i).2 i])++bH 10 (s.drop (i+1))=_;rw[←h1];simp
  ·have hn:¬s[i]?=some 10:=fun h=>h10 (by rw[hc]at h;exact XX.inj h)
   rw[decide_eq_false hn];refine⟨h1,?_⟩;show(10:UInt8)∉mF s (jg s i).2 (i+1);rw[Cp hc hb,XU];rintro(h|h)
   ·exact h2 h
   ·exact h10 (XA.1 h).symm
theorem Qu(s:Bs):(jg s s.length).1++[s.drop (jg s s.length).2]=aG s:=by
 obtain⟨h1,h2⟩:=Hp s s.length (Xz _);have:mF s (jg s s.length).2 s.length=s.drop (jg s s.length).2:=by unfold mF;rw[List.take_length]
 rw[this]at h2;rw[lB 10 _ h2]at h1;exact h1
def iz(s:Bs):Nat→List Bs×Nat
 | 0=>([],0)
 |i+1=>match s[i]? with
  |none=>iz s i
  |some c=>match decide (c=32∨c=9)with
   |false=>iz s i
   |true=>match decide ((iz s i).2 < i)with
    |true=>((iz s i).1++[mF s (iz s i).2 i],i+1)
    |false=>((iz s i).1,i+1)
theorem vD(s:Bs):∀i,(iz s i).2≤i∧(iz s i).1.length≤i
 | 0=>⟨Xz _,Xz _⟩
 |i+1=>by
  have:=vD s i;rw[iz];cases s[i]? with
  |none=>exact⟨by show(iz s i).2≤_;omega,by show(iz s i).1.length≤_;omega⟩
  |some c=>
   simp only;cases decide (c=32∨c=9)with
   |false=>exact⟨by show(iz s i).2≤_;omega,by show(iz s i).1.length≤_;omega⟩
   |true=>
    simp only;cases decide ((iz s i).2 < i)with
    |true=>exact⟨Xz _,by show((iz s i).1++[_]).length≤_;rw[XH];show _+1≤_;omega⟩
    |false=>exact⟨Xz _,by show(iz s i).1.length≤_;omega⟩
theorem Gu(cm:Bool)(s:Bs):∀i,i≤s.length→(∀j < i,s[j]?=some 35→cm=false)→(iz s i).1++bB cm (mF s (iz s i).2 i) (s.drop i)=aD cm s
 | 0,_,_=>by simp[iz,mF,aD]
 |i+1,hi,hj=>by
  have h1:=Gu cm s i (by omega) (fun j h=>hj j (by omega));have hb:=(vD s i).1;obtain⟨c,hc⟩:∃c,s[i]?=some c:=⟨s[i],XL (by omega)⟩;have hcm:¬(cm=true∧c=35):=fun⟨h,h'⟩=>by have:=hj i (by omega) (by rw[hc,h']);rw[h]at this;cases this
  rw[drop_at hc,bB,if_neg hcm]at h1;rw[iz,hc];simp only;by_cases hbl:c=32∨c=9
  ·rw[if_pos hbl]at h1
   rw[decide_eq_true hbl];simp only;by_cases hlt:(iz s i).2 < i
   ·rw[if_neg (fun h=>(qb (by omega) hb).1 h hlt)]at h1
    rw[decide_eq_true hlt];show((iz s i).1++[mF s (iz s i).2 i])++bB cm (mF s (i+1) (i+1)) _=_;rw[←h1,Ay];simp
   ·rw[if_pos ((qb (by omega) hb).2 hlt)]at h1
    rw[decide_eq_false hlt];show(iz s i).1++bB cm (mF s (i+1) (i+1)) _=_;rw[←h1,Ay]
  ·rw[if_neg hbl]at h1
   rw[decide_eq_false hbl];show(iz s i).1++bB cm (mF s (iz s i).2 (i+1)) _=_;rw[Cp hc hb,h1]
def V1(s:Bs)(i:Nat):List Bs:=match decide ((iz s i).2 < i)with
 |true=>(iz s i).1++[mF s (iz s i).2 i]
 |false=>(iz s i).1
theorem OZ{cm:Bool}{s:Bs}{i:Nat}(hi:i≤s.length)(hj:∀j < i,s[j]?=some 35→cm=false)(he:i=s.length∨(cm=true∧s[i]?=some 35)):V1 s i=aD cm s:=by
 have h1:=Gu cm s i hi hj;have hb:=(vD s i).1;have e:bB cm (mF s (iz s i).2 i) (s.drop i)=if mF s (iz s i).2 i=[] then [] else [mF s (iz s i).2 i]:=by
  rcases he with rfl|⟨h,hc⟩
  ·rw[List.drop_length];rfl
  ·rw[drop_at hc,bB,if_pos ⟨h,rfl⟩]
 rw[e]at h1;unfold V1;by_cases hlt:(iz s i).2 < i
 ·rw[if_neg (fun h=>(qb hi hb).1 h hlt)]at h1
  rw[decide_eq_true hlt];exact h1
 ·rw[if_pos ((qb hi hb).2 hlt),X3]at h1
  rw[decide_eq_false hlt];exact h1
open Go.RowKit Go.Lib Go.Sort
def Na(c:UInt8):Bool:=decide (48≤c.toNat∧c.toNat≤57)
theorem Bh{c:UInt8}(h:Na c=true):c=sig (c.toNat - 48)∧mq c=c.toNat - 48∧mq c < 10:=by
 have h:48≤c.toNat∧c.toNat≤57:=of_decide_eq_true h;have hd:mq c=c.toNat - 48:=by unfold mq; rw[if_pos (by omega)]
 refine⟨?_,hd,by omega⟩;apply UInt8.toNat_inj.1;rw[fb (by omega),if_pos (by omega)];omega
theorem Pn{d:Nat}(h:d < 10):Na (sig d)=true:=by unfold Na;rw[decide_eq_true_iff,fb (by omega),if_pos h];omega
theorem NG(u:Nat):∀c∈aq 10 u,Na c=true:=fun c hc=>by obtain⟨d,hd,rfl⟩:=iQ (by omega) u c hc;exact Pn hd
theorem Dy{l r:Bs}(h:l≠[]):(l++r).head?=l.head?:=by
 cases l with
 |nil=>exact absurd rfl h
 |cons a l=>rfl
theorem Ka:∀(u:Nat),(aq 10 u).head?=some 48→u=0:=by
 intro u;induction u using X5 with
 |_ u ih=>
  intro h;by_cases hu:u < 10
  ·rw[bh hu]at h
   have h:sig u=48:=XX.inj h;have h2:=fb (d:=u) (by omega);rw[h,if_pos hu]at h2;have:(48:UInt8).toNat=48:=rfl;omega
  ·rw[dQ (by omega) hu,Dy (jz _)]at h
   have:=ih (u / 10) (by omega) h;omega
theorem Jz(t:Bs)(c:UInt8):cZ (t++[c])=10*cZ t+mq c:=tm 10 t c
theorem J9{t:Bs}{c:UInt8}(ht:aq 10 (cZ t)=t)(h0:cZ t≠0)(hc:Na c=true):aq 10 (cZ (t++[c]))=t++[c]:=by obtain⟨h1,h2,h3⟩:=Bh hc;rw[Jz,dQ (by omega) (by omega),show(10*cZ t+mq c) / 10=cZ t by omega,show(10*cZ t+mq c)%10=mq c by omega,ht,h2,←h1]
theorem yc:∀(n:Nat) (s:Bs),s.length=n+1→(∀c∈s,Na c=true)→(s.head?=some 48→s=[48])→aq 10 (cZ s)=s
 | 0,s,hl,hd,_=>by
  obtain⟨c,rfl⟩:=List.length_eq_one_iff.1 hl;obtain⟨h1,h2,h3⟩:=Bh (hd c (by simp));have:cZ [c]=mq c:=by show 10*0+mq c=_;omega
  rw[this,bh h3,h2,←h1]
 |n+1,s,hl,hd,hh=>by
  have hne:s≠[]:=fun h=>by rw[h]at hl;cases hl
  obtain⟨t,c,rfl⟩:∃t c,s=t++[c]:=⟨s.dropLast,s.getLast hne,(List.dropLast_concat_getLast hne).symm⟩;rw[XH,X2,XV]at hl;have htn:t≠[]:=fun h=>by rw[h]at hl;simp at hl
  have hz:t.head?≠some 48:=fun h=>by
   have h1:=hh ((Dy htn).trans h);have h2:(t++[c]).length=1:=by rw[h1];rfl
   have h3:=XQ.2 htn;rw[XH,X2,XV]at h2;omega
  have ih:=yc n t (by omega) (fun x hx=>hd x (by simp[hx])) (fun h=>absurd h hz);refine J9 ih (fun h0=>hz ?_) (hd c (by simp));rw[←ih,h0,bh (by omega)];rfl
theorem ky{most:Nat}{s:Bs}:aS most s=true↔cZ s≤most∧s≠[]∧(∀c∈s,Na c=true)∧(s.head?=some 48→s=[48]):=by
 unfold aS;rw[XS,decide_eq_true_iff,decide_eq_true_iff];refine and_congr_right fun _=>⟨fun h=>⟨?_,?_,?_⟩,fun⟨h1,h2,h3⟩=>?_⟩
 ·rw[←h];exact jz _
 ·rw[←h];exact NG _
 ·intro h0
  rw[←h]at h0;have:=Ka _ h0;rw[←h,this,bh (by omega)];rfl
 ·obtain⟨n,hn⟩:∃n,s.length=n+1:=⟨s.length - 1,by have:=XQ.2 h1; omega⟩
  exact yc n s hn h2 h3
theorem JB(most:Nat):aS most []=false:=by rw[XM];intro h;exact(ky.1 h).2.1 rfl
theorem Fq{most:Nat}{s:Bs}(h0:s.head?=some 48)(h:s≠[48]):aS most s=false:=by rw[XM];intro hk;exact h ((ky.1 hk).2.2.2 h0)
theorem JD{most:Nat}{s:Bs}{i:Nat}{c:UInt8}(hc:s[i]?=some c)(h:Na c=false):aS most s=false:=by rw[XM];intro hk;have:=(ky.1 hk).2.2.1 c (XP hc);rw[h]at this;cases this
theorem Jy(s:Bs)(k:Nat):cZ (s.take k)≤cZ s:=BY (b:=10) (by omega) s k
theorem JA(s:Bs)(k:Nat)(c:UInt8)(hc:s[k]?=some c):cZ (s.take (k+1))=10*cZ (s.take k)+mq c:=BZ s k c hc
theorem JC{most:Nat}{s:Bs}{k:Nat}(h:most < cZ (s.take k)):aS most s=false:=by rw[XM];intro hk;have h1:=(ky.1 hk).1;have h2:=Jy s k;omega
end Go.Proofs.YtnncigmpcdehnaaGreatDoor
