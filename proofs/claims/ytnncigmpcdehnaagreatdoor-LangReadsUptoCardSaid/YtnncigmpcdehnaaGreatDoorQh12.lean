import Derived.Test.YtnncigmpcdehnaaGreatDoorQh11
import Derived.Lib.IfaceEq
open Go.Value renaming bool→Xy,int→XF,slice→Yo
open And renaming intro→Xz
open Nat renaming eq_of_beq_eq_true→XA,beq→XG,le_refl→XI,le_trans→XO,zero_le→XT,mul_one→X6,succ_mul→X9,lt_of_le_of_lt→Ye,div_le_self→Yl,zero_mul→Ys,add_zero→Yt
open List renaming length_append→XB,mem_singleton→XD,getElem?_eq_getElem→XE,getD_eq_getElem?_getD→XJ,length_cons→XL,append_inj→XM,drop_zero→XN,mem_cons→XS,drop_drop→XW,mem_filterMap→XX,range→XZ,not_mem_nil→X5,take_of_length_le→X7,take_append_drop→X8,mem_of_getElem?→Ya,mem_cons_of_mem→Yb,take_add_one→Yf,flatten_cons→Yg,take_length→Yi,map_append→Yj,length_nil→Yk,mapM_cons→Ym,map_cons→Yn,mem_map→Yp,flatten→Yq,range'→Yu
open Eq renaming mp→XC
open Bool renaming eq_iff_iff→XH,and_eq_true→XP,not_not→XV,not_eq_true'→X0,not_or→Yd
open Go.IntKind renaming i64→XQ,signed→XU,bits→XY,min→X1,max→X2
open Option renaming map_eq_some_iff→XR,some→X4
open Go.Sem renaming run_bind→X3
namespace Go.Proofs.YtnncigmpcdehnaaGreatDoor
set_option maxRecDepth 100000
open Go Go.RowKit Go.Lib Go.Sort _root_.Go.Proofs.Tryz
set_option maxRecDepth 100000
def vd(n i:Nat):Nat:=if nh n i=true then 1 else 0
theorem Om:∀x:Fin 256,bits .and .u8 (x.val:Int) 1=((x.val%2:Nat):Int):=by decide+kernel
theorem Ma(v:Bool)(n i:Nat)(hi:i < 128)(w:World):Calls prog 203 #[.agg (cD v n).toArray,.int .i64 (i:Int)] w (Rn w (.int .u8 (vd n i:Int))):=by
 obtain⟨x,hx⟩:∃x,ah n (i / 8)=x:=⟨_,rfl⟩;have hx2:x < 256:=by rw[←hx];exact ba n _
 have c6:XF .i64 (XQ.wrap ((i:Int).tdiv 8))=.int .i64 ((i / 8:Nat):Int):=iw (by rw[show(i:Int).tdiv 8=((i / 8:Nat):Int)from rfl,kC (by omega) (by omega)]);have c8:(0:Int)≤((i / 8:Nat):Int)∧((i / 8:Nat):Int) < 16:=⟨by omega,by omega⟩;have c9:(cD v n)[0+1+((i / 8:Nat):Int).toNat*1]?=some (.int .u8 (x:Int)):=by rw[←hx,X6];exact BI v n (i / 8) (by omega)
 have iB:XF .i64 ((i:Int).tmod 8)=.int .i64 ((i%8:Nat):Int):=rfl;have c12:XF .i64 (XQ.wrap (7 - ((i%8:Nat):Int)))=.int .i64 ((7 - i%8:Nat):Int):=iw (by rw[kC (by omega) (by omega)]; omega);have c13:=fun W=>SF (.tmp 9) (.tmp 12) x (7 - i%8) (by omega) W;have c14:XF .u8 (bits .and .u8 ((x / 2^(7 - i%8):Nat):Int) 1)=.int .u8 (vd n i:Int):=by
  have h:x / 2^(7 - i%8) < 256:=Ye (Yl _ _) hx2;rw[Om ⟨x / 2^(7 - i%8),h⟩];congr 2;have:=Ec n i hi;rw[hx]at this;unfold vd;rw[←this];by_cases hb:x / 2^(7 - i%8)%2=1
  ·rw[decide_eq_true hb,if_pos rfl];exact hb
  ·rw[decide_eq_false hb,if_neg (by decide)]; show x / 2^(7 - i%8)%2=0; omega
 have z0:XF .u8 (vd n i:Int)=.int .u8 (vd n i:Int):=rfl;refine Sx.av (args:=[.agg (cD v n).toArray,.int .i64 (i:Int)]) [cO 6 (i / 8),(8,.ix),(9,.ld (.int .u8 (x:Int))),cO 11 (i%8),cO 12 (7 - i%8),(13,.bin (.int .u8 ((x / 2^(7 - i%8):Nat):Int))),(14,.is (.int .u8 (vd n i:Int)))] [] (by kernel_rfl) func203 rfl (bN rfl) ?_;exact XC (by kernel_rfl) (Sx.t4 c6 c8 c9 iB (Sx.t2 c12 c13 (Xz c14 z0)))
def noBits(n a b:Nat):Prop:=∀j,a≤j→j < b→nh n j=false
theorem zE{n a i:Nat}(h:noBits n a i)(hb:nh n i=false):noBits n a (i+1):=fun j h1 h2=>by
 by_cases hj:j=i
 ·rw[hj];exact hb
 ·exact h j h1 (by omega)
theorem ij{n k:Nat}(hk:k≤128):noBits n k 128↔df n k=n:=by
 rw[qo];constructor
 ·intro h j hj
  have:=h (127 - j) (by omega) (by omega);unfold nh at this;rwa [show 127 - (127 - j)=j by omega]at this
 ·intro h j h1 h2
  exact h (127 - j) (by omega)
def sA(i:Nat):List (Nat×Sx.SV):=[(1,.ptr 0 0),(3,.val (.int .i64 (i:Int)))]
def wG(v:Bool)(n:Nat):List Sx.Row:=[⟨24,.an (cD v n)⟩]
def U5(v:Bool)(n i:Nat):Prop:=(32≤i∧i≤128)∧(v=true→i=32)∧noBits n 32 i
theorem U4(v:Bool)(n:Nat)(w:World)(T:Value)(hT:T=.bool (jt v n))(i:Nat)(hi:U5 v n i):∃H' L',Sx.ex prog 17 w (Sx.a7 f201 0) H' L' ⟨sA i,wG v n⟩
  (Sx.dP (U5 v n) sA (fun _=>wG v n) (fun i=>i+1) (fun i=>130 - i) (fun(_:Unit)=>jt v n=true) (fun _=>[]) (fun _=>[]) (fun _=>()) (Sx.ej (Sx.a7 f201 0) - 1) (Sx.atEnd prog f201 (fun u=>u=T) .ret) i):=by
 obtain⟨⟨h32,h128⟩,hv,hz⟩:=hi;cases v with
 |true=>
  obtain rfl:=hv rfl;have h0:jt true n=true:=by unfold jt;rw[decide_eq_true_eq,←ij (fG true)];intro j h1 h2;have h1:128≤j:=h1;omega
  have h1:([]:List (Nat×Sx.SV))=[]:=rfl;have z2:([]:List Sx.Row)=[]:=rfl;refine⟨[],[],?_⟩;exact XC (by kernel_rfl) (Sx.t2 h0 h1 z2)
 |false=>
  by_cases hlt:i < 128
  ·have c5:=bT ((i:Int) < 128) (by omega)
   obtain⟨x,hx⟩:∃x,vd n i=x:=⟨_,rfl⟩;have c15:=fun W (_:ai [] w W)=>Ma false n i hlt W;rw[hx]at c15;have c12:=mW (i:=i) (by omega);cases hb:nh n i with
   |true=>
    have kq:Xy ((x:Int) !=0)=.bool true:=by rw[←hx];unfold vd;rw[hb];rfl
    have z0:Xy false=T:=by rw[hT];congr 1;symm;unfold jt;rw[decide_eq_false_iff_not,←ij (fG false)];intro h;rw[h i h32 hlt]at hb;cases hb
    refine⟨[ao 5 true,(15,.call (.int .u8 (x:Int))),ao 16 true],[],?_⟩;exact XC (by kernel_rfl) (Sx.t2 c5 c15 (Xz kq z0))
   |false=>
    have kq:Xy ((x:Int) !=0)=.bool false:=by rw[←hx];unfold vd;rw[hb];rfl
    have h0:U5 false n (i+1):=⟨⟨by omega,by omega⟩,(fun h=>by cases h),zE hz hb⟩;have h1:130 - (i+1) < 130 - i:=by omega
    have h2:sA (i+1)=sA (i+1):=rfl;have z3:wG false n=wG false n:=rfl;refine⟨[ao 5 true,(15,.call (.int .u8 (x:Int))),ao 16 false,cO 12 (i+1)],[],?_⟩;exact XC (by kernel_rfl) (Sx.t4 c5 c15 kq c12 (Sx.t2 h0 h1 (Xz h2 z3)))
  ·have c5:=bF ((i:Int) < 128) (by omega)
   obtain rfl:i=128:=by omega
   have h0:jt false n=true:=by unfold jt;rw[decide_eq_true_eq,←ij (fG false)];exact hz
   have h1:([]:List (Nat×Sx.SV))=[]:=rfl;have z2:([]:List Sx.Row)=[]:=rfl;refine⟨[ao 5 false],[],?_⟩;exact XC (by kernel_rfl) (Sx.t2 c5 h0 (Xz h1 z2))
theorem P2(v:Bool)(n:Nat)(w:World):Calls prog 201 #[.agg (cD v n).toArray] w (Rn w (.bool (jt v n))):=by
 have h0:U5 v n 32:=⟨⟨by omega,by omega⟩,fun _=>rfl,fun j h1 h2=>by omega⟩;have e1:sA 32=sA 32∧wG v n=wG v n:=⟨rfl,rfl⟩;obtain⟨T,hT⟩:∃T,T=Xy (jt v n):=⟨_,rfl⟩;have iZ:=U4 v n w T hT;have z5f:Unit→jt v n=true→Xy true=T:=fun _ h=>by rw[hT,h]
 rw[←hT];refine Sx.av (args:=[.agg (cD v n).toArray]) [] [.mk Nat 32 (U5 v n) sA (fun _=>wG v n) (fun i=>i+1) (fun i=>130 - i) Unit (fun _=>jt v n=true) (fun _=>[]) (fun _=>[]) (fun _=>())] (by kernel_rfl) func201 rfl (bN rfl) ?_;exact XC (by kernel_rfl) (Sx.t2 h0 e1 (Xz iZ (fun(x3:Unit) (hx4:jt v n=true)=>(z5f x3 hx4))))
theorem PZ(v:Bool)(w:World):Calls prog 202 #[.bool v] w (Rn w (.int .i64 (wid v:Int))):=by
 cases v with
 |true=>have z0:XF .i64 128=.int .i64 (wid true:Int):=rfl;refine Sx.av (args:=[.bool true]) [] [] (by kernel_rfl) func202 rfl (bN rfl) ?_;exact XC (by kernel_rfl) z0
 |false=>have z0:XF .i64 32=.int .i64 (wid false:Int):=rfl;refine Sx.av (args:=[.bool false]) [] [] (by kernel_rfl) func202 rfl (bN rfl) ?_;exact XC (by kernel_rfl) z0
def wF(v:Bool)(n:Nat)(k:Int):List Sx.Row:=[⟨29,.an (dt v n k)⟩]
def U1(n K i:Nat):Prop:=(K≤i∧i≤128)∧noBits n K i
theorem U0(v:Bool)(n K:Nat)(k:Int)(w:World)(T:Value)(hT:T=.bool (decide (df n K=n)))(i:Nat)(hi:U1 n K i):∃H' L',Sx.ex prog 33 w (Sx.a7 f147 0) H' L' ⟨sA i,wF v n k⟩
  (Sx.dP (U1 n K) sA (fun _=>wF v n k) (fun i=>i+1) (fun i=>130 - i) (fun(_:Unit)=>df n K=n) (fun _=>[]) (fun _=>[]) (fun _=>()) (Sx.ej (Sx.a7 f147 0) - 1) (Sx.atEnd prog f147 (fun u=>u=T) .ret) i):=by
 obtain⟨⟨hK,h128⟩,hz⟩:=hi;have key:=ij (n:=n) (k:=K) (by omega);by_cases hlt:i < 128
 ·have c25:=bT ((i:Int) < 128) (by omega)
  obtain⟨x,hx⟩:∃x,vd n i=x:=⟨_,rfl⟩;have c31:=fun W (_:ai [] w W)=>Ma v n i hlt W;rw[hx]at c31;have c27:=mW (i:=i) (by omega);cases hb:nh n i with
  |true=>
   have c32:Xy ((x:Int) !=0)=.bool true:=by rw[←hx];unfold vd;rw[hb];rfl
   have z0:Xy false=T:=by rw[hT];congr 1;symm;rw[decide_eq_false_iff_not,←key];intro h;rw[h i hK hlt]at hb;cases hb
   refine⟨[ao 25 true,(31,.call (.int .u8 (x:Int))),ao 32 true],[],?_⟩;exact XC (by kernel_rfl) (Sx.t2 c25 c31 (Xz c32 z0))
  |false=>
   have c32:Xy ((x:Int) !=0)=.bool false:=by rw[←hx];unfold vd;rw[hb];rfl
   have h0:U1 n K (i+1):=⟨⟨by omega,by omega⟩,zE hz hb⟩;have h1:130 - (i+1) < 130 - i:=by omega
   have h2:sA (i+1)=sA (i+1):=rfl;have z3:wF v n k=wF v n k:=rfl;refine⟨[ao 25 true,(31,.call (.int .u8 (x:Int))),ao 32 false,cO 27 (i+1)],[],?_⟩;exact XC (by kernel_rfl) (Sx.t4 c25 c31 c32 c27 (Sx.t2 h0 h1 (Xz h2 z3)))
 ·have c25:=bF ((i:Int) < 128) (by omega)
  obtain rfl:i=128:=by omega
  have h0:df n K=n:=key.1 hz;have h1:([]:List (Nat×Sx.SV))=[]:=rfl;have z2:([]:List Sx.Row)=[]:=rfl;refine⟨[ao 25 false],[],?_⟩;exact XC (by kernel_rfl) (Sx.t2 c25 h0 (Xz h1 z2))
theorem Js(v:Bool)(n:Nat)(k:Int):gy v n k=(jt v n&&(!decide (k < 0)&&(!decide (k > (wid v:Int))&&decide (df n k.toNat=n)))):=by
 unfold gy jt;by_cases h0:k < 0
 ·rw[decide_eq_false (by omega),decide_eq_true h0];simp
 by_cases h1:k > (wid v:Int)
 ·rw[decide_eq_false (p:=k≤(wid v:Int)) (by omega),decide_eq_true h1];simp
 rw[decide_eq_true (p:=0≤k) (by omega),decide_eq_true (p:=k≤(wid v:Int)) (by omega),decide_eq_false h0,decide_eq_false h1];by_cases h2:df n k.toNat=n
 ·have h3:df n (wid v)=n:=by
   rw[←ij (fG v)];have hw:=fG v;have:=(ij (n:=n) (k:=k.toNat) (by omega)).2 h2;exact fun j h1 h2=>this j (by omega) h2
  rw[decide_eq_true h2,decide_eq_true h3];rfl
 ·rw[decide_eq_false h2];simp
theorem G4(v:Bool)(n:Nat)(k:Int)(w:World):Calls prog 147 #[.agg (dt v n k).toArray] w (Rn w (.bool (gy v n k))):=by
 have c6:=fun W (_:ai [] w W)=>P2 v n W;have c19:=fun W (_:ai [] w W)=>PZ v W;rw[Js];cases ha:jt v n with
 |false=>rw[ha]at c6;have z0:Xy false=.bool false:=rfl;refine Sx.av (args:=[.agg (dt v n k).toArray]) [(6,.call (.bool false))] [] (by kernel_rfl) func147 rfl (bN rfl) ?_;exact XC (by kernel_rfl) (Xz c6 z0)
 |true=>
  rw[ha]at c6;cases hk:decide (k < 0)with
  |true=>
   have iB:Xy (decide (k < 0))=.bool true:=by rw[hk]
   have z0:Xy false=.bool false:=rfl;refine Sx.av (args:=[.agg (dt v n k).toArray]) [(6,.call (.bool true)),ao 11 true] [] (by kernel_rfl) func147 rfl (bN rfl) ?_;exact XC (by kernel_rfl) (Sx.t2 c6 iB z0)
  |false=>
   have iB:Xy (decide (k < 0))=.bool false:=by rw[hk]
   cases hg:decide (k > (wid v:Int))with
   |true=>
    have c20:Xy (decide (k > (wid v:Int)))=.bool true:=by rw[hg]
    have z0:Xy false=.bool false:=rfl;refine Sx.av (args:=[.agg (dt v n k).toArray]) [(6,.call (.bool true)),ao 11 false,(19,.call (.int .i64 (wid v:Int))),ao 20 true] [] (by kernel_rfl) func147 rfl (bN rfl) ?_;exact XC (by kernel_rfl) (Sx.t4 c6 iB c19 c20 z0)
   |false=>
    have c20:Xy (decide (k > (wid v:Int)))=.bool false:=by rw[hg]
    have hk:=of_decide_eq_false hk;have hg:=of_decide_eq_false hg;have hw:=fG v;obtain⟨K,rfl⟩:∃K:Nat,k=(K:Int):=⟨k.toNat,by omega⟩;show Calls prog 147 #[.agg (dt v n (K:Int)).toArray] w (Rn w (.bool (decide (df n K=n))));have h0:U1 n K K:=⟨⟨by omega,by omega⟩,fun j h1 h2=>by omega⟩;have e1:sA K=sA K∧wF v n K=wF v n K:=⟨rfl,rfl⟩;obtain⟨T,hT⟩:∃T,T=Xy (decide (df n K=n)):=⟨_,rfl⟩;have iZ:=U0 v n K K w T hT;have z5f:Unit→df n K=n→Xy true=T:=fun _ h=>by rw[hT,decide_eq_true h]
    rw[←hT];refine Sx.av (args:=[.agg (dt v n (K:Int)).toArray]) [(6,.call (.bool true)),ao 11 false,(19,.call (.int .i64 (wid v:Int))),ao 20 false] [.mk Nat K (U1 n K) sA (fun _=>wF v n K) (fun i=>i+1) (fun i=>130 - i) Unit (fun _=>df n K=n) (fun _=>[]) (fun _=>[]) (fun _=>())] (by kernel_rfl) func147 rfl (bN rfl) ?_;exact XC (by kernel_rfl) (Sx.t4 c6 iB c19 c20 (Sx.t2 h0 e1 (Xz iZ (fun(x3:Unit) (hx4:df n K=n)=>(z5f x3 hx4)))))
set_option maxRecDepth 100000
open Go Go.RowKit Go.Lib Go.Sort _root_.Go.Proofs.Tryz
set_option maxRecDepth 100000
theorem SU(x y:Operand)(a p:Nat)(ha:a < 256)(hp:p≠0)(W:World):(do eqGuard .quo 5 x y (.int .u8 (a:Int)) (.int .u8 (p:Int)); binOp .quo 5 (.int .u8 (a:Int)) (.int .u8 (p:Int)):Sem Value).run prog W=.ok (.int .u8 ((a / p:Nat):Int)) W:=by show(Op.intDiv .quo .u8 (a:Int) (p:Int)).run prog W=_;unfold Op.intDiv;rw[if_neg (by omega)];show Result.ok (XF .u8 (IntKind.u8.wrap ((a:Int).tdiv (p:Int)))) W=_;have h:a / p≤a:=Yl _ _;rw[show(a:Int).tdiv (p:Int)=((a / p:Nat):Int)from rfl];generalize a / p=q at h ⊢;rw[IntWalk.u8_in _ ⟨by omega,by omega⟩]
theorem P1(m:Mt)(hm:m.Wf)(k p:Nat)(hp:p=2^k)(w:World):Calls prog 146 #[jU m,.int .u8 (p:Int)] w (Rn w (.bool (m.asks.testBit k))):=by
 have ha:m.asks < 256:=hm.asks;have c8:=fun W=>SU (.tmp 6) (.tmp 7) m.asks p ha (by rw[hp];exact Nat.pos_iff_ne_zero.1 (Nat.two_pow_pos k)) W;have c9:XF .u8 (((m.asks / p:Nat):Int).tmod 2)=.int .u8 ((m.asks / p%2:Nat):Int):=rfl;have c10:Xy (((m.asks / p%2:Nat):Int)==1)=.bool (m.asks.testBit k):=by rw[Nat.testBit_eq_decide_div_mod_eq,←hp];congr 1;rw[XH];simp only[beq_iff_eq,decide_eq_true_eq];omega
 have z0:Xy (m.asks.testBit k)=.bool (m.asks.testBit k):=rfl;refine Sx.av (args:=[jU m,.int .u8 (p:Int)]) [(8,.bin (.int .u8 ((m.asks / p:Nat):Int))),(9,.is (.int .u8 ((m.asks / p%2:Nat):Int))),(10,.is (.bool (m.asks.testBit k)))] [] (by kernel_rfl) func146 rfl (bN rfl) ?_;exact XC (by kernel_rfl) (Sx.t2 c8 c9 (Xz c10 z0))
theorem L7(p:Nat)(w:World):Calls prog 148 #[.int .u8 (p:Int)] w (Rn w (.bool (decide (p=6)||decide (p=17)))):=by
 have e6:((p:Int)==6)=decide (p=6):=by rw[XH];simp only[beq_iff_eq,decide_eq_true_eq];omega
 have e17:((p:Int)==17)=decide (p=17):=by rw[XH];simp only[beq_iff_eq,decide_eq_true_eq];omega
 cases h6:decide (p=6)with
 |true=>
  have c4:Xy ((p:Int)==6)=.bool true:=by rw[e6,h6]
  have z0:Xy true=.bool (true||decide (p=17)):=rfl;refine Sx.av (args:=[.int .u8 (p:Int)]) [ao 4 true] [] (by kernel_rfl) func148 rfl (bN rfl) ?_;exact XC (by kernel_rfl) (Xz c4 z0)
 |false=>
  have c4:Xy ((p:Int)==6)=.bool false:=by rw[e6,h6]
  have c7:Xy ((p:Int)==17)=.bool (decide (p=17)):=by rw[e17]
  have z0:Xy (decide (p=17))=.bool (false||decide (p=17)):=rfl;refine Sx.av (args:=[.int .u8 (p:Int)]) [ao 4 false,(7,.is (.bool (decide (p=17))))] [] (by kernel_rfl) func148 rfl (bN rfl) ?_;exact XC (by kernel_rfl) (Sx.t2 c4 c7 z0)
def fW(b0 b1 b2 b3 b4 b5:Bool)(s:Nat)(t:Bool):List (Nat×Sx.SV):=[(1,.ptr 0 0),(3,.ptr 1 0),(4,.val (.bool b0)),(5,.val (.bool b1)),(6,.val (.bool b2)),(7,.val (.bool b3)),(8,.val (.bool b4)),(9,.val (.bool b5)),(s,.val (.bool t))]
def oU(m:Mt):List Sx.Row:=[⟨66,.an m.cells⟩,⟨64,.an [.int .u16 0,.int .u16 0]⟩]
def G5(b3 a4 a5 t6 g1 g2 g3 g4 u3 pt:Bool):Bool:=
 bif t6 then false else bif g1||(g2||(g3||g4))then false else bif u3 then false else(a4&&a5)||(b3&&pt)
structure qS(t a n r:Bool):Prop where
 x:t=true→true=r
 y:t=false→a=true→n=r
 z:t=false→a=false→false=r
theorem sG(t a n:Bool):qS t a n (t||(a&&n)):=⟨fun h=>by rw[h];rfl,fun h h'=>by rw[h,h'];rfl,fun h h'=>by rw[h,h'];rfl⟩
theorem L8(m:Mt)(w:World)(b0 b1 b2 b3 b4 b5 a0 a1 a2 a3 a4 a5 t0 n0 n1 n2 n3 n4 n5 t1 t2 t3 t4 t5 t6 g1 g2 g3 g4 x1 x2 y1 y2 u1 u2 u3 ne pt:Bool)
  (c12:∀W,ai [] w W→Calls prog 146 #[jU m,.int .u8 1] W (Rn W (.bool b0)))
  (c14:∀W,ai [] w W→Calls prog 146 #[jU m,.int .u8 2] W (Rn W (.bool b1)))
  (kq:∀W,ai [] w W→Calls prog 146 #[jU m,.int .u8 4] W (Rn W (.bool b2)))
  (c18:∀W,ai [] w W→Calls prog 146 #[jU m,.int .u8 8] W (Rn W (.bool b3)))
  (c20:∀W,ai [] w W→Calls prog 146 #[jU m,.int .u8 16] W (Rn W (.bool b4)))
  (c22:∀W,ai [] w W→Calls prog 146 #[jU m,.int .u8 32] W (Rn W (.bool b5)))
  (c28:Xy (!b0)=.bool a0)
  (c38:Xy (!b1)=.bool a1)
  (c48:Xy (!b2)=.bool a2)
  (c58:Xy (!b3)=.bool a3)
  (c67:Xy (!b4)=.bool a4)
  (c77:Xy (!b5)=.bool a5)
  (c25:Xy (decide ((m.asks:Int) > 63))=.bool t0)
  (c33:∀W,(do eqGuard .neq 64 (.tmp 31) (.tmp 32) (iA m.fU) (iA (0,0));binOp .neq 64 (iA m.fU) (iA (0,0)):Sem Value).run prog W=.ok (.bool n0) W)
  (Ea:∀W,(do eqGuard .neq 29 (.tmp 41) (.tmp 42) (mr m.src) (mr ov);binOp .neq 29 (mr m.src) (mr ov):Sem Value).run prog W=.ok (.bool n1) W)
  (c53:∀W,(do eqGuard .neq 29 (.tmp 51) (.tmp 52) (mr m.dst) (mr ov);binOp .neq 29 (mr m.dst) (mr ov):Sem Value).run prog W=.ok (.bool n2) W)
  (c62:Xy ((m.bw:Int) !=0)=.bool n3)
  (c72:∀W,(do eqGuard .neq 64 (.tmp 70) (.tmp 71) (iA m.sp) (iA (0,0));binOp .neq 64 (iA m.sp) (iA (0,0)):Sem Value).run prog W=.ok (.bool n4) W)
  (c82:∀W,(do eqGuard .neq 64 (.tmp 80) (.tmp 81) (iA m.dp) (iA (0,0));binOp .neq 64 (iA m.dp) (iA (0,0)):Sem Value).run prog W=.ok (.bool n5) W)
  (k1:qS t0 a0 n0 t1)
  (k2:qS t1 a1 n1 t2)
  (k3:qS t2 a2 n2 t3)
  (k4:qS t3 a3 n3 t4)
  (k5:qS t4 a4 n4 t5)
  (k6:qS t5 a5 n5 t6)
  (c91:Xy (decide ((m.fU.1:Int) > (m.fU.2:Int)))=.bool g1) (c96:Xy (decide ((m.fU.2:Int) > 255))=.bool g2) (c105:Xy (decide ((m.sp.1:Int) > (m.sp.2:Int)))=.bool g3) (c114:Xy (decide ((m.dp.1:Int) > (m.dp.2:Int)))=.bool g4)
  (c120:∀W,ai [] w W→Calls prog 147 #[mr m.src] W (Rn W (.bool x1))) (c128:∀W,ai [] w W→Calls prog 147 #[mr m.dst] W (Rn W (.bool x2)))
  (c121:Xy (!x1)=.bool y1) (c129:Xy (!x2)=.bool y2) (k7:qS false b1 y1 u1) (k8:qS u1 b2 y2 u2) (k9:qS u2 (b1&&b2) ne u3)
  (c146:Xy (m.src.v !=m.dst.v)=.bool ne) (c160:∀W,ai [] w W→Calls prog 148 #[.int .u8 (m.bw:Int)] W (Rn W (.bool pt))) :
  Calls prog 88 #[jU m] w (Rn w (.bool (G5 b3 a4 a5 t6 g1 g2 g3 g4 u3 pt))):=by
 have c150:=c67;have c153:=c77;have zmem:=(rfl:oU m=oU m);have h1f:=fun(h:t0=true)=>congrArg (fW b0 b1 b2 b3 b4 b5 36) (k1.x h);have h4f:=fun(h:t0=false) (h':a0=true)=>congrArg (fW b0 b1 b2 b3 b4 b5 36) (k1.y h h');have h6f:=fun(h:t0=false) (h':a0=false)=>congrArg (fW b0 b1 b2 b3 b4 b5 36) (k1.z h h');have h9f:=fun(h:t1=true)=>congrArg (fW b0 b1 b2 b3 b4 b5 46) (k2.x h);have h12f:=fun(h:t1=false) (h':a1=true)=>congrArg (fW b0 b1 b2 b3 b4 b5 46) (k2.y h h');have h14f:=fun(h:t1=false) (h':a1=false)=>congrArg (fW b0 b1 b2 b3 b4 b5 46) (k2.z h h');have h17f:=fun(h:t2=true)=>congrArg (fW b0 b1 b2 b3 b4 b5 56) (k3.x h);have h20f:=fun(h:t2=false) (h':a2=true)=>congrArg (fW b0 b1 b2 b3 b4 b5 56) (k3.y h h');have h22f:=fun(h:t2=false) (h':a2=false)=>congrArg (fW b0 b1 b2 b3 b4 b5 56) (k3.z h h');have h25f:=fun(h:t3=true)=>congrArg (fW b0 b1 b2 b3 b4 b5 65) (k4.x h);have h28f:=fun(h:t3=false) (h':a3=true)=>congrArg (fW b0 b1 b2 b3 b4 b5 65) (k4.y h h');have h30f:=fun(h:t3=false) (h':a3=false)=>congrArg (fW b0 b1 b2 b3 b4 b5 65) (k4.z h h');have h33f:=fun(h:t4=true)=>congrArg (fW b0 b1 b2 b3 b4 b5 75) (k5.x h);have h36f:=fun(h:t4=false) (h':a4=true)=>congrArg (fW b0 b1 b2 b3 b4 b5 75) (k5.y h h');have h38f:=fun(h:t4=false) (h':a4=false)=>congrArg (fW b0 b1 b2 b3 b4 b5 75) (k5.z h h');have h41f:=fun(h:t5=true)=>congrArg (fW b0 b1 b2 b3 b4 b5 84) (k6.x h);have h44f:=fun(h:t5=false) (h':a5=true)=>congrArg (fW b0 b1 b2 b3 b4 b5 84) (k6.y h h');have h46f:=fun(h:t5=false) (h':a5=false)=>congrArg (fW b0 b1 b2 b3 b4 b5 84) (k6.z h h');have h59f:=fun(_:t6=false) (_:g1=false) (_:g2=false) (_:g3=false) (_:g4=false) (h:b1=true)=>congrArg (fW b0 b1 b2 b3 b4 b5 123) (k7.y rfl h);have h61f:=fun(_:t6=false) (_:g1=false) (_:g2=false) (_:g3=false) (_:g4=false) (h:b1=false)=>congrArg (fW b0 b1 b2 b3 b4 b5 123) (k7.z rfl h);have h64f:=fun(_:t6=false) (_:g1=false) (_:g2=false) (_:g3=false) (_:g4=false) (h:u1=true)=>congrArg (fW b0 b1 b2 b3 b4 b5 132) (k8.x h);have h67f:=fun(_:t6=false) (_:g1=false) (_:g2=false) (_:g3=false) (_:g4=false) (h:u1=false) (h':b2=true)=>congrArg (fW b0 b1 b2 b3 b4 b5 132) (k8.y h h');have h69f:=fun(_:t6=false) (_:g1=false) (_:g2=false) (_:g3=false) (_:g4=false) (h:u1=false) (h':b2=false)=>congrArg (fW b0 b1 b2 b3 b4 b5 132) (k8.z h h');have h72f:=fun(_:t6=false) (_:g1=false) (_:g2=false) (_:g3=false) (_:g4=false) (h:u2=true)=>congrArg (fW b0 b1 b2 b3 b4 b5 148) (k9.x h);have h76f:=fun(_:t6=false) (_:g1=false) (_:g2=false) (_:g3=false) (_:g4=false) (h:u2=false) (h1:b1=true) (h2:b2=true)=>congrArg (fW b0 b1 b2 b3 b4 b5 148) (k9.y h (by rw[h1,h2];rfl));have h78f:=fun(_:t6=false) (_:g1=false) (_:g2=false) (_:g3=false) (_:g4=false) (h:u2=false) (h1:b1=true) (h2:b2=false)=>congrArg (fW b0 b1 b2 b3 b4 b5 148) (k9.z h (by rw[h1,h2];rfl));have h80f:=fun(_:t6=false) (_:g1=false) (_:g2=false) (_:g3=false) (_:g4=false) (h:u2=false) (h1:b1=false)=>congrArg (fW b0 b1 b2 b3 b4 b5 148) (k9.z h (by rw[h1];rfl));refine Sx.av (args:=[jU m]) [(12,.call (.bool b0)),(14,.call (.bool b1)),(16,.call (.bool b2)),(18,.call (.bool b3)),(20,.call (.bool b4)),(22,.call (.bool b5)),ao 25 t0,ao 28 a0,ao 38 a1,ao 48 a2,ao 58 a3,ao 67 a4,ao 77 a5,(33,.bin (.bool n0)),(43,.bin (.bool n1)),(53,.bin (.bool n2)),ao 62 n3,(72,.bin (.bool n4)),(82,.bin (.bool n5)),(700003,.TK [(14,fW b0 b1 b2 b3 b4 b5 36 t1,oU m),(10,fW b0 b1 b2 b3 b4 b5 46 t2,oU m),(10,fW b0 b1 b2 b3 b4 b5 56 t3,oU m),(9,fW b0 b1 b2 b3 b4 b5 65 t4,oU m),(10,fW b0 b1 b2 b3 b4 b5 75 t5,oU m),(9,fW b0 b1 b2 b3 b4 b5 84 t6,oU m)]),ao 91 g1,ao 96 g2,ao 105 g3,ao 114 g4,(120,.call (.bool x1)),(128,.call (.bool x2)),ao 121 y1,ao 129 y2,ao 146 ne,(160,.call (.bool pt)),ao 150 a4,ao 153 a5,(700007,.TK [(8,fW b0 b1 b2 b3 b4 b5 123 u1,oU m),(9,fW b0 b1 b2 b3 b4 b5 132 u2,oU m),(16,fW b0 b1 b2 b3 b4 b5 148 u3,oU m)])] [] (by kernel_rfl) func88 rfl (bN rfl) ?_;exact XC (by kernel_rfl) (Sx.t8 c12 c14 kq c18 c20 c22 (Xz c25 (Sx.aI (b:=t0) (fun hb0=>(Xz (h1f hb0) zmem)) (fun hb0=>(Xz c28 (Sx.aI (b:=a0) (fun hb3=>(Sx.t2 c33 (h4f hb0 hb3) zmem)) (fun hb3=>(Xz (h6f hb0 hb3) zmem))))))) (Sx.aI (b:=t1) (fun hb8=>(Xz (h9f hb8) zmem)) (fun hb8=>(Xz c38 (Sx.aI (b:=a1) (fun hb11=>(Sx.t2 Ea (h12f hb8 hb11) zmem)) (fun hb11=>(Xz (h14f hb8 hb11) zmem)))))) (Sx.t4 (Sx.aI (b:=t2) (fun hb16=>(Xz (h17f hb16) zmem)) (fun hb16=>(Xz c48 (Sx.aI (b:=a2) (fun hb19=>(Sx.t2 c53 (h20f hb16 hb19) zmem)) (fun hb19=>(Xz (h22f hb16 hb19) zmem)))))) (Sx.aI (b:=t3) (fun hb24=>(Xz (h25f hb24) zmem)) (fun hb24=>(Xz c58 (Sx.aI (b:=a3) (fun hb27=>(Sx.t2 c62 (h28f hb24 hb27) zmem)) (fun hb27=>(Xz (h30f hb24 hb27) zmem)))))) (Sx.aI (b:=t4) (fun hb32=>(Xz (h33f hb32) zmem)) (fun hb32=>(Xz c67 (Sx.aI (b:=a4) (fun hb35=>(Sx.t2 c72 (h36f hb32 hb35) zmem)) (fun hb35=>(Xz (h38f hb32 hb35) zmem)))))) (Sx.aI (b:=t5) (fun hb40=>(Xz (h41f hb40) zmem)) (fun hb40=>(Xz c77 (Sx.aI (b:=a5) (fun hb43=>(Sx.t2 c82 (h44f hb40 hb43) zmem)) (fun hb43=>(Xz (h46f hb40 hb43) zmem)))))) (Sx.aI (b:=t6) (fun hb48=>(show Go.Value.bool false=Go.Value.bool (G5 b3 a4 a5 t6 g1 g2 g3 g4 u3 pt)from by cases hb48<;>rfl)) (fun hb48=>(Xz c91 (Sx.aI (b:=g1) (fun hb50=>(show Go.Value.bool false=Go.Value.bool (G5 b3 a4 a5 t6 g1 g2 g3 g4 u3 pt)from by subst_vars;trivial)) (fun hb50=>(Xz c96 (Sx.aI (b:=g2) (fun hb52=>(show Go.Value.bool false=Go.Value.bool (G5 b3 a4 a5 t6 g1 g2 g3 g4 u3 pt)from by subst_vars;trivial)) (fun hb52=>(Xz c105 (Sx.aI (b:=g3) (fun hb54=>(show Go.Value.bool false=Go.Value.bool (G5 b3 a4 a5 t6 g1 g2 g3 g4 u3 pt)from by subst_vars;trivial)) (fun hb54=>(Xz c114 (Sx.aI (b:=g4) (fun hb56=>(show Go.Value.bool false=Go.Value.bool (G5 b3 a4 a5 t6 g1 g2 g3 g4 u3 pt)from by subst_vars;trivial)) (fun hb56=>(Sx.t2 (Sx.aI (b:=b1) (fun hb58=>(Sx.t2 c120 c121 (Xz (h59f hb48 hb50 hb52 hb54 hb56 hb58) zmem))) (fun hb58=>(Xz (h61f hb48 hb50 hb52 hb54 hb56 hb58) zmem))) (Sx.aI (b:=u1) (fun hb63=>(Xz (h64f hb48 hb50 hb52 hb54 hb56 hb63) zmem)) (fun hb63=>(Sx.aI (b:=b2) (fun hb66=>(Sx.t2 c128 c129 (Xz (h67f hb48 hb50 hb52 hb54 hb56 hb63 hb66) zmem))) (fun hb66=>(Xz (h69f hb48 hb50 hb52 hb54 hb56 hb63 hb66) zmem))))) (Xz (Sx.aI (b:=u2) (fun hb71=>(Xz (h72f hb48 hb50 hb52 hb54 hb56 hb71) zmem)) (fun hb71=>(Sx.aI (b:=b1) (fun hb74=>(Sx.aI (b:=b2) (fun hb75=>(Sx.t2 c146 (h76f hb48 hb50 hb52 hb54 hb56 hb71 hb74 hb75) zmem)) (fun hb75=>(Xz (h78f hb48 hb50 hb52 hb54 hb56 hb71 hb74 hb75) zmem)))) (fun hb74=>(Xz (h80f hb48 hb50 hb52 hb54 hb56 hb71 hb74) zmem))))) (Sx.aI (b:=u3) (fun hb82=>(show Go.Value.bool false=Go.Value.bool (G5 b3 a4 a5 t6 g1 g2 g3 g4 u3 pt)from by subst_vars;trivial)) (fun hb82=>(Xz c150 (Sx.aI (b:=a4) (fun hb84=>(Xz c153 (Sx.aI (b:=a5) (fun hb85=>(show Go.Value.bool true=Go.Value.bool (G5 b3 a4 a5 t6 g1 g2 g3 g4 u3 pt)from by subst_vars;trivial)) (fun hb85=>(Sx.aI (b:=b3) (fun hb87=>(Xz c160 (show Go.Value.bool pt=Go.Value.bool (G5 b3 a4 a5 t6 g1 g2 g3 g4 u3 pt)from by subst_vars;trivial))) (fun hb87=>(show Go.Value.bool false=Go.Value.bool (G5 b3 a4 a5 t6 g1 g2 g3 g4 u3 pt)from by subst_vars;trivial))))))) (fun hb84=>(Sx.aI (b:=b3) (fun hb90=>(Xz c160 (show Go.Value.bool pt=Go.Value.bool (G5 b3 a4 a5 t6 g1 g2 g3 g4 u3 pt)from by subst_vars;trivial))) (fun hb90=>(show Go.Value.bool false=Go.Value.bool (G5 b3 a4 a5 t6 g1 g2 g3 g4 u3 pt)from by subst_vars;trivial))))))))))))))))))))))))))
open Go Go.RowKit Go.Lib Go.Sort _root_.Go.Proofs.Tryz
theorem SW(b3 a4 a5 t6 g1 g2 g3 g4 u3 pt:Bool):G5 b3 a4 a5 t6 g1 g2 g3 g4 u3 pt=(!t6&&(!(g1||(g2||(g3||g4)))&&(!u3&&((a4&&a5)||(b3&&pt))))):=by unfold G5;cases t6<;>cases(g1||(g2||(g3||g4)))<;>cases u3<;>rfl
theorem P0(A G S b3 n3 b4 b5 p:Bool)(hA:A=true→(b3||!n3)=true)(hp:n3=false→p=false) :
  (A&&(G&&(S&&((!b4&&!b5)||(b3&&p)))))=(A&&(G&&(S&&(!(b4||b5)||p)))):=by
 cases A
 ·rfl
 have h:=hA rfl;cases b3 with
 |true=>cases b4<;>cases b5<;>cases p<;>rfl
 |false=>
  have hn:n3=false:=by cases n3;rfl;cases h
  rw[hp hn];cases b4<;>cases b5<;>rfl
theorem U3(l b0 b1 b2 b3 b4 b5 z0 z1 z2 z3 z4 z5:Bool):(!((((((!l||(!b0&&!z0))||(!b1&&!z1))||(!b2&&!z2))||(!b3&&!z3))||(!b4&&!z4))||(!b5&&!z5)))=
  (l&&((b0||z0)&&((b1||z1)&&((b2||z2)&&((b3||z3)&&((b4||z4)&&(b5||z5))))))):=by
 simp[Yd,Bool.and_assoc]
theorem U2(b1 b2 x1 x2 ne:Bool):(!(((false||(b1&&!x1))||(b2&&!x2))||((b1&&b2)&&ne)))=((!b1||x1)&&((!b2||x2)&&(!(b1&&b2)||!ne))):=by cases b1<;>cases b2<;>cases x1<;>cases x2<;>cases ne<;>rfl
theorem L9(m:Mt)(hw:m.Wf)(w:World):Calls prog 88 #[jU m] w (Rn w (.bool (bq m))):=by
 have ask:=fun(k p:Nat) (hp:p=2^k) W (_:ai [] w W)=>P1 m hw k p hp W;have hz:((m.bw:Int) !=0)=!decide (m.bw=0):=by by_cases h:m.bw=0<;>simp[h]
 have key:=L8 m w _ _ _ _ _ _ _ _ _ _ _ _ (!decide (m.asks < 64)) _ _ _ (!decide (m.bw=0)) _ _ _ _ _ _ _ _ _ (!decide (m.fU.2≤255)) _ _ _ _ _ _ _ _ _ _ _
  (ask 0 1 rfl) (ask 1 2 rfl) (ask 2 4 rfl) (ask 3 8 rfl) (ask 4 16 rfl) (ask 5 32 rfl) rfl rfl rfl rfl rfl rfl
  (by congr 1;rw[XH];simp only[decide_eq_true_eq,X0,decide_eq_false_iff_not];omega)
  (tt _ _ m.fU hw.fU) (AP _ _ m.src hw.sn hw.sk) (AP _ _ m.dst hw.dn hw.dk) (by rw[hz]) (tt _ _ m.sp hw.sp) (tt _ _ m.dp hw.dp)
  (sG _ _ _) (sG _ _ _) (sG _ _ _) (sG _ _ _) (sG _ _ _) (sG _ _ _) rfl
  (by congr 1;rw[XH];simp only[decide_eq_true_eq,X0,decide_eq_false_iff_not];omega) rfl rfl
  (fun W _=>G4 m.src.v m.src.n m.src.k W) (fun W _=>G4 m.dst.v m.dst.n m.dst.k W) rfl rfl (sG _ _ _) (sG _ _ _) (sG _ _ _) rfl (fun W _=>L7 m.bw W)
 rw[SW,U3,U2]at key;rw[P0 _ _ _ _ (!decide (m.bw=0)) _ _ _ (fun h=>by
   simp only[XP]at h;rw[XV];exact h.2.2.2.2.1) (fun h=>by
   have h:m.bw=0:=by simpa using h
   rw[h];rfl)]at key
 have hne:(!(m.src.v !=m.dst.v))=decide (m.src.v=m.dst.v):=by cases m.src.v<;>cases m.dst.v<;>rfl
 have hle:∀a b:Nat,decide ((a:Int) > (b:Int))=!decide (a≤b):=fun a b=>by rw[XH];simp only[decide_eq_true_eq,X0,decide_eq_false_iff_not];omega
 rw[hne,hle,hle,hle]at key;simp only[Yd,XV]at key;unfold bq;simp only[Yd];exact key
set_option maxRecDepth 100000
open Go Go.RowKit Go.Lib Go.Sort _root_.Go.Proofs.Tryz
set_option maxRecDepth 100000
def ot{α:Type}(b:Bool)(x y:α):α:=match b with
 |true=>x
 |false=>y
theorem PY{n:Nat}(out:Bool){ws:List Bs}(h:ws.length=n):Gq n (wE out ws):=fA (bJ h) fun x=>by
 split
 ·exact gH
 split
 ·exact gH
 split
 ·exact gH
 split
 ·exact fA (gX h) fun _=>gH
 ·exact sw (by decide)
def RH(d1 d2 d3 d4:Bool)(s1:RS)(q:Nat×RS):(Int×Int)×RS:=ot d1 ((1,0),s1) (ot d2 ((2,0),s1) (ot d3 ((4,0),s1) (ot d4 ((3,(q.1:Int)),q.2) ((0,0),cz 200 s1))))
theorem SS(out:Bool)(ws:List Bs)(st:RS):wE out ws st=RH (decide ((ak ws st).1=bZ)) (decide ((ak ws st).1=jb)) (decide ((ak ws st).1=eC)) (decide ((ak ws st).1=mj)&&out) (ak ws st).2 (bR 9223372036854775807 ws (ak ws st).2):=by
 unfold wE bM RH ot;generalize ak ws st=r;dsimp only;by_cases h1:r.1=bZ
 ·rw[if_pos h1,decide_eq_true h1];rfl
 ·rw[if_neg h1,decide_eq_false h1]
  by_cases h2:r.1=jb
  ·rw[if_pos h2,decide_eq_true h2];rfl
  ·rw[if_neg h2,decide_eq_false h2]
   by_cases h3:r.1=eC
   ·rw[if_pos h3,decide_eq_true h3];rfl
   ·rw[if_neg h3,decide_eq_false h3]
    by_cases h4:r.1=mj
    ·rw[decide_eq_true h4]
     cases out with
     |true=>rw[if_pos ⟨h4,rfl⟩];rfl
     |false=>rw[if_neg (fun h=>by cases h.2)];rfl
    ·rw[if_neg (fun h=>h4 h.1),decide_eq_false h4];rfl
theorem xB{v:Nat}(h:v≤9223372036854775807):XF .i64 (XQ.wrap (v:Int))=.int .i64 (v:Int):=iw (kC (by omega) (by omega))
theorem L6{w:World}{S:List Nat}{g:Nat}{A:Option Go.Addr}{n c:Nat}{st:RS}{ws:List Bs}(out:Bool)(h:oh w S g A n c st ws):Calls prog 138 #[.pointer (some ⟨g,0,none⟩),.bool out] w (ig g A n c ue (wE out ws st) w):=by
 have h:=h.low;obtain⟨h1,h2⟩:=bJ h.jq.len st h.le h.eb;have c7:=ru h;have ho:=gr (ws:=ws) (st:=st);have hR:=SS out ws st;generalize wE out ws st=R at hR ⊢;generalize ak ws st=r at*;obtain⟨x,s1⟩:=r;dsimp only at*;have c18:=iy h h1 h2 fun W hW=>gq 63 9223372036854775807 (by omega) rfl hW;have v1:(bR 9223372036854775807 ws s1).1≤9223372036854775807:=fy;generalize bR 9223372036854775807 ws s1=q at*;have c19:=xB v1;have c21:=j7 200 h h1 h2 ho;have c9:=fun W=>dR (.tmp 7) (.const (ae bZ)) x bZ _ rfl W;have iB:=fun W=>dR (.tmp 7) (.const (ae jb)) x jb _ rfl W;have c13:=fun W=>dR (.tmp 7) (.const (ae eC)) x eC _ rfl W;have c15:=fun W=>dR (.tmp 7) (.const (ae mj)) x mj _ rfl W;generalize decide (x=bZ)=d1 at*;generalize decide (x=jb)=d2 at*;generalize decide (x=eC)=d3 at*;generalize decide (x=mj)=d4 at*;have zz:Ey g A n c ue R (.val (ue (RH d1 d2 d3 (d4&&out) s1 q).1)) [(g,114,da A n c (RH d1 d2 d3 (d4&&out) s1 q).2)]:=by rw[hR];exact⟨rfl,rfl⟩
 clear hR;have CH:=Sx.t2 c7 c9 (bA.mk (b:=d1) (fun _=>iB) (bA.mk (b:=d1||d2) (fun _=>c13) (bA.mk (b:=d1||d2||d3) (fun _=>c15) (bA.mk (b:=(d1||d2||d3)||!(d4&&out)) (fun _=>c18) (bA.mk (b:=(d1||d2||d3)||!(d4&&out)) (fun _=>c19) (bA.mk (b:=(d1||d2||d3)||(d4&&out)) (fun _=>c21) zz))))));refine eA [.bool out] h.cw [(7,.aX 0 (da A n c s1) (ae x)),(9,.bin (.bool d1)),(11,.bin (.bool d2)),(13,.bin (.bool d3)),(15,.bin (.bool d4)),(18,.aX 0 (da A n c q.2) (kg q.1)),(19,.is (.int .i64 (q.1:Int))),(21,.aX 0 (da A n c (cz 200 s1)) (.tuple #[]))] [] (by kernel_rfl) func138 rfl (bN rfl) ?_;cases d1<;>cases d2<;>cases d3<;>cases d4<;>cases out<;>exact XC (by kernel_rfl) CH
theorem Cw(s:Bs)(ws:List Bs)(st:RS):I1 s ws st=ot (lr ws s st) (j2 ws (ak ws st).2) ([],st):=rfl
theorem I2(m:Mt)(ws:List Bs)(st:RS):wh m ws st=ot (XG st.e 0&&(lr ws oz st&&!bq m)) ⟨st.at_,190⟩ st:=by unfold wh lr;cases XG st.e 0<;>rfl
theorem Lq{n:Nat}{b:Bool}{s t:RS}(h:s.at_≤n∧s.e≤1000)(h':t.at_≤n∧t.e≤1000):(ot b s t).at_≤n∧(ot b s t).e≤1000:=by cases b;exact h';exact h
theorem Pq{α:Type}{n:Nat}{b:Bool}{s t:α×RS}(h:s.2.at_≤n∧s.2.e≤1000)(h':t.2.at_≤n∧t.2.e≤1000):(ot b s t).2.at_≤n∧(ot b s t).2.e≤1000:=by cases b;exact h';exact h
theorem LB(ws:List Bs)(st:RS){r1:Bs×RS}{r2:Mt×RS}{s3:RS}{r4:Bs×RS}{s5:RS}{r6:(Int×Int)×RS}{o7 o9:Bs×RS}(e1:j2 ws st=r1)(e2:gY ws r1.2=r2)(e3:wh r2.1 ws r2.2=s3)(e4:ak ws s3=r4)(e5:rO (decide (r4.1=oz)) 200 r4.2=s5)(e6:wE true ws s5=r6)(e7:I1 bc ws r6.2=o7)(e9:I1 aT ws o7.2=o9) :
  y6 ws st=(⟨r1.1,r2.1,r6.1.1,r6.1.2,o7.1,o9.1⟩,o9.2):=by
 subst e1 e2 e3 e4 e5 e6 e7 e9;rfl
theorem PG{w:World}{S:List Nat}{g:Nat}{A:Option Go.Addr}{n c:Nat}{st:RS}{ws:List Bs}(h:oh w S g A n c st ws):Calls prog 136 #[.pointer (some ⟨g,0,none⟩)] w (ig g A n c RZ (y6 ws st) w):=by
 have h:=h.low;have hl:=h.jq.len;have E:=LB ws st rfl rfl rfl rfl rfl rfl rfl rfl;have c5:=iy h h.le h.eb fun W hW=>sq hW;obtain⟨l1,b1⟩:=so hl st h.le h.eb;generalize j2 ws st=r1 at*;have c8:=iy h l1 b1 fun W hW=>LM hW;obtain⟨l2,b2⟩:=I3 hl r1.2 l1 b1;have hm:=(Cz ws r1.2).1;generalize gY ws r1.2=r2 at*;have c14:=VG r2.2.e;have c17:=iy (st:=st) h l2 b2 fun W hW=>zb hW oz;have c22:=fun W (_:ai [g] w W)=>L9 r2.1 hm W;rw[I2]at E;generalize XG r2.2.e 0=z1 at*;generalize lr ws oz r2.2=z2 at*;generalize bq r2.1=z3 at*;obtain⟨l3,b3⟩:=Lq (b:=z1&&(z2&&!z3)) (s:=⟨r2.2.at_,190⟩) ⟨l2,(by decide:190≤1000)⟩ ⟨l2,b2⟩;have qz:=iy h l3 b3 fun W hW=>gu hW;obtain⟨l4,b4⟩:=bJ hl _ l3 b3;have o4:=gr (ws:=ws) (st:=ot (z1&&(z2&&!z3)) ⟨r2.2.at_,190⟩ r2.2);generalize ak ws (ot (z1&&(z2&&!z3)) ⟨r2.2.at_,190⟩ r2.2)=r4 at*;have c30:=fun W=>sd (.tmp 29) (.const (ae oz)) r4.1 oz W;have c32:=j7 200 h l4 b4 o4;have hne:decide (r4.1≠oz)=!decide (r4.1=oz):=by by_cases hh:r4.1=oz<;>simp[hh]
 simp only[hne]at c30;generalize decide (r4.1=oz)=z4 at*;have h5:(rO z4 200 r4.2).at_≤n∧(rO z4 200 r4.2).e≤1000:=by
  cases z4 with
  |true=>exact⟨l4,b4⟩
  |false=>exact mG (by decide) l4 b4
 have vz:=iy h h5.1 h5.2 fun W hW=>L6 true hW;obtain⟨l6,b6⟩:=PY true hl _ h5.1 h5.2;generalize wE true ws (rO z4 200 r4.2)=r6 at*;have KH:=iy (st:=st) h l6 b6 fun W hW=>zb hW bc;have Ea:=iy h l6 b6 fun W hW=>gu hW;obtain⟨l7,b7⟩:=bJ hl _ l6 b6;rw[Cw]at E;generalize lr ws bc r6.2=z7 at*;generalize ak ws r6.2=n7 at*;have c45:=iy h l7 b7 fun W hW=>sq hW;have w8:=so hl _ l7 b7;generalize j2 ws n7.2=r8 at*;obtain⟨l8,b8⟩:=Pq (b:=z7) w8 (t:=([],r6.2)) ⟨l6,b6⟩;have c48:=iy (st:=st) h l8 b8 fun W hW=>zb hW aT;have c50:=iy h l8 b8 fun W hW=>gu hW;obtain⟨l9,b9⟩:=bJ hl _ l8 b8;rw[Cw]at E;generalize lr ws aT (ot z7 r8 ([],r6.2)).2=z9 at*;generalize ak ws (ot z7 r8 ([],r6.2)).2=n9 at*;have c52:=iy h l9 b9 fun W hW=>sq hW;generalize j2 ws n9.2=r10 at*;generalize y6 ws st=R at*;have zz:Ey g A n c RZ R (.val (RZ ⟨r1.1,r2.1,r6.1.1,r6.1.2,(ot z7 r8 ([],r6.2)).1,(ot z9 r10 ([],(ot z7 r8 ([],r6.2)).2)).1⟩)) [(g,114,da A n c (ot z9 r10 ([],(ot z7 r8 ([],r6.2)).2)).2)]:=by rw[E];exact⟨rfl,rfl⟩
 have CH:=Sx.t2 c5 c8 (Xz c14 (bA.mk (b:=!z1) (fun _=>c17) (bA.mk (b:=!(z1&&z2)) (fun _=>c22) (Sx.t2 qz c30 (bA.mk (b:=z4) (fun _=>c32) (Sx.t2 vz KH (bA.mk (b:=!z7) (fun _=>Ea) (bA.mk (b:=!z7) (fun _=>c45) (Xz c48 (bA.mk (b:=!z9) (fun _=>c50) (bA.mk (b:=!z9) (fun _=>c52) zz)))))))))));clear zz E hne;refine eA [] h.cw [(5,.aX 0 (da A n c r1.2) (ae r1.1)),(8,.aX 0 (da A n c r2.2) (jU r2.1)),ao 14 z1,(17,.aX 0 (da A n c r2.2) (.bool z2)),(22,.call (.bool z3)),(29,.aX 0 (da A n c r4.2) (ae r4.1)),(30,.bin (.bool (!z4))),(32,.aX 0 (da A n c (rO z4 200 r4.2)) (.tuple #[])),(35,.aX 0 (da A n c r6.2) (ue r6.1)),(41,.aX 0 (da A n c r6.2) (.bool z7)),(43,.aX 0 (da A n c n7.2) (ae n7.1)),(45,.aX 0 (da A n c r8.2) (ae r8.1)),(48,.aX 0 (da A n c (ot z7 r8 ([],r6.2)).2) (.bool z9)),(50,.aX 0 (da A n c n9.2) (ae n9.1)),(52,.aX 0 (da A n c r10.2) (ae r10.1))] [] (by kernel_rfl) func136 rfl (bN rfl) ?_;cases z1<;>cases z2<;>cases z3<;>cases z4<;>cases z7<;>cases z9<;>exact XC (by kernel_rfl) CH
open Go Go.RowKit Go.Lib Go.Sort
structure WV(w:World)(g gc:Nat)(A:Option Go.Addr)(n c:Nat)(st:RS)(ws:List Bs)(cf:CF)(s:gU):Prop where
 rd:oh w (cy gc g s) g A n c st ws
 at_:qI w gc cf s
 nd:(cy gc g s).Nodup
 nc:cf.aj.length≤1100000∧cf.af.length≤1100000∧cf.rules.length≤1100000∧cf.ag.length≤1100000∧cf.ab.length≤1100000
def UZ(g gc:Nat)(A:Option Go.Addr)(n c:Nat)(st:RS)(cf:CF):List Sx.Row:=
 [⟨46,.j5 gc (eX 2 3 4 5 6 cf)⟩,⟨114,.dG g (da A n c st)⟩,⟨3,.own 1 cf.aj.length cf.cp⟩,⟨118,.own 19 cf.af.length cf.cr⟩,⟨81,.own 49 cf.rules.length cf.cl⟩,⟨122,.own 4 cf.ag.length cf.cm⟩,⟨124,.own 3 cf.ab.length cf.ci⟩]
def RJ(g gc:Nat)(A:Option Go.Addr)(n c:Nat)(R:CF×RS)(l:List Sx.SV)(mem:List Sx.Row):Prop:=
 ∃(cf:CF) (st:RS) (k0 k1 k2 k3 k4:Nat),R=(cf,st)∧l=[]∧mem[1]?=some ⟨114,.dG g (da A n c st)⟩∧mem[0]?=some ⟨46,.j5 gc (eX k0 k1 k2 k3 k4 cf)⟩∧
 mem[k0]?=some ⟨3,.own 1 cf.aj.length cf.cp⟩∧mem[k1]?=some ⟨118,.own 19 cf.af.length cf.cr⟩∧mem[k2]?=some ⟨81,.own 49 cf.rules.length cf.cl⟩∧mem[k3]?=some ⟨122,.own 4 cf.ag.length cf.cm⟩∧mem[k4]?=some ⟨124,.own 3 cf.ab.length cf.ci⟩
def yq(g gc:Nat)(A:Option Go.Addr)(n c:Nat)(R:CF×RS)(S:List Nat)(w:World)(e:Ending)(w':World):Prop:=
 ∃s',e=.returned (.tuple #[])∧aw w' g 114 (da A n c R.2)∧qI w' gc R.1 s'∧(cy gc g s').Nodup∧(∀k∈cy gc g s',k∈S∨w.heap.size≤k)∧ai S w w'
theorem yq.iL{g gc:Nat}{A:Option Go.Addr}{n c:Nat}{R:CF×RS}{S:List Nat}{w:World}{e:Ending}{w':World}(h:Sx.cN ⟨w,S,fun _ _=>False⟩ (RJ g gc A n c R) e w'):yq g gc A n c R S w e w':=by
 rcases h with⟨β,l,mem,⟨cf,st,k0,k1,k2,k3,k4,rfl,rfl,m1,m0,q0,q1,q2,q3,q4⟩,he,hR⟩ | ⟨_,_,hf,_⟩
 ·have r0:=hR.held 0 _ m0
  have r1:=hR.held 1 _ m1;have o0:β.n k0=cf.aj.length∧Own w' 3 1 (.slice (β.a k0) cf.aj.length (β.c k0)) cf.aj.length cf.cp:=hR.held k0 _ q0;have o1:β.n k1=cf.af.length∧Own w' 118 19 (.slice (β.a k1) cf.af.length (β.c k1)) cf.af.length cf.cr:=hR.held k1 _ q1;have o2:β.n k2=cf.rules.length∧Own w' 81 49 (.slice (β.a k2) cf.rules.length (β.c k2)) cf.rules.length cf.cl:=hR.held k2 _ q2;have o3:β.n k3=cf.ag.length∧Own w' 122 4 (.slice (β.a k3) cf.ag.length (β.c k3)) cf.ag.length cf.cm:=hR.held k3 _ q3;have o4:β.n k4=cf.ab.length∧Own w' 124 3 (.slice (β.a k4) cf.ab.length (β.c k4)) cf.ab.length cf.ci:=hR.held k4 _ q4;have e0:β 0=gc:=r0.1;have e1:β 1=g:=r1.1;have b1:aw w' gc 46 [.slice (β.a k0) cf.aj.length (β.c k0),.slice (β.a k1) cf.af.length (β.c k1),.slice (β.a k2) cf.rules.length (β.c k2),.slice (β.a k3) cf.ag.length (β.c k3),.slice (β.a k4) cf.ab.length (β.c k4),.int .i64 cf.aZ]:=by have:=r0.2;rw[e0]at this;have hh:(eX k0 k1 k2 k3 k4 cf).map (Sx.SV.den β)=[β.sl k0,β.sl k1,β.sl k2,β.sl k3,β.sl k4,.int .i64 cf.aZ]:=rfl;rw[hh]at this;unfold Sx.Env.sl at this;rw[o0.1,o1.1,o2.1,o3.1,o4.1]at this;exact this
  have rows:∀x∈[(0,some gc),(1,some g),(k0,(β.a k0).map (·.block)),(k1,(β.a k1).map (·.block)),(k2,(β.a k2).map (·.block)),(k3,(β.a k3).map (·.block)),(k4,(β.a k4).map (·.block))],∀k,x.2=some k→∃r,mem[x.1]?=some r∧Sx.az β x.1 r=some k:=by
   intro x hx k hk;simp only[XS,X5,or_false]at hx;rcases hx with rfl|rfl|rfl|rfl|rfl|rfl|rfl
   ·exact⟨_,m0,by show some (β 0)=_;rw[e0];exact hk⟩
   ·exact⟨_,m1,by show some (β 1)=_;rw[e1];exact hk⟩
   ·exact⟨_,q0,hk⟩
   ·exact⟨_,q1,hk⟩
   ·exact⟨_,q2,hk⟩
   ·exact⟨_,q3,hk⟩
   ·exact⟨_,q4,hk⟩
  have d:∀{a b:Nat} {r r':Sx.Row},mem[a]?=some r→mem[b]?=some r'→XG r.ty r'.ty=false→a≠b:=fun {a b r r'} ha hb hne he=>by subst he;rw[ha]at hb;rw[X4.inj hb,Nat.beq_refl]at hne;cases hne
  have nd:[0,1,k0,k1,k2,k3,k4].Nodup:=by simp only[List.nodup_cons,XS,X5,or_false,not_or,not_false_eq_true,List.nodup_nil,and_true];exact⟨⟨d m0 m1 rfl,d m0 q0 rfl,d m0 q1 rfl,d m0 q2 rfl,d m0 q3 rfl,d m0 q4 rfl⟩,⟨d m1 q0 rfl,d m1 q1 rfl,d m1 q2 rfl,d m1 q3 rfl,d m1 q4 rfl⟩,⟨d q0 q1 rfl,d q0 q2 rfl,d q0 q3 rfl,d q0 q4 rfl⟩,⟨d q1 q2 rfl,d q1 q3 rfl,d q1 q4 rfl⟩,⟨d q2 q3 rfl,d q2 q4 rfl⟩,d q3 q4 rfl⟩
  refine⟨⟨⟨β.a k0,β.c k0⟩,⟨β.a k1,β.c k1⟩,⟨β.a k2,β.c k2⟩,⟨β.a k3,β.c k3⟩,⟨β.a k4,β.c k4⟩⟩,he,e1 ▸ r1.2,⟨b1,o0.2,o1.2,o2.2,o3.2,o4.2⟩,?_,fun k hk=>?_,hR.aJ⟩
  ·exact w7 hR.inj [(0,some gc),(1,some g),(k0,(β.a k0).map (·.block)),(k1,(β.a k1).map (·.block)),(k2,(β.a k2).map (·.block)),(k3,(β.a k3).map (·.block)),(k4,(β.a k4).map (·.block))] nd rows
  ·obtain⟨o,ho,hok⟩:=XX.1 hk
   have hm:o∈([(0,some gc),(1,some g),(k0,(β.a k0).map (·.block)),(k1,(β.a k1).map (·.block)),(k2,(β.a k2).map (·.block)),(k3,(β.a k3).map (·.block)),(k4,(β.a k4).map (·.block))]:List (Nat×Option Nat)).map (·.2):=ho;obtain⟨x,hx,rfl⟩:=Yp.1 hm;obtain⟨r,hr,hb⟩:=rows x hx k hok;exact hR.new x.1 r k hr hb
 ·exact hf.elim
def Wo(g gc:Nat)(A:Option Go.Addr)(n c:Nat)(st:RS)(cf:CF)(s:gU):List Sx.lu:=
 [.oy gc 46 (eX 2 3 4 5 6 cf),.cw g 114 (da A n c st),
  .own 3 1 s.p.A cf.aj.length s.p.c cf.cp,.own 118 19 s.r.A cf.af.length s.r.c cf.cr,.own 81 49 s.l.A cf.rules.length s.l.c cf.cl,.own 122 4 s.m.A cf.ag.length s.m.c cf.cm,.own 124 3 s.i.A cf.ab.length s.i.c cf.ci]
theorem nI{P:Program}{w:World}{f:FuncId}{fn:Func}{co:Code}{g gc:Nat}{A:Option Go.Addr}{n c:Nat}{st:RS}{ws:List Bs}{cf:CF}{s:gU}{R:CF×RS}(was:Bool)(h:WV w g gc A n c st ws cf s)(H:List (Nat×Sx.Hint))(L:List Sx.Loop)
  (hm:P.follows .mixedOrders=true) (hf:P.funcs[f]?=some fn) (hbd:fn.body=some co) (hn:3≤fn.ntmps)
  (hx:Sx.lN P fn.ntmps ⟨w,cy gc g s,fun _ _=>False⟩ co H L ⟨Sx.lR 0 [.ptr 1 0,.ptr 0 0,.val (.bool was)],UZ g gc A n c st cf⟩ (Sx.fm P fn (RJ g gc A n c R))) :
  Calls P f #[.pointer (some ⟨g,0,none⟩),.pointer (some ⟨gc,0,none⟩),.bool was] w (yq g gc A n c R (cy gc g s) w):=by
 have hF:=Sx.gI (w:=w) (S:=cy gc g s) (PP:=fun _ _=>False) (G:=Wo g gc A n c st cf s) (fun q hq=>by
  simp only[Wo,XS,X5,or_false]at hq;rcases hq with rfl|rfl|rfl|rfl|rfl|rfl|rfl
  ·exact h.at_.cw
  ·exact h.rd.cw
  ·exact h.at_.p
  ·exact h.at_.r
  ·exact h.at_.l
  ·exact h.at_.m
  ·exact h.at_.i) (fun q hq k hk=>by
  have:cy gc g s=(Wo g gc A n c st cf s).filterMap Sx.lu.block:=rfl;rw[this];exact XX.2 ⟨q,hq,hk⟩) h.nd
 exact(Sx.bO (args:=[.ptr 1 0,.ptr 0 0,.val (.bool was)]) hF H L hm hf hbd hn rfl hx).mono fun _ _=>yq.iL
set_option maxRecDepth 100000
open Go Go.RowKit Go.Lib Go.Sort _root_.Go.Proofs.Tryz
theorem rQ{α:Type}{w:World}{S:List Nat}{g f:Nat}{A:Option Go.Addr}{n c:Nat}{st s1:RS}{ws:List Bs}{V:α→Value}{r:α×RS}(rest:List Value)(h:oh w S g A n c st ws)(hw:s1.at_≤n∧s1.e≤1000)
  (H:∀W,oh W S g A n c s1 ws→Calls prog f ((pt g 0)::rest).toArray W (ig g A n c V r W)) :
  ∀W,ai S w W→aw W g 114 (da A n c s1)→Calls prog f ((pt g 0)::rest).toArray W (Sx.qJ ⟨w,S,fun _ _=>False⟩ W ((pt g 0)::rest) (.dW 0 1 ⟨114,.dG g (da A n c r.2)⟩ (V r.1))):=
 fun W hW hb=>PT (.dG g _) rfl rfl rfl (H W (h.at hW hb hw.1 hw.2))
def G0(n:Nat)(s:RS):RS:=ot (XG s.e 0&&decide (s.at_ < n)) ⟨s.at_,200⟩ s
theorem LP(ws:List Bs)(cf:CF)(was:Bool)(st:RS){cf':CF}{s':RS}(h:oT (ak ws st).1 ws cf was (ak ws st).2=(cf',s')):ey ws cf was st=(cf',G0 ws.length s'):=by unfold ey bM LV G0;dsimp only;rw[h];cases XG s'.e 0&&decide (s'.at_ < ws.length)<;>rfl
abbrev SL(g gc:Nat)(A:Option Go.Addr)(n c:Nat)(st:RS)(k0 k1 k2 k3 k4:Nat)(x:Int)(R:List Sx.Row):List Sx.Row:=⟨46,.j5 gc [.own k0,.own k1,.own k2,.own k3,.own k4,.val (.int .i64 x)]⟩::⟨114,.dG g (da A n c st)⟩::R
def Tm(a b c d e f:Bool):List (Nat×Sx.Hint):=[(17,.bin (.bool a)),(31,.bin (.bool b)),(49,.bin (.bool c)),(73,.bin (.bool d)),(95,.bin (.bool e)),(108,.bin (.bool f))]
def Tn(ze zl:Bool):List (Nat×Sx.Hint):=[ao 124 ze,ao 135 zl]
theorem Tl{n:Nat}{s:RS}{ze zl:Bool}{Z:Prop}(he:XG s.e 0=ze)(hl:decide (s.at_ < n)=zl)(hz:G0 n s=ot (ze&&zl) ⟨s.at_,200⟩ s→Z):Xy ((s.e:Int)==0)=.bool ze∧bA (!ze) (Xy (decide ((s.at_:Int) < (n:Int)))=.bool zl) Z:=
 ⟨he ▸ VG s.e,bA.mk (fun _=>yz hl) (hz (by unfold G0;rw[he,hl]))⟩
theorem PQ{w:World}{g gc:Nat}{A:Option Go.Addr}{n c:Nat}{st:RS}{ws:List Bs}{cf:CF}{s:gU}(was:Bool)(h:WV w g gc A n c st ws cf s):Calls prog 65 #[.pointer (some ⟨g,0,none⟩),.pointer (some ⟨gc,0,none⟩),.bool was] w (yq g gc A n c (ey ws cf was st) (cy gc g s) w):=by
 have hr:=h.rd;have hl:=hr.jq.len;have w0:st.at_≤n∧st.e≤1000:=⟨hr.le,hr.eb⟩;have c13:=rQ [] hr w0 fun W hW=>gu hW;have w1:=bJ hl st hr.le hr.eb;have o1:=gr (ws:=ws) (st:=st);have E0:=fun {cf' s'}=>LP (cf':=cf') (s':=s') ws cf was st;rw[hl]at E0;generalize ey ws cf was st=R at E0 ⊢;generalize ak ws st=r at*;obtain⟨x,s1⟩:=r;dsimp only at c13 w1 o1 E0;unfold oT at E0;have sk:∀(k:Bs) {b:Bool},decide (x=k)=b→∀W:World,_:=fun k b hb W=>dR (.tmp 13) (.const (ae k)) x k b hb W;have c15:=rQ [.int .i64 ((200:Nat):Int)] hr w1 fun W hW=>vR hW 200 o1;by_cases k0:x=gD
 ·rw[if_pos k0]at E0
  have c24:=rQ [.int .i64 ((63:Nat):Int)] hr w1 fun W hW=>gq 63 9223372036854775807 (by omega) rfl hW;have v1:(bR 9223372036854775807 ws s1).1≤9223372036854775807:=fy;unfold bM at E0;dsimp only at E0;generalize bR 9223372036854775807 ws s1=q at*;have c25:=xB v1;obtain⟨ze,hze⟩:∃b,XG q.2.e 0=b:=⟨_,rfl⟩;obtain⟨zl,hzl⟩:∃b,decide (q.2.at_ < n)=b:=⟨_,rfl⟩;have CH:=(Sx.t4 c13 (sk gD (decide_eq_true k0)) c24 c25 (Xz (jX (cells:=[lx q.1]) (size:=1) (B:=bytesOf 3) (by kernel_rfl) (by kernel_rfl) h.nc.1 gM.1) (Tl (n:=n) hze hzl fun he=>(show RJ g gc A n c R [] (SL g gc A n c (ot (ze&&zl) ⟨q.2.at_,200⟩ q.2) 8 3 4 5 6 cf.aZ ((bX cf).set 0 Sx.au++[⟨3,.an [lx q.1]⟩,⟨3,.own 1 (cf.aj.length+1) (cf.cp++[lx q.1])⟩]))from by rw[E0 rfl,he];exact⟨{ cf with aj:=cf.aj++[(q.1:Int)] },_,8,3,4,5,6,rfl,rfl,rfl,rfl,congrArg some (by simp[CF.cp,lx]),rfl,rfl,rfl,rfl⟩))));refine nI was h ([(13,.aX 0 (da A n c s1) (ae x)),(24,.aX 0 (da A n c q.2) (kg q.1)),(25,.is (lx q.1))]++(Tm true false false false false false++Tn ze zl)) [] (by kernel_rfl) func65 rfl (bN rfl) ?_;cases ze<;>cases zl<;>exact XC (by kernel_rfl) CH
 have f0:=decide_eq_false k0;by_cases k1:x=bZ
 ·rw[if_neg k0,if_pos k1]at E0
  have c33:=rQ [] hr w1 fun W hW=>tC hW;have w2:=re hl s1 w1.1 w1.2;unfold bM at E0;dsimp only at E0;generalize dC ws s1=p at*;have KH:=rQ [.int .i64 ((63:Nat):Int)] hr w2 fun W hW=>gq 63 9223372036854775807 (by omega) rfl hW;have v1:(bR 9223372036854775807 ws p.2).1≤9223372036854775807:=fy;generalize bR 9223372036854775807 ws p.2=q at*;have qy:=xB v1;obtain⟨ze,hze⟩:∃b,XG q.2.e 0=b:=⟨_,rfl⟩;obtain⟨zl,hzl⟩:∃b,decide (q.2.at_ < n)=b:=⟨_,rfl⟩;have CH:=(Sx.t4 c13 (sk gD f0) (sk bZ (decide_eq_true k1)) c33 (Sx.t2 KH qy (Xz (jX (cells:=Rt.cells ⟨p.1,(q.1:Int)⟩) (size:=19) (B:=bytesOf 118) (by kernel_rfl) (by kernel_rfl) h.nc.2.1 gM.2.1) (Tl (n:=n) hze hzl fun he=>(show RJ g gc A n c R [] (SL g gc A n c (ot (ze&&zl) ⟨q.2.at_,200⟩ q.2) 2 9 4 5 6 cf.aZ ((bX cf).set 1 Sx.au++[⟨29,.an p.1.cells⟩,⟨118,.an (Rt.cells ⟨p.1,(q.1:Int)⟩)⟩,⟨118,.own 19 (cf.af.length+1) (cf.cr++Rt.cells ⟨p.1,(q.1:Int)⟩)⟩]))from by rw[E0 rfl,he];exact⟨{ cf with af:=cf.af++[⟨p.1,(q.1:Int)⟩] },_,2,9,4,5,6,rfl,rfl,rfl,rfl,rfl,congrArg some (by simp[CF.cr]),rfl,rfl,rfl⟩)))));refine nI was h ([(13,.aX 0 (da A n c s1) (ae x)),(33,.aX 0 (da A n c p.2) (mr p.1)),(41,.aX 0 (da A n c q.2) (kg q.1)),(42,.is (lx q.1))]++(Tm false true false false false false++Tn ze zl)) [] (by kernel_rfl) func65 rfl (bN rfl) ?_;cases ze<;>cases zl<;>exact XC (by kernel_rfl) CH
 have f1:=decide_eq_false k1;by_cases k2:x=bc
 ·rw[if_neg k0,if_neg k1,if_pos k2]at E0
  have c51:=rQ [] hr w1 fun W hW=>sq hW;have w2:=so hl s1 w1.1 w1.2;unfold bM at E0;dsimp only at E0;generalize j2 ws s1=nm at*;have c53:=rQ [.int .i64 ((64:Nat):Int)] hr w2 fun W hW=>gq 64 18446744073709551615 (by omega) rfl hW;have w3:=gX (most:=18446744073709551615) hl _ w2.1 w2.2;generalize bR 18446744073709551615 ws nm.2=q1 at*;have c55:=rQ [.int .i64 ((64:Nat):Int)] hr w3 fun W hW=>gq 64 18446744073709551615 (by omega) rfl hW;have w4:=gX (most:=18446744073709551615) hl _ w3.1 w3.2;generalize bR 18446744073709551615 ws q1.2=q2 at*;have c65:=rQ [.int .i64 ((64:Nat):Int)] hr w4 fun W hW=>gq 64 18446744073709551615 (by omega) rfl hW;have w5:=gX (most:=18446744073709551615) hl _ w4.1 w4.2;generalize bR 18446744073709551615 ws q2.2=q3 at*;obtain⟨ze,hze⟩:∃b,XG q3.2.e 0=b:=⟨_,rfl⟩;obtain⟨zl,hzl⟩:∃b,decide (q3.2.at_ < n)=b:=⟨_,rfl⟩;have CH:=(Sx.t8 c13 (sk gD f0) (sk bZ f1) (sk bc (decide_eq_true k2)) c51 c53 c55 c65 (Xz (jX (cells:=Me.cells ⟨nm.1,q1.1,q2.1,q3.1⟩) (size:=4) (B:=bytesOf 122) (by kernel_rfl) (by kernel_rfl) h.nc.2.2.2.1 gM.2.2.2.1) (Tl (n:=n) hze hzl fun he=>(show RJ g gc A n c R [] (SL g gc A n c (ot (ze&&zl) ⟨q3.2.at_,200⟩ q3.2) 2 3 4 8 6 cf.aZ ((bX cf).set 3 Sx.au++[⟨122,.an (Me.cells ⟨nm.1,q1.1,q2.1,q3.1⟩)⟩,⟨122,.own 4 (cf.ag.length+1) (cf.cm++Me.cells ⟨nm.1,q1.1,q2.1,q3.1⟩)⟩]))from by rw[E0 rfl,he];exact⟨{ cf with ag:=cf.ag++[⟨nm.1,q1.1,q2.1,q3.1⟩] },_,2,3,4,8,6,rfl,rfl,rfl,rfl,rfl,rfl,rfl,congrArg some (by simp[CF.cm]),rfl⟩))));refine nI was h ([(13,.aX 0 (da A n c s1) (ae x)),(51,.aX 0 (da A n c nm.2) (ae nm.1)),(53,.aX 0 (da A n c q1.2) (kg q1.1)),(55,.aX 0 (da A n c q2.2) (kg q2.1)),(65,.aX 0 (da A n c q3.2) (kg q3.1))]++(Tm false false true false false false++Tn ze zl)) [] (by kernel_rfl) func65 rfl (bN rfl) ?_;cases ze<;>cases zl<;>exact XC (by kernel_rfl) CH
 have f2:=decide_eq_false k2;by_cases k3:x=aT
 ·rw[if_neg k0,if_neg k1,if_neg k2,if_pos k3]at E0
  have c75:=rQ [] hr w1 fun W hW=>sq hW;have w2:=so hl s1 w1.1 w1.2;unfold bM at E0;dsimp only at E0;generalize j2 ws s1=nm at*;have c77:=rQ [.int .i64 ((63:Nat):Int)] hr w2 fun W hW=>gq 63 9223372036854775807 (by omega) rfl hW;have w3:=gX (most:=9223372036854775807) hl _ w2.1 w2.2;have v1:(bR 9223372036854775807 ws nm.2).1≤9223372036854775807:=fy;generalize bR 9223372036854775807 ws nm.2=q1 at*;have c85:=xB v1;have c87:=rQ [.int .i64 ((63:Nat):Int)] hr w3 fun W hW=>gq 63 9223372036854775807 (by omega) rfl hW;have w4:=gX (most:=9223372036854775807) hl _ w3.1 w3.2;have v2:(bR 9223372036854775807 ws q1.2).1≤9223372036854775807:=fy;generalize bR 9223372036854775807 ws q1.2=q2 at*;have c88:=xB v2;obtain⟨ze,hze⟩:∃b,XG q2.2.e 0=b:=⟨_,rfl⟩;obtain⟨zl,hzl⟩:∃b,decide (q2.2.at_ < n)=b:=⟨_,rfl⟩;have CH:=(Sx.t8 c13 (sk gD f0) (sk bZ f1) (sk bc f2) (sk aT (decide_eq_true k3)) c75 c77 c85 (Sx.t2 c87 c88 (Xz (jX (cells:=Mi.cells ⟨nm.1,(q1.1:Int),(q2.1:Int)⟩) (size:=3) (B:=bytesOf 124) (by kernel_rfl) (by kernel_rfl) h.nc.2.2.2.2 gM.2.2.2.2) (Tl (n:=n) hze hzl fun he=>(show RJ g gc A n c R [] (SL g gc A n c (ot (ze&&zl) ⟨q2.2.at_,200⟩ q2.2) 2 3 4 5 8 cf.aZ ((bX cf).set 4 Sx.au++[⟨124,.an (Mi.cells ⟨nm.1,(q1.1:Int),(q2.1:Int)⟩)⟩,⟨124,.own 3 (cf.ab.length+1) (cf.ci++Mi.cells ⟨nm.1,(q1.1:Int),(q2.1:Int)⟩)⟩]))from by rw[E0 rfl,he];exact⟨{ cf with ab:=cf.ab++[⟨nm.1,(q1.1:Int),(q2.1:Int)⟩] },_,2,3,4,5,8,rfl,rfl,rfl,rfl,rfl,rfl,rfl,rfl,congrArg some (by simp[CF.ci])⟩)))));refine nI was h ([(13,.aX 0 (da A n c s1) (ae x)),(75,.aX 0 (da A n c nm.2) (ae nm.1)),(77,.aX 0 (da A n c q1.2) (kg q1.1)),(85,.is (lx q1.1)),(87,.aX 0 (da A n c q2.2) (kg q2.1)),(88,.is (lx q2.1))]++(Tm false false false true false false++Tn ze zl)) [] (by kernel_rfl) func65 rfl (bN rfl) ?_;cases ze<;>cases zl<;>exact XC (by kernel_rfl) CH
 have f3:=decide_eq_false k3;by_cases k4:x=fT
 ·rw[if_neg k0,if_neg k1,if_neg k2,if_neg k3,if_pos k4]at E0
  have c102:=rQ [] hr w1 fun W hW=>PG hW;unfold bM at E0;dsimp only at E0;generalize y6 ws s1=q at*;obtain⟨ze,hze⟩:∃b,XG q.2.e 0=b:=⟨_,rfl⟩;obtain⟨zl,hzl⟩:∃b,decide (q.2.at_ < n)=b:=⟨_,rfl⟩;have CH:=(Sx.t8 c13 (sk gD f0) (sk bZ f1) (sk bc f2) (sk aT f3) (sk fT (decide_eq_true k4)) c102 (jX (cells:=q.1.cells) (size:=49) (B:=bytesOf 81) (by kernel_rfl) (by kernel_rfl) h.nc.2.2.1 gM.2.2.1) (Tl (n:=n) hze hzl fun he=>(show RJ g gc A n c R [] (SL g gc A n c (ot (ze&&zl) ⟨q.2.at_,200⟩ q.2) 2 3 8 5 6 cf.aZ ((bX cf).set 2 Sx.au++[⟨81,.an (q.1.cells)⟩,⟨81,.own 49 (cf.rules.length+1) (cf.cl++q.1.cells)⟩]))from by rw[E0 rfl,he];exact⟨{ cf with rules:=cf.rules++[q.1] },_,2,3,8,5,6,rfl,rfl,rfl,rfl,rfl,rfl,congrArg some (by simp[CF.cl]),rfl,rfl⟩)));refine nI was h ([(13,.aX 0 (da A n c s1) (ae x)),(102,.aX 0 (da A n c q.2) (RZ q.1))]++(Tm false false false false true false++Tn ze zl)) [] (by kernel_rfl) func65 rfl (bN rfl) ?_;cases ze<;>cases zl<;>exact XC (by kernel_rfl) CH
 have f4:=decide_eq_false k4;by_cases k5:x=aO
 ·rw[if_neg k0,if_neg k1,if_neg k2,if_neg k3,if_neg k4,if_pos k5]at E0
  have c111:=rQ [.int .i64 ((200:Nat):Int)] hr w1 fun W hW=>vR hW 200 o1;have w2:(ot was (cz 200 s1) s1).at_≤n∧(ot was (cz 200 s1) s1).e≤1000:=Lq (mG (by decide) w1.1 w1.2) w1;unfold bM at E0;dsimp only at E0;have e2:(qF (!was) 200 () s1).2=ot was (cz 200 s1) s1:=by cases was<;>rfl
  rw[e2]at E0;have c115:=rQ [.bool false] hr w2 fun W hW=>L6 false hW;generalize wE false ws (ot was (cz 200 s1) s1)=q at*;obtain⟨ze,hze⟩:∃b,XG q.2.e 0=b:=⟨_,rfl⟩;obtain⟨zl,hzl⟩:∃b,decide (q.2.at_ < n)=b:=⟨_,rfl⟩;have CH:=(Sx.t4 c13 (sk gD f0) (sk bZ f1) (sk bc f2) (Sx.t2 (sk aT f3) (sk fT f4) (Xz (sk aO (decide_eq_true k5)) (bA.mk (b:=!was) (fun _=>c111) (Xz c115 (Tl (n:=n) hze hzl fun he=>(show RJ g gc A n c R [] (SL g gc A n c (ot (ze&&zl) ⟨q.2.at_,200⟩ q.2) 2 3 4 5 6 q.1.1 (bX cf++[]))from by rw[E0 rfl,he];exact⟨{ cf with aZ:=q.1.1 },_,2,3,4,5,6,rfl,rfl,rfl,rfl,rfl,rfl,rfl,rfl,rfl⟩)))))));refine nI was h ([(13,.aX 0 (da A n c s1) (ae x)),(111,.aX 0 (da A n c (cz 200 s1)) (.tuple #[])),(115,.aX 0 (da A n c q.2) (ue q.1))]++(Tm false false false false false true++Tn ze zl)) [] (by kernel_rfl) func65 rfl (bN rfl) ?_;cases was<;>cases ze<;>cases zl<;>exact XC (by kernel_rfl) CH
 have f5:=decide_eq_false k5;rw[if_neg k0,if_neg k1,if_neg k2,if_neg k3,if_neg k4,if_neg k5]at E0;obtain⟨ze,hze⟩:∃b,XG (cz 200 s1).e 0=b:=⟨_,rfl⟩;obtain⟨zl,hzl⟩:∃b,decide ((cz 200 s1).at_ < n)=b:=⟨_,rfl⟩;have CH:=(Sx.t8 c13 (sk gD f0) (sk bZ f1) (sk bc f2) (sk aT f3) (sk fT f4) (sk aO f5) c15 (Tl (n:=n) hze hzl fun he=>(show RJ g gc A n c R [] (SL g gc A n c (ot (ze&&zl) ⟨(cz 200 s1).at_,200⟩ (cz 200 s1)) 2 3 4 5 6 cf.aZ (bX cf++[]))from by rw[E0 rfl,he];exact⟨cf,_,2,3,4,5,6,rfl,rfl,rfl,rfl,rfl,rfl,rfl,rfl,rfl⟩)));refine nI was h ([(13,.aX 0 (da A n c s1) (ae x)),(15,.aX 0 (da A n c (cz 200 s1)) (.tuple #[]))]++(Tm false false false false false false++Tn ze zl)) [] (by kernel_rfl) func65 rfl (bN rfl) ?_;cases ze<;>cases zl<;>exact XC (by kernel_rfl) CH
set_option maxRecDepth 100000
open Go Go.RowKit Go.Lib Go.Sort _root_.Go.Proofs.Tryz
set_option maxRecDepth 100000
def MX(k:Nat)(s:Bs)(b i:Nat):List (Nat×Sx.SV):=[(0,.val (ae s)),(3,.own k),(4,.val (.int .i64 (b:Int))),(5,.val (.int .i64 (i:Int)))]
def FL(s:Bs)(b i:Nat):List (Nat×Sx.SV):=MX 0 s b i
def fS(out:List Bs):List Sx.Row:=[⟨9,.own 1 out.length (strs out)⟩]
theorem xt(out:List Bs)(x:Bs):fS (out++[x])=[⟨9,.own 1 (out.length+1) (strs out++[ae x])⟩]:=by unfold fS;rw[tr,XB];rfl
theorem BL{x:Bs}{len:Nat}(hn:len≤1100000):True∧([ae x]:List Value).length=1*1∧(∀u:Value,u∈[ae x]→u.oneCell'=true)∧len+1≤maxLen∧(len+1)*16≤140737488355328:=
 ⟨trivial,rfl,fun u hu=>by rw[XD.1 hu];rfl,by unfold maxLen;omega,by omega⟩
theorem Vr(s:Bs)(hs:s.length≤1050000)(w:World)(T:Sx.gV)(i:Nat)(hi:i≤s.length):∃H' L',Sx.ex prog f35.ntmps w (Sx.a7 f35 0) H' L' ⟨FL s (jg s i).2 i,fS (jg s i).1⟩
  (Sx.dP (fun i=>i≤s.length) (fun i=>FL s (jg s i).2 i) (fun i=>fS (jg s i).1) (fun i=>i+1) (fun i=>s.length - i) (fun(_:Unit)=>True) (fun _=>[(0,.val (ae s)),(3,.own 0),(4,.val (.int .i64 ((jg s s.length).2:Int)))]) (fun _=>fS (jg s s.length).1) (fun _=>()) (Sx.ej (Sx.a7 f35 0) - 1) (Sx.rR prog f35 (fun r=>r=T) .ret) i):=by
 have c8:=gz s;obtain⟨hb,hn⟩:=A6 s i;have nx:jg s (i+1)=match decide (s[i]?=some 10)with|true=>((jg s i).1++[mF s (jg s i).2 i],i+1)|false=>jg s i:=rfl
 by_cases hlt:i < s.length
 ·have c9:=rY (decide_eq_true (show(i:Int) < (s.length:Int)by omega))
  obtain⟨c,hc⟩:∃c,s[i]?=some c:=⟨_,XE hlt⟩;have c14:=kE s i c hc;have iB:=mW (i:=i) (by omega);have c24:=iB;have c20:=fun W=>p8 s (jg s i).2 i hb (by omega) W;have h1:s.length - (i+1) < s.length - i:=by omega
  have h0:i+1≤s.length:=hlt;rw[hc]at nx;generalize jg s i=q at*;obtain⟨out,b⟩:=q;dsimp only at*;have c22:=BL (x:=(s.take i).drop b) (len:=out.length) (by omega);by_cases h10:c=10
  ·have c15:Xy ((c.toNat:Int)==10)=.bool true:=by rw[h10];rfl
   rw[decide_eq_true (by rw[h10])]at nx;have h2:MX 2 s (i+1) (i+1)=MX 2 s (jg s (i+1)).2 (i+1):=by rw[nx]
   have z3:[⟨9,.own 1 (out.length+1) (strs out++[ae (mF s b i)])⟩]=fS (jg s (i+1)).1:=by rw[nx];exact(xt _ _).symm
   refine⟨[(8,.is (.int .i64 (s.length:Int))),ao 9 true,(14,.bin (u8 c)),ao 15 true,(20,.bin (ae ((s.take i).drop b))),cO 24 (i+1),cO 11 (i+1)],[],?_⟩;exact XC (by kernel_rfl) (Sx.t8 c8 c9 c14 c15 c20 c22 c24 iB (Sx.t2 h0 h1 (Xz h2 z3)))
  ·have c15:Xy ((c.toNat:Int)==10)=.bool false:=qQ (by
    rw[beq_eq_false_iff_ne];intro hh;exact h10 (UInt8.toNat_inj.1 (by show c.toNat=10;omega)))
   rw[decide_eq_false (fun h=>h10 (X4.inj h))]at nx;have h2:FL s b (i+1)=FL s (jg s (i+1)).2 (i+1):=by rw[nx]
   have z3:fS out=fS (jg s (i+1)).1:=by rw[nx]
   refine⟨[(8,.is (.int .i64 (s.length:Int))),ao 9 true,(14,.bin (u8 c)),ao 15 false,cO 11 (i+1)],[],?_⟩;exact XC (by kernel_rfl) (Sx.t8 c8 c9 c14 c15 iB h0 h1 h2 z3)
 ·have c9:=qQ (decide_eq_false (show ¬(i:Int) < (s.length:Int)by omega))
  obtain rfl:i=s.length:=by omega
  have h0:True:=trivial;have h1:([(0,.val (ae s)),(3,.own 0),(4,.val (.int .i64 ((jg s s.length).2:Int)))]:List (Nat×Sx.SV))=[(0,.val (ae s)),(3,.own 0),(4,.val (.int .i64 ((jg s s.length).2:Int)))]:=rfl;have z2:fS (jg s s.length).1=fS (jg s s.length).1:=rfl;refine⟨[(8,.is (.int .i64 (s.length:Int))),ao 9 false],[],?_⟩;exact XC (by kernel_rfl) (Sx.t4 c8 c9 h0 h1 z2)
theorem LO(s:Bs)(hs:s.length≤1050000)(w:World):Calls prog 35 #[ae s] w (Sx.eh w (.sl 9 1 (aG s).length (strs (aG s)))):=by have iZ:=Vr s hs w (.sl 9 1 (aG s).length (strs (aG s)));have hb:=A6 s s.length;have E:=Qu s;have h0:0≤s.length:=XT _;have e1:FL s 0 0=FL s (jg s 0).2 0∧fS []=fS (jg s 0).1:=⟨rfl,rfl⟩;have c28:=fun W=>q7 s (jg s s.length).2 hb.1 W;have c30:=BL (x:=s.drop (jg s s.length).2) (len:=(jg s s.length).1.length) (by omega);have z5f:=fun(_:Unit) (_:True)=>(show Sx.gV.sl 9 1 ((jg s s.length).1.length+1) (strs (jg s s.length).1++[ae (s.drop (jg s s.length).2)])=.sl 9 1 (aG s).length (strs (aG s))from by rw[←E,tr,XB];rfl);refine Sx.ng (args:=[ae s]) [(3,.jG 9 1),(28,.bin (ae (s.drop (jg s s.length).2)))] [.mk Nat 0 (fun i=>i≤s.length) (fun i=>FL s (jg s i).2 i) (fun i=>fS (jg s i).1) (fun i=>i+1) (fun i=>s.length - i) Unit (fun _=>True) (fun _=>[(0,.val (ae s)),(3,.own 0),(4,.val (.int .i64 ((jg s s.length).2:Int)))]) (fun _=>fS (jg s s.length).1) (fun _=>())] (by kernel_rfl) func35 rfl (bN rfl) ?_;exact XC (by kernel_rfl) (Sx.t2 h0 e1 (Xz iZ (fun(x3:Unit) (hx4:True)=>(Sx.t2 c28 c30 (z5f x3 hx4)))))
set_option maxRecDepth 100000
open Go Go.RowKit Go.Lib Go.Sort _root_.Go.Proofs.Tryz
set_option maxRecDepth 100000
def ui(k:Nat)(s:Bs)(cm:Bool)(b i:Nat):List (Nat×Sx.SV):=[(0,.val (ae s)),(1,.val (.bool cm)),(5,.own k),(6,.val (.int .i64 (b:Int))),(7,.val (.int .i64 (i:Int)))]
def ED(s:Bs)(cm:Bool)(i:Nat):List (Nat×Sx.SV):=ui 0 s cm (iz s i).2 i
def Sp(s:Bs)(cm:Bool)(i:Nat):Prop:=i≤s.length∧∀j < i,s[j]?=some 35→cm=false
theorem NV{c:UInt8}{k:Nat}(d:UInt8)(hd:d.toNat=k):Xy ((c.toNat:Int) !=(k:Int))=.bool (decide (c≠d)):=by have h:=pM (c:=c) d hd;injection h with h;show Xy (!((c.toNat:Int)==(k:Int)))=_;rw[h];by_cases hc:c=d<;>simp[hc]
theorem WI(i b:Nat):Xy (decide ((i:Int) > (b:Int)))=.bool (decide (b < i)):=by congr 1;rw[decide_eq_decide];omega
abbrev Wg(w:World)(s:Bs)(cm:Bool)(T:Sx.gV)(i:Nat):Prop:=∃H' L',Sx.ex prog f36.ntmps w (Sx.a7 f36 0) H' L' ⟨ED s cm i,fS (iz s i).1⟩
  (Sx.dP (Sp s cm) (ED s cm) (fun i=>fS (iz s i).1) (fun i=>i+1) (fun i=>s.length+1 - i) (fun(_:Unit)=>False) (fun _=>[]) (fun _=>[]) (fun _=>()) (Sx.ej (Sx.a7 f36 0) - 1) (Sx.rR prog f36 (fun r=>r=T) .ret) i)
abbrev Uw(_w:World)(s:Bs)(out:List Bs)(b i:Nat)(bb:Bool)(Z1 Z2:Prop):Prop:=
 Xy (decide ((i:Int) > (b:Int)))=.bool bb∧bA (!bb) (∀W:World,(Instr.sliceAt 9 (ae s) (some (.int .i64 (b:Int))) (some (.int .i64 (i:Int))) none).run prog W=.ok (ae (mF s b i)) W) (bA (!bb) (True∧([ae (mF s b i)]:List Value).length=1*1∧(∀u:Value,u∈[ae (mF s b i)]→u.oneCell'=true)∧out.length+1≤maxLen∧(out.length+1)*16≤140737488355328)
  (XF .i64 (XQ.wrap ((i:Int)+1))=.int .i64 ((i+1:Nat):Int)∧jZ bb Z1 Z2))
theorem KO{w:World}{s:Bs}{out:List Bs}{b i:Nat}{bb:Bool}{Z1 Z2:Prop}(hb:b≤i)(hi:i≤s.length)(hn:out.length≤i)(hs:s.length≤1050000)(hbb:decide (b < i)=bb)(z1:bb=true→Z1)(z2:bb=false→Z2):Uw w s out b i bb Z1 Z2:=
 ⟨(WI i b).trans (by rw[hbb]),bA.mk (fun _ W=>p8 s b i hb hi W) (bA.mk (fun _=>BL (by omega)) ⟨iw (by rw[kC (by omega) (by omega)];rfl),jZ.mk z1 z2⟩)⟩
theorem O0{s:Bs}{i:Nat}{out:List Bs}{b:Nat}{ws:List Bs}(hw:iz s i=(out,b))(h:V1 s i=ws){bb:Bool}(hb:decide (b < i)=bb) :
  (bb=true→Sx.gV.sl 9 1 (out.length+1) (strs out++[ae (mF s b i)])=.sl 9 1 ws.length (strs ws))∧(bb=false→Sx.gV.sl 9 1 out.length (strs out)=.sl 9 1 ws.length (strs ws)):=by
 unfold V1 at h;rw[hw]at h;dsimp only at h;rw[hb]at h;constructor
 ·intro e;rw[e]at h;rw[←h]
  show _=Sx.gV.sl 9 1 (out++[mF s b i]).length (strs (out++[mF s b i]));rw[tr,XB];rfl
 ·intro e;rw[e]at h;rw[←h]
theorem KN(s:Bs)(hs:s.length≤1050000)(cm:Bool)(w:World)(i:Nat)(hi:Sp s cm i)(he:i=s.length∨(cm=true∧s[i]?=some 35)):Wg w s cm (.sl 9 1 (aD cm s).length (strs (aD cm s))) i:=by
 have iB:=gz s;have hE:=OZ hi.1 hi.2 he;have c12:=rY (decide_eq_true (show(i:Int)≤(s.length:Int)by have:=hi.1;omega));obtain⟨hb,hn⟩:=vD s i;obtain⟨bb,hbb⟩:∃bb,decide ((iz s i).2 < i)=bb:=⟨_,rfl⟩;obtain⟨z1,z2⟩:=O0 rfl hE hbb;have cut:=KO (w:=w) hb hi.1 hn hs hbb z1 z2;by_cases hl:i=s.length
 ·have c18:Xy ((i:Int)==(s.length:Int))=.bool true:=rY (by rw[hl];simp)
  refine⟨[(11,.is (.int .i64 (s.length:Int))),ao 12 true,(17,.is (.int .i64 (s.length:Int))),ao 18 true,ao 44 bb,(49,.bin (ae (mF s (iz s i).2 i))),cO 53 (i+1)],[],?_⟩;have CH:=Sx.t4 iB c12 iB c18 cut;unfold ED;generalize iz s i=q at*;cases bb<;>exact XC (by kernel_rfl) CH
 ·obtain⟨rfl,h35⟩:=he.resolve_left hl
  have c18:Xy ((i:Int)==(s.length:Int))=.bool false:=qQ (by rw[beq_eq_false_iff_ne];omega);have c24:=kE s i 35 h35;have c25:Xy (((35:UInt8).toNat:Int)==35)=.bool true:=rfl;refine⟨[(11,.is (.int .i64 (s.length:Int))),ao 12 true,(17,.is (.int .i64 (s.length:Int))),ao 18 false,(24,.bin (u8 35)),ao 25 true,ao 44 bb,(49,.bin (ae (mF s (iz s i).2 i))),cO 53 (i+1)],[],?_⟩;have CH:=Sx.t4 iB c12 iB c18 (Sx.t2 c24 c25 cut);unfold ED;generalize iz s i=q at*;cases bb<;>exact XC (by kernel_rfl) CH
theorem Uv(s:Bs)(hs:s.length≤1050000)(cm:Bool)(w:World)(i:Nat)(hi:Sp s cm i):Wg w s cm (.sl 9 1 (aD cm s).length (strs (aD cm s))) i:=by
 by_cases hl:i=s.length
 ·exact KN s hs cm w i hi (.inl hl)
 have hlt:i < s.length:=by have:=hi.1;omega
 obtain⟨c,hc⟩:∃c,s[i]?=some c:=⟨_,XE hlt⟩;by_cases h35:cm=true∧c=35
 ·exact KN s hs cm w i hi (.inr ⟨h35.1,by rw[hc,h35.2]⟩)
 have iB:=gz s;have c12:=rY (decide_eq_true (show(i:Int)≤(s.length:Int)by omega));have c18:Xy ((i:Int)==(s.length:Int))=.bool false:=qQ (by rw[beq_eq_false_iff_ne];omega);have c24:=kE s i c hc;have c25:cm=true→Xy ((c.toNat:Int)==35)=.bool false:=fun h=>(pM (c:=c) 35 rfl).trans (by rw[decide_eq_false (fun e=>h35 ⟨h,e⟩)]);have c34:=NV (c:=c) 32 rfl;have c40:=NV (c:=c) 9 rfl;have nx:iz s (i+1)=match decide (c=32∨c=9)with|false=>iz s i|true=>match decide ((iz s i).2 < i)with|true=>((iz s i).1++[mF s (iz s i).2 i],i+1)|false=>((iz s i).1,i+1):=by rw[iz,hc];rfl
 have hbl:decide (c=32∨c=9)=!(decide (c≠32)&&decide (c≠9)):=by by_cases h1:c=32<;>by_cases h2:c=9<;>simp[h1,h2]
 rw[hbl]at nx;obtain⟨hb,hn⟩:=vD s i;have h0:Sp s cm (i+1):=⟨hlt,fun j hj h=>by
  by_cases hji:j=i
  ·subst hji
   rw[hc]at h;cases hcm:cm with
   |false=>rfl
   |true=>exact absurd ⟨hcm,X4.inj h⟩ h35
  ·exact hi.2 j (by omega) h⟩
 have h1:s.length+1 - (i+1) < s.length+1 - i:=by omega
 have c14:=mW (i:=i) (by omega);obtain⟨bb,hbb⟩:∃bb,decide ((iz s i).2 < i)=bb:=⟨_,rfl⟩;rw[hbb]at nx;have hi':=hi.1;generalize decide (c≠32)=n1 at*;generalize decide (c≠9)=n2 at*;unfold Wg ED;generalize iz s i=q at*;obtain⟨out,b⟩:=q;dsimp only at hb hn hbb nx ⊢;have wn:(n1&&n2)=true→ui 0 s cm b (i+1)=ui 0 s cm (iz s (i+1)).2 (i+1)∧fS out=fS (iz s (i+1)).1:=fun h=>by rw[nx,h];exact⟨rfl,rfl⟩
 have cut:=fun(h:(n1&&n2)=false)=>KO (w:=w) (s:=s) (out:=out) hb hi' hn hs hbb
  (Z1:=XF .i64 (XQ.wrap ((i:Int)+1))=.int .i64 ((i+1:Nat):Int)∧Sp s cm (i+1)∧s.length+1 - (i+1) < s.length+1 - i∧ui 2 s cm (i+1) (i+1)=ui 2 s cm (iz s (i+1)).2 (i+1)∧[⟨9,.own 1 (out.length+1) (strs out++[ae (mF s b i)])⟩]=fS (iz s (i+1)).1)
  (Z2:=XF .i64 (XQ.wrap ((i:Int)+1))=.int .i64 ((i+1:Nat):Int)∧Sp s cm (i+1)∧s.length+1 - (i+1) < s.length+1 - i∧ui 0 s cm (i+1) (i+1)=ui 0 s cm (iz s (i+1)).2 (i+1)∧fS out=fS (iz s (i+1)).1)
  (fun e=>⟨c14,h0,h1,by rw[nx,h,e];rfl,by rw[nx,h,e];exact(xt _ _).symm⟩) (fun e=>⟨c14,h0,h1,by rw[nx,h,e];rfl,by rw[nx,h,e];rfl⟩)
 have CH:=Sx.t4 iB c12 iB c18 (bA.mk (b:=!cm) (fun _=>c24) (bA.mk (b:=!cm) (fun h=>c25 (by cases cm;cases h;rfl)) (Sx.t2 c24 c34 (bA.mk (b:=!n1) (fun _=>c24) (bA.mk (b:=!n1) (fun _=>c40) (jZ.mk (b:=n1&&n2) (fun h=>Sx.t2 c14 h0 (Xz h1 (wn h))) cut))))));clear c25 cut wn nx hbb;refine⟨[(11,.is (.int .i64 (s.length:Int))),ao 12 true,(17,.is (.int .i64 (s.length:Int))),ao 18 false,(24,.bin (u8 c)),ao 25 false,(33,.bin (u8 c)),ao 34 n1,(39,.bin (u8 c)),ao 40 n2,ao 44 bb,(49,.bin (ae (mF s b i))),cO 53 (i+1),cO 14 (i+1)],[],?_⟩;cases cm<;>cases n1<;>cases n2<;>cases bb<;>exact XC (by kernel_rfl) CH
theorem Lt(s:Bs)(cm:Bool)(hs:s.length≤1050000)(w:World):Calls prog 36 #[ae s,.bool cm] w (Sx.eh w (.sl 9 1 (aD cm s).length (strs (aD cm s)))):=by have iZ:=Uv s hs cm w;have h0:Sp s cm 0:=⟨XT _,fun j hj=>by omega⟩;have e1:ui 0 s cm 0 0=ED s cm 0∧fS []=fS (iz s 0).1:=⟨rfl,rfl⟩;have CH:=Sx.t2 h0 e1 (Xz iZ trivial);refine Sx.ng (args:=[ae s,.bool cm]) [(5,.jG 9 1)] [.fin Nat 0 (Sp s cm) (ED s cm) (fun i=>fS (iz s i).1) (fun i=>i+1) (fun i=>s.length+1 - i)] (by kernel_rfl) func36 rfl (bN rfl) ?_;exact XC (by kernel_rfl) CH
open Go Go.RowKit Go.Lib Go.Sort
structure Gt{α:Type}(r:Nat→Out α):Prop where
 no:∀i c p,r i=.no c p→i < p
 ok:∀i a j,r i=.ok a j→i≤j
theorem Gt.bind{α β:Type}{r:Nat→Out α}{f:α→Nat→Out β}(h:Gt r)(hf:∀a,Gt (f a)):Gt (fun i=>(r i).bind f):=by
 refine⟨fun i c p hh=>?_,fun i a j hh=>?_⟩
 ·cases hr:r i with
  |ok a j=>rw[hr]at hh;exact Ye (h.ok i a j hr) ((hf a).no j c p hh)
  |no c' p'=>rw[hr]at hh;injection hh with _ hh;have:=h.no i c' p' hr;omega
 ·cases hr:r i with
  |ok b k=>rw[hr]at hh;exact XO (h.ok i b k hr) ((hf b).ok k a j hh)
  |no c' p'=>rw[hr]at hh;cases hh
def zg(kw:Nat)(st:RS):Sx.Row:=⟨114,.dK [.own kw,.val (.int .i64 (st.at_:Int)),.val (.int .i64 (st.e:Int))]⟩
open Go Go.RowKit Go.Lib Go.Sort
theorem KM(cm:Bool)(s:Bs):(aD cm s).length≤s.length+1∧∀x∈aD cm s,x.length≤s.length:=by
 have key:∀(l cur:Bs),(bB cm cur l).length≤l.length+1∧∀x∈bB cm cur l,x.length≤cur.length+l.length:=by
  intro l;induction l with
  |nil=>
   intro cur;unfold bB;split
   ·exact⟨XT _,fun x hx=>by cases hx⟩
   ·exact⟨XI _,fun x hx=>by rw[XD.1 hx];exact Nat.le_add_right _ _⟩
  |cons c r ih=>
   intro cur;unfold bB;rw[XL];split
   ·split
    ·exact⟨XT _,fun x hx=>by cases hx⟩
    ·exact⟨by show 1≤_;omega,fun x hx=>by rw[XD.1 hx];omega⟩
   ·split
    ·have h:=ih []
     split
     ·exact⟨by omega,fun x hx=>by have:=h.2 x hx;simp at this;omega⟩
     ·exact⟨by rw[XL];omega,fun x hx=>by
       rcases XS.1 hx with rfl|hx
       ·omega
       ·have:=h.2 x hx;simp at this;omega⟩
    ·have h:=ih (cur++[c])
     rw[XB,XL,Yk]at h;exact⟨by omega,fun x hx=>by have:=h.2 x hx;omega⟩
 have h:=key s [];exact⟨h.1,fun x hx=>by have:=h.2 x hx;simpa using this⟩
set_option maxRecDepth 100000
open Go.RowKit Go.Lib Go.Sort _root_.Go.Proofs.Tryz
def dU:List Value:=[.slice none 0 0,.slice none 0 0,.slice none 0 0,.slice none 0 0,.slice none 0 0,.int .i64 0]
def L5(n i:Nat):List (Nat×Sx.SV):=[(2,.ptr 0 0),(4,.ptr 1 0),(5,.ptr 2 0),(17,.own 8),(18,.val (.int .i64 (n:Int))),(19,.val (.int .i64 (i:Int)))]
def SQ(cf:CF)(d:Nat):List Sx.Row:=⟨46,.an dU⟩::dv none (eX 3 4 5 6 7 cf)::mZ none d::bX cf
def ux(ls:List Bs)(cf:CF)(d:Nat):List Sx.Row:=SQ cf d++[⟨9,.own 1 ls.length (ls.map ae)⟩]
structure Oz where
 i:Nat
 cf:CF
 d:Nat
structure KK(ls:List Bs)(T:OV)(k:Oz):Prop where
 le:k.i≤ls.length
 nc:k.cf.aj.length≤k.i∧k.cf.af.length≤k.i∧k.cf.rules.length≤k.i∧k.cf.ag.length≤k.i∧k.cf.ab.length≤k.i
 V8:k.d≤k.i
 run:T=ei (ls.drop k.i) (k.i+1) k.cf k.d
noncomputable def mb(ls:List Bs)(k:Oz):Oz:=⟨k.i+1,(ef (aD true (ls.getD k.i [])) k.cf k.d).val,dN (aD true (ls.getD k.i [])) k.d⟩
def Sr(T:OV)(l:List Sx.SV)(mem:List Sx.Row):Prop:=match T with
 |.no code line=>∃j,l=[.val (.agg dU.toArray),.ml 103 j 0]∧mem[j]?=some ⟨105,.an [.int .i64 (code:Int),.int .i64 (line:Int)]⟩
 |.ok cf=>∃k0 k1 k2 k3 k4,l=[.dX [.o k0,.o k1,.o k2,.o k3,.o k4,.v (.int .i64 cf.aZ)],.val .nilIface]∧mem[k0]?=some ⟨3,.own 1 cf.aj.length cf.cp⟩∧mem[k1]?=some ⟨118,.own 19 cf.af.length cf.cr⟩∧mem[k2]?=some ⟨81,.own 49 cf.rules.length cf.cl⟩∧mem[k3]?=some ⟨122,.own 4 cf.ag.length cf.cm⟩∧mem[k4]?=some ⟨124,.own 3 cf.ab.length cf.ci⟩
theorem Nb{ws:List Bs}{i:Nat}{cf cf':CF}{d j:Nat}(h:pz ws i cf d=.ok cf' j):cf'.aj.length≤cf.aj.length+1∧cf'.af.length≤cf.af.length+1∧cf'.rules.length≤cf.rules.length+1∧cf'.ag.length≤cf.ag.length+1∧cf'.ab.length≤cf.ab.length+1:=by
 obtain⟨x,k,_,h⟩:=Out.aH h;obtain⟨c,k2,hb,h⟩:=Out.aH h;have hc:cf'=c:=by
  unfold qG at h;split at h
  ·cases h
  ·injection h with h _;exact h.symm
 subst hc;unfold fC at hb;split at hb
 ·obtain⟨_,_,_,hb⟩:=Out.aH hb
  injection hb with hb _;subst hb;simp
 split at hb
 ·obtain⟨_,_,_,hb⟩:=Out.aH hb
  obtain⟨_,_,_,hb⟩:=Out.aH hb;injection hb with hb _;subst hb;simp
 split at hb
 ·obtain⟨_,_,_,hb⟩:=Out.aH hb
  obtain⟨_,_,_,hb⟩:=Out.aH hb;obtain⟨_,_,_,hb⟩:=Out.aH hb;obtain⟨_,_,_,hb⟩:=Out.aH hb;injection hb with hb _;subst hb;simp
 split at hb
 ·obtain⟨_,_,_,hb⟩:=Out.aH hb
  obtain⟨_,_,_,hb⟩:=Out.aH hb;obtain⟨_,_,_,hb⟩:=Out.aH hb;injection hb with hb _;subst hb;simp
 split at hb
 ·obtain⟨_,_,_,hb⟩:=Out.aH hb
  injection hb with hb _;subst hb;simp
 split at hb
 ·obtain⟨_,_,_,hb⟩:=Out.aH hb
  obtain⟨_,_,_,hb⟩:=Out.aH hb;injection hb with hb _;subst hb;simp
 ·cases hb
theorem MW{ws:List Bs}{cf cf':CF}{d j:Nat}(h:ef ws cf d=.ok cf' j):cf'.aj.length≤cf.aj.length+1∧cf'.af.length≤cf.af.length+1∧cf'.rules.length≤cf.rules.length+1∧cf'.ag.length≤cf.ag.length+1∧cf'.ab.length≤cf.ab.length+1:=by
 unfold ef at h;split at h
 ·injection h with h _;subst h;simp
 ·exact Nb h
theorem VJ(ws:List Bs)(d:Nat):dN ws d≤d+1:=by unfold dN;split<;>omega
theorem L3{w:World}(hlan:lz w)(ls:List Bs)(hls:ls.length≤1100000)(hsz:∀x∈ls,x.length≤1100000)(T:OV)(k:Oz)(hk:KK ls T k) :
  ∃H' L',Sx.lN prog f22.ntmps ⟨w,[],fun _ _=>False⟩ (Sx.a7 f22 0) H' L' ⟨L5 ls.length k.i,ux ls k.cf k.d⟩
   (Sx.dP (KK ls T) (fun k=>L5 ls.length k.i) (fun k=>ux ls k.cf k.d) (mb ls) (fun k=>ls.length+1 - k.i) (fun(x:Oz)=>KK ls T x∧x.i=ls.length) (fun _=>[(2,.ptr 0 0),(4,.ptr 1 0),(5,.ptr 2 0)]) (fun k=>ux ls k.cf k.d) id (Sx.ej (Sx.a7 f22 0) - 1) (Sx.fm prog f22 (Sr T) .ret) k):=by
 obtain⟨i,cf,d⟩:=k;have hk0:=hk;obtain⟨hle,hfew,hdle,hrun⟩:=hk;have hle:i≤ls.length:=hle;have nc:cf.aj.length≤1100000∧cf.af.length≤1100000∧cf.rules.length≤1100000∧cf.ag.length≤1100000∧cf.ab.length≤1100000:=⟨XO hfew.1 (by omega),XO hfew.2.1 (by omega),XO hfew.2.2.1 (by omega),XO hfew.2.2.2.1 (by omega),XO hfew.2.2.2.2 (by omega)⟩;have hd:d≤1100000:=XO hdle (by omega);have hrun:T=ei (ls.drop i) (i+1) cf d:=hrun;by_cases hlt:i < ls.length
 ·have c20:=bT ((i:Int) < (ls.length:Int)) (by omega)
  obtain⟨x,hx⟩:∃x,ls[i]?=some x:=⟨_,XE hlt⟩;have hxl:=hsz x (Ya hx);have hdrop:ls.drop i=x::ls.drop (i+1):=by obtain⟨h1,rfl⟩:=List.getElem?_eq_some_iff.1 hx;exact List.drop_eq_getElem_cons h1
  have hgd:ls.getD i []=x:=by rw[XJ,hx];rfl
  rw[hdrop]at hrun;have c22:0≤(i:Int)∧(i:Int) < (ls.length:Int):=⟨by omega,by omega⟩;have c23:(ls.map ae)[((i:Int)).toNat*1]?=some (ae x):=by rw[Int.toNat_natCast,X6,List.getElem?_map,hx];rfl
  have hrows:yx (Sx.rowAt (ux ls cf d++[⟨103,.an [.pointer none]⟩])) none none 1 2 3 4 5 6 7 cf d:=⟨rfl,rfl,rfl,rfl,rfl,rfl,rfl⟩;cases hT:ef (aD true x) cf d with
  |ok cf' j=>
   have e:T=ei (ls.drop (i+1)) (i+1+1) cf' (dN (aD true x) d):=by
    rw[hrun]
    conv=>lhs;unfold ei
    rw[hT]
   have hnx:mb ls ⟨i,cf,d⟩=⟨i+1,cf',dN (aD true x) d⟩:=by unfold mb;rw[hgd,hT];rfl
   have hll:=MW hT;have hdn:=VJ (aD true x) d;have c25:=Td (b:=⟨w,[],fun _ _=>False⟩) 10 rfl hlan (by simp) hxl nc hd hrows hT;have c27:=fun W (β:Sx.Env) (hS:Sx.fD ⟨w,[],fun _ _=>False⟩ β W (Sx.rowAt (⟨46,.an dU⟩::dv none (eX 10 11 12 13 14 cf')::mZ none (dN (aD true x) d)::([Sx.au,Sx.au,Sx.au,Sx.au,Sx.au]++[⟨9,.own 1 ls.length (ls.map ae)⟩,⟨103,.an [.pointer none]⟩]++bX cf'))) [])=>RB (m:=15) (k:=9) W β hS;have yO:=mW (i:=i) (by omega);have h0:KK ls T (mb ls ⟨i,cf,d⟩):=by rw[hnx];obtain⟨f0,f1,f2,f3,f4⟩:cf.aj.length≤i∧cf.af.length≤i∧cf.rules.length≤i∧cf.ag.length≤i∧cf.ab.length≤i:=hfew;obtain⟨g0,g1,g2,g3,g4⟩:=hll;have hdi:d≤i:=hdle;exact⟨hlt,⟨show cf'.aj.length≤i+1 by omega,show cf'.af.length≤i+1 by omega,show cf'.rules.length≤i+1 by omega,show cf'.ag.length≤i+1 by omega,show cf'.ab.length≤i+1 by omega⟩,show dN (aD true x) d≤i+1 by omega,e⟩
   have h1:ls.length+1 - (mb ls ⟨i,cf,d⟩).i < ls.length+1 - i:=by rw[hnx]; show ls.length+1 - (i+1) < _; omega
   have h2:L5 ls.length (i+1)=L5 ls.length (mb ls ⟨i,cf,d⟩).i:=by rw[hnx]
   have z3:(⟨46,.an dU⟩::dv none (eX 10 11 12 13 14 cf')::mZ none (dN (aD true x) d)::(bX cf'++[⟨9,.own 1 ls.length (ls.map ae)⟩]):List Sx.Row)=⟨46,.an dU⟩::dv none (eX 10 11 12 13 14 (mb ls ⟨i,cf,d⟩).cf)::mZ none (mb ls ⟨i,cf,d⟩).d::(bX (mb ls ⟨i,cf,d⟩).cf++[⟨9,.own 1 ls.length (ls.map ae)⟩]):=by rw[hnx]
   refine⟨[ao 20 true,(22,.ix),(23,.ld (ae x)),(25,.aB (WO none none [] 1 2 3 4 5 6 7 10 cf' (dN (aD true x) d) .nilIface none)),(27,.aB ⟨[],[],[],[],.val (.bool false),none⟩),cO 36 (i+1)],[],?_⟩;exact XC (by kernel_rfl) (Sx.t8 c20 c22 c23 c25 c27 yO h0 h1 (Xz h2 z3))
  |no code p=>
   have e:T=.no code (i+1):=by
    rw[hrun]
    conv=>lhs;unfold ei
    rw[hT]
   have c25:=Qk (b:=⟨w,[],fun _ _=>False⟩) 10 rfl hlan (by simp) hxl nc hd hrows hT;have c27:=fun W (β:Sx.Env) (hS:Sx.fD ⟨w,[],fun _ _=>False⟩ β W (Sx.rowAt (⟨46,.an dU⟩::([Sx.au,Sx.au,Sx.au,Sx.au,Sx.au,Sx.au,Sx.au]++[⟨9,.own 1 ls.length (ls.map ae)⟩,⟨103,.an [.pointer none]⟩,⟨105,.an [.int .i64 (code:Int),.int .i64 (p:Int)]⟩]))) [9])=>It (m:=11) (k:=9) (N:=10) hlan (by simp) rfl W β hS;have c30:=mW (i:=i) (by omega);have z0:Sr T [.val (.agg dU.toArray),.ml 103 10 0] (⟨46,.an dU⟩::([Sx.au,Sx.au,Sx.au,Sx.au,Sx.au,Sx.au,Sx.au]++[⟨9,.own 1 ls.length (ls.map ae)⟩,⟨103,.dK [.ptr 10 0]⟩,⟨105,.an [.int .i64 (code:Int),.int .i64 ((i+1:Nat):Int)]⟩])):=by rw[e];exact⟨10,rfl,rfl⟩
   refine⟨[ao 20 true,(22,.ix),(23,.ld (ae x)),(25,.aB (VR 10 code p)),(27,.aB ⟨[9],[(9,⟨103,.dK [.ptr 10 0]⟩)],[],[],.val (.bool true),none⟩),cO 30 (i+1)],[],?_⟩;exact XC (by kernel_rfl) (Sx.t4 c20 c22 c23 c25 (Sx.t2 c27 c30 z0))
 ·have c20:=bF ((i:Int) < (ls.length:Int)) (by omega)
  have h0:KK ls T ⟨i,cf,d⟩∧i=ls.length:=⟨hk0,by omega⟩;have h1:([(2,.ptr 0 0),(4,.ptr 1 0),(5,.ptr 2 0)]:List (Nat×Sx.SV))=[(2,.ptr 0 0),(4,.ptr 1 0),(5,.ptr 2 0)]:=rfl;have z2:ux ls cf d=ux ls cf d:=rfl;refine⟨[ao 20 false],[],?_⟩;exact XC (by kernel_rfl) (Sx.t2 c20 h0 (Xz h1 z2))
set_option maxRecDepth 100000
open Go.RowKit Go.Lib Go.Sort _root_.Go.Proofs.Tryz
set_option maxRecDepth 100000
noncomputable def dD(s:Bs):OV:=if 65536 < s.length then .no 4 0 else ei (aG s) 1 uU 0
theorem qd(w:World):Sx.Rows ⟨w,[],fun _ _=>False⟩ (Sx.di []) w []:=Sx.gI (w:=w) (S:=[]) (PP:=fun _ _=>False) (G:=[]) (fun q hq=>by cases hq) (fun q hq=>by cases hq) (by simp)
theorem Jd(w:World)(s:Bs)(hs:65536 < s.length):Calls prog 22 #[ae s] w (Sx.cN ⟨w,[],fun _ _=>False⟩ (Sr (dD s))):=by
 have hT:dD s=.no 4 0:=by unfold dD;rw[if_pos hs]
 have c10:=gz s;have iB:=bT ((s.length:Int) > 65536) (by omega);have z0:Sr (dD s) [.val (.agg dU.toArray),.ml 103 1 0] [⟨46,.an dU⟩,⟨105,.an [.int .i64 4,.int .i64 0]⟩]:=by rw[hT];exact⟨1,rfl,rfl⟩
 refine Sx.bO (args:=[.val (ae s)]) (qd w) [(10,.is (.int .i64 (s.length:Int))),ao 11 true] [] (by kernel_rfl) func22 rfl (bN rfl) rfl ?_;exact XC (by kernel_rfl) (Sx.t2 c10 iB z0)
theorem Fe(w:World)(hlan:lz w)(s:Bs)(hs:s.length≤65536):Calls prog 22 #[ae s] w (Sx.cN ⟨w,[],fun _ _=>False⟩ (Sr (dD s))):=by
 have hT:dD s=ei (aG s) 1 uU 0:=by unfold dD;rw[if_neg (by omega)]
 generalize dD s=T at hT;have c10:=gz s;have iB:=bF ((s.length:Int) > 65536) (by omega);have hcount:=eZ 10 s;have c17:=fun W (hW:ai [] w W)=>Pf W s (by omega) (hlan.aJ hW (by simp)).yA;have h0:KK (aG s) T ⟨0,uU,0⟩:=⟨XT _,⟨XI _,XI _,XI _,XI _,XI _⟩,XI _,hT⟩;have iZ:=L3 hlan (aG s) (by show(bH 10 s).length≤_;omega) (fun x hx=>by have:=gW 10 s x hx;omega) T;have e1:([(2,.ptr 0 0),(4,.ptr 1 0),(5,.ptr 7 0),(17,.own 8),(18,.val (.int .i64 ((aG s).length:Int))),(19,.val (.int .i64 ((0:Nat):Int)))]:List (Nat×Sx.SV))=[(2,.ptr 0 0),(4,.ptr 1 0),(5,.ptr 7 0),(17,.own 8),(18,.val (.int .i64 ((aG s).length:Int))),(19,.val (.int .i64 ((0:Nat):Int)))]∧
   (⟨46,.an dU⟩::dv none (eX 2 3 4 5 6 uU)::mZ none 0::(bX uU++[⟨9,.own 1 (aG s).length ((aG s).map ae)⟩]):List Sx.Row)=⟨46,.an dU⟩::dv none (eX 2 3 4 5 6 uU)::mZ none 0::(bX uU++[⟨9,.own 1 (aG s).length ((aG s).map ae)⟩]):=⟨rfl,rfl⟩
 have fin:∀x:Oz,KK (aG s) T x→x.i=(aG s).length→T=.ok (if x.d=0 then { x.cf with aZ:=2 }else x.cf):=fun x hx hi=>by rw[hx.run,hi,List.drop_length];rfl
 have z6f:=fun(x:Oz) (hx:KK (aG s) T x∧x.i=(aG s).length) (hb:(((x.d:Nat):Int)==0)=true)=>(show Sr T [.dX [.o 3,.o 4,.o 5,.o 6,.o 7,.v (.int .i64 2)],.val .nilIface] (⟨46,.dK [.own 3,.own 4,.own 5,.own 6,.own 7,.val (.int .i64 2)]⟩::⟨46,.dK [.own 3,.own 4,.own 5,.own 6,.own 7,.val (.int .i64 2)]⟩::mZ none x.d::(bX x.cf++[⟨9,.own 1 (aG s).length ((aG s).map ae)⟩]))from by
  have hd:x.d=0:=by have:=beq_iff_eq.1 hb;omega
  rw[fin x hx.1 hx.2,if_pos hd];exact⟨3,4,5,6,7,rfl,rfl,rfl,rfl,rfl,rfl⟩)
 have z7f:=fun(x:Oz) (hx:KK (aG s) T x∧x.i=(aG s).length) (hb:(((x.d:Nat):Int)==0)=false)=>(show Sr T [.dX [.o 3,.o 4,.o 5,.o 6,.o 7,.v (.int .i64 x.cf.aZ)],.val .nilIface] (⟨46,.dK [.own 3,.own 4,.own 5,.own 6,.own 7,.val (.int .i64 x.cf.aZ)]⟩::dv none (eX 3 4 5 6 7 x.cf)::mZ none x.d::(bX x.cf++[⟨9,.own 1 (aG s).length ((aG s).map ae)⟩]))from by
  have hd:x.d≠0:=by intro h0;rw[h0]at hb;cases hb
  rw[fin x hx.1 hx.2,if_neg hd];exact⟨3,4,5,6,7,rfl,rfl,rfl,rfl,rfl,rfl⟩)
 refine Sx.bO (args:=[.val (ae s)]) (qd w) [(10,.is (.int .i64 (s.length:Int))),ao 11 false,(4,.tL [(0,3,1),(1,118,19),(2,81,49),(3,122,4),(4,124,3)]),(17,.ct (.sl 9 1 (aG s).length ((aG s).map ae)))]
  [.mk Oz ⟨0,uU,0⟩ (KK (aG s) T) (fun k=>L5 (aG s).length k.i) (fun k=>ux (aG s) k.cf k.d) (mb (aG s)) (fun k=>(aG s).length+1 - k.i) Oz (fun x=>KK (aG s) T x∧x.i=(aG s).length) (fun _=>[(2,.ptr 0 0),(4,.ptr 1 0),(5,.ptr 2 0)]) (fun k=>ux (aG s) k.cf k.d) id] (by kernel_rfl) func22 rfl (bN rfl) rfl ?_
 exact XC (by kernel_rfl) (Sx.t4 c10 iB c17 h0 (Sx.t2 e1 iZ (fun(x3:Oz) (hx4:KK (aG s) T x3∧x3.i=(aG s).length)=>(Sx.aI (b:=x3.d.cast==OfNat.ofNat (nat_lit 0)) (fun hb5=>(z6f x3 hx4 hb5)) (fun hb5=>(z7f x3 hx4 hb5))))))
theorem Hq(w:World)(hlan:lz w)(s:Bs):Calls prog 22 #[ae s] w (Sx.cN ⟨w,[],fun _ _=>False⟩ (Sr (dD s))):=by
 by_cases hs:65536 < s.length
 ·exact Jd w s hs
 ·exact Fe w hlan s (by omega)
open Go Go.RowKit Go.Lib Go.Sort _root_.Go.Proofs.Tryz
noncomputable def kN:List Bs→Nat→CF→Bool→OV
 | [],_,cf,was=>.ok (ot was cf { cf with aZ:=2 })
 |l::ls,k,cf,was=>match decide (aD true l=[])with
  |true=>kN ls (k+1) cf was
  |false=>match XG (ey (aD true l) cf was ⟨0,0⟩).2.e 0 with
   |true=>kN ls (k+1) (ey (aD true l) cf was ⟨0,0⟩).1 (was||decide ((aD true l)[0]?=some aO))
   |false=>.no (ey (aD true l) cf was ⟨0,0⟩).2.e k
theorem tB:∀(ls:List Bs) (k:Nat) (cf:CF) (was:Bool) (d:Nat),was=!decide (d=0)→kN ls k cf was=ei ls k cf d
 | [],k,cf,was,d,h=>by
  unfold kN ei ot;by_cases hd:d=0
  ·rw[h,decide_eq_true hd,if_pos hd];rfl
  ·rw[h,decide_eq_false hd,if_neg hd];rfl
 |l::ls,k,cf,was,d,h=>by
  unfold kN ei ef;generalize aD true l=ws;cases ws with
  |nil=>
   rw[decide_eq_true rfl];have e:dN [] d=d:=by unfold dN;rw[if_neg (by simp)]
   simp only[e];exact tB ls (k+1) cf was d h
  |cons x ws=>
   rw[decide_eq_false (by simp)];have hs:=(Ll (x::ws) cf was d h).run 0 (XT _);cases hr:pz (x::ws) 0 cf d with
   |ok a j=>
    rw[hr]at hs;have hs:ey (x::ws) cf was ⟨0,0⟩=(a,⟨j,0⟩)∧j≤(x::ws).length:=hs;rw[hs.1];dsimp only;refine tB ls (k+1) a _ _ ?_;unfold dN;by_cases hk:(x::ws)[0]?=some aO
    ·rw[decide_eq_true hk,if_pos hk,decide_eq_false (by omega),Bool.or_true];rfl
    ·rw[decide_eq_false hk,if_neg hk,h,Bool.or_false]
   |no c p=>
    rw[hr]at hs;have hs:c≠0∧(ey (x::ws) cf was ⟨0,0⟩).2=⟨p - 1,c⟩:=hs;rw[hs.2];dsimp only;have hz:XG c 0=false:=by cases h:XG c 0;rfl;exact absurd (XA h) hs.1
    rw[hz]
theorem Je(s:Bs):dD s=if 65536 < s.length then .no 4 0 else kN (aG s) 1 uU false:=by unfold dD;rw[tB (aG s) 1 uU false 0 rfl]
theorem Nk{β β':Sx.Env}{W w':World}{row:Nat→Option Sx.Row}{m:Nat}{a a':List Nat}{u:List (Nat×Sx.Row)}{k:List Nat}{nw:List Sx.Row}{r:Sx.SV}{phi:Option Prop}{e:Ending}(h:Sx.BT β W row m ⟨a,u,k,nw,r,phi⟩ e w' β'):Sx.BT β W row m ⟨a',u,k,nw,r,phi⟩ e w' β':=by obtain⟨h1,h2,h3,h4,h5,h6,h7⟩:=h;exact⟨h1,h2,h3,h4,h5,h6,h7⟩
theorem I4{ws:List Bs}{cf:CF}{was:Bool}{st:RS}:(ey ws cf was st).1.aj.length≤cf.aj.length+1∧(ey ws cf was st).1.af.length≤cf.af.length+1∧(ey ws cf was st).1.rules.length≤cf.rules.length+1∧(ey ws cf was st).1.ag.length≤cf.ag.length+1∧(ey ws cf was st).1.ab.length≤cf.ab.length+1:=by
 have key:∀(x:Bs) (s:RS),(oT x ws cf was s).1.aj.length≤cf.aj.length+1∧(oT x ws cf was s).1.af.length≤cf.af.length+1∧(oT x ws cf was s).1.rules.length≤cf.rules.length+1∧(oT x ws cf was s).1.ag.length≤cf.ag.length+1∧(oT x ws cf was s).1.ab.length≤cf.ab.length+1:=fun x s=>by
  unfold oT;split
  ·simp[bM,eM]
  split
  ·simp[bM,eM]
  split
  ·simp[bM,eM]
  split
  ·simp[bM,eM]
  split
  ·simp[bM,eM]
  split
  ·simp[bM,eM]
  ·simp[qF]
 exact key _ _
theorem Fc{b:Sx.bu}{mem:List Sx.Row}{m kw kc kd k0 k1 k2 k3 k4:Nat}{st:RS}{ws:List Bs}{cf:CF}(was:Bool)(hr:vC (Sx.rowAt mem) none (zg kw st) kc kd k0 k1 k2 k3 k4 cf)(hw:Sx.rowAt mem kw=some ⟨9,.own 1 ws.length (strs ws)⟩)(hn:[kc,kd,k0,k1,k2,k3,k4].Nodup)(hk:kw∉[kc,kd,k0,k1,k2,k3,k4])(hm:kw < m∧kd < m)
  (hl:st.at_≤ws.length) (he:st.e≤1000) (hb:ws.length≤1000000) (hz:∀x∈ws,x.length≤100000000) (nc:cf.aj.length≤1100000∧cf.af.length≤1100000∧cf.rules.length≤1100000∧cf.ag.length≤1100000∧cf.ab.length≤1100000) (W:World) (β:Sx.Env) (hS:Sx.fD b β W (Sx.rowAt mem) [kw,kc,kd,k0,k1,k2,k3,k4]) :
  Calls prog 65 (([.ptr kd 0,.ptr kc 0,.val (.bool was)]:List Sx.SV).map (Sx.SV.den β)).toArray W (Sx.bK b β W (Sx.rowAt mem) m
   ⟨[kw,kc,kd,k0,k1,k2,k3,k4],[(kc,dv none (eX m (m+1) (m+2) (m+3) (m+4) (ey ws cf was st).1)),(kd,zg kw (ey ws cf was st).2)],[k0,k1,k2,k3,k4],bX (ey ws cf was st).1,.val (.tuple #[]),none⟩):=by
 obtain⟨hat,hnd,hnew⟩:=Il hS hr rfl (fun k hk=>Yb _ hk) hn;have o:β.n kw=ws.length∧Own W 9 1 (.slice (β.a kw) ws.length (β.c kw)) ws.length (strs ws):=hS.held kw (by simp) _ hw;have hB:aw W (β kd) 114 [β.sl kw,.int .i64 (st.at_:Int),.int .i64 (st.e:Int)]:=hS.held kd (by simp) _ hr.d;unfold Sx.Env.sl at hB;rw[o.1]at hB;have ne:∀{i:Nat} {r:Sx.Row} {k:Nat},i∈[kc,kd,k0,k1,k2,k3,k4]→Sx.rowAt mem i=some r→Sx.az β i r=some k→(β.a kw).map (·.block)=some k→False:=fun {i r k} hi hri hbi hbw=>by have:=hS.inj i (Yb _ hi) kw (by simp) _ _ k hri hw hbi hbw;subst this;exact hk hi
 have hwd:BO W (cy (β kc) (β kd) (kK β k0 k1 k2 k3 k4)) (β.a kw) ws.length ws:=Gz o.2 rfl (ai.refl _ _) fun k hk' hm'=>by
  rcases dY.1 hm' with rfl|rfl|h|h|h|h|h
  ·exact ne (by simp) hr.c sX hk'
  ·exact ne (by simp) hr.d rfl hk'
  ·exact ne (by simp) hr.p h hk'
  ·exact ne (by simp) hr.r h hk'
  ·exact ne (by simp) hr.l h hk'
  ·exact ne (by simp) hr.m h hk'
  ·exact ne (by simp) hr.i h hk'
 have hH:WV W (β kd) (β kc) (β.a kw) ws.length (β.c kw) st ws cf (kK β k0 k1 k2 k3 k4):=⟨⟨hB,hwd,dY.2 (.inr (.inl rfl)),hl,by omega,he,hz⟩,hat,hnd,nc⟩;show Calls prog 65 #[.pointer (some ⟨β kd,0,none⟩),.pointer (some ⟨β kc,0,none⟩),.bool was] W _;refine(PQ was hH).mono fun e w' ⟨s',he,hb',hcf,hn',hf',hc⟩=>?_;refine .inl ⟨fun p hp=>(by cases hp),aL β m (ey ws cf was st).1 s',Nk (a:=[]++[kc,kd,k0,k1,k2,k3,k4]) (D3 (X:=[]) (kx:=[]) (phi:=none) hr rfl (fun g hg=>(by cases hg)) he hcf ?_ hn' (fun k hk=>(by cases hk)) (fun k hk=>by simpa using hf' k hk) (by simpa using hc))⟩;show aw w' (β kd) 114 [(aL β m (ey ws cf was st).1 s').sl kw,.int .i64 ((ey ws cf was st).2.at_:Int),.int .i64 ((ey ws cf was st).2.e:Int)];have e1:(aL β m (ey ws cf was st).1 s').sl kw=.slice (β.a kw) ws.length (β.c kw):=by
  have h0:kw≠m:=by omega
  have h1:kw≠m+1:=by omega
  have h2:kw≠m+2:=by omega
  have h3:kw≠m+3:=by omega
  have h4:kw≠m+4:=by omega
  unfold Sx.Env.sl aL;simp only[h0,h1,h2,h3,h4,if_false];rw[o.1]
 rw[e1];exact hb'
set_option maxRecDepth 100000
open Go Go.RowKit Go.Extern.Stop Go.Stop Go.Extern _root_.Go.Proofs.Tryz
set_option maxRecDepth 100000
theorem FO(v:Value)(w:World):(ReflectliteType.typeOf #[.iface 25 v]).run prog w=.ok (.iface 242 (.agg #[(pt 9 25)])) w:=by kernel_rfl
theorem xy(w:World):((ReflectliteType.method fun t=>do Rtype.noPackHeld "Comparable" t;(fun a=>Xy a.comparable) <$> typeInfo t) #[.agg #[(pt 9 25)]]).run prog w=.ok (.bool true) w:=by kernel_rfl
theorem rG(v:Value)(w:World):(Go.method 430 242 v "Comparable").run prog w=.ok (274,v) w:=by kernel_rfl
theorem Vl(v:Value)(xT:TypeId)(w:World):(Instr.typeAssert (.iface 103 v) xT 257 true).run prog w=.ok (.tuple #[.nilIface,.bool false]) w:=run_typeAssert_lacksB underlying257 (by kernel_rfl) (by kernel_rfl) v xT w
theorem FQ(v:Value)(xT:TypeId)(w:World):(Instr.typeAssert (.iface 103 v) xT 249 true).run prog w=.ok (.tuple #[.iface 103 v,.bool true]) w:=run_typeAssert_hasB underlying249 (by kernel_rfl) v xT w
theorem yE(v:Value)(w:World):(Go.method 430 103 v "Unwrap").run prog w=.ok (267,v) w:=by kernel_rfl
set_option maxHeartbeats 1100000 in
theorem KT(N:Nat)(code:Int)(w:World)(h1:w.cell? ⟨N,0,none⟩=some (.int .i64 code)) :
  Calls prog 267 #[.pointer (some ⟨N,0,none⟩)] w fun e w'=>e=.returned (.iface 25 (.int .i64 code))∧w'=w:=by
 have hs:(prog.info? 105).map (·.size)=some 2:=by kernel_rfl
 obtain⟨j,hj,hjs⟩:=XR.1 hs;go_enter func267,ntmps267
 go_wp2
 go_ret
 exact⟨rfl,rfl⟩
set_option maxHeartbeats 4000000 in
theorem QL(N:Nat)(code:Int)(w:World)(h1:w.cell? ⟨N,0,none⟩=some (.int .i64 code)) :
  Calls prog 66 #[.iface 103 (.pointer (some ⟨N,0,none⟩)),.iface 25 (.int .i64 code)] w fun e w'=>e=.returned (.bool true)∧w'=w:=by
 have h8:=@run_callFunc_extern prog 139 _ ReflectliteType.typeOf func139 (by kernel_rfl) (by kernel_rfl) (by kernel_rfl) (by kernel_rfl);have h32:=@run_callFunc_extern prog 274 _ (ReflectliteType.method fun t=>do Rtype.noPackHeld "Comparable" t;pure (.bool (←typeInfo t).comparable)) func274 (by kernel_rfl) (by kernel_rfl) (by kernel_rfl) (by kernel_rfl);have tT:=FO;have cT:=xy;have mR:=rG;have nW:=Vl;have uW:=FQ;have mU:=yE;have hs:(prog.info? 105).map (·.size)=some 2:=by kernel_rfl
 obtain⟨j,hj,hjs⟩:=XR.1 hs;have heq:(binOp .eql 48 (.iface 25 (.int .i64 code)) (.iface 25 (.int .i64 code))).run prog w=.ok (.bool true) w:=by rw[Lib.run_eql_iface_int (P:=prog) w code code underlying48 (by kernel_rfl) underlying25];simp
 have hty:=run_eql_iface_types (P:=prog) 103 25 (.pointer (some ⟨N,0,none⟩)) (.int .i64 code) underlying48 (by decide) w;go_enter func66,ntmps66
 go_wp2
 refine wp_loop_rounds 2 ?_;rw[rounds_succ];have HU:=hid (KT N code w h1);go_wp2_with (go_at_call 267;refine HU.out.mono ?_;rintro e w2 ⟨rfl,rfl⟩)
 rw[rounds_succ];go_wp2
 go_ret
 exact⟨rfl,rfl⟩
set_option maxRecDepth 100000
open Go Go.RowKit Go.Lib Go.Sort _root_.Go.Proofs.Tryz
def tX(code place:Nat):List Value:=[.int .i64 (code:Int),.int .i64 (place:Int)]
theorem QM{b:Sx.bu}{mem:List Sx.Row}{N:Nat}{code place:Nat}(hk:mem[0]?=some ⟨105,.dG N (tX code place)⟩)(m:Nat)(W:World)(β:Sx.Env)(hS:Sx.fD b β W (Sx.rowAt mem) [0]) :
  Calls prog 66 (([.ml 103 0 0,.val (.iface 25 (.int .i64 (code:Int)))]:List Sx.SV).map (Sx.SV.den β)).toArray W (Sx.bK b β W (Sx.rowAt mem) m ⟨[0],[],[],[],.val (.bool true),none⟩):=by
 have hB2:aw W (β 0) 105 (tX code place):=(hS.held 0 (by simp) _ hk).2;exact(QL (β 0) (code:Int) W (hB2.cell_of rfl)).mono fun e w' ⟨he,hw⟩=>.inl ⟨fun p hp=>(by cases hp),β,Sx.ep (v:=.bool true) rfl rfl he (fun q hq=>by cases hq) (by rw[hw];exact ai.refl _ _)⟩
def WT(N code place:Nat)(l:List Sx.SV)(mem:List Sx.Row):Prop:=∃k:Nat,k=0∧l=[.val (.int .i64 (code:Int)),.val (.int .i64 (place:Int))]∧mem[k]?=some ⟨105,.dG N (tX code place)⟩
theorem SB(N code place:Nat)(w:World)(hlan:lz w)(h9:9≤N)(hb:aw w N 105 (tX code place)):Calls prog 24 #[.iface 103 (.pointer (some ⟨N,0,none⟩))] w (Sx.cN ⟨w,[N],fun _ _=>False⟩ (WT N code place)):=by
 have hR:Sx.Rows ⟨w,[N],fun _ _=>False⟩ (Sx.di [.cw N 105 (tX code place)]) w [⟨105,.dG N (tX code place)⟩]:=Sx.gI (w:=w) (S:=[N]) (PP:=fun _ _=>False) (G:=[.cw N 105 (tX code place)]) (fun q hq=>by rw[XD.1 hq];exact hb) (fun q hq k hk=>by rw[XD.1 hq]at hk;cases hk;simp) (by simp[Sx.lu.block]);have c9:=fun W β (hS:Sx.fD ⟨w,[N],fun _ _=>False⟩ β W (Sx.rowAt [⟨105,.dG N (tX code place)⟩,⟨103,.an [.pointer none]⟩]) [1])=>It (m:=2) (k:=1) (N:=0) hlan (fun k hk=>by rw[XD.1 hk];exact h9) rfl W β hS;have c22:=fun W β (hS:Sx.fD ⟨w,[N],fun _ _=>False⟩ β W (Sx.rowAt [⟨105,.dG N (tX code place)⟩,⟨103,.dK [.ptr 0 0]⟩]) [0])=>QM (N:=N) (code:=code) (place:=place) rfl 2 W β hS;have z0:WT N code place [.val (.int .i64 (code:Int)),.val (.int .i64 (place:Int))] [⟨105,.dG N (tX code place)⟩,⟨103,.dK [.ptr 0 0]⟩]:=⟨0,rfl,rfl,rfl⟩;have hh:Calls prog 24 (([.ml 103 0 0]:List Sx.SV).map (Sx.SV.den (Sx.di [.cw N 105 (tX code place)]))).toArray w (Sx.cN ⟨w,[N],fun _ _=>False⟩ (WT N code place)):=by refine Sx.bO (args:=[.ml 103 0 0]) hR [(9,.aB ⟨[1],[(1,⟨103,.dK [.ptr 0 0]⟩)],[],[],.val (.bool true),none⟩),(22,.aB ⟨[0],[],[],[],.val (.bool true),none⟩)] [] (by kernel_rfl) func24 rfl (bN rfl) rfl ?_;exact XC (by kernel_rfl) (Sx.t2 c9 c22 z0)
 exact hh
def K5(j code place:Nat):Sx.cS:=⟨[j],[(j,⟨105,.an (tX code place)⟩)],[],[],.val (.tuple #[.int .i64 (code:Int),.int .i64 (place:Int)]),none⟩
theorem yT{b:Sx.bu}{row:Nat→Option Sx.Row}{j m code place:Nat}(hlan:lz b.w)(h9:∀k∈b.S,9≤k)(hj:row j=some ⟨105,.an (tX code place)⟩)(W:World)(β:Sx.Env)(hS:Sx.fD b β W row [j]) :
  Calls prog 24 (([.ml 103 j 0]:List Sx.SV).map (Sx.SV.den β)).toArray W (Sx.bK b β W row m (K5 j code place)):=by
 have hB:aw W (β j) 105 (tX code place):=hS.held j (by simp) _ hj;have h9':9≤β j:=by
  rcases hS.new j (by simp) _ (β j) hj rfl with h|h
  ·exact h9 _ h
  ·have:=hlan.yA.low;omega
 refine(SB (β j) code place W (hlan.aJ hS.aJ h9) h9' hB).mono fun en w' hp=>?_;rcases hp with⟨β',l,mem,⟨k,rfl,rfl,hk⟩,he,hR⟩ | ⟨_,_,hf,_⟩
 ·have r:=hR.held 0 _ hk
  have e:β' 0=β j:=r.1;refine .inl ⟨fun p hp=>(by cases hp),β,Sx.ep (v:=.tuple #[.int .i64 (code:Int),.int .i64 (place:Int)]) rfl rfl he (fun q hq=>?_) (hR.aJ.mono fun x hx=>.inl ?_)⟩
  ·have hq:q=(j,⟨105,.an (tX code place)⟩):=XD.1 hq
   subst hq;show aw w' (β j) 105 (tX code place);rw[←e];exact r.2
  ·show x∈([j]++[]).filterMap (Sx.cQ β row)
   refine XX.2 ⟨j,by simp,?_⟩;unfold Sx.cQ;rw[hj,XD.1 hx];rfl
 ·exact hf.elim
open Go Go.RowKit Go.Lib Go.Sort
inductive Kd where
 |b
 |i (q:IntKind)
 |s
def DF(P:Program)(f:TypeId→Option (List Kd)):Nat→List Field→Option (List Kd)
 |_,[]=>some []
 |off,x::fs=>match XG x.offset off&&x.name != "_" with
  |true=>match f x.type with
   |some ks=>match XG ks.length (P.cellsOf x.type)with
    |true=>match DF P f (off+ks.length) fs with
     |some r=>some (ks++r)
     |none=>none
    |false=>none
   |none=>none
  |false=>none
def AL:Nat→List Kd→List Kd
 | 0,_=>[]
 |n+1,ks=>ks++AL n ks
def j6(P:Program):Nat→TypeId→Option (List Kd)
 | 0,_=>none
 |d+1,t=>match P.underlying t with
  |some .bool=>some [.b]
  |some (.int q)=>some [.i q]
  |some .string=>some [.s]
  |some (.array n e)=>match j6 P d e with
   |some ks=>match XG ks.length (P.cellsOf e)&&XG (n*ks.length) (P.cellsOf t)with
    |true=>some (AL n ks)
    |false=>none
   |none=>none
  |some (.struct fs)=>match DF P (j6 P d) 0 fs.toList with
   |some ks=>match XG ks.length (P.cellsOf t)with
    |true=>some ks
    |false=>none
   |none=>none
  |_=>none
def R9:Kd→Value→Prop
 |.b,.bool _=>True
 |.i q,.int q' n=>q'=q∧(Lit.int q n).wf=true
 |.s,.string s=>s.size≤maxLen
 |_,_=>False
def rA:Value→Lit
 |.bool b=>.bool b
 |.int q n=>.int q n
 |.string s=>.string s.data.toList
 |_=>.bool false
def cY:List Kd→List Value→Prop
 | [],[]=>True
 |k::ks,v::vs=>R9 k v∧cY ks vs
 |_,_=>False
theorem cY.len:∀{ks:List Kd} {vs:List Value},cY ks vs→vs.length=ks.length
 | [],[],_=>rfl
 |_::_,_::_,h=>by simp only[XL,h.2.len]
 | [],_::_,h=>h.elim
 |_::_,[],h=>h.elim
theorem cY.split:∀{k1 k2:List Kd} {vs:List Value},cY (k1++k2) vs→cY k1 (vs.take k1.length)∧cY k2 (vs.drop k1.length)
 | [],_,_,h=>⟨by simp[cY],h⟩
 |_::_,_,_::_,h=>by have:=cY.split (k1:=_) (k2:=_) h.2;exact⟨⟨h.1,this.1⟩,this.2⟩
 |_::_,_,[],h=>h.elim
theorem cY.app:∀{k1 k2:List Kd} {v1 v2:List Value},cY k1 v1→cY k2 v2→cY (k1++k2) (v1++v2)
 | [],_,[],_,_,h=>h
 |_::_,_,_::_,_,h,h2=>⟨h.1,h.2.app h2⟩
 | [],_,_::_,_,h,_=>h.elim
 |_::_,_,[],_,h,_=>h.elim
theorem Ql{k:Kd}{a b:Value}(ha:R9 k a)(hb:R9 k b)(h:rA a=rA b):a=b:=by
 cases k with
 |b=>cases a<;>first|exact ha.elim | (cases b<;>first|exact hb.elim | (injection h with h;subst h;rfl))
 |i q=>cases a<;>first|exact ha.elim | (cases b<;>first|exact hb.elim | (injection h with h1 h2;subst h1 h2;rfl))
 |s=>
  cases a<;>first|exact ha.elim|skip
  cases b<;>first|exact hb.elim|skip
  rename_i s t;injection h with h;have:s.data=t.data:=Array.toList_inj.1 h;cases s;cases t;simp only at this;rw[this]
theorem cY.inj:∀{ks:List Kd} {al bs:List Value},cY ks al→cY ks bs→al.map rA=bs.map rA→al=bs
 | [],[],[],_,_,_=>rfl
 |_::_,_::_,_::_,ha,hb,h=>by rw[Yn,Yn]at h;injection h with h1 h2;rw[Ql ha.1 hb.1 h1,ha.2.inj hb.2 h2]
 | [],_::_,_,ha,_,_=>ha.elim
 |_::_,[],_,ha,_,_=>ha.elim
 | [],[],_::_,_,hb,_=>hb.elim
 |_::_,_::_,[],_,hb,_=>hb.elim
theorem oS(ks:List Kd):∀n,(AL n ks).length=n*ks.length
 | 0=>by simp[AL]
 |n+1=>by rw[AL,XB,oS ks n,X9];omega
section
variable{P:Program}
theorem uP{d:Nat}(ih:∀t ks cs,j6 P d t=some ks→cY ks cs→P.keyLits d t cs=some (cs.map rA))(cs:List Value):∀(fs:List Field) (off:Nat) (ks:List Kd),DF P (j6 P d) off fs=some ks→cY ks (cs.drop off)→
  (∃l,fs.mapM (fun f=>P.keyLits d f.type ((cs.drop f.offset).take (P.cellsOf f.type)))=some l∧l.flatten=(cs.drop off).map rA)∧fs.all (fun f=>f.name != "_")=true
 | [],off,ks,h,ha=>by
  simp only[DF,X4.injEq]at h;subst h;refine⟨⟨[],rfl,?_⟩,rfl⟩;cases hd:cs.drop off with
  |nil=>rfl
  |cons a l=>rw[hd]at ha;exact ha.elim
 |x::fs,off,ks,h,ha=>by
  unfold DF at h;split at h
  ·rename_i hb
   rw[XP]at hb;have ho:x.offset=off:=XA hb.1;split at h
   ·rename_i kx hx
    split at h
    ·rename_i hl
     have hl:kx.length=P.cellsOf x.type:=XA hl;split at h
     ·rename_i r hr
      injection h with h;subst h;obtain⟨h1,h2⟩:=ha.split;rw[XW]at h2;obtain⟨⟨l,e1,e2⟩,e3⟩:=uP ih cs fs (off+kx.length) r hr h2;have hk:=ih _ _ _ hx h1;refine⟨⟨((cs.drop off).take kx.length).map rA::l,?_,?_⟩,?_⟩
      ·rw[Ym,ho,←hl,hk]
       show(do let al ←fs.mapM (fun(f:Field)=>P.keyLits d f.type ((cs.drop f.offset).take (P.cellsOf f.type)));pure (((cs.drop off).take kx.length).map rA::al))=_;rw[e1];rfl
      ·rw[Yg,e2,←XW,←Yj,X8]
      ·rw[List.all_cons,e3,hb.2];rfl
     ·cases h
    ·cases h
   ·cases h
  ·cases h
theorem xx{d e:Nat}(ih:∀cs,∀ks,j6 P d e=some ks→cY ks cs→P.keyLits d e cs=some (cs.map rA)){ke:List Kd}(he:j6 P d e=some ke)(hl:ke.length=P.cellsOf e)(cs:List Value):∀(n k:Nat),cY (AL n ke) (cs.drop (k*P.cellsOf e))→
  ∃l,((Yu k n).mapM fun i=>P.keyLits d e ((cs.drop (i*P.cellsOf e)).take (P.cellsOf e)))=some l∧l.flatten=(cs.drop (k*P.cellsOf e)).map rA
 | 0,k,ha=>by
  refine⟨[],rfl,?_⟩;cases hd:cs.drop (k*P.cellsOf e)with
  |nil=>rfl
  |cons a l=>rw[hd]at ha;exact ha.elim
 |n+1,k,ha=>by
  obtain⟨h1,h2⟩:=ha.split;rw[XW,hl,show k*P.cellsOf e+P.cellsOf e=(k+1)*P.cellsOf e by rw[X9]]at h2;obtain⟨l,e1,e2⟩:=xx ih he hl cs n (k+1) h2;have hk:=ih _ _ he h1;refine⟨((cs.drop (k*P.cellsOf e)).take ke.length).map rA::l,?_,?_⟩
  ·rw[List.range'_succ,Ym,←hl]
   rw[hl]at hk ⊢;rw[hk];show(do let al ←(Yu (k+1) n).mapM (fun i=>P.keyLits d e ((cs.drop (i*P.cellsOf e)).take (P.cellsOf e)));pure (((cs.drop (k*P.cellsOf e)).take (P.cellsOf e)).map rA::al))=_;rw[e1];rfl
  ·rw[Yg,e2,hl,show(k+1)*P.cellsOf e=k*P.cellsOf e+P.cellsOf e by rw[X9],←XW,←Yj,X8]
theorem ki:∀(d:Nat) (t:TypeId) (ks:List Kd) (cs:List Value),j6 P d t=some ks→cY ks cs→P.keyLits d t cs=some (cs.map rA)
 | 0,_,_,_,h,_=>by cases h
 |d+1,t,ks,cs,h,ha=>by
  unfold j6 at h;split at h
  ·rename_i hu
   injection h with h;subst h;match cs,ha with
   | [.bool b],_=>unfold Program.keyLits;rw[hu];rfl
  ·rename_i q hu
   injection h with h;subst h;match cs,ha with
   | [.int q' n],ha=>have hq:q'=q∧(Lit.int q n).wf=true:=ha.1;unfold Program.keyLits;rw[hu];show(if q'=q∧(Lit.int q n).wf=true then some [Lit.int q n] else none)=_;rw[if_pos hq,hq.1];rfl
  ·rename_i hu
   injection h with h;subst h;match cs,ha with
   | [.string s],ha=>have hs:s.size≤maxLen:=ha.1;unfold Program.keyLits;rw[hu];show(if s.size≤maxLen then some [Lit.string s.data.toList] else none)=_;rw[if_pos hs];rfl
  ·rename_i n e hu
   split at h
   ·rename_i ke he
    split at h
    ·rename_i hb
     injection h with h;subst h;rw[XP]at hb;have hl:ke.length=P.cellsOf e:=XA hb.1;have ht:n*ke.length=P.cellsOf t:=XA hb.2;have hlen:cs.length=P.cellsOf t:=by rw[ha.len,oS,ht]
     obtain⟨l,e1,e2⟩:=xx (fun c k hk hc=>ki d e k c hk hc) he hl cs n 0 (by rw[Ys,XN];exact ha);rw[Ys,XN]at e2;unfold Program.keyLits;rw[hu];show(if cs.length=P.cellsOf t then((XZ n).mapM fun i=>P.keyLits d e ((cs.drop (i*P.cellsOf e)).take (P.cellsOf e))).map Yq else none)=_;rw[if_pos hlen,List.range_eq_range',e1,←e2];rfl
    ·cases h
   ·cases h
  ·rename_i fs hu
   split at h
   ·rename_i kf hf
    split at h
    ·rename_i hb
     injection h with h;subst h;have ht:kf.length=P.cellsOf t:=XA hb;have hlen:cs.length=P.cellsOf t:=by rw[ha.len,ht]
     obtain⟨⟨l,e1,e2⟩,e3⟩:=uP (fun t k c=>ki d t k c) cs fs.toList 0 kf hf (by rw[XN];exact ha);rw[XN]at e2;unfold Program.keyLits;rw[hu];show(if cs.length=P.cellsOf t∧fs.all (·.name != "_")=true then(fs.toList.mapM fun f=>P.keyLits d f.type ((cs.drop f.offset).take (P.cellsOf f.type))).map Yq else none)=_;rw[if_pos ⟨hlen,by rw[←Array.all_toList];exact e3⟩,e1,←e2];rfl
    ·cases h
   ·cases h
  ·cases h
def Kx(P:Program)(t:TypeId):Bool:=match P.underlying t with
 |some (.struct _)=>true
 |some (.array _ _)=>true
 |_=>false
theorem Nt{d:Nat}{t:TypeId}{ks:List Kd}(h:j6 P d t=some ks)(ha:Kx P t=true):ks.length=P.cellsOf t:=by
 cases d with
 |zero=>cases h
 |succ d=>
  unfold j6 at h;unfold Kx at ha;split at h
  ·rename_i hu;rw[hu]at ha;cases ha
  ·rename_i hu;rw[hu]at ha;cases ha
  ·rename_i hu;rw[hu]at ha;cases ha
  ·split at h
   ·split at h
    ·rename_i hb
     injection h with h;subst h;rw[XP]at hb;rw[oS];exact XA hb.2
    ·cases h
   ·cases h
  ·split at h
   ·split at h
    ·rename_i hb
     injection h with h;subst h;exact XA hb
    ·cases h
   ·cases h
  ·cases h
theorem xJ{t:TypeId}{cs:List Value}(ha:Kx P t=true)(hl:cs.length=P.cellsOf t):(Value.agg cs.toArray).formed P t=true:=by
 unfold Kx at ha;unfold Value.formed;split at ha
 ·rename_i h;rw[h];simp[hl]
 ·rename_i h;rw[h];simp[hl]
 ·cases ha
theorem NA{t:TypeId}{ks:List Kd}{al bs:List Value}(W:World)(hk:P.keyTypeAt 6 t=true)(hf:j6 P 6 t=some ks)(hg:Kx P t=true)(ha:cY ks al)(hb:cY ks bs) :
  ∃r,(Op.equalIn 10000 t (.agg al.toArray) (.agg bs.toArray)).run P W=.ok r W∧(r=true↔al=bs):=by
 have hl:=Nt hf hg;obtain⟨r,h1,h2⟩:=run_equalIn_deep (P:=P) 9994 6 t hk W 6 6 (.agg al.toArray) (.agg bs.toArray) (al.map rA) (bs.map rA) (xJ hg (by rw[ha.len,hl])) (xJ hg (by rw[hb.len,hl])) (ki 6 t ks al hf ha) (ki 6 t ks bs hf hb);refine⟨r,h1,h2.trans ⟨fun h=>ha.inj hb h,fun h=>by rw[h]⟩⟩
theorem Bz{t:TypeId}{ks:List Kd}{al bs:List Value}{r:Bool}(x y:Operand)(hk:P.keyTypeAt 6 t=true)(hf:j6 P 6 t=some ks)(hg:Kx P t=true)(hq:P.eqGuardType P.depth t=false)(ha:cY ks al)(hb:cY ks bs)(hr:r=true↔al=bs)(W:World) :
  (do eqGuard .eql t x y (.agg al.toArray) (.agg bs.toArray);binOp .eql t (.agg al.toArray) (.agg bs.toArray):Sem Value).run P W=.ok (.bool r) W∧
  (do eqGuard .neq t x y (.agg al.toArray) (.agg bs.toArray);binOp .neq t (.agg al.toArray) (.agg bs.toArray):Sem Value).run P W=.ok (.bool (!r)) W:=by
 obtain⟨q,h1,h2⟩:=NA W hk hf hg ha hb;have hqr:q=r:=by rw[XH,h2,hr]
 subst hqr;have h1:(Op.equal t (.agg al.toArray) (.agg bs.toArray)).run P W=.ok q W:=h1;have g1:(eqGuard .eql t x y (.agg al.toArray) (.agg bs.toArray)).run P W=.ok () W:=by simp[eqGuard,hq]
 have g2:(eqGuard .neq t x y (.agg al.toArray) (.agg bs.toArray)).run P W=.ok () W:=by simp[eqGuard,hq]
 constructor
 ·rw[X3,g1,Result.andThen_ok]
  show(do pure (.bool (←Op.equal t (.agg al.toArray) (.agg bs.toArray))):Sem Value).run P W=_;rw[X3,h1];rfl
 ·rw[X3,g2,Result.andThen_ok]
  show(do pure (.bool (!(←Op.equal t (.agg al.toArray) (.agg bs.toArray)))):Sem Value).run P W=_;rw[X3,h1];rfl
end
open Go Go.RowKit Go.Lib Go.Sort _root_.Go.Proofs.Tryz
def kP:List Kd:=.b::(AL 16 [.i .u8]++[.i .i64])
def kM:List Kd:=[.i .u8,.i .u16,.i .u16]++(kP++(kP++[.i .u8,.i .u16,.i .u16,.i .u16,.i .u16]))
def kR:List Kd:=kP++[.i .i64]
def kL:List Kd:=.s::(kM++[.i .i64,.i .i64,.s,.s])
def W5:List Kd:=[.s,.i .u64,.i .u64,.i .u64]
def W4:List Kd:=[.s,.i .i64,.i .i64]
theorem Q4:j6 prog 6 118=some kR:=by kernel_rfl
theorem TD:j6 prog 6 81=some kL:=by kernel_rfl
theorem Q3:j6 prog 6 122=some W5:=by kernel_rfl
theorem Q2:j6 prog 6 124=some W4:=by kernel_rfl
theorem Mv{x:Nat}(h:x≤255):R9 (.i .u8) (.int .u8 (x:Int)):=⟨rfl,by simp[Lit.wf,X1,X2,XU,XY];omega⟩
theorem tH{x:Nat}(h:x≤65535):R9 (.i .u16) (.int .u16 (x:Int)):=⟨rfl,by simp[Lit.wf,X1,X2,XU,XY];omega⟩
theorem Fm{x:Nat}(h:x≤18446744073709551615):R9 (.i .u64) (.int .u64 (x:Int)):=⟨rfl,by simp[Lit.wf,X1,X2,XU,XY];omega⟩
theorem tJ{x:Int}(h : -9223372036854775808≤x∧x≤9223372036854775807):R9 (.i .i64) (.int .i64 x):=⟨rfl,by simp[Lit.wf,X1,X2,XU,XY]; omega⟩
theorem Mw{s:Bs}(h:s.length≤maxLen):R9 .s (.string ⟨s.toArray⟩):=by show(ByteArray.mk s.toArray).size≤maxLen;simpa[ByteArray.size]using h
theorem CL(f:Nat→Nat)(hf:∀j,f j≤255):∀l:List Nat,cY (AL l.length [.i .u8]) (l.map fun j=>.int .u8 (f j:Int))
 | []=>trivial
 |j::l=>⟨Mv (hf j),CL f hf l⟩
theorem tK{p:Px}(hk : -9223372036854775808≤p.k∧p.k≤9223372036854775807):cY kP p.cells:=by show cY (.b::(AL 16 [.i .u8]++[.i .i64])) (.bool p.v::((XZ 16).map (fun j=>XF .u8 (ah p.n j:Int))++[.int .i64 p.k]));refine⟨trivial,cY.app ?_ ⟨tJ hk,trivial⟩⟩;have:=CL (ah p.n) (fun j=>by have:=ba p.n j;omega) (XZ 16);simpa using this
theorem Ju{m:Mt}(h:m.Wf):cY kM m.cells:=by unfold kM Mt.cells;refine cY.app ⟨Mv (by have:=h.asks;omega),tH h.fU.1,tH h.fU.2,trivial⟩ (cY.app (tK h.sk) (cY.app (tK h.dk) ⟨Mv h.pr,tH h.sp.1,tH h.sp.2,tH h.dp.1,tH h.dp.2,trivial⟩))
def qT(x:Int):Prop := -9223372036854775808≤x∧x≤9223372036854775807
structure Rt.Wf(r:Rt):Prop where
 n:r.pf.n < 2^128
 k:qT r.pf.k
 o:qT r.out
structure Me.Wf(m:Me):Prop where
 s:m.name.length≤maxLen
 a:m.num≤18446744073709551615
 b:m.den≤18446744073709551615
 c:m.qR≤18446744073709551615
structure Mi.Wf(m:Mi):Prop where
 s:m.name.length≤maxLen
 o:qT m.out
 r:qT m.room
structure Rl.Wf(r:Rl):Prop where
 s:r.name.length≤maxLen
 m:r.mt.Wf
 a:qT r.act
 o:qT r.out
 e:r.dx.length≤maxLen
 i:r.cA.length≤maxLen
theorem zw{r:Rt}(h:r.Wf):cY kR r.cells:=cY.app (tK h.k) ⟨tJ h.o,trivial⟩
theorem wU{m:Me}(h:m.Wf):cY W5 m.cells:=⟨Mw h.s,Fm h.a,Fm h.b,Fm h.c,trivial⟩
theorem wT{m:Mi}(h:m.Wf):cY W4 m.cells:=⟨Mw h.s,tJ h.o,tJ h.r,trivial⟩
theorem zx{r:Rl}(h:r.Wf):cY kL r.cells:=⟨Mw h.s,cY.app (Ju h.m) ⟨tJ h.a,tJ h.o,Mw h.e,Mw h.i,trivial⟩⟩
theorem Px.a6(p:Px):p.cells.length=18:=by simp[Px.cells,dt,cD,ax]
theorem int_inj{q:IntKind}{a b:Nat}(h:XF q (a:Int)=.int q (b:Int)):a=b:=by injection h with _ h;omega
theorem str_inj{a b:Bs}(h:Value.string ⟨a.toArray⟩=.string ⟨b.toArray⟩):a=b:=by injection h with h;injection h with h;simpa using h
theorem Px.dH{p q:Px}(hp:p.n < 2^128)(hq:q.n < 2^128)(h:p.cells=q.cells):p=q:=by
 have h:Xy p.v::((XZ 16).map (fun j=>XF .u8 (ah p.n j:Int))++[.int .i64 p.k])=.bool q.v::((XZ 16).map (fun j=>XF .u8 (ah q.n j:Int))++[.int .i64 q.k]):=h;injection h with h1 h2;injection h1 with h1;obtain⟨h2,h3⟩:=XM h2 (by simp);injection h3 with h3 _;injection h3 with _ h3;have hb:p.n=q.n:=lk hp hq fun i hi=>by rw[List.map_inj_left]at h2;exact int_inj (h2 i (by simpa using hi))
 cases p;cases q;simp_all
theorem Qt{a b:Mt}(h0:a.asks=b.asks)(h1:a.fU=b.fU)(h2:a.src=b.src)(h3:a.dst=b.dst)(h4:a.bw=b.bw)(h5:a.sp=b.sp)(h6:a.dp=b.dp):a=b:=by cases a;cases b;simp_all
theorem Mt.dH{a b:Mt}(ha:a.Wf)(hb:b.Wf)(h:a.cells=b.cells):a=b:=by unfold Mt.cells at h;obtain⟨h1,h2⟩:=XM h (by simp);obtain⟨h3,h4⟩:=XM h2 (by rw[Px.a6,Px.a6]);obtain⟨h5,h6⟩:=XM h4 (by rw[Px.a6,Px.a6]);injection h1 with e0 h1;injection h1 with e1 h1;injection h1 with e2 _;injection h6 with e3 h6;injection h6 with e4 h6;injection h6 with e5 h6;injection h6 with e6 h6;injection h6 with e7 _;exact Qt (int_inj e0) (Prod.ext (int_inj e1) (int_inj e2)) (Px.dH ha.sn hb.sn h3) (Px.dH ha.dn hb.dn h5) (int_inj e3) (Prod.ext (int_inj e4) (int_inj e5)) (Prod.ext (int_inj e6) (int_inj e7))
theorem Rt.dH{a b:Rt}(ha:a.Wf)(hb:b.Wf)(h:a.cells=b.cells):a=b:=by obtain⟨h1,h2⟩:=XM h (by rw[Px.a6,Px.a6]);injection h2 with h2 _;injection h2 with _ h2;have:=Px.dH ha.n hb.n h1;cases a;cases b;simp_all
theorem Me.dH{a b:Me}(h:a.cells=b.cells):a=b:=by injection h with h1 h;injection h with h2 h;injection h with h3 h;injection h with h4 _;have e1:=str_inj h1;have e2:=int_inj h2;have e3:=int_inj h3;have e4:=int_inj h4;cases a;cases b;simp_all
theorem Mi.dH{a b:Mi}(h:a.cells=b.cells):a=b:=by injection h with h1 h;injection h with h2 h;injection h with h3 _;have e1:=str_inj h1;injection h2 with _ h2;injection h3 with _ h3;cases a;cases b;simp_all
theorem Mt.a6(m:Mt):m.cells.length=44:=by unfold Mt.cells;simp only[XB,XL,Yk,Px.a6]
theorem Rl.dH{a b:Rl}(ha:a.Wf)(hb:b.Wf)(h:a.cells=b.cells):a=b:=by injection h with h1 h;obtain⟨h2,h⟩:=XM h (by rw[Mt.a6,Mt.a6]);injection h with h3 h;injection h with h4 h;injection h with h5 h;injection h with h6 _;have e1:=str_inj h1;have e2:=Mt.dH ha.m hb.m h2;injection h3 with _ h3;injection h4 with _ h4;have e5:=str_inj h5;have e6:=str_inj h6;cases a;cases b;simp_all
open Classical in
noncomputable def fx{α:Type}(a b:α):Bool:=decide (a=b)
theorem cH{α:Type}(a b:α):fx a b=true↔a=b:=by unfold fx;simp
theorem LA(x y:Operand){a b:Rt}(ha:a.Wf)(hb:b.Wf)(W:World):(do eqGuard .neq 118 x y (.agg a.cells.toArray) (.agg b.cells.toArray);binOp .neq 118 (.agg a.cells.toArray) (.agg b.cells.toArray):Sem Value).run prog W=.ok (.bool (!fx a b)) W:=
 (Bz x y (by kernel_rfl) Q4 (by kernel_rfl) (by kernel_rfl) (zw ha) (zw hb) ((cH a b).trans ⟨fun h=>by rw[h],Rt.dH ha hb⟩) W).2
theorem MJ(x y:Operand){a b:Me}(ha:a.Wf)(hb:b.Wf)(W:World):(do eqGuard .neq 122 x y (.agg a.cells.toArray) (.agg b.cells.toArray);binOp .neq 122 (.agg a.cells.toArray) (.agg b.cells.toArray):Sem Value).run prog W=.ok (.bool (!fx a b)) W:=
 (Bz x y (by kernel_rfl) Q3 (by kernel_rfl) (by kernel_rfl) (wU ha) (wU hb) ((cH a b).trans ⟨fun h=>by rw[h],Me.dH⟩) W).2
theorem MH(x y:Operand){a b:Mi}(ha:a.Wf)(hb:b.Wf)(W:World):(do eqGuard .neq 124 x y (.agg a.cells.toArray) (.agg b.cells.toArray);binOp .neq 124 (.agg a.cells.toArray) (.agg b.cells.toArray):Sem Value).run prog W=.ok (.bool (!fx a b)) W:=
 (Bz x y (by kernel_rfl) Q2 (by kernel_rfl) (by kernel_rfl) (wT ha) (wT hb) ((cH a b).trans ⟨fun h=>by rw[h],Mi.dH⟩) W).2
theorem LQ(x y:Operand){a b:Rl}(ha:a.Wf)(hb:b.Wf)(W:World):(do eqGuard .neq 81 x y (.agg a.cells.toArray) (.agg b.cells.toArray);binOp .neq 81 (.agg a.cells.toArray) (.agg b.cells.toArray):Sem Value).run prog W=.ok (.bool (!fx a b)) W:=
 (Bz x y (by kernel_rfl) TD (by kernel_rfl) (by kernel_rfl) (zx ha) (zx hb) ((cH a b).trans ⟨fun h=>by rw[h],Rl.dH ha hb⟩) W).2
set_option maxRecDepth 100000
open Go Go.RowKit Go.Lib Go.Sort _root_.Go.Proofs.Tryz
def KE(ws:List Bs)(l:List Sx.SV)(mem:List Sx.Row):Prop:=(ws=[]∧l=[.val (.slice none 0 0)])∨∃k,ws≠[]∧l=[.oI k 0 ws.length ws.length]∧mem[k]?=some ⟨9,.an (strs ws)⟩
def lW(ws:List Bs)(w:World)(e:Ending)(w':World):Prop:=ai [] w w'∧((ws=[]∧e=.returned (.slice none 0 0))∨(ws≠[]∧∃b,w.heap.size≤b∧e=.returned (.slice (some ⟨b,0,none⟩) ws.length ws.length)∧aw w' b 9 (strs ws)))
theorem lW.iL{ws:List Bs}{w:World}{en:Ending}{w':World}(h:Sx.cN ⟨w,[],fun _ _=>False⟩ (KE ws) en w'):lW ws w en w':=by
 rcases h with⟨β,l,mem,⟨h0,rfl⟩ | ⟨k,h0,rfl,hk⟩,he,hR⟩ | ⟨_,_,hf,_⟩
 ·exact⟨hR.aJ,.inl ⟨h0,he⟩⟩
 ·have r:=hR.held k _ hk
  have hn:=hR.new k _ (β k) hk rfl;refine⟨hR.aJ,.inr ⟨h0,β k,?_,he,r⟩⟩;rcases hn with h|h
  ·cases h
  ·exact h
 ·exact hf.elim
theorem jw(w:World):Sx.Rows ⟨w,[],fun _ _=>False⟩ (Sx.di []) w []:=Sx.gI (w:=w) (S:=[]) (PP:=fun _ _=>False) (G:=[]) (fun q hq=>by cases hq) (fun q hq=>by cases hq) (by simp)
theorem Er(act out:Int)(h0 : -9223372036854775808≤out)(h1:out≤9223372036854775807)(w:World)(hl:eF w):Calls prog 75 #[.int .i64 act,.int .i64 out] w (lW (bp act out) w):=by
 by_cases a1:act=1
 ·have c7:Xy (act==1)=.bool true:=rY (by rw[a1];rfl)
  rw[show bp act out=[bZ] by unfold bp;rw[if_pos a1]];have z0:KE [bZ] [.oI 0 0 1 1] [⟨9,.an [ae bZ]⟩]:=.inr ⟨0,by simp,rfl,rfl⟩;refine(Sx.bO (args:=[.val (.int .i64 act),.val (.int .i64 out)]) (jw w) [ao 7 true] [] (by kernel_rfl) func75 rfl (bN rfl) rfl ?_).mono fun en w' hp=>lW.iL hp;exact XC (by kernel_rfl) (Xz c7 z0)
 have c7:Xy (act==1)=.bool false:=qQ (beq_eq_false_iff_ne.2 a1);by_cases a2:act=2
 ·have c10:Xy (act==2)=.bool true:=rY (by rw[a2];rfl)
  rw[show bp act out=[jb] by unfold bp;rw[if_neg a1,if_pos a2]];have z0:KE [jb] [.oI 0 0 1 1] [⟨9,.an [ae jb]⟩]:=.inr ⟨0,by simp,rfl,rfl⟩;refine(Sx.bO (args:=[.val (.int .i64 act),.val (.int .i64 out)]) (jw w) [ao 7 false,ao 10 true] [] (by kernel_rfl) func75 rfl (bN rfl) rfl ?_).mono fun en w' hp=>lW.iL hp;exact XC (by kernel_rfl) (Sx.t2 c7 c10 z0)
 have c10:Xy (act==2)=.bool false:=qQ (beq_eq_false_iff_ne.2 a2);by_cases a3:act=3
 ·have c13:Xy (act==3)=.bool true:=rY (by rw[a3];rfl)
  rw[show bp act out=[mj,cW out] by unfold bp;rw[if_neg a1,if_neg a2,if_pos a3]];have c15:=fun W (hW:ai [] w W)=>py out h0 h1 W (hl.dO hW);have z0:KE [mj,cW out] [.oI 0 0 2 2] [⟨9,.an [ae mj,ae (cW out)]⟩]:=.inr ⟨0,by simp,rfl,rfl⟩;refine(Sx.bO (args:=[.val (.int .i64 act),.val (.int .i64 out)]) (jw w) [ao 7 false,ao 10 false,ao 13 true,(15,.call (ae (cW out)))] [] (by kernel_rfl) func75 rfl (bN rfl) rfl ?_).mono fun en w' hp=>lW.iL hp;exact XC (by kernel_rfl) (Sx.t4 c7 c10 c13 c15 z0)
 have c13:Xy (act==3)=.bool false:=qQ (beq_eq_false_iff_ne.2 a3);by_cases a4:act=4
 ·have c18:Xy (act==4)=.bool true:=rY (by rw[a4];rfl)
  rw[show bp act out=[eC] by unfold bp;rw[if_neg a1,if_neg a2,if_neg a3,if_pos a4]];have z0:KE [eC] [.oI 0 0 1 1] [⟨9,.an [ae eC]⟩]:=.inr ⟨0,by simp,rfl,rfl⟩;refine(Sx.bO (args:=[.val (.int .i64 act),.val (.int .i64 out)]) (jw w) [ao 7 false,ao 10 false,ao 13 false,ao 18 true] [] (by kernel_rfl) func75 rfl (bN rfl) rfl ?_).mono fun en w' hp=>lW.iL hp;exact XC (by kernel_rfl) (Sx.t4 c7 c10 c13 c18 z0)
 have c18:Xy (act==4)=.bool false:=qQ (beq_eq_false_iff_ne.2 a4);rw[show bp act out=[] by unfold bp;rw[if_neg a1,if_neg a2,if_neg a3,if_neg a4]];have z0:KE [] [.val (.slice none 0 0)] []:=.inl ⟨rfl,rfl⟩;refine(Sx.bO (args:=[.val (.int .i64 act),.val (.int .i64 out)]) (jw w) [ao 7 false,ao 10 false,ao 13 false,ao 18 false] [] (by kernel_rfl) func75 rfl (bN rfl) rfl ?_).mono fun en w' hp=>lW.iL hp;exact XC (by kernel_rfl) (Sx.t4 c7 c10 c13 c18 z0)
theorem BM(ws:List Bs)(n m:Nat)(hm:ws.length=m)(hn:n+m≤1000):True∧(strs ws).length=m*1∧(∀u∈strs ws,u.oneCell'=true)∧n+m≤maxLen∧(n+m)*16≤140737488355328:=by refine⟨trivial,by rw[sb,hm,X6],fun u hu=>?_,by unfold maxLen;omega,by omega⟩;obtain⟨l,_,rfl⟩:=Yp.1 hu;rfl
theorem Et{b:Sx.bu}{act out:Int}(ha:bp act out=[])(h0 : -9223372036854775808≤out)(h1:out≤9223372036854775807)(hl:∀W,ai b.S b.w W→eF W)(W:World)(hW:ai b.S b.w W):Calls prog 75 #[.int .i64 act,.int .i64 out] W (Rn W (.slice none 0 0)) :=
 (Er act out h0 h1 W (hl W hW)).mono fun en w' ⟨hc,h⟩=>by
  rcases h with⟨_,he⟩ | ⟨hne,_⟩
  ·exact⟨he,hc⟩
  ·exact absurd ha hne
def Ov(m n:Nat)(cs:List Value):Sx.cS:=⟨[],[],[],[⟨9,.an cs⟩],.oI m 0 n n,none⟩
theorem Es{b:Sx.bu}{row:Nat→Option Sx.Row}{m:Nat}{act out:Int}{ws:List Bs}(ha:bp act out=ws)(hne:ws≠[])(h0 : -9223372036854775808≤out)(h1:out≤9223372036854775807)(hl:∀W,ai b.S b.w W→eF W)(W:World)(β:Sx.Env)(hS:Sx.fD b β W row []) :
  Calls prog 75 (([.val (.int .i64 act),.val (.int .i64 out)]:List Sx.SV).map (Sx.SV.den β)).toArray W (Sx.bK b β W row m (Ov m ws.length (strs ws))):=by
 refine(Er act out h0 h1 W (hl W hS.aJ)).mono fun en w' ⟨hc,h⟩=>?_;rw[ha]at h;rcases h with⟨he,_⟩ | ⟨_,k,hk,he,hb⟩
 ·exact absurd he hne
 ·refine .inl ⟨fun p hp=>(by cases hp),β.dW m k,fun i hi=>⟨?_,rfl,rfl,rfl⟩,?_,fun q hq=>(by cases hq),fun i r hr=>?_,fun i r x hr hx=>?_,fun i i' r r' x hr hr' _ _=>?_,hc⟩
  ·show β i=if i=m then k else β i
   rw[if_neg (by omega)]
  ·rw[he]
   show Ending.returned (.slice (some ⟨k,0,none⟩) ws.length ws.length)=.returned (.slice (some ⟨if m=m then k else β m,0,none⟩) ws.length ws.length);rw[if_pos rfl]
  ·match i,hr with
   | 0,hr=>cases hr;show aw w' (if m+0=m then k else β (m+0)) 9 (strs ws);rw[Yt,if_pos rfl];exact hb
  ·match i,hr with
   | 0,hr=>cases hr;have hx:some (if m+0=m then k else β (m+0))=some x:=hx;rw[Yt,if_pos rfl]at hx;cases hx;exact .inr hk
  ·match i,i',hr,hr' with
   | 0,0,_,_=>rfl
theorem Qh{w:World}{b T n:Nat}{cs:List Value}(h:aw w b T cs)(hn:cs.length=n)(hm:n≤maxLen):Own w T 1 (.slice (some ⟨b,0,none⟩) n n) n cs:=
 ⟨by rw[hn,X6],.inr ⟨b,0,n,cs,rfl,h,XI _,hm,by omega,by rw[XN,X7 (by omega)]⟩⟩
theorem zJ{b:Sx.bu}{row:Nat→Option Sx.Row}{i j k m:Nat}{og:Option Nat}{p:Bool}{tx:Bs}{e:Int}(ws:List Bs)(h:pT row i j og p tx e)(hi:i < m)(hj:j < m)(rk:row k=some ⟨9,.own 1 ws.length (strs ws)⟩)(hn:ws.length≤1100000)(hl:tx.length+(ir ws).length≤140737488355328)
  (W:World) (β:Sx.Env) (hS:Sx.fD b β W row [i,j,k]) :
  Calls prog 70 (([.ptr i 0,.own k]:List Sx.SV).map (Sx.SV.den β)).toArray W (Sx.bK b β W row m (B6 [k] i j m og (tx++ir ws) e (.tuple #[]))):=by
 obtain⟨ht,hg⟩:=qY hS h (by simp) (by simp);have h2:β.n k=ws.length∧Own W 9 1 (.slice (β.a k) ws.length (β.c k)) ws.length (strs ws):=hS.held k (by simp) _ rk;show Calls prog 70 #[.pointer (some ⟨β i,0,none⟩),.slice (β.a k) (β.n k) (β.c k)] W _;rw[h2.1];exact(Ht ws ht h2.2 (by omega) hl).mono fun en w' hp=>vh h hi hj hg hp
theorem MV{b:Sx.bu}{row:Nat→Option Sx.Row}{i j k m:Nat}{og:Option Nat}{p:Bool}{tx:Bs}{e:Int}(ws:List Bs)(h:pT row i j og p tx e)(hi:i < m)(hj:j < m)(rk:row k=some ⟨9,.an (strs ws)⟩)(hn:ws.length≤1100000)(hl:tx.length+(ir ws).length≤140737488355328)
  (W:World) (β:Sx.Env) (hS:Sx.fD b β W row [i,j,k]) :
  Calls prog 70 (([.ptr i 0,.oI k 0 ws.length ws.length]:List Sx.SV).map (Sx.SV.den β)).toArray W (Sx.bK b β W row m (B6 [k] i j m og (tx++ir ws) e (.tuple #[]))):=by
 obtain⟨ht,hg⟩:=qY hS h (by simp) (by simp);have h2:aw W (β k) 9 (strs ws):=hS.held k (by simp) _ rk;exact(Ht ws ht (Qh h2 (sb ws) (by unfold maxLen;omega)) (by omega) hl).mono fun en w' hp=>vh h hi hj hg hp
theorem RG{a o:Int}(h:bp a o=[]):ly a o=false:=by
 unfold bp at h;unfold ly;by_cases a1:a=1
 ·rw[if_pos a1]at h;cases h
 by_cases a2:a=2
 ·rw[if_neg a1,if_pos a2]at h;cases h
 by_cases a3:a=3
 ·rw[if_neg a1,if_neg a2,if_pos a3]at h;cases h
 by_cases a4:a=4
 ·rw[if_neg a1,if_neg a2,if_neg a3,if_pos a4]at h;cases h
 have:(decide (1≤a)&&decide (a≤4))=false:=by rw[Bool.and_eq_false_iff,decide_eq_false_iff_not,decide_eq_false_iff_not];omega
 rw[this];rfl
theorem Ot{a o:Int}{x:Bs}{l:List Bs}(h:bp a o=x::l):(decide (1≤a)&&decide (a≤4))=true:=by
 unfold bp at h;rw[XP,decide_eq_true_iff,decide_eq_true_iff];by_cases a1:a=1
 ·omega
 by_cases a2:a=2
 ·omega
 by_cases a3:a=3
 ·omega
 by_cases a4:a=4
 ·omega
 rw[if_neg a1,if_neg a2,if_neg a3,if_neg a4]at h;cases h
set_option maxRecDepth 100000
open Go Go.RowKit Go.Lib Go.Sort _root_.Go.Proofs.Tryz
abbrev SA(w:World)(g:Nat)(A:Option Go.Addr):Sx.bu:=⟨w,r9 g A,fun _ _=>False⟩
abbrev rL(g:Nat)(p:Bool)(tx:Bs)(r:Rl)(e:Int)(mem:List Sx.Row):List Sx.Row:=j0 (some g) [.eU p 0 0,.own 1,.val (.int .i64 e)]::⟨5,.own 1 tx.length (tf tx)⟩::⟨81,.an r.cells⟩::mem
abbrev rD(g M:Nat)(tx F:Bs)(r:Rl)(e:Int)(mem:List Sx.Row):List Sx.Row:=j0 (some g) [.eU true 0 0,.own M,.val (.int .i64 e)]::Sx.au::⟨81,.an r.cells⟩::(mem++[⟨5,.own 1 (tx++F).length (tf (tx++F))⟩])
abbrev rF(r:Rl)(l:List Bs):List Bs:=fT::r.name::Ji r.mt::oz::l
abbrev wH(g:Nat)(p:Bool)(e:Int):Sx.Hint:=.aB (mw [] 0 1 (some g) p e)
abbrev Xw(w:World)(g:Nat)(A:Option Go.Addr)(tx:Bs)(r:Rl)(F:List Bs)(e:Int):Prop:=Calls prog 74 #[(pt g 0),.agg r.cells.toArray] w (n6 g A (.tuple #[]) (tx++ir F) e w)
abbrev Xj(g:Nat)(p:Bool)(r:Rl)(b1 b2:Bool)(ck e1 e2:Int)(l:List (Nat×Sx.Hint)):List (Nat×Sx.Hint):=(11,.call (.bool b1))::(16,.call (.tuple #[ae (Ji r.mt),.int .i64 ck]))::(21,.is (.bool b2))::(12,wH g p e1)::(22,wH g p e2)::l
abbrev Xv(tx:Bs)(F:List Bs):Prop:=tx.length+(ir F).length≤140737488355328
structure WU(w:World)(g:Nat)(p:Bool)(A:Option Go.Addr)(tx:Bs)(r:Rl)(b1 b2 b4 b5 bo:Bool)(ck e e1 e2 e3 e4 e5:Int):Prop where
 hl:∀W,ai (r9 g A) w W→eF W
 iB:∀W,ai (r9 g A) w W→Calls prog 33 #[ae r.name] W (Rn W (.bool b1))
 kq:∀W,ai (r9 g A) w W→Calls prog 31 #[.agg r.mt.cells.toArray] W (Rn W (.tuple #[ae (Ji r.mt),.int .i64 ck]))
 c21:Xy (ck==0)=.bool b2
 h1:e1=bj b1 201 e
 h2:e2=bj b2 190 e1
 h3:e3=bj bo 2 e2
 h4:e4=bj b4 201 e3
 h5:e5=bj b5 201 e4
 o0 : -9223372036854775808≤r.out
 o1:r.out≤9223372036854775807
theorem vH(w:World)(g:Nat)(p:Bool)(A:Option Go.Addr)(tx:Bs)(r:Rl){e e':Int}{b:Bool}{code:Int}(m:Nat)(mem:List Sx.Row)(he:e'=bj b code e)(W:World)(β:Sx.Env)(hS:Sx.fD (SA w g A) β W (Sx.rowAt (rL g p tx r e mem)) [0,1]):Calls prog 69 (([.ptr 0 0,.val (.bool b),.val (.int .i64 code)]:List Sx.SV).map (Sx.SV.den β)).toArray W (Sx.bK (SA w g A) β W (Sx.rowAt (rL g p tx r e mem)) m (mw [] 0 1 (some g) p e')):=by rw[he];exact tj b code ⟨rfl,rfl⟩ W β hS
theorem Tq(w:World)(g:Nat)(p:Bool)(A:Option Go.Addr)(tx:Bs)(r:Rl)(e:Int)(mem:List Sx.Row)(k m:Nat)(ws:List Bs)(hm:1 < m)(rk:Sx.rowAt (rL g p tx r e mem) k=some ⟨9,.own 1 ws.length (strs ws)⟩)(hn:ws.length≤1100000)(hl:tx.length+(ir ws).length≤140737488355328)(W:World)(β:Sx.Env)(hS:Sx.fD (SA w g A) β W (Sx.rowAt (rL g p tx r e mem)) [0,1,k]) :
  Calls prog 70 (([.ptr 0 0,.own k]:List Sx.SV).map (Sx.SV.den β)).toArray W (Sx.bK (SA w g A) β W (Sx.rowAt (rL g p tx r e mem)) m (B6 [k] 0 1 m (some g) (tx++ir ws) e (.tuple #[]))):=
 zJ (p:=p) ws ⟨rfl,rfl⟩ (by omega) hm rk hn hl W β hS
theorem Iv(P:World→Prop)(n:Nat)(hn:n≤1000):(∀W,P W→∃A c,Yo none 0 0=.slice A 0 c∧(0 < ([]:List Value).length→∃ad,A=some ad∧∀(j:Nat) (u:Value),([]:List Value)[j]?=some u→W.cell? (ad.add j)=some u))∧([]:List Value).length=0*1∧(∀u∈([]:List Value),u.oneCell'=true)∧n+0≤maxLen∧(n+0)*16≤140737488355328:=
 ⟨fun _ _=>⟨none,0,rfl,fun hh=>absurd hh (Nat.lt_irrefl _)⟩,rfl,fun u hu=>(by cases hu),by unfold maxLen;omega,by omega⟩
theorem se(n:Nat){x:Bs}{b:Bool}(h:decide (x=[])=b)(W:World):(do eqGuard .eql 9 (.tmp n) (.const (ae [])) (ae x) (ae []);binOp .eql 9 (ae x) (ae []):Sem Value).run prog W=.ok (.bool b) W:=dR (.tmp n) (.const (ae [])) x [] b h W
theorem sn(n:Nat){x:Bs}{b:Bool}(h:decide (x=[])=!b)(W:World):(do eqGuard .neq 9 (.tmp n) (.const (ae [])) (ae x) (ae []);binOp .neq 9 (ae x) (ae []):Sem Value).run prog W=.ok (.bool b) W:=
 (sd (.tmp n) (.const (ae [])) x [] W).trans (by rw[show decide (x≠[])=b from by rw[decide_not,h,XV]])
def bP(b x:Bool):Bool:=match b with
 |true=>true
 |false=>x
def bQ(na bg bz bo:Bool):Bool:=match na with
 |true=>false
 |false=>match bg with
  |false=>false
  |true=>bP bz bo
def n2(b:Bool)(n:Nat):Nat:=match b with
 |true=>n
 |false=>n+2
def x2(b:Bool)(xs ys:List Value):List Value:=match b with
 |true=>xs
 |false=>xs++ys
def ra(na:Bool)(L:List Bs):List Sx.Row:=match na with
 |true=>[]
 |false=>[⟨9,.an (strs L)⟩]
def iZ(b:Bool)(ws:List Bs)(l:List Sx.Row):List Sx.Row:=match b with
 |true=>l
 |false=>Sx.au::⟨9,.an (strs ws)⟩::l
def sL(L:List Bs):List Value:=((strs L).drop 0).take (L.length*1)
theorem GR(L:List Bs):sL L=strs L:=by unfold sL;rw[XN,X7 (by simp[strs])]
def Ul(r:Rl)(L:List Bs)(bm bi:Bool):Sx.Row:=⟨9,.own 1 (n2 bi (n2 bm (4+L.length))) (x2 bi (x2 bm (strs [fT,r.name,Ji r.mt,oz]++sL L) (strs [bc,r.dx])) (strs [aT,r.cA]))⟩
def Wk(na:Bool)(r:Rl)(L:List Bs)(bm bi:Bool)(l:List Sx.Row):List Sx.Row:=ra na L++(Sx.au::iZ bm [bc,r.dx] (iZ bi [aT,r.cA] l))
def Um(na bm bi:Bool):Nat:=n2 bi (n2 bm (match na with|true=>4|false=>5))
def UO(b:Bool)(k s:Bs):List Bs:=match b with
 |true=>[]
 |false=>[k,s]
def KF(r:Rl)(L:List Bs)(bm bi:Bool):List Bs:=rF r (L++(UO bm bc r.dx++UO bi aT r.cA))
theorem SI(r:Rl)(L:List Bs)(bm bi:Bool):Ul r L bm bi=⟨9,.own 1 (KF r L bm bi).length (strs (KF r L bm bi))⟩:=by unfold Ul KF rF;rw[GR];cases bm<;>cases bi<;>simp[n2,x2,UO,strs,Nat.add_comm,Nat.add_left_comm]<;>omega
def WQ(na:Bool)(w:World)(S:List Nat)(L:List Bs):Prop:=match na with
 |true=>(∀W,ai S w W→∃A c,Yo none 0 0=.slice A 0 c∧(0 < ([]:List Value).length→∃ad,A=some ad∧∀(j:Nat) (u:Value),([]:List Value)[j]?=some u→W.cell? (ad.add j)=some u))∧([]:List Value).length=0*1∧(∀u∈([]:List Value),u.oneCell'=true)∧4+0≤maxLen∧(4+0)*16≤140737488355328
 |false=>True∧(sL L).length=L.length*1∧(∀u∈sL L,u.oneCell'=true)∧4+L.length≤maxLen∧(4+L.length)*16≤140737488355328
def WR(na:Bool)(w:World)(g:Nat)(p:Bool)(A:Option Go.Addr)(tx:Bs)(r:Rl)(e2:Int)(L:List Bs):Prop:=match na with
 |true=>∀W,ai (r9 g A) w W→Calls prog 75 #[.int .i64 r.act,.int .i64 r.out] W (Rn W (.slice none 0 0))
 |false=>∀W β,Sx.fD (SA w g A) β W (Sx.rowAt (rL g p tx r e2 [])) []→Calls prog 75 (([.val (.int .i64 r.act),.val (.int .i64 r.out)]:List Sx.SV).map (Sx.SV.den β)).toArray W (Sx.bK (SA w g A) β W (Sx.rowAt (rL g p tx r e2 [])) 3 (Ov 3 L.length (strs L)))
def W6(na:Bool)(L:List Bs):Sx.Hint:=match na with
 |true=>.call (.slice none 0 0)
 |false=>.aB (Ov 3 L.length (strs L))
theorem SG{w:World}{g:Nat}{p:Bool}{A:Option Go.Addr}{c:Nat}{tx:Bs}{r:Rl}{b1 b2 b4 b5 bo:Bool}{ck e e1 e2 e3 e4 e5:Int}{L:List Bs}{na bg bz bm bi:Bool}(h:Tx w g p A c tx e)(H:WU w g p A tx r b1 b2 (bP bm b4) (bP bi b5) (bQ na bg bz bo) ck e e1 e2 e3 e4 e5)
  (k4:bm=false→∀W,ai (r9 g A) w W→Calls prog 33 #[ae r.dx] W (Rn W (.bool b4))) (k5:bi=false→∀W,ai (r9 g A) w W→Calls prog 33 #[ae r.cA] W (Rn W (.bool b5)))
  (ha:bp r.act r.out=L) (hL:L.length≤10) (hna:decide (L=[])=na) (hg:decide (r.out≥0)=bg) (hz:decide (r.out=0)=bz) (hb:decide (r.act=3)=bo) (hm:decide (r.dx=[])=bm) (hi:decide (r.cA=[])=bi) (hle:Xv tx (KF r L bm bi)):Xw w g A tx r (KF r L bm bi) e5:=by
 have c34:Xy (decide (r.out≥0))=.bool bg:=congrArg _ hg;have c39:Xy (r.out==0)=.bool bz:=congrArg _ hz;have Ea:Xy (r.act==3)=.bool bo:=congrArg _ hb;have c27:WR na w g p A tx r e2 L:=by
  cases na with
  |true=>exact fun W hW=>Et (b:=(SA w g A)) (ha.trans (of_decide_eq_true hna)) H.o0 H.o1 H.hl W hW
  |false=>exact fun W β hS=>Es (m:=3) ha (of_decide_eq_false hna) H.o0 H.o1 H.hl W β hS
 have c72:WQ na w (r9 g A) L:=by
  cases na with
  |true=>exact Iv (ai (r9 g A) w) 4 (by decide)
  |false=>exact(show True∧(sL L).length=L.length*1∧(∀u∈sL L,u.oneCell'=true)∧4+L.length≤maxLen∧(4+L.length)*16≤140737488355328 from by rw[GR];exact BM L 4 L.length rfl (by omega))
 have c46:=vH w g p A tx r (ra na L).length.succ.succ.succ (ra na L) H.h3;have c56:=vH w g p A tx r (ra na L).length.succ.succ.succ (ra na L) H.h4;have c66:=vH w g p A tx r (ra na L).length.succ.succ.succ (ra na L) H.h5;have c80:=BM [bc,r.dx] (4+L.length) 2 rfl (by omega);have c88:=BM [aT,r.cA] (n2 bm (4+L.length)) 2 rfl (by cases bm<;>(show _≤1000;simp only[n2];omega));have rk:Sx.rowAt (rL g p tx r e5 (Wk na r L bm bi [Ul r L bm bi])) (Um na bm bi)=some (Ul r L bm bi):=by cases na<;>cases bm<;>cases bi<;>rfl
 have c91:=Tq w g p A tx r e5 (Wk na r L bm bi [Ul r L bm bi]) (Um na bm bi) (Um na bm bi+1) (KF r L bm bi) (by cases na<;>cases bm<;>cases bi<;>decide) (rk.trans (congrArg some (SI r L bm bi))) (by cases bm<;>cases bi<;>simp[KF,UO]<;>omega) hle;have z0:RI g (tx++ir (KF r L bm bi)) e5 [] (rD g (Um na bm bi+1) tx (ir (KF r L bm bi)) r e5 (Wk na r L bm bi [Ul r L bm bi])):=by cases na<;>cases bm<;>cases bi<;>exact⟨_,rfl,rfl,rfl⟩
 have CH:=Sx.t4 H.iB (vH w g p A tx r 3 [] H.h1) H.kq H.c21 (Sx.t2 (vH w g p A tx r 3 [] H.h2) c27 (bA.mk (b:=na) (fun _=>c34) (bA.mk (b:=na||!bg) (fun _=>c39) (bA.mk (b:=na||!bg||bz) (fun _=>Ea) (Sx.t2 c46 (se 49 hm) (bA.mk k4 (Sx.t2 c56 (se 59 hi) (bA.mk k5 (Sx.t2 c66 c72 (Xz (sn (b:=!bm) 74 (by rw[XV];exact hm)) (bA.mk (b:=bm) (fun _=>c80) (Xz (sn (b:=!bi) 82 (by rw[XV];exact hi)) (bA.mk (b:=bi) (fun _=>c88) (Xz c91 z0))))))))))))));refine GB [.agg r.cells.toArray] h (Xj g p r b1 b2 ck e1 e2 [(27,W6 na L),ao 34 bg,ao 39 bz,ao 43 bo,(72,.app 0 []),(46,wH g p e3),(50,.bin (.bool bm)),(54,.call (.bool b4)),(56,wH g p e4),(60,.bin (.bool bi)),(64,.call (.bool b5)),(66,wH g p e5),(70,.jG 9 1),(75,.bin (.bool (!bm))),(83,.bin (.bool (!bi))),(91,.aB (B6 [Um na bm bi] 0 1 (Um na bm bi+1) (some g) (tx++ir (KF r L bm bi)) e5 (.tuple #[])))]) [] (by kernel_rfl) func74 rfl (bN rfl) ?_;clear h H k4 k5 hle rk hg hz hb hm hi c27 c72 c46 c56 c66 c80 c88 c91 z0 c34 c39 Ea ha hL;cases na with
 |true=>obtain rfl:L=[]:=of_decide_eq_true hna;cases bg<;>cases bz<;>cases bm<;>cases bi<;>exact XC (by kernel_rfl) CH
 |false=>cases bg<;>cases bz<;>cases bm<;>cases bi<;>exact XC (by kernel_rfl) CH
theorem Pa{w:World}{g:Nat}{p:Bool}{A:Option Go.Addr}{c:Nat}{tx:Bs}{e:Int}{r:Rl}(h:Tx w g p A c tx e)(hl:eF w)(hk:∀k∈r9 g A,9≤k)(hr:r.Wf)(hle:tx.length+(ir (ek r)).length≤140737488355328):Calls prog 74 #[.pointer (some ⟨g,0,none⟩),.agg r.cells.toArray] w (n6 g A (.tuple #[]) (tx++ir (ek r)) (um e r) w):=by
 have hc:Xy ((if bq r.mt=true then(0:Int)else 190)==0)=.bool (bq r.mt):=by cases bq r.mt<;>rfl
 have hL:(bp r.act r.out).length≤10:=by
  unfold bp;repeat' split
  all_goals simp
 have hO:∀k s,dF k s=UO (decide (s=[])) k s:=fun k s=>by
  unfold dF;by_cases hs:s=[]
  ·rw[if_pos hs,decide_eq_true hs];rfl
  ·rw[if_neg hs,decide_eq_false hs];rfl
 have hW:ek r=KF r (bp r.act r.out) (decide (r.dx=[])) (decide (r.cA=[])):=by unfold ek KF;rw[hO,hO];simp
 have hA:ly r.act r.out=bQ (decide (bp r.act r.out=[])) (decide (r.out≥0)) (decide (r.out=0)) (decide (r.act=3)):=by
  cases ha:bp r.act r.out with
  |nil=>rw[decide_eq_true rfl,RG ha];rfl
  |cons x l=>rw[decide_eq_false (by simp)];unfold ly;rw[Ot ha];cases decide (r.out≥0)<;>cases decide (r.out=0)<;>cases decide (r.act=3)<;>rfl
 have hB:∀s,iV s=bP (decide (s=[])) (aK s):=fun s=>by unfold iV;cases decide (s=[])<;>rfl
 rw[hW]at hle ⊢
 exact SG h (b4:=aK r.dx) (b5:=aK r.cA) (bo:=decide (r.act=3)) ⟨fun W hW=>hl.aJ hW hk,fun W _=>tN r.name W,fun W hW=>AQ r.mt hr.m W (hl.aJ hW hk),hc,rfl,rfl,rfl,rfl,(by unfold um;rw[hB,hB,hA]),hr.o.1,hr.o.2⟩
  (fun _ W _=>tN r.dx W) (fun _ W _=>tN r.cA W) rfl hL rfl rfl rfl rfl rfl rfl hle
set_option maxRecDepth 100000
open Go Go.RowKit Go.Lib Go.Sort _root_.Go.Proofs.Tryz
set_option maxRecDepth 100000
theorem TE(v:Bool)(n:Nat)(k:Int):Xy (dh v n k==0)=.bool (gy v n k):=by unfold dh;cases gy v n k<;>rfl
def bI(b0:Bool):Nat→Bool
 | 0=>b0
 |_+1=>true
def tI(t0:Bs)(ws:Nat→List Bs):Nat→Bs
 | 0=>t0
 |i+1=>tI t0 ws i++ir (ws i)
def eI(e0:Int)(E:Nat→Int→Int):Nat→Int
 | 0=>e0
 |i+1=>E i (eI e0 E i)
theorem yU{t0:Bs}{ws:Nat→List Bs}{B:Nat}:∀{n i:Nat},i < n→(tI t0 ws n).length≤B→(tI t0 ws i).length+(ir (ws i)).length≤B
 | 0,_,h,_=>by omega
 |n+1,i,h,hb=>by
  have e:(tI t0 ws (n+1)).length=(tI t0 ws n).length+(ir (ws n)).length:=by rw[tI,XB]
  by_cases hi:i=n
  ·subst hi;omega
  ·exact yU (n:=n) (by omega) (by omega)
theorem Cb{α:Type} [Inhabited α](f:α→List Bs)(t0:Bs)(l:List α):tI t0 (fun i=>f (l.getD i default)) l.length=t0++dy (l.map f):=by
 have key:∀k,k≤l.length→tI t0 (fun i=>f (l.getD i default)) k=t0++dy ((l.take k).map f):=by
  intro k;induction k with
  |zero=>intro _;simp[tI,dy]
  |succ k ih=>
   intro hk;rw[tI,ih (by omega),Yf];have:l[k]?=some (l.getD k default):=by rw[XJ,XE (by omega)];rfl
   rw[this];simp[dy]
 have:=key l.length (XI _);rwa [Yi]at this
theorem DR{α:Type} [Inhabited α](E:Int→α→Int)(e0:Int)(l:List α):eI e0 (fun i e=>E e (l.getD i default)) l.length=l.foldl E e0:=by
 have key:∀k,k≤l.length→eI e0 (fun i e=>E e (l.getD i default)) k=(l.take k).foldl E e0:=by
  intro k;induction k with
  |zero=>intro _;simp[eI]
  |succ k ih=>
   intro hk;rw[eI,ih (by omega),Yf];have:l[k]?=some (l.getD k default):=by rw[XJ,XE (by omega)];rfl
   rw[this];simp
 have:=key l.length (XI _);rwa [Yi]at this
theorem getD_at{α:Type} [Inhabited α]{l:List α}{i:Nat}(h:i < l.length):l[i]?=some (l.getD i default):=by rw[XJ,XE h];rfl
theorem eg{α:Type} [Inhabited α]{l:List α}{i:Nat}(h:i < l.length):l.getD i default∈l:=Ya (getD_at h)
def kG(k:Nat)(b:Bool)(t:Bs)(e:Int):List Sx.Row:=[j0 none [.eU b 1 0,.own k,.val (.int .i64 e)],⟨5,.own 1 t.length (tf t)⟩]
def B9(b:Bool)(t:Bs)(e:Int):List Sx.Row:=kG 2 b t e
def Xa(T:Bs×Int)(l:List Sx.SV)(_:List Sx.Row):Prop:=l=[.val (ae T.1),.val (.int .i64 T.2)]
theorem jr{P:Program}{t:TypeId}{n:Nat}(h:(P.info? t).map (·.size)=some n):∃inf,P.info? t=some inf∧inf.size=n:=XR.1 h
theorem Me.a6(m:Me):m.cells.length=4:=rfl
theorem Mi.a6(m:Mi):m.cells.length=3:=rfl
theorem Rt.a6(m:Rt):m.cells.length=19:=by unfold Rt.cells;rw[XB,Px.a6];rfl
theorem Rl.a6(m:Rl):m.cells.length=49:=by unfold Rl.cells;rw[XL,XB,Mt.a6];rfl
def Jo(A:Option Go.Addr)(n c i:Nat):List (Nat×Sx.SV):=[(1,.ptr 0 0),(4,.ptr 1 0),(20,.val (.slice A n c)),(21,.val (.int .i64 (n:Int))),(22,.val (.int .i64 (i:Int)))]
def P7(t0:Bs)(l:List Int):Nat→Bs:=tI t0 fun i=>fh (l.getD i default)
def Qf(e0:Int)(l:List Int):Nat→Int:=eI e0 fun i e=>G7 e (l.getD i default)
def Tc(cs:List Value)(b0:Bool)(t0:Bs)(e0:Int)(l:List Int)(i:Nat):List Sx.Row:=⟨46,.an cs⟩::B9 (bI b0 i) (P7 t0 l i) (Qf e0 l i)
def Jn(A:Option Go.Addr)(n c i:Nat):List (Nat×Sx.SV):=[(1,.ptr 0 0),(4,.ptr 1 0),(37,.val (.slice A n c)),(38,.val (.int .i64 (n:Int))),(39,.val (.int .i64 (i:Int)))]
def OL(t0:Bs)(l:List Rt):Nat→Bs:=tI t0 fun i=>fN (l.getD i default)
def KG(e0:Int)(l:List Rt):Nat→Int:=eI e0 fun i e=>AI e (l.getD i default)
def Tb(cs:List Value)(b0:Bool)(t0:Bs)(e0:Int)(l:List Rt)(i:Nat):List Sx.Row:=⟨46,.an cs⟩::B9 (bI b0 i) (OL t0 l i) (KG e0 l i)
def Jm(A:Option Go.Addr)(n c i:Nat):List (Nat×Sx.SV):=[(1,.ptr 0 0),(4,.ptr 1 0),(67,.val (.slice A n c)),(68,.val (.int .i64 (n:Int))),(69,.val (.int .i64 (i:Int)))]
def P6(t0:Bs)(l:List Me):Nat→Bs:=tI t0 fun i=>fQ (l.getD i default)
def ON(e0:Int)(l:List Me):Nat→Int:=eI e0 fun i e=>A4 e (l.getD i default)
def Ta(cs:List Value)(b0:Bool)(t0:Bs)(e0:Int)(l:List Me)(i:Nat):List Sx.Row:=⟨46,.an cs⟩::B9 (bI b0 i) (P6 t0 l i) (ON e0 l i)
def Jl(A:Option Go.Addr)(n c i:Nat):List (Nat×Sx.SV):=[(1,.ptr 0 0),(4,.ptr 1 0),(97,.val (.slice A n c)),(98,.val (.int .i64 (n:Int))),(99,.val (.int .i64 (i:Int)))]
def OK(t0:Bs)(l:List Mi):Nat→Bs:=tI t0 fun i=>eB (l.getD i default)
def Jp(e0:Int)(l:List Mi):Nat→Int:=eI e0 fun i e=>qn e (l.getD i default)
def S9(cs:List Value)(b0:Bool)(t0:Bs)(e0:Int)(l:List Mi)(i:Nat):List Sx.Row:=⟨46,.an cs⟩::B9 (bI b0 i) (OK t0 l i) (Jp e0 l i)
def Jk(A:Option Go.Addr)(n c i:Nat):List (Nat×Sx.SV):=[(1,.ptr 0 0),(4,.ptr 1 0),(131,.val (.slice A n c)),(132,.val (.int .i64 (n:Int))),(133,.val (.int .i64 (i:Int)))]
def OJ(t0:Bs)(l:List Rl):Nat→Bs:=tI t0 fun i=>ek (l.getD i default)
def R4(e0:Int)(l:List Rl):Nat→Int:=eI e0 fun i e=>um e (l.getD i default)
def S8(cs:List Value)(b0:Bool)(t0:Bs)(e0:Int)(l:List Rl)(i:Nat):List Sx.Row:=⟨46,.an cs⟩::B9 (bI b0 i) (OJ t0 l i) (R4 e0 l i)
abbrev pQ(cs:List Value)(p:Bool)(tx:Bs)(e:Int)(mem:List Sx.Row):List Sx.Row:=⟨46,.an cs⟩::j0 none [.eU p 1 0,.own 2,.val (.int .i64 e)]::⟨5,.own 1 tx.length (tf tx)⟩::mem
theorem yQ(w:World)(cs:List Value)(p:Bool)(tx:Bs)(e:Int)(mem:List Sx.Row)(m:Nat)(b:Bool)(code:Int)(W:World)(β:Sx.Env)(hS:Sx.fD ⟨w,[],fun _ _=>False⟩ β W (Sx.rowAt (pQ cs p tx e mem)) [1,2]) :
  Calls prog 69 (([.ptr 1 0,.val (.bool b),.val (.int .i64 code)]:List Sx.SV).map (Sx.SV.den β)).toArray W (Sx.bK ⟨w,[],fun _ _=>False⟩ β W (Sx.rowAt (pQ cs p tx e mem)) m (mw [] 1 2 none p (bj b code e))):=tj b code ⟨rfl,rfl⟩ W β hS
theorem Hu(w:World)(cs:List Value)(p:Bool)(tx:Bs)(e:Int)(mem:List Sx.Row)(k m:Nat)(ws:List Bs)(rk:Sx.rowAt (pQ cs p tx e mem) k=some ⟨9,.an (strs ws)⟩)(hm:2 < m)(hn:ws.length≤1100000)(hl:tx.length+(ir ws).length≤140737488355328)(W:World)(β:Sx.Env)(hS:Sx.fD ⟨w,[],fun _ _=>False⟩ β W (Sx.rowAt (pQ cs p tx e mem)) [1,2,k]) :
  Calls prog 70 (([.ptr 1 0,.oI k 0 ws.length ws.length]:List Sx.SV).map (Sx.SV.den β)).toArray W (Sx.bK ⟨w,[],fun _ _=>False⟩ β W (Sx.rowAt (pQ cs p tx e mem)) m (B6 [k] 1 2 m none (tx++ir ws) e (.tuple #[]))):=MV ws ⟨rfl,rfl⟩ (by omega) hm rk hn hl W β hS
theorem IS{b:Sx.bu}{row:Nat→Option Sx.Row}{i j m:Nat}{og:Option Nat}{p:Bool}{tx:Bs}{e:Int}(r:Rl)(h:pT row i j og p tx e)(hi:i < m)(hj:j < m)(hlan:eF b.w)(h9:∀k∈b.S,9≤k)(hr:r.Wf)(hl:tx.length+(ir (ek r)).length≤140737488355328)
  (W:World) (β:Sx.Env) (hS:Sx.fD b β W row [i,j]) :
  Calls prog 74 (([.ptr i 0,.val (.agg r.cells.toArray)]:List Sx.SV).map (Sx.SV.den β)).toArray W (Sx.bK b β W row m (B6 [] i j m og (tx++ir (ek r)) (um e r) (.tuple #[]))):=by
 obtain⟨ht,hg⟩:=qY hS h (by simp) (by simp);have hlow:=hlan.low;have old:∀x r k,x∈[i,j]→row x=some r→Sx.az β x r=some k→9≤k:=fun x r k hx hr hk=>by
  rcases hS.new x hx r k hr hk with h|h
  ·exact h9 k h
  ·omega
 refine(Pa ht (hlan.aJ hS.aJ h9) (fun k hk=>?_) hr hl).mono fun en w' hp=>vh h hi hj hg hp;rcases XS.1 hk with rfl|hk
 ·exact old i _ _ (by simp) h.b pZ
 ·exact old j _ _ (by simp) h.o (by show(β.a j).map (·.block)=some k;simpa using hk)
abbrev Mj(w:World)(T:Bs×Int)(k n:Nat)(fr:Nat→List (Nat×Sx.SV))(mm:Nat→List Sx.Row)(i:Nat):Prop:=∃H' L',Sx.lN prog f28.ntmps ⟨w,[],fun _ _=>False⟩ (Sx.a7 f28 k) H' L' ⟨fr i,mm i⟩
 (Sx.dP (fun i=>i≤n) fr mm (fun i=>i+1) (fun i=>n - i) (fun(_:Unit)=>True) (fun _=>[(1,.ptr 0 0),(4,.ptr 1 0)]) (fun _=>mm n) (fun _=>()) (Sx.ej (Sx.a7 f28 k) - 1) (Sx.fm prog f28 (Xa T) .ret) i)
theorem Vc{w:World}(hlan:eF w)(cs:List Value)(l:List Int)(A:Option Go.Addr)(c:Nat)(hs:qH w [] 1 (.slice A l.length c) l.length (l.map fun n=>XF .i64 n))(hwf:∀n∈l,qT n)(hl:l.length≤1000000000)(b0:Bool)(t0:Bs)(e0:Int)(hB:(P7 t0 l l.length).length≤140737488355328)(T:Bs×Int)(i:Nat)(hi:i≤l.length) :
  Mj w T 0 l.length (Jo A l.length c) (Tc cs b0 t0 e0 l) i:=by
 by_cases hlt:i < l.length
 ·skip
  have c23:=bT ((i:Int) < (l.length:Int)) (by omega);have hy:=getD_at hlt;have hw:=hwf _ (eg hlt);obtain⟨inf,hi1,hi2⟩:=jr (P:=prog) (t:=3) (n:=1) (by kernel_rfl);obtain⟨pp,hp1,hp2⟩:=hs.Uq underlying40 hi1 hi2 underlying3 rfl hy;clear hi1 hi2 hy;have c24:=hp1;have c25:=hp2;have vz:=mW (i:=i) (by omega);have c28:Xy (decide ((l.getD i default)≥0))=.bool (decide ((l.getD i default)≥0)):=rfl;have qz:=yQ w cs (bI b0 i) (P7 t0 l i) (Qf e0 l i) [] 3 (decide ((l.getD i default)≥0)) 2;have c32:=fun W (hW:ai [] w W)=>py (l.getD i default) hw.1 hw.2 W (hlan.dO hW);have c34:=Hu w cs (bI b0 i) (P7 t0 l i) (bj (decide ((l.getD i default)≥0)) 2 (Qf e0 l i)) [⟨9,.an (strs (fh (l.getD i default)))⟩] 3 4 (fh (l.getD i default)) rfl (by omega) (bN rfl) (yU hlt hB);have h0:i+1≤l.length:=hlt;have h1:l.length - (i+1) < l.length - i:=by omega
  have h2:Jo A l.length c (i+1)=Jo A l.length c (i+1):=rfl;have z3:⟨46,.an cs⟩::kG 4 true (P7 t0 l (i+1)) (Qf e0 l (i+1))=⟨46,.an cs⟩::kG 4 true (P7 t0 l (i+1)) (Qf e0 l (i+1)):=rfl;refine⟨[ao 23 true,(24,.any pp),(25,.any (.int .i64 (l.getD i default))),cO 35 (i+1),(28,.is (.bool (decide ((l.getD i default)≥0)))),(29,.aB (mw [] 1 2 none (bI b0 i) (bj (decide ((l.getD i default)≥0)) 2 (Qf e0 l i)))),(32,.call (ae (cW (l.getD i default)))),(34,.aB (B6 [3] 1 2 4 none ((P7 t0 l i)++ir (fh (l.getD i default))) (bj (decide ((l.getD i default)≥0)) 2 (Qf e0 l i)) (.tuple #[])))],[],?_⟩;exact XC (by kernel_rfl) (Sx.t8 c23 c24 c25 c28 qz c32 c34 vz (Sx.t2 h0 h1 (Xz h2 z3)))
 ·obtain rfl:i=l.length:=by omega
  have c23:=bF ((l.length:Int) < (l.length:Int)) (by omega);refine⟨[ao 23 false],[],?_⟩;exact XC (by kernel_rfl) (Sx.t2 c23 trivial (Xz (show([(1,.ptr 0 0),(4,.ptr 1 0)]:List (Nat×Sx.SV))=[(1,.ptr 0 0),(4,.ptr 1 0)]from rfl) (show Tc cs b0 t0 e0 l l.length=Tc cs b0 t0 e0 l l.length from rfl)))
theorem Vb{w:World}(hlan:eF w)(cs:List Value)(l:List Rt)(A:Option Go.Addr)(c:Nat)(hs:qH w [] 19 (.slice A l.length c) l.length (l.flatMap Rt.cells))(hwf:∀n∈l,n.Wf)(hl:l.length≤1000000000)(b0:Bool)(t0:Bs)(e0:Int)(hB:(OL t0 l l.length).length≤140737488355328)(T:Bs×Int)(i:Nat)(hi:i≤l.length) :
  Mj w T 1 l.length (Jn A l.length c) (Tb cs b0 t0 e0 l) i:=by
 by_cases hlt:i < l.length
 ·skip
  have c40:=bT ((i:Int) < (l.length:Int)) (by omega);have hy:=getD_at hlt;have hw:=hwf _ (eg hlt);obtain⟨inf,hi1,hi2⟩:=jr (P:=prog) (t:=118) (n:=19) (by kernel_rfl);obtain⟨pp,hp1,hp2⟩:=hs.KI Rt.a6 underlying41 hi1 hi2 underlying118 rfl (by omega) hy;clear hi1 hi2 hy;have KH:=hp1;have qy:=hp2;have c65:=mW (i:=i) (by omega);have c46:=fun W (hW:ai [] w W)=>EJ (l.getD i default).pf.v (l.getD i default).pf.n (l.getD i default).pf.k hw.n W (hlan.dO hW);have c51:=TE (l.getD i default).pf.v (l.getD i default).pf.n (l.getD i default).pf.k;have c52:=yQ w cs (bI b0 i) (OL t0 l i) (KG e0 l i) [⟨118,.an (l.getD i default).cells⟩] 4 (gy (l.getD i default).pf.v (l.getD i default).pf.n (l.getD i default).pf.k) 151;have c56:Xy (decide ((l.getD i default).out≥0))=.bool (decide ((l.getD i default).out≥0)):=rfl;have c57:=yQ w cs (bI b0 i) (OL t0 l i) (bj (gy (l.getD i default).pf.v (l.getD i default).pf.n (l.getD i default).pf.k) 151 (KG e0 l i)) [⟨118,.an (l.getD i default).cells⟩] 4 (decide ((l.getD i default).out≥0)) 2;have c62:=fun W (hW:ai [] w W)=>py (l.getD i default).out hw.o.1 hw.o.2 W (hlan.dO hW);have c64:=Hu w cs (bI b0 i) (OL t0 l i) (bj (decide ((l.getD i default).out≥0)) 2 (bj (gy (l.getD i default).pf.v (l.getD i default).pf.n (l.getD i default).pf.k) 151 (KG e0 l i))) [⟨118,.an (l.getD i default).cells⟩,⟨9,.an (strs (fN (l.getD i default)))⟩] 4 5 (fN (l.getD i default)) rfl (by omega) (bN rfl) (yU hlt hB);have h0:i+1≤l.length:=hlt;have h1:l.length - (i+1) < l.length - i:=by omega
  have h2:Jn A l.length c (i+1)=Jn A l.length c (i+1):=rfl;have z3:⟨46,.an cs⟩::kG 5 true (OL t0 l (i+1)) (KG e0 l (i+1))=⟨46,.an cs⟩::kG 5 true (OL t0 l (i+1)) (KG e0 l (i+1)):=rfl;refine⟨[ao 40 true,(41,.any pp),(42,.any (.agg (l.getD i default).cells.toArray)),cO 65 (i+1),(46,.call (.tuple #[ae (wJ (l.getD i default).pf),.int .i64 (dh (l.getD i default).pf.v (l.getD i default).pf.n (l.getD i default).pf.k)])),(51,.is (.bool (gy (l.getD i default).pf.v (l.getD i default).pf.n (l.getD i default).pf.k))),(52,.aB (mw [] 1 2 none (bI b0 i) (bj (gy (l.getD i default).pf.v (l.getD i default).pf.n (l.getD i default).pf.k) 151 (KG e0 l i)))),(56,.is (.bool (decide ((l.getD i default).out≥0)))),(57,.aB (mw [] 1 2 none (bI b0 i) (bj (decide ((l.getD i default).out≥0)) 2 (bj (gy (l.getD i default).pf.v (l.getD i default).pf.n (l.getD i default).pf.k) 151 (KG e0 l i))))),(62,.call (ae (cW (l.getD i default).out))),(64,.aB (B6 [4] 1 2 5 none ((OL t0 l i)++ir (fN (l.getD i default))) (bj (decide ((l.getD i default).out≥0)) 2 (bj (gy (l.getD i default).pf.v (l.getD i default).pf.n (l.getD i default).pf.k) 151 (KG e0 l i))) (.tuple #[])))],[],?_⟩;exact XC (by kernel_rfl) (Sx.t8 c40 KH qy c46 c51 c52 c56 c57 (Sx.t4 c62 c64 c65 h0 (Sx.t2 h1 h2 z3)))
 ·obtain rfl:i=l.length:=by omega
  have c40:=bF ((l.length:Int) < (l.length:Int)) (by omega);refine⟨[ao 40 false],[],?_⟩;exact XC (by kernel_rfl) (Sx.t2 c40 trivial (Xz (show([(1,.ptr 0 0),(4,.ptr 1 0)]:List (Nat×Sx.SV))=[(1,.ptr 0 0),(4,.ptr 1 0)]from rfl) (show Tb cs b0 t0 e0 l l.length=Tb cs b0 t0 e0 l l.length from rfl)))
theorem Va{w:World}(hlan:eF w)(cs:List Value)(l:List Me)(A:Option Go.Addr)(c:Nat)(hs:qH w [] 4 (.slice A l.length c) l.length (l.flatMap Me.cells))(hwf:∀n∈l,n.Wf)(hl:l.length≤1000000000)(b0:Bool)(t0:Bs)(e0:Int)(hB:(P6 t0 l l.length).length≤140737488355328)(T:Bs×Int)(i:Nat)(hi:i≤l.length) :
  Mj w T 2 l.length (Jm A l.length c) (Ta cs b0 t0 e0 l) i:=by
 by_cases hlt:i < l.length
 ·skip
  have c70:=bT ((i:Int) < (l.length:Int)) (by omega);have hy:=getD_at hlt;have hw:=hwf _ (eg hlt);obtain⟨inf,hi1,hi2⟩:=jr (P:=prog) (t:=122) (n:=4) (by kernel_rfl);obtain⟨pp,hp1,hp2⟩:=hs.KI Me.a6 underlying43 hi1 hi2 underlying122 rfl (by omega) hy;clear hi1 hi2 hy;have c71:=hp1;have c72:=hp2;have c95:=mW (i:=i) (by omega);have c76:=fun W (_:ai [] w W)=>tN (l.getD i default).name W;have c77:=yQ w cs (bI b0 i) (P6 t0 l i) (ON e0 l i) [⟨122,.an (l.getD i default).cells⟩] 4 (aK (l.getD i default).name) 201;have c84:=fun W (hW:ai [] w W)=>H9 (l.getD i default).num (by have:=hw.a;omega) W (hlan.dO hW);have c88:=fun W (hW:ai [] w W)=>H9 (l.getD i default).den (by have:=hw.b;omega) W (hlan.dO hW);have c92:=fun W (hW:ai [] w W)=>H9 (l.getD i default).qR (by have:=hw.c;omega) W (hlan.dO hW);have c94:=Hu w cs (bI b0 i) (P6 t0 l i) (bj (aK (l.getD i default).name) 201 (ON e0 l i)) [⟨122,.an (l.getD i default).cells⟩,⟨9,.an (strs (fQ (l.getD i default)))⟩] 4 5 (fQ (l.getD i default)) rfl (by omega) (bN rfl) (yU hlt hB);have h0:i+1≤l.length:=hlt;have h1:l.length - (i+1) < l.length - i:=by omega
  have h2:Jm A l.length c (i+1)=Jm A l.length c (i+1):=rfl;have z3:⟨46,.an cs⟩::kG 5 true (P6 t0 l (i+1)) (ON e0 l (i+1))=⟨46,.an cs⟩::kG 5 true (P6 t0 l (i+1)) (ON e0 l (i+1)):=rfl;refine⟨[ao 70 true,(71,.any pp),(72,.any (.agg (l.getD i default).cells.toArray)),cO 95 (i+1),(76,.call (.bool (aK (l.getD i default).name))),(77,.aB (mw [] 1 2 none (bI b0 i) (bj (aK (l.getD i default).name) 201 (ON e0 l i)))),(84,.call (ae (aq 10 (l.getD i default).num))),(88,.call (ae (aq 10 (l.getD i default).den))),(92,.call (ae (aq 10 (l.getD i default).qR))),(94,.aB (B6 [4] 1 2 5 none ((P6 t0 l i)++ir (fQ (l.getD i default))) (bj (aK (l.getD i default).name) 201 (ON e0 l i)) (.tuple #[])))],[],?_⟩;exact XC (by kernel_rfl) (Sx.t8 c70 c71 c72 c76 c77 c84 c88 c92 (Sx.t4 c94 c95 h0 h1 (Xz h2 z3)))
 ·obtain rfl:i=l.length:=by omega
  have c70:=bF ((l.length:Int) < (l.length:Int)) (by omega);refine⟨[ao 70 false],[],?_⟩;exact XC (by kernel_rfl) (Sx.t2 c70 trivial (Xz (show([(1,.ptr 0 0),(4,.ptr 1 0)]:List (Nat×Sx.SV))=[(1,.ptr 0 0),(4,.ptr 1 0)]from rfl) (show Ta cs b0 t0 e0 l l.length=Ta cs b0 t0 e0 l l.length from rfl)))
theorem U9{w:World}(hlan:eF w)(cs:List Value)(l:List Mi)(A:Option Go.Addr)(c:Nat)(hs:qH w [] 3 (.slice A l.length c) l.length (l.flatMap Mi.cells))(hwf:∀n∈l,n.Wf)(hl:l.length≤1000000000)(b0:Bool)(t0:Bs)(e0:Int)(hB:(OK t0 l l.length).length≤140737488355328)(T:Bs×Int)(i:Nat)(hi:i≤l.length) :
  Mj w T 3 l.length (Jl A l.length c) (S9 cs b0 t0 e0 l) i:=by
 by_cases hlt:i < l.length
 ·skip
  have c100:=bT ((i:Int) < (l.length:Int)) (by omega);have hy:=getD_at hlt;have hw:=hwf _ (eg hlt);obtain⟨inf,hi1,hi2⟩:=jr (P:=prog) (t:=124) (n:=3) (by kernel_rfl);obtain⟨pp,hp1,hp2⟩:=hs.KI Mi.a6 underlying44 hi1 hi2 underlying124 rfl (by omega) hy;clear hi1 hi2 hy;have c101:=hp1;have c102:=hp2;have c129:=mW (i:=i) (by omega);have c106:=fun W (_:ai [] w W)=>tN (l.getD i default).name W;have c107:=yQ w cs (bI b0 i) (OK t0 l i) (Jp e0 l i) [⟨124,.an (l.getD i default).cells⟩] 4 (aK (l.getD i default).name) 201;obtain⟨b1,hb1⟩:∃b,decide ((l.getD i default).out≥0)=b:=⟨_,rfl⟩;obtain⟨b2,hb2⟩:∃b,decide ((l.getD i default).room≥0)=b:=⟨_,rfl⟩;have c111:=congrArg Xy hb1;have c115:=congrArg Xy hb2;have c117:=yQ w cs (bI b0 i) (OK t0 l i) (bj (aK (l.getD i default).name) 201 (Jp e0 l i)) [⟨124,.an (l.getD i default).cells⟩] 4 (b1&&b2) 2;have c123:=fun W (hW:ai [] w W)=>py (l.getD i default).out hw.o.1 hw.o.2 W (hlan.dO hW);have c126:=fun W (hW:ai [] w W)=>py (l.getD i default).room hw.r.1 hw.r.2 W (hlan.dO hW);have c128:=Hu w cs (bI b0 i) (OK t0 l i) (bj (b1&&b2) 2 (bj (aK (l.getD i default).name) 201 (Jp e0 l i))) [⟨124,.an (l.getD i default).cells⟩,⟨9,.an (strs (eB (l.getD i default)))⟩] 4 5 (eB (l.getD i default)) rfl (by omega) (bN rfl) (yU hlt hB);have hE:(bj (b1&&b2) 2 (bj (aK (l.getD i default).name) 201 (Jp e0 l i)))=qn (Jp e0 l i) (l.getD i default):=by unfold qn;rw[hb1,hb2]
  have h0:i+1≤l.length:=hlt;have h1:l.length - (i+1) < l.length - i:=by omega
  have h2:Jl A l.length c (i+1)=Jl A l.length c (i+1):=rfl;have z3:⟨46,.an cs⟩::kG 5 true (OK t0 l (i+1)) (bj (b1&&b2) 2 (bj (aK (l.getD i default).name) 201 (Jp e0 l i)))=⟨46,.an cs⟩::kG 5 true (OK t0 l (i+1)) (Jp e0 l (i+1)):=by rw[hE];rfl
  have CH:=Sx.t4 c100 c101 c102 c106 (Sx.t2 c107 c111 (bA.mk (b:=!b1) (fun _=>c115) (Sx.t8 c117 c123 c126 c128 c129 h0 h1 h2 z3)));refine⟨[ao 100 true,(101,.any pp),(102,.any (.agg (l.getD i default).cells.toArray)),cO 129 (i+1),(106,.call (.bool (aK (l.getD i default).name))),(107,.aB (mw [] 1 2 none (bI b0 i) (bj (aK (l.getD i default).name) 201 (Jp e0 l i)))),ao 111 b1,ao 115 b2,(117,.aB (mw [] 1 2 none (bI b0 i) (bj (b1&&b2) 2 (bj (aK (l.getD i default).name) 201 (Jp e0 l i))))),(123,.call (ae (cW (l.getD i default).out))),(126,.call (ae (cW (l.getD i default).room))),(128,.aB (B6 [4] 1 2 5 none ((OK t0 l i)++ir (eB (l.getD i default))) (bj (b1&&b2) 2 (bj (aK (l.getD i default).name) 201 (Jp e0 l i))) (.tuple #[])))],[],?_⟩;clear c100 c101 c102 c106 c107 c111 c115 c117 c123 c126 c128 c129 h0 h1 h2 z3 hE hb1 hb2 hp1 hp2;cases b1<;>exact XC (by kernel_rfl) CH
 ·obtain rfl:i=l.length:=by omega
  have c100:=bF ((l.length:Int) < (l.length:Int)) (by omega);refine⟨[ao 100 false],[],?_⟩;exact XC (by kernel_rfl) (Sx.t2 c100 trivial (Xz (show([(1,.ptr 0 0),(4,.ptr 1 0)]:List (Nat×Sx.SV))=[(1,.ptr 0 0),(4,.ptr 1 0)]from rfl) (show S9 cs b0 t0 e0 l l.length=S9 cs b0 t0 e0 l l.length from rfl)))
theorem U8{w:World}(hlan:eF w)(cs:List Value)(l:List Rl)(A:Option Go.Addr)(c:Nat)(hs:qH w [] 49 (.slice A l.length c) l.length (l.flatMap Rl.cells))(hwf:∀n∈l,n.Wf)(hl:l.length≤1000000000)(b0:Bool)(t0:Bs)(e0:Int)(hB:(OJ t0 l l.length).length≤140737488355328)(T:Bs×Int)(i:Nat)(hi:i≤l.length) :
  Mj w T 4 l.length (Jk A l.length c) (S8 cs b0 t0 e0 l) i:=by
 by_cases hlt:i < l.length
 ·skip
  have c134:=bT ((i:Int) < (l.length:Int)) (by omega);have hy:=getD_at hlt;have hw:=hwf _ (eg hlt);obtain⟨inf,hi1,hi2⟩:=jr (P:=prog) (t:=81) (n:=49) (by kernel_rfl);obtain⟨pp,hp1,hp2⟩:=hs.KI Rl.a6 underlying42 hi1 hi2 underlying81 rfl (by omega) hy;clear hi1 hi2 hy;have c135:=hp1;have c136:=hp2;have c140:=mW (i:=i) (by omega);have c139:=fun W β (hS:Sx.fD ⟨w,[],fun _ _=>False⟩ β W (Sx.rowAt [⟨46,.an cs⟩,j0 none [.eU (bI b0 i) 1 0,.own 2,.val (.int .i64 (R4 e0 l i))],⟨5,.own 1 (OJ t0 l i).length (tf (OJ t0 l i))⟩,⟨81,.an (l.getD i default).cells⟩]) [1,2])=>IS (m:=4) (og:=none) (p:=(bI b0 i)) (tx:=(OJ t0 l i)) (e:=(R4 e0 l i)) (l.getD i default) ⟨rfl,rfl⟩ (by omega) (by omega) hlan (fun k hk=>(by cases hk)) hw (yU hlt hB) W β hS;have h0:i+1≤l.length:=hlt;have h1:l.length - (i+1) < l.length - i:=by omega
  have h2:Jk A l.length c (i+1)=Jk A l.length c (i+1):=rfl;have z3:⟨46,.an cs⟩::kG 4 true (OJ t0 l (i+1)) (R4 e0 l (i+1))=⟨46,.an cs⟩::kG 4 true (OJ t0 l (i+1)) (R4 e0 l (i+1)):=rfl;refine⟨[ao 134 true,(135,.any pp),(136,.any (.agg (l.getD i default).cells.toArray)),cO 140 (i+1),(139,.aB (B6 [] 1 2 4 none ((OJ t0 l i)++ir (ek (l.getD i default))) (um (R4 e0 l i) (l.getD i default)) (.tuple #[])))],[],?_⟩;exact XC (by kernel_rfl) (Sx.t8 c134 c135 c136 c139 c140 h0 h1 h2 z3)
 ·obtain rfl:i=l.length:=by omega
  have c134:=bF ((l.length:Int) < (l.length:Int)) (by omega);refine⟨[ao 134 false],[],?_⟩;exact XC (by kernel_rfl) (Sx.t2 c134 trivial (Xz (show([(1,.ptr 0 0),(4,.ptr 1 0)]:List (Nat×Sx.SV))=[(1,.ptr 0 0),(4,.ptr 1 0)]from rfl) (show S8 cs b0 t0 e0 l l.length=S8 cs b0 t0 e0 l l.length from rfl)))
end Go.Proofs.YtnncigmpcdehnaaGreatDoor
