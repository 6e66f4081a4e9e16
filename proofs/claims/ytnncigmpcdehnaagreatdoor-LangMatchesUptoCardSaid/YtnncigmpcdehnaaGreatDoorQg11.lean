import Derived.Test.YtnncigmpcdehnaaGreatDoorQg10
open And renaming intro→WN
open Go.Value renaming bool→WO,int→WQ,tuple→XA
open Nat renaming eq_of_beq_eq_true→WR,beq→WS,zero_le→WU,le_trans→W6,succ_mul→Xk,le_refl→Xo,lt_of_le_of_lt→Xp,div_le_self→Xu,zero_mul→XE,mul_one→XG
open Eq renaming mp→WT
open List renaming mem_singleton→WV,length_append→WX,append_inj→WY,length_cons→WZ,getElem?_eq_getElem→W3,take_append_drop→W4,drop_zero→W7,drop_drop→W8,range→Xa,getElem?_eq_some_iff→Xg,mem_cons→Xi,map_cons→Xj,mem_cons_of_mem→Xl,flatten_cons→Xq,not_mem_nil→Xr,map_append→Xs,length_nil→Xt,mapM_cons→Xv,flatten→XB,range'→XF
open Bool renaming eq_iff_iff→WW,and_eq_true→W0,not_eq_true'→Xb,false_and→Xh,not_or→Xn,false_or→Xz,not_not→XC
open Go.IntKind renaming i64→W2,signed→W5,bits→W9,min→Xc,max→Xd,u8→Xx
open Go.Sem renaming run_bind→Xe
open Option renaming some→Xf
namespace Go.Proofs.YtnncigmpcdehnaaGreatDoor
set_option maxRecDepth 100000
open Go Go.RowKit Go.Lib Go.Sort _root_.Go.Proofs.Tryz
set_option maxRecDepth 100000
theorem j0{most:Nat}{s:Bs}:eR most s≤most:=by
 unfold eR;cases h:aM most s with
 |true=>exact(jQ.1 h).1
 |false=>exact WU _
theorem DT{v:Nat}(h:v≤65535):WQ .u16 (IntKind.u16.wrap (v:Int))=.int .u16 (v:Int):=by rw[IntKind.wrap_u16];congr 1;omega
def D7(x:Bs)(i:Nat):List (Nat×Sx.SV):=[(0,.ptr 0 0),(2,.ptr 1 0),(3,.val (ae x)),(4,.val (.int .i64 (i:Int)))]
def nN(g:Nat)(A:Option Go.Addr)(n c:Nat)(s1:RS):List Sx.Row:=[⟨114,.cR g (fy A n c s1)⟩,⟨64,.aj [.int .u16 0,.int .u16 0]⟩]
theorem Kh{x:Bs}{i:Nat}(hi:x[i]?=some 45)(h:(45:UInt8)∉x.take i):cC x=(x.take i,x.drop (i+1)):=by
 have e:x=x.take i++45::x.drop (i+1):=by
  obtain⟨hl,hx⟩:=Xg.1 hi
  conv=>lhs;rw[←W4 i x,List.drop_eq_getElem_cons hl,hx]
 have:=C7 _ (x.drop (i+1)) h;rw[←e]at this;unfold cC;rw[this]
theorem D6{x:Bs}(h:(45:UInt8)∉x):cC x=(x,x):=by unfold cC;rw[xk x h]
theorem Rv{w:World}{g:Nat}{A:Option Go.Addr}{n c:Nat}{st:RS}{ws:List Bs}(h:pI w [g] g A n c st ws)(s1:RS)(hl:s1.at_≤n)(he:s1.e≤1000)(ho:s1.e=0→1≤s1.at_)(x:Bs)(hx:x.length≤100000000)(R:(Nat×Nat)×RS)
  (hR:R=xH (aM 65535 (cC x).1&&aM 65535 (cC x).2) 200 (eR 65535 (cC x).1,eR 65535 (cC x).2) s1) (i:Nat) (hi:i≤x.length∧(45:UInt8)∉x.take i) :
  ∃H' L',Sx.ky prog f157.ntmps (VO w g) (Sx.bq f157 0) H' L' ⟨D7 x i,nN g A n c s1⟩
   (Sx.dP (fun i=>i≤x.length∧(45:UInt8)∉x.take i) (D7 x) (fun _=>nN g A n c s1) (fun i=>i+1) (fun i=>x.length+1 - i) (fun(_:Unit)=>(45:UInt8)∉x) (fun _=>[(0,.ptr 0 0),(2,.ptr 1 0),(3,.val (ae x))]) (fun _=>nN g A n c s1) (fun _=>()) (Sx.eo (Sx.bq f157 0) - 1) (Sx.qJ prog f157 (JG g A n c gF R) .ret) i):=by
 have c15:=iY x;obtain⟨hi1,hi2⟩:=hi;by_cases hlt:i < x.length
 ·have jM:=bT ((i:Int) < (x.length:Int)) (by omega)
  obtain⟨b,hb⟩:∃b,x[i]?=some b:=⟨_,W3 hlt⟩;have c21:=lF x i b hb;by_cases h45:b=45
  ·subst h45
   have c22:WO (((45:UInt8).toNat:Int)==45)=.bool true:=rfl;rw[Kh hb hi2]at hR;have c26:=fun W=>uU x i (by omega) W;have c33:=mY (i:=i) (by omega);have c34:=fun W=>uV x (i+1) (by omega) W;have l1:(x.take i).length≤1000000000:=by rw[List.length_take];omega
   have l2:(x.drop (i+1)).length≤1000000000:=by rw[List.length_drop];omega
   simp only at hR;generalize x.take i=y1 at*;generalize x.drop (i+1)=y2 at*;have c27:=fun W (_:ai [g] w W)=>o9 y1 16 (by omega) l1 W;have xD:=fun W (_:ai [g] w W)=>o9 y2 16 (by omega) l2 W;rw[show 18446744073709551615 / 2^(64 - 16)=65535 from rfl]at c27 xD;unfold IL at c27 xD;have v1:=j0 (most:=65535) (s:=y1);have v2:=j0 (most:=65535) (s:=y2);have c45:=oW 200 h hl he ho;have zz:JG g A n c gF R (.val (gF (eR 65535 y1,eR 65535 y2))) [(g,114,fy A n c (Dd (aM 65535 y1&&aM 65535 y2) 200 s1))]:=by rw[hR];exact⟨rfl,rfl⟩
   clear hR;generalize aM 65535 y1=k1 at c27 zz;generalize aM 65535 y2=k2 at xD zz;generalize eR 65535 y1=a1 at c27 zz v1;generalize eR 65535 y2=a2 at xD zz v2;have c47:=DT v1;have c49:=DT v2;refine⟨[(15,.is (.int .i64 (x.length:Int))),(16,.is (.bool true)),(21,.bin (u8 45)),(22,.is (.bool true)),(26,.bin (ae y1)),(27,.call (.tuple #[.int .u64 (a1:Int),.bool k1])),(33,.is (.int .i64 ((i+1:Nat):Int))),(34,.bin (ae y2)),(35,.call (.tuple #[.int .u64 (a2:Int),.bool k2])),(45,.du 0 (fy A n c (Dd (k1&&k2) 200 s1)) (.tuple #[])),(47,.is (.int .u16 (a1:Int))),(49,.is (.int .u16 (a2:Int)))],[],?_⟩;have CH:=Sx.t8 c15 jM c21 c22 c26 c27 c33 c34 (WN xD (cy.mk (b:=k1&&k2) (fun _=>c45) (Sx.t2 c47 c49 zz)));cases k1<;>cases k2<;>exact WT (by kernel_rfl) CH
  ·have c22:WO ((b.toNat:Int)==45)=.bool false:=qa (by
    rw[beq_eq_false_iff_ne];intro hc;exact h45 (UInt8.toNat_inj.1 (by show b.toNat=45;omega)))
   have c18:=mY (i:=i) (by omega);have h0:i+1≤x.length∧(45:UInt8)∉x.take (i+1):=⟨hlt,by
    rw[List.take_add_one,hb,List.mem_append];rintro(hh|hh)
    ·exact hi2 hh
    ·exact h45 (WV.1 hh).symm⟩
   have h1:x.length+1 - (i+1) < x.length+1 - i:=by omega
   have h2:D7 x (i+1)=D7 x (i+1):=rfl;have z3:nN g A n c s1=nN g A n c s1:=rfl;refine⟨[(15,.is (.int .i64 (x.length:Int))),(16,.is (.bool true)),(21,.bin (u8 b)),(22,.is (.bool false)),(18,.is (.int .i64 ((i+1:Nat):Int)))],[],?_⟩;exact WT (by kernel_rfl) (Sx.t8 c15 jM c21 c22 c18 h0 h1 h2 z3)
 ·have jM:=bF ((i:Int) < (x.length:Int)) (by omega)
  obtain rfl:i=x.length:=by omega
  have h0:(45:UInt8)∉x:=by rwa [List.take_length]at hi2
  have h1:([(0,.ptr 0 0),(2,.ptr 1 0),(3,.val (ae x))]:List (Nat×Sx.SV))=[(0,.ptr 0 0),(2,.ptr 1 0),(3,.val (ae x))]:=rfl;have z2:nN g A n c s1=nN g A n c s1:=rfl;refine⟨[(15,.is (.int .i64 (x.length:Int))),(16,.is (.bool false))],[],?_⟩;exact WT (by kernel_rfl) (Sx.t4 c15 jM h0 h1 z2)
theorem Ox(ws:List Bs)(st:RS):eD ws st=xH (aM 65535 (cC (av ws st).1).1&&aM 65535 (cC (av ws st).1).2) 200 (eR 65535 (cC (av ws st).1).1,eR 65535 (cC (av ws st).1).2) (av ws st).2:=rfl
theorem zx{w:World}{S:List Nat}{g:Nat}{A:Option Go.Addr}{n c:Nat}{st:RS}{ws:List Bs}(h:pI w S g A n c st ws):Calls prog 157 #[.pointer (some ⟨g,0,none⟩)] w (ju g A n c gF (eD ws st) w):=by
 have h:=h.low;obtain⟨h1,h2⟩:=cF h.jw.len st h.le h.eb;have c12:=vU h;have hR:=Ox ws st;have hsz:=qk (st:=st) h.sz;have ho:=lK (ws:=ws) (st:=st);generalize eD ws st=R at hR ⊢;generalize av ws st=r at*;obtain⟨x,s1⟩:=r;simp only at*;have rd:=Rv h s1 h1 h2 ho x hsz R hR;have c59:=oW 200 h h1 h2 ho;have c53:=fun W (_:ai [g] w W)=>o9 x 16 (by omega) (W6 hsz (by decide)) W;rw[show 18446744073709551615 / 2^(64 - 16)=65535 from rfl]at c53;unfold IL at c53;have v1:=j0 (most:=65535) (s:=x);have zz:(45:UInt8)∉x→JG g A n c gF R (.val (gF (eR 65535 x,eR 65535 x))) [(g,114,fy A n c (Dd (aM 65535 x) 200 s1))]:=fun hn=>by rw[hR,D6 hn];show JG g A n c gF (xH (aM 65535 x&&aM 65535 x) 200 (eR 65535 x,eR 65535 x) s1) _ _;rw[Bool.and_self];exact⟨rfl,rfl⟩
 clear hR;generalize aM 65535 x=k1 at c53 zz;generalize eR 65535 x=a1 at c53 zz v1;have c61:=DT v1;have z0:0≤x.length∧(45:UInt8)∉x.take 0:=⟨WU _,by simp⟩;have e1:D7 x 0=D7 x 0∧nN g A n c s1=nN g A n c s1:=⟨rfl,rfl⟩;have CH:=WN c12 (WN z0 (WN e1 (WN rd fun(_:Unit) (hn:(45:UInt8)∉x)=>WN c53 (cy.mk (b:=k1) (fun _=>c59) (Sx.t2 c61 c61 (zz hn))))));refine fh [] h.bO [(12,.du 0 (fy A n c s1) (ae x)),(53,.call (.tuple #[.int .u64 (a1:Int),.bool k1])),(59,.du 0 (fy A n c (Dd k1 200 s1)) (.tuple #[])),(61,.is (.int .u16 (a1:Int))),(63,.is (.int .u16 (a1:Int)))] [.mk Nat 0 (fun i=>i≤x.length∧(45:UInt8)∉x.take i) (D7 x) (fun _=>nN g A n c s1) (fun i=>i+1) (fun i=>x.length+1 - i) Unit (fun _=>(45:UInt8)∉x) (fun _=>[(0,.ptr 0 0),(2,.ptr 1 0),(3,.val (ae x))]) (fun _=>nN g A n c s1) (fun _=>())] (by kernel_rfl) func157 rfl (bU rfl) ?_;cases k1<;>exact WT (by kernel_rfl) CH
set_option maxRecDepth 100000
open Go Go.RowKit Go.Lib Go.Sort _root_.Go.Proofs.Tryz
set_option maxRecDepth 100000
theorem nD{α:Type}{w:World}{g f:Nat}{A:Option Go.Addr}{n c:Nat}{st s1:RS}{ws:List Bs}{V:α→Value}{r:α×RS}{rest:List Value}(h:pI w [g] g A n c st ws)(hl:s1.at_≤n)(he:s1.e≤1000)
  (H:∀W,pI W [g] g A n c s1 ws→Calls prog f ((pt g 0)::rest).toArray W (ju g A n c V r W)):Nx w g f rest A n c s1 r.2 (V r.1):=
 fun W hW hb=>RH (.cR g _) rfl rfl rfl (H W (h.at hW hb hl he))
theorem Ed{n most:Nat}{ws:List Bs}(h:ws.length=n):JH n (jD most ws):=gP (cF h) fun _=>zO (by decide)
theorem vg{n:Nat}{ws:List Bs}(h:ws.length=n):JH n (dL ws):=gP (cF h) fun _=>zO (by decide)
theorem vd{n:Nat}{ws:List Bs}(h:ws.length=n):JH n (eD ws):=gP (cF h) fun _=>zO (by decide)
theorem HQ{n:Nat}{ws:List Bs}(h:ws.length=n):JH n (e8 ws):=fun st h1 h2=>by
 unfold e8;cases pZ ws js st with
 |true=>exact cF h st h1 h2
 |false=>
  cases pZ ws jH st with
  |true=>exact cF h st h1 h2
  |false=>exact Ed h st h1 h2
theorem To{v:Nat}(h:v≤255):WQ .u8 (Xx.wrap (v:Int))=.int .u8 (v:Int):=by rw[IntKind.wrap_u8];congr 1;omega
def Gg{α:Type}(b1 b2:Bool)(x y z:α):α:=match b1 with
 |true=>x
 |false=>match b2 with
  |true=>y
  |false=>z
theorem Kz{w:World}{S:List Nat}{g:Nat}{A:Option Go.Addr}{n c:Nat}{st:RS}{ws:List Bs}(h:pI w S g A n c st ws):Calls prog 158 #[(pt g 0)] w (ju g A n c Hb (e8 ws st) w):=by
 have h:=h.low;have c4:=nD (st:=st) h h.le h.eb fun W hW=>KM hW js;have c8:=nD (st:=st) h h.le h.eb fun W hW=>KM hW jH;have c6:=vU h;have c12:=nD h h.le h.eb fun W hW=>H9 8 255 (by omega) rfl hW;have v1:(jD 255 ws st).1≤255:=j0;have hR:e8 ws st=Gg (pZ ws js st) (pZ ws jH st) (6,(av ws st).2) (17,(av ws st).2) (jD 255 ws st):=by unfold e8 Gg;cases pZ ws js st<;>cases pZ ws jH st<;>rfl
 generalize e8 ws st=R at hR ⊢;generalize pZ ws js st=b1 at*;generalize pZ ws jH st=b2 at*;generalize jD 255 ws st=q at*;generalize av ws st=r at*;have c13:=To v1;have zz:JG g A n c Hb R (.val (Hb (Gg b1 b2 (6,r.2) (17,r.2) q).1)) [(g,114,fy A n c (Gg b1 b2 (6,r.2) (17,r.2) q).2)]:=by rw[hR];exact⟨rfl,rfl⟩
 have CH:=WN c4 (kz.mk (b:=b1) (fun _=>WN c6 zz) (fun _=>WN c8 (kz.mk (b:=b2) (fun _=>WN c6 zz) (fun _=>Sx.t2 c12 c13 zz))));refine fh [] h.bO [(4,.du 0 (fy A n c st) (.bool b1)),(6,.du 0 (fy A n c r.2) (ae r.1)),(8,.du 0 (fy A n c st) (.bool b2)),(10,.du 0 (fy A n c r.2) (ae r.1)),(12,.du 0 (fy A n c q.2) (pR q.1)),(13,.is (Hb q.1))] [] (by kernel_rfl) func158 rfl (bU rfl) ?_;cases b1<;>cases b2<;>exact WT (by kernel_rfl) CH
def ug(x:Bs):Int:=match lq x with
 |some k=>(k:Int)
 |none => -1
theorem PQ(x:Bs):∀i,i < 6→(wN[i]?=some x→lq x=some i)
 | 0,_,h=>by cases h;rfl
 | 1,_,h=>by cases h;rfl
 | 2,_,h=>by cases h;rfl
 | 3,_,h=>by cases h;rfl
 | 4,_,h=>by cases h;rfl
 | 5,_,h=>by cases h;rfl
theorem Ml{x:Bs}(h:∀i,i < 6→wN[i]?≠some x):lq x=none:=by unfold lq;rw[if_neg (fun e=>h 0 (by omega) (by rw[e];rfl)),if_neg (fun e=>h 1 (by omega) (by rw[e];rfl)),if_neg (fun e=>h 2 (by omega) (by rw[e];rfl)),if_neg (fun e=>h 3 (by omega) (by rw[e];rfl)),if_neg (fun e=>h 4 (by omega) (by rw[e];rfl)),if_neg (fun e=>h 5 (by omega) (by rw[e];rfl))]
def EZ(x:Bs)(i:Nat):List (Nat×Sx.SV):=[(0,.val (ae x)),(3,.own 0),(4,.val (.int .i64 (i:Int)))]
def wV:List Sx.Row:=[⟨9,.own 1 6 (strs wN)⟩]
def U7(x:Bs)(i:Nat):Prop:=i≤6∧∀j,j < i→wN[j]?≠some x
theorem RD(x:Bs)(T:Value)(hT:T=.int .i64 (ug x))(w:World)(i:Nat)(hi:U7 x i):∃H' L',Sx.ex prog f156.ntmps w (Sx.bq f156 0) H' L' ⟨EZ x i,wV⟩
  (Sx.dP (U7 x) (EZ x) (fun _=>wV) (fun i=>i+1) (fun i=>8 - i) (fun(_:Unit)=>lq x=none) (fun _=>[]) (fun _=>[]) (fun _=>()) (Sx.eo (Sx.bq f156 0) - 1) (Sx.atEnd prog f156 (fun v=>v=T) .ret) i):=by
 have hi1:=hi.1;by_cases hlt:i < 6
 ·have c9:=bT ((i:Int) < 6) (by omega)
  obtain⟨k,hk⟩:∃k,wN[i]?=some k:=⟨_,W3 (show i < wN.length from hlt)⟩;have c14:(0:Int)≤(i:Int)∧(i:Int) < ((6:Nat):Int):=⟨by omega,by omega⟩;have c15:(strs wN)[(i:Int).toNat*1]?=some (ae k):=by rw[XG];exact Rh hk
  have c17:=fun W=>eX (.tmp 15) (.tmp 16) k x _ rfl W;have gb:=mY (i:=i) (by omega);by_cases hx:k=x
  ·rw[decide_eq_true hx]at c17
   have z0:WQ .i64 (i:Int)=T:=by rw[hT];unfold ug;rw[PQ x i hlt (by rw[hk,hx])]
   refine⟨[(9,.is (.bool true)),(14,.ix),(15,.ld (ae k)),(17,.bin (.bool true))],[],?_⟩;exact WT (by kernel_rfl) (Sx.t4 c9 c14 c15 c17 z0)
  ·rw[decide_eq_false hx]at c17
   have h0:U7 x (i+1):=⟨hlt,fun j hj=>by
    by_cases hji:j=i
    ·rw[hji,hk];exact fun e=>hx (Xf.inj e)
    ·exact hi.2 j (by omega)⟩
   have h1:8 - (i+1) < 8 - i:=by omega
   have h2:EZ x (i+1)=EZ x (i+1):=rfl;have z3:wV=wV:=rfl;refine⟨[(9,.is (.bool true)),(14,.ix),(15,.ld (ae k)),(17,.bin (.bool false)),(11,.is (.int .i64 ((i+1:Nat):Int)))],[],?_⟩;exact WT (by kernel_rfl) (Sx.t8 c9 c14 c15 c17 gb h0 h1 h2 z3)
 ·have c9:=bF ((i:Int) < 6) (by omega)
  have h0:lq x=none:=Ml fun j hj=>hi.2 j (by omega);have h1:([]:List (Nat×Sx.SV))=[]:=rfl;have z2:([]:List Sx.Row)=[]:=rfl;refine⟨[(9,.is (.bool false))],[],?_⟩;exact WT (by kernel_rfl) (Sx.t2 c9 h0 (WN h1 z2))
theorem gN(x:Bs)(w:World):Calls prog 156 #[ae x] w (Rn w (.int .i64 (ug x))):=by have c5:=fun W (_:ai [] w W)=>Ib W;have jz:=RD x (.int .i64 (ug x)) rfl w;have h0:U7 x 0:=⟨WU _,fun j hj=>by omega⟩;have e1:EZ x 0=EZ x 0∧wV=wV:=⟨rfl,rfl⟩;have z5f:=fun(_:Unit) (h:lq x=none)=>(show WQ .i64 (-1)=.int .i64 (ug x)from by unfold ug;rw[h]);refine Sx.ao (args:=[ae x]) [(5,.bS (.sl 9 1 6 (strs wN)))] [.mk Nat 0 (U7 x) (EZ x) (fun _=>wV) (fun i=>i+1) (fun i=>8 - i) Unit (fun _=>lq x=none) (fun _=>[]) (fun _=>[]) (fun _=>())] (by kernel_rfl) func156 rfl (bU rfl) ?_;exact WT (by kernel_rfl) (Sx.t4 c5 h0 e1 jz (fun(x3:Unit) (hx4:lq x=Option.none)=>(z5f x3 hx4)))
open Go Go.RowKit Go.Lib Go.Sort
def NQ{α:Type}(q:RA α):Prop:=∀st:RS,(q st).2.e=0→st.e=0∧st.at_≤(q st).2.at_
theorem sC{ws:List Bs}(st:RS)(h:(av ws st).2.e=0):st.e=0∧(av ws st).2.at_=st.at_+1:=by
 cases he:WS st.e 0 with
 |false=>rw[F5 he]at h;have h:st.e=0:=h;rw[h]at he;cases he
 |true=>
  rw[F4 he]at h ⊢;cases hx:ws[st.at_]? with
  |none=>rw[hx]at h;cases h
  |some x=>exact⟨WR he,rfl⟩
theorem nT(ws:List Bs):NQ (av ws):=fun st h=>⟨(sC st h).1,by rw[(sC st h).2];exact Nat.le_succ _⟩
theorem Hq{code:Nat}(hc:code≠0)(st:RS)(h:(ee code st).e=0):False:=by
 unfold ee at h;cases he:WS st.e 0 with
 |false=>rw[he]at h;have h:st.e=0:=h;rw[h]at he;cases he
 |true=>rw[he]at h;exact hc h
theorem zP{α:Type}{ok:Bool}{code:Nat}{a:α}(hc:code≠0):NQ (xH ok code a):=fun st h=>by
 cases ok with
 |true=>exact⟨h,Xo _⟩
 |false=>exact(Hq hc st h).elim
theorem lJ{α:Type}{a:α}:NQ (pW a):=fun _ h=>⟨h,Xo _⟩
theorem gQ{α β:Type}{q:RA α}{f:α→RA β}(h:NQ q)(hf:∀a,NQ (f a)):NQ (j6 q f):=fun st hh=>by obtain⟨h1,h2⟩:=hf _ _ hh;obtain⟨h3,h4⟩:=h st h1;exact⟨h3,W6 h4 h2⟩
theorem H3(ws:List Bs):NQ (e8 ws):=fun st h=>by
 unfold e8 at h ⊢;cases h1:pZ ws js st with
 |true=>rw[h1]at h;exact nT ws st h
 |false=>
  rw[h1]at h;cases h2:pZ ws jH st with
  |true=>rw[h2]at h;exact nT ws st h
  |false=>rw[h2]at h;exact gQ (nT ws) (fun _=>zP (by decide)) st h
theorem ve(ws:List Bs):NQ (eD ws):=gQ (nT ws) fun _=>zP (by decide)
theorem vh(ws:List Bs):NQ (dL ws):=gQ (nT ws) fun _=>zP (by decide)
theorem Hz(k:Nat)(m:Mt)(ws:List Bs):NQ (lg k m ws):=by
 rcases k with _|_|_|_|_|k
 ·exact gQ (ve ws) fun _=>lJ
 ·exact gQ (vh ws) fun _=>lJ
 ·exact gQ (vh ws) fun _=>lJ
 ·exact gQ (H3 ws) fun _=>lJ
 ·exact gQ (ve ws) fun _=>lJ
 ·exact gQ (ve ws) fun _=>lJ
theorem Hy{n:Nat}(k:Nat)(m:Mt){ws:List Bs}(h:ws.length=n):JH n (lg k m ws):=by
 rcases k with _|_|_|_|_|k
 ·exact gP (vd h) fun _=>lI
 ·exact gP (vg h) fun _=>lI
 ·exact gP (vg h) fun _=>lI
 ·exact gP (HQ h) fun _=>lI
 ·exact gP (vd h) fun _=>lI
 ·exact gP (vd h) fun _=>lI
theorem vf(ws:List Bs)(st:RS):(eD ws st).1.1≤65535∧(eD ws st).1.2≤65535:=⟨j0,j0⟩
theorem H5(ws:List Bs)(st:RS):(e8 ws st).1≤255:=by
 unfold e8;cases pZ ws js st with
 |true=>exact(by decide:6≤255)
 |false=>
  cases pZ ws jH st with
  |true=>exact(by decide:17≤255)
  |false=>exact j0
theorem BA(k:Nat){m:Mt}{ws:List Bs}{st:RS}(hm:m.Good):(lg k m ws st).1.Good:=by
 obtain⟨hw,ha⟩:=hm;rcases k with _|_|_|_|_|k
 ·exact⟨{ hw with fE:=vf ws st },ha⟩
 ·exact⟨{ hw with sn:=(vt _).1,sk:=(vt _).2 },ha⟩
 ·exact⟨{ hw with dn:=(vt _).1,dk:=(vt _).2 },ha⟩
 ·exact⟨{ hw with pr:=H5 ws st },ha⟩
 ·exact⟨{ hw with sp:=vf ws st },ha⟩
 ·exact⟨{ hw with dp:=vf ws st },ha⟩
theorem O6{m:Mt}{k:Nat}(hm:m.Good)(hk:k < 6):({ m with asks:=m.asks|||2^k }:Mt).Good:=by have:m.asks|||2^k < 2^6:=Nat.or_lt_two_pow hm.2 (Nat.pow_lt_pow_right (by omega) hk);exact⟨{ hm.1 with asks:=by show m.asks|||2^k < 256;omega },this⟩
theorem tq{ws:List Bs}{m:Mt}{st:RS}(hm:m.Good):(aP ws m st).1.1.Good:=by
 unfold aP;cases h:lq (av ws st).1 with
 |none=>exact hm
 |some k=>
  simp only;cases m.asks.testBit k with
  |true=>exact hm
  |false=>exact BA k (O6 hm (wM h))
theorem rf{ws:List Bs}:∀(f:Nat) {m:Mt} {st:RS},m.Good→(db ws f m st).1.Good
 | 0,_,_,hm=>hm
 |f+1,m,st,hm=>by
  have h:=tq (ws:=ws) (st:=st) hm;unfold db;cases(aP ws m st).1.2 with
  |false=>exact h
  |true=>
   simp only;cases jy ws (aP ws m st).2 with
   |true=>exact rf f h
   |false=>exact h
theorem tn(ws:List Bs)(st:RS):(e9 ws st).1.Good:=by
 unfold e9;cases pZ ws gD st with
 |true=>exact j8
 |false=>exact rf _ j8
theorem yi{n:Nat}{ws:List Bs}(h:ws.length=n)(m:Mt){st:RS}(h1:st.at_≤n)(h2:st.e≤1000):(aP ws m st).2.at_≤n∧(aP ws m st).2.e≤1000:=by
 obtain⟨h3,h4⟩:=cF h st h1 h2;unfold aP;cases lq (av ws st).1 with
 |none=>exact sw (by decide) h3 h4
 |some k=>
  simp only;cases m.asks.testBit k with
  |true=>exact sw (by decide) h3 h4
  |false=>exact Hy k _ h _ h3 h4
theorem vm{n:Nat}{ws:List Bs}(h:ws.length=n):∀(f:Nat) (m:Mt),JH n (db ws f m)
 | 0,_=>fun _ h1 h2=>⟨h1,h2⟩
 |f+1,m=>fun st h1 h2=>by
  obtain⟨h3,h4⟩:=yi h m h1 h2;unfold db;cases(aP ws m st).1.2 with
  |false=>exact⟨h3,h4⟩
  |true=>
   simp only;cases jy ws (aP ws m st).2 with
   |true=>exact vm h f _ _ h3 h4
   |false=>exact⟨h3,h4⟩
theorem Ia{n:Nat}{ws:List Bs}(h:ws.length=n):JH n (e9 ws):=fun st h1 h2=>by
 unfold e9;cases pZ ws gD st with
 |true=>exact cF h st h1 h2
 |false=>exact vm h _ _ st h1 h2
structure MS where
 first:Bool
 m:Mt
 st:RS
 f:Nat
def MS.cond(ws:List Bs)(k:MS):Bool:=k.first||jy ws k.st
noncomputable def MS.out(ws:List Bs)(k:MS):Mt×RS:=match k.cond ws with
 |true=>db ws k.f k.m k.st
 |false=>(k.m,k.st)
noncomputable def MS.nx(ws:List Bs)(k:MS):MS:=⟨false,(aP ws k.m k.st).1.1,(aP ws k.m k.st).2,k.f - 1⟩
structure xz(n:Nat)(ws:List Bs)(R:Mt×RS)(k:MS):Prop where
 le:k.st.at_≤n
 eb:k.st.e≤1000
 wD:k.m.Good
 fu:k.st.e=0→n+1≤k.f+k.st.at_
 fp:k.first=true→1≤k.f
 eq:k.out ws=R
theorem xz.pos{n:Nat}{ws:List Bs}{R:Mt×RS}{k:MS}(_hn:ws.length=n)(h:xz n ws R k)(hc:k.cond ws=true):1≤k.f:=by
 cases hf:k.first with
 |true=>exact h.fp hf
 |false=>unfold MS.cond at hc;rw[hf,Xz]at hc;unfold jy at hc;rw[W0]at hc;have he:=WR hc.1;have h1:=h.fu he;have h2:=h.le;omega
theorem xz.stop{n:Nat}{ws:List Bs}{R:Mt×RS}{k:MS}(hn:ws.length=n)(h:xz n ws R k)(hc:k.cond ws=true)(hs:(aP ws k.m k.st).1.2=false):R=((aP ws k.m k.st).1.1,(aP ws k.m k.st).2):=by have h1:=h.pos hn hc;have h2:=h.eq;unfold MS.out at h2;rw[hc]at h2;obtain⟨f,hf⟩:∃f,k.f=f+1:=⟨k.f - 1,by omega⟩;rw[hf]at h2;unfold db at h2;rw[hs]at h2;exact h2.symm
theorem xz.next{n:Nat}{ws:List Bs}{R:Mt×RS}{k:MS}(hn:ws.length=n)(h:xz n ws R k)(hc:k.cond ws=true)(hs:(aP ws k.m k.st).1.2=true):xz n ws R (k.nx ws)∧(k.nx ws).f < k.f:=by
 have h1:=h.pos hn hc;have h2:=h.eq;unfold MS.out at h2;rw[hc]at h2;obtain⟨f,hf⟩:∃f,k.f=f+1:=⟨k.f - 1,by omega⟩;rw[hf]at h2;unfold db at h2;rw[hs]at h2;obtain⟨h3,h4⟩:=yi hn k.m h.le h.eb;refine⟨⟨h3,h4,tq h.wD,fun he=>?_,(fun hh=>by cases hh),?_⟩,by show k.f - 1 < k.f; omega⟩
 ·
  have he:(aP ws k.m k.st).2.e=0:=he;show n+1≤(k.f - 1)+(aP ws k.m k.st).2.at_;have key:k.st.e=0∧k.st.at_+1≤(aP ws k.m k.st).2.at_:=by
   unfold aP at he hs ⊢;cases hx:lq (av ws k.st).1 with
   |none=>rw[hx]at hs;cases hs
   |some j=>
    rw[hx]at he hs;simp only at he hs ⊢;cases hb:k.m.asks.testBit j with
    |true=>rw[hb]at hs;cases hs
    |false=>rw[hb]at he;obtain⟨h5,h6⟩:=Hz j _ ws _ he;obtain⟨h7,h8⟩:=sC k.st h5;rw[h8]at h6;exact⟨h7,h6⟩
  have:=h.fu key.1;omega
 ·show(match false||jy ws (aP ws k.m k.st).2 with|true=>db ws (k.f - 1) _ _|false=>_)=R
  rw[Xz,hf];exact h2
theorem xz.done{n:Nat}{ws:List Bs}{R:Mt×RS}{k:MS}(h:xz n ws R k)(hc:k.cond ws=false):R=(k.m,k.st):=by have h2:=h.eq;unfold MS.out at h2;rw[hc]at h2;exact h2.symm
set_option maxRecDepth 100000
open Go Go.RowKit Go.Lib Go.Sort _root_.Go.Proofs.Tryz
set_option maxRecDepth 100000
def Cb(b0:Bool):List (Nat×Sx.SV):=[(0,.ptr 0 0),(2,.ptr 1 0),(3,.ptr 2 0),(4,.val (.bool b0))]
def ll(g:Nat)(A:Option Go.Addr)(n c:Nat)(st:RS)(m:Mt):List Sx.Row:=[⟨114,.cR g (fy A n c st)⟩,⟨66,.aj ei.cells⟩,⟨66,.aj m.cells⟩]
theorem mD(x y:Operand):∀(j:Nat),j < 6→∀W:World,(do eqGuard .shl 5 x y (.int .u8 1) (.int .i64 (j:Int));binOp .shl 5 (.int .u8 1) (.int .i64 (j:Int)):Sem Value).run prog W=.ok (.int .u8 ((2^j:Nat):Int)) W
 | 0,_,_=>by kernel_rfl
 | 1,_,_=>by kernel_rfl
 | 2,_,_=>by kernel_rfl
 | 3,_,_=>by kernel_rfl
 | 4,_,_=>by kernel_rfl
 | 5,_,_=>by kernel_rfl
theorem iB{x:Bs}{j:Nat}(h:lq x=some j):ug x=(j:Int):=by unfold ug;rw[h]
theorem jJ(x:Bs):WO (decide (ug x≥0))=.bool (lq x).isSome:=by
 unfold ug;cases lq x with
 |none=>rfl
 |some k=>exact qI (decide_eq_true (Int.natCast_nonneg k))
theorem KE{ws:List Bs}{st:RS}{y:Bs}(h:ws[st.at_]?=some y):jy ws st=(WS st.e 0&&(true&&(lq y).isSome)):=by unfold jy;rw[h,Bool.true_and]
theorem KD{ws:List Bs}{st:RS}(h:ws[st.at_]?=none):jy ws st=(WS st.e 0&&(false&&false)):=by unfold jy;rw[h,Xh]
structure ns(w:World)(g:Nat)(A:Option Go.Addr)(n c:Nat)(ws:List Bs)(st:RS)(lt fo:Bool)(p:Value)(y:Bs)(v:Int):Prop where
 more:jy ws st=(WS st.e 0&&(lt&&fo))
 nr:WO (decide ((st.at_:Int) < (n:Int)))=.bool lt
 c40:lt=true→∀W,ai [g] w W→(Instr.indexAt 70 (.slice A n c) (.int .i64 (st.at_:Int))).run prog W=.ok p W
 QZ:lt=true→∀W,ai [g] w W→(Instr.loadAt 9 p).run prog W=.ok (ae y) W
 uh:lt=true→∀W,ai [g] w W→Calls prog 156 #[ae y] W (Rn W (.int .i64 v))
 Fm:lt=true→WO (decide (v≥0))=.bool fo
theorem Ut{w:World}{g:Nat}{A:Option Go.Addr}{n c:Nat}{st0 st:RS}{ws:List Bs}(h:pI w [g] g A n c st0 ws)(hl:st.at_≤n):∃lt fo p y v,ns w g A n c ws st lt fo p y v:=by
 have hlen:=h.jw.len;cases hx:ws[st.at_]? with
 |none=>
  have hi:st.at_=n:=by have:=List.getElem?_eq_none_iff.1 hx;omega
  exact⟨false,false,undef,[],0,KD hx,qa (decide_eq_false (by omega)),(fun h=>by cases h),(fun h=>by cases h),(fun h=>by cases h),(fun h=>by cases h)⟩
 |some y=>
  have hi:st.at_ < n:=by rw[←hlen];exact(Xg.1 hx).1
  obtain⟨p,hp1,hp2⟩:=h.jw.at (c:=c) hx;exact⟨true,_,p,y,ug y,KE hx,qI (decide_eq_true (by omega)),fun _ W _=>hp1 W,fun _=>hp2,fun _ W _=>gN y W,fun _=>jJ y⟩
abbrev mK(n:Nat)(ws:List Bs)(g:Nat)(A:Option Go.Addr)(c:Nat)(R:Mt×RS):=Sx.dP (xz n ws R) (fun k=>Cb k.first) (fun k=>ll g A n c k.st k.m) (MS.nx ws) (fun k=>k.f) (fun(_:Unit)=>True) (fun _=>[(2,.ptr 1 0),(3,.ptr 2 0)]) (fun _=>ll g A n c R.2 R.1) (fun _=>()) (Sx.eo (Sx.bq f95 0) - 1) (Sx.qJ prog f95 (JG g A n c fQ R) .ret)
abbrev mX(w:World)(g:Nat)(A:Option Go.Addr)(n c:Nat)(ws:List Bs)(R:Mt×RS)(k:MS):Prop:=∃H' L',Sx.ky prog f95.ntmps (VO w g) (Sx.bq f95 0) H' L' ⟨Cb k.first,ll g A n c k.st k.m⟩ (mK n ws g A c R k)
def mH(e0 lt fo:Bool)(p:Value)(y:Bs)(v:Int):List (Nat×Sx.Hint):=[(18,.is (.bool e0)),(29,.is (.bool lt)),(40,.any p),(41,.any (ae y)),(42,.call (.int .i64 v)),(43,.is (.bool fo))]
abbrev V6(w:World)(g:Nat)(A:Option Go.Addr)(n c:Nat)(st:RS)(b0 e0 lt fo:Bool)(p:Value)(y:Bs)(v:Int)(Y Z:Prop):Prop:=
 cy b0 (WO ((st.e:Int)==0)=.bool e0) (cy (b0||!e0) (WO (decide ((st.at_:Int) < (n:Int)))=.bool lt) (cy (b0||!e0||!lt) (∀W,ai [g] w W→(Instr.indexAt 70 (.slice A n c) (.int .i64 (st.at_:Int))).run prog W=.ok p W) (cy (b0||!e0||!lt) (∀W,ai [g] w W→(Instr.loadAt 9 p).run prog W=.ok (ae y) W)
  (cy (b0||!e0||!lt) (∀W,ai [g] w W→Calls prog 156 #[ae y] W (Rn W (.int .i64 v))) (cy (b0||!e0||!lt) (WO (decide (v≥0))=.bool fo) (kz (b0||(e0&&(lt&&fo))) Y Z))))))
theorem BX{w:World}{g:Nat}{A:Option Go.Addr}{n c:Nat}{ws:List Bs}{st:RS}{b0 e0 lt fo:Bool}{p:Value}{y:Bs}{v:Int}{Y Z:Prop}(t:ns w g A n c ws st lt fo p y v)(he:WS st.e 0=e0)(hy:(b0||(e0&&(lt&&fo)))=true→Y)(hz:(b0||(e0&&(lt&&fo)))=false→Z):V6 w g A n c st b0 e0 lt fo p y v Y Z:=by
 have k:(b0||!e0||!lt)=false→lt=true:=fun h=>by revert h;cases b0<;>cases e0<;>cases lt<;>decide
 exact cy.mk (fun _=>he ▸ UL st.e) (cy.mk (fun _=>t.nr) (cy.mk (fun h=>t.c40 (k h)) (cy.mk (fun h=>t.QZ (k h)) (cy.mk (fun h=>t.uh (k h)) (cy.mk (fun h=>t.Fm (k h)) (kz.mk hy hz))))))
section
variable{w:World}{g:Nat}{A:Option Go.Addr}{n c:Nat}{st0:RS}{ws:List Bs}{R:Mt×RS}{k:MS}{lt fo:Bool}{p:Value}{y:Bs}{v:Int}
theorem rB(t:ns w g A n c ws k.st lt fo p y v):k.cond ws=(k.first||(WS k.st.e 0&&(lt&&fo))):=by unfold MS.cond;rw[t.more]
theorem tF(t:ns w g A n c ws k.st lt fo p y v)(hk:xz n ws R k)(hc:(k.first||(WS k.st.e 0&&(lt&&fo)))=false):True∧([(2,.ptr 1 0),(3,.ptr 2 0)]:List (Nat×Sx.SV))=[(2,.ptr 1 0),(3,.ptr 2 0)]∧ll g A n c k.st k.m=ll g A n c R.2 R.1:=
 ⟨trivial,rfl,by rw[hk.done ((rB t).trans hc)]⟩
theorem OC(h:pI w [g] g A n c st0 ws)(hk:xz n ws R k)(t:ns w g A n c ws k.st lt fo p y v)(hf:lq (av ws k.st).1=none):mX w g A n c ws R k:=by
 have hx:=fun hc=>hk.stop h.jw.len ((rB t).trans hc) (by unfold aP;rw[hf]);have ex:=tF t hk;have c47:=nD h hk.le hk.eb fun W hW=>jE hW;obtain⟨h1,h2⟩:=cF h.jw.len _ hk.le hk.eb;have c63:=oW 200 h h1 h2 lK;have c48:=fun W (_:ai [g] w W)=>gN (av ws k.st).1 W;have c50:=jJ (av ws k.st).1;rw[hf]at c50;have hR:aP ws k.m k.st=((k.m,false),ee 200 (av ws k.st).2):=by unfold aP;rw[hf]
 obtain⟨b0,m,st,f⟩:=k;dsimp only at*;rw[hR]at hx;generalize av ws st=r at*;have he:∃e0,WS st.e 0=e0:=⟨_,rfl⟩;obtain⟨e0,he⟩:=he;rw[he]at hx ex;have CH:=BX (b0:=b0) t he (fun hc=>Sx.t4 c47 c48 c50 (rfl:WO ((0:Int)==0)=.bool true) (WN c63 (show JG g A n c fQ R (.val (fQ m)) [(g,114,fy A n c (ee 200 r.2))]from by rw[hx hc];exact⟨rfl,rfl⟩))) ex;refine⟨mH e0 lt fo p y v++[(47,.du 0 (fy A n c r.2) (ae r.1)),(48,.call (.int .i64 (ug r.1))),(50,.is (.bool false)),(54,.is (.bool true)),(63,.du 0 (fy A n c (ee 200 r.2)) (.tuple #[]))],[],?_⟩;cases b0<;>cases e0<;>cases lt<;>cases fo<;>exact WT (by kernel_rfl) CH
theorem KG(h:pI w [g] g A n c st0 ws)(hk:xz n ws R k)(t:ns w g A n c ws k.st lt fo p y v){j:Nat}(hf:lq (av ws k.st).1=some j)(hb:k.m.asks.testBit j=true):mX w g A n c ws R k:=by
 have hj:=wM hf;have ha:=hk.wD.2;have hR:aP ws k.m k.st=((k.m,false),ee 200 (av ws k.st).2):=by unfold aP;rw[hf];simp only;rw[hb]
 have hx:=fun hc=>hk.stop h.jw.len ((rB t).trans hc) (by rw[hR]);have ex:=tF t hk;have c47:=nD h hk.le hk.eb fun W hW=>jE hW;obtain⟨h1,h2⟩:=cF h.jw.len _ hk.le hk.eb;have c63:=oW 200 h h1 h2 lK;have c48:=fun W (_:ai [g] w W)=>gN (av ws k.st).1 W;have c50:=jJ (av ws k.st).1;rw[iB hf]at c48 c50;rw[hf]at c50;have c52:=mD (.const (.int .u8 1)) (.tmp 51) j hj;have c54:WO (((2^j:Nat):Int)==0)=.bool false:=qa (by rw[beq_eq_false_iff_ne];have:=Nat.pow_pos (n:=j) (show 0 < 2 by omega);omega);have c60:WO (bits .and .u8 (k.m.asks:Int) ((2^j:Nat):Int) !=0)=.bool true:=by show WO (!(bits .and .u8 (k.m.asks:Int) ((2^j:Nat):Int)==0))=_;rw[kU ha j hj,hb];rfl
 obtain⟨b0,m,st,f⟩:=k;dsimp only at*;rw[hR]at hx;generalize av ws st=r at*;generalize 2^j=pj at*;have he:∃e0,WS st.e 0=e0:=⟨_,rfl⟩;obtain⟨e0,he⟩:=he;rw[he]at hx ex;have CH:=BX (b0:=b0) t he (fun hc=>Sx.t4 c47 c48 c50 c52 (Sx.t2 c54 c60 (WN c63 (show JG g A n c fQ R (.val (fQ m)) [(g,114,fy A n c (ee 200 r.2))]from by rw[hx hc];exact⟨rfl,rfl⟩)))) ex;refine⟨mH e0 lt fo p y v++[(47,.du 0 (fy A n c r.2) (ae r.1)),(48,.call (.int .i64 (j:Int))),(50,.is (.bool true)),(52,.bin (.int .u8 (pj:Int))),(54,.is (.bool false)),(60,.is (.bool true)),(63,.du 0 (fy A n c (ee 200 r.2)) (.tuple #[]))],[],?_⟩;cases b0<;>cases e0<;>cases lt<;>cases fo<;>exact WT (by kernel_rfl) CH
theorem TO(h:pI w [g] g A n c st0 ws)(hk:xz n ws R k)(t:ns w g A n c ws k.st lt fo p y v)(hf:lq (av ws k.st).1=some 0)(hb:k.m.asks.testBit 0=false):mX w g A n c ws R k:=by
 have ha:=hk.wD.2;have hR:aP ws k.m k.st=((({ { k.m with asks:=k.m.asks|||2^0 }with fE:=(eD ws (av ws k.st).2).1 }:Mt),true),(eD ws (av ws k.st).2).2):=by unfold aP;rw[hf];simp only;rw[hb];rfl
 have hx:=fun hc=>hk.next h.jw.len ((rB t).trans hc) (by rw[hR]);have ex:=tF t hk;have c47:=nD h hk.le hk.eb fun W hW=>jE hW;obtain⟨h1,h2⟩:=cF h.jw.len _ hk.le hk.eb;have c74:=nD h h1 h2 fun W hW=>zx hW;have c48:=fun W (_:ai [g] w W)=>gN (av ws k.st).1 W;have c50:=jJ (av ws k.st).1;rw[iB hf]at c48 c50;rw[hf]at c50;have c52:=mD (.const (.int .u8 1)) (.tmp 51) 0 (by omega);have c54:WO (((2^0:Nat):Int)==0)=.bool false:=rfl;have c60:WO (bits .and .u8 (k.m.asks:Int) ((2^0:Nat):Int) !=0)=.bool false:=by show WO (!(bits .and .u8 (k.m.asks:Int) ((2^0:Nat):Int)==0))=_;rw[kU ha 0 (by omega),hb];rfl
 have c68:WQ .u8 (bits .or .u8 (k.m.asks:Int) ((2^0:Nat):Int))=.int .u8 ((k.m.asks|||2^0:Nat):Int):=congrArg (WQ .u8) (qn ha 0 (by omega));have hnx:k.nx ws=⟨false,{ { k.m with asks:=k.m.asks ||| 2^0 }with fE:=(eD ws (av ws k.st).2).1 },(eD ws (av ws k.st).2).2,k.f - 1⟩:=by unfold MS.nx; rw[hR]
 clear hR;generalize av ws k.st=r at*;generalize eD ws r.2=q at*;generalize (2:Nat)^0=pj at c52 c54 c60 c68 hnx;generalize k.m.asks|||pj=aa at c68 hnx;have he:∃e0,WS k.st.e 0=e0:=⟨_,rfl⟩;obtain⟨e0,he⟩:=he;rw[he]at hx ex;have fe:Cb false=Cb (k.nx ws).first:=by rw[hnx]
 have me:ll g A n c q.2 { { k.m with asks:=aa }with fE:=q.1 }=ll g A n c (k.nx ws).st (k.nx ws).m:=by rw[hnx]
 have CH:=BX (b0:=k.first) t he (fun hc=>WN c47 (WN c48 (WN c50 (WN c52 (WN c54 (WN c60 (WN c68 (WN (rfl:WO ((0:Int)==0)=.bool true) (WN c74 (WN (hx hc).1 (WN (hx hc).2 (WN fe me)))))))))))) ex;clear hx ex fe me hnx;obtain⟨b0,m,st,f⟩:=k;refine⟨mH e0 lt fo p y v++[(47,.du 0 (fy A n c r.2) (ae r.1)),(48,.call (.int .i64 ((0:Nat):Int))),(50,.is (.bool true)),(52,.bin (.int .u8 (pj:Int))),(54,.is (.bool false)),(60,.is (.bool false)),(68,.is (.int .u8 (aa:Int))),(72,.is (.bool true)),(74,.du 0 (fy A n c q.2) (gF q.1))],[],?_⟩;cases b0<;>cases e0<;>cases lt<;>cases fo<;>exact WT (by kernel_rfl) CH
theorem TN(h:pI w [g] g A n c st0 ws)(hk:xz n ws R k)(t:ns w g A n c ws k.st lt fo p y v)(hf:lq (av ws k.st).1=some 1)(hb:k.m.asks.testBit 1=false):mX w g A n c ws R k:=by
 have ha:=hk.wD.2;have hR:aP ws k.m k.st=((({ { k.m with asks:=k.m.asks|||2^1 }with src:=(dL ws (av ws k.st).2).1 }:Mt),true),(dL ws (av ws k.st).2).2):=by unfold aP;rw[hf];simp only;rw[hb];rfl
 have hx:=fun hc=>hk.next h.jw.len ((rB t).trans hc) (by rw[hR]);have ex:=tF t hk;have c47:=nD h hk.le hk.eb fun W hW=>jE hW;obtain⟨h1,h2⟩:=cF h.jw.len _ hk.le hk.eb;have c79:=nD h h1 h2 fun W hW=>ye hW;have c48:=fun W (_:ai [g] w W)=>gN (av ws k.st).1 W;have c50:=jJ (av ws k.st).1;rw[iB hf]at c48 c50;rw[hf]at c50;have c52:=mD (.const (.int .u8 1)) (.tmp 51) 1 (by omega);have c54:WO (((2^1:Nat):Int)==0)=.bool false:=rfl;have c60:WO (bits .and .u8 (k.m.asks:Int) ((2^1:Nat):Int) !=0)=.bool false:=by show WO (!(bits .and .u8 (k.m.asks:Int) ((2^1:Nat):Int)==0))=_;rw[kU ha 1 (by omega),hb];rfl
 have c68:WQ .u8 (bits .or .u8 (k.m.asks:Int) ((2^1:Nat):Int))=.int .u8 ((k.m.asks|||2^1:Nat):Int):=congrArg (WQ .u8) (qn ha 1 (by omega));have hnx:k.nx ws=⟨false,{ { k.m with asks:=k.m.asks ||| 2^1 }with src:=(dL ws (av ws k.st).2).1 },(dL ws (av ws k.st).2).2,k.f - 1⟩:=by unfold MS.nx; rw[hR]
 clear hR;generalize av ws k.st=r at*;generalize dL ws r.2=q at*;generalize (2:Nat)^1=pj at c52 c54 c60 c68 hnx;generalize k.m.asks|||pj=aa at c68 hnx;have he:∃e0,WS k.st.e 0=e0:=⟨_,rfl⟩;obtain⟨e0,he⟩:=he;rw[he]at hx ex;have fe:Cb false=Cb (k.nx ws).first:=by rw[hnx]
 have me:ll g A n c q.2 { { k.m with asks:=aa }with src:=q.1 }=ll g A n c (k.nx ws).st (k.nx ws).m:=by rw[hnx]
 have CH:=BX (b0:=k.first) t he (fun hc=>WN c47 (WN c48 (WN c50 (WN c52 (WN c54 (WN c60 (WN c68 (WN (rfl:WO ((1:Int)==0)=.bool false) (WN (rfl:WO ((1:Int)==1)=.bool true) (WN c79 (WN (hx hc).1 (WN (hx hc).2 (WN fe me))))))))))))) ex;clear hx ex fe me hnx;obtain⟨b0,m,st,f⟩:=k;refine⟨mH e0 lt fo p y v++[(47,.du 0 (fy A n c r.2) (ae r.1)),(48,.call (.int .i64 ((1:Nat):Int))),(50,.is (.bool true)),(52,.bin (.int .u8 (pj:Int))),(54,.is (.bool false)),(60,.is (.bool false)),(68,.is (.int .u8 (aa:Int))),(72,.is (.bool false)),(77,.is (.bool true)),(79,.du 0 (fy A n c q.2) (lL q.1))],[],?_⟩;cases b0<;>cases e0<;>cases lt<;>cases fo<;>exact WT (by kernel_rfl) CH
theorem TM(h:pI w [g] g A n c st0 ws)(hk:xz n ws R k)(t:ns w g A n c ws k.st lt fo p y v)(hf:lq (av ws k.st).1=some 2)(hb:k.m.asks.testBit 2=false):mX w g A n c ws R k:=by
 have ha:=hk.wD.2;have hR:aP ws k.m k.st=((({ { k.m with asks:=k.m.asks|||2^2 }with dst:=(dL ws (av ws k.st).2).1 }:Mt),true),(dL ws (av ws k.st).2).2):=by unfold aP;rw[hf];simp only;rw[hb];rfl
 have hx:=fun hc=>hk.next h.jw.len ((rB t).trans hc) (by rw[hR]);have ex:=tF t hk;have c47:=nD h hk.le hk.eb fun W hW=>jE hW;obtain⟨h1,h2⟩:=cF h.jw.len _ hk.le hk.eb;have c84:=nD h h1 h2 fun W hW=>ye hW;have c48:=fun W (_:ai [g] w W)=>gN (av ws k.st).1 W;have c50:=jJ (av ws k.st).1;rw[iB hf]at c48 c50;rw[hf]at c50;have c52:=mD (.const (.int .u8 1)) (.tmp 51) 2 (by omega);have c54:WO (((2^2:Nat):Int)==0)=.bool false:=rfl;have c60:WO (bits .and .u8 (k.m.asks:Int) ((2^2:Nat):Int) !=0)=.bool false:=by show WO (!(bits .and .u8 (k.m.asks:Int) ((2^2:Nat):Int)==0))=_;rw[kU ha 2 (by omega),hb];rfl
 have c68:WQ .u8 (bits .or .u8 (k.m.asks:Int) ((2^2:Nat):Int))=.int .u8 ((k.m.asks|||2^2:Nat):Int):=congrArg (WQ .u8) (qn ha 2 (by omega));have hnx:k.nx ws=⟨false,{ { k.m with asks:=k.m.asks ||| 2^2 }with dst:=(dL ws (av ws k.st).2).1 },(dL ws (av ws k.st).2).2,k.f - 1⟩:=by unfold MS.nx; rw[hR]
 clear hR;generalize av ws k.st=r at*;generalize dL ws r.2=q at*;generalize (2:Nat)^2=pj at c52 c54 c60 c68 hnx;generalize k.m.asks|||pj=aa at c68 hnx;have he:∃e0,WS k.st.e 0=e0:=⟨_,rfl⟩;obtain⟨e0,he⟩:=he;rw[he]at hx ex;have fe:Cb false=Cb (k.nx ws).first:=by rw[hnx]
 have me:ll g A n c q.2 { { k.m with asks:=aa }with dst:=q.1 }=ll g A n c (k.nx ws).st (k.nx ws).m:=by rw[hnx]
 have CH:=BX (b0:=k.first) t he (fun hc=>WN c47 (WN c48 (WN c50 (WN c52 (WN c54 (WN c60 (WN c68 (WN (rfl:WO ((2:Int)==0)=.bool false) (WN (rfl:WO ((2:Int)==1)=.bool false) (WN (rfl:WO ((2:Int)==2)=.bool true) (WN c84 (WN (hx hc).1 (WN (hx hc).2 (WN fe me)))))))))))))) ex;clear hx ex fe me hnx;obtain⟨b0,m,st,f⟩:=k;refine⟨mH e0 lt fo p y v++[(47,.du 0 (fy A n c r.2) (ae r.1)),(48,.call (.int .i64 ((2:Nat):Int))),(50,.is (.bool true)),(52,.bin (.int .u8 (pj:Int))),(54,.is (.bool false)),(60,.is (.bool false)),(68,.is (.int .u8 (aa:Int))),(72,.is (.bool false)),(77,.is (.bool false)),(82,.is (.bool true)),(84,.du 0 (fy A n c q.2) (lL q.1))],[],?_⟩;cases b0<;>cases e0<;>cases lt<;>cases fo<;>exact WT (by kernel_rfl) CH
theorem TL(h:pI w [g] g A n c st0 ws)(hk:xz n ws R k)(t:ns w g A n c ws k.st lt fo p y v)(hf:lq (av ws k.st).1=some 3)(hb:k.m.asks.testBit 3=false):mX w g A n c ws R k:=by
 have ha:=hk.wD.2;have hR:aP ws k.m k.st=((({ { k.m with asks:=k.m.asks|||2^3 }with bc:=(e8 ws (av ws k.st).2).1 }:Mt),true),(e8 ws (av ws k.st).2).2):=by unfold aP;rw[hf];simp only;rw[hb];rfl
 have hx:=fun hc=>hk.next h.jw.len ((rB t).trans hc) (by rw[hR]);have ex:=tF t hk;have c47:=nD h hk.le hk.eb fun W hW=>jE hW;obtain⟨h1,h2⟩:=cF h.jw.len _ hk.le hk.eb;have c89:=nD h h1 h2 fun W hW=>Kz hW;have c48:=fun W (_:ai [g] w W)=>gN (av ws k.st).1 W;have c50:=jJ (av ws k.st).1;rw[iB hf]at c48 c50;rw[hf]at c50;have c52:=mD (.const (.int .u8 1)) (.tmp 51) 3 (by omega);have c54:WO (((2^3:Nat):Int)==0)=.bool false:=rfl;have c60:WO (bits .and .u8 (k.m.asks:Int) ((2^3:Nat):Int) !=0)=.bool false:=by show WO (!(bits .and .u8 (k.m.asks:Int) ((2^3:Nat):Int)==0))=_;rw[kU ha 3 (by omega),hb];rfl
 have c68:WQ .u8 (bits .or .u8 (k.m.asks:Int) ((2^3:Nat):Int))=.int .u8 ((k.m.asks|||2^3:Nat):Int):=congrArg (WQ .u8) (qn ha 3 (by omega));have hnx:k.nx ws=⟨false,{ { k.m with asks:=k.m.asks ||| 2^3 }with bc:=(e8 ws (av ws k.st).2).1 },(e8 ws (av ws k.st).2).2,k.f - 1⟩:=by unfold MS.nx; rw[hR]
 clear hR;generalize av ws k.st=r at*;generalize e8 ws r.2=q at*;generalize (2:Nat)^3=pj at c52 c54 c60 c68 hnx;generalize k.m.asks|||pj=aa at c68 hnx;have he:∃e0,WS k.st.e 0=e0:=⟨_,rfl⟩;obtain⟨e0,he⟩:=he;rw[he]at hx ex;have fe:Cb false=Cb (k.nx ws).first:=by rw[hnx]
 have me:ll g A n c q.2 { { k.m with asks:=aa }with bc:=q.1 }=ll g A n c (k.nx ws).st (k.nx ws).m:=by rw[hnx]
 have CH:=BX (b0:=k.first) t he (fun hc=>WN c47 (WN c48 (WN c50 (WN c52 (WN c54 (WN c60 (WN c68 (WN (rfl:WO ((3:Int)==0)=.bool false) (WN (rfl:WO ((3:Int)==1)=.bool false) (WN (rfl:WO ((3:Int)==2)=.bool false) (WN (rfl:WO ((3:Int)==3)=.bool true) (WN c89 (WN (hx hc).1 (WN (hx hc).2 (WN fe me))))))))))))))) ex;clear hx ex fe me hnx;obtain⟨b0,m,st,f⟩:=k;refine⟨mH e0 lt fo p y v++[(47,.du 0 (fy A n c r.2) (ae r.1)),(48,.call (.int .i64 ((3:Nat):Int))),(50,.is (.bool true)),(52,.bin (.int .u8 (pj:Int))),(54,.is (.bool false)),(60,.is (.bool false)),(68,.is (.int .u8 (aa:Int))),(72,.is (.bool false)),(77,.is (.bool false)),(82,.is (.bool false)),(87,.is (.bool true)),(89,.du 0 (fy A n c q.2) (Hb q.1))],[],?_⟩;cases b0<;>cases e0<;>cases lt<;>cases fo<;>exact WT (by kernel_rfl) CH
theorem TK(h:pI w [g] g A n c st0 ws)(hk:xz n ws R k)(t:ns w g A n c ws k.st lt fo p y v)(hf:lq (av ws k.st).1=some 4)(hb:k.m.asks.testBit 4=false):mX w g A n c ws R k:=by
 have ha:=hk.wD.2;have hR:aP ws k.m k.st=((({ { k.m with asks:=k.m.asks|||2^4 }with sp:=(eD ws (av ws k.st).2).1 }:Mt),true),(eD ws (av ws k.st).2).2):=by unfold aP;rw[hf];simp only;rw[hb];rfl
 have hx:=fun hc=>hk.next h.jw.len ((rB t).trans hc) (by rw[hR]);have ex:=tF t hk;have c47:=nD h hk.le hk.eb fun W hW=>jE hW;obtain⟨h1,h2⟩:=cF h.jw.len _ hk.le hk.eb;have c94:=nD h h1 h2 fun W hW=>zx hW;have c48:=fun W (_:ai [g] w W)=>gN (av ws k.st).1 W;have c50:=jJ (av ws k.st).1;rw[iB hf]at c48 c50;rw[hf]at c50;have c52:=mD (.const (.int .u8 1)) (.tmp 51) 4 (by omega);have c54:WO (((2^4:Nat):Int)==0)=.bool false:=rfl;have c60:WO (bits .and .u8 (k.m.asks:Int) ((2^4:Nat):Int) !=0)=.bool false:=by show WO (!(bits .and .u8 (k.m.asks:Int) ((2^4:Nat):Int)==0))=_;rw[kU ha 4 (by omega),hb];rfl
 have c68:WQ .u8 (bits .or .u8 (k.m.asks:Int) ((2^4:Nat):Int))=.int .u8 ((k.m.asks|||2^4:Nat):Int):=congrArg (WQ .u8) (qn ha 4 (by omega));have hnx:k.nx ws=⟨false,{ { k.m with asks:=k.m.asks ||| 2^4 }with sp:=(eD ws (av ws k.st).2).1 },(eD ws (av ws k.st).2).2,k.f - 1⟩:=by unfold MS.nx; rw[hR]
 clear hR;generalize av ws k.st=r at*;generalize eD ws r.2=q at*;generalize (2:Nat)^4=pj at c52 c54 c60 c68 hnx;generalize k.m.asks|||pj=aa at c68 hnx;have he:∃e0,WS k.st.e 0=e0:=⟨_,rfl⟩;obtain⟨e0,he⟩:=he;rw[he]at hx ex;have fe:Cb false=Cb (k.nx ws).first:=by rw[hnx]
 have me:ll g A n c q.2 { { k.m with asks:=aa }with sp:=q.1 }=ll g A n c (k.nx ws).st (k.nx ws).m:=by rw[hnx]
 have CH:=BX (b0:=k.first) t he (fun hc=>WN c47 (WN c48 (WN c50 (WN c52 (WN c54 (WN c60 (WN c68 (WN (rfl:WO ((4:Int)==0)=.bool false) (WN (rfl:WO ((4:Int)==1)=.bool false) (WN (rfl:WO ((4:Int)==2)=.bool false) (WN (rfl:WO ((4:Int)==3)=.bool false) (WN (rfl:WO ((4:Int)==4)=.bool true) (WN c94 (WN (hx hc).1 (WN (hx hc).2 (WN fe me)))))))))))))))) ex;clear hx ex fe me hnx;obtain⟨b0,m,st,f⟩:=k;refine⟨mH e0 lt fo p y v++[(47,.du 0 (fy A n c r.2) (ae r.1)),(48,.call (.int .i64 ((4:Nat):Int))),(50,.is (.bool true)),(52,.bin (.int .u8 (pj:Int))),(54,.is (.bool false)),(60,.is (.bool false)),(68,.is (.int .u8 (aa:Int))),(72,.is (.bool false)),(77,.is (.bool false)),(82,.is (.bool false)),(87,.is (.bool false)),(92,.is (.bool true)),(94,.du 0 (fy A n c q.2) (gF q.1))],[],?_⟩;cases b0<;>cases e0<;>cases lt<;>cases fo<;>exact WT (by kernel_rfl) CH
theorem TJ(h:pI w [g] g A n c st0 ws)(hk:xz n ws R k)(t:ns w g A n c ws k.st lt fo p y v)(hf:lq (av ws k.st).1=some 5)(hb:k.m.asks.testBit 5=false):mX w g A n c ws R k:=by
 have ha:=hk.wD.2;have hR:aP ws k.m k.st=((({ { k.m with asks:=k.m.asks|||2^5 }with dp:=(eD ws (av ws k.st).2).1 }:Mt),true),(eD ws (av ws k.st).2).2):=by unfold aP;rw[hf];simp only;rw[hb];rfl
 have hx:=fun hc=>hk.next h.jw.len ((rB t).trans hc) (by rw[hR]);have ex:=tF t hk;have c47:=nD h hk.le hk.eb fun W hW=>jE hW;obtain⟨h1,h2⟩:=cF h.jw.len _ hk.le hk.eb;have c99:=nD h h1 h2 fun W hW=>zx hW;have c48:=fun W (_:ai [g] w W)=>gN (av ws k.st).1 W;have c50:=jJ (av ws k.st).1;rw[iB hf]at c48 c50;rw[hf]at c50;have c52:=mD (.const (.int .u8 1)) (.tmp 51) 5 (by omega);have c54:WO (((2^5:Nat):Int)==0)=.bool false:=rfl;have c60:WO (bits .and .u8 (k.m.asks:Int) ((2^5:Nat):Int) !=0)=.bool false:=by show WO (!(bits .and .u8 (k.m.asks:Int) ((2^5:Nat):Int)==0))=_;rw[kU ha 5 (by omega),hb];rfl
 have c68:WQ .u8 (bits .or .u8 (k.m.asks:Int) ((2^5:Nat):Int))=.int .u8 ((k.m.asks|||2^5:Nat):Int):=congrArg (WQ .u8) (qn ha 5 (by omega));have hnx:k.nx ws=⟨false,{ { k.m with asks:=k.m.asks ||| 2^5 }with dp:=(eD ws (av ws k.st).2).1 },(eD ws (av ws k.st).2).2,k.f - 1⟩:=by unfold MS.nx; rw[hR]
 clear hR;generalize av ws k.st=r at*;generalize eD ws r.2=q at*;generalize (2:Nat)^5=pj at c52 c54 c60 c68 hnx;generalize k.m.asks|||pj=aa at c68 hnx;have he:∃e0,WS k.st.e 0=e0:=⟨_,rfl⟩;obtain⟨e0,he⟩:=he;rw[he]at hx ex;have fe:Cb false=Cb (k.nx ws).first:=by rw[hnx]
 have me:ll g A n c q.2 { { k.m with asks:=aa }with dp:=q.1 }=ll g A n c (k.nx ws).st (k.nx ws).m:=by rw[hnx]
 have CH:=BX (b0:=k.first) t he (fun hc=>WN c47 (WN c48 (WN c50 (WN c52 (WN c54 (WN c60 (WN c68 (WN (rfl:WO ((5:Int)==0)=.bool false) (WN (rfl:WO ((5:Int)==1)=.bool false) (WN (rfl:WO ((5:Int)==2)=.bool false) (WN (rfl:WO ((5:Int)==3)=.bool false) (WN (rfl:WO ((5:Int)==4)=.bool false) (WN (rfl:WO ((5:Int)==5)=.bool true) (WN c99 (WN (hx hc).1 (WN (hx hc).2 (WN fe me))))))))))))))))) ex;clear hx ex fe me hnx;obtain⟨b0,m,st,f⟩:=k;refine⟨mH e0 lt fo p y v++[(47,.du 0 (fy A n c r.2) (ae r.1)),(48,.call (.int .i64 ((5:Nat):Int))),(50,.is (.bool true)),(52,.bin (.int .u8 (pj:Int))),(54,.is (.bool false)),(60,.is (.bool false)),(68,.is (.int .u8 (aa:Int))),(72,.is (.bool false)),(77,.is (.bool false)),(82,.is (.bool false)),(87,.is (.bool false)),(92,.is (.bool false)),(97,.is (.bool true)),(99,.du 0 (fy A n c q.2) (gF q.1))],[],?_⟩;cases b0<;>cases e0<;>cases lt<;>cases fo<;>exact WT (by kernel_rfl) CH
theorem TI(h:pI w [g] g A n c st0 ws)(hk:xz n ws R k):mX w g A n c ws R k:=by
 obtain⟨lt,fo,p,y,v,t⟩:=Ut (st:=k.st) h hk.le;cases hf:lq (av ws k.st).1 with
 |none=>exact OC h hk t hf
 |some j=>
  cases hb:k.m.asks.testBit j with
  |true=>exact KG h hk t hf hb
  |false=>
   have hj:=wM hf;rcases j with _|_|_|_|_|_|j
   ·exact TO h hk t hf hb
   ·exact TN h hk t hf hb
   ·exact TM h hk t hf hb
   ·exact TL h hk t hf hb
   ·exact TK h hk t hf hb
   ·exact TJ h hk t hf hb
   ·omega
end
theorem KF{w:World}{S:List Nat}{g:Nat}{A:Option Go.Addr}{n c:Nat}{st:RS}{ws:List Bs}(h:pI w S g A n c st ws):Calls prog 95 #[.pointer (some ⟨g,0,none⟩)] w (ju g A n c fQ (e9 ws st) w):=by
 have h:=h.low;have hlen:=h.jw.len;have c8:=nD (st:=st) h h.le h.eb fun W hW=>KM hW gD;have c10:=vU h;have hin:∀R,db ws (ws.length+1 - st.at_) ei st=R→xz n ws R ⟨true,ei,st,ws.length+1 - st.at_⟩:=fun R hR=>⟨h.le,h.eb,j8,fun _=>by show n+1≤(ws.length+1 - st.at_)+st.at_; have:=h.le; omega,fun _=>by show 1≤ws.length+1 - st.at_; have:=h.le; omega,hR⟩;unfold e9;cases hb:pZ ws gD st with
 |true=>rw[hb]at c8;simp only;generalize av ws st=r at*;have zz:JG g A n c fQ (ei,r.2) (.val (fQ ei)) [(g,114,fy A n c r.2)]:=⟨rfl,rfl⟩;have CH:=Sx.t2 c8 c10 zz;refine fh [] h.bO [(8,.du 0 (fy A n c st) (.bool true)),(10,.du 0 (fy A n c r.2) (ae r.1))] [] (by kernel_rfl) func95 rfl (bU rfl) ?_;exact WT (by kernel_rfl) CH
 |false=>rw[hb]at c8;simp only;have h0:=hin _ rfl;generalize db ws (ws.length+1 - st.at_) ei st=R at *;generalize ws.length+1 - st.at_=f at *;have rd:∀k,xz n ws R k→mX w g A n c ws R k:=fun k hk=>TI h hk;obtain⟨mR,sR⟩:=R;have zz:JG g A n c fQ (mR,sR) (.val (fQ mR)) [(g,114,fy A n c sR)]:=⟨rfl,rfl⟩;have e1:Cb true=Cb true∧ll g A n c st ei=ll g A n c st ei:=⟨rfl,rfl⟩;have CH:=WN c8 (WN h0 (WN e1 (WN rd fun(_:Unit) (_:True)=>zz)));refine fh [] h.bO [(8,.du 0 (fy A n c st) (.bool false))] [.mk MS ⟨true,ei,st,f⟩ (xz n ws (mR,sR)) (fun k=>Cb k.first) (fun k=>ll g A n c k.st k.m) (MS.nx ws) (fun k=>k.f) Unit (fun _=>True) (fun _=>[(2,.ptr 1 0),(3,.ptr 2 0)]) (fun _=>ll g A n c sR mR) (fun _=>())] (by kernel_rfl) func95 rfl (bU rfl) ?_;exact WT (by kernel_rfl) CH
set_option maxRecDepth 100000
open Go Go.RowKit Go.Lib Go.Sort _root_.Go.Proofs.Tryz
set_option maxRecDepth 100000
def ui(n i:Nat):Nat:=if mb n i=true then 1 else 0
theorem Nd:∀x:Fin 256,bits .and .u8 (x.val:Int) 1=((x.val%2:Nat):Int):=by decide+kernel
theorem K4(v:Bool)(n i:Nat)(hi:i < 128)(w:World):Calls prog 203 #[.agg (b7 v n).toArray,.int .i64 (i:Int)] w (Rn w (.int .u8 (ui n i:Int))):=by
 obtain⟨x,hx⟩:∃x,ah n (i / 8)=x:=⟨_,rfl⟩;have hx2:x < 256:=by rw[←hx];exact aX n _
 have c6:WQ .i64 (W2.wrap ((i:Int).tdiv 8))=.int .i64 ((i / 8:Nat):Int):=iw (by rw[show(i:Int).tdiv 8=((i / 8:Nat):Int)from rfl,jC (by omega) (by omega)]);have c8:(0:Int)≤((i / 8:Nat):Int)∧((i / 8:Nat):Int) < 16:=⟨by omega,by omega⟩;have c9:(b7 v n)[0+1+((i / 8:Nat):Int).toNat*1]?=some (.int .u8 (x:Int)):=by rw[←hx,XG];exact AT v n (i / 8) (by omega)
 have gb:WQ .i64 ((i:Int).tmod 8)=.int .i64 ((i%8:Nat):Int):=rfl;have c12:WQ .i64 (W2.wrap (7 - ((i%8:Nat):Int)))=.int .i64 ((7 - i%8:Nat):Int):=iw (by rw[jC (by omega) (by omega)]; omega);have c13:=fun W=>Rp (.tmp 9) (.tmp 12) x (7 - i%8) (by omega) W;have c14:WQ .u8 (bits .and .u8 ((x / 2^(7 - i%8):Nat):Int) 1)=.int .u8 (ui n i:Int):=by
  have h:x / 2^(7 - i%8) < 256:=Xp (Xu _ _) hx2;rw[Nd ⟨x / 2^(7 - i%8),h⟩];congr 2;have:=Dq n i hi;rw[hx]at this;unfold ui;rw[←this];by_cases hb:x / 2^(7 - i%8)%2=1
  ·rw[decide_eq_true hb,if_pos rfl];exact hb
  ·rw[decide_eq_false hb,if_neg (by decide)]; show x / 2^(7 - i%8)%2=0; omega
 have z0:WQ .u8 (ui n i:Int)=.int .u8 (ui n i:Int):=rfl;refine Sx.ao (args:=[.agg (b7 v n).toArray,.int .i64 (i:Int)]) [(6,.is (.int .i64 ((i / 8:Nat):Int))),(8,.ix),(9,.ld (.int .u8 (x:Int))),(11,.is (.int .i64 ((i%8:Nat):Int))),(12,.is (.int .i64 ((7 - i%8:Nat):Int))),(13,.bin (.int .u8 ((x / 2^(7 - i%8):Nat):Int))),(14,.is (.int .u8 (ui n i:Int)))] [] (by kernel_rfl) func203 rfl (bU rfl) ?_;exact WT (by kernel_rfl) (Sx.t4 c6 c8 c9 gb (Sx.t2 c12 c13 (WN c14 z0)))
def noBits(n a b:Nat):Prop:=∀j,a≤j→j < b→mb n j=false
theorem yy{n a i:Nat}(h:noBits n a i)(hb:mb n i=false):noBits n a (i+1):=fun j h1 h2=>by
 by_cases hj:j=i
 ·rw[hj];exact hb
 ·exact h j h1 (by omega)
theorem gx{n k:Nat}(hk:k≤128):noBits n k 128↔cQ n k=n:=by
 rw[pw];constructor
 ·intro h j hj
  have:=h (127 - j) (by omega) (by omega);unfold mb at this;rwa [show 127 - (127 - j)=j by omega]at this
 ·intro h j h1 h2
  exact h (127 - j) (by omega)
def rm(i:Nat):List (Nat×Sx.SV):=[(1,.ptr 0 0),(3,.val (.int .i64 (i:Int)))]
def vA(v:Bool)(n:Nat):List Sx.Row:=[⟨24,.aj (b7 v n)⟩]
def Ub(v:Bool)(n i:Nat):Prop:=(32≤i∧i≤128)∧(v=true→i=32)∧noBits n 32 i
theorem Ua(v:Bool)(n:Nat)(w:World)(T:Value)(hT:T=.bool (iM v n))(i:Nat)(hi:Ub v n i):∃H' L',Sx.ex prog 17 w (Sx.bq f201 0) H' L' ⟨rm i,vA v n⟩
  (Sx.dP (Ub v n) rm (fun _=>vA v n) (fun i=>i+1) (fun i=>130 - i) (fun(_:Unit)=>iM v n=true) (fun _=>[]) (fun _=>[]) (fun _=>()) (Sx.eo (Sx.bq f201 0) - 1) (Sx.atEnd prog f201 (fun u=>u=T) .ret) i):=by
 obtain⟨⟨h32,h128⟩,hv,hz⟩:=hi;cases v with
 |true=>
  obtain rfl:=hv rfl;have h0:iM true n=true:=by unfold iM;rw[decide_eq_true_eq,←gx (eW true)];intro j h1 h2;have h1:128≤j:=h1;omega
  have h1:([]:List (Nat×Sx.SV))=[]:=rfl;have z2:([]:List Sx.Row)=[]:=rfl;refine⟨[],[],?_⟩;exact WT (by kernel_rfl) (Sx.t2 h0 h1 z2)
 |false=>
  by_cases hlt:i < 128
  ·have c5:=bT ((i:Int) < 128) (by omega)
   obtain⟨x,hx⟩:∃x,ui n i=x:=⟨_,rfl⟩;have c15:=fun W (_:ai [] w W)=>K4 false n i hlt W;rw[hx]at c15;have c12:=mY (i:=i) (by omega);cases hb:mb n i with
   |true=>
    have jM:WO ((x:Int) !=0)=.bool true:=by rw[←hx];unfold ui;rw[hb];rfl
    have z0:WO false=T:=by rw[hT];congr 1;symm;unfold iM;rw[decide_eq_false_iff_not,←gx (eW false)];intro h;rw[h i h32 hlt]at hb;cases hb
    refine⟨[(5,.is (.bool true)),(15,.call (.int .u8 (x:Int))),(16,.is (.bool true))],[],?_⟩;exact WT (by kernel_rfl) (Sx.t2 c5 c15 (WN jM z0))
   |false=>
    have jM:WO ((x:Int) !=0)=.bool false:=by rw[←hx];unfold ui;rw[hb];rfl
    have h0:Ub false n (i+1):=⟨⟨by omega,by omega⟩,(fun h=>by cases h),yy hz hb⟩;have h1:130 - (i+1) < 130 - i:=by omega
    have h2:rm (i+1)=rm (i+1):=rfl;have z3:vA false n=vA false n:=rfl;refine⟨[(5,.is (.bool true)),(15,.call (.int .u8 (x:Int))),(16,.is (.bool false)),(12,.is (.int .i64 ((i+1:Nat):Int)))],[],?_⟩;exact WT (by kernel_rfl) (Sx.t4 c5 c15 jM c12 (Sx.t2 h0 h1 (WN h2 z3)))
  ·have c5:=bF ((i:Int) < 128) (by omega)
   obtain rfl:i=128:=by omega
   have h0:iM false n=true:=by unfold iM;rw[decide_eq_true_eq,←gx (eW false)];exact hz
   have h1:([]:List (Nat×Sx.SV))=[]:=rfl;have z2:([]:List Sx.Row)=[]:=rfl;refine⟨[(5,.is (.bool false))],[],?_⟩;exact WT (by kernel_rfl) (Sx.t2 c5 h0 (WN h1 z2))
theorem OQ(v:Bool)(n:Nat)(w:World):Calls prog 201 #[.agg (b7 v n).toArray] w (Rn w (.bool (iM v n))):=by
 have h0:Ub v n 32:=⟨⟨by omega,by omega⟩,fun _=>rfl,fun j h1 h2=>by omega⟩;have e1:rm 32=rm 32∧vA v n=vA v n:=⟨rfl,rfl⟩;obtain⟨T,hT⟩:∃T,T=WO (iM v n):=⟨_,rfl⟩;have jz:=Ua v n w T hT;have z5f:Unit→iM v n=true→WO true=T:=fun _ h=>by rw[hT,h]
 rw[←hT];refine Sx.ao (args:=[.agg (b7 v n).toArray]) [] [.mk Nat 32 (Ub v n) rm (fun _=>vA v n) (fun i=>i+1) (fun i=>130 - i) Unit (fun _=>iM v n=true) (fun _=>[]) (fun _=>[]) (fun _=>())] (by kernel_rfl) func201 rfl (bU rfl) ?_;exact WT (by kernel_rfl) (Sx.t2 h0 e1 (WN jz (fun(x3:Unit) (hx4:iM v n=true)=>(z5f x3 hx4))))
theorem ON(v:Bool)(w:World):Calls prog 202 #[.bool v] w (Rn w (.int .i64 (wid v:Int))):=by
 cases v with
 |true=>have z0:WQ .i64 128=.int .i64 (wid true:Int):=rfl;refine Sx.ao (args:=[.bool true]) [] [] (by kernel_rfl) func202 rfl (bU rfl) ?_;exact WT (by kernel_rfl) z0
 |false=>have z0:WQ .i64 32=.int .i64 (wid false:Int):=rfl;refine Sx.ao (args:=[.bool false]) [] [] (by kernel_rfl) func202 rfl (bU rfl) ?_;exact WT (by kernel_rfl) z0
def vz(v:Bool)(n:Nat)(k:Int):List Sx.Row:=[⟨29,.aj (cZ v n k)⟩]
def T7(n K i:Nat):Prop:=(K≤i∧i≤128)∧noBits n K i
theorem T6(v:Bool)(n K:Nat)(k:Int)(w:World)(T:Value)(hT:T=.bool (decide (cQ n K=n)))(i:Nat)(hi:T7 n K i):∃H' L',Sx.ex prog 33 w (Sx.bq f147 0) H' L' ⟨rm i,vz v n k⟩
  (Sx.dP (T7 n K) rm (fun _=>vz v n k) (fun i=>i+1) (fun i=>130 - i) (fun(_:Unit)=>cQ n K=n) (fun _=>[]) (fun _=>[]) (fun _=>()) (Sx.eo (Sx.bq f147 0) - 1) (Sx.atEnd prog f147 (fun u=>u=T) .ret) i):=by
 obtain⟨⟨hK,h128⟩,hz⟩:=hi;have key:=gx (n:=n) (k:=K) (by omega);by_cases hlt:i < 128
 ·have c25:=bT ((i:Int) < 128) (by omega)
  obtain⟨x,hx⟩:∃x,ui n i=x:=⟨_,rfl⟩;have c31:=fun W (_:ai [] w W)=>K4 v n i hlt W;rw[hx]at c31;have c27:=mY (i:=i) (by omega);cases hb:mb n i with
  |true=>
   have c32:WO ((x:Int) !=0)=.bool true:=by rw[←hx];unfold ui;rw[hb];rfl
   have z0:WO false=T:=by rw[hT];congr 1;symm;rw[decide_eq_false_iff_not,←key];intro h;rw[h i hK hlt]at hb;cases hb
   refine⟨[(25,.is (.bool true)),(31,.call (.int .u8 (x:Int))),(32,.is (.bool true))],[],?_⟩;exact WT (by kernel_rfl) (Sx.t2 c25 c31 (WN c32 z0))
  |false=>
   have c32:WO ((x:Int) !=0)=.bool false:=by rw[←hx];unfold ui;rw[hb];rfl
   have h0:T7 n K (i+1):=⟨⟨by omega,by omega⟩,yy hz hb⟩;have h1:130 - (i+1) < 130 - i:=by omega
   have h2:rm (i+1)=rm (i+1):=rfl;have z3:vz v n k=vz v n k:=rfl;refine⟨[(25,.is (.bool true)),(31,.call (.int .u8 (x:Int))),(32,.is (.bool false)),(27,.is (.int .i64 ((i+1:Nat):Int)))],[],?_⟩;exact WT (by kernel_rfl) (Sx.t4 c25 c31 c32 c27 (Sx.t2 h0 h1 (WN h2 z3)))
 ·have c25:=bF ((i:Int) < 128) (by omega)
  obtain rfl:i=128:=by omega
  have h0:cQ n K=n:=key.1 hz;have h1:([]:List (Nat×Sx.SV))=[]:=rfl;have z2:([]:List Sx.Row)=[]:=rfl;refine⟨[(25,.is (.bool false))],[],?_⟩;exact WT (by kernel_rfl) (Sx.t2 c25 h0 (WN h1 z2))
theorem IA(v:Bool)(n:Nat)(k:Int):fW v n k=(iM v n&&(!decide (k < 0)&&(!decide (k > (wid v:Int))&&decide (cQ n k.toNat=n)))):=by
 unfold fW iM;by_cases h0:k < 0
 ·rw[decide_eq_false (by omega),decide_eq_true h0];simp
 by_cases h1:k > (wid v:Int)
 ·rw[decide_eq_false (p:=k≤(wid v:Int)) (by omega),decide_eq_true h1];simp
 rw[decide_eq_true (p:=0≤k) (by omega),decide_eq_true (p:=k≤(wid v:Int)) (by omega),decide_eq_false h0,decide_eq_false h1];by_cases h2:cQ n k.toNat=n
 ·have h3:cQ n (wid v)=n:=by
   rw[←gx (eW v)];have hw:=eW v;have:=(gx (n:=n) (k:=k.toNat) (by omega)).2 h2;exact fun j h1 h2=>this j (by omega) h2
  rw[decide_eq_true h2,decide_eq_true h3];rfl
 ·rw[decide_eq_false h2];simp
theorem Gc(v:Bool)(n:Nat)(k:Int)(w:World):Calls prog 147 #[.agg (cZ v n k).toArray] w (Rn w (.bool (fW v n k))):=by
 have c6:=fun W (_:ai [] w W)=>OQ v n W;have c19:=fun W (_:ai [] w W)=>ON v W;rw[IA];cases ha:iM v n with
 |false=>rw[ha]at c6;have z0:WO false=.bool false:=rfl;refine Sx.ao (args:=[.agg (cZ v n k).toArray]) [(6,.call (.bool false))] [] (by kernel_rfl) func147 rfl (bU rfl) ?_;exact WT (by kernel_rfl) (WN c6 z0)
 |true=>
  rw[ha]at c6;cases hk:decide (k < 0)with
  |true=>
   have gb:WO (decide (k < 0))=.bool true:=by rw[hk]
   have z0:WO false=.bool false:=rfl;refine Sx.ao (args:=[.agg (cZ v n k).toArray]) [(6,.call (.bool true)),(11,.is (.bool true))] [] (by kernel_rfl) func147 rfl (bU rfl) ?_;exact WT (by kernel_rfl) (Sx.t2 c6 gb z0)
  |false=>
   have gb:WO (decide (k < 0))=.bool false:=by rw[hk]
   cases hg:decide (k > (wid v:Int))with
   |true=>
    have c20:WO (decide (k > (wid v:Int)))=.bool true:=by rw[hg]
    have z0:WO false=.bool false:=rfl;refine Sx.ao (args:=[.agg (cZ v n k).toArray]) [(6,.call (.bool true)),(11,.is (.bool false)),(19,.call (.int .i64 (wid v:Int))),(20,.is (.bool true))] [] (by kernel_rfl) func147 rfl (bU rfl) ?_;exact WT (by kernel_rfl) (Sx.t4 c6 gb c19 c20 z0)
   |false=>
    have c20:WO (decide (k > (wid v:Int)))=.bool false:=by rw[hg]
    have hk:=of_decide_eq_false hk;have hg:=of_decide_eq_false hg;have hw:=eW v;obtain⟨K,rfl⟩:∃K:Nat,k=(K:Int):=⟨k.toNat,by omega⟩;show Calls prog 147 #[.agg (cZ v n (K:Int)).toArray] w (Rn w (.bool (decide (cQ n K=n))));have h0:T7 n K K:=⟨⟨by omega,by omega⟩,fun j h1 h2=>by omega⟩;have e1:rm K=rm K∧vz v n K=vz v n K:=⟨rfl,rfl⟩;obtain⟨T,hT⟩:∃T,T=WO (decide (cQ n K=n)):=⟨_,rfl⟩;have jz:=T6 v n K K w T hT;have z5f:Unit→cQ n K=n→WO true=T:=fun _ h=>by rw[hT,decide_eq_true h]
    rw[←hT];refine Sx.ao (args:=[.agg (cZ v n (K:Int)).toArray]) [(6,.call (.bool true)),(11,.is (.bool false)),(19,.call (.int .i64 (wid v:Int))),(20,.is (.bool false))] [.mk Nat K (T7 n K) rm (fun _=>vz v n K) (fun i=>i+1) (fun i=>130 - i) Unit (fun _=>cQ n K=n) (fun _=>[]) (fun _=>[]) (fun _=>())] (by kernel_rfl) func147 rfl (bU rfl) ?_;exact WT (by kernel_rfl) (Sx.t4 c6 gb c19 c20 (Sx.t2 h0 e1 (WN jz (fun(x3:Unit) (hx4:cQ n K=n)=>(z5f x3 hx4)))))
set_option maxRecDepth 100000
open Go Go.RowKit Go.Lib Go.Sort _root_.Go.Proofs.Tryz
set_option maxRecDepth 100000
theorem RM(x y:Operand)(a p:Nat)(ha:a < 256)(hp:p≠0)(W:World):(do eqGuard .quo 5 x y (.int .u8 (a:Int)) (.int .u8 (p:Int)); binOp .quo 5 (.int .u8 (a:Int)) (.int .u8 (p:Int)):Sem Value).run prog W=.ok (.int .u8 ((a / p:Nat):Int)) W:=by show(Op.intDiv .quo .u8 (a:Int) (p:Int)).run prog W=_;unfold Op.intDiv;rw[if_neg (by omega)];show Result.ok (WQ .u8 (Xx.wrap ((a:Int).tdiv (p:Int)))) W=_;have h:a / p≤a:=Xu _ _;rw[show(a:Int).tdiv (p:Int)=((a / p:Nat):Int)from rfl];generalize a / p=q at h ⊢;rw[IntWalk.u8_in _ ⟨by omega,by omega⟩]
theorem OP(m:Mt)(hm:m.Wf)(k p:Nat)(hp:p=2^k)(w:World):Calls prog 146 #[fQ m,.int .u8 (p:Int)] w (Rn w (.bool (m.asks.testBit k))):=by
 have ha:m.asks < 256:=hm.asks;have c8:=fun W=>RM (.tmp 6) (.tmp 7) m.asks p ha (by rw[hp];exact Nat.pos_iff_ne_zero.1 (Nat.two_pow_pos k)) W;have c9:WQ .u8 (((m.asks / p:Nat):Int).tmod 2)=.int .u8 ((m.asks / p%2:Nat):Int):=rfl;have c10:WO (((m.asks / p%2:Nat):Int)==1)=.bool (m.asks.testBit k):=by rw[Nat.testBit_eq_decide_div_mod_eq,←hp];congr 1;rw[WW];simp only[beq_iff_eq,decide_eq_true_eq];omega
 have z0:WO (m.asks.testBit k)=.bool (m.asks.testBit k):=rfl;refine Sx.ao (args:=[fQ m,.int .u8 (p:Int)]) [(8,.bin (.int .u8 ((m.asks / p:Nat):Int))),(9,.is (.int .u8 ((m.asks / p%2:Nat):Int))),(10,.is (.bool (m.asks.testBit k)))] [] (by kernel_rfl) func146 rfl (bU rfl) ?_;exact WT (by kernel_rfl) (Sx.t2 c8 c9 (WN c10 z0))
theorem KY(p:Nat)(w:World):Calls prog 148 #[.int .u8 (p:Int)] w (Rn w (.bool (decide (p=6)||decide (p=17)))):=by
 have e6:((p:Int)==6)=decide (p=6):=by rw[WW];simp only[beq_iff_eq,decide_eq_true_eq];omega
 have e17:((p:Int)==17)=decide (p=17):=by rw[WW];simp only[beq_iff_eq,decide_eq_true_eq];omega
 cases h6:decide (p=6)with
 |true=>
  have c4:WO ((p:Int)==6)=.bool true:=by rw[e6,h6]
  have z0:WO true=.bool (true||decide (p=17)):=rfl;refine Sx.ao (args:=[.int .u8 (p:Int)]) [(4,.is (.bool true))] [] (by kernel_rfl) func148 rfl (bU rfl) ?_;exact WT (by kernel_rfl) (WN c4 z0)
 |false=>
  have c4:WO ((p:Int)==6)=.bool false:=by rw[e6,h6]
  have c7:WO ((p:Int)==17)=.bool (decide (p=17)):=by rw[e17]
  have z0:WO (decide (p=17))=.bool (false||decide (p=17)):=rfl;refine Sx.ao (args:=[.int .u8 (p:Int)]) [(4,.is (.bool false)),(7,.is (.bool (decide (p=17))))] [] (by kernel_rfl) func148 rfl (bU rfl) ?_;exact WT (by kernel_rfl) (Sx.t2 c4 c7 z0)
def fw(b0 b1 b2 b3 b4 b5:Bool)(s:Nat)(t:Bool):List (Nat×Sx.SV):=[(1,.ptr 0 0),(3,.ptr 1 0),(4,.val (.bool b0)),(5,.val (.bool b1)),(6,.val (.bool b2)),(7,.val (.bool b3)),(8,.val (.bool b4)),(9,.val (.bool b5)),(s,.val (.bool t))]
def n6(m:Mt):List Sx.Row:=[⟨66,.aj m.cells⟩,⟨64,.aj [.int .u16 0,.int .u16 0]⟩]
def Gd(b3 a4 a5 t6 g1 g2 g3 g4 u3 pt:Bool):Bool:=
 bif t6 then false else bif g1||(g2||(g3||g4))then false else bif u3 then false else(a4&&a5)||(b3&&pt)
structure qb(t a n r:Bool):Prop where
 x:t=true→true=r
 y:t=false→a=true→n=r
 z:t=false→a=false→false=r
theorem rv(t a n:Bool):qb t a n (t||(a&&n)):=⟨fun h=>by rw[h];rfl,fun h h'=>by rw[h,h'];rfl,fun h h'=>by rw[h,h'];rfl⟩
theorem KZ(m:Mt)(w:World)(b0 b1 b2 b3 b4 b5 a0 a1 a2 a3 a4 a5 t0 n0 n1 n2 n3 n4 n5 t1 t2 t3 t4 t5 t6 g1 g2 g3 g4 x1 x2 y1 y2 u1 u2 u3 ne pt:Bool)
  (c12:∀W,ai [] w W→Calls prog 146 #[fQ m,.int .u8 1] W (Rn W (.bool b0)))
  (c14:∀W,ai [] w W→Calls prog 146 #[fQ m,.int .u8 2] W (Rn W (.bool b1)))
  (jM:∀W,ai [] w W→Calls prog 146 #[fQ m,.int .u8 4] W (Rn W (.bool b2)))
  (c18:∀W,ai [] w W→Calls prog 146 #[fQ m,.int .u8 8] W (Rn W (.bool b3)))
  (c20:∀W,ai [] w W→Calls prog 146 #[fQ m,.int .u8 16] W (Rn W (.bool b4)))
  (c22:∀W,ai [] w W→Calls prog 146 #[fQ m,.int .u8 32] W (Rn W (.bool b5)))
  (c28:WO (!b0)=.bool a0)
  (c38:WO (!b1)=.bool a1)
  (c48:WO (!b2)=.bool a2)
  (c58:WO (!b3)=.bool a3)
  (c67:WO (!b4)=.bool a4)
  (c77:WO (!b5)=.bool a5)
  (c25:WO (decide ((m.asks:Int) > 63))=.bool t0)
  (c33:∀W,(do eqGuard .neq 64 (.tmp 31) (.tmp 32) (gF m.fE) (gF (0,0));binOp .neq 64 (gF m.fE) (gF (0,0)):Sem Value).run prog W=.ok (.bool n0) W)
  (Fm:∀W,(do eqGuard .neq 29 (.tmp 41) (.tmp 42) (lL m.src) (lL nz);binOp .neq 29 (lL m.src) (lL nz):Sem Value).run prog W=.ok (.bool n1) W)
  (c53:∀W,(do eqGuard .neq 29 (.tmp 51) (.tmp 52) (lL m.dst) (lL nz);binOp .neq 29 (lL m.dst) (lL nz):Sem Value).run prog W=.ok (.bool n2) W)
  (c62:WO ((m.bc:Int) !=0)=.bool n3)
  (c72:∀W,(do eqGuard .neq 64 (.tmp 70) (.tmp 71) (gF m.sp) (gF (0,0));binOp .neq 64 (gF m.sp) (gF (0,0)):Sem Value).run prog W=.ok (.bool n4) W)
  (c82:∀W,(do eqGuard .neq 64 (.tmp 80) (.tmp 81) (gF m.dp) (gF (0,0));binOp .neq 64 (gF m.dp) (gF (0,0)):Sem Value).run prog W=.ok (.bool n5) W)
  (k1:qb t0 a0 n0 t1)
  (k2:qb t1 a1 n1 t2)
  (k3:qb t2 a2 n2 t3)
  (k4:qb t3 a3 n3 t4)
  (k5:qb t4 a4 n4 t5)
  (k6:qb t5 a5 n5 t6)
  (c91:WO (decide ((m.fE.1:Int) > (m.fE.2:Int)))=.bool g1) (c96:WO (decide ((m.fE.2:Int) > 255))=.bool g2) (c105:WO (decide ((m.sp.1:Int) > (m.sp.2:Int)))=.bool g3) (c114:WO (decide ((m.dp.1:Int) > (m.dp.2:Int)))=.bool g4)
  (c120:∀W,ai [] w W→Calls prog 147 #[lL m.src] W (Rn W (.bool x1))) (c128:∀W,ai [] w W→Calls prog 147 #[lL m.dst] W (Rn W (.bool x2)))
  (c121:WO (!x1)=.bool y1) (c129:WO (!x2)=.bool y2) (k7:qb false b1 y1 u1) (k8:qb u1 b2 y2 u2) (k9:qb u2 (b1&&b2) ne u3)
  (c146:WO (m.src.v !=m.dst.v)=.bool ne) (c160:∀W,ai [] w W→Calls prog 148 #[.int .u8 (m.bc:Int)] W (Rn W (.bool pt))) :
  Calls prog 88 #[fQ m] w (Rn w (.bool (Gd b3 a4 a5 t6 g1 g2 g3 g4 u3 pt))):=by
 have c150:=c67;have c153:=c77;have zmem:=(rfl:n6 m=n6 m);have h1f:=fun(h:t0=true)=>congrArg (fw b0 b1 b2 b3 b4 b5 36) (k1.x h);have h4f:=fun(h:t0=false) (h':a0=true)=>congrArg (fw b0 b1 b2 b3 b4 b5 36) (k1.y h h');have h6f:=fun(h:t0=false) (h':a0=false)=>congrArg (fw b0 b1 b2 b3 b4 b5 36) (k1.z h h');have h9f:=fun(h:t1=true)=>congrArg (fw b0 b1 b2 b3 b4 b5 46) (k2.x h);have h12f:=fun(h:t1=false) (h':a1=true)=>congrArg (fw b0 b1 b2 b3 b4 b5 46) (k2.y h h');have h14f:=fun(h:t1=false) (h':a1=false)=>congrArg (fw b0 b1 b2 b3 b4 b5 46) (k2.z h h');have h17f:=fun(h:t2=true)=>congrArg (fw b0 b1 b2 b3 b4 b5 56) (k3.x h);have h20f:=fun(h:t2=false) (h':a2=true)=>congrArg (fw b0 b1 b2 b3 b4 b5 56) (k3.y h h');have h22f:=fun(h:t2=false) (h':a2=false)=>congrArg (fw b0 b1 b2 b3 b4 b5 56) (k3.z h h');have h25f:=fun(h:t3=true)=>congrArg (fw b0 b1 b2 b3 b4 b5 65) (k4.x h);have h28f:=fun(h:t3=false) (h':a3=true)=>congrArg (fw b0 b1 b2 b3 b4 b5 65) (k4.y h h');have h30f:=fun(h:t3=false) (h':a3=false)=>congrArg (fw b0 b1 b2 b3 b4 b5 65) (k4.z h h');have h33f:=fun(h:t4=true)=>congrArg (fw b0 b1 b2 b3 b4 b5 75) (k5.x h);have h36f:=fun(h:t4=false) (h':a4=true)=>congrArg (fw b0 b1 b2 b3 b4 b5 75) (k5.y h h');have h38f:=fun(h:t4=false) (h':a4=false)=>congrArg (fw b0 b1 b2 b3 b4 b5 75) (k5.z h h');have h41f:=fun(h:t5=true)=>congrArg (fw b0 b1 b2 b3 b4 b5 84) (k6.x h);have h44f:=fun(h:t5=false) (h':a5=true)=>congrArg (fw b0 b1 b2 b3 b4 b5 84) (k6.y h h');have h46f:=fun(h:t5=false) (h':a5=false)=>congrArg (fw b0 b1 b2 b3 b4 b5 84) (k6.z h h');have h59f:=fun(_:t6=false) (_:g1=false) (_:g2=false) (_:g3=false) (_:g4=false) (h:b1=true)=>congrArg (fw b0 b1 b2 b3 b4 b5 123) (k7.y rfl h);have h61f:=fun(_:t6=false) (_:g1=false) (_:g2=false) (_:g3=false) (_:g4=false) (h:b1=false)=>congrArg (fw b0 b1 b2 b3 b4 b5 123) (k7.z rfl h);have h64f:=fun(_:t6=false) (_:g1=false) (_:g2=false) (_:g3=false) (_:g4=false) (h:u1=true)=>congrArg (fw b0 b1 b2 b3 b4 b5 132) (k8.x h);have h67f:=fun(_:t6=false) (_:g1=false) (_:g2=false) (_:g3=false) (_:g4=false) (h:u1=false) (h':b2=true)=>congrArg (fw b0 b1 b2 b3 b4 b5 132) (k8.y h h');have h69f:=fun(_:t6=false) (_:g1=false) (_:g2=false) (_:g3=false) (_:g4=false) (h:u1=false) (h':b2=false)=>congrArg (fw b0 b1 b2 b3 b4 b5 132) (k8.z h h');have h72f:=fun(_:t6=false) (_:g1=false) (_:g2=false) (_:g3=false) (_:g4=false) (h:u2=true)=>congrArg (fw b0 b1 b2 b3 b4 b5 148) (k9.x h);have h76f:=fun(_:t6=false) (_:g1=false) (_:g2=false) (_:g3=false) (_:g4=false) (h:u2=false) (h1:b1=true) (h2:b2=true)=>congrArg (fw b0 b1 b2 b3 b4 b5 148) (k9.y h (by rw[h1,h2];rfl));have h78f:=fun(_:t6=false) (_:g1=false) (_:g2=false) (_:g3=false) (_:g4=false) (h:u2=false) (h1:b1=true) (h2:b2=false)=>congrArg (fw b0 b1 b2 b3 b4 b5 148) (k9.z h (by rw[h1,h2];rfl));have h80f:=fun(_:t6=false) (_:g1=false) (_:g2=false) (_:g3=false) (_:g4=false) (h:u2=false) (h1:b1=false)=>congrArg (fw b0 b1 b2 b3 b4 b5 148) (k9.z h (by rw[h1];rfl));refine Sx.ao (args:=[fQ m]) [(12,.call (.bool b0)),(14,.call (.bool b1)),(16,.call (.bool b2)),(18,.call (.bool b3)),(20,.call (.bool b4)),(22,.call (.bool b5)),(25,.is (.bool t0)),(28,.is (.bool a0)),(38,.is (.bool a1)),(48,.is (.bool a2)),(58,.is (.bool a3)),(67,.is (.bool a4)),(77,.is (.bool a5)),(33,.bin (.bool n0)),(43,.bin (.bool n1)),(53,.bin (.bool n2)),(62,.is (.bool n3)),(72,.bin (.bool n4)),(82,.bin (.bool n5)),(700003,.SA [(14,fw b0 b1 b2 b3 b4 b5 36 t1,n6 m),(10,fw b0 b1 b2 b3 b4 b5 46 t2,n6 m),(10,fw b0 b1 b2 b3 b4 b5 56 t3,n6 m),(9,fw b0 b1 b2 b3 b4 b5 65 t4,n6 m),(10,fw b0 b1 b2 b3 b4 b5 75 t5,n6 m),(9,fw b0 b1 b2 b3 b4 b5 84 t6,n6 m)]),(91,.is (.bool g1)),(96,.is (.bool g2)),(105,.is (.bool g3)),(114,.is (.bool g4)),(120,.call (.bool x1)),(128,.call (.bool x2)),(121,.is (.bool y1)),(129,.is (.bool y2)),(146,.is (.bool ne)),(160,.call (.bool pt)),(150,.is (.bool a4)),(153,.is (.bool a5)),(700007,.SA [(8,fw b0 b1 b2 b3 b4 b5 123 u1,n6 m),(9,fw b0 b1 b2 b3 b4 b5 132 u2,n6 m),(16,fw b0 b1 b2 b3 b4 b5 148 u3,n6 m)])] [] (by kernel_rfl) func88 rfl (bU rfl) ?_;exact WT (by kernel_rfl) (Sx.t8 c12 c14 jM c18 c20 c22 (WN c25 (Sx.aG (b:=t0) (fun hb0=>(WN (h1f hb0) zmem)) (fun hb0=>(WN c28 (Sx.aG (b:=a0) (fun hb3=>(Sx.t2 c33 (h4f hb0 hb3) zmem)) (fun hb3=>(WN (h6f hb0 hb3) zmem))))))) (Sx.aG (b:=t1) (fun hb8=>(WN (h9f hb8) zmem)) (fun hb8=>(WN c38 (Sx.aG (b:=a1) (fun hb11=>(Sx.t2 Fm (h12f hb8 hb11) zmem)) (fun hb11=>(WN (h14f hb8 hb11) zmem)))))) (Sx.t4 (Sx.aG (b:=t2) (fun hb16=>(WN (h17f hb16) zmem)) (fun hb16=>(WN c48 (Sx.aG (b:=a2) (fun hb19=>(Sx.t2 c53 (h20f hb16 hb19) zmem)) (fun hb19=>(WN (h22f hb16 hb19) zmem)))))) (Sx.aG (b:=t3) (fun hb24=>(WN (h25f hb24) zmem)) (fun hb24=>(WN c58 (Sx.aG (b:=a3) (fun hb27=>(Sx.t2 c62 (h28f hb24 hb27) zmem)) (fun hb27=>(WN (h30f hb24 hb27) zmem)))))) (Sx.aG (b:=t4) (fun hb32=>(WN (h33f hb32) zmem)) (fun hb32=>(WN c67 (Sx.aG (b:=a4) (fun hb35=>(Sx.t2 c72 (h36f hb32 hb35) zmem)) (fun hb35=>(WN (h38f hb32 hb35) zmem)))))) (Sx.aG (b:=t5) (fun hb40=>(WN (h41f hb40) zmem)) (fun hb40=>(WN c77 (Sx.aG (b:=a5) (fun hb43=>(Sx.t2 c82 (h44f hb40 hb43) zmem)) (fun hb43=>(WN (h46f hb40 hb43) zmem)))))) (Sx.aG (b:=t6) (fun hb48=>(show Go.Value.bool false=Go.Value.bool (Gd b3 a4 a5 t6 g1 g2 g3 g4 u3 pt)from by cases hb48<;>rfl)) (fun hb48=>(WN c91 (Sx.aG (b:=g1) (fun hb50=>(show Go.Value.bool false=Go.Value.bool (Gd b3 a4 a5 t6 g1 g2 g3 g4 u3 pt)from by subst_vars;trivial)) (fun hb50=>(WN c96 (Sx.aG (b:=g2) (fun hb52=>(show Go.Value.bool false=Go.Value.bool (Gd b3 a4 a5 t6 g1 g2 g3 g4 u3 pt)from by subst_vars;trivial)) (fun hb52=>(WN c105 (Sx.aG (b:=g3) (fun hb54=>(show Go.Value.bool false=Go.Value.bool (Gd b3 a4 a5 t6 g1 g2 g3 g4 u3 pt)from by subst_vars;trivial)) (fun hb54=>(WN c114 (Sx.aG (b:=g4) (fun hb56=>(show Go.Value.bool false=Go.Value.bool (Gd b3 a4 a5 t6 g1 g2 g3 g4 u3 pt)from by subst_vars;trivial)) (fun hb56=>(Sx.t2 (Sx.aG (b:=b1) (fun hb58=>(Sx.t2 c120 c121 (WN (h59f hb48 hb50 hb52 hb54 hb56 hb58) zmem))) (fun hb58=>(WN (h61f hb48 hb50 hb52 hb54 hb56 hb58) zmem))) (Sx.aG (b:=u1) (fun hb63=>(WN (h64f hb48 hb50 hb52 hb54 hb56 hb63) zmem)) (fun hb63=>(Sx.aG (b:=b2) (fun hb66=>(Sx.t2 c128 c129 (WN (h67f hb48 hb50 hb52 hb54 hb56 hb63 hb66) zmem))) (fun hb66=>(WN (h69f hb48 hb50 hb52 hb54 hb56 hb63 hb66) zmem))))) (WN (Sx.aG (b:=u2) (fun hb71=>(WN (h72f hb48 hb50 hb52 hb54 hb56 hb71) zmem)) (fun hb71=>(Sx.aG (b:=b1) (fun hb74=>(Sx.aG (b:=b2) (fun hb75=>(Sx.t2 c146 (h76f hb48 hb50 hb52 hb54 hb56 hb71 hb74 hb75) zmem)) (fun hb75=>(WN (h78f hb48 hb50 hb52 hb54 hb56 hb71 hb74 hb75) zmem)))) (fun hb74=>(WN (h80f hb48 hb50 hb52 hb54 hb56 hb71 hb74) zmem))))) (Sx.aG (b:=u3) (fun hb82=>(show Go.Value.bool false=Go.Value.bool (Gd b3 a4 a5 t6 g1 g2 g3 g4 u3 pt)from by subst_vars;trivial)) (fun hb82=>(WN c150 (Sx.aG (b:=a4) (fun hb84=>(WN c153 (Sx.aG (b:=a5) (fun hb85=>(show Go.Value.bool true=Go.Value.bool (Gd b3 a4 a5 t6 g1 g2 g3 g4 u3 pt)from by subst_vars;trivial)) (fun hb85=>(Sx.aG (b:=b3) (fun hb87=>(WN c160 (show Go.Value.bool pt=Go.Value.bool (Gd b3 a4 a5 t6 g1 g2 g3 g4 u3 pt)from by subst_vars;trivial))) (fun hb87=>(show Go.Value.bool false=Go.Value.bool (Gd b3 a4 a5 t6 g1 g2 g3 g4 u3 pt)from by subst_vars;trivial))))))) (fun hb84=>(Sx.aG (b:=b3) (fun hb90=>(WN c160 (show Go.Value.bool pt=Go.Value.bool (Gd b3 a4 a5 t6 g1 g2 g3 g4 u3 pt)from by subst_vars;trivial))) (fun hb90=>(show Go.Value.bool false=Go.Value.bool (Gd b3 a4 a5 t6 g1 g2 g3 g4 u3 pt)from by subst_vars;trivial))))))))))))))))))))))))))
open Go Go.RowKit Go.Lib Go.Sort _root_.Go.Proofs.Tryz
theorem RN(b3 a4 a5 t6 g1 g2 g3 g4 u3 pt:Bool):Gd b3 a4 a5 t6 g1 g2 g3 g4 u3 pt=(!t6&&(!(g1||(g2||(g3||g4)))&&(!u3&&((a4&&a5)||(b3&&pt))))):=by unfold Gd;cases t6<;>cases(g1||(g2||(g3||g4)))<;>cases u3<;>rfl
theorem OO(A G S b3 n3 b4 b5 p:Bool)(hA:A=true→(b3||!n3)=true)(hp:n3=false→p=false) :
  (A&&(G&&(S&&((!b4&&!b5)||(b3&&p)))))=(A&&(G&&(S&&(!(b4||b5)||p)))):=by
 cases A
 ·rfl
 have h:=hA rfl;cases b3 with
 |true=>cases b4<;>cases b5<;>cases p<;>rfl
 |false=>
  have hn:n3=false:=by cases n3;rfl;cases h
  rw[hp hn];cases b4<;>cases b5<;>rfl
theorem T9(l b0 b1 b2 b3 b4 b5 z0 z1 z2 z3 z4 z5:Bool):(!((((((!l||(!b0&&!z0))||(!b1&&!z1))||(!b2&&!z2))||(!b3&&!z3))||(!b4&&!z4))||(!b5&&!z5)))=
  (l&&((b0||z0)&&((b1||z1)&&((b2||z2)&&((b3||z3)&&((b4||z4)&&(b5||z5))))))):=by
 simp[Xn,Bool.and_assoc]
theorem T8(b1 b2 x1 x2 ne:Bool):(!(((false||(b1&&!x1))||(b2&&!x2))||((b1&&b2)&&ne)))=((!b1||x1)&&((!b2||x2)&&(!(b1&&b2)||!ne))):=by cases b1<;>cases b2<;>cases x1<;>cases x2<;>cases ne<;>rfl
theorem K0(m:Mt)(hw:m.Wf)(w:World):Calls prog 88 #[fQ m] w (Rn w (.bool (aY m))):=by
 have ask:=fun(k p:Nat) (hp:p=2^k) W (_:ai [] w W)=>OP m hw k p hp W;have hz:((m.bc:Int) !=0)=!decide (m.bc=0):=by by_cases h:m.bc=0<;>simp[h]
 have key:=KZ m w _ _ _ _ _ _ _ _ _ _ _ _ (!decide (m.asks < 64)) _ _ _ (!decide (m.bc=0)) _ _ _ _ _ _ _ _ _ (!decide (m.fE.2≤255)) _ _ _ _ _ _ _ _ _ _ _
  (ask 0 1 rfl) (ask 1 2 rfl) (ask 2 4 rfl) (ask 3 8 rfl) (ask 4 16 rfl) (ask 5 32 rfl) rfl rfl rfl rfl rfl rfl
  (by congr 1;rw[WW];simp only[decide_eq_true_eq,Xb,decide_eq_false_iff_not];omega)
  (sq _ _ m.fE hw.fE) (zQ _ _ m.src hw.sn hw.sk) (zQ _ _ m.dst hw.dn hw.dk) (by rw[hz]) (sq _ _ m.sp hw.sp) (sq _ _ m.dp hw.dp)
  (rv _ _ _) (rv _ _ _) (rv _ _ _) (rv _ _ _) (rv _ _ _) (rv _ _ _) rfl
  (by congr 1;rw[WW];simp only[decide_eq_true_eq,Xb,decide_eq_false_iff_not];omega) rfl rfl
  (fun W _=>Gc m.src.v m.src.n m.src.k W) (fun W _=>Gc m.dst.v m.dst.n m.dst.k W) rfl rfl (rv _ _ _) (rv _ _ _) (rv _ _ _) rfl (fun W _=>KY m.bc W)
 rw[RN,T9,T8]at key;rw[OO _ _ _ _ (!decide (m.bc=0)) _ _ _ (fun h=>by
   simp only[W0]at h;rw[XC];exact h.2.2.2.2.1) (fun h=>by
   have h:m.bc=0:=by simpa using h
   rw[h];rfl)]at key
 have hne:(!(m.src.v !=m.dst.v))=decide (m.src.v=m.dst.v):=by cases m.src.v<;>cases m.dst.v<;>rfl
 have hle:∀a b:Nat,decide ((a:Int) > (b:Int))=!decide (a≤b):=fun a b=>by rw[WW];simp only[decide_eq_true_eq,Xb,decide_eq_false_iff_not];omega
 rw[hne,hle,hle,hle]at key;simp only[Xn,XC]at key;unfold aY;simp only[Xn];exact key
open Go Go.RowKit Go.Lib Go.Sort
def NA{α:Type}(b:Bool)(x y:α):α:=match b with
 |true=>x
 |false=>y
open Go Go.RowKit Go.Lib Go.Sort
def WJ(g gc:Nat)(A:Option Go.Addr)(n c:Nat)(R:CF×RS)(l:List Sx.SV)(mem:List Sx.Row):Prop:=
 ∃(cf:CF) (st:RS) (k0 k1 k2 k3 k4:Nat),R=(cf,st)∧l=[]∧mem[1]?=some ⟨114,.cR g (fy A n c st)⟩∧mem[0]?=some ⟨46,.ji gc (jB k0 k1 k2 k3 k4 cf)⟩∧
 mem[k0]?=some ⟨3,.own 1 cf.ak.length cf.cp⟩∧mem[k1]?=some ⟨118,.own 19 cf.af.length cf.cr⟩∧mem[k2]?=some ⟨81,.own 49 cf.rules.length cf.cl⟩∧mem[k3]?=some ⟨122,.own 4 cf.ag.length cf.cm⟩∧mem[k4]?=some ⟨124,.own 3 cf.ab.length cf.ci⟩
def No(g gc:Nat)(A:Option Go.Addr)(n c:Nat)(R:CF×RS)(S:List Nat)(w:World)(e:Ending)(w':World):Prop:=
 ∃s',e=.returned (.tuple #[])∧aq w' g 114 (fy A n c R.2)∧qR w' gc R.1 s'∧(cL gc g s').Nodup∧(∀k∈cL gc g s',k∈S∨w.heap.size≤k)∧ai S w w'
theorem No.iy{g gc:Nat}{A:Option Go.Addr}{n c:Nat}{R:CF×RS}{S:List Nat}{w:World}{e:Ending}{w':World}(h:Sx.dc ⟨w,S,fun _ _=>False⟩ (WJ g gc A n c R) e w'):No g gc A n c R S w e w':=by
 rcases h with⟨β,l,mem,⟨cf,st,k0,k1,k2,k3,k4,rfl,rfl,m1,m0,q0,q1,q2,q3,q4⟩,he,hR⟩ | ⟨_,_,hf,_⟩
 ·have r0:=hR.held 0 _ m0
  have r1:=hR.held 1 _ m1;have o0:β.n k0=cf.ak.length∧Own w' 3 1 (.slice (β.a k0) cf.ak.length (β.c k0)) cf.ak.length cf.cp:=hR.held k0 _ q0;have o1:β.n k1=cf.af.length∧Own w' 118 19 (.slice (β.a k1) cf.af.length (β.c k1)) cf.af.length cf.cr:=hR.held k1 _ q1;have o2:β.n k2=cf.rules.length∧Own w' 81 49 (.slice (β.a k2) cf.rules.length (β.c k2)) cf.rules.length cf.cl:=hR.held k2 _ q2;have o3:β.n k3=cf.ag.length∧Own w' 122 4 (.slice (β.a k3) cf.ag.length (β.c k3)) cf.ag.length cf.cm:=hR.held k3 _ q3;have o4:β.n k4=cf.ab.length∧Own w' 124 3 (.slice (β.a k4) cf.ab.length (β.c k4)) cf.ab.length cf.ci:=hR.held k4 _ q4;have e0:β 0=gc:=r0.1;have e1:β 1=g:=r1.1;have b1:aq w' gc 46 [.slice (β.a k0) cf.ak.length (β.c k0),.slice (β.a k1) cf.af.length (β.c k1),.slice (β.a k2) cf.rules.length (β.c k2),.slice (β.a k3) cf.ag.length (β.c k3),.slice (β.a k4) cf.ab.length (β.c k4),.int .i64 cf.bA]:=by have:=r0.2;rw[e0]at this;have hh:(jB k0 k1 k2 k3 k4 cf).map (Sx.SV.den β)=[β.sl k0,β.sl k1,β.sl k2,β.sl k3,β.sl k4,.int .i64 cf.bA]:=rfl;rw[hh]at this;unfold Sx.Env.sl at this;rw[o0.1,o1.1,o2.1,o3.1,o4.1]at this;exact this
  have rows:∀x∈[(0,some gc),(1,some g),(k0,(β.a k0).map (·.block)),(k1,(β.a k1).map (·.block)),(k2,(β.a k2).map (·.block)),(k3,(β.a k3).map (·.block)),(k4,(β.a k4).map (·.block))],∀k,x.2=some k→∃r,mem[x.1]?=some r∧Sx.aB β x.1 r=some k:=by
   intro x hx k hk;simp only[Xi,Xr,or_false]at hx;rcases hx with rfl|rfl|rfl|rfl|rfl|rfl|rfl
   ·exact⟨_,m0,by show some (β 0)=_;rw[e0];exact hk⟩
   ·exact⟨_,m1,by show some (β 1)=_;rw[e1];exact hk⟩
   ·exact⟨_,q0,hk⟩
   ·exact⟨_,q1,hk⟩
   ·exact⟨_,q2,hk⟩
   ·exact⟨_,q3,hk⟩
   ·exact⟨_,q4,hk⟩
  have d:∀{a b:Nat} {r r':Sx.Row},mem[a]?=some r→mem[b]?=some r'→WS r.ty r'.ty=false→a≠b:=fun {a b r r'} ha hb hne he=>by subst he;rw[ha]at hb;rw[Xf.inj hb,Nat.beq_refl]at hne;cases hne
  have nd:[0,1,k0,k1,k2,k3,k4].Nodup:=by simp only[List.nodup_cons,Xi,Xr,or_false,not_or,not_false_eq_true,List.nodup_nil,and_true];exact⟨⟨d m0 m1 rfl,d m0 q0 rfl,d m0 q1 rfl,d m0 q2 rfl,d m0 q3 rfl,d m0 q4 rfl⟩,⟨d m1 q0 rfl,d m1 q1 rfl,d m1 q2 rfl,d m1 q3 rfl,d m1 q4 rfl⟩,⟨d q0 q1 rfl,d q0 q2 rfl,d q0 q3 rfl,d q0 q4 rfl⟩,⟨d q1 q2 rfl,d q1 q3 rfl,d q1 q4 rfl⟩,⟨d q2 q3 rfl,d q2 q4 rfl⟩,d q3 q4 rfl⟩
  refine⟨⟨⟨β.a k0,β.c k0⟩,⟨β.a k1,β.c k1⟩,⟨β.a k2,β.c k2⟩,⟨β.a k3,β.c k3⟩,⟨β.a k4,β.c k4⟩⟩,he,e1 ▸ r1.2,⟨b1,o0.2,o1.2,o2.2,o3.2,o4.2⟩,?_,fun k hk=>?_,hR.aF⟩
  ·exact vR hR.inj [(0,some gc),(1,some g),(k0,(β.a k0).map (·.block)),(k1,(β.a k1).map (·.block)),(k2,(β.a k2).map (·.block)),(k3,(β.a k3).map (·.block)),(k4,(β.a k4).map (·.block))] nd rows
  ·obtain⟨o,ho,hok⟩:=List.mem_filterMap.1 hk
   have hm:o∈([(0,some gc),(1,some g),(k0,(β.a k0).map (·.block)),(k1,(β.a k1).map (·.block)),(k2,(β.a k2).map (·.block)),(k3,(β.a k3).map (·.block)),(k4,(β.a k4).map (·.block))]:List (Nat×Option Nat)).map (·.2):=ho;obtain⟨x,hx,rfl⟩:=List.mem_map.1 hm;obtain⟨r,hr,hb⟩:=rows x hx k hok;exact hR.new x.1 r k hr hb
 ·exact hf.elim
open Go Go.RowKit Go.Lib Go.Sort
def ts(n:Nat)(s:RS):RS:=NA (WS s.e 0&&decide (s.at_ < n)) ⟨s.at_,200⟩ s
open Go Go.RowKit Go.Lib Go.Sort
def nj(out:List Bs):List Sx.Row:=[⟨9,.own 1 out.length (strs out)⟩]
theorem EO(out:List Bs)(x:Bs):nj (out++[x])=[⟨9,.own 1 (out.length+1) (strs out++[ae x])⟩]:=by unfold nj;rw[xZ,WX];rfl
theorem Qo{x:Bs}{len:Nat}(hn:len≤1100000):True∧([ae x]:List Value).length=1*1∧(∀u:Value,u∈[ae x]→u.oneCell'=true)∧len+1≤maxLen∧(len+1)*16≤140737488355328:=
 ⟨trivial,rfl,fun u hu=>by rw[WV.1 hu];rfl,by unfold maxLen;omega,by omega⟩
set_option maxRecDepth 100000
open Go Go.RowKit Go.Lib Go.Sort _root_.Go.Proofs.Tryz
set_option maxRecDepth 100000
def tb(k:Nat)(s:Bs)(cm:Bool)(b i:Nat):List (Nat×Sx.SV):=[(0,.val (ae s)),(1,.val (.bool cm)),(5,.own k),(6,.val (.int .i64 (b:Int))),(7,.val (.int .i64 (i:Int)))]
def DO(s:Bs)(cm:Bool)(i:Nat):List (Nat×Sx.SV):=tb 0 s cm (gE s i).2 i
def Q5(s:Bs)(cm:Bool)(i:Nat):Prop:=i≤s.length∧∀j < i,s[j]?=some 35→cm=false
theorem ML{c:UInt8}{k:Nat}(d:UInt8)(hd:d.toNat=k):WO ((c.toNat:Int) !=(k:Int))=.bool (decide (c≠d)):=by have h:=oL (c:=c) d hd;injection h with h;show WO (!((c.toNat:Int)==(k:Int)))=_;rw[h];by_cases hc:c=d<;>simp[hc]
theorem VN(i b:Nat):WO (decide ((i:Int) > (b:Int)))=.bool (decide (b < i)):=by congr 1;rw[decide_eq_decide];omega
abbrev Vo(w:World)(s:Bs)(cm:Bool)(T:Sx.gA)(i:Nat):Prop:=∃H' L',Sx.ex prog f36.ntmps w (Sx.bq f36 0) H' L' ⟨DO s cm i,nj (gE s i).1⟩
  (Sx.dP (Q5 s cm) (DO s cm) (fun i=>nj (gE s i).1) (fun i=>i+1) (fun i=>s.length+1 - i) (fun(_:Unit)=>False) (fun _=>[]) (fun _=>[]) (fun _=>()) (Sx.eo (Sx.bq f36 0) - 1) (Sx.sZ prog f36 (fun r=>r=T) .ret) i)
abbrev Tk(_w:World)(s:Bs)(out:List Bs)(b i:Nat)(bb:Bool)(Z1 Z2:Prop):Prop:=
 WO (decide ((i:Int) > (b:Int)))=.bool bb∧cy (!bb) (∀W:World,(Instr.sliceAt 9 (ae s) (some (.int .i64 (b:Int))) (some (.int .i64 (i:Int))) none).run prog W=.ok (ae (qS s b i)) W) (cy (!bb) (True∧([ae (qS s b i)]:List Value).length=1*1∧(∀u:Value,u∈[ae (qS s b i)]→u.oneCell'=true)∧out.length+1≤maxLen∧(out.length+1)*16≤140737488355328)
  (WQ .i64 (W2.wrap ((i:Int)+1))=.int .i64 ((i+1:Nat):Int)∧kz bb Z1 Z2))
theorem JS{w:World}{s:Bs}{out:List Bs}{b i:Nat}{bb:Bool}{Z1 Z2:Prop}(hb:b≤i)(hi:i≤s.length)(hn:out.length≤i)(hs:s.length≤1050000)(hbb:decide (b < i)=bb)(z1:bb=true→Z1)(z2:bb=false→Z2):Tk w s out b i bb Z1 Z2:=
 ⟨(VN i b).trans (by rw[hbb]),cy.mk (fun _ W=>sr s b i hb hi W) (cy.mk (fun _=>Qo (by omega)) ⟨iw (by rw[jC (by omega) (by omega)];rfl),kz.mk z1 z2⟩)⟩
theorem NU{s:Bs}{i:Nat}{out:List Bs}{b:Nat}{ws:List Bs}(hw:gE s i=(out,b))(h:Va s i=ws){bb:Bool}(hb:decide (b < i)=bb) :
  (bb=true→Sx.gA.sl 9 1 (out.length+1) (strs out++[ae (qS s b i)])=.sl 9 1 ws.length (strs ws))∧(bb=false→Sx.gA.sl 9 1 out.length (strs out)=.sl 9 1 ws.length (strs ws)):=by
 unfold Va at h;rw[hw]at h;dsimp only at h;rw[hb]at h;constructor
 ·intro e;rw[e]at h;rw[←h]
  show _=Sx.gA.sl 9 1 (out++[qS s b i]).length (strs (out++[qS s b i]));rw[xZ,WX];rfl
 ·intro e;rw[e]at h;rw[←h]
theorem JR(s:Bs)(hs:s.length≤1050000)(cm:Bool)(w:World)(i:Nat)(hi:Q5 s cm i)(he:i=s.length∨(cm=true∧s[i]?=some 35)):Vo w s cm (.sl 9 1 (aE cm s).length (strs (aE cm s))) i:=by
 have gb:=iY s;have hE:=NT hi.1 hi.2 he;have c12:=qI (decide_eq_true (show(i:Int)≤(s.length:Int)by have:=hi.1;omega));obtain⟨hb,hn⟩:=uJ s i;obtain⟨bb,hbb⟩:∃bb,decide ((gE s i).2 < i)=bb:=⟨_,rfl⟩;obtain⟨z1,z2⟩:=NU rfl hE hbb;have cut:=JS (w:=w) hb hi.1 hn hs hbb z1 z2;by_cases hl:i=s.length
 ·have c18:WO ((i:Int)==(s.length:Int))=.bool true:=qI (by rw[hl];simp)
  refine⟨[(11,.is (.int .i64 (s.length:Int))),(12,.is (.bool true)),(17,.is (.int .i64 (s.length:Int))),(18,.is (.bool true)),(44,.is (.bool bb)),(49,.bin (ae (qS s (gE s i).2 i))),(53,.is (.int .i64 ((i+1:Nat):Int)))],[],?_⟩;have CH:=Sx.t4 gb c12 gb c18 cut;unfold DO;generalize gE s i=q at*;cases bb<;>exact WT (by kernel_rfl) CH
 ·obtain⟨rfl,h35⟩:=he.resolve_left hl
  have c18:WO ((i:Int)==(s.length:Int))=.bool false:=qa (by rw[beq_eq_false_iff_ne];omega);have c24:=lF s i 35 h35;have c25:WO (((35:UInt8).toNat:Int)==35)=.bool true:=rfl;refine⟨[(11,.is (.int .i64 (s.length:Int))),(12,.is (.bool true)),(17,.is (.int .i64 (s.length:Int))),(18,.is (.bool false)),(24,.bin (u8 35)),(25,.is (.bool true)),(44,.is (.bool bb)),(49,.bin (ae (qS s (gE s i).2 i))),(53,.is (.int .i64 ((i+1:Nat):Int)))],[],?_⟩;have CH:=Sx.t4 gb c12 gb c18 (Sx.t2 c24 c25 cut);unfold DO;generalize gE s i=q at*;cases bb<;>exact WT (by kernel_rfl) CH
theorem Tj(s:Bs)(hs:s.length≤1050000)(cm:Bool)(w:World)(i:Nat)(hi:Q5 s cm i):Vo w s cm (.sl 9 1 (aE cm s).length (strs (aE cm s))) i:=by
 by_cases hl:i=s.length
 ·exact JR s hs cm w i hi (.inl hl)
 have hlt:i < s.length:=by have:=hi.1;omega
 obtain⟨c,hc⟩:∃c,s[i]?=some c:=⟨_,W3 hlt⟩;by_cases h35:cm=true∧c=35
 ·exact JR s hs cm w i hi (.inr ⟨h35.1,by rw[hc,h35.2]⟩)
 have gb:=iY s;have c12:=qI (decide_eq_true (show(i:Int)≤(s.length:Int)by omega));have c18:WO ((i:Int)==(s.length:Int))=.bool false:=qa (by rw[beq_eq_false_iff_ne];omega);have c24:=lF s i c hc;have c25:cm=true→WO ((c.toNat:Int)==35)=.bool false:=fun h=>(oL (c:=c) 35 rfl).trans (by rw[decide_eq_false (fun e=>h35 ⟨h,e⟩)]);have c34:=ML (c:=c) 32 rfl;have c40:=ML (c:=c) 9 rfl;have nx:gE s (i+1)=match decide (c=32∨c=9)with|false=>gE s i|true=>match decide ((gE s i).2 < i)with|true=>((gE s i).1++[qS s (gE s i).2 i],i+1)|false=>((gE s i).1,i+1):=by rw[gE,hc];rfl
 have hbl:decide (c=32∨c=9)=!(decide (c≠32)&&decide (c≠9)):=by by_cases h1:c=32<;>by_cases h2:c=9<;>simp[h1,h2]
 rw[hbl]at nx;obtain⟨hb,hn⟩:=uJ s i;have h0:Q5 s cm (i+1):=⟨hlt,fun j hj h=>by
  by_cases hji:j=i
  ·subst hji
   rw[hc]at h;cases hcm:cm with
   |false=>rfl
   |true=>exact absurd ⟨hcm,Xf.inj h⟩ h35
  ·exact hi.2 j (by omega) h⟩
 have h1:s.length+1 - (i+1) < s.length+1 - i:=by omega
 have c14:=mY (i:=i) (by omega);obtain⟨bb,hbb⟩:∃bb,decide ((gE s i).2 < i)=bb:=⟨_,rfl⟩;rw[hbb]at nx;have hi':=hi.1;generalize decide (c≠32)=n1 at*;generalize decide (c≠9)=n2 at*;unfold Vo DO;generalize gE s i=q at*;obtain⟨out,b⟩:=q;dsimp only at hb hn hbb nx ⊢;have wn:(n1&&n2)=true→tb 0 s cm b (i+1)=tb 0 s cm (gE s (i+1)).2 (i+1)∧nj out=nj (gE s (i+1)).1:=fun h=>by rw[nx,h];exact⟨rfl,rfl⟩
 have cut:=fun(h:(n1&&n2)=false)=>JS (w:=w) (s:=s) (out:=out) hb hi' hn hs hbb
  (Z1:=WQ .i64 (W2.wrap ((i:Int)+1))=.int .i64 ((i+1:Nat):Int)∧Q5 s cm (i+1)∧s.length+1 - (i+1) < s.length+1 - i∧tb 2 s cm (i+1) (i+1)=tb 2 s cm (gE s (i+1)).2 (i+1)∧[⟨9,.own 1 (out.length+1) (strs out++[ae (qS s b i)])⟩]=nj (gE s (i+1)).1)
  (Z2:=WQ .i64 (W2.wrap ((i:Int)+1))=.int .i64 ((i+1:Nat):Int)∧Q5 s cm (i+1)∧s.length+1 - (i+1) < s.length+1 - i∧tb 0 s cm (i+1) (i+1)=tb 0 s cm (gE s (i+1)).2 (i+1)∧nj out=nj (gE s (i+1)).1)
  (fun e=>⟨c14,h0,h1,by rw[nx,h,e];rfl,by rw[nx,h,e];exact(EO _ _).symm⟩) (fun e=>⟨c14,h0,h1,by rw[nx,h,e];rfl,by rw[nx,h,e];rfl⟩)
 have CH:=Sx.t4 gb c12 gb c18 (cy.mk (b:=!cm) (fun _=>c24) (cy.mk (b:=!cm) (fun h=>c25 (by cases cm;cases h;rfl)) (Sx.t2 c24 c34 (cy.mk (b:=!n1) (fun _=>c24) (cy.mk (b:=!n1) (fun _=>c40) (kz.mk (b:=n1&&n2) (fun h=>Sx.t2 c14 h0 (WN h1 (wn h))) cut))))));clear c25 cut wn nx hbb;refine⟨[(11,.is (.int .i64 (s.length:Int))),(12,.is (.bool true)),(17,.is (.int .i64 (s.length:Int))),(18,.is (.bool false)),(24,.bin (u8 c)),(25,.is (.bool false)),(33,.bin (u8 c)),(34,.is (.bool n1)),(39,.bin (u8 c)),(40,.is (.bool n2)),(44,.is (.bool bb)),(49,.bin (ae (qS s b i))),(53,.is (.int .i64 ((i+1:Nat):Int))),(14,.is (.int .i64 ((i+1:Nat):Int)))],[],?_⟩;cases cm<;>cases n1<;>cases n2<;>cases bb<;>exact WT (by kernel_rfl) CH
theorem Kp(s:Bs)(cm:Bool)(hs:s.length≤1050000)(w:World):Calls prog 36 #[ae s,.bool cm] w (Sx.dM w (.sl 9 1 (aE cm s).length (strs (aE cm s)))):=by have jz:=Tj s hs cm w;have h0:Q5 s cm 0:=⟨WU _,fun j hj=>by omega⟩;have e1:tb 0 s cm 0 0=DO s cm 0∧nj []=nj (gE s 0).1:=⟨rfl,rfl⟩;have CH:=Sx.t2 h0 e1 (WN jz trivial);refine Sx.pG (args:=[ae s,.bool cm]) [(5,.jq 9 1)] [.fin Nat 0 (Q5 s cm) (DO s cm) (fun i=>nj (gE s i).1) (fun i=>i+1) (fun i=>s.length+1 - i)] (by kernel_rfl) func36 rfl (bU rfl) ?_;exact WT (by kernel_rfl) CH
open Go Go.RowKit Go.Lib Go.Sort _root_.Go.Proofs.Tryz
structure Gt{α:Type}(r:Nat→Out α):Prop where
 no:∀i c p,r i=.no c p→i < p
 ok:∀i a j,r i=.ok a j→i≤j
theorem GL(ws:List Bs):Gt (aO ws):=by
 refine⟨fun i c p h=>?_,fun i a j h=>?_⟩<;>unfold aO at h<;>split at h
 ·cases h
 ·injection h with _ h;omega
 ·injection h with _ h;omega
 ·cases h
theorem Gt.bind{α β:Type}{r:Nat→Out α}{f:α→Nat→Out β}(h:Gt r)(hf:∀a,Gt (f a)):Gt (fun i=>(r i).bind f):=by
 refine⟨fun i c p hh=>?_,fun i a j hh=>?_⟩
 ·cases hr:r i with
  |ok a j=>rw[hr]at hh;exact Xp (h.ok i a j hr) ((hf a).no j c p hh)
  |no c' p'=>rw[hr]at hh;injection hh with _ hh;have:=h.no i c' p' hr;omega
 ·cases hr:r i with
  |ok b k=>rw[hr]at hh;exact W6 (h.ok i b k hr) ((hf b).ok k a j hh)
  |no c' p'=>rw[hr]at hh;cases hh
theorem gk{α:Type}(a:α):Gt (fun i=>Out.ok a i):=⟨(fun _ _ _ h=>by cases h),(fun i _ j h=>by injection h with _ h;omega)⟩
theorem EV{α:Type}(ws:List Bs){b:Bs→Bool}{code:Nat}{v:Bs→α}:Gt (fun i=>(aO ws i).bind fun x j=>aR (b x) code (v x) j):=by
 refine⟨fun i c p hh=>?_,fun i a j hh=>?_⟩
 ·cases hr:aO ws i with
  |ok x k=>
   have h1:k=i+1:=(rA ws i x k hr).1;rw[hr]at hh;have hh:aR (b x) code (v x) k=.no c p:=hh;unfold aR at hh;split at hh
   ·cases hh
   ·injection hh with _ hh;omega
  |no c' p'=>rw[hr]at hh;injection hh with _ hh;have:=(GL ws).no i c' p' hr;omega
 ·cases hr:aO ws i with
  |ok x k=>have h1:k=i+1:=(rA ws i x k hr).1;rw[hr]at hh;have hh:aR (b x) code (v x) k=.ok a j:=hh;have:=qX hh;omega
  |no c' p'=>rw[hr]at hh;cases hh
theorem At(ws:List Bs)(s:Bs):Gt (fun i=>cN ws i s):=by
 refine⟨fun i c p h=>?_,fun i a j h=>?_⟩<;>rcases gp (ws:=ws) (i:=i) (s:=s)with⟨h1,_⟩ | h1<;>simp only[h1]at h
 ·cases h
 ·cases h
 ·injection h with _ h;omega
 ·injection h with _ h;omega
theorem I5(most:Nat)(ws:List Bs):Gt (a6 most ws):=EV ws
theorem Au(ws:List Bs):Gt (ig ws):=EV ws
theorem yK(ws:List Bs):Gt (dr ws):=EV ws
theorem L9(ws:List Bs):Gt (dS ws):=by
 refine(At ws js).bind fun a=>?_;cases a with
 |true=>exact gk 6
 |false=>
  refine(At ws jH).bind fun b=>?_;cases b with
  |true=>exact gk 17
  |false=>exact I5 255 ws
theorem L8(k:Nat)(m:Mt)(ws:List Bs):Gt (bV k m ws):=by
 rcases k with _|_|_|_|_|k
 ·exact(Au ws).bind fun _=>gk _
 ·exact(yK ws).bind fun _=>gk _
 ·exact(yK ws).bind fun _=>gk _
 ·exact(L9 ws).bind fun _=>gk _
 ·exact(Au ws).bind fun _=>gk _
 ·exact(Au ws).bind fun _=>gk _
theorem CD(ws:List Bs)(m:Mt):Gt (fun i=>aI ws i m):=by
 have key:∀k (m1:Mt),Gt (fun i=>(bV k m1 ws i).bind fun m' j=>Out.ok (true,m') j):=fun k m1=>(L8 k m1 ws).bind fun _=>gk _;refine⟨fun i c p h=>?_,fun i a j h=>?_⟩<;>(have h:=h;unfold aI at h;split at h)
 ·cases h
 ·split at h
  ·cases h
  ·rename_i k _
   split at h
   ·injection h with _ h;omega
   ·have:=(key k _).no _ _ _ h;omega
 ·injection h with _ h;omega
 ·split at h
  ·injection h with _ h;omega
  ·rename_i k _
   split at h
   ·cases h
   ·have:=(key k _).ok _ _ _ h;omega
theorem sV(ws:List Bs):∀(f:Nat) (m:Mt),Gt (fun i=>dy ws f i m)
 | 0,m=>gk m
 |f+1,m=>by
  have h:=(CD ws m).bind (f:=fun r j=>match r.1 with|true=>dy ws f j r.2|false=>.ok m j) fun r=>by
   obtain⟨b,m'⟩:=r;cases b with
   |true=>exact sV ws f m'
   |false=>exact gk m
  exact h
theorem Ma(ws:List Bs):Gt (cS ws):=by
 refine(At ws gD).bind fun a=>?_;cases a with
 |true=>exact gk ei
 |false=>
  refine(CD ws ei).bind fun r=>?_;obtain⟨b,m'⟩:=r;cases b with
  |true=>exact⟨fun k c p h=>(sV ws _ m').no k c p h,fun k a j h=>(sV ws _ m').ok k a j h⟩
  |false=>
   refine⟨fun i c p h=>?_,fun i a j h=>?_⟩
   ·cases hr:aO ws i with
    |ok x k=>have h1:k=i+1:=(rA ws i x k hr).1;simp only[hr,Out.bind]at h;injection h with _ h;omega
    |no c' p'=>have:=(GL ws).no i c' p' hr;simp only[hr,Out.bind]at h;injection h with _ h;omega
   ·cases hr:aO ws i with
    |ok x k=>simp only[hr,Out.bind]at h;cases h
    |no c' p'=>simp only[hr,Out.bind]at h;cases h
noncomputable def TV(ws:List Bs):RS:=ts ws.length (e9 ws ⟨0,0⟩).2
noncomputable def KJ(ws:List Bs):RS:=NA (WS (TV ws).e 0&&!aY (e9 ws ⟨0,0⟩).1) ⟨(TV ws).at_,190⟩ (TV ws)
def TU(m:Mt)(s:RS):Mt×Nat×Nat:=NA (WS s.e 0) (m,0,0) (ei,s.e,s.at_+1)
noncomputable def OG(s:Bs):Mt×Nat×Nat:=TU (e9 (aE false s) ⟨0,0⟩).1 (KJ (aE false s))
theorem RC(s:Bs):OG s=match gq s with | .ok m _=>(m,0,0) | .no c p=>(ei,c,p):=by
 unfold OG gq;generalize aE false s=ws;have hs:=(Ho ws).run 0 (WU _);have hg:=fun c p h=>(Ma ws).no 0 c p h;unfold KJ TV;cases hr:cS ws 0 with
 |no c p=>
  rw[hr]at hs;obtain⟨hc,h2⟩:=hs;have hp:=hg c p hr;rw[h2];have hz:WS c 0=false:=by cases h:WS c 0;rfl;exact absurd (WR h) hc
  have e1:ts ws.length ⟨p - 1,c⟩=⟨p - 1,c⟩:=by unfold ts; simp only[hz,Xh]; rfl
  simp only[e1,hz,Xh,Out.bind,TU,NA];rw[show p - 1+1=p by omega]
 |ok m i=>
  rw[hr]at hs;obtain⟨h1,hi⟩:=hs;rw[h1];dsimp only[Out.bind];unfold pS;by_cases hl:i < ws.length
  ·have e1:ts ws.length ⟨i,0⟩=⟨i,200⟩:=by unfold ts;simp only[decide_eq_true hl];rfl
   rw[e1,decide_eq_true hl];rfl
  ·have e1:ts ws.length ⟨i,0⟩=⟨i,0⟩:=by unfold ts;simp only[decide_eq_false hl];rfl
   rw[e1,decide_eq_false hl];dsimp only;cases aY m<;>rfl
theorem RE{b:Sx.aV}{β:Sx.Env}{W:World}{row:Nat→Option Sx.Row}{gw:List Nat}{kr kw:Nat}{st:RS}{ws:List Bs}(hS:Sx.eM b β W row gw)(h1:kr∈gw)(h2:kw∈gw)
  (hr:row kr=some ⟨114,.dC [.own kw,.val (.int .i64 (st.at_:Int)),.val (.int .i64 (st.e:Int))]⟩) (hw:row kw=some ⟨9,.own 1 ws.length (strs ws)⟩) (hl:st.at_≤ws.length) (he:st.e≤1000) (hb:ws.length≤1100000) (hz:∀x∈ws,x.length≤100000000) :
  pI W [β kr] (β kr) (β.a kw) ws.length (β.c kw) st ws∧((β.sl kw).ownBlock≠some (β kr)):=by
 have o:β.n kw=ws.length∧Own W 9 1 (.slice (β.a kw) ws.length (β.c kw)) ws.length (strs ws):=hS.held kw h2 _ hw;have hB:aq W (β kr) 114 ([.own kw,.val (.int .i64 (st.at_:Int)),.val (.int .i64 (st.e:Int))].map (Sx.SV.den β)):=hS.held kr h1 _ hr;have hn:∀k,(β.a kw).map (·.block)=some k→k≠β kr:=fun k hk he=>by have h3:=hS.inj kr h1 kw h2 _ _ (β kr) hr hw rfl (by show(β.a kw).map (·.block)=_;rw[hk,he]);rw[h3]at hr;rw[hr]at hw;cases hw
 have e:([.own kw,.val (.int .i64 (st.at_:Int)),.val (.int .i64 (st.e:Int))]:List Sx.SV).map (Sx.SV.den β)=fy (β.a kw) ws.length (β.c kw) st:=by show [β.sl kw,.int .i64 (st.at_:Int),.int .i64 (st.e:Int)]=_;unfold Sx.Env.sl;rw[o.1];rfl
 rw[e]at hB;refine⟨⟨hB,zd o.2 rfl (ai.refl _ _) (fun k hk hm=>hn k hk (WV.1 hm)),by simp,hl,hb,he,hz⟩,fun h=>?_⟩;have:(β.a kw).map (·.block)=some (β kr):=by unfold Sx.Env.sl at h;exact(dW _ _ _).symm.trans h
 exact hn _ this rfl
def BI(kw:Nat)(st:RS):Sx.Row:=⟨114,.dC [.own kw,.val (.int .i64 (st.at_:Int)),.val (.int .i64 (st.e:Int))]⟩
theorem OJ{α:Type}{b:Sx.aV}{row:Nat→Option Sx.Row}{m kr kw f:Nat}{st:RS}{ws:List Bs}{V:α→Value}{r:α×RS}(rest:List Value)(hr:row kr=some (BI kw st))(hw:row kw=some ⟨9,.own 1 ws.length (strs ws)⟩)(hl:st.at_≤ws.length)(he:st.e≤1000)(hb:ws.length≤1100000)(hz:∀x∈ws,x.length≤100000000)
  (H:∀W g A n c,pI W [g] g A n c st ws→Calls prog f (.pointer (some ⟨g,0,none⟩)::rest).toArray W (ju g A n c V r W)) (W:World) (β:Sx.Env) (hS:Sx.eM b β W row [kr,kw]) :
  Calls prog f ((Sx.SV.ptr kr 0::rest.map .val).map (Sx.SV.den β)).toArray W (Sx.br b β W row m ⟨[kr,kw],[(kr,BI kw r.2)],[],[],.val (V r.1),none⟩):=by
 obtain⟨hR,_⟩:=RE hS (by simp) (by simp) hr hw hl he hb hz;have o:β.n kw=ws.length:=(hS.held kw (by simp) _ hw:β.n kw=ws.length∧_).1;have e:(Sx.SV.ptr kr 0::rest.map .val).map (Sx.SV.den β)=.pointer (some ⟨β kr,0,none⟩)::rest:=by rw[Xj,List.map_map];have:(Sx.SV.den β ∘ Sx.SV.val)=id:=rfl;rw[this,List.map_id];rfl
 rw[e];refine(H W _ _ _ _ hR).mono fun en w' ⟨he,hb,hc⟩=>.inl ⟨fun p hp=>(by cases hp),β,Sx.dt (v:=V r.1) rfl rfl he (fun q hq=>?_) ?_⟩
 ·have:q=(kr,BI kw r.2):=WV.1 hq
  subst this;show aq w' (β kr) 114 [β.sl kw,.int .i64 (r.2.at_:Int),.int .i64 (r.2.e:Int)];unfold Sx.Env.sl;rw[o];exact hb
 ·have ht:Sx.b8 β row kr=some (β kr):=by unfold Sx.b8;rw[hr];rfl
  show ai (([kr]++[]).filterMap (Sx.b8 β row)) W w';simpa[ht]using hc
set_option maxRecDepth 100000
open Go Go.RowKit Go.Lib Go.Sort _root_.Go.Proofs.Tryz
def Tb(r:Mt×Nat×Nat):Value:=.tuple #[fQ r.1,.int .i64 (r.2.1:Int),.int .i64 (r.2.2:Int)]
theorem JQ(cm:Bool)(s:Bs):(aE cm s).length≤s.length+1∧∀x∈aE cm s,x.length≤s.length:=by
 have key:∀(l cur:Bs),(a7 cm cur l).length≤l.length+1∧∀x∈a7 cm cur l,x.length≤cur.length+l.length:=by
  intro l;induction l with
  |nil=>
   intro cur;unfold a7;split
   ·exact⟨WU _,fun x hx=>by cases hx⟩
   ·exact⟨Xo _,fun x hx=>by rw[WV.1 hx];exact Nat.le_add_right _ _⟩
  |cons c r ih=>
   intro cur;unfold a7;rw[WZ];split
   ·split
    ·exact⟨WU _,fun x hx=>by cases hx⟩
    ·exact⟨by show 1≤_;omega,fun x hx=>by rw[WV.1 hx];omega⟩
   ·split
    ·have h:=ih []
     split
     ·exact⟨by omega,fun x hx=>by have:=h.2 x hx;simp at this;omega⟩
     ·exact⟨by rw[WZ];omega,fun x hx=>by
       rcases Xi.1 hx with rfl|hx
       ·omega
       ·have:=h.2 x hx;simp at this;omega⟩
    ·have h:=ih (cur++[c])
     rw[WX,WZ,Xt]at h;exact⟨by omega,fun x hx=>by have:=h.2 x hx;omega⟩
 have h:=key s [];exact⟨h.1,fun x hx=>by have:=h.2 x hx;simpa using this⟩
theorem zy(s:Bs)(hs:s.length≤1050000)(w:World):Calls prog 41 #[ae s] w (Rn w (Tb (OG s))):=by
 obtain⟨ws,hws⟩:∃ws,ws=aE false s:=⟨_,rfl⟩;have hwl:=JQ false s;rw[←hws]at hwl;have c8:=fun W (_:ai [] w W)=>Kp s false hs W;rw[←hws]at c8;have hF:OG s=TU (e9 ws ⟨0,0⟩).1 (KJ ws):=by rw[hws];rfl
 have hw1:=Ia (n:=ws.length) rfl ⟨0,0⟩ (WU _) (WU _);have hm:=(tn ws ⟨0,0⟩).1;have c12:=fun W (β:Sx.Env) (hS:Sx.eM ⟨w,[],fun _ _=>False⟩ β W (Sx.rowAt [⟨66,.aj ei.cells⟩,⟨9,.own 1 ws.length (strs ws)⟩,BI 1 ⟨0,0⟩]) [2,1])=>OJ (m:=3) (V:=fQ) (r:=e9 ws ⟨0,0⟩) (f:=95) [] rfl rfl (WU _) (WU _) (by omega) (fun x hx=>W6 (hwl.2 x hx) (by omega)) (fun W g A n c h=>KF h) W β hS;unfold KJ TV at hF;generalize e9 ws ⟨0,0⟩=r at*;obtain⟨m,s1⟩:=r;dsimp only at*;unfold ts at hF;have c17:=UL s1.e;have c28:WO (decide ((s1.at_:Int) < (ws.length:Int)))=.bool (decide (s1.at_ < ws.length)):=uz rfl;have c40:=fun W (_:ai [] w W)=>K0 m hm W;generalize WS s1.e 0=z1 at*;generalize decide (s1.at_ < ws.length)=zl at*;obtain⟨s2,hs2⟩:∃s2,s2=NA (z1&&zl) ⟨s1.at_,200⟩ s1:=⟨_,rfl⟩;have w2:s2.at_≤1100000:=by rw[hs2];cases(z1&&zl)<;>exact W6 hw1.1 (by omega)
 have c37:=UL s2.e;rw[←hs2]at hF;generalize aY m=ck at*;generalize hz3:WS s2.e 0=z3 at*;obtain⟨s3,hs3⟩:∃s3,s3=NA (z3&&!ck) ⟨s2.at_,190⟩ s2:=⟨_,rfl⟩;have w3:s3.at_≤1100000:=by rw[hs3];cases(z3&&!ck)<;>exact w2
 have c50:=Wd s3.e;rw[←hs3]at hF;unfold TU at hF;generalize hz5:WS s3.e 0=z5 at*;have c60:WQ .i64 (W2.wrap ((s3.at_:Int)+1))=.int .i64 ((s3.at_+1:Nat):Int):=iw (by rw[jC (by omega) (by omega)];rfl);have zA:z5=false→XA #[fQ ei,.int .i64 (s3.e:Int),.int .i64 ((s3.at_+1:Nat):Int)]=Tb (OG s):=fun h=>by rw[hF,h];rfl
 have zB:z5=true→XA #[fQ m,.int .i64 0,.int .i64 0]=Tb (OG s):=fun h=>by rw[hF,h];rfl
 generalize Tb (OG s)=T at zA zB ⊢;clear hF hz3 hz5 hw1 hm hws;subst hs3;subst hs2;have CH:=Sx.t2 c8 c12 (WN c17 (cy.mk (b:=!z1) (fun _=>c28) (WN c37 (cy.mk (b:=!z3) (fun _=>c40) (WN c50 (kz.mk (b:=z5) zB (fun h=>WN c60 (zA h))))))));refine Sx.ao (args:=[ae s]) [(8,.bS (.sl 9 1 ws.length (strs ws))),(12,.ay ⟨[2,1],[(2,BI 1 s1)],[],[],.val (fQ m),none⟩),(17,.is (.bool z1)),(28,.is (.bool zl)),(37,.is (.bool z3)),(40,.call (.bool ck)),(50,.is (.bool (!z5))),(60,.is (.int .i64 (((NA (z3&&!ck) ⟨(NA (z1&&zl) ⟨s1.at_,200⟩ s1).at_,190⟩ (NA (z1&&zl) ⟨s1.at_,200⟩ s1)).at_+1:Nat):Int)))] [] (by kernel_rfl) func41 rfl (bU rfl) ?_;clear zA zB c8 c12 c17 c28 c37 c40 c50 c60 w2 w3;cases z1<;>cases zl<;>cases z3<;>cases ck<;>cases z5<;>exact WT (by kernel_rfl) CH
open Go Go.RowKit Go.Lib Go.Sort
inductive Kd where
 |b
 |i (q:IntKind)
 |s
def CL(P:Program)(f:TypeId→Option (List Kd)):Nat→List Field→Option (List Kd)
 |_,[]=>some []
 |off,x::fs=>match WS x.offset off&&x.name != "_" with
  |true=>match f x.type with
   |some ks=>match WS ks.length (P.cellsOf x.type)with
    |true=>match CL P f (off+ks.length) fs with
     |some r=>some (ks++r)
     |none=>none
    |false=>none
   |none=>none
  |false=>none
def zJ:Nat→List Kd→List Kd
 | 0,_=>[]
 |n+1,ks=>ks++zJ n ks
def je(P:Program):Nat→TypeId→Option (List Kd)
 | 0,_=>none
 |d+1,t=>match P.underlying t with
  |some .bool=>some [.b]
  |some (.int q)=>some [.i q]
  |some .string=>some [.s]
  |some (.array n e)=>match je P d e with
   |some ks=>match WS ks.length (P.cellsOf e)&&WS (n*ks.length) (P.cellsOf t)with
    |true=>some (zJ n ks)
    |false=>none
   |none=>none
  |some (.struct fs)=>match CL P (je P d) 0 fs.toList with
   |some ks=>match WS ks.length (P.cellsOf t)with
    |true=>some ks
    |false=>none
   |none=>none
  |_=>none
def QO:Kd→Value→Prop
 |.b,.bool _=>True
 |.i q,.int q' n=>q'=q∧(Lit.int q n).wf=true
 |.s,.string s=>s.size≤maxLen
 |_,_=>False
def qw:Value→Lit
 |.bool b=>.bool b
 |.int q n=>.int q n
 |.string s=>.string s.data.toList
 |_=>.bool false
def cJ:List Kd→List Value→Prop
 | [],[]=>True
 |k::ks,v::vs=>QO k v∧cJ ks vs
 |_,_=>False
theorem cJ.len:∀{ks:List Kd} {vs:List Value},cJ ks vs→vs.length=ks.length
 | [],[],_=>rfl
 |_::_,_::_,h=>by simp only[WZ,h.2.len]
 | [],_::_,h=>h.elim
 |_::_,[],h=>h.elim
theorem cJ.split:∀{k1 k2:List Kd} {vs:List Value},cJ (k1++k2) vs→cJ k1 (vs.take k1.length)∧cJ k2 (vs.drop k1.length)
 | [],_,_,h=>⟨by simp[cJ],h⟩
 |_::_,_,_::_,h=>by have:=cJ.split (k1:=_) (k2:=_) h.2;exact⟨⟨h.1,this.1⟩,this.2⟩
 |_::_,_,[],h=>h.elim
theorem cJ.app:∀{k1 k2:List Kd} {v1 v2:List Value},cJ k1 v1→cJ k2 v2→cJ (k1++k2) (v1++v2)
 | [],_,[],_,_,h=>h
 |_::_,_,_::_,_,h,h2=>⟨h.1,h.2.app h2⟩
 | [],_,_::_,_,h,_=>h.elim
 |_::_,_,[],_,h,_=>h.elim
theorem O8{k:Kd}{a b:Value}(ha:QO k a)(hb:QO k b)(h:qw a=qw b):a=b:=by
 cases k with
 |b=>cases a<;>first|exact ha.elim | (cases b<;>first|exact hb.elim | (injection h with h;subst h;rfl))
 |i q=>cases a<;>first|exact ha.elim | (cases b<;>first|exact hb.elim | (injection h with h1 h2;subst h1 h2;rfl))
 |s=>
  cases a<;>first|exact ha.elim|skip
  cases b<;>first|exact hb.elim|skip
  rename_i s t;injection h with h;have:s.data=t.data:=Array.toList_inj.1 h;cases s;cases t;simp only at this;rw[this]
theorem cJ.inj:∀{ks:List Kd} {al bs:List Value},cJ ks al→cJ ks bs→al.map qw=bs.map qw→al=bs
 | [],[],[],_,_,_=>rfl
 |_::_,_::_,_::_,ha,hb,h=>by rw[Xj,Xj]at h;injection h with h1 h2;rw[O8 ha.1 hb.1 h1,ha.2.inj hb.2 h2]
 | [],_::_,_,ha,_,_=>ha.elim
 |_::_,[],_,ha,_,_=>ha.elim
 | [],[],_::_,_,hb,_=>hb.elim
 |_::_,_::_,[],_,hb,_=>hb.elim
theorem nZ(ks:List Kd):∀n,(zJ n ks).length=n*ks.length
 | 0=>by simp[zJ]
 |n+1=>by rw[zJ,WX,nZ ks n,Xk];omega
section
variable{P:Program}
theorem tU{d:Nat}(ih:∀t ks cs,je P d t=some ks→cJ ks cs→P.keyLits d t cs=some (cs.map qw))(cs:List Value):∀(fs:List Field) (off:Nat) (ks:List Kd),CL P (je P d) off fs=some ks→cJ ks (cs.drop off)→
  (∃l,fs.mapM (fun f=>P.keyLits d f.type ((cs.drop f.offset).take (P.cellsOf f.type)))=some l∧l.flatten=(cs.drop off).map qw)∧fs.all (fun f=>f.name != "_")=true
 | [],off,ks,h,ha=>by
  simp only[CL,Xf.injEq]at h;subst h;refine⟨⟨[],rfl,?_⟩,rfl⟩;cases hd:cs.drop off with
  |nil=>rfl
  |cons a l=>rw[hd]at ha;exact ha.elim
 |x::fs,off,ks,h,ha=>by
  unfold CL at h;split at h
  ·rename_i hb
   rw[W0]at hb;have ho:x.offset=off:=WR hb.1;split at h
   ·rename_i kx hx
    split at h
    ·rename_i hl
     have hl:kx.length=P.cellsOf x.type:=WR hl;split at h
     ·rename_i r hr
      injection h with h;subst h;obtain⟨h1,h2⟩:=ha.split;rw[W8]at h2;obtain⟨⟨l,e1,e2⟩,e3⟩:=tU ih cs fs (off+kx.length) r hr h2;have hk:=ih _ _ _ hx h1;refine⟨⟨((cs.drop off).take kx.length).map qw::l,?_,?_⟩,?_⟩
      ·rw[Xv,ho,←hl,hk]
       show(do let al ←fs.mapM (fun(f:Field)=>P.keyLits d f.type ((cs.drop f.offset).take (P.cellsOf f.type)));pure (((cs.drop off).take kx.length).map qw::al))=_;rw[e1];rfl
      ·rw[Xq,e2,←W8,←Xs,W4]
      ·rw[List.all_cons,e3,hb.2];rfl
     ·cases h
    ·cases h
   ·cases h
  ·cases h
theorem wk{d e:Nat}(ih:∀cs,∀ks,je P d e=some ks→cJ ks cs→P.keyLits d e cs=some (cs.map qw)){ke:List Kd}(he:je P d e=some ke)(hl:ke.length=P.cellsOf e)(cs:List Value):∀(n k:Nat),cJ (zJ n ke) (cs.drop (k*P.cellsOf e))→
  ∃l,((XF k n).mapM fun i=>P.keyLits d e ((cs.drop (i*P.cellsOf e)).take (P.cellsOf e)))=some l∧l.flatten=(cs.drop (k*P.cellsOf e)).map qw
 | 0,k,ha=>by
  refine⟨[],rfl,?_⟩;cases hd:cs.drop (k*P.cellsOf e)with
  |nil=>rfl
  |cons a l=>rw[hd]at ha;exact ha.elim
 |n+1,k,ha=>by
  obtain⟨h1,h2⟩:=ha.split;rw[W8,hl,show k*P.cellsOf e+P.cellsOf e=(k+1)*P.cellsOf e by rw[Xk]]at h2;obtain⟨l,e1,e2⟩:=wk ih he hl cs n (k+1) h2;have hk:=ih _ _ he h1;refine⟨((cs.drop (k*P.cellsOf e)).take ke.length).map qw::l,?_,?_⟩
  ·rw[List.range'_succ,Xv,←hl]
   rw[hl]at hk ⊢;rw[hk];show(do let al ←(XF (k+1) n).mapM (fun i=>P.keyLits d e ((cs.drop (i*P.cellsOf e)).take (P.cellsOf e)));pure (((cs.drop (k*P.cellsOf e)).take (P.cellsOf e)).map qw::al))=_;rw[e1];rfl
  ·rw[Xq,e2,hl,show(k+1)*P.cellsOf e=k*P.cellsOf e+P.cellsOf e by rw[Xk],←W8,←Xs,W4]
theorem jG:∀(d:Nat) (t:TypeId) (ks:List Kd) (cs:List Value),je P d t=some ks→cJ ks cs→P.keyLits d t cs=some (cs.map qw)
 | 0,_,_,_,h,_=>by cases h
 |d+1,t,ks,cs,h,ha=>by
  unfold je at h;split at h
  ·rename_i hu
   injection h with h;subst h;match cs,ha with
   | [.bool b],_=>unfold Program.keyLits;rw[hu];rfl
  ·rename_i q hu
   injection h with h;subst h;match cs,ha with
   | [.int q' n],ha=>have hq:q'=q∧(Lit.int q n).wf=true:=ha.1;unfold Program.keyLits;rw[hu];show(if q'=q∧(Lit.int q n).wf=true then some [Lit.int q n] else none)=_;rw[if_pos hq,hq.1];rfl
  ·rename_i hu
   injection h with h;subst h;match cs,ha with
   | [.string s],ha=>have hs:s.size≤maxLen:=ha.1;unfold Program.keyLits;rw[hu];show(if s.size≤maxLen then some [Lit.string s.data.toList] else none)=_;rw[if_pos hs];rfl
  ·rename_i n e hu
   split at h
   ·rename_i ke he
    split at h
    ·rename_i hb
     injection h with h;subst h;rw[W0]at hb;have hl:ke.length=P.cellsOf e:=WR hb.1;have ht:n*ke.length=P.cellsOf t:=WR hb.2;have hlen:cs.length=P.cellsOf t:=by rw[ha.len,nZ,ht]
     obtain⟨l,e1,e2⟩:=wk (fun c k hk hc=>jG d e k c hk hc) he hl cs n 0 (by rw[XE,W7];exact ha);rw[XE,W7]at e2;unfold Program.keyLits;rw[hu];show(if cs.length=P.cellsOf t then((Xa n).mapM fun i=>P.keyLits d e ((cs.drop (i*P.cellsOf e)).take (P.cellsOf e))).map XB else none)=_;rw[if_pos hlen,List.range_eq_range',e1,←e2];rfl
    ·cases h
   ·cases h
  ·rename_i fs hu
   split at h
   ·rename_i kf hf
    split at h
    ·rename_i hb
     injection h with h;subst h;have ht:kf.length=P.cellsOf t:=WR hb;have hlen:cs.length=P.cellsOf t:=by rw[ha.len,ht]
     obtain⟨⟨l,e1,e2⟩,e3⟩:=tU (fun t k c=>jG d t k c) cs fs.toList 0 kf hf (by rw[W7];exact ha);rw[W7]at e2;unfold Program.keyLits;rw[hu];show(if cs.length=P.cellsOf t∧fs.all (·.name != "_")=true then(fs.toList.mapM fun f=>P.keyLits d f.type ((cs.drop f.offset).take (P.cellsOf f.type))).map XB else none)=_;rw[if_pos ⟨hlen,by rw[←Array.all_toList];exact e3⟩,e1,←e2];rfl
    ·cases h
   ·cases h
  ·cases h
def JC(P:Program)(t:TypeId):Bool:=match P.underlying t with
 |some (.struct _)=>true
 |some (.array _ _)=>true
 |_=>false
theorem Mm{d:Nat}{t:TypeId}{ks:List Kd}(h:je P d t=some ks)(ha:JC P t=true):ks.length=P.cellsOf t:=by
 cases d with
 |zero=>cases h
 |succ d=>
  unfold je at h;unfold JC at ha;split at h
  ·rename_i hu;rw[hu]at ha;cases ha
  ·rename_i hu;rw[hu]at ha;cases ha
  ·rename_i hu;rw[hu]at ha;cases ha
  ·split at h
   ·split at h
    ·rename_i hb
     injection h with h;subst h;rw[W0]at hb;rw[nZ];exact WR hb.2
    ·cases h
   ·cases h
  ·split at h
   ·split at h
    ·rename_i hb
     injection h with h;subst h;exact WR hb
    ·cases h
   ·cases h
  ·cases h
theorem wI{t:TypeId}{cs:List Value}(ha:JC P t=true)(hl:cs.length=P.cellsOf t):(Value.agg cs.toArray).formed P t=true:=by
 unfold JC at ha;unfold Value.formed;split at ha
 ·rename_i h;rw[h];simp[hl]
 ·rename_i h;rw[h];simp[hl]
 ·cases ha
theorem Mv{t:TypeId}{ks:List Kd}{al bs:List Value}(W:World)(hk:P.keyTypeAt 6 t=true)(hf:je P 6 t=some ks)(hg:JC P t=true)(ha:cJ ks al)(hb:cJ ks bs) :
  ∃r,(Op.equalIn 10000 t (.agg al.toArray) (.agg bs.toArray)).run P W=.ok r W∧(r=true↔al=bs):=by
 have hl:=Mm hf hg;obtain⟨r,h1,h2⟩:=run_equalIn_deep (P:=P) 9994 6 t hk W 6 6 (.agg al.toArray) (.agg bs.toArray) (al.map qw) (bs.map qw) (wI hg (by rw[ha.len,hl])) (wI hg (by rw[hb.len,hl])) (jG 6 t ks al hf ha) (jG 6 t ks bs hf hb);refine⟨r,h1,h2.trans ⟨fun h=>ha.inj hb h,fun h=>by rw[h]⟩⟩
theorem wY{t:TypeId}{ks:List Kd}{al bs:List Value}{r:Bool}(x y:Operand)(hk:P.keyTypeAt 6 t=true)(hf:je P 6 t=some ks)(hg:JC P t=true)(hq:P.eqGuardType P.depth t=false)(ha:cJ ks al)(hb:cJ ks bs)(hr:r=true↔al=bs)(W:World) :
  (do eqGuard .eql t x y (.agg al.toArray) (.agg bs.toArray);binOp .eql t (.agg al.toArray) (.agg bs.toArray):Sem Value).run P W=.ok (.bool r) W∧
  (do eqGuard .neq t x y (.agg al.toArray) (.agg bs.toArray);binOp .neq t (.agg al.toArray) (.agg bs.toArray):Sem Value).run P W=.ok (.bool (!r)) W:=by
 obtain⟨q,h1,h2⟩:=Mv W hk hf hg ha hb;have hqr:q=r:=by rw[WW,h2,hr]
 subst hqr;have h1:(Op.equal t (.agg al.toArray) (.agg bs.toArray)).run P W=.ok q W:=h1;have g1:(eqGuard .eql t x y (.agg al.toArray) (.agg bs.toArray)).run P W=.ok () W:=by simp[eqGuard,hq]
 have g2:(eqGuard .neq t x y (.agg al.toArray) (.agg bs.toArray)).run P W=.ok () W:=by simp[eqGuard,hq]
 constructor
 ·rw[Xe,g1,Result.andThen_ok]
  show(do pure (.bool (←Op.equal t (.agg al.toArray) (.agg bs.toArray))):Sem Value).run P W=_;rw[Xe,h1];rfl
 ·rw[Xe,g2,Result.andThen_ok]
  show(do pure (.bool (!(←Op.equal t (.agg al.toArray) (.agg bs.toArray)))):Sem Value).run P W=_;rw[Xe,h1];rfl
end
open Go Go.RowKit Go.Lib Go.Sort _root_.Go.Proofs.Tryz
def kP:List Kd:=.b::(zJ 16 [.i .u8]++[.i .i64])
def kM:List Kd:=[.i .u8,.i .u16,.i .u16]++(kP++(kP++[.i .u8,.i .u16,.i .u16,.i .u16,.i .u16]))
def kR:List Kd:=kP++[.i .i64]
def kL:List Kd:=.s::(kM++[.i .i64,.i .i64,.s,.s])
def Wg:List Kd:=[.s,.i .u64,.i .u64,.i .u64]
def We:List Kd:=[.s,.i .i64,.i .i64]
theorem Sr:je prog 6 66=some kM:=by kernel_rfl
theorem PT:je prog 6 118=some kR:=by kernel_rfl
theorem Sq:je prog 6 81=some kL:=by kernel_rfl
theorem PS:je prog 6 122=some Wg:=by kernel_rfl
theorem PR:je prog 6 124=some We:=by kernel_rfl
theorem Ll{x:Nat}(h:x≤255):QO (.i .u8) (.int .u8 (x:Int)):=⟨rfl,by simp[Lit.wf,Xc,Xd,W5,W9];omega⟩
theorem sH{x:Nat}(h:x≤65535):QO (.i .u16) (.int .u16 (x:Int)):=⟨rfl,by simp[Lit.wf,Xc,Xd,W5,W9];omega⟩
theorem Er{x:Nat}(h:x≤18446744073709551615):QO (.i .u64) (.int .u64 (x:Int)):=⟨rfl,by simp[Lit.wf,Xc,Xd,W5,W9];omega⟩
theorem sI{x:Int}(h : -9223372036854775808≤x∧x≤9223372036854775807):QO (.i .i64) (.int .i64 x):=⟨rfl,by simp[Lit.wf,Xc,Xd,W5,W9]; omega⟩
theorem Lm{s:Bs}(h:s.length≤maxLen):QO .s (.string ⟨s.toArray⟩):=by show(ByteArray.mk s.toArray).size≤maxLen;simpa[ByteArray.size]using h
theorem BQ(f:Nat→Nat)(hf:∀j,f j≤255):∀l:List Nat,cJ (zJ l.length [.i .u8]) (l.map fun j=>.int .u8 (f j:Int))
 | []=>trivial
 |j::l=>⟨Ll (hf j),BQ f hf l⟩
theorem sJ{p:Px}(hk : -9223372036854775808≤p.k∧p.k≤9223372036854775807):cJ kP p.cells:=by show cJ (.b::(zJ 16 [.i .u8]++[.i .i64])) (.bool p.v::((Xa 16).map (fun j=>WQ .u8 (ah p.n j:Int))++[.int .i64 p.k]));refine⟨trivial,cJ.app ?_ ⟨sI hk,trivial⟩⟩;have:=BQ (ah p.n) (fun j=>by have:=aX p.n j;omega) (Xa 16);simpa using this
theorem sK{m:Mt}(h:m.Wf):cJ kM m.cells:=by unfold kM Mt.cells;refine cJ.app ⟨Ll (by have:=h.asks;omega),sH h.fE.1,sH h.fE.2,trivial⟩ (cJ.app (sJ h.sk) (cJ.app (sJ h.dk) ⟨Ll h.pr,sH h.sp.1,sH h.sp.2,sH h.dp.1,sH h.dp.2,trivial⟩))
def tY(x:Int):Prop := -9223372036854775808≤x∧x≤9223372036854775807
structure Rt.Wf(r:Rt):Prop where
 n:r.pf.n < 2^128
 k:tY r.pf.k
 o:tY r.out
structure Me.Wf(m:Me):Prop where
 s:m.name.length≤maxLen
 a:m.num≤18446744073709551615
 b:m.den≤18446744073709551615
 c:m.rV≤18446744073709551615
structure Mi.Wf(m:Mi):Prop where
 s:m.name.length≤maxLen
 o:tY m.out
 r:tY m.room
structure Rl.Wf(r:Rl):Prop where
 s:r.name.length≤maxLen
 m:r.mt.Wf
 a:tY r.act
 o:tY r.out
 e:r.dE.length≤maxLen
 i:r.cx.length≤maxLen
theorem yq{r:Rt}(h:r.Wf):cJ kR r.cells:=cJ.app (sJ h.k) ⟨sI h.o,trivial⟩
theorem vL{m:Me}(h:m.Wf):cJ Wg m.cells:=⟨Lm h.s,Er h.a,Er h.b,Er h.c,trivial⟩
theorem vK{m:Mi}(h:m.Wf):cJ We m.cells:=⟨Lm h.s,sI h.o,sI h.r,trivial⟩
theorem yr{r:Rl}(h:r.Wf):cJ kL r.cells:=⟨Lm h.s,cJ.app (sK h.m) ⟨sI h.a,sI h.o,Lm h.e,Lm h.i,trivial⟩⟩
theorem Px.aT(p:Px):p.cells.length=18:=by simp[Px.cells,cZ,b7,aw]
theorem int_inj{q:IntKind}{a b:Nat}(h:WQ q (a:Int)=.int q (b:Int)):a=b:=by injection h with _ h;omega
theorem str_inj{a b:Bs}(h:Value.string ⟨a.toArray⟩=.string ⟨b.toArray⟩):a=b:=by injection h with h;injection h with h;simpa using h
theorem Px.cW{p q:Px}(hp:p.n < 2^128)(hq:q.n < 2^128)(h:p.cells=q.cells):p=q:=by
 have h:WO p.v::((Xa 16).map (fun j=>WQ .u8 (ah p.n j:Int))++[.int .i64 p.k])=.bool q.v::((Xa 16).map (fun j=>WQ .u8 (ah q.n j:Int))++[.int .i64 q.k]):=h;injection h with h1 h2;injection h1 with h1;obtain⟨h2,h3⟩:=WY h2 (by simp);injection h3 with h3 _;injection h3 with _ h3;have hb:p.n=q.n:=kp hp hq fun i hi=>by rw[List.map_inj_left]at h2;exact int_inj (h2 i (by simpa using hi))
 cases p;cases q;simp_all
theorem Pe{a b:Mt}(h0:a.asks=b.asks)(h1:a.fE=b.fE)(h2:a.src=b.src)(h3:a.dst=b.dst)(h4:a.bc=b.bc)(h5:a.sp=b.sp)(h6:a.dp=b.dp):a=b:=by cases a;cases b;simp_all
theorem Mt.cW{a b:Mt}(ha:a.Wf)(hb:b.Wf)(h:a.cells=b.cells):a=b:=by unfold Mt.cells at h;obtain⟨h1,h2⟩:=WY h (by simp);obtain⟨h3,h4⟩:=WY h2 (by rw[Px.aT,Px.aT]);obtain⟨h5,h6⟩:=WY h4 (by rw[Px.aT,Px.aT]);injection h1 with e0 h1;injection h1 with e1 h1;injection h1 with e2 _;injection h6 with e3 h6;injection h6 with e4 h6;injection h6 with e5 h6;injection h6 with e6 h6;injection h6 with e7 _;exact Pe (int_inj e0) (Prod.ext (int_inj e1) (int_inj e2)) (Px.cW ha.sn hb.sn h3) (Px.cW ha.dn hb.dn h5) (int_inj e3) (Prod.ext (int_inj e4) (int_inj e5)) (Prod.ext (int_inj e6) (int_inj e7))
theorem Rt.cW{a b:Rt}(ha:a.Wf)(hb:b.Wf)(h:a.cells=b.cells):a=b:=by obtain⟨h1,h2⟩:=WY h (by rw[Px.aT,Px.aT]);injection h2 with h2 _;injection h2 with _ h2;have:=Px.cW ha.n hb.n h1;cases a;cases b;simp_all
theorem Me.cW{a b:Me}(h:a.cells=b.cells):a=b:=by injection h with h1 h;injection h with h2 h;injection h with h3 h;injection h with h4 _;have e1:=str_inj h1;have e2:=int_inj h2;have e3:=int_inj h3;have e4:=int_inj h4;cases a;cases b;simp_all
theorem Mi.cW{a b:Mi}(h:a.cells=b.cells):a=b:=by injection h with h1 h;injection h with h2 h;injection h with h3 _;have e1:=str_inj h1;injection h2 with _ h2;injection h3 with _ h3;cases a;cases b;simp_all
theorem Mt.aT(m:Mt):m.cells.length=44:=by unfold Mt.cells;simp only[WX,WZ,Xt,Px.aT]
theorem Rl.cW{a b:Rl}(ha:a.Wf)(hb:b.Wf)(h:a.cells=b.cells):a=b:=by injection h with h1 h;obtain⟨h2,h⟩:=WY h (by rw[Mt.aT,Mt.aT]);injection h with h3 h;injection h with h4 h;injection h with h5 h;injection h with h6 _;have e1:=str_inj h1;have e2:=Mt.cW ha.m hb.m h2;injection h3 with _ h3;injection h4 with _ h4;have e5:=str_inj h5;have e6:=str_inj h6;cases a;cases b;simp_all
open Classical in
noncomputable def ef{α:Type}(a b:α):Bool:=decide (a=b)
theorem bW{α:Type}(a b:α):ef a b=true↔a=b:=by unfold ef;simp
theorem Kw(x y:Operand){a b:Rt}(ha:a.Wf)(hb:b.Wf)(W:World):(do eqGuard .neq 118 x y (.agg a.cells.toArray) (.agg b.cells.toArray);binOp .neq 118 (.agg a.cells.toArray) (.agg b.cells.toArray):Sem Value).run prog W=.ok (.bool (!ef a b)) W:=
 (wY x y (by kernel_rfl) PT (by kernel_rfl) (by kernel_rfl) (yq ha) (yq hb) ((bW a b).trans ⟨fun h=>by rw[h],Rt.cW ha hb⟩) W).2
theorem LB(x y:Operand){a b:Me}(ha:a.Wf)(hb:b.Wf)(W:World):(do eqGuard .neq 122 x y (.agg a.cells.toArray) (.agg b.cells.toArray);binOp .neq 122 (.agg a.cells.toArray) (.agg b.cells.toArray):Sem Value).run prog W=.ok (.bool (!ef a b)) W:=
 (wY x y (by kernel_rfl) PS (by kernel_rfl) (by kernel_rfl) (vL ha) (vL hb) ((bW a b).trans ⟨fun h=>by rw[h],Me.cW⟩) W).2
theorem Lz(x y:Operand){a b:Mi}(ha:a.Wf)(hb:b.Wf)(W:World):(do eqGuard .neq 124 x y (.agg a.cells.toArray) (.agg b.cells.toArray);binOp .neq 124 (.agg a.cells.toArray) (.agg b.cells.toArray):Sem Value).run prog W=.ok (.bool (!ef a b)) W:=
 (wY x y (by kernel_rfl) PR (by kernel_rfl) (by kernel_rfl) (vK ha) (vK hb) ((bW a b).trans ⟨fun h=>by rw[h],Mi.cW⟩) W).2
theorem KL(x y:Operand){a b:Rl}(ha:a.Wf)(hb:b.Wf)(W:World):(do eqGuard .neq 81 x y (.agg a.cells.toArray) (.agg b.cells.toArray);binOp .neq 81 (.agg a.cells.toArray) (.agg b.cells.toArray):Sem Value).run prog W=.ok (.bool (!ef a b)) W:=
 (wY x y (by kernel_rfl) Sq (by kernel_rfl) (by kernel_rfl) (yr ha) (yr hb) ((bW a b).trans ⟨fun h=>by rw[h],Rl.cW ha hb⟩) W).2
theorem QQ(x y:Operand){a b:Mt}(ha:a.Wf)(hb:b.Wf)(W:World):(do eqGuard .eql 66 x y (.agg a.cells.toArray) (.agg b.cells.toArray);binOp .eql 66 (.agg a.cells.toArray) (.agg b.cells.toArray):Sem Value).run prog W=.ok (.bool (ef a b)) W∧
  (do eqGuard .neq 66 x y (.agg a.cells.toArray) (.agg b.cells.toArray);binOp .neq 66 (.agg a.cells.toArray) (.agg b.cells.toArray):Sem Value).run prog W=.ok (.bool (!ef a b)) W:=
 wY x y (by kernel_rfl) Sr (by kernel_rfl) (by kernel_rfl) (sK ha) (sK hb) ((bW a b).trans ⟨fun h=>by rw[h],Mt.cW ha hb⟩) W
open Go Go.RowKit Go.Lib Go.Sort
def Kept(l:List Oper)(a a':Act):Prop:=∀t,(∀o∈l,o.dst≠some t)→a'.tmps[t]?=a.tmps[t]?
theorem lM{a:Act}{d:Option Tmp}{v:Value}{t:Tmp}(h:d≠some t):(a.put d v).tmps[t]?=a.tmps[t]?:=by
 cases d with
 |none=>rfl
 |some d=>show(a.tmps.setIfInBounds d v)[t]?=_;rw[Array.getElem?_setIfInBounds_ne (fun he=>h (by rw[he]))]
variable{P:Program}
theorem Ix{o:Oper}{a:Act}{w:World}{next next':Act→World→Prop}{Q Q':Exit→Act→World→Prop}(h:o.wp P a w next Q)(hn:∀a' w',next a' w'→(∀t,o.dst≠some t→a'.tmps[t]?=a.tmps[t]?)→next' a' w')(hq:∀ch w',Q (.panic ch) a w'→Q' (.panic ch) a w')(ho:LetsOut Q→LetsOut Q'):o.wp P a w next' Q':=by
 unfold Oper.wp at h ⊢;generalize (execOp a.eval o).run P w=r at h;cases r with
 |ok n w1=>
  cases n with
  |value v=>exact hn _ _ h fun t ht=>lM ht
  |skip=>exact hn _ _ h fun t ht=>lM ht
  |defer d=>exact hn _ _ h fun t ht=>(lM (a:={ a with defers:=d::a.defers }) ht)
  |enter f args=>
   refine Calls.mono h fun e w2 he=>?_;cases e with
   |returned v=>exact hn _ _ he fun t ht=>lM ht
   |panicked ch=>exact hq _ _ he
   |outgrown=>exact ho he
  |row r args=>exact Rows.mono h fun v w2 hv=>hn _ _ hv fun t ht=>lM ht
  |_=>exact h.elim
 |halt s w1=>
  cases s with
  |panic v=>exact hq _ _ h
  |_=>exact h.elim
theorem sP{ops:Array Oper}{Q Q':Exit→Act→World→Prop}(ho:LetsOut Q→LetsOut Q'):∀(l:List Oper) (a:Act) (w:World),wpList P ops Q l a w→(∀a' w',Q .normal a' w'→Kept l a a'→Q' .normal a' w')→(∀ch a' w',Q (.panic ch) a' w'→Kept l a a'→Q' (.panic ch) a' w')→wpList P ops Q' l a w
 | [],a,w,h,hn,hq=>hn a w h fun _ _=>rfl
 |o::l,a,w,h,hn,hq=>by
  unfold wpList at h ⊢;split at h
  ·rename_i hw
   rw[if_pos hw];rcases h with h|⟨h1,h2⟩
   ·refine .inl (Ix h (fun a1 w1 h1 hk=>?_) (fun ch w1 h1=>hq ch a w1 h1 fun _ _=>rfl) ho)
    have up:∀a',Kept l a1 a'→Kept (o::l) a a':=fun a' h' t ht=>(h' t fun o' ho'=>ht o' (Xl _ ho')).trans (hk t (ht o (by simp)));exact sP ho l a1 w1 h1 (fun a' w' h2 h3=>hn a' w' h2 (up a' h3)) fun ch a' w' h2 h3=>hq ch a' w' h2 (up a' h3)
   ·exact .inr ⟨h1,ho h2⟩
  ·rename_i hw
   rw[if_neg hw];have up:∀a',Kept l (a.put o.dst undef) a'→Kept (o::l) a a':=fun a' h' t ht=>(h' t fun o' ho'=>ht o' (Xl _ ho')).trans (lM (ht o (by simp)));exact sP ho l _ w h (fun a' w' h2 h3=>hn a' w' h2 (up a' h3)) fun ch a' w' h2 h3=>hq ch a' w' h2 (up a' h3)
theorem o7{n:Nat}{b:Sx.aV}{β:Sx.Env}{st:Sx.St}{K:Sx.St→Prop}{a:Act}{ds:List Deferred}{w:World}{Q:Exit→Act→World→Prop}{id:Nat}{ops:Array Oper}(H:List (Nat×Sx.Hint))
  (h:Sx.Hd ds b n β st a w) (hx:Sx.l9 P H n b ops ops.toList st K) (hn:∀β' st' a' w',K st'→Sx.Hd ds b n β' st' a' w'→Q .normal a' w')
  (hp:∀ch a' w',a'.defers=ds→b.PP ch w'→ai b.S b.w w'→Kept ops.toList a a'→Q (.panic ch) a' w'):(Code.region id ops false).wp P Q a w:=by
 refine wp_region_list ?_;refine sP (Q:=fun e a' w'=>match e with | .normal=>∃β' st',K st'∧Sx.Hd ds b n β' st' a' w' | .panic ch=>a'.defers=ds∧b.PP ch w'∧ai b.S b.w w' | _=>False) (fun⟨_,_,hf⟩=>hf.elim) _ a w (Sx.wX (fun ch a' w' h1 h2 h3=>⟨h1,h2,h3⟩) _ st K β a w h hx fun β' st' a' w' hk h'=>⟨β',st',hk,h'⟩) (fun a' w' ⟨β',st',hk,h'⟩ _=>hn β' st' a' w' hk h') fun ch a' w' ⟨h1,h2,h3⟩ hk=>hp ch a' w' h1 h2 h3 hk
end Go.Proofs.YtnncigmpcdehnaaGreatDoor
