import Derived.Test.YtnncigmpcdehnaaGreatDoorQh10
open And renaming intro→Xy
open Go.Value renaming bool→Xz,int→XA,tuple→XS
open List renaming getElem?_append_right→XB,mem_cons_of_mem→XC,foldl_cons→XF,length_append→XH,getElem?_eq_some_iff→XI,getElem?_eq_getElem→XJ,length_cons→XN,mem_of_getElem?→XP,flatMap_cons→XQ,nodup_cons→XT,mem_singleton→XW,append_assoc→XX,length_take→XY,take_left'→XZ,mem_filter→X0
open Nat renaming beq→XD,zero_le→XG,le_refl→XM,le_trans→XU,eq_of_beq_eq_true→XV
open Eq renaming mp→XE
open Int renaming toNat_natCast→XL
open Option renaming some→XO
open Bool renaming and_eq_true→XR,false_or→X3
namespace Go.Proofs.YtnncigmpcdehnaaGreatDoor
set_option maxRecDepth 100000
open Go.RowKit Go.Lib Go.Sort _root_.Go.Proofs.Tryz
set_option maxRecDepth 100000
theorem Lu(v:Bool)(n:Nat)(w:World):Calls prog 51 #[.agg (cD v n).toArray] w (Rn w (.int .i64 (wid v:Nat))):=by
 cases v with
 |false=>have z0:XA .i64 32=.int .i64 ((wid false:Nat):Int):=rfl;refine Sx.av (args:=[.agg (cD false n).toArray]) [] [] (by kernel_rfl) func51 rfl (bN rfl) ?_;exact XE (by kernel_rfl) z0
 |true=>have z0:XA .i64 128=.int .i64 ((wid true:Nat):Int):=rfl;refine Sx.av (args:=[.agg (cD true n).toArray]) [] [] (by kernel_rfl) func51 rfl (bN rfl) ?_;exact XE (by kernel_rfl) z0
def vA(s:List UInt8):Nat→Nat
 | 0=>s.length
 |i+1=>if s[i]?=some 47 then i else vA s i
theorem N9(s:List UInt8):∀i,i≤s.length→vA s i≤s.length
 | 0,_=>XM _
 |i+1,h=>by
  rw[vA];split
  ·omega
  ·exact N9 s i (by omega)
theorem Oa(l m:List UInt8)(h:(47:UInt8)∉m):vA (l++47::m) (l++47::m).length=l.length:=by
 have key:∀i,i≤m.length→vA (l++47::m) (l.length+1+i)=l.length:=by
  intro i;induction i with
  |zero=>intro _;rw[Nat.add_zero,vA,if_pos (by rw[XB (XM _)];simp)]
  |succ i ih=>intro hi;rw[show l.length+1+(i+1)=(l.length+1+i)+1 by omega,vA,if_neg,ih (by omega)];rw[XB (by omega),show l.length+1+i - l.length=i+1 by omega,List.getElem?_cons_succ];intro he;exact h (XP he)
 have:=key m.length (XM _);rw[show(l++47::m).length=l.length+1+m.length by simp;omega];exact this
def su(s:List UInt8)(i:Nat):List (Nat×Sx.SV):=[(0,.val (.string ⟨s.toArray⟩)),(2,.ptr 0 0),(4,.val (.int .i64 (vA s i:Nat))),(5,.val (.int .i64 (i:Int)))]
def Ut:List Value:=dt false 0 0
def kS:List Sx.Row:=[⟨29,.an Ut⟩]
def G3(s:List UInt8):List (Nat×Sx.SV):=[(0,.val (.string ⟨s.toArray⟩)),(2,.ptr 0 0),(4,.val (.int .i64 (vA s s.length:Nat)))]
theorem SO(s:List UInt8)(T:Value)(w:World)(hs:s.length≤100000000)(i:Nat)(hi:i≤s.length):∃H' L',Sx.ex prog 58 w (Sx.a7 f17 0) H' L' ⟨su s i,kS⟩
  (Sx.dP (fun i=>i≤s.length) (su s) (fun _=>kS) (fun i=>i+1) (fun i=>s.length+2 - i) (fun(_:Unit)=>True) (fun _=>G3 s) (fun _=>kS) (fun _=>()) (Sx.ej (Sx.a7 f17 0) - 1) (Sx.atEnd prog f17 (fun u=>u=T) .ret) i):=by
 have kq:=gz s;by_cases h:i < s.length
 ·have c17:=bT ((i:Int) < (s.length:Int)) (by omega)
  obtain⟨c,hc⟩:∃c,s[i]?=some c:=⟨_,XJ h⟩;have c22:=kE s i c hc;have c19:=mW (i:=i) (by omega);have h0:i+1≤s.length:=h;have h1:s.length+2 - (i+1) < s.length+2 - i:=by omega
  have z3:kS=kS:=rfl;by_cases h47:c=47
  ·have c23:Xz ((c.toNat:Int)==47)=.bool true:=rY (by rw[h47];rfl)
   have ha:vA s (i+1)=i:=by rw[vA,if_pos (by rw[hc,h47])]
   have h2:[((0:Nat),Sx.SV.val (.string ⟨s.toArray⟩)),(2,.ptr 0 0),(4,.val (.int .i64 (i:Int))),(5,.val (.int .i64 ((i+1:Nat):Int)))]=su s (i+1):=by unfold su;rw[ha]
   refine⟨[(16,.is (.int .i64 (s.length:Int))),ao 17 true,(22,.bin (u8 c)),ao 23 true,cO 19 (i+1)],[],?_⟩;exact XE (by kernel_rfl) (Sx.t8 kq c17 c22 c23 c19 h0 h1 h2 z3)
  ·have c23:Xz ((c.toNat:Int)==47)=.bool false:=qQ (by
    have:c.toNat≠47:=fun h=>h47 (UInt8.toNat_inj.1 (by rw[h];rfl));simp;omega)
   have ha:vA s (i+1)=vA s i:=by rw[vA,if_neg (by rw[hc];intro h;exact h47 (XO.inj h))]
   have h2:[((0:Nat),Sx.SV.val (.string ⟨s.toArray⟩)),(2,.ptr 0 0),(4,.val (.int .i64 (vA s i:Nat))),(5,.val (.int .i64 ((i+1:Nat):Int)))]=su s (i+1):=by unfold su;rw[ha]
   refine⟨[(16,.is (.int .i64 (s.length:Int))),ao 17 true,(22,.bin (u8 c)),ao 23 false,cO 19 (i+1)],[],?_⟩;exact XE (by kernel_rfl) (Sx.t8 kq c17 c22 c23 c19 h0 h1 h2 z3)
 ·have c17:=bF ((i:Int) < (s.length:Int)) (by omega)
  have hi':i=s.length:=by omega
  have h0:True:=trivial;have h1:[((0:Nat),Sx.SV.val (.string ⟨s.toArray⟩)),(2,.ptr 0 0),(4,.val (.int .i64 (vA s i:Nat)))]=G3 s:=by unfold G3;rw[hi']
  have z2:kS=kS:=rfl;refine⟨[(16,.is (.int .i64 (s.length:Int))),ao 17 false],[],?_⟩;exact XE (by kernel_rfl) (Sx.t4 kq c17 h0 h1 z2)
def wB(s:List UInt8)(i:Nat):List (Nat×Sx.SV):=[(0,.val (.string ⟨s.toArray⟩)),(2,.ptr 0 0),(6,.ptr 1 0),(8,.val (.int .i64 (i:Int)))]
def kQ(v:Bool)(n:Nat):List Sx.Row:=[⟨29,.an Ut⟩,⟨24,.an (cD v n)⟩]
def L4(s:List UInt8)(v:Bool)(n:Nat)(i:Nat):Prop:=i≤wid v+1∧∀j:Nat,j < i→¬tb s v n j
theorem Ih(v:Bool)(n:Nat)(k:Int):Xz (dh v n k==0)=.bool (gy v n k):=by unfold dh;cases gy v n k<;>rfl
def Sw:Value:=.agg (dt false 0 0).toArray
theorem SN(s:List UInt8)(v:Bool)(n:Nat)(hn:n < 2^128)(T:Value)(w:World)(hyes:∀j:Nat,tb s v n j→XS #[.agg (dt v n j).toArray,.int .i64 0]=T)(i:Nat)(hi:L4 s v n i):∃H' L',Sx.ex prog 58 w (Sx.a7 f17 1) H' L' ⟨wB s i,kQ v n⟩
  (Sx.dP (L4 s v n) (wB s) (fun _=>kQ v n) (fun i=>i+1) (fun i=>wid v+2 - i) (fun(_:Unit)=>∀j:Nat,j≤wid v→¬tb s v n j) (fun _=>[((2:Nat),Sx.SV.ptr 0 0)]) (fun _=>kQ v n) (fun _=>()) (Sx.ej (Sx.a7 f17 1) - 1) (Sx.atEnd prog f17 (fun u=>u=T) .ret) i):=by
 have c37:=fun W (_:ai [] w W)=>Lu v n W;have hw:=fG v;obtain⟨h1,h2⟩:=hi;by_cases h:i≤wid v
 ·have c38:=bT ((i:Int)≤(wid v:Nat)) (by omega)
  have c40:=mW (i:=i) (by omega);have c46:=fun W (_:ai [] w W)=>PD v n i hn W;have nx:¬tb s v n i→L4 s v n (i+1):=fun hno=>⟨by omega,fun j hj=>by
   by_cases hji:j=i
   ·rw[hji];exact hno
   ·exact h2 j (by omega)⟩
  have hm:wid v+2 - (i+1) < wid v+2 - i:=by omega
  have hh2:wB s (i+1)=wB s (i+1):=rfl;have hh3:kQ v n=kQ v n:=rfl;cases hok:gy v n i with
  |false=>
   have c50:Xz (dh v n i==0)=.bool false:=by rw[Ih,hok]
   have h0:=nx fun hp=>by rw[hp.2.1]at hok;cases hok
   have h1:=hm;have h2:=hh2;have z3:=hh3;refine⟨[(37,.call (.int .i64 (wid v:Nat))),ao 38 true,(46,.call (.tuple #[.string ⟨(j8 v n i).toArray⟩,.int .i64 (dh v n i)])),ao 50 false,cO 40 (i+1)],[],?_⟩;exact XE (by kernel_rfl) (Sx.t8 c37 c38 c46 c50 c40 h0 h1 h2 z3)
  |true=>
   have c50:Xz (dh v n i==0)=.bool true:=by rw[Ih,hok]
   have hpt:j8 v n i=iX v n i:=by unfold j8;rw[hok];rfl
   by_cases he:j8 v n i=s
   ·have c54:=Aq (.tmp 52) (.tmp 53) (j8 v n i) s (r:=true) (by simpa using he)
    have z0:=hyes i ⟨hn,hok,by rw[←hpt];exact he⟩;refine⟨[(37,.call (.int .i64 (wid v:Nat))),ao 38 true,(46,.call (.tuple #[.string ⟨(j8 v n i).toArray⟩,.int .i64 (dh v n i)])),ao 50 true,(54,.bin (.bool true))],[],?_⟩;exact XE (by kernel_rfl) (Sx.t4 c37 c38 c46 c50 (Xy c54 z0))
   ·have c54:=Aq (.tmp 52) (.tmp 53) (j8 v n i) s (r:=false) (by simpa using he)
    have h0:=nx fun hp=>he (by rw[hpt];exact hp.2.2);have h1:=hm;have h2:=hh2;have z3:=hh3;refine⟨[(37,.call (.int .i64 (wid v:Nat))),ao 38 true,(46,.call (.tuple #[.string ⟨(j8 v n i).toArray⟩,.int .i64 (dh v n i)])),ao 50 true,(54,.bin (.bool false)),cO 40 (i+1)],[],?_⟩;exact XE (by kernel_rfl) (Sx.t8 c37 c38 c46 c50 c54 c40 h0 h1 (Xy h2 z3))
 ·have c38:=bF ((i:Int)≤(wid v:Nat)) (by omega)
  have h0:∀j:Nat,j≤wid v→¬tb s v n j:=fun j hj=>h2 j (by omega);have h1:[((2:Nat),Sx.SV.ptr 0 0)]=[((2:Nat),Sx.SV.ptr 0 0)]:=rfl;have z2:kQ v n=kQ v n:=rfl;refine⟨[(37,.call (.int .i64 (wid v:Nat))),ao 38 false],[],?_⟩;exact XE (by kernel_rfl) (Sx.t4 c37 c38 h0 h1 z2)
def G2(s:List UInt8)(v:Bool)(n:Nat):List Sx.Loop:=
 [.mk Nat 0 (fun i=>i≤s.length) (su s) (fun _=>kS) (fun i=>i+1) (fun i=>s.length+2 - i) Unit (fun _=>True) (fun _=>G3 s) (fun _=>kS) (fun _=>()),
  .mk Nat 0 (L4 s v n) (wB s) (fun _=>kQ v n) (fun i=>i+1) (fun i=>wid v+2 - i) Unit (fun _=>∀j:Nat,j≤wid v→¬tb s v n j) (fun _=>[((2:Nat),Sx.SV.ptr 0 0)]) (fun _=>kQ v n) (fun _=>())]
theorem tA(s:List UInt8)(hs:s.length≤100000000)(w:World)(v:Bool)(n:Nat)(hn:n < 2^128)(T:Value)
  (H:(BS (s.take (vA s s.length)) v n∧(∀j:Nat,tb s v n j→XS #[.agg (dt v n j).toArray,.int .i64 0]=T)∧((∀j:Nat,j≤wid v→¬tb s v n j)→XS #[Sw,.int .i64 151]=T))∨
   ((∀v n,¬BS (s.take (vA s s.length)) v n)∧XS #[Sw,.int .i64 151]=T)):Calls prog 17 #[.string ⟨s.toArray⟩] w (Rn w T):=by
 have hat:=N9 s s.length (XM _);have c13:=gz s;have h0:0≤s.length:=XG _;have e1:su s 0=su s 0∧kS=kS:=⟨rfl,rfl⟩;have iZ:=SO s T w hs;have c28:=vN s (vA s s.length) hat;have hl:(s.take (vA s s.length)).length≤100000000:=by rw[XY];omega
 rcases H with⟨hA,hy,hno⟩ | ⟨hA,hT⟩
 ·have qz:=fun W (_:ai [] w W)=>AF hA hl W
  have h5:L4 s v n 0:=⟨XG _,fun j hj=>by omega⟩;have e6:wB s 0=wB s 0∧kQ v n=kQ v n:=⟨rfl,rfl⟩;have rd7:=SN s v n hn T w hy;refine Sx.av (args:=[.string ⟨s.toArray⟩]) [(13,.is (.int .i64 (s.length:Int))),(28,.bin (.string ⟨(s.take (vA s s.length)).toArray⟩)),(29,.call (.tuple #[.agg (cD v n).toArray,.int .i64 0]))] (G2 s v n) (by kernel_rfl) func17 rfl (bN rfl) ?_;exact XE (by kernel_rfl) (Sx.t4 c13 h0 e1 iZ (fun(x:Unit) (hx4:True)=>(Sx.t4 c28 qz h5 e6 (Xy rd7 (fun(x:Unit) (hx9:∀j:Nat,j≤wid v→¬tb s v n j)=>hno hx9)))))
 ·have qz:=fun W (_:ai [] w W)=>AE hA hl W
  have z5:=hT;refine Sx.av (args:=[.string ⟨s.toArray⟩]) [(13,.is (.int .i64 (s.length:Int))),(28,.bin (.string ⟨(s.take (vA s s.length)).toArray⟩)),(29,.call (.tuple #[Al,.int .i64 150]))] (G2 s v n) (by kernel_rfl) func17 rfl (bN rfl) ?_;exact XE (by kernel_rfl) (Sx.t4 c13 h0 e1 iZ (fun(x:Unit) (hx4:True)=>(Sx.t2 c28 qz z5)))
theorem M9{s:List UInt8}{v:Bool}{n j:Nat}(h:tb s v n j):BS (s.take (vA s s.length)) v n:=by
 obtain⟨hn,hok,ht⟩:=h;have hd:(47:UInt8)∉aq 10 j:=jl (by omega) (by omega) (.inl (by decide));have hs:s=eL v n++47::aq 10 j:=by rw[←ht];unfold iX;rw[XL]
 have:=Oa (eL v n) (aq 10 j) hd;rw[←hs]at this;rw[this];refine⟨hn,qj hok,?_⟩;rw[hs];exact(XZ rfl).symm
theorem QN{s:List UInt8}{v:Bool}{n:Nat}{k:Int}(h:tb s v n k):∃j:Nat,k=j∧j≤wid v:=by have h2:=h.2.1;unfold gy at h2;simp only[XR,decide_eq_true_eq]at h2;exact⟨k.toNat,by omega,by omega⟩
theorem LD{s:List UInt8}{v:Bool}{n:Nat}{k:Int}(h:tb s v n k)(hs:s.length≤100000000)(w:World):Calls prog 17 #[.string ⟨s.toArray⟩] w (Rn w (.tuple #[.agg (dt v n k).toArray,.int .i64 0])):=by
 obtain⟨j,rfl,hj⟩:=QN h;refine tA s hs w v n h.1 _ (.inl ⟨M9 h,fun i hi=>?_,fun hno=>absurd h (hno j hj)⟩);have h1:iX v n i=iX v n j:=by rw[hi.2.2,h.2.2]
 unfold iX at h1;rw[XL,XL]at h1;have h2:=List.append_cancel_left h1;injection h2 with _ h2;rw[ya (by omega) (by omega) h2]
theorem LC{s:List UInt8}(h:∀v n k,¬tb s v n k)(hs:s.length≤100000000)(w:World):Calls prog 17 #[.string ⟨s.toArray⟩] w (Rn w (.tuple #[Sw,.int .i64 151])):=by
 by_cases hA:∃v n,BS (s.take (vA s s.length)) v n
 ·obtain⟨v,n,hA⟩:=hA
  exact tA s hs w v n hA.1 _ (.inl ⟨hA,fun j hj=>absurd hj (h _ _ _),fun _=>rfl⟩)
 ·exact tA s hs w false 0 (by decide) _ (.inr ⟨fun v n hh=>hA ⟨v,n,hh⟩,rfl⟩)
set_option maxRecDepth 100000
open Go Go.RowKit Go.Lib Go.Sort _root_.Go.Proofs.Tryz
set_option maxRecDepth 100000
def Gq{α:Type}(n:Nat)(q:RA α):Prop:=∀st:RS,st.at_≤n→st.e≤1000→(q st).2.at_≤n∧(q st).2.e≤1000
theorem bJ{n:Nat}{ws:List Bs}(h:ws.length=n):Gq n (ak ws):=fun st h1 h2=>by
 unfold ak;cases XD st.e 0 with
 |false=>exact⟨h1,h2⟩
 |true=>
  cases hx:ws[st.at_]? with
  |none=>exact⟨h1,(by decide:200≤1000)⟩
  |some x=>exact⟨by rw[←h];exact(XI.1 hx).1,(by decide:0≤1000)⟩
theorem mG{n code:Nat}{st:RS}(hc:code≤1000)(h1:st.at_≤n)(h2:st.e≤1000):(cz code st).at_≤n∧(cz code st).e≤1000:=by
 unfold cz;cases XD st.e 0 with
 |false=>exact⟨h1,h2⟩
 |true=>exact⟨by show st.at_ - 1≤n; omega,hc⟩
theorem sw{α:Type}{n code:Nat}{ok:Bool}{a:α}(hc:code≤1000):Gq n (qF ok code a):=fun st h1 h2=>by
 cases ok with
 |true=>exact⟨h1,h2⟩
 |false=>exact mG hc h1 h2
theorem gH{α:Type}{n:Nat}{a:α}:Gq n (eM a):=fun _ h1 h2=>⟨h1,h2⟩
theorem fA{α β:Type}{n:Nat}{q:RA α}{f:α→RA β}(h:Gq n q)(hf:∀a,Gq n (f a)):Gq n (bM q f):=fun st h1 h2=>by obtain⟨h3,h4⟩:=h st h1 h2;exact hf _ _ h3 h4
theorem gr{ws:List Bs}{st:RS}:(ak ws st).2.e=0→1≤(ak ws st).2.at_:=by
 unfold ak;cases he:XD st.e 0 with
 |false=>intro h;rw[h]at he;cases he
 |true=>
  cases ws[st.at_]? with
  |none=>intro h;cases h
  |some x=>intro _;exact Nat.succ_pos _
theorem oh.next{w W:World}{S:List Nat}{g:Nat}{A:Option Go.Addr}{n c:Nat}{st:RS}{ws:List Bs}(h:oh w S g A n c st ws)(hc:ai S w W)(hb:aw W g 114 (da A n c (ak ws st).2)):oh W S g A n c (ak ws st).2 ws:=
 let ⟨h1,h2⟩:=bJ h.jq.len st h.le h.eb
 h.at hc hb h1 h2
theorem oh.low{w:World}{S:List Nat}{g:Nat}{A:Option Go.Addr}{n c:Nat}{st:RS}{ws:List Bs}(h:oh w S g A n c st ws):oh w [g] g A n c st ws:=
 ⟨h.cw,h.jq.sub (fun x hx=>by rw[XW.1 hx];exact h.gS),by simp,h.le,h.bd,h.eb,h.sz⟩
theorem rf{ws:List Bs}{st:RS}(h:∀x∈ws,x.length≤100000000):(ak ws st).1.length≤100000000:=by
 unfold ak;cases XD st.e 0 with
 |false=>exact XG _
 |true=>
  cases hx:ws[st.at_]? with
  |none=>exact XG _
  |some x=>exact h x (XP hx)
def rO(ok:Bool)(code:Nat)(st:RS):RS:=match ok with
 |true=>st
 |false=>cz code st
abbrev WJ(w:World)(g:Nat):Sx.bu:=⟨w,[g],fun _ _=>False⟩
abbrev OG(w:World)(g f:Nat)(rest:List Value)(A:Option Go.Addr)(n c:Nat)(s1 s2:RS)(v:Value):Prop:=∀W,ai [g] w W→aw W g 114 (da A n c s1)→Calls prog f ((pt g 0)::rest).toArray W (Sx.qJ (WJ w g) W ((pt g 0)::rest) (.dW 0 0 ⟨114,.dG g (da A n c s2)⟩ v))
section
variable{w:World}{g:Nat}{A:Option Go.Addr}{n c:Nat}{st:RS}{ws:List Bs}
theorem ru(h:oh w [g] g A n c st ws):OG w g 132 [] A n c st (ak ws st).2 (ae (ak ws st).1):=
 fun _ hW hb=>PT (.dG g _) rfl rfl rfl (gu (h.at hW hb h.le h.eb))
theorem j7(code:Nat)(h:oh w [g] g A n c st ws){s1:RS}(hl:s1.at_≤n)(he:s1.e≤1000)(h1:s1.e=0→1≤s1.at_):OG w g 137 [.int .i64 (code:Int)] A n c s1 (cz code s1) (.tuple #[]):=
 fun _ hW hb=>PT (.dG g _) rfl rfl rfl (vR (h.at hW hb hl he) code h1)
end
theorem sq{w:World}{S:List Nat}{g:Nat}{A:Option Go.Addr}{n c:Nat}{st:RS}{ws:List Bs}(h:oh w S g A n c st ws):Calls prog 135 #[(pt g 0)] w (ig g A n c ae (j2 ws st) w):=by have h:=h.low;obtain⟨h1,h2⟩:=bJ h.jq.len st h.le h.eb;have c5:=ru h;have c7:=fun W (_:ai [g] w W)=>PM (ak ws st).1 W;have c10:=j7 201 h h1 h2 gr;have zz:Ey g A n c ae (j2 ws st) (.val (ae (ak ws st).1)) [(g,114,da A n c (rO (aK (ak ws st).1) 201 (ak ws st).2))]:=⟨rfl,rfl⟩;generalize j2 ws st=R at zz ⊢;generalize aK (ak ws st).1=ok at c7 zz;generalize ak ws st=r at*;have CH:=Sx.t2 c5 c7 (bA.mk (b:=ok) (fun _=>c10) zz);refine eA [] h.cw [(5,.aX 0 (da A n c r.2) (ae r.1)),(7,.call (.bool ok)),(10,.aX 0 (da A n c (rO ok 201 r.2)) (.tuple #[]))] [] (by kernel_rfl) func135 rfl (bN rfl) ?_;cases ok<;>exact XE (by kernel_rfl) CH
theorem gq{w:World}{S:List Nat}{g:Nat}{A:Option Go.Addr}{n c:Nat}{st:RS}{ws:List Bs}(bits most:Nat)(hb:4≤bits∧bits≤64)(hm:most=18446744073709551615 / 2^(64 - bits))(h:oh w S g A n c st ws):Calls prog 133 #[(pt g 0),.int .i64 (bits:Int)] w (ig g A n c kg (bR most ws st) w):=by have h:=h.low;obtain⟨h1,h2⟩:=bJ h.jq.len st h.le h.eb;have c9:=ru h;have iB:=fun W (_:ai [g] w W)=>qf (ak ws st).1 bits hb (XU (rf h.sz) (by decide)) W;rw[←hm]at iB;have c17:=j7 200 h h1 h2 gr;have zz:Ey g A n c kg (bR most ws st) (.val (.int .u64 (fz most (ak ws st).1:Int))) [(g,114,da A n c (rO (aS most (ak ws st).1) 200 (ak ws st).2))]:=⟨rfl,rfl⟩;generalize bR most ws st=R at zz ⊢;unfold JE at iB;generalize aS most (ak ws st).1=ok at iB zz;generalize fz most (ak ws st).1=v at iB zz;generalize ak ws st=r at*;have CH:=Sx.t2 c9 iB (bA.mk (b:=ok) (fun _=>c17) zz);refine eA [.int .i64 (bits:Int)] h.cw [(9,.aX 0 (da A n c r.2) (ae r.1)),(11,.call (.tuple #[.int .u64 (v:Int),.bool ok])),(17,.aX 0 (da A n c (rO ok 200 r.2)) (.tuple #[]))] [] (by kernel_rfl) func133 rfl (bN rfl) ?_;cases ok<;>exact XE (by kernel_rfl) CH
def WL(ok:Bool):Int:=match ok with
 |true=>0
 |false=>151
theorem PH(x:Bs)(hx:x.length≤100000000)(W:World):Calls prog 17 #[ae x] W (Rn W (.tuple #[mr ((ou x).getD ov),.int .i64 (WL (ou x).isSome)])):=by
 cases h:ou x with
 |some p=>exact LD (mL h) hx W
 |none=>exact LC (wA h) hx W
theorem tC{w:World}{S:List Nat}{g:Nat}{A:Option Go.Addr}{n c:Nat}{st:RS}{ws:List Bs}(h:oh w S g A n c st ws):Calls prog 134 #[(pt g 0)] w (ig g A n c mr (dC ws st) w):=by
 have h:=h.low;obtain⟨h1,h2⟩:=bJ h.jq.len st h.le h.eb;have c7:=ru h;have c8:=fun W (_:ai [g] w W)=>PH (ak ws st).1 (rf h.sz) W;have c14:=j7 151 h h1 h2 gr;have zz:Ey g A n c mr (dC ws st) (.val (mr ((ou (ak ws st).1).getD ov))) [(g,114,da A n c (rO (ou (ak ws st).1).isSome 151 (ak ws st).2))]:=⟨rfl,rfl⟩;generalize dC ws st=R at zz ⊢;generalize (ou (ak ws st).1).isSome=ok at c8 zz;generalize (ou (ak ws st).1).getD ov=p at c8 zz;generalize ak ws st=r at*;have c12:Xz (WL ok !=0)=.bool (!ok):=by cases ok<;>rfl
 have CH:=Sx.t2 c7 c8 (Xy c12 (bA.mk (b:=ok) (fun _=>c14) zz));refine eA [] h.cw [(7,.aX 0 (da A n c r.2) (ae r.1)),(8,.call (.tuple #[mr p,.int .i64 (WL ok)])),ao 12 (!ok),(14,.aX 0 (da A n c (rO ok 151 r.2)) (.tuple #[]))] [] (by kernel_rfl) func134 rfl (bN rfl) ?_;cases ok<;>exact XE (by kernel_rfl) CH
open Go.RowKit Go.Lib Go.Sort
def Oy:Prop:=∀p:Px,p.n < 2^128→gy p.v p.n p.k=true→ou (wJ p)=some p
theorem qm(n:Nat):cZ (aq 10 n)=n:=iD (by omega) (by omega) n
theorem rq{most n:Nat}(h:n≤most):aS most (aq 10 n)=true:=by unfold aS;rw[qm,decide_eq_true h,decide_eq_true rfl];rfl
theorem jy{ws:List Bs}{i:Nat}{x:Bs}(h:ws[i]?=some x):aV ws i=.ok x (i+1):=by unfold aV;rw[h]
theorem mO{ws:List Bs}{i n most:Nat}(h:ws[i]?=some (aq 10 n))(hn:n≤most):bE most ws i=.ok n (i+1):=by unfold bE;rw[jy h];show aY (aS most (aq 10 n)) 200 (cZ (aq 10 n)) (i+1)=_;rw[rq hn,qm];rfl
theorem zO{n:Int}(h:0≤n):cW n=aq 10 n.toNat:=by unfold cW;rw[if_neg (by omega)]
theorem xz{ws:List Bs}{i:Nat}{n:Int}(h:ws[i]?=some (cW n))(h0:0≤n)(hn:n≤9223372036854775807):ji ws i=.ok n.toNat (i+1):=
 mO (by rw[h,zO h0]) (by omega)
theorem vq{ws:List Bs}{i:Nat}{x:Bs}(h:ws[i]?=some x)(hx:aK x=true):fO ws i=.ok x (i+1):=by unfold fO;rw[jy h];show aY (aK x) 201 x (i+1)=_;rw[hx];rfl
theorem prefix_at(hU:Oy){ws:List Bs}{i:Nat}{p:Px}(h:ws[i]?=some (wJ p))(hn:p.n < 2^128)(hk:gy p.v p.n p.k=true):dE ws i=.ok p (i+1):=by unfold dE;rw[jy h];show aY (ou (wJ p)).isSome 151 ((ou (wJ p)).getD ov) (i+1)=_;rw[hU p hn hk];rfl
theorem Ae(u:Nat):(45:UInt8)∉aq 10 u:=jl (by omega) (by omega) (.inl (by decide))
theorem DV(l m:List UInt8)(h:(45:UInt8)∉l):Lib.cut (l++45::m) [45]=(l,m,true):=by unfold Lib.cut;rw[rH 45 l m h,if_pos (by omega)];simp only[XL];rw[XZ rfl];congr 2;rw[show l++45::m=(l++[45])++m by simp];exact List.drop_left' (by simp)
theorem ye(s:List UInt8)(h:(45:UInt8)∉s):Lib.cut s [45]=(s,[],false):=by
 unfold Lib.cut;rcases Lib.index_spec s [45]with⟨h1,_⟩ | ⟨i,_,_,h3,_⟩
 ·rw[h1];rfl
 ·exact absurd (XP ((Hh s 45 i).1 h3)) h
theorem Pg(s:Nat×Nat):cP (ft s)=(aq 10 s.1,aq 10 s.2):=by
 unfold cP ft;by_cases h:s.1=s.2
 ·rw[if_pos h,ye _ (Ae _),←h]
 ·rw[if_neg h,DV _ _ (Ae _)]
theorem Au{ws:List Bs}{i:Nat}{s:Nat×Nat}(h:ws[i]?=some (ft s))(h1:s.1≤65535)(h2:s.2≤65535):jD ws i=.ok s (i+1):=by unfold jD;rw[jy h];show aY (aS 65535 (cP (ft s)).1&&aS 65535 (cP (ft s)).2) 200 (cZ (cP (ft s)).1,cZ (cP (ft s)).2) (i+1)=_;rw[Pg];show aY (aS 65535 (aq 10 s.1)&&aS 65535 (aq 10 s.2)) 200 (cZ (aq 10 s.1),cZ (aq 10 s.2)) (i+1)=_;rw[rq h1,rq h2,qm,qm];rfl
theorem lA{ws:List Bs}{i:Nat}{s:Bs}(h:ws[i]?=some s):dm ws i s=.ok true (i+1):=by unfold dm;rw[if_pos h]
theorem kF{ws:List Bs}{i:Nat}{s:Bs}(h:ws[i]?≠some s):dm ws i s=.ok false i:=by unfold dm;rw[if_neg h]
theorem yb(u:Nat)(c:UInt8)(l:Bs)(h:¬(48≤c.toNat∧c.toNat≤57)):aq 10 u≠c::l:=fun he=>by obtain⟨d,hd,hc⟩:=iQ (b:=10) (by omega) u c (by rw[he];simp);rw[hc,fb (by omega),if_pos hd]at h;omega
theorem Mh{ws:List Bs}{i n:Nat}(h:ws[i]?=some (eo n))(hn:n≤255):eJ ws i=.ok n (i+1):=by
 unfold eJ;by_cases h6:n=6
 ·have:eo n=kj:=by unfold eo;rw[if_pos h6]
  rw[lA (by rw[h,this]),h6];rfl
 ·by_cases h17:n=17
  ·have e:eo n=kY:=by unfold eo;rw[if_neg h6,if_pos h17]
   rw[kF (by rw[h,e];decide)];show(dm ws i kY).bind _=_;rw[lA (by rw[h,e]),h17];rfl
  ·have e:eo n=aq 10 n:=by unfold eo;rw[if_neg h6,if_neg h17]
   rw[e]at h;rw[kF (by rw[h];exact fun hh=>yb n 116 _ (by decide) (XO.inj hh))];show(dm ws i kY).bind _=_;rw[kF (by rw[h];exact fun hh=>yb n 117 _ (by decide) (XO.inj hh))];exact mO h hn
def Po(M m:Mt)(k:Nat):Mt:=match k with
 | 0=>{ m with fU:=M.fU }
 | 1=>{ m with src:=M.src }
 | 2=>{ m with dst:=M.dst }
 | 3=>{ m with bw:=M.bw }
 | 4=>{ m with sp:=M.sp }
 |_=>{ m with dp:=M.dp }
def iF(M m:Mt)(k:Nat):Mt:=Po M { m with asks:=m.asks|||2^k } k
structure Gr(M:Mt):Prop where
 i1:M.fU.1≤65535
 i2:M.fU.2≤65535
 s1:M.sp.1≤65535
 s2:M.sp.2≤65535
 d1:M.dp.1≤65535
 d2:M.dp.2≤65535
 pr:M.bw≤255
 sn:M.src.n < 2^128
 dn:M.dst.n < 2^128
theorem L1(hU:Oy){M m:Mt}(hM:Gr M)(hs:M.asks.testBit 1=true→gy M.src.v M.src.n M.src.k=true)(hd:M.asks.testBit 2=true→gy M.dst.v M.dst.n M.dst.k=true){k:Nat}(hk:k < 6)(hb:M.asks.testBit k=true){ws:List Bs}{i:Nat}{y:Bs}(hy:(bW M k)[1]?=some y)(h:ws[i]?=some y):cF k m ws i=.ok (Po M m k) (i+1):=by
 match k,hk with
 | 0,_=>cases hy;unfold cF;rw[Au h hM.i1 hM.i2];rfl
 | 1,_=>cases hy;unfold cF;rw[prefix_at hU h hM.sn (hs hb)];rfl
 | 2,_=>cases hy;unfold cF;rw[prefix_at hU h hM.dn (hd hb)];rfl
 | 3,_=>cases hy;unfold cF;rw[Mh h hM.pr];rfl
 | 4,_=>cases hy;unfold cF;rw[Au h hM.s1 hM.s2];rfl
 | 5,_=>cases hy;unfold cF;rw[Au h hM.d1 hM.d2];rfl
theorem sS(M:Mt){k:Nat}(hk:k < 6):∃x y,bW M k=[x,y]∧mn x=some k:=by
 match k,hk with
 | 0,_=>exact⟨_,_,rfl,by decide⟩
 | 1,_=>exact⟨_,_,rfl,by decide⟩
 | 2,_=>exact⟨_,_,rfl,by decide⟩
 | 3,_=>exact⟨_,_,rfl,by decide⟩
 | 4,_=>exact⟨_,_,rfl,by decide⟩
 | 5,_=>exact⟨_,_,rfl,by decide⟩
theorem tw(M m:Mt)(k:Nat):(Po M m k).asks=m.asks:=by unfold Po;split<;>rfl
theorem DK(hU:Oy){M m:Mt}(hM:Gr M)(hs:M.asks.testBit 1=true→gy M.src.v M.src.n M.src.k=true)(hd:M.asks.testBit 2=true→gy M.dst.v M.dst.n M.dst.k=true){k:Nat}(hk:k < 6)(hb:M.asks.testBit k=true)(hm:m.asks.testBit k=false){pre r:List Bs}:aQ (pre++(bW M k++r)) pre.length m=.ok (true,iF M m k) (pre.length+2):=by
 obtain⟨x,y,e,hx⟩:=sS M hk;have h0:(pre++(bW M k++r))[pre.length]?=some x:=by rw[e];simp
 have h1:(pre++(bW M k++r))[pre.length+1]?=some y:=by rw[e,XB (by omega)];simp
 unfold aQ;rw[h0];show(match mn x with|none=>_|some k=>_)=_;rw[hx];show(match m.asks.testBit k with|true=>_|false=>_)=_;rw[hm];show(cF k { m with asks:=m.asks|||2^k } _ (pre.length+1)).bind _=_;rw[L1 hU hM hs hd hk hb (y:=y) (by rw[e];rfl) h1];rfl
def V5(r:List Bs):Prop:=∀x,r[0]?=some x→mn x=none
theorem DI{pre r:List Bs}{m:Mt}(h:V5 r):aQ (pre++r) pre.length m=.ok (false,m) pre.length:=by
 unfold aQ;have e:(pre++r)[pre.length]?=r[0]?:=by rw[XB (by omega),Nat.sub_self]
 rw[e];cases hx:r[0]? with
 |none=>rfl
 |some x=>show(match mn x with|none=>_|some k=>_)=_;rw[h x hx]
theorem sa{a k j:Nat}(h:j≠k):(a|||2^k).testBit j=a.testBit j:=by rw[Nat.testBit_or,Nat.testBit_two_pow_of_ne (Ne.symm h),Bool.or_false]
theorem Aa(hU:Oy){M:Mt}(hM:Gr M)(hs:M.asks.testBit 1=true→gy M.src.v M.src.n M.src.k=true)(hd:M.asks.testBit 2=true→gy M.dst.v M.dst.n M.dst.k=true){r:List Bs}(hr:V5 r) :
  ∀(ks:List Nat) (pre:List Bs) (m:Mt) (f:Nat),(∀k∈ks,k < 6∧M.asks.testBit k=true∧m.asks.testBit k=false)→ks.Nodup→ks.length+1≤f→
   ec (pre++(ks.flatMap (bW M)++r)) f pre.length m=.ok (ks.foldl (iF M) m) (pre.length+2*ks.length)
 | [],pre,m,f+1,_,_,_=>by unfold ec;rw[show pre++(([]:List Nat).flatMap (bW M)++r)=pre++r by simp,DI hr];rfl
 |k::ks,pre,m,f+1,h,hn,hf=>by
  have hk:=h k (by simp);rw[XT]at hn;unfold ec;have e:pre++((k::ks).flatMap (bW M)++r)=pre++(bW M k++(ks.flatMap (bW M)++r)):=by simp
  rw[e,DK hU hM hs hd hk.1 hk.2.1 hk.2.2];obtain⟨x,y,e2,_⟩:=sS M hk.1;have hl:(bW M k).length=2:=by rw[e2];rfl
  have ih:=Aa hU hM hs hd hr ks (pre++bW M k) (iF M m k) f (fun j hj=>by have h1:=h j (XC _ hj);refine⟨h1.1,h1.2.1,?_⟩;unfold iF;rw[tw];show(m.asks|||2^k).testBit j=false;rw[sa (show j≠k from fun he=>hn.1 (by rw[←he];exact hj))];exact h1.2.2) hn.2 (by simp only[XN]at hf;omega);have hpl:(pre++bW M k).length=pre.length+2:=by rw[XH,hl]
  rw[XX,hpl]at ih;show ec _ f (pre.length+2) (iF M m k)=_;rw[ih];simp only[XF,XN];congr 1;omega
 |_,_,_,0,_,_,hf=>by omega
def nR(M:Mt):List Nat:=[0,1,2,3,4,5].filter fun k=>M.asks.testBit k
theorem uO(M:Mt):∀l:List Nat,l.flatMap (oV M)=(l.filter fun k=>M.asks.testBit k).flatMap (bW M)
 | []=>rfl
 |k::l=>by rw[XQ,uO M l,List.filter_cons];unfold oV;cases M.asks.testBit k<;>simp
theorem rv(M:Mt):gR M=(nR M).flatMap (bW M):=by unfold nR;rw[←uO];simp[gR]
theorem kX{M:Mt}{k:Nat}(h:k∈nR M):k < 6∧M.asks.testBit k=true:=by unfold nR at h;rw[X0]at h;refine⟨?_,h.2⟩;have:=h.1;simp at this;omega
theorem Dm(M:Mt):(nR M).Nodup:=by unfold nR;exact List.Pairwise.filter _ (by decide:([0,1,2,3,4,5]:List Nat).Nodup)
theorem MD{a b:Mt}(h0:a.asks=b.asks)(h1:a.fU=b.fU)(h2:a.src=b.src)(h3:a.dst=b.dst)(h4:a.bw=b.bw)(h5:a.sp=b.sp)(h6:a.dp=b.dp):a=b:=by cases a;cases b;simp_all
theorem zX(M:Mt):∀(ks:List Nat) (m:Mt),(ks.foldl (iF M) m).asks=ks.foldl (fun a k=>a|||2^k) m.asks
 | [],_=>rfl
 |k::ks,m=>by rw[XF,XF,zX M ks];unfold iF;rw[tw]
theorem Ee:∀a:Fin 64,([0,1,2,3,4,5].filter fun k=>a.val.testBit k).foldl (fun a k=>a|||2^k) 0=a.val:=by decide+kernel
theorem zW{α:Type}(M:Mt)(f:Mt→α)(j:Nat)(h1:∀m,f (iF M m j)=f M)(h2:∀m k,k < 6→k≠j→f (iF M m k)=f m):∀(ks:List Nat) (m:Mt),(∀k∈ks,k < 6)→ks.Nodup→(j∈ks→f (ks.foldl (iF M) m)=f M)∧(j∉ks→f (ks.foldl (iF M) m)=f m)
 | [],m,_,_=>⟨fun h=>absurd h (by simp),fun _=>rfl⟩
 |k::ks,m,hk,hn=>by
  rw[XT]at hn;have ih:=zW M f j h1 h2 ks (iF M m k) (fun x hx=>hk x (XC _ hx)) hn.2;rw[XF];by_cases he:k=j
  ·subst he
   refine⟨fun _=>?_,fun h=>absurd (List.mem_cons_self) h⟩;rw[ih.2 hn.1];exact h1 m
  ·refine⟨fun h=>ih.1 ?_,fun h=>?_⟩
   ·rcases List.mem_cons.1 h with h|h
    ·exact absurd h.symm he
    ·exact h
   ·rw[ih.2 fun hh=>h (XC _ hh)]
    exact h2 m k (hk k (by simp)) he
theorem MI{M:Mt}{k:Nat}(hk:k < 6):k∈nR M↔M.asks.testBit k=true:=by unfold nR;rw[X0];refine⟨fun h=>h.2,fun h=>⟨?_,h⟩⟩;simp;omega
theorem Mc{p:Px}(h:Ex p=true):p=ov:=by unfold Ex at h;have:=of_decide_eq_true h;cases p;simp_all[ov]
theorem TB{M:Mt}(ha:M.asks < 64)(z0:M.asks.testBit 0=false→M.fU=(0,0))(z1:M.asks.testBit 1=false→M.src=ov)(z2:M.asks.testBit 2=false→M.dst=ov)(z3:M.asks.testBit 3=false→M.bw=0)(z4:M.asks.testBit 4=false→M.sp=(0,0))(z5:M.asks.testBit 5=false→M.dp=(0,0)):(nR M).foldl (iF M) kU=M:=by
 have part:∀{α:Type} (f:Mt→α) (j:Nat),j < 6→(∀m,f (iF M m j)=f M)→(∀m k,k < 6→k≠j→f (iF M m k)=f m)→(M.asks.testBit j=false→f M=f kU)→f ((nR M).foldl (iF M) kU)=f M:=fun f j hj h1 h2 h3=>by
  have:=zW M f j h1 h2 (nR M) kU (fun k hk=>(kX hk).1) (Dm M);cases hb:M.asks.testBit j with
  |true=>exact this.1 ((MI hj).2 hb)
  |false=>rw[this.2 (fun hh=>by rw[(MI hj).1 hh]at hb;cases hb)];exact(h3 hb).symm
 have cas:∀{P:Nat→Prop} (j:Nat),(∀k,k < 6→k≠j→P k)→∀k,k < 6→k≠j→P k:=fun _ h=>h;refine MD ?_ (part (·.fU) 0 (by omega) (fun _=>rfl) (fun m k hk hj=>?_) z0) (part (·.src) 1 (by omega) (fun _=>rfl) (fun m k hk hj=>?_) z1) (part (·.dst) 2 (by omega) (fun _=>rfl) (fun m k hk hj=>?_) z2) (part (·.bw) 3 (by omega) (fun _=>rfl) (fun m k hk hj=>?_) z3) (part (·.sp) 4 (by omega) (fun _=>rfl) (fun m k hk hj=>?_) z4) (part (·.dp) 5 (by omega) (fun _=>rfl) (fun m k hk hj=>?_) z5)
 ·rw[zX]
  exact Ee ⟨M.asks,ha⟩
 all_goals (match k,hk,hj with
  | 0,_,hj=>first|rfl|exact absurd rfl hj
  | 1,_,hj=>first|rfl|exact absurd rfl hj
  | 2,_,hj=>first|rfl|exact absurd rfl hj
  | 3,_,hj=>first|rfl|exact absurd rfl hj
  | 4,_,hj=>first|rfl|exact absurd rfl hj
  | 5,_,hj=>first|rfl|exact absurd rfl hj)
theorem pJ{M:Mt}(h:bq M=true):M.asks < 64∧(M.asks.testBit 0=false→M.fU=(0,0))∧(M.asks.testBit 1=false→M.src=ov)∧(M.asks.testBit 2=false→M.dst=ov)∧(M.asks.testBit 3=false→M.bw=0)∧(M.asks.testBit 4=false→M.sp=(0,0))∧(M.asks.testBit 5=false→M.dp=(0,0))∧
  (M.asks.testBit 1=true→gy M.src.v M.src.n M.src.k=true)∧(M.asks.testBit 2=true→gy M.dst.v M.dst.n M.dst.k=true):=by
 unfold bq at h;simp only[XR]at h;obtain⟨⟨h0,h1,h2,h3,h4,h5,h6⟩,⟨_,_,_,_⟩,⟨g1,g2,_⟩,_⟩:=h;refine⟨by simpa using h0,fun hb=>?_,fun hb=>?_,fun hb=>?_,fun hb=>?_,fun hb=>?_,fun hb=>?_,fun hb=>?_,fun hb=>?_⟩
 ·rw[hb]at h1;exact of_decide_eq_true h1
 ·rw[hb]at h2;exact Mc h2
 ·rw[hb]at h3;exact Mc h3
 ·rw[hb]at h4;exact of_decide_eq_true h4
 ·rw[hb]at h5;exact of_decide_eq_true h5
 ·rw[hb]at h6;exact of_decide_eq_true h6
 ·rw[hb]at g1;exact g1
 ·rw[hb]at g2;exact g2
def zI(M:Mt):List Bs:=if M.asks=0 then [iO] else gR M
theorem FB(M:Mt):kV M=ay 32 (zI M):=by unfold kV zI;split<;>rfl
theorem Sd{M:Mt}(h0:M.asks≠0)(h:M.asks < 64):nR M≠[]:=fun he=>by have:=Ee ⟨M.asks,h⟩;have he':([0,1,2,3,4,5].filter fun k=>M.asks.testBit k)=[]:=he;rw[he']at this;exact h0 this.symm
theorem Q0:mn iO=none:=by decide
theorem ML(hU:Oy){M:Mt}(hM:Gr M)(hc:bq M=true){pre r:List Bs}(hr:V5 r):eO (pre++(zI M++r)) pre.length=.ok M (pre.length+(zI M).length):=by
 obtain⟨ha,z0,z1,z2,z3,z4,z5,hs,hd⟩:=pJ hc;unfold eO;by_cases h0:M.asks=0
 ·have e:zI M=[iO]:=by unfold zI;rw[if_pos h0]
  rw[e,lA (by simp)];have:M=kU:=by refine MD h0 (z0 (by rw[h0];rfl)) (z1 (by rw[h0];rfl)) (z2 (by rw[h0];rfl)) (z3 (by rw[h0];rfl)) (z4 (by rw[h0];rfl)) (z5 (by rw[h0];rfl))
  rw[this];rfl
 ·have e:zI M=(nR M).flatMap (bW M):=by unfold zI;rw[if_neg h0,rv]
  rw[e];obtain⟨k,ks,hks⟩:=List.exists_cons_of_ne_nil (Sd h0 ha);have hkm:k∈nR M:=by rw[hks];simp
  obtain⟨x,y,e2,hx⟩:=sS M (kX hkm).1;have hat:(pre++((nR M).flatMap (bW M)++r))[pre.length]?=some x:=by rw[hks,XQ,e2,XB (by omega)];simp
  rw[kF (by rw[hat];intro hh;rw[XO.inj hh]at hx;rw[Q0]at hx;cases hx)];show(aQ (pre++((nR M).flatMap (bW M)++r)) pre.length kU).bind _=_;have e3:pre++((nR M).flatMap (bW M)++r)=pre++(bW M k++(ks.flatMap (bW M)++r)):=by rw[hks];simp
  have nb:∀j,kU.asks.testBit j=false:=fun j=>Nat.zero_testBit j;have hn:=Dm M;rw[hks,XT]at hn;have hf:=DK hU (m:=kU) hM hs hd (kX hkm).1 (kX hkm).2 (nb k) (pre:=pre) (r:=ks.flatMap (bW M)++r);have hlen2:(bW M k).length=2:=by rw[e2];rfl
  have hll:∀l:List Nat,(∀j∈l,j < 6)→(l.flatMap (bW M)).length=2*l.length:=by
   intro l;induction l with
   |nil=>intro _;rfl
   |cons j l ih=>intro hj;obtain⟨_,_,e4,_⟩:=sS M (hj j (by simp));rw[XQ,XH,ih (fun i hi=>hj i (XC _ hi)),e4];simp only[XN,List.length_nil];omega
  have hm:=Aa hU hM hs hd hr ks (pre++bW M k) (iF M kU k) ((pre++((nR M).flatMap (bW M)++r)).length+1 - (pre.length+2)) (fun j hj=>by
   have hj2:j∈nR M:=by rw[hks];exact XC _ hj
   refine⟨(kX hj2).1,(kX hj2).2,?_⟩;unfold iF;rw[tw];show(kU.asks|||2^k).testBit j=false;rw[sa (show j≠k from fun he=>hn.1 (by rw[←he];exact hj))];exact nb j) hn.2 (by rw[e3];simp only[XH,hlen2,hll ks (fun j hj=>(kX (M:=M) (by rw[hks];exact XC _ hj)).1)];omega)
  have hpl:(pre++bW M k).length=pre.length+2:=by rw[XH,hlen2]
  rw[XX,←e3,hpl]at hm;rw[←e3]at hf;rw[hf];show ec _ _ (pre.length+2) (iF M kU k)=_;rw[hm,hll _ (fun j hj=>(kX hj).1),hks];have:=TB ha z0 z1 z2 z3 z4 z5;rw[hks,XF]at this;rw[this];simp only[XN];congr 1;omega
set_option maxRecDepth 100000
open Go Go.RowKit Go.Lib Go.Sort _root_.Go.Proofs.Tryz
set_option maxRecDepth 100000
theorem fy{most:Nat}{s:Bs}:fz most s≤most:=by
 unfold fz;cases h:aS most s with
 |true=>exact(ky.1 h).1
 |false=>exact XG _
theorem EI{v:Nat}(h:v≤65535):XA .u16 (IntKind.u16.wrap (v:Int))=.int .u16 (v:Int):=by rw[IntKind.wrap_u16];congr 1;omega
def EV(x:Bs)(i:Nat):List (Nat×Sx.SV):=[(0,.ptr 0 0),(2,.ptr 1 0),(3,.val (ae x)),(4,.val (.int .i64 (i:Int)))]
def oH(g:Nat)(A:Option Go.Addr)(n c:Nat)(s1:RS):List Sx.Row:=[⟨114,.dG g (da A n c s1)⟩,⟨64,.an [.int .u16 0,.int .u16 0]⟩]
theorem Lg{x:Bs}{i:Nat}(hi:x[i]?=some 45)(h:(45:UInt8)∉x.take i):cP x=(x.take i,x.drop (i+1)):=by
 have e:x=x.take i++45::x.drop (i+1):=by
  obtain⟨hl,hx⟩:=XI.1 hi
  conv=>lhs;rw[←List.take_append_drop i x,List.drop_eq_getElem_cons hl,hx]
 have:=DV _ (x.drop (i+1)) h;rw[←e]at this;unfold cP;rw[this]
theorem EU{x:Bs}(h:(45:UInt8)∉x):cP x=(x,x):=by unfold cP;rw[ye x h]
theorem SJ{w:World}{g:Nat}{A:Option Go.Addr}{n c:Nat}{st:RS}{ws:List Bs}(h:oh w [g] g A n c st ws)(s1:RS)(hl:s1.at_≤n)(he:s1.e≤1000)(ho:s1.e=0→1≤s1.at_)(x:Bs)(hx:x.length≤100000000)(R:(Nat×Nat)×RS)
  (hR:R=qF (aS 65535 (cP x).1&&aS 65535 (cP x).2) 200 (fz 65535 (cP x).1,fz 65535 (cP x).2) s1) (i:Nat) (hi:i≤x.length∧(45:UInt8)∉x.take i) :
  ∃H' L',Sx.lN prog f157.ntmps (WJ w g) (Sx.a7 f157 0) H' L' ⟨EV x i,oH g A n c s1⟩
   (Sx.dP (fun i=>i≤x.length∧(45:UInt8)∉x.take i) (EV x) (fun _=>oH g A n c s1) (fun i=>i+1) (fun i=>x.length+1 - i) (fun(_:Unit)=>(45:UInt8)∉x) (fun _=>[(0,.ptr 0 0),(2,.ptr 1 0),(3,.val (ae x))]) (fun _=>oH g A n c s1) (fun _=>()) (Sx.ej (Sx.a7 f157 0) - 1) (Sx.rS prog f157 (Ey g A n c iA R) .ret) i):=by
 have c15:=gz x;obtain⟨hi1,hi2⟩:=hi;by_cases hlt:i < x.length
 ·have kq:=bT ((i:Int) < (x.length:Int)) (by omega)
  obtain⟨b,hb⟩:∃b,x[i]?=some b:=⟨_,XJ hlt⟩;have c21:=kE x i b hb;by_cases h45:b=45
  ·subst h45
   have c22:Xz (((45:UInt8).toNat:Int)==45)=.bool true:=rfl;rw[Lg hb hi2]at hR;have c26:=fun W=>vN x i (by omega) W;have c33:=mW (i:=i) (by omega);have c34:=fun W=>q7 x (i+1) (by omega) W;have l1:(x.take i).length≤1000000000:=by rw[XY];omega
   have l2:(x.drop (i+1)).length≤1000000000:=by rw[List.length_drop];omega
   simp only at hR;generalize x.take i=y1 at*;generalize x.drop (i+1)=y2 at*;have c27:=fun W (_:ai [g] w W)=>qf y1 16 (by omega) l1 W;have vz:=fun W (_:ai [g] w W)=>qf y2 16 (by omega) l2 W;rw[show 18446744073709551615 / 2^(64 - 16)=65535 from rfl]at c27 vz;unfold JE at c27 vz;have v1:=fy (most:=65535) (s:=y1);have v2:=fy (most:=65535) (s:=y2);have c45:=j7 200 h hl he ho;have zz:Ey g A n c iA R (.val (iA (fz 65535 y1,fz 65535 y2))) [(g,114,da A n c (rO (aS 65535 y1&&aS 65535 y2) 200 s1))]:=by rw[hR];exact⟨rfl,rfl⟩
   clear hR;generalize aS 65535 y1=k1 at c27 zz;generalize aS 65535 y2=k2 at vz zz;generalize fz 65535 y1=a1 at c27 zz v1;generalize fz 65535 y2=a2 at vz zz v2;have c47:=EI v1;have c49:=EI v2;refine⟨[(15,.is (.int .i64 (x.length:Int))),ao 16 true,(21,.bin (u8 45)),ao 22 true,(26,.bin (ae y1)),(27,.call (.tuple #[.int .u64 (a1:Int),.bool k1])),cO 33 (i+1),(34,.bin (ae y2)),(35,.call (.tuple #[.int .u64 (a2:Int),.bool k2])),(45,.aX 0 (da A n c (rO (k1&&k2) 200 s1)) (.tuple #[])),(47,.is (.int .u16 (a1:Int))),(49,.is (.int .u16 (a2:Int)))],[],?_⟩;have CH:=Sx.t8 c15 kq c21 c22 c26 c27 c33 c34 (Xy vz (bA.mk (b:=k1&&k2) (fun _=>c45) (Sx.t2 c47 c49 zz)));cases k1<;>cases k2<;>exact XE (by kernel_rfl) CH
  ·have c22:Xz ((b.toNat:Int)==45)=.bool false:=qQ (by
    rw[beq_eq_false_iff_ne];intro hc;exact h45 (UInt8.toNat_inj.1 (by show b.toNat=45;omega)))
   have c18:=mW (i:=i) (by omega);have h0:i+1≤x.length∧(45:UInt8)∉x.take (i+1):=⟨hlt,by
    rw[List.take_add_one,hb,List.mem_append];rintro(hh|hh)
    ·exact hi2 hh
    ·exact h45 (XW.1 hh).symm⟩
   have h1:x.length+1 - (i+1) < x.length+1 - i:=by omega
   have h2:EV x (i+1)=EV x (i+1):=rfl;have z3:oH g A n c s1=oH g A n c s1:=rfl;refine⟨[(15,.is (.int .i64 (x.length:Int))),ao 16 true,(21,.bin (u8 b)),ao 22 false,cO 18 (i+1)],[],?_⟩;exact XE (by kernel_rfl) (Sx.t8 c15 kq c21 c22 c18 h0 h1 h2 z3)
 ·have kq:=bF ((i:Int) < (x.length:Int)) (by omega)
  obtain rfl:i=x.length:=by omega
  have h0:(45:UInt8)∉x:=by rwa [List.take_length]at hi2
  have h1:([(0,.ptr 0 0),(2,.ptr 1 0),(3,.val (ae x))]:List (Nat×Sx.SV))=[(0,.ptr 0 0),(2,.ptr 1 0),(3,.val (ae x))]:=rfl;have z2:oH g A n c s1=oH g A n c s1:=rfl;refine⟨[(15,.is (.int .i64 (x.length:Int))),ao 16 false],[],?_⟩;exact XE (by kernel_rfl) (Sx.t4 c15 kq h0 h1 z2)
theorem PF(ws:List Bs)(st:RS):eV ws st=qF (aS 65535 (cP (ak ws st).1).1&&aS 65535 (cP (ak ws st).1).2) 200 (fz 65535 (cP (ak ws st).1).1,fz 65535 (cP (ak ws st).1).2) (ak ws st).2:=rfl
theorem AD{w:World}{S:List Nat}{g:Nat}{A:Option Go.Addr}{n c:Nat}{st:RS}{ws:List Bs}(h:oh w S g A n c st ws):Calls prog 157 #[.pointer (some ⟨g,0,none⟩)] w (ig g A n c iA (eV ws st) w):=by
 have h:=h.low;obtain⟨h1,h2⟩:=bJ h.jq.len st h.le h.eb;have c12:=ru h;have hR:=PF ws st;have hsz:=rf (st:=st) h.sz;have ho:=gr (ws:=ws) (st:=st);generalize eV ws st=R at hR ⊢;generalize ak ws st=r at*;obtain⟨x,s1⟩:=r;simp only at*;have rd:=SJ h s1 h1 h2 ho x hsz R hR;have c59:=j7 200 h h1 h2 ho;have c53:=fun W (_:ai [g] w W)=>qf x 16 (by omega) (XU hsz (by decide)) W;rw[show 18446744073709551615 / 2^(64 - 16)=65535 from rfl]at c53;unfold JE at c53;have v1:=fy (most:=65535) (s:=x);have zz:(45:UInt8)∉x→Ey g A n c iA R (.val (iA (fz 65535 x,fz 65535 x))) [(g,114,da A n c (rO (aS 65535 x) 200 s1))]:=fun hn=>by rw[hR,EU hn];show Ey g A n c iA (qF (aS 65535 x&&aS 65535 x) 200 (fz 65535 x,fz 65535 x) s1) _ _;rw[Bool.and_self];exact⟨rfl,rfl⟩
 clear hR;generalize aS 65535 x=k1 at c53 zz;generalize fz 65535 x=a1 at c53 zz v1;have c61:=EI v1;have z0:0≤x.length∧(45:UInt8)∉x.take 0:=⟨XG _,by simp⟩;have e1:EV x 0=EV x 0∧oH g A n c s1=oH g A n c s1:=⟨rfl,rfl⟩;have CH:=Xy c12 (Xy z0 (Xy e1 (Xy rd fun(_:Unit) (hn:(45:UInt8)∉x)=>Xy c53 (bA.mk (b:=k1) (fun _=>c59) (Sx.t2 c61 c61 (zz hn))))));refine eA [] h.cw [(12,.aX 0 (da A n c s1) (ae x)),(53,.call (.tuple #[.int .u64 (a1:Int),.bool k1])),(59,.aX 0 (da A n c (rO k1 200 s1)) (.tuple #[])),(61,.is (.int .u16 (a1:Int))),(63,.is (.int .u16 (a1:Int)))] [.mk Nat 0 (fun i=>i≤x.length∧(45:UInt8)∉x.take i) (EV x) (fun _=>oH g A n c s1) (fun i=>i+1) (fun i=>x.length+1 - i) Unit (fun _=>(45:UInt8)∉x) (fun _=>[(0,.ptr 0 0),(2,.ptr 1 0),(3,.val (ae x))]) (fun _=>oH g A n c s1) (fun _=>())] (by kernel_rfl) func157 rfl (bN rfl) ?_;cases k1<;>exact XE (by kernel_rfl) CH
set_option maxRecDepth 100000
open Go Go.RowKit Go.Lib Go.Sort _root_.Go.Proofs.Tryz
set_option maxRecDepth 100000
theorem iy{α:Type}{w:World}{g f:Nat}{A:Option Go.Addr}{n c:Nat}{st s1:RS}{ws:List Bs}{V:α→Value}{r:α×RS}{rest:List Value}(h:oh w [g] g A n c st ws)(hl:s1.at_≤n)(he:s1.e≤1000)
  (H:∀W,oh W [g] g A n c s1 ws→Calls prog f ((pt g 0)::rest).toArray W (ig g A n c V r W)):OG w g f rest A n c s1 r.2 (V r.1):=
 fun W hW hb=>PT (.dG g _) rfl rfl rfl (H W (h.at hW hb hl he))
theorem gX{n most:Nat}{ws:List Bs}(h:ws.length=n):Gq n (bR most ws):=fA (bJ h) fun _=>sw (by decide)
theorem so{n:Nat}{ws:List Bs}(h:ws.length=n):Gq n (j2 ws):=fA (bJ h) fun _=>sw (by decide)
theorem re{n:Nat}{ws:List Bs}(h:ws.length=n):Gq n (dC ws):=fA (bJ h) fun _=>sw (by decide)
theorem vV{n:Nat}{ws:List Bs}(h:ws.length=n):Gq n (eV ws):=fA (bJ h) fun _=>sw (by decide)
theorem IW{n:Nat}{ws:List Bs}(h:ws.length=n):Gq n (fI ws):=fun st h1 h2=>by
 unfold fI;cases lr ws kj st with
 |true=>exact bJ h st h1 h2
 |false=>
  cases lr ws kY st with
  |true=>exact bJ h st h1 h2
  |false=>exact gX h st h1 h2
theorem UA{v:Nat}(h:v≤255):XA .u8 (IntKind.u8.wrap (v:Int))=.int .u8 (v:Int):=by rw[IntKind.wrap_u8];congr 1;omega
def G8{α:Type}(b1 b2:Bool)(x y z:α):α:=match b1 with
 |true=>x
 |false=>match b2 with
  |true=>y
  |false=>z
theorem LF{w:World}{S:List Nat}{g:Nat}{A:Option Go.Addr}{n c:Nat}{st:RS}{ws:List Bs}(h:oh w S g A n c st ws):Calls prog 158 #[(pt g 0)] w (ig g A n c Iy (fI ws st) w):=by
 have h:=h.low;have c4:=iy (st:=st) h h.le h.eb fun W hW=>zb hW kj;have c8:=iy (st:=st) h h.le h.eb fun W hW=>zb hW kY;have c6:=ru h;have c12:=iy h h.le h.eb fun W hW=>gq 8 255 (by omega) rfl hW;have v1:(bR 255 ws st).1≤255:=fy;have hR:fI ws st=G8 (lr ws kj st) (lr ws kY st) (6,(ak ws st).2) (17,(ak ws st).2) (bR 255 ws st):=by unfold fI G8;cases lr ws kj st<;>cases lr ws kY st<;>rfl
 generalize fI ws st=R at hR ⊢;generalize lr ws kj st=b1 at*;generalize lr ws kY st=b2 at*;generalize bR 255 ws st=q at*;generalize ak ws st=r at*;have c13:=UA v1;have zz:Ey g A n c Iy R (.val (Iy (G8 b1 b2 (6,r.2) (17,r.2) q).1)) [(g,114,da A n c (G8 b1 b2 (6,r.2) (17,r.2) q).2)]:=by rw[hR];exact⟨rfl,rfl⟩
 have CH:=Xy c4 (jZ.mk (b:=b1) (fun _=>Xy c6 zz) (fun _=>Xy c8 (jZ.mk (b:=b2) (fun _=>Xy c6 zz) (fun _=>Sx.t2 c12 c13 zz))));refine eA [] h.cw [(4,.aX 0 (da A n c st) (.bool b1)),(6,.aX 0 (da A n c r.2) (ae r.1)),(8,.aX 0 (da A n c st) (.bool b2)),(10,.aX 0 (da A n c r.2) (ae r.1)),(12,.aX 0 (da A n c q.2) (kg q.1)),(13,.is (Iy q.1))] [] (by kernel_rfl) func158 rfl (bN rfl) ?_;cases b1<;>cases b2<;>exact XE (by kernel_rfl) CH
def vc(x:Bs):Int:=match mn x with
 |some k=>(k:Int)
 |none => -1
theorem Q1(x:Bs):∀i,i < 6→(xO[i]?=some x→mn x=some i)
 | 0,_,h=>by cases h;rfl
 | 1,_,h=>by cases h;rfl
 | 2,_,h=>by cases h;rfl
 | 3,_,h=>by cases h;rfl
 | 4,_,h=>by cases h;rfl
 | 5,_,h=>by cases h;rfl
theorem Ns{x:Bs}(h:∀i,i < 6→xO[i]?≠some x):mn x=none:=by unfold mn;rw[if_neg (fun e=>h 0 (by omega) (by rw[e];rfl)),if_neg (fun e=>h 1 (by omega) (by rw[e];rfl)),if_neg (fun e=>h 2 (by omega) (by rw[e];rfl)),if_neg (fun e=>h 3 (by omega) (by rw[e];rfl)),if_neg (fun e=>h 4 (by omega) (by rw[e];rfl)),if_neg (fun e=>h 5 (by omega) (by rw[e];rfl))]
def FX(x:Bs)(i:Nat):List (Nat×Sx.SV):=[(0,.val (ae x)),(3,.own 0),(4,.val (.int .i64 (i:Int)))]
def xX:List Sx.Row:=[⟨9,.own 1 6 (strs xO)⟩]
def VY(x:Bs)(i:Nat):Prop:=i≤6∧∀j,j < i→xO[j]?≠some x
theorem SM(x:Bs)(T:Value)(hT:T=.int .i64 (vc x))(w:World)(i:Nat)(hi:VY x i):∃H' L',Sx.ex prog f156.ntmps w (Sx.a7 f156 0) H' L' ⟨FX x i,xX⟩
  (Sx.dP (VY x) (FX x) (fun _=>xX) (fun i=>i+1) (fun i=>8 - i) (fun(_:Unit)=>mn x=none) (fun _=>[]) (fun _=>[]) (fun _=>()) (Sx.ej (Sx.a7 f156 0) - 1) (Sx.atEnd prog f156 (fun v=>v=T) .ret) i):=by
 have hi1:=hi.1;by_cases hlt:i < 6
 ·have c9:=bT ((i:Int) < 6) (by omega)
  obtain⟨k,hk⟩:∃k,xO[i]?=some k:=⟨_,XJ (show i < xO.length from hlt)⟩;have c14:(0:Int)≤(i:Int)∧(i:Int) < ((6:Nat):Int):=⟨by omega,by omega⟩;have c15:(strs xO)[(i:Int).toNat*1]?=some (ae k):=by rw[Nat.mul_one];exact K9 hk
  have c17:=fun W=>dR (.tmp 15) (.tmp 16) k x _ rfl W;have iB:=mW (i:=i) (by omega);by_cases hx:k=x
  ·rw[decide_eq_true hx]at c17
   have z0:XA .i64 (i:Int)=T:=by rw[hT];unfold vc;rw[Q1 x i hlt (by rw[hk,hx])]
   refine⟨[ao 9 true,(14,.ix),(15,.ld (ae k)),(17,.bin (.bool true))],[],?_⟩;exact XE (by kernel_rfl) (Sx.t4 c9 c14 c15 c17 z0)
  ·rw[decide_eq_false hx]at c17
   have h0:VY x (i+1):=⟨hlt,fun j hj=>by
    by_cases hji:j=i
    ·rw[hji,hk];exact fun e=>hx (XO.inj e)
    ·exact hi.2 j (by omega)⟩
   have h1:8 - (i+1) < 8 - i:=by omega
   have h2:FX x (i+1)=FX x (i+1):=rfl;have z3:xX=xX:=rfl;refine⟨[ao 9 true,(14,.ix),(15,.ld (ae k)),(17,.bin (.bool false)),cO 11 (i+1)],[],?_⟩;exact XE (by kernel_rfl) (Sx.t8 c9 c14 c15 c17 iB h0 h1 h2 z3)
 ·have c9:=bF ((i:Int) < 6) (by omega)
  have h0:mn x=none:=Ns fun j hj=>hi.2 j (by omega);have h1:([]:List (Nat×Sx.SV))=[]:=rfl;have z2:([]:List Sx.Row)=[]:=rfl;refine⟨[ao 9 false],[],?_⟩;exact XE (by kernel_rfl) (Sx.t2 c9 h0 (Xy h1 z2))
theorem iH(x:Bs)(w:World):Calls prog 156 #[ae x] w (Rn w (.int .i64 (vc x))):=by have c5:=fun W (_:ai [] w W)=>I5 W;have iZ:=SM x (.int .i64 (vc x)) rfl w;have h0:VY x 0:=⟨XG _,fun j hj=>by omega⟩;have e1:FX x 0=FX x 0∧xX=xX:=⟨rfl,rfl⟩;have z5f:=fun(_:Unit) (h:mn x=none)=>(show XA .i64 (-1)=.int .i64 (vc x)from by unfold vc;rw[h]);refine Sx.av (args:=[ae x]) [(5,.ct (.sl 9 1 6 (strs xO)))] [.mk Nat 0 (VY x) (FX x) (fun _=>xX) (fun i=>i+1) (fun i=>8 - i) Unit (fun _=>mn x=none) (fun _=>[]) (fun _=>[]) (fun _=>())] (by kernel_rfl) func156 rfl (bN rfl) ?_;exact XE (by kernel_rfl) (Sx.t4 c5 h0 e1 iZ (fun(x3:Unit) (hx4:mn x=Option.none)=>(z5f x3 hx4)))
open Go Go.RowKit Go.Lib Go.Sort
def OW{α:Type}(q:RA α):Prop:=∀st:RS,(q st).2.e=0→st.e=0∧st.at_≤(q st).2.at_
theorem tD{ws:List Bs}(st:RS)(h:(ak ws st).2.e=0):st.e=0∧(ak ws st).2.at_=st.at_+1:=by
 cases he:XD st.e 0 with
 |false=>rw[GY he]at h;have h:st.e=0:=h;rw[h]at he;cases he
 |true=>
  rw[GX he]at h ⊢;cases hx:ws[st.at_]? with
  |none=>rw[hx]at h;cases h
  |some x=>exact⟨XV he,rfl⟩
theorem oO(ws:List Bs):OW (ak ws):=fun st h=>⟨(tD st h).1,by rw[(tD st h).2];exact Nat.le_succ _⟩
theorem IK{code:Nat}(hc:code≠0)(st:RS)(h:(cz code st).e=0):False:=by
 unfold cz at h;cases he:XD st.e 0 with
 |false=>rw[he]at h;have h:st.e=0:=h;rw[h]at he;cases he
 |true=>rw[he]at h;exact hc h
theorem AO{α:Type}{ok:Bool}{code:Nat}{a:α}(hc:code≠0):OW (qF ok code a):=fun st h=>by
 cases ok with
 |true=>exact⟨h,XM _⟩
 |false=>exact(IK hc st h).elim
theorem mJ{α:Type}{a:α}:OW (eM a):=fun _ h=>⟨h,XM _⟩
theorem iJ{α β:Type}{q:RA α}{f:α→RA β}(h:OW q)(hf:∀a,OW (f a)):OW (bM q f):=fun st hh=>by obtain⟨h1,h2⟩:=hf _ _ hh;obtain⟨h3,h4⟩:=h st h1;exact⟨h3,XU h4 h2⟩
theorem IX(ws:List Bs):OW (fI ws):=fun st h=>by
 unfold fI at h ⊢;cases h1:lr ws kj st with
 |true=>rw[h1]at h;exact oO ws st h
 |false=>
  rw[h1]at h;cases h2:lr ws kY st with
  |true=>rw[h2]at h;exact oO ws st h
  |false=>rw[h2]at h;exact iJ (oO ws) (fun _=>AO (by decide)) st h
theorem vW(ws:List Bs):OW (eV ws):=iJ (oO ws) fun _=>AO (by decide)
theorem vY(ws:List Bs):OW (dC ws):=iJ (oO ws) fun _=>AO (by decide)
theorem IV(k:Nat)(m:Mt)(ws:List Bs):OW (ma k m ws):=by
 rcases k with _|_|_|_|_|k
 ·exact iJ (vW ws) fun _=>mJ
 ·exact iJ (vY ws) fun _=>mJ
 ·exact iJ (vY ws) fun _=>mJ
 ·exact iJ (IX ws) fun _=>mJ
 ·exact iJ (vW ws) fun _=>mJ
 ·exact iJ (vW ws) fun _=>mJ
theorem IU{n:Nat}(k:Nat)(m:Mt){ws:List Bs}(h:ws.length=n):Gq n (ma k m ws):=by
 rcases k with _|_|_|_|_|k
 ·exact fA (vV h) fun _=>gH
 ·exact fA (re h) fun _=>gH
 ·exact fA (re h) fun _=>gH
 ·exact fA (IW h) fun _=>gH
 ·exact fA (vV h) fun _=>gH
 ·exact fA (vV h) fun _=>gH
theorem vX(ws:List Bs)(st:RS):(eV ws st).1.1≤65535∧(eV ws st).1.2≤65535:=⟨fy,fy⟩
theorem IY(ws:List Bs)(st:RS):(fI ws st).1≤255:=by
 unfold fI;cases lr ws kj st with
 |true=>exact(by decide:6≤255)
 |false=>
  cases lr ws kY st with
  |true=>exact(by decide:17≤255)
  |false=>exact fy
theorem Ct(k:Nat){m:Mt}{ws:List Bs}{st:RS}(hm:m.Good):(ma k m ws st).1.Good:=by
 obtain⟨hw,ha⟩:=hm;rcases k with _|_|_|_|_|k
 ·exact⟨{ hw with fU:=vX ws st },ha⟩
 ·exact⟨{ hw with sn:=(wv _).1,sk:=(wv _).2 },ha⟩
 ·exact⟨{ hw with dn:=(wv _).1,dk:=(wv _).2 },ha⟩
 ·exact⟨{ hw with pr:=IY ws st },ha⟩
 ·exact⟨{ hw with sp:=vX ws st },ha⟩
 ·exact⟨{ hw with dp:=vX ws st },ha⟩
theorem Qj{m:Mt}{k:Nat}(hm:m.Good)(hk:k < 6):({ m with asks:=m.asks|||2^k }:Mt).Good:=by have:m.asks|||2^k < 2^6:=Nat.or_lt_two_pow hm.2 (Nat.pow_lt_pow_right (by omega) hk);exact⟨{ hm.1 with asks:=by show m.asks|||2^k < 256;omega },this⟩
theorem uq{ws:List Bs}{m:Mt}{st:RS}(hm:m.Good):(aW ws m st).1.1.Good:=by
 unfold aW;cases h:mn (ak ws st).1 with
 |none=>exact hm
 |some k=>
  simp only;cases m.asks.testBit k with
  |true=>exact hm
  |false=>exact Ct k (Qj hm (xN h))
theorem sr{ws:List Bs}:∀(f:Nat) {m:Mt} {st:RS},m.Good→(du ws f m st).1.Good
 | 0,_,_,hm=>hm
 |f+1,m,st,hm=>by
  have h:=uq (ws:=ws) (st:=st) hm;unfold du;cases(aW ws m st).1.2 with
  |false=>exact h
  |true=>
   simp only;cases j3 ws (aW ws m st).2 with
   |true=>exact sr f h
   |false=>exact h
theorem Cz(ws:List Bs)(st:RS):(gY ws st).1.Good:=by
 unfold gY;cases lr ws iO st with
 |true=>exact mP
 |false=>exact sr _ mP
theorem zd{n:Nat}{ws:List Bs}(h:ws.length=n)(m:Mt){st:RS}(h1:st.at_≤n)(h2:st.e≤1000):(aW ws m st).2.at_≤n∧(aW ws m st).2.e≤1000:=by
 obtain⟨h3,h4⟩:=bJ h st h1 h2;unfold aW;cases mn (ak ws st).1 with
 |none=>exact mG (by decide) h3 h4
 |some k=>
  simp only;cases m.asks.testBit k with
  |true=>exact mG (by decide) h3 h4
  |false=>exact IU k _ h _ h3 h4
theorem wi{n:Nat}{ws:List Bs}(h:ws.length=n):∀(f:Nat) (m:Mt),Gq n (du ws f m)
 | 0,_=>fun _ h1 h2=>⟨h1,h2⟩
 |f+1,m=>fun st h1 h2=>by
  obtain⟨h3,h4⟩:=zd h m h1 h2;unfold du;cases(aW ws m st).1.2 with
  |false=>exact⟨h3,h4⟩
  |true=>
   simp only;cases j3 ws (aW ws m st).2 with
   |true=>exact wi h f _ _ h3 h4
   |false=>exact⟨h3,h4⟩
theorem I3{n:Nat}{ws:List Bs}(h:ws.length=n):Gq n (gY ws):=fun st h1 h2=>by
 unfold gY;cases lr ws iO st with
 |true=>exact bJ h st h1 h2
 |false=>exact wi h _ _ st h1 h2
structure MS where
 first:Bool
 m:Mt
 st:RS
 f:Nat
def MS.cond(ws:List Bs)(k:MS):Bool:=k.first||j3 ws k.st
noncomputable def MS.out(ws:List Bs)(k:MS):Mt×RS:=match k.cond ws with
 |true=>du ws k.f k.m k.st
 |false=>(k.m,k.st)
noncomputable def MS.nx(ws:List Bs)(k:MS):MS:=⟨false,(aW ws k.m k.st).1.1,(aW ws k.m k.st).2,k.f - 1⟩
structure yu(n:Nat)(ws:List Bs)(R:Mt×RS)(k:MS):Prop where
 le:k.st.at_≤n
 eb:k.st.e≤1000
 xG:k.m.Good
 fu:k.st.e=0→n+1≤k.f+k.st.at_
 fp:k.first=true→1≤k.f
 eq:k.out ws=R
theorem yu.pos{n:Nat}{ws:List Bs}{R:Mt×RS}{k:MS}(_hn:ws.length=n)(h:yu n ws R k)(hc:k.cond ws=true):1≤k.f:=by
 cases hf:k.first with
 |true=>exact h.fp hf
 |false=>unfold MS.cond at hc;rw[hf,X3]at hc;unfold j3 at hc;rw[XR]at hc;have he:=XV hc.1;have h1:=h.fu he;have h2:=h.le;omega
theorem yu.stop{n:Nat}{ws:List Bs}{R:Mt×RS}{k:MS}(hn:ws.length=n)(h:yu n ws R k)(hc:k.cond ws=true)(hs:(aW ws k.m k.st).1.2=false):R=((aW ws k.m k.st).1.1,(aW ws k.m k.st).2):=by have h1:=h.pos hn hc;have h2:=h.eq;unfold MS.out at h2;rw[hc]at h2;obtain⟨f,hf⟩:∃f,k.f=f+1:=⟨k.f - 1,by omega⟩;rw[hf]at h2;unfold du at h2;rw[hs]at h2;exact h2.symm
theorem yu.next{n:Nat}{ws:List Bs}{R:Mt×RS}{k:MS}(hn:ws.length=n)(h:yu n ws R k)(hc:k.cond ws=true)(hs:(aW ws k.m k.st).1.2=true):yu n ws R (k.nx ws)∧(k.nx ws).f < k.f:=by
 have h1:=h.pos hn hc;have h2:=h.eq;unfold MS.out at h2;rw[hc]at h2;obtain⟨f,hf⟩:∃f,k.f=f+1:=⟨k.f - 1,by omega⟩;rw[hf]at h2;unfold du at h2;rw[hs]at h2;obtain⟨h3,h4⟩:=zd hn k.m h.le h.eb;refine⟨⟨h3,h4,uq h.xG,fun he=>?_,(fun hh=>by cases hh),?_⟩,by show k.f - 1 < k.f; omega⟩
 ·
  have he:(aW ws k.m k.st).2.e=0:=he;show n+1≤(k.f - 1)+(aW ws k.m k.st).2.at_;have key:k.st.e=0∧k.st.at_+1≤(aW ws k.m k.st).2.at_:=by
   unfold aW at he hs ⊢;cases hx:mn (ak ws k.st).1 with
   |none=>rw[hx]at hs;cases hs
   |some j=>
    rw[hx]at he hs;simp only at he hs ⊢;cases hb:k.m.asks.testBit j with
    |true=>rw[hb]at hs;cases hs
    |false=>rw[hb]at he;obtain⟨h5,h6⟩:=IV j _ ws _ he;obtain⟨h7,h8⟩:=tD k.st h5;rw[h8]at h6;exact⟨h7,h6⟩
  have:=h.fu key.1;omega
 ·show(match false||j3 ws (aW ws k.m k.st).2 with|true=>du ws (k.f - 1) _ _|false=>_)=R
  rw[X3,hf];exact h2
theorem yu.done{n:Nat}{ws:List Bs}{R:Mt×RS}{k:MS}(h:yu n ws R k)(hc:k.cond ws=false):R=(k.m,k.st):=by have h2:=h.eq;unfold MS.out at h2;rw[hc]at h2;exact h2.symm
set_option maxRecDepth 100000
open Go Go.RowKit Go.Lib Go.Sort _root_.Go.Proofs.Tryz
set_option maxRecDepth 100000
def CZ(b0:Bool):List (Nat×Sx.SV):=[(0,.ptr 0 0),(2,.ptr 1 0),(3,.ptr 2 0),(4,.val (.bool b0))]
def mg(g:Nat)(A:Option Go.Addr)(n c:Nat)(st:RS)(m:Mt):List Sx.Row:=[⟨114,.dG g (da A n c st)⟩,⟨66,.an kU.cells⟩,⟨66,.an m.cells⟩]
theorem nE(x y:Operand):∀(j:Nat),j < 6→∀W:World,(do eqGuard .shl 5 x y (.int .u8 1) (.int .i64 (j:Int));binOp .shl 5 (.int .u8 1) (.int .i64 (j:Int)):Sem Value).run prog W=.ok (.int .u8 ((2^j:Nat):Int)) W
 | 0,_,_=>by kernel_rfl
 | 1,_,_=>by kernel_rfl
 | 2,_,_=>by kernel_rfl
 | 3,_,_=>by kernel_rfl
 | 4,_,_=>by kernel_rfl
 | 5,_,_=>by kernel_rfl
theorem jj{x:Bs}{j:Nat}(h:mn x=some j):vc x=(j:Int):=by unfold vc;rw[h]
theorem ko(x:Bs):Xz (decide (vc x≥0))=.bool (mn x).isSome:=by
 unfold vc;cases mn x with
 |none=>rfl
 |some k=>exact rY (decide_eq_true (Int.natCast_nonneg k))
theorem LL{ws:List Bs}{st:RS}{y:Bs}(h:ws[st.at_]?=some y):j3 ws st=(XD st.e 0&&(true&&(mn y).isSome)):=by unfold j3;rw[h,Bool.true_and]
theorem LK{ws:List Bs}{st:RS}(h:ws[st.at_]?=none):j3 ws st=(XD st.e 0&&(false&&false)):=by unfold j3;rw[h,Bool.false_and]
structure om(w:World)(g:Nat)(A:Option Go.Addr)(n c:Nat)(ws:List Bs)(st:RS)(lt fo:Bool)(p:Value)(y:Bs)(v:Int):Prop where
 more:j3 ws st=(XD st.e 0&&(lt&&fo))
 qz:Xz (decide ((st.at_:Int) < (n:Int)))=.bool lt
 c40:lt=true→∀W,ai [g] w W→(Instr.indexAt 70 (.slice A n c) (.int .i64 (st.at_:Int))).run prog W=.ok p W
 KH:lt=true→∀W,ai [g] w W→(Instr.loadAt 9 p).run prog W=.ok (ae y) W
 qy:lt=true→∀W,ai [g] w W→Calls prog 156 #[ae y] W (Rn W (.int .i64 v))
 Ea:lt=true→Xz (decide (v≥0))=.bool fo
theorem Vn{w:World}{g:Nat}{A:Option Go.Addr}{n c:Nat}{st0 st:RS}{ws:List Bs}(h:oh w [g] g A n c st0 ws)(hl:st.at_≤n):∃lt fo p y v,om w g A n c ws st lt fo p y v:=by
 have hlen:=h.jq.len;cases hx:ws[st.at_]? with
 |none=>
  have hi:st.at_=n:=by have:=List.getElem?_eq_none_iff.1 hx;omega
  exact⟨false,false,undef,[],0,LK hx,qQ (decide_eq_false (by omega)),(fun h=>by cases h),(fun h=>by cases h),(fun h=>by cases h),(fun h=>by cases h)⟩
 |some y=>
  have hi:st.at_ < n:=by rw[←hlen];exact(XI.1 hx).1
  obtain⟨p,hp1,hp2⟩:=h.jq.at (c:=c) hx;exact⟨true,_,p,y,vc y,LL hx,rY (decide_eq_true (by omega)),fun _ W _=>hp1 W,fun _=>hp2,fun _ W _=>iH y W,fun _=>ko y⟩
abbrev mK(n:Nat)(ws:List Bs)(g:Nat)(A:Option Go.Addr)(c:Nat)(R:Mt×RS):=Sx.dP (yu n ws R) (fun k=>CZ k.first) (fun k=>mg g A n c k.st k.m) (MS.nx ws) (fun k=>k.f) (fun(_:Unit)=>True) (fun _=>[(2,.ptr 1 0),(3,.ptr 2 0)]) (fun _=>mg g A n c R.2 R.1) (fun _=>()) (Sx.ej (Sx.a7 f95 0) - 1) (Sx.rS prog f95 (Ey g A n c jU R) .ret)
abbrev mX(w:World)(g:Nat)(A:Option Go.Addr)(n c:Nat)(ws:List Bs)(R:Mt×RS)(k:MS):Prop:=∃H' L',Sx.lN prog f95.ntmps (WJ w g) (Sx.a7 f95 0) H' L' ⟨CZ k.first,mg g A n c k.st k.m⟩ (mK n ws g A c R k)
def mH(e0 lt fo:Bool)(p:Value)(y:Bs)(v:Int):List (Nat×Sx.Hint):=[ao 18 e0,ao 29 lt,(40,.any p),(41,.any (ae y)),(42,.call (.int .i64 v)),ao 43 fo]
abbrev WY(w:World)(g:Nat)(A:Option Go.Addr)(n c:Nat)(st:RS)(b0 e0 lt fo:Bool)(p:Value)(y:Bs)(v:Int)(Y Z:Prop):Prop:=
 bA b0 (Xz ((st.e:Int)==0)=.bool e0) (bA (b0||!e0) (Xz (decide ((st.at_:Int) < (n:Int)))=.bool lt) (bA (b0||!e0||!lt) (∀W,ai [g] w W→(Instr.indexAt 70 (.slice A n c) (.int .i64 (st.at_:Int))).run prog W=.ok p W) (bA (b0||!e0||!lt) (∀W,ai [g] w W→(Instr.loadAt 9 p).run prog W=.ok (ae y) W)
  (bA (b0||!e0||!lt) (∀W,ai [g] w W→Calls prog 156 #[ae y] W (Rn W (.int .i64 v))) (bA (b0||!e0||!lt) (Xz (decide (v≥0))=.bool fo) (jZ (b0||(e0&&(lt&&fo))) Y Z))))))
theorem CR{w:World}{g:Nat}{A:Option Go.Addr}{n c:Nat}{ws:List Bs}{st:RS}{b0 e0 lt fo:Bool}{p:Value}{y:Bs}{v:Int}{Y Z:Prop}(t:om w g A n c ws st lt fo p y v)(he:XD st.e 0=e0)(hy:(b0||(e0&&(lt&&fo)))=true→Y)(hz:(b0||(e0&&(lt&&fo)))=false→Z):WY w g A n c st b0 e0 lt fo p y v Y Z:=by
 have k:(b0||!e0||!lt)=false→lt=true:=fun h=>by revert h;cases b0<;>cases e0<;>cases lt<;>decide
 exact bA.mk (fun _=>he ▸ VG st.e) (bA.mk (fun _=>t.qz) (bA.mk (fun h=>t.c40 (k h)) (bA.mk (fun h=>t.KH (k h)) (bA.mk (fun h=>t.qy (k h)) (bA.mk (fun h=>t.Ea (k h)) (jZ.mk hy hz))))))
section
variable{w:World}{g:Nat}{A:Option Go.Addr}{n c:Nat}{st0:RS}{ws:List Bs}{R:Mt×RS}{k:MS}{lt fo:Bool}{p:Value}{y:Bs}{v:Int}
theorem sI(t:om w g A n c ws k.st lt fo p y v):k.cond ws=(k.first||(XD k.st.e 0&&(lt&&fo))):=by unfold MS.cond;rw[t.more]
theorem uC(t:om w g A n c ws k.st lt fo p y v)(hk:yu n ws R k)(hc:(k.first||(XD k.st.e 0&&(lt&&fo)))=false):True∧([(2,.ptr 1 0),(3,.ptr 2 0)]:List (Nat×Sx.SV))=[(2,.ptr 1 0),(3,.ptr 2 0)]∧mg g A n c k.st k.m=mg g A n c R.2 R.1:=
 ⟨trivial,rfl,by rw[hk.done ((sI t).trans hc)]⟩
theorem PO(h:oh w [g] g A n c st0 ws)(hk:yu n ws R k)(t:om w g A n c ws k.st lt fo p y v)(hf:mn (ak ws k.st).1=none):mX w g A n c ws R k:=by
 have hx:=fun hc=>hk.stop h.jq.len ((sI t).trans hc) (by unfold aW;rw[hf]);have ex:=uC t hk;have c47:=iy h hk.le hk.eb fun W hW=>gu hW;obtain⟨h1,h2⟩:=bJ h.jq.len _ hk.le hk.eb;have c63:=j7 200 h h1 h2 gr;have c48:=fun W (_:ai [g] w W)=>iH (ak ws k.st).1 W;have c50:=ko (ak ws k.st).1;rw[hf]at c50;have hR:aW ws k.m k.st=((k.m,false),cz 200 (ak ws k.st).2):=by unfold aW;rw[hf]
 obtain⟨b0,m,st,f⟩:=k;dsimp only at*;rw[hR]at hx;generalize ak ws st=r at*;have he:∃e0,XD st.e 0=e0:=⟨_,rfl⟩;obtain⟨e0,he⟩:=he;rw[he]at hx ex;have CH:=CR (b0:=b0) t he (fun hc=>Sx.t4 c47 c48 c50 (rfl:Xz ((0:Int)==0)=.bool true) (Xy c63 (show Ey g A n c jU R (.val (jU m)) [(g,114,da A n c (cz 200 r.2))]from by rw[hx hc];exact⟨rfl,rfl⟩))) ex;refine⟨mH e0 lt fo p y v++[(47,.aX 0 (da A n c r.2) (ae r.1)),(48,.call (.int .i64 (vc r.1))),ao 50 false,ao 54 true,(63,.aX 0 (da A n c (cz 200 r.2)) (.tuple #[]))],[],?_⟩;cases b0<;>cases e0<;>cases lt<;>cases fo<;>exact XE (by kernel_rfl) CH
theorem LN(h:oh w [g] g A n c st0 ws)(hk:yu n ws R k)(t:om w g A n c ws k.st lt fo p y v){j:Nat}(hf:mn (ak ws k.st).1=some j)(hb:k.m.asks.testBit j=true):mX w g A n c ws R k:=by
 have hj:=xN hf;have ha:=hk.xG.2;have hR:aW ws k.m k.st=((k.m,false),cz 200 (ak ws k.st).2):=by unfold aW;rw[hf];simp only;rw[hb]
 have hx:=fun hc=>hk.stop h.jq.len ((sI t).trans hc) (by rw[hR]);have ex:=uC t hk;have c47:=iy h hk.le hk.eb fun W hW=>gu hW;obtain⟨h1,h2⟩:=bJ h.jq.len _ hk.le hk.eb;have c63:=j7 200 h h1 h2 gr;have c48:=fun W (_:ai [g] w W)=>iH (ak ws k.st).1 W;have c50:=ko (ak ws k.st).1;rw[jj hf]at c48 c50;rw[hf]at c50;have c52:=nE (.const (.int .u8 1)) (.tmp 51) j hj;have c54:Xz (((2^j:Nat):Int)==0)=.bool false:=qQ (by rw[beq_eq_false_iff_ne];have:=Nat.pow_pos (n:=j) (show 0 < 2 by omega);omega);have c60:Xz (bits .and .u8 (k.m.asks:Int) ((2^j:Nat):Int) !=0)=.bool true:=by show Xz (!(bits .and .u8 (k.m.asks:Int) ((2^j:Nat):Int)==0))=_;rw[lT ha j hj,hb];rfl
 obtain⟨b0,m,st,f⟩:=k;dsimp only at*;rw[hR]at hx;generalize ak ws st=r at*;generalize 2^j=pj at*;have he:∃e0,XD st.e 0=e0:=⟨_,rfl⟩;obtain⟨e0,he⟩:=he;rw[he]at hx ex;have CH:=CR (b0:=b0) t he (fun hc=>Sx.t4 c47 c48 c50 c52 (Sx.t2 c54 c60 (Xy c63 (show Ey g A n c jU R (.val (jU m)) [(g,114,da A n c (cz 200 r.2))]from by rw[hx hc];exact⟨rfl,rfl⟩)))) ex;refine⟨mH e0 lt fo p y v++[(47,.aX 0 (da A n c r.2) (ae r.1)),(48,.call (.int .i64 (j:Int))),ao 50 true,(52,.bin (.int .u8 (pj:Int))),ao 54 false,ao 60 true,(63,.aX 0 (da A n c (cz 200 r.2)) (.tuple #[]))],[],?_⟩;cases b0<;>cases e0<;>cases lt<;>cases fo<;>exact XE (by kernel_rfl) CH
theorem UX(h:oh w [g] g A n c st0 ws)(hk:yu n ws R k)(t:om w g A n c ws k.st lt fo p y v)(hf:mn (ak ws k.st).1=some 0)(hb:k.m.asks.testBit 0=false):mX w g A n c ws R k:=by
 have ha:=hk.xG.2;have hR:aW ws k.m k.st=((({ { k.m with asks:=k.m.asks|||2^0 }with fU:=(eV ws (ak ws k.st).2).1 }:Mt),true),(eV ws (ak ws k.st).2).2):=by unfold aW;rw[hf];simp only;rw[hb];rfl
 have hx:=fun hc=>hk.next h.jq.len ((sI t).trans hc) (by rw[hR]);have ex:=uC t hk;have c47:=iy h hk.le hk.eb fun W hW=>gu hW;obtain⟨h1,h2⟩:=bJ h.jq.len _ hk.le hk.eb;have c74:=iy h h1 h2 fun W hW=>AD hW;have c48:=fun W (_:ai [g] w W)=>iH (ak ws k.st).1 W;have c50:=ko (ak ws k.st).1;rw[jj hf]at c48 c50;rw[hf]at c50;have c52:=nE (.const (.int .u8 1)) (.tmp 51) 0 (by omega);have c54:Xz (((2^0:Nat):Int)==0)=.bool false:=rfl;have c60:Xz (bits .and .u8 (k.m.asks:Int) ((2^0:Nat):Int) !=0)=.bool false:=by show Xz (!(bits .and .u8 (k.m.asks:Int) ((2^0:Nat):Int)==0))=_;rw[lT ha 0 (by omega),hb];rfl
 have c68:XA .u8 (bits .or .u8 (k.m.asks:Int) ((2^0:Nat):Int))=.int .u8 ((k.m.asks|||2^0:Nat):Int):=congrArg (XA .u8) (rl ha 0 (by omega));have hnx:k.nx ws=⟨false,{ { k.m with asks:=k.m.asks ||| 2^0 }with fU:=(eV ws (ak ws k.st).2).1 },(eV ws (ak ws k.st).2).2,k.f - 1⟩:=by unfold MS.nx; rw[hR]
 clear hR;generalize ak ws k.st=r at*;generalize eV ws r.2=q at*;generalize (2:Nat)^0=pj at c52 c54 c60 c68 hnx;generalize k.m.asks|||pj=aa at c68 hnx;have he:∃e0,XD k.st.e 0=e0:=⟨_,rfl⟩;obtain⟨e0,he⟩:=he;rw[he]at hx ex;have fe:CZ false=CZ (k.nx ws).first:=by rw[hnx]
 have me:mg g A n c q.2 { { k.m with asks:=aa }with fU:=q.1 }=mg g A n c (k.nx ws).st (k.nx ws).m:=by rw[hnx]
 have CH:=CR (b0:=k.first) t he (fun hc=>Xy c47 (Xy c48 (Xy c50 (Xy c52 (Xy c54 (Xy c60 (Xy c68 (Xy (rfl:Xz ((0:Int)==0)=.bool true) (Xy c74 (Xy (hx hc).1 (Xy (hx hc).2 (Xy fe me)))))))))))) ex;clear hx ex fe me hnx;obtain⟨b0,m,st,f⟩:=k;refine⟨mH e0 lt fo p y v++[(47,.aX 0 (da A n c r.2) (ae r.1)),(48,.call (.int .i64 ((0:Nat):Int))),ao 50 true,(52,.bin (.int .u8 (pj:Int))),ao 54 false,ao 60 false,(68,.is (.int .u8 (aa:Int))),ao 72 true,(74,.aX 0 (da A n c q.2) (iA q.1))],[],?_⟩;cases b0<;>cases e0<;>cases lt<;>cases fo<;>exact XE (by kernel_rfl) CH
theorem UW(h:oh w [g] g A n c st0 ws)(hk:yu n ws R k)(t:om w g A n c ws k.st lt fo p y v)(hf:mn (ak ws k.st).1=some 1)(hb:k.m.asks.testBit 1=false):mX w g A n c ws R k:=by
 have ha:=hk.xG.2;have hR:aW ws k.m k.st=((({ { k.m with asks:=k.m.asks|||2^1 }with src:=(dC ws (ak ws k.st).2).1 }:Mt),true),(dC ws (ak ws k.st).2).2):=by unfold aW;rw[hf];simp only;rw[hb];rfl
 have hx:=fun hc=>hk.next h.jq.len ((sI t).trans hc) (by rw[hR]);have ex:=uC t hk;have c47:=iy h hk.le hk.eb fun W hW=>gu hW;obtain⟨h1,h2⟩:=bJ h.jq.len _ hk.le hk.eb;have c79:=iy h h1 h2 fun W hW=>tC hW;have c48:=fun W (_:ai [g] w W)=>iH (ak ws k.st).1 W;have c50:=ko (ak ws k.st).1;rw[jj hf]at c48 c50;rw[hf]at c50;have c52:=nE (.const (.int .u8 1)) (.tmp 51) 1 (by omega);have c54:Xz (((2^1:Nat):Int)==0)=.bool false:=rfl;have c60:Xz (bits .and .u8 (k.m.asks:Int) ((2^1:Nat):Int) !=0)=.bool false:=by show Xz (!(bits .and .u8 (k.m.asks:Int) ((2^1:Nat):Int)==0))=_;rw[lT ha 1 (by omega),hb];rfl
 have c68:XA .u8 (bits .or .u8 (k.m.asks:Int) ((2^1:Nat):Int))=.int .u8 ((k.m.asks|||2^1:Nat):Int):=congrArg (XA .u8) (rl ha 1 (by omega));have hnx:k.nx ws=⟨false,{ { k.m with asks:=k.m.asks ||| 2^1 }with src:=(dC ws (ak ws k.st).2).1 },(dC ws (ak ws k.st).2).2,k.f - 1⟩:=by unfold MS.nx; rw[hR]
 clear hR;generalize ak ws k.st=r at*;generalize dC ws r.2=q at*;generalize (2:Nat)^1=pj at c52 c54 c60 c68 hnx;generalize k.m.asks|||pj=aa at c68 hnx;have he:∃e0,XD k.st.e 0=e0:=⟨_,rfl⟩;obtain⟨e0,he⟩:=he;rw[he]at hx ex;have fe:CZ false=CZ (k.nx ws).first:=by rw[hnx]
 have me:mg g A n c q.2 { { k.m with asks:=aa }with src:=q.1 }=mg g A n c (k.nx ws).st (k.nx ws).m:=by rw[hnx]
 have CH:=CR (b0:=k.first) t he (fun hc=>Xy c47 (Xy c48 (Xy c50 (Xy c52 (Xy c54 (Xy c60 (Xy c68 (Xy (rfl:Xz ((1:Int)==0)=.bool false) (Xy (rfl:Xz ((1:Int)==1)=.bool true) (Xy c79 (Xy (hx hc).1 (Xy (hx hc).2 (Xy fe me))))))))))))) ex;clear hx ex fe me hnx;obtain⟨b0,m,st,f⟩:=k;refine⟨mH e0 lt fo p y v++[(47,.aX 0 (da A n c r.2) (ae r.1)),(48,.call (.int .i64 ((1:Nat):Int))),ao 50 true,(52,.bin (.int .u8 (pj:Int))),ao 54 false,ao 60 false,(68,.is (.int .u8 (aa:Int))),ao 72 false,ao 77 true,(79,.aX 0 (da A n c q.2) (mr q.1))],[],?_⟩;cases b0<;>cases e0<;>cases lt<;>cases fo<;>exact XE (by kernel_rfl) CH
theorem UU(h:oh w [g] g A n c st0 ws)(hk:yu n ws R k)(t:om w g A n c ws k.st lt fo p y v)(hf:mn (ak ws k.st).1=some 2)(hb:k.m.asks.testBit 2=false):mX w g A n c ws R k:=by
 have ha:=hk.xG.2;have hR:aW ws k.m k.st=((({ { k.m with asks:=k.m.asks|||2^2 }with dst:=(dC ws (ak ws k.st).2).1 }:Mt),true),(dC ws (ak ws k.st).2).2):=by unfold aW;rw[hf];simp only;rw[hb];rfl
 have hx:=fun hc=>hk.next h.jq.len ((sI t).trans hc) (by rw[hR]);have ex:=uC t hk;have c47:=iy h hk.le hk.eb fun W hW=>gu hW;obtain⟨h1,h2⟩:=bJ h.jq.len _ hk.le hk.eb;have c84:=iy h h1 h2 fun W hW=>tC hW;have c48:=fun W (_:ai [g] w W)=>iH (ak ws k.st).1 W;have c50:=ko (ak ws k.st).1;rw[jj hf]at c48 c50;rw[hf]at c50;have c52:=nE (.const (.int .u8 1)) (.tmp 51) 2 (by omega);have c54:Xz (((2^2:Nat):Int)==0)=.bool false:=rfl;have c60:Xz (bits .and .u8 (k.m.asks:Int) ((2^2:Nat):Int) !=0)=.bool false:=by show Xz (!(bits .and .u8 (k.m.asks:Int) ((2^2:Nat):Int)==0))=_;rw[lT ha 2 (by omega),hb];rfl
 have c68:XA .u8 (bits .or .u8 (k.m.asks:Int) ((2^2:Nat):Int))=.int .u8 ((k.m.asks|||2^2:Nat):Int):=congrArg (XA .u8) (rl ha 2 (by omega));have hnx:k.nx ws=⟨false,{ { k.m with asks:=k.m.asks ||| 2^2 }with dst:=(dC ws (ak ws k.st).2).1 },(dC ws (ak ws k.st).2).2,k.f - 1⟩:=by unfold MS.nx; rw[hR]
 clear hR;generalize ak ws k.st=r at*;generalize dC ws r.2=q at*;generalize (2:Nat)^2=pj at c52 c54 c60 c68 hnx;generalize k.m.asks|||pj=aa at c68 hnx;have he:∃e0,XD k.st.e 0=e0:=⟨_,rfl⟩;obtain⟨e0,he⟩:=he;rw[he]at hx ex;have fe:CZ false=CZ (k.nx ws).first:=by rw[hnx]
 have me:mg g A n c q.2 { { k.m with asks:=aa }with dst:=q.1 }=mg g A n c (k.nx ws).st (k.nx ws).m:=by rw[hnx]
 have CH:=CR (b0:=k.first) t he (fun hc=>Xy c47 (Xy c48 (Xy c50 (Xy c52 (Xy c54 (Xy c60 (Xy c68 (Xy (rfl:Xz ((2:Int)==0)=.bool false) (Xy (rfl:Xz ((2:Int)==1)=.bool false) (Xy (rfl:Xz ((2:Int)==2)=.bool true) (Xy c84 (Xy (hx hc).1 (Xy (hx hc).2 (Xy fe me)))))))))))))) ex;clear hx ex fe me hnx;obtain⟨b0,m,st,f⟩:=k;refine⟨mH e0 lt fo p y v++[(47,.aX 0 (da A n c r.2) (ae r.1)),(48,.call (.int .i64 ((2:Nat):Int))),ao 50 true,(52,.bin (.int .u8 (pj:Int))),ao 54 false,ao 60 false,(68,.is (.int .u8 (aa:Int))),ao 72 false,ao 77 false,ao 82 true,(84,.aX 0 (da A n c q.2) (mr q.1))],[],?_⟩;cases b0<;>cases e0<;>cases lt<;>cases fo<;>exact XE (by kernel_rfl) CH
theorem UT(h:oh w [g] g A n c st0 ws)(hk:yu n ws R k)(t:om w g A n c ws k.st lt fo p y v)(hf:mn (ak ws k.st).1=some 3)(hb:k.m.asks.testBit 3=false):mX w g A n c ws R k:=by
 have ha:=hk.xG.2;have hR:aW ws k.m k.st=((({ { k.m with asks:=k.m.asks|||2^3 }with bw:=(fI ws (ak ws k.st).2).1 }:Mt),true),(fI ws (ak ws k.st).2).2):=by unfold aW;rw[hf];simp only;rw[hb];rfl
 have hx:=fun hc=>hk.next h.jq.len ((sI t).trans hc) (by rw[hR]);have ex:=uC t hk;have c47:=iy h hk.le hk.eb fun W hW=>gu hW;obtain⟨h1,h2⟩:=bJ h.jq.len _ hk.le hk.eb;have c89:=iy h h1 h2 fun W hW=>LF hW;have c48:=fun W (_:ai [g] w W)=>iH (ak ws k.st).1 W;have c50:=ko (ak ws k.st).1;rw[jj hf]at c48 c50;rw[hf]at c50;have c52:=nE (.const (.int .u8 1)) (.tmp 51) 3 (by omega);have c54:Xz (((2^3:Nat):Int)==0)=.bool false:=rfl;have c60:Xz (bits .and .u8 (k.m.asks:Int) ((2^3:Nat):Int) !=0)=.bool false:=by show Xz (!(bits .and .u8 (k.m.asks:Int) ((2^3:Nat):Int)==0))=_;rw[lT ha 3 (by omega),hb];rfl
 have c68:XA .u8 (bits .or .u8 (k.m.asks:Int) ((2^3:Nat):Int))=.int .u8 ((k.m.asks|||2^3:Nat):Int):=congrArg (XA .u8) (rl ha 3 (by omega));have hnx:k.nx ws=⟨false,{ { k.m with asks:=k.m.asks ||| 2^3 }with bw:=(fI ws (ak ws k.st).2).1 },(fI ws (ak ws k.st).2).2,k.f - 1⟩:=by unfold MS.nx; rw[hR]
 clear hR;generalize ak ws k.st=r at*;generalize fI ws r.2=q at*;generalize (2:Nat)^3=pj at c52 c54 c60 c68 hnx;generalize k.m.asks|||pj=aa at c68 hnx;have he:∃e0,XD k.st.e 0=e0:=⟨_,rfl⟩;obtain⟨e0,he⟩:=he;rw[he]at hx ex;have fe:CZ false=CZ (k.nx ws).first:=by rw[hnx]
 have me:mg g A n c q.2 { { k.m with asks:=aa }with bw:=q.1 }=mg g A n c (k.nx ws).st (k.nx ws).m:=by rw[hnx]
 have CH:=CR (b0:=k.first) t he (fun hc=>Xy c47 (Xy c48 (Xy c50 (Xy c52 (Xy c54 (Xy c60 (Xy c68 (Xy (rfl:Xz ((3:Int)==0)=.bool false) (Xy (rfl:Xz ((3:Int)==1)=.bool false) (Xy (rfl:Xz ((3:Int)==2)=.bool false) (Xy (rfl:Xz ((3:Int)==3)=.bool true) (Xy c89 (Xy (hx hc).1 (Xy (hx hc).2 (Xy fe me))))))))))))))) ex;clear hx ex fe me hnx;obtain⟨b0,m,st,f⟩:=k;refine⟨mH e0 lt fo p y v++[(47,.aX 0 (da A n c r.2) (ae r.1)),(48,.call (.int .i64 ((3:Nat):Int))),ao 50 true,(52,.bin (.int .u8 (pj:Int))),ao 54 false,ao 60 false,(68,.is (.int .u8 (aa:Int))),ao 72 false,ao 77 false,ao 82 false,ao 87 true,(89,.aX 0 (da A n c q.2) (Iy q.1))],[],?_⟩;cases b0<;>cases e0<;>cases lt<;>cases fo<;>exact XE (by kernel_rfl) CH
theorem US(h:oh w [g] g A n c st0 ws)(hk:yu n ws R k)(t:om w g A n c ws k.st lt fo p y v)(hf:mn (ak ws k.st).1=some 4)(hb:k.m.asks.testBit 4=false):mX w g A n c ws R k:=by
 have ha:=hk.xG.2;have hR:aW ws k.m k.st=((({ { k.m with asks:=k.m.asks|||2^4 }with sp:=(eV ws (ak ws k.st).2).1 }:Mt),true),(eV ws (ak ws k.st).2).2):=by unfold aW;rw[hf];simp only;rw[hb];rfl
 have hx:=fun hc=>hk.next h.jq.len ((sI t).trans hc) (by rw[hR]);have ex:=uC t hk;have c47:=iy h hk.le hk.eb fun W hW=>gu hW;obtain⟨h1,h2⟩:=bJ h.jq.len _ hk.le hk.eb;have c94:=iy h h1 h2 fun W hW=>AD hW;have c48:=fun W (_:ai [g] w W)=>iH (ak ws k.st).1 W;have c50:=ko (ak ws k.st).1;rw[jj hf]at c48 c50;rw[hf]at c50;have c52:=nE (.const (.int .u8 1)) (.tmp 51) 4 (by omega);have c54:Xz (((2^4:Nat):Int)==0)=.bool false:=rfl;have c60:Xz (bits .and .u8 (k.m.asks:Int) ((2^4:Nat):Int) !=0)=.bool false:=by show Xz (!(bits .and .u8 (k.m.asks:Int) ((2^4:Nat):Int)==0))=_;rw[lT ha 4 (by omega),hb];rfl
 have c68:XA .u8 (bits .or .u8 (k.m.asks:Int) ((2^4:Nat):Int))=.int .u8 ((k.m.asks|||2^4:Nat):Int):=congrArg (XA .u8) (rl ha 4 (by omega));have hnx:k.nx ws=⟨false,{ { k.m with asks:=k.m.asks ||| 2^4 }with sp:=(eV ws (ak ws k.st).2).1 },(eV ws (ak ws k.st).2).2,k.f - 1⟩:=by unfold MS.nx; rw[hR]
 clear hR;generalize ak ws k.st=r at*;generalize eV ws r.2=q at*;generalize (2:Nat)^4=pj at c52 c54 c60 c68 hnx;generalize k.m.asks|||pj=aa at c68 hnx;have he:∃e0,XD k.st.e 0=e0:=⟨_,rfl⟩;obtain⟨e0,he⟩:=he;rw[he]at hx ex;have fe:CZ false=CZ (k.nx ws).first:=by rw[hnx]
 have me:mg g A n c q.2 { { k.m with asks:=aa }with sp:=q.1 }=mg g A n c (k.nx ws).st (k.nx ws).m:=by rw[hnx]
 have CH:=CR (b0:=k.first) t he (fun hc=>Xy c47 (Xy c48 (Xy c50 (Xy c52 (Xy c54 (Xy c60 (Xy c68 (Xy (rfl:Xz ((4:Int)==0)=.bool false) (Xy (rfl:Xz ((4:Int)==1)=.bool false) (Xy (rfl:Xz ((4:Int)==2)=.bool false) (Xy (rfl:Xz ((4:Int)==3)=.bool false) (Xy (rfl:Xz ((4:Int)==4)=.bool true) (Xy c94 (Xy (hx hc).1 (Xy (hx hc).2 (Xy fe me)))))))))))))))) ex;clear hx ex fe me hnx;obtain⟨b0,m,st,f⟩:=k;refine⟨mH e0 lt fo p y v++[(47,.aX 0 (da A n c r.2) (ae r.1)),(48,.call (.int .i64 ((4:Nat):Int))),ao 50 true,(52,.bin (.int .u8 (pj:Int))),ao 54 false,ao 60 false,(68,.is (.int .u8 (aa:Int))),ao 72 false,ao 77 false,ao 82 false,ao 87 false,ao 92 true,(94,.aX 0 (da A n c q.2) (iA q.1))],[],?_⟩;cases b0<;>cases e0<;>cases lt<;>cases fo<;>exact XE (by kernel_rfl) CH
theorem UR(h:oh w [g] g A n c st0 ws)(hk:yu n ws R k)(t:om w g A n c ws k.st lt fo p y v)(hf:mn (ak ws k.st).1=some 5)(hb:k.m.asks.testBit 5=false):mX w g A n c ws R k:=by
 have ha:=hk.xG.2;have hR:aW ws k.m k.st=((({ { k.m with asks:=k.m.asks|||2^5 }with dp:=(eV ws (ak ws k.st).2).1 }:Mt),true),(eV ws (ak ws k.st).2).2):=by unfold aW;rw[hf];simp only;rw[hb];rfl
 have hx:=fun hc=>hk.next h.jq.len ((sI t).trans hc) (by rw[hR]);have ex:=uC t hk;have c47:=iy h hk.le hk.eb fun W hW=>gu hW;obtain⟨h1,h2⟩:=bJ h.jq.len _ hk.le hk.eb;have c99:=iy h h1 h2 fun W hW=>AD hW;have c48:=fun W (_:ai [g] w W)=>iH (ak ws k.st).1 W;have c50:=ko (ak ws k.st).1;rw[jj hf]at c48 c50;rw[hf]at c50;have c52:=nE (.const (.int .u8 1)) (.tmp 51) 5 (by omega);have c54:Xz (((2^5:Nat):Int)==0)=.bool false:=rfl;have c60:Xz (bits .and .u8 (k.m.asks:Int) ((2^5:Nat):Int) !=0)=.bool false:=by show Xz (!(bits .and .u8 (k.m.asks:Int) ((2^5:Nat):Int)==0))=_;rw[lT ha 5 (by omega),hb];rfl
 have c68:XA .u8 (bits .or .u8 (k.m.asks:Int) ((2^5:Nat):Int))=.int .u8 ((k.m.asks|||2^5:Nat):Int):=congrArg (XA .u8) (rl ha 5 (by omega));have hnx:k.nx ws=⟨false,{ { k.m with asks:=k.m.asks ||| 2^5 }with dp:=(eV ws (ak ws k.st).2).1 },(eV ws (ak ws k.st).2).2,k.f - 1⟩:=by unfold MS.nx; rw[hR]
 clear hR;generalize ak ws k.st=r at*;generalize eV ws r.2=q at*;generalize (2:Nat)^5=pj at c52 c54 c60 c68 hnx;generalize k.m.asks|||pj=aa at c68 hnx;have he:∃e0,XD k.st.e 0=e0:=⟨_,rfl⟩;obtain⟨e0,he⟩:=he;rw[he]at hx ex;have fe:CZ false=CZ (k.nx ws).first:=by rw[hnx]
 have me:mg g A n c q.2 { { k.m with asks:=aa }with dp:=q.1 }=mg g A n c (k.nx ws).st (k.nx ws).m:=by rw[hnx]
 have CH:=CR (b0:=k.first) t he (fun hc=>Xy c47 (Xy c48 (Xy c50 (Xy c52 (Xy c54 (Xy c60 (Xy c68 (Xy (rfl:Xz ((5:Int)==0)=.bool false) (Xy (rfl:Xz ((5:Int)==1)=.bool false) (Xy (rfl:Xz ((5:Int)==2)=.bool false) (Xy (rfl:Xz ((5:Int)==3)=.bool false) (Xy (rfl:Xz ((5:Int)==4)=.bool false) (Xy (rfl:Xz ((5:Int)==5)=.bool true) (Xy c99 (Xy (hx hc).1 (Xy (hx hc).2 (Xy fe me))))))))))))))))) ex;clear hx ex fe me hnx;obtain⟨b0,m,st,f⟩:=k;refine⟨mH e0 lt fo p y v++[(47,.aX 0 (da A n c r.2) (ae r.1)),(48,.call (.int .i64 ((5:Nat):Int))),ao 50 true,(52,.bin (.int .u8 (pj:Int))),ao 54 false,ao 60 false,(68,.is (.int .u8 (aa:Int))),ao 72 false,ao 77 false,ao 82 false,ao 87 false,ao 92 false,ao 97 true,(99,.aX 0 (da A n c q.2) (iA q.1))],[],?_⟩;cases b0<;>cases e0<;>cases lt<;>cases fo<;>exact XE (by kernel_rfl) CH
theorem UQ(h:oh w [g] g A n c st0 ws)(hk:yu n ws R k):mX w g A n c ws R k:=by
 obtain⟨lt,fo,p,y,v,t⟩:=Vn (st:=k.st) h hk.le;cases hf:mn (ak ws k.st).1 with
 |none=>exact PO h hk t hf
 |some j=>
  cases hb:k.m.asks.testBit j with
  |true=>exact LN h hk t hf hb
  |false=>
   have hj:=xN hf;rcases j with _|_|_|_|_|_|j
   ·exact UX h hk t hf hb
   ·exact UW h hk t hf hb
   ·exact UU h hk t hf hb
   ·exact UT h hk t hf hb
   ·exact US h hk t hf hb
   ·exact UR h hk t hf hb
   ·omega
end
theorem LM{w:World}{S:List Nat}{g:Nat}{A:Option Go.Addr}{n c:Nat}{st:RS}{ws:List Bs}(h:oh w S g A n c st ws):Calls prog 95 #[.pointer (some ⟨g,0,none⟩)] w (ig g A n c jU (gY ws st) w):=by
 have h:=h.low;have hlen:=h.jq.len;have c8:=iy (st:=st) h h.le h.eb fun W hW=>zb hW iO;have c10:=ru h;have hin:∀R,du ws (ws.length+1 - st.at_) kU st=R→yu n ws R ⟨true,kU,st,ws.length+1 - st.at_⟩:=fun R hR=>⟨h.le,h.eb,mP,fun _=>by show n+1≤(ws.length+1 - st.at_)+st.at_; have:=h.le; omega,fun _=>by show 1≤ws.length+1 - st.at_; have:=h.le; omega,hR⟩;unfold gY;cases hb:lr ws iO st with
 |true=>rw[hb]at c8;simp only;generalize ak ws st=r at*;have zz:Ey g A n c jU (kU,r.2) (.val (jU kU)) [(g,114,da A n c r.2)]:=⟨rfl,rfl⟩;have CH:=Sx.t2 c8 c10 zz;refine eA [] h.cw [(8,.aX 0 (da A n c st) (.bool true)),(10,.aX 0 (da A n c r.2) (ae r.1))] [] (by kernel_rfl) func95 rfl (bN rfl) ?_;exact XE (by kernel_rfl) CH
 |false=>rw[hb]at c8;simp only;have h0:=hin _ rfl;generalize du ws (ws.length+1 - st.at_) kU st=R at *;generalize ws.length+1 - st.at_=f at *;have rd:∀k,yu n ws R k→mX w g A n c ws R k:=fun k hk=>UQ h hk;obtain⟨mR,sR⟩:=R;have zz:Ey g A n c jU (mR,sR) (.val (jU mR)) [(g,114,da A n c sR)]:=⟨rfl,rfl⟩;have e1:CZ true=CZ true∧mg g A n c st kU=mg g A n c st kU:=⟨rfl,rfl⟩;have CH:=Xy c8 (Xy h0 (Xy e1 (Xy rd fun(_:Unit) (_:True)=>zz)));refine eA [] h.cw [(8,.aX 0 (da A n c st) (.bool false))] [.mk MS ⟨true,kU,st,f⟩ (yu n ws (mR,sR)) (fun k=>CZ k.first) (fun k=>mg g A n c k.st k.m) (MS.nx ws) (fun k=>k.f) Unit (fun _=>True) (fun _=>[(2,.ptr 1 0),(3,.ptr 2 0)]) (fun _=>mg g A n c sR mR) (fun _=>())] (by kernel_rfl) func95 rfl (bN rfl) ?_;exact XE (by kernel_rfl) CH
end Go.Proofs.YtnncigmpcdehnaaGreatDoor
