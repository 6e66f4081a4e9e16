import Derived.Test.YtnncigmpcdehnaaGreatDoorQh09
import Derived.Lib.AppendStr
import Derived.Lib.UnsafeStr
import Derived.Lib.Builder
import Derived.StillTailTactics
open Go.Value renaming bool→Xy,tuple→XB,int→XG,slice→XJ,string→XW,ownBlock→X3
open List renaming getElem?_eq_some_iff→Xz,mem_cons→XA,mem_singleton→XC,mem_filterMap→XE,length_append→XF,length_cons→XO,eq_nil_of_length_eq_zero→XP,mem_cons_of_mem→XQ,flatMap_cons→XX,nodup_cons→X0,nil_append→X1,getElem?_eq_none_iff→X6,getElem?_eq_getElem→Ya,map_cons→Yb,getElem?_map→Ye,append_assoc→Yf,not_mem_nil→Yh,mem_append→Yi,length_nil→Yj,append_nil→Yk,map_map→Yo,map_id→Yq
open And renaming intro→XD
open Nat renaming le_trans→XH,eq_of_beq_eq_true→XN,zero_le→XS,beq→XU,add_zero→XY,mul_one→X4,add_mul→X5,le_refl→Yd,beq_eq→Yr
open Eq renaming mp→XI
open Go.IntKind renaming i64→XL,wrap_u64→XM,u64→XR,u8→X2
open Bool renaming eq_iff_iff→XT,false_and→X8
open Go.Instr renaming indexAt→XV,loadAt→Yn
open Go.Result renaming andThen→XZ,ok→Yp
open Int renaming fdiv_eq_ediv_of_nonneg→X7,pow_nonneg→Ym
open Option renaming map_eq_some_iff→X9,some→Yl
namespace Go.Proofs.YtnncigmpcdehnaaGreatDoor
open Go.RowKit Go.Lib Go.Sort
def wE(out:Bool)(ws:List Bs):RA (Int×Int):=bM (ak ws) fun x=>
 if x=bZ then eM (1,0)else if x=jb then eM (2,0)else if x=eC then eM (4,0)else
 if x=mj∧out=true then bM (bR 9223372036854775807 ws) fun n=>eM (3,(n:Int))else qF false 200 (0,0)
theorem GN(out:Bool)(ws:List Bs):im ws.length (pS out ws) (wE out ws):=by
 refine(mC ws).bind fun x=>?_;split
 ·exact im.pure _
 ·split
  ·exact im.pure _
  ·split
   ·exact im.pure _
   ·split
    ·exact(e8 _ ws).bind fun n=>im.pure _
    ·exact(im.NO (ok:=false) (code:=200) (a:=((0:Int),(0:Int))) (by decide) fun _=>rfl:im ws.length (aY false 200 ((0:Int),(0:Int))) _)
def wh(m:Mt)(ws:List Bs)(st:RS):RS:=match lr ws oz st&&!bq m with
 |true=>⟨st.at_,190⟩
 |false=>st
def y9(m:Mt)(ws:List Bs)(st:RS):Bs×RS:=ak ws (wh m ws st)
def PN(m:Mt)(ws:List Bs):RA Unit:=fun st=>((),match decide ((y9 m ws st).1=oz)with
 |true=>(y9 m ws st).2
 |false=>cz 200 (y9 m ws st).2)
theorem wg{ws:List Bs}{st:RS}(h:st.e≠0):ak ws st=([],st):=by
 unfold ak;cases hb:XU st.e 0 with
 |true=>exact absurd (XN hb) h
 |false=>rfl
theorem Pk(m:Mt)(ws:List Bs):im ws.length (Fx m ws) (PN m ws):=by
 refine⟨fun i hi=>?_,fun st hs=>?_⟩
 ·unfold Fx PN y9 wh
  cases hx:ws[i]? with
  |none=>
   have e2:aV ws i=.no 200 (i+1):=by unfold aV;rw[hx]
   have e1:lr ws oz ⟨i,0⟩=false:=by unfold lr;simp[hx]
   have e3:ak ws ⟨i,0⟩=([],⟨i,200⟩):=by unfold ak;simp[hx]
   simp only[e2,Out.bind,e1,X8,e3];exact⟨by decide,rfl⟩
  |some x=>
   have e2:aV ws i=.ok x (i+1):=by unfold aV;rw[hx]
   have e3:ak ws ⟨i,0⟩=(x,⟨i+1,0⟩):=by unfold ak;simp[hx]
   have hl:i+1≤ws.length:=(Xz.1 hx).1;by_cases hk:x=oz
   ·have e1:lr ws oz ⟨i,0⟩=true:=by unfold lr;simp[hx,hk]
    simp only[e2,Out.bind,e1,Bool.true_and,decide_eq_true hk,aY];cases hc:bq m with
    |true=>simp only[Bool.not_true,e3,decide_eq_true hk];exact⟨trivial,hl⟩
    |false=>have e4:ak ws ⟨i,190⟩=([],⟨i,190⟩):=wg (Nat.succ_ne_zero 189);simp only[Bool.not_false,e4];exact⟨by decide,rfl⟩
   ·have e1:lr ws oz ⟨i,0⟩=false:=by unfold lr;simp[hx,hk]
    simp only[e2,Out.bind,e1,X8,e3,decide_eq_false hk,aY];exact⟨by decide,rfl⟩
 ·have e1:wh m ws st=st:=by unfold wh;rw[wj hs];rfl
  have e2:y9 m ws st=([],st):=by unfold y9;rw[e1,wg hs]
  unfold PN;rw[e2];exact oM hs
def I1(s:Bs)(ws:List Bs):RA Bs:=fun st=>match lr ws s st with
 |true=>j2 ws (ak ws st).2
 |false=>([],st)
theorem GM(s:Bs)(ws:List Bs):im ws.length (o5 s ws) (I1 s ws):=
 im.B7 (ws:=ws) (s:=s) (f:=fun b j=>match b with|true=>fO ws j|false=>.ok [] j) (sg ws) (im.pure [])
noncomputable def y6(ws:List Bs):RA Rl:=bM (j2 ws) fun nm=>bM (gY ws) fun m=>bM (PN m ws) fun _=>bM (wE true ws) fun a=>bM (I1 bc ws) fun me=>bM (I1 aT ws) fun mi=>eM ⟨nm,m,a.1,a.2,me,mi⟩
theorem Lk(ws:List Bs):im ws.length (od ws) (y6 ws):=
 (sg ws).bind fun _=>(IJ ws).bind fun _=>(Pk _ ws).bind fun _=>(GN true ws).bind fun _=>(GM bc ws).bind fun _=>(GM aT ws).bind fun _=>im.pure _
noncomputable def oT(x:Bs)(ws:List Bs)(cf:CF)(was:Bool):RA CF:=
 if x=gD then bM (bR 9223372036854775807 ws) fun n=>eM { cf with aj:=cf.aj++[(n:Int)] }
 else if x=bZ then bM (dC ws) fun p=>bM (bR 9223372036854775807 ws) fun n=>eM { cf with af:=cf.af++[⟨p,(n:Int)⟩] }
 else if x=bc then bM (j2 ws) fun nm=>bM (bR 18446744073709551615 ws) fun a=>bM (bR 18446744073709551615 ws) fun b=>bM (bR 18446744073709551615 ws) fun c=>eM { cf with ag:=cf.ag++[⟨nm,a,b,c⟩] }
 else if x=aT then bM (j2 ws) fun nm=>bM (bR 9223372036854775807 ws) fun a=>bM (bR 9223372036854775807 ws) fun b=>eM { cf with ab:=cf.ab++[⟨nm,(a:Int),(b:Int)⟩] }
 else if x=fT then bM (y6 ws) fun r=>eM { cf with rules:=cf.rules++[r] }
 else if x=aO then bM (qF (!was) 200 ()) fun _=>bM (wE false ws) fun a=>eM { cf with aZ:=a.1 }
 else qF false 200 cf
theorem Lm(x:Bs)(ws:List Bs)(cf:CF)(was:Bool)(d:Nat)(hd:was=!decide (d=0)):im ws.length (fun i=>fC x ws i cf d) (oT x ws cf was):=by
 unfold fC oT;split
 ·exact(e8 _ ws).bind fun _=>im.pure _
 split
 ·exact(q8 ws).bind fun _=>(e8 _ ws).bind fun _=>im.pure _
 split
 ·exact(sg ws).bind fun _=>(e8 _ ws).bind fun _=>(e8 _ ws).bind fun _=>(e8 _ ws).bind fun _=>im.pure _
 split
 ·exact(sg ws).bind fun _=>(e8 _ ws).bind fun _=>(e8 _ ws).bind fun _=>im.pure _
 split
 ·exact(Lk ws).bind fun _=>im.pure _
 split
 ·have:(!was)=decide (d=0):=by rw[hd,Bool.not_not]
  rw[this];exact(im.NO (a:=()) (by decide) fun _=>rfl).bind fun _=>(GN false ws).bind fun _=>im.pure _
 ·exact(im.NO (ok:=false) (code:=200) (a:=cf) (by decide) fun _=>rfl:im ws.length (aY false 200 cf) _)
def LV{α:Type}(ws:List Bs)(a:α):RA α:=fun st=>(a,match XU st.e 0&&decide (st.at_ < ws.length)with
 |true=>⟨st.at_,200⟩
 |false=>st)
theorem Pl{α:Type}(ws:List Bs)(a:α):im ws.length (qG ws a) (LV ws a):=by
 refine⟨fun i hi=>?_,fun st hs=>?_⟩
 ·unfold qG LV
  by_cases h:i < ws.length
  ·simp only[decide_eq_true h,Nat.beq_refl,Bool.and_true]
   exact⟨by decide,rfl⟩
  ·simp only[decide_eq_false h,Bool.and_false]
   exact⟨trivial,hi⟩
 ·unfold LV
  cases hb:XU st.e 0 with
  |true=>exact absurd (XN hb) hs
  |false=>rfl
noncomputable def ey(ws:List Bs)(cf:CF)(was:Bool):RA CF:=bM (ak ws) fun x=>bM (oT x ws cf was) fun c=>LV ws c
theorem Ll(ws:List Bs)(cf:CF)(was:Bool)(d:Nat)(hd:was=!decide (d=0)):im ws.length (fun i=>pz ws i cf d) (ey ws cf was):=
 (mC ws).bind fun x=>(Lm x ws cf was d hd).bind fun c=>Pl ws c
set_option maxRecDepth 100000
open Go Go.RowKit Go.Lib Go.Sort _root_.Go.Proofs.Tryz
set_option maxRecDepth 100000
def da(A:Option Go.Addr)(n c:Nat)(st:RS):List Value:=[.slice A n c,.int .i64 (st.at_:Int),.int .i64 (st.e:Int)]
structure oh(w:World)(S:List Nat)(g:Nat)(A:Option Go.Addr)(n c:Nat)(st:RS)(ws:List Bs):Prop where
 cw:aw w g 114 (da A n c st)
 jq:BO w S A n ws
 gS:g∈S
 le:st.at_≤n
 bd:n≤1100000
 eb:st.e≤1000
 sz:∀x∈ws,x.length≤100000000
theorem oh.at{w W:World}{S:List Nat}{g:Nat}{A:Option Go.Addr}{n c:Nat}{st st':RS}{ws:List Bs}(h:oh w S g A n c st ws)(hc:ai S w W)(hb:aw W g 114 (da A n c st'))(hl:st'.at_≤n)(he:st'.e≤1000):oh W S g A n c st' ws:=
 ⟨hb,h.jq.aJ hc,h.gS,hl,h.bd,he,h.sz⟩
def ig{α:Type}(g:Nat)(A:Option Go.Addr)(n c:Nat)(V:α→Value)(r:α×RS)(w:World)(e:Ending)(w':World):Prop:=e=.returned (V r.1)∧aw w' g 114 (da A n c r.2)∧ai [g] w w'
def Ey{α:Type}(g:Nat)(A:Option Go.Addr)(n c:Nat)(V:α→Value)(r:α×RS)(u:Sx.gV)(gl:List (Nat×TypeId×List Value)):Prop:=u=.val (V r.1)∧gl=[(g,114,da A n c r.2)]
theorem eA{α:Type}{P:Program}{w:World}{f:FuncId}{fn:Func}{co:Code}{g:Nat}{A:Option Go.Addr}{n c:Nat}{st:RS}{V:α→Value}{r:α×RS}(rest:List Value)(hb:aw w g 114 (da A n c st))(H:List (Nat×Sx.Hint))(L:List Sx.Loop)
  (hm:P.follows .mixedOrders=true) (hf:P.funcs[f]?=some fn) (hbd:fn.body=some co) (hn:(rest.length+1)≤fn.ntmps)
  (hx:Sx.lN P fn.ntmps ⟨w,[g],fun _ _=>False⟩ co H L ⟨Sx.lR 0 (.ptr 0 0::rest.map .val),Sx.qK [(g,114,da A n c st)]⟩ (Sx.rS P fn (Ey g A n c V r))) :
  Calls P f (.pointer (some ⟨g,0,none⟩)::rest).toArray w (ig g A n c V r w):=by
 have h:=Sx.il (args:=.ptr 0 0::rest.map .val) [(g,114,da A n c st)] (by simpa using hb) (by simp) (fun _ _=>False) H L hm hf hbd (by simpa using hn) (by
  have:∀l:List Value,Sx.fM (Sx.T0 1) (l.map .val)=true:=fun l=>by
   induction l with
   |nil=>rfl
   |cons x l ih=>exact ih
  exact this rest) hx
 have e:(Sx.SV.ptr 0 0::rest.map .val).map (Sx.SV.den (Sx.xZ [(g,114,da A n c st)]))=.pointer (some ⟨g,0,none⟩)::rest:=by rw[Yb,Yo];have:(Sx.SV.den (Sx.xZ [(g,114,da A n c st)]) ∘ Sx.SV.val)=id:=rfl;rw[this,Yq];rfl
 rw[e]at h;refine h.mono fun _ _ hp=>?_;rcases hp with⟨u,gl,⟨h2,h3⟩,hp,hb⟩ | ⟨_,_,hf,_⟩
 ·subst h2 h3
  exact⟨hp.1,hb (g,114,da A n c r.2) (by simp),hp.2⟩
 ·exact hf.elim
theorem PT{α:Type}{P:Program}{b:Sx.bu}{W:World}{f g i:Nat}{A:Option Go.Addr}{n c:Nat}{V:α→Value}{r:α×RS}{v:Value}{st':RS}{rest:List Value}(cs:Sx.Cells)(hc:cs.list=some (da A n c st'))(hv:v=V r.1)(hs:st'=r.2)
  (h:Calls P f ((pt g 0)::rest).toArray W (ig g A n c V r W)) :
  Calls P f ((pt g 0)::rest).toArray W (Sx.qJ b W ((pt g 0)::rest) (.dW 0 i ⟨114,cs⟩ v)):=by
 subst hv hs;exact h.mono fun _ _ hp=>⟨g,_,rfl,hc,hp.1,hp.2.1,hp.2.2⟩
def Uz{α:Type}(_:α):Value:=.tuple #[]
theorem VG(e:Nat):Xy ((e:Int)==0)=.bool (XU e 0):=by congr 1;rw[XT,beq_iff_eq,Yr];omega
theorem W3(e:Nat):Xy ((e:Int) !=0)=.bool (!Nat.beq e 0):=by
 have h:((e:Int)==0)=XU e 0:=by rw[XT,beq_iff_eq,Yr];omega
 show Xy (!((e:Int)==0))=_;rw[h]
theorem GY{ws:List Bs}{st:RS}(h:XU st.e 0=false):ak ws st=([],st):=by unfold ak;rw[h]
theorem GX{ws:List Bs}{st:RS}(h:XU st.e 0=true):ak ws st=(match ws[st.at_]? with|some x=>(x,⟨st.at_+1,0⟩)|none=>([],⟨st.at_,200⟩)):=by unfold ak;rw[h];rfl
theorem gu{w:World}{S:List Nat}{g:Nat}{A:Option Go.Addr}{n c:Nat}{st:RS}{ws:List Bs}(h:oh w S g A n c st ws):Calls prog 132 #[.pointer (some ⟨g,0,none⟩)] w (ig g A n c ae (ak ws st) w):=by
 have hlen:=h.jq.len;have hle:=h.le;have hbd:=h.bd;have hw:=h.jq.sub (S':=[g]) (fun x hx=>by rw[XC.1 hx];exact h.gS);have c7:=W3 st.e;cases he:XU st.e 0 with
 |false=>rw[GY he];rw[he]at c7;have h0:Sx.gV.val (ae [])=.val (ae []):=rfl;have z1:[(g,114,da A n c st)]=[(g,114,da A n c st)]:=rfl;refine eA [] h.cw [ao 7 true] [] (by kernel_rfl) func132 rfl (bN rfl) ?_;exact XI (by kernel_rfl) (Sx.t2 c7 h0 z1)
 |true=>
  rw[GX he];rw[he]at c7;cases hx:ws[st.at_]? with
  |none=>
   have hi:st.at_=n:=by have:=X6.1 hx;omega
   have c17:=bT ((st.at_:Int)≥(n:Int)) (by omega);have h0:Sx.gV.val (ae [])=.val (ae []):=rfl;have z1:[(g,114,da A n c ⟨st.at_,200⟩)]=[(g,114,da A n c ⟨st.at_,200⟩)]:=rfl;refine eA [] h.cw [ao 7 false,ao 17 true] [] (by kernel_rfl) func132 rfl (bN rfl) ?_;exact XI (by kernel_rfl) (Sx.t2 c7 c17 (XD h0 z1))
  |some x=>
   have hi:st.at_ < n:=by rw[←hlen];exact(Xz.1 hx).1
   obtain⟨p,hp1,hp2⟩:=hw.at (c:=c) hx;obtain⟨i,hie⟩:∃i,i=st.at_:=⟨_,rfl⟩;rw[←hie]at hi hp1;have c17:=bF ((i:Int)≥(n:Int)) (by omega);have c26:=mW (i:=i) (by omega);have c37:XG .i64 (XL.wrap (((i+1:Nat):Int) - 1))=.int .i64 (i:Int):=iw (by rw[kC (by omega) (by omega)]; omega);have c38:=fun W (_:ai [g] w W)=>hp1 W;have c39:=hp2;have h0:Sx.gV.val (ae x)=.val (ae x):=rfl;have z1:[(g,114,da A n c ⟨i+1,0⟩)]=[(g,114,da A n c ⟨i+1,0⟩)]:=rfl;have he0:st.e=0:=XN he;have hst:st=⟨i,0⟩:=by cases st;simp only at he0 hie;rw[he0,hie]
   subst hst;refine eA [] h.cw [ao 7 false,ao 17 false,cO 26 (i+1),(37,.is (.int .i64 (i:Int))),(38,.any p),(39,.any (ae x))] [] (by kernel_rfl) func132 rfl (bN rfl) ?_;exact XI (by kernel_rfl) (Sx.t4 c7 c17 c26 c37 (Sx.t2 c38 c39 (XD h0 z1)))
theorem vR{w:World}{S:List Nat}{g:Nat}{A:Option Go.Addr}{n c:Nat}{st:RS}{ws:List Bs}(h:oh w S g A n c st ws)(code:Nat)(h1:st.e=0→1≤st.at_):Calls prog 137 #[(pt g 0),.int .i64 (code:Int)] w (ig g A n c (Uz (α:=Unit)) ((),cz code st) w):=by
 have hle:=h.le;have hbd:=h.bd;have c8:=VG st.e;have h0:Sx.gV.val (.tuple #[])=.val (.tuple #[]):=rfl;unfold cz;cases he:XU st.e 0 with
 |false=>rw[he]at c8;have z1:[(g,114,da A n c st)]=[(g,114,da A n c st)]:=rfl;refine eA [.int .i64 (code:Int)] h.cw [ao 8 false] [] (by kernel_rfl) func137 rfl (bN rfl) ?_;exact XI (by kernel_rfl) (Sx.t2 c8 h0 z1)
 |true=>rw[he]at c8;have h1:=h1 (XN he);have c18:XG .i64 (XL.wrap ((st.at_:Int) - 1))=.int .i64 ((st.at_ - 1:Nat):Int):=iw (by rw[kC (by omega) (by omega)]; omega);have z1:[(g,114,da A n c ⟨st.at_ - 1,code⟩)]=[(g,114,da A n c ⟨st.at_ - 1,code⟩)]:=rfl;refine eA [.int .i64 (code:Int)] h.cw [ao 8 true,cO 18 (st.at_ - 1)] [] (by kernel_rfl) func137 rfl (bN rfl) ?_;exact XI (by kernel_rfl) (Sx.t2 c8 c18 (XD h0 z1))
theorem zb{w:World}{S:List Nat}{g:Nat}{A:Option Go.Addr}{n c:Nat}{st:RS}{ws:List Bs}(h:oh w S g A n c st ws)(s:Bs):Calls prog 155 #[.pointer (some ⟨g,0,none⟩),ae s] w (ig g A n c (fun b=>.bool b) (lr ws s st,st) w):=by
 have hlen:=h.jq.len;have hle:=h.le;have hbd:=h.bd;have hw:=h.jq.sub (S':=[g]) (fun x hx=>by rw[XC.1 hx];exact h.gS);have c9:=VG st.e;have z1:[(g,114,da A n c st)]=[(g,114,da A n c st)]:=rfl;unfold lr;cases he:XU st.e 0 with
 |false=>
  rw[he]at c9;have h0:Sx.gV.val (.bool false)=.val (.bool (false&&decide (ws[st.at_]?=some s))):=by rw[X8]
  refine eA [ae s] h.cw [ao 9 false] [] (by kernel_rfl) func155 rfl (bN rfl) ?_;exact XI (by kernel_rfl) (Sx.t2 c9 h0 z1)
 |true=>
  rw[he]at c9;cases hx:ws[st.at_]? with
  |none=>
   have hi:st.at_=n:=by have:=X6.1 hx;omega
   have c20:=bF ((st.at_:Int) < (n:Int)) (by omega);have h0:Sx.gV.val (.bool false)=.val (.bool (true&&decide ((none:Option Bs)=some s))):=by simp
   refine eA [ae s] h.cw [ao 9 true,ao 20 false] [] (by kernel_rfl) func155 rfl (bN rfl) ?_;exact XI (by kernel_rfl) (Sx.t2 c9 c20 (XD h0 z1))
  |some x=>
   have hi:st.at_ < n:=by rw[←hlen];exact(Xz.1 hx).1
   obtain⟨p,hp1,hp2⟩:=hw.at (c:=c) hx;have c20:=bT ((st.at_:Int) < (n:Int)) (by omega);have c31:=fun W (_:ai [g] w W)=>hp1 W;have c32:=hp2;have c34:=fun W=>dR (.tmp 32) (.tmp 33) x s _ rfl W;have h0:Sx.gV.val (.bool (decide (x=s)))=.val (.bool (true&&decide (some x=some s))):=by simp
   refine eA [ae s] h.cw [ao 9 true,ao 20 true,(31,.any p),(32,.any (ae x)),(34,.bin (.bool (decide (x=s))))] [] (by kernel_rfl) func155 rfl (bN rfl) ?_;exact XI (by kernel_rfl) (Sx.t4 c9 c20 c31 c32 (Sx.t2 c34 h0 z1))
set_option maxRecDepth 100000
open Go Go.RowKit Go.Lib Go.Sort _root_.Go.Proofs.Tryz
set_option maxRecDepth 100000
section
variable{P:Program}(w:World)
theorem uY(t u ty e:TypeId)(i:TypeInfo)(ht:P.underlying t=some (.slice e))(hu:P.underlying u=some .string)(hi:P.info? e=some i)(hz:i.zero=some (.int .u8 0))
  (hsize:i.size=1) (hby:i.bytes=1) (v:Value) (n:Nat) (xs:List Value) (hown:Own w e 1 v n xs) (s:ByteArray) (h63:n+s.size≤maxLen) (hbytes:n+s.size≤140737488355328) :
  ∃A' c' w',(Builtin.append_ #[t,u] ty #[v,.string s]).run P w=.ok (.slice A' (n+s.size) c') w'∧Own w' e 1 (.slice A' (n+s.size) c') (n+s.size) (xs++strCells s)∧ai v.ownBlock.toList w w'∧
   ((XJ A' (n+s.size) c').ownBlock=v.ownBlock∨∃k,(XJ A' (n+s.size) c').ownBlock=some k∧w.heap.size≤k):=by
 have hsmall:n+s.size≤9223372036854775807:=by simp only[maxLen]at h63;omega
 have hxl:xs.length=n:=by simpa using hown.1
 have hlen:(xs++strCells s).length=(n+s.size)*1:=by rw[XF,hxl,strCells_length,X4]
 have grown:∀(old:Nat),old < n+s.size→∀(S:List Nat),
   Own (w.drew.alloc (.cells (xs.toArray++(strCells s).toArray++Builtin.zeroCells (XG .u8 0).cells (grownCap w (n+s.size) old e - (n+s.size))) e)) e 1
    (.slice (some ⟨w.heap.size,0,none⟩) (n+s.size) (grownCap w (n+s.size) old e)) (n+s.size) (xs++strCells s)∧
   ai S w (w.drew.alloc (.cells (xs.toArray++(strCells s).toArray++Builtin.zeroCells (XG .u8 0).cells (grownCap w (n+s.size) old e - (n+s.size))) e)):=by
  intro old ho S;have hge:=grownCap_ge w (n+s.size) old e;have hcm:grownCap w (n+s.size) old e≤maxLen:=grownCap_le_maxLen w (n+s.size) old e h63;refine⟨⟨hlen,.inr ⟨w.heap.size,0,_,_,rfl,aw.new w.drew e _,hge,hcm,?_,?_⟩⟩,(ai.refl S w).drew.alloc _⟩
  ·have hz1:(XG X2 0).cells.size=1:=rfl
   simp only[Array.length_toList,Array.size_append,List.size_toArray,size_zeroCells,hz1,hxl,strCells_length];omega
  ·simp only[Array.toList_append,Yf,List.drop_zero]
   rw[←Yf,←hlen];exact List.take_left
 rcases hown.2 with⟨rfl,rfl⟩ | ⟨g,o,cap,L,rfl,hg,hnc,hcm,hcL,hxs⟩
 ·have hx:xs=[]:=XP hxl
  subst hx;by_cases hm:s.size=0
  ·have hn:strCells s=[]:=XP (by rw[strCells_length];exact hm)
   refine⟨none,0,w,?_,by rw[hm,hn];exact Own.nil w e 1,ai.refl _ _,.inl rfl⟩;have hf:=run_firstCells_string (P:=P) w 1 s;rw[hm]at hf;simp[Builtin.append_,run_underlying ht,run_underlying hu,sizeOf,typeInfo,hi,hsize,Builtin.lenOf,hm,hf]
  ·have hr:=run_append_nil_string (P:=P) w t u ty e i (.int .u8 0) ht hu hi hz s (by omega) (by omega) (by rw[hby];omega)
   have hgr:=grown 0 (by omega) (X3 (.slice none 0 0)).toList;simp only[Nat.zero_add,X1,Array.empty_append]at hgr ⊢;have e1:(s.data.map fun b=>XG .u8 b.toNat)=(strCells s).toArray:=by apply Array.ext';simp[strCells]
   rw[e1]at hr;exact⟨_,_,_,hr,hgr.1,hgr.2,.inr ⟨_,rfl,Yd _⟩⟩
 ·by_cases hroom:n+s.size≤cap
  ·have hst:=ff (P:=P) w (o+n) (strCells s) hg (by rw[strCells_length];omega) (strCells_oneCell s)
   have hf:=run_firstCells_string (P:=P) w 1 s;refine⟨some ⟨g,o,none⟩,cap,w.setRow g (splice L (o+n) (strCells s)).toArray,?_,⟨hlen,.inr ⟨g,o,cap,_,rfl,hg.row _,hroom,hcm,?_,?_⟩⟩,?_,.inl rfl⟩
   ·simp[Builtin.append_,run_underlying ht,run_underlying hu,sizeOf,typeInfo,hi,hsize,Builtin.lenOf,hroom,hf,Addr.add_lit,hst]
   ·rw[lZ _ _ _ (by rw[strCells_length];omega)];exact hcL
   ·have h1:n+s.size=n+(strCells s).length:=by rw[strCells_length]
    rw[X4,h1];exact uj L o n xs (strCells s) (by simpa using hxs) (by simpa using hown.1) (by rw[strCells_length];omega)
   ·exact(ai.refl _ _).setRow (.inl (by simp[X3])) _
  ·have holds:∀j u,xs[j]?=some u→w.cell? ((⟨g,o,none⟩:Addr).add j)=some u:=hown.lj
   have hr:=run_append_grow_string (P:=P) w t u ty e i (.int .u8 0) ht hu hi hz ⟨g,o,none⟩ n cap xs (by rw[hsize];simpa using hxl) holds s (by omega) (by omega) (by rw[hby];exact growslice_fits (by omega) (by omega));have hgr:=grown cap (by omega) (X3 (.slice (some ⟨g,o,none⟩) n cap)).toList;exact⟨_,_,_,hr,hgr.1,hgr.2,.inr ⟨_,rfl,Yd _⟩⟩
theorem qU{ops:Array Oper}{rest:List Oper}{o:Oper}{a:Act}{Q:Exit→Act→World→Prop}(hgd:o.guard=none)(s x:Operand)(t u:TypeId)
  (ho:o.op=.call { callee:=.builtin .append,args:=#[s,x],argTypes:=#[t,u] })
  (e:TypeId) (i:TypeInfo) (ht:P.underlying t=some (.slice e)) (hu:P.underlying u=some .string) (hi:P.info? e=some i) (hz:i.zero=some (.int .u8 0)) (hsize:i.size=1) (hby:i.bytes=1)
  (v:Value) (n:Nat) (xs:List Value) (hs:a.eval s=v) (hown:Own w e 1 v n xs) (l:ByteArray) (hx:a.eval x=.string l) (h63:n+l.size≤maxLen) (hbytes:n+l.size≤140737488355328)
  (h:∀A' c' w',Own w' e 1 (.slice A' (n+l.size) c') (n+l.size) (xs++strCells l)→ai v.ownBlock.toList w w'→
   ((XJ A' (n+l.size) c').ownBlock=v.ownBlock∨∃k,(XJ A' (n+l.size) c').ownBlock=some k∧w.heap.size≤k)→wpList P ops Q rest (a.put o.dst (.slice A' (n+l.size) c')) w'):wpList P ops Q (o::rest) a w:=
 wpList_plain hgd fun _ hK=>by obtain⟨A',c',w',hrun,h2,h3,h4⟩:=uY (P:=P) w t u o.type e i ht hu hi hz hsize hby v n xs hown l h63 hbytes;unfold Oper.wp execOp;simp only[ho,resolve,invoke,builtin,Sem.run_bind,Sem.run_pure,Result.andThen_ok,List.map_toArray,Yb,List.map_nil,hs,hx,hrun];exact hK _ _ (h A' c' w' h2 h3 h4)
end
def UD(p:Value)(A:Option Go.Addr)(n c:Nat)(e:Int):List Value:=[p,.slice A n c,.int .i64 e]
def pV(b:Bool)(g:Nat):Value:=.pointer (match b with
 |true=>some ⟨g,0,none⟩
 |false=>none)
def tf(l:Bs):List Value:=l.map fun b=>.int .u8 b.toNat
theorem Rr(l:Bs):strCells ⟨l.toArray⟩=tf l:=by simp[strCells,tf]
structure Tx(w:World)(g:Nat)(p:Bool)(A:Option Go.Addr)(c:Nat)(tx:Bs)(e:Int):Prop where
 cw:aw w g 132 (UD (pV p g) A tx.length c e)
 own:Own w 5 1 (.slice A tx.length c) tx.length (tf tx)
theorem IG{A:Option Go.Addr}{n c:Nat}:(XJ A n c).ownBlock=A.map (·.block):=by cases A<;>rfl
theorem Tx.ne{w:World}{g:Nat}{p:Bool}{A:Option Go.Addr}{c:Nat}{tx:Bs}{e:Int}(h:Tx w g p A c tx e):(XJ A tx.length c).ownBlock≠some g:=h.own.Hm h.cw (by decide)
def r9(g:Nat)(A:Option Go.Addr):List Nat:=g::(A.map (·.block)).toList
set_option maxHeartbeats 1100000 in
theorem NN(b:Nat)(w:World)(h0:w.cell? ⟨b,0,none⟩=some (.pointer (some ⟨b,0,none⟩))) :
  Calls prog 194 #[.pointer (some ⟨b,0,none⟩)] w fun e w'=>e=.returned (.tuple #[])∧w'=w:=by
 have hs:(prog.info? 130).map (·.size)=some 2:=by kernel_rfl
 obtain⟨j,hj,_⟩:=X9.1 hs;go_enter func194,ntmps194
 go_wp2
 rw[Lib.run_neq_ptr_same w _ underlying128 hj];go_wp2
 go_end0
 exact⟨rfl,rfl⟩
set_option maxHeartbeats 1100000 in
theorem Kg(b:Nat)(w:World)(h0:w.cell? ⟨b,0,none⟩=some (.pointer none))(hsh:w.shape? b=some (132,3))(hfz:w.frozen? ⟨b,0,none⟩=false) :
  Calls prog 194 #[.pointer (some ⟨b,0,none⟩)] w fun e w'=>e=.returned (.tuple #[])∧w'=w.setCell ⟨b,0,none⟩ (.pointer (some ⟨b,0,none⟩)):=by
 have hs:(prog.info? 130).map (·.size)=some 2:=by kernel_rfl
 obtain⟨j,hj,hjs⟩:=X9.1 hs;have hl:liesAt prog prog.depth 132 (3 / prog.cellsOf 132) 0 130 1=true:=by kernel_rfl
 go_enter func194,ntmps194
 go_wp2
 rw[Lib.run_to_unsafe w ⟨b,0,none⟩ underlying128 underlying188 hj (by rw[hjs];decide) hsh (Nat.zero_lt_succ 2)];simp only[XZ];rw[Oper.upon_value];go_wp2
 rw[run_callFunc_extern func233 (by kernel_rfl) (by kernel_rfl) (by kernel_rfl) (e:=Extern.AbiNoEscape.same) (by kernel_rfl)];rw[Lib.run_noEscape];simp only[XZ];rw[Oper.upon_value];go_wp2
 rw[Lib.run_from_unsafe w ⟨b,0,none⟩ underlying188 underlying128 hj hsh hl];simp only[XZ];rw[Oper.upon_value];go_wp2
 go_end0
 exact⟨rfl,rfl⟩
theorem VL{w:World}{g:Nat}{p:Bool}{A:Option Go.Addr}{c:Nat}{tx:Bs}{e:Int}(h:Tx w g p A c tx e) :
  Calls prog 194 #[.pointer (some ⟨g,0,none⟩)] w fun e' w'=>e'=.returned (.tuple #[])∧Tx w' g true A c tx e∧ai [g] w w':=by
 cases p with
 |false=>refine(Kg g w (h.cw.cell_of rfl) h.cw.shape (h.cw.frozen 0)).mono ?_;rintro e' w' ⟨rfl,rfl⟩;exact⟨rfl,⟨by simpa[UD,pV]using h.cw.sh 0 (.pointer (some ⟨g,0,none⟩)),h.own.OU h.ne _⟩,(ai.refl _ w).setCell (.inl (by simp)) _⟩
 |true=>refine(NN g w (h.cw.cell_of rfl)).mono ?_;rintro e' w' ⟨rfl,rfl⟩;exact⟨rfl,h,ai.refl _ _⟩
def n6(g:Nat)(A:Option Go.Addr)(r:Value)(tx:Bs)(e:Int)(w:World)(e':Ending)(w':World):Prop:=
 ∃A' c',e'=.returned r∧Tx w' g true A' c' tx e∧ai (r9 g A) w w'∧∀k,A'.map (·.block)=some k→A.map (·.block)=some k∨w.heap.size≤k
theorem Nd:∃i,prog.info? 5=some i∧i.zero=some (.int .u8 0)∧i.size=1∧i.bytes=1:=info_parts (by kernel_rfl)
set_option maxHeartbeats 2000000 in
theorem O1{w:World}{g:Nat}{p:Bool}{A:Option Go.Addr}{c:Nat}{tx:Bs}{e:Int}(s:Bs)(h:Tx w g p A c tx e)(hs:tx.length+s.length≤140737488355328) :
  Calls prog 141 #[.pointer (some ⟨g,0,none⟩),.string ⟨s.toArray⟩] w (n6 g A (.tuple #[.int .i64 (s.length:Int),.nilIface]) (tx++s) e w):=by
 obtain⟨i0,hi,hz0,hz1,hz2⟩:=Nd;have hsz:(⟨s.toArray⟩:ByteArray).size=s.length:=by simp[ByteArray.size]
 have HC:=hid (VL h);clear h;go_enter func141,ntmps141
 go_wp2_with (go_at_call 194;refine HC.out.mono ?_)
 rintro e1 w1 ⟨rfl,h1,hb1⟩;have c1:w1.cell? ⟨g,1,none⟩=some (.slice A tx.length c):=h1.cw.cell_of rfl;go_wp2_with (at_builtin;refine qU _ rfl _ _ 82 9 rfl 5 i0 underlying82 underlying9 hi hz0 hz1 hz2 _ _ _ rfl h1.own ⟨s.toArray⟩ rfl ?c3 ?c4 ?_)
 case c3=>rw[hsz];unfold maxLen;omega
 case c4=>rw[hsz];omega
 intro A' c' w2 hown' hchg hk;rw[Rr]at hown';have hb2:aw w2 g 132 (UD (pV true g) A tx.length c e):=h1.cw.aJ hchg (by intro hm;exact h1.ne (by simpa using hm));have d1:w2.cell? ⟨g,1,none⟩=some (.slice A tx.length c):=hb2.cell_of rfl;have f1:w2.frozen? ⟨g,1,none⟩=false:=hb2.frozen 1;go_wp2
 go_ret2
 refine⟨A',c',by simp,⟨?_,?_⟩,?_,?_⟩
 ·have:=hb2.sh 1 (.slice A' (tx.length+s.length) c')
  simpa[UD]using this
 ·rw[XF,show tf (tx++s)=tf tx++tf s by simp[tf]]
  exact hown'.OU (hown'.Hm hb2 (by decide)) _
 ·have hb1':ai (r9 g A) w w1:=hb1.mono fun k hk=>.inl (by simp at hk;simp[r9,hk])
  have h2':ai (r9 g A) w1 w2:=hchg.mono fun k hk=>.inl (by unfold r9;rw[IG]at hk;exact XQ _ hk);exact(hb1'.trans h2').setCell (.inl (by simp[r9])) _
 ·intro k hk'
  have hk2:(XJ A' (tx.length+s.length) c').ownBlock=some k:=by rw[IG];exact hk'
  rcases hk with hh|⟨j,hj,hj2⟩
  ·rw[hk2]at hh
   exact .inl (by rw[IG]at hh;exact hh.symm)
  ·rw[hk2]at hj
   cases hj;exact .inr (XH hb1.size hj2)
open Go.RowKit Go.Lib Go.Sort
def ft(s:Nat×Nat):Bs:=if s.1=s.2 then aq 10 s.1 else aq 10 s.1++45::aq 10 s.2
def eo(n:Nat):Bs:=if n=6 then kj else if n=17 then kY else aq 10 n
def wJ(p:Px):Bs:=j8 p.v p.n p.k
def bW(m:Mt)(k:Nat):List Bs:=match k with
 | 0=>[yK,ft m.fU]
 | 1=>[nS,wJ m.src]
 | 2=>[pv,wJ m.dst]
 | 3=>[gE,eo m.bw]
 | 4=>[jh,ft m.sp]
 |_=>[jV,ft m.dp]
def oV(m:Mt)(k:Nat):List Bs:=match m.asks.testBit k with
 |true=>bW m k
 |false=>[]
def gR(m:Mt):List Bs:=oV m 0++oV m 1++oV m 2++oV m 3++oV m 4++oV m 5
def kV(m:Mt):Bs:=if m.asks=0 then iO else ay 32 (gR m)
def Ji(m:Mt):Bs:=match bq m with
 |true=>kV m
 |false=>[]
def cW(n:Int):Bs:=if n < 0 then 45::aq 10 n.natAbs else aq 10 n.toNat
def bp(act out:Int):List Bs:=if act=1 then [bZ] else if act=2 then [jb] else if act=3 then [mj,cW out] else if act=4 then [eC] else []
def dF(k s:Bs):List Bs:=if s=[] then [] else [k,s]
def ek(r:Rl):List Bs:=[fT,r.name,Ji r.mt,oz]++bp r.act r.out++dF bc r.dx++dF aT r.cA
def fh(n:Int):List Bs:=[gD,cW n]
def fN(r:Rt):List Bs:=[bZ,wJ r.pf,cW r.out]
def fQ(m:Me):List Bs:=[bc,m.name,aq 10 m.num,aq 10 m.den,aq 10 m.qR]
def eB(m:Mi):List Bs:=[aT,m.name,cW m.out,cW m.room]
def jW(d:Int):List Bs:=aO::bp d 0
def lP(cf:CF):List (List Bs):=cf.aj.map fh++cf.af.map fN++cf.ag.map fQ++cf.ab.map eB++cf.rules.map ek++[jW cf.aZ]
def ir(ws:List Bs):Bs:=ay 32 ws++[10]
def dy(l:List (List Bs)):Bs:=l.flatMap ir
def fL(cf:CF):Bs:=dy (lP cf)
def bj(is:Bool)(code e:Int):Int:=match is with
 |true=>e
 |false=>match decide (e=0)with
  |true=>code
  |false=>e
def G7(e:Int)(n:Int):Int:=bj (decide (n≥0)) 2 e
def AI(e:Int)(r:Rt):Int:=bj (decide (r.out≥0)) 2 (bj (gy r.pf.v r.pf.n r.pf.k) 151 e)
def A4(e:Int)(m:Me):Int:=bj (aK m.name) 201 e
def qn(e:Int)(m:Mi):Int:=bj (decide (m.out≥0)&&decide (m.room≥0)) 2 (bj (aK m.name) 201 e)
def ly(act out:Int):Bool:=(decide (1≤act)&&decide (act≤4))&&(decide (out≥0)&&(decide (out=0)||decide (act=3)))
def iV(s:Bs):Bool:=decide (s=[])||aK s
def um(e:Int)(r:Rl):Int:=bj (iV r.cA) 201 (bj (iV r.dx) 201 (bj (ly r.act r.out) 2 (bj (bq r.mt) 190 (bj (aK r.name) 201 e))))
def NJ(e:Int)(d:Int):Int:=bj (decide (d=1)||(decide (d=2)||decide (d=4))) 2 e
def uT(cf:CF):Int:=NJ (cf.rules.foldl um (cf.ab.foldl qn (cf.ag.foldl A4 (cf.af.foldl AI (cf.aj.foldl G7 0))))) cf.aZ
def yM(cf:CF):Int:=bj (decide ((fL cf).length≤65536)) 4 (uT cf)
def jS(cf:CF):Bs×Int:=if yM cf=0 then(fL cf,0)else([],yM cf)
def yR(c:UInt8):Prop:=c≠32∧c≠9∧c≠35∧c≠10
def eW(x:Bs):Prop:=x≠[]∧∀c∈x,yR c
theorem oA(cm:Bool)(r:Bs):∀(x cur:Bs),(∀c∈x,yR c)→bB cm cur (x++r)=bB cm (cur++x) r
 | [],cur,_=>by simp
 |c::x,cur,h=>by
  have hc:=h c (by simp);have e:bB cm cur (c::(x++r))=bB cm (cur++[c]) (x++r):=by
   rw[bB,if_neg (fun hh=>hc.2.2.1 hh.2),if_neg (fun hh=>by
    rcases hh with hh|hh
    ·exact hc.1 hh
    ·exact hc.2.1 hh)]
  rw[List.cons_append,e,oA cm r x (cur++[c]) (fun d hd=>h d (by simp[hd]))];simp
theorem Am(cm:Bool)(r cur:Bs)(hc:cur≠[]):bB cm cur (32::r)=cur::bB cm [] r:=by rw[bB,if_neg (fun hh=>absurd hh.2 (by decide)),if_pos (.inl rfl),if_neg hc]
theorem qV(cm:Bool):∀ws:List Bs,(∀x∈ws,eW x)→aD cm (ay 32 ws)=ws
 | [],_=>by simp[aD,ay,bB]
 | [x],h=>by have hx:=h x (by simp);have:=oA cm [] x [] hx.2;simp only[Yk,X1]at this;show bB cm [] x=[x];rw[this,bB,if_neg hx.1]
 |x::y::r,h=>by have hx:=h x (by simp);show bB cm [] (x++32::ay 32 (y::r))=_;rw[oA cm _ x [] hx.2,X1,Am cm _ x hx.1];congr 1;exact qV cm (y::r) fun z hz=>h z (XQ _ hz)
theorem Qr:∀ws:List Bs,(∀x∈ws,∀c∈x,yR c)→(10:UInt8)∉ay 32 ws:=fun ws h hm=>by
 rcases gw hm with h1|⟨x,hx,h1⟩
 ·exact absurd h1 (by decide)
 ·exact(h x hx _ h1).2.2.2 rfl
theorem uF:∀l:List (List Bs),(∀ws∈l,∀x∈ws,∀c∈x,yR c)→aG (dy l)=l.map (ay 32)++[[]]
 | [],_=>by simp[dy,aG,bH]
 |ws::l,h=>by
  have ih:=uF l fun v hv=>h v (XQ _ hv);have e:dy (ws::l)=ay 32 ws++10::dy l:=by simp[dy,ir]
  unfold aG at ih ⊢;rw[e,kJ 10 _ _ (Qr ws (h ws (by simp))),ih];rfl
theorem JS(c:UInt8)(x:Bs)(ws r:List Bs)(hw:ws≠[]):ay c (x::ay c ws::r)=ay c (x::(ws++r)):=by
 have aux:∀(ws r:List Bs),ws≠[]→ay c (ay c ws::r)=ay c (ws++r):=by
  intro ws;induction ws with
  |nil=>intro r h;exact absurd rfl h
  |cons a l ih=>
   intro r _;cases l with
   |nil=>rfl
   |cons b l=>
    have h1:=ih r (by simp);cases r with
    |nil=>simp[ay]
    |cons d r=>show(a++c::ay c (b::l))++c::ay c (d::r)=a++c::ay c (b::(l++d::r));have h1:ay c (b::l)++c::ay c (d::r)=ay c (b::(l++d::r)):=h1;rw[←h1];simp
 have h1:=aux ws r hw;obtain⟨a,l,rfl⟩:=List.exists_cons_of_ne_nil hw;show x++c::ay c (ay c (a::l)::r)=x++c::ay c (a::(l++r));rw[h1];rfl
set_option maxRecDepth 100000
open Go Go.RowKit Go.Lib Go.Sort _root_.Go.Proofs.Tryz
set_option maxRecDepth 100000
def j0(og:Option Nat)(cs:List Sx.SV):Sx.Row:=match og with
 |some g=>⟨132,.j5 g cs⟩
 |none=>⟨132,.dK cs⟩
structure pT(row:Nat→Option Sx.Row)(i j:Nat)(og:Option Nat)(p:Bool)(tx:Bs)(e:Int):Prop where
 b:row i=some (j0 og [.eU p i 0,.own j,.val (.int .i64 e)])
 o:row j=some ⟨5,.own 1 tx.length (tf tx)⟩
theorem ny{β:Sx.Env}{W:World}{i:Nat}{og:Option Nat}{cs:List Sx.SV}:Sx.br β W i (j0 og cs)↔(∀g,og=some g→β i=g)∧aw W (β i) 132 (cs.map (Sx.SV.den β)):=by
 cases og with
 |none=>exact⟨fun h=>⟨fun g hg=>(by cases hg),h⟩,fun h=>h.2⟩
 |some g=>exact⟨fun h=>⟨fun g' hg=>by cases hg;exact h.1,h.2⟩,fun h=>⟨h.1 g rfl,h.2⟩⟩
theorem pZ{β:Sx.Env}{i:Nat}{og:Option Nat}{cs:List Sx.SV}:Sx.az β i (j0 og cs)=some (β i):=by cases og<;>rfl
theorem qY{b:Sx.bu}{β:Sx.Env}{W:World}{row:Nat→Option Sx.Row}{iT:List Nat}{i j:Nat}{og:Option Nat}{p:Bool}{tx:Bs}{e:Int}(hS:Sx.fD b β W row iT)(h:pT row i j og p tx e)(hi:i∈iT)(hj:j∈iT) :
  Tx W (β i) p (β.a j) (β.c j) tx e∧∀g,og=some g→β i=g:=by
 have h1:=ny.1 (hS.held i hi _ h.b);have h2:β.n j=tx.length∧Own W 5 1 (.slice (β.a j) tx.length (β.c j)) tx.length (tf tx):=hS.held j hj _ h.o;refine⟨⟨?_,h2.2⟩,h1.1⟩;have hb:=h1.2;have e1:([Sx.SV.eU p i 0,.own j,.val (.int .i64 e)].map (Sx.SV.den β))=[pV p (β i),β.sl j,.int .i64 e]:=rfl;rw[e1]at hb;unfold Sx.Env.sl at hb;rw[h2.1]at hb;exact hb
def B6(X:List Nat)(i j m:Nat)(og:Option Nat)(tx:Bs)(e:Int)(v:Value):Sx.cS:=⟨i::j::X,[(i,j0 og [.eU true i 0,.own m,.val (.int .i64 e)])],[j],[⟨5,.own 1 tx.length (tf tx)⟩],.val v,none⟩
def RR(β:Sx.Env)(m:Nat)(A:Option Go.Addr)(n c:Nat):Sx.Env:=⟨β.b,fun i=>if i=m then A else β.a i,fun i=>if i=m then n else β.n i,fun i=>if i=m then c else β.c i⟩
theorem vh{b:Sx.bu}{β:Sx.Env}{W w':World}{row:Nat→Option Sx.Row}{X:List Nat}{i j m:Nat}{og:Option Nat}{p:Bool}{tx tx':Bs}{e e':Int}{v:Value}{en:Ending}(h:pT row i j og p tx e)(_hi:i < m)(_hj:j < m)(hg:∀g,og=some g→β i=g)
  (hp:n6 (β i) (β.a j) v tx' e' W en w'):Sx.bK b β W row m (B6 X i j m og tx' e' v) en w':=by
 obtain⟨A',c',he,ht,hc,hk⟩:=hp;refine .inl ⟨fun p hp=>(by cases hp),RR β m A' tx'.length c',fun k hk=>⟨rfl,?_,?_,?_⟩,he,fun q hq=>?_,fun k r hr=>?_,fun k r x hr hx=>?_,fun k k' r r' x hr hr' _ _=>?_,hc.mono fun k hk=>.inl ?_⟩
 ·show β.a k=if k=m then A' else β.a k
  rw[if_neg (by omega)]
 ·show β.n k=if k=m then tx'.length else β.n k
  rw[if_neg (by omega)]
 ·show β.c k=if k=m then c' else β.c k
  rw[if_neg (by omega)]
 ·have hq:q=(i,j0 og [.eU true i 0,.own m,.val (.int .i64 e')]):=XC.1 hq
  subst hq;refine ny.2 ⟨hg,?_⟩;show aw w' (β i) 132 [pV true (β i),.slice (if m=m then A' else β.a m) (if m=m then tx'.length else β.n m) (if m=m then c' else β.c m),.int .i64 e'];rw[if_pos rfl,if_pos rfl,if_pos rfl];exact ht.cw
 ·match k,hr with
  | 0,hr=>cases hr;show(if m+0=m then tx'.length else β.n (m+0))=tx'.length∧Own w' 5 1 (.slice (if m+0=m then A' else β.a (m+0)) tx'.length (if m+0=m then c' else β.c (m+0))) tx'.length (tf tx');rw[XY,if_pos rfl,if_pos rfl,if_pos rfl];exact⟨rfl,ht.own⟩
 ·match k,hr with
  | 0,hr=>
   cases hr;have hx:(if m+0=m then A' else β.a (m+0)).map (·.block)=some x:=hx;rw[XY,if_pos rfl]at hx;rcases hk x hx with h1|h1
   ·refine .inl (XE.2 ⟨j,by simp[B6],?_⟩)
    unfold Sx.cQ;rw[h.o];exact h1
   ·exact .inr h1
 ·match k,k',hr,hr' with
  | 0,0,_,_=>rfl
 ·show k∈([i]++[j]).filterMap (Sx.cQ β row)
  rcases XA.1 hk with rfl|hk
  ·refine XE.2 ⟨i,by simp,?_⟩
   unfold Sx.cQ;rw[h.b];exact pZ
  ·refine XE.2 ⟨j,by simp,?_⟩
   unfold Sx.cQ;rw[h.o];show(β.a j).map (·.block)=some k;simpa using hk
theorem O7{w:World}{g:Nat}{p:Bool}{A:Option Go.Addr}{c:Nat}{tx:Bs}{e:Int}(is:Bool)(code:Int)(h:Tx w g p A c tx e) :
  Calls prog 69 #[.pointer (some ⟨g,0,none⟩),.bool is,.int .i64 code] w fun e' w'=>e'=.returned (.tuple #[])∧Tx w' g p A c tx (bj is code e)∧ai [g] w w':=by
 have d1:w.cell? ⟨g,2,none⟩=some (.int .i64 e):=h.cw.cell_of rfl;have f1:w.frozen? ⟨g,2,none⟩=false:=h.cw.frozen 2;have hb2:=h.cw.sh 2 (.int .i64 code);have ho2:=h.own.OU (p:=⟨g,2,none⟩) h.ne (.int .i64 code);have HH:=hid h;clear h;cases is with
 |true=>
  go_enter func69,ntmps69
  go_wp2
  go_end0
  exact⟨rfl,HH.out,ai.refl _ _⟩
 |false=>
  by_cases he:e=0
  ·have hw:bj false code e=code:=by unfold bj;rw[decide_eq_true he]
   have hb:(e==0)=true:=by rw[he];rfl
   rw[hw];go_enter func69,ntmps69
   go_wp2
   go_end0
   exact⟨rfl,⟨by simpa[UD]using hb2,ho2⟩,(ai.refl _ w).setCell (.inl (by simp)) _⟩
  ·have hw:bj false code e=e:=by unfold bj;rw[decide_eq_false he]
   have hb:(e==0)=false:=beq_eq_false_iff_ne.2 he;rw[hw];go_enter func69,ntmps69
   go_wp2
   go_end0
   exact⟨rfl,HH.out,ai.refl _ _⟩
def mw(X:List Nat)(i j:Nat)(og:Option Nat)(p:Bool)(e:Int):Sx.cS:=⟨i::j::X,[(i,j0 og [.eU p i 0,.own j,.val (.int .i64 e)])],[],[],.val (.tuple #[]),none⟩
theorem tj{b:Sx.bu}{row:Nat→Option Sx.Row}{i j m:Nat}{og:Option Nat}{p:Bool}{tx:Bs}{e:Int}(is:Bool)(code:Int)(h:pT row i j og p tx e)(W:World)(β:Sx.Env)(hS:Sx.fD b β W row [i,j]) :
  Calls prog 69 (([.ptr i 0,.val (.bool is),.val (.int .i64 code)]:List Sx.SV).map (Sx.SV.den β)).toArray W (Sx.bK b β W row m (mw [] i j og p (bj is code e))):=by
 obtain⟨ht,hg⟩:=qY hS h (by simp) (by simp);show Calls prog 69 #[.pointer (some ⟨β i,0,none⟩),.bool is,.int .i64 code] W _;refine(O7 is code ht).mono fun en w' ⟨he,ht',hc⟩=>.inl ⟨fun p hp=>(by cases hp),β,Sx.ep (v:=.tuple #[]) rfl rfl he (fun q hq=>?_) ?_⟩
 ·have hq:q=(i,j0 og [.eU p i 0,.own j,.val (.int .i64 (bj is code e))]):=XC.1 hq
  subst hq;refine ny.2 ⟨hg,?_⟩;have h2:β.n j=tx.length:=(hS.held j (by simp) _ h.o).1;show aw w' (β i) 132 [pV p (β i),.slice (β.a j) (β.n j) (β.c j),.int .i64 (bj is code e)];rw[h2];exact ht'.cw
 ·refine hc.mono fun k hk=>.inl ?_
  show k∈([i]++[]).filterMap (Sx.cQ β row);refine XE.2 ⟨i,by simp,?_⟩;unfold Sx.cQ;rw[h.b,XC.1 hk];exact pZ
theorem Vs{w:World}{g:Nat}{p:Bool}{A:Option Go.Addr}{c:Nat}{tx:Bs}{e:Int}(h:Tx w g p A c tx e):Calls prog 76 #[.pointer (some ⟨g,0,none⟩)] w fun e' w'=>e'=.returned (.int .i64 (tx.length:Int))∧w'=w:=by
 have d1:w.cell? ⟨g,1,none⟩=some (.slice A tx.length c):=h.cw.cell_of rfl;clear h;go_enter func76,ntmps76
 go_wp2
 go_ret
 exact⟨rfl,rfl⟩
theorem QC{P:Program}{e:TypeId}(hc:P.cellsOf e=1)(count o n:Nat)(hn:o+n≤count):liesAt P P.depth e count o e n=true:=by have hd:P.depth=(2*(P.types.size+Made.depth)+1)+1:=rfl;rw[hd];simp only[liesAt,Bool.or_eq_true];left;rw[hd];simp[rowAt,hc,sameLayout,Nat.mod_one];omega
theorem qD{P:Program}(w:World)(pt it ty e:TypeId)(hp:P.underlying pt=some (.pointer e))(hc:P.cellsOf e=1)(g o cells:Nat)(hsh:w.shape? g=some (e,cells))(l:List UInt8)(h0:l≠[])(hn:o+l.length≤cells)(h63:l.length≤9223372036854775807)
  (hcell:∀j x,l[j]?=some x→w.cell? ((⟨g,o,none⟩:Addr).add j)=some (.int .u8 x.toNat)) :
  (Builtin.unsafeString_ #[pt,it] ty #[.pointer (some ⟨g,o,none⟩),.int .i64 l.length]).run P w=.ok (.string ⟨l.toArray⟩) (w.freeze ⟨g,o,none⟩ l.length):=by
 have hl:l.length≠0:=by simpa using h0
 have hlb:=run_loadBytes (P:=P) w l ⟨g,o,none⟩ .empty hcell;have hlies:=QC (P:=P) hc (cells / P.cellsOf e) o l.length (by rw[hc]; simpa using hn);have h63':¬(9223372036854775807:Int) < (l.length:Int):=by omega
 have hdef:Builtin.unsafeString_ #[pt,it] ty #[.pointer (some ⟨g,o,none⟩),.int .i64 l.length]=
   (do
    let n ←asInt (.int .i64 l.length)
    if n < 0 then runtimePanic (.error "unsafe.String: len out of range")
    if n > XL.max then unsupported (.unsafePointer "String: a length above the largest int")
    if n=0 then pure (.string .empty)
    else if ←variablesAt ⟨g,o,none⟩ (←elemOf pt) n.toNat then do
     let s ←loadBytes ⟨g,o,none⟩ .empty n.toNat
     freeze ⟨g,o,none⟩ n.toNat
     pure (.string s)
    else unsupported (.unsafePointer "String: not so many bytes at ptr")):=rfl
 rw[hdef];have hmax:XL.max=9223372036854775807:=rfl;have hneg:¬(l.length:Int) < 0:=by omega
 simp[asInt,asIntOf,hmax,h63',hneg,hl,variablesAt,hsh,elemOf,run_underlying hp,hlies,hlb]
set_option maxHeartbeats 1100000 in
theorem La{w:World}{g:Nat}{p:Bool}{A:Option Go.Addr}{c:Nat}{tx:Bs}{e:Int}(h:Tx w g p A c tx e)(h0:tx≠[]):Calls prog 77 #[.pointer (some ⟨g,0,none⟩)] w fun e' w'=>e'=.returned (ae tx)∧ai (r9 g A) w w':=by
 have hl0:tx.length≠0:=by simpa using h0
 obtain⟨b,o,cap,L,hv,hb,hnc,hcm,hcl,htake⟩:∃b o cap L,XJ A tx.length c=.slice (some ⟨b,o,none⟩) tx.length cap∧aw w b 5 L∧tx.length≤cap∧cap≤maxLen∧o+cap*1≤L.length∧(L.drop o).take (tx.length*1)=tf tx:=by
  rcases h.own.2 with⟨_,hz⟩ | ⟨b,o,cap,L,hv,r⟩
  ·exact absurd hz hl0
  ·exact⟨b,o,cap,L,hv,r⟩
 injection hv with hA _ hc;subst hA hc;have c1:w.drew.cell? ⟨g,1,none⟩=some (.slice (some ⟨b,o,none⟩) tx.length c):=h.cw.cell_of rfl;have hSD:(Builtin.unsafeSliceData_ #[82] 210 #[.slice (some ⟨b,o,none⟩) tx.length c]).run prog w.drew=.ok (.pointer (some ⟨b,o,none⟩)) w.drew:=run_unsafeSliceData_row _ _ _ _ _ _ (by omega);have hsh:w.drew.shape? b=some (5,L.length):=hb.shape;have hUS:(Builtin.unsafeString_ #[210,3] 9 #[.pointer (some ⟨b,o,none⟩),.int .i64 tx.length]).run prog w.drew=.ok (.string ⟨tx.toArray⟩) (w.drew.freeze ⟨b,o,none⟩ tx.length):=
  qD w.drew 210 3 9 5 underlying210 (by kernel_rfl) b o L.length hsh tx h0 (by omega) (by unfold maxLen at hcm;omega) fun j x hx=>by have:=h.own.lj j (.int .u8 x.toNat) (by simp[tf,hx]);exact this
 have hgb:ai (r9 g (some ⟨b,o,none⟩)) w (w.drew.freeze ⟨b,o,none⟩ tx.length):=by have hf:=below_freeze (B:=0) (Below.drew (Below.refl 0 w)) (p:=⟨b,o,none⟩) (XS _) tx.length;refine⟨hf.os,hf.tape,hf.output,hf.size,fun k hk hS=>?_⟩;have hne:k≠b:=fun hh=>hS (by simp[r9,hh]);unfold World.freeze;rw[if_neg hl0];show(w.heap.modify b _)[k]?=_;rw[Array.getElem?_modify,if_neg (fun hh=>hne hh.symm)]
 have mixed:prog.follows .mixedOrders=true:=by kernel_rfl
 clear h hb;go_enter func77,ntmps77
 go_wp2
 go_region_o
 all_goals (go_wp2;go_ret;exact⟨rfl,hgb⟩)
set_option maxRecDepth 100000
open Go Go.RowKit Go.Lib Go.Sort _root_.Go.Proofs.Tryz
theorem Dr{w:World}{A:Option Go.Addr}{n c:Nat}{xs:List (List UInt8)}(h:Own w 9 1 (.slice A n c) n (strs xs))(sep:UInt8)(hN:n≤140737488355328)(hlen:(ay sep xs).length≤140737488355328) :
  Calls prog 87 #[.slice A n c,.string ⟨#[sep]⟩] w (Rn w (ae (ay sep xs))):=by
 have hl:xs.length=n:=by have:=h.len;simpa[strs]using this
 by_cases h0:n=0
 ·subst h0
  have:xs=[]:=XP hl;subst this;exact(Tryz.strings_Join_none A c ⟨#[sep]⟩ w).mono fun e w' ⟨h1,h2⟩=>⟨h1,by rw[h2];exact ai.refl _ _⟩
 ·obtain⟨g,o,c',hv,hnc,_,hg⟩:=h.some_ (by omega)
  injection hv with hA _ hc;subst hA hc;have hj:=Tryz.strings_Join g o c (xs.map fun l=>(⟨l.toArray⟩:ByteArray)) ⟨#[sep]⟩ w (fun j x hx=>by have:=h.lj j _ (GD hx);rwa [Lib.add_plain]at this) hg (by simpa[hl]using hN) (by simpa[hl]using hnc) (by rw[sW,show(⟨#[sep]⟩:ByteArray).data.toList=[sep]from rfl,pw];exact hlen);rw[sW,show(⟨#[sep]⟩:ByteArray).data.toList=[sep]from rfl,pw,List.length_map,hl]at hj;exact hj.mono fun e w' ⟨h1,h2⟩=>⟨h1,ai.dZ h2⟩
def GC(g:Nat)(p:Bool)(tx:Bs)(e:Int):List Sx.Row:=[j0 (some g) [.eU p 0 0,.own 1,.val (.int .i64 e)],⟨5,.own 1 tx.length (tf tx)⟩]
def RI(g:Nat)(tx:Bs)(e:Int)(l:List Sx.SV)(mem:List Sx.Row):Prop:=
 ∃k,l=[]∧mem[0]?=some (j0 (some g) [.eU true 0 0,.own k,.val (.int .i64 e)])∧mem[k]?=some ⟨5,.own 1 tx.length (tf tx)⟩
theorem n6.iL{g:Nat}{A:Option Go.Addr}{tx:Bs}{e:Int}{w:World}{en:Ending}{w':World}(h:Sx.cN ⟨w,r9 g A,fun _ _=>False⟩ (RI g tx e) en w'):n6 g A (.tuple #[]) tx e w en w':=by
 rcases h with⟨β,l,mem,⟨k,rfl,h0,hk⟩,he,hR⟩ | ⟨_,_,hf,_⟩
 ·have r0:=ny.1 (hR.held 0 _ h0)
  have rk:β.n k=tx.length∧Own w' 5 1 (.slice (β.a k) tx.length (β.c k)) tx.length (tf tx):=hR.held k _ hk;have hg:β 0=g:=r0.1 g rfl;have hb:=r0.2;have e1:([Sx.SV.eU true 0 0,.own k,.val (.int .i64 e)].map (Sx.SV.den β))=[pV true (β 0),β.sl k,.int .i64 e]:=rfl;rw[e1,hg]at hb;unfold Sx.Env.sl at hb;rw[rk.1]at hb;refine⟨β.a k,β.c k,he,⟨hb,rk.2⟩,hR.aJ,fun x hx=>?_⟩;rcases hR.new k _ x hk hx with h1|h1
  ·rcases XA.1 h1 with rfl|h1
   ·exact absurd (by rw[IG];exact hx) (rk.2.Hm hb (show(5:Nat)≠132 by decide))
   ·exact .inl (by simpa using h1)
  ·exact .inr h1
 ·exact hf.elim
theorem GB{w:World}{f:FuncId}{fn:Func}{co:Code}{g:Nat}{p:Bool}{A:Option Go.Addr}{c:Nat}{tx tx':Bs}{e e':Int}(rest:List Value)(h:Tx w g p A c tx e)(H:List (Nat×Sx.Hint))(L:List Sx.Loop)
  (hm:prog.follows .mixedOrders=true) (hf:prog.funcs[f]?=some fn) (hb:fn.body=some co) (hn:(rest.length+1)≤fn.ntmps)
  (hx:Sx.lN prog fn.ntmps ⟨w,r9 g A,fun _ _=>False⟩ co H L ⟨Sx.lR 0 (.ptr 0 0::rest.map .val),GC g p tx e⟩ (Sx.fm prog fn (RI g tx' e'))) :
  Calls prog f (.pointer (some ⟨g,0,none⟩)::rest).toArray w (n6 g A (.tuple #[]) tx' e' w):=by
 have hrows:Sx.Rows ⟨w,r9 g A,fun _ _=>False⟩ (Sx.di [.oy g 132 [.eU p 0 0,.own 1,.val (.int .i64 e)],.own 5 1 A tx.length c (tf tx)]) w (GC g p tx e):=by
  refine Sx.gI (w:=w) (S:=r9 g A) (PP:=fun _ _=>False) (G:=[.oy g 132 [.eU p 0 0,.own 1,.val (.int .i64 e)],.own 5 1 A tx.length c (tf tx)]) (fun q hq=>?_) (fun q hq k hk=>?_) ?_
  ·rcases XA.1 hq with rfl|hq
   ·exact h.cw
   ·rw[XC.1 hq];exact h.own
  ·rcases XA.1 hq with rfl|hq
   ·cases hk;simp[r9]
   ·rw[XC.1 hq]at hk
    have hk:A.map (·.block)=some k:=hk;unfold r9;rw[hk];simp
  ·have:([Sx.lu.oy g 132 [.eU p 0 0,.own 1,.val (.int .i64 e)],.own 5 1 A tx.length c (tf tx)].filterMap Sx.lu.block)=[g]++(A.map (·.block)).toList:=by
    cases A<;>rfl
   rw[this,List.singleton_append,X0];refine⟨fun hm=>h.ne ?_,?_⟩
   ·rw[IG];simpa using hm
   ·cases A<;>simp
 have:=Sx.bO (args:=.ptr 0 0::rest.map .val) hrows H L hm hf hb (by simpa using hn) (by
  have:∀l:List Value,Sx.fM (Sx.Cd 2) (l.map .val)=true:=fun l=>by
   induction l with
   |nil=>rfl
   |cons x l ih=>exact ih
  exact this rest) hx
 have ea:((.ptr 0 0::rest.map .val:List Sx.SV).map (Sx.SV.den (Sx.di [.oy g 132 [.eU p 0 0,.own 1,.val (.int .i64 e)],.own 5 1 A tx.length c (tf tx)])))=.pointer (some ⟨g,0,none⟩)::rest:=by rw[Yb,Yo];have:(Sx.SV.den (Sx.di [.oy g 132 [.eU p 0 0,.own 1,.val (.int .i64 e)],.own 5 1 A tx.length c (tf tx)]) ∘ Sx.SV.val)=id:=rfl;rw[this,Yq];rfl
 rw[ea]at this;exact this.mono fun en w' hp=>n6.iL hp
theorem Ht{w:World}{g:Nat}{p:Bool}{A B:Option Go.Addr}{c m cc:Nat}{tx:Bs}{e:Int}(ws:List Bs)(h:Tx w g p A c tx e)(hw:Own w 9 1 (.slice B m cc) m (strs ws))(hm:m≤1000000000)(hl:tx.length+(ir ws).length≤140737488355328) :
  Calls prog 70 #[.pointer (some ⟨g,0,none⟩),.slice B m cc] w (n6 g A (.tuple #[]) (tx++ir ws) e w):=by
 have hS:∀k,(XJ B m cc).ownBlock=some k→k∉r9 g A:=fun k hk hm=>by
  rcases XA.1 hm with rfl|hm
  ·exact hw.Hm h.cw (by decide) hk
  ·exact hw.MC h.own (by decide) k hk (by rw[IG];simpa using hm)
 have hll:(ir ws).length=(ay 32 ws).length+1:=by simp[ir]
 have c8:=fun W (hW:ai (r9 g A) w W)=>Dr (hw.aJ hW hS) 32 (by omega) (by omega);have c9:=fun W=>db (.tmp 8) (.const (.string ⟨#[10]⟩)) (ay 32 ws) [10] (by show(ay 32 ws).length+1≤_;omega) W;have c10:=fun W (β:Sx.Env) (hs:Sx.fD ⟨w,r9 g A,fun _ _=>False⟩ β W (Sx.rowAt (GC g p tx e)) [0,1])=>(show Calls prog 141 (([.ptr 0 0,.val (ae (ir ws))]:List Sx.SV).map (Sx.SV.den β)).toArray W (Sx.bK ⟨w,r9 g A,fun _ _=>False⟩ β W (Sx.rowAt (GC g p tx e)) 2 (B6 [] 0 1 2 (some g) (tx++ir ws) e (.tuple #[.int .i64 ((ir ws).length:Int),.nilIface])))from by obtain⟨ht,hg⟩:=qY (i:=0) (j:=1) (og:=some g) (p:=p) (tx:=tx) (e:=e) hs ⟨rfl,rfl⟩ (by simp) (by simp);show Calls prog 141 #[.pointer (some ⟨β 0,0,none⟩),ae (ir ws)] W _;exact(O1 (ir ws) ht hl).mono fun en w' hp=>vh (i:=0) (j:=1) (m:=2) (p:=p) (tx:=tx) (e:=e) ⟨rfl,rfl⟩ (by omega) (by omega) hg hp);have z0:RI g (tx++ir ws) e [] [j0 (some g) [.eU true 0 0,.own 2,.val (.int .i64 e)],Sx.au,⟨5,.own 1 (tx++ir ws).length (tf (tx++ir ws))⟩]:=⟨2,rfl,rfl,rfl⟩;refine GB [.slice B m cc] h [(8,.call (ae (ay 32 ws))),(9,.bin (ae (ir ws))),(10,.aB (B6 [] 0 1 2 (some g) (tx++ir ws) e (.tuple #[.int .i64 ((ir ws).length:Int),.nilIface])))] [] (by kernel_rfl) func70 rfl (bN rfl) ?_;exact XI (by kernel_rfl) (Sx.t2 c8 c9 (XD c10 z0))
set_option maxRecDepth 100000
open Go Go.RowKit Go.Lib Go.Sort _root_.Go.Proofs.Tryz
set_option maxRecDepth 100000
theorem M7(n:Int):Lib.itoa n=cW n:=by unfold Lib.itoa cW;rw[pG,pG]
theorem py(n:Int)(h0 : -9223372036854775808≤n)(h1:n≤9223372036854775807)(w:World)(hl:eF w):Calls prog 71 #[.int .i64 n] w (Rn w (ae (cW n))):=by refine(Tryz.strconv_Itoa n h0 h1 w hl.V3).mono ?_;rintro e w' ⟨rfl,k,os,rfl⟩;exact⟨by rw[M7];rfl,((ai.refl [] w).drewN k).trans (fV ⟨⟨(w.drewN k).drawn,os⟩,rfl⟩)⟩
theorem mY(n:Nat):cW (n:Int)=aq 10 n:=by unfold cW;rw[if_neg (by omega)];rfl
theorem jL(u:Nat)(h:u < 100000):(aq 10 u).length≤5:=by
 have step:∀u:Nat,¬u < 10→(aq 10 u).length=(aq 10 (u / 10)).length+1:=fun u h=>by rw[dQ (by omega) h]; simp
 have one:∀u:Nat,u < 10→(aq 10 u).length=1:=fun u h=>by rw[bh h];rfl
 by_cases a:u < 10
 ·rw[one u a];omega
 rw[step u a];by_cases b:u / 10 < 10
 ·rw[one _ b];omega
 rw[step _ b];by_cases c:u / 10 / 10 < 10
 ·rw[one _ c];omega
 rw[step _ c];by_cases d:u / 10 / 10 / 10 < 10
 ·rw[one _ d];omega
 rw[step _ d,one _ (by omega)];omega
theorem ET(s:Nat×Nat)(h1:s.1≤65535)(h2:s.2≤65535)(w:World)(hl:eF w):Calls prog 85 #[iA s] w (Rn w (ae (ft s))):=by
 obtain⟨a,b⟩:=s;have h1:a≤65535:=h1;have h2:b≤65535:=h2;have c6:XG .i64 (XL.wrap (a:Int))=.int .i64 (a:Int):=iw (kC (by omega) (by omega));have c7:=fun W (hW:ai [] w W)=>(show Calls prog 71 #[.int .i64 (a:Int)] W (Rn W (ae (aq 10 a)))from by rw[←mY];exact py (a:Int) (by omega) (by omega) W (hl.dO hW));have la:=jL a (by omega);have lb:=jL b (by omega);by_cases he:a=b
 ·have c12:Xy ((a:Int) !=(b:Int))=.bool false:=qQ (by rw[he];simp)
  have hr:ft (a,b)=aq 10 a:=by unfold ft;rw[if_pos he]
  rw[hr];have z0:XW ⟨(aq 10 a).toArray⟩=ae (aq 10 a):=rfl;refine Sx.av (args:=[iA (a,b)]) [(6,.is (.int .i64 (a:Int))),(7,.call (ae (aq 10 a))),ao 12 false] [] (by kernel_rfl) func85 rfl (bN rfl) ?_;exact XI (by kernel_rfl) (Sx.t2 c6 c7 (XD c12 z0))
 ·have c12:Xy ((a:Int) !=(b:Int))=.bool true:=rY (by rw[bne_iff_ne];omega)
  have hr:ft (a,b)=aq 10 a++([45]++aq 10 b):=by unfold ft;rw[if_neg he];rfl
  rw[hr];have kq:XG .i64 (XL.wrap (b:Int))=.int .i64 (b:Int):=iw (kC (by omega) (by omega));have c17:=fun W (hW:ai [] w W)=>(show Calls prog 71 #[.int .i64 (b:Int)] W (Rn W (ae (aq 10 b)))from by rw[←mY];exact py (b:Int) (by omega) (by omega) W (hl.dO hW));have c18:=fun W=>db (.const (.string ⟨#[45]⟩)) (.tmp 17) [45] (aq 10 b) (by show 1+(aq 10 b).length≤_;omega) W;have c19:=fun W=>db (.tmp 13) (.tmp 18) (aq 10 a) ([45]++aq 10 b) (by simp only[XF,XO,Yj];omega) W;have z0:XW ⟨(aq 10 a++([45]++aq 10 b)).toArray⟩=ae (aq 10 a++([45]++aq 10 b)):=rfl;refine Sx.av (args:=[iA (a,b)]) [(6,.is (.int .i64 (a:Int))),(7,.call (ae (aq 10 a))),ao 12 true,(16,.is (.int .i64 (b:Int))),(17,.call (ae (aq 10 b))),(18,.bin (ae ([45]++aq 10 b))),(19,.bin (ae (aq 10 a++([45]++aq 10 b))))] [] (by kernel_rfl) func85 rfl (bN rfl) ?_;exact XI (by kernel_rfl) (Sx.t4 c6 c7 c12 kq (Sx.t2 c17 c18 (XD c19 z0)))
theorem P9(n:Nat)(h:n≤255)(w:World)(hl:eF w):Calls prog 86 #[.int .u8 (n:Int)] w (Rn w (ae (eo n))):=by
 by_cases h6:n=6
 ·have hr:eo n=kj:=by unfold eo;rw[if_pos h6]
  rw[hr];have c5:Xy ((n:Int)==6)=.bool true:=rY (by rw[h6];rfl);have z0:XW ⟨#[116,99,112]⟩=ae kj:=rfl;refine Sx.av (args:=[.int .u8 (n:Int)]) [ao 5 true] [] (by kernel_rfl) func86 rfl (bN rfl) ?_;exact XI (by kernel_rfl) (XD c5 z0)
 ·have c5:Xy ((n:Int)==6)=.bool false:=qQ (by rw[beq_eq_false_iff_ne];omega)
  by_cases h17:n=17
  ·have hr:eo n=kY:=by unfold eo;rw[if_neg h6,if_pos h17]
   rw[hr];have c7:Xy ((n:Int)==17)=.bool true:=rY (by rw[h17];rfl);have z0:XW ⟨#[117,100,112]⟩=ae kY:=rfl;refine Sx.av (args:=[.int .u8 (n:Int)]) [ao 5 false,ao 7 true] [] (by kernel_rfl) func86 rfl (bN rfl) ?_;exact XI (by kernel_rfl) (Sx.t2 c5 c7 z0)
  ·have hr:eo n=aq 10 n:=by unfold eo;rw[if_neg h6,if_neg h17]
   rw[hr];have c7:Xy ((n:Int)==17)=.bool false:=qQ (by rw[beq_eq_false_iff_ne];omega);have c9:XG .i64 (XL.wrap (n:Int))=.int .i64 (n:Int):=iw (kC (by omega) (by omega));have c10:=fun W (hW:ai [] w W)=>(show Calls prog 71 #[.int .i64 (n:Int)] W (Rn W (ae (aq 10 n)))from by rw[←mY];exact py (n:Int) (by omega) (by omega) W (hl.dO hW));have z0:ae (aq 10 n)=ae (aq 10 n):=rfl;refine Sx.av (args:=[.int .u8 (n:Int)]) [ao 5 false,ao 7 false,(9,.is (.int .i64 (n:Int))),(10,.call (ae (aq 10 n)))] [] (by kernel_rfl) func86 rfl (bN rfl) ?_;exact XI (by kernel_rfl) (Sx.t4 c5 c7 c9 c10 z0)
open Go Go.RowKit Go.Lib Go.Sort
def qH(w:World)(S:List Nat)(size:Nat)(s:Value)(n:Nat)(xs:List Value):Prop:=
 xs.length=n*size∧∃A c,s=.slice A n c∧(0 < n→∃g o,A=some ⟨g,o,none⟩∧g∉S∧g < w.heap.size∧∀(j:Nat) (u:Value),xs[j]?=some u→w.cell? ⟨g,o+j,none⟩=some u)
theorem qH.o8{w:World}{S:List Nat}{T size n:Nat}{s:Value}{xs:List Value}(h:Own w T size s n xs)(hS:∀k,s.ownBlock=some k→k∉S):qH w S size s n xs:=by refine⟨h.len,?_⟩;obtain⟨A,c,rfl,_,_⟩:=h.form;refine⟨A,c,rfl,fun h0=>?_⟩;obtain⟨g,o,c',hv,_,_,hg⟩:=h.some_ h0;injection hv with h1 _ _;subst h1;exact⟨g,o,rfl,hS g rfl,hg,fun j u hu=>(Own.cell h hu).1⟩
theorem qH.aJ{w w':World}{S:List Nat}{size n:Nat}{s:Value}{xs:List Value}(h:qH w S size s n xs)(hc:ai S w w'):qH w' S size s n xs:=by obtain⟨h1,A,c,h2,h3⟩:=h;refine⟨h1,A,c,h2,fun h0=>?_⟩;obtain⟨g,o,ha,hg,hl,hr⟩:=h3 h0;exact⟨g,o,ha,hg,Nat.lt_of_lt_of_le hl hc.size,fun j u hu=>(hc.cell (p:=⟨g,o+j,none⟩) hl hg).trans (hr j u hu)⟩
theorem qH.sub{w:World}{S S':List Nat}{size n:Nat}{s:Value}{xs:List Value}(h:qH w S size s n xs)(hs:∀k∈S',k∈S∨w.heap.size≤k):qH w S' size s n xs:=by
 obtain⟨h1,A,c,h2,h3⟩:=h;refine⟨h1,A,c,h2,fun h0=>?_⟩;obtain⟨g,o,ha,hg,hl,hr⟩:=h3 h0;exact⟨g,o,ha,fun hm=>by
  rcases hs g hm with h|h
  ·exact hg h
  ·omega,hl,hr⟩
theorem qH.form{w:World}{S:List Nat}{size n:Nat}{s:Value}{xs:List Value}(h:qH w S size s n xs):∃A c,s=.slice A n c:=let ⟨_,A,c,h,_⟩:=h;⟨A,c,h⟩
section
variable{P:Program}{w:World}{S:List Nat}{size n:Nat}{s:Value}
theorem sj{t e:TypeId}{inf:TypeInfo}(hu:P.underlying t=some (.slice e))(hi:P.info? e=some inf)(g o n c i:Nat)(h:i < n)(W:World) :
  (XV t (.slice (some ⟨g,o,none⟩) n c) (.int .i64 (i:Int))).run P W=.ok (.pointer (some ⟨g,o+i*inf.size,none⟩)) W:=by
 have hb:(0:Int)≤(i:Int)∧(i:Int) < (n:Int):=by omega
 simp[XV,run_underlying hu,asIntOf,h,sizeOf,typeInfo,hi,Addr.add_lit]
theorem qH.KI{t e:TypeId}{inf:TypeInfo}{d:TypeDesc}{α:Type}{f:α→List Value}(hf:∀x,(f x).length=size){L:List α}(h:qH w S size s n (L.flatMap f))(hu:P.underlying t=some (.slice e))(hi:P.info? e=some inf)(hs:inf.size=size)(hd:P.underlying e=some d)(hr:d.isRow=true)(h0:0 < size){i:Nat}{x:α}(hx:L[i]?=some x) :
  ∃p,(∀W,ai S w W→(XV t s (.int .i64 (i:Int))).run P W=.ok p W)∧∀W,ai S w W→(Yn e p).run P W=.ok (.agg (f x).toArray) W:=by
 obtain⟨hl,A,c,rfl,h3⟩:=h;have hfl:∀l:List α,(l.flatMap f).length=l.length*size:=fun l=>by
  induction l with
  |nil=>simp
  |cons y r ih=>rw[XX,XF,hf,ih,XO,X5];omega
 have hn:L.length=n:=by rw[hfl]at hl;exact Nat.eq_of_mul_eq_mul_right h0 hl
 have hin:i < n:=by rw[←hn];exact(Xz.1 hx).1
 obtain⟨g,o,rfl,hg,hlt,hr2⟩:=h3 (by omega);refine⟨.pointer (some ⟨g,o+i*inf.size,none⟩),fun W _=>sj hu hi g o n c i hin W,fun W hW=>?_⟩;have flat:∀{l:List α} {i c:Nat} {x:α},l[i]?=some x→c < size→(l.flatMap f)[i*size+c]?=(f x)[c]?:=by
  intro l;induction l with
  |nil=>intro i c x h _;simp at h
  |cons y r ih=>
   intro i c x h hc;cases i with
   |zero=>
    have h:y=x:=by simpa using h
    subst h;rw[XX,List.getElem?_append_left (by rw[hf];omega)];simp
   |succ i=>
    have e:(i+1)*size+c - size=i*size+c:=by rw[X5]; omega
    rw[XX,List.getElem?_append_right (by rw[hf,X5];omega),hf,e];exact ih (by simpa using h) hc
 refine run_loadAt_mid (P:=P) W g (o+i*inf.size) e (f x) d (fun j u hu=>?_) hd hr (by rw[hi];simp[hs,hf]);have hj:j < size:=by rw[←hf x];exact(Xz.1 hu).1
 have:=hr2 (i*size+j) u (by rw[flat hx hj];exact hu);rw[hs,Nat.add_assoc];exact(hW.cell (p:=⟨g,o+(i*size+j),none⟩) hlt hg).trans this
theorem qH.Uq{t e:TypeId}{inf:TypeInfo}{d:TypeDesc}{α:Type}{f:α→Value}{L:List α}(h:qH w S 1 s n (L.map f))(hu:P.underlying t=some (.slice e))(hi:P.info? e=some inf)(hs:inf.size=1)(hd:P.underlying e=some d)(hr:d.isRow=false){i:Nat}{x:α}(hx:L[i]?=some x) :
  ∃p,(∀W,ai S w W→(XV t s (.int .i64 (i:Int))).run P W=.ok p W)∧∀W,ai S w W→(Yn e p).run P W=.ok (f x) W:=by
 obtain⟨hl,A,c,rfl,h3⟩:=h;have hn:L.length=n:=by simpa using hl
 have hin:i < n:=by rw[←hn];exact(Xz.1 hx).1
 obtain⟨g,o,rfl,hg,hlt,hr2⟩:=h3 (by omega);refine⟨.pointer (some ⟨g,o+i*inf.size,none⟩),fun W _=>sj hu hi g o n c i hin W,fun W hW=>?_⟩;have:=hr2 i (f x) (by rw[Ye,hx];rfl);have hc:=(hW.cell (p:=⟨g,o+i,none⟩) hlt hg).trans this;rw[hs,X4];have hagg:(isAgg e).run P W=.ok false W:=by unfold isAgg;rw[Sem.run_bind,run_underlying hd W];cases d<;>simp_all
 rw[Sx.si];simp[loadVar,Sem.run_bind,hagg,load,Sem.run,hc]
end
set_option maxRecDepth 100000
open Go Go.RowKit Go.Lib Go.Sort _root_.Go.Proofs.Tryz
def wK(bt:Bool)(ws:List Bs):List Bs:=match bt with
 |true=>ws
 |false=>[]
theorem sb(xs:List Bs):(strs xs).length=xs.length:=by simp[strs]
def s8(gm gl:Nat)(A:Option Go.Addr)(mc:List Value)(ys:List Bs)(w:World)(e:Ending)(w':World):Prop:=
 ∃A' c',e=.returned (.tuple #[])∧aw w' gm 66 mc∧aw w' gl 70 [.slice A' ys.length c']∧Own w' 9 1 (.slice A' ys.length c') ys.length (strs ys)∧ai (gm::gl::(A.map (·.block)).toList) w w'∧∀k,A'.map (·.block)=some k→A.map (·.block)=some k∨w.heap.size≤k
structure Uf(w:World)(gm gl:Nat)(A:Option Go.Addr)(c:Nat)(m:Mt)(xs ws:List Bs)(v:Value):Prop where
 bm:aw w gm 66 m.cells
 bl:aw w gl 70 [.slice A xs.length c]
 own:Own w 9 1 (.slice A xs.length c) xs.length (strs xs)
 wd:qH w (gm::gl::(A.map (·.block)).toList) 1 v ws.length (strs ws)
def Ue(gm gl:Nat)(mc:List Value)(ys:List Bs)(l:List Sx.SV)(mem:List Sx.Row):Prop:=
 ∃k,l=[]∧mem[0]?=some ⟨66,.dG gm mc⟩∧mem[1]?=some ⟨70,.j5 gl [.own k]⟩∧mem[k]?=some ⟨9,.own 1 ys.length (strs ys)⟩
theorem s8.iL{gm gl:Nat}{A:Option Go.Addr}{mc:List Value}{ys:List Bs}{w:World}{en:Ending}{w':World}(h:Sx.cN ⟨w,gm::gl::(A.map (·.block)).toList,fun _ _=>False⟩ (Ue gm gl mc ys) en w'):s8 gm gl A mc ys w en w':=by
 rcases h with⟨β,l,mem,⟨k,rfl,h0,h1,hk⟩,he,hR⟩ | ⟨_,_,hf,_⟩
 ·have r0:=hR.held 0 _ h0
  have r1:=hR.held 1 _ h1;have rk:β.n k=ys.length∧Own w' 9 1 (.slice (β.a k) ys.length (β.c k)) ys.length (strs ys):=hR.held k _ hk;have e0:β 0=gm:=r0.1;have e1:β 1=gl:=r1.1;have hb:=r1.2;have e2:([Sx.SV.own k].map (Sx.SV.den β))=[β.sl k]:=rfl;rw[e1,e2]at hb;unfold Sx.Env.sl at hb;rw[rk.1]at hb;refine⟨β.a k,β.c k,he,e0 ▸ r0.2,hb,rk.2,hR.aJ,fun x hx=>?_⟩;rcases hR.new k _ x hk hx with h1|h1
  ·rcases XA.1 h1 with rfl|h1
   ·exact absurd (by rw[IG];exact hx) (rk.2.Hm (e0 ▸ r0.2) (show(9:Nat)≠66 by decide))
   ·rcases XA.1 h1 with rfl|h1
    ·exact absurd (by rw[IG];exact hx) (rk.2.Hm hb (show(9:Nat)≠70 by decide))
    ·exact .inl (by simpa using h1)
  ·exact .inr h1
 ·exact hf.elim
def Mf(gm gl:Nat)(mc:List Value)(xs:List Bs):List Sx.Row:=[⟨66,.dG gm mc⟩,⟨70,.j5 gl [.own 2]⟩,⟨9,.own 1 xs.length (strs xs)⟩]
theorem Md{w:World}{gm gl:Nat}{A:Option Go.Addr}{c:Nat}{m:Mt}{xs ws:List Bs}{v:Value}(h:Uf w gm gl A c m xs ws v):Sx.Rows ⟨w,gm::gl::(A.map (·.block)).toList,fun _ _=>False⟩ (Sx.di [.cw gm 66 m.cells,.oy gl 70 [.own 2],.own 9 1 A xs.length c (strs xs)]) w (Mf gm gl m.cells xs):=by
 refine Sx.gI (w:=w) (S:=gm::gl::(A.map (·.block)).toList) (PP:=fun _ _=>False) (G:=[.cw gm 66 m.cells,.oy gl 70 [.own 2],.own 9 1 A xs.length c (strs xs)]) (fun q hq=>?_) (fun q hq k hk=>?_) ?_
 ·simp only[XA,Yh,or_false]at hq
  rcases hq with rfl|rfl|rfl
  ·exact h.bm
  ·exact h.bl
  ·exact h.own
 ·simp only[XA,Yh,or_false]at hq
  rcases hq with rfl|rfl|rfl
  ·cases hk;simp
  ·cases hk;simp
  ·have hk:A.map (·.block)=some k:=hk
   rw[hk];simp
 ·have e:([Sx.lu.cw gm 66 m.cells,.oy gl 70 [.own 2],.own 9 1 A xs.length c (strs xs)].filterMap Sx.lu.block)=gm::gl::(A.map (·.block)).toList:=by cases A<;>rfl
  rw[e,X0,X0];have n1:gm∉(A.map (·.block)).toList:=fun hm=>h.own.Hm h.bm (by decide) (by rw[IG];simpa using hm);have n2:gl∉(A.map (·.block)).toList:=fun hm=>h.own.Hm h.bl (by decide) (by rw[IG];simpa using hm);refine⟨fun hm=>?_,n2,?_⟩
  ·rcases XA.1 hm with rfl|hm
   ·have:=h.bm.shape.symm.trans h.bl.shape
    simp at this
   ·exact n1 hm
  ·cases A<;>simp
theorem SX{w:World}{gm gl:Nat}{A:Option Go.Addr}{c:Nat}{m:Mt}{xs ws:List Bs}{v:Value}(ask:Nat)(bt:Bool)(h:Uf w gm gl A c m xs ws v)(hb:(bits .and .u8 (m.asks:Int) (ask:Int) !=0)=bt)(hl:xs.length+ws.length≤1000000000) :
  Calls prog 84 #[.int .u8 (ask:Int),v,.pointer (some ⟨gm,0,none⟩),.pointer (some ⟨gl,0,none⟩)] w (s8 gm gl A m.cells (xs++wK bt ws) w):=by
 have hR:=Md h;have c10:Xy (bits .and .u8 (m.asks:Int) (ask:Int) !=0)=.bool bt:=bz hb;cases bt with
 |false=>
  have z0:Ue gm gl m.cells (xs++[]) [] (Mf gm gl m.cells xs):=by rw[Yk];exact⟨2,rfl,rfl,rfl,rfl⟩
  refine(Sx.bO (args:=[.val (.int .u8 (ask:Int)),.val v,.ptr 0 0,.ptr 1 0]) hR [ao 10 false] [] (by kernel_rfl) func84 rfl (bN rfl) rfl ?_).mono fun en w' hp=>s8.iL hp;exact XI (by kernel_rfl) (XD c10 z0)
 |true=>
  obtain⟨A2,c2,hv⟩:=h.wd.form;have c13:(∀W,ai (gm::gl::(A.map (·.block)).toList) w W→∃B d,v=.slice B ws.length d∧(0 < (strs ws).length→∃ad,B=some ad∧∀(j:Nat) (u:Value),(strs ws)[j]?=some u→W.cell? (ad.add j)=some u))∧(strs ws).length=ws.length*1∧(∀u∈strs ws,u.oneCell'=true)∧xs.length+ws.length≤maxLen∧(xs.length+ws.length)*16≤140737488355328:=by
   refine⟨fun W hW=>?_,by rw[sb,X4],fun u hu=>?_,by unfold maxLen;omega,by omega⟩
   ·obtain⟨_,B,d,h2,h3⟩:=h.wd.aJ hW
    refine⟨B,d,h2,fun h0=>?_⟩;obtain⟨g,o,rfl,_,_,hr⟩:=h3 (by rw[sb]at h0;exact h0);exact⟨_,rfl,fun j u hu=>by rw[Addr.add_lit];exact hr j u hu⟩
   ·obtain⟨l,_,rfl⟩:=List.mem_map.1 hu
    rfl
  have z0:Ue gm gl m.cells (xs++ws) [] [⟨66,.dG gm m.cells⟩,⟨70,.j5 gl [.own 3]⟩,Sx.au,⟨9,.own 1 (xs.length+ws.length) (strs xs++strs ws)⟩]:=⟨3,rfl,rfl,rfl,by rw[XF,show strs (xs++ws)=strs xs++strs ws by simp[strs]];rfl⟩;refine(Sx.bO (args:=[.val (.int .u8 (ask:Int)),.val v,.ptr 0 0,.ptr 1 0]) hR [ao 10 true,(13,.app ws.length (strs ws))] [] (by kernel_rfl) func84 rfl (bN rfl) rfl ?_).mono fun en w' hp=>s8.iL hp;exact XI (by kernel_rfl) (Sx.t2 c10 c13 z0)
def sC(j k m:Nat)(mc:List Value)(ys:List Bs):Sx.cS:=⟨[0,1,j,k],[(0,⟨66,.an mc⟩),(1,⟨70,.dK [.own m]⟩)],[j],[⟨9,.own 1 ys.length (strs ys)⟩],.val (.tuple #[]),none⟩
theorem mM{b:Sx.bu}{row:Nat→Option Sx.Row}{j k mm:Nat}{m:Mt}{xs:List Bs}(x y:Bs)(ask:Nat)(bt:Bool)(r0:row 0=some ⟨66,.an m.cells⟩)(r1:row 1=some ⟨70,.dK [.own j]⟩)(rj:row j=some ⟨9,.own 1 xs.length (strs xs)⟩)(rk:row k=some ⟨9,.an [ae x,ae y]⟩)
  (hj:1 < j) (hk:j < k) (_hm:k < mm) (hb:(bits .and .u8 (m.asks:Int) (ask:Int) !=0)=bt) (hl:xs.length≤1000) (W:World) (β:Sx.Env) (hS:Sx.fD b β W row [0,1,j,k]) :
  Calls prog 84 (([.val (.int .u8 (ask:Int)),.oI k 0 2 2,.ptr 0 0,.ptr 1 0]:List Sx.SV).map (Sx.SV.den β)).toArray W (Sx.bK b β W row mm (sC j k mm m.cells (xs++wK bt [x,y]))):=by
 have h0:aw W (β 0) 66 m.cells:=hS.held 0 (by simp) _ r0;have h1:aw W (β 1) 70 [β.sl j]:=hS.held 1 (by simp) _ r1;have h2:β.n j=xs.length∧Own W 9 1 (.slice (β.a j) xs.length (β.c j)) xs.length (strs xs):=hS.held j (by simp) _ rj;have h3:aw W (β k) 9 [ae x,ae y]:=hS.held k (by simp) _ rk;have hb1:aw W (β 1) 70 [.slice (β.a j) xs.length (β.c j)]:=by unfold Sx.Env.sl at h1;rw[h2.1]at h1;exact h1
 have nk:β k∉β 0::β 1::((β.a j).map (·.block)).toList:=fun hh=>by
  rcases XA.1 hh with hh|hh
  ·have:=hS.inj k (by simp) 0 (by simp) _ _ (β k) rk r0 rfl (by show some (β 0)=_;rw[hh])
   omega
  rcases XA.1 hh with hh|hh
  ·have:=hS.inj k (by simp) 1 (by simp) _ _ (β k) rk r1 rfl (by show some (β 1)=_;rw[hh])
   omega
  ·have:=hS.inj k (by simp) j (by simp) _ _ (β k) rk rj rfl (by show(β.a j).map (·.block)=some (β k);simpa using hh)
   omega
 have hH:Uf W (β 0) (β 1) (β.a j) (β.c j) m xs [x,y] (.slice (some ⟨β k,0,none⟩) 2 2):=⟨h0,hb1,h2.2,⟨rfl,_,_,rfl,fun _=>⟨β k,0,rfl,nk,h3.lt,fun i u hu=>by have:=h3.cell_of (i:=i) (v:=u) hu;simpa using this⟩⟩⟩;show Calls prog 84 #[.int .u8 (ask:Int),.slice (some ⟨β k,0,none⟩) 2 2,.pointer (some ⟨β 0,0,none⟩),.pointer (some ⟨β 1,0,none⟩)] W _;refine(SX ask bt hH hb (by simp only[XO,Yj];omega)).mono fun en w' hp=>?_;generalize xs++wK bt [x,y]=ys at hp;obtain⟨A',c',he,b0,b1,ho,hc,hn⟩:=hp;refine .inl ⟨fun p hp=>(by cases hp),RR β mm A' ys.length c',fun i hi=>⟨rfl,?_,?_,?_⟩,he,fun q hq=>?_,fun i r hr=>?_,fun i r x hr hx=>?_,fun i i' r r' x hr hr' _ _=>?_,hc.mono fun i hi=>.inl ?_⟩
 ·show β.a i=if i=mm then A' else β.a i
  rw[if_neg (by omega)]
 ·show β.n i=if i=mm then ys.length else β.n i
  rw[if_neg (by omega)]
 ·show β.c i=if i=mm then c' else β.c i
  rw[if_neg (by omega)]
 ·have hq:q=(0,⟨66,.an m.cells⟩)∨q=(1,⟨70,.dK [.own mm]⟩):=by
   have:q∈[(0,(⟨66,.an m.cells⟩:Sx.Row)),(1,⟨70,.dK [.own mm]⟩)]:=hq;simpa using this
  rcases hq with rfl|rfl
  ·exact b0
  ·show aw w' (β 1) 70 [.slice (if mm=mm then A' else β.a mm) (if mm=mm then ys.length else β.n mm) (if mm=mm then c' else β.c mm)]
   rw[if_pos rfl,if_pos rfl,if_pos rfl];exact b1
 ·match i,hr with
  | 0,hr=>cases hr;show(if mm+0=mm then ys.length else β.n (mm+0))=ys.length∧Own w' 9 1 (.slice (if mm+0=mm then A' else β.a (mm+0)) ys.length (if mm+0=mm then c' else β.c (mm+0))) ys.length (strs ys);rw[XY,if_pos rfl,if_pos rfl,if_pos rfl];exact⟨rfl,ho⟩
 ·match i,hr with
  | 0,hr=>
   cases hr;have hx:(if mm+0=mm then A' else β.a (mm+0)).map (·.block)=some x:=hx;rw[XY,if_pos rfl]at hx;rcases hn x hx with h1|h1
   ·refine .inl (XE.2 ⟨j,by simp[sC],?_⟩)
    unfold Sx.cQ;rw[rj];exact h1
   ·exact .inr h1
 ·match i,i',hr,hr' with
  | 0,0,_,_=>rfl
 ·show i∈([0,1]++[j]).filterMap (Sx.cQ β row)
  rcases XA.1 hi with rfl|hi
  ·refine XE.2 ⟨0,by simp,?_⟩
   unfold Sx.cQ;rw[r0];rfl
  rcases XA.1 hi with rfl|hi
  ·refine XE.2 ⟨1,by simp,?_⟩
   unfold Sx.cQ;rw[r1];rfl
  ·refine XE.2 ⟨j,by simp,?_⟩
   unfold Sx.cQ;rw[rj];show(β.a j).map (·.block)=some i;simpa using hi
set_option maxRecDepth 100000
open Go Go.RowKit Go.Lib Go.Sort _root_.Go.Proofs.Tryz
def xO:List Bs:=[yK,nS,pv,gE,jh,jV]
theorem I5(w:World):Calls prog 151 #[] w (Sx.eh w (.sl 9 1 6 (strs xO))):=by have z0:Sx.gV.sl 9 1 6 (strs xO)=.sl 9 1 6 (strs xO):=rfl;refine Sx.ng (args:=[]) [(1,.jG 9 1)] [] (by kernel_rfl) func151 rfl (bN rfl) ?_;exact XI (by kernel_rfl) z0
set_option maxRecDepth 100000
open Go Go.RowKit Go.Lib Go.Sort _root_.Go.Proofs.Tryz
set_option maxRecDepth 100000
theorem Qc:∀(a:Fin 256) (k:Fin 6),(bits .and .u8 (a.val:Int) ((2^k.val:Nat):Int) !=0)=a.val.testBit k.val:=by decide+kernel
theorem zo(m:Mt)(hm:m.Wf)(k:Nat)(hk:k < 6):(bits .and .u8 (m.asks:Int) ((2^k:Nat):Int) !=0)=m.asks.testBit k:=Qc ⟨m.asks,hm.asks⟩ ⟨k,hk⟩
theorem mB(s:Nat×Nat)(h1:s.1≤65535)(h2:s.2≤65535):(ft s).length≤11:=by
 have la:=jL s.1 (by omega);have lb:=jL s.2 (by omega);unfold ft;split
 ·omega
 ·simp only[XF,XO];omega
theorem zh(n:Nat)(h:n≤255):(eo n).length≤5:=by
 have la:=jL n (by omega);unfold eo;split
 ·decide
 split
 ·decide
 ·omega
theorem vk(p:Px):(wJ p).length≤100000000:=by
 unfold wJ j8;split
 ·rename_i h
  exact IA (by unfold gy at h;simp only[Bool.and_eq_true,decide_eq_true_eq]at h;exact h.1.2)
 ·exact XS _
theorem rC(c:UInt8)(N:Nat):∀xs:List Bs,(∀x∈xs,x.length≤N)→(ay c xs).length≤xs.length*(N+1)
 | [],_=>XS _
 | [x],h=>by have:=h x (by simp);show x.length≤1*(N+1);omega
 |x::y::r,h=>by have:=h x (by simp);have ih:=rC c N (y::r) fun z hz=>h z (XQ _ hz);show(x++c::ay c (y::r)).length≤_;simp only[XF,XO,X5,Nat.one_mul]at ih ⊢;omega
theorem ME(_n:Nat)(y:List Bs)(hy:y.length≤12)(hx:∀x∈y,x.length≤100000000)(w W:World)(_:ai [] w W)(s:Value)(ho:Own W 9 1 s y.length (strs y)):Calls prog 87 #[s,.string ⟨#[32]⟩] W (Sx.eh W (.val (ae (ay 32 y)))):=by obtain⟨A,c,rfl,_,_⟩:=ho.form;have  :=rC 32 100000000 y hx;have h2:y.length*(100000000+1)≤12*(100000000+1):=Nat.mul_le_mul_right _ hy;exact Dr ho 32 (by omega) (by omega)
theorem S6(m:Mt)(hm:m.Wf)(hc:bq m=false)(w:World):Calls prog 31 #[jU m] w (Rn w (.tuple #[ae [],.int .i64 190])):=by have c12:=fun W (_:ai [] w W)=>(show Calls prog 83 #[jU m] W (Rn W (.int .i64 190))from by have:=sJ m hm W;rw[hc]at this;exact this);have z0:XB #[.string ⟨#[]⟩,.int .i64 190]=.tuple #[ae [],.int .i64 190]:=rfl;refine Sx.av (args:=[jU m]) [(12,.call (.int .i64 190))] [] (by kernel_rfl) func31 rfl (bN rfl) ?_;exact XI (by kernel_rfl) (XD c12 z0)
theorem S7(m:Mt)(hm:m.Wf)(hc:bq m=true)(ha:m.asks=0)(w:World):Calls prog 31 #[jU m] w (Rn w (.tuple #[ae iO,.int .i64 0])):=by have c12:=fun W (_:ai [] w W)=>(show Calls prog 83 #[jU m] W (Rn W (.int .i64 0))from by have:=sJ m hm W;rw[hc]at this;exact this);have c18:Xy ((m.asks:Int)==0)=.bool true:=rY (by rw[ha];rfl);have z0:XB #[.string ⟨#[97,110,121]⟩,.int .i64 0]=.tuple #[ae iO,.int .i64 0]:=rfl;refine Sx.av (args:=[jU m]) [(12,.call (.int .i64 0)),ao 18 true] [] (by kernel_rfl) func31 rfl (bN rfl) ?_;exact XI (by kernel_rfl) (Sx.t2 c12 c18 z0)
theorem Ve(m:Mt)(hm:m.Wf)(hc:bq m=true)(ha:m.asks≠0)(w:World)(hl:eF w):Calls prog 31 #[jU m] w (Rn w (.tuple #[ae (ay 32 (gR m)),.int .i64 0])):=by
 have c12:=fun W (_:ai [] w W)=>(show Calls prog 83 #[jU m] W (Rn W (.int .i64 0))from by have:=sJ m hm W;rw[hc]at this;exact this);have c18:Xy ((m.asks:Int)==0)=.bool false:=qQ (by rw[beq_eq_false_iff_ne];omega);have c23:=fun W (hW:ai [] w W)=>EJ m.src.v m.src.n m.src.k hm.sn W (hl.dO hW);have qz:=fun W (hW:ai [] w W)=>EJ m.dst.v m.dst.n m.dst.k hm.dn W (hl.dO hW);have vz:=fun W (hW:ai [] w W)=>ET m.fU hm.fU.1 hm.fU.2 W (hl.dO hW);have c49:=fun W (hW:ai [] w W)=>P9 m.bw hm.pr W (hl.dO hW);have c55:=fun W (hW:ai [] w W)=>ET m.sp hm.sp.1 hm.sp.2 W (hl.dO hW);have c61:=fun W (hW:ai [] w W)=>ET m.dp hm.dp.1 hm.dp.2 W (hl.dO hW);have hb0:=zo m hm 0 (by omega);have hb1:=zo m hm 1 (by omega);have hb2:=zo m hm 2 (by omega);have hb3:=zo m hm 3 (by omega);have hb4:=zo m hm 4 (by omega);have hb5:=zo m hm 5 (by omega);obtain⟨t0,ht0⟩:∃t:Bs,t=ft m.fU:=⟨_,rfl⟩;obtain⟨t1,ht1⟩:∃t:Bs,t=wJ m.src:=⟨_,rfl⟩;obtain⟨t2,ht2⟩:∃t:Bs,t=wJ m.dst:=⟨_,rfl⟩;obtain⟨t3,ht3⟩:∃t:Bs,t=eo m.bw:=⟨_,rfl⟩;obtain⟨t4,ht4⟩:∃t:Bs,t=ft m.sp:=⟨_,rfl⟩;obtain⟨t5,ht5⟩:∃t:Bs,t=ft m.dp:=⟨_,rfl⟩;have l0:t0.length≤100000000:=by rw[ht0];exact XH (mB _ hm.fU.1 hm.fU.2) (by omega)
 have l1:t1.length≤100000000:=by rw[ht1];exact vk _
 have l2:t2.length≤100000000:=by rw[ht2];exact vk _
 have l3:t3.length≤100000000:=by rw[ht3];exact XH (zh _ hm.pr) (by omega)
 have l4:t4.length≤100000000:=by rw[ht4];exact XH (mB _ hm.sp.1 hm.sp.2) (by omega)
 have l5:t5.length≤100000000:=by rw[ht5];exact XH (mB _ hm.dp.1 hm.dp.2) (by omega)
 obtain⟨y0,hy0⟩:∃y,y=([]:List Bs)++wK (m.asks.testBit 0) [yK,t0]:=⟨_,rfl⟩;obtain⟨y1,hy1⟩:∃y,y=y0++wK (m.asks.testBit 1) [nS,t1]:=⟨_,rfl⟩;obtain⟨y2,hy2⟩:∃y,y=y1++wK (m.asks.testBit 2) [pv,t2]:=⟨_,rfl⟩;obtain⟨y3,hy3⟩:∃y,y=y2++wK (m.asks.testBit 3) [gE,t3]:=⟨_,rfl⟩;obtain⟨y4,hy4⟩:∃y,y=y3++wK (m.asks.testBit 4) [jh,t4]:=⟨_,rfl⟩;obtain⟨y5,hy5⟩:∃y,y=y4++wK (m.asks.testBit 5) [jV,t5]:=⟨_,rfl⟩;have hy:y5=gR m:=by rw[hy5,hy4,hy3,hy2,hy1,hy0,ht0,ht1,ht2,ht3,ht4,ht5];rfl
 have bd:∀(x:List Bs) (b:Bool) (p q:Bs) (n:Nat),x.length≤n→(x++wK b [p,q]).length≤n+2:=fun x b p q n h=>by
  rw[XF];cases b
  ·show x.length+0≤_;omega
  ·show x.length+2≤_;omega
 have bx:∀(x:List Bs) (b:Bool) (p q:Bs),(∀z∈x,z.length≤100000000)→p.length≤100000000→q.length≤100000000→∀z∈x++wK b [p,q],z.length≤100000000:=fun x b p q h hp hq z hz=>by
  rcases Yi.1 hz with hz|hz
  ·exact h z hz
  ·cases b with
   |true=>
    have hz:z∈[p,q]:=hz;rcases XA.1 hz with rfl|hz
    ·exact hp
    ·rw[XC.1 hz];exact hq
   |false=>cases hz
 have n0:y0.length≤2:=by rw[hy0];exact bd _ _ _ _ 0 (Yd 0)
 have x0:∀z∈y0,z.length≤100000000:=by rw[hy0];exact bx _ _ _ _ (by simp) (by decide) l0
 have n1:y1.length≤4:=by rw[hy1];exact bd _ _ _ _ 2 n0
 have x1:∀z∈y1,z.length≤100000000:=by rw[hy1];exact bx _ _ _ _ x0 (by decide) l1
 have n2:y2.length≤6:=by rw[hy2];exact bd _ _ _ _ 4 n1
 have x2:∀z∈y2,z.length≤100000000:=by rw[hy2];exact bx _ _ _ _ x1 (by decide) l2
 have n3:y3.length≤8:=by rw[hy3];exact bd _ _ _ _ 6 n2
 have x3:∀z∈y3,z.length≤100000000:=by rw[hy3];exact bx _ _ _ _ x2 (by decide) l3
 have n4:y4.length≤10:=by rw[hy4];exact bd _ _ _ _ 8 n3
 have x4:∀z∈y4,z.length≤100000000:=by rw[hy4];exact bx _ _ _ _ x3 (by decide) l4
 have n5:y5.length≤12:=by rw[hy5];exact bd _ _ _ _ 10 n4
 have x5:∀z∈y5,z.length≤100000000:=by rw[hy5];exact bx _ _ _ _ x4 (by decide) l5
 rw[←hy];have c37:=fun W β (hS:Sx.fD ⟨w,[],fun _ _=>False⟩ β W (Sx.rowAt [⟨66,.an m.cells⟩,⟨70,.dK [.own 2]⟩,⟨9,.own 1 ([]:List Bs).length (strs ([]:List Bs))⟩,⟨9,.an [ae yK,ae t0]⟩]) [0,1,2,3])=>(show Calls prog 84 (([.val (.int .u8 ((2^0:Nat):Int)),.oI 3 0 2 2,.ptr 0 0,.ptr 1 0]:List Sx.SV).map (Sx.SV.den β)).toArray W (Sx.bK ⟨w,[],fun _ _=>False⟩ β W (Sx.rowAt [⟨66,.an m.cells⟩,⟨70,.dK [.own 2]⟩,⟨9,.own 1 ([]:List Bs).length (strs ([]:List Bs))⟩,⟨9,.an [ae yK,ae t0]⟩]) 4 (sC 2 3 4 m.cells y0))from by rw[hy0];exact mM yK t0 (2^0) (m.asks.testBit 0) rfl rfl rfl rfl (by omega) (by omega) (by omega) hb0 (XS _) W β hS);have KH:=fun W β (hS:Sx.fD ⟨w,[],fun _ _=>False⟩ β W (Sx.rowAt [⟨66,.an m.cells⟩,⟨70,.dK [.own 4]⟩,Sx.au,⟨9,.an [ae yK,ae t0]⟩,⟨9,.own 1 y0.length (strs y0)⟩,⟨9,.an [ae nS,ae t1]⟩]) [0,1,4,5])=>(show Calls prog 84 (([.val (.int .u8 ((2^1:Nat):Int)),.oI 5 0 2 2,.ptr 0 0,.ptr 1 0]:List Sx.SV).map (Sx.SV.den β)).toArray W (Sx.bK ⟨w,[],fun _ _=>False⟩ β W (Sx.rowAt [⟨66,.an m.cells⟩,⟨70,.dK [.own 4]⟩,Sx.au,⟨9,.an [ae yK,ae t0]⟩,⟨9,.own 1 y0.length (strs y0)⟩,⟨9,.an [ae nS,ae t1]⟩]) 6 (sC 4 5 6 m.cells y1))from by rw[hy1];exact mM nS t1 (2^1) (m.asks.testBit 1) rfl rfl rfl rfl (by omega) (by omega) (by omega) hb1 (XH n0 (by omega)) W β hS);have c45:=fun W β (hS:Sx.fD ⟨w,[],fun _ _=>False⟩ β W (Sx.rowAt [⟨66,.an m.cells⟩,⟨70,.dK [.own 6]⟩,Sx.au,⟨9,.an [ae yK,ae t0]⟩,Sx.au,⟨9,.an [ae nS,ae t1]⟩,⟨9,.own 1 y1.length (strs y1)⟩,⟨9,.an [ae pv,ae t2]⟩]) [0,1,6,7])=>(show Calls prog 84 (([.val (.int .u8 ((2^2:Nat):Int)),.oI 7 0 2 2,.ptr 0 0,.ptr 1 0]:List Sx.SV).map (Sx.SV.den β)).toArray W (Sx.bK ⟨w,[],fun _ _=>False⟩ β W (Sx.rowAt [⟨66,.an m.cells⟩,⟨70,.dK [.own 6]⟩,Sx.au,⟨9,.an [ae yK,ae t0]⟩,Sx.au,⟨9,.an [ae nS,ae t1]⟩,⟨9,.own 1 y1.length (strs y1)⟩,⟨9,.an [ae pv,ae t2]⟩]) 8 (sC 6 7 8 m.cells y2))from by rw[hy2];exact mM pv t2 (2^2) (m.asks.testBit 2) rfl rfl rfl rfl (by omega) (by omega) (by omega) hb2 (XH n1 (by omega)) W β hS);have c51:=fun W β (hS:Sx.fD ⟨w,[],fun _ _=>False⟩ β W (Sx.rowAt [⟨66,.an m.cells⟩,⟨70,.dK [.own 8]⟩,Sx.au,⟨9,.an [ae yK,ae t0]⟩,Sx.au,⟨9,.an [ae nS,ae t1]⟩,Sx.au,⟨9,.an [ae pv,ae t2]⟩,⟨9,.own 1 y2.length (strs y2)⟩,⟨9,.an [ae gE,ae t3]⟩]) [0,1,8,9])=>(show Calls prog 84 (([.val (.int .u8 ((2^3:Nat):Int)),.oI 9 0 2 2,.ptr 0 0,.ptr 1 0]:List Sx.SV).map (Sx.SV.den β)).toArray W (Sx.bK ⟨w,[],fun _ _=>False⟩ β W (Sx.rowAt [⟨66,.an m.cells⟩,⟨70,.dK [.own 8]⟩,Sx.au,⟨9,.an [ae yK,ae t0]⟩,Sx.au,⟨9,.an [ae nS,ae t1]⟩,Sx.au,⟨9,.an [ae pv,ae t2]⟩,⟨9,.own 1 y2.length (strs y2)⟩,⟨9,.an [ae gE,ae t3]⟩]) 10 (sC 8 9 10 m.cells y3))from by rw[hy3];exact mM gE t3 (2^3) (m.asks.testBit 3) rfl rfl rfl rfl (by omega) (by omega) (by omega) hb3 (XH n2 (by omega)) W β hS);have c57:=fun W β (hS:Sx.fD ⟨w,[],fun _ _=>False⟩ β W (Sx.rowAt [⟨66,.an m.cells⟩,⟨70,.dK [.own 10]⟩,Sx.au,⟨9,.an [ae yK,ae t0]⟩,Sx.au,⟨9,.an [ae nS,ae t1]⟩,Sx.au,⟨9,.an [ae pv,ae t2]⟩,Sx.au,⟨9,.an [ae gE,ae t3]⟩,⟨9,.own 1 y3.length (strs y3)⟩,⟨9,.an [ae jh,ae t4]⟩]) [0,1,10,11])=>(show Calls prog 84 (([.val (.int .u8 ((2^4:Nat):Int)),.oI 11 0 2 2,.ptr 0 0,.ptr 1 0]:List Sx.SV).map (Sx.SV.den β)).toArray W (Sx.bK ⟨w,[],fun _ _=>False⟩ β W (Sx.rowAt [⟨66,.an m.cells⟩,⟨70,.dK [.own 10]⟩,Sx.au,⟨9,.an [ae yK,ae t0]⟩,Sx.au,⟨9,.an [ae nS,ae t1]⟩,Sx.au,⟨9,.an [ae pv,ae t2]⟩,Sx.au,⟨9,.an [ae gE,ae t3]⟩,⟨9,.own 1 y3.length (strs y3)⟩,⟨9,.an [ae jh,ae t4]⟩]) 12 (sC 10 11 12 m.cells y4))from by rw[hy4];exact mM jh t4 (2^4) (m.asks.testBit 4) rfl rfl rfl rfl (by omega) (by omega) (by omega) hb4 (XH n3 (by omega)) W β hS);have c63:=fun W β (hS:Sx.fD ⟨w,[],fun _ _=>False⟩ β W (Sx.rowAt [⟨66,.an m.cells⟩,⟨70,.dK [.own 12]⟩,Sx.au,⟨9,.an [ae yK,ae t0]⟩,Sx.au,⟨9,.an [ae nS,ae t1]⟩,Sx.au,⟨9,.an [ae pv,ae t2]⟩,Sx.au,⟨9,.an [ae gE,ae t3]⟩,Sx.au,⟨9,.an [ae jh,ae t4]⟩,⟨9,.own 1 y4.length (strs y4)⟩,⟨9,.an [ae jV,ae t5]⟩]) [0,1,12,13])=>(show Calls prog 84 (([.val (.int .u8 ((2^5:Nat):Int)),.oI 13 0 2 2,.ptr 0 0,.ptr 1 0]:List Sx.SV).map (Sx.SV.den β)).toArray W (Sx.bK ⟨w,[],fun _ _=>False⟩ β W (Sx.rowAt [⟨66,.an m.cells⟩,⟨70,.dK [.own 12]⟩,Sx.au,⟨9,.an [ae yK,ae t0]⟩,Sx.au,⟨9,.an [ae nS,ae t1]⟩,Sx.au,⟨9,.an [ae pv,ae t2]⟩,Sx.au,⟨9,.an [ae gE,ae t3]⟩,Sx.au,⟨9,.an [ae jh,ae t4]⟩,⟨9,.own 1 y4.length (strs y4)⟩,⟨9,.an [ae jV,ae t5]⟩]) 14 (sC 12 13 14 m.cells y5))from by rw[hy5];exact mM jV t5 (2^5) (m.asks.testBit 5) rfl rfl rfl rfl (by omega) (by omega) (by omega) hb5 (XH n4 (by omega)) W β hS);have c65:=fun W hW s ho=>ME 0 y5 n5 x5 w W hW s ho;have z0:XB #[ae (ay 32 y5),.int .i64 0]=.tuple #[ae (ay 32 y5),.int .i64 0]:=rfl;rw[←ht0]at vz;have c23:∀W,ai [] w W→Calls prog 72 #[mr m.src] W (Rn W (.tuple #[ae t1,.int .i64 (dh m.src.v m.src.n m.src.k)])):=by rw[ht1];exact c23
 have qz:∀W,ai [] w W→Calls prog 72 #[mr m.dst] W (Rn W (.tuple #[ae t2,.int .i64 (dh m.dst.v m.dst.n m.dst.k)])):=by rw[ht2];exact qz
 rw[←ht3]at c49;rw[←ht4]at c55;rw[←ht5]at c61;clear hy ht0 ht1 ht2 ht3 ht4 ht5 hy0 hy1 hy2 hy3 hy4 hy5;refine Sx.av (args:=[jU m]) [(12,.call (.int .i64 0)),ao 18 false,(5,.tL [(0,9,1)]),(23,.call (.tuple #[ae t1,.int .i64 (dh m.src.v m.src.n m.src.k)])),(29,.call (.tuple #[ae t2,.int .i64 (dh m.dst.v m.dst.n m.dst.k)])),(35,.call (ae t0)),(49,.call (ae t3)),(55,.call (ae t4)),(61,.call (ae t5)),(37,.aB (sC 2 3 4 m.cells y0)),(41,.aB (sC 4 5 6 m.cells y1)),(45,.aB (sC 6 7 8 m.cells y2)),(51,.aB (sC 8 9 10 m.cells y3)),(57,.aB (sC 10 11 12 m.cells y4)),(63,.aB (sC 12 13 14 m.cells y5)),(65,.ct (.val (ae (ay 32 y5))))] [] (by kernel_rfl) func31 rfl (bN rfl) ?_;exact XI (by kernel_rfl) (Sx.t8 c12 c18 c23 qz vz c37 KH c45 (Sx.t4 c49 c51 c55 c57 (Sx.t2 c61 c63 (XD c65 z0))))
theorem AQ(m:Mt)(hm:m.Wf)(w:World)(hl:eF w):Calls prog 31 #[jU m] w (Rn w (.tuple #[ae (Ji m),.int .i64 (if bq m=true then 0 else 190)])):=by
 unfold Ji;cases hc:bq m with
 |false=>exact S6 m hm hc w
 |true=>
  show Calls prog 31 #[jU m] w (Rn w (.tuple #[ae (kV m),.int .i64 0]));by_cases ha:m.asks=0
  ·rw[show kV m=iO by unfold kV;rw[if_pos ha]]
   exact S7 m hm hc ha w
  ·rw[show kV m=ay 32 (gR m)by unfold kV;rw[if_neg ha]]
   exact Ve m hm hc ha w hl
open Go Go.RowKit Go.Lib Go.Sort _root_.Go.Proofs.Tryz
theorem SF(x y:Operand)(a i:Nat)(hi:i≤8)(W:World):(do eqGuard .shr 5 x y (.int .u8 (a:Int)) (.int .i64 (i:Int)); binOp .shr 5 (.int .u8 (a:Int)) (.int .i64 (i:Int)):Sem Value).run prog W=.ok (.int .u8 ((a / 2^i:Nat):Int)) W:=by
 show(Op.shift .shr .u8 (a:Int) .i64 (i:Int)).run prog W=_;unfold Op.shift;rw[if_neg (by omega)];have h:min (i:Int).toNat X2.bits=i:=by show min i 8=i;omega
 show Yp (XG .u8 ((a:Int).fdiv (2^(min (i:Int).toNat X2.bits)))) W=_;rw[h,X7 _ (Ym (by omega))];simp
theorem K9{xs:List Bs}{i:Nat}{x:Bs}(h:xs[i]?=some x):(strs xs)[i]?=some (ae x):=by unfold strs;rw[Ye,h];rfl
set_option maxRecDepth 100000
open Go Go.RowKit Go.Lib Go.Sort _root_.Go.Proofs.Tryz
set_option maxRecDepth 100000
def JE(most:Nat)(s:Bs):Value:=.tuple #[.int .u64 (fz most s:Int),.bool (aS most s)]
theorem AW{most:Nat}{s:Bs}(h:aS most s=false):XB #[.int .u64 0,.bool false]=JE most s:=by unfold JE fz;rw[h];rfl
theorem Qn{most:Nat}{s:Bs}(h:aS most s=true):XB #[.int .u64 (cZ s:Int),.bool true]=JE most s:=by unfold JE fz;rw[h]
def Hj(most:Nat)(s:Bs)(n i:Nat):List (Nat×Sx.SV):=[(0,.val (ae s)),(6,.val (.int .u64 (most:Int))),(7,.val (.int .u64 (n:Int))),(8,.val (.int .i64 (i:Int)))]
def Ft(most:Nat)(s:Bs)(i:Nat):List (Nat×Sx.SV):=Hj most s (cZ (s.take i)) i
theorem AX{most:Nat}{s:Bs}{n i:Nat}(h:n=cZ (s.take i)):Ft most s i=Hj most s n i:=by rw[h];rfl
structure KD(most:Nat)(s:Bs)(i:Nat):Prop where
 le:i≤s.length
 dg:∀c∈s.take i,Na c=true
 v:cZ (s.take i)≤most
theorem PL(most:Nat)(s:Bs)(hm:most < 18446744073709551616)(h9:9≤most)(hs:s.length≤1000000000)(hne:s≠[])(hz:s.head?=some 48→s=[48])(T:Value)(hT:T=JE most s)(w:World)(i:Nat)(hi:KD most s i):∃H' L',Sx.ex prog f193.ntmps w (Sx.a7 f193 0) H' L' ⟨Ft most s i,[]⟩
  (Sx.dP (KD most s) (Ft most s) (fun _=>[]) (fun i=>i+1) (fun i=>s.length+2 - i) (fun(_:Unit)=>aS most s=true) (fun _=>[((7:Nat),Sx.SV.val (.int .u64 (cZ s:Int)))]) (fun _=>[]) (fun _=>()) (Sx.ej (Sx.a7 f193 0) - 1) (Sx.atEnd prog f193 (fun v=>v=T) .ret) i):=by
 have c27:=gz s;have hi0:=hi.le;by_cases h:i < s.length
 ·have c28:=bT ((i:Int) < (s.length:Int)) (by omega)
  obtain⟨c,hc⟩:∃c,s[i]?=some c:=⟨_,Ya h⟩;have c33:=kE s i c hc;have c38:=c33;have Ea:=c33;by_cases hd:Na c=true
  ·obtain⟨hd1,hd2,hd3⟩:=Bh hd
   have hr:48≤c.toNat∧c.toNat≤57:=of_decide_eq_true hd;have c34:=bF ((c.toNat:Int) < 48) (by omega);have c39:=bF ((c.toNat:Int) > 57) (by omega);obtain⟨n,hn⟩:∃n,n=cZ (s.take i):=⟨_,rfl⟩;have hv:=hi.v;obtain⟨d,hdd⟩:∃d,d=mq c:=⟨_,rfl⟩;have hnx:=JA s i c hc;rw[←hn]at hv hnx;rw[←hdd]at hd2 hd3 hnx;have c44:XG .u8 (X2.wrap ((c.toNat:Int) - 48))=.int .u8 (d:Int):=by rw[IntKind.wrap_u8]; congr 1; omega
   have c45:XG .u64 (XR.wrap (d:Int))=.int .u64 (d:Int):=by rw[XM];congr 1;omega
   have c49:XG .u64 (XR.wrap ((most:Int) - (d:Int)))=.int .u64 ((most - d:Nat):Int):=by rw[XM]; congr 1; omega
   have c50:XG .u64 (XR.wrap (((most - d:Nat):Int).tdiv 10))=.int .u64 (((most - d) / 10:Nat):Int):=by rw[show((most - d:Nat):Int).tdiv 10=(((most - d) / 10:Nat):Int)from rfl,XM]; congr 1; omega
   by_cases hb:n > (most - d) / 10
   ·have c51:=bT ((n:Int) > (((most - d) / 10:Nat):Int)) (by omega)
    have z0:XB #[.int .u64 0,.bool false]=T:=by rw[hT];exact AW (JC (k:=i+1) (by rw[hnx];omega))
    refine⟨[(27,.is (.int .i64 (s.length:Int))),ao 28 true,(33,.bin (u8 c)),ao 34 false,(38,.bin (u8 c)),ao 39 false,(43,.bin (u8 c)),(44,.is (.int .u8 (d:Int))),(45,.is (.int .u64 (d:Int))),(49,.is (.int .u64 ((most - d:Nat):Int))),(50,.is (.int .u64 (((most - d) / 10:Nat):Int))),ao 51 true],[],?_⟩;rw[AX hn];exact XI (by kernel_rfl) (Sx.t8 c27 c28 c33 c34 c38 c39 Ea c44 (Sx.t4 c45 c49 c50 c51 z0))
   ·have c51:=bF ((n:Int) > (((most - d) / 10:Nat):Int)) (by omega)
    have c53:XG .u64 (XR.wrap (10*(n:Int)))=.int .u64 ((10*n:Nat):Int):=by rw[XM];congr 1;omega
    have c55:XG .u64 (XR.wrap (((10*n:Nat):Int)+(d:Int)))=.int .u64 ((10*n+d:Nat):Int):=by rw[XM];congr 1;omega
    have c30:=mW (i:=i) (by omega);have h0:KD most s (i+1):=⟨h,fun x hx=>by
     rw[List.take_add_one,hc,Yi]at hx;rcases hx with hx|hx
     ·exact hi.dg x hx
     ·rw[XC.1 hx];exact hd,by rw[hnx];omega⟩
    have h1:s.length+2 - (i+1) < s.length+2 - i:=by omega
    have h2:Hj most s (10*n+d) (i+1)=Ft most s (i+1):=(AX hnx.symm).symm;have z3:([]:List Sx.Row)=[]:=rfl;refine⟨[(27,.is (.int .i64 (s.length:Int))),ao 28 true,(33,.bin (u8 c)),ao 34 false,(38,.bin (u8 c)),ao 39 false,(43,.bin (u8 c)),(44,.is (.int .u8 (d:Int))),(45,.is (.int .u64 (d:Int))),(49,.is (.int .u64 ((most - d:Nat):Int))),(50,.is (.int .u64 (((most - d) / 10:Nat):Int))),ao 51 false,(53,.is (.int .u64 ((10*n:Nat):Int))),(55,.is (.int .u64 ((10*n+d:Nat):Int))),cO 30 (i+1)],[],?_⟩;rw[AX hn];exact XI (by kernel_rfl) (Sx.t8 c27 c28 c33 c34 c38 c39 Ea c44 (Sx.t8 c45 c49 c50 c51 c53 c55 c30 h0 (Sx.t2 h1 h2 z3)))
  ·have hd:Na c=false:=by simpa using hd
   have z0:XB #[.int .u64 0,.bool false]=T:=by rw[hT];exact AW (JD hc hd)
   have hr:¬(48≤c.toNat∧c.toNat≤57):=of_decide_eq_false hd;by_cases hlo:c.toNat < 48
   ·have c34:=bT ((c.toNat:Int) < 48) (by omega)
    refine⟨[(27,.is (.int .i64 (s.length:Int))),ao 28 true,(33,.bin (u8 c)),ao 34 true],[],?_⟩;exact XI (by kernel_rfl) (Sx.t4 c27 c28 c33 c34 z0)
   ·have c34:=bF ((c.toNat:Int) < 48) (by omega)
    have c39:=bT ((c.toNat:Int) > 57) (by omega);refine⟨[(27,.is (.int .i64 (s.length:Int))),ao 28 true,(33,.bin (u8 c)),ao 34 false,(38,.bin (u8 c)),ao 39 true],[],?_⟩;exact XI (by kernel_rfl) (Sx.t4 c27 c28 c33 c34 (Sx.t2 c38 c39 z0))
 ·have c28:=bF ((i:Int) < (s.length:Int)) (by omega)
  obtain rfl:i=s.length:=by omega
  have e:s.take s.length=s:=List.take_length;have h0:aS most s=true:=ky.2 ⟨by have:=hi.v;rwa [e]at this,hne,fun x hx=>hi.dg x (by rwa [e]),hz⟩;have h1:[((7:Nat),Sx.SV.val (.int .u64 (cZ (s.take s.length):Int)))]=[((7:Nat),Sx.SV.val (.int .u64 (cZ s:Int)))]:=by rw[e]
  have z2:([]:List Sx.Row)=[]:=rfl;refine⟨[(27,.is (.int .i64 (s.length:Int))),ao 28 false],[],?_⟩;exact XI (by kernel_rfl) (Sx.t4 c27 c28 h0 h1 z2)
theorem Lp(x y:Operand)(k:Nat)(hk:k≤64)(W:World):(do eqGuard .shr 89 x y (.int .u64 18446744073709551615) (.int .i64 (k:Int)); binOp .shr 89 (.int .u64 18446744073709551615) (.int .i64 (k:Int)):Sem Value).run prog W=.ok (.int .u64 ((18446744073709551615 / 2^k:Nat):Int)) W:=by
 show(Op.shift .shr .u64 18446744073709551615 .i64 (k:Int)).run prog W=_;unfold Op.shift;rw[if_neg (by omega)];have h:min (k:Int).toNat XR.bits=k:=by show min k 64=k;omega
 show Yp (XG .u64 ((18446744073709551615:Int).fdiv (2^(min (k:Int).toNat XR.bits)))) W=_;rw[h,X7 _ (Ym (by omega))];simp
theorem qf(s:Bs)(bits:Nat)(hb:4≤bits∧bits≤64)(hs:s.length≤1000000000)(w:World):Calls prog 193 #[ae s,.int .i64 (bits:Int)] w (Rn w (JE (18446744073709551615 / 2^(64 - bits)) s)):=by
 obtain⟨most,hmost⟩:∃m,m=18446744073709551615 / 2^(64 - bits):=⟨_,rfl⟩;have hm:most < 18446744073709551616:=by rw[hmost];exact Nat.lt_of_le_of_lt (Nat.div_le_self _ _) (by decide)
 have h9:9≤most:=by rw[hmost];refine XH ?_ (Nat.div_le_div_left (Nat.pow_le_pow_right (by omega) (show 64 - bits≤60 by omega)) (Nat.pow_pos (by omega)));decide
 rw[←hmost];cases s with
 |nil=>have iB:=fun W=>dR (.tmp 10) (.const (ae [])) [] [] true rfl W;have z0:XB #[.int .u64 0,.bool false]=JE most []:=AW (JB most);refine Sx.av (args:=[ae [],.int .i64 (bits:Int)]) [(11,.bin (.bool true))] [] (by kernel_rfl) func193 rfl (bN rfl) ?_;exact XI (by kernel_rfl) (XD iB z0)
 |cons a t=>
  have iB:=fun W=>dR (.tmp 10) (.const (ae [])) (a::t) [] false (by simp) W;have c14:=kE (a::t) 0 a rfl;obtain⟨z,hz⟩:∃z,z=decide (a=48):=⟨_,rfl⟩;have c15:Xy ((a.toNat:Int)==48)=.bool z:=by congr 1;rw[hz,XT,beq_iff_eq,decide_eq_true_iff,←UInt8.toNat_inj];show(a.toNat:Int)=48↔a.toNat=48;omega
  obtain⟨o,ho⟩:∃o,o=decide (a::t≠[48]):=⟨_,rfl⟩;have c18:=fun W=>(sd (.tmp 17) (.const (ae [48])) (a::t) [48] W).trans (by rw[←ho]);have c23:XG .i64 (XL.wrap (64 - (bits:Int)))=.int .i64 ((64 - bits:Nat):Int):=iw (by rw[kC (by omega) (by omega)]; omega);have c24:=fun W=>(Lp (.tmp 21) (.tmp 23) (64 - bits) (by omega) W).trans (by rw[←hmost]);obtain⟨s,hse⟩:∃s,s=a::t:=⟨_,rfl⟩;have hne:s≠[]:=by rw[hse];simp
  rw[←hse]at iB c14 ho c18 hs ⊢;have key:∀(hz:s.head?=some 48→s=[48]),_:=fun hz=>PL most s hm h9 hs hne hz (JE most s) rfl w;have NI:KD most s 0:=⟨XS _,fun x hx=>by simp at hx,XS _⟩;have NE:Hj most s 0 0=Ft most s 0∧([]:List Sx.Row)=[]:=⟨rfl,rfl⟩;have NZ:aS most s=true→XB #[.int .u64 (cZ s:Int),.bool true]=JE most s:=Qn;cases z with
  |true=>
   have ha:a=48:=of_decide_eq_true hz.symm;cases o with
   |true=>have hne:=of_decide_eq_true ho.symm;have z0:XB #[.int .u64 0,.bool false]=JE most s:=AW (Fq (by rw[hse,ha];rfl) hne);refine Sx.av (args:=[ae s,.int .i64 (bits:Int)]) [(11,.bin (.bool false)),(14,.bin (u8 a)),ao 15 true,(18,.bin (.bool true))] [] (by kernel_rfl) func193 rfl (bN rfl) ?_;exact XI (by kernel_rfl) (Sx.t4 iB c14 c15 c18 z0)
   |false=>
    have iZ:=key fun _=>by have:=of_decide_eq_false ho.symm;simpa using this
    have h0:=NI;have e1:=NE;have z5f:=fun(_:Unit) (h:aS most s=true)=>NZ h;refine Sx.av (args:=[ae s,.int .i64 (bits:Int)]) [(11,.bin (.bool false)),(14,.bin (u8 a)),ao 15 true,(18,.bin (.bool false)),cO 23 (64 - bits),(24,.bin (.int .u64 (most:Int)))] [.mk Nat 0 (KD most s) (Ft most s) (fun _=>[]) (fun i=>i+1) (fun i=>s.length+2 - i) Unit (fun _=>aS most s=true) (fun _=>[((7:Nat),Sx.SV.val (.int .u64 (cZ s:Int)))]) (fun _=>[]) (fun _=>())] (by kernel_rfl) func193 rfl (bN rfl) ?_;exact XI (by kernel_rfl) (Sx.t8 iB c14 c15 c18 c23 c24 h0 e1 (XD iZ (fun(x3:Unit) (hx4:aS most s=true)=>(z5f x3 hx4))))
  |false=>have ha:a≠48:=of_decide_eq_false hz.symm;have iZ:=key fun h=>absurd (by rw[hse]at h;exact Yl.inj h) ha;have h0:=NI;have e1:=NE;have z5f:=fun(_:Unit) (h:aS most s=true)=>NZ h;refine Sx.av (args:=[ae s,.int .i64 (bits:Int)]) [(11,.bin (.bool false)),(14,.bin (u8 a)),ao 15 false,cO 23 (64 - bits),(24,.bin (.int .u64 (most:Int)))] [.mk Nat 0 (KD most s) (Ft most s) (fun _=>[]) (fun i=>i+1) (fun i=>s.length+2 - i) Unit (fun _=>aS most s=true) (fun _=>[((7:Nat),Sx.SV.val (.int .u64 (cZ s:Int)))]) (fun _=>[]) (fun _=>())] (by kernel_rfl) func193 rfl (bN rfl) ?_;exact XI (by kernel_rfl) (Sx.t8 iB c14 c15 c23 c24 h0 e1 iZ (fun(x3:Unit) (hx4:aS most s=true)=>(z5f x3 hx4)))
set_option maxRecDepth 100000
open Go.RowKit Go.Lib Go.Sort _root_.Go.Proofs.Tryz
set_option maxRecDepth 100000
def Fu(l:List UInt8)(i:Nat):List (Nat×Sx.SV):=[(0,.val (.string ⟨l.toArray⟩)),(3,.val (.int .i64 (i:Int)))]
def Qq(l:List UInt8):List (Nat×Sx.SV):=[(0,.val (.string ⟨l.toArray⟩))]
def Th(l:List UInt8)(i:Nat):Prop:=i≤l.length∧∀j c,j < i→l[j]?=some c→vo j c=true
theorem Tg{l:List UInt8}{i:Nat}{c:UInt8}(h:Th l i)(hg:l[i]?=some c)(hc:vo i c=true):Th l (i+1):=by
 have hlt:i < l.length:=(Xz.1 hg).1;refine⟨hlt,fun j c' hj hjc=>?_⟩;by_cases he:j=i
 ·subst he
  rw[hg]at hjc;injection hjc with hjc;rw[←hjc];exact hc
 ·exact h.2 j c' (by omega) hjc
theorem LJ(l:List UInt8)(T:Value)(w:World)(hs:l.length≤16)(hb:1≤l.length)(hT:T=.bool (aK l))(i:Nat)(hi:Th l i):∃H' L',Sx.ex prog 54 w (Sx.a7 f34 0) H' L' ⟨Fu l i,[]⟩
  (Sx.dP (Th l) (Fu l) (fun _=>[]) (fun i=>i+1) (fun i=>l.length+2 - i) (fun(_:Unit)=>∀c j,l[j]?=some c→vo j c=true) (fun _=>Qq l) (fun _=>[]) (fun _=>()) (Sx.ej (Sx.a7 f34 0) - 1) (Sx.atEnd prog f34 (fun u=>u=T) .ret) i):=by
 have c17:=gz l;have hi0:=hi.1;by_cases h:i < l.length
 ·have c18:=bT ((i:Int) < (l.length:Int)) (by omega)
  obtain⟨c,hc⟩:∃c,l[i]?=some c:=⟨_,Ya h⟩;have c23:=kE l i c hc;have c20:=mW (i:=i) (by omega);have h1:l.length+2 - (i+1) < l.length+2 - i:=by omega
  have lb:∀(p q:Prop) [Decidable p] [Decidable q],(p↔q)→Xy (decide p)=.bool (decide q):=fun p q _ _ h=>by rw[decide_eq_decide.2 h]
  have c25:=lb ((97:Int)≤(c.toNat:Int)) (97≤c.toNat) (by omega);have c28:=lb ((c.toNat:Int)≤122) (c.toNat≤122) (by omega);have c31:=lb ((48:Int)≤(c.toNat:Int)) (48≤c.toNat) (by omega);have c34:=lb ((c.toNat:Int)≤57) (c.toNat≤57) (by omega);have ib:∀a b:Nat,Xy ((a:Int)==(b:Int))=.bool (decide (a=b)):=fun a b=>by congr 1;rw[XT,beq_iff_eq,decide_eq_true_iff];omega
  have c38:=ib c.toNat 45;have qy:=ib c.toNat 95;have c48:Xy ((i:Int)==0)=.bool (!decide (0 < i)):=(ib i 0).trans (by rw[←decide_not];exact congrArg Xy (decide_eq_decide.2 (by omega)));have zn:vo i c=false→Xy false=T:=fun h=>by rw[hT,kT hc h]
  have zy:vo i c=true→Th l (i+1):=Tg hi hc;unfold vo at zn zy;generalize decide (97≤c.toNat)=b1 at*;generalize decide (c.toNat≤122)=b2 at*;generalize decide (48≤c.toNat)=b3 at*;generalize decide (c.toNat≤57)=b4 at*;generalize decide (c.toNat=45)=b5 at*;generalize decide (c.toNat=95)=b6 at*;generalize decide (0 < i)=z at*;have CH:=Sx.t4 c17 c18 c23 c25 (bA.mk (b:=!b1) (fun _=>c28) (XD c31 (bA.mk (b:=!b3) (fun _=>c34) (bA.mk (b:=b3&&b4) (fun _=>c38) (bA.mk (b:=b3&&b4||b5) (fun _=>qy) (bA.mk (b:=b1&&b2) (fun _=>c48) (jZ.mk (b:=b1&&b2||(z&&(b3&&b4||b5||b6))) (fun h=>Sx.t2 c20 (zy h) (XD h1 (show Fu l (i+1)=Fu l (i+1)∧([]:List Sx.Row)=[]from⟨rfl,rfl⟩))) zn)))))));refine⟨[(17,.is (.int .i64 (l.length:Int))),ao 18 true,(23,.bin (u8 c)),ao 25 b1,ao 28 b2,ao 31 b3,ao 34 b4,ao 38 b5,ao 42 b6,(48,.is (.bool !z)),cO 20 (i+1)],[],?_⟩;clear zn zy c25 c28 c31 c34 c38 qy c48 lb ib;cases b1<;>cases b2<;>cases b3<;>cases b4<;>cases b5<;>cases b6<;>cases z<;>exact XI (by kernel_rfl) CH
 ·have c18:=bF ((i:Int) < (l.length:Int)) (by omega)
  have h0:∀c j,l[j]?=some c→vo j c=true:=fun c j hj=>hi.2 j c (by have:=(Xz.1 hj).1;omega) hj;have h1:Qq l=Qq l:=rfl;have z2:([]:List Sx.Row)=[]:=rfl;refine⟨[(17,.is (.int .i64 (l.length:Int))),ao 18 false],[],?_⟩;exact XI (by kernel_rfl) (Sx.t4 c17 c18 h0 h1 z2)
def Qp(l:List UInt8):List Sx.Loop:=[.mk Nat 0 (Th l) (Fu l) (fun _=>[]) (fun i=>i+1) (fun i=>l.length+2 - i) Unit (fun _=>∀c j,l[j]?=some c→vo j c=true) (fun _=>Qq l) (fun _=>[]) (fun _=>())]
theorem PM(l:List UInt8)(w:World):Calls prog 34 #[.string ⟨l.toArray⟩] w (Rn w (.bool (aK l))):=by
 have c8:=gz l;have c12:=gz l;by_cases h1:l.length < 1
 ·have c9:=bT ((l.length:Int) < 1) (by omega)
  have z0:Xy false=.bool (aK l):=by unfold aK;rw[decide_eq_false (by omega)];rfl
  refine Sx.av (args:=[.string ⟨l.toArray⟩]) [(8,.is (.int .i64 (l.length:Int))),ao 9 true] [] (by kernel_rfl) func34 rfl (bN rfl) ?_;exact XI (by kernel_rfl) (Sx.t2 c8 c9 z0)
 have c9:=bF ((l.length:Int) < 1) (by omega);by_cases h16:16 < l.length
 ·have c13:=bT ((16:Int) < (l.length:Int)) (by omega)
  have z0:Xy false=.bool (aK l):=by unfold aK;rw[decide_eq_false (show ¬l.length≤16 by omega)];simp
  refine Sx.av (args:=[.string ⟨l.toArray⟩]) [(8,.is (.int .i64 (l.length:Int))),ao 9 false,(12,.is (.int .i64 (l.length:Int))),ao 13 true] [] (by kernel_rfl) func34 rfl (bN rfl) ?_;exact XI (by kernel_rfl) (Sx.t4 c8 c9 c12 c13 z0)
 have c13:=bF ((16:Int) < (l.length:Int)) (by omega);have e1:Fu l 0=Fu l 0∧([]:List Sx.Row)=[]:=⟨rfl,rfl⟩;have iZ:=LJ l (.bool (aK l)) w (by omega) (by omega) rfl;have z5f:Unit→(∀c j,l[j]?=some c→vo j c=true)→Xy true=.bool (aK l):=fun _ h=>by rw[zG (by omega) (by omega) (fun i c hi=>h c i hi)]
 have h0:Th l 0:=⟨XS _,fun j c hj=>absurd hj (Nat.not_lt_zero _)⟩;refine Sx.av (args:=[.string ⟨l.toArray⟩]) [(8,.is (.int .i64 (l.length:Int))),ao 9 false,(12,.is (.int .i64 (l.length:Int))),ao 13 false] (Qp l) (by kernel_rfl) func34 rfl (bN rfl) ?_;exact XI (by kernel_rfl) (Sx.t4 c8 c9 c12 c13 (Sx.t2 h0 e1 (XD iZ (fun(x3:Unit) (hx4:∀(c:UInt8) (j:Nat),l[j]?=Yl c→vo j c=true)=>(z5f x3 hx4)))))
set_option maxRecDepth 100000
open Go.RowKit Go.Lib Go.Sort _root_.Go.Proofs.Tryz
theorem QZ:∀(s:List UInt8) (k n:Nat) (b:Bool) (f:Nat→Nat),(∀j,f j < 256)→∀j,(dV s k n b f).1 j < 256:=by
 have hu:∀(f:Nat→Nat) (k n:Nat),(∀j,f j < 256)→n < 256→∀j,dW f k n j < 256:=fun f k n hf hn j=>by
  unfold dW;split
  ·exact hn
  ·exact hf j
 intro s;induction s with
 |nil=>
  intro k n b f hf j;rw[dV];split
  ·exact hf j
  ·exact hu f k n hf (by omega) j
 |cons c l ih=>
  intro k n b f hf j;rw[dV];split
  ·split
   ·exact hf j
   ·exact ih _ _ _ _ (hu f k n hf (by omega)) j
  ·split
   ·exact hf j
   ·exact ih _ _ _ _ hf j
theorem SE(s:List UInt8)(j:Nat):(qC s).1 j < 256:=by
 have hl:∀(l:List Nat) (f:Nat→Nat) (k:Nat),(∀u∈l,u < 65536)→(∀j,f j < 256)→∀j,iN f k l j < 256:=by
  intro l f k hl hf j;rw[vr];split
  ·rename_i u hu
   have:=hl u (List.mem_of_getElem? hu);split
   ·split
    ·exact Nat.div_lt_of_lt_mul (by omega)
    ·exact Nat.mod_lt _ (by decide)
   ·exact hf j
  ·exact hf j
 unfold qC tu;split
 ·rename_i a b ha hb
  split
  ·show 0 < 256;omega
  ·exact hl _ _ _ (pc hb).1 (hl _ _ _ (pc ha).1 fun _=>by show 0 < 256;omega) j
 ·show 0 < 256;omega
theorem By(v:Bool)(n:Nat):Xy (dM v n !=0)=.bool (!jt v n):=by unfold dM;cases jt v n<;>rfl
def Al:Value:=.agg (cD false 0).toArray
theorem AG(s:List UInt8)(w:World)(v:Bool)(n:Nat)(hn:n < 2^128)(R:Value)
  (H:(v=false∧∀W,Calls prog 45 #[.string ⟨s.toArray⟩] W (Rn W (.tuple #[.agg (cD v n).toArray,.bool true])))∨
   (v=true∧∃f b,(∀W,Calls prog 45 #[.string ⟨s.toArray⟩] W (Rn W (.tuple #[.agg (ax false f).toArray,.bool false])))∧(∀W,Calls prog 46 #[.string ⟨s.toArray⟩] W (Rn W (.tuple #[.agg (cD v n).toArray,.bool b])))∧(b=false→R=.tuple #[Al,.int .i64 150])))
  (h1:BS s v n→R=.tuple #[.agg (cD v n).toArray,.int .i64 0]) (h2:¬BS s v n→R=.tuple #[Al,.int .i64 150]) :
  Calls prog 15 #[.string ⟨s.toArray⟩] w (Rn w R):=by
 have c22:=fun W (_:ai [] w W)=>uy v n hn W;rcases H with⟨_,H⟩ | ⟨_,f,b,H4,H6,hb⟩
 ·have c10:=fun W (_:ai [] w W)=>H W
  cases hok:jt v n with
  |false=>
   have qz:Xy (dM v n !=0)=.bool true:=by rw[By,hok];rfl
   have z0:XB #[Al,.int .i64 150]=R:=(h2 fun h=>by rw[h.2.1]at hok;cases hok).symm;refine Sx.av (args:=[.string ⟨s.toArray⟩]) [(10,.call (.tuple #[.agg (cD v n).toArray,.bool true])),(22,.call (.tuple #[.string ⟨(gk v n).toArray⟩,.int .i64 (dM v n)])),ao 29 true] [] (by kernel_rfl) func15 rfl (bN rfl) ?_;exact XI (by kernel_rfl) (Sx.t2 c10 c22 (XD qz z0))
  |true=>
   have qz:Xy (dM v n !=0)=.bool false:=by rw[By,hok];rfl
   have hat:gk v n=eL v n:=by unfold gk;rw[hok];rfl
   by_cases he:gk v n=s
   ·have c34:=Ap (.tmp 32) (.tmp 33) (gk v n) s (r:=false) (by simpa using he)
    have z0:XB #[.agg (cD v n).toArray,.int .i64 0]=R:=(h1 ⟨hn,hok,by rw[←hat];exact he⟩).symm;refine Sx.av (args:=[.string ⟨s.toArray⟩]) [(10,.call (.tuple #[.agg (cD v n).toArray,.bool true])),(22,.call (.tuple #[.string ⟨(gk v n).toArray⟩,.int .i64 (dM v n)])),ao 29 false,(34,.bin (.bool false))] [] (by kernel_rfl) func15 rfl (bN rfl) ?_;exact XI (by kernel_rfl) (Sx.t4 c10 c22 qz c34 z0)
   ·have c34:=Ap (.tmp 32) (.tmp 33) (gk v n) s (r:=true) (by simpa using he)
    have z0:XB #[Al,.int .i64 150]=R:=(h2 fun h=>he (by rw[hat];exact h.2.2)).symm;refine Sx.av (args:=[.string ⟨s.toArray⟩]) [(10,.call (.tuple #[.agg (cD v n).toArray,.bool true])),(22,.call (.tuple #[.string ⟨(gk v n).toArray⟩,.int .i64 (dM v n)])),ao 29 false,(34,.bin (.bool true))] [] (by kernel_rfl) func15 rfl (bN rfl) ?_;exact XI (by kernel_rfl) (Sx.t4 c10 c22 qz c34 z0)
 ·have c10:=fun W (_:ai [] w W)=>H4 W
  have c17:=fun W (_:ai [] w W)=>H6 W;cases b with
  |false=>have z0:XB #[Al,.int .i64 150]=R:=(hb rfl).symm;refine Sx.av (args:=[.string ⟨s.toArray⟩]) [(10,.call (.tuple #[.agg (ax false f).toArray,.bool false])),(17,.call (.tuple #[.agg (cD v n).toArray,.bool false])),(22,.call (.tuple #[.string ⟨(gk v n).toArray⟩,.int .i64 (dM v n)]))] [] (by kernel_rfl) func15 rfl (bN rfl) ?_;exact XI (by kernel_rfl) (Sx.t2 c10 c17 (XD c22 z0))
  |true=>
   cases hok:jt v n with
   |false=>
    have qz:Xy (dM v n !=0)=.bool true:=by rw[By,hok];rfl
    have z0:XB #[Al,.int .i64 150]=R:=(h2 fun h=>by rw[h.2.1]at hok;cases hok).symm;refine Sx.av (args:=[.string ⟨s.toArray⟩]) [(10,.call (.tuple #[.agg (ax false f).toArray,.bool false])),(17,.call (.tuple #[.agg (cD v n).toArray,.bool true])),(22,.call (.tuple #[.string ⟨(gk v n).toArray⟩,.int .i64 (dM v n)])),ao 29 true] [] (by kernel_rfl) func15 rfl (bN rfl) ?_;exact XI (by kernel_rfl) (Sx.t4 c10 c17 c22 qz z0)
   |true=>
    have qz:Xy (dM v n !=0)=.bool false:=by rw[By,hok];rfl
    have hat:gk v n=eL v n:=by unfold gk;rw[hok];rfl
    by_cases he:gk v n=s
    ·have c34:=Ap (.tmp 32) (.tmp 33) (gk v n) s (r:=false) (by simpa using he)
     have z0:XB #[.agg (cD v n).toArray,.int .i64 0]=R:=(h1 ⟨hn,hok,by rw[←hat];exact he⟩).symm;refine Sx.av (args:=[.string ⟨s.toArray⟩]) [(10,.call (.tuple #[.agg (ax false f).toArray,.bool false])),(17,.call (.tuple #[.agg (cD v n).toArray,.bool true])),(22,.call (.tuple #[.string ⟨(gk v n).toArray⟩,.int .i64 (dM v n)])),ao 29 false,(34,.bin (.bool false))] [] (by kernel_rfl) func15 rfl (bN rfl) ?_;exact XI (by kernel_rfl) (Sx.t4 c10 c17 c22 qz (XD c34 z0))
    ·have c34:=Ap (.tmp 32) (.tmp 33) (gk v n) s (r:=true) (by simpa using he)
     have z0:XB #[Al,.int .i64 150]=R:=(h2 fun h=>he (by rw[hat];exact h.2.2)).symm;refine Sx.av (args:=[.string ⟨s.toArray⟩]) [(10,.call (.tuple #[.agg (ax false f).toArray,.bool false])),(17,.call (.tuple #[.agg (cD v n).toArray,.bool true])),(22,.call (.tuple #[.string ⟨(gk v n).toArray⟩,.int .i64 (dM v n)])),ao 29 false,(34,.bin (.bool true))] [] (by kernel_rfl) func15 rfl (bN rfl) ?_;exact XI (by kernel_rfl) (Sx.t4 c10 c17 c22 qz (XD c34 z0))
theorem AF{s:List UInt8}{v:Bool}{n:Nat}(h:BS s v n)(hs:s.length≤100000000)(w:World):Calls prog 15 #[.string ⟨s.toArray⟩] w (Rn w (.tuple #[.agg (cD v n).toArray,.int .i64 0])):=by
 refine AG s w v n h.1 _ ?_ (fun _=>rfl) (fun h'=>absurd h h');cases v with
 |false=>
  refine .inl ⟨rfl,fun W=>?_⟩;have:=Bp s hs W;have ht:s=fq n:=h.2.2.symm;rw[ht,J0]at this;rw[ht];have e:ax false (Nq n)=cD false n:=ni false fun j hj=>by
   have h0:=(Qm h.1).1 h.2.1 j;unfold Nq dW;split
   ·rename_i hh;rw[hh]
   ·split
    ·rename_i hh;rw[hh]
    ·split
     ·rename_i hh;rw[hh]
     ·split
      ·rename_i hh;rw[hh]
      ·exact(h0 (by omega) hj).symm
  unfold uL at this;simp only at this;rwa [e]at this
 |true=>
  have ht:s=cK (aP n):=h.2.2.symm;have h4:(dV s 0 0 false fun _=>0).2=false:=rJ s 0 0 false _ (by rw[ht];exact yf n);obtain⟨h6,h7⟩:=Lj n;refine .inr ⟨rfl,(dV s 0 0 false fun _=>0).1,true,fun W=>?_,fun W=>?_,by intro h;cases h⟩
  ·have:=Bp s hs W
   unfold uL at this;rwa [h4]at this
  ·have:=RW s hs W
   unfold yD at this;rw[ht,h6,ni true h7]at this;rw[ht];exact this
theorem AE{s:List UInt8}(h:∀v n,¬BS s v n)(hs:s.length≤100000000)(w:World):Calls prog 15 #[.string ⟨s.toArray⟩] w (Rn w (.tuple #[Al,.int .i64 150])):=by
 cases h4:(dV s 0 0 false fun _=>0).2 with
 |true=>obtain⟨n,hn,ha,_⟩:=rW false _ (QZ s 0 0 false (fun _=>0) fun _=>by show 0 < 256;omega);refine AG s w false n hn _ (.inl ⟨rfl,fun W=>?_⟩) (fun h'=>absurd h' (h _ _)) (fun _=>rfl);have:=Bp s hs W;unfold uL at this;rwa [h4,ha]at this
 |false=>
  obtain⟨n,hn,ha,_⟩:=rW true _ (SE s);refine AG s w true n hn _ (.inr ⟨rfl,(dV s 0 0 false fun _=>0).1,(qC s).2,fun W=>?_,fun W=>?_,fun _=>rfl⟩) (fun h'=>absurd h' (h _ _)) (fun _=>rfl)
  ·have:=Bp s hs W
   unfold uL at this;rwa [h4]at this
  ·have:=RW s hs W
   unfold yD at this;rwa [ha]at this
end Go.Proofs.YtnncigmpcdehnaaGreatDoor
