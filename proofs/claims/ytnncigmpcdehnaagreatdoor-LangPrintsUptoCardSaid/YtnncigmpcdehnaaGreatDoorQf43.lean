import Derived.Test.YtnncigmpcdehnaaGreatDoorQf42
namespace Go.Proofs.YtnncigmpcdehnaaGreatDoor
set_option maxRecDepth 100000
open Go Go.RowKit Go.Lib Go.Sort _root_.Go.Proofs.Tryz
set_option maxRecDepth 100000
abbrev fx:=Bs×Int
def eS(p:fx):List Value:=[ab p.1,.int .i64 p.2]
def cA(b:Bool)(c:Int)(p:fx):fx:=(p.1,aI b c p.2)
def eD(x:Bs)(p:fx):fx:=match decide (p.2=0)with
 |true=>(p.1++x++[10],p.2)
 |false=>p
def SB(g:Nat)(p:fx)(r:Sx.j6)(gl:List (Nat×TypeId×List Value)):Prop:=r=.val (.tuple #[])∧gl=[(g,142,eS p)]
theorem MN(g:Nat)(p:fx)(b:Bool)(c:Int)(w:World)(hb:au w g 142 (eS p))(PP:List PanicEntry→World→Prop):Calls prog 78 #[.pointer (some ⟨g,0,none⟩),.bool b,.int .i64 c] w (Sx.ew ⟨w,[g],PP⟩ (SB g (cA b c p))):=by
 obtain⟨s,e⟩:=p
 have h0:Sx.j6.val (Value.tuple #[])=.val (.tuple #[]):=rfl
 have c10:Value.bool (e==0)=.bool (decide (e=0)):=by by_cases h:e=0<;>simp[h]
 unfold cA aI
 cases hz:decide (e=0)with
 |false=>
  rw[hz]at c10
  have z1:[(g,142,eS (s,e))]=[(g,142,eS (s,e))]:=rfl
  cases b
  ·refine Sx.dx (args:=[.ptr 0 0,.val (.bool false),.val (.int .i64 c)]) [(g,142,eS (s,e))] (by simpa using hb) (by simp) PP [(10,.is (.bool false))] [] (by kernel_rfl) func78 rfl (cn rfl) rfl ?_
   exact Eq.mp (by kernel_rfl) (Sx.t2 c10 h0 z1)
  ·refine Sx.dx (args:=[.ptr 0 0,.val (.bool true),.val (.int .i64 c)]) [(g,142,eS (s,e))] (by simpa using hb) (by simp) PP [(10,.is (.bool false))] [] (by kernel_rfl) func78 rfl (cn rfl) rfl ?_
   exact Eq.mp (by kernel_rfl) (Sx.t2 c10 h0 z1)
 |true=>
  rw[hz]at c10
  cases b
  ·have z1:[(g,142,eS (s,c))]=[(g,142,eS (s,c))]:=rfl
   refine Sx.dx (args:=[.ptr 0 0,.val (.bool false),.val (.int .i64 c)]) [(g,142,eS (s,e))] (by simpa using hb) (by simp) PP [(10,.is (.bool true))] [] (by kernel_rfl) func78 rfl (cn rfl) rfl ?_
   exact Eq.mp (by kernel_rfl) (Sx.t2 c10 h0 z1)
  ·have z1:[(g,142,eS (s,e))]=[(g,142,eS (s,e))]:=rfl
   refine Sx.dx (args:=[.ptr 0 0,.val (.bool true),.val (.int .i64 c)]) [(g,142,eS (s,e))] (by simpa using hb) (by simp) PP [(10,.is (.bool true))] [] (by kernel_rfl) func78 rfl (cn rfl) rfl ?_
   exact Eq.mp (by kernel_rfl) (Sx.t2 c10 h0 z1)
theorem M7(g:Nat)(p:fx)(x:Bs)(hl:p.1.length+x.length≤8000000000000000000)(w:World)(hb:au w g 142 (eS p))(PP:List PanicEntry→World→Prop):Calls prog 79 #[.pointer (some ⟨g,0,none⟩),ab x] w (Sx.ew ⟨w,[g],PP⟩ (SB g (eD x p))):=by
 obtain⟨s,e⟩:=p
 have hl:s.length+x.length≤8000000000000000000:=hl
 have h0:Sx.j6.val (Value.tuple #[])=.val (.tuple #[]):=rfl
 have c8:Value.bool (e==0)=.bool (decide (e=0)):=by by_cases h:e=0<;>simp[h]
 unfold eD
 cases hz:decide (e=0)with
 |false=>
  rw[hz]at c8
  simp only
  have z1:[(g,142,eS (s,e))]=[(g,142,eS (s,e))]:=rfl
  refine Sx.dx (args:=[.ptr 0 0,.val (ab x)]) [(g,142,eS (s,e))] (by simpa using hb) (by simp) PP [(8,.is (.bool false))] [] (by kernel_rfl) func79 rfl (cn rfl) rfl ?_
  exact Eq.mp (by kernel_rfl) (Sx.t2 c8 h0 z1)
 |true=>
  rw[hz]at c8
  simp only
  have c15:=fun W=>bq (.tmp 13) (.tmp 14) s x (by omega) W
  have ir:=fun W=>bq (.tmp 15) (.const (ab [10])) (s++x) [10] (by simp only[List.length_append,List.length_cons,List.length_nil];omega) W
  have z1:[(g,142,eS (s++x++[10],e))]=[(g,142,eS (s++x++[10],e))]:=rfl
  refine Sx.dx (args:=[.ptr 0 0,.val (ab x)]) [(g,142,eS (s,e))] (by simpa using hb) (by simp) PP [(8,.is (.bool true)),(15,.bin (ab (s++x))),(16,.bin (ab (s++x++[10])))] [] (by kernel_rfl) func79 rfl (cn rfl) rfl ?_
  exact Eq.mp (by kernel_rfl) (Sx.t4 c8 c15 ir h0 z1)
theorem zr{b:Sx.aU}{W:World}{g:Nat}{p':fx}{vs:List Value}{i:Nat}{cs:Sx.Cells}{e:Ending}{w':World}(hv:vs[0]?=some (.pointer (some ⟨g,0,none⟩)))(hc:cs.list=some (eS p'))
  (h:Sx.ew ⟨W,[g],fun _ _=>False⟩ (SB g p') e w'):Sx.mG b W vs (.gk 0 i ⟨142,cs⟩ (.tuple #[])) e w':=by
 rcases h with⟨r,gl,⟨rfl,rfl⟩,hp,hb⟩ | ⟨_,_,h,_⟩
 ·have hb:=hb (g,142,eS p') (by simp)
  obtain⟨he,hch⟩:=hp
  exact⟨g,eS p',hv,hc,he,hb,hch⟩
 ·exact h.elim
theorem fV{b:Sx.aU}{W:World}{g:Nat}{p p':fx}{t:Bool}{c:Int}(hp:p'=cA t c p){i:Nat}(cs:Sx.Cells)(hc:cs.list=some (eS p'))(hb:au W g 142 (eS p)) :
  Calls prog 78 #[(pt g 0),.bool t,.int .i64 c] W (Sx.mG b W [(pt g 0),.bool t,.int .i64 c] (.gk 0 i ⟨142,cs⟩ (.tuple #[]))):=
 (MN g p t c W hb _).mono fun _ _ h=>zr rfl hc (hp ▸ h)
theorem oe{b:Sx.aU}{W:World}{g:Nat}{p p':fx}{x:Bs}(hp:p'=eD x p){i:Nat}(cs:Sx.Cells)(hc:cs.list=some (eS p'))(hl:p.1.length+x.length≤8000000000000000000)(hb:au W g 142 (eS p)) :
  Calls prog 79 #[(pt g 0),ab x] W (Sx.mG b W [(pt g 0),ab x] (.gk 0 i ⟨142,cs⟩ (.tuple #[]))):=
 (M7 g p x hl W hb _).mono fun _ _ h=>zr rfl hc (hp ▸ h)
set_option maxRecDepth 100000
open Go Go.RowKit Go.Lib Go.Sort _root_.Go.Proofs.Tryz
def so:Bs:=[111,117,116,32]
def uN(n:Int):Nat:=(n%18446744073709551616).toNat
theorem mw(n:Int):uN n < 18446744073709551616:=by unfold uN;omega
theorem Q5{n:Int}(h0:0≤n)(h1:n≤9223372036854775807):uN n=n.toNat:=by unfold uN;omega
theorem zD(n:Int):Value.int .u64 (IntKind.u64.wrap n)=.int .u64 (uN n:Int):=by
 have h:IntKind.u64.wrap n=n%18446744073709551616:=by rw[IntKind.wrap_u64]
 rw[h]
 unfold uN
 congr 1
 omega
def rZ(d1 d2 d3 d4:Bool)(x:Bs):Bs:=bif d1 then de else bif d2 then kq else bif d3 then so++x else bif d4 then ga else []
def oL(act out:Int):Bs:=rZ (act==1) (act==2) (act==3) (act==4) (aj 10 (uN out))
theorem PM(act out:Int)(d1 d2 d3 d4:Bool)(x:Bs)(u:Nat)(w:World)(hx:x.length≤20)(c7:Value.bool (act==1)=.bool d1)(c9:Value.bool (act==2)=.bool d2)(oA:Value.bool (act==3)=.bool d3)(c17:Value.bool (act==4)=.bool d4)
  (c13:Value.int .u64 (IntKind.u64.wrap out)=.int .u64 (u:Int)) (c14:∀W,ai [] w W→Calls prog 80 #[.int .u64 (u:Int)] W (Rn W (ab x))) :
  Calls prog 82 #[.int .i64 act,.int .i64 out] w (Rn w (ab (rZ d1 d2 d3 d4 x))):=by
 have c15:=fun W=>bq (.const (ab so)) (.tmp 14) so x (by show 4+x.length≤_;omega) W
 refine Sx.aF (args:=[.int .i64 act,.int .i64 out]) [(7,.is (.bool d1)),(9,.is (.bool d2)),(11,.is (.bool d3)),(17,.is (.bool d4)),(13,.is (.int .u64 (u:Int))),(14,.call (ab x)),(15,.bin (ab (so++x)))] [] (by kernel_rfl) func82 rfl (cn rfl) ?_
 exact Eq.mp (by kernel_rfl) (And.intro c7 (Sx.aw (b:=d1) (fun hb0=>(show Go.Value.string { data:=#[114,111,117,116,101] }=Go.Value.string { data:=List.toArray (rZ d1 d2 d3 d4 x) }from by cases hb0<;>rfl)) (fun hb0=>(And.intro c9 (Sx.aw (b:=d2) (fun hb2=>(show Go.Value.string { data:=#[100,114,111,112] }=Go.Value.string { data:=List.toArray (rZ d1 d2 d3 d4 x) }from by subst_vars;trivial)) (fun hb2=>(And.intro oA (Sx.aw (b:=d3) (fun hb4=>(Sx.t2 c13 c14 (And.intro c15 (show Go.Value.string { data:=List.toArray (so++x) }=Go.Value.string { data:=List.toArray (rZ d1 d2 d3 d4 x) }from by subst_vars;trivial)))) (fun hb4=>(And.intro c17 (Sx.aw (b:=d4) (fun hb6=>(show Go.Value.string { data:=#[114,101,106,101,99,116] }=Go.Value.string { data:=List.toArray (rZ d1 d2 d3 d4 x) }from by subst_vars;trivial)) (fun hb6=>(show Go.Value.string { data:=#[] }=Go.Value.string { data:=List.toArray (rZ d1 d2 d3 d4 x) }from by subst_vars;trivial)))))))))))))
theorem IY(act out:Int)(w:World):Calls prog 82 #[.int .i64 act,.int .i64 out] w (Rn w (ab (oL act out))):=
 PM act out _ _ _ _ _ (uN out) w (dv _ (mw _)) rfl rfl rfl rfl (zD out) fun W _=>jM _ (mw _) W
set_option maxRecDepth 100000
open Go Go.RowKit Go.Lib Go.Sort _root_.Go.Proofs.Tryz
def vc:Bs:=[114,117,108,101,32]
def AT:Bs:=[32,45,62,32]
def qv:Bs:=[32,109,101,116,101,114,32]
def vd:Bs:=[32,109,105,114,114,111,114,32]
def PZ(a b:Nat)(t:Bool):List (Nat×Sx.SV):=[(0,.ptr 0 0),(3,.ptr 1 0),(a,.ptr 0 0),(b,.val (.bool t))]
def wm(s:Bs):List (Nat×Sx.SV):=[(0,.ptr 0 0),(3,.ptr 1 0),(4,.val (ab s))]
def eU(g:Nat)(p:fx)(r:Rl):List Sx.Row:=[⟨142,.dF g (eS p)⟩,⟨81,.ak r.cells⟩]
theorem di(x y:Operand)(a b:Bs){s:Bs}(hs:s=a++b)(h:a.length+b.length≤9000000000000000000)(W:World):(do eqGuard .add 9 x y (ab a) (ab b);binOp .add 9 (ab a) (ab b):Sem Value).run prog W=.ok (ab s) W:=by
 rw[hs]
 exact bq x y a b h W
theorem MT(g:Nat)(r:Rl)(p p1 p2 p3 p4 p5 p6:fx)(w:World)(hb:au w g 142 (eS p))(PP:List PanicEntry→World→Prop)
  (n1 ck a1 a2 a3 a4 a5 z1 z2 n2 n3 bad _m1 _m2:Bool) (t x:Bs) (s1 s2 s3 s4 s5 s6 s7 s8 s9:Bs)
  (c8:∀W,ai [g] w W→Calls prog 34 #[ab r.name] W (Rn W (.bool n1)))
  (c13:∀W,ai [g] w W→Calls prog 88 #[j5 r.mt] W (Rn W (.bool ck)))
  (c18:Value.bool (decide (r.act≥1))=.bool a1) (c22:Value.bool (decide (r.act≤4))=.bool a2) (c27:Value.bool (decide (r.out≥0))=.bool a3) (c32:Value.bool (r.out==0)=.bool a4) (c36:Value.bool (r.act==3)=.bool a5)
  (hz1:decide (r.bC=[])=z1) (hz2:decide (r.aP=[])=z2) (c64:Value.bool (p5.2 !=0)=.bool bad)
  (c47:∀W,ai [g] w W→Calls prog 34 #[ab r.bC] W (Rn W (.bool n2)))
  (c57:∀W,ai [g] w W→Calls prog 34 #[ab r.aP] W (Rn W (.bool n3)))
  (c71:∀W,ai [g] w W→Calls prog 89 #[j5 r.mt] W (Rn W (ab t)))
  (c78:∀W,ai [g] w W→Calls prog 82 #[.int .i64 r.act,.int .i64 r.out] W (Rn W (ab x)))
  (w1:p1=cA n1 201 p) (w2:p2=cA ck 190 p1) (w3:p3=cA (((a1&&a2)&&a3)&&(a4||a5)) 2 p2) (w4:p4=cA (z1||n2) 201 p3) (w5:p5=cA (z2||n3) 201 p4)
  (e1:s1=vc++r.name) (e2:s2=s1++[32]) (e3:s3=s2++t) (e4:s4=s3++AT) (e5:s5=s4++x) (e6:s6=s5++qv) (e7:s7=if z1=true then s5 else s6++r.bC) (e8:s8=s7++vd) (e9:s9=if z2=true then s7 else s8++r.aP)
  (l0:p5.1.length≤1000000000000000000) (l1:r.name.length≤1000000000000000) (l2:t.length≤1000000000000000) (l3:x.length≤100) (l4:r.bC.length≤1000000000000000) (l5:r.aP.length≤1000000000000000)
  (hp6:p6=if bad=true then p5 else eD s9 p5) :
  Calls prog 81 #[.pointer (some ⟨g,0,none⟩),.agg r.cells.toArray] w (Sx.ew ⟨w,[g],PP⟩ (SB g p6)):=by
 have k1:s1.length≤2000000000000000:=by rw[e1,List.length_append];show 5+_≤_;omega
 have k2:s2.length≤2000000000000001:=by rw[e2,List.length_append];show _+1≤_;omega
 have k3:s3.length≤3000000000000001:=by rw[e3,List.length_append];omega
 have k4:s4.length≤3000000000000005:=by rw[e4,List.length_append];show _+4≤_;omega
 have k5:s5.length≤3000000000000105:=by rw[e5,List.length_append];omega
 have k6:s6.length≤3000000000000112:=by rw[e6,List.length_append];show _+7≤_;omega
 have k7:s7.length≤4000000000000112:=by rw[e7];split;omega;rw[List.length_append];omega
 have k8:s8.length≤4000000000000120:=by rw[e8,List.length_append];show _+8≤_;omega
 have k9:s9.length≤5000000000000120:=by rw[e9];split;omega;rw[List.length_append];omega
 have c9:=fun W (_:ai [g] w W) (hb:au W g 142 (eS p))=>fV (b:=⟨w,[g],PP⟩) w1 (i:=0) (.dF g _) rfl hb
 have c14:=fun W (_:ai [g] w W) (hb:au W g 142 (eS p1))=>fV (b:=⟨w,[g],PP⟩) w2 (i:=0) (.dF g _) rfl hb
 have c39:=fun W (_:ai [g] w W) (hb:au W g 142 (eS p2))=>fV (b:=⟨w,[g],PP⟩) w3 (i:=0) (.dF g _) rfl hb
 have c49:=fun W (_:ai [g] w W) (hb:au W g 142 (eS p3))=>fV (b:=⟨w,[g],PP⟩) w4 (i:=0) (.dF g _) rfl hb
 have c59:=fun W (_:ai [g] w W) (hb:au W g 142 (eS p4))=>fV (b:=⟨w,[g],PP⟩) w5 (i:=0) (.dF g _) rfl hb
 have c43:=fun W=>bJ (.tmp 42) (.const (ab [])) r.bC [] z1 hz1 W
 have c53:=fun W=>bJ (.tmp 52) (.const (ab [])) r.aP [] z2 hz2 W
 have c67:=fun W=>di (.const (ab vc)) (.tmp 66) vc r.name e1 (by show 5+_≤_;omega) W
 have c68:=fun W=>di (.tmp 67) (.const (ab [32])) s1 [32] e2 (by show _+1≤_;omega) W
 have c72:=fun W=>di (.tmp 68) (.tmp 71) s2 t e3 (by omega) W
 have c73:=fun W=>di (.tmp 72) (.const (ab AT)) s3 AT e4 (by show _+4≤_;omega) W
 have c79:=fun W=>di (.tmp 73) (.tmp 78) s4 x e5 (by omega) W
 have hm1:∀y:Bs,(decide (y≠[]):Bool)=!decide (y=[]):=fun y=>by by_cases h:y=[]<;>simp[h]
 have c82:=fun W=>(lQ (.tmp 81) (.const (ab [])) r.bC [] W).trans (show _=Result.ok (Value.bool (!z1)) W by rw[hm1,hz1])
 have c90:=fun W=>(lQ (.tmp 89) (.const (ab [])) r.aP [] W).trans (show _=Result.ok (Value.bool (!z2)) W by rw[hm1,hz2])
 have nb:∀{z:Bool},(!z)=true→z=false:=fun {z} h=>by cases z;rfl;cases h
 have nb2:∀{z:Bool},(!z)=false→z=true:=fun {z} h=>by cases z;cases h;rfl
 have h28:=(rfl:wm s7=wm s7)
 have h33:=(rfl:wm s9=wm s9)
 have h30f:=fun(_:bad=false) (h:(!z1)=false)=>(show wm s5=wm s7 from by rw[e7,if_pos (nb2 h)])
 have h35f:=fun(_:bad=false) (h:(!z2)=false)=>(show wm s7=wm s9 from by rw[e9,if_pos (nb2 h)])
 have z29:=(rfl:eU g p5 r=eU g p5 r)
 have z31:=z29
 have z34:=z29
 have z36:=z29
 have z26f:=fun(h:bad=true)=>(show [(g,142,eS p5)]=[(g,142,eS p6)]from by rw[hp6,if_pos h])
 have z38:=(rfl:[(g,142,eS p6)]=[(g,142,eS p6)])
 have c84:=fun W=>di (.tmp 83) (.const (ab qv)) s5 qv e6 (by show _+7≤_;omega) W
 have c92:=fun W=>di (.tmp 91) (.const (ab vd)) s7 vd e8 (by show _+8≤_;omega) W
 have c87f:=fun(_:bad=false) (h:(!z1)=true) W=>di (.tmp 84) (.tmp 86) s6 r.bC (s:=s7) (by rw[e7,if_neg (by rw[nb h];decide)]) (by omega) W
 have c95f:=fun(_:bad=false) (h:(!z2)=true) W=>di (.tmp 92) (.tmp 94) s8 r.aP (s:=s9) (by rw[e9,if_neg (by rw[nb h];decide)]) (by omega) W
 have c98f:=fun(h:bad=false) W (_:ai [g] w W) (hb:au W g 142 (eS p5))=>oe (b:=⟨w,[g],PP⟩) (p:=p5) (p':=p6) (x:=s9) (by rw[hp6,if_neg (by rw[h];decide)]) (i:=0) (.dF g _) rfl (by omega) hb
 have z5:=(rfl:eU g p2 r=eU g p2 r)
 have z7:=(rfl:eU g p2 r=eU g p2 r)
 have z9:=(rfl:eU g p2 r=eU g p2 r)
 have z11:=(rfl:eU g p2 r=eU g p2 r)
 have z13:=(rfl:eU g p2 r=eU g p2 r)
 have z16:=(rfl:eU g p3 r=eU g p3 r)
 have z18:=(rfl:eU g p3 r=eU g p3 r)
 have z21:=(rfl:eU g p4 r=eU g p4 r)
 have z23:=(rfl:eU g p4 r=eU g p4 r)
 refine Sx.dx (args:=[.ptr 0 0,.val (.agg r.cells.toArray)]) [(g,142,eS p)] (by simpa using hb) (by simp) PP [(8,.call (.bool n1)),(9,.fP 0 (eS p1) (.tuple #[])),(13,.call (.bool ck)),(14,.fP 0 (eS p2) (.tuple #[])),
  (18,.is (.bool a1)),(22,.is (.bool a2)),(27,.is (.bool a3)),(32,.is (.bool a4)),(36,.is (.bool a5)),(700003,.GZ [(24,PZ 15 38 (((a1&&a2)&&a3)&&(a4||a5)),eU g p2 r)]),(39,.fP 0 (eS p3) (.tuple #[])),
  (43,.bin (.bool z1)),(47,.call (.bool n2)),(700004,.GZ [(9,PZ 40 48 (z1||n2),eU g p3 r)]),(49,.fP 0 (eS p4) (.tuple #[])),
  (53,.bin (.bool z2)),(57,.call (.bool n3)),(700005,.GZ [(9,PZ 50 58 (z2||n3),eU g p4 r)]),(59,.fP 0 (eS p5) (.tuple #[])),(64,.is (.bool bad)),
  (67,.bin (ab s1)),(68,.bin (ab s2)),(71,.call (ab t)),(72,.bin (ab s3)),(73,.bin (ab s4)),(78,.call (ab x)),(79,.bin (ab s5)),
  (82,.bin (.bool (!z1))),(84,.bin (ab s6)),(87,.bin (ab s7)),(500082,.join (wm s7) (eU g p5 r)),(90,.bin (.bool (!z2))),(92,.bin (ab s8)),(95,.bin (ab s9)),(500090,.join (wm s9) (eU g p5 r)),
  (98,.fP 0 (eS p6) (.tuple #[]))] [] (by kernel_rfl) func81 rfl (cn rfl) rfl ?_
 exact Eq.mp (by kernel_rfl) (Sx.t8 c8 c9 c13 c14 (And.intro c18 (Sx.aw (b:=a1) (fun hb0=>(And.intro c22 (Sx.aw (b:=a2) (fun hb1=>(And.intro c27 (Sx.aw (b:=a3) (fun hb2=>(And.intro c32 (Sx.aw (b:=a4) (fun hb3=>(And.intro (show [(0,Sx.SV.ptr 0 0),(3,Sx.SV.ptr 1 0),(15,Sx.SV.ptr 0 0),(38,Sx.SV.val (Go.Value.bool true))]=[(0,Sx.SV.ptr 0 0),(3,Sx.SV.ptr 1 0),(15,Sx.SV.ptr 0 0),(38,Sx.SV.val (Go.Value.bool (a1&&a2&&a3&&(a4||a5))))]from by subst_vars;trivial) z5)) (fun hb3=>(Sx.t2 c36 (show [(0,Sx.SV.ptr 0 0),(3,Sx.SV.ptr 1 0),(15,Sx.SV.ptr 0 0),(38,Sx.SV.val (Go.Value.bool a5))]=[(0,Sx.SV.ptr 0 0),(3,Sx.SV.ptr 1 0),(15,Sx.SV.ptr 0 0),(38,Sx.SV.val (Go.Value.bool (a1&&a2&&a3&&(a4||a5))))]from by subst_vars;trivial) z7))))) (fun hb2=>(And.intro (show [(0,Sx.SV.ptr 0 0),(3,Sx.SV.ptr 1 0),(15,Sx.SV.ptr 0 0),(38,Sx.SV.val (Go.Value.bool false))]=[(0,Sx.SV.ptr 0 0),(3,Sx.SV.ptr 1 0),(15,Sx.SV.ptr 0 0),(38,Sx.SV.val (Go.Value.bool (a1&&a2&&a3&&(a4||a5))))]from by subst_vars;trivial) z9))))) (fun hb1=>(And.intro (show [(0,Sx.SV.ptr 0 0),(3,Sx.SV.ptr 1 0),(15,Sx.SV.ptr 0 0),(38,Sx.SV.val (Go.Value.bool false))]=[(0,Sx.SV.ptr 0 0),(3,Sx.SV.ptr 1 0),(15,Sx.SV.ptr 0 0),(38,Sx.SV.val (Go.Value.bool (a1&&a2&&a3&&(a4||a5))))]from by subst_vars;trivial) z11))))) (fun hb0=>(And.intro (show [(0,Sx.SV.ptr 0 0),(3,Sx.SV.ptr 1 0),(15,Sx.SV.ptr 0 0),(38,Sx.SV.val (Go.Value.bool false))]=[(0,Sx.SV.ptr 0 0),(3,Sx.SV.ptr 1 0),(15,Sx.SV.ptr 0 0),(38,Sx.SV.val (Go.Value.bool (a1&&a2&&a3&&(a4||a5))))]from by cases hb0<;>rfl) z13)))) c39 (And.intro c43 (Sx.aw (b:=z1) (fun hb14=>(And.intro (show [(0,Sx.SV.ptr 0 0),(3,Sx.SV.ptr 1 0),(40,Sx.SV.ptr 0 0),(48,Sx.SV.val (Go.Value.bool true))]=[(0,Sx.SV.ptr 0 0),(3,Sx.SV.ptr 1 0),(40,Sx.SV.ptr 0 0),(48,Sx.SV.val (Go.Value.bool (z1||n2)))]from by cases hb14<;>rfl) z16)) (fun hb14=>(Sx.t2 c47 (show [(0,Sx.SV.ptr 0 0),(3,Sx.SV.ptr 1 0),(40,Sx.SV.ptr 0 0),(48,Sx.SV.val (Go.Value.bool n2))]=[(0,Sx.SV.ptr 0 0),(3,Sx.SV.ptr 1 0),(40,Sx.SV.ptr 0 0),(48,Sx.SV.val (Go.Value.bool (z1||n2)))]from by cases hb14<;>rfl) z18)))) c49 (Sx.t2 (And.intro c53 (Sx.aw (b:=z2) (fun hb19=>(And.intro (show [(0,Sx.SV.ptr 0 0),(3,Sx.SV.ptr 1 0),(50,Sx.SV.ptr 0 0),(58,Sx.SV.val (Go.Value.bool true))]=[(0,Sx.SV.ptr 0 0),(3,Sx.SV.ptr 1 0),(50,Sx.SV.ptr 0 0),(58,Sx.SV.val (Go.Value.bool (z2||n3)))]from by cases hb19<;>rfl) z21)) (fun hb19=>(Sx.t2 c57 (show [(0,Sx.SV.ptr 0 0),(3,Sx.SV.ptr 1 0),(50,Sx.SV.ptr 0 0),(58,Sx.SV.val (Go.Value.bool n3))]=[(0,Sx.SV.ptr 0 0),(3,Sx.SV.ptr 1 0),(50,Sx.SV.ptr 0 0),(58,Sx.SV.val (Go.Value.bool (z2||n3)))]from by cases hb19<;>rfl) z23)))) c59 (And.intro c64 (Sx.aw (b:=bad) (fun hb24=>(And.intro (show Sx.j6.val (Go.Value.tuple { toList:=[] })=Sx.j6.val (Go.Value.tuple { toList:=[] })from by cases hb24<;>rfl) (z26f hb24))) (fun hb24=>(Sx.t8 c67 c68 c71 c72 c73 c78 c79 c82 (Sx.t4 (Sx.aw (b:=!z1) (fun hb27=>(Sx.t2 c84 (c87f hb24 hb27) (And.intro h28 z29))) (fun hb27=>(And.intro (h30f hb24 hb27) z31))) c90 (Sx.aw (b:=!z2) (fun hb32=>(Sx.t2 c92 (c95f hb24 hb32) (And.intro h33 z34))) (fun hb32=>(And.intro (h35f hb24 hb32) z36))) (c98f hb24) (And.intro (show Sx.j6.val (Go.Value.tuple { toList:=[] })=Sx.j6.val (Go.Value.tuple { toList:=[] })from by cases hb24<;>rfl) z38))))))))
end Go.Proofs.YtnncigmpcdehnaaGreatDoor
