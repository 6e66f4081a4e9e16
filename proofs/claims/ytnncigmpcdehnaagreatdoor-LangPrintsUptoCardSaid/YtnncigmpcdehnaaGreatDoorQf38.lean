import Derived.Test.YtnncigmpcdehnaaGreatDoorQf37
namespace Go.Proofs.YtnncigmpcdehnaaGreatDoor
set_option maxRecDepth 100000
open Go Go.RowKit Go.Lib Go.Sort _root_.Go.Proofs.Tryz
set_option maxRecDepth 100000
def gz{α:Type}(a b:List α)(k:Nat):Prop:=∀j,j < k→a[j]?=b[j]?
theorem gz.all{α:Type}{a b:List α}(h:gz a b a.length)(hl:a.length=b.length):a=b:=by
 refine List.ext_getElem? fun j=>?_
 by_cases hj:j < a.length
 ·exact h j hj
 ·rw[List.getElem?_eq_none (by omega),List.getElem?_eq_none (by omega)]
def sR(B:Bool)(l:List Sx.SV)(_:List Sx.Row):Prop:=l=[.val (.bool B)]
def br(a b:CF)(s t:ey):List Sx.Row:=[⟨46,.ak (al a s)⟩,⟨46,.ak (al b t)⟩]
theorem bE(a:Int):Value.bool (a !=a)=.bool false:=by simp
theorem Re{w:World}(a b:CF)(s t:ey)(ha:dj w [] a s)(hb:dj w [] b t)(wa:da a)(wb:da b)(fa:fb a)(hl:a.ag.length=b.ag.length)(B:Bool)(hB:a.ag≠b.ag→B=false)(i:Nat)(hi:i≤a.ag.length∧gz a.ag b.ag i) :
  ∃H' L',Sx.jU prog f25.ntmps ⟨w,[],fun _ _=>False⟩ (Sx.aQ f25 0) H' L' ⟨[(2,.ptr 0 0),(3,.ptr 1 0),(5,.val (.int .i64 ((i:Nat):Int)))],br a b s t⟩
   (Sx.dR (fun i=>i≤a.ag.length∧gz a.ag b.ag i) (fun i=>[(2,.ptr 0 0),(3,.ptr 1 0),(5,.val (.int .i64 ((i:Nat):Int)))]) (fun _=>br a b s t) (fun i=>i+1) (fun i=>a.ag.length - i) (fun(_:Unit)=>a.ag=b.ag) (fun _=>[(2,.ptr 0 0),(3,.ptr 1 0)]) (fun _=>br a b s t) (fun _=>()) (Sx.dM (Sx.aQ f25 0) - 1) (Sx.bY prog f25 (sR B) .ret) i):=by
 have xG:=fa.p
 by_cases hlt:i < a.ag.length
 ·have c64:=bT ((i:Int) < (a.ag.length:Int)) (by omega)
  have hx:=getD_at hlt
  have hy:=getD_at (l:=b.ag) (i:=i) (by omega)
  have wx:=wa.p _ (bX hlt)
  have wy:=wb.p _ (bX (l:=b.ag) (i:=i) (by omega))
  obtain⟨inf,hi1,hi2⟩:=cY (P:=prog) (t:=3) (n:=1) (by kernel_rfl)
  obtain⟨p,hp1,hp2⟩:=ha.p.QG underlying40 hi1 hi2 underlying3 rfl hx
  obtain⟨q,hq1,hq2⟩:=hb.p.QG underlying40 hi1 hi2 underlying3 rfl hy
  obtain⟨x,hxe⟩:∃x,x=a.ag.getD i default:=⟨_,rfl⟩
  obtain⟨y,hye⟩:∃y,y=b.ag.getD i default:=⟨_,rfl⟩
  rw[←hxe]at hx wx hp2
  rw[←hye]at hy wy hq2
  clear hi1 hi2 hxe hye
  have c70:=hp1
  have c71:=hp2
  have c75:=hq1
  have c76:=hq2
  by_cases hxy:x=y
  ·have c77:Value.bool (x !=y)=.bool false:=by rw[hxy];exact bE y
   have c66:=my (i:=i) (by omega)
   have h0:i+1≤a.ag.length∧gz a.ag b.ag (i+1):=⟨hlt,fun j hj=>by
    by_cases hji:j=i
    ·subst hji;rw[hx,hy,hxy]
    ·exact hi.2 j (by omega)⟩
   have h1:a.ag.length - (i+1) < a.ag.length - i:=by omega
   have h2:([(2,.ptr 0 0),(3,.ptr 1 0),(5,.val (.int .i64 ((i+1:Nat):Int)))]:List (Nat×Sx.SV))=[(2,.ptr 0 0),(3,.ptr 1 0),(5,.val (.int .i64 ((i+1:Nat):Int)))]:=rfl
   have z3:br a b s t=br a b s t:=rfl
   refine⟨[(64,.is (.bool true)),(70,.any p),(71,.any (.int .i64 x)),(75,.any q),(76,.any (.int .i64 y)),(77,.is (.bool false)),(66,.is (.int .i64 ((i+1:Nat):Int)))],[],?_⟩
   exact Eq.mp (by kernel_rfl) (Sx.t8 c64 c70 c71 c75 c76 c77 c66 h0 (Sx.t2 h1 h2 z3))
  ·have c77:Value.bool (x !=y)=.bool true:=j4 (bne_iff_ne.2 hxy)
   have hf:B=false:=hB fun he=>hxy (by rw[he,hy]at hx;exact(Option.some.inj hx).symm)
   have z0:sR B [.val (.bool false)] []:=by rw[hf];rfl
   refine⟨[(64,.is (.bool true)),(70,.any p),(71,.any (.int .i64 x)),(75,.any q),(76,.any (.int .i64 y)),(77,.is (.bool true))],[],?_⟩
   exact Eq.mp (by kernel_rfl) (Sx.t4 c64 c70 c71 c75 (Sx.t2 c76 c77 z0))
 ·have c64:=bF ((i:Int) < (a.ag.length:Int)) (by omega)
  have hin:i=a.ag.length:=by omega
  have h0:a.ag=b.ag:=gz.all (by rw[←hin];exact hi.2) hl
  have h1:([(2,.ptr 0 0),(3,.ptr 1 0)]:List (Nat×Sx.SV))=[(2,.ptr 0 0),(3,.ptr 1 0)]:=rfl
  have z2:br a b s t=br a b s t:=rfl
  refine⟨[(64,.is (.bool false))],[],?_⟩
  exact Eq.mp (by kernel_rfl) (Sx.t2 c64 h0 (And.intro h1 z2))
theorem Rd{w:World}(a b:CF)(s t:ey)(ha:dj w [] a s)(hb:dj w [] b t)(wa:da a)(wb:da b)(fa:fb a)(hl:a.ae.length=b.ae.length)(B:Bool)(hB:a.ae≠b.ae→B=false)(i:Nat)(hi:i≤a.ae.length∧gz a.ae b.ae i) :
  ∃H' L',Sx.jU prog f25.ntmps ⟨w,[],fun _ _=>False⟩ (Sx.aQ f25 1) H' L' ⟨[(2,.ptr 0 0),(3,.ptr 1 0),(6,.val (.int .i64 ((i:Nat):Int)))],br a b s t⟩
   (Sx.dR (fun i=>i≤a.ae.length∧gz a.ae b.ae i) (fun i=>[(2,.ptr 0 0),(3,.ptr 1 0),(6,.val (.int .i64 ((i:Nat):Int)))]) (fun _=>br a b s t) (fun i=>i+1) (fun i=>a.ae.length - i) (fun(_:Unit)=>a.ae=b.ae) (fun _=>[(2,.ptr 0 0),(3,.ptr 1 0)]) (fun _=>br a b s t) (fun _=>()) (Sx.dM (Sx.aQ f25 1) - 1) (Sx.bY prog f25 (sR B) .ret) i):=by
 have xG:=fa.r
 by_cases hlt:i < a.ae.length
 ·have c82:=bT ((i:Int) < (a.ae.length:Int)) (by omega)
  have hx:=getD_at hlt
  have hy:=getD_at (l:=b.ae) (i:=i) (by omega)
  have wx:=wa.r _ (bX hlt)
  have wy:=wb.r _ (bX (l:=b.ae) (i:=i) (by omega))
  obtain⟨inf,hi1,hi2⟩:=cY (P:=prog) (t:=118) (n:=19) (by kernel_rfl)
  obtain⟨p,hp1,hp2⟩:=ha.r.FA Rt.az underlying41 hi1 hi2 underlying118 rfl (by omega) hx
  obtain⟨q,hq1,hq2⟩:=hb.r.FA Rt.az underlying41 hi1 hi2 underlying118 rfl (by omega) hy
  obtain⟨x,hxe⟩:∃x,x=a.ae.getD i default:=⟨_,rfl⟩
  obtain⟨y,hye⟩:∃y,y=b.ae.getD i default:=⟨_,rfl⟩
  rw[←hxe]at hx wx hp2
  rw[←hye]at hy wy hq2
  clear hi1 hi2 hxe hye
  have c88:=hp1
  have c89:=hp2
  have c93:=hq1
  have c94:=hq2
  by_cases hxy:x=y
  ·have c95:=fun W=>(Iz (.tmp 89) (.tmp 94) wx wy W).trans (by rw[(bD x y).2 hxy];rfl:_=Result.ok (.bool false) W)
   have c84:=my (i:=i) (by omega)
   have h0:i+1≤a.ae.length∧gz a.ae b.ae (i+1):=⟨hlt,fun j hj=>by
    by_cases hji:j=i
    ·subst hji;rw[hx,hy,hxy]
    ·exact hi.2 j (by omega)⟩
   have h1:a.ae.length - (i+1) < a.ae.length - i:=by omega
   have h2:([(2,.ptr 0 0),(3,.ptr 1 0),(6,.val (.int .i64 ((i+1:Nat):Int)))]:List (Nat×Sx.SV))=[(2,.ptr 0 0),(3,.ptr 1 0),(6,.val (.int .i64 ((i+1:Nat):Int)))]:=rfl
   have z3:br a b s t=br a b s t:=rfl
   refine⟨[(82,.is (.bool true)),(88,.any p),(89,.any (.agg x.cells.toArray)),(93,.any q),(94,.any (.agg y.cells.toArray)),(95,.bin (.bool false)),(84,.is (.int .i64 ((i+1:Nat):Int)))],[],?_⟩
   exact Eq.mp (by kernel_rfl) (Sx.t8 c82 c88 c89 c93 c94 c95 c84 h0 (Sx.t2 h1 h2 z3))
  ·have c95:=fun W=>(Iz (.tmp 89) (.tmp 94) wx wy W).trans (by rw[show cx x y=false from Bool.eq_false_iff.2 fun hh=>hxy ((bD x y).1 hh)];rfl:_=Result.ok (.bool true) W)
   have hf:B=false:=hB fun he=>hxy (by rw[he,hy]at hx;exact(Option.some.inj hx).symm)
   have z0:sR B [.val (.bool false)] []:=by rw[hf];rfl
   refine⟨[(82,.is (.bool true)),(88,.any p),(89,.any (.agg x.cells.toArray)),(93,.any q),(94,.any (.agg y.cells.toArray)),(95,.bin (.bool true))],[],?_⟩
   exact Eq.mp (by kernel_rfl) (Sx.t4 c82 c88 c89 c93 (Sx.t2 c94 c95 z0))
 ·have c82:=bF ((i:Int) < (a.ae.length:Int)) (by omega)
  have hin:i=a.ae.length:=by omega
  have h0:a.ae=b.ae:=gz.all (by rw[←hin];exact hi.2) hl
  have h1:([(2,.ptr 0 0),(3,.ptr 1 0)]:List (Nat×Sx.SV))=[(2,.ptr 0 0),(3,.ptr 1 0)]:=rfl
  have z2:br a b s t=br a b s t:=rfl
  refine⟨[(82,.is (.bool false))],[],?_⟩
  exact Eq.mp (by kernel_rfl) (Sx.t2 c82 h0 (And.intro h1 z2))
theorem Rc{w:World}(a b:CF)(s t:ey)(ha:dj w [] a s)(hb:dj w [] b t)(wa:da a)(wb:da b)(fa:fb a)(hl:a.af.length=b.af.length)(B:Bool)(hB:a.af≠b.af→B=false)(i:Nat)(hi:i≤a.af.length∧gz a.af b.af i) :
  ∃H' L',Sx.jU prog f25.ntmps ⟨w,[],fun _ _=>False⟩ (Sx.aQ f25 2) H' L' ⟨[(2,.ptr 0 0),(3,.ptr 1 0),(7,.val (.int .i64 ((i:Nat):Int)))],br a b s t⟩
   (Sx.dR (fun i=>i≤a.af.length∧gz a.af b.af i) (fun i=>[(2,.ptr 0 0),(3,.ptr 1 0),(7,.val (.int .i64 ((i:Nat):Int)))]) (fun _=>br a b s t) (fun i=>i+1) (fun i=>a.af.length - i) (fun(_:Unit)=>a.af=b.af) (fun _=>[(2,.ptr 0 0),(3,.ptr 1 0)]) (fun _=>br a b s t) (fun _=>()) (Sx.dM (Sx.aQ f25 2) - 1) (Sx.bY prog f25 (sR B) .ret) i):=by
 have xG:=fa.m
 by_cases hlt:i < a.af.length
 ·have c100:=bT ((i:Int) < (a.af.length:Int)) (by omega)
  have hx:=getD_at hlt
  have hy:=getD_at (l:=b.af) (i:=i) (by omega)
  have wx:=wa.m _ (bX hlt)
  have wy:=wb.m _ (bX (l:=b.af) (i:=i) (by omega))
  obtain⟨inf,hi1,hi2⟩:=cY (P:=prog) (t:=122) (n:=4) (by kernel_rfl)
  obtain⟨p,hp1,hp2⟩:=ha.m.FA Me.az underlying43 hi1 hi2 underlying122 rfl (by omega) hx
  obtain⟨q,hq1,hq2⟩:=hb.m.FA Me.az underlying43 hi1 hi2 underlying122 rfl (by omega) hy
  obtain⟨x,hxe⟩:∃x,x=a.af.getD i default:=⟨_,rfl⟩
  obtain⟨y,hye⟩:∃y,y=b.af.getD i default:=⟨_,rfl⟩
  rw[←hxe]at hx wx hp2
  rw[←hye]at hy wy hq2
  clear hi1 hi2 hxe hye
  have c106:=hp1
  have c107:=hp2
  have c111:=hq1
  have c112:=hq2
  by_cases hxy:x=y
  ·have c113:=fun W=>(Jx (.tmp 107) (.tmp 112) wx wy W).trans (by rw[(bD x y).2 hxy];rfl:_=Result.ok (.bool false) W)
   have c102:=my (i:=i) (by omega)
   have h0:i+1≤a.af.length∧gz a.af b.af (i+1):=⟨hlt,fun j hj=>by
    by_cases hji:j=i
    ·subst hji;rw[hx,hy,hxy]
    ·exact hi.2 j (by omega)⟩
   have h1:a.af.length - (i+1) < a.af.length - i:=by omega
   have h2:([(2,.ptr 0 0),(3,.ptr 1 0),(7,.val (.int .i64 ((i+1:Nat):Int)))]:List (Nat×Sx.SV))=[(2,.ptr 0 0),(3,.ptr 1 0),(7,.val (.int .i64 ((i+1:Nat):Int)))]:=rfl
   have z3:br a b s t=br a b s t:=rfl
   refine⟨[(100,.is (.bool true)),(106,.any p),(107,.any (.agg x.cells.toArray)),(111,.any q),(112,.any (.agg y.cells.toArray)),(113,.bin (.bool false)),(102,.is (.int .i64 ((i+1:Nat):Int)))],[],?_⟩
   exact Eq.mp (by kernel_rfl) (Sx.t8 c100 c106 c107 c111 c112 c113 c102 h0 (Sx.t2 h1 h2 z3))
  ·have c113:=fun W=>(Jx (.tmp 107) (.tmp 112) wx wy W).trans (by rw[show cx x y=false from Bool.eq_false_iff.2 fun hh=>hxy ((bD x y).1 hh)];rfl:_=Result.ok (.bool true) W)
   have hf:B=false:=hB fun he=>hxy (by rw[he,hy]at hx;exact(Option.some.inj hx).symm)
   have z0:sR B [.val (.bool false)] []:=by rw[hf];rfl
   refine⟨[(100,.is (.bool true)),(106,.any p),(107,.any (.agg x.cells.toArray)),(111,.any q),(112,.any (.agg y.cells.toArray)),(113,.bin (.bool true))],[],?_⟩
   exact Eq.mp (by kernel_rfl) (Sx.t4 c100 c106 c107 c111 (Sx.t2 c112 c113 z0))
 ·have c100:=bF ((i:Int) < (a.af.length:Int)) (by omega)
  have hin:i=a.af.length:=by omega
  have h0:a.af=b.af:=gz.all (by rw[←hin];exact hi.2) hl
  have h1:([(2,.ptr 0 0),(3,.ptr 1 0)]:List (Nat×Sx.SV))=[(2,.ptr 0 0),(3,.ptr 1 0)]:=rfl
  have z2:br a b s t=br a b s t:=rfl
  refine⟨[(100,.is (.bool false))],[],?_⟩
  exact Eq.mp (by kernel_rfl) (Sx.t2 c100 h0 (And.intro h1 z2))
theorem Rb{w:World}(a b:CF)(s t:ey)(ha:dj w [] a s)(hb:dj w [] b t)(wa:da a)(wb:da b)(fa:fb a)(hl:a.aa.length=b.aa.length)(B:Bool)(hB:a.aa≠b.aa→B=false)(i:Nat)(hi:i≤a.aa.length∧gz a.aa b.aa i) :
  ∃H' L',Sx.jU prog f25.ntmps ⟨w,[],fun _ _=>False⟩ (Sx.aQ f25 3) H' L' ⟨[(2,.ptr 0 0),(3,.ptr 1 0),(8,.val (.int .i64 ((i:Nat):Int)))],br a b s t⟩
   (Sx.dR (fun i=>i≤a.aa.length∧gz a.aa b.aa i) (fun i=>[(2,.ptr 0 0),(3,.ptr 1 0),(8,.val (.int .i64 ((i:Nat):Int)))]) (fun _=>br a b s t) (fun i=>i+1) (fun i=>a.aa.length - i) (fun(_:Unit)=>a.aa=b.aa) (fun _=>[(2,.ptr 0 0),(3,.ptr 1 0)]) (fun _=>br a b s t) (fun _=>()) (Sx.dM (Sx.aQ f25 3) - 1) (Sx.bY prog f25 (sR B) .ret) i):=by
 have xG:=fa.i
 by_cases hlt:i < a.aa.length
 ·have c118:=bT ((i:Int) < (a.aa.length:Int)) (by omega)
  have hx:=getD_at hlt
  have hy:=getD_at (l:=b.aa) (i:=i) (by omega)
  have wx:=wa.i _ (bX hlt)
  have wy:=wb.i _ (bX (l:=b.aa) (i:=i) (by omega))
  obtain⟨inf,hi1,hi2⟩:=cY (P:=prog) (t:=124) (n:=3) (by kernel_rfl)
  obtain⟨p,hp1,hp2⟩:=ha.i.FA Mi.az underlying44 hi1 hi2 underlying124 rfl (by omega) hx
  obtain⟨q,hq1,hq2⟩:=hb.i.FA Mi.az underlying44 hi1 hi2 underlying124 rfl (by omega) hy
  obtain⟨x,hxe⟩:∃x,x=a.aa.getD i default:=⟨_,rfl⟩
  obtain⟨y,hye⟩:∃y,y=b.aa.getD i default:=⟨_,rfl⟩
  rw[←hxe]at hx wx hp2
  rw[←hye]at hy wy hq2
  clear hi1 hi2 hxe hye
  have c124:=hp1
  have c125:=hp2
  have c129:=hq1
  have c130:=hq2
  by_cases hxy:x=y
  ·have c131:=fun W=>(Jv (.tmp 125) (.tmp 130) wx wy W).trans (by rw[(bD x y).2 hxy];rfl:_=Result.ok (.bool false) W)
   have c120:=my (i:=i) (by omega)
   have h0:i+1≤a.aa.length∧gz a.aa b.aa (i+1):=⟨hlt,fun j hj=>by
    by_cases hji:j=i
    ·subst hji;rw[hx,hy,hxy]
    ·exact hi.2 j (by omega)⟩
   have h1:a.aa.length - (i+1) < a.aa.length - i:=by omega
   have h2:([(2,.ptr 0 0),(3,.ptr 1 0),(8,.val (.int .i64 ((i+1:Nat):Int)))]:List (Nat×Sx.SV))=[(2,.ptr 0 0),(3,.ptr 1 0),(8,.val (.int .i64 ((i+1:Nat):Int)))]:=rfl
   have z3:br a b s t=br a b s t:=rfl
   refine⟨[(118,.is (.bool true)),(124,.any p),(125,.any (.agg x.cells.toArray)),(129,.any q),(130,.any (.agg y.cells.toArray)),(131,.bin (.bool false)),(120,.is (.int .i64 ((i+1:Nat):Int)))],[],?_⟩
   exact Eq.mp (by kernel_rfl) (Sx.t8 c118 c124 c125 c129 c130 c131 c120 h0 (Sx.t2 h1 h2 z3))
  ·have c131:=fun W=>(Jv (.tmp 125) (.tmp 130) wx wy W).trans (by rw[show cx x y=false from Bool.eq_false_iff.2 fun hh=>hxy ((bD x y).1 hh)];rfl:_=Result.ok (.bool true) W)
   have hf:B=false:=hB fun he=>hxy (by rw[he,hy]at hx;exact(Option.some.inj hx).symm)
   have z0:sR B [.val (.bool false)] []:=by rw[hf];rfl
   refine⟨[(118,.is (.bool true)),(124,.any p),(125,.any (.agg x.cells.toArray)),(129,.any q),(130,.any (.agg y.cells.toArray)),(131,.bin (.bool true))],[],?_⟩
   exact Eq.mp (by kernel_rfl) (Sx.t4 c118 c124 c125 c129 (Sx.t2 c130 c131 z0))
 ·have c118:=bF ((i:Int) < (a.aa.length:Int)) (by omega)
  have hin:i=a.aa.length:=by omega
  have h0:a.aa=b.aa:=gz.all (by rw[←hin];exact hi.2) hl
  have h1:([(2,.ptr 0 0),(3,.ptr 1 0)]:List (Nat×Sx.SV))=[(2,.ptr 0 0),(3,.ptr 1 0)]:=rfl
  have z2:br a b s t=br a b s t:=rfl
  refine⟨[(118,.is (.bool false))],[],?_⟩
  exact Eq.mp (by kernel_rfl) (Sx.t2 c118 h0 (And.intro h1 z2))
theorem Ra{w:World}(a b:CF)(s t:ey)(ha:dj w [] a s)(hb:dj w [] b t)(wa:da a)(wb:da b)(fa:fb a)(hl:a.rules.length=b.rules.length)(B:Bool)(hB:a.rules≠b.rules→B=false)(i:Nat)(hi:i≤a.rules.length∧gz a.rules b.rules i) :
  ∃H' L',Sx.jU prog f25.ntmps ⟨w,[],fun _ _=>False⟩ (Sx.aQ f25 4) H' L' ⟨[(2,.ptr 0 0),(3,.ptr 1 0),(9,.val (.int .i64 ((i:Nat):Int)))],br a b s t⟩
   (Sx.dR (fun i=>i≤a.rules.length∧gz a.rules b.rules i) (fun i=>[(2,.ptr 0 0),(3,.ptr 1 0),(9,.val (.int .i64 ((i:Nat):Int)))]) (fun _=>br a b s t) (fun i=>i+1) (fun i=>a.rules.length - i) (fun(_:Unit)=>a.rules=b.rules) (fun _=>[(2,.ptr 0 0),(3,.ptr 1 0)]) (fun _=>br a b s t) (fun _=>()) (Sx.dM (Sx.aQ f25 4) - 1) (Sx.bY prog f25 (sR B) .ret) i):=by
 have xG:=fa.l
 by_cases hlt:i < a.rules.length
 ·have c136:=bT ((i:Int) < (a.rules.length:Int)) (by omega)
  have hx:=getD_at hlt
  have hy:=getD_at (l:=b.rules) (i:=i) (by omega)
  have wx:=wa.l _ (bX hlt)
  have wy:=wb.l _ (bX (l:=b.rules) (i:=i) (by omega))
  obtain⟨inf,hi1,hi2⟩:=cY (P:=prog) (t:=81) (n:=49) (by kernel_rfl)
  obtain⟨p,hp1,hp2⟩:=ha.l.FA Rl.az underlying42 hi1 hi2 underlying81 rfl (by omega) hx
  obtain⟨q,hq1,hq2⟩:=hb.l.FA Rl.az underlying42 hi1 hi2 underlying81 rfl (by omega) hy
  obtain⟨x,hxe⟩:∃x,x=a.rules.getD i default:=⟨_,rfl⟩
  obtain⟨y,hye⟩:∃y,y=b.rules.getD i default:=⟨_,rfl⟩
  rw[←hxe]at hx wx hp2
  rw[←hye]at hy wy hq2
  clear hi1 hi2 hxe hye
  have c142:=hp1
  have c143:=hp2
  have c147:=hq1
  have c148:=hq2
  by_cases hxy:x=y
  ·have c149:=fun W=>(IK (.tmp 143) (.tmp 148) wx wy W).trans (by rw[(bD x y).2 hxy];rfl:_=Result.ok (.bool false) W)
   have c138:=my (i:=i) (by omega)
   have h0:i+1≤a.rules.length∧gz a.rules b.rules (i+1):=⟨hlt,fun j hj=>by
    by_cases hji:j=i
    ·subst hji;rw[hx,hy,hxy]
    ·exact hi.2 j (by omega)⟩
   have h1:a.rules.length - (i+1) < a.rules.length - i:=by omega
   have h2:([(2,.ptr 0 0),(3,.ptr 1 0),(9,.val (.int .i64 ((i+1:Nat):Int)))]:List (Nat×Sx.SV))=[(2,.ptr 0 0),(3,.ptr 1 0),(9,.val (.int .i64 ((i+1:Nat):Int)))]:=rfl
   have z3:br a b s t=br a b s t:=rfl
   refine⟨[(136,.is (.bool true)),(142,.any p),(143,.any (.agg x.cells.toArray)),(147,.any q),(148,.any (.agg y.cells.toArray)),(149,.bin (.bool false)),(138,.is (.int .i64 ((i+1:Nat):Int)))],[],?_⟩
   exact Eq.mp (by kernel_rfl) (Sx.t8 c136 c142 c143 c147 c148 c149 c138 h0 (Sx.t2 h1 h2 z3))
  ·have c149:=fun W=>(IK (.tmp 143) (.tmp 148) wx wy W).trans (by rw[show cx x y=false from Bool.eq_false_iff.2 fun hh=>hxy ((bD x y).1 hh)];rfl:_=Result.ok (.bool true) W)
   have hf:B=false:=hB fun he=>hxy (by rw[he,hy]at hx;exact(Option.some.inj hx).symm)
   have z0:sR B [.val (.bool false)] []:=by rw[hf];rfl
   refine⟨[(136,.is (.bool true)),(142,.any p),(143,.any (.agg x.cells.toArray)),(147,.any q),(148,.any (.agg y.cells.toArray)),(149,.bin (.bool true))],[],?_⟩
   exact Eq.mp (by kernel_rfl) (Sx.t4 c136 c142 c143 c147 (Sx.t2 c148 c149 z0))
 ·have c136:=bF ((i:Int) < (a.rules.length:Int)) (by omega)
  have hin:i=a.rules.length:=by omega
  have h0:a.rules=b.rules:=gz.all (by rw[←hin];exact hi.2) hl
  have h1:([(2,.ptr 0 0),(3,.ptr 1 0)]:List (Nat×Sx.SV))=[(2,.ptr 0 0),(3,.ptr 1 0)]:=rfl
  have z2:br a b s t=br a b s t:=rfl
  refine⟨[(136,.is (.bool false))],[],?_⟩
  exact Eq.mp (by kernel_rfl) (Sx.t2 c136 h0 (And.intro h1 z2))
theorem Mw{w:World}(a b:CF)(s t:ey)(_ha:dj w [] a s)(_hb:dj w [] b t)(_wa:da a)(_wb:da b)(_fa:fb a)(e0:¬a.ag.length=b.ag.length):Calls prog 25 #[.agg (al a s).toArray,.agg (al b t).toArray] w (Sx.cq ⟨w,[],fun _ _=>False⟩ (sR (cx a b))):=by
 have ir:Value.bool ((a.ag.length:Int) !=(b.ag.length:Int))=.bool true:=j4 (bne_iff_ne.2 (by omega))
 have hf:cx a b=false:=Bool.eq_false_iff.2 fun hh=>e0 (by rw[(bD a b).1 hh])
 have z0:sR (cx a b) [.val (.bool false)] []:=by rw[hf];rfl
 refine Sx.aZ (args:=[.val (.agg (al a s).toArray),.val (.agg (al b t).toArray)]) (eo w) [(16,.is (.bool true))] [] (by kernel_rfl) func25 rfl (cn rfl) rfl ?_
 exact Eq.mp (by kernel_rfl) (And.intro ir z0)
theorem Mv{w:World}(a b:CF)(s t:ey)(_ha:dj w [] a s)(_hb:dj w [] b t)(_wa:da a)(_wb:da b)(_fa:fb a)(e0:a.ag.length=b.ag.length)(e1:¬a.ae.length=b.ae.length):Calls prog 25 #[.agg (al a s).toArray,.agg (al b t).toArray] w (Sx.cq ⟨w,[],fun _ _=>False⟩ (sR (cx a b))):=by
 have ir:Value.bool ((a.ag.length:Int) !=(b.ag.length:Int))=.bool false:=by rw[e0];exact bE _
 have c24:Value.bool ((a.ae.length:Int) !=(b.ae.length:Int))=.bool true:=j4 (bne_iff_ne.2 (by omega))
 have hf:cx a b=false:=Bool.eq_false_iff.2 fun hh=>e1 (by rw[(bD a b).1 hh])
 have z0:sR (cx a b) [.val (.bool false)] []:=by rw[hf];rfl
 refine Sx.aZ (args:=[.val (.agg (al a s).toArray),.val (.agg (al b t).toArray)]) (eo w) [(16,.is (.bool false)),(24,.is (.bool true))] [] (by kernel_rfl) func25 rfl (cn rfl) rfl ?_
 exact Eq.mp (by kernel_rfl) (Sx.t2 ir c24 z0)
theorem Mu{w:World}(a b:CF)(s t:ey)(_ha:dj w [] a s)(_hb:dj w [] b t)(_wa:da a)(_wb:da b)(_fa:fb a)(e0:a.ag.length=b.ag.length)(e1:a.ae.length=b.ae.length)(e2:¬a.af.length=b.af.length):Calls prog 25 #[.agg (al a s).toArray,.agg (al b t).toArray] w (Sx.cq ⟨w,[],fun _ _=>False⟩ (sR (cx a b))):=by
 have ir:Value.bool ((a.ag.length:Int) !=(b.ag.length:Int))=.bool false:=by rw[e0];exact bE _
 have c24:Value.bool ((a.ae.length:Int) !=(b.ae.length:Int))=.bool false:=by rw[e1];exact bE _
 have c33:Value.bool ((a.af.length:Int) !=(b.af.length:Int))=.bool true:=j4 (bne_iff_ne.2 (by omega))
 have hf:cx a b=false:=Bool.eq_false_iff.2 fun hh=>e2 (by rw[(bD a b).1 hh])
 have z0:sR (cx a b) [.val (.bool false)] []:=by rw[hf];rfl
 refine Sx.aZ (args:=[.val (.agg (al a s).toArray),.val (.agg (al b t).toArray)]) (eo w) [(16,.is (.bool false)),(24,.is (.bool false)),(33,.is (.bool true))] [] (by kernel_rfl) func25 rfl (cn rfl) rfl ?_
 exact Eq.mp (by kernel_rfl) (Sx.t2 ir c24 (And.intro c33 z0))
theorem Ms{w:World}(a b:CF)(s t:ey)(_ha:dj w [] a s)(_hb:dj w [] b t)(_wa:da a)(_wb:da b)(_fa:fb a)(e0:a.ag.length=b.ag.length)(e1:a.ae.length=b.ae.length)(e2:a.af.length=b.af.length)(e3:¬a.aa.length=b.aa.length):Calls prog 25 #[.agg (al a s).toArray,.agg (al b t).toArray] w (Sx.cq ⟨w,[],fun _ _=>False⟩ (sR (cx a b))):=by
 have ir:Value.bool ((a.ag.length:Int) !=(b.ag.length:Int))=.bool false:=by rw[e0];exact bE _
 have c24:Value.bool ((a.ae.length:Int) !=(b.ae.length:Int))=.bool false:=by rw[e1];exact bE _
 have c33:Value.bool ((a.af.length:Int) !=(b.af.length:Int))=.bool false:=by rw[e2];exact bE _
 have c42:Value.bool ((a.aa.length:Int) !=(b.aa.length:Int))=.bool true:=j4 (bne_iff_ne.2 (by omega))
 have hf:cx a b=false:=Bool.eq_false_iff.2 fun hh=>e3 (by rw[(bD a b).1 hh])
 have z0:sR (cx a b) [.val (.bool false)] []:=by rw[hf];rfl
 refine Sx.aZ (args:=[.val (.agg (al a s).toArray),.val (.agg (al b t).toArray)]) (eo w) [(16,.is (.bool false)),(24,.is (.bool false)),(33,.is (.bool false)),(42,.is (.bool true))] [] (by kernel_rfl) func25 rfl (cn rfl) rfl ?_
 exact Eq.mp (by kernel_rfl) (Sx.t4 ir c24 c33 c42 z0)
theorem Mr{w:World}(a b:CF)(s t:ey)(_ha:dj w [] a s)(_hb:dj w [] b t)(_wa:da a)(_wb:da b)(_fa:fb a)(e0:a.ag.length=b.ag.length)(e1:a.ae.length=b.ae.length)(e2:a.af.length=b.af.length)(e3:a.aa.length=b.aa.length)(e4:¬a.rules.length=b.rules.length):Calls prog 25 #[.agg (al a s).toArray,.agg (al b t).toArray] w (Sx.cq ⟨w,[],fun _ _=>False⟩ (sR (cx a b))):=by
 have ir:Value.bool ((a.ag.length:Int) !=(b.ag.length:Int))=.bool false:=by rw[e0];exact bE _
 have c24:Value.bool ((a.ae.length:Int) !=(b.ae.length:Int))=.bool false:=by rw[e1];exact bE _
 have c33:Value.bool ((a.af.length:Int) !=(b.af.length:Int))=.bool false:=by rw[e2];exact bE _
 have c42:Value.bool ((a.aa.length:Int) !=(b.aa.length:Int))=.bool false:=by rw[e3];exact bE _
 have c51:Value.bool ((a.rules.length:Int) !=(b.rules.length:Int))=.bool true:=j4 (bne_iff_ne.2 (by omega))
 have hf:cx a b=false:=Bool.eq_false_iff.2 fun hh=>e4 (by rw[(bD a b).1 hh])
 have z0:sR (cx a b) [.val (.bool false)] []:=by rw[hf];rfl
 refine Sx.aZ (args:=[.val (.agg (al a s).toArray),.val (.agg (al b t).toArray)]) (eo w) [(16,.is (.bool false)),(24,.is (.bool false)),(33,.is (.bool false)),(42,.is (.bool false)),(51,.is (.bool true))] [] (by kernel_rfl) func25 rfl (cn rfl) rfl ?_
 exact Eq.mp (by kernel_rfl) (Sx.t4 ir c24 c33 c42 (And.intro c51 z0))
theorem Mq{w:World}(a b:CF)(s t:ey)(_ha:dj w [] a s)(_hb:dj w [] b t)(_wa:da a)(_wb:da b)(_fa:fb a)(e0:a.ag.length=b.ag.length)(e1:a.ae.length=b.ae.length)(e2:a.af.length=b.af.length)(e3:a.aa.length=b.aa.length)(e4:a.rules.length=b.rules.length)(e5:¬a.aS=b.aS):Calls prog 25 #[.agg (al a s).toArray,.agg (al b t).toArray] w (Sx.cq ⟨w,[],fun _ _=>False⟩ (sR (cx a b))):=by
 have ir:Value.bool ((a.ag.length:Int) !=(b.ag.length:Int))=.bool false:=by rw[e0];exact bE _
 have c24:Value.bool ((a.ae.length:Int) !=(b.ae.length:Int))=.bool false:=by rw[e1];exact bE _
 have c33:Value.bool ((a.af.length:Int) !=(b.af.length:Int))=.bool false:=by rw[e2];exact bE _
 have c42:Value.bool ((a.aa.length:Int) !=(b.aa.length:Int))=.bool false:=by rw[e3];exact bE _
 have c51:Value.bool ((a.rules.length:Int) !=(b.rules.length:Int))=.bool false:=by rw[e4];exact bE _
 have c58:Value.bool (a.aS !=b.aS)=.bool true:=j4 (bne_iff_ne.2 (by exact e5))
 have hf:cx a b=false:=Bool.eq_false_iff.2 fun hh=>e5 (by rw[(bD a b).1 hh])
 have z0:sR (cx a b) [.val (.bool false)] []:=by rw[hf];rfl
 refine Sx.aZ (args:=[.val (.agg (al a s).toArray),.val (.agg (al b t).toArray)]) (eo w) [(16,.is (.bool false)),(24,.is (.bool false)),(33,.is (.bool false)),(42,.is (.bool false)),(51,.is (.bool false)),(58,.is (.bool true))] [] (by kernel_rfl) func25 rfl (cn rfl) rfl ?_
 exact Eq.mp (by kernel_rfl) (Sx.t4 ir c24 c33 c42 (Sx.t2 c51 c58 z0))
theorem Mo{w:World}(a b:CF)(s t:ey)(ha:dj w [] a s)(hb:dj w [] b t)(wa:da a)(wb:da b)(fa:fb a)(e0:a.ag.length=b.ag.length)(e1:a.ae.length=b.ae.length)(e2:a.af.length=b.af.length)(e3:a.aa.length=b.aa.length)(e4:a.rules.length=b.rules.length)(e5:a.aS=b.aS):Calls prog 25 #[.agg (al a s).toArray,.agg (al b t).toArray] w (Sx.cq ⟨w,[],fun _ _=>False⟩ (sR (cx a b))):=by
 have ir:Value.bool ((a.ag.length:Int) !=(b.ag.length:Int))=.bool false:=by rw[e0];exact bE _
 have c24:Value.bool ((a.ae.length:Int) !=(b.ae.length:Int))=.bool false:=by rw[e1];exact bE _
 have c33:Value.bool ((a.af.length:Int) !=(b.af.length:Int))=.bool false:=by rw[e2];exact bE _
 have c42:Value.bool ((a.aa.length:Int) !=(b.aa.length:Int))=.bool false:=by rw[e3];exact bE _
 have c51:Value.bool ((a.rules.length:Int) !=(b.rules.length:Int))=.bool false:=by rw[e4];exact bE _
 have c58:Value.bool (a.aS !=b.aS)=.bool false:=by rw[e5];exact bE _
 have hB:∀{p:Prop},(a=b→p)→¬p→cx a b=false:=fun h hn=>Bool.eq_false_iff.2 fun hh=>hn (h ((bD a b).1 hh))
 have jo:=Re a b s t ha hb wa wb fa e0 (cx a b) (hB fun hh=>by rw[hh])
 have h0:0≤a.ag.length∧gz a.ag b.ag 0:=⟨Nat.zero_le _,fun j hj=>(by omega)⟩
 have ee1:([(2,.ptr 0 0),(3,.ptr 1 0),(5,.val (.int .i64 ((0:Nat):Int)))]:List (Nat×Sx.SV))=[(2,.ptr 0 0),(3,.ptr 1 0),(5,.val (.int .i64 ((0:Nat):Int)))]∧br a b s t=br a b s t:=⟨rfl,rfl⟩
 have rd7:=Rd a b s t ha hb wa wb fa e1 (cx a b) (hB fun hh=>by rw[hh])
 have h5:0≤a.ae.length∧gz a.ae b.ae 0:=⟨Nat.zero_le _,fun j hj=>(by omega)⟩
 have e6:([(2,.ptr 0 0),(3,.ptr 1 0),(6,.val (.int .i64 ((0:Nat):Int)))]:List (Nat×Sx.SV))=[(2,.ptr 0 0),(3,.ptr 1 0),(6,.val (.int .i64 ((0:Nat):Int)))]∧br a b s t=br a b s t:=⟨rfl,rfl⟩
 have rd12:=Rc a b s t ha hb wa wb fa e2 (cx a b) (hB fun hh=>by rw[hh])
 have h10:0≤a.af.length∧gz a.af b.af 0:=⟨Nat.zero_le _,fun j hj=>(by omega)⟩
 have e11:([(2,.ptr 0 0),(3,.ptr 1 0),(7,.val (.int .i64 ((0:Nat):Int)))]:List (Nat×Sx.SV))=[(2,.ptr 0 0),(3,.ptr 1 0),(7,.val (.int .i64 ((0:Nat):Int)))]∧br a b s t=br a b s t:=⟨rfl,rfl⟩
 have rd17:=Rb a b s t ha hb wa wb fa e3 (cx a b) (hB fun hh=>by rw[hh])
 have h15:0≤a.aa.length∧gz a.aa b.aa 0:=⟨Nat.zero_le _,fun j hj=>(by omega)⟩
 have e16:([(2,.ptr 0 0),(3,.ptr 1 0),(8,.val (.int .i64 ((0:Nat):Int)))]:List (Nat×Sx.SV))=[(2,.ptr 0 0),(3,.ptr 1 0),(8,.val (.int .i64 ((0:Nat):Int)))]∧br a b s t=br a b s t:=⟨rfl,rfl⟩
 have rd22:=Ra a b s t ha hb wa wb fa e4 (cx a b) (hB fun hh=>by rw[hh])
 have h20:0≤a.rules.length∧gz a.rules b.rules 0:=⟨Nat.zero_le _,fun j hj=>(by omega)⟩
 have e21:([(2,.ptr 0 0),(3,.ptr 1 0),(9,.val (.int .i64 ((0:Nat):Int)))]:List (Nat×Sx.SV))=[(2,.ptr 0 0),(3,.ptr 1 0),(9,.val (.int .i64 ((0:Nat):Int)))]∧br a b s t=br a b s t:=⟨rfl,rfl⟩
 have z25f:=fun(_:Unit) (q0:a.ag=b.ag) (_:Unit) (q1:a.ae=b.ae) (_:Unit) (q2:a.af=b.af) (_:Unit) (q3:a.aa=b.aa) (_:Unit) (q4:a.rules=b.rules)=>(show sR (cx a b) [.val (.bool true)] []from by
  have:a=b:=by cases a;cases b;simp_all
  rw[(bD a b).2 this];rfl)
 clear e1
 have e1:=ee1
 refine Sx.aZ (args:=[.val (.agg (al a s).toArray),.val (.agg (al b t).toArray)]) (eo w) [(16,.is (.bool false)),(24,.is (.bool false)),(33,.is (.bool false)),(42,.is (.bool false)),(51,.is (.bool false)),(58,.is (.bool false))]
  [.mk Nat 0 (fun i=>i≤a.ag.length∧gz a.ag b.ag i) (fun i=>[(2,.ptr 0 0),(3,.ptr 1 0),(5,.val (.int .i64 ((i:Nat):Int)))]) (fun _=>br a b s t) (fun i=>i+1) (fun i=>a.ag.length - i) Unit (fun _=>a.ag=b.ag) (fun _=>[(2,.ptr 0 0),(3,.ptr 1 0)]) (fun _=>br a b s t) (fun _=>()),
   .mk Nat 0 (fun i=>i≤a.ae.length∧gz a.ae b.ae i) (fun i=>[(2,.ptr 0 0),(3,.ptr 1 0),(6,.val (.int .i64 ((i:Nat):Int)))]) (fun _=>br a b s t) (fun i=>i+1) (fun i=>a.ae.length - i) Unit (fun _=>a.ae=b.ae) (fun _=>[(2,.ptr 0 0),(3,.ptr 1 0)]) (fun _=>br a b s t) (fun _=>()),
   .mk Nat 0 (fun i=>i≤a.af.length∧gz a.af b.af i) (fun i=>[(2,.ptr 0 0),(3,.ptr 1 0),(7,.val (.int .i64 ((i:Nat):Int)))]) (fun _=>br a b s t) (fun i=>i+1) (fun i=>a.af.length - i) Unit (fun _=>a.af=b.af) (fun _=>[(2,.ptr 0 0),(3,.ptr 1 0)]) (fun _=>br a b s t) (fun _=>()),
   .mk Nat 0 (fun i=>i≤a.aa.length∧gz a.aa b.aa i) (fun i=>[(2,.ptr 0 0),(3,.ptr 1 0),(8,.val (.int .i64 ((i:Nat):Int)))]) (fun _=>br a b s t) (fun i=>i+1) (fun i=>a.aa.length - i) Unit (fun _=>a.aa=b.aa) (fun _=>[(2,.ptr 0 0),(3,.ptr 1 0)]) (fun _=>br a b s t) (fun _=>()),
   .mk Nat 0 (fun i=>i≤a.rules.length∧gz a.rules b.rules i) (fun i=>[(2,.ptr 0 0),(3,.ptr 1 0),(9,.val (.int .i64 ((i:Nat):Int)))]) (fun _=>br a b s t) (fun i=>i+1) (fun i=>a.rules.length - i) Unit (fun _=>a.rules=b.rules) (fun _=>[(2,.ptr 0 0),(3,.ptr 1 0)]) (fun _=>br a b s t) (fun _=>())] (by kernel_rfl) func25 rfl (cn rfl) rfl ?_
 exact Eq.mp (by kernel_rfl) (Sx.t8 ir c24 c33 c42 c51 c58 h0 e1 (And.intro jo (fun(x3:Unit) (hx4:a.ag=b.ag)=>(Sx.t2 h5 e6 (And.intro rd7 (fun(x8:Unit) (hx9:a.ae=b.ae)=>(Sx.t2 h10 e11 (And.intro rd12 (fun(x13:Unit) (hx14:a.af=b.af)=>(Sx.t2 h15 e16 (And.intro rd17 (fun(x18:Unit) (hx19:a.aa=b.aa)=>(Sx.t2 h20 e21 (And.intro rd22 (fun(x23:Unit) (hx24:a.rules=b.rules)=>(z25f x3 hx4 x8 hx9 x13 hx14 x18 hx19 x23 hx24))))))))))))))))
theorem Iw{w:World}(a b:CF)(s t:ey)(ha:dj w [] a s)(hb:dj w [] b t)(wa:da a)(wb:da b)(fa:fb a):Calls prog 25 #[.agg (al a s).toArray,.agg (al b t).toArray] w (Rn w (.bool (cx a b))):=by
 have main:Calls prog 25 #[.agg (al a s).toArray,.agg (al b t).toArray] w (Sx.cq ⟨w,[],fun _ _=>False⟩ (sR (cx a b))):=by
  by_cases e0:a.ag.length=b.ag.length
  ·by_cases e1:a.ae.length=b.ae.length
   ·by_cases e2:a.af.length=b.af.length
    ·by_cases e3:a.aa.length=b.aa.length
     ·by_cases e4:a.rules.length=b.rules.length
      ·by_cases e5:a.aS=b.aS
       ·exact Mo a b s t ha hb wa wb fa e0 e1 e2 e3 e4 e5
       ·exact Mq a b s t ha hb wa wb fa e0 e1 e2 e3 e4 e5
      ·exact Mr a b s t ha hb wa wb fa e0 e1 e2 e3 e4
     ·exact Ms a b s t ha hb wa wb fa e0 e1 e2 e3
    ·exact Mu a b s t ha hb wa wb fa e0 e1 e2
   ·exact Mv a b s t ha hb wa wb fa e0 e1
  ·exact Mw a b s t ha hb wa wb fa e0
 refine main.mono fun en w' hp=>?_
 rcases hp with⟨β,l,mem,hl,he,hR⟩ | ⟨_,_,hf,_⟩
 ·have hl:l=[.val (.bool (cx a b))]:=hl
  subst hl
  exact⟨he,hR.aG⟩
 ·exact hf.elim
end Go.Proofs.YtnncigmpcdehnaaGreatDoor
