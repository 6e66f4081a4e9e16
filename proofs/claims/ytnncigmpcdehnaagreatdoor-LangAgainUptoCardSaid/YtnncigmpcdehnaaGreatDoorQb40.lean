import Derived.Test.YtnncigmpcdehnaaGreatDoorQb39
namespace Go.Proofs.YtnncigmpcdehnaaGreatDoor
set_option maxRecDepth 100000
open Go Go.RowKit Go.Lib Go.Sort
def fP{α:Type}(a b:List α)(k:Nat):Prop:=∀j,j < k→a[j]?=b[j]?
theorem fP.all{α:Type}{a b:List α}(h:fP a b a.length)(hl:a.length=b.length):a=b:=by
 refine List.ext_getElem? fun j=>?_
 by_cases hj:j < a.length
 ·exact h j hj
 ·rw[List.getElem?_eq_none (by omega),List.getElem?_eq_none (by omega)]
def qX(B:Bool)(l:List Sx.SV)(_:List Sx.Row):Prop:=l=[.val (.bool B)]
def bC(a b:CF)(s t:fI):List Sx.Row:=[⟨46,.ag (an a s)⟩,⟨46,.ag (an b t)⟩]
theorem bJ(a:Int):Value.bool (a !=a)=.bool false:=by simp
theorem MQ{w:World}(a b:CF)(s t:fI)(ha:eo w [] a s)(hb:eo w [] b t)(wa:eU a)(wb:eU b)(fa:e8 a)(hl:a.ao.length=b.ao.length)(B:Bool)(hB:a.ao≠b.ao→B=false)(i:Nat)(hi:i≤a.ao.length∧fP a.ao b.ao i) :
  ∃H' L',Sx.jn Tryz.prog Tryz.f25.ntmps ⟨w,[],fun _ _=>False⟩ (Sx.cR Tryz.f25 0) H' L' ⟨[(2,.ptr 0 0),(3,.ptr 1 0),(5,.val (.int .i64 ((i:Nat):Int)))],bC a b s t⟩
   (Sx.gI (fun i=>i≤a.ao.length∧fP a.ao b.ao i) (fun i=>[(2,.ptr 0 0),(3,.ptr 1 0),(5,.val (.int .i64 ((i:Nat):Int)))]) (fun _=>bC a b s t) (fun i=>i+1) (fun i=>a.ao.length - i) (fun(_:Unit)=>a.ao=b.ao) (fun _=>[(2,.ptr 0 0),(3,.ptr 1 0)]) (fun _=>bC a b s t) (fun _=>()) (Sx.fK (Sx.cR Tryz.f25 0) - 1) (Sx.bX Tryz.prog Tryz.f25 (qX B) .ret) i):=by
 have qV:=fa.p
 by_cases hlt:i < a.ao.length
 ·have iQ:Value.bool (decide ((i:Int) < (a.ao.length:Int)))=.bool true:=dQ (decide_eq_true (by omega))
  have hx:=getD_at hlt
  have hy:=getD_at (l:=b.ao) (i:=i) (by omega)
  have wx:=wa.p _ (dz hlt)
  have wy:=wb.p _ (dz (l:=b.ao) (i:=i) (by omega))
  obtain⟨inf,hi1,hi2⟩:=gj (P:=Tryz.prog) (t:=3) (n:=1) (by kernel_rfl)
  obtain⟨p,hp1,hp2⟩:=ha.p.ME Tryz.underlying40 hi1 hi2 Tryz.underlying3 rfl hx
  obtain⟨q,hq1,hq2⟩:=hb.p.ME Tryz.underlying40 hi1 hi2 Tryz.underlying3 rfl hy
  obtain⟨x,hxe⟩:∃x,x=a.ao.getD i default:=⟨_,rfl⟩
  obtain⟨y,hye⟩:∃y,y=b.ao.getD i default:=⟨_,rfl⟩
  rw[←hxe]at hx wx hp2
  rw[←hye]at hy wy hq2
  clear hi1 hi2 hxe hye
  have c70:=hp1
  have c71:=hp2
  have c75:=hq1
  have c76:=hq2
  by_cases hxy:x=y
  ·have c77:Value.bool (x !=y)=.bool false:=by rw[hxy];exact bJ y
   have c66:Value.int .i64 (IntKind.i64.wrap ((i:Int)+1))=.int .i64 ((i+1:Nat):Int):=iw (by rw[j5 (by omega) (by omega)];rfl)
   have h0:i+1≤a.ao.length∧fP a.ao b.ao (i+1):=⟨hlt,fun j hj=>by
    by_cases hji:j=i
    ·subst hji;rw[hx,hy,hxy]
    ·exact hi.2 j (by omega)⟩
   have h1:a.ao.length - (i+1) < a.ao.length - i:=by omega
   have h2:([(2,.ptr 0 0),(3,.ptr 1 0),(5,.val (.int .i64 ((i+1:Nat):Int)))]:List (Nat×Sx.SV))=[(2,.ptr 0 0),(3,.ptr 1 0),(5,.val (.int .i64 ((i+1:Nat):Int)))]:=rfl
   have z3:bC a b s t=bC a b s t:=rfl
   refine⟨[(64,.is (.bool true)),(70,.any p),(71,.any (.int .i64 x)),(75,.any q),(76,.any (.int .i64 y)),(77,.is (.bool false)),(66,.is (.int .i64 ((i+1:Nat):Int)))],[],?_⟩
   exact Eq.mp (by kernel_rfl) (Sx.t8 iQ c70 c71 c75 c76 c77 c66 h0 (Sx.t2 h1 h2 z3))
  ·have c77:Value.bool (x !=y)=.bool true:=dQ (bne_iff_ne.2 hxy)
   have hf:B=false:=hB fun he=>hxy (by rw[he,hy]at hx;exact(Option.some.inj hx).symm)
   have z0:qX B [.val (.bool false)] []:=by rw[hf];rfl
   refine⟨[(64,.is (.bool true)),(70,.any p),(71,.any (.int .i64 x)),(75,.any q),(76,.any (.int .i64 y)),(77,.is (.bool true))],[],?_⟩
   exact Eq.mp (by kernel_rfl) (Sx.t4 iQ c70 c71 c75 (Sx.t2 c76 c77 z0))
 ·have iQ:Value.bool (decide ((i:Int) < (a.ao.length:Int)))=.bool false:=dY (decide_eq_false (by omega))
  have hin:i=a.ao.length:=by omega
  have h0:a.ao=b.ao:=fP.all (by rw[←hin];exact hi.2) hl
  have h1:([(2,.ptr 0 0),(3,.ptr 1 0)]:List (Nat×Sx.SV))=[(2,.ptr 0 0),(3,.ptr 1 0)]:=rfl
  have z2:bC a b s t=bC a b s t:=rfl
  refine⟨[(64,.is (.bool false))],[],?_⟩
  exact Eq.mp (by kernel_rfl) (Sx.t2 iQ h0 (And.intro h1 z2))
theorem MP{w:World}(a b:CF)(s t:fI)(ha:eo w [] a s)(hb:eo w [] b t)(wa:eU a)(wb:eU b)(fa:e8 a)(hl:a.ah.length=b.ah.length)(B:Bool)(hB:a.ah≠b.ah→B=false)(i:Nat)(hi:i≤a.ah.length∧fP a.ah b.ah i) :
  ∃H' L',Sx.jn Tryz.prog Tryz.f25.ntmps ⟨w,[],fun _ _=>False⟩ (Sx.cR Tryz.f25 1) H' L' ⟨[(2,.ptr 0 0),(3,.ptr 1 0),(6,.val (.int .i64 ((i:Nat):Int)))],bC a b s t⟩
   (Sx.gI (fun i=>i≤a.ah.length∧fP a.ah b.ah i) (fun i=>[(2,.ptr 0 0),(3,.ptr 1 0),(6,.val (.int .i64 ((i:Nat):Int)))]) (fun _=>bC a b s t) (fun i=>i+1) (fun i=>a.ah.length - i) (fun(_:Unit)=>a.ah=b.ah) (fun _=>[(2,.ptr 0 0),(3,.ptr 1 0)]) (fun _=>bC a b s t) (fun _=>()) (Sx.fK (Sx.cR Tryz.f25 1) - 1) (Sx.bX Tryz.prog Tryz.f25 (qX B) .ret) i):=by
 have qV:=fa.r
 by_cases hlt:i < a.ah.length
 ·have c82:Value.bool (decide ((i:Int) < (a.ah.length:Int)))=.bool true:=dQ (decide_eq_true (by omega))
  have hx:=getD_at hlt
  have hy:=getD_at (l:=b.ah) (i:=i) (by omega)
  have wx:=wa.r _ (dz hlt)
  have wy:=wb.r _ (dz (l:=b.ah) (i:=i) (by omega))
  obtain⟨inf,hi1,hi2⟩:=gj (P:=Tryz.prog) (t:=118) (n:=19) (by kernel_rfl)
  obtain⟨p,hp1,hp2⟩:=ha.r.Eb Rt.aW Tryz.underlying41 hi1 hi2 Tryz.underlying118 rfl (by omega) hx
  obtain⟨q,hq1,hq2⟩:=hb.r.Eb Rt.aW Tryz.underlying41 hi1 hi2 Tryz.underlying118 rfl (by omega) hy
  obtain⟨x,hxe⟩:∃x,x=a.ah.getD i default:=⟨_,rfl⟩
  obtain⟨y,hye⟩:∃y,y=b.ah.getD i default:=⟨_,rfl⟩
  rw[←hxe]at hx wx hp2
  rw[←hye]at hy wy hq2
  clear hi1 hi2 hxe hye
  have c88:=hp1
  have c89:=hp2
  have c93:=hq1
  have c94:=hq2
  by_cases hxy:x=y
  ·have c95:=fun W=>(Fb (.tmp 89) (.tmp 94) wx wy W).trans (by rw[(bD x y).2 hxy];rfl:_=Result.ok (.bool false) W)
   have c84:Value.int .i64 (IntKind.i64.wrap ((i:Int)+1))=.int .i64 ((i+1:Nat):Int):=iw (by rw[j5 (by omega) (by omega)];rfl)
   have h0:i+1≤a.ah.length∧fP a.ah b.ah (i+1):=⟨hlt,fun j hj=>by
    by_cases hji:j=i
    ·subst hji;rw[hx,hy,hxy]
    ·exact hi.2 j (by omega)⟩
   have h1:a.ah.length - (i+1) < a.ah.length - i:=by omega
   have h2:([(2,.ptr 0 0),(3,.ptr 1 0),(6,.val (.int .i64 ((i+1:Nat):Int)))]:List (Nat×Sx.SV))=[(2,.ptr 0 0),(3,.ptr 1 0),(6,.val (.int .i64 ((i+1:Nat):Int)))]:=rfl
   have z3:bC a b s t=bC a b s t:=rfl
   refine⟨[(82,.is (.bool true)),(88,.any p),(89,.any (.agg x.cells.toArray)),(93,.any q),(94,.any (.agg y.cells.toArray)),(95,.bin (.bool false)),(84,.is (.int .i64 ((i+1:Nat):Int)))],[],?_⟩
   exact Eq.mp (by kernel_rfl) (Sx.t8 c82 c88 c89 c93 c94 c95 c84 h0 (Sx.t2 h1 h2 z3))
  ·have c95:=fun W=>(Fb (.tmp 89) (.tmp 94) wx wy W).trans (by rw[show cn x y=false from Bool.eq_false_iff.2 fun hh=>hxy ((bD x y).1 hh)];rfl:_=Result.ok (.bool true) W)
   have hf:B=false:=hB fun he=>hxy (by rw[he,hy]at hx;exact(Option.some.inj hx).symm)
   have z0:qX B [.val (.bool false)] []:=by rw[hf];rfl
   refine⟨[(82,.is (.bool true)),(88,.any p),(89,.any (.agg x.cells.toArray)),(93,.any q),(94,.any (.agg y.cells.toArray)),(95,.bin (.bool true))],[],?_⟩
   exact Eq.mp (by kernel_rfl) (Sx.t4 c82 c88 c89 c93 (Sx.t2 c94 c95 z0))
 ·have c82:Value.bool (decide ((i:Int) < (a.ah.length:Int)))=.bool false:=dY (decide_eq_false (by omega))
  have hin:i=a.ah.length:=by omega
  have h0:a.ah=b.ah:=fP.all (by rw[←hin];exact hi.2) hl
  have h1:([(2,.ptr 0 0),(3,.ptr 1 0)]:List (Nat×Sx.SV))=[(2,.ptr 0 0),(3,.ptr 1 0)]:=rfl
  have z2:bC a b s t=bC a b s t:=rfl
  refine⟨[(82,.is (.bool false))],[],?_⟩
  exact Eq.mp (by kernel_rfl) (Sx.t2 c82 h0 (And.intro h1 z2))
theorem MO{w:World}(a b:CF)(s t:fI)(ha:eo w [] a s)(hb:eo w [] b t)(wa:eU a)(wb:eU b)(fa:e8 a)(hl:a.aj.length=b.aj.length)(B:Bool)(hB:a.aj≠b.aj→B=false)(i:Nat)(hi:i≤a.aj.length∧fP a.aj b.aj i) :
  ∃H' L',Sx.jn Tryz.prog Tryz.f25.ntmps ⟨w,[],fun _ _=>False⟩ (Sx.cR Tryz.f25 2) H' L' ⟨[(2,.ptr 0 0),(3,.ptr 1 0),(7,.val (.int .i64 ((i:Nat):Int)))],bC a b s t⟩
   (Sx.gI (fun i=>i≤a.aj.length∧fP a.aj b.aj i) (fun i=>[(2,.ptr 0 0),(3,.ptr 1 0),(7,.val (.int .i64 ((i:Nat):Int)))]) (fun _=>bC a b s t) (fun i=>i+1) (fun i=>a.aj.length - i) (fun(_:Unit)=>a.aj=b.aj) (fun _=>[(2,.ptr 0 0),(3,.ptr 1 0)]) (fun _=>bC a b s t) (fun _=>()) (Sx.fK (Sx.cR Tryz.f25 2) - 1) (Sx.bX Tryz.prog Tryz.f25 (qX B) .ret) i):=by
 have qV:=fa.m
 by_cases hlt:i < a.aj.length
 ·have c100:Value.bool (decide ((i:Int) < (a.aj.length:Int)))=.bool true:=dQ (decide_eq_true (by omega))
  have hx:=getD_at hlt
  have hy:=getD_at (l:=b.aj) (i:=i) (by omega)
  have wx:=wa.m _ (dz hlt)
  have wy:=wb.m _ (dz (l:=b.aj) (i:=i) (by omega))
  obtain⟨inf,hi1,hi2⟩:=gj (P:=Tryz.prog) (t:=122) (n:=4) (by kernel_rfl)
  obtain⟨p,hp1,hp2⟩:=ha.m.Eb Me.aW Tryz.underlying43 hi1 hi2 Tryz.underlying122 rfl (by omega) hx
  obtain⟨q,hq1,hq2⟩:=hb.m.Eb Me.aW Tryz.underlying43 hi1 hi2 Tryz.underlying122 rfl (by omega) hy
  obtain⟨x,hxe⟩:∃x,x=a.aj.getD i default:=⟨_,rfl⟩
  obtain⟨y,hye⟩:∃y,y=b.aj.getD i default:=⟨_,rfl⟩
  rw[←hxe]at hx wx hp2
  rw[←hye]at hy wy hq2
  clear hi1 hi2 hxe hye
  have c106:=hp1
  have c107:=hp2
  have c111:=hq1
  have c112:=hq2
  by_cases hxy:x=y
  ·have c113:=fun W=>(F3 (.tmp 107) (.tmp 112) wx wy W).trans (by rw[(bD x y).2 hxy];rfl:_=Result.ok (.bool false) W)
   have c102:Value.int .i64 (IntKind.i64.wrap ((i:Int)+1))=.int .i64 ((i+1:Nat):Int):=iw (by rw[j5 (by omega) (by omega)];rfl)
   have h0:i+1≤a.aj.length∧fP a.aj b.aj (i+1):=⟨hlt,fun j hj=>by
    by_cases hji:j=i
    ·subst hji;rw[hx,hy,hxy]
    ·exact hi.2 j (by omega)⟩
   have h1:a.aj.length - (i+1) < a.aj.length - i:=by omega
   have h2:([(2,.ptr 0 0),(3,.ptr 1 0),(7,.val (.int .i64 ((i+1:Nat):Int)))]:List (Nat×Sx.SV))=[(2,.ptr 0 0),(3,.ptr 1 0),(7,.val (.int .i64 ((i+1:Nat):Int)))]:=rfl
   have z3:bC a b s t=bC a b s t:=rfl
   refine⟨[(100,.is (.bool true)),(106,.any p),(107,.any (.agg x.cells.toArray)),(111,.any q),(112,.any (.agg y.cells.toArray)),(113,.bin (.bool false)),(102,.is (.int .i64 ((i+1:Nat):Int)))],[],?_⟩
   exact Eq.mp (by kernel_rfl) (Sx.t8 c100 c106 c107 c111 c112 c113 c102 h0 (Sx.t2 h1 h2 z3))
  ·have c113:=fun W=>(F3 (.tmp 107) (.tmp 112) wx wy W).trans (by rw[show cn x y=false from Bool.eq_false_iff.2 fun hh=>hxy ((bD x y).1 hh)];rfl:_=Result.ok (.bool true) W)
   have hf:B=false:=hB fun he=>hxy (by rw[he,hy]at hx;exact(Option.some.inj hx).symm)
   have z0:qX B [.val (.bool false)] []:=by rw[hf];rfl
   refine⟨[(100,.is (.bool true)),(106,.any p),(107,.any (.agg x.cells.toArray)),(111,.any q),(112,.any (.agg y.cells.toArray)),(113,.bin (.bool true))],[],?_⟩
   exact Eq.mp (by kernel_rfl) (Sx.t4 c100 c106 c107 c111 (Sx.t2 c112 c113 z0))
 ·have c100:Value.bool (decide ((i:Int) < (a.aj.length:Int)))=.bool false:=dY (decide_eq_false (by omega))
  have hin:i=a.aj.length:=by omega
  have h0:a.aj=b.aj:=fP.all (by rw[←hin];exact hi.2) hl
  have h1:([(2,.ptr 0 0),(3,.ptr 1 0)]:List (Nat×Sx.SV))=[(2,.ptr 0 0),(3,.ptr 1 0)]:=rfl
  have z2:bC a b s t=bC a b s t:=rfl
  refine⟨[(100,.is (.bool false))],[],?_⟩
  exact Eq.mp (by kernel_rfl) (Sx.t2 c100 h0 (And.intro h1 z2))
theorem MN{w:World}(a b:CF)(s t:fI)(ha:eo w [] a s)(hb:eo w [] b t)(wa:eU a)(wb:eU b)(fa:e8 a)(hl:a.ab.length=b.ab.length)(B:Bool)(hB:a.ab≠b.ab→B=false)(i:Nat)(hi:i≤a.ab.length∧fP a.ab b.ab i) :
  ∃H' L',Sx.jn Tryz.prog Tryz.f25.ntmps ⟨w,[],fun _ _=>False⟩ (Sx.cR Tryz.f25 3) H' L' ⟨[(2,.ptr 0 0),(3,.ptr 1 0),(8,.val (.int .i64 ((i:Nat):Int)))],bC a b s t⟩
   (Sx.gI (fun i=>i≤a.ab.length∧fP a.ab b.ab i) (fun i=>[(2,.ptr 0 0),(3,.ptr 1 0),(8,.val (.int .i64 ((i:Nat):Int)))]) (fun _=>bC a b s t) (fun i=>i+1) (fun i=>a.ab.length - i) (fun(_:Unit)=>a.ab=b.ab) (fun _=>[(2,.ptr 0 0),(3,.ptr 1 0)]) (fun _=>bC a b s t) (fun _=>()) (Sx.fK (Sx.cR Tryz.f25 3) - 1) (Sx.bX Tryz.prog Tryz.f25 (qX B) .ret) i):=by
 have qV:=fa.i
 by_cases hlt:i < a.ab.length
 ·have c118:Value.bool (decide ((i:Int) < (a.ab.length:Int)))=.bool true:=dQ (decide_eq_true (by omega))
  have hx:=getD_at hlt
  have hy:=getD_at (l:=b.ab) (i:=i) (by omega)
  have wx:=wa.i _ (dz hlt)
  have wy:=wb.i _ (dz (l:=b.ab) (i:=i) (by omega))
  obtain⟨inf,hi1,hi2⟩:=gj (P:=Tryz.prog) (t:=124) (n:=3) (by kernel_rfl)
  obtain⟨p,hp1,hp2⟩:=ha.i.Eb Mi.aW Tryz.underlying44 hi1 hi2 Tryz.underlying124 rfl (by omega) hx
  obtain⟨q,hq1,hq2⟩:=hb.i.Eb Mi.aW Tryz.underlying44 hi1 hi2 Tryz.underlying124 rfl (by omega) hy
  obtain⟨x,hxe⟩:∃x,x=a.ab.getD i default:=⟨_,rfl⟩
  obtain⟨y,hye⟩:∃y,y=b.ab.getD i default:=⟨_,rfl⟩
  rw[←hxe]at hx wx hp2
  rw[←hye]at hy wy hq2
  clear hi1 hi2 hxe hye
  have c124:=hp1
  have c125:=hp2
  have c129:=hq1
  have c130:=hq2
  by_cases hxy:x=y
  ·have c131:=fun W=>(F1 (.tmp 125) (.tmp 130) wx wy W).trans (by rw[(bD x y).2 hxy];rfl:_=Result.ok (.bool false) W)
   have c120:Value.int .i64 (IntKind.i64.wrap ((i:Int)+1))=.int .i64 ((i+1:Nat):Int):=iw (by rw[j5 (by omega) (by omega)];rfl)
   have h0:i+1≤a.ab.length∧fP a.ab b.ab (i+1):=⟨hlt,fun j hj=>by
    by_cases hji:j=i
    ·subst hji;rw[hx,hy,hxy]
    ·exact hi.2 j (by omega)⟩
   have h1:a.ab.length - (i+1) < a.ab.length - i:=by omega
   have h2:([(2,.ptr 0 0),(3,.ptr 1 0),(8,.val (.int .i64 ((i+1:Nat):Int)))]:List (Nat×Sx.SV))=[(2,.ptr 0 0),(3,.ptr 1 0),(8,.val (.int .i64 ((i+1:Nat):Int)))]:=rfl
   have z3:bC a b s t=bC a b s t:=rfl
   refine⟨[(118,.is (.bool true)),(124,.any p),(125,.any (.agg x.cells.toArray)),(129,.any q),(130,.any (.agg y.cells.toArray)),(131,.bin (.bool false)),(120,.is (.int .i64 ((i+1:Nat):Int)))],[],?_⟩
   exact Eq.mp (by kernel_rfl) (Sx.t8 c118 c124 c125 c129 c130 c131 c120 h0 (Sx.t2 h1 h2 z3))
  ·have c131:=fun W=>(F1 (.tmp 125) (.tmp 130) wx wy W).trans (by rw[show cn x y=false from Bool.eq_false_iff.2 fun hh=>hxy ((bD x y).1 hh)];rfl:_=Result.ok (.bool true) W)
   have hf:B=false:=hB fun he=>hxy (by rw[he,hy]at hx;exact(Option.some.inj hx).symm)
   have z0:qX B [.val (.bool false)] []:=by rw[hf];rfl
   refine⟨[(118,.is (.bool true)),(124,.any p),(125,.any (.agg x.cells.toArray)),(129,.any q),(130,.any (.agg y.cells.toArray)),(131,.bin (.bool true))],[],?_⟩
   exact Eq.mp (by kernel_rfl) (Sx.t4 c118 c124 c125 c129 (Sx.t2 c130 c131 z0))
 ·have c118:Value.bool (decide ((i:Int) < (a.ab.length:Int)))=.bool false:=dY (decide_eq_false (by omega))
  have hin:i=a.ab.length:=by omega
  have h0:a.ab=b.ab:=fP.all (by rw[←hin];exact hi.2) hl
  have h1:([(2,.ptr 0 0),(3,.ptr 1 0)]:List (Nat×Sx.SV))=[(2,.ptr 0 0),(3,.ptr 1 0)]:=rfl
  have z2:bC a b s t=bC a b s t:=rfl
  refine⟨[(118,.is (.bool false))],[],?_⟩
  exact Eq.mp (by kernel_rfl) (Sx.t2 c118 h0 (And.intro h1 z2))
theorem MM{w:World}(a b:CF)(s t:fI)(ha:eo w [] a s)(hb:eo w [] b t)(wa:eU a)(wb:eU b)(fa:e8 a)(hl:a.rules.length=b.rules.length)(B:Bool)(hB:a.rules≠b.rules→B=false)(i:Nat)(hi:i≤a.rules.length∧fP a.rules b.rules i) :
  ∃H' L',Sx.jn Tryz.prog Tryz.f25.ntmps ⟨w,[],fun _ _=>False⟩ (Sx.cR Tryz.f25 4) H' L' ⟨[(2,.ptr 0 0),(3,.ptr 1 0),(9,.val (.int .i64 ((i:Nat):Int)))],bC a b s t⟩
   (Sx.gI (fun i=>i≤a.rules.length∧fP a.rules b.rules i) (fun i=>[(2,.ptr 0 0),(3,.ptr 1 0),(9,.val (.int .i64 ((i:Nat):Int)))]) (fun _=>bC a b s t) (fun i=>i+1) (fun i=>a.rules.length - i) (fun(_:Unit)=>a.rules=b.rules) (fun _=>[(2,.ptr 0 0),(3,.ptr 1 0)]) (fun _=>bC a b s t) (fun _=>()) (Sx.fK (Sx.cR Tryz.f25 4) - 1) (Sx.bX Tryz.prog Tryz.f25 (qX B) .ret) i):=by
 have qV:=fa.l
 by_cases hlt:i < a.rules.length
 ·have c136:Value.bool (decide ((i:Int) < (a.rules.length:Int)))=.bool true:=dQ (decide_eq_true (by omega))
  have hx:=getD_at hlt
  have hy:=getD_at (l:=b.rules) (i:=i) (by omega)
  have wx:=wa.l _ (dz hlt)
  have wy:=wb.l _ (dz (l:=b.rules) (i:=i) (by omega))
  obtain⟨inf,hi1,hi2⟩:=gj (P:=Tryz.prog) (t:=81) (n:=49) (by kernel_rfl)
  obtain⟨p,hp1,hp2⟩:=ha.l.Eb Rl.aW Tryz.underlying42 hi1 hi2 Tryz.underlying81 rfl (by omega) hx
  obtain⟨q,hq1,hq2⟩:=hb.l.Eb Rl.aW Tryz.underlying42 hi1 hi2 Tryz.underlying81 rfl (by omega) hy
  obtain⟨x,hxe⟩:∃x,x=a.rules.getD i default:=⟨_,rfl⟩
  obtain⟨y,hye⟩:∃y,y=b.rules.getD i default:=⟨_,rfl⟩
  rw[←hxe]at hx wx hp2
  rw[←hye]at hy wy hq2
  clear hi1 hi2 hxe hye
  have c142:=hp1
  have c143:=hp2
  have c147:=hq1
  have c148:=hq2
  by_cases hxy:x=y
  ·have c149:=fun W=>(Ff (.tmp 143) (.tmp 148) wx wy W).trans (by rw[(bD x y).2 hxy];rfl:_=Result.ok (.bool false) W)
   have c138:Value.int .i64 (IntKind.i64.wrap ((i:Int)+1))=.int .i64 ((i+1:Nat):Int):=iw (by rw[j5 (by omega) (by omega)];rfl)
   have h0:i+1≤a.rules.length∧fP a.rules b.rules (i+1):=⟨hlt,fun j hj=>by
    by_cases hji:j=i
    ·subst hji;rw[hx,hy,hxy]
    ·exact hi.2 j (by omega)⟩
   have h1:a.rules.length - (i+1) < a.rules.length - i:=by omega
   have h2:([(2,.ptr 0 0),(3,.ptr 1 0),(9,.val (.int .i64 ((i+1:Nat):Int)))]:List (Nat×Sx.SV))=[(2,.ptr 0 0),(3,.ptr 1 0),(9,.val (.int .i64 ((i+1:Nat):Int)))]:=rfl
   have z3:bC a b s t=bC a b s t:=rfl
   refine⟨[(136,.is (.bool true)),(142,.any p),(143,.any (.agg x.cells.toArray)),(147,.any q),(148,.any (.agg y.cells.toArray)),(149,.bin (.bool false)),(138,.is (.int .i64 ((i+1:Nat):Int)))],[],?_⟩
   exact Eq.mp (by kernel_rfl) (Sx.t8 c136 c142 c143 c147 c148 c149 c138 h0 (Sx.t2 h1 h2 z3))
  ·have c149:=fun W=>(Ff (.tmp 143) (.tmp 148) wx wy W).trans (by rw[show cn x y=false from Bool.eq_false_iff.2 fun hh=>hxy ((bD x y).1 hh)];rfl:_=Result.ok (.bool true) W)
   have hf:B=false:=hB fun he=>hxy (by rw[he,hy]at hx;exact(Option.some.inj hx).symm)
   have z0:qX B [.val (.bool false)] []:=by rw[hf];rfl
   refine⟨[(136,.is (.bool true)),(142,.any p),(143,.any (.agg x.cells.toArray)),(147,.any q),(148,.any (.agg y.cells.toArray)),(149,.bin (.bool true))],[],?_⟩
   exact Eq.mp (by kernel_rfl) (Sx.t4 c136 c142 c143 c147 (Sx.t2 c148 c149 z0))
 ·have c136:Value.bool (decide ((i:Int) < (a.rules.length:Int)))=.bool false:=dY (decide_eq_false (by omega))
  have hin:i=a.rules.length:=by omega
  have h0:a.rules=b.rules:=fP.all (by rw[←hin];exact hi.2) hl
  have h1:([(2,.ptr 0 0),(3,.ptr 1 0)]:List (Nat×Sx.SV))=[(2,.ptr 0 0),(3,.ptr 1 0)]:=rfl
  have z2:bC a b s t=bC a b s t:=rfl
  refine⟨[(136,.is (.bool false))],[],?_⟩
  exact Eq.mp (by kernel_rfl) (Sx.t2 c136 h0 (And.intro h1 z2))
theorem IN{w:World}(a b:CF)(s t:fI)(_ha:eo w [] a s)(_hb:eo w [] b t)(_wa:eU a)(_wb:eU b)(_fa:e8 a)(e0:¬a.ao.length=b.ao.length):Calls Tryz.prog 25 #[.agg (an a s).toArray,.agg (an b t).toArray] w (Sx.bc ⟨w,[],fun _ _=>False⟩ (qX (cn a b))):=by
 have cx:Value.bool ((a.ao.length:Int) !=(b.ao.length:Int))=.bool true:=dQ (bne_iff_ne.2 (by omega))
 have hf:cn a b=false:=Bool.eq_false_iff.2 fun hh=>e0 (by rw[(bD a b).1 hh])
 have z0:qX (cn a b) [.val (.bool false)] []:=by rw[hf];rfl
 refine Sx.aT (args:=[.val (.agg (an a s).toArray),.val (.agg (an b t).toArray)]) (ct w) [(16,.is (.bool true))] [] (by kernel_rfl) Tryz.func25 rfl (Nat.le_of_ble_eq_true rfl) rfl ?_
 exact Eq.mp (by kernel_rfl) (And.intro cx z0)
theorem IM{w:World}(a b:CF)(s t:fI)(_ha:eo w [] a s)(_hb:eo w [] b t)(_wa:eU a)(_wb:eU b)(_fa:e8 a)(e0:a.ao.length=b.ao.length)(e1:¬a.ah.length=b.ah.length):Calls Tryz.prog 25 #[.agg (an a s).toArray,.agg (an b t).toArray] w (Sx.bc ⟨w,[],fun _ _=>False⟩ (qX (cn a b))):=by
 have cx:Value.bool ((a.ao.length:Int) !=(b.ao.length:Int))=.bool false:=by rw[e0];exact bJ _
 have c24:Value.bool ((a.ah.length:Int) !=(b.ah.length:Int))=.bool true:=dQ (bne_iff_ne.2 (by omega))
 have hf:cn a b=false:=Bool.eq_false_iff.2 fun hh=>e1 (by rw[(bD a b).1 hh])
 have z0:qX (cn a b) [.val (.bool false)] []:=by rw[hf];rfl
 refine Sx.aT (args:=[.val (.agg (an a s).toArray),.val (.agg (an b t).toArray)]) (ct w) [(16,.is (.bool false)),(24,.is (.bool true))] [] (by kernel_rfl) Tryz.func25 rfl (Nat.le_of_ble_eq_true rfl) rfl ?_
 exact Eq.mp (by kernel_rfl) (Sx.t2 cx c24 z0)
theorem IL{w:World}(a b:CF)(s t:fI)(_ha:eo w [] a s)(_hb:eo w [] b t)(_wa:eU a)(_wb:eU b)(_fa:e8 a)(e0:a.ao.length=b.ao.length)(e1:a.ah.length=b.ah.length)(e2:¬a.aj.length=b.aj.length):Calls Tryz.prog 25 #[.agg (an a s).toArray,.agg (an b t).toArray] w (Sx.bc ⟨w,[],fun _ _=>False⟩ (qX (cn a b))):=by
 have cx:Value.bool ((a.ao.length:Int) !=(b.ao.length:Int))=.bool false:=by rw[e0];exact bJ _
 have c24:Value.bool ((a.ah.length:Int) !=(b.ah.length:Int))=.bool false:=by rw[e1];exact bJ _
 have c33:Value.bool ((a.aj.length:Int) !=(b.aj.length:Int))=.bool true:=dQ (bne_iff_ne.2 (by omega))
 have hf:cn a b=false:=Bool.eq_false_iff.2 fun hh=>e2 (by rw[(bD a b).1 hh])
 have z0:qX (cn a b) [.val (.bool false)] []:=by rw[hf];rfl
 refine Sx.aT (args:=[.val (.agg (an a s).toArray),.val (.agg (an b t).toArray)]) (ct w) [(16,.is (.bool false)),(24,.is (.bool false)),(33,.is (.bool true))] [] (by kernel_rfl) Tryz.func25 rfl (Nat.le_of_ble_eq_true rfl) rfl ?_
 exact Eq.mp (by kernel_rfl) (Sx.t2 cx c24 (And.intro c33 z0))
theorem IK{w:World}(a b:CF)(s t:fI)(_ha:eo w [] a s)(_hb:eo w [] b t)(_wa:eU a)(_wb:eU b)(_fa:e8 a)(e0:a.ao.length=b.ao.length)(e1:a.ah.length=b.ah.length)(e2:a.aj.length=b.aj.length)(e3:¬a.ab.length=b.ab.length):Calls Tryz.prog 25 #[.agg (an a s).toArray,.agg (an b t).toArray] w (Sx.bc ⟨w,[],fun _ _=>False⟩ (qX (cn a b))):=by
 have cx:Value.bool ((a.ao.length:Int) !=(b.ao.length:Int))=.bool false:=by rw[e0];exact bJ _
 have c24:Value.bool ((a.ah.length:Int) !=(b.ah.length:Int))=.bool false:=by rw[e1];exact bJ _
 have c33:Value.bool ((a.aj.length:Int) !=(b.aj.length:Int))=.bool false:=by rw[e2];exact bJ _
 have c42:Value.bool ((a.ab.length:Int) !=(b.ab.length:Int))=.bool true:=dQ (bne_iff_ne.2 (by omega))
 have hf:cn a b=false:=Bool.eq_false_iff.2 fun hh=>e3 (by rw[(bD a b).1 hh])
 have z0:qX (cn a b) [.val (.bool false)] []:=by rw[hf];rfl
 refine Sx.aT (args:=[.val (.agg (an a s).toArray),.val (.agg (an b t).toArray)]) (ct w) [(16,.is (.bool false)),(24,.is (.bool false)),(33,.is (.bool false)),(42,.is (.bool true))] [] (by kernel_rfl) Tryz.func25 rfl (Nat.le_of_ble_eq_true rfl) rfl ?_
 exact Eq.mp (by kernel_rfl) (Sx.t4 cx c24 c33 c42 z0)
theorem IJ{w:World}(a b:CF)(s t:fI)(_ha:eo w [] a s)(_hb:eo w [] b t)(_wa:eU a)(_wb:eU b)(_fa:e8 a)(e0:a.ao.length=b.ao.length)(e1:a.ah.length=b.ah.length)(e2:a.aj.length=b.aj.length)(e3:a.ab.length=b.ab.length)(e4:¬a.rules.length=b.rules.length):Calls Tryz.prog 25 #[.agg (an a s).toArray,.agg (an b t).toArray] w (Sx.bc ⟨w,[],fun _ _=>False⟩ (qX (cn a b))):=by
 have cx:Value.bool ((a.ao.length:Int) !=(b.ao.length:Int))=.bool false:=by rw[e0];exact bJ _
 have c24:Value.bool ((a.ah.length:Int) !=(b.ah.length:Int))=.bool false:=by rw[e1];exact bJ _
 have c33:Value.bool ((a.aj.length:Int) !=(b.aj.length:Int))=.bool false:=by rw[e2];exact bJ _
 have c42:Value.bool ((a.ab.length:Int) !=(b.ab.length:Int))=.bool false:=by rw[e3];exact bJ _
 have c51:Value.bool ((a.rules.length:Int) !=(b.rules.length:Int))=.bool true:=dQ (bne_iff_ne.2 (by omega))
 have hf:cn a b=false:=Bool.eq_false_iff.2 fun hh=>e4 (by rw[(bD a b).1 hh])
 have z0:qX (cn a b) [.val (.bool false)] []:=by rw[hf];rfl
 refine Sx.aT (args:=[.val (.agg (an a s).toArray),.val (.agg (an b t).toArray)]) (ct w) [(16,.is (.bool false)),(24,.is (.bool false)),(33,.is (.bool false)),(42,.is (.bool false)),(51,.is (.bool true))] [] (by kernel_rfl) Tryz.func25 rfl (Nat.le_of_ble_eq_true rfl) rfl ?_
 exact Eq.mp (by kernel_rfl) (Sx.t4 cx c24 c33 c42 (And.intro c51 z0))
theorem II{w:World}(a b:CF)(s t:fI)(_ha:eo w [] a s)(_hb:eo w [] b t)(_wa:eU a)(_wb:eU b)(_fa:e8 a)(e0:a.ao.length=b.ao.length)(e1:a.ah.length=b.ah.length)(e2:a.aj.length=b.aj.length)(e3:a.ab.length=b.ab.length)(e4:a.rules.length=b.rules.length)(e5:¬a.aL=b.aL):Calls Tryz.prog 25 #[.agg (an a s).toArray,.agg (an b t).toArray] w (Sx.bc ⟨w,[],fun _ _=>False⟩ (qX (cn a b))):=by
 have cx:Value.bool ((a.ao.length:Int) !=(b.ao.length:Int))=.bool false:=by rw[e0];exact bJ _
 have c24:Value.bool ((a.ah.length:Int) !=(b.ah.length:Int))=.bool false:=by rw[e1];exact bJ _
 have c33:Value.bool ((a.aj.length:Int) !=(b.aj.length:Int))=.bool false:=by rw[e2];exact bJ _
 have c42:Value.bool ((a.ab.length:Int) !=(b.ab.length:Int))=.bool false:=by rw[e3];exact bJ _
 have c51:Value.bool ((a.rules.length:Int) !=(b.rules.length:Int))=.bool false:=by rw[e4];exact bJ _
 have c58:Value.bool (a.aL !=b.aL)=.bool true:=dQ (bne_iff_ne.2 (by exact e5))
 have hf:cn a b=false:=Bool.eq_false_iff.2 fun hh=>e5 (by rw[(bD a b).1 hh])
 have z0:qX (cn a b) [.val (.bool false)] []:=by rw[hf];rfl
 refine Sx.aT (args:=[.val (.agg (an a s).toArray),.val (.agg (an b t).toArray)]) (ct w) [(16,.is (.bool false)),(24,.is (.bool false)),(33,.is (.bool false)),(42,.is (.bool false)),(51,.is (.bool false)),(58,.is (.bool true))] [] (by kernel_rfl) Tryz.func25 rfl (Nat.le_of_ble_eq_true rfl) rfl ?_
 exact Eq.mp (by kernel_rfl) (Sx.t4 cx c24 c33 c42 (Sx.t2 c51 c58 z0))
theorem IH{w:World}(a b:CF)(s t:fI)(ha:eo w [] a s)(hb:eo w [] b t)(wa:eU a)(wb:eU b)(fa:e8 a)(e0:a.ao.length=b.ao.length)(e1:a.ah.length=b.ah.length)(e2:a.aj.length=b.aj.length)(e3:a.ab.length=b.ab.length)(e4:a.rules.length=b.rules.length)(e5:a.aL=b.aL):Calls Tryz.prog 25 #[.agg (an a s).toArray,.agg (an b t).toArray] w (Sx.bc ⟨w,[],fun _ _=>False⟩ (qX (cn a b))):=by
 have cx:Value.bool ((a.ao.length:Int) !=(b.ao.length:Int))=.bool false:=by rw[e0];exact bJ _
 have c24:Value.bool ((a.ah.length:Int) !=(b.ah.length:Int))=.bool false:=by rw[e1];exact bJ _
 have c33:Value.bool ((a.aj.length:Int) !=(b.aj.length:Int))=.bool false:=by rw[e2];exact bJ _
 have c42:Value.bool ((a.ab.length:Int) !=(b.ab.length:Int))=.bool false:=by rw[e3];exact bJ _
 have c51:Value.bool ((a.rules.length:Int) !=(b.rules.length:Int))=.bool false:=by rw[e4];exact bJ _
 have c58:Value.bool (a.aL !=b.aL)=.bool false:=by rw[e5];exact bJ _
 have hB:∀{p:Prop},(a=b→p)→¬p→cn a b=false:=fun h hn=>Bool.eq_false_iff.2 fun hh=>hn (h ((bD a b).1 hh))
 have rd2:=MQ a b s t ha hb wa wb fa e0 (cn a b) (hB fun hh=>by rw[hh])
 have h0:0≤a.ao.length∧fP a.ao b.ao 0:=⟨Nat.zero_le _,fun j hj=>(by omega)⟩
 have ee1:([(2,.ptr 0 0),(3,.ptr 1 0),(5,.val (.int .i64 ((0:Nat):Int)))]:List (Nat×Sx.SV))=[(2,.ptr 0 0),(3,.ptr 1 0),(5,.val (.int .i64 ((0:Nat):Int)))]∧bC a b s t=bC a b s t:=⟨rfl,rfl⟩
 have rd7:=MP a b s t ha hb wa wb fa e1 (cn a b) (hB fun hh=>by rw[hh])
 have h5:0≤a.ah.length∧fP a.ah b.ah 0:=⟨Nat.zero_le _,fun j hj=>(by omega)⟩
 have e6:([(2,.ptr 0 0),(3,.ptr 1 0),(6,.val (.int .i64 ((0:Nat):Int)))]:List (Nat×Sx.SV))=[(2,.ptr 0 0),(3,.ptr 1 0),(6,.val (.int .i64 ((0:Nat):Int)))]∧bC a b s t=bC a b s t:=⟨rfl,rfl⟩
 have rd12:=MO a b s t ha hb wa wb fa e2 (cn a b) (hB fun hh=>by rw[hh])
 have h10:0≤a.aj.length∧fP a.aj b.aj 0:=⟨Nat.zero_le _,fun j hj=>(by omega)⟩
 have e11:([(2,.ptr 0 0),(3,.ptr 1 0),(7,.val (.int .i64 ((0:Nat):Int)))]:List (Nat×Sx.SV))=[(2,.ptr 0 0),(3,.ptr 1 0),(7,.val (.int .i64 ((0:Nat):Int)))]∧bC a b s t=bC a b s t:=⟨rfl,rfl⟩
 have rd17:=MN a b s t ha hb wa wb fa e3 (cn a b) (hB fun hh=>by rw[hh])
 have h15:0≤a.ab.length∧fP a.ab b.ab 0:=⟨Nat.zero_le _,fun j hj=>(by omega)⟩
 have e16:([(2,.ptr 0 0),(3,.ptr 1 0),(8,.val (.int .i64 ((0:Nat):Int)))]:List (Nat×Sx.SV))=[(2,.ptr 0 0),(3,.ptr 1 0),(8,.val (.int .i64 ((0:Nat):Int)))]∧bC a b s t=bC a b s t:=⟨rfl,rfl⟩
 have rd22:=MM a b s t ha hb wa wb fa e4 (cn a b) (hB fun hh=>by rw[hh])
 have h20:0≤a.rules.length∧fP a.rules b.rules 0:=⟨Nat.zero_le _,fun j hj=>(by omega)⟩
 have e21:([(2,.ptr 0 0),(3,.ptr 1 0),(9,.val (.int .i64 ((0:Nat):Int)))]:List (Nat×Sx.SV))=[(2,.ptr 0 0),(3,.ptr 1 0),(9,.val (.int .i64 ((0:Nat):Int)))]∧bC a b s t=bC a b s t:=⟨rfl,rfl⟩
 have z25f:=fun(_:Unit) (q0:a.ao=b.ao) (_:Unit) (q1:a.ah=b.ah) (_:Unit) (q2:a.aj=b.aj) (_:Unit) (q3:a.ab=b.ab) (_:Unit) (q4:a.rules=b.rules)=>(show qX (cn a b) [.val (.bool true)] []from by
  have:a=b:=by cases a;cases b;simp_all
  rw[(bD a b).2 this];rfl)
 clear e1
 have e1:=ee1
 refine Sx.aT (args:=[.val (.agg (an a s).toArray),.val (.agg (an b t).toArray)]) (ct w) [(16,.is (.bool false)),(24,.is (.bool false)),(33,.is (.bool false)),(42,.is (.bool false)),(51,.is (.bool false)),(58,.is (.bool false))]
  [.mk Nat 0 (fun i=>i≤a.ao.length∧fP a.ao b.ao i) (fun i=>[(2,.ptr 0 0),(3,.ptr 1 0),(5,.val (.int .i64 ((i:Nat):Int)))]) (fun _=>bC a b s t) (fun i=>i+1) (fun i=>a.ao.length - i) Unit (fun _=>a.ao=b.ao) (fun _=>[(2,.ptr 0 0),(3,.ptr 1 0)]) (fun _=>bC a b s t) (fun _=>()),
   .mk Nat 0 (fun i=>i≤a.ah.length∧fP a.ah b.ah i) (fun i=>[(2,.ptr 0 0),(3,.ptr 1 0),(6,.val (.int .i64 ((i:Nat):Int)))]) (fun _=>bC a b s t) (fun i=>i+1) (fun i=>a.ah.length - i) Unit (fun _=>a.ah=b.ah) (fun _=>[(2,.ptr 0 0),(3,.ptr 1 0)]) (fun _=>bC a b s t) (fun _=>()),
   .mk Nat 0 (fun i=>i≤a.aj.length∧fP a.aj b.aj i) (fun i=>[(2,.ptr 0 0),(3,.ptr 1 0),(7,.val (.int .i64 ((i:Nat):Int)))]) (fun _=>bC a b s t) (fun i=>i+1) (fun i=>a.aj.length - i) Unit (fun _=>a.aj=b.aj) (fun _=>[(2,.ptr 0 0),(3,.ptr 1 0)]) (fun _=>bC a b s t) (fun _=>()),
   .mk Nat 0 (fun i=>i≤a.ab.length∧fP a.ab b.ab i) (fun i=>[(2,.ptr 0 0),(3,.ptr 1 0),(8,.val (.int .i64 ((i:Nat):Int)))]) (fun _=>bC a b s t) (fun i=>i+1) (fun i=>a.ab.length - i) Unit (fun _=>a.ab=b.ab) (fun _=>[(2,.ptr 0 0),(3,.ptr 1 0)]) (fun _=>bC a b s t) (fun _=>()),
   .mk Nat 0 (fun i=>i≤a.rules.length∧fP a.rules b.rules i) (fun i=>[(2,.ptr 0 0),(3,.ptr 1 0),(9,.val (.int .i64 ((i:Nat):Int)))]) (fun _=>bC a b s t) (fun i=>i+1) (fun i=>a.rules.length - i) Unit (fun _=>a.rules=b.rules) (fun _=>[(2,.ptr 0 0),(3,.ptr 1 0)]) (fun _=>bC a b s t) (fun _=>())] (by kernel_rfl) Tryz.func25 rfl (Nat.le_of_ble_eq_true rfl) rfl ?_
 exact Eq.mp (by kernel_rfl) (Sx.t8 cx c24 c33 c42 c51 c58 h0 e1 (And.intro rd2 (fun(x3:Unit) (hx4:a.ao=b.ao)=>(Sx.t2 h5 e6 (And.intro rd7 (fun(x8:Unit) (hx9:a.ah=b.ah)=>(Sx.t2 h10 e11 (And.intro rd12 (fun(x13:Unit) (hx14:a.aj=b.aj)=>(Sx.t2 h15 e16 (And.intro rd17 (fun(x18:Unit) (hx19:a.ab=b.ab)=>(Sx.t2 h20 e21 (And.intro rd22 (fun(x23:Unit) (hx24:a.rules=b.rules)=>(z25f x3 hx4 x8 hx9 x13 hx14 x18 hx19 x23 hx24))))))))))))))))
theorem EX{w:World}(a b:CF)(s t:fI)(ha:eo w [] a s)(hb:eo w [] b t)(wa:eU a)(wb:eU b)(fa:e8 a):Calls Tryz.prog 25 #[.agg (an a s).toArray,.agg (an b t).toArray] w fun e w'=>e=.returned (.bool (cn a b))∧aw [] w w':=by
 have main:Calls Tryz.prog 25 #[.agg (an a s).toArray,.agg (an b t).toArray] w (Sx.bc ⟨w,[],fun _ _=>False⟩ (qX (cn a b))):=by
  by_cases e0:a.ao.length=b.ao.length
  ·by_cases e1:a.ah.length=b.ah.length
   ·by_cases e2:a.aj.length=b.aj.length
    ·by_cases e3:a.ab.length=b.ab.length
     ·by_cases e4:a.rules.length=b.rules.length
      ·by_cases e5:a.aL=b.aL
       ·exact IH a b s t ha hb wa wb fa e0 e1 e2 e3 e4 e5
       ·exact II a b s t ha hb wa wb fa e0 e1 e2 e3 e4 e5
      ·exact IJ a b s t ha hb wa wb fa e0 e1 e2 e3 e4
     ·exact IK a b s t ha hb wa wb fa e0 e1 e2 e3
    ·exact IL a b s t ha hb wa wb fa e0 e1 e2
   ·exact IM a b s t ha hb wa wb fa e0 e1
  ·exact IN a b s t ha hb wa wb fa e0
 refine main.mono fun en w' hp=>?_
 rcases hp with⟨β,l,mem,hl,he,hR⟩ | ⟨_,_,hf,_⟩
 ·have hl:l=[.val (.bool (cn a b))]:=hl
  subst hl
  exact⟨he,hR.aP⟩
 ·exact hf.elim
end Go.Proofs.YtnncigmpcdehnaaGreatDoor
