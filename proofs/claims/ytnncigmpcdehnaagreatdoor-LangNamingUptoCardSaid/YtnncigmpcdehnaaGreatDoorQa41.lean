import Derived.Test.YtnncigmpcdehnaaGreatDoorQa40
namespace Go.Proofs.YtnncigmpcdehnaaGreatDoor
set_option maxRecDepth 100000
open Go Go.RowKit Go.Lib Go.Sort
def EqTo{α:Type}(a b:List α)(k:Nat):Prop:=∀j,j < k→a[j]?=b[j]?
theorem EqTo.all{α:Type}{a b:List α}(h:EqTo a b a.length)(hl:a.length=b.length):a=b:=by
 refine List.ext_getElem? fun j=>?_
 by_cases hj:j < a.length
 ·exact h j hj
 ·rw[List.getElem?_eq_none (by omega),List.getElem?_eq_none (by omega)]
def SmR(B:Bool)(l:List Sx.SV)(_:List Sx.Row):Prop:=l=[.val (.bool B)]
def smMem(a b:CF)(s t:Sls):List Sx.Row:=[⟨46,.vals (cfCells a s)⟩,⟨46,.vals (cfCells b t)⟩]
theorem bneq_self(a:Int):Value.bool (a !=a)=.bool false:=by simp
theorem sm_r0{w:World}(a b:CF)(s t:Sls)(ha:CfRd w [] a s)(hb:CfRd w [] b t)(wa:CfWf a)(wb:CfWf b)(fa:CfFew a)(hl:a.ports.length=b.ports.length)(B:Bool)(hB:a.ports≠b.ports→B=false)(i:Nat)(hi:i≤a.ports.length∧EqTo a.ports b.ports i) :
  ∃H' L',Sx.exB Tryz.prog Tryz.f25.ntmps ⟨w,[],fun _ _=>False⟩ (Sx.bodyOf Tryz.f25 0) H' L' ⟨[(2,.ptr 0 0),(3,.ptr 1 0),(5,.val (.int .i64 ((i:Nat):Int)))],smMem a b s t⟩
   (Sx.loopK (fun i=>i≤a.ports.length∧EqTo a.ports b.ports i) (fun i=>[(2,.ptr 0 0),(3,.ptr 1 0),(5,.val (.int .i64 ((i:Nat):Int)))]) (fun _=>smMem a b s t) (fun i=>i+1) (fun i=>a.ports.length - i) (fun(_:Unit)=>a.ports=b.ports) (fun _=>[(2,.ptr 0 0),(3,.ptr 1 0)]) (fun _=>smMem a b s t) (fun _=>()) (Sx.outId (Sx.bodyOf Tryz.f25 0) - 1) (Sx.atEndA Tryz.prog Tryz.f25 (SmR B) .ret) i):=by
 have few:=fa.p
 by_cases hlt:i < a.ports.length
 ·have c64:Value.bool (decide ((i:Int) < (a.ports.length:Int)))=.bool true:=bzt (decide_eq_true (by omega))
  have hx:=getD_at hlt
  have hy:=getD_at (l:=b.ports) (i:=i) (by omega)
  have wx:=wa.p _ (getD_mem hlt)
  have wy:=wb.p _ (getD_mem (l:=b.ports) (i:=i) (by omega))
  obtain⟨inf,hi1,hi2⟩:=size_of (P:=Tryz.prog) (t:=3) (n:=1) (by kernel_rfl)
  obtain⟨p,hp1,hp2⟩:=ha.p.at1 Tryz.underlying40 hi1 hi2 Tryz.underlying3 rfl hx
  obtain⟨q,hq1,hq2⟩:=hb.p.at1 Tryz.underlying40 hi1 hi2 Tryz.underlying3 rfl hy
  obtain⟨x,hxe⟩:∃x,x=a.ports.getD i default:=⟨_,rfl⟩
  obtain⟨y,hye⟩:∃y,y=b.ports.getD i default:=⟨_,rfl⟩
  rw[←hxe]at hx wx hp2
  rw[←hye]at hy wy hq2
  clear hi1 hi2 hxe hye
  have c70:=hp1
  have c71:=hp2
  have c75:=hq1
  have c76:=hq2
  by_cases hxy:x=y
  ·have c77:Value.bool (x !=y)=.bool false:=by rw[hxy];exact bneq_self y
   have c66:Value.int .i64 (IntKind.i64.wrap ((i:Int)+1))=.int .i64 ((i+1:Nat):Int):=iw (by rw[w64 (by omega) (by omega)];rfl)
   have h0:i+1≤a.ports.length∧EqTo a.ports b.ports (i+1):=⟨hlt,fun j hj=>by
    by_cases hji:j=i
    ·subst hji;rw[hx,hy,hxy]
    ·exact hi.2 j (by omega)⟩
   have h1:a.ports.length - (i+1) < a.ports.length - i:=by omega
   have h2:([(2,.ptr 0 0),(3,.ptr 1 0),(5,.val (.int .i64 ((i+1:Nat):Int)))]:List (Nat×Sx.SV))=[(2,.ptr 0 0),(3,.ptr 1 0),(5,.val (.int .i64 ((i+1:Nat):Int)))]:=rfl
   have z3:smMem a b s t=smMem a b s t:=rfl
   refine⟨[(64,.is (.bool true)),(70,.any p),(71,.any (.int .i64 x)),(75,.any q),(76,.any (.int .i64 y)),(77,.is (.bool false)),(66,.is (.int .i64 ((i+1:Nat):Int)))],[],?_⟩
   exact Eq.mp (by kernel_rfl) (Sx.t8 c64 c70 c71 c75 c76 c77 c66 h0 (Sx.t2 h1 h2 z3))
  ·have c77:Value.bool (x !=y)=.bool true:=bzt (bne_iff_ne.2 hxy)
   have hf:B=false:=hB fun he=>hxy (by rw[he,hy]at hx;exact(Option.some.inj hx).symm)
   have z0:SmR B [.val (.bool false)] []:=by rw[hf];rfl
   refine⟨[(64,.is (.bool true)),(70,.any p),(71,.any (.int .i64 x)),(75,.any q),(76,.any (.int .i64 y)),(77,.is (.bool true))],[],?_⟩
   exact Eq.mp (by kernel_rfl) (Sx.t4 c64 c70 c71 c75 (Sx.t2 c76 c77 z0))
 ·have c64:Value.bool (decide ((i:Int) < (a.ports.length:Int)))=.bool false:=bzf (decide_eq_false (by omega))
  have hin:i=a.ports.length:=by omega
  have h0:a.ports=b.ports:=EqTo.all (by rw[←hin];exact hi.2) hl
  have h1:([(2,.ptr 0 0),(3,.ptr 1 0)]:List (Nat×Sx.SV))=[(2,.ptr 0 0),(3,.ptr 1 0)]:=rfl
  have z2:smMem a b s t=smMem a b s t:=rfl
  refine⟨[(64,.is (.bool false))],[],?_⟩
  exact Eq.mp (by kernel_rfl) (Sx.t2 c64 h0 (And.intro h1 z2))
theorem sm_r1{w:World}(a b:CF)(s t:Sls)(ha:CfRd w [] a s)(hb:CfRd w [] b t)(wa:CfWf a)(wb:CfWf b)(fa:CfFew a)(hl:a.routes.length=b.routes.length)(B:Bool)(hB:a.routes≠b.routes→B=false)(i:Nat)(hi:i≤a.routes.length∧EqTo a.routes b.routes i) :
  ∃H' L',Sx.exB Tryz.prog Tryz.f25.ntmps ⟨w,[],fun _ _=>False⟩ (Sx.bodyOf Tryz.f25 1) H' L' ⟨[(2,.ptr 0 0),(3,.ptr 1 0),(6,.val (.int .i64 ((i:Nat):Int)))],smMem a b s t⟩
   (Sx.loopK (fun i=>i≤a.routes.length∧EqTo a.routes b.routes i) (fun i=>[(2,.ptr 0 0),(3,.ptr 1 0),(6,.val (.int .i64 ((i:Nat):Int)))]) (fun _=>smMem a b s t) (fun i=>i+1) (fun i=>a.routes.length - i) (fun(_:Unit)=>a.routes=b.routes) (fun _=>[(2,.ptr 0 0),(3,.ptr 1 0)]) (fun _=>smMem a b s t) (fun _=>()) (Sx.outId (Sx.bodyOf Tryz.f25 1) - 1) (Sx.atEndA Tryz.prog Tryz.f25 (SmR B) .ret) i):=by
 have few:=fa.r
 by_cases hlt:i < a.routes.length
 ·have c82:Value.bool (decide ((i:Int) < (a.routes.length:Int)))=.bool true:=bzt (decide_eq_true (by omega))
  have hx:=getD_at hlt
  have hy:=getD_at (l:=b.routes) (i:=i) (by omega)
  have wx:=wa.r _ (getD_mem hlt)
  have wy:=wb.r _ (getD_mem (l:=b.routes) (i:=i) (by omega))
  obtain⟨inf,hi1,hi2⟩:=size_of (P:=Tryz.prog) (t:=118) (n:=19) (by kernel_rfl)
  obtain⟨p,hp1,hp2⟩:=ha.r.atW Rt.cells_len Tryz.underlying41 hi1 hi2 Tryz.underlying118 rfl (by omega) hx
  obtain⟨q,hq1,hq2⟩:=hb.r.atW Rt.cells_len Tryz.underlying41 hi1 hi2 Tryz.underlying118 rfl (by omega) hy
  obtain⟨x,hxe⟩:∃x,x=a.routes.getD i default:=⟨_,rfl⟩
  obtain⟨y,hye⟩:∃y,y=b.routes.getD i default:=⟨_,rfl⟩
  rw[←hxe]at hx wx hp2
  rw[←hye]at hy wy hq2
  clear hi1 hi2 hxe hye
  have c88:=hp1
  have c89:=hp2
  have c93:=hq1
  have c94:=hq2
  by_cases hxy:x=y
  ·have c95:=fun W=>(rt_neq (.tmp 89) (.tmp 94) wx wy W).trans (by rw[(sameB_iff x y).2 hxy];rfl:_=Result.ok (.bool false) W)
   have c84:Value.int .i64 (IntKind.i64.wrap ((i:Int)+1))=.int .i64 ((i+1:Nat):Int):=iw (by rw[w64 (by omega) (by omega)];rfl)
   have h0:i+1≤a.routes.length∧EqTo a.routes b.routes (i+1):=⟨hlt,fun j hj=>by
    by_cases hji:j=i
    ·subst hji;rw[hx,hy,hxy]
    ·exact hi.2 j (by omega)⟩
   have h1:a.routes.length - (i+1) < a.routes.length - i:=by omega
   have h2:([(2,.ptr 0 0),(3,.ptr 1 0),(6,.val (.int .i64 ((i+1:Nat):Int)))]:List (Nat×Sx.SV))=[(2,.ptr 0 0),(3,.ptr 1 0),(6,.val (.int .i64 ((i+1:Nat):Int)))]:=rfl
   have z3:smMem a b s t=smMem a b s t:=rfl
   refine⟨[(82,.is (.bool true)),(88,.any p),(89,.any (.agg x.cells.toArray)),(93,.any q),(94,.any (.agg y.cells.toArray)),(95,.bin (.bool false)),(84,.is (.int .i64 ((i+1:Nat):Int)))],[],?_⟩
   exact Eq.mp (by kernel_rfl) (Sx.t8 c82 c88 c89 c93 c94 c95 c84 h0 (Sx.t2 h1 h2 z3))
  ·have c95:=fun W=>(rt_neq (.tmp 89) (.tmp 94) wx wy W).trans (by rw[show sameB x y=false from Bool.eq_false_iff.2 fun hh=>hxy ((sameB_iff x y).1 hh)];rfl:_=Result.ok (.bool true) W)
   have hf:B=false:=hB fun he=>hxy (by rw[he,hy]at hx;exact(Option.some.inj hx).symm)
   have z0:SmR B [.val (.bool false)] []:=by rw[hf];rfl
   refine⟨[(82,.is (.bool true)),(88,.any p),(89,.any (.agg x.cells.toArray)),(93,.any q),(94,.any (.agg y.cells.toArray)),(95,.bin (.bool true))],[],?_⟩
   exact Eq.mp (by kernel_rfl) (Sx.t4 c82 c88 c89 c93 (Sx.t2 c94 c95 z0))
 ·have c82:Value.bool (decide ((i:Int) < (a.routes.length:Int)))=.bool false:=bzf (decide_eq_false (by omega))
  have hin:i=a.routes.length:=by omega
  have h0:a.routes=b.routes:=EqTo.all (by rw[←hin];exact hi.2) hl
  have h1:([(2,.ptr 0 0),(3,.ptr 1 0)]:List (Nat×Sx.SV))=[(2,.ptr 0 0),(3,.ptr 1 0)]:=rfl
  have z2:smMem a b s t=smMem a b s t:=rfl
  refine⟨[(82,.is (.bool false))],[],?_⟩
  exact Eq.mp (by kernel_rfl) (Sx.t2 c82 h0 (And.intro h1 z2))
theorem sm_r2{w:World}(a b:CF)(s t:Sls)(ha:CfRd w [] a s)(hb:CfRd w [] b t)(wa:CfWf a)(wb:CfWf b)(fa:CfFew a)(hl:a.meters.length=b.meters.length)(B:Bool)(hB:a.meters≠b.meters→B=false)(i:Nat)(hi:i≤a.meters.length∧EqTo a.meters b.meters i) :
  ∃H' L',Sx.exB Tryz.prog Tryz.f25.ntmps ⟨w,[],fun _ _=>False⟩ (Sx.bodyOf Tryz.f25 2) H' L' ⟨[(2,.ptr 0 0),(3,.ptr 1 0),(7,.val (.int .i64 ((i:Nat):Int)))],smMem a b s t⟩
   (Sx.loopK (fun i=>i≤a.meters.length∧EqTo a.meters b.meters i) (fun i=>[(2,.ptr 0 0),(3,.ptr 1 0),(7,.val (.int .i64 ((i:Nat):Int)))]) (fun _=>smMem a b s t) (fun i=>i+1) (fun i=>a.meters.length - i) (fun(_:Unit)=>a.meters=b.meters) (fun _=>[(2,.ptr 0 0),(3,.ptr 1 0)]) (fun _=>smMem a b s t) (fun _=>()) (Sx.outId (Sx.bodyOf Tryz.f25 2) - 1) (Sx.atEndA Tryz.prog Tryz.f25 (SmR B) .ret) i):=by
 have few:=fa.m
 by_cases hlt:i < a.meters.length
 ·have c100:Value.bool (decide ((i:Int) < (a.meters.length:Int)))=.bool true:=bzt (decide_eq_true (by omega))
  have hx:=getD_at hlt
  have hy:=getD_at (l:=b.meters) (i:=i) (by omega)
  have wx:=wa.m _ (getD_mem hlt)
  have wy:=wb.m _ (getD_mem (l:=b.meters) (i:=i) (by omega))
  obtain⟨inf,hi1,hi2⟩:=size_of (P:=Tryz.prog) (t:=122) (n:=4) (by kernel_rfl)
  obtain⟨p,hp1,hp2⟩:=ha.m.atW Me.cells_len Tryz.underlying43 hi1 hi2 Tryz.underlying122 rfl (by omega) hx
  obtain⟨q,hq1,hq2⟩:=hb.m.atW Me.cells_len Tryz.underlying43 hi1 hi2 Tryz.underlying122 rfl (by omega) hy
  obtain⟨x,hxe⟩:∃x,x=a.meters.getD i default:=⟨_,rfl⟩
  obtain⟨y,hye⟩:∃y,y=b.meters.getD i default:=⟨_,rfl⟩
  rw[←hxe]at hx wx hp2
  rw[←hye]at hy wy hq2
  clear hi1 hi2 hxe hye
  have c106:=hp1
  have c107:=hp2
  have c111:=hq1
  have c112:=hq2
  by_cases hxy:x=y
  ·have c113:=fun W=>(me_neq (.tmp 107) (.tmp 112) wx wy W).trans (by rw[(sameB_iff x y).2 hxy];rfl:_=Result.ok (.bool false) W)
   have c102:Value.int .i64 (IntKind.i64.wrap ((i:Int)+1))=.int .i64 ((i+1:Nat):Int):=iw (by rw[w64 (by omega) (by omega)];rfl)
   have h0:i+1≤a.meters.length∧EqTo a.meters b.meters (i+1):=⟨hlt,fun j hj=>by
    by_cases hji:j=i
    ·subst hji;rw[hx,hy,hxy]
    ·exact hi.2 j (by omega)⟩
   have h1:a.meters.length - (i+1) < a.meters.length - i:=by omega
   have h2:([(2,.ptr 0 0),(3,.ptr 1 0),(7,.val (.int .i64 ((i+1:Nat):Int)))]:List (Nat×Sx.SV))=[(2,.ptr 0 0),(3,.ptr 1 0),(7,.val (.int .i64 ((i+1:Nat):Int)))]:=rfl
   have z3:smMem a b s t=smMem a b s t:=rfl
   refine⟨[(100,.is (.bool true)),(106,.any p),(107,.any (.agg x.cells.toArray)),(111,.any q),(112,.any (.agg y.cells.toArray)),(113,.bin (.bool false)),(102,.is (.int .i64 ((i+1:Nat):Int)))],[],?_⟩
   exact Eq.mp (by kernel_rfl) (Sx.t8 c100 c106 c107 c111 c112 c113 c102 h0 (Sx.t2 h1 h2 z3))
  ·have c113:=fun W=>(me_neq (.tmp 107) (.tmp 112) wx wy W).trans (by rw[show sameB x y=false from Bool.eq_false_iff.2 fun hh=>hxy ((sameB_iff x y).1 hh)];rfl:_=Result.ok (.bool true) W)
   have hf:B=false:=hB fun he=>hxy (by rw[he,hy]at hx;exact(Option.some.inj hx).symm)
   have z0:SmR B [.val (.bool false)] []:=by rw[hf];rfl
   refine⟨[(100,.is (.bool true)),(106,.any p),(107,.any (.agg x.cells.toArray)),(111,.any q),(112,.any (.agg y.cells.toArray)),(113,.bin (.bool true))],[],?_⟩
   exact Eq.mp (by kernel_rfl) (Sx.t4 c100 c106 c107 c111 (Sx.t2 c112 c113 z0))
 ·have c100:Value.bool (decide ((i:Int) < (a.meters.length:Int)))=.bool false:=bzf (decide_eq_false (by omega))
  have hin:i=a.meters.length:=by omega
  have h0:a.meters=b.meters:=EqTo.all (by rw[←hin];exact hi.2) hl
  have h1:([(2,.ptr 0 0),(3,.ptr 1 0)]:List (Nat×Sx.SV))=[(2,.ptr 0 0),(3,.ptr 1 0)]:=rfl
  have z2:smMem a b s t=smMem a b s t:=rfl
  refine⟨[(100,.is (.bool false))],[],?_⟩
  exact Eq.mp (by kernel_rfl) (Sx.t2 c100 h0 (And.intro h1 z2))
theorem sm_r3{w:World}(a b:CF)(s t:Sls)(ha:CfRd w [] a s)(hb:CfRd w [] b t)(wa:CfWf a)(wb:CfWf b)(fa:CfFew a)(hl:a.mirrors.length=b.mirrors.length)(B:Bool)(hB:a.mirrors≠b.mirrors→B=false)(i:Nat)(hi:i≤a.mirrors.length∧EqTo a.mirrors b.mirrors i) :
  ∃H' L',Sx.exB Tryz.prog Tryz.f25.ntmps ⟨w,[],fun _ _=>False⟩ (Sx.bodyOf Tryz.f25 3) H' L' ⟨[(2,.ptr 0 0),(3,.ptr 1 0),(8,.val (.int .i64 ((i:Nat):Int)))],smMem a b s t⟩
   (Sx.loopK (fun i=>i≤a.mirrors.length∧EqTo a.mirrors b.mirrors i) (fun i=>[(2,.ptr 0 0),(3,.ptr 1 0),(8,.val (.int .i64 ((i:Nat):Int)))]) (fun _=>smMem a b s t) (fun i=>i+1) (fun i=>a.mirrors.length - i) (fun(_:Unit)=>a.mirrors=b.mirrors) (fun _=>[(2,.ptr 0 0),(3,.ptr 1 0)]) (fun _=>smMem a b s t) (fun _=>()) (Sx.outId (Sx.bodyOf Tryz.f25 3) - 1) (Sx.atEndA Tryz.prog Tryz.f25 (SmR B) .ret) i):=by
 have few:=fa.i
 by_cases hlt:i < a.mirrors.length
 ·have c118:Value.bool (decide ((i:Int) < (a.mirrors.length:Int)))=.bool true:=bzt (decide_eq_true (by omega))
  have hx:=getD_at hlt
  have hy:=getD_at (l:=b.mirrors) (i:=i) (by omega)
  have wx:=wa.i _ (getD_mem hlt)
  have wy:=wb.i _ (getD_mem (l:=b.mirrors) (i:=i) (by omega))
  obtain⟨inf,hi1,hi2⟩:=size_of (P:=Tryz.prog) (t:=124) (n:=3) (by kernel_rfl)
  obtain⟨p,hp1,hp2⟩:=ha.i.atW Mi.cells_len Tryz.underlying44 hi1 hi2 Tryz.underlying124 rfl (by omega) hx
  obtain⟨q,hq1,hq2⟩:=hb.i.atW Mi.cells_len Tryz.underlying44 hi1 hi2 Tryz.underlying124 rfl (by omega) hy
  obtain⟨x,hxe⟩:∃x,x=a.mirrors.getD i default:=⟨_,rfl⟩
  obtain⟨y,hye⟩:∃y,y=b.mirrors.getD i default:=⟨_,rfl⟩
  rw[←hxe]at hx wx hp2
  rw[←hye]at hy wy hq2
  clear hi1 hi2 hxe hye
  have c124:=hp1
  have c125:=hp2
  have c129:=hq1
  have c130:=hq2
  by_cases hxy:x=y
  ·have c131:=fun W=>(mi_neq (.tmp 125) (.tmp 130) wx wy W).trans (by rw[(sameB_iff x y).2 hxy];rfl:_=Result.ok (.bool false) W)
   have c120:Value.int .i64 (IntKind.i64.wrap ((i:Int)+1))=.int .i64 ((i+1:Nat):Int):=iw (by rw[w64 (by omega) (by omega)];rfl)
   have h0:i+1≤a.mirrors.length∧EqTo a.mirrors b.mirrors (i+1):=⟨hlt,fun j hj=>by
    by_cases hji:j=i
    ·subst hji;rw[hx,hy,hxy]
    ·exact hi.2 j (by omega)⟩
   have h1:a.mirrors.length - (i+1) < a.mirrors.length - i:=by omega
   have h2:([(2,.ptr 0 0),(3,.ptr 1 0),(8,.val (.int .i64 ((i+1:Nat):Int)))]:List (Nat×Sx.SV))=[(2,.ptr 0 0),(3,.ptr 1 0),(8,.val (.int .i64 ((i+1:Nat):Int)))]:=rfl
   have z3:smMem a b s t=smMem a b s t:=rfl
   refine⟨[(118,.is (.bool true)),(124,.any p),(125,.any (.agg x.cells.toArray)),(129,.any q),(130,.any (.agg y.cells.toArray)),(131,.bin (.bool false)),(120,.is (.int .i64 ((i+1:Nat):Int)))],[],?_⟩
   exact Eq.mp (by kernel_rfl) (Sx.t8 c118 c124 c125 c129 c130 c131 c120 h0 (Sx.t2 h1 h2 z3))
  ·have c131:=fun W=>(mi_neq (.tmp 125) (.tmp 130) wx wy W).trans (by rw[show sameB x y=false from Bool.eq_false_iff.2 fun hh=>hxy ((sameB_iff x y).1 hh)];rfl:_=Result.ok (.bool true) W)
   have hf:B=false:=hB fun he=>hxy (by rw[he,hy]at hx;exact(Option.some.inj hx).symm)
   have z0:SmR B [.val (.bool false)] []:=by rw[hf];rfl
   refine⟨[(118,.is (.bool true)),(124,.any p),(125,.any (.agg x.cells.toArray)),(129,.any q),(130,.any (.agg y.cells.toArray)),(131,.bin (.bool true))],[],?_⟩
   exact Eq.mp (by kernel_rfl) (Sx.t4 c118 c124 c125 c129 (Sx.t2 c130 c131 z0))
 ·have c118:Value.bool (decide ((i:Int) < (a.mirrors.length:Int)))=.bool false:=bzf (decide_eq_false (by omega))
  have hin:i=a.mirrors.length:=by omega
  have h0:a.mirrors=b.mirrors:=EqTo.all (by rw[←hin];exact hi.2) hl
  have h1:([(2,.ptr 0 0),(3,.ptr 1 0)]:List (Nat×Sx.SV))=[(2,.ptr 0 0),(3,.ptr 1 0)]:=rfl
  have z2:smMem a b s t=smMem a b s t:=rfl
  refine⟨[(118,.is (.bool false))],[],?_⟩
  exact Eq.mp (by kernel_rfl) (Sx.t2 c118 h0 (And.intro h1 z2))
theorem sm_r4{w:World}(a b:CF)(s t:Sls)(ha:CfRd w [] a s)(hb:CfRd w [] b t)(wa:CfWf a)(wb:CfWf b)(fa:CfFew a)(hl:a.rules.length=b.rules.length)(B:Bool)(hB:a.rules≠b.rules→B=false)(i:Nat)(hi:i≤a.rules.length∧EqTo a.rules b.rules i) :
  ∃H' L',Sx.exB Tryz.prog Tryz.f25.ntmps ⟨w,[],fun _ _=>False⟩ (Sx.bodyOf Tryz.f25 4) H' L' ⟨[(2,.ptr 0 0),(3,.ptr 1 0),(9,.val (.int .i64 ((i:Nat):Int)))],smMem a b s t⟩
   (Sx.loopK (fun i=>i≤a.rules.length∧EqTo a.rules b.rules i) (fun i=>[(2,.ptr 0 0),(3,.ptr 1 0),(9,.val (.int .i64 ((i:Nat):Int)))]) (fun _=>smMem a b s t) (fun i=>i+1) (fun i=>a.rules.length - i) (fun(_:Unit)=>a.rules=b.rules) (fun _=>[(2,.ptr 0 0),(3,.ptr 1 0)]) (fun _=>smMem a b s t) (fun _=>()) (Sx.outId (Sx.bodyOf Tryz.f25 4) - 1) (Sx.atEndA Tryz.prog Tryz.f25 (SmR B) .ret) i):=by
 have few:=fa.l
 by_cases hlt:i < a.rules.length
 ·have c136:Value.bool (decide ((i:Int) < (a.rules.length:Int)))=.bool true:=bzt (decide_eq_true (by omega))
  have hx:=getD_at hlt
  have hy:=getD_at (l:=b.rules) (i:=i) (by omega)
  have wx:=wa.l _ (getD_mem hlt)
  have wy:=wb.l _ (getD_mem (l:=b.rules) (i:=i) (by omega))
  obtain⟨inf,hi1,hi2⟩:=size_of (P:=Tryz.prog) (t:=81) (n:=49) (by kernel_rfl)
  obtain⟨p,hp1,hp2⟩:=ha.l.atW Rl.cells_len Tryz.underlying42 hi1 hi2 Tryz.underlying81 rfl (by omega) hx
  obtain⟨q,hq1,hq2⟩:=hb.l.atW Rl.cells_len Tryz.underlying42 hi1 hi2 Tryz.underlying81 rfl (by omega) hy
  obtain⟨x,hxe⟩:∃x,x=a.rules.getD i default:=⟨_,rfl⟩
  obtain⟨y,hye⟩:∃y,y=b.rules.getD i default:=⟨_,rfl⟩
  rw[←hxe]at hx wx hp2
  rw[←hye]at hy wy hq2
  clear hi1 hi2 hxe hye
  have c142:=hp1
  have c143:=hp2
  have c147:=hq1
  have c148:=hq2
  by_cases hxy:x=y
  ·have c149:=fun W=>(rl_neq (.tmp 143) (.tmp 148) wx wy W).trans (by rw[(sameB_iff x y).2 hxy];rfl:_=Result.ok (.bool false) W)
   have c138:Value.int .i64 (IntKind.i64.wrap ((i:Int)+1))=.int .i64 ((i+1:Nat):Int):=iw (by rw[w64 (by omega) (by omega)];rfl)
   have h0:i+1≤a.rules.length∧EqTo a.rules b.rules (i+1):=⟨hlt,fun j hj=>by
    by_cases hji:j=i
    ·subst hji;rw[hx,hy,hxy]
    ·exact hi.2 j (by omega)⟩
   have h1:a.rules.length - (i+1) < a.rules.length - i:=by omega
   have h2:([(2,.ptr 0 0),(3,.ptr 1 0),(9,.val (.int .i64 ((i+1:Nat):Int)))]:List (Nat×Sx.SV))=[(2,.ptr 0 0),(3,.ptr 1 0),(9,.val (.int .i64 ((i+1:Nat):Int)))]:=rfl
   have z3:smMem a b s t=smMem a b s t:=rfl
   refine⟨[(136,.is (.bool true)),(142,.any p),(143,.any (.agg x.cells.toArray)),(147,.any q),(148,.any (.agg y.cells.toArray)),(149,.bin (.bool false)),(138,.is (.int .i64 ((i+1:Nat):Int)))],[],?_⟩
   exact Eq.mp (by kernel_rfl) (Sx.t8 c136 c142 c143 c147 c148 c149 c138 h0 (Sx.t2 h1 h2 z3))
  ·have c149:=fun W=>(rl_neq (.tmp 143) (.tmp 148) wx wy W).trans (by rw[show sameB x y=false from Bool.eq_false_iff.2 fun hh=>hxy ((sameB_iff x y).1 hh)];rfl:_=Result.ok (.bool true) W)
   have hf:B=false:=hB fun he=>hxy (by rw[he,hy]at hx;exact(Option.some.inj hx).symm)
   have z0:SmR B [.val (.bool false)] []:=by rw[hf];rfl
   refine⟨[(136,.is (.bool true)),(142,.any p),(143,.any (.agg x.cells.toArray)),(147,.any q),(148,.any (.agg y.cells.toArray)),(149,.bin (.bool true))],[],?_⟩
   exact Eq.mp (by kernel_rfl) (Sx.t4 c136 c142 c143 c147 (Sx.t2 c148 c149 z0))
 ·have c136:Value.bool (decide ((i:Int) < (a.rules.length:Int)))=.bool false:=bzf (decide_eq_false (by omega))
  have hin:i=a.rules.length:=by omega
  have h0:a.rules=b.rules:=EqTo.all (by rw[←hin];exact hi.2) hl
  have h1:([(2,.ptr 0 0),(3,.ptr 1 0)]:List (Nat×Sx.SV))=[(2,.ptr 0 0),(3,.ptr 1 0)]:=rfl
  have z2:smMem a b s t=smMem a b s t:=rfl
  refine⟨[(136,.is (.bool false))],[],?_⟩
  exact Eq.mp (by kernel_rfl) (Sx.t2 c136 h0 (And.intro h1 z2))
theorem same_w0{w:World}(a b:CF)(s t:Sls)(_ha:CfRd w [] a s)(_hb:CfRd w [] b t)(_wa:CfWf a)(_wb:CfWf b)(_fa:CfFew a)(e0:¬a.ports.length=b.ports.length):Calls Tryz.prog 25 #[.agg (cfCells a s).toArray,.agg (cfCells b t).toArray] w (Sx.anyPost ⟨w,[],fun _ _=>False⟩ (SmR (sameB a b))):=by
 have c16:Value.bool ((a.ports.length:Int) !=(b.ports.length:Int))=.bool true:=bzt (bne_iff_ne.2 (by omega))
 have hf:sameB a b=false:=Bool.eq_false_iff.2 fun hh=>e0 (by rw[(sameB_iff a b).1 hh])
 have z0:SmR (sameB a b) [.val (.bool false)] []:=by rw[hf];rfl
 refine Sx.calls_any (args:=[.val (.agg (cfCells a s).toArray),.val (.agg (cfCells b t).toArray)]) (no_rows w) [(16,.is (.bool true))] [] (by kernel_rfl) Tryz.func25 rfl (Nat.le_of_ble_eq_true rfl) rfl ?_
 exact Eq.mp (by kernel_rfl) (And.intro c16 z0)
theorem same_w1{w:World}(a b:CF)(s t:Sls)(_ha:CfRd w [] a s)(_hb:CfRd w [] b t)(_wa:CfWf a)(_wb:CfWf b)(_fa:CfFew a)(e0:a.ports.length=b.ports.length)(e1:¬a.routes.length=b.routes.length):Calls Tryz.prog 25 #[.agg (cfCells a s).toArray,.agg (cfCells b t).toArray] w (Sx.anyPost ⟨w,[],fun _ _=>False⟩ (SmR (sameB a b))):=by
 have c16:Value.bool ((a.ports.length:Int) !=(b.ports.length:Int))=.bool false:=by rw[e0];exact bneq_self _
 have c24:Value.bool ((a.routes.length:Int) !=(b.routes.length:Int))=.bool true:=bzt (bne_iff_ne.2 (by omega))
 have hf:sameB a b=false:=Bool.eq_false_iff.2 fun hh=>e1 (by rw[(sameB_iff a b).1 hh])
 have z0:SmR (sameB a b) [.val (.bool false)] []:=by rw[hf];rfl
 refine Sx.calls_any (args:=[.val (.agg (cfCells a s).toArray),.val (.agg (cfCells b t).toArray)]) (no_rows w) [(16,.is (.bool false)),(24,.is (.bool true))] [] (by kernel_rfl) Tryz.func25 rfl (Nat.le_of_ble_eq_true rfl) rfl ?_
 exact Eq.mp (by kernel_rfl) (Sx.t2 c16 c24 z0)
theorem same_w2{w:World}(a b:CF)(s t:Sls)(_ha:CfRd w [] a s)(_hb:CfRd w [] b t)(_wa:CfWf a)(_wb:CfWf b)(_fa:CfFew a)(e0:a.ports.length=b.ports.length)(e1:a.routes.length=b.routes.length)(e2:¬a.meters.length=b.meters.length):Calls Tryz.prog 25 #[.agg (cfCells a s).toArray,.agg (cfCells b t).toArray] w (Sx.anyPost ⟨w,[],fun _ _=>False⟩ (SmR (sameB a b))):=by
 have c16:Value.bool ((a.ports.length:Int) !=(b.ports.length:Int))=.bool false:=by rw[e0];exact bneq_self _
 have c24:Value.bool ((a.routes.length:Int) !=(b.routes.length:Int))=.bool false:=by rw[e1];exact bneq_self _
 have c33:Value.bool ((a.meters.length:Int) !=(b.meters.length:Int))=.bool true:=bzt (bne_iff_ne.2 (by omega))
 have hf:sameB a b=false:=Bool.eq_false_iff.2 fun hh=>e2 (by rw[(sameB_iff a b).1 hh])
 have z0:SmR (sameB a b) [.val (.bool false)] []:=by rw[hf];rfl
 refine Sx.calls_any (args:=[.val (.agg (cfCells a s).toArray),.val (.agg (cfCells b t).toArray)]) (no_rows w) [(16,.is (.bool false)),(24,.is (.bool false)),(33,.is (.bool true))] [] (by kernel_rfl) Tryz.func25 rfl (Nat.le_of_ble_eq_true rfl) rfl ?_
 exact Eq.mp (by kernel_rfl) (Sx.t2 c16 c24 (And.intro c33 z0))
theorem same_w3{w:World}(a b:CF)(s t:Sls)(_ha:CfRd w [] a s)(_hb:CfRd w [] b t)(_wa:CfWf a)(_wb:CfWf b)(_fa:CfFew a)(e0:a.ports.length=b.ports.length)(e1:a.routes.length=b.routes.length)(e2:a.meters.length=b.meters.length)(e3:¬a.mirrors.length=b.mirrors.length):Calls Tryz.prog 25 #[.agg (cfCells a s).toArray,.agg (cfCells b t).toArray] w (Sx.anyPost ⟨w,[],fun _ _=>False⟩ (SmR (sameB a b))):=by
 have c16:Value.bool ((a.ports.length:Int) !=(b.ports.length:Int))=.bool false:=by rw[e0];exact bneq_self _
 have c24:Value.bool ((a.routes.length:Int) !=(b.routes.length:Int))=.bool false:=by rw[e1];exact bneq_self _
 have c33:Value.bool ((a.meters.length:Int) !=(b.meters.length:Int))=.bool false:=by rw[e2];exact bneq_self _
 have c42:Value.bool ((a.mirrors.length:Int) !=(b.mirrors.length:Int))=.bool true:=bzt (bne_iff_ne.2 (by omega))
 have hf:sameB a b=false:=Bool.eq_false_iff.2 fun hh=>e3 (by rw[(sameB_iff a b).1 hh])
 have z0:SmR (sameB a b) [.val (.bool false)] []:=by rw[hf];rfl
 refine Sx.calls_any (args:=[.val (.agg (cfCells a s).toArray),.val (.agg (cfCells b t).toArray)]) (no_rows w) [(16,.is (.bool false)),(24,.is (.bool false)),(33,.is (.bool false)),(42,.is (.bool true))] [] (by kernel_rfl) Tryz.func25 rfl (Nat.le_of_ble_eq_true rfl) rfl ?_
 exact Eq.mp (by kernel_rfl) (Sx.t4 c16 c24 c33 c42 z0)
theorem same_w4{w:World}(a b:CF)(s t:Sls)(_ha:CfRd w [] a s)(_hb:CfRd w [] b t)(_wa:CfWf a)(_wb:CfWf b)(_fa:CfFew a)(e0:a.ports.length=b.ports.length)(e1:a.routes.length=b.routes.length)(e2:a.meters.length=b.meters.length)(e3:a.mirrors.length=b.mirrors.length)(e4:¬a.rules.length=b.rules.length):Calls Tryz.prog 25 #[.agg (cfCells a s).toArray,.agg (cfCells b t).toArray] w (Sx.anyPost ⟨w,[],fun _ _=>False⟩ (SmR (sameB a b))):=by
 have c16:Value.bool ((a.ports.length:Int) !=(b.ports.length:Int))=.bool false:=by rw[e0];exact bneq_self _
 have c24:Value.bool ((a.routes.length:Int) !=(b.routes.length:Int))=.bool false:=by rw[e1];exact bneq_self _
 have c33:Value.bool ((a.meters.length:Int) !=(b.meters.length:Int))=.bool false:=by rw[e2];exact bneq_self _
 have c42:Value.bool ((a.mirrors.length:Int) !=(b.mirrors.length:Int))=.bool false:=by rw[e3];exact bneq_self _
 have c51:Value.bool ((a.rules.length:Int) !=(b.rules.length:Int))=.bool true:=bzt (bne_iff_ne.2 (by omega))
 have hf:sameB a b=false:=Bool.eq_false_iff.2 fun hh=>e4 (by rw[(sameB_iff a b).1 hh])
 have z0:SmR (sameB a b) [.val (.bool false)] []:=by rw[hf];rfl
 refine Sx.calls_any (args:=[.val (.agg (cfCells a s).toArray),.val (.agg (cfCells b t).toArray)]) (no_rows w) [(16,.is (.bool false)),(24,.is (.bool false)),(33,.is (.bool false)),(42,.is (.bool false)),(51,.is (.bool true))] [] (by kernel_rfl) Tryz.func25 rfl (Nat.le_of_ble_eq_true rfl) rfl ?_
 exact Eq.mp (by kernel_rfl) (Sx.t4 c16 c24 c33 c42 (And.intro c51 z0))
theorem same_w5{w:World}(a b:CF)(s t:Sls)(_ha:CfRd w [] a s)(_hb:CfRd w [] b t)(_wa:CfWf a)(_wb:CfWf b)(_fa:CfFew a)(e0:a.ports.length=b.ports.length)(e1:a.routes.length=b.routes.length)(e2:a.meters.length=b.meters.length)(e3:a.mirrors.length=b.mirrors.length)(e4:a.rules.length=b.rules.length)(e5:¬a.dflt=b.dflt):Calls Tryz.prog 25 #[.agg (cfCells a s).toArray,.agg (cfCells b t).toArray] w (Sx.anyPost ⟨w,[],fun _ _=>False⟩ (SmR (sameB a b))):=by
 have c16:Value.bool ((a.ports.length:Int) !=(b.ports.length:Int))=.bool false:=by rw[e0];exact bneq_self _
 have c24:Value.bool ((a.routes.length:Int) !=(b.routes.length:Int))=.bool false:=by rw[e1];exact bneq_self _
 have c33:Value.bool ((a.meters.length:Int) !=(b.meters.length:Int))=.bool false:=by rw[e2];exact bneq_self _
 have c42:Value.bool ((a.mirrors.length:Int) !=(b.mirrors.length:Int))=.bool false:=by rw[e3];exact bneq_self _
 have c51:Value.bool ((a.rules.length:Int) !=(b.rules.length:Int))=.bool false:=by rw[e4];exact bneq_self _
 have c58:Value.bool (a.dflt !=b.dflt)=.bool true:=bzt (bne_iff_ne.2 (by exact e5))
 have hf:sameB a b=false:=Bool.eq_false_iff.2 fun hh=>e5 (by rw[(sameB_iff a b).1 hh])
 have z0:SmR (sameB a b) [.val (.bool false)] []:=by rw[hf];rfl
 refine Sx.calls_any (args:=[.val (.agg (cfCells a s).toArray),.val (.agg (cfCells b t).toArray)]) (no_rows w) [(16,.is (.bool false)),(24,.is (.bool false)),(33,.is (.bool false)),(42,.is (.bool false)),(51,.is (.bool false)),(58,.is (.bool true))] [] (by kernel_rfl) Tryz.func25 rfl (Nat.le_of_ble_eq_true rfl) rfl ?_
 exact Eq.mp (by kernel_rfl) (Sx.t4 c16 c24 c33 c42 (Sx.t2 c51 c58 z0))
theorem same_w6{w:World}(a b:CF)(s t:Sls)(ha:CfRd w [] a s)(hb:CfRd w [] b t)(wa:CfWf a)(wb:CfWf b)(fa:CfFew a)(e0:a.ports.length=b.ports.length)(e1:a.routes.length=b.routes.length)(e2:a.meters.length=b.meters.length)(e3:a.mirrors.length=b.mirrors.length)(e4:a.rules.length=b.rules.length)(e5:a.dflt=b.dflt):Calls Tryz.prog 25 #[.agg (cfCells a s).toArray,.agg (cfCells b t).toArray] w (Sx.anyPost ⟨w,[],fun _ _=>False⟩ (SmR (sameB a b))):=by
 have c16:Value.bool ((a.ports.length:Int) !=(b.ports.length:Int))=.bool false:=by rw[e0];exact bneq_self _
 have c24:Value.bool ((a.routes.length:Int) !=(b.routes.length:Int))=.bool false:=by rw[e1];exact bneq_self _
 have c33:Value.bool ((a.meters.length:Int) !=(b.meters.length:Int))=.bool false:=by rw[e2];exact bneq_self _
 have c42:Value.bool ((a.mirrors.length:Int) !=(b.mirrors.length:Int))=.bool false:=by rw[e3];exact bneq_self _
 have c51:Value.bool ((a.rules.length:Int) !=(b.rules.length:Int))=.bool false:=by rw[e4];exact bneq_self _
 have c58:Value.bool (a.dflt !=b.dflt)=.bool false:=by rw[e5];exact bneq_self _
 have hB:∀{p:Prop},(a=b→p)→¬p→sameB a b=false:=fun h hn=>Bool.eq_false_iff.2 fun hh=>hn (h ((sameB_iff a b).1 hh))
 have rd2:=sm_r0 a b s t ha hb wa wb fa e0 (sameB a b) (hB fun hh=>by rw[hh])
 have h0:0≤a.ports.length∧EqTo a.ports b.ports 0:=⟨Nat.zero_le _,fun j hj=>(by omega)⟩
 have ee1:([(2,.ptr 0 0),(3,.ptr 1 0),(5,.val (.int .i64 ((0:Nat):Int)))]:List (Nat×Sx.SV))=[(2,.ptr 0 0),(3,.ptr 1 0),(5,.val (.int .i64 ((0:Nat):Int)))]∧smMem a b s t=smMem a b s t:=⟨rfl,rfl⟩
 have rd7:=sm_r1 a b s t ha hb wa wb fa e1 (sameB a b) (hB fun hh=>by rw[hh])
 have h5:0≤a.routes.length∧EqTo a.routes b.routes 0:=⟨Nat.zero_le _,fun j hj=>(by omega)⟩
 have e6:([(2,.ptr 0 0),(3,.ptr 1 0),(6,.val (.int .i64 ((0:Nat):Int)))]:List (Nat×Sx.SV))=[(2,.ptr 0 0),(3,.ptr 1 0),(6,.val (.int .i64 ((0:Nat):Int)))]∧smMem a b s t=smMem a b s t:=⟨rfl,rfl⟩
 have rd12:=sm_r2 a b s t ha hb wa wb fa e2 (sameB a b) (hB fun hh=>by rw[hh])
 have h10:0≤a.meters.length∧EqTo a.meters b.meters 0:=⟨Nat.zero_le _,fun j hj=>(by omega)⟩
 have e11:([(2,.ptr 0 0),(3,.ptr 1 0),(7,.val (.int .i64 ((0:Nat):Int)))]:List (Nat×Sx.SV))=[(2,.ptr 0 0),(3,.ptr 1 0),(7,.val (.int .i64 ((0:Nat):Int)))]∧smMem a b s t=smMem a b s t:=⟨rfl,rfl⟩
 have rd17:=sm_r3 a b s t ha hb wa wb fa e3 (sameB a b) (hB fun hh=>by rw[hh])
 have h15:0≤a.mirrors.length∧EqTo a.mirrors b.mirrors 0:=⟨Nat.zero_le _,fun j hj=>(by omega)⟩
 have e16:([(2,.ptr 0 0),(3,.ptr 1 0),(8,.val (.int .i64 ((0:Nat):Int)))]:List (Nat×Sx.SV))=[(2,.ptr 0 0),(3,.ptr 1 0),(8,.val (.int .i64 ((0:Nat):Int)))]∧smMem a b s t=smMem a b s t:=⟨rfl,rfl⟩
 have rd22:=sm_r4 a b s t ha hb wa wb fa e4 (sameB a b) (hB fun hh=>by rw[hh])
 have h20:0≤a.rules.length∧EqTo a.rules b.rules 0:=⟨Nat.zero_le _,fun j hj=>(by omega)⟩
 have e21:([(2,.ptr 0 0),(3,.ptr 1 0),(9,.val (.int .i64 ((0:Nat):Int)))]:List (Nat×Sx.SV))=[(2,.ptr 0 0),(3,.ptr 1 0),(9,.val (.int .i64 ((0:Nat):Int)))]∧smMem a b s t=smMem a b s t:=⟨rfl,rfl⟩
 have z25f:=fun(_:Unit) (q0:a.ports=b.ports) (_:Unit) (q1:a.routes=b.routes) (_:Unit) (q2:a.meters=b.meters) (_:Unit) (q3:a.mirrors=b.mirrors) (_:Unit) (q4:a.rules=b.rules)=>(show SmR (sameB a b) [.val (.bool true)] []from by
  have:a=b:=by cases a;cases b;simp_all
  rw[(sameB_iff a b).2 this];rfl)
 clear e1
 have e1:=ee1
 refine Sx.calls_any (args:=[.val (.agg (cfCells a s).toArray),.val (.agg (cfCells b t).toArray)]) (no_rows w) [(16,.is (.bool false)),(24,.is (.bool false)),(33,.is (.bool false)),(42,.is (.bool false)),(51,.is (.bool false)),(58,.is (.bool false))]
  [.mk Nat 0 (fun i=>i≤a.ports.length∧EqTo a.ports b.ports i) (fun i=>[(2,.ptr 0 0),(3,.ptr 1 0),(5,.val (.int .i64 ((i:Nat):Int)))]) (fun _=>smMem a b s t) (fun i=>i+1) (fun i=>a.ports.length - i) Unit (fun _=>a.ports=b.ports) (fun _=>[(2,.ptr 0 0),(3,.ptr 1 0)]) (fun _=>smMem a b s t) (fun _=>()),
   .mk Nat 0 (fun i=>i≤a.routes.length∧EqTo a.routes b.routes i) (fun i=>[(2,.ptr 0 0),(3,.ptr 1 0),(6,.val (.int .i64 ((i:Nat):Int)))]) (fun _=>smMem a b s t) (fun i=>i+1) (fun i=>a.routes.length - i) Unit (fun _=>a.routes=b.routes) (fun _=>[(2,.ptr 0 0),(3,.ptr 1 0)]) (fun _=>smMem a b s t) (fun _=>()),
   .mk Nat 0 (fun i=>i≤a.meters.length∧EqTo a.meters b.meters i) (fun i=>[(2,.ptr 0 0),(3,.ptr 1 0),(7,.val (.int .i64 ((i:Nat):Int)))]) (fun _=>smMem a b s t) (fun i=>i+1) (fun i=>a.meters.length - i) Unit (fun _=>a.meters=b.meters) (fun _=>[(2,.ptr 0 0),(3,.ptr 1 0)]) (fun _=>smMem a b s t) (fun _=>()),
   .mk Nat 0 (fun i=>i≤a.mirrors.length∧EqTo a.mirrors b.mirrors i) (fun i=>[(2,.ptr 0 0),(3,.ptr 1 0),(8,.val (.int .i64 ((i:Nat):Int)))]) (fun _=>smMem a b s t) (fun i=>i+1) (fun i=>a.mirrors.length - i) Unit (fun _=>a.mirrors=b.mirrors) (fun _=>[(2,.ptr 0 0),(3,.ptr 1 0)]) (fun _=>smMem a b s t) (fun _=>()),
   .mk Nat 0 (fun i=>i≤a.rules.length∧EqTo a.rules b.rules i) (fun i=>[(2,.ptr 0 0),(3,.ptr 1 0),(9,.val (.int .i64 ((i:Nat):Int)))]) (fun _=>smMem a b s t) (fun i=>i+1) (fun i=>a.rules.length - i) Unit (fun _=>a.rules=b.rules) (fun _=>[(2,.ptr 0 0),(3,.ptr 1 0)]) (fun _=>smMem a b s t) (fun _=>())] (by kernel_rfl) Tryz.func25 rfl (Nat.le_of_ble_eq_true rfl) rfl ?_
 exact Eq.mp (by kernel_rfl) (Sx.t8 c16 c24 c33 c42 c51 c58 h0 e1 (And.intro rd2 (fun(x3:Unit) (hx4:a.ports=b.ports)=>(Sx.t2 h5 e6 (And.intro rd7 (fun(x8:Unit) (hx9:a.routes=b.routes)=>(Sx.t2 h10 e11 (And.intro rd12 (fun(x13:Unit) (hx14:a.meters=b.meters)=>(Sx.t2 h15 e16 (And.intro rd17 (fun(x18:Unit) (hx19:a.mirrors=b.mirrors)=>(Sx.t2 h20 e21 (And.intro rd22 (fun(x23:Unit) (hx24:a.rules=b.rules)=>(z25f x3 hx4 x8 hx9 x13 hx14 x18 hx19 x23 hx24))))))))))))))))
theorem same_N{w:World}(a b:CF)(s t:Sls)(ha:CfRd w [] a s)(hb:CfRd w [] b t)(wa:CfWf a)(wb:CfWf b)(fa:CfFew a):Calls Tryz.prog 25 #[.agg (cfCells a s).toArray,.agg (cfCells b t).toArray] w fun e w'=>e=.returned (.bool (sameB a b))∧Chg [] w w':=by
 have main:Calls Tryz.prog 25 #[.agg (cfCells a s).toArray,.agg (cfCells b t).toArray] w (Sx.anyPost ⟨w,[],fun _ _=>False⟩ (SmR (sameB a b))):=by
  by_cases e0:a.ports.length=b.ports.length
  ·by_cases e1:a.routes.length=b.routes.length
   ·by_cases e2:a.meters.length=b.meters.length
    ·by_cases e3:a.mirrors.length=b.mirrors.length
     ·by_cases e4:a.rules.length=b.rules.length
      ·by_cases e5:a.dflt=b.dflt
       ·exact same_w6 a b s t ha hb wa wb fa e0 e1 e2 e3 e4 e5
       ·exact same_w5 a b s t ha hb wa wb fa e0 e1 e2 e3 e4 e5
      ·exact same_w4 a b s t ha hb wa wb fa e0 e1 e2 e3 e4
     ·exact same_w3 a b s t ha hb wa wb fa e0 e1 e2 e3
    ·exact same_w2 a b s t ha hb wa wb fa e0 e1 e2
   ·exact same_w1 a b s t ha hb wa wb fa e0 e1
  ·exact same_w0 a b s t ha hb wa wb fa e0
 refine main.mono fun en w' hp=>?_
 rcases hp with⟨β,l,mem,hl,he,hR⟩ | ⟨_,_,hf,_⟩
 ·have hl:l=[.val (.bool (sameB a b))]:=hl
  subst hl
  exact⟨he,hR.chg⟩
 ·exact hf.elim
end Go.Proofs.YtnncigmpcdehnaaGreatDoor
