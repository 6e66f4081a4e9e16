import Derived.Test.YtnncigmpcdehnaaGreatDoorQd44
namespace Go.Proofs.YtnncigmpcdehnaaGreatDoor
set_option maxRecDepth 100000
open Go.RowKit Go.Lib Go.Sort
def gA:List Value:=[.slice none 0 0,.slice none 0 0,.slice none 0 0,.slice none 0 0,.slice none 0 0,.int .i64 0]
def F2(n i:Nat):List (Nat×Sx.SV):=[(2,.ptr 0 0),(4,.ptr 1 0),(5,.ptr 2 0),(17,.own 8),(18,.val (.int .i64 (n:Int))),(19,.val (.int .i64 (i:Int)))]
def Mf(cf:CF)(d:Nat):List Sx.Row:=⟨46,.aj gA⟩::eM none (jM 3 4 5 6 7 cf)::jh none d::dj cf
def qy(ls:List Bs)(cf:CF)(d:Nat):List Sx.Row:=Mf cf d++[⟨9,.own 1 ls.length (ls.map ab)⟩]
structure II where
 i:Nat
 cf:CF
 d:Nat
structure EZ(ls:List Bs)(T:OR)(k:II):Prop where
 le:k.i≤ls.length
 vk:k.cf.ai.length≤k.i∧k.cf.ae.length≤k.i∧k.cf.rules.length≤k.i∧k.cf.af.length≤k.i∧k.cf.aa.length≤k.i
 O3:k.d≤k.i
 run:T=fF (ls.drop k.i) (k.i+1) k.cf k.d
noncomputable def jV(ls:List Bs)(k:II):II:=⟨k.i+1,(eL (aJ true (ls.getD k.i [])) k.cf k.d).val,dN (aJ true (ls.getD k.i [])) k.d⟩
def LU(T:OR)(l:List Sx.SV)(mem:List Sx.Row):Prop:=match T with
 |.no code line=>∃j,l=[.val (.agg gA.toArray),.jZ 103 j 0]∧mem[j]?=some ⟨105,.aj [.int .i64 (code:Int),.int .i64 (line:Int)]⟩
 |.ok cf=>∃k0 k1 k2 k3 k4,l=[.dV [.o k0,.o k1,.o k2,.o k3,.o k4,.v (.int .i64 cf.br)],.val .nilIface]∧mem[k0]?=some ⟨3,.own 1 cf.ai.length cf.cp⟩∧mem[k1]?=some ⟨118,.own 19 cf.ae.length cf.cr⟩∧mem[k2]?=some ⟨81,.own 49 cf.rules.length cf.cl⟩∧mem[k3]?=some ⟨122,.own 4 cf.af.length cf.cm⟩∧mem[k4]?=some ⟨124,.own 3 cf.aa.length cf.ci⟩
theorem G0{ws:List Bs}{i:Nat}{cf cf':CF}{d j:Nat}(h:pj ws i cf d=.ok cf' j):cf'.ai.length≤cf.ai.length+1∧cf'.ae.length≤cf.ae.length+1∧cf'.rules.length≤cf.rules.length+1∧cf'.af.length≤cf.af.length+1∧cf'.aa.length≤cf.aa.length+1:=by
 obtain⟨x,k,_,h⟩:=Out.cq h
 obtain⟨c,k2,hb,h⟩:=Out.cq h
 have hc:cf'=c:=by
  unfold qY at h
  split at h
  ·cases h
  ·injection h with h _;exact h.symm
 subst hc
 unfold fJ at hb
 split at hb
 ·obtain⟨_,_,_,hb⟩:=Out.cq hb
  injection hb with hb _;subst hb;simp
 split at hb
 ·obtain⟨_,_,_,hb⟩:=Out.cq hb
  obtain⟨_,_,_,hb⟩:=Out.cq hb
  injection hb with hb _;subst hb;simp
 split at hb
 ·obtain⟨_,_,_,hb⟩:=Out.cq hb
  obtain⟨_,_,_,hb⟩:=Out.cq hb
  obtain⟨_,_,_,hb⟩:=Out.cq hb
  obtain⟨_,_,_,hb⟩:=Out.cq hb
  injection hb with hb _;subst hb;simp
 split at hb
 ·obtain⟨_,_,_,hb⟩:=Out.cq hb
  obtain⟨_,_,_,hb⟩:=Out.cq hb
  obtain⟨_,_,_,hb⟩:=Out.cq hb
  injection hb with hb _;subst hb;simp
 split at hb
 ·obtain⟨_,_,_,hb⟩:=Out.cq hb
  injection hb with hb _;subst hb;simp
 split at hb
 ·obtain⟨_,_,_,hb⟩:=Out.cq hb
  obtain⟨_,_,_,hb⟩:=Out.cq hb
  injection hb with hb _;subst hb;simp
 ·cases hb
theorem GO{ws:List Bs}{cf cf':CF}{d j:Nat}(h:eL ws cf d=.ok cf' j):cf'.ai.length≤cf.ai.length+1∧cf'.ae.length≤cf.ae.length+1∧cf'.rules.length≤cf.rules.length+1∧cf'.af.length≤cf.af.length+1∧cf'.aa.length≤cf.aa.length+1:=by
 unfold eL at h
 split at h
 ·injection h with h _;subst h;simp
 ·exact G0 h
theorem OD(ws:List Bs)(d:Nat):dN ws d≤d+1:=by unfold dN;split<;>omega
theorem F1{w:World}(hlan:lu w)(ls:List Bs)(hls:ls.length≤1000000)(hsz:∀x∈ls,x.length≤1000000)(T:OR)(k:II)(hk:EZ ls T k) :
  ∃H' L',Sx.jk Tryz.prog Tryz.f22.ntmps ⟨w,[],fun _ _=>False⟩ (Sx.bB Tryz.f22 0) H' L' ⟨F2 ls.length k.i,qy ls k.cf k.d⟩
   (Sx.ek (EZ ls T) (fun k=>F2 ls.length k.i) (fun k=>qy ls k.cf k.d) (jV ls) (fun k=>ls.length+1 - k.i) (fun(x:II)=>EZ ls T x∧x.i=ls.length) (fun _=>[(2,.ptr 0 0),(4,.ptr 1 0),(5,.ptr 2 0)]) (fun k=>qy ls k.cf k.d) id (Sx.ei (Sx.bB Tryz.f22 0) - 1) (Sx.bR Tryz.prog Tryz.f22 (LU T) .ret) k):=by
 obtain⟨i,cf,d⟩:=k
 have hk0:=hk
 obtain⟨hle,hfew,hdle,hrun⟩:=hk
 have hle:i≤ls.length:=hle
 have vk:cf.ai.length≤1000000∧cf.ae.length≤1000000∧cf.rules.length≤1000000∧cf.af.length≤1000000∧cf.aa.length≤1000000:=⟨Nat.le_trans hfew.1 (by omega),Nat.le_trans hfew.2.1 (by omega),Nat.le_trans hfew.2.2.1 (by omega),Nat.le_trans hfew.2.2.2.1 (by omega),Nat.le_trans hfew.2.2.2.2 (by omega)⟩
 have hd:d≤1000000:=Nat.le_trans hdle (by omega)
 have hrun:T=fF (ls.drop i) (i+1) cf d:=hrun
 by_cases hlt:i < ls.length
 ·have c20:Value.bool (decide ((i:Int) < (ls.length:Int)))=.bool true:=gv (decide_eq_true (by omega))
  obtain⟨x,hx⟩:∃x,ls[i]?=some x:=⟨_,List.getElem?_eq_getElem hlt⟩
  have hxl:=hsz x (List.mem_of_getElem? hx)
  have hdrop:ls.drop i=x::ls.drop (i+1):=by
   obtain⟨h1,rfl⟩:=List.getElem?_eq_some_iff.1 hx
   exact List.drop_eq_getElem_cons h1
  have hgd:ls.getD i []=x:=by rw[List.getD_eq_getElem?_getD,hx];rfl
  rw[hdrop]at hrun
  have c22:0≤(i:Int)∧(i:Int) < (ls.length:Int):=⟨by omega,by omega⟩
  have c23:(ls.map ab)[((i:Int)).toNat*1]?=some (ab x):=by
   rw[Int.toNat_natCast,Nat.mul_one,List.getElem?_map,hx];rfl
  have hrows:tX (Sx.rowAt (qy ls cf d++[⟨103,.aj [.pointer none]⟩])) none none 1 2 3 4 5 6 7 cf d:=⟨rfl,rfl,rfl,rfl,rfl,rfl,rfl⟩
  cases hT:eL (aJ true x) cf d with
  |ok cf' j=>
   have e:T=fF (ls.drop (i+1)) (i+1+1) cf' (dN (aJ true x) d):=by
    rw[hrun]
    conv=>lhs;unfold fF
    rw[hT]
   have hnx:jV ls ⟨i,cf,d⟩=⟨i+1,cf',dN (aJ true x) d⟩:=by
    unfold jV
    rw[hgd,hT];rfl
   have hll:=GO hT
   have hdn:=OD (aJ true x) d
   have c25:=Mv (b:=⟨w,[],fun _ _=>False⟩) 10 rfl hlan (by simp) hxl vk hd hrows hT
   have c27:=fun W (β:Sx.Env) (hS:Sx.dP ⟨w,[],fun _ _=>False⟩ β W (Sx.rowAt (⟨46,.aj gA⟩::eM none (jM 10 11 12 13 14 cf')::jh none (dN (aJ true x) d)::([Sx.al,Sx.al,Sx.al,Sx.al,Sx.al]++[⟨9,.own 1 ls.length (ls.map ab)⟩,⟨103,.aj [.pointer none]⟩]++dj cf'))) [])=>La (m:=15) (k:=9) W β hS
   have c36:Value.int .i64 (IntKind.i64.wrap ((i:Int)+1))=.int .i64 ((i+1:Nat):Int):=iw (by rw[gE (by omega) (by omega)];rfl)
   have h0:EZ ls T (jV ls ⟨i,cf,d⟩):=by
    rw[hnx]
    obtain⟨f0,f1,f2,f3,f4⟩:cf.ai.length≤i∧cf.ae.length≤i∧cf.rules.length≤i∧cf.af.length≤i∧cf.aa.length≤i:=hfew
    obtain⟨g0,g1,g2,g3,g4⟩:=hll
    have hdi:d≤i:=hdle
    exact⟨hlt,⟨show cf'.ai.length≤i+1 by omega,show cf'.ae.length≤i+1 by omega,show cf'.rules.length≤i+1 by omega,show cf'.af.length≤i+1 by omega,show cf'.aa.length≤i+1 by omega⟩,show dN (aJ true x) d≤i+1 by omega,e⟩
   have h1:ls.length+1 - (jV ls ⟨i,cf,d⟩).i < ls.length+1 - i:=by rw[hnx]; show ls.length+1 - (i+1) < _; omega
   have h2:F2 ls.length (i+1)=F2 ls.length (jV ls ⟨i,cf,d⟩).i:=by rw[hnx]
   have z3:(⟨46,.aj gA⟩::eM none (jM 10 11 12 13 14 cf')::jh none (dN (aJ true x) d)::(dj cf'++[⟨9,.own 1 ls.length (ls.map ab)⟩]):List Sx.Row)=⟨46,.aj gA⟩::eM none (jM 10 11 12 13 14 (jV ls ⟨i,cf,d⟩).cf)::jh none (jV ls ⟨i,cf,d⟩).d::(dj (jV ls ⟨i,cf,d⟩).cf++[⟨9,.own 1 ls.length (ls.map ab)⟩]):=by rw[hnx]
   refine⟨[(20,.is (.bool true)),(22,.ix),(23,.ld (ab x)),(25,.an (O7 none none [] 1 2 3 4 5 6 7 10 cf' (dN (aJ true x) d) .nilIface none)),(27,.an ⟨[],[],[],[],.val (.bool false),none⟩),(36,.is (.int .i64 ((i+1:Nat):Int)))],[],?_⟩
   exact Eq.mp (by kernel_rfl) (Sx.t8 c20 c22 c23 c25 c27 c36 h0 h1 (And.intro h2 z3))
  |no code p=>
   have e:T=.no code (i+1):=by
    rw[hrun]
    conv=>lhs;unfold fF
    rw[hT]
   have c25:=J2 (b:=⟨w,[],fun _ _=>False⟩) 10 rfl hlan (by simp) hxl vk hd hrows hT
   have c27:=fun W (β:Sx.Env) (hS:Sx.dP ⟨w,[],fun _ _=>False⟩ β W (Sx.rowAt (⟨46,.aj gA⟩::([Sx.al,Sx.al,Sx.al,Sx.al,Sx.al,Sx.al,Sx.al]++[⟨9,.own 1 ls.length (ls.map ab)⟩,⟨103,.aj [.pointer none]⟩,⟨105,.aj [.int .i64 (code:Int),.int .i64 (p:Int)]⟩]))) [9])=>Dd (m:=11) (k:=9) (N:=10) hlan (by simp) rfl W β hS
   have c30:Value.int .i64 (IntKind.i64.wrap ((i:Int)+1))=.int .i64 ((i+1:Nat):Int):=iw (by rw[gE (by omega) (by omega)];rfl)
   have z0:LU T [.val (.agg gA.toArray),.jZ 103 10 0] (⟨46,.aj gA⟩::([Sx.al,Sx.al,Sx.al,Sx.al,Sx.al,Sx.al,Sx.al]++[⟨9,.own 1 ls.length (ls.map ab)⟩,⟨103,.dA [.ptr 10 0]⟩,⟨105,.aj [.int .i64 (code:Int),.int .i64 ((i+1:Nat):Int)]⟩])):=by
    rw[e]
    exact⟨10,rfl,rfl⟩
   refine⟨[(20,.is (.bool true)),(22,.ix),(23,.ld (ab x)),(25,.an (OM 10 code p)),(27,.an ⟨[9],[(9,⟨103,.dA [.ptr 10 0]⟩)],[],[],.val (.bool true),none⟩),(30,.is (.int .i64 ((i+1:Nat):Int)))],[],?_⟩
   exact Eq.mp (by kernel_rfl) (Sx.t4 c20 c22 c23 c25 (Sx.t2 c27 c30 z0))
 ·have c20:Value.bool (decide ((i:Int) < (ls.length:Int)))=.bool false:=gZ (decide_eq_false (by omega))
  have h0:EZ ls T ⟨i,cf,d⟩∧i=ls.length:=⟨hk0,by omega⟩
  have h1:([(2,.ptr 0 0),(4,.ptr 1 0),(5,.ptr 2 0)]:List (Nat×Sx.SV))=[(2,.ptr 0 0),(4,.ptr 1 0),(5,.ptr 2 0)]:=rfl
  have z2:qy ls cf d=qy ls cf d:=rfl
  refine⟨[(20,.is (.bool false))],[],?_⟩
  exact Eq.mp (by kernel_rfl) (Sx.t2 c20 h0 (And.intro h1 z2))
set_option maxRecDepth 100000
open Go.RowKit Go.Lib Go.Sort
noncomputable def jd(s:Bs):OR:=if 65536 < s.length then .no 4 0 else fF (bq s) 1 EY 0
theorem uy(w:World):Sx.Rows ⟨w,[],fun _ _=>False⟩ (Sx.cL []) w []:=Sx.gb (w:=w) (S:=[]) (PP:=fun _ _=>False) (G:=[]) (fun q hq=>by cases hq) (fun q hq=>by cases hq) (by simp)
theorem DI(w:World)(s:Bs)(hs:65536 < s.length):Calls Tryz.prog 22 #[ab s] w (Sx.cd ⟨w,[],fun _ _=>False⟩ (LU (jd s))):=by
 have hT:jd s=.no 4 0:=by unfold jd;rw[if_pos hs]
 have c10:=jF s
 have nM:Value.bool (decide ((s.length:Int) > 65536))=.bool true:=gv (decide_eq_true (by omega))
 have z0:LU (jd s) [.val (.agg gA.toArray),.jZ 103 1 0] [⟨46,.aj gA⟩,⟨105,.aj [.int .i64 4,.int .i64 0]⟩]:=by
  rw[hT]
  exact⟨1,rfl,rfl⟩
 refine Sx.aY (args:=[.val (ab s)]) (uy w) [(10,.is (.int .i64 (s.length:Int))),(11,.is (.bool true))] [] (by kernel_rfl) Tryz.func22 rfl (Nat.le_of_ble_eq_true rfl) rfl ?_
 exact Eq.mp (by kernel_rfl) (Sx.t2 c10 nM z0)
theorem Az(w:World)(hlan:lu w)(s:Bs)(hs:s.length≤65536):Calls Tryz.prog 22 #[ab s] w (Sx.cd ⟨w,[],fun _ _=>False⟩ (LU (jd s))):=by
 have hT:jd s=fF (bq s) 1 EY 0:=by unfold jd;rw[if_neg (by omega)]
 generalize jd s=T at hT
 have c10:=jF s
 have nM:Value.bool (decide ((s.length:Int) > 65536))=.bool false:=gZ (decide_eq_false (by omega))
 have hcount:=fY 10 s
 have c17:=fun W (hW:ag [] w W)=>Jj W s (by omega) (hlan.aF hW (by simp)).sW
 have h0:EZ (bq s) T ⟨0,EY,0⟩:=⟨Nat.zero_le _,⟨Nat.le_refl _,Nat.le_refl _,Nat.le_refl _,Nat.le_refl _,Nat.le_refl _⟩,Nat.le_refl _,hT⟩
 have jA:=F1 hlan (bq s) (by show(bK 10 s).length≤_;omega) (fun x hx=>by have:=gI 10 s x hx;omega) T
 have e1:([(2,.ptr 0 0),(4,.ptr 1 0),(5,.ptr 7 0),(17,.own 8),(18,.val (.int .i64 ((bq s).length:Int))),(19,.val (.int .i64 ((0:Nat):Int)))]:List (Nat×Sx.SV))=[(2,.ptr 0 0),(4,.ptr 1 0),(5,.ptr 7 0),(17,.own 8),(18,.val (.int .i64 ((bq s).length:Int))),(19,.val (.int .i64 ((0:Nat):Int)))]∧
   (⟨46,.aj gA⟩::eM none (jM 2 3 4 5 6 EY)::jh none 0::(dj EY++[⟨9,.own 1 (bq s).length ((bq s).map ab)⟩]):List Sx.Row)=⟨46,.aj gA⟩::eM none (jM 2 3 4 5 6 EY)::jh none 0::(dj EY++[⟨9,.own 1 (bq s).length ((bq s).map ab)⟩]):=⟨rfl,rfl⟩
 have fin:∀x:II,EZ (bq s) T x→x.i=(bq s).length→T=.ok (if x.d=0 then { x.cf with br:=2 }else x.cf):=fun x hx hi=>by
  rw[hx.run,hi,List.drop_length]
  rfl
 have z6f:=fun(x:II) (hx:EZ (bq s) T x∧x.i=(bq s).length) (hb:(((x.d:Nat):Int)==0)=true)=>(show LU T [.dV [.o 3,.o 4,.o 5,.o 6,.o 7,.v (.int .i64 2)],.val .nilIface] (⟨46,.dA [.own 3,.own 4,.own 5,.own 6,.own 7,.val (.int .i64 2)]⟩::⟨46,.dA [.own 3,.own 4,.own 5,.own 6,.own 7,.val (.int .i64 2)]⟩::jh none x.d::(dj x.cf++[⟨9,.own 1 (bq s).length ((bq s).map ab)⟩]))from by
  have hd:x.d=0:=by
   have:=beq_iff_eq.1 hb
   omega
  rw[fin x hx.1 hx.2,if_pos hd]
  exact⟨3,4,5,6,7,rfl,rfl,rfl,rfl,rfl,rfl⟩)
 have z7f:=fun(x:II) (hx:EZ (bq s) T x∧x.i=(bq s).length) (hb:(((x.d:Nat):Int)==0)=false)=>(show LU T [.dV [.o 3,.o 4,.o 5,.o 6,.o 7,.v (.int .i64 x.cf.br)],.val .nilIface] (⟨46,.dA [.own 3,.own 4,.own 5,.own 6,.own 7,.val (.int .i64 x.cf.br)]⟩::eM none (jM 3 4 5 6 7 x.cf)::jh none x.d::(dj x.cf++[⟨9,.own 1 (bq s).length ((bq s).map ab)⟩]))from by
  have hd:x.d≠0:=by
   intro h0
   rw[h0]at hb
   cases hb
  rw[fin x hx.1 hx.2,if_neg hd]
  exact⟨3,4,5,6,7,rfl,rfl,rfl,rfl,rfl,rfl⟩)
 refine Sx.aY (args:=[.val (ab s)]) (uy w) [(10,.is (.int .i64 (s.length:Int))),(11,.is (.bool false)),(4,.sI [(0,3,1),(1,118,19),(2,81,49),(3,122,4),(4,124,3)]),(17,.dz (.sl 9 1 (bq s).length ((bq s).map ab)))]
  [.mk II ⟨0,EY,0⟩ (EZ (bq s) T) (fun k=>F2 (bq s).length k.i) (fun k=>qy (bq s) k.cf k.d) (jV (bq s)) (fun k=>(bq s).length+1 - k.i) II (fun x=>EZ (bq s) T x∧x.i=(bq s).length) (fun _=>[(2,.ptr 0 0),(4,.ptr 1 0),(5,.ptr 2 0)]) (fun k=>qy (bq s) k.cf k.d) id] (by kernel_rfl) Tryz.func22 rfl (Nat.le_of_ble_eq_true rfl) rfl ?_
 exact Eq.mp (by kernel_rfl) (Sx.t4 c10 nM c17 h0 (Sx.t2 e1 jA (fun(x3:II) (hx4:EZ (bq s) T x3∧x3.i=(bq s).length)=>(Sx.aD (b:=x3.d.cast==OfNat.ofNat (nat_lit 0)) (fun hb5=>(z6f x3 hx4 hb5)) (fun hb5=>(z7f x3 hx4 hb5))))))
theorem CB(w:World)(hlan:lu w)(s:Bs):Calls Tryz.prog 22 #[ab s] w (Sx.cd ⟨w,[],fun _ _=>False⟩ (LU (jd s))):=by
 by_cases hs:65536 < s.length
 ·exact DI w s hs
 ·exact Az w hlan s (by omega)
open Go.RowKit Go.Lib Go.Sort
theorem Mt.Wf.in{m:Mt}(h:m.Wf):BJ m:=⟨h.eQ.1,h.eQ.2,h.sp.1,h.sp.2,h.dp.1,h.dp.2,h.pr,h.sn,h.dn⟩
theorem pP.in{cf:CF}(h:pP cf):Nq cf:=⟨fun n hn=>(h.ai n hn).2,fun r hr=>⟨(h.ae r hr).1,(h.ae r hr).2.2.2⟩,fun m hm=>(h.af m hm).2,fun m hm=>⟨(h.aa m hm).2.2.1,(h.aa m hm).2.2.2.2⟩,fun r hr=>(h.rules r hr).1⟩
end Go.Proofs.YtnncigmpcdehnaaGreatDoor
