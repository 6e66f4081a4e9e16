import Derived.Test.YtnncigmpcdehnaaGreatDoorQc42
namespace Go.Proofs.YtnncigmpcdehnaaGreatDoor
set_option maxRecDepth 100000
open Go.RowKit Go.Lib Go.Sort
def gE:List Value:=[.slice none 0 0,.slice none 0 0,.slice none 0 0,.slice none 0 0,.slice none 0 0,.int .i64 0]
def FU(n i:Nat):List (Nat×Sx.SV):=[(2,.ptr 0 0),(4,.ptr 1 0),(5,.ptr 2 0),(17,.own 8),(18,.val (.int .i64 (n:Int))),(19,.val (.int .i64 (i:Int)))]
def Mg(cf:CF)(d:Nat):List Sx.Row:=⟨46,.aj gE⟩::eU none (jK 3 4 5 6 7 cf)::jd none d::aX cf
def qk(ls:List Bs)(cf:CF)(d:Nat):List Sx.Row:=Mg cf d++[⟨9,.own 1 ls.length (ls.map ab)⟩]
structure ID where
 i:Nat
 cf:CF
 d:Nat
structure ET(ls:List Bs)(T:OW)(k:ID):Prop where
 le:k.i≤ls.length
 qF:k.cf.ag.length≤k.i∧k.cf.ae.length≤k.i∧k.cf.rules.length≤k.i∧k.cf.af.length≤k.i∧k.cf.aa.length≤k.i
 OG:k.d≤k.i
 run:T=fz (ls.drop k.i) (k.i+1) k.cf k.d
noncomputable def jU(ls:List Bs)(k:ID):ID:=⟨k.i+1,(eS (aI true (ls.getD k.i [])) k.cf k.d).val,dN (aI true (ls.getD k.i [])) k.d⟩
def LR(T:OW)(l:List Sx.SV)(mem:List Sx.Row):Prop:=match T with
 |.no code line=>∃j,l=[.val (.agg gE.toArray),.jX 103 j 0]∧mem[j]?=some ⟨105,.aj [.int .i64 (code:Int),.int .i64 (line:Int)]⟩
 |.ok cf=>∃k0 k1 k2 k3 k4,l=[.db [.o k0,.o k1,.o k2,.o k3,.o k4,.v (.int .i64 cf.a8)],.val .nilIface]∧mem[k0]?=some ⟨3,.own 1 cf.ag.length cf.cp⟩∧mem[k1]?=some ⟨118,.own 19 cf.ae.length cf.cr⟩∧mem[k2]?=some ⟨81,.own 49 cf.rules.length cf.cl⟩∧mem[k3]?=some ⟨122,.own 4 cf.af.length cf.cm⟩∧mem[k4]?=some ⟨124,.own 3 cf.aa.length cf.ci⟩
theorem GM{ws:List Bs}{i:Nat}{cf cf':CF}{d j:Nat}(h:oR ws i cf d=.ok cf' j):cf'.ag.length≤cf.ag.length+1∧cf'.ae.length≤cf.ae.length+1∧cf'.rules.length≤cf.rules.length+1∧cf'.af.length≤cf.af.length+1∧cf'.aa.length≤cf.aa.length+1:=by
 obtain⟨x,k,_,h⟩:=Out.cz h
 obtain⟨c,k2,hb,h⟩:=Out.cz h
 have hc:cf'=c:=by
  unfold gy at h
  split at h
  ·cases h
  ·injection h with h _;exact h.symm
 subst hc
 unfold fC at hb
 split at hb
 ·obtain⟨_,_,_,hb⟩:=Out.cz hb
  injection hb with hb _;subst hb;simp
 split at hb
 ·obtain⟨_,_,_,hb⟩:=Out.cz hb
  obtain⟨_,_,_,hb⟩:=Out.cz hb
  injection hb with hb _;subst hb;simp
 split at hb
 ·obtain⟨_,_,_,hb⟩:=Out.cz hb
  obtain⟨_,_,_,hb⟩:=Out.cz hb
  obtain⟨_,_,_,hb⟩:=Out.cz hb
  obtain⟨_,_,_,hb⟩:=Out.cz hb
  injection hb with hb _;subst hb;simp
 split at hb
 ·obtain⟨_,_,_,hb⟩:=Out.cz hb
  obtain⟨_,_,_,hb⟩:=Out.cz hb
  obtain⟨_,_,_,hb⟩:=Out.cz hb
  injection hb with hb _;subst hb;simp
 split at hb
 ·obtain⟨_,_,_,hb⟩:=Out.cz hb
  injection hb with hb _;subst hb;simp
 split at hb
 ·obtain⟨_,_,_,hb⟩:=Out.cz hb
  obtain⟨_,_,_,hb⟩:=Out.cz hb
  injection hb with hb _;subst hb;simp
 ·cases hb
theorem GA{ws:List Bs}{cf cf':CF}{d j:Nat}(h:eS ws cf d=.ok cf' j):cf'.ag.length≤cf.ag.length+1∧cf'.ae.length≤cf.ae.length+1∧cf'.rules.length≤cf.rules.length+1∧cf'.af.length≤cf.af.length+1∧cf'.aa.length≤cf.aa.length+1:=by
 unfold eS at h
 split at h
 ·injection h with h _;subst h;simp
 ·exact GM h
theorem OI(ws:List Bs)(d:Nat):dN ws d≤d+1:=by unfold dN;split<;>omega
theorem FT{w:World}(hlan:jo w)(ls:List Bs)(hls:ls.length≤1000000)(hsz:∀x∈ls,x.length≤1000000)(T:OW)(k:ID)(hk:ET ls T k) :
  ∃H' L',Sx.iz Tryz.prog Tryz.f22.ntmps ⟨w,[],fun _ _=>False⟩ (Sx.cA Tryz.f22 0) H' L' ⟨FU ls.length k.i,qk ls k.cf k.d⟩
   (Sx.gg (ET ls T) (fun k=>FU ls.length k.i) (fun k=>qk ls k.cf k.d) (jU ls) (fun k=>ls.length+1 - k.i) (fun(x:ID)=>ET ls T x∧x.i=ls.length) (fun _=>[(2,.ptr 0 0),(4,.ptr 1 0),(5,.ptr 2 0)]) (fun k=>qk ls k.cf k.d) id (Sx.fq (Sx.cA Tryz.f22 0) - 1) (Sx.bN Tryz.prog Tryz.f22 (LR T) .ret) k):=by
 obtain⟨i,cf,d⟩:=k
 have hk0:=hk
 obtain⟨hle,hfew,hdle,hrun⟩:=hk
 have hle:i≤ls.length:=hle
 have qF:cf.ag.length≤1000000∧cf.ae.length≤1000000∧cf.rules.length≤1000000∧cf.af.length≤1000000∧cf.aa.length≤1000000:=⟨Nat.le_trans hfew.1 (by omega),Nat.le_trans hfew.2.1 (by omega),Nat.le_trans hfew.2.2.1 (by omega),Nat.le_trans hfew.2.2.2.1 (by omega),Nat.le_trans hfew.2.2.2.2 (by omega)⟩
 have hd:d≤1000000:=Nat.le_trans hdle (by omega)
 have hrun:T=fz (ls.drop i) (i+1) cf d:=hrun
 by_cases hlt:i < ls.length
 ·have c20:Value.bool (decide ((i:Int) < (ls.length:Int)))=.bool true:=gF (decide_eq_true (by omega))
  obtain⟨x,hx⟩:∃x,ls[i]?=some x:=⟨_,List.getElem?_eq_getElem hlt⟩
  have hxl:=hsz x (List.mem_of_getElem? hx)
  have hdrop:ls.drop i=x::ls.drop (i+1):=by
   obtain⟨h1,rfl⟩:=List.getElem?_eq_some_iff.1 hx
   exact List.drop_eq_getElem_cons h1
  have hgd:ls.getD i []=x:=by rw[List.getD_eq_getElem?_getD,hx];rfl
  rw[hdrop]at hrun
  have c22:0≤(i:Int)∧(i:Int) < (ls.length:Int):=⟨by omega,by omega⟩
  have c23:(ls.map ab)[((i:Int)).toNat*1]?=some (ab x):=by
   rw[Int.toNat_natCast,Nat.mul_one,List.getElem?_map,hx];rfl
  have hrows:tP (Sx.rowAt (qk ls cf d++[⟨103,.aj [.pointer none]⟩])) none none 1 2 3 4 5 6 7 cf d:=⟨rfl,rfl,rfl,rfl,rfl,rfl,rfl⟩
  cases hT:eS (aI true x) cf d with
  |ok cf' j=>
   have e:T=fz (ls.drop (i+1)) (i+1+1) cf' (dN (aI true x) d):=by
    rw[hrun]
    conv=>lhs;unfold fz
    rw[hT]
   have hnx:jU ls ⟨i,cf,d⟩=⟨i+1,cf',dN (aI true x) d⟩:=by
    unfold jU
    rw[hgd,hT];rfl
   have hll:=GA hT
   have hdn:=OI (aI true x) d
   have c25:=Ms (b:=⟨w,[],fun _ _=>False⟩) 10 rfl hlan (by simp) hxl qF hd hrows hT
   have c27:=fun W (β:Sx.Env) (hS:Sx.dz ⟨w,[],fun _ _=>False⟩ β W (Sx.rowAt (⟨46,.aj gE⟩::eU none (jK 10 11 12 13 14 cf')::jd none (dN (aI true x) d)::([Sx.al,Sx.al,Sx.al,Sx.al,Sx.al]++[⟨9,.own 1 ls.length (ls.map ab)⟩,⟨103,.aj [.pointer none]⟩]++aX cf'))) [])=>K6 (m:=15) (k:=9) W β hS
   have c36:Value.int .i64 (IntKind.i64.wrap ((i:Int)+1))=.int .i64 ((i+1:Nat):Int):=iw (by rw[jR (by omega) (by omega)];rfl)
   have h0:ET ls T (jU ls ⟨i,cf,d⟩):=by
    rw[hnx]
    obtain⟨f0,f1,f2,f3,f4⟩:cf.ag.length≤i∧cf.ae.length≤i∧cf.rules.length≤i∧cf.af.length≤i∧cf.aa.length≤i:=hfew
    obtain⟨g0,g1,g2,g3,g4⟩:=hll
    have hdi:d≤i:=hdle
    exact⟨hlt,⟨show cf'.ag.length≤i+1 by omega,show cf'.ae.length≤i+1 by omega,show cf'.rules.length≤i+1 by omega,show cf'.af.length≤i+1 by omega,show cf'.aa.length≤i+1 by omega⟩,show dN (aI true x) d≤i+1 by omega,e⟩
   have h1:ls.length+1 - (jU ls ⟨i,cf,d⟩).i < ls.length+1 - i:=by rw[hnx]; show ls.length+1 - (i+1) < _; omega
   have h2:FU ls.length (i+1)=FU ls.length (jU ls ⟨i,cf,d⟩).i:=by rw[hnx]
   have z3:(⟨46,.aj gE⟩::eU none (jK 10 11 12 13 14 cf')::jd none (dN (aI true x) d)::(aX cf'++[⟨9,.own 1 ls.length (ls.map ab)⟩]):List Sx.Row)=⟨46,.aj gE⟩::eU none (jK 10 11 12 13 14 (jU ls ⟨i,cf,d⟩).cf)::jd none (jU ls ⟨i,cf,d⟩).d::(aX (jU ls ⟨i,cf,d⟩).cf++[⟨9,.own 1 ls.length (ls.map ab)⟩]):=by rw[hnx]
   refine⟨[(20,.is (.bool true)),(22,.ix),(23,.ld (ab x)),(25,.ai (O8 none none [] 1 2 3 4 5 6 7 10 cf' (dN (aI true x) d) .nilIface none)),(27,.ai ⟨[],[],[],[],.val (.bool false),none⟩),(36,.is (.int .i64 ((i+1:Nat):Int)))],[],?_⟩
   exact Eq.mp (by kernel_rfl) (Sx.t8 c20 c22 c23 c25 c27 c36 h0 h1 (And.intro h2 z3))
  |no code p=>
   have e:T=.no code (i+1):=by
    rw[hrun]
    conv=>lhs;unfold fz
    rw[hT]
   have c25:=JV (b:=⟨w,[],fun _ _=>False⟩) 10 rfl hlan (by simp) hxl qF hd hrows hT
   have c27:=fun W (β:Sx.Env) (hS:Sx.dz ⟨w,[],fun _ _=>False⟩ β W (Sx.rowAt (⟨46,.aj gE⟩::([Sx.al,Sx.al,Sx.al,Sx.al,Sx.al,Sx.al,Sx.al]++[⟨9,.own 1 ls.length (ls.map ab)⟩,⟨103,.aj [.pointer none]⟩,⟨105,.aj [.int .i64 (code:Int),.int .i64 (p:Int)]⟩]))) [9])=>Dc (m:=11) (k:=9) (N:=10) hlan (by simp) rfl W β hS
   have c30:Value.int .i64 (IntKind.i64.wrap ((i:Int)+1))=.int .i64 ((i+1:Nat):Int):=iw (by rw[jR (by omega) (by omega)];rfl)
   have z0:LR T [.val (.agg gE.toArray),.jX 103 10 0] (⟨46,.aj gE⟩::([Sx.al,Sx.al,Sx.al,Sx.al,Sx.al,Sx.al,Sx.al]++[⟨9,.own 1 ls.length (ls.map ab)⟩,⟨103,.dm [.ptr 10 0]⟩,⟨105,.aj [.int .i64 (code:Int),.int .i64 ((i+1:Nat):Int)]⟩])):=by
    rw[e]
    exact⟨10,rfl,rfl⟩
   refine⟨[(20,.is (.bool true)),(22,.ix),(23,.ld (ab x)),(25,.ai (OQ 10 code p)),(27,.ai ⟨[9],[(9,⟨103,.dm [.ptr 10 0]⟩)],[],[],.val (.bool true),none⟩),(30,.is (.int .i64 ((i+1:Nat):Int)))],[],?_⟩
   exact Eq.mp (by kernel_rfl) (Sx.t4 c20 c22 c23 c25 (Sx.t2 c27 c30 z0))
 ·have c20:Value.bool (decide ((i:Int) < (ls.length:Int)))=.bool false:=iB (decide_eq_false (by omega))
  have h0:ET ls T ⟨i,cf,d⟩∧i=ls.length:=⟨hk0,by omega⟩
  have h1:([(2,.ptr 0 0),(4,.ptr 1 0),(5,.ptr 2 0)]:List (Nat×Sx.SV))=[(2,.ptr 0 0),(4,.ptr 1 0),(5,.ptr 2 0)]:=rfl
  have z2:qk ls cf d=qk ls cf d:=rfl
  refine⟨[(20,.is (.bool false))],[],?_⟩
  exact Eq.mp (by kernel_rfl) (Sx.t2 c20 h0 (And.intro h1 z2))
set_option maxRecDepth 100000
open Go.RowKit Go.Lib Go.Sort
noncomputable def gD(s:Bs):OW:=if 65536 < s.length then .no 4 0 else fz (bA s) 1 CX 0
theorem uq(w:World):Sx.Rows ⟨w,[],fun _ _=>False⟩ (Sx.cO []) w []:=Sx.ga (w:=w) (S:=[]) (PP:=fun _ _=>False) (G:=[]) (fun q hq=>by cases hq) (fun q hq=>by cases hq) (by simp)
theorem DG(w:World)(s:Bs)(hs:65536 < s.length):Calls Tryz.prog 22 #[ab s] w (Sx.bJ ⟨w,[],fun _ _=>False⟩ (LR (gD s))):=by
 have hT:gD s=.no 4 0:=by unfold gD;rw[if_pos hs]
 have c10:=jD s
 have zm:Value.bool (decide ((s.length:Int) > 65536))=.bool true:=gF (decide_eq_true (by omega))
 have z0:LR (gD s) [.val (.agg gE.toArray),.jX 103 1 0] [⟨46,.aj gE⟩,⟨105,.aj [.int .i64 4,.int .i64 0]⟩]:=by
  rw[hT]
  exact⟨1,rfl,rfl⟩
 refine Sx.aW (args:=[.val (ab s)]) (uq w) [(10,.is (.int .i64 (s.length:Int))),(11,.is (.bool true))] [] (by kernel_rfl) Tryz.func22 rfl (Nat.le_of_ble_eq_true rfl) rfl ?_
 exact Eq.mp (by kernel_rfl) (Sx.t2 c10 zm z0)
theorem Ae(w:World)(hlan:jo w)(s:Bs)(hs:s.length≤65536):Calls Tryz.prog 22 #[ab s] w (Sx.bJ ⟨w,[],fun _ _=>False⟩ (LR (gD s))):=by
 have hT:gD s=fz (bA s) 1 CX 0:=by unfold gD;rw[if_neg (by omega)]
 generalize gD s=T at hT
 have c10:=jD s
 have zm:Value.bool (decide ((s.length:Int) > 65536))=.bool false:=iB (decide_eq_false (by omega))
 have hcount:=fY 10 s
 have c17:=fun W (hW:ah [] w W)=>Jg W s (by omega) (hlan.az hW (by simp)).pX
 have h0:ET (bA s) T ⟨0,CX,0⟩:=⟨Nat.zero_le _,⟨Nat.le_refl _,Nat.le_refl _,Nat.le_refl _,Nat.le_refl _,Nat.le_refl _⟩,Nat.le_refl _,hT⟩
 have nq:=FT hlan (bA s) (by show(bH 10 s).length≤_;omega) (fun x hx=>by have:=gI 10 s x hx;omega) T
 have e1:([(2,.ptr 0 0),(4,.ptr 1 0),(5,.ptr 7 0),(17,.own 8),(18,.val (.int .i64 ((bA s).length:Int))),(19,.val (.int .i64 ((0:Nat):Int)))]:List (Nat×Sx.SV))=[(2,.ptr 0 0),(4,.ptr 1 0),(5,.ptr 7 0),(17,.own 8),(18,.val (.int .i64 ((bA s).length:Int))),(19,.val (.int .i64 ((0:Nat):Int)))]∧
   (⟨46,.aj gE⟩::eU none (jK 2 3 4 5 6 CX)::jd none 0::(aX CX++[⟨9,.own 1 (bA s).length ((bA s).map ab)⟩]):List Sx.Row)=⟨46,.aj gE⟩::eU none (jK 2 3 4 5 6 CX)::jd none 0::(aX CX++[⟨9,.own 1 (bA s).length ((bA s).map ab)⟩]):=⟨rfl,rfl⟩
 have fin:∀x:ID,ET (bA s) T x→x.i=(bA s).length→T=.ok (if x.d=0 then { x.cf with a8:=2 }else x.cf):=fun x hx hi=>by
  rw[hx.run,hi,List.drop_length]
  rfl
 have z6f:=fun(x:ID) (hx:ET (bA s) T x∧x.i=(bA s).length) (hb:(((x.d:Nat):Int)==0)=true)=>(show LR T [.db [.o 3,.o 4,.o 5,.o 6,.o 7,.v (.int .i64 2)],.val .nilIface] (⟨46,.dm [.own 3,.own 4,.own 5,.own 6,.own 7,.val (.int .i64 2)]⟩::⟨46,.dm [.own 3,.own 4,.own 5,.own 6,.own 7,.val (.int .i64 2)]⟩::jd none x.d::(aX x.cf++[⟨9,.own 1 (bA s).length ((bA s).map ab)⟩]))from by
  have hd:x.d=0:=by
   have:=beq_iff_eq.1 hb
   omega
  rw[fin x hx.1 hx.2,if_pos hd]
  exact⟨3,4,5,6,7,rfl,rfl,rfl,rfl,rfl,rfl⟩)
 have z7f:=fun(x:ID) (hx:ET (bA s) T x∧x.i=(bA s).length) (hb:(((x.d:Nat):Int)==0)=false)=>(show LR T [.db [.o 3,.o 4,.o 5,.o 6,.o 7,.v (.int .i64 x.cf.a8)],.val .nilIface] (⟨46,.dm [.own 3,.own 4,.own 5,.own 6,.own 7,.val (.int .i64 x.cf.a8)]⟩::eU none (jK 3 4 5 6 7 x.cf)::jd none x.d::(aX x.cf++[⟨9,.own 1 (bA s).length ((bA s).map ab)⟩]))from by
  have hd:x.d≠0:=by
   intro h0
   rw[h0]at hb
   cases hb
  rw[fin x hx.1 hx.2,if_neg hd]
  exact⟨3,4,5,6,7,rfl,rfl,rfl,rfl,rfl,rfl⟩)
 refine Sx.aW (args:=[.val (ab s)]) (uq w) [(10,.is (.int .i64 (s.length:Int))),(11,.is (.bool false)),(4,.sw [(0,3,1),(1,118,19),(2,81,49),(3,122,4),(4,124,3)]),(17,.dH (.sl 9 1 (bA s).length ((bA s).map ab)))]
  [.mk ID ⟨0,CX,0⟩ (ET (bA s) T) (fun k=>FU (bA s).length k.i) (fun k=>qk (bA s) k.cf k.d) (jU (bA s)) (fun k=>(bA s).length+1 - k.i) ID (fun x=>ET (bA s) T x∧x.i=(bA s).length) (fun _=>[(2,.ptr 0 0),(4,.ptr 1 0),(5,.ptr 2 0)]) (fun k=>qk (bA s) k.cf k.d) id] (by kernel_rfl) Tryz.func22 rfl (Nat.le_of_ble_eq_true rfl) rfl ?_
 exact Eq.mp (by kernel_rfl) (Sx.t4 c10 zm c17 h0 (Sx.t2 e1 nq (fun(x3:ID) (hx4:ET (bA s) T x3∧x3.i=(bA s).length)=>(Sx.aU (b:=x3.d.cast==OfNat.ofNat (nat_lit 0)) (fun hb5=>(z6f x3 hx4 hb5)) (fun hb5=>(z7f x3 hx4 hb5))))))
theorem Cu(w:World)(hlan:jo w)(s:Bs):Calls Tryz.prog 22 #[ab s] w (Sx.bJ ⟨w,[],fun _ _=>False⟩ (LR (gD s))):=by
 by_cases hs:65536 < s.length
 ·exact DG w s hs
 ·exact Ae w hlan s (by omega)
open Go.RowKit Go.Lib Go.Sort
theorem Mt.Wf.in{m:Mt}(h:m.Wf):zI m:=⟨h.fU.1,h.fU.2,h.sp.1,h.sp.2,h.dp.1,h.dp.2,h.pr,h.sn,h.dn⟩
theorem ov.in{cf:CF}(h:ov cf):Lf cf:=⟨fun n hn=>(h.ag n hn).2,fun r hr=>⟨(h.ae r hr).1,(h.ae r hr).2.2.2⟩,fun m hm=>(h.af m hm).2,fun m hm=>⟨(h.aa m hm).2.2.1,(h.aa m hm).2.2.2.2⟩,fun r hr=>(h.rules r hr).1⟩
end Go.Proofs.YtnncigmpcdehnaaGreatDoor
