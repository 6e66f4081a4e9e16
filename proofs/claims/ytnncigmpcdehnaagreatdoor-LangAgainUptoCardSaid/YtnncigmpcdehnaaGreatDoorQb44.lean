import Derived.Test.YtnncigmpcdehnaaGreatDoorQb43
namespace Go.Proofs.YtnncigmpcdehnaaGreatDoor
set_option maxRecDepth 100000
open Go.RowKit Go.Lib Go.Sort
def fL:List Value:=[.slice none 0 0,.slice none 0 0,.slice none 0 0,.slice none 0 0,.slice none 0 0,.int .i64 0]
def Fv(n i:Nat):List (Nat×Sx.SV):=[(2,.ptr 0 0),(4,.ptr 1 0),(5,.ptr 2 0),(17,.own 8),(18,.val (.int .i64 (n:Int))),(19,.val (.int .i64 (i:Int)))]
def Lv(cf:CF)(d:Nat):List Sx.Row:=⟨46,.ag fL⟩::eZ none (jP 3 4 5 6 7 cf)::jk none d::bg cf
def qq(ls:List Bs)(cf:CF)(d:Nat):List Sx.Row:=Lv cf d++[⟨9,.own 1 ls.length (ls.map af)⟩]
structure H7 where
 i:Nat
 cf:CF
 d:Nat
structure Eu(ls:List Bs)(T:NC)(k:H7):Prop where
 le:k.i≤ls.length
 qV:k.cf.ao.length≤k.i∧k.cf.ah.length≤k.i∧k.cf.rules.length≤k.i∧k.cf.aj.length≤k.i∧k.cf.ab.length≤k.i
 Nq:k.d≤k.i
 run:T=dy (ls.drop k.i) (k.i+1) k.cf k.d
noncomputable def jY(ls:List Bs)(k:H7):H7:=⟨k.i+1,(dE (aS true (ls.getD k.i [])) k.cf k.d).val,dN (aS true (ls.getD k.i [])) k.d⟩
def KS(T:NC)(l:List Sx.SV)(mem:List Sx.Row):Prop:=match T with
 |.no code line=>∃j,l=[.val (.agg fL.toArray),.j3 103 j 0]∧mem[j]?=some ⟨105,.ag [.int .i64 (code:Int),.int .i64 (line:Int)]⟩
 |.ok cf=>∃k0 k1 k2 k3 k4,l=[.cX [.o k0,.o k1,.o k2,.o k3,.o k4,.v (.int .i64 cf.aL)],.val .nilIface]∧mem[k0]?=some ⟨3,.own 1 cf.ao.length cf.cp⟩∧mem[k1]?=some ⟨118,.own 19 cf.ah.length cf.cr⟩∧mem[k2]?=some ⟨81,.own 49 cf.rules.length cf.cl⟩∧mem[k3]?=some ⟨122,.own 4 cf.aj.length cf.cm⟩∧mem[k4]?=some ⟨124,.own 3 cf.ab.length cf.ci⟩
theorem Gp{ws:List Bs}{i:Nat}{cf cf':CF}{d j:Nat}(h:o6 ws i cf d=.ok cf' j):cf'.ao.length≤cf.ao.length+1∧cf'.ah.length≤cf.ah.length+1∧cf'.rules.length≤cf.rules.length+1∧cf'.aj.length≤cf.aj.length+1∧cf'.ab.length≤cf.ab.length+1:=by
 obtain⟨x,k,_,h⟩:=Out.aO h
 obtain⟨c,k2,hb,h⟩:=Out.aO h
 have hc:cf'=c:=by
  unfold gR at h
  split at h
  ·cases h
  ·injection h with h _;exact h.symm
 subst hc
 unfold ft at hb
 split at hb
 ·obtain⟨_,_,_,hb⟩:=Out.aO hb
  injection hb with hb _;subst hb;simp
 split at hb
 ·obtain⟨_,_,_,hb⟩:=Out.aO hb
  obtain⟨_,_,_,hb⟩:=Out.aO hb
  injection hb with hb _;subst hb;simp
 split at hb
 ·obtain⟨_,_,_,hb⟩:=Out.aO hb
  obtain⟨_,_,_,hb⟩:=Out.aO hb
  obtain⟨_,_,_,hb⟩:=Out.aO hb
  obtain⟨_,_,_,hb⟩:=Out.aO hb
  injection hb with hb _;subst hb;simp
 split at hb
 ·obtain⟨_,_,_,hb⟩:=Out.aO hb
  obtain⟨_,_,_,hb⟩:=Out.aO hb
  obtain⟨_,_,_,hb⟩:=Out.aO hb
  injection hb with hb _;subst hb;simp
 split at hb
 ·obtain⟨_,_,_,hb⟩:=Out.aO hb
  injection hb with hb _;subst hb;simp
 split at hb
 ·obtain⟨_,_,_,hb⟩:=Out.aO hb
  obtain⟨_,_,_,hb⟩:=Out.aO hb
  injection hb with hb _;subst hb;simp
 ·cases hb
theorem Gd{ws:List Bs}{cf cf':CF}{d j:Nat}(h:dE ws cf d=.ok cf' j):cf'.ao.length≤cf.ao.length+1∧cf'.ah.length≤cf.ah.length+1∧cf'.rules.length≤cf.rules.length+1∧cf'.aj.length≤cf.aj.length+1∧cf'.ab.length≤cf.ab.length+1:=by
 unfold dE at h
 split at h
 ·injection h with h _;subst h;simp
 ·exact Gp h
theorem Ns(ws:List Bs)(d:Nat):dN ws d≤d+1:=by unfold dN;split<;>omega
theorem Ft{w:World}(hlan:iG w)(ls:List Bs)(hls:ls.length≤1000000)(hsz:∀x∈ls,x.length≤1000000)(T:NC)(k:H7)(hk:Eu ls T k) :
  ∃H' L',Sx.jn Tryz.prog Tryz.f22.ntmps ⟨w,[],fun _ _=>False⟩ (Sx.cR Tryz.f22 0) H' L' ⟨Fv ls.length k.i,qq ls k.cf k.d⟩
   (Sx.gI (Eu ls T) (fun k=>Fv ls.length k.i) (fun k=>qq ls k.cf k.d) (jY ls) (fun k=>ls.length+1 - k.i) (fun(x:H7)=>Eu ls T x∧x.i=ls.length) (fun _=>[(2,.ptr 0 0),(4,.ptr 1 0),(5,.ptr 2 0)]) (fun k=>qq ls k.cf k.d) id (Sx.fK (Sx.cR Tryz.f22 0) - 1) (Sx.bX Tryz.prog Tryz.f22 (KS T) .ret) k):=by
 obtain⟨i,cf,d⟩:=k
 have hk0:=hk
 obtain⟨hle,hfew,hdle,hrun⟩:=hk
 have hle:i≤ls.length:=hle
 have qV:cf.ao.length≤1000000∧cf.ah.length≤1000000∧cf.rules.length≤1000000∧cf.aj.length≤1000000∧cf.ab.length≤1000000:=⟨Nat.le_trans hfew.1 (by omega),Nat.le_trans hfew.2.1 (by omega),Nat.le_trans hfew.2.2.1 (by omega),Nat.le_trans hfew.2.2.2.1 (by omega),Nat.le_trans hfew.2.2.2.2 (by omega)⟩
 have hd:d≤1000000:=Nat.le_trans hdle (by omega)
 have hrun:T=dy (ls.drop i) (i+1) cf d:=hrun
 by_cases hlt:i < ls.length
 ·have c20:Value.bool (decide ((i:Int) < (ls.length:Int)))=.bool true:=dQ (decide_eq_true (by omega))
  obtain⟨x,hx⟩:∃x,ls[i]?=some x:=⟨_,List.getElem?_eq_getElem hlt⟩
  have hxl:=hsz x (List.mem_of_getElem? hx)
  have hdrop:ls.drop i=x::ls.drop (i+1):=by
   obtain⟨h1,rfl⟩:=List.getElem?_eq_some_iff.1 hx
   exact List.drop_eq_getElem_cons h1
  have hgd:ls.getD i []=x:=by rw[List.getD_eq_getElem?_getD,hx];rfl
  rw[hdrop]at hrun
  have c22:0≤(i:Int)∧(i:Int) < (ls.length:Int):=⟨by omega,by omega⟩
  have c23:(ls.map af)[((i:Int)).toNat*1]?=some (af x):=by
   rw[Int.toNat_natCast,Nat.mul_one,List.getElem?_map,hx];rfl
  have hrows:tJ (Sx.rowAt (qq ls cf d++[⟨103,.ag [.pointer none]⟩])) none none 1 2 3 4 5 6 7 cf d:=⟨rfl,rfl,rfl,rfl,rfl,rfl,rfl⟩
  cases hT:dE (aS true x) cf d with
  |ok cf' j=>
   have e:T=dy (ls.drop (i+1)) (i+1+1) cf' (dN (aS true x) d):=by
    rw[hrun]
    conv=>lhs;unfold dy
    rw[hT]
   have hnx:jY ls ⟨i,cf,d⟩=⟨i+1,cf',dN (aS true x) d⟩:=by
    unfold jY
    rw[hgd,hT];rfl
   have hll:=Gd hT
   have hdn:=Ns (aS true x) d
   have c25:=LG (b:=⟨w,[],fun _ _=>False⟩) 10 rfl hlan (by simp) hxl qV hd hrows hT
   have c27:=fun W (β:Sx.Env) (hS:Sx.cw ⟨w,[],fun _ _=>False⟩ β W (Sx.rowAt (⟨46,.ag fL⟩::eZ none (jP 10 11 12 13 14 cf')::jk none (dN (aS true x) d)::([Sx.aa,Sx.aa,Sx.aa,Sx.aa,Sx.aa]++[⟨9,.own 1 ls.length (ls.map af)⟩,⟨103,.ag [.pointer none]⟩]++bg cf'))) [])=>Kh (m:=15) (k:=9) W β hS
   have c36:Value.int .i64 (IntKind.i64.wrap ((i:Int)+1))=.int .i64 ((i+1:Nat):Int):=iw (by rw[j5 (by omega) (by omega)];rfl)
   have h0:Eu ls T (jY ls ⟨i,cf,d⟩):=by
    rw[hnx]
    obtain⟨f0,f1,f2,f3,f4⟩:cf.ao.length≤i∧cf.ah.length≤i∧cf.rules.length≤i∧cf.aj.length≤i∧cf.ab.length≤i:=hfew
    obtain⟨g0,g1,g2,g3,g4⟩:=hll
    have hdi:d≤i:=hdle
    exact⟨hlt,⟨show cf'.ao.length≤i+1 by omega,show cf'.ah.length≤i+1 by omega,show cf'.rules.length≤i+1 by omega,show cf'.aj.length≤i+1 by omega,show cf'.ab.length≤i+1 by omega⟩,show dN (aS true x) d≤i+1 by omega,e⟩
   have h1:ls.length+1 - (jY ls ⟨i,cf,d⟩).i < ls.length+1 - i:=by rw[hnx]; show ls.length+1 - (i+1) < _; omega
   have h2:Fv ls.length (i+1)=Fv ls.length (jY ls ⟨i,cf,d⟩).i:=by rw[hnx]
   have z3:(⟨46,.ag fL⟩::eZ none (jP 10 11 12 13 14 cf')::jk none (dN (aS true x) d)::(bg cf'++[⟨9,.own 1 ls.length (ls.map af)⟩]):List Sx.Row)=⟨46,.ag fL⟩::eZ none (jP 10 11 12 13 14 (jY ls ⟨i,cf,d⟩).cf)::jk none (jY ls ⟨i,cf,d⟩).d::(bg (jY ls ⟨i,cf,d⟩).cf++[⟨9,.own 1 ls.length (ls.map af)⟩]):=by rw[hnx]
   refine⟨[(20,.is (.bool true)),(22,.ix),(23,.ld (af x)),(25,.al (NR none none [] 1 2 3 4 5 6 7 10 cf' (dN (aS true x) d) .nilIface none)),(27,.al ⟨[],[],[],[],.val (.bool false),none⟩),(36,.is (.int .i64 ((i+1:Nat):Int)))],[],?_⟩
   exact Eq.mp (by kernel_rfl) (Sx.t8 c20 c22 c23 c25 c27 c36 h0 h1 (And.intro h2 z3))
  |no code p=>
   have e:T=.no code (i+1):=by
    rw[hrun]
    conv=>lhs;unfold dy
    rw[hT]
   have c25:=Jf (b:=⟨w,[],fun _ _=>False⟩) 10 rfl hlan (by simp) hxl qV hd hrows hT
   have c27:=fun W (β:Sx.Env) (hS:Sx.cw ⟨w,[],fun _ _=>False⟩ β W (Sx.rowAt (⟨46,.ag fL⟩::([Sx.aa,Sx.aa,Sx.aa,Sx.aa,Sx.aa,Sx.aa,Sx.aa]++[⟨9,.own 1 ls.length (ls.map af)⟩,⟨103,.ag [.pointer none]⟩,⟨105,.ag [.int .i64 (code:Int),.int .i64 (p:Int)]⟩]))) [9])=>Cz (m:=11) (k:=9) (N:=10) hlan (by simp) rfl W β hS
   have c30:Value.int .i64 (IntKind.i64.wrap ((i:Int)+1))=.int .i64 ((i+1:Nat):Int):=iw (by rw[j5 (by omega) (by omega)];rfl)
   have z0:KS T [.val (.agg fL.toArray),.j3 103 10 0] (⟨46,.ag fL⟩::([Sx.aa,Sx.aa,Sx.aa,Sx.aa,Sx.aa,Sx.aa,Sx.aa]++[⟨9,.own 1 ls.length (ls.map af)⟩,⟨103,.dm [.ptr 10 0]⟩,⟨105,.ag [.int .i64 (code:Int),.int .i64 ((i+1:Nat):Int)]⟩])):=by
    rw[e]
    exact⟨10,rfl,rfl⟩
   refine⟨[(20,.is (.bool true)),(22,.ix),(23,.ld (af x)),(25,.al (Nx 10 code p)),(27,.al ⟨[9],[(9,⟨103,.dm [.ptr 10 0]⟩)],[],[],.val (.bool true),none⟩),(30,.is (.int .i64 ((i+1:Nat):Int)))],[],?_⟩
   exact Eq.mp (by kernel_rfl) (Sx.t4 c20 c22 c23 c25 (Sx.t2 c27 c30 z0))
 ·have c20:Value.bool (decide ((i:Int) < (ls.length:Int)))=.bool false:=dY (decide_eq_false (by omega))
  have h0:Eu ls T ⟨i,cf,d⟩∧i=ls.length:=⟨hk0,by omega⟩
  have h1:([(2,.ptr 0 0),(4,.ptr 1 0),(5,.ptr 2 0)]:List (Nat×Sx.SV))=[(2,.ptr 0 0),(4,.ptr 1 0),(5,.ptr 2 0)]:=rfl
  have z2:qq ls cf d=qq ls cf d:=rfl
  refine⟨[(20,.is (.bool false))],[],?_⟩
  exact Eq.mp (by kernel_rfl) (Sx.t2 c20 h0 (And.intro h1 z2))
set_option maxRecDepth 100000
open Go.RowKit Go.Lib Go.Sort
noncomputable def ed(s:Bs):NC:=if 65536 < s.length then .no 4 0 else dy (bE s) 1 wS 0
theorem uz(w:World):Sx.Rows ⟨w,[],fun _ _=>False⟩ (Sx.cZ []) w []:=Sx.gk (w:=w) (S:=[]) (PP:=fun _ _=>False) (G:=[]) (fun q hq=>by cases hq) (fun q hq=>by cases hq) (by simp)
theorem CY(w:World)(s:Bs)(hs:65536 < s.length):Calls Tryz.prog 22 #[af s] w (Sx.bc ⟨w,[],fun _ _=>False⟩ (KS (ed s))):=by
 have hT:ed s=.no 4 0:=by unfold ed;rw[if_pos hs]
 have c10:=jI s
 have dK:Value.bool (decide ((s.length:Int) > 65536))=.bool true:=dQ (decide_eq_true (by omega))
 have z0:KS (ed s) [.val (.agg fL.toArray),.j3 103 1 0] [⟨46,.ag fL⟩,⟨105,.ag [.int .i64 4,.int .i64 0]⟩]:=by
  rw[hT]
  exact⟨1,rfl,rfl⟩
 refine Sx.aT (args:=[.val (af s)]) (uz w) [(10,.is (.int .i64 (s.length:Int))),(11,.is (.bool true))] [] (by kernel_rfl) Tryz.func22 rfl (Nat.le_of_ble_eq_true rfl) rfl ?_
 exact Eq.mp (by kernel_rfl) (Sx.t2 c10 dK z0)
theorem zT(w:World)(hlan:iG w)(s:Bs)(hs:s.length≤65536):Calls Tryz.prog 22 #[af s] w (Sx.bc ⟨w,[],fun _ _=>False⟩ (KS (ed s))):=by
 have hT:ed s=dy (bE s) 1 wS 0:=by unfold ed;rw[if_neg (by omega)]
 generalize ed s=T at hT
 have c10:=jI s
 have dK:Value.bool (decide ((s.length:Int) > 65536))=.bool false:=dY (decide_eq_false (by omega))
 have hcount:=fx 10 s
 have c17:=fun W (hW:aw [] w W)=>ID W s (by omega) (hlan.aP hW (by simp)).qC
 have h0:Eu (bE s) T ⟨0,wS,0⟩:=⟨Nat.zero_le _,⟨Nat.le_refl _,Nat.le_refl _,Nat.le_refl _,Nat.le_refl _,Nat.le_refl _⟩,Nat.le_refl _,hT⟩
 have rd2:=Ft hlan (bE s) (by show(bP 10 s).length≤_;omega) (fun x hx=>by have:=gM 10 s x hx;omega) T
 have e1:([(2,.ptr 0 0),(4,.ptr 1 0),(5,.ptr 7 0),(17,.own 8),(18,.val (.int .i64 ((bE s).length:Int))),(19,.val (.int .i64 ((0:Nat):Int)))]:List (Nat×Sx.SV))=[(2,.ptr 0 0),(4,.ptr 1 0),(5,.ptr 7 0),(17,.own 8),(18,.val (.int .i64 ((bE s).length:Int))),(19,.val (.int .i64 ((0:Nat):Int)))]∧
   (⟨46,.ag fL⟩::eZ none (jP 2 3 4 5 6 wS)::jk none 0::(bg wS++[⟨9,.own 1 (bE s).length ((bE s).map af)⟩]):List Sx.Row)=⟨46,.ag fL⟩::eZ none (jP 2 3 4 5 6 wS)::jk none 0::(bg wS++[⟨9,.own 1 (bE s).length ((bE s).map af)⟩]):=⟨rfl,rfl⟩
 have fin:∀x:H7,Eu (bE s) T x→x.i=(bE s).length→T=.ok (if x.d=0 then { x.cf with aL:=2 }else x.cf):=fun x hx hi=>by
  rw[hx.run,hi,List.drop_length]
  rfl
 have z6f:=fun(x:H7) (hx:Eu (bE s) T x∧x.i=(bE s).length) (hb:(((x.d:Nat):Int)==0)=true)=>(show KS T [.cX [.o 3,.o 4,.o 5,.o 6,.o 7,.v (.int .i64 2)],.val .nilIface] (⟨46,.dm [.own 3,.own 4,.own 5,.own 6,.own 7,.val (.int .i64 2)]⟩::⟨46,.dm [.own 3,.own 4,.own 5,.own 6,.own 7,.val (.int .i64 2)]⟩::jk none x.d::(bg x.cf++[⟨9,.own 1 (bE s).length ((bE s).map af)⟩]))from by
  have hd:x.d=0:=by
   have:=beq_iff_eq.1 hb
   omega
  rw[fin x hx.1 hx.2,if_pos hd]
  exact⟨3,4,5,6,7,rfl,rfl,rfl,rfl,rfl,rfl⟩)
 have z7f:=fun(x:H7) (hx:Eu (bE s) T x∧x.i=(bE s).length) (hb:(((x.d:Nat):Int)==0)=false)=>(show KS T [.cX [.o 3,.o 4,.o 5,.o 6,.o 7,.v (.int .i64 x.cf.aL)],.val .nilIface] (⟨46,.dm [.own 3,.own 4,.own 5,.own 6,.own 7,.val (.int .i64 x.cf.aL)]⟩::eZ none (jP 3 4 5 6 7 x.cf)::jk none x.d::(bg x.cf++[⟨9,.own 1 (bE s).length ((bE s).map af)⟩]))from by
  have hd:x.d≠0:=by
   intro h0
   rw[h0]at hb
   cases hb
  rw[fin x hx.1 hx.2,if_neg hd]
  exact⟨3,4,5,6,7,rfl,rfl,rfl,rfl,rfl,rfl⟩)
 refine Sx.aT (args:=[.val (af s)]) (uz w) [(10,.is (.int .i64 (s.length:Int))),(11,.is (.bool false)),(4,.gq [(0,3,1),(1,118,19),(2,81,49),(3,122,4),(4,124,3)]),(17,.dP (.sl 9 1 (bE s).length ((bE s).map af)))]
  [.mk H7 ⟨0,wS,0⟩ (Eu (bE s) T) (fun k=>Fv (bE s).length k.i) (fun k=>qq (bE s) k.cf k.d) (jY (bE s)) (fun k=>(bE s).length+1 - k.i) H7 (fun x=>Eu (bE s) T x∧x.i=(bE s).length) (fun _=>[(2,.ptr 0 0),(4,.ptr 1 0),(5,.ptr 2 0)]) (fun k=>qq (bE s) k.cf k.d) id] (by kernel_rfl) Tryz.func22 rfl (Nat.le_of_ble_eq_true rfl) rfl ?_
 exact Eq.mp (by kernel_rfl) (Sx.t4 c10 dK c17 h0 (Sx.t2 e1 rd2 (fun(x3:H7) (hx4:Eu (bE s) T x3∧x3.i=(bE s).length)=>(Sx.a8 (b:=x3.d.cast==OfNat.ofNat (nat_lit 0)) (fun hb5=>(z6f x3 hx4 hb5)) (fun hb5=>(z7f x3 hx4 hb5))))))
theorem BY(w:World)(hlan:iG w)(s:Bs):Calls Tryz.prog 22 #[af s] w (Sx.bc ⟨w,[],fun _ _=>False⟩ (KS (ed s))):=by
 by_cases hs:65536 < s.length
 ·exact CY w s hs
 ·exact zT w hlan s (by omega)
open Go.RowKit Go.Lib Go.Sort
theorem Mt.Wf.in{m:Mt}(h:m.Wf):Bg m:=⟨h.gf.1,h.gf.2,h.sp.1,h.sp.2,h.dp.1,h.dp.2,h.pr,h.sn,h.dn⟩
theorem rh{ws:List Bs}{i j:Nat}{x:Bs}(h:eh ws i=.ok x j):aM x=true:=by
 obtain⟨y,k,_,h⟩:=Out.aO h
 obtain⟨hb,rfl⟩:=lB h
 exact hb
theorem uF{ws:List Bs}{i j:Nat}{p:Px}(h:dA ws i=.ok p j):p.n < 2^128∧gg p.v p.n p.k=true:=by
 obtain⟨y,k,_,h⟩:=Out.aO h
 obtain⟨hb,rfl⟩:=lB h
 cases hr:pI y with
 |none=>rw[hr]at hb;cases hb
 |some p=>exact⟨(lQ hr).1,(lQ hr).2.1⟩
theorem mb{ws:List Bs}{i j n:Nat}(h:gQ ws i=.ok n j):(0:Int)≤(n:Int)∧(n:Int)≤9223372036854775807:=by
 have:=nT h
 omega
theorem Be{out:Bool}{ws:List Bs}{i j:Nat}{a:Int×Int}(h:np out ws i=.ok a j):gD a.1 a.2=true∧a.2≤9223372036854775807∧(out=false→a.1=1∨a.1=2∨a.1=4):=by
 obtain⟨x,k,_,h⟩:=Out.aO h
 have one:∀{b:Int×Int},Out.ok b k=.ok a j→(b=(1,0)∨b=(2,0)∨b=(4,0))→gD a.1 a.2=true∧a.2≤9223372036854775807∧(out=false→a.1=1∨a.1=2∨a.1=4):=fun {b} h hb=>by
  injection h with h _
  subst h
  rcases hb with rfl|rfl|rfl
  ·exact⟨by decide,by decide,fun _=>.inl rfl⟩
  ·exact⟨by decide,by decide,fun _=>.inr (.inl rfl)⟩
  ·exact⟨by decide,by decide,fun _=>.inr (.inr rfl)⟩
 split at h
 ·exact one h (.inl rfl)
 split at h
 ·exact one h (.inr (.inl rfl))
 split at h
 ·exact one h (.inr (.inr rfl))
 split at h
 ·rename_i hx
  obtain⟨n,l,hn,h⟩:=Out.aO h
  injection h with h _
  subst h
  have:=mb hn
  refine⟨?_,this.2,fun ho=>by rw[hx.2]at ho;cases ho⟩
  unfold gD
  simp only[Bool.and_eq_true,Bool.or_eq_true,decide_eq_true_eq]
  exact⟨⟨by decide,by decide⟩,this.1,.inr trivial⟩
 ·cases h
theorem FI{k:Bs}{ws:List Bs}{i j:Nat}{x:Bs}(h:jh k ws i=.ok x j):fz x=true:=by
 obtain⟨b,l,_,h⟩:=Out.aO h
 cases b with
 |true=>
  have:=rh h
  unfold fz
  rw[this,Bool.or_true]
 |false=>injection h with h _;rw[←h];decide
theorem LL{m:Mt}{ws:List Bs}{i j:Nat}{u:Unit}(h:F0 m ws i=.ok u j):bL m=true:=by
 obtain⟨x,k,_,h⟩:=Out.aO h
 obtain⟨y,k2,_,h⟩:=Out.aO h
 exact(lB h).1
theorem IS{ws:List Bs}{i j:Nat}{r:Rl}(h:lM ws i=.ok r j):Em r∧bL r.mt=true∧aM r.name=true∧gD r.act r.out=true∧fz r.aq=true∧fz r.ai=true:=by
 obtain⟨nm,_,h1,h⟩:=Out.aO h
 obtain⟨m,_,h2,h⟩:=Out.aO h
 obtain⟨u,_,h3,h⟩:=Out.aO h
 obtain⟨a,_,h4,h⟩:=Out.aO h
 obtain⟨me,_,h5,h⟩:=Out.aO h
 obtain⟨mi,_,h6,h⟩:=Out.aO h
 injection h with h _
 subst h
 exact⟨⟨(sD h2).1.in,(Be h4).2.1⟩,LL h3,rh h1,(Be h4).1,FI h5,FI h6⟩
structure NS(cf:CF)(d:Nat):Prop where
 ao:∀n∈cf.ao,0≤n∧n≤9223372036854775807
 ah:∀r∈cf.ah,r.pf.n < 2^128∧gg r.pf.v r.pf.n r.pf.k=true∧0≤r.out∧r.out≤9223372036854775807
 aj:∀m∈cf.aj,aM m.name=true∧m.num≤18446744073709551615∧m.den≤18446744073709551615∧m.nF≤18446744073709551615
 ab:∀m∈cf.ab,aM m.name=true∧0≤m.out∧m.out≤9223372036854775807∧0≤m.room∧m.room≤9223372036854775807
 rules:∀r∈cf.rules,Em r∧bL r.mt=true∧aM r.name=true∧gD r.act r.out=true∧fz r.aq=true∧fz r.ai=true
 aL:d≠0→cf.aL=1∨cf.aL=2∨cf.aL=4
theorem lZ{α:Type}{p:α→Prop}{l:List α}{a:α}(h:∀x∈l,p x)(ha:p a):∀x∈l++[a],p x:=fun x hx=>by
 rcases List.mem_append.1 hx with h1|h1
 ·exact h x h1
 ·rw[List.mem_singleton.1 h1];exact ha
theorem Jr{ws:List Bs}{cf cf':CF}{d i:Nat}(h:dE ws cf d=.ok cf' i)(hc:NS cf d):NS cf' (dN ws d):=by
 unfold dE at h
 split at h
 ·injection h with h _
  subst h
  exact hc
 ·obtain⟨x,k,hx,h⟩:=Out.aO h
  obtain⟨c,k2,hb,h⟩:=Out.aO h
  have hcc:cf'=c:=by
   unfold gR at h
   split at h
   ·cases h
   ·injection h with h _;exact h.symm
  subst hcc
  have hx0:ws[0]?=some x:=by
   unfold bj at hx
   split at hx
   ·rename_i y hy;injection hx with hx _;rw[←hx];exact hy
   ·cases hx
  have dn:x≠av→dN ws d=d:=fun hne=>by unfold dN;rw[hx0,if_neg (fun hh=>hne (Option.some.inj hh))]
  unfold ft at hb
  split at hb
  ·rename_i hk
   rw[dn (by rw[hk];decide)]
   obtain⟨n,_,h1,hb⟩:=Out.aO hb
   injection hb with hb _;subst hb
   exact { hc with ao:=lZ hc.ao (mb h1) }
  split at hb
  ·rename_i hk
   rw[dn (by rw[hk];decide)]
   obtain⟨p,_,h1,hb⟩:=Out.aO hb
   obtain⟨n,_,h2,hb⟩:=Out.aO hb
   injection hb with hb _;subst hb
   exact { hc with ah:=lZ hc.ah ⟨(uF h1).1,(uF h1).2,(mb h2).1,(mb h2).2⟩ }
  split at hb
  ·rename_i hk
   rw[dn (by rw[hk];decide)]
   obtain⟨nm,_,h1,hb⟩:=Out.aO hb
   obtain⟨a,_,h2,hb⟩:=Out.aO hb
   obtain⟨b,_,h3,hb⟩:=Out.aO hb
   obtain⟨c,_,h4,hb⟩:=Out.aO hb
   injection hb with hb _;subst hb
   exact { hc with aj:=lZ hc.aj ⟨rh h1,nT h2,nT h3,nT h4⟩ }
  split at hb
  ·rename_i hk
   rw[dn (by rw[hk];decide)]
   obtain⟨nm,_,h1,hb⟩:=Out.aO hb
   obtain⟨a,_,h2,hb⟩:=Out.aO hb
   obtain⟨b,_,h3,hb⟩:=Out.aO hb
   injection hb with hb _;subst hb
   exact { hc with ab:=lZ hc.ab ⟨rh h1,(mb h2).1,(mb h2).2,(mb h3).1,(mb h3).2⟩ }
  split at hb
  ·rename_i hk
   rw[dn (by rw[hk];decide)]
   obtain⟨r,_,h1,hb⟩:=Out.aO hb
   injection hb with hb _;subst hb
   exact { hc with rules:=lZ hc.rules (IS h1) }
  split at hb
  ·obtain⟨u,_,_,hb⟩:=Out.aO hb
   obtain⟨a,_,h1,hb⟩:=Out.aO hb
   injection hb with hb _;subst hb
   exact { hc with aL:=fun _=>(Be h1).2.2 rfl }
  ·cases hb
theorem xK:∀(ls:List Bs) (k:Nat) (cf:CF) (d:Nat),NS cf d→∀cf',dy ls k cf d=.ok cf'→ly cf'
 | [],k,cf,d,hc,cf',h=>by
  unfold dy at h
  injection h with h
  subst h
  by_cases hd:d=0
  ·rw[if_pos hd]
   exact⟨hc.ao,hc.ah,hc.aj,hc.ab,hc.rules,.inr (.inl rfl)⟩
  ·rw[if_neg hd]
   exact⟨hc.ao,hc.ah,hc.aj,hc.ab,hc.rules,hc.aL hd⟩
 |l::ls,k,cf,d,hc,cf',h=>by
  unfold dy at h
  cases hl:dE (aS true l) cf d with
  |ok c i=>rw[hl]at h;exact xK ls _ c _ (Jr hl hc) cf' h
  |no code p=>rw[hl]at h;cases h
theorem Nu:NS wS 0:=⟨fun n h=>(by cases h),fun n h=>(by cases h),fun n h=>(by cases h),fun n h=>(by cases h),fun n h=>(by cases h),fun h=>absurd rfl h⟩
theorem Fo{s:Bs}{cf:CF}(h:ed s=.ok cf):ly cf:=by
 unfold ed at h
 split at h
 ·cases h
 ·exact xK _ _ _ _ Nu cf h
theorem ly.in{cf:CF}(h:ly cf):MB cf:=⟨fun n hn=>(h.ao n hn).2,fun r hr=>⟨(h.ah r hr).1,(h.ah r hr).2.2.2⟩,fun m hm=>(h.aj m hm).2,fun m hm=>⟨(h.ab m hm).2.2.1,(h.ab m hm).2.2.2.2⟩,fun r hr=>(h.rules r hr).1⟩
end Go.Proofs.YtnncigmpcdehnaaGreatDoor
