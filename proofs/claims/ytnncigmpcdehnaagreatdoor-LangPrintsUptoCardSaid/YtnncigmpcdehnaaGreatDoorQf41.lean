import Derived.Test.YtnncigmpcdehnaaGreatDoorQf40
import Derived.Barred
namespace Go.Proofs.YtnncigmpcdehnaaGreatDoor
set_option maxRecDepth 100000
open Go.RowKit Go.Lib Go.Sort _root_.Go.Proofs.Tryz
def im:List Value:=[.slice none 0 0,.slice none 0 0,.slice none 0 0,.slice none 0 0,.slice none 0 0,.int .i64 0]
def IX(n i:Nat):List (Nat×Sx.SV):=[(2,.ptr 0 0),(4,.ptr 1 0),(5,.ptr 2 0),(17,.own 8),(18,.val (.int .i64 (n:Int))),(19,.val (.int .i64 (i:Int)))]
def PJ(cf:CF)(d:Nat):List Sx.Row:=⟨46,.ak im⟩::fu none (kB 3 4 5 6 7 cf)::ly none d::dI cf
def rY(ls:List Bs)(cf:CF)(d:Nat):List Sx.Row:=PJ cf d++[⟨9,.own 1 ls.length (ls.map ab)⟩]
structure Ln where
 i:Nat
 cf:CF
 d:Nat
structure Hv(ls:List Bs)(T:SA)(k:Ln):Prop where
 le:k.i≤ls.length
 xG:k.cf.ag.length≤k.i∧k.cf.ae.length≤k.i∧k.cf.rules.length≤k.i∧k.cf.af.length≤k.i∧k.cf.aa.length≤k.i
 SP:k.d≤k.i
 run:T=gr (ls.drop k.i) (k.i+1) k.cf k.d
noncomputable def kO(ls:List Bs)(k:Ln):Ln:=⟨k.i+1,(ft (aK true (ls.getD k.i [])) k.cf k.d).val,dN (aK true (ls.getD k.i [])) k.d⟩
def Pk(T:SA)(l:List Sx.SV)(mem:List Sx.Row):Prop:=match T with
 |.no code line=>∃j,l=[.val (.agg im.toArray),.kT 103 j 0]∧mem[j]?=some ⟨105,.ak [.int .i64 (code:Int),.int .i64 (line:Int)]⟩
 |.ok cf=>∃k0 k1 k2 k3 k4,l=[.dD [.o k0,.o k1,.o k2,.o k3,.o k4,.v (.int .i64 cf.aS)],.val .nilIface]∧mem[k0]?=some ⟨3,.own 1 cf.ag.length cf.cp⟩∧mem[k1]?=some ⟨118,.own 19 cf.ae.length cf.cr⟩∧mem[k2]?=some ⟨81,.own 49 cf.rules.length cf.cl⟩∧mem[k3]?=some ⟨122,.own 4 cf.af.length cf.cm⟩∧mem[k4]?=some ⟨124,.own 3 cf.aa.length cf.ci⟩
theorem JX{ws:List Bs}{i:Nat}{cf cf':CF}{d j:Nat}(h:qx ws i cf d=.ok cf' j):cf'.ag.length≤cf.ag.length+1∧cf'.ae.length≤cf.ae.length+1∧cf'.rules.length≤cf.rules.length+1∧cf'.af.length≤cf.af.length+1∧cf'.aa.length≤cf.aa.length+1:=by
 obtain⟨x,k,_,h⟩:=Out.cD h
 obtain⟨c,k2,hb,h⟩:=Out.cD h
 have hc:cf'=c:=by
  unfold sO at h
  split at h
  ·cases h
  ·injection h with h _;exact h.symm
 subst hc
 unfold gx at hb
 split at hb
 ·obtain⟨_,_,_,hb⟩:=Out.cD hb
  injection hb with hb _;subst hb;simp
 split at hb
 ·obtain⟨_,_,_,hb⟩:=Out.cD hb
  obtain⟨_,_,_,hb⟩:=Out.cD hb
  injection hb with hb _;subst hb;simp
 split at hb
 ·obtain⟨_,_,_,hb⟩:=Out.cD hb
  obtain⟨_,_,_,hb⟩:=Out.cD hb
  obtain⟨_,_,_,hb⟩:=Out.cD hb
  obtain⟨_,_,_,hb⟩:=Out.cD hb
  injection hb with hb _;subst hb;simp
 split at hb
 ·obtain⟨_,_,_,hb⟩:=Out.cD hb
  obtain⟨_,_,_,hb⟩:=Out.cD hb
  obtain⟨_,_,_,hb⟩:=Out.cD hb
  injection hb with hb _;subst hb;simp
 split at hb
 ·obtain⟨_,_,_,hb⟩:=Out.cD hb
  injection hb with hb _;subst hb;simp
 split at hb
 ·obtain⟨_,_,_,hb⟩:=Out.cD hb
  obtain⟨_,_,_,hb⟩:=Out.cD hb
  injection hb with hb _;subst hb;simp
 ·cases hb
theorem JK{ws:List Bs}{cf cf':CF}{d j:Nat}(h:ft ws cf d=.ok cf' j):cf'.ag.length≤cf.ag.length+1∧cf'.ae.length≤cf.ae.length+1∧cf'.rules.length≤cf.rules.length+1∧cf'.af.length≤cf.af.length+1∧cf'.aa.length≤cf.aa.length+1:=by
 unfold ft at h
 split at h
 ·injection h with h _;subst h;simp
 ·exact JX h
theorem Sk(ws:List Bs)(d:Nat):dN ws d≤d+1:=by unfold dN;split<;>omega
theorem IW{w:World}(hlan:lD w)(ls:List Bs)(hls:ls.length≤1000000)(hsz:∀x∈ls,x.length≤1000000)(T:SA)(k:Ln)(hk:Hv ls T k) :
  ∃H' L',Sx.jU prog f22.ntmps ⟨w,[],fun _ _=>False⟩ (Sx.aQ f22 0) H' L' ⟨IX ls.length k.i,rY ls k.cf k.d⟩
   (Sx.dR (Hv ls T) (fun k=>IX ls.length k.i) (fun k=>rY ls k.cf k.d) (kO ls) (fun k=>ls.length+1 - k.i) (fun(x:Ln)=>Hv ls T x∧x.i=ls.length) (fun _=>[(2,.ptr 0 0),(4,.ptr 1 0),(5,.ptr 2 0)]) (fun k=>rY ls k.cf k.d) id (Sx.dM (Sx.aQ f22 0) - 1) (Sx.bY prog f22 (Pk T) .ret) k):=by
 obtain⟨i,cf,d⟩:=k
 have hk0:=hk
 obtain⟨hle,hfew,hdle,hrun⟩:=hk
 have hle:i≤ls.length:=hle
 have xG:cf.ag.length≤1000000∧cf.ae.length≤1000000∧cf.rules.length≤1000000∧cf.af.length≤1000000∧cf.aa.length≤1000000:=⟨Nat.le_trans hfew.1 (by omega),Nat.le_trans hfew.2.1 (by omega),Nat.le_trans hfew.2.2.1 (by omega),Nat.le_trans hfew.2.2.2.1 (by omega),Nat.le_trans hfew.2.2.2.2 (by omega)⟩
 have hd:d≤1000000:=Nat.le_trans hdle (by omega)
 have hrun:T=gr (ls.drop i) (i+1) cf d:=hrun
 by_cases hlt:i < ls.length
 ·have c20:=bT ((i:Int) < (ls.length:Int)) (by omega)
  obtain⟨x,hx⟩:∃x,ls[i]?=some x:=⟨_,List.getElem?_eq_getElem hlt⟩
  have hxl:=hsz x (List.mem_of_getElem? hx)
  have hdrop:ls.drop i=x::ls.drop (i+1):=by
   obtain⟨h1,rfl⟩:=List.getElem?_eq_some_iff.1 hx
   exact List.drop_eq_getElem_cons h1
  have hgd:ls.getD i []=x:=by rw[List.getD_eq_getElem?_getD,hx];rfl
  rw[hdrop]at hrun
  have c22:0≤(i:Int)∧(i:Int) < (ls.length:Int):=⟨by omega,by omega⟩
  have c23:(ls.map ab)[((i:Int)).toNat*1]?=some (ab x):=by
   rw[Int.toNat_natCast,Nat.mul_one,List.getElem?_map,hx];rfl
  have hrows:we (Sx.rowAt (rY ls cf d++[⟨103,.ak [.pointer none]⟩])) none none 1 2 3 4 5 6 7 cf d:=⟨rfl,rfl,rfl,rfl,rfl,rfl,rfl⟩
  cases hT:ft (aK true x) cf d with
  |ok cf' j=>
   have e:T=gr (ls.drop (i+1)) (i+1+1) cf' (dN (aK true x) d):=by
    rw[hrun]
    conv=>lhs;unfold gr
    rw[hT]
   have hnx:kO ls ⟨i,cf,d⟩=⟨i+1,cf',dN (aK true x) d⟩:=by
    unfold kO
    rw[hgd,hT];rfl
   have hll:=JK hT
   have hdn:=Sk (aK true x) d
   have c25:=P2 (b:=⟨w,[],fun _ _=>False⟩) 10 rfl hlan (by simp) hxl xG hd hrows hT
   have c27:=fun W (β:Sx.Env) (hS:Sx.eF ⟨w,[],fun _ _=>False⟩ β W (Sx.rowAt (⟨46,.ak im⟩::fu none (kB 10 11 12 13 14 cf')::ly none (dN (aK true x) d)::([Sx.an,Sx.an,Sx.an,Sx.an,Sx.an]++[⟨9,.own 1 ls.length (ls.map ab)⟩,⟨103,.ak [.pointer none]⟩]++dI cf'))) [])=>Ou (m:=15) (k:=9) W β hS
   have c36:=my (i:=i) (by omega)
   have h0:Hv ls T (kO ls ⟨i,cf,d⟩):=by
    rw[hnx]
    obtain⟨f0,f1,f2,f3,f4⟩:cf.ag.length≤i∧cf.ae.length≤i∧cf.rules.length≤i∧cf.af.length≤i∧cf.aa.length≤i:=hfew
    obtain⟨g0,g1,g2,g3,g4⟩:=hll
    have hdi:d≤i:=hdle
    exact⟨hlt,⟨show cf'.ag.length≤i+1 by omega,show cf'.ae.length≤i+1 by omega,show cf'.rules.length≤i+1 by omega,show cf'.af.length≤i+1 by omega,show cf'.aa.length≤i+1 by omega⟩,show dN (aK true x) d≤i+1 by omega,e⟩
   have h1:ls.length+1 - (kO ls ⟨i,cf,d⟩).i < ls.length+1 - i:=by rw[hnx]; show ls.length+1 - (i+1) < _; omega
   have h2:IX ls.length (i+1)=IX ls.length (kO ls ⟨i,cf,d⟩).i:=by rw[hnx]
   have z3:(⟨46,.ak im⟩::fu none (kB 10 11 12 13 14 cf')::ly none (dN (aK true x) d)::(dI cf'++[⟨9,.own 1 ls.length (ls.map ab)⟩]):List Sx.Row)=⟨46,.ak im⟩::fu none (kB 10 11 12 13 14 (kO ls ⟨i,cf,d⟩).cf)::ly none (kO ls ⟨i,cf,d⟩).d::(dI (kO ls ⟨i,cf,d⟩).cf++[⟨9,.own 1 ls.length (ls.map ab)⟩]):=by rw[hnx]
   refine⟨[(20,.is (.bool true)),(22,.ix),(23,.ld (ab x)),(25,.aq (Ts none none [] 1 2 3 4 5 6 7 10 cf' (dN (aK true x) d) .nilIface none)),(27,.aq ⟨[],[],[],[],.val (.bool false),none⟩),(36,.is (.int .i64 ((i+1:Nat):Int)))],[],?_⟩
   exact Eq.mp (by kernel_rfl) (Sx.t8 c20 c22 c23 c25 c27 c36 h0 h1 (And.intro h2 z3))
  |no code p=>
   have e:T=.no code (i+1):=by
    rw[hrun]
    conv=>lhs;unfold gr
    rw[hT]
   have c25:=Ng (b:=⟨w,[],fun _ _=>False⟩) 10 rfl hlan (by simp) hxl xG hd hrows hT
   have c27:=fun W (β:Sx.Env) (hS:Sx.eF ⟨w,[],fun _ _=>False⟩ β W (Sx.rowAt (⟨46,.ak im⟩::([Sx.an,Sx.an,Sx.an,Sx.an,Sx.an,Sx.an,Sx.an]++[⟨9,.own 1 ls.length (ls.map ab)⟩,⟨103,.ak [.pointer none]⟩,⟨105,.ak [.int .i64 (code:Int),.int .i64 (p:Int)]⟩]))) [9])=>FB (m:=11) (k:=9) (N:=10) hlan (by simp) rfl W β hS
   have c30:=my (i:=i) (by omega)
   have z0:Pk T [.val (.agg im.toArray),.kT 103 10 0] (⟨46,.ak im⟩::([Sx.an,Sx.an,Sx.an,Sx.an,Sx.an,Sx.an,Sx.an]++[⟨9,.own 1 ls.length (ls.map ab)⟩,⟨103,.dK [.ptr 10 0]⟩,⟨105,.ak [.int .i64 (code:Int),.int .i64 ((i+1:Nat):Int)]⟩])):=by
    rw[e]
    exact⟨10,rfl,rfl⟩
   refine⟨[(20,.is (.bool true)),(22,.ix),(23,.ld (ab x)),(25,.aq (Sv 10 code p)),(27,.aq ⟨[9],[(9,⟨103,.dK [.ptr 10 0]⟩)],[],[],.val (.bool true),none⟩),(30,.is (.int .i64 ((i+1:Nat):Int)))],[],?_⟩
   exact Eq.mp (by kernel_rfl) (Sx.t4 c20 c22 c23 c25 (Sx.t2 c27 c30 z0))
 ·have c20:=bF ((i:Int) < (ls.length:Int)) (by omega)
  have h0:Hv ls T ⟨i,cf,d⟩∧i=ls.length:=⟨hk0,by omega⟩
  have h1:([(2,.ptr 0 0),(4,.ptr 1 0),(5,.ptr 2 0)]:List (Nat×Sx.SV))=[(2,.ptr 0 0),(4,.ptr 1 0),(5,.ptr 2 0)]:=rfl
  have z2:rY ls cf d=rY ls cf d:=rfl
  refine⟨[(20,.is (.bool false))],[],?_⟩
  exact Eq.mp (by kernel_rfl) (Sx.t2 c20 h0 (And.intro h1 z2))
set_option maxRecDepth 100000
open Go.RowKit Go.Lib Go.Sort _root_.Go.Proofs.Tryz
set_option maxRecDepth 100000
noncomputable def jL(s:Bs):SA:=if 65536 < s.length then .no 4 0 else gr (bA s) 1 Fq 0
theorem wP(w:World):Sx.Rows ⟨w,[],fun _ _=>False⟩ (Sx.cU []) w []:=Sx.gP (w:=w) (S:=[]) (PP:=fun _ _=>False) (G:=[]) (fun q hq=>by cases hq) (fun q hq=>by cases hq) (by simp)
theorem Gb(w:World)(s:Bs)(hs:65536 < s.length):Calls prog 22 #[ab s] w (Sx.cq ⟨w,[],fun _ _=>False⟩ (Pk (jL s))):=by
 have hT:jL s=.no 4 0:=by unfold jL;rw[if_pos hs]
 have c10:=iq s
 have oA:=bT ((s.length:Int) > 65536) (by omega)
 have z0:Pk (jL s) [.val (.agg im.toArray),.kT 103 1 0] [⟨46,.ak im⟩,⟨105,.ak [.int .i64 4,.int .i64 0]⟩]:=by
  rw[hT]
  exact⟨1,rfl,rfl⟩
 refine Sx.aZ (args:=[.val (ab s)]) (wP w) [(10,.is (.int .i64 (s.length:Int))),(11,.is (.bool true))] [] (by kernel_rfl) func22 rfl (cn rfl) rfl ?_
 exact Eq.mp (by kernel_rfl) (Sx.t2 c10 oA z0)
theorem CI(w:World)(hlan:lD w)(s:Bs)(hs:s.length≤65536):Calls prog 22 #[ab s] w (Sx.cq ⟨w,[],fun _ _=>False⟩ (Pk (jL s))):=by
 have hT:jL s=gr (bA s) 1 Fq 0:=by unfold jL;rw[if_neg (by omega)]
 generalize jL s=T at hT
 have c10:=iq s
 have oA:=bF ((s.length:Int) > 65536) (by omega)
 have hcount:=gM 10 s
 have c17:=fun W (hW:ai [] w W)=>Mj W s (by omega) (hlan.aG hW (by simp)).u5
 have h0:Hv (bA s) T ⟨0,Fq,0⟩:=⟨Nat.zero_le _,⟨Nat.le_refl _,Nat.le_refl _,Nat.le_refl _,Nat.le_refl _,Nat.le_refl _⟩,Nat.le_refl _,hT⟩
 have jo:=IW hlan (bA s) (by show(bR 10 s).length≤_;omega) (fun x hx=>by have:=iC 10 s x hx;omega) T
 have e1:([(2,.ptr 0 0),(4,.ptr 1 0),(5,.ptr 7 0),(17,.own 8),(18,.val (.int .i64 ((bA s).length:Int))),(19,.val (.int .i64 ((0:Nat):Int)))]:List (Nat×Sx.SV))=[(2,.ptr 0 0),(4,.ptr 1 0),(5,.ptr 7 0),(17,.own 8),(18,.val (.int .i64 ((bA s).length:Int))),(19,.val (.int .i64 ((0:Nat):Int)))]∧
   (⟨46,.ak im⟩::fu none (kB 2 3 4 5 6 Fq)::ly none 0::(dI Fq++[⟨9,.own 1 (bA s).length ((bA s).map ab)⟩]):List Sx.Row)=⟨46,.ak im⟩::fu none (kB 2 3 4 5 6 Fq)::ly none 0::(dI Fq++[⟨9,.own 1 (bA s).length ((bA s).map ab)⟩]):=⟨rfl,rfl⟩
 have fin:∀x:Ln,Hv (bA s) T x→x.i=(bA s).length→T=.ok (if x.d=0 then { x.cf with aS:=2 }else x.cf):=fun x hx hi=>by
  rw[hx.run,hi,List.drop_length]
  rfl
 have z6f:=fun(x:Ln) (hx:Hv (bA s) T x∧x.i=(bA s).length) (hb:(((x.d:Nat):Int)==0)=true)=>(show Pk T [.dD [.o 3,.o 4,.o 5,.o 6,.o 7,.v (.int .i64 2)],.val .nilIface] (⟨46,.dK [.own 3,.own 4,.own 5,.own 6,.own 7,.val (.int .i64 2)]⟩::⟨46,.dK [.own 3,.own 4,.own 5,.own 6,.own 7,.val (.int .i64 2)]⟩::ly none x.d::(dI x.cf++[⟨9,.own 1 (bA s).length ((bA s).map ab)⟩]))from by
  have hd:x.d=0:=by
   have:=beq_iff_eq.1 hb
   omega
  rw[fin x hx.1 hx.2,if_pos hd]
  exact⟨3,4,5,6,7,rfl,rfl,rfl,rfl,rfl,rfl⟩)
 have z7f:=fun(x:Ln) (hx:Hv (bA s) T x∧x.i=(bA s).length) (hb:(((x.d:Nat):Int)==0)=false)=>(show Pk T [.dD [.o 3,.o 4,.o 5,.o 6,.o 7,.v (.int .i64 x.cf.aS)],.val .nilIface] (⟨46,.dK [.own 3,.own 4,.own 5,.own 6,.own 7,.val (.int .i64 x.cf.aS)]⟩::fu none (kB 3 4 5 6 7 x.cf)::ly none x.d::(dI x.cf++[⟨9,.own 1 (bA s).length ((bA s).map ab)⟩]))from by
  have hd:x.d≠0:=by
   intro h0
   rw[h0]at hb
   cases hb
  rw[fin x hx.1 hx.2,if_neg hd]
  exact⟨3,4,5,6,7,rfl,rfl,rfl,rfl,rfl,rfl⟩)
 refine Sx.aZ (args:=[.val (ab s)]) (wP w) [(10,.is (.int .i64 (s.length:Int))),(11,.is (.bool false)),(4,.uH [(0,3,1),(1,118,19),(2,81,49),(3,122,4),(4,124,3)]),(17,.dS (.sl 9 1 (bA s).length ((bA s).map ab)))]
  [.mk Ln ⟨0,Fq,0⟩ (Hv (bA s) T) (fun k=>IX (bA s).length k.i) (fun k=>rY (bA s) k.cf k.d) (kO (bA s)) (fun k=>(bA s).length+1 - k.i) Ln (fun x=>Hv (bA s) T x∧x.i=(bA s).length) (fun _=>[(2,.ptr 0 0),(4,.ptr 1 0),(5,.ptr 2 0)]) (fun k=>rY (bA s) k.cf k.d) id] (by kernel_rfl) func22 rfl (cn rfl) rfl ?_
 exact Eq.mp (by kernel_rfl) (Sx.t4 c10 oA c17 h0 (Sx.t2 e1 jo (fun(x3:Ln) (hx4:Hv (bA s) T x3∧x3.i=(bA s).length)=>(Sx.aw (b:=x3.d.cast==OfNat.ofNat (nat_lit 0)) (fun hb5=>(z6f x3 hx4 hb5)) (fun hb5=>(z7f x3 hx4 hb5))))))
theorem EO(w:World)(hlan:lD w)(s:Bs):Calls prog 22 #[ab s] w (Sx.cq ⟨w,[],fun _ _=>False⟩ (Pk (jL s))):=by
 by_cases hs:65536 < s.length
 ·exact Gb w s hs
 ·exact CI w hlan s (by omega)
open Go.RowKit Go.Lib Go.Sort
theorem Mt.Wf.in{m:Mt}(h:m.Wf):DZ m:=⟨h.ff.1,h.ff.2,h.sp.1,h.sp.2,h.dp.1,h.dp.2,h.pr,h.sn,h.dn⟩
theorem qR.in{cf:CF}(h:qR cf):OD cf:=⟨fun n hn=>(h.ag n hn).2,fun r hr=>⟨(h.ae r hr).1,(h.ae r hr).2.2.2⟩,fun m hm=>(h.af m hm).2,fun m hm=>⟨(h.aa m hm).2.2.1,(h.aa m hm).2.2.2.2⟩,fun r hr=>(h.rules r hr).1⟩
open Go Go.RowKit Go.Lib Go.Sort
theorem BL{P:Program}{f:FuncId}{args:Array Value}{w:World}{v v':Value}(h:Calls P f args w (Rn w v))(h':Calls P f args w (Rn w v'))(hi:P.inits.idxOf? f=none):v=v':=by
 have k1:Calls P f args w fun | .returned u,_=>u=v|_,_=>False:=h.mono fun e w' ⟨he,_⟩=>by subst he;rfl
 have k2:Calls P f args w fun | .returned u,_=>u=v' | _,_=>False:=h'.mono fun e w' ⟨he,_⟩=>by subst he;rfl
 obtain⟨n,u,w1,e1,r1⟩:=k1.done hi
 obtain⟨m,u',w2,e2,r2⟩:=k2.done hi
 have a:=runN_ended e1 m
 have b:=runN_ended e2 n
 rw[Nat.add_comm,a]at b
 injection b with ho _
 injection ho with hv
 rw[←r1,←r2,hv]
theorem PI{w:World}(hl:eb w):Lm:=fun p hn hk=>by
 have e:pK p=kX p.v p.n p.k:=by unfold pK nh;rw[if_pos hk]
 have hp:Cl (pK p) p.v p.n p.k:=⟨hn,hk,e.symm⟩
 cases hr:rf (pK p)with
 |none=>exact absurd hp (Ad hr p.v p.n p.k)
 |some q=>
  have hq:=ud hr
  have h1:=uc hp (ki p) w hl
  have h2:=uc hq (ki p) w hl
  have hv:=BL h1 h2 (by kernel_rfl)
  injection hv with hv
  have hv:#[Value.agg (dm p.v p.n p.k).toArray,.int .i64 0]=#[Value.agg (dm q.v q.n q.k).toArray,.int .i64 0]:=hv
  have hv:=congrArg Array.toList hv
  injection hv with hv _
  injection hv with hv
  have hv:dm p.v p.n p.k=dm q.v q.n q.k:=by simpa using hv
  rw[Px.dw (p:=p) (q:=q) hn hq.1 hv]
def BJ(m:Nat)(cf:CF):List Sx.Atom:=[.o m,.o (m+1),.o (m+2),.o (m+3),.o (m+4),.v (.int .i64 cf.aS)]
structure Ch(w:World)(cf:CF)(s:ey):Prop where
 p:Own w 3 1 (.slice s.p.A cf.ag.length s.p.c) cf.ag.length cf.cp
 r:Own w 118 19 (.slice s.r.A cf.ae.length s.r.c) cf.ae.length cf.cr
 l:Own w 81 49 (.slice s.l.A cf.rules.length s.l.c) cf.rules.length cf.cl
 m:Own w 122 4 (.slice s.m.A cf.af.length s.m.c) cf.af.length cf.cm
 i:Own w 124 3 (.slice s.i.A cf.aa.length s.i.c) cf.aa.length cf.ci
def ey.new(s:ey)(N:Nat):Prop:=∀A∈[s.p.A,s.r.A,s.l.A,s.m.A,s.i.A],∀k,A.map (·.block)=some k→N≤k
theorem Ch.rd{w:World}{cf:CF}{s:ey}{S:List Nat}(h:Ch w cf s)(hS:∀A∈[s.p.A,s.r.A,s.l.A,s.m.A,s.i.A],∀k,A.map (·.block)=some k→k∉S):dj w S cf s:=by
 have hh:∀A∈[s.p.A,s.r.A,s.l.A,s.m.A,s.i.A],∀n c k,(Value.slice A n c).ownBlock=some k→k∉S:=fun A hA n c k hk=>hS A hA k (by rw[FO]at hk;exact hk)
 exact⟨kV.eM h.p (hh _ (by simp) _ _),kV.eM h.r (hh _ (by simp) _ _),kV.eM h.l (hh _ (by simp) _ _),kV.eM h.m (hh _ (by simp) _ _),kV.eM h.i (hh _ (by simp) _ _)⟩
theorem bW{w:World}{T T' size size' n n' c c':Nat}{A A':Option Go.Addr}{xs xs':List Value}(h:Own w T size (.slice A n c) n xs)(h':Own w T' size' (.slice A' n' c') n' xs')(hne:T≠T'){x:Nat}(hx:A.map (·.block)=some x)(hx':A'.map (·.block)=some x):False:=
 h.Jq h' hne x (by rw[FO];exact hx) (by rw[FO];exact hx')
theorem xL{β:Sx.Env}{W w':World}{row:Nat→Option Sx.Row}{m:Nat}{X:List Nat}{cf:CF}{s:ey}{ret:Sx.SV}{e:Ending}(h:Ch w' cf s)(hn:s.new W.heap.size)(hret:e=.returned (ret.den (aJ β m cf s)))(hc:ai [] W w') :
  Sx.Cf β W row m ⟨X,[],[],dI cf,ret,none⟩ e w' (aJ β m cf s):=by
 have hold:∀i,i < m→β i=(aJ β m cf s) i∧β.a i=(aJ β m cf s).a i∧β.n i=(aJ β m cf s).n i∧β.c i=(aJ β m cf s).c i:=fun i hi=>by
  refine⟨rfl,?_,?_,?_⟩
  ·show β.a i=if i=m then s.p.A else if i=m+1 then s.r.A else if i=m+2 then s.l.A else if i=m+3 then s.m.A else if i=m+4 then s.i.A else β.a i
   rw[if_neg (by omega),if_neg (by omega),if_neg (by omega),if_neg (by omega),if_neg (by omega)]
  ·show β.n i=if i=m then cf.ag.length else if i=m+1 then cf.ae.length else if i=m+2 then cf.rules.length else if i=m+3 then cf.af.length else if i=m+4 then cf.aa.length else β.n i
   rw[if_neg (by omega),if_neg (by omega),if_neg (by omega),if_neg (by omega),if_neg (by omega)]
  ·show β.c i=if i=m then s.p.c else if i=m+1 then s.r.c else if i=m+2 then s.l.c else if i=m+3 then s.m.c else if i=m+4 then s.i.c else β.c i
   rw[if_neg (by omega),if_neg (by omega),if_neg (by omega),if_neg (by omega),if_neg (by omega)]
 have a1:∀j k:Nat,m+j=m+k↔j=k:=fun j k=>by omega
 have a2:∀k:Nat,m+(k+1)≠m:=fun k=>by omega
 have aA:(aJ β m cf s).a m=s.p.A∧(aJ β m cf s).a (m+1)=s.r.A∧(aJ β m cf s).a (m+2)=s.l.A∧(aJ β m cf s).a (m+3)=s.m.A∧(aJ β m cf s).a (m+4)=s.i.A:=by
  simp[aJ]
 have aN:(aJ β m cf s).n m=cf.ag.length∧(aJ β m cf s).n (m+1)=cf.ae.length∧(aJ β m cf s).n (m+2)=cf.rules.length∧(aJ β m cf s).n (m+3)=cf.af.length∧(aJ β m cf s).n (m+4)=cf.aa.length:=by
  simp[aJ]
 have aC:(aJ β m cf s).c m=s.p.c∧(aJ β m cf s).c (m+1)=s.r.c∧(aJ β m cf s).c (m+2)=s.l.c∧(aJ β m cf s).c (m+3)=s.m.c∧(aJ β m cf s).c (m+4)=s.i.c:=by
  simp[aJ]
 have b9:∀(k:Nat) (r:Sx.Row) (x:Nat),(dI cf)[k]?=some r→Sx.av (aJ β m cf s) (m+k) r=some x→(k=0∧s.p.A.map (·.block)=some x)∨(k=1∧s.r.A.map (·.block)=some x)∨(k=2∧s.l.A.map (·.block)=some x)∨(k=3∧s.m.A.map (·.block)=some x)∨(k=4∧s.i.A.map (·.block)=some x):=by
  intro k r x hr hx
  match k,hr with
  | 0,hr=>cases hr;have hx:((aJ β m cf s).a (m+0)).map (·.block)=some x:=hx;rw[Nat.add_zero,aA.1]at hx;exact .inl ⟨rfl,hx⟩
  | 1,hr=>cases hr;have hx:((aJ β m cf s).a (m+1)).map (·.block)=some x:=hx;rw[aA.2.1]at hx;exact .inr (.inl ⟨rfl,hx⟩)
  | 2,hr=>cases hr;have hx:((aJ β m cf s).a (m+2)).map (·.block)=some x:=hx;rw[aA.2.2.1]at hx;exact .inr (.inr (.inl ⟨rfl,hx⟩))
  | 3,hr=>cases hr;have hx:((aJ β m cf s).a (m+3)).map (·.block)=some x:=hx;rw[aA.2.2.2.1]at hx;exact .inr (.inr (.inr (.inl ⟨rfl,hx⟩)))
  | 4,hr=>cases hr;have hx:((aJ β m cf s).a (m+4)).map (·.block)=some x:=hx;rw[aA.2.2.2.2]at hx;exact .inr (.inr (.inr (.inr ⟨rfl,hx⟩)))
 refine⟨hold,hret,fun q hq=>(by cases hq),fun k r hr=>?_,fun k r x hr hx=>?_,fun k k' r r' x hr hr' hx hx'=>?_,hc⟩
 ·match k,hr with
  | 0,hr=>
   cases hr
   show(aJ β m cf s).n (m+0)=cf.ag.length∧Own w' 3 1 (.slice ((aJ β m cf s).a (m+0)) cf.ag.length ((aJ β m cf s).c (m+0))) cf.ag.length cf.cp
   rw[Nat.add_zero,aA.1,aN.1,aC.1];exact⟨rfl,h.p⟩
  | 1,hr=>
   cases hr
   show(aJ β m cf s).n (m+1)=cf.ae.length∧Own w' 118 19 (.slice ((aJ β m cf s).a (m+1)) cf.ae.length ((aJ β m cf s).c (m+1))) cf.ae.length cf.cr
   rw[aA.2.1,aN.2.1,aC.2.1];exact⟨rfl,h.r⟩
  | 2,hr=>
   cases hr
   show(aJ β m cf s).n (m+2)=cf.rules.length∧Own w' 81 49 (.slice ((aJ β m cf s).a (m+2)) cf.rules.length ((aJ β m cf s).c (m+2))) cf.rules.length cf.cl
   rw[aA.2.2.1,aN.2.2.1,aC.2.2.1];exact⟨rfl,h.l⟩
  | 3,hr=>
   cases hr
   show(aJ β m cf s).n (m+3)=cf.af.length∧Own w' 122 4 (.slice ((aJ β m cf s).a (m+3)) cf.af.length ((aJ β m cf s).c (m+3))) cf.af.length cf.cm
   rw[aA.2.2.2.1,aN.2.2.2.1,aC.2.2.2.1];exact⟨rfl,h.m⟩
  | 4,hr=>
   cases hr
   show(aJ β m cf s).n (m+4)=cf.aa.length∧Own w' 124 3 (.slice ((aJ β m cf s).a (m+4)) cf.aa.length ((aJ β m cf s).c (m+4))) cf.aa.length cf.ci
   rw[aA.2.2.2.2,aN.2.2.2.2,aC.2.2.2.2];exact⟨rfl,h.i⟩
 ·rcases b9 k r x hr hx with⟨_,h1⟩ | ⟨_,h1⟩ | ⟨_,h1⟩ | ⟨_,h1⟩ | ⟨_,h1⟩<;>exact .inr (hn _ (by simp) x h1)
 ·have b1:=b9 k r x hr hx
  have b2:=b9 k' r' x hr' hx'
  rcases b1 with⟨rfl,h1⟩ | ⟨rfl,h1⟩ | ⟨rfl,h1⟩ | ⟨rfl,h1⟩ | ⟨rfl,h1⟩<;>rcases b2 with⟨rfl,h2⟩ | ⟨rfl,h2⟩ | ⟨rfl,h2⟩ | ⟨rfl,h2⟩ | ⟨rfl,h2⟩
  ·rfl
  ·exact(bW h.p h.r (by decide) h1 h2).elim
  ·exact(bW h.p h.l (by decide) h1 h2).elim
  ·exact(bW h.p h.m (by decide) h1 h2).elim
  ·exact(bW h.p h.i (by decide) h1 h2).elim
  ·exact(bW h.r h.p (by decide) h1 h2).elim
  ·rfl
  ·exact(bW h.r h.l (by decide) h1 h2).elim
  ·exact(bW h.r h.m (by decide) h1 h2).elim
  ·exact(bW h.r h.i (by decide) h1 h2).elim
  ·exact(bW h.l h.p (by decide) h1 h2).elim
  ·exact(bW h.l h.r (by decide) h1 h2).elim
  ·rfl
  ·exact(bW h.l h.m (by decide) h1 h2).elim
  ·exact(bW h.l h.i (by decide) h1 h2).elim
  ·exact(bW h.m h.p (by decide) h1 h2).elim
  ·exact(bW h.m h.r (by decide) h1 h2).elim
  ·exact(bW h.m h.l (by decide) h1 h2).elim
  ·rfl
  ·exact(bW h.m h.i (by decide) h1 h2).elim
  ·exact(bW h.i h.p (by decide) h1 h2).elim
  ·exact(bW h.i h.r (by decide) h1 h2).elim
  ·exact(bW h.i h.l (by decide) h1 h2).elim
  ·exact(bW h.i h.m (by decide) h1 h2).elim
  ·rfl
structure Lv(mem:List Sx.Row)(k0 k1 k2 k3 k4:Nat)(cf:CF):Prop where
 p:mem[k0]?=some ⟨3,.own 1 cf.ag.length cf.cp⟩
 r:mem[k1]?=some ⟨118,.own 19 cf.ae.length cf.cr⟩
 l:mem[k2]?=some ⟨81,.own 49 cf.rules.length cf.cl⟩
 m:mem[k3]?=some ⟨122,.own 4 cf.af.length cf.cm⟩
 i:mem[k4]?=some ⟨124,.own 3 cf.aa.length cf.ci⟩
def iD(β:Sx.Env)(k0 k1 k2 k3 k4:Nat):ey:=⟨⟨β.a k0,β.c k0⟩,⟨β.a k1,β.c k1⟩,⟨β.a k2,β.c k2⟩,⟨β.a k3,β.c k3⟩,⟨β.a k4,β.c k4⟩⟩
theorem BI{β:Sx.Env}{b:Sx.aU}{w':World}{mem:List Sx.Row}{k0 k1 k2 k3 k4:Nat}{cf:CF}(hR:Sx.Rows b β w' mem)(h:Lv mem k0 k1 k2 k3 k4 cf)(hS:b.S=[]) :
  Ch w' cf (iD β k0 k1 k2 k3 k4)∧(iD β k0 k1 k2 k3 k4).new b.w.heap.size∧β.n k0=cf.ag.length∧β.n k1=cf.ae.length∧β.n k2=cf.rules.length∧β.n k3=cf.af.length∧β.n k4=cf.aa.length:=by
 have o0:β.n k0=cf.ag.length∧Own w' 3 1 (.slice (β.a k0) cf.ag.length (β.c k0)) cf.ag.length cf.cp:=hR.held k0 _ h.p
 have o1:β.n k1=cf.ae.length∧Own w' 118 19 (.slice (β.a k1) cf.ae.length (β.c k1)) cf.ae.length cf.cr:=hR.held k1 _ h.r
 have o2:β.n k2=cf.rules.length∧Own w' 81 49 (.slice (β.a k2) cf.rules.length (β.c k2)) cf.rules.length cf.cl:=hR.held k2 _ h.l
 have o3:β.n k3=cf.af.length∧Own w' 122 4 (.slice (β.a k3) cf.af.length (β.c k3)) cf.af.length cf.cm:=hR.held k3 _ h.m
 have o4:β.n k4=cf.aa.length∧Own w' 124 3 (.slice (β.a k4) cf.aa.length (β.c k4)) cf.aa.length cf.ci:=hR.held k4 _ h.i
 refine⟨⟨o0.2,o1.2,o2.2,o3.2,o4.2⟩,fun A hA k hk=>?_,o0.1,o1.1,o2.1,o3.1,o4.1⟩
 have key:∀(i:Nat) (r:Sx.Row),mem[i]?=some r→Sx.av β i r=some k→b.w.heap.size≤k:=fun i r hi hr=>by
  rcases hR.new i r k hi hr with hh|hh
  ·rw[hS]at hh;cases hh
  ·exact hh
 simp only[iD,List.mem_cons,List.not_mem_nil,or_false]at hA
 rcases hA with rfl|rfl|rfl|rfl|rfl
 ·exact key k0 _ h.p hk
 ·exact key k1 _ h.r hk
 ·exact key k2 _ h.l hk
 ·exact key k3 _ h.m hk
 ·exact key k4 _ h.i hk
theorem vO{b:Sx.aU}{β:Sx.Env}{W:World}{mem:List Sx.Row}{see:List Nat}{m:Nat}{cf:CF}(hS:Sx.eF b β W (Sx.rowAt mem) see)(h:Lv mem m (m+1) (m+2) (m+3) (m+4) cf)(hs:∀k∈[m,m+1,m+2,m+3,m+4],k∈see) :
  dj W [] cf (iD β m (m+1) (m+2) (m+3) (m+4))∧(Sx.SV.dD (BJ m cf)).den β=.agg (al cf (iD β m (m+1) (m+2) (m+3) (m+4))).toArray:=by
 have o0:β.n m=cf.ag.length∧Own W 3 1 (.slice (β.a m) cf.ag.length (β.c m)) cf.ag.length cf.cp:=hS.held m (hs _ (by simp)) _ h.p
 have o1:β.n (m+1)=cf.ae.length∧Own W 118 19 (.slice (β.a (m+1)) cf.ae.length (β.c (m+1))) cf.ae.length cf.cr:=hS.held (m+1) (hs _ (by simp)) _ h.r
 have o2:β.n (m+2)=cf.rules.length∧Own W 81 49 (.slice (β.a (m+2)) cf.rules.length (β.c (m+2))) cf.rules.length cf.cl:=hS.held (m+2) (hs _ (by simp)) _ h.l
 have o3:β.n (m+3)=cf.af.length∧Own W 122 4 (.slice (β.a (m+3)) cf.af.length (β.c (m+3))) cf.af.length cf.cm:=hS.held (m+3) (hs _ (by simp)) _ h.m
 have o4:β.n (m+4)=cf.aa.length∧Own W 124 3 (.slice (β.a (m+4)) cf.aa.length (β.c (m+4))) cf.aa.length cf.ci:=hS.held (m+4) (hs _ (by simp)) _ h.i
 refine⟨Ch.rd ⟨o0.2,o1.2,o2.2,o3.2,o4.2⟩ (fun _ _ _ _ h=>by cases h),?_⟩
 show Value.agg ([β.sl m,β.sl (m+1),β.sl (m+2),β.sl (m+3),β.sl (m+4),.int .i64 cf.aS]:List Value).toArray=_
 unfold Sx.Env.sl
 rw[o0.1,o1.1,o2.1,o3.1,o4.1]
 rfl
end Go.Proofs.YtnncigmpcdehnaaGreatDoor
