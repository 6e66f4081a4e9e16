import Derived.Test.YtnncigmpcdehnaaGreatDoorQa44
namespace Go.Proofs.YtnncigmpcdehnaaGreatDoor
set_option maxRecDepth 100000
open Go.RowKit Go.Lib Go.Sort
def nilCf:List Value:=[.slice none 0 0,.slice none 0 0,.slice none 0 0,.slice none 0 0,.slice none 0 0,.int .i64 0]
def rdFr(n i:Nat):List (Nat×Sx.SV):=[(2,.ptr 0 0),(4,.ptr 1 0),(5,.ptr 2 0),(17,.own 8),(18,.val (.int .i64 (n:Int))),(19,.val (.int .i64 (i:Int)))]
def rdRows(cf:CF)(d:Nat):List Sx.Row:=⟨46,.vals nilCf⟩::confRow none (cfSVs 3 4 5 6 7 cf)::gdRow none d::rowsC cf
def rdMem(ls:List Bs)(cf:CF)(d:Nat):List Sx.Row:=rdRows cf d++[⟨9,.own 1 ls.length (ls.map strV)⟩]
structure RdK where
 i:Nat
 cf:CF
 d:Nat
structure RdI(ls:List Bs)(T:RdR)(k:RdK):Prop where
 le:k.i≤ls.length
 few:k.cf.ports.length≤k.i∧k.cf.routes.length≤k.i∧k.cf.rules.length≤k.i∧k.cf.meters.length≤k.i∧k.cf.mirrors.length≤k.i
 dle:k.d≤k.i
 run:T=readL (ls.drop k.i) (k.i+1) k.cf k.d
noncomputable def rdNext(ls:List Bs)(k:RdK):RdK:=⟨k.i+1,(lineR (wordsW true (ls.getD k.i [])) k.cf k.d).val,dN (wordsW true (ls.getD k.i [])) k.d⟩
def RdE(T:RdR)(l:List Sx.SV)(mem:List Sx.Row):Prop:=match T with
 |.no code line=>∃j,l=[.val (.agg nilCf.toArray),.ifc 103 j 0]∧mem[j]?=some ⟨105,.vals [.int .i64 (code:Int),.int .i64 (line:Int)]⟩
 |.ok cf=>∃k0 k1 k2 k3 k4,l=[.rowv [.o k0,.o k1,.o k2,.o k3,.o k4,.v (.int .i64 cf.dflt)],.val .nilIface]∧mem[k0]?=some ⟨3,.own 1 cf.ports.length cf.cp⟩∧mem[k1]?=some ⟨118,.own 19 cf.routes.length cf.cr⟩∧mem[k2]?=some ⟨81,.own 49 cf.rules.length cf.cl⟩∧mem[k3]?=some ⟨122,.own 4 cf.meters.length cf.cm⟩∧mem[k4]?=some ⟨124,.own 3 cf.mirrors.length cf.ci⟩
theorem into_len{ws:List Bs}{i:Nat}{cf cf':CF}{d j:Nat}(h:intoR ws i cf d=.ok cf' j):cf'.ports.length≤cf.ports.length+1∧cf'.routes.length≤cf.routes.length+1∧cf'.rules.length≤cf.rules.length+1∧cf'.meters.length≤cf.meters.length+1∧cf'.mirrors.length≤cf.mirrors.length+1:=by
 obtain⟨x,k,_,h⟩:=Out.val_of h
 obtain⟨c,k2,hb,h⟩:=Out.val_of h
 have hc:cf'=c:=by
  unfold endR at h
  split at h
  ·cases h
  ·injection h with h _;exact h.symm
 subst hc
 unfold bodyR at hb
 split at hb
 ·obtain⟨_,_,_,hb⟩:=Out.val_of hb
  injection hb with hb _;subst hb;simp
 split at hb
 ·obtain⟨_,_,_,hb⟩:=Out.val_of hb
  obtain⟨_,_,_,hb⟩:=Out.val_of hb
  injection hb with hb _;subst hb;simp
 split at hb
 ·obtain⟨_,_,_,hb⟩:=Out.val_of hb
  obtain⟨_,_,_,hb⟩:=Out.val_of hb
  obtain⟨_,_,_,hb⟩:=Out.val_of hb
  obtain⟨_,_,_,hb⟩:=Out.val_of hb
  injection hb with hb _;subst hb;simp
 split at hb
 ·obtain⟨_,_,_,hb⟩:=Out.val_of hb
  obtain⟨_,_,_,hb⟩:=Out.val_of hb
  obtain⟨_,_,_,hb⟩:=Out.val_of hb
  injection hb with hb _;subst hb;simp
 split at hb
 ·obtain⟨_,_,_,hb⟩:=Out.val_of hb
  injection hb with hb _;subst hb;simp
 split at hb
 ·obtain⟨_,_,_,hb⟩:=Out.val_of hb
  obtain⟨_,_,_,hb⟩:=Out.val_of hb
  injection hb with hb _;subst hb;simp
 ·cases hb
theorem line_len{ws:List Bs}{cf cf':CF}{d j:Nat}(h:lineR ws cf d=.ok cf' j):cf'.ports.length≤cf.ports.length+1∧cf'.routes.length≤cf.routes.length+1∧cf'.rules.length≤cf.rules.length+1∧cf'.meters.length≤cf.meters.length+1∧cf'.mirrors.length≤cf.mirrors.length+1:=by
 unfold lineR at h
 split at h
 ·injection h with h _;subst h;simp
 ·exact into_len h
theorem dN_le(ws:List Bs)(d:Nat):dN ws d≤d+1:=by unfold dN;split<;>omega
theorem rd_round{w:World}(hlan:LanE w)(ls:List Bs)(hls:ls.length≤1000000)(hsz:∀x∈ls,x.length≤1000000)(T:RdR)(k:RdK)(hk:RdI ls T k) :
  ∃H' L',Sx.exB Tryz.prog Tryz.f22.ntmps ⟨w,[],fun _ _=>False⟩ (Sx.bodyOf Tryz.f22 0) H' L' ⟨rdFr ls.length k.i,rdMem ls k.cf k.d⟩
   (Sx.loopK (RdI ls T) (fun k=>rdFr ls.length k.i) (fun k=>rdMem ls k.cf k.d) (rdNext ls) (fun k=>ls.length+1 - k.i) (fun(x:RdK)=>RdI ls T x∧x.i=ls.length) (fun _=>[(2,.ptr 0 0),(4,.ptr 1 0),(5,.ptr 2 0)]) (fun k=>rdMem ls k.cf k.d) id (Sx.outId (Sx.bodyOf Tryz.f22 0) - 1) (Sx.atEndA Tryz.prog Tryz.f22 (RdE T) .ret) k):=by
 obtain⟨i,cf,d⟩:=k
 have hk0:=hk
 obtain⟨hle,hfew,hdle,hrun⟩:=hk
 have hle:i≤ls.length:=hle
 have few:cf.ports.length≤1000000∧cf.routes.length≤1000000∧cf.rules.length≤1000000∧cf.meters.length≤1000000∧cf.mirrors.length≤1000000:=⟨Nat.le_trans hfew.1 (by omega),Nat.le_trans hfew.2.1 (by omega),Nat.le_trans hfew.2.2.1 (by omega),Nat.le_trans hfew.2.2.2.1 (by omega),Nat.le_trans hfew.2.2.2.2 (by omega)⟩
 have hd:d≤1000000:=Nat.le_trans hdle (by omega)
 have hrun:T=readL (ls.drop i) (i+1) cf d:=hrun
 by_cases hlt:i < ls.length
 ·have c20:Value.bool (decide ((i:Int) < (ls.length:Int)))=.bool true:=bzt (decide_eq_true (by omega))
  obtain⟨x,hx⟩:∃x,ls[i]?=some x:=⟨_,List.getElem?_eq_getElem hlt⟩
  have hxl:=hsz x (List.mem_of_getElem? hx)
  have hdrop:ls.drop i=x::ls.drop (i+1):=by
   obtain⟨h1,rfl⟩:=List.getElem?_eq_some_iff.1 hx
   exact List.drop_eq_getElem_cons h1
  have hgd:ls.getD i []=x:=by rw[List.getD_eq_getElem?_getD,hx];rfl
  rw[hdrop]at hrun
  have c22:0≤(i:Int)∧(i:Int) < (ls.length:Int):=⟨by omega,by omega⟩
  have c23:(ls.map strV)[((i:Int)).toNat*1]?=some (strV x):=by
   rw[Int.toNat_natCast,Nat.mul_one,List.getElem?_map,hx];rfl
  have hrows:CfRows (Sx.rowAt (rdMem ls cf d++[⟨103,.vals [.pointer none]⟩])) none none 1 2 3 4 5 6 7 cf d:=⟨rfl,rfl,rfl,rfl,rfl,rfl,rfl⟩
  cases hT:lineR (wordsW true x) cf d with
  |ok cf' j=>
   have e:T=readL (ls.drop (i+1)) (i+1+1) cf' (dN (wordsW true x) d):=by
    rw[hrun]
    conv=>lhs;unfold readL
    rw[hT]
   have hnx:rdNext ls ⟨i,cf,d⟩=⟨i+1,cf',dN (wordsW true x) d⟩:=by
    unfold rdNext
    rw[hgd,hT];rfl
   have hll:=line_len hT
   have hdn:=dN_le (wordsW true x) d
   have c25:=one_ok (b:=⟨w,[],fun _ _=>False⟩) 10 rfl hlan (by simp) hxl few hd hrows hT
   have c27:=fun W (β:Sx.Env) (hS:Sx.See ⟨w,[],fun _ _=>False⟩ β W (Sx.rowAt (⟨46,.vals nilCf⟩::confRow none (cfSVs 10 11 12 13 14 cf')::gdRow none (dN (wordsW true x) d)::([Sx.deadRow,Sx.deadRow,Sx.deadRow,Sx.deadRow,Sx.deadRow]++[⟨9,.own 1 ls.length (ls.map strV)⟩,⟨103,.vals [.pointer none]⟩]++rowsC cf'))) [])=>as_none (m:=15) (k:=9) W β hS
   have c36:Value.int .i64 (IntKind.i64.wrap ((i:Int)+1))=.int .i64 ((i+1:Nat):Int):=iw (by rw[w64 (by omega) (by omega)];rfl)
   have h0:RdI ls T (rdNext ls ⟨i,cf,d⟩):=by
    rw[hnx]
    obtain⟨f0,f1,f2,f3,f4⟩:cf.ports.length≤i∧cf.routes.length≤i∧cf.rules.length≤i∧cf.meters.length≤i∧cf.mirrors.length≤i:=hfew
    obtain⟨g0,g1,g2,g3,g4⟩:=hll
    have hdi:d≤i:=hdle
    exact⟨hlt,⟨show cf'.ports.length≤i+1 by omega,show cf'.routes.length≤i+1 by omega,show cf'.rules.length≤i+1 by omega,show cf'.meters.length≤i+1 by omega,show cf'.mirrors.length≤i+1 by omega⟩,show dN (wordsW true x) d≤i+1 by omega,e⟩
   have h1:ls.length+1 - (rdNext ls ⟨i,cf,d⟩).i < ls.length+1 - i:=by rw[hnx]; show ls.length+1 - (i+1) < _; omega
   have h2:rdFr ls.length (i+1)=rdFr ls.length (rdNext ls ⟨i,cf,d⟩).i:=by rw[hnx]
   have z3:(⟨46,.vals nilCf⟩::confRow none (cfSVs 10 11 12 13 14 cf')::gdRow none (dN (wordsW true x) d)::(rowsC cf'++[⟨9,.own 1 ls.length (ls.map strV)⟩]):List Sx.Row)=⟨46,.vals nilCf⟩::confRow none (cfSVs 10 11 12 13 14 (rdNext ls ⟨i,cf,d⟩).cf)::gdRow none (rdNext ls ⟨i,cf,d⟩).d::(rowsC (rdNext ls ⟨i,cf,d⟩).cf++[⟨9,.own 1 ls.length (ls.map strV)⟩]):=by rw[hnx]
   refine⟨[(20,.is (.bool true)),(22,.ix),(23,.ld (strV x)),(25,.callG (cfG none none [] 1 2 3 4 5 6 7 10 cf' (dN (wordsW true x) d) .nilIface none)),(27,.callG ⟨[],[],[],[],.val (.bool false),none⟩),(36,.is (.int .i64 ((i+1:Nat):Int)))],[],?_⟩
   exact Eq.mp (by kernel_rfl) (Sx.t8 c20 c22 c23 c25 c27 c36 h0 h1 (And.intro h2 z3))
  |no code p=>
   have e:T=.no code (i+1):=by
    rw[hrun]
    conv=>lhs;unfold readL
    rw[hT]
   have c25:=one_bad (b:=⟨w,[],fun _ _=>False⟩) 10 rfl hlan (by simp) hxl few hd hrows hT
   have c27:=fun W (β:Sx.Env) (hS:Sx.See ⟨w,[],fun _ _=>False⟩ β W (Sx.rowAt (⟨46,.vals nilCf⟩::([Sx.deadRow,Sx.deadRow,Sx.deadRow,Sx.deadRow,Sx.deadRow,Sx.deadRow,Sx.deadRow]++[⟨9,.own 1 ls.length (ls.map strV)⟩,⟨103,.vals [.pointer none]⟩,⟨105,.vals [.int .i64 (code:Int),.int .i64 (p:Int)]⟩]))) [9])=>as_some (m:=11) (k:=9) (N:=10) hlan (by simp) rfl W β hS
   have c30:Value.int .i64 (IntKind.i64.wrap ((i:Int)+1))=.int .i64 ((i+1:Nat):Int):=iw (by rw[w64 (by omega) (by omega)];rfl)
   have z0:RdE T [.val (.agg nilCf.toArray),.ifc 103 10 0] (⟨46,.vals nilCf⟩::([Sx.deadRow,Sx.deadRow,Sx.deadRow,Sx.deadRow,Sx.deadRow,Sx.deadRow,Sx.deadRow]++[⟨9,.own 1 ls.length (ls.map strV)⟩,⟨103,.svs [.ptr 10 0]⟩,⟨105,.vals [.int .i64 (code:Int),.int .i64 ((i+1:Nat):Int)]⟩])):=by
    rw[e]
    exact⟨10,rfl,rfl⟩
   refine⟨[(20,.is (.bool true)),(22,.ix),(23,.ld (strV x)),(25,.callG (badG 10 code p)),(27,.callG ⟨[9],[(9,⟨103,.svs [.ptr 10 0]⟩)],[],[],.val (.bool true),none⟩),(30,.is (.int .i64 ((i+1:Nat):Int)))],[],?_⟩
   exact Eq.mp (by kernel_rfl) (Sx.t4 c20 c22 c23 c25 (Sx.t2 c27 c30 z0))
 ·have c20:Value.bool (decide ((i:Int) < (ls.length:Int)))=.bool false:=bzf (decide_eq_false (by omega))
  have h0:RdI ls T ⟨i,cf,d⟩∧i=ls.length:=⟨hk0,by omega⟩
  have h1:([(2,.ptr 0 0),(4,.ptr 1 0),(5,.ptr 2 0)]:List (Nat×Sx.SV))=[(2,.ptr 0 0),(4,.ptr 1 0),(5,.ptr 2 0)]:=rfl
  have z2:rdMem ls cf d=rdMem ls cf d:=rfl
  refine⟨[(20,.is (.bool false))],[],?_⟩
  exact Eq.mp (by kernel_rfl) (Sx.t2 c20 h0 (And.intro h1 z2))
set_option maxRecDepth 100000
open Go.RowKit Go.Lib Go.Sort
noncomputable def readW(s:Bs):RdR:=if 65536 < s.length then .no 4 0 else readL (linesW s) 1 cf0 0
theorem rows_none(w:World):Sx.Rows ⟨w,[],fun _ _=>False⟩ (Sx.envGiv []) w []:=Sx.rows_giv (w:=w) (S:=[]) (PP:=fun _ _=>False) (G:=[]) (fun q hq=>by cases hq) (fun q hq=>by cases hq) (by simp)
theorem read_long(w:World)(s:Bs)(hs:65536 < s.length):Calls Tryz.prog 22 #[strV s] w (Sx.anyPost ⟨w,[],fun _ _=>False⟩ (RdE (readW s))):=by
 have hT:readW s=.no 4 0:=by unfold readW;rw[if_pos hs]
 have c10:=len_i s
 have c11:Value.bool (decide ((s.length:Int) > 65536))=.bool true:=bzt (decide_eq_true (by omega))
 have z0:RdE (readW s) [.val (.agg nilCf.toArray),.ifc 103 1 0] [⟨46,.vals nilCf⟩,⟨105,.vals [.int .i64 4,.int .i64 0]⟩]:=by
  rw[hT]
  exact⟨1,rfl,rfl⟩
 refine Sx.calls_any (args:=[.val (strV s)]) (rows_none w) [(10,.is (.int .i64 (s.length:Int))),(11,.is (.bool true))] [] (by kernel_rfl) Tryz.func22 rfl (Nat.le_of_ble_eq_true rfl) rfl ?_
 exact Eq.mp (by kernel_rfl) (Sx.t2 c10 c11 z0)
theorem read_short(w:World)(hlan:LanE w)(s:Bs)(hs:s.length≤65536):Calls Tryz.prog 22 #[strV s] w (Sx.anyPost ⟨w,[],fun _ _=>False⟩ (RdE (readW s))):=by
 have hT:readW s=readL (linesW s) 1 cf0 0:=by unfold readW;rw[if_neg (by omega)]
 generalize readW s=T at hT
 have c10:=len_i s
 have c11:Value.bool (decide ((s.length:Int) > 65536))=.bool false:=bzf (decide_eq_false (by omega))
 have hcount:=splitC_count 10 s
 have c17:=fun W (hW:Chg [] w W)=>split_C W s (by omega) (hlan.chg hW (by simp)).lan
 have h0:RdI (linesW s) T ⟨0,cf0,0⟩:=⟨Nat.zero_le _,⟨Nat.le_refl _,Nat.le_refl _,Nat.le_refl _,Nat.le_refl _,Nat.le_refl _⟩,Nat.le_refl _,hT⟩
 have rd2:=rd_round hlan (linesW s) (by show(splitC 10 s).length≤_;omega) (fun x hx=>by have:=splitC_len 10 s x hx;omega) T
 have e1:([(2,.ptr 0 0),(4,.ptr 1 0),(5,.ptr 7 0),(17,.own 8),(18,.val (.int .i64 ((linesW s).length:Int))),(19,.val (.int .i64 ((0:Nat):Int)))]:List (Nat×Sx.SV))=[(2,.ptr 0 0),(4,.ptr 1 0),(5,.ptr 7 0),(17,.own 8),(18,.val (.int .i64 ((linesW s).length:Int))),(19,.val (.int .i64 ((0:Nat):Int)))]∧
   (⟨46,.vals nilCf⟩::confRow none (cfSVs 2 3 4 5 6 cf0)::gdRow none 0::(rowsC cf0++[⟨9,.own 1 (linesW s).length ((linesW s).map strV)⟩]):List Sx.Row)=⟨46,.vals nilCf⟩::confRow none (cfSVs 2 3 4 5 6 cf0)::gdRow none 0::(rowsC cf0++[⟨9,.own 1 (linesW s).length ((linesW s).map strV)⟩]):=⟨rfl,rfl⟩
 have fin:∀x:RdK,RdI (linesW s) T x→x.i=(linesW s).length→T=.ok (if x.d=0 then { x.cf with dflt:=2 }else x.cf):=fun x hx hi=>by
  rw[hx.run,hi,List.drop_length]
  rfl
 have z6f:=fun(x:RdK) (hx:RdI (linesW s) T x∧x.i=(linesW s).length) (hb:(((x.d:Nat):Int)==0)=true)=>(show RdE T [.rowv [.o 3,.o 4,.o 5,.o 6,.o 7,.v (.int .i64 2)],.val .nilIface] (⟨46,.svs [.own 3,.own 4,.own 5,.own 6,.own 7,.val (.int .i64 2)]⟩::⟨46,.svs [.own 3,.own 4,.own 5,.own 6,.own 7,.val (.int .i64 2)]⟩::gdRow none x.d::(rowsC x.cf++[⟨9,.own 1 (linesW s).length ((linesW s).map strV)⟩]))from by
  have hd:x.d=0:=by
   have:=beq_iff_eq.1 hb
   omega
  rw[fin x hx.1 hx.2,if_pos hd]
  exact⟨3,4,5,6,7,rfl,rfl,rfl,rfl,rfl,rfl⟩)
 have z7f:=fun(x:RdK) (hx:RdI (linesW s) T x∧x.i=(linesW s).length) (hb:(((x.d:Nat):Int)==0)=false)=>(show RdE T [.rowv [.o 3,.o 4,.o 5,.o 6,.o 7,.v (.int .i64 x.cf.dflt)],.val .nilIface] (⟨46,.svs [.own 3,.own 4,.own 5,.own 6,.own 7,.val (.int .i64 x.cf.dflt)]⟩::confRow none (cfSVs 3 4 5 6 7 x.cf)::gdRow none x.d::(rowsC x.cf++[⟨9,.own 1 (linesW s).length ((linesW s).map strV)⟩]))from by
  have hd:x.d≠0:=by
   intro h0
   rw[h0]at hb
   cases hb
  rw[fin x hx.1 hx.2,if_neg hd]
  exact⟨3,4,5,6,7,rfl,rfl,rfl,rfl,rfl,rfl⟩)
 refine Sx.calls_any (args:=[.val (strV s)]) (rows_none w) [(10,.is (.int .i64 (s.length:Int))),(11,.is (.bool false)),(4,.nilsAt [(0,3,1),(1,118,19),(2,81,49),(3,122,4),(4,124,3)]),(17,.callO (.sl 9 1 (linesW s).length ((linesW s).map strV)))]
  [.mk RdK ⟨0,cf0,0⟩ (RdI (linesW s) T) (fun k=>rdFr (linesW s).length k.i) (fun k=>rdMem (linesW s) k.cf k.d) (rdNext (linesW s)) (fun k=>(linesW s).length+1 - k.i) RdK (fun x=>RdI (linesW s) T x∧x.i=(linesW s).length) (fun _=>[(2,.ptr 0 0),(4,.ptr 1 0),(5,.ptr 2 0)]) (fun k=>rdMem (linesW s) k.cf k.d) id] (by kernel_rfl) Tryz.func22 rfl (Nat.le_of_ble_eq_true rfl) rfl ?_
 exact Eq.mp (by kernel_rfl) (Sx.t4 c10 c11 c17 h0 (Sx.t2 e1 rd2 (fun(x3:RdK) (hx4:RdI (linesW s) T x3∧x3.i=(linesW s).length)=>(Sx.bcase (b:=x3.d.cast==OfNat.ofNat (nat_lit 0)) (fun hb5=>(z6f x3 hx4 hb5)) (fun hb5=>(z7f x3 hx4 hb5))))))
theorem lread_N(w:World)(hlan:LanE w)(s:Bs):Calls Tryz.prog 22 #[strV s] w (Sx.anyPost ⟨w,[],fun _ _=>False⟩ (RdE (readW s))):=by
 by_cases hs:65536 < s.length
 ·exact read_long w s hs
 ·exact read_short w hlan s (by omega)
open Go.RowKit Go.Lib Go.Sort
theorem Mt.Wf.in{m:Mt}(h:m.Wf):MtIn m:=⟨h.inn.1,h.inn.2,h.sp.1,h.sp.2,h.dp.1,h.dp.2,h.pr,h.sn,h.dn⟩
theorem CfOk.in{cf:CF}(h:CfOk cf):CfIn cf:=⟨fun n hn=>(h.ports n hn).2,fun r hr=>⟨(h.routes r hr).1,(h.routes r hr).2.2.2⟩,fun m hm=>(h.meters m hm).2,fun m hm=>⟨(h.mirrors m hm).2.2.1,(h.mirrors m hm).2.2.2.2⟩,fun r hr=>(h.rules r hr).1⟩
end Go.Proofs.YtnncigmpcdehnaaGreatDoor
