import Derived.Test.YtnncigmpcdehnaaGreatDoorQc48
import Derived.OpenShut
import Derived.ChangeMaps5
import Derived.Deep.Slices
namespace Go.Proofs.YtnncigmpcdehnaaGreatDoor
set_option maxRecDepth 100000
open Go Go.RowKit Go.Lib Go.Sort
theorem dL.in{cf:CF}(h:dL cf):Lf cf:=
 ⟨fun n hn=>(h.p n hn).2,fun r hr=>⟨(h.r r hr).n,(h.r r hr).o.2⟩,fun m hm=>⟨(h.m m hm).a,(h.m m hm).b,(h.m m hm).c⟩,fun m hm=>⟨(h.i m hm).o.2,(h.i m hm).r.2⟩,fun r hr=>⟨(h.l r hr).m.in,(h.l r hr).o.2⟩⟩
theorem CM{α:Type}{f:α→List Value}{size:Nat}(hf:∀x,(f x).length=size):∀{l:List α} {i c:Nat} {x:α},l[i]?=some x→c < size→(l.flatMap f)[i*size+c]?=(f x)[c]?
 | [],i,c,x,h,_=>by simp at h
 |y::r,0,c,x,h,hc=>by
  have h:y=x:=by simpa using h
  subst h
  rw[List.flatMap_cons,List.getElem?_append_left (by rw[hf];omega)]
  simp
 |y::r,i+1,c,x,h,hc=>by
  have e:(i+1)*size+c - size=i*size+c:=by rw[Nat.add_mul]; omega
  rw[List.flatMap_cons,List.getElem?_append_right (by rw[hf,Nat.add_mul];omega),hf,e]
  exact CM hf (by simpa using h) hc
theorem Ax(r:Rl){j:Nat}{u:Value}(h:r.mt.cells[j]?=some u):r.cells[1+j]?=some u:=by
 have hj:j < r.mt.cells.length:=(List.getElem?_eq_some_iff.1 h).1
 unfold Rl.cells
 rw[Nat.add_comm,List.getElem?_cons_succ,List.getElem?_append_left hj]
 exact h
theorem Jt{w:World}{cf:CF}{s:eJ}(h:dC w [] cf s){i:Nat}{r:Rl}(hr:cf.rules[i]?=some r) :
  ∃p q,(∀W,ah [] w W→(Instr.indexAt 42 (.slice s.l.A cf.rules.length s.l.c) (.int .i64 (i:Int))).run Tryz.prog W=.ok p W)∧(∀W,ah [] w W→(Instr.fieldAt 81 p 1).run Tryz.prog W=.ok q W)∧∀W,ah [] w W→(Instr.loadAt 66 q).run Tryz.prog W=.ok (gv r.mt) W:=by
 obtain⟨hl,A,c,hs,h3⟩:=h.l
 have hin:i < cf.rules.length:=(List.getElem?_eq_some_iff.1 hr).1
 obtain⟨g,o,rfl,hg,hlt,hr2⟩:=h3 (by omega)
 rw[hs]
 obtain⟨inf,hi1,hi2⟩:=fH (P:=Tryz.prog) (t:=81) (n:=49) (by kernel_rfl)
 refine⟨.pointer (some ⟨g,o+i*inf.size,none⟩),.pointer (some ⟨g,o+i*inf.size+1,none⟩),fun W _=>kO Tryz.underlying42 hi1 g o _ c i hin W,fun W _=>?_,fun W hW=>?_⟩
 ·exact Dt (P:=Tryz.prog) (s:=81) (f:=1) (k:=43) (fd:=⟨ "Match",66,1,false, "", "",16⟩) Tryz.underlying81 (by kernel_rfl) (by kernel_rfl) W
 ·refine run_loadAt_mid (P:=Tryz.prog) W g (o+i*inf.size+1) 66 r.mt.cells _ (fun j u hu=>?_) Tryz.underlying66 rfl (by kernel_rfl)
  have hj:j < 44:=by rw[←Mt.aF r.mt];exact(List.getElem?_eq_some_iff.1 hu).1
  have:=hr2 (i*49+(1+j)) u (by rw[CM Rl.aF hr (by omega)];exact Ax r hu)
  rw[hi2,show o+i*49+1+j=o+(i*49+(1+j))by omega]
  exact(hW.cell (p:=⟨g,o+(i*49+(1+j)),none⟩) hlt hg).trans this
def fD(cf:CF)(s:eJ):List Sx.Row:=[⟨46,.aj (an cf s)⟩]
theorem FQ(l:Bs)(m:Mt)(i:Nat)(h:gb l=.ok m i)(hl:l.length≤1000000)(w:World)(hlan:dy w):Calls Tryz.prog 40 #[ab l] w fun e w'=>e=.returned (.tuple #[gv m,.nilIface])∧ah [] w w':=by
 refine(xG l hl hlan).mono fun e w' hp=>?_
 rcases hp with⟨m',i',h',he,hc⟩ | ⟨c,p,N,h',_⟩
 ·rw[h]at h'
  injection h' with h1 _
  rw[h1]
  exact⟨he,hc⟩
 ·rw[h]at h';cases h'
theorem zp{w:World}(hlan:dy w)(cf:CF)(s:eJ)(hr:dC w [] cf s)(hw:dL cf)(hf:ef cf)(i:Nat)(hi:i≤cf.rules.length) :
  ∃H' L',Sx.iz Tryz.prog Tryz.f12.ntmps ⟨w,[],fun _ _=>False⟩ (Sx.cA Tryz.f12 0) H' L' ⟨[(1,.ptr 0 0),(3,.val (.int .i64 ((i:Nat):Int)))],fD cf s⟩
   (Sx.gg (fun i=>i≤cf.rules.length) (fun i=>[(1,.ptr 0 0),(3,.val (.int .i64 ((i:Nat):Int)))]) (fun _=>fD cf s) (fun i=>i+1) (fun i=>cf.rules.length - i) (fun(_:Unit)=>True) (fun _=>[(1,.ptr 0 0)]) (fun _=>fD cf s) (fun _=>()) (Sx.fq (Sx.cA Tryz.f12 0) - 1) (Sx.bN Tryz.prog Tryz.f12 (pw true) .ret) i):=by
 have qF:=hf.l
 by_cases hlt:i < cf.rules.length
 ·have c18:Value.bool (decide ((i:Int) < (cf.rules.length:Int)))=.bool true:=gF (decide_eq_true (by omega))
  have hx:=getD_at hlt
  have wx:=(hw.l _ (cZ hlt)).m
  obtain⟨r,hre⟩:∃r,r=cf.rules.getD i default:=⟨_,rfl⟩
  rw[←hre]at hx wx
  clear hre
  obtain⟨p,q,hp,hq,hm⟩:=Jt hr hx
  have c25:=hp
  have c26:=hq
  have c27:=hm
  have hL:∀W,ah [] w W→dy W:=fun W hW=>hlan.cP hW
  have c20:Value.int .i64 (IntKind.i64.wrap ((i:Int)+1))=.int .i64 ((i+1:Nat):Int):=iw (by rw[jR (by omega) (by omega)];rfl)
  have h0:i+1≤cf.rules.length:=hlt
  have h1:cf.rules.length - (i+1) < cf.rules.length - i:=by omega
  have h2:([(1,.ptr 0 0),(3,.val (.int .i64 ((i+1:Nat):Int)))]:List (Nat×Sx.SV))=[(1,.ptr 0 0),(3,.val (.int .i64 ((i+1:Nat):Int)))]:=rfl
  have z3:fD cf s=fD cf s:=rfl
  cases ck:bj r.mt with
  |false=>
   have c28:=fun W (hW:ah [] w W)=>(show Calls Tryz.prog 31 #[gv r.mt] W fun e w'=>e=.returned (.tuple #[ab (xI r.mt),.int .i64 190])∧ah [] W w' from by
    have:=kS r.mt wx W (hL W hW)
    rw[ck]at this
    exact this)
   refine⟨[(18,.is (.bool true)),(25,.any p),(26,.any q),(27,.any (gv r.mt)),(28,.call (.tuple #[ab (xI r.mt),.int .i64 190])),(20,.is (.int .i64 ((i+1:Nat):Int)))],[],?_⟩
   exact Eq.mp (by kernel_rfl) (Sx.t8 c18 c25 c26 c27 c28 c20 h0 h1 (And.intro h2 z3))
  |true=>
   have c28:=fun W (hW:ah [] w W)=>(show Calls Tryz.prog 31 #[gv r.mt] W fun e w'=>e=.returned (.tuple #[ab (eK r.mt),.int .i64 0])∧ah [] W w' from by
    have:=kS r.mt wx W (hL W hW)
    unfold xI at this
    rw[ck]at this
    exact this)
   obtain⟨j,hj⟩:=AD (Ai hlan) wx.in ck
   have hlen:(eK r.mt).length≤1000000:=by
    have:=Cf wx
    unfold xI at this
    rw[ck]at this
    have h2:(eK r.mt).length≤1212:=this
    omega
   have c35:=fun W (hW:ah [] w W)=>FQ (eK r.mt) r.mt j hj hlen W (hL W hW)
   have c45:=hp
   have c46:=hq
   have c47:=hm
   have c48:=fun W=>((Oo (.tmp 41) (.tmp 47) wx wx W).2).trans (by rw[(bn r.mt r.mt).2 rfl];rfl:_=Result.ok (.bool false) W)
   refine⟨[(18,.is (.bool true)),(25,.any p),(26,.any q),(27,.any (gv r.mt)),(28,.call (.tuple #[ab (eK r.mt),.int .i64 0])),(35,.call (.tuple #[gv r.mt,.nilIface])),(45,.any p),(46,.any q),(47,.any (gv r.mt)),(48,.bin (.bool false)),(20,.is (.int .i64 ((i+1:Nat):Int)))],[],?_⟩
   exact Eq.mp (by kernel_rfl) (Sx.t8 c18 c25 c26 c27 c28 c35 c45 c46 (Sx.t4 c47 c48 c20 h0 (Sx.t2 h1 h2 z3)))
 ·have c18:Value.bool (decide ((i:Int) < (cf.rules.length:Int)))=.bool false:=iB (decide_eq_false (by omega))
  have h0:True:=trivial
  have h1:([(1,.ptr 0 0)]:List (Nat×Sx.SV))=[(1,.ptr 0 0)]:=rfl
  have z2:fD cf s=fD cf s:=rfl
  refine⟨[(18,.is (.bool false))],[],?_⟩
  exact Eq.mp (by kernel_rfl) (Sx.t2 c18 h0 (And.intro h1 z2))
def Ig(cf:CF)(s:eJ):Sx.Loop:=.mk Nat 0 (fun i=>i≤cf.rules.length) (fun i=>[(1,.ptr 0 0),(3,.val (.int .i64 ((i:Nat):Int)))]) (fun _=>fD cf s) (fun i=>i+1) (fun i=>cf.rules.length - i) Unit (fun _=>True) (fun _=>[(1,.ptr 0 0)]) (fun _=>fD cf s) (fun _=>())
theorem K5(w:World)(hlan:jo w)(cf:CF)(s:eJ)(hr:dC w [] cf s)(hw:dL cf)(hf:ef cf)(hB:(cJ cf).length≤140737488355328)(E:Int)(hE:dt cf=([],E))(hE0:E≠0):Calls Tryz.prog 12 #[.agg (an cf s).toArray] w (Sx.bJ (Cp w) (pw true)):=by
 have no9:∀k∈([]:List Nat),9≤k:=fun k hk=>by cases hk
 have hL:∀W,ah [] w W→jo W:=fun W hW=>hlan.az hW no9
 have c12:=fun W (hW:ah [] w W)=>Db W (hL W hW)
 have h0:=Nat.zero_le cf.rules.length
 have e1:([(1,.ptr 0 0),(3,.val (.int .i64 ((0:Nat):Int)))]:List (Nat×Sx.SV))=[(1,.ptr 0 0),(3,.val (.int .i64 ((0:Nat):Int)))]∧fD cf s=fD cf s:=⟨rfl,rfl⟩
 have nq:=zp hlan.pX cf s hr hw hf
 have c52:=fun W β (hS:Sx.dz (Cp w) β W (Sx.rowAt (fD cf s)) [])=>(show Calls Tryz.prog 27 (([.val (.agg (an cf s).toArray)]:List Sx.SV).map (Sx.SV.den β)).toArray W (Sx.aQ (Cp w) β W (Sx.rowAt (fD cf s)) 1 (OJ [] 1 cf))from yZ hf W β hS (hr.az hS.az))
 have c53:=fun W β (hS:Sx.dz (Cp w) β W (Sx.rowAt (fD cf s++rJ cf)) (ec 1))=>(show Calls Tryz.prog 28 (([.db (CT 1 2 3 4 5 cf)]:List Sx.SV).map (Sx.SV.den β)).toArray W (Sx.aQ (Cp w) β W (Sx.rowAt (fD cf s++rJ cf)) 6 ⟨ec 1,[],[],[],.val (.tuple #[ab [],.int .i64 E]),none⟩)from by
  have:=qm (m:=6) hlan.pX no9 (i:=1) (cf:=cf) (mem:=fD cf s++rJ cf) ⟨rfl,rfl,rfl,rfl,rfl⟩ hw hf hB W β hS
  rw[hE]at this
  exact this)
 have c57:Value.bool (E !=0)=.bool true:=gF (by rw[bne_iff_ne];exact hE0)
 have z5:([.val (.bool true)]:List Sx.SV)=[.val (.bool true)]:=rfl
 refine Sx.aW (args:=[.val (.agg (an cf s).toArray)]) (dE w) [(12,.call (.bool true)),(52,.ai (OJ [] 1 cf)),(53,.ai ⟨ec 1,[],[],[],.val (.tuple #[ab [],.int .i64 E]),none⟩),(57,.is (.bool true))] [Ig cf s] (by kernel_rfl) Tryz.func12 rfl (Nat.le_of_ble_eq_true rfl) rfl ?_
 exact Eq.mp (by kernel_rfl) (Sx.t4 c12 h0 e1 nq (fun(x3:Unit) (hx4:True)=>(Sx.t2 c52 c53 (And.intro c57 z5))))
theorem K4(w:World)(hlan:jo w)(cf:CF)(s:eJ)(hr:dC w [] cf s)(hw:dL cf)(hf:ef cf)(hB:(cJ cf).length≤140737488355328)(t:Bs)(hE:dt cf=(t,0))(hb:gD t=.ok cf):Calls Tryz.prog 12 #[.agg (an cf s).toArray] w (Sx.bJ (Cp w) (pw true)):=by
 have no9:∀k∈([]:List Nat),9≤k:=fun k hk=>by cases hk
 have hL:∀W,ah [] w W→jo W:=fun W hW=>hlan.az hW no9
 have c12:=fun W (hW:ah [] w W)=>Db W (hL W hW)
 have h0:=Nat.zero_le cf.rules.length
 have e1:([(1,.ptr 0 0),(3,.val (.int .i64 ((0:Nat):Int)))]:List (Nat×Sx.SV))=[(1,.ptr 0 0),(3,.val (.int .i64 ((0:Nat):Int)))]∧fD cf s=fD cf s:=⟨rfl,rfl⟩
 have nq:=zp hlan.pX cf s hr hw hf
 have c52:=fun W β (hS:Sx.dz (Cp w) β W (Sx.rowAt (fD cf s)) [])=>(show Calls Tryz.prog 27 (([.val (.agg (an cf s).toArray)]:List Sx.SV).map (Sx.SV.den β)).toArray W (Sx.aQ (Cp w) β W (Sx.rowAt (fD cf s)) 1 (OJ [] 1 cf))from yZ hf W β hS (hr.az hS.az))
 obtain⟨R6,hR6⟩:∃R6:List Sx.Row,R6=fD cf s++rJ cf:=⟨_,rfl⟩
 have c53:=fun W β (hS:Sx.dz (Cp w) β W (Sx.rowAt R6) (ec 1))=>(show Calls Tryz.prog 28 (([.db (CT 1 2 3 4 5 cf)]:List Sx.SV).map (Sx.SV.den β)).toArray W (Sx.aQ (Cp w) β W (Sx.rowAt R6) 6 ⟨ec 1,[],[],[],.val (.tuple #[ab t,.int .i64 0]),none⟩)from by
  have:=qm (m:=6) hlan.pX no9 (i:=1) (cf:=cf) (mem:=R6) (by rw[hR6];exact⟨rfl,rfl,rfl,rfl,rfl⟩) hw hf hB W β hS
  rw[hE]at this
  exact this)
 have c62:=fun W β (hS:Sx.dz (Cp w) β W (Sx.rowAt R6) [])=>yd (m:=6) hlan no9 hb W β hS
 obtain⟨R12,hR12⟩:∃R12:List Sx.Row,R12=R6++(aX cf++[⟨46,.dm [.own 6,.own 7,.own 8,.own 9,.own 10,.val (.int .i64 cf.a8)]⟩]):=⟨_,rfl⟩
 have c70:=fun W β (hS:Sx.dz (Cp w) β W (Sx.rowAt R12) (ec 6))=>(show Calls Tryz.prog 25 (([.val (.agg (an cf s).toArray),.db (vf 6 cf)]:List Sx.SV).map (Sx.SV.den β)).toArray W (Sx.aQ (Cp w) β W (Sx.rowAt R12) 12 ⟨ec 6,[],[],[],.val (.bool true),none⟩)from by
  obtain⟨hr2,hd2⟩:=o8 hS (m:=6) (cf:=cf) (by rw[hR12,hR6];exact⟨rfl,rfl,rfl,rfl,rfl⟩) (fun k hk=>hk)
  show Calls Tryz.prog 25 #[.agg (an cf s).toArray,(Sx.SV.db (vf 6 cf)).den β] W _
  rw[hd2]
  have hh:=Fv cf cf s _ (hr.az hS.az) hr2 hw hw hf
  rw[(bn cf cf).2 rfl]at hh
  exact hh.mono fun en w' ⟨he,hc⟩=>.inl ⟨fun p hp=>(by cases hp),β,Sx.cN (v:=.bool true) rfl rfl he (fun q hq=>by cases hq) hc⟩)
 have z5:([.val (.bool true)]:List Sx.SV)=[.val (.bool true)]:=rfl
 subst hR12
 subst hR6
 refine Sx.aW (args:=[.val (.agg (an cf s).toArray)]) (dE w) [(12,.call (.bool true)),(52,.ai (OJ [] 1 cf)),(53,.ai ⟨ec 1,[],[],[],.val (.tuple #[ab t,.int .i64 0]),none⟩),(62,.ai (ve 6 cf (.lB [.row (vf 6 cf),.a (.v .nilIface)]))),(70,.ai ⟨ec 6,[],[],[],.val (.bool true),none⟩)] [Ig cf s] (by kernel_rfl) Tryz.func12 rfl (Nat.le_of_ble_eq_true rfl) rfl ?_
 exact Eq.mp (by kernel_rfl) (Sx.t4 c12 h0 e1 nq (fun(x3:Unit) (hx4:True)=>(Sx.t4 c52 c53 c62 c70 z5)))
theorem Ka(w:World)(hlan:jo w)(cf:CF)(s:eJ)(hr:dC w [] cf s)(hw:dL cf)(hf:ef cf)(hB:(cJ cf).length≤140737488355328):Calls Tryz.prog 12 #[.agg (an cf s).toArray] w fun e w'=>e=.returned (.bool true)∧ah [] w w':=by
 have main:Calls Tryz.prog 12 #[.agg (an cf s).toArray] w (Sx.bJ (Cp w) (pw true)):=by
  by_cases hE:ly cf=0
  ·have hp:dt cf=(cJ cf,0):=by unfold dt;rw[if_pos hE]
   have h2:pb cf=0∧(cJ cf).length≤65536:=by
    unfold ly at hE
    by_cases hl:(cJ cf).length≤65536
    ·rw[decide_eq_true hl]at hE;exact⟨hE,hl⟩
    ·rw[decide_eq_false hl]at hE
     unfold aE at hE
     by_cases h0:pb cf=0
     ·rw[h0]at hE;exact absurd hE (by decide)
     ·simp[h0]at hE
   have ok:=(tB hw.in).1 h2.1
   rcases Aj (Ai hlan.pX) ok with⟨_,hn⟩ | ⟨h3,h4⟩
   ·exact absurd hE hn
   ·exact K4 w hlan cf s hr hw hf hB _ h3 h4
  ·exact K5 w hlan cf s hr hw hf hB (ly cf) (by unfold dt;rw[if_neg hE]) hE
 refine main.mono fun en w' hp=>?_
 rcases hp with⟨β,l,mem,hl,he,hR⟩ | ⟨_,_,hf,_⟩
 ·have hl:l=[.val (.bool true)]:=hl
  subst hl
  exact⟨he,hR.az⟩
 ·exact hf.elim
theorem za{cf:CF}{N:Nat}(hw:dL cf)(hM:NA cf N)(hN:M3 cf≤N)(hb:N≤1048576):ef cf∧(cJ cf).length≤140737488355328:=by
 have hl:=Be hw (M:=1048576) ⟨fun x hx=>Nat.le_trans (hM.m x hx) hb,fun x hx=>Nat.le_trans (hM.i x hx) hb,fun x hx=>⟨Nat.le_trans (hM.r x hx).1 hb,Nat.le_trans (hM.r x hx).2.1 hb,Nat.le_trans (hM.r x hx).2.2 hb⟩⟩ (Nat.le_trans hN hb)
 refine⟨?_,by omega⟩
 unfold M3 at hN
 exact⟨by omega,by omega,by omega,by omega,by omega⟩
theorem J9(cf:CF)(s:eJ){N:Nat}(w:World)(hlan:jo w)(hr:dC w [] cf s)(hw:dL cf)(hM:NA cf N)(hN:M3 cf≤N)(hb:N≤1048576):Calls Tryz.prog 12 #[.agg (an cf s).toArray] w fun e w'=>e=.returned (.bool true)∧ah [] w w':=
 Ka w hlan cf s hr hw (za hw hM hN hb).1 (za hw hM hN hb).2
open Go.RowKit Go.Lib Go.ChangeShapes Go.WideShapes Go.Deep
theorem Ch{α:Type}{f:α→List Value}{S:Nat}(hS:∀x,(f x).length=S):∀{L:List α} {i c:Nat} {x:α},L[i]?=some x→c < S→(L.flatMap f)[i*S+c]?=(f x)[c]?
 | [],i,c,x,h,_=>by simp at h
 |y::r,0,c,x,h,hc=>by
  have h:y=x:=by simpa using h
  subst h
  rw[List.flatMap_cons,List.getElem?_append_left (by rw[hS];omega)]
  simp
 |y::r,i+1,c,x,h,hc=>by
  have e:(i+1)*S+c - S=i*S+c:=by rw[Nat.add_mul]; omega
  rw[List.flatMap_cons,List.getElem?_append_right (by rw[hS,Nat.add_mul];omega),hS,e]
  exact Ch hS (by simpa using h) hc
theorem r9{α:Type}{f:α→List Value}{S:Nat}(hS:∀x,(f x).length=S):∀L:List α,(L.flatMap f).length=L.length*S
 | []=>by simp
 |y::r=>by rw[List.flatMap_cons,List.length_append,hS,r9 hS r,List.length_cons,Nat.add_mul];omega
end Go.Proofs.YtnncigmpcdehnaaGreatDoor
