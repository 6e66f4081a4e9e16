import Derived.Test.YtnncigmpcdehnaaGreatDoorQc47
namespace Go.Proofs.YtnncigmpcdehnaaGreatDoor
set_option maxRecDepth 100000
open Go.RowKit Go.Lib Go.Sort
def lj(l:Bs)(w:World)(e:Ending)(w':World):Prop:=
 (∃m i,gb l=.ok m i∧e=.returned (.tuple #[gv m,.nilIface])∧ah [] w w')∨
 (∃code p N:Nat,gb l=.no code p∧e=.returned (.tuple #[gv fL,.iface 103 (.pointer (some ⟨N,0,none⟩))])∧w.heap.size≤N∧aq w' N 105 [.int .i64 (code:Int),.int .i64 (p:Int)]∧ah [] w w')
theorem L7:(Tryz.prog.info? 66).map (·.size)=some 44:=by kernel_rfl
def pN(N:Nat):List PanicEntry:=[{ v:=.iface 103 (.pointer (some ⟨N,0,none⟩)),recovered:=false }]
theorem Fi{P:Program}{n:Nat}{b:Sx.a7}{β:Sx.Env}{fr:List (Nat×Sx.SV)}{mem:List Sx.Row}{c:Code}{K:Exit→Sx.St→Prop}{a:Act}{ds:List Deferred}{w:World}{Q:Exit→Act→World→Prop}(H:List (Nat×Sx.Hint))(L:List Sx.Loop)(hm:P.follows .mixedOrders=true)
  (hF:Sx.Rows b β w mem) (hd:a.defers=ds) (hsz:a.tmps.size=n) (hg:∀p∈fr,a.tmps[p.1]?=some (p.2.den β)) (hw:(Sx.eb (fun r=>Sx.iK mem.length r.cs) mem&&Sx.eb (fun p=>Sx.tV mem.length p.2) fr)=true)
  (hQ:∀e a w,Sx.lift ds b n K e a w→Q e a w) (hx:Sx.iz P n b c H L ⟨fr,mem⟩ K):c.wp P Q a w:=by
 cases a
 subst hd
 exact Code.wp_mono hQ (Sx.fT hm c H L _ K β _ w (CE hF hsz hg hw) hx)
def zc(p2 p3:Nat)(cs:List Value)(v:Value):List Sx.Row:=[⟨66,.cx p2 cs⟩,⟨48,.cx p3 [v]⟩]
def Qj(p2 p3 N:Nat)(e:Exit)(st:Sx.St):Prop:=match e with
 |.normal=>st.mem=zc p2 p3 fL.cells (.iface 103 (.pointer (some ⟨N,0,none⟩)))
 |_=>False
theorem KS{p2 p3:Nat}{w W:World}{cs:List Value}{v:Value}(hb:aq W p2 66 cs)(hb3:aq W p3 48 [v])(hne:p3≠p2)(hc:ah [p2,p3] w W):Sx.Rows ⟨w,[p2,p3],fun _ _=>False⟩ ⟨fun i=>if i=0 then p2 else p3,fun _=>none,fun _=>0,fun _=>0⟩ W (zc p2 p3 cs v):=by
 refine⟨fun i r hi=>?_,fun i r k hi hk=>?_,fun i j r r' k hi hj hk hk'=>?_,hc⟩
 ·match i,hi with
  | 0,hi=>cases hi;exact⟨rfl,hb⟩
  | 1,hi=>cases hi;exact⟨rfl,hb3⟩
 ·match i,hi with
  | 0,hi=>cases hi;cases hk;exact .inl (by simp)
  | 1,hi=>cases hi;cases hk;exact .inl (by simp)
 ·match i,j,hi,hj with
  | 0,0,_,_=>rfl
  | 1,1,_,_=>rfl
  | 0,1,hi,hj=>cases hi;cases hj;cases hk;cases hk';exact absurd rfl hne
  | 1,0,hi,hj=>cases hi;cases hj;cases hk;cases hk';exact absurd rfl hne
theorem zg(p2 p3 N:Nat)(m:Mt)(w:World)(hb:aq w p2 66 m.cells)(hb3:aq w p3 48 [.nilIface])(hne:p3≠p2) :
  CallsD Tryz.prog 91 #[.pointer (some ⟨p2,0,none⟩),.pointer (some ⟨p3,0,none⟩)] (.panicking (pN N)) w fun e u' w'=>
   e=.returned (.tuple #[])∧u'=.panicking [{ v:=.iface 103 (.pointer (some ⟨N,0,none⟩)),recovered:=true }]∧aq w' p2 66 fL.cells∧aq w' p3 48 [.iface 103 (.pointer (some ⟨N,0,none⟩))]∧ah [p2,p3] w w':=by
 refine callsD_of_wpS Tryz.func91 rfl fun c₀ cs hu=>?_
 apply wpS_seq
 apply wpS_region
 simp[wpOpsS,go_sem,recoverD,hu,Tryz.ntmps91,Exit.thenS,pN]
 apply wpS_seq
 apply wpS_region
 simp[wpOpsS,go_sem,Exit.thenS]
 refine wpS_cond (t:=true) (by simp[Act.eval,Array.replicate]) ?_
 simp only[if_true]
 refine wpS_of_wp ?_
 have c8:=fun W (_:ah [p2,p3] w W)=>(show Calls Tryz.prog 92 #[.iface 103 (.pointer (some ⟨N,0,none⟩))] W fun e w'=>e=.returned (.iface 103 (.pointer (some ⟨N,0,none⟩)))∧ah [] W w' from(u4 N W).mono fun e w' ⟨he,hw⟩=>⟨he,by rw[hw];exact ah.refl _ _⟩)
 refine Fi (n:=Tryz.f91.ntmps) (fr:=[(0,.ptr 0 0),(1,.ptr 1 0),(2,.val (.iface 103 (.pointer (some ⟨N,0,none⟩))))]) (K:=Qj p2 p3 N) (ds:=[]) [(8,.call (.iface 103 (.pointer (some ⟨N,0,none⟩))))] [] (by kernel_rfl) (KS hb hb3 hne (ah.refl _ _)) rfl (by simp[Tryz.ntmps91,Array.replicate]) (fun p hp=>?_) rfl (fun e a W h=>?_) ?_
 ·simp at hp
  rcases hp with rfl|rfl|rfl<;>simp[Array.replicate,Sx.SV.den]
 ·cases e with
  |normal=>
   obtain⟨β',st,hk,h'⟩:=h
   have hk:st.mem=zc p2 p3 fL.cells (.iface 103 (.pointer (some ⟨N,0,none⟩))):=hk
   have h0:β' 0=p2∧aq W (β' 0) 66 fL.cells:=h'.bM 0 ⟨66,.cx p2 fL.cells⟩ (by rw[hk];rfl)
   have h1:β' 1=p3∧aq W (β' 1) 48 [.iface 103 (.pointer (some ⟨N,0,none⟩))]:=h'.bM 1 ⟨48,.cx p3 [.iface 103 (.pointer (some ⟨N,0,none⟩))]⟩ (by rw[hk];rfl)
   have hd:=h'.dn
   have hb0:aq W p2 66 fL.cells:=h0.1 ▸ h0.2
   have hb1:aq W p3 48 [.iface 103 (.pointer (some ⟨N,0,none⟩))]:=h1.1 ▸ h1.2
   have hc:=h'.az
   clear h0 h1 h' c8 hb hb3
   cases c₀
   simp_all[bodyPostS,results,Tryz.results91]
  |_=>first|exact h.elim|exact(show False from(by obtain⟨_,_,hk,_⟩:=h;exact hk)).elim|exact(show False from h.2.1).elim
 ·have z0:zc p2 p3 fL.cells (.iface 103 (.pointer (some ⟨N,0,none⟩)))=zc p2 p3 fL.cells (.iface 103 (.pointer (some ⟨N,0,none⟩))):=rfl
  exact Eq.mp (by kernel_rfl) (And.intro c8 z0)
theorem Bg(p2 p3:Nat)(w:World) :
  CallsD Tryz.prog 91 #[.pointer (some ⟨p2,0,none⟩),.pointer (some ⟨p3,0,none⟩)] .returning w fun e u' w'=>e=.returned (.tuple #[])∧u'=.returning∧w'=w:=by
 refine callsD_of_wpS Tryz.func91 rfl fun c₀ cs hu=>?_
 apply wpS_seq
 apply wpS_region
 simp[wpOpsS,go_sem,recoverD,hu,Tryz.ntmps91,Exit.thenS]
 apply wpS_seq
 apply wpS_region
 simp[wpOpsS,go_sem,Exit.thenS]
 refine wpS_cond (t:=false) (by simp[Act.eval,Array.replicate]) ?_
 simp only[Bool.false_eq_true,if_false]
 refine wpS_of_wp (wp_skip ?_)
 cases c₀
 simp_all[bodyPostS,results,Tryz.results91]
theorem NQ(tmps:Array Value)(w:World)(p2 p3:Nat)(m:Mt)(v:Value)(hp:tmps[2]?=some (.pointer (some ⟨p2,0,none⟩)))(hq:tmps[3]?=some (.pointer (some ⟨p3,0,none⟩)))(hb:aq w p2 66 m.cells)(hb3:aq w p3 48 [v]) :
  (results Tryz.f40 tmps).run Tryz.prog w=.ok (.tuple #[gv m,v]) w:=by
 have hc:w.cell? ⟨p3,0,none⟩=some v:=hb3.cell_of rfl
 have h48:∀W:World,(isAgg 48).run Tryz.prog W=.ok false W:=fun W=>by kernel_rfl
 have e1:=run_loadVar_row (P:=Tryz.prog) w p2 66 66 _ (0,0) _ hb Tryz.underlying66 rfl (L7.trans (by simp[Mt.aF]))
 have e2:(loadVar 48 ⟨p3,0,none⟩).run Tryz.prog w=.ok v w:=by simp[loadVar,Sem.run_bind,h48,load,Sem.run,hc]
 simp[results,Tryz.results40,hp,hq,asAddr,e1,e2]
 rfl
def PJ(l:Bs)(w:World)(p2 p3:Nat)(chain:List PanicEntry)(w':World):Prop:=∃code p:Nat,gb l=.no code p∧wZ code p w chain w'∧(∃m:Mt,aq w' p2 66 m.cells)∧aq w' p3 48 [.nilIface]
def Ad(l:Bs)(w:World)(p2 p3:Nat):Sx.a7:=⟨w,[],PJ l w p2 p3⟩
def lN(p2 p3 gl:Nat)(ws:List Bs)(m:Mt)(i:Nat):List Sx.Row:=[⟨66,.cx p2 m.cells⟩,⟨48,.cx p3 [.nilIface]⟩,⟨9,.own 1 ws.length (ws.map ab)⟩,⟨154,.fW gl [.own 2,.val (.int .i64 (i:Int))]⟩]
def Jz:List (Nat×Sx.SV):=[(2,.ptr 0 0),(3,.ptr 1 0),(4,.ptr 3 0)]
structure Qh(w W:World)(β:Sx.Env)(p2 p3 gl:Nat)(ws:List Bs)(m:Mt)(i:Nat):Prop where
 a:aq W p2 66 m.cells
 b:aq W p3 48 [.nilIface]
 l:dw W gl (β.a 2) ws.length (β.c 2) i ws
 ne:gl≠p2∧gl≠p3
theorem FE{l:Bs}{w:World}{p2 p3 gl:Nat}{ws:List Bs}{m:Mt}{i:Nat}(hlan:dy w)(hi:i≤ws.length)(hn:ws.length≤1000000)(hsz:∀x∈ws,x.length≤100000000){W:World}{β:Sx.Env}(hS:Sx.dz (Ad l w p2 p3) β W (Sx.rowAt (lN p2 p3 gl ws m i)) [0,1,2,3]) :
  Qh w W β p2 p3 gl ws m i∧β 3=gl∧β 0=p2∧β 1=p3:=by
 have r0:β 0=p2∧aq W (β 0) 66 m.cells:=hS.held 0 (by simp) _ rfl
 have r1:β 1=p3∧aq W (β 1) 48 [.nilIface]:=hS.held 1 (by simp) _ rfl
 have r2:β.n 2=ws.length∧Own W 9 1 (.slice (β.a 2) ws.length (β.c 2)) ws.length (ws.map ab):=hS.held 2 (by simp) _ rfl
 have r3:β 3=gl∧aq W (β 3) 154 [β.sl 2,.int .i64 (i:Int)]:=hS.held 3 (by simp) _ rfl
 obtain⟨e0,b0⟩:=r0
 obtain⟨e1,b1⟩:=r1
 obtain⟨e3,b3⟩:=r3
 have hsl:β.sl 2=.slice (β.a 2) ws.length (β.c 2):=by unfold Sx.Env.sl;rw[r2.1]
 rw[hsl]at b3
 have n30:β 3≠β 0:=fun he=>by
  have:=hS.inj 3 (by simp) 0 (by simp) _ _ (β 3) rfl rfl rfl (by show some (β 0)=some (β 3);rw[he])
  cases this
 have n31:β 3≠β 1:=fun he=>by
  have:=hS.inj 3 (by simp) 1 (by simp) _ _ (β 3) rfl rfl rfl (by show some (β 1)=some (β 3);rw[he])
  cases this
 have g9:9≤β 3:=by
  rcases hS.new 3 (by simp) _ (β 3) rfl rfl with hx|hx
  ·cases hx
  ·exact Nat.le_trans hlan.low hx
 refine⟨⟨e0 ▸ b0,e1 ▸ b1,⟨e3 ▸ b3,BH r2.2 rfl (ah.refl _ _) fun k hk=>?_,hi,hn,hlan.cP hS.az,e3 ▸ g9,hsz⟩,⟨by rw[←e3,←e0];exact n30,by rw[←e3,←e1];exact n31⟩⟩,e3,e0,e1⟩
 intro hh
 rw[List.mem_singleton,←e3]at hh
 have:=hS.inj 2 (by simp) 3 (by simp) _ _ k rfl rfl hk (by show some (β 3)=some k;rw[hh])
 cases this
def FG(_p2 _p3 gl:Nat)(r:Out Mt)(n:Nat):Sx.cj:=⟨[0,1,2,3],[(3,⟨154,.fW gl [.own 2,.val (.int .i64 (r.pos:Int))]⟩)],[],[],.val (gv r.val),some (r.okB=true∧r.pos≤n)⟩
theorem FF{l:Bs}{w:World}{p2 p3 gl:Nat}{ws:List Bs}(hlan:dy w)(hn:ws.length≤1000000)(hsz:∀x∈ws,x.length≤100000000)(hno:∀code p,dR ws 0=.no code p→gb l=.no code p)(W:World)(β:Sx.Env)(hS:Sx.dz (Ad l w p2 p3) β W (Sx.rowAt (lN p2 p3 gl ws fL 0)) [0,1,2,3]) :
  Calls Tryz.prog 93 (([.ptr 3 0]:List Sx.SV).map (Sx.SV.den β)).toArray W (Sx.aQ (Ad l w p2 p3) β W (Sx.rowAt (lN p2 p3 gl ws fL 0)) 4 (FG p2 p3 gl (dR ws 0) ws.length)):=by
 obtain⟨h,e3,e0,e1⟩:=FE hlan (Nat.zero_le _) hn hsz hS
 have r2:β.n 2=ws.length:=(hS.held 2 (by simp) _ rfl).1
 show Calls Tryz.prog 93 #[.pointer (some ⟨β 3,0,none⟩)] W _
 rw[e3]
 have ht:ah [gl]=ah ((FG p2 p3 gl (dR ws 0) ws.length).dI β (Sx.rowAt (lN p2 p3 gl ws fL 0))):=by
  congr 1
  show _=([3]:List Nat).filterMap (Sx.ct β (Sx.rowAt (lN p2 p3 gl ws fL 0)))
  have:Sx.ct β (Sx.rowAt (lN p2 p3 gl ws fL 0)) 3=some gl:=congrArg some e3
  simp[this]
 refine(ye h.l).mono fun e w' hp=>?_
 rcases hp with⟨a,j,hr,hj,he,hb,hc⟩ | ⟨code,p,chain,hr,he,hf,hc⟩
 ·rw[hr]
  rw[hr]at ht
  refine .inl ⟨fun p hp=>by cases hp;exact⟨rfl,hj⟩,β,Sx.cN (v:=gv a) rfl rfl he (fun q hq=>?_) (ht ▸ hc)⟩
  have hq:q=(3,⟨154,.fW gl [.own 2,.val (.int .i64 (j:Int))]⟩):=List.mem_singleton.1 hq
  subst hq
  refine⟨e3,?_⟩
  show aq w' (β 3) 154 [β.sl 2,.int .i64 (j:Int)]
  rw[e3]
  unfold Sx.Env.sl
  rw[r2]
  exact hb
 ·refine .inr ⟨rfl,chain,he,⟨code,p,hno code p hr,hf.up hS.az.size,⟨fL,h.a.az hc (by simpa using fun hh=>h.ne.1 hh.symm)⟩,h.b.az hc (by simpa using fun hh=>h.ne.2 hh.symm)⟩,ht ▸ hc⟩
def Md:Sx.cj:=⟨[0,1,2,3],[],[],[],.gone,some False⟩
theorem BZ{l:Bs}{w:World}{p2 p3 gl:Nat}{ws:List Bs}{m:Mt}{i code:Nat}(hlan:dy w)(hi:i≤ws.length)(hn:ws.length≤1000000)(hsz:∀x∈ws,x.length≤100000000)(hno:gb l=.no code (i+1))(W:World)(β:Sx.Env)(hS:Sx.dz (Ad l w p2 p3) β W (Sx.rowAt (lN p2 p3 gl ws m i)) [0,1,2,3]) :
  Calls Tryz.prog 94 (([.ptr 3 0,.val (.int .i64 (code:Int)),.val (.int .i64 ((i:Int)+1))]:List Sx.SV).map (Sx.SV.den β)).toArray W (Sx.aQ (Ad l w p2 p3) β W (Sx.rowAt (lN p2 p3 gl ws m i)) 4 Md):=by
 obtain⟨h,e3,e0,e1⟩:=FE hlan hi hn hsz hS
 refine(mg _ (code:Int) ((i:Int)+1) W).mono fun e w' ⟨chain,he,hf,hc⟩=>.inr ⟨rfl,chain,he,⟨code,i+1,hno,?_,⟨m,h.a.az hc (by simp)⟩,h.b.az hc (by simp)⟩,hc⟩
 exact wZ.up (code:=(code:Int)) (at_:=((i+1:Nat):Int)) hf hS.az.size
theorem Ic{w:World}{g t t':Nat}{cs cs':List Value}(h:aq w g t cs)(h':aq w g t' cs'):t=t':=by
 have:=Option.some.inj ((show w.heap[g]?=some (.cells cs.toArray t (0,0))from h).symm.trans h')
 injection this
def Hm(w:World):List Deferred:=[{ target:=.fn (.func 91) #[.pointer (some ⟨w.heap.size,0,none⟩),.pointer (some ⟨w.heap.size+1,0,none⟩)],args:=#[] }]
theorem NT{l:Bs}{w w':World}{chain:List PanicEntry}{tmps:Array Value}(h:PJ l w w.heap.size (w.heap.size+1) chain w')(hc:ah [] w w')(h2:tmps[2]?=some (.pointer (some ⟨w.heap.size,0,none⟩)))(h3:tmps[3]?=some (.pointer (some ⟨w.heap.size+1,0,none⟩))) :
  Leaves Tryz.prog Tryz.f40 tmps (lj l w) (Hm w) (.panicking chain) w':=by
 obtain⟨code,p,hr,⟨N,rfl,hN0,hbN⟩,⟨m,hb⟩,hb3⟩:=h
 have hN:N≠w.heap.size∧N≠w.heap.size+1:=⟨fun e=>(by rw[e]at hbN;exact absurd (Ic hbN hb) (by decide)),fun e=>(by rw[e]at hbN;exact absurd (Ic hbN hb3) (by decide))⟩
 refine leaves_cons (f:=91) (args:=#[.pointer (some ⟨w.heap.size,0,none⟩),.pointer (some ⟨w.heap.size+1,0,none⟩)]) (by simp) (by simp[go_sem]) ?_
 refine(zg _ _ N m w' hb hb3 (by omega)).mono ?_
 rintro e u' w'' ⟨rfl,rfl,hm,hv,hc2⟩
 have hrs:=NQ tmps w'' _ _ fL _ h2 h3 hm hv
 have fin:lj l w (.returned (.tuple #[gv fL,.iface 103 (.pointer (some ⟨N,0,none⟩))])) w'':=.inr ⟨code,p,N,hr,rfl,by omega,hbN.az hc2 (by simp;omega),(hc.mono (by simp)).trans hc2 |>.mono fun k hk=>.inr (by simp at hk;omega)⟩
 exact⟨_,hrs,fin⟩
theorem Mb{l:Bs}{w w':World}{m:Mt}{i:Nat}{tmps:Array Value}(hr:gb l=.ok m i)(hb:aq w' w.heap.size 66 m.cells)(hb3:aq w' (w.heap.size+1) 48 [.nilIface])(hc:ah [] w w')(h2:tmps[2]?=some (.pointer (some ⟨w.heap.size,0,none⟩)))(h3:tmps[3]?=some (.pointer (some ⟨w.heap.size+1,0,none⟩))) :
  Leaves Tryz.prog Tryz.f40 tmps (lj l w) (Hm w) .returning w':=by
 refine leaves_cons (f:=91) (args:=#[.pointer (some ⟨w.heap.size,0,none⟩),.pointer (some ⟨w.heap.size+1,0,none⟩)]) (by simp) (by simp[go_sem]) ?_
 refine(Bg _ _ w').mono ?_
 rintro e u' w'' ⟨rfl,rfl,rfl⟩
 have hrs:=NQ tmps w'' _ _ m _ h2 h3 hb hb3
 have fin:lj l w (.returned (.tuple #[gv m,.nilIface])) w'':=.inl ⟨m,i,hr,rfl,hc⟩
 exact⟨_,hrs,fin⟩
def Di:Code→Code
 |.seq _ r=>r
 |_=>.skip
def MI:Code→Code
 |.seq a _=>a
 |c=>c
def Ln:Code→Code
 |.cond _ x _=>x
 |_=>.skip
def pK:Code→Array Oper
 |.region _ ops _=>ops
 |_=>#[]
def rO(fn:Func):Code:=Di (Di (Di (Di (fn.body.getD .skip))))
def N3(fn:Func):Code:=MI (Di (Di (Di (fn.body.getD .skip))))
def PU(fn:Func):Code:=MI (MI (rO fn))
def N2(fn:Func):Code:=Ln (Di (MI (rO fn)))
def N1(fn:Func):Code:=MI (MI (Di (rO fn)))
def N0(fn:Func):Code:=Ln (Di (MI (Di (rO fn))))
def PT(fn:Func):Code:=Di (Di (rO fn))
theorem Jx:rO Tryz.f40=.seq (.seq (PU Tryz.f40) (.cond (.tmp 21) (N2 Tryz.f40) .skip)) (.seq (.seq (N1 Tryz.f40) (.cond (.tmp 31) (N0 Tryz.f40) .skip)) (PT Tryz.f40)):=by kernel_rfl
theorem NX:N3 Tryz.f40=.region 3 (pK (N3 Tryz.f40)) false:=by kernel_rfl
theorem NW:N2 Tryz.f40=.region 5 (pK (N2 Tryz.f40)) false:=by kernel_rfl
theorem NV:N1 Tryz.f40=.region 6 (pK (N1 Tryz.f40)) false:=by kernel_rfl
theorem NU:N0 Tryz.f40=.region 7 (pK (N0 Tryz.f40)) false:=by kernel_rfl
def BN(mem:List Sx.Row)(i:Nat):Option Nat:=match mem[i]? with
 |some r=>r.cs.tag
 |none=>none
theorem xk{β:Sx.Env}{w:World}{mem:List Sx.Row}{i g:Nat}(h:∀(i:Nat) (r:Sx.Row),mem[i]?=some r→Sx.ba β w i r)(ht:BN mem i=some g):β i=g:=by
 unfold BN at ht
 split at ht
 ·rename_i r hr
  have hh:=h i r hr
  obtain⟨T,cs⟩:=r
  cases cs with
  |cx g' cs=>cases ht;exact hh.1
  |fW g' cs=>cases ht;exact hh.1
  |_=>cases ht
 ·cases ht
def IC(p2 p3:Nat)(st:Sx.St):Prop:=Sx.look st.fr 2=some (.ptr 0 0)∧Sx.look st.fr 3=some (.ptr 1 0)∧BN st.mem 0=some p2∧BN st.mem 1=some p3
def P2(l:Bs)(p2 p3:Nat)(e:Exit)(st:Sx.St):Prop:=match e with
 |.ret=>∃m i,gb l=.ok m i∧st.mem[0]?=some ⟨66,.cx p2 m.cells⟩∧st.mem[1]?=some ⟨48,.cx p3 [.nilIface]⟩∧Sx.look st.fr 2=some (.ptr 0 0)∧Sx.look st.fr 3=some (.ptr 1 0)
 |_=>False
noncomputable abbrev B6:Nat:=Tryz.f40.ntmps
section
variable(l:Bs)(w:World)(p2 p3:Nat)(H:List (Nat×Sx.Hint))
def PL(st:Sx.St):Prop:=IC p2 p3 st∧Sx.mn Tryz.prog H B6 (Ad l w p2 p3) (pK (N0 Tryz.f40)) (pK (N0 Tryz.f40)).toList st fun _=>False
def PK(st:Sx.St):Prop:=Sx.iz Tryz.prog B6 ⟨w,[],fun _ _=>False⟩ (PT Tryz.f40) H [] st (P2 l p2 p3)
def PM(b2:Bool)(st:Sx.St):Prop:=IC p2 p3 st∧Sx.mn Tryz.prog H B6 (Ad l w p2 p3) (pK (N1 Tryz.f40)) (pK (N1 Tryz.f40)).toList st fun st=>Sx.look st.fr 31=some (.val (.bool b2))∧(match b2 with|true=>PL l w p2 p3 H st|false=>PK l w p2 p3 H st)
def PN(st:Sx.St):Prop:=IC p2 p3 st∧Sx.mn Tryz.prog H B6 (Ad l w p2 p3) (pK (N2 Tryz.f40)) (pK (N2 Tryz.f40)).toList st fun _=>False
def OV(b b2:Bool)(st:Sx.St):Prop:=Sx.iz Tryz.prog B6 ⟨w,[],fun _ _=>False⟩ (PU Tryz.f40) H [] st fun e st=>match e with
 |.normal=>Sx.look st.fr 21=some (.val (.bool b))∧(match b with|true=>PN l w p2 p3 H st|false=>PM l w p2 p3 H b2 st)
 |_=>False
end
theorem Jy(l:Bs)(w:World)(p2 p3 gl:Nat)(hlan:dy w)(hl:l.length≤1000000):∃H b b2,Sx.mn Tryz.prog H B6 (Ad l w p2 p3) (pK (N3 Tryz.f40)) (pK (N3 Tryz.f40)).toList ⟨Jz,lN p2 p3 gl (aI false l) fL 0⟩ (OV l w p2 p3 H b b2):=by
 obtain⟨ws,hws⟩:∃ws,ws=aI false l:=⟨_,rfl⟩
 have hc:=qb false l
 rw[←hws]at hc ⊢
 have hn:ws.length≤1000000:=by omega
 have hsz:∀x∈ws,x.length≤100000000:=fun x hx=>by have:=hc.2 x hx;omega
 obtain⟨r,hr⟩:∃r,r=dR ws 0:=⟨_,rfl⟩
 have hT:gb l=r.bind fun m i=>(gy ws () i).bind fun _ i=>match bj m with
  |true=>.ok m i
  |false=>.no 190 (i+1):=by rw[hr,hws];rfl
 have zm:=fun W β hS=>FF (l:=l) (w:=w) (p2:=p2) (p3:=p3) (gl:=gl) (ws:=ws) hlan hn hsz (by rw[←hr];exact aM hT) W β hS
 rw[←hr]at zm
 have up:r.okB=true→gb l=(gy ws () r.pos).bind fun _ i=>match bj r.val with
  |true=>.ok r.val i
  |false=>.no 190 (i+1):=fun h=>bu hT h
 have wf:r.okB=true→r.val.Wf:=fun h=>(sD (by rw[←hr];exact Out.xP h)).1
 cases hlt:decide (r.pos < ws.length)with
 |true=>
  have c21f:=fun(_:r.okB=true∧r.pos≤ws.length)=>nC hlt
  have c27f:=fun(hp:r.okB=true∧r.pos≤ws.length)=>(show Value.int .i64 (IntKind.i64.wrap ((r.pos:Int)+1))=.int .i64 ((r.pos:Int)+1)from iw (jR (by omega) (by omega)))
  have c28f:=fun(hp:r.okB=true∧r.pos≤ws.length)=>fun W β hS=>BZ (l:=l) (w:=w) (p2:=p2) (p3:=p3) (gl:=gl) (m:=r.val) (code:=200) hlan hp.2 hn hsz (by rw[up hp.1,jg rfl hlt];rfl) W β hS
  refine⟨[(11,.ai (FG p2 p3 gl r ws.length)),(21,.is (.bool true)),(27,.is (.int .i64 ((r.pos:Int)+1))),(28,.ai Md)],true,true,?_⟩
  exact Eq.mp (by kernel_rfl) (And.intro zm (fun(hx0:r.okB=true∧r.pos≤ws.length)=>(Sx.t4 (c21f hx0) (show Option.some (Sx.SV.val (Go.Value.bool true))=Option.some (Sx.SV.val (Go.Value.bool true))from by rfl) (Sx.t2 (show Option.some (Sx.SV.ptr 0 0)=Option.some (Sx.SV.ptr 0 0)from by rfl) (show Option.some (Sx.SV.ptr 1 0)=Option.some (Sx.SV.ptr 1 0)from by rfl) (And.intro (show Option.some p2=Option.some p2 from by rfl) (show Option.some p3=Option.some p3 from by rfl))) (c27f hx0) (And.intro (c28f hx0) (fun(hf:False)=>hf)))))
 |false=>
  have c21f:=fun(_:r.okB=true∧r.pos≤ws.length)=>nC hlt
  have c37f:=fun(hp:r.okB=true∧r.pos≤ws.length)=>(show Value.int .i64 (IntKind.i64.wrap ((r.pos:Int)+1))=.int .i64 ((r.pos:Int)+1)from iw (jR (by omega) (by omega)))
  have up2:r.okB=true→gb l=(match bj r.val with|true=>.ok r.val r.pos|false=>.no 190 (r.pos+1)):=fun h=>by rw[up h,k8 rfl hlt];rfl
  cases hck:bj r.val with
  |true=>
   have c30f:=fun(hp:r.okB=true∧r.pos≤ws.length)=>fun W (_:ah [] w W)=>(show Calls Tryz.prog 83 #[gv r.val] W fun e w'=>e=.returned (.int .i64 0)∧ah [] W w' from by
    have:=j9 r.val (wf hp.1) W
    rw[hck]at this
    exact this)
   have z8f:=fun(hp:r.okB=true∧r.pos≤ws.length)=>(show ∃m i,gb l=.ok m i∧some (⟨66,.cx p2 r.val.cells⟩:Sx.Row)=some ⟨66,.cx p2 m.cells⟩∧some (⟨48,.cx p3 [.nilIface]⟩:Sx.Row)=some ⟨48,.cx p3 [.nilIface]⟩∧some (Sx.SV.ptr 0 0)=some (.ptr 0 0)∧some (Sx.SV.ptr 1 0)=some (.ptr 1 0)from⟨r.val,r.pos,by rw[up2 hp.1,hck],rfl,rfl,rfl,rfl⟩)
   refine⟨[(11,.ai (FG p2 p3 gl r ws.length)),(21,.is (.bool false)),(30,.call (.int .i64 0))],false,false,?_⟩
   exact Eq.mp (by kernel_rfl) (And.intro zm (fun(hx0:r.okB=true∧r.pos≤ws.length)=>(Sx.t4 (c21f hx0) (show Option.some (Sx.SV.val (Go.Value.bool false))=Option.some (Sx.SV.val (Go.Value.bool false))from by rfl) (Sx.t2 (show Option.some (Sx.SV.ptr 0 0)=Option.some (Sx.SV.ptr 0 0)from by rfl) (show Option.some (Sx.SV.ptr 1 0)=Option.some (Sx.SV.ptr 1 0)from by rfl) (And.intro (show Option.some p2=Option.some p2 from by rfl) (show Option.some p3=Option.some p3 from by rfl))) (c30f hx0) (And.intro (show Option.some (Sx.SV.val (Go.Value.bool false))=Option.some (Sx.SV.val (Go.Value.bool false))from by rfl) (z8f hx0)))))
  |false=>
   have c30f:=fun(hp:r.okB=true∧r.pos≤ws.length)=>fun W (_:ah [] w W)=>(show Calls Tryz.prog 83 #[gv r.val] W fun e w'=>e=.returned (.int .i64 190)∧ah [] W w' from by
    have:=j9 r.val (wf hp.1) W
    rw[hck]at this
    exact this)
   have c38f:=fun(hp:r.okB=true∧r.pos≤ws.length)=>fun W β hS=>BZ (l:=l) (w:=w) (p2:=p2) (p3:=p3) (gl:=gl) (m:=r.val) (code:=190) hlan hp.2 hn hsz (by rw[up2 hp.1,hck]) W β hS
   refine⟨[(11,.ai (FG p2 p3 gl r ws.length)),(21,.is (.bool false)),(30,.call (.int .i64 190)),(37,.is (.int .i64 ((r.pos:Int)+1))),(38,.ai Md)],false,true,?_⟩
   exact Eq.mp (by kernel_rfl) (And.intro zm (fun(hx0:r.okB=true∧r.pos≤ws.length)=>(Sx.t8 (c21f hx0) (show Option.some (Sx.SV.val (Go.Value.bool false))=Option.some (Sx.SV.val (Go.Value.bool false))from by rfl) (Sx.t2 (show Option.some (Sx.SV.ptr 0 0)=Option.some (Sx.SV.ptr 0 0)from by rfl) (show Option.some (Sx.SV.ptr 1 0)=Option.some (Sx.SV.ptr 1 0)from by rfl) (And.intro (show Option.some p2=Option.some p2 from by rfl) (show Option.some p3=Option.some p3 from by rfl))) (c30f hx0) (show Option.some (Sx.SV.val (Go.Value.bool true))=Option.some (Sx.SV.val (Go.Value.bool true))from by rfl) (Sx.t2 (show Option.some (Sx.SV.ptr 0 0)=Option.some (Sx.SV.ptr 0 0)from by rfl) (show Option.some (Sx.SV.ptr 1 0)=Option.some (Sx.SV.ptr 1 0)from by rfl) (And.intro (show Option.some p2=Option.some p2 from by rfl) (show Option.some p3=Option.some p3 from by rfl))) (c37f hx0) (c38f hx0) (fun(hf:False)=>hf))))
theorem Mc{l:Bs}{w:World}{β:Sx.Env}{st:Sx.St}{a:Act}{w':World}(h:Sx.Hd (Hm w) (Ad l w w.heap.size (w.heap.size+1)) B6 β st a w')(hk:P2 l w.heap.size (w.heap.size+1) .ret st):Leaves Tryz.prog Tryz.f40 a.tmps (lj l w) a.defers .returning w':=by
 obtain⟨m,i,hr,h0,h1,h2,h3⟩:=hk
 have r0:β 0=w.heap.size∧aq w' (β 0) 66 m.cells:=h.bM 0 _ h0
 have r1:β 1=w.heap.size+1∧aq w' (β 1) 48 [.nilIface]:=h.bM 1 _ h1
 have t2:a.tmps[2]?=some (.pointer (some ⟨β 0,0,none⟩)):=h.get 2 _ h2
 have t3:a.tmps[3]?=some (.pointer (some ⟨β 1,0,none⟩)):=h.get 3 _ h3
 obtain⟨e0,b0⟩:=r0
 obtain⟨e1,b1⟩:=r1
 rw[e0]at b0 t2
 rw[e1]at b1 t3
 rw[h.dn]
 exact Mb hr b0 b1 h.az t2 t3
theorem vE{l:Bs}{w:World}{β:Sx.Env}{st:Sx.St}{a a':Act}{w1 w':World}{ops:List Oper}{ch:List PanicEntry}(h:Sx.Hd (Hm w) (Ad l w w.heap.size (w.heap.size+1)) B6 β st a w1)(hs:IC w.heap.size (w.heap.size+1) st)(hd:a'.defers=Hm w)(hp:PJ l w w.heap.size (w.heap.size+1) ch w')(hc:ah [] w w')(hk:Kept ops a a')(h2:∀o∈ops,o.dst≠some 2)(h3:∀o∈ops,o.dst≠some 3):Leaves Tryz.prog Tryz.f40 a'.tmps (lj l w) a'.defers (.panicking ch) w':=by
 obtain⟨l2,l3,t0,t1⟩:=hs
 have e0:=xk h.bM t0
 have e1:=xk h.bM t1
 have g2:a.tmps[2]?=some (.pointer (some ⟨β 0,0,none⟩)):=h.get 2 _ l2
 have g3:a.tmps[3]?=some (.pointer (some ⟨β 1,0,none⟩)):=h.get 3 _ l3
 rw[e0]at g2
 rw[e1]at g3
 rw[hd]
 exact NT hp hc ((hk 2 h2).trans g2) ((hk 3 h3).trans g3)
theorem lX{ops:Array Oper}{t:Nat}(h:ops.toList.all (fun o=>match o.dst with|some d=>!Nat.beq d t|none=>true)=true):∀o∈ops.toList,o.dst≠some t:=fun o ho he=>by
 have:=List.all_eq_true.1 h o ho
 rw[he]at this
 simp at this
theorem NS{l:Bs}{w:World}{H:List (Nat×Sx.Hint)}{b b2:Bool}{β:Sx.Env}{st:Sx.St}{a:Act}{w1:World}(h:Sx.Hd (Hm w) (Ad l w w.heap.size (w.heap.size+1)) B6 β st a w1)(hx:OV l w w.heap.size (w.heap.size+1) H b b2 st):(rO Tryz.f40).wp Tryz.prog (bodyPostD Tryz.prog Tryz.f40 (lj l w)) a w1:=by
 have hm:Tryz.prog.follows .mixedOrders=true:=by kernel_rfl
 have ev:∀{β:Sx.Env} {st:Sx.St} {a:Act} {w1:World} {t:Tmp} {b:Bool},Sx.Hd (Hm w) (Ad l w w.heap.size (w.heap.size+1)) B6 β st a w1→Sx.look st.fr t=some (.val (.bool b))→a.eval (.tmp t)=.bool b:=fun {β st a w1 t b} h hl=>h.eval (x:=.tmp t) hl
 have dn:∀{β:Sx.Env} {st:Sx.St} {a:Act} {w1:World} {p p':List PanicEntry→World→Prop},Sx.Hd (Hm w) ⟨w,[],p⟩ B6 β st a w1→Sx.Hd (Hm w) ⟨w,[],p'⟩ B6 β st a w1:=fun h=>⟨h.size,h.dn,h.get,h.bM,h.new,h.inj,h.az,h.tQ,h.re⟩
 rw[Jx]
 refine wp_seq (wp_seq (Code.wp_mono (fun e a2 w2 hq=>?_) (Sx.fT hm _ H [] st _ β a w1 (dn h) hx)))
 cases e with
 |normal=>
  obtain⟨β2,st2,⟨hb,hk⟩,h2⟩:=hq
  have h2:Sx.Hd (Hm w) (Ad l w w.heap.size (w.heap.size+1)) B6 β2 st2 a2 w2:=dn h2
  refine wp_cond (t:=b) (ev h2 hb) ?_
  cases b with
  |true=>
   rw[if_pos rfl,NW]
   exact mN H h2 hk.2 (fun _ _ _ _ hf _=>hf.elim) fun ch a' w' hd hp hc hkp=>vE h2 hk.1 hd hp hc hkp (lX (by kernel_rfl)) (lX (by kernel_rfl))
  |false=>
   rw[if_neg (by decide)]
   refine wp_skip (wp_seq (wp_seq ?_))
   rw[NV]
   refine mN H h2 hk.2 (fun β3 st3 a3 w3 hk3 h3=>?_) fun ch a' w' hd hp hc hkp=>vE h2 hk.1 hd hp hc hkp (lX (by kernel_rfl)) (lX (by kernel_rfl))
   refine wp_cond (t:=b2) (ev h3 hk3.1) ?_
   cases b2 with
   |true=>
    rw[if_pos rfl,NU]
    exact mN H h3 hk3.2.2 (fun _ _ _ _ hf _=>hf.elim) fun ch a' w' hd hp hc hkp=>vE h3 hk3.2.1 hd hp hc hkp (lX (by kernel_rfl)) (lX (by kernel_rfl))
   |false=>
    rw[if_neg (by decide)]
    refine wp_skip (Code.wp_mono (fun e a4 w4 hq=>?_) (Sx.fT hm _ H [] st3 _ β3 a3 w3 (dn h3) hk3.2))
    cases e with
    |ret=>
     obtain⟨β4,st4,hk4,h4⟩:=hq
     exact Mc (dn h4) hk4
    |panic ch=>exact hq.2.1.elim
    |_=>obtain⟨_,_,hk4,_⟩:=hq;exact hk4.elim
 |panic ch=>exact hq.2.1.elim
 |_=>obtain⟨_,_,hk4,_⟩:=hq;exact hk4.elim
theorem Jw{l:Bs}{w w3:World}{p2 p3 gl n cc:Nat}{A:Option Go.Addr}{ws:List Bs}{m:Mt}(hn:n=ws.length)(b2:aq w3 p2 66 m.cells)(b3:aq w3 p3 48 [.nilIface])(hO:Own w3 9 1 (.slice A n cc) n (ws.map ab))(bL:aq w3 gl 154 [.slice A n cc,.int .i64 0])(hc:ah [] w w3)
  (n2:w.heap.size≤p2) (n3:w.heap.size≤p3) (nl:w.heap.size≤gl) (nA:∀k,A.map (·.block)=some k→w.heap.size≤k) (d1:p2≠p3) (d2:p2≠gl) (d3:p3≠gl):Sx.Rows (Ad l w p2 p3) ⟨fun i=>if i=0 then p2 else if i=1 then p3 else gl,fun _=>A,fun _=>n,fun _=>cc⟩ w3 (lN p2 p3 gl ws m 0):=by
 subst hn
 have hA:∀{g T cs},aq w3 g T cs→T≠9→A.map (·.block)=some g→False:=fun hb hT hk=>hO.Aw hb (Ne.symm hT) (by rw[dU];exact hk)
 refine⟨fun i r hi=>?_,fun i r k hi hk=>?_,fun i j r r' k hi hj hk hk'=>?_,hc⟩
 ·match i,hi with
  | 0,hi=>cases hi;exact⟨rfl,b2⟩
  | 1,hi=>cases hi;exact⟨rfl,b3⟩
  | 2,hi=>cases hi;exact⟨rfl,hO⟩
  | 3,hi=>cases hi;exact⟨rfl,bL⟩
 ·match i,hi with
  | 0,hi=>cases hi;cases hk;exact .inr n2
  | 1,hi=>cases hi;cases hk;exact .inr n3
  | 2,hi=>cases hi;exact .inr (nA k hk)
  | 3,hi=>cases hi;cases hk;exact .inr nl
 ·match i,j,hi,hj with
  | 0,0,_,_=>rfl
  | 1,1,_,_=>rfl
  | 2,2,_,_=>rfl
  | 3,3,_,_=>rfl
  | 0,1,hi,hj=>cases hi;cases hj;cases hk;cases hk';exact absurd rfl d1
  | 1,0,hi,hj=>cases hi;cases hj;cases hk;cases hk';exact absurd rfl d1
  | 0,3,hi,hj=>cases hi;cases hj;cases hk;cases hk';exact absurd rfl d2
  | 3,0,hi,hj=>cases hi;cases hj;cases hk;cases hk';exact absurd rfl d2
  | 1,3,hi,hj=>cases hi;cases hj;cases hk;cases hk';exact absurd rfl d3
  | 3,1,hi,hj=>cases hi;cases hj;cases hk;cases hk';exact absurd rfl d3
  | 0,2,hi,hj=>cases hi;cases hj;cases hk;exact(hA b2 (by decide) hk').elim
  | 2,0,hi,hj=>cases hi;cases hj;cases hk';exact(hA b2 (by decide) hk).elim
  | 1,2,hi,hj=>cases hi;cases hj;cases hk;exact(hA b3 (by decide) hk').elim
  | 2,1,hi,hj=>cases hi;cases hj;cases hk';exact(hA b3 (by decide) hk).elim
  | 3,2,hi,hj=>cases hi;cases hj;cases hk;exact(hA bL (by decide) hk').elim
  | 2,3,hi,hj=>cases hi;cases hj;cases hk';exact(hA bL (by decide) hk).elim
set_option maxHeartbeats 4000000 in
theorem xG(l:Bs)(hl:l.length≤1000000){w:World}(hlan:dy w):Calls Tryz.prog 40 #[ab l] w (lj l w):=by
 obtain⟨t,ht⟩:∃t:Value,t=ab l:=⟨_,rfl⟩
 have HT:Hid (t=ab l):=hid ht
 rw[←ht]
 clear ht
 have hmf:∀(fn:Fn) (first cap:Array Value) (w:World),(Instr.makeFunc fn first cap).run Tryz.prog w=.ok (.func fn first cap) w:=fun _ _ _ _=>rfl
 obtain⟨n,hn⟩:∃n,n=(aI false l).length:=⟨_,rfl⟩
 obtain⟨xs,hxs⟩:∃xs,xs=(aI false l).map ab:=⟨_,rfl⟩
 have HW:Hid (∀W,Calls Tryz.prog 90 #[t,.bool false] W (Sx.fI W (.sl 9 1 n xs))):=hid fun W=>by
  rw[HT.out,hn,hxs]
  exact(BC W l false hl).mono fun _ _ ⟨_,_,he,hO,hA,hC⟩=>⟨_,he,hO,fun k hk=>hA k ((dU _ _ _).symm.trans hk),hC⟩
 have HN:=hid hn
 have HX:=hid hxs
 have HLAN:=hid hlan
 clear hn hxs hlan
 go_enter_defers Tryz.func40,Tryz.ntmps40
 go_upto_region 3 with(go_at_call 90;refine(HW.out _).mono ?_;intro e w2 hp;obtain⟨sv,he,hacc⟩:=hp;obtain⟨A,cc,hsv,_,_⟩:=hacc.own.form;subst hsv;subst he)
 rename_i K1 hK1 K2 hK2
 obtain⟨w1,hw1⟩:∃w1,w1=(w.alloc (.cells fL.cells.toArray 66)).alloc (.cells #[.nilIface] 48):=⟨_,rfl⟩
 have C1:ah [] w w1:=by rw[hw1];exact((ah.refl [] w).alloc _).alloc _
 have z1:w1.heap.size=w.heap.size+2:=by rw[hw1];simp
 have B2:aq w1 w.heap.size 66 fL.cells:=by
  rw[hw1]
  exact(aq.new w 66 fL.cells.toArray).az ((ah.refl [] _).alloc _) (by simp)
 have B3:aq w1 (w.heap.size+1) 48 [.nilIface]:=by
  rw[hw1]
  have:=aq.new (w.alloc (.cells fL.cells.toArray 66)) 48 #[.nilIface]
  simpa using this
 have hacc2:Acc w1 w2 9 1 (.slice A n cc) n xs:=by rw[hw1];exact hacc
 clear hacc
 obtain⟨w3,hw3⟩:∃w3,w3=w2.alloc (.cells #[.slice A n cc,.int .i64 0] 154):=⟨_,rfl⟩
 have C3:ah [] w2 w3:=by rw[hw3];exact(ah.refl [] w2).alloc _
 have BL:aq w3 w2.heap.size 154 [.slice A n cc,.int .i64 0]:=by rw[hw3];exact aq.new w2 154 #[.slice A n cc,.int .i64 0]
 rw[←hw3]
 clear hw1 hw3
 have C13:=hacc2.az.trans C3
 have C03:ah [] w w3:=C1.trans C13
 have z2:=hacc2.az.size
 have hR:=Jw (l:=l) (m:=fL) HN.out (B2.az C13 (by simp)) (B3.az C13 (by simp)) (by rw[←HX.out];exact hacc2.own.az C3 (by simp)) BL C03 (Nat.le_refl _) (Nat.le_succ _) (by omega) (fun k hk=>by have:=hacc2.new k ((dU _ _ _).trans hk);omega) (by omega) (by omega) (by omega)
 obtain⟨H,b,b2,hx⟩:=Jy l w w.heap.size (w.heap.size+1) w2.heap.size HLAN.out hl
 have hd0:=CE (ds:=Hm w) (n:=B6) (fr:=Jz) (tmps:=#[t,undef,Value.pointer (some ⟨w.heap.size,0,none⟩),Value.pointer (some ⟨w.heap.size+1,0,none⟩),Value.pointer (some ⟨w2.heap.size,0,none⟩),t,Value.slice A n cc,Value.agg #[Value.slice A n cc,Value.int IntKind.i64 0],Value.pointer (some ⟨w2.heap.size,0,none⟩),Value.func (Fn.func 91) #[] #[Value.pointer (some ⟨w.heap.size,0,none⟩),Value.pointer (some ⟨w.heap.size+1,0,none⟩)],undef,undef,undef,undef,undef,undef,undef,undef,undef,undef,undef,undef,undef,undef,undef,undef,undef,undef,undef,undef,undef,undef,undef,undef,undef,undef,undef,undef,undef,undef]) hR (by kernel_rfl) (fun p hp=>by simp[Jz]at hp;rcases hp with rfl|rfl|rfl<;>rfl) rfl
 have hs:IC w.heap.size (w.heap.size+1) ⟨Jz,lN w.heap.size (w.heap.size+1) w2.heap.size (aI false l) fL 0⟩:=⟨rfl,rfl,rfl,rfl⟩
 have hc3:=NX
 refine(show Code.wp Tryz.prog (.region 3 (pK (N3 Tryz.f40)) false) (Exit.then K2 (bodyPostD Tryz.prog Tryz.f40 (lj l w))) _ w3 from ?_)
 refine mN H hd0 hx (fun β' st' a' w' hk h'=>hK2 a' w' (NS h' hk)) fun ch a' w' hd hp hc hkp=>?_
 exact vE hd0 hs hd hp hc hkp (lX (by kernel_rfl)) (lX (by kernel_rfl))
end Go.Proofs.YtnncigmpcdehnaaGreatDoor
