import Derived.Test.YtnncigmpcdehnaaGreatDoorQg11
import Derived.Lib.IfaceEq
open Option renaming some→WN,map_eq_some_iff→W2
open Go.Value renaming bool→WO,pointer→WV,slice→W4,int→W8
open And renaming intro→WQ
open List renaming mem_singleton→WR,length_append→WT,getD_eq_getElem?_getD→WX,getElem?_eq_getElem→W0,mem_filterMap→W6,length_cons→W7,take_of_length_le→W9,getElem?_eq_none→Xb,take_add_one→Xd,take_length→Xf,drop_zero→Xg,mem_cons→Xh
open Eq renaming mp→WS
open Bool renaming eq_false_iff→WU,not_not→Xc
open Nat renaming zero_le→WW,le_trans→WZ,le_refl→W5,add_zero→Xi,add_comm→Xj,mul_one→Xk
open Go.Result renaming ok→WY
open Array renaming replicate→W3
namespace Go.Proofs.YtnncigmpcdehnaaGreatDoor
set_option maxRecDepth 100000
open Go.RowKit Go.Lib Go.Sort _root_.Go.Proofs.Tryz
set_option maxRecDepth 100000
def nh(l:Bs)(w:World)(e:Ending)(w':World):Prop:=
 (∃m i,gq l=.ok m i∧e=.returned (.tuple #[fQ m,.nilIface])∧ai [] w w')∨
 (∃code p N:Nat,gq l=.no code p∧e=.returned (.tuple #[fQ ei,.iface 103 ((pt N 0))])∧w.heap.size≤N∧aq w' N 105 [.int .i64 (code:Int),.int .i64 (p:Int)]∧ai [] w w')
theorem Rj:(prog.info? 66).map (·.size)=some 44:=by kernel_rfl
def pN(N:Nat):List PanicEntry:=[{ v:=.iface 103 ((pt N 0)),recovered:=false }]
theorem J9{P:Program}{n:Nat}{b:Sx.aV}{β:Sx.Env}{fr:List (Nat×Sx.SV)}{mem:List Sx.Row}{c:Code}{K:Exit→Sx.St→Prop}{a:Act}{ds:List Deferred}{w:World}{Q:Exit→Act→World→Prop}(H:List (Nat×Sx.Hint))(L:List Sx.Loop)(hm:P.follows .mixedOrders=true)
  (hF:Sx.Rows b β w mem) (hd:a.defers=ds) (hsz:a.tmps.size=n) (hg:∀p∈fr,a.tmps[p.1]?=some (p.2.den β)) (hw:(Sx.eA (fun r=>Sx.jK mem.length r.cs) mem&&Sx.eA (fun p=>Sx.xF mem.length p.2) fr)=true)
  (hQ:∀e a w,Sx.lift ds b n K e a w→Q e a w) (hx:Sx.ky P n b c H L ⟨fr,mem⟩ K):c.wp P Q a w:=by
 cases a;subst hd;exact Code.wp_mono hQ (Sx.gy hm c H L _ K β _ w (GJ hF hsz hg hw) hx)
def Dh(p2 p3:Nat)(cs:List Value)(v:Value):List Sx.Row:=[⟨66,.cR p2 cs⟩,⟨48,.cR p3 [v]⟩]
def WL(p2 p3 N:Nat)(e:Exit)(st:Sx.St):Prop:=match e with
 |.normal=>st.mem=Dh p2 p3 ei.cells (.iface 103 ((pt N 0)))
 |_=>False
theorem Qb{p2 p3:Nat}{w W:World}{cs:List Value}{v:Value}(hb:aq W p2 66 cs)(hb3:aq W p3 48 [v])(hne:p3≠p2)(hc:ai [p2,p3] w W):Sx.Rows ⟨w,[p2,p3],fun _ _=>False⟩ ⟨fun i=>if i=0 then p2 else p3,fun _=>none,fun _=>0,fun _=>0⟩ W (Dh p2 p3 cs v):=by
 refine⟨fun i r hi=>?_,fun i r k hi hk=>?_,fun i j r r' k hi hj hk hk'=>?_,hc⟩
 ·match i,hi with
  | 0,hi=>cases hi;exact⟨rfl,hb⟩
  | 1,hi=>cases hi;exact⟨rfl,hb3⟩
 ·match i,hi with
  | 0,hi=>cases hi;cases hk;exact .inl (by simp)
  | 1,hi=>cases hi;cases hk;exact .inl (by simp)
 ·match i,j,hi,hj with
  | 0,0,_,_=>rfl
  | 1,1,_,_=>rfl
  | 0,1,hi,hj=>cases hi;cases hj;cases hk;cases hk';exact absurd rfl hne
  | 1,0,hi,hj=>cases hi;cases hj;cases hk;cases hk';exact absurd rfl hne
theorem Dj(p2 p3 N:Nat)(m:Mt)(w:World)(hb:aq w p2 66 m.cells)(hb3:aq w p3 48 [.nilIface])(hne:p3≠p2) :
  CallsD prog 91 #[.pointer (some ⟨p2,0,none⟩),.pointer (some ⟨p3,0,none⟩)] (.panicking (pN N)) w fun e u' w'=>e=.returned (.tuple #[])∧u'=.panicking [{ v:=.iface 103 (.pointer (some ⟨N,0,none⟩)),recovered:=true }]∧aq w' p2 66 ei.cells∧aq w' p3 48 [.iface 103 (.pointer (some ⟨N,0,none⟩))]∧ai [p2,p3] w w':=by
 refine callsD_of_wpS func91 rfl fun c₀ cs hu=>?_;apply wpS_seq;apply wpS_region;simp[wpOpsS,go_sem,recoverD,hu,ntmps91,Exit.thenS,pN];apply wpS_seq;apply wpS_region;simp[wpOpsS,go_sem,Exit.thenS];refine wpS_cond (t:=true) (by simp[Act.eval,W3]) ?_;simp only[if_true];refine wpS_of_wp ?_;have c8:=fun W (_:ai [p2,p3] w W)=>(show Calls prog 92 #[.iface 103 (.pointer (some ⟨N,0,none⟩))] W fun e w'=>e=.returned (.iface 103 (.pointer (some ⟨N,0,none⟩)))∧ai [] W w' from(yU N W).mono fun e w' ⟨he,hw⟩=>⟨he,by rw[hw];exact ai.refl _ _⟩);refine J9 (n:=f91.ntmps) (fr:=[(0,.ptr 0 0),(1,.ptr 1 0),(2,.val (.iface 103 (.pointer (some ⟨N,0,none⟩))))]) (K:=WL p2 p3 N) (ds:=[]) [(8,.call (.iface 103 (.pointer (some ⟨N,0,none⟩))))] [] (by kernel_rfl) (Qb hb hb3 hne (ai.refl _ _)) rfl (by simp[ntmps91,W3]) (fun p hp=>?_) rfl (fun e a W h=>?_) ?_
 ·simp at hp
  rcases hp with rfl|rfl|rfl<;>simp[W3,Sx.SV.den]
 ·cases e with
  |normal=>obtain⟨β',st,hk,h'⟩:=h;have hk:st.mem=Dh p2 p3 ei.cells (.iface 103 (.pointer (some ⟨N,0,none⟩))):=hk;have h0:β' 0=p2∧aq W (β' 0) 66 ei.cells:=h'.bO 0 ⟨66,.cR p2 ei.cells⟩ (by rw[hk];rfl);have h1:β' 1=p3∧aq W (β' 1) 48 [.iface 103 (.pointer (some ⟨N,0,none⟩))]:=h'.bO 1 ⟨48,.cR p3 [.iface 103 (.pointer (some ⟨N,0,none⟩))]⟩ (by rw[hk];rfl);have hd:=h'.dn;have hb0:aq W p2 66 ei.cells:=h0.1 ▸ h0.2;have hb1:aq W p3 48 [.iface 103 (.pointer (some ⟨N,0,none⟩))]:=h1.1 ▸ h1.2;have hc:=h'.aF;clear h0 h1 h' c8 hb hb3;cases c₀;simp_all[bodyPostS,results,results91]
  |_=>first|exact h.elim|exact(show False from(by obtain⟨_,_,hk,_⟩:=h;exact hk)).elim|exact(show False from h.2.1).elim
 ·have z0:Dh p2 p3 ei.cells (.iface 103 (.pointer (some ⟨N,0,none⟩)))=Dh p2 p3 ei.cells (.iface 103 (.pointer (some ⟨N,0,none⟩))):=rfl
  exact WS (by kernel_rfl) (WQ c8 z0)
theorem Fk(p2 p3:Nat)(w:World) :
  CallsD prog 91 #[.pointer (some ⟨p2,0,none⟩),.pointer (some ⟨p3,0,none⟩)] .returning w fun e u' w'=>e=.returned (.tuple #[])∧u'=.returning∧w'=w:=by
 refine callsD_of_wpS func91 rfl fun c₀ cs hu=>?_;apply wpS_seq;apply wpS_region;simp[wpOpsS,go_sem,recoverD,hu,ntmps91,Exit.thenS];apply wpS_seq;apply wpS_region;simp[wpOpsS,go_sem,Exit.thenS];refine wpS_cond (t:=false) (by simp[Act.eval,W3]) ?_;simp only[Bool.false_eq_true,if_false];refine wpS_of_wp (wp_skip ?_);cases c₀;simp_all[bodyPostS,results,results91]
theorem TE(tmps:Array Value)(w:World)(p2 p3:Nat)(m:Mt)(v:Value)(hp:tmps[2]?=some (.pointer (some ⟨p2,0,none⟩)))(hq:tmps[3]?=some (.pointer (some ⟨p3,0,none⟩)))(hb:aq w p2 66 m.cells)(hb3:aq w p3 48 [v]) :
  (results f40 tmps).run prog w=.ok (.tuple #[fQ m,v]) w:=by
 have hc:w.cell? ⟨p3,0,none⟩=some v:=hb3.cell_of rfl;have h48:∀W:World,(isAgg 48).run prog W=.ok false W:=fun W=>by kernel_rfl
 have e1:=run_loadVar_row (P:=prog) w p2 66 66 _ (0,0) _ hb underlying66 rfl (Rj.trans (by simp[Mt.aT]));have e2:(loadVar 48 ⟨p3,0,none⟩).run prog w=.ok v w:=by simp[loadVar,Sem.run_bind,h48,load,Sem.run,hc]
 simp[results,results40,hp,hq,asAddr,e1,e2];rfl
def VZ(l:Bs)(w:World)(p2 p3:Nat)(chain:List PanicEntry)(w':World):Prop:=∃code p:Nat,gq l=.no code p∧A9 code p w chain w'∧(∃m:Mt,aq w' p2 66 m.cells)∧aq w' p3 48 [.nilIface]
def Eg(l:Bs)(w:World)(p2 p3:Nat):Sx.aV:=⟨w,[],VZ l w p2 p3⟩
def nU(p2 p3 gl:Nat)(ws:List Bs)(m:Mt)(i:Nat):List Sx.Row:=[⟨66,.cR p2 m.cells⟩,⟨48,.cR p3 [.nilIface]⟩,⟨9,.own 1 ws.length (ws.map ae)⟩,⟨154,.ji gl [.own 2,.val (.int .i64 (i:Int))]⟩]
def OF:List (Nat×Sx.SV):=[(2,.ptr 0 0),(3,.ptr 1 0),(4,.ptr 3 0)]
structure WH(w W:World)(β:Sx.Env)(p2 p3 gl:Nat)(ws:List Bs)(m:Mt)(i:Nat):Prop where
 a:aq W p2 66 m.cells
 b:aq W p3 48 [.nilIface]
 l:eC W gl (β.a 2) ws.length (β.c 2) i ws
 ne:gl≠p2∧gl≠p3
theorem KH{l:Bs}{w:World}{p2 p3 gl:Nat}{ws:List Bs}{m:Mt}{i:Nat}(hlan:dO w)(hi:i≤ws.length)(hn:ws.length≤1100000)(hsz:∀x∈ws,x.length≤100000000){W:World}{β:Sx.Env}(hS:Sx.eM (Eg l w p2 p3) β W (Sx.rowAt (nU p2 p3 gl ws m i)) [0,1,2,3]) :
  WH w W β p2 p3 gl ws m i∧β 3=gl∧β 0=p2∧β 1=p3:=by
 have r0:β 0=p2∧aq W (β 0) 66 m.cells:=hS.held 0 (by simp) _ rfl;have r1:β 1=p3∧aq W (β 1) 48 [.nilIface]:=hS.held 1 (by simp) _ rfl;have r2:β.n 2=ws.length∧Own W 9 1 (.slice (β.a 2) ws.length (β.c 2)) ws.length (ws.map ae):=hS.held 2 (by simp) _ rfl;have r3:β 3=gl∧aq W (β 3) 154 [β.sl 2,.int .i64 (i:Int)]:=hS.held 3 (by simp) _ rfl;obtain⟨e0,b0⟩:=r0;obtain⟨e1,b1⟩:=r1;obtain⟨e3,b3⟩:=r3;have hsl:β.sl 2=.slice (β.a 2) ws.length (β.c 2):=by unfold Sx.Env.sl;rw[r2.1]
 rw[hsl]at b3;have n30:β 3≠β 0:=fun he=>by have:=hS.inj 3 (by simp) 0 (by simp) _ _ (β 3) rfl rfl rfl (by show some (β 0)=some (β 3);rw[he]);cases this
 have n31:β 3≠β 1:=fun he=>by have:=hS.inj 3 (by simp) 1 (by simp) _ _ (β 3) rfl rfl rfl (by show some (β 1)=some (β 3);rw[he]);cases this
 have g9:9≤β 3:=by
  rcases hS.new 3 (by simp) _ (β 3) rfl rfl with hx|hx
  ·cases hx
  ·exact WZ hlan.low hx
 refine⟨⟨e0 ▸ b0,e1 ▸ b1,⟨e3 ▸ b3,zd r2.2 rfl (ai.refl _ _) fun k hk=>?_,hi,hn,hlan.dm hS.aF,e3 ▸ g9,hsz⟩,⟨by rw[←e3,←e0];exact n30,by rw[←e3,←e1];exact n31⟩⟩,e3,e0,e1⟩;intro hh;rw[WR,←e3]at hh;have:=hS.inj 2 (by simp) 3 (by simp) _ _ k rfl rfl hk (by show some (β 3)=some k;rw[hh]);cases this
def KK(_p2 _p3 gl:Nat)(r:Out Mt)(n:Nat):Sx.ct:=⟨[0,1,2,3],[(3,⟨154,.ji gl [.own 2,.val (.int .i64 (r.pos:Int))]⟩)],[],[],.val (fQ r.val),some (r.okB=true∧r.pos≤n)⟩
theorem KI{l:Bs}{w:World}{p2 p3 gl:Nat}{ws:List Bs}(hlan:dO w)(hn:ws.length≤1100000)(hsz:∀x∈ws,x.length≤100000000)(hno:∀code p,cS ws 0=.no code p→gq l=.no code p)(W:World)(β:Sx.Env)(hS:Sx.eM (Eg l w p2 p3) β W (Sx.rowAt (nU p2 p3 gl ws ei 0)) [0,1,2,3]) :
  Calls prog 93 (([.ptr 3 0]:List Sx.SV).map (Sx.SV.den β)).toArray W (Sx.br (Eg l w p2 p3) β W (Sx.rowAt (nU p2 p3 gl ws ei 0)) 4 (KK p2 p3 gl (cS ws 0) ws.length)):=by
 obtain⟨h,e3,e0,e1⟩:=KH hlan (WW _) hn hsz hS;have r2:β.n 2=ws.length:=(hS.held 2 (by simp) _ rfl).1;show Calls prog 93 #[.pointer (some ⟨β 3,0,none⟩)] W _;rw[e3];have ht:ai [gl]=ai ((KK p2 p3 gl (cS ws 0) ws.length).dQ β (Sx.rowAt (nU p2 p3 gl ws ei 0))):=by congr 1;show _=([3]:List Nat).filterMap (Sx.b8 β (Sx.rowAt (nU p2 p3 gl ws ei 0)));have:Sx.b8 β (Sx.rowAt (nU p2 p3 gl ws ei 0)) 3=some gl:=congrArg some e3;simp[this]
 refine(Ce h.l).mono fun e w' hp=>?_;rcases hp with⟨a,j,hr,hj,he,hb,hc⟩ | ⟨code,p,chain,hr,he,hf,hc⟩
 ·rw[hr]
  rw[hr]at ht;refine .inl ⟨fun p hp=>by cases hp;exact⟨rfl,hj⟩,β,Sx.dt (v:=fQ a) rfl rfl he (fun q hq=>?_) (ht ▸ hc)⟩;have hq:q=(3,⟨154,.ji gl [.own 2,.val (.int .i64 (j:Int))]⟩):=WR.1 hq;subst hq;refine⟨e3,?_⟩;show aq w' (β 3) 154 [β.sl 2,.int .i64 (j:Int)];rw[e3];unfold Sx.Env.sl;rw[r2];exact hb
 ·refine .inr ⟨rfl,chain,he,⟨code,p,hno code p hr,hf.up hS.aF.size,⟨ei,h.a.aF hc (by simpa using fun hh=>h.ne.1 hh.symm)⟩,h.b.aF hc (by simpa using fun hh=>h.ne.2 hh.symm)⟩,ht ▸ hc⟩
def Rz:Sx.ct:=⟨[0,1,2,3],[],[],[],.gone,some False⟩
theorem F6{l:Bs}{w:World}{p2 p3 gl:Nat}{ws:List Bs}{m:Mt}{i code:Nat}(hlan:dO w)(hi:i≤ws.length)(hn:ws.length≤1100000)(hsz:∀x∈ws,x.length≤100000000)(hno:gq l=.no code (i+1))(W:World)(β:Sx.Env)(hS:Sx.eM (Eg l w p2 p3) β W (Sx.rowAt (nU p2 p3 gl ws m i)) [0,1,2,3]) :
  Calls prog 94 (([.ptr 3 0,.val (.int .i64 (code:Int)),.val (.int .i64 ((i:Int)+1))]:List Sx.SV).map (Sx.SV.den β)).toArray W (Sx.br (Eg l w p2 p3) β W (Sx.rowAt (nU p2 p3 gl ws m i)) 4 Rz):=by
 obtain⟨h,e3,e0,e1⟩:=KH hlan hi hn hsz hS;refine(qE _ (code:Int) ((i:Int)+1) W).mono fun e w' ⟨chain,he,hf,hc⟩=>.inr ⟨rfl,chain,he,⟨code,i+1,hno,?_,⟨m,h.a.aF hc (by simp)⟩,h.b.aF hc (by simp)⟩,hc⟩;exact A9.up (code:=(code:Int)) (at_:=((i+1:Nat):Int)) hf hS.aF.size
theorem MU{w:World}{g t t':Nat}{cs cs':List Value}(h:aq w g t cs)(h':aq w g t' cs'):t=t':=by have:=WN.inj ((show w.heap[g]?=some (.cells cs.toArray t (0,0))from h).symm.trans h');injection this
def Mw(w:World):List Deferred:=[{ target:=.fn (.func 91) #[(pt (w.heap.size) 0),(pt (w.heap.size+1) 0)],args:=#[] }]
theorem TH{l:Bs}{w w':World}{chain:List PanicEntry}{tmps:Array Value}(h:VZ l w w.heap.size (w.heap.size+1) chain w')(hc:ai [] w w')(h2:tmps[2]?=some (.pointer (some ⟨w.heap.size,0,none⟩)))(h3:tmps[3]?=some (.pointer (some ⟨w.heap.size+1,0,none⟩))) :
  Leaves prog f40 tmps (nh l w) (Mw w) (.panicking chain) w':=by
 obtain⟨code,p,hr,⟨N,rfl,hN0,hbN⟩,⟨m,hb⟩,hb3⟩:=h;have hN:N≠w.heap.size∧N≠w.heap.size+1:=⟨fun e=>(by rw[e]at hbN;exact absurd (MU hbN hb) (by decide)),fun e=>(by rw[e]at hbN;exact absurd (MU hbN hb3) (by decide))⟩;refine leaves_cons (f:=91) (args:=#[.pointer (some ⟨w.heap.size,0,none⟩),.pointer (some ⟨w.heap.size+1,0,none⟩)]) (by simp) (by simp[go_sem]) ?_;refine(Dj _ _ N m w' hb hb3 (by omega)).mono ?_;rintro e u' w'' ⟨rfl,rfl,hm,hv,hc2⟩;have hrs:=TE tmps w'' _ _ ei _ h2 h3 hm hv;have fin:nh l w (.returned (.tuple #[fQ ei,.iface 103 (.pointer (some ⟨N,0,none⟩))])) w'':=.inr ⟨code,p,N,hr,rfl,by omega,hbN.aF hc2 (by simp;omega),(hc.mono (by simp)).trans hc2 |>.mono fun k hk=>.inr (by simp at hk;omega)⟩;exact⟨_,hrs,fin⟩
theorem Rx{l:Bs}{w w':World}{m:Mt}{i:Nat}{tmps:Array Value}(hr:gq l=.ok m i)(hb:aq w' w.heap.size 66 m.cells)(hb3:aq w' (w.heap.size+1) 48 [.nilIface])(hc:ai [] w w')(h2:tmps[2]?=some (.pointer (some ⟨w.heap.size,0,none⟩)))(h3:tmps[3]?=some (.pointer (some ⟨w.heap.size+1,0,none⟩))) :
  Leaves prog f40 tmps (nh l w) (Mw w) .returning w':=by
 refine leaves_cons (f:=91) (args:=#[.pointer (some ⟨w.heap.size,0,none⟩),.pointer (some ⟨w.heap.size+1,0,none⟩)]) (by simp) (by simp[go_sem]) ?_;refine(Fk _ _ w').mono ?_;rintro e u' w'' ⟨rfl,rfl,rfl⟩;have hrs:=TE tmps w'' _ _ m _ h2 h3 hb hb3;have fin:nh l w (.returned (.tuple #[fQ m,.nilIface])) w'':=.inl ⟨m,i,hr,rfl,hc⟩;exact⟨_,hrs,fin⟩
def He:Code→Code
 |.seq _ r=>r
 |_=>.skip
def Sk:Code→Code
 |.seq a _=>a
 |c=>c
def QC:Code→Code
 |.cond _ x _=>x
 |_=>.skip
def sG:Code→Array Oper
 |.region _ ops _=>ops
 |_=>#[]
def vp(fn:Func):Code:=He (He (He (He (fn.body.getD .skip))))
def T0(fn:Func):Code:=Sk (He (He (He (fn.body.getD .skip))))
def Wa(fn:Func):Code:=Sk (Sk (vp fn))
def TZ(fn:Func):Code:=QC (He (Sk (vp fn)))
def TY(fn:Func):Code:=Sk (Sk (He (vp fn)))
def TX(fn:Func):Code:=QC (He (Sk (He (vp fn))))
def V9(fn:Func):Code:=He (He (vp fn))
theorem OD:vp f40=.seq (.seq (Wa f40) (.cond (.tmp 21) (TZ f40) .skip)) (.seq (.seq (TY f40) (.cond (.tmp 31) (TX f40) .skip)) (V9 f40)):=by kernel_rfl
theorem TS:T0 f40=.region 3 (sG (T0 f40)) false:=by kernel_rfl
theorem TR:TZ f40=.region 5 (sG (TZ f40)) false:=by kernel_rfl
theorem TQ:TY f40=.region 6 (sG (TY f40)) false:=by kernel_rfl
theorem TP:TX f40=.region 7 (sG (TX f40)) false:=by kernel_rfl
def FN(mem:List Sx.Row)(i:Nat):Option Nat:=match mem[i]? with
 |some r=>r.cs.tag
 |none=>none
theorem Bg{β:Sx.Env}{w:World}{mem:List Sx.Row}{i g:Nat}(h:∀(i:Nat) (r:Sx.Row),mem[i]?=some r→Sx.aZ β w i r)(ht:FN mem i=some g):β i=g:=by
 unfold FN at ht;split at ht
 ·rename_i r hr
  have hh:=h i r hr;obtain⟨T,cs⟩:=r;cases cs with
  |cR g' cs=>cases ht;exact hh.1
  |ji g' cs=>cases ht;exact hh.1
  |_=>cases ht
 ·cases ht
def Nn(p2 p3:Nat)(st:Sx.St):Prop:=Sx.look st.fr 2=some (.ptr 0 0)∧Sx.look st.fr 3=some (.ptr 1 0)∧FN st.mem 0=some p2∧FN st.mem 1=some p3
def Wl(l:Bs)(p2 p3:Nat)(e:Exit)(st:Sx.St):Prop:=match e with
 |.ret=>∃m i,gq l=.ok m i∧st.mem[0]?=some ⟨66,.cR p2 m.cells⟩∧st.mem[1]?=some ⟨48,.cR p3 [.nilIface]⟩∧Sx.look st.fr 2=some (.ptr 0 0)∧Sx.look st.fr 3=some (.ptr 1 0)
 |_=>False
noncomputable abbrev F7:Nat:=f40.ntmps
section
variable(l:Bs)(w:World)(p2 p3:Nat)(H:List (Nat×Sx.Hint))
def V1(st:Sx.St):Prop:=Nn p2 p3 st∧Sx.l9 prog H F7 (Eg l w p2 p3) (sG (TX f40)) (sG (TX f40)).toList st fun _=>False
def V0(st:Sx.St):Prop:=Sx.ky prog F7 ⟨w,[],fun _ _=>False⟩ (V9 f40) H [] st (Wl l p2 p3)
def V2(b2:Bool)(st:Sx.St):Prop:=Nn p2 p3 st∧Sx.l9 prog H F7 (Eg l w p2 p3) (sG (TY f40)) (sG (TY f40)).toList st fun st=>Sx.look st.fr 31=some (.val (.bool b2))∧(match b2 with|true=>V1 l w p2 p3 H st|false=>V0 l w p2 p3 H st)
def V3(st:Sx.St):Prop:=Nn p2 p3 st∧Sx.l9 prog H F7 (Eg l w p2 p3) (sG (TZ f40)) (sG (TZ f40)).toList st fun _=>False
def U3(b b2:Bool)(st:Sx.St):Prop:=Sx.ky prog F7 ⟨w,[],fun _ _=>False⟩ (Wa f40) H [] st fun e st=>match e with
 |.normal=>Sx.look st.fr 21=some (.val (.bool b))∧(match b with|true=>V3 l w p2 p3 H st|false=>V2 l w p2 p3 H b2 st)
 |_=>False
end
theorem OE(l:Bs)(w:World)(p2 p3 gl:Nat)(hlan:dO w)(hl:l.length≤1100000):∃H b b2,Sx.l9 prog H F7 (Eg l w p2 p3) (sG (T0 f40)) (sG (T0 f40)).toList ⟨OF,nU p2 p3 gl (aE false l) ei 0⟩ (U3 l w p2 p3 H b b2):=by
 obtain⟨ws,hws⟩:∃ws,ws=aE false l:=⟨_,rfl⟩;have hc:=s7 false l;rw[←hws]at hc ⊢;have hn:ws.length≤1100000:=by omega
 have hsz:∀x∈ws,x.length≤100000000:=fun x hx=>by have:=hc.2 x hx;omega
 obtain⟨r,hr⟩:∃r,r=cS ws 0:=⟨_,rfl⟩;have hT:gq l=r.bind fun m i=>(pS ws () i).bind fun _ i=>match aY m with
  |true=>.ok m i
  |false=>.no 190 (i+1):=by rw[hr,hws];rfl
 have gb:=fun W β hS=>KI (l:=l) (w:=w) (p2:=p2) (p3:=p3) (gl:=gl) (ws:=ws) hlan hn hsz (by rw[←hr];exact cD hT) W β hS;rw[←hr]at gb;have up:r.okB=true→gq l=(pS ws () r.pos).bind fun _ i=>match aY r.val with
  |true=>.ok r.val i
  |false=>.no 190 (i+1):=fun h=>cw hT h
 have wf:r.okB=true→r.val.Wf:=fun h=>(vV (by rw[←hr];exact Out.BS h)).1;cases hlt:decide (r.pos < ws.length)with
 |true=>have c21f:=fun(_:r.okB=true∧r.pos≤ws.length)=>uz hlt;have c27f:=fun(hp:r.okB=true∧r.pos≤ws.length)=>(show W8 .i64 (IntKind.i64.wrap ((r.pos:Int)+1))=.int .i64 ((r.pos:Int)+1)from iw (jC (by omega) (by omega)));have c28f:=fun(hp:r.okB=true∧r.pos≤ws.length)=>fun W β hS=>F6 (l:=l) (w:=w) (p2:=p2) (p3:=p3) (gl:=gl) (m:=r.val) (code:=200) hlan hp.2 hn hsz (by rw[up hp.1,CW rfl hlt];rfl) W β hS;refine⟨[(11,.ay (KK p2 p3 gl r ws.length)),(21,.is (.bool true)),(27,.is (.int .i64 ((r.pos:Int)+1))),(28,.ay Rz)],true,true,?_⟩;exact WS (by kernel_rfl) (WQ gb (fun(hx0:r.okB=true∧r.pos≤ws.length)=>(Sx.t4 (c21f hx0) (show WN (Sx.SV.val (Go.Value.bool true))=WN (Sx.SV.val (Go.Value.bool true))from by rfl) (Sx.t2 (show WN (Sx.SV.ptr 0 0)=WN (Sx.SV.ptr 0 0)from by rfl) (show WN (Sx.SV.ptr 1 0)=WN (Sx.SV.ptr 1 0)from by rfl) (WQ (show WN p2=WN p2 from by rfl) (show WN p3=WN p3 from by rfl))) (c27f hx0) (WQ (c28f hx0) (fun(hf:False)=>hf)))))
 |false=>
  have c21f:=fun(_:r.okB=true∧r.pos≤ws.length)=>uz hlt;have c37f:=fun(hp:r.okB=true∧r.pos≤ws.length)=>(show W8 .i64 (IntKind.i64.wrap ((r.pos:Int)+1))=.int .i64 ((r.pos:Int)+1)from iw (jC (by omega) (by omega)));have up2:r.okB=true→gq l=(match aY r.val with|true=>.ok r.val r.pos|false=>.no 190 (r.pos+1)):=fun h=>by rw[up h,GY rfl hlt];rfl
  cases hck:aY r.val with
  |true=>have c30f:=fun(hp:r.okB=true∧r.pos≤ws.length)=>fun W (_:ai [] w W)=>(show Calls prog 83 #[fQ r.val] W (Rn W (.int .i64 0))from by have:=lS r.val (wf hp.1) W;rw[hck]at this;exact this);have z8f:=fun(hp:r.okB=true∧r.pos≤ws.length)=>(show ∃m i,gq l=.ok m i∧some (⟨66,.cR p2 r.val.cells⟩:Sx.Row)=some ⟨66,.cR p2 m.cells⟩∧some (⟨48,.cR p3 [.nilIface]⟩:Sx.Row)=some ⟨48,.cR p3 [.nilIface]⟩∧some (Sx.SV.ptr 0 0)=some (.ptr 0 0)∧some (Sx.SV.ptr 1 0)=some (.ptr 1 0)from⟨r.val,r.pos,by rw[up2 hp.1,hck],rfl,rfl,rfl,rfl⟩);refine⟨[(11,.ay (KK p2 p3 gl r ws.length)),(21,.is (.bool false)),(30,.call (.int .i64 0))],false,false,?_⟩;exact WS (by kernel_rfl) (WQ gb (fun(hx0:r.okB=true∧r.pos≤ws.length)=>(Sx.t4 (c21f hx0) (show WN (Sx.SV.val (Go.Value.bool false))=WN (Sx.SV.val (Go.Value.bool false))from by rfl) (Sx.t2 (show WN (Sx.SV.ptr 0 0)=WN (Sx.SV.ptr 0 0)from by rfl) (show WN (Sx.SV.ptr 1 0)=WN (Sx.SV.ptr 1 0)from by rfl) (WQ (show WN p2=WN p2 from by rfl) (show WN p3=WN p3 from by rfl))) (c30f hx0) (WQ (show WN (Sx.SV.val (Go.Value.bool false))=WN (Sx.SV.val (Go.Value.bool false))from by rfl) (z8f hx0)))))
  |false=>have c30f:=fun(hp:r.okB=true∧r.pos≤ws.length)=>fun W (_:ai [] w W)=>(show Calls prog 83 #[fQ r.val] W (Rn W (.int .i64 190))from by have:=lS r.val (wf hp.1) W;rw[hck]at this;exact this);have c38f:=fun(hp:r.okB=true∧r.pos≤ws.length)=>fun W β hS=>F6 (l:=l) (w:=w) (p2:=p2) (p3:=p3) (gl:=gl) (m:=r.val) (code:=190) hlan hp.2 hn hsz (by rw[up2 hp.1,hck]) W β hS;refine⟨[(11,.ay (KK p2 p3 gl r ws.length)),(21,.is (.bool false)),(30,.call (.int .i64 190)),(37,.is (.int .i64 ((r.pos:Int)+1))),(38,.ay Rz)],false,true,?_⟩;exact WS (by kernel_rfl) (WQ gb (fun(hx0:r.okB=true∧r.pos≤ws.length)=>(Sx.t8 (c21f hx0) (show WN (Sx.SV.val (Go.Value.bool false))=WN (Sx.SV.val (Go.Value.bool false))from by rfl) (Sx.t2 (show WN (Sx.SV.ptr 0 0)=WN (Sx.SV.ptr 0 0)from by rfl) (show WN (Sx.SV.ptr 1 0)=WN (Sx.SV.ptr 1 0)from by rfl) (WQ (show WN p2=WN p2 from by rfl) (show WN p3=WN p3 from by rfl))) (c30f hx0) (show WN (Sx.SV.val (Go.Value.bool true))=WN (Sx.SV.val (Go.Value.bool true))from by rfl) (Sx.t2 (show WN (Sx.SV.ptr 0 0)=WN (Sx.SV.ptr 0 0)from by rfl) (show WN (Sx.SV.ptr 1 0)=WN (Sx.SV.ptr 1 0)from by rfl) (WQ (show WN p2=WN p2 from by rfl) (show WN p3=WN p3 from by rfl))) (c37f hx0) (c38f hx0) (fun(hf:False)=>hf))))
theorem Ry{l:Bs}{w:World}{β:Sx.Env}{st:Sx.St}{a:Act}{w':World}(h:Sx.Hd (Mw w) (Eg l w w.heap.size (w.heap.size+1)) F7 β st a w')(hk:Wl l w.heap.size (w.heap.size+1) .ret st):Leaves prog f40 a.tmps (nh l w) a.defers .returning w':=by obtain⟨m,i,hr,h0,h1,h2,h3⟩:=hk;have r0:β 0=w.heap.size∧aq w' (β 0) 66 m.cells:=h.bO 0 _ h0;have r1:β 1=w.heap.size+1∧aq w' (β 1) 48 [.nilIface]:=h.bO 1 _ h1;have t2:a.tmps[2]?=some ((pt (β 0) 0)):=h.get 2 _ h2;have t3:a.tmps[3]?=some ((pt (β 1) 0)):=h.get 3 _ h3;obtain⟨e0,b0⟩:=r0;obtain⟨e1,b1⟩:=r1;rw[e0]at b0 t2;rw[e1]at b1 t3;rw[h.dn];exact Rx hr b0 b1 h.aF t2 t3
theorem zI{l:Bs}{w:World}{β:Sx.Env}{st:Sx.St}{a a':Act}{w1 w':World}{ops:List Oper}{ch:List PanicEntry}(h:Sx.Hd (Mw w) (Eg l w w.heap.size (w.heap.size+1)) F7 β st a w1)(hs:Nn w.heap.size (w.heap.size+1) st)(hd:a'.defers=Mw w)(hp:VZ l w w.heap.size (w.heap.size+1) ch w')(hc:ai [] w w')(hk:Kept ops a a')(h2:∀o∈ops,o.dst≠some 2)(h3:∀o∈ops,o.dst≠some 3):Leaves prog f40 a'.tmps (nh l w) a'.defers (.panicking ch) w':=by obtain⟨l2,l3,t0,t1⟩:=hs;have e0:=Bg h.bO t0;have e1:=Bg h.bO t1;have g2:a.tmps[2]?=some ((pt (β 0) 0)):=h.get 2 _ l2;have g3:a.tmps[3]?=some ((pt (β 1) 0)):=h.get 3 _ l3;rw[e0]at g2;rw[e1]at g3;rw[hd];exact TH hp hc ((hk 2 h2).trans g2) ((hk 3 h3).trans g3)
theorem ot{ops:Array Oper}{t:Nat}(h:ops.toList.all (fun o=>match o.dst with|some d=>!Nat.beq d t|none=>true)=true):∀o∈ops.toList,o.dst≠some t:=fun o ho he=>by have:=List.all_eq_true.1 h o ho;rw[he]at this;simp at this
theorem TG{l:Bs}{w:World}{H:List (Nat×Sx.Hint)}{b b2:Bool}{β:Sx.Env}{st:Sx.St}{a:Act}{w1:World}(h:Sx.Hd (Mw w) (Eg l w w.heap.size (w.heap.size+1)) F7 β st a w1)(hx:U3 l w w.heap.size (w.heap.size+1) H b b2 st):(vp f40).wp prog (bodyPostD prog f40 (nh l w)) a w1:=by
 have hm:prog.follows .mixedOrders=true:=by kernel_rfl
 have ev:∀{β:Sx.Env} {st:Sx.St} {a:Act} {w1:World} {t:Tmp} {b:Bool},Sx.Hd (Mw w) (Eg l w w.heap.size (w.heap.size+1)) F7 β st a w1→Sx.look st.fr t=some (.val (.bool b))→a.eval (.tmp t)=.bool b:=fun {β st a w1 t b} h hl=>h.eval (x:=.tmp t) hl;have dn:∀{β:Sx.Env} {st:Sx.St} {a:Act} {w1:World} {p p':List PanicEntry→World→Prop},Sx.Hd (Mw w) ⟨w,[],p⟩ F7 β st a w1→Sx.Hd (Mw w) ⟨w,[],p'⟩ F7 β st a w1:=fun h=>⟨h.size,h.dn,h.get,h.bO,h.new,h.inj,h.aF,h.xC,h.uM⟩;rw[OD];refine wp_seq (wp_seq (Code.wp_mono (fun e a2 w2 hq=>?_) (Sx.gy hm _ H [] st _ β a w1 (dn h) hx)));cases e with
 |normal=>
  obtain⟨β2,st2,⟨hb,hk⟩,h2⟩:=hq;have h2:Sx.Hd (Mw w) (Eg l w w.heap.size (w.heap.size+1)) F7 β2 st2 a2 w2:=dn h2;refine wp_cond (t:=b) (ev h2 hb) ?_;cases b with
  |true=>rw[if_pos rfl,TR];exact o7 H h2 hk.2 (fun _ _ _ _ hf _=>hf.elim) fun ch a' w' hd hp hc hkp=>zI h2 hk.1 hd hp hc hkp (ot (by kernel_rfl)) (ot (by kernel_rfl))
  |false=>
   rw[if_neg (by decide)];refine wp_skip (wp_seq (wp_seq ?_));rw[TQ];refine o7 H h2 hk.2 (fun β3 st3 a3 w3 hk3 h3=>?_) fun ch a' w' hd hp hc hkp=>zI h2 hk.1 hd hp hc hkp (ot (by kernel_rfl)) (ot (by kernel_rfl));refine wp_cond (t:=b2) (ev h3 hk3.1) ?_;cases b2 with
   |true=>rw[if_pos rfl,TP];exact o7 H h3 hk3.2.2 (fun _ _ _ _ hf _=>hf.elim) fun ch a' w' hd hp hc hkp=>zI h3 hk3.2.1 hd hp hc hkp (ot (by kernel_rfl)) (ot (by kernel_rfl))
   |false=>
    rw[if_neg (by decide)];refine wp_skip (Code.wp_mono (fun e a4 w4 hq=>?_) (Sx.gy hm _ H [] st3 _ β3 a3 w3 (dn h3) hk3.2));cases e with
    |ret=>obtain⟨β4,st4,hk4,h4⟩:=hq;exact Ry (dn h4) hk4
    |panic ch=>exact hq.2.1.elim
    |_=>obtain⟨_,_,hk4,_⟩:=hq;exact hk4.elim
 |panic ch=>exact hq.2.1.elim
 |_=>obtain⟨_,_,hk4,_⟩:=hq;exact hk4.elim
theorem OB{l:Bs}{w w3:World}{p2 p3 gl n cc:Nat}{A:Option Go.Addr}{ws:List Bs}{m:Mt}(hn:n=ws.length)(b2:aq w3 p2 66 m.cells)(b3:aq w3 p3 48 [.nilIface])(hO:Own w3 9 1 (.slice A n cc) n (ws.map ae))(bL:aq w3 gl 154 [.slice A n cc,.int .i64 0])(hc:ai [] w w3)
  (n2:w.heap.size≤p2) (n3:w.heap.size≤p3) (nl:w.heap.size≤gl) (nA:∀k,A.map (·.block)=some k→w.heap.size≤k) (d1:p2≠p3) (d2:p2≠gl) (d3:p3≠gl):Sx.Rows (Eg l w p2 p3) ⟨fun i=>if i=0 then p2 else if i=1 then p3 else gl,fun _=>A,fun _=>n,fun _=>cc⟩ w3 (nU p2 p3 gl ws m 0):=by
 subst hn;have hA:∀{g T cs},aq w3 g T cs→T≠9→A.map (·.block)=some g→False:=fun hb hT hk=>hO.Ez hb (Ne.symm hT) (by rw[dW];exact hk);refine⟨fun i r hi=>?_,fun i r k hi hk=>?_,fun i j r r' k hi hj hk hk'=>?_,hc⟩
 ·match i,hi with
  | 0,hi=>cases hi;exact⟨rfl,b2⟩
  | 1,hi=>cases hi;exact⟨rfl,b3⟩
  | 2,hi=>cases hi;exact⟨rfl,hO⟩
  | 3,hi=>cases hi;exact⟨rfl,bL⟩
 ·match i,hi with
  | 0,hi=>cases hi;cases hk;exact .inr n2
  | 1,hi=>cases hi;cases hk;exact .inr n3
  | 2,hi=>cases hi;exact .inr (nA k hk)
  | 3,hi=>cases hi;cases hk;exact .inr nl
 ·match i,j,hi,hj with
  | 0,0,_,_=>rfl
  | 1,1,_,_=>rfl
  | 2,2,_,_=>rfl
  | 3,3,_,_=>rfl
  | 0,1,hi,hj=>cases hi;cases hj;cases hk;cases hk';exact absurd rfl d1
  | 1,0,hi,hj=>cases hi;cases hj;cases hk;cases hk';exact absurd rfl d1
  | 0,3,hi,hj=>cases hi;cases hj;cases hk;cases hk';exact absurd rfl d2
  | 3,0,hi,hj=>cases hi;cases hj;cases hk;cases hk';exact absurd rfl d2
  | 1,3,hi,hj=>cases hi;cases hj;cases hk;cases hk';exact absurd rfl d3
  | 3,1,hi,hj=>cases hi;cases hj;cases hk;cases hk';exact absurd rfl d3
  | 0,2,hi,hj=>cases hi;cases hj;cases hk;exact(hA b2 (by decide) hk').elim
  | 2,0,hi,hj=>cases hi;cases hj;cases hk';exact(hA b2 (by decide) hk).elim
  | 1,2,hi,hj=>cases hi;cases hj;cases hk;exact(hA b3 (by decide) hk').elim
  | 2,1,hi,hj=>cases hi;cases hj;cases hk';exact(hA b3 (by decide) hk).elim
  | 3,2,hi,hj=>cases hi;cases hj;cases hk;exact(hA bL (by decide) hk').elim
  | 2,3,hi,hj=>cases hi;cases hj;cases hk';exact(hA bL (by decide) hk).elim
set_option maxHeartbeats 4000000 in
theorem tu(l:Bs)(hl:l.length≤1100000){w:World}(hlan:dO w):Calls prog 40 #[ae l] w (nh l w):=by
 obtain⟨t,ht⟩:∃t:Value,t=ae l:=⟨_,rfl⟩;have HT:Hid (t=ae l):=hid ht;rw[←ht];clear ht;have hmf:∀(fn:Fn) (first cap:Array Value) (w:World),(Instr.makeFunc fn first cap).run prog w=.ok (.func fn first cap) w:=fun _ _ _ _=>rfl;obtain⟨n,hn⟩:∃n,n=(aE false l).length:=⟨_,rfl⟩;obtain⟨xs,hxs⟩:∃xs,xs=(aE false l).map ae:=⟨_,rfl⟩;have HW:Hid (∀W,Calls prog 90 #[t,.bool false] W (Sx.dM W (.sl 9 1 n xs))):=hid fun W=>by rw[HT.out,hn,hxs];exact(FG W l false hl).mono fun _ _ ⟨_,_,he,hO,hA,hC⟩=>⟨_,he,hO,fun k hk=>hA k ((dW _ _ _).symm.trans hk),hC⟩
 have HN:=hid hn;have HX:=hid hxs;have HLAN:=hid hlan;clear hn hxs hlan;go_enter_defers func40,ntmps40
 go_upto_region 3 with(go_at_call 90;refine(HW.out _).mono ?_;intro e w2 hp;obtain⟨sv,he,hacc⟩:=hp;obtain⟨A,cc,hsv,_,_⟩:=hacc.own.form;subst hsv;subst he)
 rename_i K1 hK1 K2 hK2;obtain⟨w1,hw1⟩:∃w1,w1=(w.alloc (.cells ei.cells.toArray 66)).alloc (.cells #[.nilIface] 48):=⟨_,rfl⟩;have C1:ai [] w w1:=by rw[hw1];exact((ai.refl [] w).alloc _).alloc _
 have z1:w1.heap.size=w.heap.size+2:=by rw[hw1];simp
 have B2:aq w1 w.heap.size 66 ei.cells:=by rw[hw1];exact(aq.new w 66 ei.cells.toArray).aF ((ai.refl [] _).alloc _) (by simp)
 have B3:aq w1 (w.heap.size+1) 48 [.nilIface]:=by rw[hw1];have:=aq.new (w.alloc (.cells ei.cells.toArray 66)) 48 #[.nilIface];simpa using this
 have hacc2:Acc w1 w2 9 1 (.slice A n cc) n xs:=by rw[hw1];exact hacc
 clear hacc;obtain⟨w3,hw3⟩:∃w3,w3=w2.alloc (.cells #[.slice A n cc,.int .i64 0] 154):=⟨_,rfl⟩;have C3:ai [] w2 w3:=by rw[hw3];exact(ai.refl [] w2).alloc _
 have BL:aq w3 w2.heap.size 154 [.slice A n cc,.int .i64 0]:=by rw[hw3];exact aq.new w2 154 #[.slice A n cc,.int .i64 0]
 rw[←hw3];clear hw1 hw3;have C13:=hacc2.aF.trans C3;have C03:ai [] w w3:=C1.trans C13;have z2:=hacc2.aF.size;have hR:=OB (l:=l) (m:=ei) HN.out (B2.aF C13 (by simp)) (B3.aF C13 (by simp)) (by rw[←HX.out];exact hacc2.own.aF C3 (by simp)) BL C03 (W5 _) (Nat.le_succ _) (by omega) (fun k hk=>by have:=hacc2.new k ((dW _ _ _).trans hk);omega) (by omega) (by omega) (by omega);obtain⟨H,b,b2,hx⟩:=OE l w w.heap.size (w.heap.size+1) w2.heap.size HLAN.out hl;have hd0:=GJ (ds:=Mw w) (n:=F7) (fr:=OF) (tmps:=#[t,undef,WV (some ⟨w.heap.size,0,none⟩),WV (some ⟨w.heap.size+1,0,none⟩),WV (some ⟨w2.heap.size,0,none⟩),t,W4 A n cc,Value.agg #[W4 A n cc,W8 IntKind.i64 0],WV (some ⟨w2.heap.size,0,none⟩),Value.func (Fn.func 91) #[] #[WV (some ⟨w.heap.size,0,none⟩),WV (some ⟨w.heap.size+1,0,none⟩)],undef,undef,undef,undef,undef,undef,undef,undef,undef,undef,undef,undef,undef,undef,undef,undef,undef,undef,undef,undef,undef,undef,undef,undef,undef,undef,undef,undef,undef,undef]) hR (by kernel_rfl) (fun p hp=>by simp[OF]at hp;rcases hp with rfl|rfl|rfl<;>rfl) rfl;have hs:Nn w.heap.size (w.heap.size+1) ⟨OF,nU w.heap.size (w.heap.size+1) w2.heap.size (aE false l) ei 0⟩:=⟨rfl,rfl,rfl,rfl⟩;have hc3:=TS;refine(show Code.wp prog (.region 3 (sG (T0 f40)) false) (Exit.then K2 (bodyPostD prog f40 (nh l w))) _ w3 from ?_);refine o7 H hd0 hx (fun β' st' a' w' hk h'=>hK2 a' w' (TG h' hk)) fun ch a' w' hd hp hc hkp=>?_;exact zI hd0 hs hd hp hc hkp (ot (by kernel_rfl)) (ot (by kernel_rfl))
set_option maxRecDepth 100000
open Go Go.RowKit Go.Extern.Stop Go.Stop Go.Extern _root_.Go.Proofs.Tryz
set_option maxRecDepth 100000
theorem ES(v:Value)(w:World):(ReflectliteType.typeOf #[.iface 25 v]).run prog w=.ok (.iface 242 (.agg #[(pt 9 25)])) w:=by kernel_rfl
theorem wm(w:World):((ReflectliteType.method fun t=>do Rtype.noPackHeld "Comparable" t;(fun a=>WO a.comparable) <$> typeInfo t) #[.agg #[(pt 9 25)]]).run prog w=.ok (.bool true) w:=by kernel_rfl
theorem qA(v:Value)(w:World):(Go.method 430 242 v "Comparable").run prog w=.ok (274,v) w:=by kernel_rfl
theorem Ur(v:Value)(xT:TypeId)(w:World):(Instr.typeAssert (.iface 103 v) xT 257 true).run prog w=.ok (.tuple #[.nilIface,.bool false]) w:=run_typeAssert_lacksB underlying257 (by kernel_rfl) (by kernel_rfl) v xT w
theorem EU(v:Value)(xT:TypeId)(w:World):(Instr.typeAssert (.iface 103 v) xT 249 true).run prog w=.ok (.tuple #[.iface 103 v,.bool true]) w:=run_typeAssert_hasB underlying249 (by kernel_rfl) v xT w
theorem xJ(v:Value)(w:World):(Go.method 430 103 v "Unwrap").run prog w=.ok (267,v) w:=by kernel_rfl
set_option maxHeartbeats 1100000 in
theorem JX(N:Nat)(code:Int)(w:World)(h1:w.cell? ⟨N,0,none⟩=some (.int .i64 code)) :
  Calls prog 267 #[.pointer (some ⟨N,0,none⟩)] w fun e w'=>e=.returned (.iface 25 (.int .i64 code))∧w'=w:=by
 have hs:(prog.info? 105).map (·.size)=some 2:=by kernel_rfl
 obtain⟨j,hj,hjs⟩:=W2.1 hs;go_enter func267,ntmps267
 go_wp2
 go_ret
 exact⟨rfl,rfl⟩
set_option maxHeartbeats 4000000 in
theorem Pz(N:Nat)(code:Int)(w:World)(h1:w.cell? ⟨N,0,none⟩=some (.int .i64 code)) :
  Calls prog 66 #[.iface 103 (.pointer (some ⟨N,0,none⟩)),.iface 25 (.int .i64 code)] w fun e w'=>e=.returned (.bool true)∧w'=w:=by
 have h8:=@run_callFunc_extern prog 139 _ ReflectliteType.typeOf func139 (by kernel_rfl) (by kernel_rfl) (by kernel_rfl) (by kernel_rfl);have h32:=@run_callFunc_extern prog 274 _ (ReflectliteType.method fun t=>do Rtype.noPackHeld "Comparable" t;pure (.bool (←typeInfo t).comparable)) func274 (by kernel_rfl) (by kernel_rfl) (by kernel_rfl) (by kernel_rfl);have tT:=ES;have cT:=wm;have mR:=qA;have nW:=Ur;have uW:=EU;have mU:=xJ;have hs:(prog.info? 105).map (·.size)=some 2:=by kernel_rfl
 obtain⟨j,hj,hjs⟩:=W2.1 hs;have heq:(binOp .eql 48 (.iface 25 (.int .i64 code)) (.iface 25 (.int .i64 code))).run prog w=.ok (.bool true) w:=by rw[Lib.run_eql_iface_int (P:=prog) w code code underlying48 (by kernel_rfl) underlying25];simp
 have hty:=run_eql_iface_types (P:=prog) 103 25 (.pointer (some ⟨N,0,none⟩)) (.int .i64 code) underlying48 (by decide) w;go_enter func66,ntmps66
 go_wp2
 refine wp_loop_rounds 2 ?_;rw[rounds_succ];have HU:=hid (JX N code w h1);go_wp2_with (go_at_call 267;refine HU.out.mono ?_;rintro e w2 ⟨rfl,rfl⟩)
 rw[rounds_succ];go_wp2
 go_ret
 exact⟨rfl,rfl⟩
set_option maxRecDepth 100000
open Go Go.RowKit Go.Lib Go.Sort _root_.Go.Proofs.Tryz
def sa(code place:Nat):List Value:=[.int .i64 (code:Int),.int .i64 (place:Int)]
theorem PA{b:Sx.aV}{mem:List Sx.Row}{N:Nat}{code place:Nat}(hk:mem[0]?=some ⟨105,.cR N (sa code place)⟩)(m:Nat)(W:World)(β:Sx.Env)(hS:Sx.eM b β W (Sx.rowAt mem) [0]) :
  Calls prog 66 (([.kI 103 0 0,.val (.iface 25 (.int .i64 (code:Int)))]:List Sx.SV).map (Sx.SV.den β)).toArray W (Sx.br b β W (Sx.rowAt mem) m ⟨[0],[],[],[],.val (.bool true),none⟩):=by
 have hB2:aq W (β 0) 105 (sa code place):=(hS.held 0 (by simp) _ hk).2;exact(Pz (β 0) (code:Int) W (hB2.cell_of rfl)).mono fun e w' ⟨he,hw⟩=>.inl ⟨fun p hp=>(by cases hp),β,Sx.dt (v:=.bool true) rfl rfl he (fun q hq=>by cases hq) (by rw[hw];exact ai.refl _ _)⟩
def VX(N code place:Nat)(l:List Sx.SV)(mem:List Sx.Row):Prop:=∃k:Nat,k=0∧l=[.val (.int .i64 (code:Int)),.val (.int .i64 (place:Int))]∧mem[k]?=some ⟨105,.cR N (sa code place)⟩
theorem Rf(N code place:Nat)(w:World)(hlan:ly w)(h9:9≤N)(hb:aq w N 105 (sa code place)):Calls prog 24 #[.iface 103 (.pointer (some ⟨N,0,none⟩))] w (Sx.dc ⟨w,[N],fun _ _=>False⟩ (VX N code place)):=by
 have hR:Sx.Rows ⟨w,[N],fun _ _=>False⟩ (Sx.cV [.bO N 105 (sa code place)]) w [⟨105,.cR N (sa code place)⟩]:=Sx.gM (w:=w) (S:=[N]) (PP:=fun _ _=>False) (G:=[.bO N 105 (sa code place)]) (fun q hq=>by rw[WR.1 hq];exact hb) (fun q hq k hk=>by rw[WR.1 hq]at hk;cases hk;simp) (by simp[Sx.kV.block]);have c9:=fun W β (hS:Sx.eM ⟨w,[N],fun _ _=>False⟩ β W (Sx.rowAt [⟨105,.cR N (sa code place)⟩,⟨103,.aj [.pointer none]⟩]) [1])=>G6 (m:=2) (k:=1) (N:=0) hlan (fun k hk=>by rw[WR.1 hk];exact h9) rfl W β hS;have c22:=fun W β (hS:Sx.eM ⟨w,[N],fun _ _=>False⟩ β W (Sx.rowAt [⟨105,.cR N (sa code place)⟩,⟨103,.dC [.ptr 0 0]⟩]) [0])=>PA (N:=N) (code:=code) (place:=place) rfl 2 W β hS;have z0:VX N code place [.val (.int .i64 (code:Int)),.val (.int .i64 (place:Int))] [⟨105,.cR N (sa code place)⟩,⟨103,.dC [.ptr 0 0]⟩]:=⟨0,rfl,rfl,rfl⟩;have hh:Calls prog 24 (([.kI 103 0 0]:List Sx.SV).map (Sx.SV.den (Sx.cV [.bO N 105 (sa code place)]))).toArray w (Sx.dc ⟨w,[N],fun _ _=>False⟩ (VX N code place)):=by refine Sx.b6 (args:=[.kI 103 0 0]) hR [(9,.ay ⟨[1],[(1,⟨103,.dC [.ptr 0 0]⟩)],[],[],.val (.bool true),none⟩),(22,.ay ⟨[0],[],[],[],.val (.bool true),none⟩)] [] (by kernel_rfl) func24 rfl (bU rfl) rfl ?_;exact WS (by kernel_rfl) (Sx.t2 c9 c22 z0)
 exact hh
def J6(j code place:Nat):Sx.ct:=⟨[j],[(j,⟨105,.aj (sa code place)⟩)],[],[],.val (.tuple #[.int .i64 (code:Int),.int .i64 (place:Int)]),none⟩
theorem xX{b:Sx.aV}{row:Nat→Option Sx.Row}{j m code place:Nat}(hlan:ly b.w)(h9:∀k∈b.S,9≤k)(hj:row j=some ⟨105,.aj (sa code place)⟩)(W:World)(β:Sx.Env)(hS:Sx.eM b β W row [j]) :
  Calls prog 24 (([.kI 103 j 0]:List Sx.SV).map (Sx.SV.den β)).toArray W (Sx.br b β W row m (J6 j code place)):=by
 have hB:aq W (β j) 105 (sa code place):=hS.held j (by simp) _ hj;have h9':9≤β j:=by
  rcases hS.new j (by simp) _ (β j) hj rfl with h|h
  ·exact h9 _ h
  ·have:=hlan.uB.low;omega
 refine(Rf (β j) code place W (hlan.aF hS.aF h9) h9' hB).mono fun en w' hp=>?_;rcases hp with⟨β',l,mem,⟨k,rfl,rfl,hk⟩,he,hR⟩ | ⟨_,_,hf,_⟩
 ·have r:=hR.held 0 _ hk
  have e:β' 0=β j:=r.1;refine .inl ⟨fun p hp=>(by cases hp),β,Sx.dt (v:=.tuple #[.int .i64 (code:Int),.int .i64 (place:Int)]) rfl rfl he (fun q hq=>?_) (hR.aF.mono fun x hx=>.inl ?_)⟩
  ·have hq:q=(j,⟨105,.aj (sa code place)⟩):=WR.1 hq
   subst hq;show aq w' (β j) 105 (sa code place);rw[←e];exact r.2
  ·show x∈([j]++[]).filterMap (Sx.b8 β row)
   refine W6.2 ⟨j,by simp,?_⟩;unfold Sx.b8;rw[hj,WR.1 hx];rfl
 ·exact hf.elim
set_option maxRecDepth 100000
open Go Go.RowKit Go.Lib Go.Sort _root_.Go.Proofs.Tryz
def JJ(ws:List Bs)(l:List Sx.SV)(mem:List Sx.Row):Prop:=(ws=[]∧l=[.val (.slice none 0 0)])∨∃k,ws≠[]∧l=[.nO k 0 ws.length ws.length]∧mem[k]?=some ⟨9,.aj (strs ws)⟩
def kX(ws:List Bs)(w:World)(e:Ending)(w':World):Prop:=ai [] w w'∧((ws=[]∧e=.returned (.slice none 0 0))∨(ws≠[]∧∃b,w.heap.size≤b∧e=.returned (.slice (some ⟨b,0,none⟩) ws.length ws.length)∧aq w' b 9 (strs ws)))
theorem kX.iy{ws:List Bs}{w:World}{en:Ending}{w':World}(h:Sx.dc ⟨w,[],fun _ _=>False⟩ (JJ ws) en w'):kX ws w en w':=by
 rcases h with⟨β,l,mem,⟨h0,rfl⟩ | ⟨k,h0,rfl,hk⟩,he,hR⟩ | ⟨_,_,hf,_⟩
 ·exact⟨hR.aF,.inl ⟨h0,he⟩⟩
 ·have r:=hR.held k _ hk
  have hn:=hR.new k _ (β k) hk rfl;refine⟨hR.aF,.inr ⟨h0,β k,?_,he,r⟩⟩;rcases hn with h|h
  ·cases h
  ·exact h
 ·exact hf.elim
theorem iO(w:World):Sx.Rows ⟨w,[],fun _ _=>False⟩ (Sx.cV []) w []:=Sx.gM (w:=w) (S:=[]) (PP:=fun _ _=>False) (G:=[]) (fun q hq=>by cases hq) (fun q hq=>by cases hq) (by simp)
theorem DD(act out:Int)(h0 : -9223372036854775808≤out)(h1:out≤9223372036854775807)(w:World)(hl:dO w):Calls prog 75 #[.int .i64 act,.int .i64 out] w (kX (bj act out) w):=by
 by_cases a1:act=1
 ·have c7:WO (act==1)=.bool true:=qI (by rw[a1];rfl)
  rw[show bj act out=[dI] by unfold bj;rw[if_pos a1]];have z0:JJ [dI] [.nO 0 0 1 1] [⟨9,.aj [ae dI]⟩]:=.inr ⟨0,by simp,rfl,rfl⟩;refine(Sx.b6 (args:=[.val (.int .i64 act),.val (.int .i64 out)]) (iO w) [(7,.is (.bool true))] [] (by kernel_rfl) func75 rfl (bU rfl) rfl ?_).mono fun en w' hp=>kX.iy hp;exact WS (by kernel_rfl) (WQ c7 z0)
 have c7:WO (act==1)=.bool false:=qa (beq_eq_false_iff_ne.2 a1);by_cases a2:act=2
 ·have c10:WO (act==2)=.bool true:=qI (by rw[a2];rfl)
  rw[show bj act out=[nq] by unfold bj;rw[if_neg a1,if_pos a2]];have z0:JJ [nq] [.nO 0 0 1 1] [⟨9,.aj [ae nq]⟩]:=.inr ⟨0,by simp,rfl,rfl⟩;refine(Sx.b6 (args:=[.val (.int .i64 act),.val (.int .i64 out)]) (iO w) [(7,.is (.bool false)),(10,.is (.bool true))] [] (by kernel_rfl) func75 rfl (bU rfl) rfl ?_).mono fun en w' hp=>kX.iy hp;exact WS (by kernel_rfl) (Sx.t2 c7 c10 z0)
 have c10:WO (act==2)=.bool false:=qa (beq_eq_false_iff_ne.2 a2);by_cases a3:act=3
 ·have c13:WO (act==3)=.bool true:=qI (by rw[a3];rfl)
  rw[show bj act out=[qz,da out] by unfold bj;rw[if_neg a1,if_neg a2,if_pos a3]];have c15:=fun W (hW:ai [] w W)=>oB out h0 h1 W (hl.dm hW);have z0:JJ [qz,da out] [.nO 0 0 2 2] [⟨9,.aj [ae qz,ae (da out)]⟩]:=.inr ⟨0,by simp,rfl,rfl⟩;refine(Sx.b6 (args:=[.val (.int .i64 act),.val (.int .i64 out)]) (iO w) [(7,.is (.bool false)),(10,.is (.bool false)),(13,.is (.bool true)),(15,.call (ae (da out)))] [] (by kernel_rfl) func75 rfl (bU rfl) rfl ?_).mono fun en w' hp=>kX.iy hp;exact WS (by kernel_rfl) (Sx.t4 c7 c10 c13 c15 z0)
 have c13:WO (act==3)=.bool false:=qa (beq_eq_false_iff_ne.2 a3);by_cases a4:act=4
 ·have c18:WO (act==4)=.bool true:=qI (by rw[a4];rfl)
  rw[show bj act out=[gW] by unfold bj;rw[if_neg a1,if_neg a2,if_neg a3,if_pos a4]];have z0:JJ [gW] [.nO 0 0 1 1] [⟨9,.aj [ae gW]⟩]:=.inr ⟨0,by simp,rfl,rfl⟩;refine(Sx.b6 (args:=[.val (.int .i64 act),.val (.int .i64 out)]) (iO w) [(7,.is (.bool false)),(10,.is (.bool false)),(13,.is (.bool false)),(18,.is (.bool true))] [] (by kernel_rfl) func75 rfl (bU rfl) rfl ?_).mono fun en w' hp=>kX.iy hp;exact WS (by kernel_rfl) (Sx.t4 c7 c10 c13 c18 z0)
 have c18:WO (act==4)=.bool false:=qa (beq_eq_false_iff_ne.2 a4);rw[show bj act out=[] by unfold bj;rw[if_neg a1,if_neg a2,if_neg a3,if_neg a4]];have z0:JJ [] [.val (.slice none 0 0)] []:=.inl ⟨rfl,rfl⟩;refine(Sx.b6 (args:=[.val (.int .i64 act),.val (.int .i64 out)]) (iO w) [(7,.is (.bool false)),(10,.is (.bool false)),(13,.is (.bool false)),(18,.is (.bool false))] [] (by kernel_rfl) func75 rfl (bU rfl) rfl ?_).mono fun en w' hp=>kX.iy hp;exact WS (by kernel_rfl) (Sx.t4 c7 c10 c13 c18 z0)
theorem AW(ws:List Bs)(n m:Nat)(hm:ws.length=m)(hn:n+m≤1000):True∧(strs ws).length=m*1∧(∀u∈strs ws,u.oneCell'=true)∧n+m≤maxLen∧(n+m)*16≤140737488355328:=by refine⟨trivial,by rw[q5,hm,Xk],fun u hu=>?_,by unfold maxLen;omega,by omega⟩;obtain⟨l,_,rfl⟩:=List.mem_map.1 hu;rfl
theorem DF{b:Sx.aV}{act out:Int}(ha:bj act out=[])(h0 : -9223372036854775808≤out)(h1:out≤9223372036854775807)(hl:∀W,ai b.S b.w W→dO W)(W:World)(hW:ai b.S b.w W):Calls prog 75 #[.int .i64 act,.int .i64 out] W (Rn W (.slice none 0 0)) :=
 (DD act out h0 h1 W (hl W hW)).mono fun en w' ⟨hc,h⟩=>by
  rcases h with⟨_,he⟩ | ⟨hne,_⟩
  ·exact⟨he,hc⟩
  ·exact absurd ha hne
def Nj(m n:Nat)(cs:List Value):Sx.ct:=⟨[],[],[],[⟨9,.aj cs⟩],.nO m 0 n n,none⟩
theorem DE{b:Sx.aV}{row:Nat→Option Sx.Row}{m:Nat}{act out:Int}{ws:List Bs}(ha:bj act out=ws)(hne:ws≠[])(h0 : -9223372036854775808≤out)(h1:out≤9223372036854775807)(hl:∀W,ai b.S b.w W→dO W)(W:World)(β:Sx.Env)(hS:Sx.eM b β W row []) :
  Calls prog 75 (([.val (.int .i64 act),.val (.int .i64 out)]:List Sx.SV).map (Sx.SV.den β)).toArray W (Sx.br b β W row m (Nj m ws.length (strs ws))):=by
 refine(DD act out h0 h1 W (hl W hS.aF)).mono fun en w' ⟨hc,h⟩=>?_;rw[ha]at h;rcases h with⟨he,_⟩ | ⟨_,k,hk,he,hb⟩
 ·exact absurd he hne
 ·refine .inl ⟨fun p hp=>(by cases hp),β.de m k,fun i hi=>⟨?_,rfl,rfl,rfl⟩,?_,fun q hq=>(by cases hq),fun i r hr=>?_,fun i r x hr hx=>?_,fun i i' r r' x hr hr' _ _=>?_,hc⟩
  ·show β i=if i=m then k else β i
   rw[if_neg (by omega)]
  ·rw[he]
   show Ending.returned (.slice (some ⟨k,0,none⟩) ws.length ws.length)=.returned (.slice (some ⟨if m=m then k else β m,0,none⟩) ws.length ws.length);rw[if_pos rfl]
  ·match i,hr with
   | 0,hr=>cases hr;show aq w' (if m+0=m then k else β (m+0)) 9 (strs ws);rw[Xi,if_pos rfl];exact hb
  ·match i,hr with
   | 0,hr=>cases hr;have hx:some (if m+0=m then k else β (m+0))=some x:=hx;rw[Xi,if_pos rfl]at hx;cases hx;exact .inr hk
  ·match i,i',hr,hr' with
   | 0,0,_,_=>rfl
theorem O4{w:World}{b T n:Nat}{cs:List Value}(h:aq w b T cs)(hn:cs.length=n)(hm:n≤maxLen):Own w T 1 (.slice (some ⟨b,0,none⟩) n n) n cs:=
 ⟨by rw[hn,Xk],.inr ⟨b,0,n,cs,rfl,h,W5 _,hm,by omega,by rw[Xg,W9 (by omega)]⟩⟩
theorem yC{b:Sx.aV}{row:Nat→Option Sx.Row}{i j k m:Nat}{og:Option Nat}{p:Bool}{tx:Bs}{e:Int}(ws:List Bs)(h:oR row i j og p tx e)(hi:i < m)(hj:j < m)(rk:row k=some ⟨9,.own 1 ws.length (strs ws)⟩)(hn:ws.length≤1100000)(hl:tx.length+(jh ws).length≤140737488355328)
  (W:World) (β:Sx.Env) (hS:Sx.eM b β W row [i,j,k]) :
  Calls prog 70 (([.ptr i 0,.own k]:List Sx.SV).map (Sx.SV.den β)).toArray W (Sx.br b β W row m (Be [k] i j m og (tx++jh ws) e (.tuple #[]))):=by
 obtain⟨ht,hg⟩:=qg hS h (by simp) (by simp);have h2:β.n k=ws.length∧Own W 9 1 (.slice (β.a k) ws.length (β.c k)) ws.length (strs ws):=hS.held k (by simp) _ rk;show Calls prog 70 #[.pointer (some ⟨β i,0,none⟩),.slice (β.a k) (β.n k) (β.c k)] W _;rw[h2.1];exact(Gz ws ht h2.2 (by omega) hl).mono fun en w' hp=>uo h hi hj hg hp
theorem LN{b:Sx.aV}{row:Nat→Option Sx.Row}{i j k m:Nat}{og:Option Nat}{p:Bool}{tx:Bs}{e:Int}(ws:List Bs)(h:oR row i j og p tx e)(hi:i < m)(hj:j < m)(rk:row k=some ⟨9,.aj (strs ws)⟩)(hn:ws.length≤1100000)(hl:tx.length+(jh ws).length≤140737488355328)
  (W:World) (β:Sx.Env) (hS:Sx.eM b β W row [i,j,k]) :
  Calls prog 70 (([.ptr i 0,.nO k 0 ws.length ws.length]:List Sx.SV).map (Sx.SV.den β)).toArray W (Sx.br b β W row m (Be [k] i j m og (tx++jh ws) e (.tuple #[]))):=by
 obtain⟨ht,hg⟩:=qg hS h (by simp) (by simp);have h2:aq W (β k) 9 (strs ws):=hS.held k (by simp) _ rk;exact(Gz ws ht (O4 h2 (q5 ws) (by unfold maxLen;omega)) (by omega) hl).mono fun en w' hp=>uo h hi hj hg hp
theorem Qs{a o:Int}(h:bj a o=[]):oQ a o=false:=by
 unfold bj at h;unfold oQ;by_cases a1:a=1
 ·rw[if_pos a1]at h;cases h
 by_cases a2:a=2
 ·rw[if_neg a1,if_pos a2]at h;cases h
 by_cases a3:a=3
 ·rw[if_neg a1,if_neg a2,if_pos a3]at h;cases h
 by_cases a4:a=4
 ·rw[if_neg a1,if_neg a2,if_neg a3,if_pos a4]at h;cases h
 have:(decide (1≤a)&&decide (a≤4))=false:=by rw[Bool.and_eq_false_iff,decide_eq_false_iff_not,decide_eq_false_iff_not];omega
 rw[this];rfl
theorem Nh{a o:Int}{x:Bs}{l:List Bs}(h:bj a o=x::l):(decide (1≤a)&&decide (a≤4))=true:=by
 unfold bj at h;rw[Bool.and_eq_true,decide_eq_true_iff,decide_eq_true_iff];by_cases a1:a=1
 ·omega
 by_cases a2:a=2
 ·omega
 by_cases a3:a=3
 ·omega
 by_cases a4:a=4
 ·omega
 rw[if_neg a1,if_neg a2,if_neg a3,if_neg a4]at h;cases h
set_option maxRecDepth 100000
open Go Go.RowKit Go.Lib Go.Sort _root_.Go.Proofs.Tryz
abbrev Re(w:World)(g:Nat)(A:Option Go.Addr):Sx.aV:=⟨w,qY g A,fun _ _=>False⟩
abbrev rL(g:Nat)(p:Bool)(tx:Bs)(r:Rl)(e:Int)(mem:List Sx.Row):List Sx.Row:=jx (some g) [.eB p 0 0,.own 1,.val (.int .i64 e)]::⟨5,.own 1 tx.length (sb tx)⟩::⟨81,.aj r.cells⟩::mem
abbrev rD(g M:Nat)(tx F:Bs)(r:Rl)(e:Int)(mem:List Sx.Row):List Sx.Row:=jx (some g) [.eB true 0 0,.own M,.val (.int .i64 e)]::Sx.au::⟨81,.aj r.cells⟩::(mem++[⟨5,.own 1 (tx++F).length (sb (tx++F))⟩])
abbrev rF(r:Rl)(l:List Bs):List Bs:=gV::r.name::Ld r.mt::yF::l
abbrev wH(g:Nat)(p:Bool)(e:Int):Sx.Hint:=.ay (lB [] 0 1 (some g) p e)
abbrev WI(w:World)(g:Nat)(A:Option Go.Addr)(tx:Bs)(r:Rl)(F:List Bs)(e:Int):Prop:=Calls prog 74 #[(pt g 0),.agg r.cells.toArray] w (ng g A (.tuple #[]) (tx++jh F) e w)
abbrev Wu(g:Nat)(p:Bool)(r:Rl)(b1 b2:Bool)(ck e1 e2:Int)(l:List (Nat×Sx.Hint)):List (Nat×Sx.Hint):=(11,.call (.bool b1))::(16,.call (.tuple #[ae (Ld r.mt),.int .i64 ck]))::(21,.is (.bool b2))::(12,wH g p e1)::(22,wH g p e2)::l
abbrev WG(tx:Bs)(F:List Bs):Prop:=tx.length+(jh F).length≤140737488355328
structure VY(w:World)(g:Nat)(p:Bool)(A:Option Go.Addr)(tx:Bs)(r:Rl)(b1 b2 b4 b5 bo:Bool)(ck e e1 e2 e3 e4 e5:Int):Prop where
 hl:∀W,ai (qY g A) w W→dO W
 gb:∀W,ai (qY g A) w W→Calls prog 33 #[ae r.name] W (Rn W (.bool b1))
 jM:∀W,ai (qY g A) w W→Calls prog 31 #[.agg r.mt.cells.toArray] W (Rn W (.tuple #[ae (Ld r.mt),.int .i64 ck]))
 c21:WO (ck==0)=.bool b2
 h1:e1=aW b1 201 e
 h2:e2=aW b2 190 e1
 h3:e3=aW bo 2 e2
 h4:e4=aW b4 201 e3
 h5:e5=aW b5 201 e4
 o0 : -9223372036854775808≤r.out
 o1:r.out≤9223372036854775807
theorem uN(w:World)(g:Nat)(p:Bool)(A:Option Go.Addr)(tx:Bs)(r:Rl){e e':Int}{b:Bool}{code:Int}(m:Nat)(mem:List Sx.Row)(he:e'=aW b code e)(W:World)(β:Sx.Env)(hS:Sx.eM (Re w g A) β W (Sx.rowAt (rL g p tx r e mem)) [0,1]):Calls prog 69 (([.ptr 0 0,.val (.bool b),.val (.int .i64 code)]:List Sx.SV).map (Sx.SV.den β)).toArray W (Sx.br (Re w g A) β W (Sx.rowAt (rL g p tx r e mem)) m (lB [] 0 1 (some g) p e')):=by rw[he];exact sd b code ⟨rfl,rfl⟩ W β hS
theorem Sc(w:World)(g:Nat)(p:Bool)(A:Option Go.Addr)(tx:Bs)(r:Rl)(e:Int)(mem:List Sx.Row)(k m:Nat)(ws:List Bs)(hm:1 < m)(rk:Sx.rowAt (rL g p tx r e mem) k=some ⟨9,.own 1 ws.length (strs ws)⟩)(hn:ws.length≤1100000)(hl:tx.length+(jh ws).length≤140737488355328)(W:World)(β:Sx.Env)(hS:Sx.eM (Re w g A) β W (Sx.rowAt (rL g p tx r e mem)) [0,1,k]) :
  Calls prog 70 (([.ptr 0 0,.own k]:List Sx.SV).map (Sx.SV.den β)).toArray W (Sx.br (Re w g A) β W (Sx.rowAt (rL g p tx r e mem)) m (Be [k] 0 1 m (some g) (tx++jh ws) e (.tuple #[]))):=
 yC (p:=p) ws ⟨rfl,rfl⟩ (by omega) hm rk hn hl W β hS
theorem G8(P:World→Prop)(n:Nat)(hn:n≤1000):(∀W,P W→∃A c,W4 none 0 0=.slice A 0 c∧(0 < ([]:List Value).length→∃ad,A=some ad∧∀(j:Nat) (u:Value),([]:List Value)[j]?=some u→W.cell? (ad.add j)=some u))∧([]:List Value).length=0*1∧(∀u∈([]:List Value),u.oneCell'=true)∧n+0≤maxLen∧(n+0)*16≤140737488355328:=
 ⟨fun _ _=>⟨none,0,rfl,fun hh=>absurd hh (Nat.lt_irrefl _)⟩,rfl,fun u hu=>(by cases hu),by unfold maxLen;omega,by omega⟩
theorem se(n:Nat){x:Bs}{b:Bool}(h:decide (x=[])=b)(W:World):(do eqGuard .eql 9 (.tmp n) (.const (ae [])) (ae x) (ae []);binOp .eql 9 (ae x) (ae []):Sem Value).run prog W=.ok (.bool b) W:=eX (.tmp n) (.const (ae [])) x [] b h W
theorem sn(n:Nat){x:Bs}{b:Bool}(h:decide (x=[])=!b)(W:World):(do eqGuard .neq 9 (.tmp n) (.const (ae [])) (ae x) (ae []);binOp .neq 9 (ae x) (ae []):Sem Value).run prog W=.ok (.bool b) W:=
 (uq (.tmp n) (.const (ae [])) x [] W).trans (by rw[show decide (x≠[])=b from by rw[decide_not,h,Xc]])
def bP(b x:Bool):Bool:=match b with
 |true=>true
 |false=>x
def bQ(na bg bz bo:Bool):Bool:=match na with
 |true=>false
 |false=>match bg with
  |false=>false
  |true=>bP bz bo
def n2(b:Bool)(n:Nat):Nat:=match b with
 |true=>n
 |false=>n+2
def x2(b:Bool)(xs ys:List Value):List Value:=match b with
 |true=>xs
 |false=>xs++ys
def ra(na:Bool)(L:List Bs):List Sx.Row:=match na with
 |true=>[]
 |false=>[⟨9,.aj (strs L)⟩]
def jz(b:Bool)(ws:List Bs)(l:List Sx.Row):List Sx.Row:=match b with
 |true=>l
 |false=>Sx.au::⟨9,.aj (strs ws)⟩::l
def sL(L:List Bs):List Value:=((strs L).drop 0).take (L.length*1)
theorem F0(L:List Bs):sL L=strs L:=by unfold sL;rw[Xg,W9 (by simp[strs])]
def S9(r:Rl)(L:List Bs)(bm bi:Bool):Sx.Row:=⟨9,.own 1 (n2 bi (n2 bm (4+L.length))) (x2 bi (x2 bm (strs [gV,r.name,Ld r.mt,yF]++sL L) (strs [bY,r.dE])) (strs [bu,r.cx]))⟩
def Vs(na:Bool)(r:Rl)(L:List Bs)(bm bi:Bool)(l:List Sx.Row):List Sx.Row:=ra na L++(Sx.au::jz bm [bY,r.dE] (jz bi [bu,r.cx] l))
def Ta(na bm bi:Bool):Nat:=n2 bi (n2 bm (match na with|true=>4|false=>5))
def TD(b:Bool)(k s:Bs):List Bs:=match b with
 |true=>[]
 |false=>[k,s]
def JK(r:Rl)(L:List Bs)(bm bi:Bool):List Bs:=rF r (L++(TD bm bY r.dE++TD bi bu r.cx))
theorem Ru(r:Rl)(L:List Bs)(bm bi:Bool):S9 r L bm bi=⟨9,.own 1 (JK r L bm bi).length (strs (JK r L bm bi))⟩:=by unfold S9 JK rF;rw[F0];cases bm<;>cases bi<;>simp[n2,x2,TD,strs,Xj,Nat.add_left_comm]<;>omega
def VU(na:Bool)(w:World)(S:List Nat)(L:List Bs):Prop:=match na with
 |true=>(∀W,ai S w W→∃A c,W4 none 0 0=.slice A 0 c∧(0 < ([]:List Value).length→∃ad,A=some ad∧∀(j:Nat) (u:Value),([]:List Value)[j]?=some u→W.cell? (ad.add j)=some u))∧([]:List Value).length=0*1∧(∀u∈([]:List Value),u.oneCell'=true)∧4+0≤maxLen∧(4+0)*16≤140737488355328
 |false=>True∧(sL L).length=L.length*1∧(∀u∈sL L,u.oneCell'=true)∧4+L.length≤maxLen∧(4+L.length)*16≤140737488355328
def VV(na:Bool)(w:World)(g:Nat)(p:Bool)(A:Option Go.Addr)(tx:Bs)(r:Rl)(e2:Int)(L:List Bs):Prop:=match na with
 |true=>∀W,ai (qY g A) w W→Calls prog 75 #[.int .i64 r.act,.int .i64 r.out] W (Rn W (.slice none 0 0))
 |false=>∀W β,Sx.eM (Re w g A) β W (Sx.rowAt (rL g p tx r e2 [])) []→Calls prog 75 (([.val (.int .i64 r.act),.val (.int .i64 r.out)]:List Sx.SV).map (Sx.SV.den β)).toArray W (Sx.br (Re w g A) β W (Sx.rowAt (rL g p tx r e2 [])) 3 (Nj 3 L.length (strs L)))
def Wh(na:Bool)(L:List Bs):Sx.Hint:=match na with
 |true=>.call (.slice none 0 0)
 |false=>.ay (Nj 3 L.length (strs L))
theorem Rr{w:World}{g:Nat}{p:Bool}{A:Option Go.Addr}{c:Nat}{tx:Bs}{r:Rl}{b1 b2 b4 b5 bo:Bool}{ck e e1 e2 e3 e4 e5:Int}{L:List Bs}{na bg bz bm bi:Bool}(h:Tx w g p A c tx e)(H:VY w g p A tx r b1 b2 (bP bm b4) (bP bi b5) (bQ na bg bz bo) ck e e1 e2 e3 e4 e5)
  (k4:bm=false→∀W,ai (qY g A) w W→Calls prog 33 #[ae r.dE] W (Rn W (.bool b4))) (k5:bi=false→∀W,ai (qY g A) w W→Calls prog 33 #[ae r.cx] W (Rn W (.bool b5)))
  (ha:bj r.act r.out=L) (hL:L.length≤10) (hna:decide (L=[])=na) (hg:decide (r.out≥0)=bg) (hz:decide (r.out=0)=bz) (hb:decide (r.act=3)=bo) (hm:decide (r.dE=[])=bm) (hi:decide (r.cx=[])=bi) (hle:WG tx (JK r L bm bi)):WI w g A tx r (JK r L bm bi) e5:=by
 have c34:WO (decide (r.out≥0))=.bool bg:=congrArg _ hg;have c39:WO (r.out==0)=.bool bz:=congrArg _ hz;have Fm:WO (r.act==3)=.bool bo:=congrArg _ hb;have c27:VV na w g p A tx r e2 L:=by
  cases na with
  |true=>exact fun W hW=>DF (b:=(Re w g A)) (ha.trans (of_decide_eq_true hna)) H.o0 H.o1 H.hl W hW
  |false=>exact fun W β hS=>DE (m:=3) ha (of_decide_eq_false hna) H.o0 H.o1 H.hl W β hS
 have c72:VU na w (qY g A) L:=by
  cases na with
  |true=>exact G8 (ai (qY g A) w) 4 (by decide)
  |false=>exact(show True∧(sL L).length=L.length*1∧(∀u∈sL L,u.oneCell'=true)∧4+L.length≤maxLen∧(4+L.length)*16≤140737488355328 from by rw[F0];exact AW L 4 L.length rfl (by omega))
 have c46:=uN w g p A tx r (ra na L).length.succ.succ.succ (ra na L) H.h3;have c56:=uN w g p A tx r (ra na L).length.succ.succ.succ (ra na L) H.h4;have c66:=uN w g p A tx r (ra na L).length.succ.succ.succ (ra na L) H.h5;have c80:=AW [bY,r.dE] (4+L.length) 2 rfl (by omega);have c88:=AW [bu,r.cx] (n2 bm (4+L.length)) 2 rfl (by cases bm<;>(show _≤1000;simp only[n2];omega));have rk:Sx.rowAt (rL g p tx r e5 (Vs na r L bm bi [S9 r L bm bi])) (Ta na bm bi)=some (S9 r L bm bi):=by cases na<;>cases bm<;>cases bi<;>rfl
 have c91:=Sc w g p A tx r e5 (Vs na r L bm bi [S9 r L bm bi]) (Ta na bm bi) (Ta na bm bi+1) (JK r L bm bi) (by cases na<;>cases bm<;>cases bi<;>decide) (rk.trans (congrArg some (Ru r L bm bi))) (by cases bm<;>cases bi<;>simp[JK,TD]<;>omega) hle;have z0:Qt g (tx++jh (JK r L bm bi)) e5 [] (rD g (Ta na bm bi+1) tx (jh (JK r L bm bi)) r e5 (Vs na r L bm bi [S9 r L bm bi])):=by cases na<;>cases bm<;>cases bi<;>exact⟨_,rfl,rfl,rfl⟩
 have CH:=Sx.t4 H.gb (uN w g p A tx r 3 [] H.h1) H.jM H.c21 (Sx.t2 (uN w g p A tx r 3 [] H.h2) c27 (cy.mk (b:=na) (fun _=>c34) (cy.mk (b:=na||!bg) (fun _=>c39) (cy.mk (b:=na||!bg||bz) (fun _=>Fm) (Sx.t2 c46 (se 49 hm) (cy.mk k4 (Sx.t2 c56 (se 59 hi) (cy.mk k5 (Sx.t2 c66 c72 (WQ (sn (b:=!bm) 74 (by rw[Xc];exact hm)) (cy.mk (b:=bm) (fun _=>c80) (WQ (sn (b:=!bi) 82 (by rw[Xc];exact hi)) (cy.mk (b:=bi) (fun _=>c88) (WQ c91 z0))))))))))))));refine FL [.agg r.cells.toArray] h (Wu g p r b1 b2 ck e1 e2 [(27,Wh na L),(34,.is (.bool bg)),(39,.is (.bool bz)),(43,.is (.bool bo)),(72,.app 0 []),(46,wH g p e3),(50,.bin (.bool bm)),(54,.call (.bool b4)),(56,wH g p e4),(60,.bin (.bool bi)),(64,.call (.bool b5)),(66,wH g p e5),(70,.jq 9 1),(75,.bin (.bool (!bm))),(83,.bin (.bool (!bi))),(91,.ay (Be [Ta na bm bi] 0 1 (Ta na bm bi+1) (some g) (tx++jh (JK r L bm bi)) e5 (.tuple #[])))]) [] (by kernel_rfl) func74 rfl (bU rfl) ?_;clear h H k4 k5 hle rk hg hz hb hm hi c27 c72 c46 c56 c66 c80 c88 c91 z0 c34 c39 Fm ha hL;cases na with
 |true=>obtain rfl:L=[]:=of_decide_eq_true hna;cases bg<;>cases bz<;>cases bm<;>cases bi<;>exact WS (by kernel_rfl) CH
 |false=>cases bg<;>cases bz<;>cases bm<;>cases bi<;>exact WS (by kernel_rfl) CH
theorem N5{w:World}{g:Nat}{p:Bool}{A:Option Go.Addr}{c:Nat}{tx:Bs}{e:Int}{r:Rl}(h:Tx w g p A c tx e)(hl:dO w)(hk:∀k∈qY g A,9≤k)(hr:r.Wf)(hle:tx.length+(jh (eZ r)).length≤140737488355328):Calls prog 74 #[.pointer (some ⟨g,0,none⟩),.agg r.cells.toArray] w (ng g A (.tuple #[]) (tx++jh (eZ r)) (tm e r) w):=by
 have hc:WO ((if aY r.mt=true then(0:Int)else 190)==0)=.bool (aY r.mt):=by cases aY r.mt<;>rfl
 have hL:(bj r.act r.out).length≤10:=by
  unfold bj;repeat' split
  all_goals simp
 have hO:∀k s,dF k s=TD (decide (s=[])) k s:=fun k s=>by
  unfold dF;by_cases hs:s=[]
  ·rw[if_pos hs,decide_eq_true hs];rfl
  ·rw[if_neg hs,decide_eq_false hs];rfl
 have hW:eZ r=JK r (bj r.act r.out) (decide (r.dE=[])) (decide (r.cx=[])):=by unfold eZ JK;rw[hO,hO];simp
 have hA:oQ r.act r.out=bQ (decide (bj r.act r.out=[])) (decide (r.out≥0)) (decide (r.out=0)) (decide (r.act=3)):=by
  cases ha:bj r.act r.out with
  |nil=>rw[decide_eq_true rfl,Qs ha];rfl
  |cons x l=>rw[decide_eq_false (by simp)];unfold oQ;rw[Nh ha];cases decide (r.out≥0)<;>cases decide (r.out=0)<;>cases decide (r.act=3)<;>rfl
 have hB:∀s,ku s=bP (decide (s=[])) (aS s):=fun s=>by unfold ku;cases decide (s=[])<;>rfl
 rw[hW]at hle ⊢
 exact Rr h (b4:=aS r.dE) (b5:=aS r.cx) (bo:=decide (r.act=3)) ⟨fun W hW=>hl.aF hW hk,fun W _=>sN r.name W,fun W hW=>zR r.mt hr.m W (hl.aF hW hk),hc,rfl,rfl,rfl,rfl,(by unfold tm;rw[hB,hB,hA]),hr.o.1,hr.o.2⟩
  (fun _ W _=>sN r.dE W) (fun _ W _=>sN r.cx W) rfl hL rfl rfl rfl rfl rfl rfl hle
set_option maxRecDepth 100000
open Go Go.RowKit Go.Lib Go.Sort _root_.Go.Proofs.Tryz
set_option maxRecDepth 100000
theorem Ss(v:Bool)(n:Nat)(k:Int):WO (cU v n k==0)=.bool (fW v n k):=by unfold cU;cases fW v n k<;>rfl
def bI(b0:Bool):Nat→Bool
 | 0=>b0
 |_+1=>true
def tI(t0:Bs)(ws:Nat→List Bs):Nat→Bs
 | 0=>t0
 |i+1=>tI t0 ws i++jh (ws i)
def eI(e0:Int)(E:Nat→Int→Int):Nat→Int
 | 0=>e0
 |i+1=>E i (eI e0 E i)
theorem xY{t0:Bs}{ws:Nat→List Bs}{B:Nat}:∀{n i:Nat},i < n→(tI t0 ws n).length≤B→(tI t0 ws i).length+(jh (ws i)).length≤B
 | 0,_,h,_=>by omega
 |n+1,i,h,hb=>by
  have e:(tI t0 ws (n+1)).length=(tI t0 ws n).length+(jh (ws n)).length:=by rw[tI,WT]
  by_cases hi:i=n
  ·subst hi;omega
  ·exact xY (n:=n) (by omega) (by omega)
theorem Bj{α:Type} [Inhabited α](f:α→List Bs)(t0:Bs)(l:List α):tI t0 (fun i=>f (l.getD i default)) l.length=t0++dB (l.map f):=by
 have key:∀k,k≤l.length→tI t0 (fun i=>f (l.getD i default)) k=t0++dB ((l.take k).map f):=by
  intro k;induction k with
  |zero=>intro _;simp[tI,dB]
  |succ k ih=>
   intro hk;rw[tI,ih (by omega),Xd];have:l[k]?=some (l.getD k default):=by rw[WX,W0 (by omega)];rfl
   rw[this];simp[dB]
 have:=key l.length (W5 _);rwa [Xf]at this
theorem CX{α:Type} [Inhabited α](E:Int→α→Int)(e0:Int)(l:List α):eI e0 (fun i e=>E e (l.getD i default)) l.length=l.foldl E e0:=by
 have key:∀k,k≤l.length→eI e0 (fun i e=>E e (l.getD i default)) k=(l.take k).foldl E e0:=by
  intro k;induction k with
  |zero=>intro _;simp[eI]
  |succ k ih=>
   intro hk;rw[eI,ih (by omega),Xd];have:l[k]?=some (l.getD k default):=by rw[WX,W0 (by omega)];rfl
   rw[this];simp
 have:=key l.length (W5 _);rwa [Xf]at this
theorem getD_at{α:Type} [Inhabited α]{l:List α}{i:Nat}(h:i < l.length):l[i]?=some (l.getD i default):=by rw[WX,W0 h];rfl
theorem dJ{α:Type} [Inhabited α]{l:List α}{i:Nat}(h:i < l.length):l.getD i default∈l:=List.mem_of_getElem? (getD_at h)
def jW(k:Nat)(b:Bool)(t:Bs)(e:Int):List Sx.Row:=[jx none [.eB b 1 0,.own k,.val (.int .i64 e)],⟨5,.own 1 t.length (sb t)⟩]
def Bh(b:Bool)(t:Bs)(e:Int):List Sx.Row:=jW 2 b t e
def Wm(T:Bs×Int)(l:List Sx.SV)(_:List Sx.Row):Prop:=l=[.val (ae T.1),.val (.int .i64 T.2)]
theorem iK{P:Program}{t:TypeId}{n:Nat}(h:(P.info? t).map (·.size)=some n):∃inf,P.info? t=some inf∧inf.size=n:=W2.1 h
theorem Me.aT(m:Me):m.cells.length=4:=rfl
theorem Mi.aT(m:Mi):m.cells.length=3:=rfl
theorem Rt.aT(m:Rt):m.cells.length=19:=by unfold Rt.cells;rw[WT,Px.aT];rfl
theorem Rl.aT(m:Rl):m.cells.length=49:=by unfold Rl.cells;rw[W7,WT,Mt.aT];rfl
def Iv(A:Option Go.Addr)(n c i:Nat):List (Nat×Sx.SV):=[(1,.ptr 0 0),(4,.ptr 1 0),(20,.val (.slice A n c)),(21,.val (.int .i64 (n:Int))),(22,.val (.int .i64 (i:Int)))]
def OV(t0:Bs)(l:List Int):Nat→Bs:=tI t0 fun i=>eJ (l.getD i default)
def O2(e0:Int)(l:List Int):Nat→Int:=eI e0 fun i e=>Gf e (l.getD i default)
def R4(cs:List Value)(b0:Bool)(t0:Bs)(e0:Int)(l:List Int)(i:Nat):List Sx.Row:=⟨46,.aj cs⟩::Bh (bI b0 i) (OV t0 l i) (O2 e0 l i)
def Iu(A:Option Go.Addr)(n c i:Nat):List (Nat×Sx.SV):=[(1,.ptr 0 0),(4,.ptr 1 0),(37,.val (.slice A n c)),(38,.val (.int .i64 (n:Int))),(39,.val (.int .i64 (i:Int)))]
def ND(t0:Bs)(l:List Rt):Nat→Bs:=tI t0 fun i=>fg (l.getD i default)
def JL(e0:Int)(l:List Rt):Nat→Int:=eI e0 fun i e=>zG e (l.getD i default)
def R3(cs:List Value)(b0:Bool)(t0:Bs)(e0:Int)(l:List Rt)(i:Nat):List Sx.Row:=⟨46,.aj cs⟩::Bh (bI b0 i) (ND t0 l i) (JL e0 l i)
def It(A:Option Go.Addr)(n c i:Nat):List (Nat×Sx.SV):=[(1,.ptr 0 0),(4,.ptr 1 0),(67,.val (.slice A n c)),(68,.val (.int .i64 (n:Int))),(69,.val (.int .i64 (i:Int)))]
def OU(t0:Bs)(l:List Me):Nat→Bs:=tI t0 fun i=>fj (l.getD i default)
def NG(e0:Int)(l:List Me):Nat→Int:=eI e0 fun i e=>Ad e (l.getD i default)
def R2(cs:List Value)(b0:Bool)(t0:Bs)(e0:Int)(l:List Me)(i:Nat):List Sx.Row:=⟨46,.aj cs⟩::Bh (bI b0 i) (OU t0 l i) (NG e0 l i)
def Is(A:Option Go.Addr)(n c i:Nat):List (Nat×Sx.SV):=[(1,.ptr 0 0),(4,.ptr 1 0),(97,.val (.slice A n c)),(98,.val (.int .i64 (n:Int))),(99,.val (.int .i64 (i:Int)))]
def NC(t0:Bs)(l:List Mi):Nat→Bs:=tI t0 fun i=>dX (l.getD i default)
def Iw(e0:Int)(l:List Mi):Nat→Int:=eI e0 fun i e=>pv e (l.getD i default)
def RZ(cs:List Value)(b0:Bool)(t0:Bs)(e0:Int)(l:List Mi)(i:Nat):List Sx.Row:=⟨46,.aj cs⟩::Bh (bI b0 i) (NC t0 l i) (Iw e0 l i)
def Ir(A:Option Go.Addr)(n c i:Nat):List (Nat×Sx.SV):=[(1,.ptr 0 0),(4,.ptr 1 0),(131,.val (.slice A n c)),(132,.val (.int .i64 (n:Int))),(133,.val (.int .i64 (i:Int)))]
def NB(t0:Bs)(l:List Rl):Nat→Bs:=tI t0 fun i=>eZ (l.getD i default)
def QK(e0:Int)(l:List Rl):Nat→Int:=eI e0 fun i e=>tm e (l.getD i default)
def RY(cs:List Value)(b0:Bool)(t0:Bs)(e0:Int)(l:List Rl)(i:Nat):List Sx.Row:=⟨46,.aj cs⟩::Bh (bI b0 i) (NB t0 l i) (QK e0 l i)
abbrev pQ(cs:List Value)(p:Bool)(tx:Bs)(e:Int)(mem:List Sx.Row):List Sx.Row:=⟨46,.aj cs⟩::jx none [.eB p 1 0,.own 2,.val (.int .i64 e)]::⟨5,.own 1 tx.length (sb tx)⟩::mem
theorem xU(w:World)(cs:List Value)(p:Bool)(tx:Bs)(e:Int)(mem:List Sx.Row)(m:Nat)(b:Bool)(code:Int)(W:World)(β:Sx.Env)(hS:Sx.eM ⟨w,[],fun _ _=>False⟩ β W (Sx.rowAt (pQ cs p tx e mem)) [1,2]) :
  Calls prog 69 (([.ptr 1 0,.val (.bool b),.val (.int .i64 code)]:List Sx.SV).map (Sx.SV.den β)).toArray W (Sx.br ⟨w,[],fun _ _=>False⟩ β W (Sx.rowAt (pQ cs p tx e mem)) m (lB [] 1 2 none p (aW b code e))):=sd b code ⟨rfl,rfl⟩ W β hS
theorem GA(w:World)(cs:List Value)(p:Bool)(tx:Bs)(e:Int)(mem:List Sx.Row)(k m:Nat)(ws:List Bs)(rk:Sx.rowAt (pQ cs p tx e mem) k=some ⟨9,.aj (strs ws)⟩)(hm:2 < m)(hn:ws.length≤1100000)(hl:tx.length+(jh ws).length≤140737488355328)(W:World)(β:Sx.Env)(hS:Sx.eM ⟨w,[],fun _ _=>False⟩ β W (Sx.rowAt (pQ cs p tx e mem)) [1,2,k]) :
  Calls prog 70 (([.ptr 1 0,.nO k 0 ws.length ws.length]:List Sx.SV).map (Sx.SV.den β)).toArray W (Sx.br ⟨w,[],fun _ _=>False⟩ β W (Sx.rowAt (pQ cs p tx e mem)) m (Be [k] 1 2 m none (tx++jh ws) e (.tuple #[]))):=LN ws ⟨rfl,rfl⟩ (by omega) hm rk hn hl W β hS
theorem Hw{b:Sx.aV}{row:Nat→Option Sx.Row}{i j m:Nat}{og:Option Nat}{p:Bool}{tx:Bs}{e:Int}(r:Rl)(h:oR row i j og p tx e)(hi:i < m)(hj:j < m)(hlan:dO b.w)(h9:∀k∈b.S,9≤k)(hr:r.Wf)(hl:tx.length+(jh (eZ r)).length≤140737488355328)
  (W:World) (β:Sx.Env) (hS:Sx.eM b β W row [i,j]) :
  Calls prog 74 (([.ptr i 0,.val (.agg r.cells.toArray)]:List Sx.SV).map (Sx.SV.den β)).toArray W (Sx.br b β W row m (Be [] i j m og (tx++jh (eZ r)) (tm e r) (.tuple #[]))):=by
 obtain⟨ht,hg⟩:=qg hS h (by simp) (by simp);have hlow:=hlan.low;have old:∀x r k,x∈[i,j]→row x=some r→Sx.aB β x r=some k→9≤k:=fun x r k hx hr hk=>by
  rcases hS.new x hx r k hr hk with h|h
  ·exact h9 k h
  ·omega
 refine(N5 ht (hlan.aF hS.aF h9) (fun k hk=>?_) hr hl).mono fun en w' hp=>uo h hi hj hg hp;rcases Xh.1 hk with rfl|hk
 ·exact old i _ _ (by simp) h.b oX
 ·exact old j _ _ (by simp) h.o (by show(β.a j).map (·.block)=some k;simpa using hk)
abbrev Lc(w:World)(T:Bs×Int)(k n:Nat)(fr:Nat→List (Nat×Sx.SV))(mm:Nat→List Sx.Row)(i:Nat):Prop:=∃H' L',Sx.ky prog f28.ntmps ⟨w,[],fun _ _=>False⟩ (Sx.bq f28 k) H' L' ⟨fr i,mm i⟩
 (Sx.dP (fun i=>i≤n) fr mm (fun i=>i+1) (fun i=>n - i) (fun(_:Unit)=>True) (fun _=>[(1,.ptr 0 0),(4,.ptr 1 0)]) (fun _=>mm n) (fun _=>()) (Sx.eo (Sx.bq f28 k) - 1) (Sx.fM prog f28 (Wm T) .ret) i)
theorem Ui{w:World}(hlan:dO w)(cs:List Value)(l:List Int)(A:Option Go.Addr)(c:Nat)(hs:pT w [] 1 (.slice A l.length c) l.length (l.map fun n=>W8 .i64 n))(hwf:∀n∈l,tY n)(hl:l.length≤1000000000)(b0:Bool)(t0:Bs)(e0:Int)(hB:(OV t0 l l.length).length≤140737488355328)(T:Bs×Int)(i:Nat)(hi:i≤l.length) :
  Lc w T 0 l.length (Iv A l.length c) (R4 cs b0 t0 e0 l) i:=by
 by_cases hlt:i < l.length
 ·skip
  have c23:=bT ((i:Int) < (l.length:Int)) (by omega);have hy:=getD_at hlt;have hw:=hwf _ (dJ hlt);obtain⟨inf,hi1,hi2⟩:=iK (P:=prog) (t:=3) (n:=1) (by kernel_rfl);obtain⟨pp,hp1,hp2⟩:=hs.Te underlying40 hi1 hi2 underlying3 rfl hy;clear hi1 hi2 hy;have c24:=hp1;have c25:=hp2;have xD:=mY (i:=i) (by omega);have c28:WO (decide ((l.getD i default)≥0))=.bool (decide ((l.getD i default)≥0)):=rfl;have nr:=xU w cs (bI b0 i) (OV t0 l i) (O2 e0 l i) [] 3 (decide ((l.getD i default)≥0)) 2;have c32:=fun W (hW:ai [] w W)=>oB (l.getD i default) hw.1 hw.2 W (hlan.dm hW);have c34:=GA w cs (bI b0 i) (OV t0 l i) (aW (decide ((l.getD i default)≥0)) 2 (O2 e0 l i)) [⟨9,.aj (strs (eJ (l.getD i default)))⟩] 3 4 (eJ (l.getD i default)) rfl (by omega) (bU rfl) (xY hlt hB);have h0:i+1≤l.length:=hlt;have h1:l.length - (i+1) < l.length - i:=by omega
  have h2:Iv A l.length c (i+1)=Iv A l.length c (i+1):=rfl;have z3:⟨46,.aj cs⟩::jW 4 true (OV t0 l (i+1)) (O2 e0 l (i+1))=⟨46,.aj cs⟩::jW 4 true (OV t0 l (i+1)) (O2 e0 l (i+1)):=rfl;refine⟨[(23,.is (.bool true)),(24,.any pp),(25,.any (.int .i64 (l.getD i default))),(35,.is (.int .i64 ((i+1:Nat):Int))),(28,.is (.bool (decide ((l.getD i default)≥0)))),(29,.ay (lB [] 1 2 none (bI b0 i) (aW (decide ((l.getD i default)≥0)) 2 (O2 e0 l i)))),(32,.call (ae (da (l.getD i default)))),(34,.ay (Be [3] 1 2 4 none ((OV t0 l i)++jh (eJ (l.getD i default))) (aW (decide ((l.getD i default)≥0)) 2 (O2 e0 l i)) (.tuple #[])))],[],?_⟩;exact WS (by kernel_rfl) (Sx.t8 c23 c24 c25 c28 nr c32 c34 xD (Sx.t2 h0 h1 (WQ h2 z3)))
 ·obtain rfl:i=l.length:=by omega
  have c23:=bF ((l.length:Int) < (l.length:Int)) (by omega);refine⟨[(23,.is (.bool false))],[],?_⟩;exact WS (by kernel_rfl) (Sx.t2 c23 trivial (WQ (show([(1,.ptr 0 0),(4,.ptr 1 0)]:List (Nat×Sx.SV))=[(1,.ptr 0 0),(4,.ptr 1 0)]from rfl) (show R4 cs b0 t0 e0 l l.length=R4 cs b0 t0 e0 l l.length from rfl)))
theorem Uh{w:World}(hlan:dO w)(cs:List Value)(l:List Rt)(A:Option Go.Addr)(c:Nat)(hs:pT w [] 19 (.slice A l.length c) l.length (l.flatMap Rt.cells))(hwf:∀n∈l,n.Wf)(hl:l.length≤1000000000)(b0:Bool)(t0:Bs)(e0:Int)(hB:(ND t0 l l.length).length≤140737488355328)(T:Bs×Int)(i:Nat)(hi:i≤l.length) :
  Lc w T 1 l.length (Iu A l.length c) (R3 cs b0 t0 e0 l) i:=by
 by_cases hlt:i < l.length
 ·skip
  have c40:=bT ((i:Int) < (l.length:Int)) (by omega);have hy:=getD_at hlt;have hw:=hwf _ (dJ hlt);obtain⟨inf,hi1,hi2⟩:=iK (P:=prog) (t:=118) (n:=19) (by kernel_rfl);obtain⟨pp,hp1,hp2⟩:=hs.JN Rt.aT underlying41 hi1 hi2 underlying118 rfl (by omega) hy;clear hi1 hi2 hy;have QZ:=hp1;have uh:=hp2;have c65:=mY (i:=i) (by omega);have c46:=fun W (hW:ai [] w W)=>DV (l.getD i default).pf.v (l.getD i default).pf.n (l.getD i default).pf.k hw.n W (hlan.dm hW);have c51:=Ss (l.getD i default).pf.v (l.getD i default).pf.n (l.getD i default).pf.k;have c52:=xU w cs (bI b0 i) (ND t0 l i) (JL e0 l i) [⟨118,.aj (l.getD i default).cells⟩] 4 (fW (l.getD i default).pf.v (l.getD i default).pf.n (l.getD i default).pf.k) 151;have c56:WO (decide ((l.getD i default).out≥0))=.bool (decide ((l.getD i default).out≥0)):=rfl;have c57:=xU w cs (bI b0 i) (ND t0 l i) (aW (fW (l.getD i default).pf.v (l.getD i default).pf.n (l.getD i default).pf.k) 151 (JL e0 l i)) [⟨118,.aj (l.getD i default).cells⟩] 4 (decide ((l.getD i default).out≥0)) 2;have c62:=fun W (hW:ai [] w W)=>oB (l.getD i default).out hw.o.1 hw.o.2 W (hlan.dm hW);have c64:=GA w cs (bI b0 i) (ND t0 l i) (aW (decide ((l.getD i default).out≥0)) 2 (aW (fW (l.getD i default).pf.v (l.getD i default).pf.n (l.getD i default).pf.k) 151 (JL e0 l i))) [⟨118,.aj (l.getD i default).cells⟩,⟨9,.aj (strs (fg (l.getD i default)))⟩] 4 5 (fg (l.getD i default)) rfl (by omega) (bU rfl) (xY hlt hB);have h0:i+1≤l.length:=hlt;have h1:l.length - (i+1) < l.length - i:=by omega
  have h2:Iu A l.length c (i+1)=Iu A l.length c (i+1):=rfl;have z3:⟨46,.aj cs⟩::jW 5 true (ND t0 l (i+1)) (JL e0 l (i+1))=⟨46,.aj cs⟩::jW 5 true (ND t0 l (i+1)) (JL e0 l (i+1)):=rfl;refine⟨[(40,.is (.bool true)),(41,.any pp),(42,.any (.agg (l.getD i default).cells.toArray)),(65,.is (.int .i64 ((i+1:Nat):Int))),(46,.call (.tuple #[ae (xI (l.getD i default).pf),.int .i64 (cU (l.getD i default).pf.v (l.getD i default).pf.n (l.getD i default).pf.k)])),(51,.is (.bool (fW (l.getD i default).pf.v (l.getD i default).pf.n (l.getD i default).pf.k))),(52,.ay (lB [] 1 2 none (bI b0 i) (aW (fW (l.getD i default).pf.v (l.getD i default).pf.n (l.getD i default).pf.k) 151 (JL e0 l i)))),(56,.is (.bool (decide ((l.getD i default).out≥0)))),(57,.ay (lB [] 1 2 none (bI b0 i) (aW (decide ((l.getD i default).out≥0)) 2 (aW (fW (l.getD i default).pf.v (l.getD i default).pf.n (l.getD i default).pf.k) 151 (JL e0 l i))))),(62,.call (ae (da (l.getD i default).out))),(64,.ay (Be [4] 1 2 5 none ((ND t0 l i)++jh (fg (l.getD i default))) (aW (decide ((l.getD i default).out≥0)) 2 (aW (fW (l.getD i default).pf.v (l.getD i default).pf.n (l.getD i default).pf.k) 151 (JL e0 l i))) (.tuple #[])))],[],?_⟩;exact WS (by kernel_rfl) (Sx.t8 c40 QZ uh c46 c51 c52 c56 c57 (Sx.t4 c62 c64 c65 h0 (Sx.t2 h1 h2 z3)))
 ·obtain rfl:i=l.length:=by omega
  have c40:=bF ((l.length:Int) < (l.length:Int)) (by omega);refine⟨[(40,.is (.bool false))],[],?_⟩;exact WS (by kernel_rfl) (Sx.t2 c40 trivial (WQ (show([(1,.ptr 0 0),(4,.ptr 1 0)]:List (Nat×Sx.SV))=[(1,.ptr 0 0),(4,.ptr 1 0)]from rfl) (show R3 cs b0 t0 e0 l l.length=R3 cs b0 t0 e0 l l.length from rfl)))
theorem Ug{w:World}(hlan:dO w)(cs:List Value)(l:List Me)(A:Option Go.Addr)(c:Nat)(hs:pT w [] 4 (.slice A l.length c) l.length (l.flatMap Me.cells))(hwf:∀n∈l,n.Wf)(hl:l.length≤1000000000)(b0:Bool)(t0:Bs)(e0:Int)(hB:(OU t0 l l.length).length≤140737488355328)(T:Bs×Int)(i:Nat)(hi:i≤l.length) :
  Lc w T 2 l.length (It A l.length c) (R2 cs b0 t0 e0 l) i:=by
 by_cases hlt:i < l.length
 ·skip
  have c70:=bT ((i:Int) < (l.length:Int)) (by omega);have hy:=getD_at hlt;have hw:=hwf _ (dJ hlt);obtain⟨inf,hi1,hi2⟩:=iK (P:=prog) (t:=122) (n:=4) (by kernel_rfl);obtain⟨pp,hp1,hp2⟩:=hs.JN Me.aT underlying43 hi1 hi2 underlying122 rfl (by omega) hy;clear hi1 hi2 hy;have c71:=hp1;have c72:=hp2;have c95:=mY (i:=i) (by omega);have c76:=fun W (_:ai [] w W)=>sN (l.getD i default).name W;have c77:=xU w cs (bI b0 i) (OU t0 l i) (NG e0 l i) [⟨122,.aj (l.getD i default).cells⟩] 4 (aS (l.getD i default).name) 201;have c84:=fun W (hW:ai [] w W)=>GP (l.getD i default).num (by have:=hw.a;omega) W (hlan.dm hW);have c88:=fun W (hW:ai [] w W)=>GP (l.getD i default).den (by have:=hw.b;omega) W (hlan.dm hW);have c92:=fun W (hW:ai [] w W)=>GP (l.getD i default).rV (by have:=hw.c;omega) W (hlan.dm hW);have c94:=GA w cs (bI b0 i) (OU t0 l i) (aW (aS (l.getD i default).name) 201 (NG e0 l i)) [⟨122,.aj (l.getD i default).cells⟩,⟨9,.aj (strs (fj (l.getD i default)))⟩] 4 5 (fj (l.getD i default)) rfl (by omega) (bU rfl) (xY hlt hB);have h0:i+1≤l.length:=hlt;have h1:l.length - (i+1) < l.length - i:=by omega
  have h2:It A l.length c (i+1)=It A l.length c (i+1):=rfl;have z3:⟨46,.aj cs⟩::jW 5 true (OU t0 l (i+1)) (NG e0 l (i+1))=⟨46,.aj cs⟩::jW 5 true (OU t0 l (i+1)) (NG e0 l (i+1)):=rfl;refine⟨[(70,.is (.bool true)),(71,.any pp),(72,.any (.agg (l.getD i default).cells.toArray)),(95,.is (.int .i64 ((i+1:Nat):Int))),(76,.call (.bool (aS (l.getD i default).name))),(77,.ay (lB [] 1 2 none (bI b0 i) (aW (aS (l.getD i default).name) 201 (NG e0 l i)))),(84,.call (ae (an 10 (l.getD i default).num))),(88,.call (ae (an 10 (l.getD i default).den))),(92,.call (ae (an 10 (l.getD i default).rV))),(94,.ay (Be [4] 1 2 5 none ((OU t0 l i)++jh (fj (l.getD i default))) (aW (aS (l.getD i default).name) 201 (NG e0 l i)) (.tuple #[])))],[],?_⟩;exact WS (by kernel_rfl) (Sx.t8 c70 c71 c72 c76 c77 c84 c88 c92 (Sx.t4 c94 c95 h0 h1 (WQ h2 z3)))
 ·obtain rfl:i=l.length:=by omega
  have c70:=bF ((l.length:Int) < (l.length:Int)) (by omega);refine⟨[(70,.is (.bool false))],[],?_⟩;exact WS (by kernel_rfl) (Sx.t2 c70 trivial (WQ (show([(1,.ptr 0 0),(4,.ptr 1 0)]:List (Nat×Sx.SV))=[(1,.ptr 0 0),(4,.ptr 1 0)]from rfl) (show R2 cs b0 t0 e0 l l.length=R2 cs b0 t0 e0 l l.length from rfl)))
theorem Uf{w:World}(hlan:dO w)(cs:List Value)(l:List Mi)(A:Option Go.Addr)(c:Nat)(hs:pT w [] 3 (.slice A l.length c) l.length (l.flatMap Mi.cells))(hwf:∀n∈l,n.Wf)(hl:l.length≤1000000000)(b0:Bool)(t0:Bs)(e0:Int)(hB:(NC t0 l l.length).length≤140737488355328)(T:Bs×Int)(i:Nat)(hi:i≤l.length) :
  Lc w T 3 l.length (Is A l.length c) (RZ cs b0 t0 e0 l) i:=by
 by_cases hlt:i < l.length
 ·skip
  have c100:=bT ((i:Int) < (l.length:Int)) (by omega);have hy:=getD_at hlt;have hw:=hwf _ (dJ hlt);obtain⟨inf,hi1,hi2⟩:=iK (P:=prog) (t:=124) (n:=3) (by kernel_rfl);obtain⟨pp,hp1,hp2⟩:=hs.JN Mi.aT underlying44 hi1 hi2 underlying124 rfl (by omega) hy;clear hi1 hi2 hy;have c101:=hp1;have c102:=hp2;have c129:=mY (i:=i) (by omega);have c106:=fun W (_:ai [] w W)=>sN (l.getD i default).name W;have c107:=xU w cs (bI b0 i) (NC t0 l i) (Iw e0 l i) [⟨124,.aj (l.getD i default).cells⟩] 4 (aS (l.getD i default).name) 201;obtain⟨b1,hb1⟩:∃b,decide ((l.getD i default).out≥0)=b:=⟨_,rfl⟩;obtain⟨b2,hb2⟩:∃b,decide ((l.getD i default).room≥0)=b:=⟨_,rfl⟩;have c111:=congrArg WO hb1;have c115:=congrArg WO hb2;have c117:=xU w cs (bI b0 i) (NC t0 l i) (aW (aS (l.getD i default).name) 201 (Iw e0 l i)) [⟨124,.aj (l.getD i default).cells⟩] 4 (b1&&b2) 2;have c123:=fun W (hW:ai [] w W)=>oB (l.getD i default).out hw.o.1 hw.o.2 W (hlan.dm hW);have c126:=fun W (hW:ai [] w W)=>oB (l.getD i default).room hw.r.1 hw.r.2 W (hlan.dm hW);have c128:=GA w cs (bI b0 i) (NC t0 l i) (aW (b1&&b2) 2 (aW (aS (l.getD i default).name) 201 (Iw e0 l i))) [⟨124,.aj (l.getD i default).cells⟩,⟨9,.aj (strs (dX (l.getD i default)))⟩] 4 5 (dX (l.getD i default)) rfl (by omega) (bU rfl) (xY hlt hB);have hE:(aW (b1&&b2) 2 (aW (aS (l.getD i default).name) 201 (Iw e0 l i)))=pv (Iw e0 l i) (l.getD i default):=by unfold pv;rw[hb1,hb2]
  have h0:i+1≤l.length:=hlt;have h1:l.length - (i+1) < l.length - i:=by omega
  have h2:Is A l.length c (i+1)=Is A l.length c (i+1):=rfl;have z3:⟨46,.aj cs⟩::jW 5 true (NC t0 l (i+1)) (aW (b1&&b2) 2 (aW (aS (l.getD i default).name) 201 (Iw e0 l i)))=⟨46,.aj cs⟩::jW 5 true (NC t0 l (i+1)) (Iw e0 l (i+1)):=by rw[hE];rfl
  have CH:=Sx.t4 c100 c101 c102 c106 (Sx.t2 c107 c111 (cy.mk (b:=!b1) (fun _=>c115) (Sx.t8 c117 c123 c126 c128 c129 h0 h1 h2 z3)));refine⟨[(100,.is (.bool true)),(101,.any pp),(102,.any (.agg (l.getD i default).cells.toArray)),(129,.is (.int .i64 ((i+1:Nat):Int))),(106,.call (.bool (aS (l.getD i default).name))),(107,.ay (lB [] 1 2 none (bI b0 i) (aW (aS (l.getD i default).name) 201 (Iw e0 l i)))),(111,.is (.bool b1)),(115,.is (.bool b2)),(117,.ay (lB [] 1 2 none (bI b0 i) (aW (b1&&b2) 2 (aW (aS (l.getD i default).name) 201 (Iw e0 l i))))),(123,.call (ae (da (l.getD i default).out))),(126,.call (ae (da (l.getD i default).room))),(128,.ay (Be [4] 1 2 5 none ((NC t0 l i)++jh (dX (l.getD i default))) (aW (b1&&b2) 2 (aW (aS (l.getD i default).name) 201 (Iw e0 l i))) (.tuple #[])))],[],?_⟩;clear c100 c101 c102 c106 c107 c111 c115 c117 c123 c126 c128 c129 h0 h1 h2 z3 hE hb1 hb2 hp1 hp2;cases b1<;>exact WS (by kernel_rfl) CH
 ·obtain rfl:i=l.length:=by omega
  have c100:=bF ((l.length:Int) < (l.length:Int)) (by omega);refine⟨[(100,.is (.bool false))],[],?_⟩;exact WS (by kernel_rfl) (Sx.t2 c100 trivial (WQ (show([(1,.ptr 0 0),(4,.ptr 1 0)]:List (Nat×Sx.SV))=[(1,.ptr 0 0),(4,.ptr 1 0)]from rfl) (show RZ cs b0 t0 e0 l l.length=RZ cs b0 t0 e0 l l.length from rfl)))
theorem Ue{w:World}(hlan:dO w)(cs:List Value)(l:List Rl)(A:Option Go.Addr)(c:Nat)(hs:pT w [] 49 (.slice A l.length c) l.length (l.flatMap Rl.cells))(hwf:∀n∈l,n.Wf)(hl:l.length≤1000000000)(b0:Bool)(t0:Bs)(e0:Int)(hB:(NB t0 l l.length).length≤140737488355328)(T:Bs×Int)(i:Nat)(hi:i≤l.length) :
  Lc w T 4 l.length (Ir A l.length c) (RY cs b0 t0 e0 l) i:=by
 by_cases hlt:i < l.length
 ·skip
  have c134:=bT ((i:Int) < (l.length:Int)) (by omega);have hy:=getD_at hlt;have hw:=hwf _ (dJ hlt);obtain⟨inf,hi1,hi2⟩:=iK (P:=prog) (t:=81) (n:=49) (by kernel_rfl);obtain⟨pp,hp1,hp2⟩:=hs.JN Rl.aT underlying42 hi1 hi2 underlying81 rfl (by omega) hy;clear hi1 hi2 hy;have c135:=hp1;have c136:=hp2;have c140:=mY (i:=i) (by omega);have c139:=fun W β (hS:Sx.eM ⟨w,[],fun _ _=>False⟩ β W (Sx.rowAt [⟨46,.aj cs⟩,jx none [.eB (bI b0 i) 1 0,.own 2,.val (.int .i64 (QK e0 l i))],⟨5,.own 1 (NB t0 l i).length (sb (NB t0 l i))⟩,⟨81,.aj (l.getD i default).cells⟩]) [1,2])=>Hw (m:=4) (og:=none) (p:=(bI b0 i)) (tx:=(NB t0 l i)) (e:=(QK e0 l i)) (l.getD i default) ⟨rfl,rfl⟩ (by omega) (by omega) hlan (fun k hk=>(by cases hk)) hw (xY hlt hB) W β hS;have h0:i+1≤l.length:=hlt;have h1:l.length - (i+1) < l.length - i:=by omega
  have h2:Ir A l.length c (i+1)=Ir A l.length c (i+1):=rfl;have z3:⟨46,.aj cs⟩::jW 4 true (NB t0 l (i+1)) (QK e0 l (i+1))=⟨46,.aj cs⟩::jW 4 true (NB t0 l (i+1)) (QK e0 l (i+1)):=rfl;refine⟨[(134,.is (.bool true)),(135,.any pp),(136,.any (.agg (l.getD i default).cells.toArray)),(140,.is (.int .i64 ((i+1:Nat):Int))),(139,.ay (Be [] 1 2 4 none ((NB t0 l i)++jh (eZ (l.getD i default))) (tm (QK e0 l i) (l.getD i default)) (.tuple #[])))],[],?_⟩;exact WS (by kernel_rfl) (Sx.t8 c134 c135 c136 c139 c140 h0 h1 h2 z3)
 ·obtain rfl:i=l.length:=by omega
  have c134:=bF ((l.length:Int) < (l.length:Int)) (by omega);refine⟨[(134,.is (.bool false))],[],?_⟩;exact WS (by kernel_rfl) (Sx.t2 c134 trivial (WQ (show([(1,.ptr 0 0),(4,.ptr 1 0)]:List (Nat×Sx.SV))=[(1,.ptr 0 0),(4,.ptr 1 0)]from rfl) (show RY cs b0 t0 e0 l l.length=RY cs b0 t0 e0 l l.length from rfl)))
set_option maxRecDepth 100000
open Go Go.RowKit Go.Lib Go.Sort _root_.Go.Proofs.Tryz
structure jN(w:World)(S:List Nat)(cf:CF)(s:gG):Prop where
 p:pT w S 1 (.slice s.p.A cf.ak.length s.p.c) cf.ak.length (cf.ak.map fun n=>W8 .i64 n)
 r:pT w S 19 (.slice s.r.A cf.af.length s.r.c) cf.af.length (cf.af.flatMap Rt.cells)
 l:pT w S 49 (.slice s.l.A cf.rules.length s.l.c) cf.rules.length (cf.rules.flatMap Rl.cells)
 m:pT w S 4 (.slice s.m.A cf.ag.length s.m.c) cf.ag.length (cf.ag.flatMap Me.cells)
 i:pT w S 3 (.slice s.i.A cf.ab.length s.i.c) cf.ab.length (cf.ab.flatMap Mi.cells)
structure lz(cf:CF):Prop where
 p:∀n∈cf.ak,tY n
 r:∀n∈cf.af,n.Wf
 l:∀n∈cf.rules,n.Wf
 m:∀n∈cf.ag,n.Wf
 i:∀n∈cf.ab,n.Wf
 d:tY cf.bA
structure nt(cf:CF):Prop where
 p:cf.ak.length≤1000000000
 r:cf.af.length≤1000000000
 l:cf.rules.length≤1000000000
 m:cf.ag.length≤1000000000
 i:cf.ab.length≤1000000000
theorem jN.aF{w w':World}{S:List Nat}{cf:CF}{s:gG}(h:jN w S cf s)(hc:ai S w w'):jN w' S cf s:=⟨h.p.aF hc,h.r.aF hc,h.l.aF hc,h.m.aF hc,h.i.aF hc⟩
def aL(cf:CF)(s:gG):List Value:=[.slice s.p.A cf.ak.length s.p.c,.slice s.r.A cf.af.length s.r.c,.slice s.l.A cf.rules.length s.l.c,.slice s.m.A cf.ag.length s.m.c,.slice s.i.A cf.ab.length s.i.c,.int .i64 cf.bA]
def T1(cf:CF):Bs:=OV [] cf.ak cf.ak.length
def T2(cf:CF):Bs:=ND (T1 cf) cf.af cf.af.length
def T3(cf:CF):Bs:=OU (T2 cf) cf.ag cf.ag.length
def T4(cf:CF):Bs:=NC (T3 cf) cf.ab cf.ab.length
def T5(cf:CF):Bs:=NB (T4 cf) cf.rules cf.rules.length
def E1(cf:CF):Int:=O2 0 cf.ak cf.ak.length
def E2(cf:CF):Int:=JL (E1 cf) cf.af cf.af.length
def E3(cf:CF):Int:=NG (E2 cf) cf.ag cf.ag.length
def E4(cf:CF):Int:=Iw (E3 cf) cf.ab cf.ab.length
def E5(cf:CF):Int:=QK (E4 cf) cf.rules cf.rules.length
def B1(cf:CF):Bool:=bI false cf.ak.length
def B2(cf:CF):Bool:=bI (B1 cf) cf.af.length
def B3(cf:CF):Bool:=bI (B2 cf) cf.ag.length
def B4(cf:CF):Bool:=bI (B3 cf) cf.ab.length
def B5(cf:CF):Bool:=bI (B4 cf) cf.rules.length
theorem Bi{t0:Bs}{ws:Nat→List Bs}:∀n,t0.length≤(tI t0 ws n).length
 | 0=>W5 _
 |n+1=>by rw[tI,WT];exact WZ (Bi n) (Nat.le_add_right _ _)
theorem U2(cf:CF):T5 cf++jh (lx cf.bA)=fT cf:=by
 unfold fT uF T5 T4 T3 T2 T1 NB NC OU ND OV;rw[Bj,Bj,Bj,Bj,Bj];have app:∀a b:List (List Bs),dB (a++b)=dB a++dB b:=fun a b=>by simp[dB]
 simp only[app,List.nil_append];simp[dB]
theorem U8(cf:CF):MB (E5 cf) cf.bA=xo cf:=by unfold xo E5 E4 E3 E2 E1 QK Iw NG JL O2;rw[CX,CX,CX,CX,CX]
theorem LP{b:Sx.aV}{row:Nat→Option Sx.Row}{i j m:Nat}{og:Option Nat}{p:Bool}{tx:Bs}{e:Int}(h:oR row i j og p tx e)(W:World)(β:Sx.Env)(hS:Sx.eM b β W row [i,j]) :
  Calls prog 76 (([.ptr i 0]:List Sx.SV).map (Sx.SV.den β)).toArray W (Sx.br b β W row m ⟨[i,j],[],[],[],.val (.int .i64 (tx.length:Int)),none⟩):=by
 obtain⟨ht,_⟩:=qg hS h (by simp) (by simp);refine(Ux ht).mono fun en w' ⟨he,hw⟩=>.inl ⟨fun p hp=>(by cases hp),β,Sx.dt (v:=.int .i64 (tx.length:Int)) rfl rfl he (fun q hq=>(by cases hq)) (by rw[hw];exact ai.refl _ _)⟩
theorem Bl{b:Sx.aV}{row:Nat→Option Sx.Row}{i j m:Nat}{og:Option Nat}{p:Bool}{tx:Bs}{e:Int}(h:oR row i j og p tx e)(h0:tx≠[])(W:World)(β:Sx.Env)(hS:Sx.eM b β W row [i,j]) :
  Calls prog 77 (([.ptr i 0]:List Sx.SV).map (Sx.SV.den β)).toArray W (Sx.br b β W row m ⟨[i,j],[],[i,j],[],.val (ae tx),none⟩):=by
 obtain⟨ht,_⟩:=qg hS h (by simp) (by simp);refine(Ka ht h0).mono fun en w' ⟨he,hc⟩=>.inl ⟨fun p hp=>(by cases hp),β,Sx.dt (v:=ae tx) rfl rfl he (fun q hq=>(by cases hq)) (hc.mono fun k hk=>.inl ?_)⟩;show k∈([]++[i,j]).filterMap (Sx.b8 β row);rcases Xh.1 hk with rfl|hk
 ·refine W6.2 ⟨i,by simp,?_⟩
  unfold Sx.b8;rw[h.b];exact oX
 ·refine W6.2 ⟨j,by simp,?_⟩
  unfold Sx.b8;rw[h.o];show(β.a j).map (·.block)=some k;simpa using hk
theorem Sa(t:Bs)(ws:List Bs):t++jh ws≠[]:=by unfold jh;simp
abbrev pB(w:World):Sx.aV:=⟨w,[],fun _ _=>False⟩
abbrev pL(cf:CF)(s:gG)(p:Bool)(j:Nat)(e:Int)(mem:List Sx.Row):List Sx.Row:=⟨46,.aj (aL cf s)⟩::jx none [.eB p 1 0,.own j,.val (.int .i64 e)]::mem
abbrev pO(t:Bs):Sx.Row:=⟨5,.own 1 t.length (sb t)⟩
def OZ(cf:CF)(s:gG):List Sx.Loop:=[.mk Nat 0 (fun i=>i≤cf.ak.length) (fun i=>Iv s.p.A cf.ak.length s.p.c i) (fun i=>R4 (aL cf s) false [] 0 cf.ak i) (fun i=>i+1) (fun i=>cf.ak.length - i) Unit (fun _=>True) (fun _=>[(1,.ptr 0 0),(4,.ptr 1 0)]) (fun _=>R4 (aL cf s) false [] 0 cf.ak cf.ak.length) (fun _=>()),
 .mk Nat 0 (fun i=>i≤cf.af.length) (fun i=>Iu s.r.A cf.af.length s.r.c i) (fun i=>R3 (aL cf s) (B1 cf) (T1 cf) (E1 cf) cf.af i) (fun i=>i+1) (fun i=>cf.af.length - i) Unit (fun _=>True) (fun _=>[(1,.ptr 0 0),(4,.ptr 1 0)]) (fun _=>R3 (aL cf s) (B1 cf) (T1 cf) (E1 cf) cf.af cf.af.length) (fun _=>()),
 .mk Nat 0 (fun i=>i≤cf.ag.length) (fun i=>It s.m.A cf.ag.length s.m.c i) (fun i=>R2 (aL cf s) (B2 cf) (T2 cf) (E2 cf) cf.ag i) (fun i=>i+1) (fun i=>cf.ag.length - i) Unit (fun _=>True) (fun _=>[(1,.ptr 0 0),(4,.ptr 1 0)]) (fun _=>R2 (aL cf s) (B2 cf) (T2 cf) (E2 cf) cf.ag cf.ag.length) (fun _=>()),
 .mk Nat 0 (fun i=>i≤cf.ab.length) (fun i=>Is s.i.A cf.ab.length s.i.c i) (fun i=>RZ (aL cf s) (B3 cf) (T3 cf) (E3 cf) cf.ab i) (fun i=>i+1) (fun i=>cf.ab.length - i) Unit (fun _=>True) (fun _=>[(1,.ptr 0 0),(4,.ptr 1 0)]) (fun _=>RZ (aL cf s) (B3 cf) (T3 cf) (E3 cf) cf.ab cf.ab.length) (fun _=>()),
 .mk Nat 0 (fun i=>i≤cf.rules.length) (fun i=>Ir s.l.A cf.rules.length s.l.c i) (fun i=>RY (aL cf s) (B4 cf) (T4 cf) (E4 cf) cf.rules i) (fun i=>i+1) (fun i=>cf.rules.length - i) Unit (fun _=>True) (fun _=>[(1,.ptr 0 0),(4,.ptr 1 0)]) (fun _=>RY (aL cf s) (B4 cf) (T4 cf) (E4 cf) cf.rules cf.rules.length) (fun _=>())]
structure Nr(w:World)(cf:CF)(s:gG)(TT:Bs)(F:List Bs)(b bl:Bool)(E6 E7:Int):Prop where
 hl:dO w
 r:jN w [] cf s
 w:lz cf
 f:nt cf
 T:TT=T5 cf++jh F
 B:TT.length≤140737488355328
 d:bl=decide (TT.length≤65536)
 e6:E6=aW b 2 (E5 cf)
 e7:E7=aW bl 4 E6
section
variable{w:World}{cf:CF}{s:gG}{TT:Bs}{F:List Bs}{b bl:Bool}{E6 E7:Int}
theorem Nr.g(I:Nr w cf s TT F b bl E6 E7):(T1 cf).length≤140737488355328∧(T2 cf).length≤140737488355328∧(T3 cf).length≤140737488355328∧(T4 cf).length≤140737488355328∧(T5 cf).length≤140737488355328:=by
 have g5:(T5 cf).length≤140737488355328:=by have hB:=I.B;rw[I.T,WT]at hB;omega
 have g4:(T4 cf).length≤140737488355328:=WZ (Bi _) g5;have g3:(T3 cf).length≤140737488355328:=WZ (Bi _) g4;have g2:(T2 cf).length≤140737488355328:=WZ (Bi _) g3;exact⟨WZ (Bi _) g2,g2,g3,g4,g5⟩
theorem Nr.c168(I:Nr w cf s TT F b bl E6 E7):WO (decide ((TT.length:Int)≤65536))=.bool bl:=by rw[I.d,show decide ((TT.length:Int)≤65536)=decide (TT.length≤65536)from by rw[decide_eq_decide];omega]
theorem Qz(w:World)(cf:CF)(s:gG)(p:Bool)(j:Nat){e e':Int}{b:Bool}{code:Int}(tx:Bs)(mem:List Sx.Row)(m:Nat)(he:e'=aW b code e)(rj:Sx.rowAt (pL cf s p j e mem) j=some (pO tx))(W:World)(β:Sx.Env)(hS:Sx.eM (pB w) β W (Sx.rowAt (pL cf s p j e mem)) [1,j]):Calls prog 69 (([.ptr 1 0,.val (.bool b),.val (.int .i64 code)]:List Sx.SV).map (Sx.SV.den β)).toArray W (Sx.br (pB w) β W (Sx.rowAt (pL cf s p j e mem)) m (lB [] 1 j none p e')):=by rw[he];exact sd b code ⟨rfl,rj⟩ W β hS
theorem Uw(w:World)(cf:CF)(s:gG)(p:Bool){e:Int}(tx:Bs)(mem:List Sx.Row)(k m:Nat)(ws:List Bs)(hT:TT=tx++jh ws)(rj:Sx.rowAt (pL cf s p 2 e mem) 2=some (pO tx))(hm:2 < m)(rk:Sx.rowAt (pL cf s p 2 e mem) k=some ⟨9,.own 1 ws.length (strs ws)⟩)(hn:ws.length≤1100000)(hl:TT.length≤140737488355328)(W:World)(β:Sx.Env)(hS:Sx.eM (pB w) β W (Sx.rowAt (pL cf s p 2 e mem)) [1,2,k]) :
  Calls prog 70 (([.ptr 1 0,.own k]:List Sx.SV).map (Sx.SV.den β)).toArray W (Sx.br (pB w) β W (Sx.rowAt (pL cf s p 2 e mem)) m (Be [k] 1 2 m none TT e (.tuple #[]))):=by
 subst hT;exact yC (p:=p) ws ⟨rfl,rj⟩ (by omega) hm rk hn (by rw[←WT];exact hl) W β hS
theorem VJ(w:World)(cf:CF)(s:gG)(j:Nat)(e:Int)(tx:Bs)(mem:List Sx.Row)(m:Nat)(rj:Sx.rowAt (pL cf s true j e mem) j=some (pO tx))(W:World)(β:Sx.Env)(hS:Sx.eM (pB w) β W (Sx.rowAt (pL cf s true j e mem)) [1,j]) :
  Calls prog 76 (([.ptr 1 0]:List Sx.SV).map (Sx.SV.den β)).toArray W (Sx.br (pB w) β W (Sx.rowAt (pL cf s true j e mem)) m ⟨[1,j],[],[],[],.val (.int .i64 (tx.length:Int)),none⟩):=LP (p:=true) ⟨rfl,rj⟩ W β hS
theorem Vq(w:World)(cf:CF)(s:gG)(j:Nat)(e:Int)(mem:List Sx.Row)(m:Nat){x:Bs}{ws:List Bs}(hT:TT=x++jh ws)(rj:Sx.rowAt (pL cf s true j e mem) j=some (pO TT))(W:World)(β:Sx.Env)(hS:Sx.eM (pB w) β W (Sx.rowAt (pL cf s true j e mem)) [1,j]) :
  Calls prog 77 (([.ptr 1 0]:List Sx.SV).map (Sx.SV.den β)).toArray W (Sx.br (pB w) β W (Sx.rowAt (pL cf s true j e mem)) m ⟨[1,j],[],[1,j],[],.val (ae TT),none⟩):=Bl (p:=true) ⟨rfl,rj⟩ (by rw[hT];exact Sa _ _) W β hS
theorem VD(cf:CF)(s:gG):Iv s.p.A cf.ak.length s.p.c 0=Iv s.p.A cf.ak.length s.p.c 0∧R4 (aL cf s) false [] 0 cf.ak 0=R4 (aL cf s) false [] 0 cf.ak 0:=⟨rfl,rfl⟩
theorem VC(cf:CF)(s:gG):Iu s.r.A cf.af.length s.r.c 0=Iu s.r.A cf.af.length s.r.c 0∧R3 (aL cf s) (B1 cf) (T1 cf) (E1 cf) cf.af 0=R3 (aL cf s) (B1 cf) (T1 cf) (E1 cf) cf.af 0:=⟨rfl,rfl⟩
theorem VB(cf:CF)(s:gG):It s.m.A cf.ag.length s.m.c 0=It s.m.A cf.ag.length s.m.c 0∧R2 (aL cf s) (B2 cf) (T2 cf) (E2 cf) cf.ag 0=R2 (aL cf s) (B2 cf) (T2 cf) (E2 cf) cf.ag 0:=⟨rfl,rfl⟩
theorem VA(cf:CF)(s:gG):Is s.i.A cf.ab.length s.i.c 0=Is s.i.A cf.ab.length s.i.c 0∧RZ (aL cf s) (B3 cf) (T3 cf) (E3 cf) cf.ab 0=RZ (aL cf s) (B3 cf) (T3 cf) (E3 cf) cf.ab 0:=⟨rfl,rfl⟩
theorem Vz(cf:CF)(s:gG):Ir s.l.A cf.rules.length s.l.c 0=Ir s.l.A cf.rules.length s.l.c 0∧RY (aL cf s) (B4 cf) (T4 cf) (E4 cf) cf.rules 0=RY (aL cf s) (B4 cf) (T4 cf) (E4 cf) cf.rules 0:=⟨rfl,rfl⟩
def pl(na:Bool)(L:List Bs)(l:List Sx.Row):List Sx.Row:=Sx.au::(ra na L++l)
def NF(L:List Bs):Sx.Row:=⟨9,.own 1 (1+L.length) (strs [bD]++sL L)⟩
theorem RV(L:List Bs):NF L=⟨9,.own 1 (bD::L).length (strs (bD::L))⟩:=by unfold NF;rw[F0,W7,Xj];rfl
def pk(na:Bool):Nat:=match na with
 |true=>4
 |false=>5
def Uo(na:Bool)(w:World)(cf:CF)(s:gG)(e:Int)(L:List Bs):Prop:=match na with
 |true=>∀W,ai [] w W→Calls prog 75 #[.int .i64 cf.bA,.int .i64 0] W (Rn W (.slice none 0 0))
 |false=>∀W β,Sx.eM (pB w) β W (Sx.rowAt (pL cf s (B5 cf) 2 e [pO (T5 cf),⟨9,.own 1 1 (strs [bD])⟩])) []→Calls prog 75 (([.val (.int .i64 cf.bA),.val (.int .i64 0)]:List Sx.SV).map (Sx.SV.den β)).toArray W (Sx.br (pB w) β W (Sx.rowAt (pL cf s (B5 cf) 2 e [pO (T5 cf),⟨9,.own 1 1 (strs [bD])⟩])) 4 (Nj 4 L.length (strs L)))
def Up(na:Bool)(L:List Bs):Sx.Hint:=match na with
 |true=>.call (.slice none 0 0)
 |false=>.ay (Nj 4 L.length (strs L))
def Un(na:Bool)(w:World)(L:List Bs):Prop:=match na with
 |true=>(∀W,ai [] w W→∃A c,W4 none 0 0=.slice A 0 c∧(0 < ([]:List Value).length→∃ad,A=some ad∧∀(j:Nat) (u:Value),([]:List Value)[j]?=some u→W.cell? (ad.add j)=some u))∧([]:List Value).length=0*1∧(∀u∈([]:List Value),u.oneCell'=true)∧1+0≤maxLen∧(1+0)*16≤140737488355328
 |false=>True∧(sL L).length=L.length*1∧(∀u∈sL L,u.oneCell'=true)∧1+L.length≤maxLen∧(1+L.length)*16≤140737488355328
def rz(ze:Bool)(TT:Bs)(E7:Int):Bs×Int:=match ze with
 |true=>(TT,0)
 |false=>([],E7)
theorem Ip{L:List Bs}{na d1 d2 d4 ze:Bool}(I:Nr w cf s TT (bD::L) (bP d1 (bP d2 d4)) bl E6 E7)(ha:bj cf.bA 0=L)(hL:L.length≤10)(hna:decide (L=[])=na)(h1:(cf.bA==1)=d1)(h2:(cf.bA==2)=d2)(h4:(cf.bA==4)=d4)(hz:(E7==0)=ze):Calls prog 28 #[.agg (aL cf s).toArray] w (Sx.dc (pB w) (Wm (rz ze TT E7))):=by
 obtain⟨g1,g2,g3,g4,g5⟩:=I.g;have jz:=Ui I.hl (aL cf s) cf.ak s.p.A s.p.c I.r.p I.w.p I.f.p false [] 0 g1 (rz ze TT E7);have rd7:=Uh I.hl (aL cf s) cf.af s.r.A s.r.c I.r.r I.w.r I.f.r (B1 cf) (T1 cf) (E1 cf) g2 (rz ze TT E7);have rd12:=Ug I.hl (aL cf s) cf.ag s.m.A s.m.c I.r.m I.w.m I.f.m (B2 cf) (T2 cf) (E2 cf) g3 (rz ze TT E7);have rd17:=Uf I.hl (aL cf s) cf.ab s.i.A s.i.c I.r.i I.w.i I.f.i (B3 cf) (T3 cf) (E3 cf) g4 (rz ze TT E7);have rd22:=Ue I.hl (aL cf s) cf.rules s.l.A s.l.c I.r.l I.w.l I.f.l (B4 cf) (T4 cf) (E4 cf) g5 (rz ze TT E7);have c144:WO (cf.bA==1)=.bool d1:=congrArg _ h1;have c148:WO (cf.bA==2)=.bool d2:=congrArg _ h2;have c153:WO (cf.bA==4)=.bool d4:=congrArg _ h4;have c155:=Qz w cf s (B5 cf) 2 (T5 cf) [pO (T5 cf)] 3 I.e6 rfl;have hlan2:∀W,ai [] w W→dO W:=fun W hW=>I.hl.dm hW;have c160:Uo na w cf s E6 L:=by
  cases na with
  |true=>exact fun W hW=>DF (b:=pB w) (ha.trans (of_decide_eq_true hna)) (by omega) (by omega) hlan2 W hW
  |false=>exact fun W β hS=>DE (m:=4) ha (of_decide_eq_false hna) (by omega) (by omega) hlan2 W β hS
 have c161:Un na w L:=by
  cases na with
  |true=>exact G8 (ai [] w) 1 (by decide)
  |false=>exact(show True∧(sL L).length=L.length*1∧(∀u∈sL L,u.oneCell'=true)∧1+L.length≤maxLen∧(1+L.length)*16≤140737488355328 from by rw[F0];exact AW L 1 L.length rfl (by omega))
 have rk:Sx.rowAt (pL cf s (B5 cf) 2 E6 (pO (T5 cf)::pl na L [NF L])) (pk na)=some (NF L):=by cases na<;>rfl
 have rj:Sx.rowAt (pL cf s true (pk na+1) E6 (Sx.au::pl na L [NF L,pO TT])) (pk na+1)=some (pO TT):=by cases na<;>rfl
 have rj2:Sx.rowAt (pL cf s true (pk na+1) E7 (Sx.au::pl na L [NF L,pO TT])) (pk na+1)=some (pO TT):=by cases na<;>rfl
 have c162:=Uw w cf s (B5 cf) (e:=E6) (T5 cf) (pO (T5 cf)::pl na L [NF L]) (pk na) (pk na+1) (bD::L) I.T rfl (by cases na<;>decide) (rk.trans (congrArg some (RV L))) (by rw[W7];omega) I.B;have c167:=VJ w cf s (pk na+1) E6 TT (Sx.au::pl na L [NF L,pO TT]) (pk na+2) rj;have c169:=Qz w cf s true (pk na+1) TT (Sx.au::pl na L [NF L,pO TT]) (pk na+2) I.e7 rj;have c174:WO (E7 !=0)=.bool (!ze):=congrArg (fun b=>WO (!b)) hz;have c182:=Vq w cf s (pk na+1) E7 (Sx.au::pl na L [NF L,pO TT]) (pk na+2) I.T rj2;have z25:([.val (ae (rz ze TT E7).1),.val (.int .i64 (rz ze TT E7).2)]:List Sx.SV)=[.val (ae (rz ze TT E7).1),.val (.int .i64 (rz ze TT E7).2)]:=rfl;have CH:=Sx.t2 (WW cf.ak.length) (VD cf s) (WQ jz (fun(_:Unit) (_:True)=>(Sx.t2 (WW cf.af.length) (VC cf s) (WQ rd7 (fun(_:Unit) (_:True)=>(Sx.t2 (WW cf.ag.length) (VB cf s) (WQ rd12 (fun(_:Unit) (_:True)=>(Sx.t2 (WW cf.ab.length) (VA cf s) (WQ rd17 (fun(_:Unit) (_:True)=>(Sx.t2 (WW cf.rules.length) (Vz cf s) (WQ rd22 (fun(_:Unit) (_:True)=>(WQ c144 (cy.mk (b:=d1) (fun _=>c148) (cy.mk (b:=d1||d2) (fun _=>c153) (Sx.t8 c155 c160 c161 c162 c167 I.c168 c169 c174 (cy.mk (b:=!ze) (fun _=>c182) z25)))))))))))))))))));refine Sx.b6 (args:=[.val (.agg (aL cf s).toArray)]) (iO w) [(18,.vS [(0,0,0),(1,5,1)]),(144,.is (.bool d1)),(148,.is (.bool d2)),(153,.is (.bool d4)),(155,.ay (lB [] 1 2 none (B5 cf) E6)),(157,.jq 9 1),(160,Up na L),(161,.app 0 []),(162,.ay (Be [pk na] 1 2 (pk na+1) none TT E6 (.tuple #[]))),(167,.ay ⟨[1,pk na+1],[],[],[],.val (.int .i64 (TT.length:Int)),none⟩),(168,.is (.bool bl)),(169,.ay (lB [] 1 (pk na+1) none true E7)),(174,.is (.bool (!ze))),(182,.ay ⟨[1,pk na+1],[],[1,pk na+1],[],.val (ae TT),none⟩)] (OZ cf s) (by kernel_rfl) func28 rfl (bU rfl) rfl ?_;clear I ha hL h1 h2 h4 hz jz rd7 rd12 rd17 rd22 c144 c148 c153 c155 c160 c161 rk rj rj2 c162 c167 c169 c174 c182 z25 g1 g2 g3 g4 g5;cases na with
 |true=>obtain rfl:L=[]:=of_decide_eq_true hna;cases d1<;>cases d2<;>cases d4<;>cases ze<;>exact WS (by kernel_rfl) CH
 |false=>cases d1<;>cases d2<;>cases d4<;>cases ze<;>exact WS (by kernel_rfl) CH
end
theorem jN.sub{w:World}{S S':List Nat}{cf:CF}{s:gG}(h:jN w S cf s)(hs:∀k∈S',k∈S∨w.heap.size≤k):jN w S' cf s:=⟨h.p.sub hs,h.r.sub hs,h.l.sub hs,h.m.sub hs,h.i.sub hs⟩
theorem OY{w:World}(hlan:dO w)(cf:CF)(s:gG)(h:jN w [] cf s)(hw:lz cf)(hf:nt cf)(hB:(fT cf).length≤140737488355328):Calls prog 28 #[.agg (aL cf s).toArray] w (Rn w (.tuple #[ae (jn cf).1,.int .i64 (jn cf).2])):=by
 have hT:fT cf=T5 cf++jh (bD::bj cf.bA 0):=(U2 cf).symm;have hE:xP cf=aW (decide ((fT cf).length≤65536)) 4 (aW (bP (cf.bA==1) (bP (cf.bA==2) (cf.bA==4))) 2 (E5 cf)):=by unfold xP;rw[←U8 cf];rfl
 have hp:jn cf=rz (xP cf==0) (fT cf) (xP cf):=by
  unfold jn rz;by_cases h0:xP cf=0
  ·rw[if_pos h0,h0];rfl
  ·rw[if_neg h0,beq_eq_false_iff_ne.2 h0]
 have hL:(bj cf.bA 0).length≤10:=by
  unfold bj;repeat' split
  all_goals simp
 have main:=Ip (w:=w) (cf:=cf) (s:=s) (TT:=fT cf) (bl:=decide ((fT cf).length≤65536)) (E6:=aW (bP (cf.bA==1) (bP (cf.bA==2) (cf.bA==4))) 2 (E5 cf)) (E7:=xP cf) ⟨hlan,h,hw,hf,hT,hB,rfl,rfl,hE⟩ rfl hL rfl rfl rfl rfl rfl;rw[←hp]at main;refine main.mono fun en w' hp=>?_;rcases hp with⟨β,l,mem,hl,he,hR⟩ | ⟨_,_,hf,_⟩
 ·have hl:l=[.val (ae (jn cf).1),.val (.int .i64 (jn cf).2)]:=hl
  subst hl;exact⟨he,hR.aF⟩
 ·exact hf.elim
set_option maxRecDepth 100000
open Go Go.RowKit Go.Lib Go.Sort _root_.Go.Proofs.Tryz
set_option maxRecDepth 100000
def kt{α:Type}(a b:List α)(k:Nat):Prop:=∀j,j < k→a[j]?=b[j]?
theorem kt.all{α:Type}{a b:List α}(h:kt a b a.length)(hl:a.length=b.length):a=b:=by
 refine List.ext_getElem? fun j=>?_;by_cases hj:j < a.length
 ·exact h j hj
 ·rw[Xb (by omega),Xb (by omega)]
def Nk(B:Bool)(l:List Sx.SV)(_:List Sx.Row):Prop:=l=[.val (.bool B)]
def eQ(a b:CF)(s t:gG):List Sx.Row:=[⟨46,.aj (aL a s)⟩,⟨46,.aj (aL b t)⟩]
theorem iJ(a:Int):WO (a !=a)=.bool false:=by simp
abbrev Tz{α:Type}(w:World)(B:Bool)(k p:Nat)(x y:List α)(mm:List Sx.Row)(i:Nat):Prop:=∃H' L',Sx.ky prog f25.ntmps ⟨w,[],fun _ _=>False⟩ (Sx.bq f25 k) H' L' ⟨[(2,.ptr 0 0),(3,.ptr 1 0),(p,.val (.int .i64 ((i:Nat):Int)))],mm⟩
 (Sx.dP (fun i=>i≤x.length∧kt x y i) (fun i=>[(2,.ptr 0 0),(3,.ptr 1 0),(p,.val (.int .i64 ((i:Nat):Int)))]) (fun _=>mm) (fun i=>i+1) (fun i=>x.length - i) (fun(_:Unit)=>x=y) (fun _=>[(2,.ptr 0 0),(3,.ptr 1 0)]) (fun _=>mm) (fun _=>()) (Sx.eo (Sx.bq f25 k) - 1) (Sx.fM prog f25 (Nk B) .ret) i)
theorem kt.up{α:Type}{a b:List α}{i:Nat}(h:kt a b i)(e:a[i]?=b[i]?):kt a b (i+1):=fun j hj=>by
 by_cases hji:j=i
 ·rw[hji];exact e
 ·exact h j (by omega)
theorem Ty{w:World}(a b:CF)(s t:gG)(ha:jN w [] a s)(hb:jN w [] b t)(wa:lz a)(wb:lz b)(fa:nt a)(hl:a.ak.length=b.ak.length)(B:Bool)(hB:a.ak≠b.ak→B=false)(i:Nat)(hi:i≤a.ak.length∧kt a.ak b.ak i) :
  Tz w B 0 5 a.ak b.ak (eQ a b s t) i:=by
 have qT:=fa.p;by_cases hlt:i < a.ak.length
 ·have c64:=bT ((i:Int) < (a.ak.length:Int)) (by omega)
  have hx:=getD_at hlt;have hy:=getD_at (l:=b.ak) (i:=i) (by omega);have wx:=wa.p _ (dJ hlt);have wy:=wb.p _ (dJ (l:=b.ak) (i:=i) (by omega));obtain⟨inf,hi1,hi2⟩:=iK (P:=prog) (t:=3) (n:=1) (by kernel_rfl);obtain⟨p,hp1,hp2⟩:=ha.p.Te underlying40 hi1 hi2 underlying3 rfl hx;obtain⟨q,hq1,hq2⟩:=hb.p.Te underlying40 hi1 hi2 underlying3 rfl hy;obtain⟨x,hxe⟩:∃x,x=a.ak.getD i default:=⟨_,rfl⟩;obtain⟨y,hye⟩:∃y,y=b.ak.getD i default:=⟨_,rfl⟩;rw[←hxe]at hx wx hp2;rw[←hye]at hy wy hq2;clear hi1 hi2 hxe hye;have c70:=hp1;have c71:=hp2;have c75:=hq1;have c76:=hq2;by_cases hxy:x=y
  ·have c77:WO (x !=y)=.bool false:=by rw[hxy];exact iJ y
   have c66:=mY (i:=i) (by omega);have h0:i+1≤a.ak.length∧kt a.ak b.ak (i+1):=⟨hlt,hi.2.up (by rw[hx,hy,hxy])⟩;have h1:a.ak.length - (i+1) < a.ak.length - i:=by omega
   have h2:=@rfl _ ([(2,.ptr 0 0),(3,.ptr 1 0),(5,.val (.int .i64 ((i+1:Nat):Int)))]:List (Nat×Sx.SV));have z3:=@rfl _ (eQ a b s t);refine⟨[(64,.is (.bool true)),(70,.any p),(71,.any (.int .i64 x)),(75,.any q),(76,.any (.int .i64 y)),(77,.is (.bool false)),(66,.is (.int .i64 ((i+1:Nat):Int)))],[],?_⟩;exact WS (by kernel_rfl) (Sx.t8 c64 c70 c71 c75 c76 c77 c66 h0 (Sx.t2 h1 h2 z3))
  ·have c77:WO (x !=y)=.bool true:=qI (bne_iff_ne.2 hxy)
   have hf:B=false:=hB fun he=>hxy (by rw[he,hy]at hx;exact(WN.inj hx).symm);have z0:Nk B [.val (.bool false)] []:=by rw[hf];rfl
   refine⟨[(64,.is (.bool true)),(70,.any p),(71,.any (.int .i64 x)),(75,.any q),(76,.any (.int .i64 y)),(77,.is (.bool true))],[],?_⟩;exact WS (by kernel_rfl) (Sx.t4 c64 c70 c71 c75 (Sx.t2 c76 c77 z0))
 ·have c64:=bF ((i:Int) < (a.ak.length:Int)) (by omega)
  have hin:i=a.ak.length:=by omega
  have h0:a.ak=b.ak:=kt.all (by rw[←hin];exact hi.2) hl;have h1:=@rfl _ ([(2,.ptr 0 0),(3,.ptr 1 0)]:List (Nat×Sx.SV));have z2:=@rfl _ (eQ a b s t);refine⟨[(64,.is (.bool false))],[],?_⟩;exact WS (by kernel_rfl) (Sx.t2 c64 h0 (WQ h1 z2))
theorem Tw{w:World}(a b:CF)(s t:gG)(ha:jN w [] a s)(hb:jN w [] b t)(wa:lz a)(wb:lz b)(fa:nt a)(hl:a.af.length=b.af.length)(B:Bool)(hB:a.af≠b.af→B=false)(i:Nat)(hi:i≤a.af.length∧kt a.af b.af i) :
  Tz w B 1 6 a.af b.af (eQ a b s t) i:=by
 have qT:=fa.r;by_cases hlt:i < a.af.length
 ·have c82:=bT ((i:Int) < (a.af.length:Int)) (by omega)
  have hx:=getD_at hlt;have hy:=getD_at (l:=b.af) (i:=i) (by omega);have wx:=wa.r _ (dJ hlt);have wy:=wb.r _ (dJ (l:=b.af) (i:=i) (by omega));obtain⟨inf,hi1,hi2⟩:=iK (P:=prog) (t:=118) (n:=19) (by kernel_rfl);obtain⟨p,hp1,hp2⟩:=ha.r.JN Rt.aT underlying41 hi1 hi2 underlying118 rfl (by omega) hx;obtain⟨q,hq1,hq2⟩:=hb.r.JN Rt.aT underlying41 hi1 hi2 underlying118 rfl (by omega) hy;obtain⟨x,hxe⟩:∃x,x=a.af.getD i default:=⟨_,rfl⟩;obtain⟨y,hye⟩:∃y,y=b.af.getD i default:=⟨_,rfl⟩;rw[←hxe]at hx wx hp2;rw[←hye]at hy wy hq2;clear hi1 hi2 hxe hye;have c88:=hp1;have c89:=hp2;have c93:=hq1;have c94:=hq2;by_cases hxy:x=y
  ·have c95:=fun W=>(Kw (.tmp 89) (.tmp 94) wx wy W).trans (by rw[(bW x y).2 hxy];rfl:_=WY (.bool false) W)
   have c84:=mY (i:=i) (by omega);have h0:i+1≤a.af.length∧kt a.af b.af (i+1):=⟨hlt,hi.2.up (by rw[hx,hy,hxy])⟩;have h1:a.af.length - (i+1) < a.af.length - i:=by omega
   have h2:=@rfl _ ([(2,.ptr 0 0),(3,.ptr 1 0),(6,.val (.int .i64 ((i+1:Nat):Int)))]:List (Nat×Sx.SV));have z3:=@rfl _ (eQ a b s t);refine⟨[(82,.is (.bool true)),(88,.any p),(89,.any (.agg x.cells.toArray)),(93,.any q),(94,.any (.agg y.cells.toArray)),(95,.bin (.bool false)),(84,.is (.int .i64 ((i+1:Nat):Int)))],[],?_⟩;exact WS (by kernel_rfl) (Sx.t8 c82 c88 c89 c93 c94 c95 c84 h0 (Sx.t2 h1 h2 z3))
  ·have c95:=fun W=>(Kw (.tmp 89) (.tmp 94) wx wy W).trans (by rw[show ef x y=false from WU.2 fun hh=>hxy ((bW x y).1 hh)];rfl:_=WY (.bool true) W)
   have hf:B=false:=hB fun he=>hxy (by rw[he,hy]at hx;exact(WN.inj hx).symm);have z0:Nk B [.val (.bool false)] []:=by rw[hf];rfl
   refine⟨[(82,.is (.bool true)),(88,.any p),(89,.any (.agg x.cells.toArray)),(93,.any q),(94,.any (.agg y.cells.toArray)),(95,.bin (.bool true))],[],?_⟩;exact WS (by kernel_rfl) (Sx.t4 c82 c88 c89 c93 (Sx.t2 c94 c95 z0))
 ·have c82:=bF ((i:Int) < (a.af.length:Int)) (by omega)
  have hin:i=a.af.length:=by omega
  have h0:a.af=b.af:=kt.all (by rw[←hin];exact hi.2) hl;have h1:=@rfl _ ([(2,.ptr 0 0),(3,.ptr 1 0)]:List (Nat×Sx.SV));have z2:=@rfl _ (eQ a b s t);refine⟨[(82,.is (.bool false))],[],?_⟩;exact WS (by kernel_rfl) (Sx.t2 c82 h0 (WQ h1 z2))
theorem Tv{w:World}(a b:CF)(s t:gG)(ha:jN w [] a s)(hb:jN w [] b t)(wa:lz a)(wb:lz b)(fa:nt a)(hl:a.ag.length=b.ag.length)(B:Bool)(hB:a.ag≠b.ag→B=false)(i:Nat)(hi:i≤a.ag.length∧kt a.ag b.ag i) :
  Tz w B 2 7 a.ag b.ag (eQ a b s t) i:=by
 have qT:=fa.m;by_cases hlt:i < a.ag.length
 ·have c100:=bT ((i:Int) < (a.ag.length:Int)) (by omega)
  have hx:=getD_at hlt;have hy:=getD_at (l:=b.ag) (i:=i) (by omega);have wx:=wa.m _ (dJ hlt);have wy:=wb.m _ (dJ (l:=b.ag) (i:=i) (by omega));obtain⟨inf,hi1,hi2⟩:=iK (P:=prog) (t:=122) (n:=4) (by kernel_rfl);obtain⟨p,hp1,hp2⟩:=ha.m.JN Me.aT underlying43 hi1 hi2 underlying122 rfl (by omega) hx;obtain⟨q,hq1,hq2⟩:=hb.m.JN Me.aT underlying43 hi1 hi2 underlying122 rfl (by omega) hy;obtain⟨x,hxe⟩:∃x,x=a.ag.getD i default:=⟨_,rfl⟩;obtain⟨y,hye⟩:∃y,y=b.ag.getD i default:=⟨_,rfl⟩;rw[←hxe]at hx wx hp2;rw[←hye]at hy wy hq2;clear hi1 hi2 hxe hye;have c106:=hp1;have c107:=hp2;have c111:=hq1;have c112:=hq2;by_cases hxy:x=y
  ·have c113:=fun W=>(LB (.tmp 107) (.tmp 112) wx wy W).trans (by rw[(bW x y).2 hxy];rfl:_=WY (.bool false) W)
   have c102:=mY (i:=i) (by omega);have h0:i+1≤a.ag.length∧kt a.ag b.ag (i+1):=⟨hlt,hi.2.up (by rw[hx,hy,hxy])⟩;have h1:a.ag.length - (i+1) < a.ag.length - i:=by omega
   have h2:=@rfl _ ([(2,.ptr 0 0),(3,.ptr 1 0),(7,.val (.int .i64 ((i+1:Nat):Int)))]:List (Nat×Sx.SV));have z3:=@rfl _ (eQ a b s t);refine⟨[(100,.is (.bool true)),(106,.any p),(107,.any (.agg x.cells.toArray)),(111,.any q),(112,.any (.agg y.cells.toArray)),(113,.bin (.bool false)),(102,.is (.int .i64 ((i+1:Nat):Int)))],[],?_⟩;exact WS (by kernel_rfl) (Sx.t8 c100 c106 c107 c111 c112 c113 c102 h0 (Sx.t2 h1 h2 z3))
  ·have c113:=fun W=>(LB (.tmp 107) (.tmp 112) wx wy W).trans (by rw[show ef x y=false from WU.2 fun hh=>hxy ((bW x y).1 hh)];rfl:_=WY (.bool true) W)
   have hf:B=false:=hB fun he=>hxy (by rw[he,hy]at hx;exact(WN.inj hx).symm);have z0:Nk B [.val (.bool false)] []:=by rw[hf];rfl
   refine⟨[(100,.is (.bool true)),(106,.any p),(107,.any (.agg x.cells.toArray)),(111,.any q),(112,.any (.agg y.cells.toArray)),(113,.bin (.bool true))],[],?_⟩;exact WS (by kernel_rfl) (Sx.t4 c100 c106 c107 c111 (Sx.t2 c112 c113 z0))
 ·have c100:=bF ((i:Int) < (a.ag.length:Int)) (by omega)
  have hin:i=a.ag.length:=by omega
  have h0:a.ag=b.ag:=kt.all (by rw[←hin];exact hi.2) hl;have h1:=@rfl _ ([(2,.ptr 0 0),(3,.ptr 1 0)]:List (Nat×Sx.SV));have z2:=@rfl _ (eQ a b s t);refine⟨[(100,.is (.bool false))],[],?_⟩;exact WS (by kernel_rfl) (Sx.t2 c100 h0 (WQ h1 z2))
theorem Tu{w:World}(a b:CF)(s t:gG)(ha:jN w [] a s)(hb:jN w [] b t)(wa:lz a)(wb:lz b)(fa:nt a)(hl:a.ab.length=b.ab.length)(B:Bool)(hB:a.ab≠b.ab→B=false)(i:Nat)(hi:i≤a.ab.length∧kt a.ab b.ab i) :
  Tz w B 3 8 a.ab b.ab (eQ a b s t) i:=by
 have qT:=fa.i;by_cases hlt:i < a.ab.length
 ·have c118:=bT ((i:Int) < (a.ab.length:Int)) (by omega)
  have hx:=getD_at hlt;have hy:=getD_at (l:=b.ab) (i:=i) (by omega);have wx:=wa.i _ (dJ hlt);have wy:=wb.i _ (dJ (l:=b.ab) (i:=i) (by omega));obtain⟨inf,hi1,hi2⟩:=iK (P:=prog) (t:=124) (n:=3) (by kernel_rfl);obtain⟨p,hp1,hp2⟩:=ha.i.JN Mi.aT underlying44 hi1 hi2 underlying124 rfl (by omega) hx;obtain⟨q,hq1,hq2⟩:=hb.i.JN Mi.aT underlying44 hi1 hi2 underlying124 rfl (by omega) hy;obtain⟨x,hxe⟩:∃x,x=a.ab.getD i default:=⟨_,rfl⟩;obtain⟨y,hye⟩:∃y,y=b.ab.getD i default:=⟨_,rfl⟩;rw[←hxe]at hx wx hp2;rw[←hye]at hy wy hq2;clear hi1 hi2 hxe hye;have c124:=hp1;have c125:=hp2;have c129:=hq1;have c130:=hq2;by_cases hxy:x=y
  ·have c131:=fun W=>(Lz (.tmp 125) (.tmp 130) wx wy W).trans (by rw[(bW x y).2 hxy];rfl:_=WY (.bool false) W)
   have c120:=mY (i:=i) (by omega);have h0:i+1≤a.ab.length∧kt a.ab b.ab (i+1):=⟨hlt,hi.2.up (by rw[hx,hy,hxy])⟩;have h1:a.ab.length - (i+1) < a.ab.length - i:=by omega
   have h2:=@rfl _ ([(2,.ptr 0 0),(3,.ptr 1 0),(8,.val (.int .i64 ((i+1:Nat):Int)))]:List (Nat×Sx.SV));have z3:=@rfl _ (eQ a b s t);refine⟨[(118,.is (.bool true)),(124,.any p),(125,.any (.agg x.cells.toArray)),(129,.any q),(130,.any (.agg y.cells.toArray)),(131,.bin (.bool false)),(120,.is (.int .i64 ((i+1:Nat):Int)))],[],?_⟩;exact WS (by kernel_rfl) (Sx.t8 c118 c124 c125 c129 c130 c131 c120 h0 (Sx.t2 h1 h2 z3))
  ·have c131:=fun W=>(Lz (.tmp 125) (.tmp 130) wx wy W).trans (by rw[show ef x y=false from WU.2 fun hh=>hxy ((bW x y).1 hh)];rfl:_=WY (.bool true) W)
   have hf:B=false:=hB fun he=>hxy (by rw[he,hy]at hx;exact(WN.inj hx).symm);have z0:Nk B [.val (.bool false)] []:=by rw[hf];rfl
   refine⟨[(118,.is (.bool true)),(124,.any p),(125,.any (.agg x.cells.toArray)),(129,.any q),(130,.any (.agg y.cells.toArray)),(131,.bin (.bool true))],[],?_⟩;exact WS (by kernel_rfl) (Sx.t4 c118 c124 c125 c129 (Sx.t2 c130 c131 z0))
 ·have c118:=bF ((i:Int) < (a.ab.length:Int)) (by omega)
  have hin:i=a.ab.length:=by omega
  have h0:a.ab=b.ab:=kt.all (by rw[←hin];exact hi.2) hl;have h1:=@rfl _ ([(2,.ptr 0 0),(3,.ptr 1 0)]:List (Nat×Sx.SV));have z2:=@rfl _ (eQ a b s t);refine⟨[(118,.is (.bool false))],[],?_⟩;exact WS (by kernel_rfl) (Sx.t2 c118 h0 (WQ h1 z2))
theorem Tt{w:World}(a b:CF)(s t:gG)(ha:jN w [] a s)(hb:jN w [] b t)(wa:lz a)(wb:lz b)(fa:nt a)(hl:a.rules.length=b.rules.length)(B:Bool)(hB:a.rules≠b.rules→B=false)(i:Nat)(hi:i≤a.rules.length∧kt a.rules b.rules i) :
  Tz w B 4 9 a.rules b.rules (eQ a b s t) i:=by
 have qT:=fa.l;by_cases hlt:i < a.rules.length
 ·have c136:=bT ((i:Int) < (a.rules.length:Int)) (by omega)
  have hx:=getD_at hlt;have hy:=getD_at (l:=b.rules) (i:=i) (by omega);have wx:=wa.l _ (dJ hlt);have wy:=wb.l _ (dJ (l:=b.rules) (i:=i) (by omega));obtain⟨inf,hi1,hi2⟩:=iK (P:=prog) (t:=81) (n:=49) (by kernel_rfl);obtain⟨p,hp1,hp2⟩:=ha.l.JN Rl.aT underlying42 hi1 hi2 underlying81 rfl (by omega) hx;obtain⟨q,hq1,hq2⟩:=hb.l.JN Rl.aT underlying42 hi1 hi2 underlying81 rfl (by omega) hy;obtain⟨x,hxe⟩:∃x,x=a.rules.getD i default:=⟨_,rfl⟩;obtain⟨y,hye⟩:∃y,y=b.rules.getD i default:=⟨_,rfl⟩;rw[←hxe]at hx wx hp2;rw[←hye]at hy wy hq2;clear hi1 hi2 hxe hye;have c142:=hp1;have c143:=hp2;have c147:=hq1;have c148:=hq2;by_cases hxy:x=y
  ·have c149:=fun W=>(KL (.tmp 143) (.tmp 148) wx wy W).trans (by rw[(bW x y).2 hxy];rfl:_=WY (.bool false) W)
   have c138:=mY (i:=i) (by omega);have h0:i+1≤a.rules.length∧kt a.rules b.rules (i+1):=⟨hlt,hi.2.up (by rw[hx,hy,hxy])⟩;have h1:a.rules.length - (i+1) < a.rules.length - i:=by omega
   have h2:=@rfl _ ([(2,.ptr 0 0),(3,.ptr 1 0),(9,.val (.int .i64 ((i+1:Nat):Int)))]:List (Nat×Sx.SV));have z3:=@rfl _ (eQ a b s t);refine⟨[(136,.is (.bool true)),(142,.any p),(143,.any (.agg x.cells.toArray)),(147,.any q),(148,.any (.agg y.cells.toArray)),(149,.bin (.bool false)),(138,.is (.int .i64 ((i+1:Nat):Int)))],[],?_⟩;exact WS (by kernel_rfl) (Sx.t8 c136 c142 c143 c147 c148 c149 c138 h0 (Sx.t2 h1 h2 z3))
  ·have c149:=fun W=>(KL (.tmp 143) (.tmp 148) wx wy W).trans (by rw[show ef x y=false from WU.2 fun hh=>hxy ((bW x y).1 hh)];rfl:_=WY (.bool true) W)
   have hf:B=false:=hB fun he=>hxy (by rw[he,hy]at hx;exact(WN.inj hx).symm);have z0:Nk B [.val (.bool false)] []:=by rw[hf];rfl
   refine⟨[(136,.is (.bool true)),(142,.any p),(143,.any (.agg x.cells.toArray)),(147,.any q),(148,.any (.agg y.cells.toArray)),(149,.bin (.bool true))],[],?_⟩;exact WS (by kernel_rfl) (Sx.t4 c136 c142 c143 c147 (Sx.t2 c148 c149 z0))
 ·have c136:=bF ((i:Int) < (a.rules.length:Int)) (by omega)
  have hin:i=a.rules.length:=by omega
  have h0:a.rules=b.rules:=kt.all (by rw[←hin];exact hi.2) hl;have h1:=@rfl _ ([(2,.ptr 0 0),(3,.ptr 1 0)]:List (Nat×Sx.SV));have z2:=@rfl _ (eQ a b s t);refine⟨[(136,.is (.bool false))],[],?_⟩;exact WS (by kernel_rfl) (Sx.t2 c136 h0 (WQ h1 z2))
theorem Tc(a b:Int):WO (a !=b)=.bool (!decide (a=b)):=by by_cases h:a=b<;>simp[h]
theorem Ol{w:World}(a b:CF)(s t:gG)(z0 z1 z2 z3 z4 z5 B:Bool)(hf:(z0||(z1||(z2||(z3||(z4||z5)))))=true→B=false)
  (jM:WO ((a.ak.length:Int) !=(b.ak.length:Int))=.bool z0) (c24:WO ((a.af.length:Int) !=(b.af.length:Int))=.bool z1) (c33:WO ((a.ag.length:Int) !=(b.ag.length:Int))=.bool z2) (uh:WO ((a.ab.length:Int) !=(b.ab.length:Int))=.bool z3)
  (c51:WO ((a.rules.length:Int) !=(b.rules.length:Int))=.bool z4) (c58:WO (a.bA !=b.bA)=.bool z5) (h:(z0||(z1||(z2||(z3||(z4||z5)))))=true):Calls prog 25 #[.agg (aL a s).toArray,.agg (aL b t).toArray] w (Sx.dc ⟨w,[],fun _ _=>False⟩ (Nk B)):=by
 have zz:Nk B [.val (.bool false)] []:=by rw[hf h];rfl
 have CH:=WQ jM (cy.mk (b:=z0) (fun _=>c24) (cy.mk (b:=z0||z1) (fun _=>c33) (cy.mk (b:=z0||z1||z2) (fun _=>uh) (cy.mk (b:=z0||z1||z2||z3) (fun _=>c51) (cy.mk (b:=z0||z1||z2||z3||z4) (fun _=>c58) zz)))));refine Sx.b6 (args:=[.val (.agg (aL a s).toArray),.val (.agg (aL b t).toArray)]) (iO w) [(16,.is (.bool z0)),(24,.is (.bool z1)),(33,.is (.bool z2)),(42,.is (.bool z3)),(51,.is (.bool z4)),(58,.is (.bool z5))] [] (by kernel_rfl) func25 rfl (bU rfl) rfl ?_;clear hf zz jM c24 c33 uh c51 c58;cases z0
 ·cases z1
  ·cases z2
   ·cases z3
    ·cases z4
     ·cases z5
      ·cases h
      ·exact WS (by kernel_rfl) CH
     ·exact WS (by kernel_rfl) CH
    ·exact WS (by kernel_rfl) CH
   ·exact WS (by kernel_rfl) CH
  ·exact WS (by kernel_rfl) CH
 ·exact WS (by kernel_rfl) CH
def TA{α:Type}(p:Nat)(x y:List α)(mm:List Sx.Row):Sx.Loop:=.mk Nat 0 (fun i=>i≤x.length∧kt x y i) (fun i=>[(2,.ptr 0 0),(3,.ptr 1 0),(p,.val (.int .i64 ((i:Nat):Int)))]) (fun _=>mm) (fun i=>i+1) (fun i=>x.length - i) Unit (fun _=>x=y) (fun _=>[(2,.ptr 0 0),(3,.ptr 1 0)]) (fun _=>mm) (fun _=>())
theorem TB{α:Type}(p:Nat)(x y:List α)(mm:List Sx.Row):(0≤x.length∧kt x y 0)∧(([(2,.ptr 0 0),(3,.ptr 1 0),(p,.val (.int .i64 ((0:Nat):Int)))]:List (Nat×Sx.SV))=[(2,.ptr 0 0),(3,.ptr 1 0),(p,.val (.int .i64 ((0:Nat):Int)))]∧mm=mm):=⟨⟨WW _,fun j hj=>(by omega)⟩,rfl,rfl⟩
theorem Oj{w:World}(a b:CF)(s t:gG)(ha:jN w [] a s)(hb:jN w [] b t)(wa:lz a)(wb:lz b)(fa:nt a)(e0:a.ak.length=b.ak.length)(e1:a.af.length=b.af.length)(e2:a.ag.length=b.ag.length)(e3:a.ab.length=b.ab.length)(e4:a.rules.length=b.rules.length)(e5:a.bA=b.bA):Calls prog 25 #[.agg (aL a s).toArray,.agg (aL b t).toArray] w (Sx.dc ⟨w,[],fun _ _=>False⟩ (Nk (ef a b))):=by
 have jM:WO ((a.ak.length:Int) !=(b.ak.length:Int))=.bool false:=by rw[e0];exact iJ _
 have c24:WO ((a.af.length:Int) !=(b.af.length:Int))=.bool false:=by rw[e1];exact iJ _
 have c33:WO ((a.ag.length:Int) !=(b.ag.length:Int))=.bool false:=by rw[e2];exact iJ _
 have uh:WO ((a.ab.length:Int) !=(b.ab.length:Int))=.bool false:=by rw[e3];exact iJ _
 have c51:WO ((a.rules.length:Int) !=(b.rules.length:Int))=.bool false:=by rw[e4];exact iJ _
 have c58:WO (a.bA !=b.bA)=.bool false:=by rw[e5];exact iJ _
 have hB:∀{p:Prop},(a=b→p)→¬p→ef a b=false:=fun h hn=>WU.2 fun hh=>hn (h ((bW a b).1 hh));have jz:=Ty a b s t ha hb wa wb fa e0 (ef a b) (hB fun hh=>by rw[hh]);obtain⟨h0,ee1⟩:=TB 5 a.ak b.ak (eQ a b s t);have rd7:=Tw a b s t ha hb wa wb fa e1 (ef a b) (hB fun hh=>by rw[hh]);obtain⟨h5,e6⟩:=TB 6 a.af b.af (eQ a b s t);have rd12:=Tv a b s t ha hb wa wb fa e2 (ef a b) (hB fun hh=>by rw[hh]);obtain⟨h10,e11⟩:=TB 7 a.ag b.ag (eQ a b s t);have rd17:=Tu a b s t ha hb wa wb fa e3 (ef a b) (hB fun hh=>by rw[hh]);obtain⟨h15,e16⟩:=TB 8 a.ab b.ab (eQ a b s t);have rd22:=Tt a b s t ha hb wa wb fa e4 (ef a b) (hB fun hh=>by rw[hh]);obtain⟨h20,e21⟩:=TB 9 a.rules b.rules (eQ a b s t);have z25f:=fun(_:Unit) (q0:a.ak=b.ak) (_:Unit) (q1:a.af=b.af) (_:Unit) (q2:a.ag=b.ag) (_:Unit) (q3:a.ab=b.ab) (_:Unit) (q4:a.rules=b.rules)=>(show Nk (ef a b) [.val (.bool true)] []from by
  have:a=b:=by cases a;cases b;simp_all
  rw[(bW a b).2 this];rfl)
 clear e1;have e1:=ee1
 refine Sx.b6 (args:=[.val (.agg (aL a s).toArray),.val (.agg (aL b t).toArray)]) (iO w) [(16,.is (.bool false)),(24,.is (.bool false)),(33,.is (.bool false)),(42,.is (.bool false)),(51,.is (.bool false)),(58,.is (.bool false))]
  [TA 5 a.ak b.ak (eQ a b s t),TA 6 a.af b.af (eQ a b s t),TA 7 a.ag b.ag (eQ a b s t),TA 8 a.ab b.ab (eQ a b s t),TA 9 a.rules b.rules (eQ a b s t)] (by kernel_rfl) func25 rfl (bU rfl) rfl ?_
 exact WS (by kernel_rfl) (Sx.t8 jM c24 c33 uh c51 c58 h0 e1 (WQ jz (fun(x3:Unit) (hx4:a.ak=b.ak)=>(Sx.t2 h5 e6 (WQ rd7 (fun(x8:Unit) (hx9:a.af=b.af)=>(Sx.t2 h10 e11 (WQ rd12 (fun(x13:Unit) (hx14:a.ag=b.ag)=>(Sx.t2 h15 e16 (WQ rd17 (fun(x18:Unit) (hx19:a.ab=b.ab)=>(Sx.t2 h20 e21 (WQ rd22 (fun(x23:Unit) (hx24:a.rules=b.rules)=>(z25f x3 hx4 x8 hx9 x13 hx14 x18 hx19 x23 hx24))))))))))))))))
theorem Rq{w:World}(a b:CF)(s t:gG)(ha:jN w [] a s)(hb:jN w [] b t)(wa:lz a)(wb:lz b)(fa:nt a):Calls prog 25 #[.agg (aL a s).toArray,.agg (aL b t).toArray] w (Rn w (.bool (ef a b))):=by
 have main:Calls prog 25 #[.agg (aL a s).toArray,.agg (aL b t).toArray] w (Sx.dc ⟨w,[],fun _ _=>False⟩ (Nk (ef a b))):=by
  by_cases e:a.ak.length=b.ak.length∧a.af.length=b.af.length∧a.ag.length=b.ag.length∧a.ab.length=b.ab.length∧a.rules.length=b.rules.length∧a.bA=b.bA
  ·exact Oj a b s t ha hb wa wb fa e.1 e.2.1 e.2.2.1 e.2.2.2.1 e.2.2.2.2.1 e.2.2.2.2.2
  ·exact Ol a b s t _ _ _ _ _ _ _ (fun _=>WU.2 fun hh=>e (by rw[(bW a b).1 hh];exact⟨rfl,rfl,rfl,rfl,rfl,rfl⟩)) (Tc _ _) (Tc _ _) (Tc _ _) (Tc _ _) (Tc _ _) (Tc _ _) (by simp only[Bool.or_eq_true,Bool.not_eq_true',decide_eq_false_iff_not];omega)
 refine main.mono fun en w' hp=>?_;rcases hp with⟨β,l,mem,hl,he,hR⟩ | ⟨_,_,hf,_⟩
 ·have hl:l=[.val (.bool (ef a b))]:=hl
  subst hl;exact⟨he,hR.aF⟩
 ·exact hf.elim
end Go.Proofs.YtnncigmpcdehnaaGreatDoor
