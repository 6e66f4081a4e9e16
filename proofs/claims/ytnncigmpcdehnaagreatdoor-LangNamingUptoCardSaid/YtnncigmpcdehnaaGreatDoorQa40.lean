import Derived.Test.YtnncigmpcdehnaaGreatDoorQa39
namespace Go.Proofs.YtnncigmpcdehnaaGreatDoor
set_option maxRecDepth 100000
open Go Go.RowKit Go.Lib Go.Sort
structure CfRd(w:World)(S:List Nat)(cf:CF)(s:Sls):Prop where
 p:Rds w S 1 (.slice s.p.A cf.ports.length s.p.c) cf.ports.length (cf.ports.map fun n=>Value.int .i64 n)
 r:Rds w S 19 (.slice s.r.A cf.routes.length s.r.c) cf.routes.length (cf.routes.flatMap Rt.cells)
 l:Rds w S 49 (.slice s.l.A cf.rules.length s.l.c) cf.rules.length (cf.rules.flatMap Rl.cells)
 m:Rds w S 4 (.slice s.m.A cf.meters.length s.m.c) cf.meters.length (cf.meters.flatMap Me.cells)
 i:Rds w S 3 (.slice s.i.A cf.mirrors.length s.i.c) cf.mirrors.length (cf.mirrors.flatMap Mi.cells)
structure CfWf(cf:CF):Prop where
 p:∀n∈cf.ports,I64 n
 r:∀n∈cf.routes,n.Wf
 l:∀n∈cf.rules,n.Wf
 m:∀n∈cf.meters,n.Wf
 i:∀n∈cf.mirrors,n.Wf
 d:I64 cf.dflt
structure CfFew(cf:CF):Prop where
 p:cf.ports.length≤1000000000
 r:cf.routes.length≤1000000000
 l:cf.rules.length≤1000000000
 m:cf.meters.length≤1000000000
 i:cf.mirrors.length≤1000000000
theorem CfRd.chg{w w':World}{S:List Nat}{cf:CF}{s:Sls}(h:CfRd w S cf s)(hc:Chg S w w'):CfRd w' S cf s:=⟨h.p.chg hc,h.r.chg hc,h.l.chg hc,h.m.chg hc,h.i.chg hc⟩
def cfCells(cf:CF)(s:Sls):List Value:=[.slice s.p.A cf.ports.length s.p.c,.slice s.r.A cf.routes.length s.r.c,.slice s.l.A cf.rules.length s.l.c,.slice s.m.A cf.meters.length s.m.c,.slice s.i.A cf.mirrors.length s.i.c,.int .i64 cf.dflt]
def T1(cf:CF):Bs:=pt0 [] cf.ports cf.ports.length
def T2(cf:CF):Bs:=pt1 (T1 cf) cf.routes cf.routes.length
def T3(cf:CF):Bs:=pt2 (T2 cf) cf.meters cf.meters.length
def T4(cf:CF):Bs:=pt3 (T3 cf) cf.mirrors cf.mirrors.length
def T5(cf:CF):Bs:=pt4 (T4 cf) cf.rules cf.rules.length
def E1(cf:CF):Int:=pe0 0 cf.ports cf.ports.length
def E2(cf:CF):Int:=pe1 (E1 cf) cf.routes cf.routes.length
def E3(cf:CF):Int:=pe2 (E2 cf) cf.meters cf.meters.length
def E4(cf:CF):Int:=pe3 (E3 cf) cf.mirrors cf.mirrors.length
def E5(cf:CF):Int:=pe4 (E4 cf) cf.rules cf.rules.length
def B1(cf:CF):Bool:=bI false cf.ports.length
def B2(cf:CF):Bool:=bI (B1 cf) cf.routes.length
def B3(cf:CF):Bool:=bI (B2 cf) cf.meters.length
def B4(cf:CF):Bool:=bI (B3 cf) cf.mirrors.length
def B5(cf:CF):Bool:=bI (B4 cf) cf.rules.length
theorem tI_ge{t0:Bs}{ws:Nat→List Bs}:∀n,t0.length≤(tI t0 ws n).length
 | 0=>Nat.le_refl _
 |n+1=>by rw[tI,List.length_append];exact Nat.le_trans (tI_ge n) (Nat.le_add_right _ _)
theorem T5_eq(cf:CF):T5 cf++lnB (dfltWs cf.dflt)=cfText cf:=by
 unfold cfText cfLines T5 T4 T3 T2 T1 pt4 pt3 pt2 pt1 pt0
 rw[tI_eq,tI_eq,tI_eq,tI_eq,tI_eq]
 have app:∀a b:List (List Bs),linesT (a++b)=linesT a++linesT b:=fun a b=>by simp[linesT]
 simp only[app,List.nil_append]
 simp[linesT]
theorem E5_eq(cf:CF):dfltE (E5 cf) cf.dflt=cfErr cf:=by
 unfold cfErr E5 E4 E3 E2 E1 pe4 pe3 pe2 pe1 pe0
 rw[eI_eq,eI_eq,eI_eq,eI_eq,eI_eq]
theorem len_call{b:Sx.Base}{row:Nat→Option Sx.Row}{i j m:Nat}{og:Option Nat}{p:Bool}{tx:Bs}{e:Int}(h:TxRows row i j og p tx e)(W:World)(β:Sx.Env)(hS:Sx.See b β W row [i,j]) :
  Calls Tryz.prog 76 (([.ptr i 0]:List Sx.SV).map (Sx.SV.den β)).toArray W (Sx.gPost b β W row m ⟨[i,j],[],[],[],.val (.int .i64 (tx.length:Int)),none⟩):=by
 obtain⟨ht,_⟩:=tx_see hS h (by simp) (by simp)
 refine(len_N ht).mono fun en w' ⟨he,hw⟩=>.inl ⟨fun p hp=>(by cases hp),β,Sx.gret_vals (v:=.int .i64 (tx.length:Int)) rfl rfl he (fun q hq=>(by cases hq)) (by rw[hw];exact Chg.refl _ _)⟩
theorem string_call{b:Sx.Base}{row:Nat→Option Sx.Row}{i j m:Nat}{og:Option Nat}{p:Bool}{tx:Bs}{e:Int}(h:TxRows row i j og p tx e)(h0:tx≠[])(W:World)(β:Sx.Env)(hS:Sx.See b β W row [i,j]) :
  Calls Tryz.prog 77 (([.ptr i 0]:List Sx.SV).map (Sx.SV.den β)).toArray W (Sx.gPost b β W row m ⟨[i,j],[],[i,j],[],.val (strV tx),none⟩):=by
 obtain⟨ht,_⟩:=tx_see hS h (by simp) (by simp)
 refine(string_N ht h0).mono fun en w' ⟨he,hc⟩=>.inl ⟨fun p hp=>(by cases hp),β,Sx.gret_vals (v:=strV tx) rfl rfl he (fun q hq=>(by cases hq)) (hc.mono fun k hk=>.inl ?_)⟩
 show k∈([]++[i,j]).filterMap (Sx.blkOf β row)
 rcases List.mem_cons.1 hk with rfl|hk
 ·refine List.mem_filterMap.2 ⟨i,by simp,?_⟩
  unfold Sx.blkOf
  rw[h.b]
  exact txRow_blk
 ·refine List.mem_filterMap.2 ⟨j,by simp,?_⟩
  unfold Sx.blkOf
  rw[h.o]
  show(β.a j).map (·.block)=some k
  simpa using hk
theorem lnB_ne(t:Bs)(ws:List Bs):t++lnB ws≠[]:=by unfold lnB;simp
abbrev pB(w:World):Sx.Base:=⟨w,[],fun _ _=>False⟩
abbrev pL(cf:CF)(s:Sls)(p:Bool)(j:Nat)(e:Int)(mem:List Sx.Row):List Sx.Row:=⟨46,.vals (cfCells cf s)⟩::txRow none [.nptr p 1 0,.own j,.val (.int .i64 e)]::mem
abbrev pO(t:Bs):Sx.Row:=⟨5,.own 1 t.length (byC t)⟩
def prLoops(cf:CF)(s:Sls):List Sx.Loop:=[.mk Nat 0 (fun i=>i≤cf.ports.length) (fun i=>pfr0 s.p.A cf.ports.length s.p.c i) (fun i=>pm0 (cfCells cf s) false [] 0 cf.ports i) (fun i=>i+1) (fun i=>cf.ports.length - i) Unit (fun _=>True) (fun _=>[(1,.ptr 0 0),(4,.ptr 1 0)]) (fun _=>pm0 (cfCells cf s) false [] 0 cf.ports cf.ports.length) (fun _=>()),
 .mk Nat 0 (fun i=>i≤cf.routes.length) (fun i=>pfr1 s.r.A cf.routes.length s.r.c i) (fun i=>pm1 (cfCells cf s) (B1 cf) (T1 cf) (E1 cf) cf.routes i) (fun i=>i+1) (fun i=>cf.routes.length - i) Unit (fun _=>True) (fun _=>[(1,.ptr 0 0),(4,.ptr 1 0)]) (fun _=>pm1 (cfCells cf s) (B1 cf) (T1 cf) (E1 cf) cf.routes cf.routes.length) (fun _=>()),
 .mk Nat 0 (fun i=>i≤cf.meters.length) (fun i=>pfr2 s.m.A cf.meters.length s.m.c i) (fun i=>pm2 (cfCells cf s) (B2 cf) (T2 cf) (E2 cf) cf.meters i) (fun i=>i+1) (fun i=>cf.meters.length - i) Unit (fun _=>True) (fun _=>[(1,.ptr 0 0),(4,.ptr 1 0)]) (fun _=>pm2 (cfCells cf s) (B2 cf) (T2 cf) (E2 cf) cf.meters cf.meters.length) (fun _=>()),
 .mk Nat 0 (fun i=>i≤cf.mirrors.length) (fun i=>pfr3 s.i.A cf.mirrors.length s.i.c i) (fun i=>pm3 (cfCells cf s) (B3 cf) (T3 cf) (E3 cf) cf.mirrors i) (fun i=>i+1) (fun i=>cf.mirrors.length - i) Unit (fun _=>True) (fun _=>[(1,.ptr 0 0),(4,.ptr 1 0)]) (fun _=>pm3 (cfCells cf s) (B3 cf) (T3 cf) (E3 cf) cf.mirrors cf.mirrors.length) (fun _=>()),
 .mk Nat 0 (fun i=>i≤cf.rules.length) (fun i=>pfr4 s.l.A cf.rules.length s.l.c i) (fun i=>pm4 (cfCells cf s) (B4 cf) (T4 cf) (E4 cf) cf.rules i) (fun i=>i+1) (fun i=>cf.rules.length - i) Unit (fun _=>True) (fun _=>[(1,.ptr 0 0),(4,.ptr 1 0)]) (fun _=>pm4 (cfCells cf s) (B4 cf) (T4 cf) (E4 cf) cf.rules cf.rules.length) (fun _=>())]
structure PrIn(w:World)(cf:CF)(s:Sls)(TT:Bs)(F:List Bs)(b bl:Bool)(E6 E7:Int):Prop where
 hl:Lan w
 r:CfRd w [] cf s
 w:CfWf cf
 f:CfFew cf
 T:TT=T5 cf++lnB F
 B:TT.length≤140737488355328
 d:bl=decide (TT.length≤65536)
 e6:E6=wantE b 2 (E5 cf)
 e7:E7=wantE bl 4 E6
section
variable{w:World}{cf:CF}{s:Sls}{TT:Bs}{F:List Bs}{b bl:Bool}{E6 E7:Int}
theorem PrIn.g(I:PrIn w cf s TT F b bl E6 E7):(T1 cf).length≤140737488355328∧(T2 cf).length≤140737488355328∧(T3 cf).length≤140737488355328∧(T4 cf).length≤140737488355328∧(T5 cf).length≤140737488355328:=by
 have g5:(T5 cf).length≤140737488355328:=by have hB:=I.B;rw[I.T,List.length_append]at hB;omega
 have g4:(T4 cf).length≤140737488355328:=Nat.le_trans (tI_ge _) g5
 have g3:(T3 cf).length≤140737488355328:=Nat.le_trans (tI_ge _) g4
 have g2:(T2 cf).length≤140737488355328:=Nat.le_trans (tI_ge _) g3
 exact⟨Nat.le_trans (tI_ge _) g2,g2,g3,g4,g5⟩
theorem PrIn.c168(I:PrIn w cf s TT F b bl E6 E7):Value.bool (decide ((TT.length:Int)≤65536))=.bool bl:=by rw[I.d,show decide ((TT.length:Int)≤65536)=decide (TT.length≤65536)from by rw[decide_eq_decide];omega]
theorem wantP(w:World)(cf:CF)(s:Sls)(p:Bool)(j:Nat){e e':Int}{b:Bool}{code:Int}(tx:Bs)(mem:List Sx.Row)(m:Nat)(he:e'=wantE b code e)(rj:Sx.rowAt (pL cf s p j e mem) j=some (pO tx))(W:World)(β:Sx.Env)(hS:Sx.See (pB w) β W (Sx.rowAt (pL cf s p j e mem)) [1,j]):Calls Tryz.prog 69 (([.ptr 1 0,.val (.bool b),.val (.int .i64 code)]:List Sx.SV).map (Sx.SV.den β)).toArray W (Sx.gPost (pB w) β W (Sx.rowAt (pL cf s p j e mem)) m (wantG [] 1 j none p e')):=by
 rw[he];exact want_call b code ⟨rfl,rj⟩ W β hS
theorem lineP(w:World)(cf:CF)(s:Sls)(p:Bool){e:Int}(tx:Bs)(mem:List Sx.Row)(k m:Nat)(ws:List Bs)(hT:TT=tx++lnB ws)(rj:Sx.rowAt (pL cf s p 2 e mem) 2=some (pO tx))(hm:2 < m)(rk:Sx.rowAt (pL cf s p 2 e mem) k=some ⟨9,.own 1 ws.length (strs ws)⟩)(hn:ws.length≤1000000)(hl:TT.length≤140737488355328)(W:World)(β:Sx.Env)(hS:Sx.See (pB w) β W (Sx.rowAt (pL cf s p 2 e mem)) [1,2,k]) :
  Calls Tryz.prog 70 (([.ptr 1 0,.own k]:List Sx.SV).map (Sx.SV.den β)).toArray W (Sx.gPost (pB w) β W (Sx.rowAt (pL cf s p 2 e mem)) m (txG [k] 1 2 m none TT e (.tuple #[]))):=by
 subst hT
 exact line_call (p:=p) ws ⟨rfl,rj⟩ (by omega) hm rk hn (by rw[←List.length_append];exact hl) W β hS
theorem lenP(w:World)(cf:CF)(s:Sls)(j:Nat)(e:Int)(tx:Bs)(mem:List Sx.Row)(m:Nat)(rj:Sx.rowAt (pL cf s true j e mem) j=some (pO tx))(W:World)(β:Sx.Env)(hS:Sx.See (pB w) β W (Sx.rowAt (pL cf s true j e mem)) [1,j]) :
  Calls Tryz.prog 76 (([.ptr 1 0]:List Sx.SV).map (Sx.SV.den β)).toArray W (Sx.gPost (pB w) β W (Sx.rowAt (pL cf s true j e mem)) m ⟨[1,j],[],[],[],.val (.int .i64 (tx.length:Int)),none⟩):=len_call (p:=true) ⟨rfl,rj⟩ W β hS
theorem strP(w:World)(cf:CF)(s:Sls)(j:Nat)(e:Int)(mem:List Sx.Row)(m:Nat){x:Bs}{ws:List Bs}(hT:TT=x++lnB ws)(rj:Sx.rowAt (pL cf s true j e mem) j=some (pO TT))(W:World)(β:Sx.Env)(hS:Sx.See (pB w) β W (Sx.rowAt (pL cf s true j e mem)) [1,j]) :
  Calls Tryz.prog 77 (([.ptr 1 0]:List Sx.SV).map (Sx.SV.den β)).toArray W (Sx.gPost (pB w) β W (Sx.rowAt (pL cf s true j e mem)) m ⟨[1,j],[],[1,j],[],.val (strV TT),none⟩):=string_call (p:=true) ⟨rfl,rj⟩ (by rw[hT];exact lnB_ne _ _) W β hS
theorem prE0(cf:CF)(s:Sls):pfr0 s.p.A cf.ports.length s.p.c 0=pfr0 s.p.A cf.ports.length s.p.c 0∧pm0 (cfCells cf s) false [] 0 cf.ports 0=pm0 (cfCells cf s) false [] 0 cf.ports 0:=⟨rfl,rfl⟩
theorem prE1(cf:CF)(s:Sls):pfr1 s.r.A cf.routes.length s.r.c 0=pfr1 s.r.A cf.routes.length s.r.c 0∧pm1 (cfCells cf s) (B1 cf) (T1 cf) (E1 cf) cf.routes 0=pm1 (cfCells cf s) (B1 cf) (T1 cf) (E1 cf) cf.routes 0:=⟨rfl,rfl⟩
theorem prE2(cf:CF)(s:Sls):pfr2 s.m.A cf.meters.length s.m.c 0=pfr2 s.m.A cf.meters.length s.m.c 0∧pm2 (cfCells cf s) (B2 cf) (T2 cf) (E2 cf) cf.meters 0=pm2 (cfCells cf s) (B2 cf) (T2 cf) (E2 cf) cf.meters 0:=⟨rfl,rfl⟩
theorem prE3(cf:CF)(s:Sls):pfr3 s.i.A cf.mirrors.length s.i.c 0=pfr3 s.i.A cf.mirrors.length s.i.c 0∧pm3 (cfCells cf s) (B3 cf) (T3 cf) (E3 cf) cf.mirrors 0=pm3 (cfCells cf s) (B3 cf) (T3 cf) (E3 cf) cf.mirrors 0:=⟨rfl,rfl⟩
theorem prE4(cf:CF)(s:Sls):pfr4 s.l.A cf.rules.length s.l.c 0=pfr4 s.l.A cf.rules.length s.l.c 0∧pm4 (cfCells cf s) (B4 cf) (T4 cf) (E4 cf) cf.rules 0=pm4 (cfCells cf s) (B4 cf) (T4 cf) (E4 cf) cf.rules 0:=⟨rfl,rfl⟩
theorem print_d10(I:PrIn w cf s TT [kDefault,kRoute] true bl E6 E7)(hd:cf.dflt=1)(hE:E7≠0):Calls Tryz.prog 28 #[.agg (cfCells cf s).toArray] w (Sx.anyPost (pB w) (PrR ([],E7))):=by
 obtain⟨g1,g2,g3,g4,g5⟩:=I.g
 have rd2:=pr_r0 I.hl (cfCells cf s) cf.ports s.p.A s.p.c I.r.p I.w.p I.f.p false [] 0 g1 ([],E7)
 have rd7:=pr_r1 I.hl (cfCells cf s) cf.routes s.r.A s.r.c I.r.r I.w.r I.f.r (B1 cf) (T1 cf) (E1 cf) g2 ([],E7)
 have rd12:=pr_r2 I.hl (cfCells cf s) cf.meters s.m.A s.m.c I.r.m I.w.m I.f.m (B2 cf) (T2 cf) (E2 cf) g3 ([],E7)
 have rd17:=pr_r3 I.hl (cfCells cf s) cf.mirrors s.i.A s.i.c I.r.i I.w.i I.f.i (B3 cf) (T3 cf) (E3 cf) g4 ([],E7)
 have rd22:=pr_r4 I.hl (cfCells cf s) cf.rules s.l.A s.l.c I.r.l I.w.l I.f.l (B4 cf) (T4 cf) (E4 cf) g5 ([],E7)
 have h0:=Nat.zero_le cf.ports.length;have h5:=Nat.zero_le cf.routes.length;have h10:=Nat.zero_le cf.meters.length;have h15:=Nat.zero_le cf.mirrors.length;have h20:=Nat.zero_le cf.rules.length
 have e1:=prE0 cf s;have e6:=prE1 cf s;have e11:=prE2 cf s;have e16:=prE3 cf s;have e21:=prE4 cf s
 have c144:Value.bool (cf.dflt==1)=.bool true:=bzt (by rw[hd];rfl)
 have c155:=wantP w cf s (B5 cf) 2 (T5 cf) [pO (T5 cf)] 3 I.e6 rfl
 have ha:actWs cf.dflt 0=[kRoute]:=by rw[hd];rfl
 have hlan2:∀W,Chg [] w W→Lan W:=fun W hW=>I.hl.chg0 hW
 have c160:=fun W β (hS:Sx.See (pB w) β W (Sx.rowAt (pL cf s (B5 cf) 2 E6 [pO (T5 cf),⟨9,.own 1 1 (strs [kDefault])⟩])) [])=>act_some (m:=4) ha (by simp) (by omega) (by omega) hlan2 W β hS
 have c161:=app_st [kRoute] 1 1 rfl (by decide)
 have c162:=lineP w cf s (B5 cf) (e:=E6) (T5 cf) [pO (T5 cf),Sx.deadRow,⟨9,.vals (strs [kRoute])⟩,⟨9,.own 1 2 (strs [kDefault,kRoute])⟩] 5 6 [kDefault,kRoute] I.T rfl (by omega) rfl (by simp) I.B
 have c167:=lenP w cf s 6 E6 TT [Sx.deadRow,Sx.deadRow,⟨9,.vals (strs [kRoute])⟩,⟨9,.own 1 2 (strs [kDefault,kRoute])⟩,pO TT] 7 rfl
 have c168:=I.c168
 have c169:=wantP w cf s true 6 TT [Sx.deadRow,Sx.deadRow,⟨9,.vals (strs [kRoute])⟩,⟨9,.own 1 2 (strs [kDefault,kRoute])⟩,pO TT] 7 I.e7 rfl
 have c174:Value.bool (E7 !=0)=.bool true:=bzt (by rw[bne_iff_ne];exact hE)
 have z25:([.val (strV []),.val (.int .i64 E7)]:List Sx.SV)=[.val (strV []),.val (.int .i64 E7)]:=rfl
 refine Sx.calls_any (args:=[.val (.agg (cfCells cf s).toArray)]) (no_rows w) [(18,.nilsAt [(0,0,0),(1,5,1)]),(144,.is (.bool true)),(155,.callG (wantG [] 1 2 none (B5 cf) E6)),(157,.nils 9 1),(160,.callG (actG 4 1 (strs [kRoute]))),(162,.callG (txG [5] 1 2 6 none TT E6 (.tuple #[]))),(167,.callG ⟨[1,6],[],[],[],.val (.int .i64 (TT.length:Int)),none⟩),(168,.is (.bool bl)),(169,.callG (wantG [] 1 6 none true E7)),(174,.is (.bool true))] (prLoops cf s) (by kernel_rfl) Tryz.func28 rfl (Nat.le_of_ble_eq_true rfl) rfl ?_
 exact Eq.mp (by kernel_rfl) (Sx.t2 h0 e1 (And.intro rd2 (fun(x3:Unit) (hx4:True)=>(Sx.t2 h5 e6 (And.intro rd7 (fun(x8:Unit) (hx9:True)=>(Sx.t2 h10 e11 (And.intro rd12 (fun(x13:Unit) (hx14:True)=>(Sx.t2 h15 e16 (And.intro rd17 (fun(x18:Unit) (hx19:True)=>(Sx.t2 h20 e21 (And.intro rd22 (fun(x23:Unit) (hx24:True)=>(Sx.t8 c144 c155 c160 c161 c162 c167 c168 c169 (And.intro c174 z25)))))))))))))))))
theorem print_d11(I:PrIn w cf s TT [kDefault,kRoute] true bl E6 E7)(hd:cf.dflt=1)(hE:E7=0):Calls Tryz.prog 28 #[.agg (cfCells cf s).toArray] w (Sx.anyPost (pB w) (PrR (TT,0))):=by
 obtain⟨g1,g2,g3,g4,g5⟩:=I.g
 have rd2:=pr_r0 I.hl (cfCells cf s) cf.ports s.p.A s.p.c I.r.p I.w.p I.f.p false [] 0 g1 (TT,0)
 have rd7:=pr_r1 I.hl (cfCells cf s) cf.routes s.r.A s.r.c I.r.r I.w.r I.f.r (B1 cf) (T1 cf) (E1 cf) g2 (TT,0)
 have rd12:=pr_r2 I.hl (cfCells cf s) cf.meters s.m.A s.m.c I.r.m I.w.m I.f.m (B2 cf) (T2 cf) (E2 cf) g3 (TT,0)
 have rd17:=pr_r3 I.hl (cfCells cf s) cf.mirrors s.i.A s.i.c I.r.i I.w.i I.f.i (B3 cf) (T3 cf) (E3 cf) g4 (TT,0)
 have rd22:=pr_r4 I.hl (cfCells cf s) cf.rules s.l.A s.l.c I.r.l I.w.l I.f.l (B4 cf) (T4 cf) (E4 cf) g5 (TT,0)
 have h0:=Nat.zero_le cf.ports.length;have h5:=Nat.zero_le cf.routes.length;have h10:=Nat.zero_le cf.meters.length;have h15:=Nat.zero_le cf.mirrors.length;have h20:=Nat.zero_le cf.rules.length
 have e1:=prE0 cf s;have e6:=prE1 cf s;have e11:=prE2 cf s;have e16:=prE3 cf s;have e21:=prE4 cf s
 have c144:Value.bool (cf.dflt==1)=.bool true:=bzt (by rw[hd];rfl)
 have c155:=wantP w cf s (B5 cf) 2 (T5 cf) [pO (T5 cf)] 3 I.e6 rfl
 have ha:actWs cf.dflt 0=[kRoute]:=by rw[hd];rfl
 have hlan2:∀W,Chg [] w W→Lan W:=fun W hW=>I.hl.chg0 hW
 have c160:=fun W β (hS:Sx.See (pB w) β W (Sx.rowAt (pL cf s (B5 cf) 2 E6 [pO (T5 cf),⟨9,.own 1 1 (strs [kDefault])⟩])) [])=>act_some (m:=4) ha (by simp) (by omega) (by omega) hlan2 W β hS
 have c161:=app_st [kRoute] 1 1 rfl (by decide)
 have c162:=lineP w cf s (B5 cf) (e:=E6) (T5 cf) [pO (T5 cf),Sx.deadRow,⟨9,.vals (strs [kRoute])⟩,⟨9,.own 1 2 (strs [kDefault,kRoute])⟩] 5 6 [kDefault,kRoute] I.T rfl (by omega) rfl (by simp) I.B
 have c167:=lenP w cf s 6 E6 TT [Sx.deadRow,Sx.deadRow,⟨9,.vals (strs [kRoute])⟩,⟨9,.own 1 2 (strs [kDefault,kRoute])⟩,pO TT] 7 rfl
 have c168:=I.c168
 have c169:=wantP w cf s true 6 TT [Sx.deadRow,Sx.deadRow,⟨9,.vals (strs [kRoute])⟩,⟨9,.own 1 2 (strs [kDefault,kRoute])⟩,pO TT] 7 I.e7 rfl
 have c174:Value.bool (E7 !=0)=.bool false:=bzf (by rw[hE];rfl)
 have c182:=strP w cf s 6 E7 [Sx.deadRow,Sx.deadRow,⟨9,.vals (strs [kRoute])⟩,⟨9,.own 1 2 (strs [kDefault,kRoute])⟩,pO TT] 7 I.T rfl
 have z25:([.val (strV TT),.val (.int .i64 0)]:List Sx.SV)=[.val (strV TT),.val (.int .i64 0)]:=rfl
 refine Sx.calls_any (args:=[.val (.agg (cfCells cf s).toArray)]) (no_rows w) [(18,.nilsAt [(0,0,0),(1,5,1)]),(144,.is (.bool true)),(155,.callG (wantG [] 1 2 none (B5 cf) E6)),(157,.nils 9 1),(160,.callG (actG 4 1 (strs [kRoute]))),(162,.callG (txG [5] 1 2 6 none TT E6 (.tuple #[]))),(167,.callG ⟨[1,6],[],[],[],.val (.int .i64 (TT.length:Int)),none⟩),(168,.is (.bool bl)),(169,.callG (wantG [] 1 6 none true E7)),(174,.is (.bool false)),(182,.callG ⟨[1,6],[],[1,6],[],.val (strV TT),none⟩)] (prLoops cf s) (by kernel_rfl) Tryz.func28 rfl (Nat.le_of_ble_eq_true rfl) rfl ?_
 exact Eq.mp (by kernel_rfl) (Sx.t2 h0 e1 (And.intro rd2 (fun(x3:Unit) (hx4:True)=>(Sx.t2 h5 e6 (And.intro rd7 (fun(x8:Unit) (hx9:True)=>(Sx.t2 h10 e11 (And.intro rd12 (fun(x13:Unit) (hx14:True)=>(Sx.t2 h15 e16 (And.intro rd17 (fun(x18:Unit) (hx19:True)=>(Sx.t2 h20 e21 (And.intro rd22 (fun(x23:Unit) (hx24:True)=>(Sx.t8 c144 c155 c160 c161 c162 c167 c168 c169 (Sx.t2 c174 c182 z25)))))))))))))))))
theorem print_d20(I:PrIn w cf s TT [kDefault,kDrop] true bl E6 E7)(hd:cf.dflt=2)(hE:E7≠0):Calls Tryz.prog 28 #[.agg (cfCells cf s).toArray] w (Sx.anyPost (pB w) (PrR ([],E7))):=by
 obtain⟨g1,g2,g3,g4,g5⟩:=I.g
 have rd2:=pr_r0 I.hl (cfCells cf s) cf.ports s.p.A s.p.c I.r.p I.w.p I.f.p false [] 0 g1 ([],E7)
 have rd7:=pr_r1 I.hl (cfCells cf s) cf.routes s.r.A s.r.c I.r.r I.w.r I.f.r (B1 cf) (T1 cf) (E1 cf) g2 ([],E7)
 have rd12:=pr_r2 I.hl (cfCells cf s) cf.meters s.m.A s.m.c I.r.m I.w.m I.f.m (B2 cf) (T2 cf) (E2 cf) g3 ([],E7)
 have rd17:=pr_r3 I.hl (cfCells cf s) cf.mirrors s.i.A s.i.c I.r.i I.w.i I.f.i (B3 cf) (T3 cf) (E3 cf) g4 ([],E7)
 have rd22:=pr_r4 I.hl (cfCells cf s) cf.rules s.l.A s.l.c I.r.l I.w.l I.f.l (B4 cf) (T4 cf) (E4 cf) g5 ([],E7)
 have h0:=Nat.zero_le cf.ports.length;have h5:=Nat.zero_le cf.routes.length;have h10:=Nat.zero_le cf.meters.length;have h15:=Nat.zero_le cf.mirrors.length;have h20:=Nat.zero_le cf.rules.length
 have e1:=prE0 cf s;have e6:=prE1 cf s;have e11:=prE2 cf s;have e16:=prE3 cf s;have e21:=prE4 cf s
 have c144:Value.bool (cf.dflt==1)=.bool false:=bzf (beq_eq_false_iff_ne.2 (by rw[hd];decide))
 have c148:Value.bool (cf.dflt==2)=.bool true:=bzt (by rw[hd];rfl)
 have c155:=wantP w cf s (B5 cf) 2 (T5 cf) [pO (T5 cf)] 3 I.e6 rfl
 have ha:actWs cf.dflt 0=[kDrop]:=by rw[hd];rfl
 have hlan2:∀W,Chg [] w W→Lan W:=fun W hW=>I.hl.chg0 hW
 have c160:=fun W β (hS:Sx.See (pB w) β W (Sx.rowAt (pL cf s (B5 cf) 2 E6 [pO (T5 cf),⟨9,.own 1 1 (strs [kDefault])⟩])) [])=>act_some (m:=4) ha (by simp) (by omega) (by omega) hlan2 W β hS
 have c161:=app_st [kDrop] 1 1 rfl (by decide)
 have c162:=lineP w cf s (B5 cf) (e:=E6) (T5 cf) [pO (T5 cf),Sx.deadRow,⟨9,.vals (strs [kDrop])⟩,⟨9,.own 1 2 (strs [kDefault,kDrop])⟩] 5 6 [kDefault,kDrop] I.T rfl (by omega) rfl (by simp) I.B
 have c167:=lenP w cf s 6 E6 TT [Sx.deadRow,Sx.deadRow,⟨9,.vals (strs [kDrop])⟩,⟨9,.own 1 2 (strs [kDefault,kDrop])⟩,pO TT] 7 rfl
 have c168:=I.c168
 have c169:=wantP w cf s true 6 TT [Sx.deadRow,Sx.deadRow,⟨9,.vals (strs [kDrop])⟩,⟨9,.own 1 2 (strs [kDefault,kDrop])⟩,pO TT] 7 I.e7 rfl
 have c174:Value.bool (E7 !=0)=.bool true:=bzt (by rw[bne_iff_ne];exact hE)
 have z25:([.val (strV []),.val (.int .i64 E7)]:List Sx.SV)=[.val (strV []),.val (.int .i64 E7)]:=rfl
 refine Sx.calls_any (args:=[.val (.agg (cfCells cf s).toArray)]) (no_rows w) [(18,.nilsAt [(0,0,0),(1,5,1)]),(144,.is (.bool false)),(148,.is (.bool true)),(155,.callG (wantG [] 1 2 none (B5 cf) E6)),(157,.nils 9 1),(160,.callG (actG 4 1 (strs [kDrop]))),(162,.callG (txG [5] 1 2 6 none TT E6 (.tuple #[]))),(167,.callG ⟨[1,6],[],[],[],.val (.int .i64 (TT.length:Int)),none⟩),(168,.is (.bool bl)),(169,.callG (wantG [] 1 6 none true E7)),(174,.is (.bool true))] (prLoops cf s) (by kernel_rfl) Tryz.func28 rfl (Nat.le_of_ble_eq_true rfl) rfl ?_
 exact Eq.mp (by kernel_rfl) (Sx.t2 h0 e1 (And.intro rd2 (fun(x3:Unit) (hx4:True)=>(Sx.t2 h5 e6 (And.intro rd7 (fun(x8:Unit) (hx9:True)=>(Sx.t2 h10 e11 (And.intro rd12 (fun(x13:Unit) (hx14:True)=>(Sx.t2 h15 e16 (And.intro rd17 (fun(x18:Unit) (hx19:True)=>(Sx.t2 h20 e21 (And.intro rd22 (fun(x23:Unit) (hx24:True)=>(Sx.t8 c144 c148 c155 c160 c161 c162 c167 c168 (Sx.t2 c169 c174 z25)))))))))))))))))
theorem print_d21(I:PrIn w cf s TT [kDefault,kDrop] true bl E6 E7)(hd:cf.dflt=2)(hE:E7=0):Calls Tryz.prog 28 #[.agg (cfCells cf s).toArray] w (Sx.anyPost (pB w) (PrR (TT,0))):=by
 obtain⟨g1,g2,g3,g4,g5⟩:=I.g
 have rd2:=pr_r0 I.hl (cfCells cf s) cf.ports s.p.A s.p.c I.r.p I.w.p I.f.p false [] 0 g1 (TT,0)
 have rd7:=pr_r1 I.hl (cfCells cf s) cf.routes s.r.A s.r.c I.r.r I.w.r I.f.r (B1 cf) (T1 cf) (E1 cf) g2 (TT,0)
 have rd12:=pr_r2 I.hl (cfCells cf s) cf.meters s.m.A s.m.c I.r.m I.w.m I.f.m (B2 cf) (T2 cf) (E2 cf) g3 (TT,0)
 have rd17:=pr_r3 I.hl (cfCells cf s) cf.mirrors s.i.A s.i.c I.r.i I.w.i I.f.i (B3 cf) (T3 cf) (E3 cf) g4 (TT,0)
 have rd22:=pr_r4 I.hl (cfCells cf s) cf.rules s.l.A s.l.c I.r.l I.w.l I.f.l (B4 cf) (T4 cf) (E4 cf) g5 (TT,0)
 have h0:=Nat.zero_le cf.ports.length;have h5:=Nat.zero_le cf.routes.length;have h10:=Nat.zero_le cf.meters.length;have h15:=Nat.zero_le cf.mirrors.length;have h20:=Nat.zero_le cf.rules.length
 have e1:=prE0 cf s;have e6:=prE1 cf s;have e11:=prE2 cf s;have e16:=prE3 cf s;have e21:=prE4 cf s
 have c144:Value.bool (cf.dflt==1)=.bool false:=bzf (beq_eq_false_iff_ne.2 (by rw[hd];decide))
 have c148:Value.bool (cf.dflt==2)=.bool true:=bzt (by rw[hd];rfl)
 have c155:=wantP w cf s (B5 cf) 2 (T5 cf) [pO (T5 cf)] 3 I.e6 rfl
 have ha:actWs cf.dflt 0=[kDrop]:=by rw[hd];rfl
 have hlan2:∀W,Chg [] w W→Lan W:=fun W hW=>I.hl.chg0 hW
 have c160:=fun W β (hS:Sx.See (pB w) β W (Sx.rowAt (pL cf s (B5 cf) 2 E6 [pO (T5 cf),⟨9,.own 1 1 (strs [kDefault])⟩])) [])=>act_some (m:=4) ha (by simp) (by omega) (by omega) hlan2 W β hS
 have c161:=app_st [kDrop] 1 1 rfl (by decide)
 have c162:=lineP w cf s (B5 cf) (e:=E6) (T5 cf) [pO (T5 cf),Sx.deadRow,⟨9,.vals (strs [kDrop])⟩,⟨9,.own 1 2 (strs [kDefault,kDrop])⟩] 5 6 [kDefault,kDrop] I.T rfl (by omega) rfl (by simp) I.B
 have c167:=lenP w cf s 6 E6 TT [Sx.deadRow,Sx.deadRow,⟨9,.vals (strs [kDrop])⟩,⟨9,.own 1 2 (strs [kDefault,kDrop])⟩,pO TT] 7 rfl
 have c168:=I.c168
 have c169:=wantP w cf s true 6 TT [Sx.deadRow,Sx.deadRow,⟨9,.vals (strs [kDrop])⟩,⟨9,.own 1 2 (strs [kDefault,kDrop])⟩,pO TT] 7 I.e7 rfl
 have c174:Value.bool (E7 !=0)=.bool false:=bzf (by rw[hE];rfl)
 have c182:=strP w cf s 6 E7 [Sx.deadRow,Sx.deadRow,⟨9,.vals (strs [kDrop])⟩,⟨9,.own 1 2 (strs [kDefault,kDrop])⟩,pO TT] 7 I.T rfl
 have z25:([.val (strV TT),.val (.int .i64 0)]:List Sx.SV)=[.val (strV TT),.val (.int .i64 0)]:=rfl
 refine Sx.calls_any (args:=[.val (.agg (cfCells cf s).toArray)]) (no_rows w) [(18,.nilsAt [(0,0,0),(1,5,1)]),(144,.is (.bool false)),(148,.is (.bool true)),(155,.callG (wantG [] 1 2 none (B5 cf) E6)),(157,.nils 9 1),(160,.callG (actG 4 1 (strs [kDrop]))),(162,.callG (txG [5] 1 2 6 none TT E6 (.tuple #[]))),(167,.callG ⟨[1,6],[],[],[],.val (.int .i64 (TT.length:Int)),none⟩),(168,.is (.bool bl)),(169,.callG (wantG [] 1 6 none true E7)),(174,.is (.bool false)),(182,.callG ⟨[1,6],[],[1,6],[],.val (strV TT),none⟩)] (prLoops cf s) (by kernel_rfl) Tryz.func28 rfl (Nat.le_of_ble_eq_true rfl) rfl ?_
 exact Eq.mp (by kernel_rfl) (Sx.t2 h0 e1 (And.intro rd2 (fun(x3:Unit) (hx4:True)=>(Sx.t2 h5 e6 (And.intro rd7 (fun(x8:Unit) (hx9:True)=>(Sx.t2 h10 e11 (And.intro rd12 (fun(x13:Unit) (hx14:True)=>(Sx.t2 h15 e16 (And.intro rd17 (fun(x18:Unit) (hx19:True)=>(Sx.t2 h20 e21 (And.intro rd22 (fun(x23:Unit) (hx24:True)=>(Sx.t8 c144 c148 c155 c160 c161 c162 c167 c168 (Sx.t2 c169 c174 (And.intro c182 z25))))))))))))))))))
theorem print_d40(I:PrIn w cf s TT [kDefault,kReject] true bl E6 E7)(hd:cf.dflt=4)(hE:E7≠0):Calls Tryz.prog 28 #[.agg (cfCells cf s).toArray] w (Sx.anyPost (pB w) (PrR ([],E7))):=by
 obtain⟨g1,g2,g3,g4,g5⟩:=I.g
 have rd2:=pr_r0 I.hl (cfCells cf s) cf.ports s.p.A s.p.c I.r.p I.w.p I.f.p false [] 0 g1 ([],E7)
 have rd7:=pr_r1 I.hl (cfCells cf s) cf.routes s.r.A s.r.c I.r.r I.w.r I.f.r (B1 cf) (T1 cf) (E1 cf) g2 ([],E7)
 have rd12:=pr_r2 I.hl (cfCells cf s) cf.meters s.m.A s.m.c I.r.m I.w.m I.f.m (B2 cf) (T2 cf) (E2 cf) g3 ([],E7)
 have rd17:=pr_r3 I.hl (cfCells cf s) cf.mirrors s.i.A s.i.c I.r.i I.w.i I.f.i (B3 cf) (T3 cf) (E3 cf) g4 ([],E7)
 have rd22:=pr_r4 I.hl (cfCells cf s) cf.rules s.l.A s.l.c I.r.l I.w.l I.f.l (B4 cf) (T4 cf) (E4 cf) g5 ([],E7)
 have h0:=Nat.zero_le cf.ports.length;have h5:=Nat.zero_le cf.routes.length;have h10:=Nat.zero_le cf.meters.length;have h15:=Nat.zero_le cf.mirrors.length;have h20:=Nat.zero_le cf.rules.length
 have e1:=prE0 cf s;have e6:=prE1 cf s;have e11:=prE2 cf s;have e16:=prE3 cf s;have e21:=prE4 cf s
 have c144:Value.bool (cf.dflt==1)=.bool false:=bzf (beq_eq_false_iff_ne.2 (by rw[hd];decide))
 have c148:Value.bool (cf.dflt==2)=.bool false:=bzf (beq_eq_false_iff_ne.2 (by rw[hd];decide))
 have c153:Value.bool (cf.dflt==4)=.bool true:=bzt (by rw[hd];rfl)
 have c155:=wantP w cf s (B5 cf) 2 (T5 cf) [pO (T5 cf)] 3 I.e6 rfl
 have ha:actWs cf.dflt 0=[kReject]:=by rw[hd];rfl
 have hlan2:∀W,Chg [] w W→Lan W:=fun W hW=>I.hl.chg0 hW
 have c160:=fun W β (hS:Sx.See (pB w) β W (Sx.rowAt (pL cf s (B5 cf) 2 E6 [pO (T5 cf),⟨9,.own 1 1 (strs [kDefault])⟩])) [])=>act_some (m:=4) ha (by simp) (by omega) (by omega) hlan2 W β hS
 have c161:=app_st [kReject] 1 1 rfl (by decide)
 have c162:=lineP w cf s (B5 cf) (e:=E6) (T5 cf) [pO (T5 cf),Sx.deadRow,⟨9,.vals (strs [kReject])⟩,⟨9,.own 1 2 (strs [kDefault,kReject])⟩] 5 6 [kDefault,kReject] I.T rfl (by omega) rfl (by simp) I.B
 have c167:=lenP w cf s 6 E6 TT [Sx.deadRow,Sx.deadRow,⟨9,.vals (strs [kReject])⟩,⟨9,.own 1 2 (strs [kDefault,kReject])⟩,pO TT] 7 rfl
 have c168:=I.c168
 have c169:=wantP w cf s true 6 TT [Sx.deadRow,Sx.deadRow,⟨9,.vals (strs [kReject])⟩,⟨9,.own 1 2 (strs [kDefault,kReject])⟩,pO TT] 7 I.e7 rfl
 have c174:Value.bool (E7 !=0)=.bool true:=bzt (by rw[bne_iff_ne];exact hE)
 have z25:([.val (strV []),.val (.int .i64 E7)]:List Sx.SV)=[.val (strV []),.val (.int .i64 E7)]:=rfl
 refine Sx.calls_any (args:=[.val (.agg (cfCells cf s).toArray)]) (no_rows w) [(18,.nilsAt [(0,0,0),(1,5,1)]),(144,.is (.bool false)),(148,.is (.bool false)),(153,.is (.bool true)),(155,.callG (wantG [] 1 2 none (B5 cf) E6)),(157,.nils 9 1),(160,.callG (actG 4 1 (strs [kReject]))),(162,.callG (txG [5] 1 2 6 none TT E6 (.tuple #[]))),(167,.callG ⟨[1,6],[],[],[],.val (.int .i64 (TT.length:Int)),none⟩),(168,.is (.bool bl)),(169,.callG (wantG [] 1 6 none true E7)),(174,.is (.bool true))] (prLoops cf s) (by kernel_rfl) Tryz.func28 rfl (Nat.le_of_ble_eq_true rfl) rfl ?_
 exact Eq.mp (by kernel_rfl) (Sx.t2 h0 e1 (And.intro rd2 (fun(x3:Unit) (hx4:True)=>(Sx.t2 h5 e6 (And.intro rd7 (fun(x8:Unit) (hx9:True)=>(Sx.t2 h10 e11 (And.intro rd12 (fun(x13:Unit) (hx14:True)=>(Sx.t2 h15 e16 (And.intro rd17 (fun(x18:Unit) (hx19:True)=>(Sx.t2 h20 e21 (And.intro rd22 (fun(x23:Unit) (hx24:True)=>(Sx.t8 c144 c148 c153 c155 c160 c161 c162 c167 (Sx.t2 c168 c169 (And.intro c174 z25))))))))))))))))))
theorem print_d41(I:PrIn w cf s TT [kDefault,kReject] true bl E6 E7)(hd:cf.dflt=4)(hE:E7=0):Calls Tryz.prog 28 #[.agg (cfCells cf s).toArray] w (Sx.anyPost (pB w) (PrR (TT,0))):=by
 obtain⟨g1,g2,g3,g4,g5⟩:=I.g
 have rd2:=pr_r0 I.hl (cfCells cf s) cf.ports s.p.A s.p.c I.r.p I.w.p I.f.p false [] 0 g1 (TT,0)
 have rd7:=pr_r1 I.hl (cfCells cf s) cf.routes s.r.A s.r.c I.r.r I.w.r I.f.r (B1 cf) (T1 cf) (E1 cf) g2 (TT,0)
 have rd12:=pr_r2 I.hl (cfCells cf s) cf.meters s.m.A s.m.c I.r.m I.w.m I.f.m (B2 cf) (T2 cf) (E2 cf) g3 (TT,0)
 have rd17:=pr_r3 I.hl (cfCells cf s) cf.mirrors s.i.A s.i.c I.r.i I.w.i I.f.i (B3 cf) (T3 cf) (E3 cf) g4 (TT,0)
 have rd22:=pr_r4 I.hl (cfCells cf s) cf.rules s.l.A s.l.c I.r.l I.w.l I.f.l (B4 cf) (T4 cf) (E4 cf) g5 (TT,0)
 have h0:=Nat.zero_le cf.ports.length;have h5:=Nat.zero_le cf.routes.length;have h10:=Nat.zero_le cf.meters.length;have h15:=Nat.zero_le cf.mirrors.length;have h20:=Nat.zero_le cf.rules.length
 have e1:=prE0 cf s;have e6:=prE1 cf s;have e11:=prE2 cf s;have e16:=prE3 cf s;have e21:=prE4 cf s
 have c144:Value.bool (cf.dflt==1)=.bool false:=bzf (beq_eq_false_iff_ne.2 (by rw[hd];decide))
 have c148:Value.bool (cf.dflt==2)=.bool false:=bzf (beq_eq_false_iff_ne.2 (by rw[hd];decide))
 have c153:Value.bool (cf.dflt==4)=.bool true:=bzt (by rw[hd];rfl)
 have c155:=wantP w cf s (B5 cf) 2 (T5 cf) [pO (T5 cf)] 3 I.e6 rfl
 have ha:actWs cf.dflt 0=[kReject]:=by rw[hd];rfl
 have hlan2:∀W,Chg [] w W→Lan W:=fun W hW=>I.hl.chg0 hW
 have c160:=fun W β (hS:Sx.See (pB w) β W (Sx.rowAt (pL cf s (B5 cf) 2 E6 [pO (T5 cf),⟨9,.own 1 1 (strs [kDefault])⟩])) [])=>act_some (m:=4) ha (by simp) (by omega) (by omega) hlan2 W β hS
 have c161:=app_st [kReject] 1 1 rfl (by decide)
 have c162:=lineP w cf s (B5 cf) (e:=E6) (T5 cf) [pO (T5 cf),Sx.deadRow,⟨9,.vals (strs [kReject])⟩,⟨9,.own 1 2 (strs [kDefault,kReject])⟩] 5 6 [kDefault,kReject] I.T rfl (by omega) rfl (by simp) I.B
 have c167:=lenP w cf s 6 E6 TT [Sx.deadRow,Sx.deadRow,⟨9,.vals (strs [kReject])⟩,⟨9,.own 1 2 (strs [kDefault,kReject])⟩,pO TT] 7 rfl
 have c168:=I.c168
 have c169:=wantP w cf s true 6 TT [Sx.deadRow,Sx.deadRow,⟨9,.vals (strs [kReject])⟩,⟨9,.own 1 2 (strs [kDefault,kReject])⟩,pO TT] 7 I.e7 rfl
 have c174:Value.bool (E7 !=0)=.bool false:=bzf (by rw[hE];rfl)
 have c182:=strP w cf s 6 E7 [Sx.deadRow,Sx.deadRow,⟨9,.vals (strs [kReject])⟩,⟨9,.own 1 2 (strs [kDefault,kReject])⟩,pO TT] 7 I.T rfl
 have z25:([.val (strV TT),.val (.int .i64 0)]:List Sx.SV)=[.val (strV TT),.val (.int .i64 0)]:=rfl
 refine Sx.calls_any (args:=[.val (.agg (cfCells cf s).toArray)]) (no_rows w) [(18,.nilsAt [(0,0,0),(1,5,1)]),(144,.is (.bool false)),(148,.is (.bool false)),(153,.is (.bool true)),(155,.callG (wantG [] 1 2 none (B5 cf) E6)),(157,.nils 9 1),(160,.callG (actG 4 1 (strs [kReject]))),(162,.callG (txG [5] 1 2 6 none TT E6 (.tuple #[]))),(167,.callG ⟨[1,6],[],[],[],.val (.int .i64 (TT.length:Int)),none⟩),(168,.is (.bool bl)),(169,.callG (wantG [] 1 6 none true E7)),(174,.is (.bool false)),(182,.callG ⟨[1,6],[],[1,6],[],.val (strV TT),none⟩)] (prLoops cf s) (by kernel_rfl) Tryz.func28 rfl (Nat.le_of_ble_eq_true rfl) rfl ?_
 exact Eq.mp (by kernel_rfl) (Sx.t2 h0 e1 (And.intro rd2 (fun(x3:Unit) (hx4:True)=>(Sx.t2 h5 e6 (And.intro rd7 (fun(x8:Unit) (hx9:True)=>(Sx.t2 h10 e11 (And.intro rd12 (fun(x13:Unit) (hx14:True)=>(Sx.t2 h15 e16 (And.intro rd17 (fun(x18:Unit) (hx19:True)=>(Sx.t2 h20 e21 (And.intro rd22 (fun(x23:Unit) (hx24:True)=>(Sx.t8 c144 c148 c153 c155 c160 c161 c162 c167 (Sx.t4 c168 c169 c174 c182 z25)))))))))))))))))
theorem print_d30(I:PrIn w cf s TT [kDefault,kOut,itoaT 0] false bl E6 E7)(hd:cf.dflt=3)(hE:E7≠0):Calls Tryz.prog 28 #[.agg (cfCells cf s).toArray] w (Sx.anyPost (pB w) (PrR ([],E7))):=by
 obtain⟨g1,g2,g3,g4,g5⟩:=I.g
 have rd2:=pr_r0 I.hl (cfCells cf s) cf.ports s.p.A s.p.c I.r.p I.w.p I.f.p false [] 0 g1 ([],E7)
 have rd7:=pr_r1 I.hl (cfCells cf s) cf.routes s.r.A s.r.c I.r.r I.w.r I.f.r (B1 cf) (T1 cf) (E1 cf) g2 ([],E7)
 have rd12:=pr_r2 I.hl (cfCells cf s) cf.meters s.m.A s.m.c I.r.m I.w.m I.f.m (B2 cf) (T2 cf) (E2 cf) g3 ([],E7)
 have rd17:=pr_r3 I.hl (cfCells cf s) cf.mirrors s.i.A s.i.c I.r.i I.w.i I.f.i (B3 cf) (T3 cf) (E3 cf) g4 ([],E7)
 have rd22:=pr_r4 I.hl (cfCells cf s) cf.rules s.l.A s.l.c I.r.l I.w.l I.f.l (B4 cf) (T4 cf) (E4 cf) g5 ([],E7)
 have h0:=Nat.zero_le cf.ports.length;have h5:=Nat.zero_le cf.routes.length;have h10:=Nat.zero_le cf.meters.length;have h15:=Nat.zero_le cf.mirrors.length;have h20:=Nat.zero_le cf.rules.length
 have e1:=prE0 cf s;have e6:=prE1 cf s;have e11:=prE2 cf s;have e16:=prE3 cf s;have e21:=prE4 cf s
 have c144:Value.bool (cf.dflt==1)=.bool false:=bzf (beq_eq_false_iff_ne.2 (by rw[hd];decide))
 have c148:Value.bool (cf.dflt==2)=.bool false:=bzf (beq_eq_false_iff_ne.2 (by rw[hd];decide))
 have c153:Value.bool (cf.dflt==4)=.bool false:=bzf (beq_eq_false_iff_ne.2 (by rw[hd];decide))
 have c155:=wantP w cf s (B5 cf) 2 (T5 cf) [pO (T5 cf)] 3 I.e6 rfl
 have ha:actWs cf.dflt 0=[kOut,itoaT 0]:=by rw[hd];rfl
 have hlan2:∀W,Chg [] w W→Lan W:=fun W hW=>I.hl.chg0 hW
 have c160:=fun W β (hS:Sx.See (pB w) β W (Sx.rowAt (pL cf s (B5 cf) 2 E6 [pO (T5 cf),⟨9,.own 1 1 (strs [kDefault])⟩])) [])=>act_some (m:=4) ha (by simp) (by omega) (by omega) hlan2 W β hS
 have c161:=app_st [kOut,itoaT 0] 1 2 rfl (by decide)
 have c162:=lineP w cf s (B5 cf) (e:=E6) (T5 cf) [pO (T5 cf),Sx.deadRow,⟨9,.vals (strs [kOut,itoaT 0])⟩,⟨9,.own 1 3 (strs [kDefault,kOut,itoaT 0])⟩] 5 6 [kDefault,kOut,itoaT 0] I.T rfl (by omega) rfl (by simp) I.B
 have c167:=lenP w cf s 6 E6 TT [Sx.deadRow,Sx.deadRow,⟨9,.vals (strs [kOut,itoaT 0])⟩,⟨9,.own 1 3 (strs [kDefault,kOut,itoaT 0])⟩,pO TT] 7 rfl
 have c168:=I.c168
 have c169:=wantP w cf s true 6 TT [Sx.deadRow,Sx.deadRow,⟨9,.vals (strs [kOut,itoaT 0])⟩,⟨9,.own 1 3 (strs [kDefault,kOut,itoaT 0])⟩,pO TT] 7 I.e7 rfl
 have c174:Value.bool (E7 !=0)=.bool true:=bzt (by rw[bne_iff_ne];exact hE)
 have z25:([.val (strV []),.val (.int .i64 E7)]:List Sx.SV)=[.val (strV []),.val (.int .i64 E7)]:=rfl
 refine Sx.calls_any (args:=[.val (.agg (cfCells cf s).toArray)]) (no_rows w) [(18,.nilsAt [(0,0,0),(1,5,1)]),(144,.is (.bool false)),(148,.is (.bool false)),(153,.is (.bool false)),(155,.callG (wantG [] 1 2 none (B5 cf) E6)),(157,.nils 9 1),(160,.callG (actG 4 2 (strs [kOut,itoaT 0]))),(162,.callG (txG [5] 1 2 6 none TT E6 (.tuple #[]))),(167,.callG ⟨[1,6],[],[],[],.val (.int .i64 (TT.length:Int)),none⟩),(168,.is (.bool bl)),(169,.callG (wantG [] 1 6 none true E7)),(174,.is (.bool true))] (prLoops cf s) (by kernel_rfl) Tryz.func28 rfl (Nat.le_of_ble_eq_true rfl) rfl ?_
 exact Eq.mp (by kernel_rfl) (Sx.t2 h0 e1 (And.intro rd2 (fun(x3:Unit) (hx4:True)=>(Sx.t2 h5 e6 (And.intro rd7 (fun(x8:Unit) (hx9:True)=>(Sx.t2 h10 e11 (And.intro rd12 (fun(x13:Unit) (hx14:True)=>(Sx.t2 h15 e16 (And.intro rd17 (fun(x18:Unit) (hx19:True)=>(Sx.t2 h20 e21 (And.intro rd22 (fun(x23:Unit) (hx24:True)=>(Sx.t8 c144 c148 c153 c155 c160 c161 c162 c167 (Sx.t2 c168 c169 (And.intro c174 z25))))))))))))))))))
theorem print_d31(I:PrIn w cf s TT [kDefault,kOut,itoaT 0] false bl E6 E7)(hd:cf.dflt=3)(hE:E7=0):Calls Tryz.prog 28 #[.agg (cfCells cf s).toArray] w (Sx.anyPost (pB w) (PrR (TT,0))):=by
 obtain⟨g1,g2,g3,g4,g5⟩:=I.g
 have rd2:=pr_r0 I.hl (cfCells cf s) cf.ports s.p.A s.p.c I.r.p I.w.p I.f.p false [] 0 g1 (TT,0)
 have rd7:=pr_r1 I.hl (cfCells cf s) cf.routes s.r.A s.r.c I.r.r I.w.r I.f.r (B1 cf) (T1 cf) (E1 cf) g2 (TT,0)
 have rd12:=pr_r2 I.hl (cfCells cf s) cf.meters s.m.A s.m.c I.r.m I.w.m I.f.m (B2 cf) (T2 cf) (E2 cf) g3 (TT,0)
 have rd17:=pr_r3 I.hl (cfCells cf s) cf.mirrors s.i.A s.i.c I.r.i I.w.i I.f.i (B3 cf) (T3 cf) (E3 cf) g4 (TT,0)
 have rd22:=pr_r4 I.hl (cfCells cf s) cf.rules s.l.A s.l.c I.r.l I.w.l I.f.l (B4 cf) (T4 cf) (E4 cf) g5 (TT,0)
 have h0:=Nat.zero_le cf.ports.length;have h5:=Nat.zero_le cf.routes.length;have h10:=Nat.zero_le cf.meters.length;have h15:=Nat.zero_le cf.mirrors.length;have h20:=Nat.zero_le cf.rules.length
 have e1:=prE0 cf s;have e6:=prE1 cf s;have e11:=prE2 cf s;have e16:=prE3 cf s;have e21:=prE4 cf s
 have c144:Value.bool (cf.dflt==1)=.bool false:=bzf (beq_eq_false_iff_ne.2 (by rw[hd];decide))
 have c148:Value.bool (cf.dflt==2)=.bool false:=bzf (beq_eq_false_iff_ne.2 (by rw[hd];decide))
 have c153:Value.bool (cf.dflt==4)=.bool false:=bzf (beq_eq_false_iff_ne.2 (by rw[hd];decide))
 have c155:=wantP w cf s (B5 cf) 2 (T5 cf) [pO (T5 cf)] 3 I.e6 rfl
 have ha:actWs cf.dflt 0=[kOut,itoaT 0]:=by rw[hd];rfl
 have hlan2:∀W,Chg [] w W→Lan W:=fun W hW=>I.hl.chg0 hW
 have c160:=fun W β (hS:Sx.See (pB w) β W (Sx.rowAt (pL cf s (B5 cf) 2 E6 [pO (T5 cf),⟨9,.own 1 1 (strs [kDefault])⟩])) [])=>act_some (m:=4) ha (by simp) (by omega) (by omega) hlan2 W β hS
 have c161:=app_st [kOut,itoaT 0] 1 2 rfl (by decide)
 have c162:=lineP w cf s (B5 cf) (e:=E6) (T5 cf) [pO (T5 cf),Sx.deadRow,⟨9,.vals (strs [kOut,itoaT 0])⟩,⟨9,.own 1 3 (strs [kDefault,kOut,itoaT 0])⟩] 5 6 [kDefault,kOut,itoaT 0] I.T rfl (by omega) rfl (by simp) I.B
 have c167:=lenP w cf s 6 E6 TT [Sx.deadRow,Sx.deadRow,⟨9,.vals (strs [kOut,itoaT 0])⟩,⟨9,.own 1 3 (strs [kDefault,kOut,itoaT 0])⟩,pO TT] 7 rfl
 have c168:=I.c168
 have c169:=wantP w cf s true 6 TT [Sx.deadRow,Sx.deadRow,⟨9,.vals (strs [kOut,itoaT 0])⟩,⟨9,.own 1 3 (strs [kDefault,kOut,itoaT 0])⟩,pO TT] 7 I.e7 rfl
 have c174:Value.bool (E7 !=0)=.bool false:=bzf (by rw[hE];rfl)
 have c182:=strP w cf s 6 E7 [Sx.deadRow,Sx.deadRow,⟨9,.vals (strs [kOut,itoaT 0])⟩,⟨9,.own 1 3 (strs [kDefault,kOut,itoaT 0])⟩,pO TT] 7 I.T rfl
 have z25:([.val (strV TT),.val (.int .i64 0)]:List Sx.SV)=[.val (strV TT),.val (.int .i64 0)]:=rfl
 refine Sx.calls_any (args:=[.val (.agg (cfCells cf s).toArray)]) (no_rows w) [(18,.nilsAt [(0,0,0),(1,5,1)]),(144,.is (.bool false)),(148,.is (.bool false)),(153,.is (.bool false)),(155,.callG (wantG [] 1 2 none (B5 cf) E6)),(157,.nils 9 1),(160,.callG (actG 4 2 (strs [kOut,itoaT 0]))),(162,.callG (txG [5] 1 2 6 none TT E6 (.tuple #[]))),(167,.callG ⟨[1,6],[],[],[],.val (.int .i64 (TT.length:Int)),none⟩),(168,.is (.bool bl)),(169,.callG (wantG [] 1 6 none true E7)),(174,.is (.bool false)),(182,.callG ⟨[1,6],[],[1,6],[],.val (strV TT),none⟩)] (prLoops cf s) (by kernel_rfl) Tryz.func28 rfl (Nat.le_of_ble_eq_true rfl) rfl ?_
 exact Eq.mp (by kernel_rfl) (Sx.t2 h0 e1 (And.intro rd2 (fun(x3:Unit) (hx4:True)=>(Sx.t2 h5 e6 (And.intro rd7 (fun(x8:Unit) (hx9:True)=>(Sx.t2 h10 e11 (And.intro rd12 (fun(x13:Unit) (hx14:True)=>(Sx.t2 h15 e16 (And.intro rd17 (fun(x18:Unit) (hx19:True)=>(Sx.t2 h20 e21 (And.intro rd22 (fun(x23:Unit) (hx24:True)=>(Sx.t8 c144 c148 c153 c155 c160 c161 c162 c167 (Sx.t4 c168 c169 c174 c182 z25)))))))))))))))))
theorem print_d00(I:PrIn w cf s TT [kDefault] false bl E6 E7)(hd:cf.dflt≠1∧cf.dflt≠2∧cf.dflt≠3∧cf.dflt≠4)(hE:E7≠0):Calls Tryz.prog 28 #[.agg (cfCells cf s).toArray] w (Sx.anyPost (pB w) (PrR ([],E7))):=by
 obtain⟨g1,g2,g3,g4,g5⟩:=I.g
 have rd2:=pr_r0 I.hl (cfCells cf s) cf.ports s.p.A s.p.c I.r.p I.w.p I.f.p false [] 0 g1 ([],E7)
 have rd7:=pr_r1 I.hl (cfCells cf s) cf.routes s.r.A s.r.c I.r.r I.w.r I.f.r (B1 cf) (T1 cf) (E1 cf) g2 ([],E7)
 have rd12:=pr_r2 I.hl (cfCells cf s) cf.meters s.m.A s.m.c I.r.m I.w.m I.f.m (B2 cf) (T2 cf) (E2 cf) g3 ([],E7)
 have rd17:=pr_r3 I.hl (cfCells cf s) cf.mirrors s.i.A s.i.c I.r.i I.w.i I.f.i (B3 cf) (T3 cf) (E3 cf) g4 ([],E7)
 have rd22:=pr_r4 I.hl (cfCells cf s) cf.rules s.l.A s.l.c I.r.l I.w.l I.f.l (B4 cf) (T4 cf) (E4 cf) g5 ([],E7)
 have h0:=Nat.zero_le cf.ports.length;have h5:=Nat.zero_le cf.routes.length;have h10:=Nat.zero_le cf.meters.length;have h15:=Nat.zero_le cf.mirrors.length;have h20:=Nat.zero_le cf.rules.length
 have e1:=prE0 cf s;have e6:=prE1 cf s;have e11:=prE2 cf s;have e16:=prE3 cf s;have e21:=prE4 cf s
 have c144:Value.bool (cf.dflt==1)=.bool false:=bzf (beq_eq_false_iff_ne.2 (hd.1))
 have c148:Value.bool (cf.dflt==2)=.bool false:=bzf (beq_eq_false_iff_ne.2 (hd.2.1))
 have c153:Value.bool (cf.dflt==4)=.bool false:=bzf (beq_eq_false_iff_ne.2 (hd.2.2.2))
 have c155:=wantP w cf s (B5 cf) 2 (T5 cf) [pO (T5 cf)] 3 I.e6 rfl
 have ha:actWs cf.dflt 0=[]:=by unfold actWs;rw[if_neg hd.1,if_neg hd.2.1,if_neg hd.2.2.1,if_neg hd.2.2.2]
 have hlan2:∀W,Chg [] w W→Lan W:=fun W hW=>I.hl.chg0 hW
 have c160:=fun W hW=>act_none (b:=pB w) ha (by omega) (by omega) hlan2 W hW
 have c161:=app_nil (Chg [] w) 1 (by decide)
 have c162:=lineP w cf s (B5 cf) (e:=E6) (T5 cf) [pO (T5 cf),Sx.deadRow,⟨9,.own 1 1 (strs [kDefault])⟩] 4 5 [kDefault] I.T rfl (by omega) rfl (by simp) I.B
 have c167:=lenP w cf s 5 E6 TT [Sx.deadRow,Sx.deadRow,⟨9,.own 1 1 (strs [kDefault])⟩,pO TT] 6 rfl
 have c168:=I.c168
 have c169:=wantP w cf s true 5 TT [Sx.deadRow,Sx.deadRow,⟨9,.own 1 1 (strs [kDefault])⟩,pO TT] 6 I.e7 rfl
 have c174:Value.bool (E7 !=0)=.bool true:=bzt (by rw[bne_iff_ne];exact hE)
 have z25:([.val (strV []),.val (.int .i64 E7)]:List Sx.SV)=[.val (strV []),.val (.int .i64 E7)]:=rfl
 refine Sx.calls_any (args:=[.val (.agg (cfCells cf s).toArray)]) (no_rows w) [(18,.nilsAt [(0,0,0),(1,5,1)]),(144,.is (.bool false)),(148,.is (.bool false)),(153,.is (.bool false)),(155,.callG (wantG [] 1 2 none (B5 cf) E6)),(157,.nils 9 1),(160,.call (.slice none 0 0)),(161,.app 0 []),(162,.callG (txG [4] 1 2 5 none TT E6 (.tuple #[]))),(167,.callG ⟨[1,5],[],[],[],.val (.int .i64 (TT.length:Int)),none⟩),(168,.is (.bool bl)),(169,.callG (wantG [] 1 5 none true E7)),(174,.is (.bool true))] (prLoops cf s) (by kernel_rfl) Tryz.func28 rfl (Nat.le_of_ble_eq_true rfl) rfl ?_
 exact Eq.mp (by kernel_rfl) (Sx.t2 h0 e1 (And.intro rd2 (fun(x3:Unit) (hx4:True)=>(Sx.t2 h5 e6 (And.intro rd7 (fun(x8:Unit) (hx9:True)=>(Sx.t2 h10 e11 (And.intro rd12 (fun(x13:Unit) (hx14:True)=>(Sx.t2 h15 e16 (And.intro rd17 (fun(x18:Unit) (hx19:True)=>(Sx.t2 h20 e21 (And.intro rd22 (fun(x23:Unit) (hx24:True)=>(Sx.t8 c144 c148 c153 c155 c160 c161 c162 c167 (Sx.t2 c168 c169 (And.intro c174 z25))))))))))))))))))
theorem print_d01(I:PrIn w cf s TT [kDefault] false bl E6 E7)(hd:cf.dflt≠1∧cf.dflt≠2∧cf.dflt≠3∧cf.dflt≠4)(hE:E7=0):Calls Tryz.prog 28 #[.agg (cfCells cf s).toArray] w (Sx.anyPost (pB w) (PrR (TT,0))):=by
 obtain⟨g1,g2,g3,g4,g5⟩:=I.g
 have rd2:=pr_r0 I.hl (cfCells cf s) cf.ports s.p.A s.p.c I.r.p I.w.p I.f.p false [] 0 g1 (TT,0)
 have rd7:=pr_r1 I.hl (cfCells cf s) cf.routes s.r.A s.r.c I.r.r I.w.r I.f.r (B1 cf) (T1 cf) (E1 cf) g2 (TT,0)
 have rd12:=pr_r2 I.hl (cfCells cf s) cf.meters s.m.A s.m.c I.r.m I.w.m I.f.m (B2 cf) (T2 cf) (E2 cf) g3 (TT,0)
 have rd17:=pr_r3 I.hl (cfCells cf s) cf.mirrors s.i.A s.i.c I.r.i I.w.i I.f.i (B3 cf) (T3 cf) (E3 cf) g4 (TT,0)
 have rd22:=pr_r4 I.hl (cfCells cf s) cf.rules s.l.A s.l.c I.r.l I.w.l I.f.l (B4 cf) (T4 cf) (E4 cf) g5 (TT,0)
 have h0:=Nat.zero_le cf.ports.length;have h5:=Nat.zero_le cf.routes.length;have h10:=Nat.zero_le cf.meters.length;have h15:=Nat.zero_le cf.mirrors.length;have h20:=Nat.zero_le cf.rules.length
 have e1:=prE0 cf s;have e6:=prE1 cf s;have e11:=prE2 cf s;have e16:=prE3 cf s;have e21:=prE4 cf s
 have c144:Value.bool (cf.dflt==1)=.bool false:=bzf (beq_eq_false_iff_ne.2 (hd.1))
 have c148:Value.bool (cf.dflt==2)=.bool false:=bzf (beq_eq_false_iff_ne.2 (hd.2.1))
 have c153:Value.bool (cf.dflt==4)=.bool false:=bzf (beq_eq_false_iff_ne.2 (hd.2.2.2))
 have c155:=wantP w cf s (B5 cf) 2 (T5 cf) [pO (T5 cf)] 3 I.e6 rfl
 have ha:actWs cf.dflt 0=[]:=by unfold actWs;rw[if_neg hd.1,if_neg hd.2.1,if_neg hd.2.2.1,if_neg hd.2.2.2]
 have hlan2:∀W,Chg [] w W→Lan W:=fun W hW=>I.hl.chg0 hW
 have c160:=fun W hW=>act_none (b:=pB w) ha (by omega) (by omega) hlan2 W hW
 have c161:=app_nil (Chg [] w) 1 (by decide)
 have c162:=lineP w cf s (B5 cf) (e:=E6) (T5 cf) [pO (T5 cf),Sx.deadRow,⟨9,.own 1 1 (strs [kDefault])⟩] 4 5 [kDefault] I.T rfl (by omega) rfl (by simp) I.B
 have c167:=lenP w cf s 5 E6 TT [Sx.deadRow,Sx.deadRow,⟨9,.own 1 1 (strs [kDefault])⟩,pO TT] 6 rfl
 have c168:=I.c168
 have c169:=wantP w cf s true 5 TT [Sx.deadRow,Sx.deadRow,⟨9,.own 1 1 (strs [kDefault])⟩,pO TT] 6 I.e7 rfl
 have c174:Value.bool (E7 !=0)=.bool false:=bzf (by rw[hE];rfl)
 have c182:=strP w cf s 5 E7 [Sx.deadRow,Sx.deadRow,⟨9,.own 1 1 (strs [kDefault])⟩,pO TT] 6 I.T rfl
 have z25:([.val (strV TT),.val (.int .i64 0)]:List Sx.SV)=[.val (strV TT),.val (.int .i64 0)]:=rfl
 refine Sx.calls_any (args:=[.val (.agg (cfCells cf s).toArray)]) (no_rows w) [(18,.nilsAt [(0,0,0),(1,5,1)]),(144,.is (.bool false)),(148,.is (.bool false)),(153,.is (.bool false)),(155,.callG (wantG [] 1 2 none (B5 cf) E6)),(157,.nils 9 1),(160,.call (.slice none 0 0)),(161,.app 0 []),(162,.callG (txG [4] 1 2 5 none TT E6 (.tuple #[]))),(167,.callG ⟨[1,5],[],[],[],.val (.int .i64 (TT.length:Int)),none⟩),(168,.is (.bool bl)),(169,.callG (wantG [] 1 5 none true E7)),(174,.is (.bool false)),(182,.callG ⟨[1,5],[],[1,5],[],.val (strV TT),none⟩)] (prLoops cf s) (by kernel_rfl) Tryz.func28 rfl (Nat.le_of_ble_eq_true rfl) rfl ?_
 exact Eq.mp (by kernel_rfl) (Sx.t2 h0 e1 (And.intro rd2 (fun(x3:Unit) (hx4:True)=>(Sx.t2 h5 e6 (And.intro rd7 (fun(x8:Unit) (hx9:True)=>(Sx.t2 h10 e11 (And.intro rd12 (fun(x13:Unit) (hx14:True)=>(Sx.t2 h15 e16 (And.intro rd17 (fun(x18:Unit) (hx19:True)=>(Sx.t2 h20 e21 (And.intro rd22 (fun(x23:Unit) (hx24:True)=>(Sx.t8 c144 c148 c153 c155 c160 c161 c162 c167 (Sx.t4 c168 c169 c174 c182 z25)))))))))))))))))
end
theorem CfRd.sub{w:World}{S S':List Nat}{cf:CF}{s:Sls}(h:CfRd w S cf s)(hs:∀k∈S',k∈S∨w.heap.size≤k):CfRd w S' cf s:=⟨h.p.sub hs,h.r.sub hs,h.l.sub hs,h.m.sub hs,h.i.sub hs⟩
def PrOk(w:World)(cf:CF)(s:Sls)(TT:Bs)(b:Bool):Prop:=(wantE (decide (TT.length≤65536)) 4 (wantE b 2 (E5 cf))=0→Calls Tryz.prog 28 #[.agg (cfCells cf s).toArray] w (Sx.anyPost ⟨w,[],fun _ _=>False⟩ (PrR (TT,0))))∧
 (¬wantE (decide (TT.length≤65536)) 4 (wantE b 2 (E5 cf))=0→Calls Tryz.prog 28 #[.agg (cfCells cf s).toArray] w (Sx.anyPost ⟨w,[],fun _ _=>False⟩ (PrR ([],wantE (decide (TT.length≤65536)) 4 (wantE b 2 (E5 cf))))))
theorem print_N{w:World}(hlan:Lan w)(cf:CF)(s:Sls)(h:CfRd w [] cf s)(hw:CfWf cf)(hf:CfFew cf)(hB:(cfText cf).length≤140737488355328):Calls Tryz.prog 28 #[.agg (cfCells cf s).toArray] w fun e w'=>e=.returned (.tuple #[strV (printW cf).1,.int .i64 (printW cf).2])∧Chg [] w w':=by
 have hT:=T5_eq cf
 have hE:=E5_eq cf
 have main:Calls Tryz.prog 28 #[.agg (cfCells cf s).toArray] w (Sx.anyPost ⟨w,[],fun _ _=>False⟩ (PrR (printW cf))):=by
  unfold printW endE
  rw[←hT]at hB ⊢
  rw[←hE]
  unfold dfltE
  unfold dfltWs at hB ⊢
  have go:∀(ws:List Bs) (b:Bool),actWs cf.dflt 0=ws→(decide (cf.dflt=1)||(decide (cf.dflt=2)||decide (cf.dflt=4)))=b→((T5 cf++lnB (kDefault::ws)).length≤140737488355328→PrOk w cf s (T5 cf++lnB (kDefault::ws)) b)→
    Calls Tryz.prog 28 #[.agg (cfCells cf s).toArray] w (Sx.anyPost ⟨w,[],fun _ _=>False⟩ (PrR (if wantE (decide ((T5 cf++lnB (kDefault::actWs cf.dflt 0)).length≤65536)) 4 (wantE (decide (cf.dflt=1)||(decide (cf.dflt=2)||decide (cf.dflt=4))) 2 (E5 cf))=0 then(T5 cf++lnB (kDefault::actWs cf.dflt 0),0)else([],wantE (decide ((T5 cf++lnB (kDefault::actWs cf.dflt 0)).length≤65536)) 4 (wantE (decide (cf.dflt=1)||(decide (cf.dflt=2)||decide (cf.dflt=4))) 2 (E5 cf)))))):=by
   intro ws b h1 h2 h3
   rw[h1]at hB ⊢
   rw[h2]
   split
   ·rename_i h0;exact(h3 hB).1 h0
   ·rename_i h0;exact(h3 hB).2 h0
  have mk:∀{F:List Bs} {b:Bool},(T5 cf++lnB F).length≤140737488355328→PrIn w cf s (T5 cf++lnB F) F b (decide ((T5 cf++lnB F).length≤65536)) (wantE b 2 (E5 cf)) (wantE (decide ((T5 cf++lnB F).length≤65536)) 4 (wantE b 2 (E5 cf))):=fun hb=>⟨hlan,h,hw,hf,rfl,hb,rfl,rfl,rfl⟩
  by_cases d1:cf.dflt=1
  ·exact go [kRoute] true (by rw[d1];rfl) (by rw[d1];rfl) fun hb=>⟨fun h0=>print_d11 (mk hb) d1 h0,fun h0=>print_d10 (mk hb) d1 h0⟩
  by_cases d2:cf.dflt=2
  ·exact go [kDrop] true (by rw[d2];rfl) (by rw[d2];rfl) fun hb=>⟨fun h0=>print_d21 (mk hb) d2 h0,fun h0=>print_d20 (mk hb) d2 h0⟩
  by_cases d4:cf.dflt=4
  ·exact go [kReject] true (by rw[d4];rfl) (by rw[d4];rfl) fun hb=>⟨fun h0=>print_d41 (mk hb) d4 h0,fun h0=>print_d40 (mk hb) d4 h0⟩
  by_cases d3:cf.dflt=3
  ·exact go [kOut,itoaT 0] false (by rw[d3];rfl) (by rw[d3];rfl) fun hb=>⟨fun h0=>print_d31 (mk hb) d3 h0,fun h0=>print_d30 (mk hb) d3 h0⟩
  ·exact go [] false (by unfold actWs;rw[if_neg d1,if_neg d2,if_neg d3,if_neg d4]) (by rw[decide_eq_false d1,decide_eq_false d2,decide_eq_false d4];rfl) fun hb=>⟨fun h0=>print_d01 (mk hb) ⟨d1,d2,d3,d4⟩ h0,fun h0=>print_d00 (mk hb) ⟨d1,d2,d3,d4⟩ h0⟩
 refine main.mono fun en w' hp=>?_
 rcases hp with⟨β,l,mem,hl,he,hR⟩ | ⟨_,_,hf,_⟩
 ·have hl:l=[.val (strV (printW cf).1),.val (.int .i64 (printW cf).2)]:=hl
  subst hl
  exact⟨he,hR.chg⟩
 ·exact hf.elim
end Go.Proofs.YtnncigmpcdehnaaGreatDoor
