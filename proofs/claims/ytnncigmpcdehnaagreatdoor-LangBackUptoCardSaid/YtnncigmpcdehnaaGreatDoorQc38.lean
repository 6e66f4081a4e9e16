import Derived.Test.YtnncigmpcdehnaaGreatDoorQc37
namespace Go.Proofs.YtnncigmpcdehnaaGreatDoor
set_option maxRecDepth 100000
open Go Go.RowKit Go.Lib Go.Sort
structure dC(w:World)(S:List Nat)(cf:CF)(s:eJ):Prop where
 p:kp w S 1 (.slice s.p.A cf.ag.length s.p.c) cf.ag.length (cf.ag.map fun n=>Value.int .i64 n)
 r:kp w S 19 (.slice s.r.A cf.ae.length s.r.c) cf.ae.length (cf.ae.flatMap Rt.cells)
 l:kp w S 49 (.slice s.l.A cf.rules.length s.l.c) cf.rules.length (cf.rules.flatMap Rl.cells)
 m:kp w S 4 (.slice s.m.A cf.af.length s.m.c) cf.af.length (cf.af.flatMap Me.cells)
 i:kp w S 3 (.slice s.i.A cf.aa.length s.i.c) cf.aa.length (cf.aa.flatMap Mi.cells)
structure dL(cf:CF):Prop where
 p:∀n∈cf.ag,nD n
 r:∀n∈cf.ae,n.Wf
 l:∀n∈cf.rules,n.Wf
 m:∀n∈cf.af,n.Wf
 i:∀n∈cf.aa,n.Wf
 d:nD cf.a8
structure ef(cf:CF):Prop where
 p:cf.ag.length≤1000000000
 r:cf.ae.length≤1000000000
 l:cf.rules.length≤1000000000
 m:cf.af.length≤1000000000
 i:cf.aa.length≤1000000000
theorem dC.az{w w':World}{S:List Nat}{cf:CF}{s:eJ}(h:dC w S cf s)(hc:ah S w w'):dC w' S cf s:=⟨h.p.az hc,h.r.az hc,h.l.az hc,h.m.az hc,h.i.az hc⟩
def an(cf:CF)(s:eJ):List Value:=[.slice s.p.A cf.ag.length s.p.c,.slice s.r.A cf.ae.length s.r.c,.slice s.l.A cf.rules.length s.l.c,.slice s.m.A cf.af.length s.m.c,.slice s.i.A cf.aa.length s.i.c,.int .i64 cf.a8]
def T1(cf:CF):Bs:=Cb [] cf.ag cf.ag.length
def T2(cf:CF):Bs:=wY (T1 cf) cf.ae cf.ae.length
def T3(cf:CF):Bs:=Ca (T2 cf) cf.af cf.af.length
def T4(cf:CF):Bs:=nx (T3 cf) cf.aa cf.aa.length
def T5(cf:CF):Bs:=IL (T4 cf) cf.rules cf.rules.length
def E1(cf:CF):Int:=ES 0 cf.ag cf.ag.length
def E2(cf:CF):Int:=xK (E1 cf) cf.ae cf.ae.length
def E3(cf:CF):Int:=DI (E2 cf) cf.af cf.af.length
def E4(cf:CF):Int:=nr (E3 cf) cf.aa cf.aa.length
def E5(cf:CF):Int:=Lt (E4 cf) cf.rules cf.rules.length
def B1(cf:CF):Bool:=bI false cf.ag.length
def B2(cf:CF):Bool:=bI (B1 cf) cf.ae.length
def B3(cf:CF):Bool:=bI (B2 cf) cf.af.length
def B4(cf:CF):Bool:=bI (B3 cf) cf.aa.length
def B5(cf:CF):Bool:=bI (B4 cf) cf.rules.length
theorem xm{t0:Bs}{ws:Nat→List Bs}:∀n,t0.length≤(tI t0 ws n).length
 | 0=>Nat.le_refl _
 |n+1=>by rw[tI,List.length_append];exact Nat.le_trans (xm n) (Nat.le_add_right _ _)
theorem OU(cf:CF):T5 cf++fV (iA cf.a8)=cJ cf:=by
 unfold cJ jL T5 T4 T3 T2 T1 IL nx Ca wY Cb
 rw[xn,xn,xn,xn,xn]
 have app:∀a b:List (List Bs),cY (a++b)=cY a++cY b:=fun a b=>by simp[cY]
 simp only[app,List.nil_append]
 simp[cY]
theorem OZ(cf:CF):Hp (E5 cf) cf.a8=pb cf:=by
 unfold pb E5 E4 E3 E2 E1 Lt nr DI xK ES
 rw[yU,yU,yU,yU,yU]
theorem GB{b:Sx.a7}{row:Nat→Option Sx.Row}{i j m:Nat}{og:Option Nat}{p:Bool}{tx:Bs}{e:Int}(h:mz row i j og p tx e)(W:World)(β:Sx.Env)(hS:Sx.dz b β W row [i,j]) :
  Calls Tryz.prog 76 (([.ptr i 0]:List Sx.SV).map (Sx.SV.den β)).toArray W (Sx.aQ b β W row m ⟨[i,j],[],[],[],.val (.int .i64 (tx.length:Int)),none⟩):=by
 obtain⟨ht,_⟩:=nI hS h (by simp) (by simp)
 refine(Ou ht).mono fun en w' ⟨he,hw⟩=>.inl ⟨fun p hp=>(by cases hp),β,Sx.cN (v:=.int .i64 (tx.length:Int)) rfl rfl he (fun q hq=>(by cases hq)) (by rw[hw];exact ah.refl _ _)⟩
theorem xo{b:Sx.a7}{row:Nat→Option Sx.Row}{i j m:Nat}{og:Option Nat}{p:Bool}{tx:Bs}{e:Int}(h:mz row i j og p tx e)(h0:tx≠[])(W:World)(β:Sx.Env)(hS:Sx.dz b β W row [i,j]) :
  Calls Tryz.prog 77 (([.ptr i 0]:List Sx.SV).map (Sx.SV.den β)).toArray W (Sx.aQ b β W row m ⟨[i,j],[],[i,j],[],.val (ab tx),none⟩):=by
 obtain⟨ht,_⟩:=nI hS h (by simp) (by simp)
 refine(Fj ht h0).mono fun en w' ⟨he,hc⟩=>.inl ⟨fun p hp=>(by cases hp),β,Sx.cN (v:=ab tx) rfl rfl he (fun q hq=>(by cases hq)) (hc.mono fun k hk=>.inl ?_)⟩
 show k∈([]++[i,j]).filterMap (Sx.ct β row)
 rcases List.mem_cons.1 hk with rfl|hk
 ·refine List.mem_filterMap.2 ⟨i,by simp,?_⟩
  unfold Sx.ct
  rw[h.b]
  exact mF
 ·refine List.mem_filterMap.2 ⟨j,by simp,?_⟩
  unfold Sx.ct
  rw[h.o]
  show(β.a j).map (·.block)=some k
  simpa using hk
theorem Mz(t:Bs)(ws:List Bs):t++fV ws≠[]:=by unfold fV;simp
abbrev pB(w:World):Sx.a7:=⟨w,[],fun _ _=>False⟩
abbrev pL(cf:CF)(s:eJ)(p:Bool)(j:Nat)(e:Int)(mem:List Sx.Row):List Sx.Row:=⟨46,.aj (an cf s)⟩::cS none [.cD p 1 0,.own j,.val (.int .i64 e)]::mem
abbrev pO(t:Bs):Sx.Row:=⟨5,.own 1 t.length (iS t)⟩
def JJ(cf:CF)(s:eJ):List Sx.Loop:=[.mk Nat 0 (fun i=>i≤cf.ag.length) (fun i=>Ao s.p.A cf.ag.length s.p.c i) (fun i=>JP (an cf s) false [] 0 cf.ag i) (fun i=>i+1) (fun i=>cf.ag.length - i) Unit (fun _=>True) (fun _=>[(1,.ptr 0 0),(4,.ptr 1 0)]) (fun _=>JP (an cf s) false [] 0 cf.ag cf.ag.length) (fun _=>()),
 .mk Nat 0 (fun i=>i≤cf.ae.length) (fun i=>An s.r.A cf.ae.length s.r.c i) (fun i=>JO (an cf s) (B1 cf) (T1 cf) (E1 cf) cf.ae i) (fun i=>i+1) (fun i=>cf.ae.length - i) Unit (fun _=>True) (fun _=>[(1,.ptr 0 0),(4,.ptr 1 0)]) (fun _=>JO (an cf s) (B1 cf) (T1 cf) (E1 cf) cf.ae cf.ae.length) (fun _=>()),
 .mk Nat 0 (fun i=>i≤cf.af.length) (fun i=>Am s.m.A cf.af.length s.m.c i) (fun i=>JN (an cf s) (B2 cf) (T2 cf) (E2 cf) cf.af i) (fun i=>i+1) (fun i=>cf.af.length - i) Unit (fun _=>True) (fun _=>[(1,.ptr 0 0),(4,.ptr 1 0)]) (fun _=>JN (an cf s) (B2 cf) (T2 cf) (E2 cf) cf.af cf.af.length) (fun _=>()),
 .mk Nat 0 (fun i=>i≤cf.aa.length) (fun i=>vK s.i.A cf.aa.length s.i.c i) (fun i=>JM (an cf s) (B3 cf) (T3 cf) (E3 cf) cf.aa i) (fun i=>i+1) (fun i=>cf.aa.length - i) Unit (fun _=>True) (fun _=>[(1,.ptr 0 0),(4,.ptr 1 0)]) (fun _=>JM (an cf s) (B3 cf) (T3 cf) (E3 cf) cf.aa cf.aa.length) (fun _=>()),
 .mk Nat 0 (fun i=>i≤cf.rules.length) (fun i=>Al s.l.A cf.rules.length s.l.c i) (fun i=>JL (an cf s) (B4 cf) (T4 cf) (E4 cf) cf.rules i) (fun i=>i+1) (fun i=>cf.rules.length - i) Unit (fun _=>True) (fun _=>[(1,.ptr 0 0),(4,.ptr 1 0)]) (fun _=>JL (an cf s) (B4 cf) (T4 cf) (E4 cf) cf.rules cf.rules.length) (fun _=>())]
structure IE(w:World)(cf:CF)(s:eJ)(TT:Bs)(F:List Bs)(b bl:Bool)(E6 E7:Int):Prop where
 hl:dy w
 r:dC w [] cf s
 w:dL cf
 f:ef cf
 T:TT=T5 cf++fV F
 B:TT.length≤140737488355328
 d:bl=decide (TT.length≤65536)
 e6:E6=aE b 2 (E5 cf)
 e7:E7=aE bl 4 E6
section
variable{w:World}{cf:CF}{s:eJ}{TT:Bs}{F:List Bs}{b bl:Bool}{E6 E7:Int}
theorem IE.g(I:IE w cf s TT F b bl E6 E7):(T1 cf).length≤140737488355328∧(T2 cf).length≤140737488355328∧(T3 cf).length≤140737488355328∧(T4 cf).length≤140737488355328∧(T5 cf).length≤140737488355328:=by
 have g5:(T5 cf).length≤140737488355328:=by have hB:=I.B;rw[I.T,List.length_append]at hB;omega
 have g4:(T4 cf).length≤140737488355328:=Nat.le_trans (xm _) g5
 have g3:(T3 cf).length≤140737488355328:=Nat.le_trans (xm _) g4
 have g2:(T2 cf).length≤140737488355328:=Nat.le_trans (xm _) g3
 exact⟨Nat.le_trans (xm _) g2,g2,g3,g4,g5⟩
theorem IE.c168(I:IE w cf s TT F b bl E6 E7):Value.bool (decide ((TT.length:Int)≤65536))=.bool bl:=by rw[I.d,show decide ((TT.length:Int)≤65536)=decide (TT.length≤65536)from by rw[decide_eq_decide];omega]
theorem Li(w:World)(cf:CF)(s:eJ)(p:Bool)(j:Nat){e e':Int}{b:Bool}{code:Int}(tx:Bs)(mem:List Sx.Row)(m:Nat)(he:e'=aE b code e)(rj:Sx.rowAt (pL cf s p j e mem) j=some (pO tx))(W:World)(β:Sx.Env)(hS:Sx.dz (pB w) β W (Sx.rowAt (pL cf s p j e mem)) [1,j]):Calls Tryz.prog 69 (([.ptr 1 0,.val (.bool b),.val (.int .i64 code)]:List Sx.SV).map (Sx.SV.den β)).toArray W (Sx.aQ (pB w) β W (Sx.rowAt (pL cf s p j e mem)) m (fp [] 1 j none p e')):=by
 rw[he];exact eF b code ⟨rfl,rj⟩ W β hS
theorem Ot(w:World)(cf:CF)(s:eJ)(p:Bool){e:Int}(tx:Bs)(mem:List Sx.Row)(k m:Nat)(ws:List Bs)(hT:TT=tx++fV ws)(rj:Sx.rowAt (pL cf s p 2 e mem) 2=some (pO tx))(hm:2 < m)(rk:Sx.rowAt (pL cf s p 2 e mem) k=some ⟨9,.own 1 ws.length (strs ws)⟩)(hn:ws.length≤1000000)(hl:TT.length≤140737488355328)(W:World)(β:Sx.Env)(hS:Sx.dz (pB w) β W (Sx.rowAt (pL cf s p 2 e mem)) [1,2,k]) :
  Calls Tryz.prog 70 (([.ptr 1 0,.own k]:List Sx.SV).map (Sx.SV.den β)).toArray W (Sx.aQ (pB w) β W (Sx.rowAt (pL cf s p 2 e mem)) m (w8 [k] 1 2 m none TT e (.tuple #[]))):=by
 subst hT
 exact uJ (p:=p) ws ⟨rfl,rj⟩ (by omega) hm rk hn (by rw[←List.length_append];exact hl) W β hS
theorem Pv(w:World)(cf:CF)(s:eJ)(j:Nat)(e:Int)(tx:Bs)(mem:List Sx.Row)(m:Nat)(rj:Sx.rowAt (pL cf s true j e mem) j=some (pO tx))(W:World)(β:Sx.Env)(hS:Sx.dz (pB w) β W (Sx.rowAt (pL cf s true j e mem)) [1,j]) :
  Calls Tryz.prog 76 (([.ptr 1 0]:List Sx.SV).map (Sx.SV.den β)).toArray W (Sx.aQ (pB w) β W (Sx.rowAt (pL cf s true j e mem)) m ⟨[1,j],[],[],[],.val (.int .i64 (tx.length:Int)),none⟩):=GB (p:=true) ⟨rfl,rj⟩ W β hS
theorem Pa(w:World)(cf:CF)(s:eJ)(j:Nat)(e:Int)(mem:List Sx.Row)(m:Nat){x:Bs}{ws:List Bs}(hT:TT=x++fV ws)(rj:Sx.rowAt (pL cf s true j e mem) j=some (pO TT))(W:World)(β:Sx.Env)(hS:Sx.dz (pB w) β W (Sx.rowAt (pL cf s true j e mem)) [1,j]) :
  Calls Tryz.prog 77 (([.ptr 1 0]:List Sx.SV).map (Sx.SV.den β)).toArray W (Sx.aQ (pB w) β W (Sx.rowAt (pL cf s true j e mem)) m ⟨[1,j],[],[1,j],[],.val (ab TT),none⟩):=xo (p:=true) ⟨rfl,rj⟩ (by rw[hT];exact Mz _ _) W β hS
theorem Po(cf:CF)(s:eJ):Ao s.p.A cf.ag.length s.p.c 0=Ao s.p.A cf.ag.length s.p.c 0∧JP (an cf s) false [] 0 cf.ag 0=JP (an cf s) false [] 0 cf.ag 0:=⟨rfl,rfl⟩
theorem Pn(cf:CF)(s:eJ):An s.r.A cf.ae.length s.r.c 0=An s.r.A cf.ae.length s.r.c 0∧JO (an cf s) (B1 cf) (T1 cf) (E1 cf) cf.ae 0=JO (an cf s) (B1 cf) (T1 cf) (E1 cf) cf.ae 0:=⟨rfl,rfl⟩
theorem Pm(cf:CF)(s:eJ):Am s.m.A cf.af.length s.m.c 0=Am s.m.A cf.af.length s.m.c 0∧JN (an cf s) (B2 cf) (T2 cf) (E2 cf) cf.af 0=JN (an cf s) (B2 cf) (T2 cf) (E2 cf) cf.af 0:=⟨rfl,rfl⟩
theorem Pk(cf:CF)(s:eJ):vK s.i.A cf.aa.length s.i.c 0=vK s.i.A cf.aa.length s.i.c 0∧JM (an cf s) (B3 cf) (T3 cf) (E3 cf) cf.aa 0=JM (an cf s) (B3 cf) (T3 cf) (E3 cf) cf.aa 0:=⟨rfl,rfl⟩
theorem Pj(cf:CF)(s:eJ):Al s.l.A cf.rules.length s.l.c 0=Al s.l.A cf.rules.length s.l.c 0∧JL (an cf s) (B4 cf) (T4 cf) (E4 cf) cf.rules 0=JL (an cf s) (B4 cf) (T4 cf) (E4 cf) cf.rules 0:=⟨rfl,rfl⟩
def pl(na:Bool)(L:List Bs)(l:List Sx.Row):List Sx.Row:=Sx.al::(ra na L++l)
def IM(L:List Bs):Sx.Row:=⟨9,.own 1 (1+L.length) (strs [aV]++sL L)⟩
theorem Mo(L:List Bs):IM L=⟨9,.own 1 (aV::L).length (strs (aV::L))⟩:=by
 unfold IM
 rw[BV,List.length_cons,Nat.add_comm];rfl
def pk(na:Bool):Nat:=match na with
 |true=>4
 |false=>5
def Oh(na:Bool)(w:World)(cf:CF)(s:eJ)(e:Int)(L:List Bs):Prop:=match na with
 |true=>∀W,ah [] w W→Calls Tryz.prog 75 #[.int .i64 cf.a8,.int .i64 0] W fun e w'=>e=.returned (.slice none 0 0)∧ah [] W w'
 |false=>∀W β,Sx.dz (pB w) β W (Sx.rowAt (pL cf s (B5 cf) 2 e [pO (T5 cf),⟨9,.own 1 1 (strs [aV])⟩])) []→Calls Tryz.prog 75 (([.val (.int .i64 cf.a8),.val (.int .i64 0)]:List Sx.SV).map (Sx.SV.den β)).toArray W (Sx.aQ (pB w) β W (Sx.rowAt (pL cf s (B5 cf) 2 e [pO (T5 cf),⟨9,.own 1 1 (strs [aV])⟩])) 4 (IA 4 L.length (strs L)))
def Oi(na:Bool)(L:List Bs):Sx.Hint:=match na with
 |true=>.call (.slice none 0 0)
 |false=>.ai (IA 4 L.length (strs L))
def Og(na:Bool)(w:World)(L:List Bs):Prop:=match na with
 |true=>(∀W,ah [] w W→∃A c,Value.slice none 0 0=.slice A 0 c∧(0 < ([]:List Value).length→∃ad,A=some ad∧∀(j:Nat) (u:Value),([]:List Value)[j]?=some u→W.cell? (ad.add j)=some u))∧([]:List Value).length=0*1∧(∀u∈([]:List Value),u.oneCell'=true)∧1+0≤maxLen∧(1+0)*16≤140737488355328
 |false=>True∧(sL L).length=L.length*1∧(∀u∈sL L,u.oneCell'=true)∧1+L.length≤maxLen∧(1+L.length)*16≤140737488355328
def rz(ze:Bool)(TT:Bs)(E7:Int):Bs×Int:=match ze with
 |true=>(TT,0)
 |false=>([],E7)
theorem DH{L:List Bs}{na d1 d2 d4 ze:Bool}(I:IE w cf s TT (aV::L) (bP d1 (bP d2 d4)) bl E6 E7)(ha:aZ cf.a8 0=L)(hL:L.length≤10)(hna:decide (L=[])=na)(h1:(cf.a8==1)=d1)(h2:(cf.a8==2)=d2)(h4:(cf.a8==4)=d4)(hz:(E7==0)=ze):Calls Tryz.prog 28 #[.agg (an cf s).toArray] w (Sx.bJ (pB w) (Nz (rz ze TT E7))):=by
 obtain⟨g1,g2,g3,g4,g5⟩:=I.g
 have nq:=Oa I.hl (an cf s) cf.ag s.p.A s.p.c I.r.p I.w.p I.f.p false [] 0 g1 (rz ze TT E7)
 have rd7:=N9 I.hl (an cf s) cf.ae s.r.A s.r.c I.r.r I.w.r I.f.r (B1 cf) (T1 cf) (E1 cf) g2 (rz ze TT E7)
 have rd12:=N8 I.hl (an cf s) cf.af s.m.A s.m.c I.r.m I.w.m I.f.m (B2 cf) (T2 cf) (E2 cf) g3 (rz ze TT E7)
 have rd17:=N7 I.hl (an cf s) cf.aa s.i.A s.i.c I.r.i I.w.i I.f.i (B3 cf) (T3 cf) (E3 cf) g4 (rz ze TT E7)
 have rd22:=N6 I.hl (an cf s) cf.rules s.l.A s.l.c I.r.l I.w.l I.f.l (B4 cf) (T4 cf) (E4 cf) g5 (rz ze TT E7)
 have c144:Value.bool (cf.a8==1)=.bool d1:=congrArg _ h1
 have c148:Value.bool (cf.a8==2)=.bool d2:=congrArg _ h2
 have c153:Value.bool (cf.a8==4)=.bool d4:=congrArg _ h4
 have c155:=Li w cf s (B5 cf) 2 (T5 cf) [pO (T5 cf)] 3 I.e6 rfl
 have hlan2:∀W,ah [] w W→dy W:=fun W hW=>I.hl.cP hW
 have c160:Oh na w cf s E6 L:=by
  cases na with
  |true=>exact fun W hW=>zF (b:=pB w) (ha.trans (of_decide_eq_true hna)) (by omega) (by omega) hlan2 W hW
  |false=>exact fun W β hS=>zE (m:=4) ha (of_decide_eq_false hna) (by omega) (by omega) hlan2 W β hS
 have c161:Og na w L:=by
  cases na with
  |true=>exact De (ah [] w) 1 (by decide)
  |false=>exact(show True∧(sL L).length=L.length*1∧(∀u∈sL L,u.oneCell'=true)∧1+L.length≤maxLen∧(1+L.length)*16≤140737488355328 from by rw[BV];exact wT L 1 L.length rfl (by omega))
 have rk:Sx.rowAt (pL cf s (B5 cf) 2 E6 (pO (T5 cf)::pl na L [IM L])) (pk na)=some (IM L):=by cases na<;>rfl
 have rj:Sx.rowAt (pL cf s true (pk na+1) E6 (Sx.al::pl na L [IM L,pO TT])) (pk na+1)=some (pO TT):=by cases na<;>rfl
 have rj2:Sx.rowAt (pL cf s true (pk na+1) E7 (Sx.al::pl na L [IM L,pO TT])) (pk na+1)=some (pO TT):=by cases na<;>rfl
 have c162:=Ot w cf s (B5 cf) (e:=E6) (T5 cf) (pO (T5 cf)::pl na L [IM L]) (pk na) (pk na+1) (aV::L) I.T rfl (by cases na<;>decide) (rk.trans (congrArg some (Mo L))) (by rw[List.length_cons];omega) I.B
 have c167:=Pv w cf s (pk na+1) E6 TT (Sx.al::pl na L [IM L,pO TT]) (pk na+2) rj
 have c169:=Li w cf s true (pk na+1) TT (Sx.al::pl na L [IM L,pO TT]) (pk na+2) I.e7 rj
 have c174:Value.bool (E7 !=0)=.bool (!ze):=congrArg (fun b=>Value.bool (!b)) hz
 have c182:=Pa w cf s (pk na+1) E7 (Sx.al::pl na L [IM L,pO TT]) (pk na+2) I.T rj2
 have z25:([.val (ab (rz ze TT E7).1),.val (.int .i64 (rz ze TT E7).2)]:List Sx.SV)=[.val (ab (rz ze TT E7).1),.val (.int .i64 (rz ze TT E7).2)]:=rfl
 have CH:=Sx.t2 (Nat.zero_le cf.ag.length) (Po cf s) (And.intro nq (fun(_:Unit) (_:True)=>(Sx.t2 (Nat.zero_le cf.ae.length) (Pn cf s) (And.intro rd7 (fun(_:Unit) (_:True)=>(Sx.t2 (Nat.zero_le cf.af.length) (Pm cf s) (And.intro rd12 (fun(_:Unit) (_:True)=>(Sx.t2 (Nat.zero_le cf.aa.length) (Pk cf s) (And.intro rd17 (fun(_:Unit) (_:True)=>(Sx.t2 (Nat.zero_le cf.rules.length) (Pj cf s) (And.intro rd22 (fun(_:Unit) (_:True)=>(And.intro c144 (qN.mk (b:=d1) (fun _=>c148) (qN.mk (b:=d1||d2) (fun _=>c153) (Sx.t8 c155 c160 c161 c162 c167 I.c168 c169 c174 (qN.mk (b:=!ze) (fun _=>c182) z25)))))))))))))))))))
 refine Sx.aW (args:=[.val (.agg (an cf s).toArray)]) (dE w) [(18,.sw [(0,0,0),(1,5,1)]),(144,.is (.bool d1)),(148,.is (.bool d2)),(153,.is (.bool d4)),(155,.ai (fp [] 1 2 none (B5 cf) E6)),(157,.iy 9 1),(160,Oi na L),(161,.app 0 []),(162,.ai (w8 [pk na] 1 2 (pk na+1) none TT E6 (.tuple #[]))),(167,.ai ⟨[1,pk na+1],[],[],[],.val (.int .i64 (TT.length:Int)),none⟩),(168,.is (.bool bl)),(169,.ai (fp [] 1 (pk na+1) none true E7)),(174,.is (.bool (!ze))),(182,.ai ⟨[1,pk na+1],[],[1,pk na+1],[],.val (ab TT),none⟩)] (JJ cf s) (by kernel_rfl) Tryz.func28 rfl (Nat.le_of_ble_eq_true rfl) rfl ?_
 clear I ha hL h1 h2 h4 hz nq rd7 rd12 rd17 rd22 c144 c148 c153 c155 c160 c161 rk rj rj2 c162 c167 c169 c174 c182 z25 g1 g2 g3 g4 g5
 cases na with
 |true=>
  obtain rfl:L=[]:=of_decide_eq_true hna
  cases d1<;>cases d2<;>cases d4<;>cases ze<;>exact Eq.mp (by kernel_rfl) CH
 |false=>cases d1<;>cases d2<;>cases d4<;>cases ze<;>exact Eq.mp (by kernel_rfl) CH
end
theorem dC.sub{w:World}{S S':List Nat}{cf:CF}{s:eJ}(h:dC w S cf s)(hs:∀k∈S',k∈S∨w.heap.size≤k):dC w S' cf s:=⟨h.p.sub hs,h.r.sub hs,h.l.sub hs,h.m.sub hs,h.i.sub hs⟩
theorem Cc{w:World}(hlan:dy w)(cf:CF)(s:eJ)(h:dC w [] cf s)(hw:dL cf)(hf:ef cf)(hB:(cJ cf).length≤140737488355328):Calls Tryz.prog 28 #[.agg (an cf s).toArray] w fun e w'=>e=.returned (.tuple #[ab (dt cf).1,.int .i64 (dt cf).2])∧ah [] w w':=by
 have hT:cJ cf=T5 cf++fV (aV::aZ cf.a8 0):=(OU cf).symm
 have hE:ly cf=aE (decide ((cJ cf).length≤65536)) 4 (aE (bP (cf.a8==1) (bP (cf.a8==2) (cf.a8==4))) 2 (E5 cf)):=by
  unfold ly
  rw[←OZ cf]
  rfl
 have hp:dt cf=rz (ly cf==0) (cJ cf) (ly cf):=by
  unfold dt rz
  by_cases h0:ly cf=0
  ·rw[if_pos h0,h0];rfl
  ·rw[if_neg h0,beq_eq_false_iff_ne.2 h0]
 have hL:(aZ cf.a8 0).length≤10:=by
  unfold aZ
  repeat' split
  all_goals simp
 have main:=DH (w:=w) (cf:=cf) (s:=s) (TT:=cJ cf) (bl:=decide ((cJ cf).length≤65536)) (E6:=aE (bP (cf.a8==1) (bP (cf.a8==2) (cf.a8==4))) 2 (E5 cf)) (E7:=ly cf) ⟨hlan,h,hw,hf,hT,hB,rfl,rfl,hE⟩ rfl hL rfl rfl rfl rfl rfl
 rw[←hp]at main
 refine main.mono fun en w' hp=>?_
 rcases hp with⟨β,l,mem,hl,he,hR⟩ | ⟨_,_,hf,_⟩
 ·have hl:l=[.val (ab (dt cf).1),.val (.int .i64 (dt cf).2)]:=hl
  subst hl
  exact⟨he,hR.az⟩
 ·exact hf.elim
end Go.Proofs.YtnncigmpcdehnaaGreatDoor
