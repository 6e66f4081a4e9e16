import Derived.Test.YtnncigmpcdehnaaGreatDoorQd39
namespace Go.Proofs.YtnncigmpcdehnaaGreatDoor
set_option maxRecDepth 100000
open Go Go.RowKit Go.Lib Go.Sort
structure eU(w:World)(S:List Nat)(cf:CF)(s:fU):Prop where
 p:oH w S 1 (.slice s.p.A cf.ai.length s.p.c) cf.ai.length (cf.ai.map fun n=>Value.int .i64 n)
 r:oH w S 19 (.slice s.r.A cf.ae.length s.r.c) cf.ae.length (cf.ae.flatMap Rt.cells)
 l:oH w S 49 (.slice s.l.A cf.rules.length s.l.c) cf.rules.length (cf.rules.flatMap Rl.cells)
 m:oH w S 4 (.slice s.m.A cf.af.length s.m.c) cf.af.length (cf.af.flatMap Me.cells)
 i:oH w S 3 (.slice s.i.A cf.aa.length s.i.c) cf.aa.length (cf.aa.flatMap Mi.cells)
structure fz(cf:CF):Prop where
 p:∀n∈cf.ai,qT n
 r:∀n∈cf.ae,n.Wf
 l:∀n∈cf.rules,n.Wf
 m:∀n∈cf.af,n.Wf
 i:∀n∈cf.aa,n.Wf
 d:qT cf.br
structure gC(cf:CF):Prop where
 p:cf.ai.length≤1000000000
 r:cf.ae.length≤1000000000
 l:cf.rules.length≤1000000000
 m:cf.af.length≤1000000000
 i:cf.aa.length≤1000000000
theorem eU.aF{w w':World}{S:List Nat}{cf:CF}{s:fU}(h:eU w S cf s)(hc:ag S w w'):eU w' S cf s:=⟨h.p.aF hc,h.r.aF hc,h.l.aF hc,h.m.aF hc,h.i.aF hc⟩
def au(cf:CF)(s:fU):List Value:=[.slice s.p.A cf.ai.length s.p.c,.slice s.r.A cf.ae.length s.r.c,.slice s.l.A cf.rules.length s.l.c,.slice s.m.A cf.af.length s.m.c,.slice s.i.A cf.aa.length s.i.c,.int .i64 cf.br]
def T1(cf:CF):Bs:=Ci [] cf.ai cf.ai.length
def T2(cf:CF):Bs:=xt (T1 cf) cf.ae cf.ae.length
def T3(cf:CF):Bs:=Ch (T2 cf) cf.af cf.af.length
def T4(cf:CF):Bs:=nH (T3 cf) cf.aa cf.aa.length
def T5(cf:CF):Bs:=IT (T4 cf) cf.rules cf.rules.length
def E1(cf:CF):Int:=EX 0 cf.ai cf.ai.length
def E2(cf:CF):Int:=yf (E1 cf) cf.ae cf.ae.length
def E3(cf:CF):Int:=DM (E2 cf) cf.af cf.af.length
def E4(cf:CF):Int:=nA (E3 cf) cf.aa cf.aa.length
def E5(cf:CF):Int:=Ly (E4 cf) cf.rules cf.rules.length
def B1(cf:CF):Bool:=bI false cf.ai.length
def B2(cf:CF):Bool:=bI (B1 cf) cf.ae.length
def B3(cf:CF):Bool:=bI (B2 cf) cf.af.length
def B4(cf:CF):Bool:=bI (B3 cf) cf.aa.length
def B5(cf:CF):Bool:=bI (B4 cf) cf.rules.length
theorem xC{t0:Bs}{ws:Nat→List Bs}:∀n,t0.length≤(tI t0 ws n).length
 | 0=>Nat.le_refl _
 |n+1=>by rw[tI,List.length_append];exact Nat.le_trans (xC n) (Nat.le_add_right _ _)
theorem OQ(cf:CF):T5 cf++iD (j2 cf.br)=fy cf:=by
 unfold fy ry T5 T4 T3 T2 T1 IT nH Ch xt Ci
 rw[xD,xD,xD,xD,xD]
 have app:∀a b:List (List Bs),di (a++b)=di a++di b:=fun a b=>by simp[di]
 simp only[app,List.nil_append]
 simp[di]
theorem OU(cf:CF):Hy (E5 cf) cf.br=tJ cf:=by
 unfold tJ E5 E4 E3 E2 E1 Ly nA DM yf EX
 rw[zo,zo,zo,zo,zo]
theorem GP{b:Sx.bb}{row:Nat→Option Sx.Row}{i j m:Nat}{og:Option Nat}{p:Bool}{tx:Bs}{e:Int}(h:mF row i j og p tx e)(W:World)(β:Sx.Env)(hS:Sx.dP b β W row [i,j]) :
  Calls Tryz.prog 76 (([.ptr i 0]:List Sx.SV).map (Sx.SV.den β)).toArray W (Sx.aP b β W row m ⟨[i,j],[],[],[],.val (.int .i64 (tx.length:Int)),none⟩):=by
 obtain⟨ht,_⟩:=nS hS h (by simp) (by simp)
 refine(Oi ht).mono fun en w' ⟨he,hw⟩=>.inl ⟨fun p hp=>(by cases hp),β,Sx.dF (v:=.int .i64 (tx.length:Int)) rfl rfl he (fun q hq=>(by cases hq)) (by rw[hw];exact ag.refl _ _)⟩
theorem xF{b:Sx.bb}{row:Nat→Option Sx.Row}{i j m:Nat}{og:Option Nat}{p:Bool}{tx:Bs}{e:Int}(h:mF row i j og p tx e)(h0:tx≠[])(W:World)(β:Sx.Env)(hS:Sx.dP b β W row [i,j]) :
  Calls Tryz.prog 77 (([.ptr i 0]:List Sx.SV).map (Sx.SV.den β)).toArray W (Sx.aP b β W row m ⟨[i,j],[],[i,j],[],.val (ab tx),none⟩):=by
 obtain⟨ht,_⟩:=nS hS h (by simp) (by simp)
 refine(Fx ht h0).mono fun en w' ⟨he,hc⟩=>.inl ⟨fun p hp=>(by cases hp),β,Sx.dF (v:=ab tx) rfl rfl he (fun q hq=>(by cases hq)) (hc.mono fun k hk=>.inl ?_)⟩
 show k∈([]++[i,j]).filterMap (Sx.cA β row)
 rcases List.mem_cons.1 hk with rfl|hk
 ·refine List.mem_filterMap.2 ⟨i,by simp,?_⟩
  unfold Sx.cA
  rw[h.b]
  exact mL
 ·refine List.mem_filterMap.2 ⟨j,by simp,?_⟩
  unfold Sx.cA
  rw[h.o]
  show(β.a j).map (·.block)=some k
  simpa using hk
theorem MC(t:Bs)(ws:List Bs):t++iD ws≠[]:=by unfold iD;simp
abbrev pB(w:World):Sx.bb:=⟨w,[],fun _ _=>False⟩
abbrev pL(cf:CF)(s:fU)(p:Bool)(j:Nat)(e:Int)(mem:List Sx.Row):List Sx.Row:=⟨46,.aj (au cf s)⟩::cN none [.cw p 1 0,.own j,.val (.int .i64 e)]::mem
abbrev pO(t:Bs):Sx.Row:=⟨5,.own 1 t.length (iU t)⟩
def JQ(cf:CF)(s:fU):List Sx.Loop:=[.mk Nat 0 (fun i=>i≤cf.ai.length) (fun i=>AK s.p.A cf.ai.length s.p.c i) (fun i=>JW (au cf s) false [] 0 cf.ai i) (fun i=>i+1) (fun i=>cf.ai.length - i) Unit (fun _=>True) (fun _=>[(1,.ptr 0 0),(4,.ptr 1 0)]) (fun _=>JW (au cf s) false [] 0 cf.ai cf.ai.length) (fun _=>()),
 .mk Nat 0 (fun i=>i≤cf.ae.length) (fun i=>AJ s.r.A cf.ae.length s.r.c i) (fun i=>JV (au cf s) (B1 cf) (T1 cf) (E1 cf) cf.ae i) (fun i=>i+1) (fun i=>cf.ae.length - i) Unit (fun _=>True) (fun _=>[(1,.ptr 0 0),(4,.ptr 1 0)]) (fun _=>JV (au cf s) (B1 cf) (T1 cf) (E1 cf) cf.ae cf.ae.length) (fun _=>()),
 .mk Nat 0 (fun i=>i≤cf.af.length) (fun i=>AI s.m.A cf.af.length s.m.c i) (fun i=>JU (au cf s) (B2 cf) (T2 cf) (E2 cf) cf.af i) (fun i=>i+1) (fun i=>cf.af.length - i) Unit (fun _=>True) (fun _=>[(1,.ptr 0 0),(4,.ptr 1 0)]) (fun _=>JU (au cf s) (B2 cf) (T2 cf) (E2 cf) cf.af cf.af.length) (fun _=>()),
 .mk Nat 0 (fun i=>i≤cf.aa.length) (fun i=>vT s.i.A cf.aa.length s.i.c i) (fun i=>JT (au cf s) (B3 cf) (T3 cf) (E3 cf) cf.aa i) (fun i=>i+1) (fun i=>cf.aa.length - i) Unit (fun _=>True) (fun _=>[(1,.ptr 0 0),(4,.ptr 1 0)]) (fun _=>JT (au cf s) (B3 cf) (T3 cf) (E3 cf) cf.aa cf.aa.length) (fun _=>()),
 .mk Nat 0 (fun i=>i≤cf.rules.length) (fun i=>AH s.l.A cf.rules.length s.l.c i) (fun i=>JS (au cf s) (B4 cf) (T4 cf) (E4 cf) cf.rules i) (fun i=>i+1) (fun i=>cf.rules.length - i) Unit (fun _=>True) (fun _=>[(1,.ptr 0 0),(4,.ptr 1 0)]) (fun _=>JS (au cf s) (B4 cf) (T4 cf) (E4 cf) cf.rules cf.rules.length) (fun _=>())]
structure IJ(w:World)(cf:CF)(s:fU)(TT:Bs)(F:List Bs)(b bl:Bool)(E6 E7:Int):Prop where
 hl:dJ w
 r:eU w [] cf s
 w:fz cf
 f:gC cf
 T:TT=T5 cf++iD F
 B:TT.length≤140737488355328
 d:bl=decide (TT.length≤65536)
 e6:E6=aB b 2 (E5 cf)
 e7:E7=aB bl 4 E6
section
variable{w:World}{cf:CF}{s:fU}{TT:Bs}{F:List Bs}{b bl:Bool}{E6 E7:Int}
theorem IJ.g(I:IJ w cf s TT F b bl E6 E7):(T1 cf).length≤140737488355328∧(T2 cf).length≤140737488355328∧(T3 cf).length≤140737488355328∧(T4 cf).length≤140737488355328∧(T5 cf).length≤140737488355328:=by
 have g5:(T5 cf).length≤140737488355328:=by have hB:=I.B;rw[I.T,List.length_append]at hB;omega
 have g4:(T4 cf).length≤140737488355328:=Nat.le_trans (xC _) g5
 have g3:(T3 cf).length≤140737488355328:=Nat.le_trans (xC _) g4
 have g2:(T2 cf).length≤140737488355328:=Nat.le_trans (xC _) g3
 exact⟨Nat.le_trans (xC _) g2,g2,g3,g4,g5⟩
theorem IJ.c168(I:IJ w cf s TT F b bl E6 E7):Value.bool (decide ((TT.length:Int)≤65536))=.bool bl:=by rw[I.d,show decide ((TT.length:Int)≤65536)=decide (TT.length≤65536)from by rw[decide_eq_decide];omega]
theorem Ll(w:World)(cf:CF)(s:fU)(p:Bool)(j:Nat){e e':Int}{b:Bool}{code:Int}(tx:Bs)(mem:List Sx.Row)(m:Nat)(he:e'=aB b code e)(rj:Sx.rowAt (pL cf s p j e mem) j=some (pO tx))(W:World)(β:Sx.Env)(hS:Sx.dP (pB w) β W (Sx.rowAt (pL cf s p j e mem)) [1,j]):Calls Tryz.prog 69 (([.ptr 1 0,.val (.bool b),.val (.int .i64 code)]:List Sx.SV).map (Sx.SV.den β)).toArray W (Sx.aP (pB w) β W (Sx.rowAt (pL cf s p j e mem)) m (fq [] 1 j none p e')):=by
 rw[he];exact ey b code ⟨rfl,rj⟩ W β hS
theorem Oh(w:World)(cf:CF)(s:fU)(p:Bool){e:Int}(tx:Bs)(mem:List Sx.Row)(k m:Nat)(ws:List Bs)(hT:TT=tx++iD ws)(rj:Sx.rowAt (pL cf s p 2 e mem) 2=some (pO tx))(hm:2 < m)(rk:Sx.rowAt (pL cf s p 2 e mem) k=some ⟨9,.own 1 ws.length (strs ws)⟩)(hn:ws.length≤1000000)(hl:TT.length≤140737488355328)(W:World)(β:Sx.Env)(hS:Sx.dP (pB w) β W (Sx.rowAt (pL cf s p 2 e mem)) [1,2,k]) :
  Calls Tryz.prog 70 (([.ptr 1 0,.own k]:List Sx.SV).map (Sx.SV.den β)).toArray W (Sx.aP (pB w) β W (Sx.rowAt (pL cf s p 2 e mem)) m (xx [k] 1 2 m none TT e (.tuple #[]))):=by
 subst hT
 exact uR (p:=p) ws ⟨rfl,rj⟩ (by omega) hm rk hn (by rw[←List.length_append];exact hl) W β hS
theorem Pw(w:World)(cf:CF)(s:fU)(j:Nat)(e:Int)(tx:Bs)(mem:List Sx.Row)(m:Nat)(rj:Sx.rowAt (pL cf s true j e mem) j=some (pO tx))(W:World)(β:Sx.Env)(hS:Sx.dP (pB w) β W (Sx.rowAt (pL cf s true j e mem)) [1,j]) :
  Calls Tryz.prog 76 (([.ptr 1 0]:List Sx.SV).map (Sx.SV.den β)).toArray W (Sx.aP (pB w) β W (Sx.rowAt (pL cf s true j e mem)) m ⟨[1,j],[],[],[],.val (.int .i64 (tx.length:Int)),none⟩):=GP (p:=true) ⟨rfl,rj⟩ W β hS
theorem Pa(w:World)(cf:CF)(s:fU)(j:Nat)(e:Int)(mem:List Sx.Row)(m:Nat){x:Bs}{ws:List Bs}(hT:TT=x++iD ws)(rj:Sx.rowAt (pL cf s true j e mem) j=some (pO TT))(W:World)(β:Sx.Env)(hS:Sx.dP (pB w) β W (Sx.rowAt (pL cf s true j e mem)) [1,j]) :
  Calls Tryz.prog 77 (([.ptr 1 0]:List Sx.SV).map (Sx.SV.den β)).toArray W (Sx.aP (pB w) β W (Sx.rowAt (pL cf s true j e mem)) m ⟨[1,j],[],[1,j],[],.val (ab TT),none⟩):=xF (p:=true) ⟨rfl,rj⟩ (by rw[hT];exact MC _ _) W β hS
theorem Po(cf:CF)(s:fU):AK s.p.A cf.ai.length s.p.c 0=AK s.p.A cf.ai.length s.p.c 0∧JW (au cf s) false [] 0 cf.ai 0=JW (au cf s) false [] 0 cf.ai 0:=⟨rfl,rfl⟩
theorem Pn(cf:CF)(s:fU):AJ s.r.A cf.ae.length s.r.c 0=AJ s.r.A cf.ae.length s.r.c 0∧JV (au cf s) (B1 cf) (T1 cf) (E1 cf) cf.ae 0=JV (au cf s) (B1 cf) (T1 cf) (E1 cf) cf.ae 0:=⟨rfl,rfl⟩
theorem Pm(cf:CF)(s:fU):AI s.m.A cf.af.length s.m.c 0=AI s.m.A cf.af.length s.m.c 0∧JU (au cf s) (B2 cf) (T2 cf) (E2 cf) cf.af 0=JU (au cf s) (B2 cf) (T2 cf) (E2 cf) cf.af 0:=⟨rfl,rfl⟩
theorem Pl(cf:CF)(s:fU):vT s.i.A cf.aa.length s.i.c 0=vT s.i.A cf.aa.length s.i.c 0∧JT (au cf s) (B3 cf) (T3 cf) (E3 cf) cf.aa 0=JT (au cf s) (B3 cf) (T3 cf) (E3 cf) cf.aa 0:=⟨rfl,rfl⟩
theorem Pk(cf:CF)(s:fU):AH s.l.A cf.rules.length s.l.c 0=AH s.l.A cf.rules.length s.l.c 0∧JS (au cf s) (B4 cf) (T4 cf) (E4 cf) cf.rules 0=JS (au cf s) (B4 cf) (T4 cf) (E4 cf) cf.rules 0:=⟨rfl,rfl⟩
def pl(na:Bool)(L:List Bs)(l:List Sx.Row):List Sx.Row:=Sx.al::(ra na L++l)
def IU(L:List Bs):Sx.Row:=⟨9,.own 1 (1+L.length) (strs [bD]++sL L)⟩
theorem Mr(L:List Bs):IU L=⟨9,.own 1 (bD::L).length (strs (bD::L))⟩:=by
 unfold IU
 rw[B7,List.length_cons,Nat.add_comm];rfl
def pk(na:Bool):Nat:=match na with
 |true=>4
 |false=>5
def N9(na:Bool)(w:World)(cf:CF)(s:fU)(e:Int)(L:List Bs):Prop:=match na with
 |true=>∀W,ag [] w W→Calls Tryz.prog 75 #[.int .i64 cf.br,.int .i64 0] W fun e w'=>e=.returned (.slice none 0 0)∧ag [] W w'
 |false=>∀W β,Sx.dP (pB w) β W (Sx.rowAt (pL cf s (B5 cf) 2 e [pO (T5 cf),⟨9,.own 1 1 (strs [bD])⟩])) []→Calls Tryz.prog 75 (([.val (.int .i64 cf.br),.val (.int .i64 0)]:List Sx.SV).map (Sx.SV.den β)).toArray W (Sx.aP (pB w) β W (Sx.rowAt (pL cf s (B5 cf) 2 e [pO (T5 cf),⟨9,.own 1 1 (strs [bD])⟩])) 4 (IF 4 L.length (strs L)))
def Oa(na:Bool)(L:List Bs):Sx.Hint:=match na with
 |true=>.call (.slice none 0 0)
 |false=>.an (IF 4 L.length (strs L))
def N8(na:Bool)(w:World)(L:List Bs):Prop:=match na with
 |true=>(∀W,ag [] w W→∃A c,Value.slice none 0 0=.slice A 0 c∧(0 < ([]:List Value).length→∃ad,A=some ad∧∀(j:Nat) (u:Value),([]:List Value)[j]?=some u→W.cell? (ad.add j)=some u))∧([]:List Value).length=0*1∧(∀u∈([]:List Value),u.oneCell'=true)∧1+0≤maxLen∧(1+0)*16≤140737488355328
 |false=>True∧(sL L).length=L.length*1∧(∀u∈sL L,u.oneCell'=true)∧1+L.length≤maxLen∧(1+L.length)*16≤140737488355328
def rz(ze:Bool)(TT:Bs)(E7:Int):Bs×Int:=match ze with
 |true=>(TT,0)
 |false=>([],E7)
theorem DK{L:List Bs}{na d1 d2 d4 ze:Bool}(I:IJ w cf s TT (bD::L) (bP d1 (bP d2 d4)) bl E6 E7)(ha:aW cf.br 0=L)(hL:L.length≤10)(hna:decide (L=[])=na)(h1:(cf.br==1)=d1)(h2:(cf.br==2)=d2)(h4:(cf.br==4)=d4)(hz:(E7==0)=ze):Calls Tryz.prog 28 #[.agg (au cf s).toArray] w (Sx.cd (pB w) (Nx (rz ze TT E7))):=by
 obtain⟨g1,g2,g3,g4,g5⟩:=I.g
 have jA:=N3 I.hl (au cf s) cf.ai s.p.A s.p.c I.r.p I.w.p I.f.p false [] 0 g1 (rz ze TT E7)
 have rd7:=N2 I.hl (au cf s) cf.ae s.r.A s.r.c I.r.r I.w.r I.f.r (B1 cf) (T1 cf) (E1 cf) g2 (rz ze TT E7)
 have rd12:=N1 I.hl (au cf s) cf.af s.m.A s.m.c I.r.m I.w.m I.f.m (B2 cf) (T2 cf) (E2 cf) g3 (rz ze TT E7)
 have rd17:=N0 I.hl (au cf s) cf.aa s.i.A s.i.c I.r.i I.w.i I.f.i (B3 cf) (T3 cf) (E3 cf) g4 (rz ze TT E7)
 have rd22:=NZ I.hl (au cf s) cf.rules s.l.A s.l.c I.r.l I.w.l I.f.l (B4 cf) (T4 cf) (E4 cf) g5 (rz ze TT E7)
 have c144:Value.bool (cf.br==1)=.bool d1:=congrArg _ h1
 have c148:Value.bool (cf.br==2)=.bool d2:=congrArg _ h2
 have c153:Value.bool (cf.br==4)=.bool d4:=congrArg _ h4
 have c155:=Ll w cf s (B5 cf) 2 (T5 cf) [pO (T5 cf)] 3 I.e6 rfl
 have hlan2:∀W,ag [] w W→dJ W:=fun W hW=>I.hl.cS hW
 have c160:N9 na w cf s E6 L:=by
  cases na with
  |true=>exact fun W hW=>zY (b:=pB w) (ha.trans (of_decide_eq_true hna)) (by omega) (by omega) hlan2 W hW
  |false=>exact fun W β hS=>zX (m:=4) ha (of_decide_eq_false hna) (by omega) (by omega) hlan2 W β hS
 have c161:N8 na w L:=by
  cases na with
  |true=>exact Df (ag [] w) 1 (by decide)
  |false=>exact(show True∧(sL L).length=L.length*1∧(∀u∈sL L,u.oneCell'=true)∧1+L.length≤maxLen∧(1+L.length)*16≤140737488355328 from by rw[B7];exact xm L 1 L.length rfl (by omega))
 have rk:Sx.rowAt (pL cf s (B5 cf) 2 E6 (pO (T5 cf)::pl na L [IU L])) (pk na)=some (IU L):=by cases na<;>rfl
 have rj:Sx.rowAt (pL cf s true (pk na+1) E6 (Sx.al::pl na L [IU L,pO TT])) (pk na+1)=some (pO TT):=by cases na<;>rfl
 have rj2:Sx.rowAt (pL cf s true (pk na+1) E7 (Sx.al::pl na L [IU L,pO TT])) (pk na+1)=some (pO TT):=by cases na<;>rfl
 have c162:=Oh w cf s (B5 cf) (e:=E6) (T5 cf) (pO (T5 cf)::pl na L [IU L]) (pk na) (pk na+1) (bD::L) I.T rfl (by cases na<;>decide) (rk.trans (congrArg some (Mr L))) (by rw[List.length_cons];omega) I.B
 have c167:=Pw w cf s (pk na+1) E6 TT (Sx.al::pl na L [IU L,pO TT]) (pk na+2) rj
 have c169:=Ll w cf s true (pk na+1) TT (Sx.al::pl na L [IU L,pO TT]) (pk na+2) I.e7 rj
 have c174:Value.bool (E7 !=0)=.bool (!ze):=congrArg (fun b=>Value.bool (!b)) hz
 have c182:=Pa w cf s (pk na+1) E7 (Sx.al::pl na L [IU L,pO TT]) (pk na+2) I.T rj2
 have z25:([.val (ab (rz ze TT E7).1),.val (.int .i64 (rz ze TT E7).2)]:List Sx.SV)=[.val (ab (rz ze TT E7).1),.val (.int .i64 (rz ze TT E7).2)]:=rfl
 have CH:=Sx.t2 (Nat.zero_le cf.ai.length) (Po cf s) (And.intro jA (fun(_:Unit) (_:True)=>(Sx.t2 (Nat.zero_le cf.ae.length) (Pn cf s) (And.intro rd7 (fun(_:Unit) (_:True)=>(Sx.t2 (Nat.zero_le cf.af.length) (Pm cf s) (And.intro rd12 (fun(_:Unit) (_:True)=>(Sx.t2 (Nat.zero_le cf.aa.length) (Pl cf s) (And.intro rd17 (fun(_:Unit) (_:True)=>(Sx.t2 (Nat.zero_le cf.rules.length) (Pk cf s) (And.intro rd22 (fun(_:Unit) (_:True)=>(And.intro c144 (q9.mk (b:=d1) (fun _=>c148) (q9.mk (b:=d1||d2) (fun _=>c153) (Sx.t8 c155 c160 c161 c162 c167 I.c168 c169 c174 (q9.mk (b:=!ze) (fun _=>c182) z25)))))))))))))))))))
 refine Sx.aY (args:=[.val (.agg (au cf s).toArray)]) (ec w) [(18,.sI [(0,0,0),(1,5,1)]),(144,.is (.bool d1)),(148,.is (.bool d2)),(153,.is (.bool d4)),(155,.an (fq [] 1 2 none (B5 cf) E6)),(157,.gL 9 1),(160,Oa na L),(161,.app 0 []),(162,.an (xx [pk na] 1 2 (pk na+1) none TT E6 (.tuple #[]))),(167,.an ⟨[1,pk na+1],[],[],[],.val (.int .i64 (TT.length:Int)),none⟩),(168,.is (.bool bl)),(169,.an (fq [] 1 (pk na+1) none true E7)),(174,.is (.bool (!ze))),(182,.an ⟨[1,pk na+1],[],[1,pk na+1],[],.val (ab TT),none⟩)] (JQ cf s) (by kernel_rfl) Tryz.func28 rfl (Nat.le_of_ble_eq_true rfl) rfl ?_
 clear I ha hL h1 h2 h4 hz jA rd7 rd12 rd17 rd22 c144 c148 c153 c155 c160 c161 rk rj rj2 c162 c167 c169 c174 c182 z25 g1 g2 g3 g4 g5
 cases na with
 |true=>
  obtain rfl:L=[]:=of_decide_eq_true hna
  cases d1<;>cases d2<;>cases d4<;>cases ze<;>exact Eq.mp (by kernel_rfl) CH
 |false=>cases d1<;>cases d2<;>cases d4<;>cases ze<;>exact Eq.mp (by kernel_rfl) CH
end
theorem eU.sub{w:World}{S S':List Nat}{cf:CF}{s:fU}(h:eU w S cf s)(hs:∀k∈S',k∈S∨w.heap.size≤k):eU w S' cf s:=⟨h.p.sub hs,h.r.sub hs,h.l.sub hs,h.m.sub hs,h.i.sub hs⟩
theorem JP{w:World}(hlan:dJ w)(cf:CF)(s:fU)(h:eU w [] cf s)(hw:fz cf)(hf:gC cf)(hB:(fy cf).length≤140737488355328):Calls Tryz.prog 28 #[.agg (au cf s).toArray] w fun e w'=>e=.returned (.tuple #[ab (iB cf).1,.int .i64 (iB cf).2])∧ag [] w w':=by
 have hT:fy cf=T5 cf++iD (bD::aW cf.br 0):=(OQ cf).symm
 have hE:ui cf=aB (decide ((fy cf).length≤65536)) 4 (aB (bP (cf.br==1) (bP (cf.br==2) (cf.br==4))) 2 (E5 cf)):=by
  unfold ui
  rw[←OU cf]
  rfl
 have hp:iB cf=rz (ui cf==0) (fy cf) (ui cf):=by
  unfold iB rz
  by_cases h0:ui cf=0
  ·rw[if_pos h0,h0];rfl
  ·rw[if_neg h0,beq_eq_false_iff_ne.2 h0]
 have hL:(aW cf.br 0).length≤10:=by
  unfold aW
  repeat' split
  all_goals simp
 have main:=DK (w:=w) (cf:=cf) (s:=s) (TT:=fy cf) (bl:=decide ((fy cf).length≤65536)) (E6:=aB (bP (cf.br==1) (bP (cf.br==2) (cf.br==4))) 2 (E5 cf)) (E7:=ui cf) ⟨hlan,h,hw,hf,hT,hB,rfl,rfl,hE⟩ rfl hL rfl rfl rfl rfl rfl
 rw[←hp]at main
 refine main.mono fun en w' hp=>?_
 rcases hp with⟨β,l,mem,hl,he,hR⟩ | ⟨_,_,hf,_⟩
 ·have hl:l=[.val (ab (iB cf).1),.val (.int .i64 (iB cf).2)]:=hl
  subst hl
  exact⟨he,hR.aF⟩
 ·exact hf.elim
end Go.Proofs.YtnncigmpcdehnaaGreatDoor
