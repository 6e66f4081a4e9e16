import Derived.Test.YtnncigmpcdehnaaGreatDoorQf36
namespace Go.Proofs.YtnncigmpcdehnaaGreatDoor
set_option maxRecDepth 100000
open Go Go.RowKit Go.Lib Go.Sort _root_.Go.Proofs.Tryz
structure dj(w:World)(S:List Nat)(cf:CF)(s:ey):Prop where
 p:kV w S 1 (.slice s.p.A cf.ag.length s.p.c) cf.ag.length (cf.ag.map fun n=>Value.int .i64 n)
 r:kV w S 19 (.slice s.r.A cf.ae.length s.r.c) cf.ae.length (cf.ae.flatMap Rt.cells)
 l:kV w S 49 (.slice s.l.A cf.rules.length s.l.c) cf.rules.length (cf.rules.flatMap Rl.cells)
 m:kV w S 4 (.slice s.m.A cf.af.length s.m.c) cf.af.length (cf.af.flatMap Me.cells)
 i:kV w S 3 (.slice s.i.A cf.aa.length s.i.c) cf.aa.length (cf.aa.flatMap Mi.cells)
structure da(cf:CF):Prop where
 p:∀n∈cf.ag,mD n
 r:∀n∈cf.ae,n.Wf
 l:∀n∈cf.rules,n.Wf
 m:∀n∈cf.af,n.Wf
 i:∀n∈cf.aa,n.Wf
 d:mD cf.aS
structure fb(cf:CF):Prop where
 p:cf.ag.length≤1000000000
 r:cf.ae.length≤1000000000
 l:cf.rules.length≤1000000000
 m:cf.af.length≤1000000000
 i:cf.aa.length≤1000000000
theorem dj.aG{w w':World}{S:List Nat}{cf:CF}{s:ey}(h:dj w S cf s)(hc:ai S w w'):dj w' S cf s:=⟨h.p.aG hc,h.r.aG hc,h.l.aG hc,h.m.aG hc,h.i.aG hc⟩
def al(cf:CF)(s:ey):List Value:=[.slice s.p.A cf.ag.length s.p.c,.slice s.r.A cf.ae.length s.r.c,.slice s.l.A cf.rules.length s.l.c,.slice s.m.A cf.af.length s.m.c,.slice s.i.A cf.aa.length s.i.c,.int .i64 cf.aS]
def T1(cf:CF):Bs:=MS [] cf.ag cf.ag.length
def T2(cf:CF):Bs:=LA (T1 cf) cf.ae cf.ae.length
def T3(cf:CF):Bs:=MR (T2 cf) cf.af cf.af.length
def T4(cf:CF):Bs:=Cj (T3 cf) cf.aa cf.aa.length
def T5(cf:CF):Bs:=Lz (T4 cf) cf.rules cf.rules.length
def E1(cf:CF):Int:=Na 0 cf.ag cf.ag.length
def E2(cf:CF):Int:=Hu (E1 cf) cf.ae cf.ae.length
def E3(cf:CF):Int:=LC (E2 cf) cf.af cf.af.length
def E4(cf:CF):Int:=uo (E3 cf) cf.aa cf.aa.length
def E5(cf:CF):Int:=OR (E4 cf) cf.rules cf.rules.length
def B1(cf:CF):Bool:=bI false cf.ag.length
def B2(cf:CF):Bool:=bI (B1 cf) cf.ae.length
def B3(cf:CF):Bool:=bI (B2 cf) cf.af.length
def B4(cf:CF):Bool:=bI (B3 cf) cf.aa.length
def B5(cf:CF):Bool:=bI (B4 cf) cf.rules.length
theorem zH{t0:Bs}{ws:Nat→List Bs}:∀n,t0.length≤(tI t0 ws n).length
 | 0=>Nat.le_refl _
 |n+1=>by rw[tI,List.length_append];exact Nat.le_trans (zH n) (Nat.le_add_right _ _)
theorem Pj(cf:CF):T5 cf++eW (iI cf.aS)=eh cf:=by
 unfold eh kC T5 T4 T3 T2 T1 Lz Cj MR LA MS
 rw[zI,zI,zI,zI,zI]
 have app:∀a b:List (List Bs),dd (a++b)=dd a++dd b:=fun a b=>by simp[dd]
 simp only[app,List.nil_append]
 simp[dd]
theorem Po(cf:CF):Fk (E5 cf) cf.aS=lB cf:=by
 unfold lB E5 E4 E3 E2 E1 OR uo LC Hu Na
 rw[Bv,Bv,Bv,Bv,Bv]
theorem JL{b:Sx.aU}{row:Nat→Option Sx.Row}{i j m:Nat}{og:Option Nat}{p:Bool}{tx:Bs}{e:Int}(h:nP row i j og p tx e)(W:World)(β:Sx.Env)(hS:Sx.eF b β W row [i,j]) :
  Calls prog 76 (([.ptr i 0]:List Sx.SV).map (Sx.SV.den β)).toArray W (Sx.aY b β W row m ⟨[i,j],[],[],[],.val (.int .i64 (tx.length:Int)),none⟩):=by
 obtain⟨ht,_⟩:=oV hS h (by simp) (by simp)
 refine(R3 ht).mono fun en w' ⟨he,hw⟩=>.inl ⟨fun p hp=>(by cases hp),β,Sx.du (v:=.int .i64 (tx.length:Int)) rfl rfl he (fun q hq=>(by cases hq)) (by rw[hw];exact ai.refl _ _)⟩
theorem zK{b:Sx.aU}{row:Nat→Option Sx.Row}{i j m:Nat}{og:Option Nat}{p:Bool}{tx:Bs}{e:Int}(h:nP row i j og p tx e)(h0:tx≠[])(W:World)(β:Sx.Env)(hS:Sx.eF b β W row [i,j]) :
  Calls prog 77 (([.ptr i 0]:List Sx.SV).map (Sx.SV.den β)).toArray W (Sx.aY b β W row m ⟨[i,j],[],[i,j],[],.val (ab tx),none⟩):=by
 obtain⟨ht,_⟩:=oV hS h (by simp) (by simp)
 refine(Il ht h0).mono fun en w' ⟨he,hc⟩=>.inl ⟨fun p hp=>(by cases hp),β,Sx.du (v:=ab tx) rfl rfl he (fun q hq=>(by cases hq)) (hc.mono fun k hk=>.inl ?_)⟩
 show k∈([]++[i,j]).filterMap (Sx.cE β row)
 rcases List.mem_cons.1 hk with rfl|hk
 ·refine List.mem_filterMap.2 ⟨i,by simp,?_⟩
  unfold Sx.cE
  rw[h.b]
  exact nT
 ·refine List.mem_filterMap.2 ⟨j,by simp,?_⟩
  unfold Sx.cE
  rw[h.o]
  show(β.a j).map (·.block)=some k
  simpa using hk
theorem P9(t:Bs)(ws:List Bs):t++eW ws≠[]:=by unfold eW;simp
abbrev pB(w:World):Sx.aU:=⟨w,[],fun _ _=>False⟩
abbrev pL(cf:CF)(s:ey)(p:Bool)(j:Nat)(e:Int)(mem:List Sx.Row):List Sx.Row:=⟨46,.ak (al cf s)⟩::ji none [.eG p 1 0,.own j,.val (.int .i64 e)]::mem
abbrev pO(t:Bs):Sx.Row:=⟨5,.own 1 t.length (qT t)⟩
def MY(cf:CF)(s:ey):List Sx.Loop:=[.mk Nat 0 (fun i=>i≤cf.ag.length) (fun i=>CS s.p.A cf.ag.length s.p.c i) (fun i=>M6 (al cf s) false [] 0 cf.ag i) (fun i=>i+1) (fun i=>cf.ag.length - i) Unit (fun _=>True) (fun _=>[(1,.ptr 0 0),(4,.ptr 1 0)]) (fun _=>M6 (al cf s) false [] 0 cf.ag cf.ag.length) (fun _=>()),
 .mk Nat 0 (fun i=>i≤cf.ae.length) (fun i=>CR s.r.A cf.ae.length s.r.c i) (fun i=>M5 (al cf s) (B1 cf) (T1 cf) (E1 cf) cf.ae i) (fun i=>i+1) (fun i=>cf.ae.length - i) Unit (fun _=>True) (fun _=>[(1,.ptr 0 0),(4,.ptr 1 0)]) (fun _=>M5 (al cf s) (B1 cf) (T1 cf) (E1 cf) cf.ae cf.ae.length) (fun _=>()),
 .mk Nat 0 (fun i=>i≤cf.af.length) (fun i=>CQ s.m.A cf.af.length s.m.c i) (fun i=>M4 (al cf s) (B2 cf) (T2 cf) (E2 cf) cf.af i) (fun i=>i+1) (fun i=>cf.af.length - i) Unit (fun _=>True) (fun _=>[(1,.ptr 0 0),(4,.ptr 1 0)]) (fun _=>M4 (al cf s) (B2 cf) (T2 cf) (E2 cf) cf.af cf.af.length) (fun _=>()),
 .mk Nat 0 (fun i=>i≤cf.aa.length) (fun i=>yq s.i.A cf.aa.length s.i.c i) (fun i=>M3 (al cf s) (B3 cf) (T3 cf) (E3 cf) cf.aa i) (fun i=>i+1) (fun i=>cf.aa.length - i) Unit (fun _=>True) (fun _=>[(1,.ptr 0 0),(4,.ptr 1 0)]) (fun _=>M3 (al cf s) (B3 cf) (T3 cf) (E3 cf) cf.aa cf.aa.length) (fun _=>()),
 .mk Nat 0 (fun i=>i≤cf.rules.length) (fun i=>CP s.l.A cf.rules.length s.l.c i) (fun i=>M1 (al cf s) (B4 cf) (T4 cf) (E4 cf) cf.rules i) (fun i=>i+1) (fun i=>cf.rules.length - i) Unit (fun _=>True) (fun _=>[(1,.ptr 0 0),(4,.ptr 1 0)]) (fun _=>M1 (al cf s) (B4 cf) (T4 cf) (E4 cf) cf.rules cf.rules.length) (fun _=>())]
structure Lp(w:World)(cf:CF)(s:ey)(TT:Bs)(F:List Bs)(b bl:Bool)(E6 E7:Int):Prop where
 hl:eb w
 r:dj w [] cf s
 w:da cf
 f:fb cf
 T:TT=T5 cf++eW F
 B:TT.length≤140737488355328
 d:bl=decide (TT.length≤65536)
 e6:E6=aI b 2 (E5 cf)
 e7:E7=aI bl 4 E6
section
variable{w:World}{cf:CF}{s:ey}{TT:Bs}{F:List Bs}{b bl:Bool}{E6 E7:Int}
theorem Lp.g(I:Lp w cf s TT F b bl E6 E7):(T1 cf).length≤140737488355328∧(T2 cf).length≤140737488355328∧(T3 cf).length≤140737488355328∧(T4 cf).length≤140737488355328∧(T5 cf).length≤140737488355328:=by
 have g5:(T5 cf).length≤140737488355328:=by have hB:=I.B;rw[I.T,List.length_append]at hB;omega
 have g4:(T4 cf).length≤140737488355328:=Nat.le_trans (zH _) g5
 have g3:(T3 cf).length≤140737488355328:=Nat.le_trans (zH _) g4
 have g2:(T2 cf).length≤140737488355328:=Nat.le_trans (zH _) g3
 exact⟨Nat.le_trans (zH _) g2,g2,g3,g4,g5⟩
theorem Lp.c168(I:Lp w cf s TT F b bl E6 E7):Value.bool (decide ((TT.length:Int)≤65536))=.bool bl:=by rw[I.d,show decide ((TT.length:Int)≤65536)=decide (TT.length≤65536)from by rw[decide_eq_decide];omega]
theorem OG(w:World)(cf:CF)(s:ey)(p:Bool)(j:Nat){e e':Int}{b:Bool}{code:Int}(tx:Bs)(mem:List Sx.Row)(m:Nat)(he:e'=aI b code e)(rj:Sx.rowAt (pL cf s p j e mem) j=some (pO tx))(W:World)(β:Sx.Env)(hS:Sx.eF (pB w) β W (Sx.rowAt (pL cf s p j e mem)) [1,j]):Calls prog 69 (([.ptr 1 0,.val (.bool b),.val (.int .i64 code)]:List Sx.SV).map (Sx.SV.den β)).toArray W (Sx.aY (pB w) β W (Sx.rowAt (pL cf s p j e mem)) m (jD [] 1 j none p e')):=by
 rw[he];exact qU b code ⟨rfl,rj⟩ W β hS
theorem R2(w:World)(cf:CF)(s:ey)(p:Bool){e:Int}(tx:Bs)(mem:List Sx.Row)(k m:Nat)(ws:List Bs)(hT:TT=tx++eW ws)(rj:Sx.rowAt (pL cf s p 2 e mem) 2=some (pO tx))(hm:2 < m)(rk:Sx.rowAt (pL cf s p 2 e mem) k=some ⟨9,.own 1 ws.length (strs ws)⟩)(hn:ws.length≤1000000)(hl:TT.length≤140737488355328)(W:World)(β:Sx.Env)(hS:Sx.eF (pB w) β W (Sx.rowAt (pL cf s p 2 e mem)) [1,2,k]) :
  Calls prog 70 (([.ptr 1 0,.own k]:List Sx.SV).map (Sx.SV.den β)).toArray W (Sx.aY (pB w) β W (Sx.rowAt (pL cf s p 2 e mem)) m (zx [k] 1 2 m none TT e (.tuple #[]))):=by
 subst hT
 exact xo (p:=p) ws ⟨rfl,rj⟩ (by omega) hm rk hn (by rw[←List.length_append];exact hl) W β hS
theorem Tk(w:World)(cf:CF)(s:ey)(j:Nat)(e:Int)(tx:Bs)(mem:List Sx.Row)(m:Nat)(rj:Sx.rowAt (pL cf s true j e mem) j=some (pO tx))(W:World)(β:Sx.Env)(hS:Sx.eF (pB w) β W (Sx.rowAt (pL cf s true j e mem)) [1,j]) :
  Calls prog 76 (([.ptr 1 0]:List Sx.SV).map (Sx.SV.den β)).toArray W (Sx.aY (pB w) β W (Sx.rowAt (pL cf s true j e mem)) m ⟨[1,j],[],[],[],.val (.int .i64 (tx.length:Int)),none⟩):=JL (p:=true) ⟨rfl,rj⟩ W β hS
theorem SX(w:World)(cf:CF)(s:ey)(j:Nat)(e:Int)(mem:List Sx.Row)(m:Nat){x:Bs}{ws:List Bs}(hT:TT=x++eW ws)(rj:Sx.rowAt (pL cf s true j e mem) j=some (pO TT))(W:World)(β:Sx.Env)(hS:Sx.eF (pB w) β W (Sx.rowAt (pL cf s true j e mem)) [1,j]) :
  Calls prog 77 (([.ptr 1 0]:List Sx.SV).map (Sx.SV.den β)).toArray W (Sx.aY (pB w) β W (Sx.rowAt (pL cf s true j e mem)) m ⟨[1,j],[],[1,j],[],.val (ab TT),none⟩):=zK (p:=true) ⟨rfl,rj⟩ (by rw[hT];exact P9 _ _) W β hS
theorem Td(cf:CF)(s:ey):CS s.p.A cf.ag.length s.p.c 0=CS s.p.A cf.ag.length s.p.c 0∧M6 (al cf s) false [] 0 cf.ag 0=M6 (al cf s) false [] 0 cf.ag 0:=⟨rfl,rfl⟩
theorem Tc(cf:CF)(s:ey):CR s.r.A cf.ae.length s.r.c 0=CR s.r.A cf.ae.length s.r.c 0∧M5 (al cf s) (B1 cf) (T1 cf) (E1 cf) cf.ae 0=M5 (al cf s) (B1 cf) (T1 cf) (E1 cf) cf.ae 0:=⟨rfl,rfl⟩
theorem Tb(cf:CF)(s:ey):CQ s.m.A cf.af.length s.m.c 0=CQ s.m.A cf.af.length s.m.c 0∧M4 (al cf s) (B2 cf) (T2 cf) (E2 cf) cf.af 0=M4 (al cf s) (B2 cf) (T2 cf) (E2 cf) cf.af 0:=⟨rfl,rfl⟩
theorem Ta(cf:CF)(s:ey):yq s.i.A cf.aa.length s.i.c 0=yq s.i.A cf.aa.length s.i.c 0∧M3 (al cf s) (B3 cf) (T3 cf) (E3 cf) cf.aa 0=M3 (al cf s) (B3 cf) (T3 cf) (E3 cf) cf.aa 0:=⟨rfl,rfl⟩
theorem S9(cf:CF)(s:ey):CP s.l.A cf.rules.length s.l.c 0=CP s.l.A cf.rules.length s.l.c 0∧M1 (al cf s) (B4 cf) (T4 cf) (E4 cf) cf.rules 0=M1 (al cf s) (B4 cf) (T4 cf) (E4 cf) cf.rules 0:=⟨rfl,rfl⟩
def pl(na:Bool)(L:List Bs)(l:List Sx.Row):List Sx.Row:=Sx.an::(ra na L++l)
def LB(L:List Bs):Sx.Row:=⟨9,.own 1 (1+L.length) (strs [bL]++sL L)⟩
theorem PY(L:List Bs):LB L=⟨9,.own 1 (bL::L).length (strs (bL::L))⟩:=by
 unfold LB
 rw[El,List.length_cons,Nat.add_comm];rfl
def pk(na:Bool):Nat:=match na with
 |true=>4
 |false=>5
def RR(na:Bool)(w:World)(cf:CF)(s:ey)(e:Int)(L:List Bs):Prop:=match na with
 |true=>∀W,ai [] w W→Calls prog 75 #[.int .i64 cf.aS,.int .i64 0] W (Rn W (.slice none 0 0))
 |false=>∀W β,Sx.eF (pB w) β W (Sx.rowAt (pL cf s (B5 cf) 2 e [pO (T5 cf),⟨9,.own 1 1 (strs [bL])⟩])) []→Calls prog 75 (([.val (.int .i64 cf.aS),.val (.int .i64 0)]:List Sx.SV).map (Sx.SV.den β)).toArray W (Sx.aY (pB w) β W (Sx.rowAt (pL cf s (B5 cf) 2 e [pO (T5 cf),⟨9,.own 1 1 (strs [bL])⟩])) 4 (Lk 4 L.length (strs L)))
def RT(na:Bool)(L:List Bs):Sx.Hint:=match na with
 |true=>.call (.slice none 0 0)
 |false=>.aq (Lk 4 L.length (strs L))
def RQ(na:Bool)(w:World)(L:List Bs):Prop:=match na with
 |true=>(∀W,ai [] w W→∃A c,Value.slice none 0 0=.slice A 0 c∧(0 < ([]:List Value).length→∃ad,A=some ad∧∀(j:Nat) (u:Value),([]:List Value)[j]?=some u→W.cell? (ad.add j)=some u))∧([]:List Value).length=0*1∧(∀u∈([]:List Value),u.oneCell'=true)∧1+0≤maxLen∧(1+0)*16≤140737488355328
 |false=>True∧(sL L).length=L.length*1∧(∀u∈sL L,u.oneCell'=true)∧1+L.length≤maxLen∧(1+L.length)*16≤140737488355328
def rz(ze:Bool)(TT:Bs)(E7:Int):Bs×Int:=match ze with
 |true=>(TT,0)
 |false=>([],E7)
theorem Ge{L:List Bs}{na d1 d2 d4 ze:Bool}(I:Lp w cf s TT (bL::L) (bP d1 (bP d2 d4)) bl E6 E7)(ha:aM cf.aS 0=L)(hL:L.length≤10)(hna:decide (L=[])=na)(h1:(cf.aS==1)=d1)(h2:(cf.aS==2)=d2)(h4:(cf.aS==4)=d4)(hz:(E7==0)=ze):Calls prog 28 #[.agg (al cf s).toArray] w (Sx.cq (pB w) (Q2 (rz ze TT E7))):=by
 obtain⟨g1,g2,g3,g4,g5⟩:=I.g
 have jo:=RE I.hl (al cf s) cf.ag s.p.A s.p.c I.r.p I.w.p I.f.p false [] 0 g1 (rz ze TT E7)
 have rd7:=RD I.hl (al cf s) cf.ae s.r.A s.r.c I.r.r I.w.r I.f.r (B1 cf) (T1 cf) (E1 cf) g2 (rz ze TT E7)
 have rd12:=RC I.hl (al cf s) cf.af s.m.A s.m.c I.r.m I.w.m I.f.m (B2 cf) (T2 cf) (E2 cf) g3 (rz ze TT E7)
 have rd17:=RB I.hl (al cf s) cf.aa s.i.A s.i.c I.r.i I.w.i I.f.i (B3 cf) (T3 cf) (E3 cf) g4 (rz ze TT E7)
 have rd22:=Rz I.hl (al cf s) cf.rules s.l.A s.l.c I.r.l I.w.l I.f.l (B4 cf) (T4 cf) (E4 cf) g5 (rz ze TT E7)
 have c144:Value.bool (cf.aS==1)=.bool d1:=congrArg _ h1
 have c148:Value.bool (cf.aS==2)=.bool d2:=congrArg _ h2
 have c153:Value.bool (cf.aS==4)=.bool d4:=congrArg _ h4
 have c155:=OG w cf s (B5 cf) 2 (T5 cf) [pO (T5 cf)] 3 I.e6 rfl
 have hlan2:∀W,ai [] w W→eb W:=fun W hW=>I.hl.df hW
 have c160:RR na w cf s E6 L:=by
  cases na with
  |true=>exact fun W hW=>Cc (b:=pB w) (ha.trans (of_decide_eq_true hna)) (by omega) (by omega) hlan2 W hW
  |false=>exact fun W β hS=>Cb (m:=4) ha (of_decide_eq_false hna) (by omega) (by omega) hlan2 W β hS
 have c161:RQ na w L:=by
  cases na with
  |true=>exact FD (ai [] w) 1 (by decide)
  |false=>exact(show True∧(sL L).length=L.length*1∧(∀u∈sL L,u.oneCell'=true)∧1+L.length≤maxLen∧(1+L.length)*16≤140737488355328 from by rw[El];exact zo L 1 L.length rfl (by omega))
 have rk:Sx.rowAt (pL cf s (B5 cf) 2 E6 (pO (T5 cf)::pl na L [LB L])) (pk na)=some (LB L):=by cases na<;>rfl
 have rj:Sx.rowAt (pL cf s true (pk na+1) E6 (Sx.an::pl na L [LB L,pO TT])) (pk na+1)=some (pO TT):=by cases na<;>rfl
 have rj2:Sx.rowAt (pL cf s true (pk na+1) E7 (Sx.an::pl na L [LB L,pO TT])) (pk na+1)=some (pO TT):=by cases na<;>rfl
 have c162:=R2 w cf s (B5 cf) (e:=E6) (T5 cf) (pO (T5 cf)::pl na L [LB L]) (pk na) (pk na+1) (bL::L) I.T rfl (by cases na<;>decide) (rk.trans (congrArg some (PY L))) (by rw[List.length_cons];omega) I.B
 have c167:=Tk w cf s (pk na+1) E6 TT (Sx.an::pl na L [LB L,pO TT]) (pk na+2) rj
 have c169:=OG w cf s true (pk na+1) TT (Sx.an::pl na L [LB L,pO TT]) (pk na+2) I.e7 rj
 have c174:Value.bool (E7 !=0)=.bool (!ze):=congrArg (fun b=>Value.bool (!b)) hz
 have c182:=SX w cf s (pk na+1) E7 (Sx.an::pl na L [LB L,pO TT]) (pk na+2) I.T rj2
 have z25:([.val (ab (rz ze TT E7).1),.val (.int .i64 (rz ze TT E7).2)]:List Sx.SV)=[.val (ab (rz ze TT E7).1),.val (.int .i64 (rz ze TT E7).2)]:=rfl
 have CH:=Sx.t2 (Nat.zero_le cf.ag.length) (Td cf s) (And.intro jo (fun(_:Unit) (_:True)=>(Sx.t2 (Nat.zero_le cf.ae.length) (Tc cf s) (And.intro rd7 (fun(_:Unit) (_:True)=>(Sx.t2 (Nat.zero_le cf.af.length) (Tb cf s) (And.intro rd12 (fun(_:Unit) (_:True)=>(Sx.t2 (Nat.zero_le cf.aa.length) (Ta cf s) (And.intro rd17 (fun(_:Unit) (_:True)=>(Sx.t2 (Nat.zero_le cf.rules.length) (S9 cf s) (And.intro rd22 (fun(_:Unit) (_:True)=>(And.intro c144 (qP.mk (b:=d1) (fun _=>c148) (qP.mk (b:=d1||d2) (fun _=>c153) (Sx.t8 c155 c160 c161 c162 c167 I.c168 c169 c174 (qP.mk (b:=!ze) (fun _=>c182) z25)))))))))))))))))))
 refine Sx.aZ (args:=[.val (.agg (al cf s).toArray)]) (eo w) [(18,.uH [(0,0,0),(1,5,1)]),(144,.is (.bool d1)),(148,.is (.bool d2)),(153,.is (.bool d4)),(155,.aq (jD [] 1 2 none (B5 cf) E6)),(157,.iG 9 1),(160,RT na L),(161,.app 0 []),(162,.aq (zx [pk na] 1 2 (pk na+1) none TT E6 (.tuple #[]))),(167,.aq ⟨[1,pk na+1],[],[],[],.val (.int .i64 (TT.length:Int)),none⟩),(168,.is (.bool bl)),(169,.aq (jD [] 1 (pk na+1) none true E7)),(174,.is (.bool (!ze))),(182,.aq ⟨[1,pk na+1],[],[1,pk na+1],[],.val (ab TT),none⟩)] (MY cf s) (by kernel_rfl) func28 rfl (cn rfl) rfl ?_
 clear I ha hL h1 h2 h4 hz jo rd7 rd12 rd17 rd22 c144 c148 c153 c155 c160 c161 rk rj rj2 c162 c167 c169 c174 c182 z25 g1 g2 g3 g4 g5
 cases na with
 |true=>
  obtain rfl:L=[]:=of_decide_eq_true hna
  cases d1<;>cases d2<;>cases d4<;>cases ze<;>exact Eq.mp (by kernel_rfl) CH
 |false=>cases d1<;>cases d2<;>cases d4<;>cases ze<;>exact Eq.mp (by kernel_rfl) CH
end
theorem dj.sub{w:World}{S S':List Nat}{cf:CF}{s:ey}(h:dj w S cf s)(hs:∀k∈S',k∈S∨w.heap.size≤k):dj w S' cf s:=⟨h.p.sub hs,h.r.sub hs,h.l.sub hs,h.m.sub hs,h.i.sub hs⟩
theorem Ev{w:World}(hlan:eb w)(cf:CF)(s:ey)(h:dj w [] cf s)(hw:da cf)(hf:fb cf)(hB:(eh cf).length≤140737488355328):Calls prog 28 #[.agg (al cf s).toArray] w (Rn w (.tuple #[ab (dG cf).1,.int .i64 (dG cf).2])):=by
 have hT:eh cf=T5 cf++eW (bL::aM cf.aS 0):=(Pj cf).symm
 have hE:rK cf=aI (decide ((eh cf).length≤65536)) 4 (aI (bP (cf.aS==1) (bP (cf.aS==2) (cf.aS==4))) 2 (E5 cf)):=by
  unfold rK
  rw[←Po cf]
  rfl
 have hp:dG cf=rz (rK cf==0) (eh cf) (rK cf):=by
  unfold dG rz
  by_cases h0:rK cf=0
  ·rw[if_pos h0,h0];rfl
  ·rw[if_neg h0,beq_eq_false_iff_ne.2 h0]
 have hL:(aM cf.aS 0).length≤10:=by
  unfold aM
  repeat' split
  all_goals simp
 have main:=Ge (w:=w) (cf:=cf) (s:=s) (TT:=eh cf) (bl:=decide ((eh cf).length≤65536)) (E6:=aI (bP (cf.aS==1) (bP (cf.aS==2) (cf.aS==4))) 2 (E5 cf)) (E7:=rK cf) ⟨hlan,h,hw,hf,hT,hB,rfl,rfl,hE⟩ rfl hL rfl rfl rfl rfl rfl
 rw[←hp]at main
 refine main.mono fun en w' hp=>?_
 rcases hp with⟨β,l,mem,hl,he,hR⟩ | ⟨_,_,hf,_⟩
 ·have hl:l=[.val (ab (dG cf).1),.val (.int .i64 (dG cf).2)]:=hl
  subst hl
  exact⟨he,hR.aG⟩
 ·exact hf.elim
end Go.Proofs.YtnncigmpcdehnaaGreatDoor
