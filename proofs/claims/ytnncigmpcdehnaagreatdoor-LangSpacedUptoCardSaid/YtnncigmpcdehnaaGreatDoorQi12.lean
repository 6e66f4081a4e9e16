import Derived.Test.YtnncigmpcdehnaaGreatDoorQi11
import Derived.Lib.IfaceEq
import Derived.Barred
open List renaming mem_singleton→VE,length_append→VF,length_cons→VH,mem_cons→VJ,mem_cons_of_mem→VK,cons_append→VM,nil_append→VN,foldl_cons→VR,getElem?_eq_getElem→VY,count_append→VZ,not_mem_nil→Wa,mem_append→Wb,mem_filterMap→Wc,append_assoc→Wd,getElem?_append_right→We,getD_eq_getElem?_getD→Wg,map_cons→Wi,getElem?_eq_none→Wj,all_eq_true→Wn,mem_map→Wq
open Go.Value renaming bool→VG,int→VT,agg→Wm,slice→Wp
open And renaming intro→VI
open Nat renaming zero_le→VL,le_trans→VW,add_mul→Wk,le_add_right→Wo,add_zero→Wr,add_comm→Ws,le_refl→Wt
open Bool renaming eq_false_iff→VO,and_eq_true→VP,or_eq_true→VU
open Int renaming toNat_of_nonneg→VQ
open Eq renaming mp→VS
open Go.Result renaming ok→VV
open Option renaming some→VX,map_eq_some_iff→Wh
namespace Go.Proofs.YtnncigmpcdehnaaGreatDoor
set_option maxRecDepth 100000
open Go Go.RowKit Go.Lib Go.Sort _root_.Go.Proofs.Tryz
structure gX(w:World)(S:List Nat)(cf:CF)(s:fN):Prop where
 p:lu w S 1 (.slice s.p.A cf.ag.length s.p.c) cf.ag.length (cf.ag.map fun n=>VT .i64 n)
 r:lu w S 19 (.slice s.r.A cf.ae.length s.r.c) cf.ae.length (cf.ae.flatMap Rt.cells)
 l:lu w S 49 (.slice s.l.A cf.rules.length s.l.c) cf.rules.length (cf.rules.flatMap Rl.cells)
 m:lu w S 4 (.slice s.m.A cf.af.length s.m.c) cf.af.length (cf.af.flatMap Me.cells)
 i:lu w S 3 (.slice s.i.A cf.aa.length s.i.c) cf.aa.length (cf.aa.flatMap Mi.cells)
structure iq(cf:CF):Prop where
 p:∀n∈cf.ag,nM n
 r:∀n∈cf.ae,n.Wf
 l:∀n∈cf.rules,n.Wf
 m:∀n∈cf.af,n.Wf
 i:∀n∈cf.aa,n.Wf
 d:nM cf.aR
structure jA(cf:CF):Prop where
 p:cf.ag.length≤1000000000
 r:cf.ae.length≤1000000000
 l:cf.rules.length≤1000000000
 m:cf.af.length≤1000000000
 i:cf.aa.length≤1000000000
theorem gX.aD{w w':World}{S:List Nat}{cf:CF}{s:fN}(h:gX w S cf s)(hc:ah S w w'):gX w' S cf s:=⟨h.p.aD hc,h.r.aD hc,h.l.aD hc,h.m.aD hc,h.i.aD hc⟩
def aI(cf:CF)(s:fN):List Value:=[.slice s.p.A cf.ag.length s.p.c,.slice s.r.A cf.ae.length s.r.c,.slice s.l.A cf.rules.length s.l.c,.slice s.m.A cf.af.length s.m.c,.slice s.i.A cf.aa.length s.i.c,.int .i64 cf.aR]
def T1(cf:CF):Bs:=No [] cf.ag cf.ag.length
def T2(cf:CF):Bs:=Mb (T1 cf) cf.ae cf.ae.length
def T3(cf:CF):Bs:=Nn (T2 cf) cf.af cf.af.length
def T4(cf:CF):Bs:=Ma (T3 cf) cf.aa cf.aa.length
def T5(cf:CF):Bs:=LZ (T4 cf) cf.rules cf.rules.length
def E1(cf:CF):Int:=Nw 0 cf.ag cf.ag.length
def E2(cf:CF):Int:=Ig (E1 cf) cf.ae cf.ae.length
def E3(cf:CF):Int:=Md (E2 cf) cf.af cf.af.length
def E4(cf:CF):Int:=Gh (E3 cf) cf.aa cf.aa.length
def E5(cf:CF):Int:=PB (E4 cf) cf.rules cf.rules.length
def B1(cf:CF):Bool:=bI false cf.ag.length
def B2(cf:CF):Bool:=bI (B1 cf) cf.ae.length
def B3(cf:CF):Bool:=bI (B2 cf) cf.af.length
def B4(cf:CF):Bool:=bI (B3 cf) cf.aa.length
def B5(cf:CF):Bool:=bI (B4 cf) cf.rules.length
theorem yX{t0:Bs}{ws:Nat→List Bs}:∀n,t0.length≤(tI t0 ws n).length
 | 0=>Wt _
 |n+1=>by rw[tI,VF];exact VW (yX n) (Wo _ _)
theorem TG(cf:CF):T5 cf++fL (gW cf.aR)=ey cf:=by
 unfold ey ju T5 T4 T3 T2 T1 LZ Ma Nn Mb No;rw[yY,yY,yY,yY,yY];have app:∀a b:List (List Bs),cL (a++b)=cL a++cL b:=fun a b=>by simp[cL]
 simp only[app,VN];simp[cL]
theorem TJ(cf:CF):KT (E5 cf) cf.aR=rA cf:=by unfold rA E5 E4 E3 E2 E1 PB Gh Md Ig Nw;rw[AS,AS,AS,AS,AS]
theorem Kh{b:Sx.aY}{row:Nat→Option Sx.Row}{i j m:Nat}{og:Option Nat}{p:Bool}{tx:Bs}{e:Int}(h:mP row i j og p tx e)(W:World)(β:Sx.Env)(hS:Sx.dS b β W row [i,j]) :
  Calls prog 76 (([.ptr i 0]:List Sx.SV).map (Sx.SV.den β)).toArray W (Sx.br b β W row m ⟨[i,j],[],[],[],.val (.int .i64 (tx.length:Int)),none⟩):=by
 obtain⟨ht,_⟩:=nY hS h (by simp) (by simp);refine(Tc ht).mono fun en w' ⟨he,hw⟩=>.inl ⟨fun p hp=>(by cases hp),β,Sx.dx (v:=.int .i64 (tx.length:Int)) rfl rfl he (fun q hq=>(by cases hq)) (by rw[hw];exact ah.refl _ _)⟩
theorem zd{b:Sx.aY}{row:Nat→Option Sx.Row}{i j m:Nat}{og:Option Nat}{p:Bool}{tx:Bs}{e:Int}(h:mP row i j og p tx e)(h0:tx≠[])(W:World)(β:Sx.Env)(hS:Sx.dS b β W row [i,j]) :
  Calls prog 77 (([.ptr i 0]:List Sx.SV).map (Sx.SV.den β)).toArray W (Sx.br b β W row m ⟨[i,j],[],[i,j],[],.val (ab tx),none⟩):=by
 obtain⟨ht,_⟩:=nY hS h (by simp) (by simp);refine(IE ht h0).mono fun en w' ⟨he,hc⟩=>.inl ⟨fun p hp=>(by cases hp),β,Sx.dx (v:=ab tx) rfl rfl he (fun q hq=>(by cases hq)) (hc.mono fun k hk=>.inl ?_)⟩;show k∈([]++[i,j]).filterMap (Sx.cg β row);rcases VJ.1 hk with rfl|hk
 ·refine Wc.2 ⟨i,by simp,?_⟩
  unfold Sx.cg;rw[h.b];exact mW
 ·refine Wc.2 ⟨j,by simp,?_⟩
  unfold Sx.cg;rw[h.o];show(β.a j).map (·.block)=some k;simpa using hk
theorem QP(t:Bs)(ws:List Bs):t++fL ws≠[]:=by unfold fL;simp
abbrev pB(w:World):Sx.aY:=⟨w,[],fun _ _=>False⟩
abbrev pL(cf:CF)(s:fN)(p:Bool)(j:Nat)(e:Int)(mem:List Sx.Row):List Sx.Row:=⟨46,.ai (aI cf s)⟩::gY none [.dQ p 1 0,.own j,.val (.int .i64 e)]::mem
abbrev pO(t:Bs):Sx.Row:=⟨5,.own 1 t.length (qc t)⟩
def Ns(cf:CF)(s:fN):List Sx.Loop:=[.mk Nat 0 (fun i=>i≤cf.ag.length) (fun i=>Gg s.p.A cf.ag.length s.p.c i) (fun i=>QE (aI cf s) false [] 0 cf.ag i) (fun i=>i+1) (fun i=>cf.ag.length - i) Unit (fun _=>True) (fun _=>[(1,.ptr 0 0),(4,.ptr 1 0)]) (fun _=>QE (aI cf s) false [] 0 cf.ag cf.ag.length) (fun _=>()),
 .mk Nat 0 (fun i=>i≤cf.ae.length) (fun i=>Gf s.r.A cf.ae.length s.r.c i) (fun i=>QD (aI cf s) (B1 cf) (T1 cf) (E1 cf) cf.ae i) (fun i=>i+1) (fun i=>cf.ae.length - i) Unit (fun _=>True) (fun _=>[(1,.ptr 0 0),(4,.ptr 1 0)]) (fun _=>QD (aI cf s) (B1 cf) (T1 cf) (E1 cf) cf.ae cf.ae.length) (fun _=>()),
 .mk Nat 0 (fun i=>i≤cf.af.length) (fun i=>Ge s.m.A cf.af.length s.m.c i) (fun i=>QC (aI cf s) (B2 cf) (T2 cf) (E2 cf) cf.af i) (fun i=>i+1) (fun i=>cf.af.length - i) Unit (fun _=>True) (fun _=>[(1,.ptr 0 0),(4,.ptr 1 0)]) (fun _=>QC (aI cf s) (B2 cf) (T2 cf) (E2 cf) cf.af cf.af.length) (fun _=>()),
 .mk Nat 0 (fun i=>i≤cf.aa.length) (fun i=>Gd s.i.A cf.aa.length s.i.c i) (fun i=>QB (aI cf s) (B3 cf) (T3 cf) (E3 cf) cf.aa i) (fun i=>i+1) (fun i=>cf.aa.length - i) Unit (fun _=>True) (fun _=>[(1,.ptr 0 0),(4,.ptr 1 0)]) (fun _=>QB (aI cf s) (B3 cf) (T3 cf) (E3 cf) cf.aa cf.aa.length) (fun _=>()),
 .mk Nat 0 (fun i=>i≤cf.rules.length) (fun i=>Gc s.l.A cf.rules.length s.l.c i) (fun i=>QA (aI cf s) (B4 cf) (T4 cf) (E4 cf) cf.rules i) (fun i=>i+1) (fun i=>cf.rules.length - i) Unit (fun _=>True) (fun _=>[(1,.ptr 0 0),(4,.ptr 1 0)]) (fun _=>QA (aI cf s) (B4 cf) (T4 cf) (E4 cf) cf.rules cf.rules.length) (fun _=>())]
structure LQ(w:World)(cf:CF)(s:fN)(TT:Bs)(F:List Bs)(b bl:Bool)(E6 E7:Int):Prop where
 hl:dD w
 r:gX w [] cf s
 w:iq cf
 f:jA cf
 T:TT=T5 cf++fL F
 B:TT.length≤140737488355328
 d:bl=decide (TT.length≤65536)
 e6:E6=aO b 2 (E5 cf)
 e7:E7=aO bl 4 E6
section
variable{w:World}{cf:CF}{s:fN}{TT:Bs}{F:List Bs}{b bl:Bool}{E6 E7:Int}
theorem LQ.g(I:LQ w cf s TT F b bl E6 E7):(T1 cf).length≤140737488355328∧(T2 cf).length≤140737488355328∧(T3 cf).length≤140737488355328∧(T4 cf).length≤140737488355328∧(T5 cf).length≤140737488355328:=by
 have g5:(T5 cf).length≤140737488355328:=by have hB:=I.B;rw[I.T,VF]at hB;omega
 have g4:(T4 cf).length≤140737488355328:=VW (yX _) g5;have g3:(T3 cf).length≤140737488355328:=VW (yX _) g4;have g2:(T2 cf).length≤140737488355328:=VW (yX _) g3;exact⟨VW (yX _) g2,g2,g3,g4,g5⟩
theorem LQ.c168(I:LQ w cf s TT F b bl E6 E7):VG (decide ((TT.length:Int)≤65536))=.bool bl:=by rw[I.d,show decide ((TT.length:Int)≤65536)=decide (TT.length≤65536)from by rw[decide_eq_decide];omega]
theorem Pq(w:World)(cf:CF)(s:fN)(p:Bool)(j:Nat){e e':Int}{b:Bool}{code:Int}(tx:Bs)(mem:List Sx.Row)(m:Nat)(he:e'=aO b code e)(rj:Sx.rowAt (pL cf s p j e mem) j=some (pO tx))(W:World)(β:Sx.Env)(hS:Sx.dS (pB w) β W (Sx.rowAt (pL cf s p j e mem)) [1,j]):Calls prog 69 (([.ptr 1 0,.val (.bool b),.val (.int .i64 code)]:List Sx.SV).map (Sx.SV.den β)).toArray W (Sx.br (pB w) β W (Sx.rowAt (pL cf s p j e mem)) m (jN [] 1 j none p e')):=by rw[he];exact qd b code ⟨rfl,rj⟩ W β hS
theorem Ta(w:World)(cf:CF)(s:fN)(p:Bool){e:Int}(tx:Bs)(mem:List Sx.Row)(k m:Nat)(ws:List Bs)(hT:TT=tx++fL ws)(rj:Sx.rowAt (pL cf s p 2 e mem) 2=some (pO tx))(hm:2 < m)(rk:Sx.rowAt (pL cf s p 2 e mem) k=some ⟨9,.own 1 ws.length (strs ws)⟩)(hn:ws.length≤1100000)(hl:TT.length≤140737488355328)(W:World)(β:Sx.Env)(hS:Sx.dS (pB w) β W (Sx.rowAt (pL cf s p 2 e mem)) [1,2,k]) :
  Calls prog 70 (([.ptr 1 0,.own k]:List Sx.SV).map (Sx.SV.den β)).toArray W (Sx.br (pB w) β W (Sx.rowAt (pL cf s p 2 e mem)) m (yU [k] 1 2 m none TT e (.tuple #[]))):=by
 subst hT;exact wu (p:=p) ws ⟨rfl,rj⟩ (by omega) hm rk hn (by rw[←VF];exact hl) W β hS
theorem UA(w:World)(cf:CF)(s:fN)(j:Nat)(e:Int)(tx:Bs)(mem:List Sx.Row)(m:Nat)(rj:Sx.rowAt (pL cf s true j e mem) j=some (pO tx))(W:World)(β:Sx.Env)(hS:Sx.dS (pB w) β W (Sx.rowAt (pL cf s true j e mem)) [1,j]) :
  Calls prog 76 (([.ptr 1 0]:List Sx.SV).map (Sx.SV.den β)).toArray W (Sx.br (pB w) β W (Sx.rowAt (pL cf s true j e mem)) m ⟨[1,j],[],[],[],.val (.int .i64 (tx.length:Int)),none⟩):=Kh (p:=true) ⟨rfl,rj⟩ W β hS
theorem Ue(w:World)(cf:CF)(s:fN)(j:Nat)(e:Int)(mem:List Sx.Row)(m:Nat){x:Bs}{ws:List Bs}(hT:TT=x++fL ws)(rj:Sx.rowAt (pL cf s true j e mem) j=some (pO TT))(W:World)(β:Sx.Env)(hS:Sx.dS (pB w) β W (Sx.rowAt (pL cf s true j e mem)) [1,j]) :
  Calls prog 77 (([.ptr 1 0]:List Sx.SV).map (Sx.SV.den β)).toArray W (Sx.br (pB w) β W (Sx.rowAt (pL cf s true j e mem)) m ⟨[1,j],[],[1,j],[],.val (ab TT),none⟩):=zd (p:=true) ⟨rfl,rj⟩ (by rw[hT];exact QP _ _) W β hS
theorem Us(cf:CF)(s:fN):Gg s.p.A cf.ag.length s.p.c 0=Gg s.p.A cf.ag.length s.p.c 0∧QE (aI cf s) false [] 0 cf.ag 0=QE (aI cf s) false [] 0 cf.ag 0:=⟨rfl,rfl⟩
theorem Ur(cf:CF)(s:fN):Gf s.r.A cf.ae.length s.r.c 0=Gf s.r.A cf.ae.length s.r.c 0∧QD (aI cf s) (B1 cf) (T1 cf) (E1 cf) cf.ae 0=QD (aI cf s) (B1 cf) (T1 cf) (E1 cf) cf.ae 0:=⟨rfl,rfl⟩
theorem Uq(cf:CF)(s:fN):Ge s.m.A cf.af.length s.m.c 0=Ge s.m.A cf.af.length s.m.c 0∧QC (aI cf s) (B2 cf) (T2 cf) (E2 cf) cf.af 0=QC (aI cf s) (B2 cf) (T2 cf) (E2 cf) cf.af 0:=⟨rfl,rfl⟩
theorem Up(cf:CF)(s:fN):Gd s.i.A cf.aa.length s.i.c 0=Gd s.i.A cf.aa.length s.i.c 0∧QB (aI cf s) (B3 cf) (T3 cf) (E3 cf) cf.aa 0=QB (aI cf s) (B3 cf) (T3 cf) (E3 cf) cf.aa 0:=⟨rfl,rfl⟩
theorem Uo(cf:CF)(s:fN):Gc s.l.A cf.rules.length s.l.c 0=Gc s.l.A cf.rules.length s.l.c 0∧QA (aI cf s) (B4 cf) (T4 cf) (E4 cf) cf.rules 0=QA (aI cf s) (B4 cf) (T4 cf) (E4 cf) cf.rules 0:=⟨rfl,rfl⟩
def pl(na:Bool)(L:List Bs)(l:List Sx.Row):List Sx.Row:=Sx.ak::(ra na L++l)
def Mc(L:List Bs):Sx.Row:=⟨9,.own 1 (1+L.length) (strs [bj]++sL L)⟩
theorem Qx(L:List Bs):Mc L=⟨9,.own 1 (bj::L).length (strs (bj::L))⟩:=by unfold Mc;rw[Eb,VH,Ws];rfl
def pk(na:Bool):Nat:=match na with
 |true=>4
 |false=>5
def SQ(na:Bool)(w:World)(cf:CF)(s:fN)(e:Int)(L:List Bs):Prop:=match na with
 |true=>∀W,ah [] w W→Calls prog 75 #[.int .i64 cf.aR,.int .i64 0] W (Rn W (.slice none 0 0))
 |false=>∀W β,Sx.dS (pB w) β W (Sx.rowAt (pL cf s (B5 cf) 2 e [pO (T5 cf),⟨9,.own 1 1 (strs [bj])⟩])) []→Calls prog 75 (([.val (.int .i64 cf.aR),.val (.int .i64 0)]:List Sx.SV).map (Sx.SV.den β)).toArray W (Sx.br (pB w) β W (Sx.rowAt (pL cf s (B5 cf) 2 e [pO (T5 cf),⟨9,.own 1 1 (strs [bj])⟩])) 4 (LJ 4 L.length (strs L)))
def SR(na:Bool)(L:List Bs):Sx.Hint:=match na with
 |true=>.call (.slice none 0 0)
 |false=>.au (LJ 4 L.length (strs L))
def SP(na:Bool)(w:World)(L:List Bs):Prop:=match na with
 |true=>(∀W,ah [] w W→∃A c,Wp none 0 0=.slice A 0 c∧(0 < ([]:List Value).length→∃ad,A=some ad∧∀(j:Nat) (u:Value),([]:List Value)[j]?=some u→W.cell? (ad.add j)=some u))∧([]:List Value).length=0*1∧(∀u∈([]:List Value),u.oneCell'=true)∧1+0≤maxLen∧(1+0)*16≤140737488355328
 |false=>True∧(sL L).length=L.length*1∧(∀u∈sL L,u.oneCell'=true)∧1+L.length≤maxLen∧(1+L.length)*16≤140737488355328
def rz(ze:Bool)(TT:Bs)(E7:Int):Bs×Int:=match ze with
 |true=>(TT,0)
 |false=>([],E7)
theorem Ga{L:List Bs}{na d1 d2 d4 ze:Bool}(I:LQ w cf s TT (bj::L) (bP d1 (bP d2 d4)) bl E6 E7)(ha:aS cf.aR 0=L)(hL:L.length≤10)(hna:decide (L=[])=na)(h1:(cf.aR==1)=d1)(h2:(cf.aR==2)=d2)(h4:(cf.aR==4)=d4)(hz:(E7==0)=ze):Calls prog 28 #[.agg (aI cf s).toArray] w (Sx.cI (pB w) (Ve (rz ze TT E7))):=by
 obtain⟨g1,g2,g3,g4,g5⟩:=I.g;have vq:=SJ I.hl (aI cf s) cf.ag s.p.A s.p.c I.r.p I.w.p I.f.p false [] 0 g1 (rz ze TT E7);have rd7:=SI I.hl (aI cf s) cf.ae s.r.A s.r.c I.r.r I.w.r I.f.r (B1 cf) (T1 cf) (E1 cf) g2 (rz ze TT E7);have rd12:=SH I.hl (aI cf s) cf.af s.m.A s.m.c I.r.m I.w.m I.f.m (B2 cf) (T2 cf) (E2 cf) g3 (rz ze TT E7);have rd17:=SG I.hl (aI cf s) cf.aa s.i.A s.i.c I.r.i I.w.i I.f.i (B3 cf) (T3 cf) (E3 cf) g4 (rz ze TT E7);have rd22:=SF I.hl (aI cf s) cf.rules s.l.A s.l.c I.r.l I.w.l I.f.l (B4 cf) (T4 cf) (E4 cf) g5 (rz ze TT E7);have c144:VG (cf.aR==1)=.bool d1:=congrArg _ h1;have c148:VG (cf.aR==2)=.bool d2:=congrArg _ h2;have c153:VG (cf.aR==4)=.bool d4:=congrArg _ h4;have c155:=Pq w cf s (B5 cf) 2 (T5 cf) [pO (T5 cf)] 3 I.e6 rfl;have hlan2:∀W,ah [] w W→dD W:=fun W hW=>I.hl.cW hW;have c160:SQ na w cf s E6 L:=by
  cases na with
  |true=>exact fun W hW=>BE (b:=pB w) (ha.trans (of_decide_eq_true hna)) (by omega) (by omega) hlan2 W hW
  |false=>exact fun W β hS=>BD (m:=4) ha (of_decide_eq_false hna) (by omega) (by omega) hlan2 W β hS
 have c161:SP na w L:=by
  cases na with
  |true=>exact Fo (ah [] w) 1 (by decide)
  |false=>exact(show True∧(sL L).length=L.length*1∧(∀u∈sL L,u.oneCell'=true)∧1+L.length≤maxLen∧(1+L.length)*16≤140737488355328 from by rw[Eb];exact yH L 1 L.length rfl (by omega))
 have rk:Sx.rowAt (pL cf s (B5 cf) 2 E6 (pO (T5 cf)::pl na L [Mc L])) (pk na)=some (Mc L):=by cases na<;>rfl
 have rj:Sx.rowAt (pL cf s true (pk na+1) E6 (Sx.ak::pl na L [Mc L,pO TT])) (pk na+1)=some (pO TT):=by cases na<;>rfl
 have rj2:Sx.rowAt (pL cf s true (pk na+1) E7 (Sx.ak::pl na L [Mc L,pO TT])) (pk na+1)=some (pO TT):=by cases na<;>rfl
 have c162:=Ta w cf s (B5 cf) (e:=E6) (T5 cf) (pO (T5 cf)::pl na L [Mc L]) (pk na) (pk na+1) (bj::L) I.T rfl (by cases na<;>decide) (rk.trans (congrArg some (Qx L))) (by rw[VH];omega) I.B;have c167:=UA w cf s (pk na+1) E6 TT (Sx.ak::pl na L [Mc L,pO TT]) (pk na+2) rj;have c169:=Pq w cf s true (pk na+1) TT (Sx.ak::pl na L [Mc L,pO TT]) (pk na+2) I.e7 rj;have c174:VG (E7 !=0)=.bool (!ze):=congrArg (fun b=>VG (!b)) hz;have c182:=Ue w cf s (pk na+1) E7 (Sx.ak::pl na L [Mc L,pO TT]) (pk na+2) I.T rj2;have z25:([.val (ab (rz ze TT E7).1),.val (.int .i64 (rz ze TT E7).2)]:List Sx.SV)=[.val (ab (rz ze TT E7).1),.val (.int .i64 (rz ze TT E7).2)]:=rfl;have CH:=Sx.t2 (VL cf.ag.length) (Us cf s) (VI vq (fun(_:Unit) (_:True)=>(Sx.t2 (VL cf.ae.length) (Ur cf s) (VI rd7 (fun(_:Unit) (_:True)=>(Sx.t2 (VL cf.af.length) (Uq cf s) (VI rd12 (fun(_:Unit) (_:True)=>(Sx.t2 (VL cf.aa.length) (Up cf s) (VI rd17 (fun(_:Unit) (_:True)=>(Sx.t2 (VL cf.rules.length) (Uo cf s) (VI rd22 (fun(_:Unit) (_:True)=>(VI c144 (dt.mk (b:=d1) (fun _=>c148) (dt.mk (b:=d1||d2) (fun _=>c153) (Sx.t8 c155 c160 c161 c162 c167 I.c168 c169 c174 (dt.mk (b:=!ze) (fun _=>c182) z25)))))))))))))))))));refine Sx.bO (args:=[.val (.agg (aI cf s).toArray)]) (gE w) [(18,.tM [(0,0,0),(1,5,1)]),bq 144 d1,bq 148 d2,bq 153 d4,(155,.au (jN [] 1 2 none (B5 cf) E6)),(157,.ij 9 1),(160,SR na L),(161,.app 0 []),(162,.au (yU [pk na] 1 2 (pk na+1) none TT E6 (.tuple #[]))),(167,.au ⟨[1,pk na+1],[],[],[],.val (.int .i64 (TT.length:Int)),none⟩),bq 168 bl,(169,.au (jN [] 1 (pk na+1) none true E7)),bq 174 (!ze),(182,.au ⟨[1,pk na+1],[],[1,pk na+1],[],.val (ab TT),none⟩)] (Ns cf s) (by kernel_rfl) func28 rfl (dR rfl) rfl ?_;clear I ha hL h1 h2 h4 hz vq rd7 rd12 rd17 rd22 c144 c148 c153 c155 c160 c161 rk rj rj2 c162 c167 c169 c174 c182 z25 g1 g2 g3 g4 g5;cases na with
 |true=>obtain rfl:L=[]:=of_decide_eq_true hna;cases d1<;>cases d2<;>cases d4<;>cases ze<;>exact VS (by kernel_rfl) CH
 |false=>cases d1<;>cases d2<;>cases d4<;>cases ze<;>exact VS (by kernel_rfl) CH
end
theorem gX.sub{w:World}{S S':List Nat}{cf:CF}{s:fN}(h:gX w S cf s)(hs:∀k∈S',k∈S∨w.heap.size≤k):gX w S' cf s:=⟨h.p.sub hs,h.r.sub hs,h.l.sub hs,h.m.sub hs,h.i.sub hs⟩
theorem Nr{w:World}(hlan:dD w)(cf:CF)(s:fN)(h:gX w [] cf s)(hw:iq cf)(hf:jA cf)(hB:(ey cf).length≤140737488355328):Calls prog 28 #[.agg (aI cf s).toArray] w (Rn w (.tuple #[ab (gU cf).1,.int .i64 (gU cf).2])):=by
 have hT:ey cf=T5 cf++fL (bj::aS cf.aR 0):=(TG cf).symm;have hE:vz cf=aO (decide ((ey cf).length≤65536)) 4 (aO (bP (cf.aR==1) (bP (cf.aR==2) (cf.aR==4))) 2 (E5 cf)):=by unfold vz;rw[←TJ cf];rfl
 have hp:gU cf=rz (vz cf==0) (ey cf) (vz cf):=by
  unfold gU rz;by_cases h0:vz cf=0
  ·rw[if_pos h0,h0];rfl
  ·rw[if_neg h0,beq_eq_false_iff_ne.2 h0]
 have hL:(aS cf.aR 0).length≤10:=by
  unfold aS;repeat' split
  all_goals simp
 have main:=Ga (w:=w) (cf:=cf) (s:=s) (TT:=ey cf) (bl:=decide ((ey cf).length≤65536)) (E6:=aO (bP (cf.aR==1) (bP (cf.aR==2) (cf.aR==4))) 2 (E5 cf)) (E7:=vz cf) ⟨hlan,h,hw,hf,hT,hB,rfl,rfl,hE⟩ rfl hL rfl rfl rfl rfl rfl;rw[←hp]at main;refine main.mono fun en w' hp=>?_;rcases hp with⟨β,l,mem,hl,he,hR⟩ | ⟨_,_,hf,_⟩
 ·have hl:l=[.val (ab (gU cf).1),.val (.int .i64 (gU cf).2)]:=hl
  subst hl;exact⟨he,hR.aD⟩
 ·exact hf.elim
set_option maxRecDepth 100000
open Go Go.RowKit Go.Lib Go.Sort _root_.Go.Proofs.Tryz
set_option maxRecDepth 100000
def r6(i:Int):Int:=((i.tmod 6)+6).tmod 6
theorem SC(i:Int):VT .i64 (IntKind.i64.wrap (i.tmod 6+6))=.int .i64 (i.tmod 6+6):=by have h:=Int.emod_nonneg i (show(6:Int)≠0 by decide);have h1:=Int.tmod_lt_of_pos i (show(0:Int) < 6 by decide);have h2:=Int.lt_tmod_of_pos i (show(0:Int) < 6 by decide);exact iw (Fs (by omega) (by omega))
theorem Db(i k:Int):VG (i==k)=.bool (decide (i=k)):=by congr 1
theorem Jw(i:Int)(w:World):Calls prog 37 #[.int .i64 i] w (Rn w (ab (fW (r6 i)))):=by
 have c5:=SC i;have c8:=Db (r6 i) 1;have c10:=Db (r6 i) 2;have c12:=Db (r6 i) 3;have hT:fW (r6 i)=match decide (r6 i=1)with|true=>[9] | false=>match decide (r6 i=2)with|true=>[32,32] | false=>match decide (r6 i=3)with|true=>[32,9,32,9] | false=>[32]:=by
  unfold fW;by_cases h1:r6 i=1
  ·rw[if_pos h1,decide_eq_true h1]
  rw[if_neg h1,decide_eq_false h1];by_cases h2:r6 i=2
  ·rw[if_pos h2,decide_eq_true h2]
  rw[if_neg h2,decide_eq_false h2];by_cases h3:r6 i=3
  ·rw[if_pos h3,decide_eq_true h3]
  rw[if_neg h3,decide_eq_false h3]
 have z:=fun(l:Bs) (h:fW (r6 i)=l)=>congrArg ab h.symm;generalize decide (r6 i=1)=b1 at*;generalize decide (r6 i=2)=b2 at*;generalize decide (r6 i=3)=b3 at*;have CH:=Sx.t4 (@rfl _ (VT .i64 (i.tmod 6))) c5 (@rfl _ (VT .i64 (r6 i))) c8 (ir.mk (b:=b1) (fun h=>z [9] (by rw[hT,h])) (fun h1=>VI c10 (ir.mk (b:=b2) (fun h=>z [32,32] (by rw[hT,h1,h])) (fun h2=>VI c12 (ir.mk (b:=b3) (fun h=>z [32,9,32,9] (by rw[hT,h1,h2,h])) (fun h=>z [32] (by rw[hT,h1,h2,h])))))));refine Sx.bX (args:=[.int .i64 i]) [(4,.is (.int .i64 (i.tmod 6))),(5,.is (.int .i64 (i.tmod 6+6))),(6,.is (.int .i64 (r6 i))),bq 8 b1,bq 10 b2,bq 12 b3] [] (by kernel_rfl) func37 rfl (dR rfl) ?_;clear z hT c5 c8 c10 c12;cases b1<;>cases b2<;>cases b3<;>exact VS (by kernel_rfl) CH
theorem Ri(i:Int)(w:World):Calls prog 39 #[.int .i64 i] w (Rn w (ab (uI (r6 i)))):=by
 have c5:=SC i;have c8:=Db (r6 i) 1;have c10:=Db (r6 i) 2;have c12:=Db (r6 i) 3;have c14:=Db (r6 i) 4;have hT:uI (r6 i)=Ii (match decide (r6 i=1)with|true=>[[32,35,32,112,111,114,116,32,57]] | false=>match decide (r6 i=2)with|true=>[[35],[]] | false=>match decide (r6 i=3)with|true=>[[9],[32,9]] | false=>match decide (r6 i=4)with|true=>[[],[35,32,120,255,32,45,62,32,97,110,121]] | false=>[[]]):=by
  unfold uI nK;by_cases h1:r6 i=1
  ·rw[if_pos h1,decide_eq_true h1]
  rw[if_neg h1,decide_eq_false h1];by_cases h2:r6 i=2
  ·rw[if_pos h2,decide_eq_true h2]
  rw[if_neg h2,decide_eq_false h2];by_cases h3:r6 i=3
  ·rw[if_pos h3,decide_eq_true h3]
  rw[if_neg h3,decide_eq_false h3];by_cases h4:r6 i=4
  ·rw[if_pos h4,decide_eq_true h4]
  rw[if_neg h4,decide_eq_false h4]
 have z:=fun(l:Bs) (h:uI (r6 i)=l)=>congrArg ab h.symm;generalize decide (r6 i=1)=b1 at*;generalize decide (r6 i=2)=b2 at*;generalize decide (r6 i=3)=b3 at*;generalize decide (r6 i=4)=b4 at*;have CH:=Sx.t4 (@rfl _ (VT .i64 (i.tmod 6))) c5 (@rfl _ (VT .i64 (r6 i))) c8 (ir.mk (b:=b1) (fun h=>z [32,35,32,112,111,114,116,32,57,10] (by rw[hT,h];rfl)) (fun h1=>VI c10 (ir.mk (b:=b2) (fun h=>z [35,10,10] (by rw[hT,h1,h];rfl)) (fun h2=>VI c12 (ir.mk (b:=b3) (fun h=>z [9,10,32,9,10] (by rw[hT,h1,h2,h];rfl)) (fun h3=>VI c14 (ir.mk (b:=b4) (fun h=>z [10,35,32,120,255,32,45,62,32,97,110,121,10] (by rw[hT,h1,h2,h3,h];rfl)) (fun h=>z [10] (by rw[hT,h1,h2,h3,h];rfl)))))))));refine Sx.bX (args:=[.int .i64 i]) [(4,.is (.int .i64 (i.tmod 6))),(5,.is (.int .i64 (i.tmod 6+6))),(6,.is (.int .i64 (r6 i))),bq 8 b1,bq 10 b2,bq 12 b3,bq 14 b4] [] (by kernel_rfl) func39 rfl (dR rfl) ?_;clear z hT c5 c8 c10 c12 c14;cases b1<;>cases b2<;>cases b3<;>cases b4<;>exact VS (by kernel_rfl) CH
def yD(l:List Int)(k:Nat):Int:=match l with
 | []=>0
 |_::_=>l.getD (k%l.length) 0
theorem Nd(k n:Nat)(hn:0 < n)(x y:Operand)(W:World):(do eqGuard .rem 3 x y (.int .i64 (k:Int)) (.int .i64 (n:Int));binOp .rem 3 (.int .i64 (k:Int)) (.int .i64 (n:Int)):Sem Value).run prog W=.ok (.int .i64 ((k%n:Nat):Int)) W:=by have h:(do eqGuard .rem 3 x y (.int .i64 (k:Int)) (.int .i64 (n:Int));binOp .rem 3 (.int .i64 (k:Int)) (.int .i64 (n:Int)):Sem Value).run prog W=(Op.intDiv .rem .i64 (k:Int) (n:Int)).run prog W:=rfl;rw[h];unfold Op.intDiv;rw[if_neg (by omega)];rfl
theorem RB(l:List Int)(A:Option Go.Addr)(c k:Nat)(w:World)(hs:lu w [] 1 (.slice A l.length c) l.length (l.map fun n=>VT .i64 n)):Calls prog 38 #[.slice A l.length c,.int .i64 (k:Int)] w (Rn w (.int .i64 (yD l k))):=by
 cases hl:l with
 |nil=>have c7:VG ((((0:Nat)):Int)==0)=.bool true:=rfl;have z0:VT .i64 0=.int .i64 (yD [] k):=rfl;refine Sx.bX (args:=[.slice A 0 c,.int .i64 (k:Int)]) [bq 7 true] [] (by kernel_rfl) func38 rfl (dR rfl) ?_;exact VS (by kernel_rfl) (VI c7 z0)
 |cons a l'=>
  rw[←hl];have hn:0 < l.length:=by rw[hl,VH];omega
  have c7:VG ((l.length:Int)==0)=.bool false:=xl (by rw[beq_eq_false_iff_ne];omega);have c12:=fun W=>Nd k l.length hn (.tmp 9) (.tmp 11) W;have hx:l[k%l.length]?=some (yD l k):=by
   have:yD l k=l.getD (k%l.length) 0:=by rw[hl];rfl
   rw[this,Wg,VY (Nat.mod_lt _ hn)];rfl
  obtain⟨inf,hi1,hi2⟩:=fS (P:=prog) (t:=3) (n:=1) (by kernel_rfl);obtain⟨p,c13,c14⟩:=hs.RC underlying40 hi1 hi2 underlying3 rfl hx;clear hi1 hi2 hx hl;refine Sx.bX (args:=[.slice A l.length c,.int .i64 (k:Int)]) [bq 7 false,(12,.bin (.int .i64 ((k%l.length:Nat):Int))),(13,.any p),(14,.any (.int .i64 (yD l k)))] [] (by kernel_rfl) func38 rfl (dR rfl) ?_;exact VS (by kernel_rfl) (Sx.t4 c7 c12 c13 c14 (@rfl _ (VT .i64 (yD l k))))
open Go Go.RowKit Go.Lib Go.Sort
structure Gt{α:Type}(r:Nat→Out α):Prop where
 no:∀i c p,r i=.no c p→i < p
 ok:∀i a j,r i=.ok a j→i≤j
theorem Gt.bind{α β:Type}{r:Nat→Out α}{f:α→Nat→Out β}(h:Gt r)(hf:∀a,Gt (f a)):Gt (fun i=>(r i).bind f):=by
 refine⟨fun i c p hh=>?_,fun i a j hh=>?_⟩
 ·cases hr:r i with
  |ok a j=>rw[hr]at hh;exact Nat.lt_of_le_of_lt (h.ok i a j hr) ((hf a).no j c p hh)
  |no c' p'=>rw[hr]at hh;injection hh with _ hh;have:=h.no i c' p' hr;omega
 ·cases hr:r i with
  |ok b k=>rw[hr]at hh;exact VW (h.ok i b k hr) ((hf b).ok k a j hh)
  |no c' p'=>rw[hr]at hh;cases hh
open Go Go.RowKit Go.Lib Go.Sort
theorem yQ(cm:Bool)(s:Bs):(aj cm s).length≤s.length+1∧∀x∈aj cm s,x.length≤s.length:=by
 have key:∀(l cur:Bs),(aG cm cur l).length≤l.length+1∧∀x∈aG cm cur l,x.length≤cur.length+l.length:=by
  intro l;induction l with
  |nil=>
   intro cur;unfold aG;split
   ·exact⟨VL _,fun x hx=>by cases hx⟩
   ·exact⟨Wt _,fun x hx=>by rw[VE.1 hx];exact Wo _ _⟩
  |cons c r ih=>
   intro cur;unfold aG;rw[VH];split
   ·split
    ·exact⟨VL _,fun x hx=>by cases hx⟩
    ·exact⟨by show 1≤_;omega,fun x hx=>by rw[VE.1 hx];omega⟩
   ·split
    ·have h:=ih []
     split
     ·exact⟨by omega,fun x hx=>by have:=h.2 x hx;simp at this;omega⟩
     ·exact⟨by rw[VH];omega,fun x hx=>by
       rcases VJ.1 hx with rfl|hx
       ·omega
       ·have:=h.2 x hx;simp at this;omega⟩
    ·have h:=ih (cur++[c])
     rw[VF,VH,List.length_nil]at h;exact⟨by omega,fun x hx=>by have:=h.2 x hx;omega⟩
 have h:=key s [];exact⟨h.1,fun x hx=>by have:=h.2 x hx;simpa using this⟩
open Go Go.RowKit Go.Lib Go.Sort
theorem zn(pd:Nat→Int):∀(ws:List Bs) (n:Nat) (x:Bs),vJ pd n (ws++[x])=vJ pd n ws++(x++fW (pd (n+ws.length)))
 | [],n,x=>by simp[vJ]
 |w::ws,n,x=>by rw[VM,vJ,zn pd ws (n+1) x,vJ,VH,show n+1+ws.length=n+(ws.length+1)by omega];simp
theorem uL{l:Bs}(h:(10:UInt8)∉l):l.count 10=0:=List.count_eq_zero.2 h
theorem wX:∀(l:List Bs),(∀y∈l,(10:UInt8)∉y)→(Ii l).count 10=l.length
 | [],_=>rfl
 |y::l,h=>by
  have e:Ii (y::l)=y++([10]++Ii l):=by simp[Ii]
  rw[e,VZ,VZ,uL (h y (by simp)),wX l fun z hz=>h z (VK _ hz),VH];simp;omega
theorem QK(r:Int):(10:UInt8)∉fW r:=fun h=>by rcases(rW r).2 _ h with h|h<;>exact absurd h (by decide)
theorem He(p0 pd en:Nat→Int)(n i:Nat)(ws:List Bs)(h:∀w∈ws,du w):(vj p0 pd en n i ws).count 10=(nK (en i)).length:=by obtain⟨_,_,_,hy⟩:=Fb (en i);unfold vj uI;rw[VZ,VZ,uL (QK _),uL (Cv pd ws n h),wX _ fun y hy'=>(hy y hy').1];omega
theorem tq(r:Int):(fW r).length≤4:=by unfold fW;split;decide;split;decide;split<;>decide
theorem Dd(r:Int):(uI r).length≤14∧(nK r).length≤2:=by unfold uI nK;split;decide;split;decide;split;decide;split<;>decide
theorem Cb(pd:Nat→Int)(B:Nat):∀(ws:List Bs) (n:Nat),(∀w∈ws,w.length≤B)→(vJ pd n ws).length≤ws.length*(B+4)
 | [],_,_=>VL _
 |w::ws,n,h=>by have h1:=Cb pd B ws (n+1) fun x hx=>h x (VK _ hx);have h2:=h w (by simp);have h3:=tq (pd n);rw[vJ,VF,VF,VH,Wk];omega
theorem IK(p0 pd en:Nat→Int)(n i:Nat)(ws:List Bs)(h:ws.length≤4001)(hl:∀w∈ws,w.length≤4000):(vj p0 pd en n i ws).length≤17000000:=by have h1:=Cb pd 4000 ws n hl;have h2:=tq (p0 n);have h3:=(Dd (en i)).1;have h4:ws.length*(4000+4)≤4001*4004:=Nat.mul_le_mul_right _ h;unfold vj;rw[VF,VF];omega
theorem DW(en:Nat→Int):∀(l:List (List Bs)) (k i:Nat),(Cc en k i l).length=l.length
 | [],_,_=>rfl
 |_::l,k,i=>by rw[Cc,VH,VH,DW en l]
structure PY where
 i:Nat
 n:Nat
 now:Nat
 t:Bs
 first:List Nat
structure RL(p0 pd en:Nat→Int)(ls:List Bs)(k:PY):Prop where
 le:k.i≤ls.length
 tx:DV p0 pd en 0 0 (ls.map (aj true))=k.t++DV p0 pd en k.n k.i ((ls.drop k.i).map (aj true))
 fs:Cc en 1 0 (ls.map (aj true))=k.first++Cc en k.now k.i ((ls.drop k.i).map (aj true))
 len:k.first.length=k.i
 nQ:k.n≤k.i*4001∧k.now≤1+2*k.i
 tl:k.t.length≤k.i*17000000
def vp(p0 pd en:Nat→Int)(ls:List Bs)(k:PY):PY:=⟨k.i+1,k.n+(aj true (ls.getD k.i [])).length,k.now+(nK (en k.i)).length,k.t++vj p0 pd en k.n k.i (aj true (ls.getD k.i [])),k.first++[k.now]⟩
theorem So(p0 pd en:Nat→Int)(ls:List Bs):RL p0 pd en ls ⟨0,0,1,[],[]⟩:=⟨VL _,rfl,rfl,rfl,by simp,VL _⟩
theorem Ql{p0 pd en:Nat→Int}{ls:List Bs}{k:PY}(h:RL p0 pd en ls k)(hlt:k.i < ls.length)(hb:∀x∈ls,x.length≤4000):RL p0 pd en ls (vp p0 pd en ls k):=by
 have hx:ls[k.i]?=some ls[k.i]:=VY hlt;have hg:ls.getD k.i []=ls[k.i]:=by rw[Wg,hx];rfl
 have hd:ls.drop k.i=ls[k.i]::ls.drop (k.i+1):=List.drop_eq_getElem_cons hlt;have hw:=yQ true ls[k.i];have hl:=hb _ (List.getElem_mem hlt);have he:=(Dd (en k.i)).2;unfold vp;rw[hg];refine⟨hlt,?_,?_,?_,?_,?_⟩
 ·rw[h.tx,hd,Wi,DV,Wd]
 ·rw[h.fs,hd,Wi,Cc,Wd];rfl
 ·show(k.first++[k.now]).length=k.i+1
  rw[VF,h.len];rfl
 ·have:=h.nQ
  refine⟨?_,?_⟩
  ·show k.n+_≤(k.i+1)*4001
   rw[Wk];omega
  ·show k.now+_≤1+2*(k.i+1)
   omega
 ·have h1:=IK p0 pd en k.n k.i (aj true ls[k.i]) (by omega) fun x hx=>by have:=hw.2 x hx;omega
  have:=h.tl;show(k.t++_).length≤(k.i+1)*17000000;rw[VF,Wk];omega
theorem MN{p0 pd en:Nat→Int}{ls:List Bs}{k:PY}(h:RL p0 pd en ls k)(hi:k.i=ls.length):k.t=DV p0 pd en 0 0 (ls.map (aj true))∧k.first=Cc en 1 0 (ls.map (aj true)):=by have h1:=h.tx;have h2:=h.fs;rw[hi,List.drop_length]at h1 h2;simp[DV,Cc]at h1 h2;exact⟨h1.symm,h2.symm⟩
theorem jQ(c:UInt8):∀(s x:List UInt8),x∈aU c s→c∉x
 | [],x,h=>by unfold aU at h;rw[VE.1 h];exact Wa
 |d::s,x,h=>by
  unfold aU at h;split at h
  ·rcases VJ.1 h with rfl|h
   ·exact Wa
   ·exact jQ c s x h
  ·rename_i hd
   split at h
   ·rename_i hy
    exact absurd hy (mZ c s)
   ·rename_i y ys hy
    rcases VJ.1 h with rfl|h
    ·intro hh
     rcases VJ.1 hh with hh|hh
     ·exact hd hh.symm
     ·exact jQ c s y (by rw[hy];simp) hh
    ·exact jQ c s x (by rw[hy];exact VK _ h)
theorem zl(p0 pd en:Nat→Int)(s:Bs)(hs:s.length≤4000)(ht:¬65536 < (DV p0 pd en 0 0 ((aw s).map (aj true))).length) :
  cX (DV p0 pd en 0 0 ((aw s).map (aj true)))=NI (Cc en 1 0 ((aw s).map (aj true))) 1 (cX s):=by
 have h:=zm p0 pd en (aw s) 0 0 1 1 wZ 0 (fun l hl=>jQ 10 s l hl);unfold cX;rw[if_neg ht,if_neg (by omega)];exact h
theorem Ng{s:Bs}(hs:s.length≤4000){code p:Nat}(h:cX s=.no code p):1≤p∧p≤(aw s).length:=by unfold cX at h;rw[if_neg (by omega)]at h;have:=nh _ _ _ _ _ _ h;omega
set_option maxRecDepth 100000
open Go Go.RowKit Go.Extern.Stop Go.Stop Go.Extern _root_.Go.Proofs.Tryz
set_option maxRecDepth 100000
theorem CQ(v:Value)(w:World):(ReflectliteType.typeOf #[.iface 25 v]).run prog w=.ok (.iface 242 (.agg #[(pt 9 25)])) w:=by kernel_rfl
theorem uk(w:World):((ReflectliteType.method fun t=>do Rtype.noPackHeld "Comparable" t;(fun a=>VG a.comparable) <$> typeInfo t) #[.agg #[(pt 9 25)]]).run prog w=.ok (.bool true) w:=by kernel_rfl
theorem oA(v:Value)(w:World):(Go.method 430 242 v "Comparable").run prog w=.ok (274,v) w:=by kernel_rfl
theorem SU(v:Value)(xT:TypeId)(w:World):(Instr.typeAssert (.iface 103 v) xT 257 true).run prog w=.ok (.tuple #[.nilIface,.bool false]) w:=run_typeAssert_lacksB underlying257 (by kernel_rfl) (by kernel_rfl) v xT w
theorem CS(v:Value)(xT:TypeId)(w:World):(Instr.typeAssert (.iface 103 v) xT 249 true).run prog w=.ok (.tuple #[.iface 103 v,.bool true]) w:=run_typeAssert_hasB underlying249 (by kernel_rfl) v xT w
theorem vt(v:Value)(w:World):(Go.method 430 103 v "Unwrap").run prog w=.ok (267,v) w:=by kernel_rfl
set_option maxHeartbeats 1100000 in
theorem Iu(N:Nat)(code:Int)(w:World)(h1:w.cell? ⟨N,0,none⟩=some (.int .i64 code)) :
  Calls prog 267 #[.pointer (some ⟨N,0,none⟩)] w fun e w'=>e=.returned (.iface 25 (.int .i64 code))∧w'=w:=by
 have hs:(prog.info? 105).map (·.size)=some 2:=by kernel_rfl
 obtain⟨j,hj,hjs⟩:=Wh.1 hs;go_enter func267,ntmps267
 go_wp2
 go_ret
 exact⟨rfl,rfl⟩
set_option maxHeartbeats 4000000 in
theorem Od(N:Nat)(code:Int)(w:World)(h1:w.cell? ⟨N,0,none⟩=some (.int .i64 code)) :
  Calls prog 66 #[.iface 103 (.pointer (some ⟨N,0,none⟩)),.iface 25 (.int .i64 code)] w fun e w'=>e=.returned (.bool true)∧w'=w:=by
 have h8:=@run_callFunc_extern prog 139 _ ReflectliteType.typeOf func139 (by kernel_rfl) (by kernel_rfl) (by kernel_rfl) (by kernel_rfl);have h32:=@run_callFunc_extern prog 274 _ (ReflectliteType.method fun t=>do Rtype.noPackHeld "Comparable" t;pure (.bool (←typeInfo t).comparable)) func274 (by kernel_rfl) (by kernel_rfl) (by kernel_rfl) (by kernel_rfl);have tT:=CQ;have cT:=uk;have mR:=oA;have nW:=SU;have uW:=CS;have mU:=vt;have hs:(prog.info? 105).map (·.size)=some 2:=by kernel_rfl
 obtain⟨j,hj,hjs⟩:=Wh.1 hs;have heq:(binOp .eql 48 (.iface 25 (.int .i64 code)) (.iface 25 (.int .i64 code))).run prog w=.ok (.bool true) w:=by rw[Lib.run_eql_iface_int (P:=prog) w code code underlying48 (by kernel_rfl) underlying25];simp
 have hty:=run_eql_iface_types (P:=prog) 103 25 (.pointer (some ⟨N,0,none⟩)) (.int .i64 code) underlying48 (by decide) w;go_enter func66,ntmps66
 go_wp2
 refine wp_loop_rounds 2 ?_;rw[rounds_succ];have HU:=hid (Iu N code w h1);go_wp2_with (go_at_call 267;refine HU.out.mono ?_;rintro e w2 ⟨rfl,rfl⟩)
 rw[rounds_succ];go_wp2
 go_ret
 exact⟨rfl,rfl⟩
set_option maxRecDepth 100000
open Go Go.RowKit Go.Lib Go.Sort _root_.Go.Proofs.Tryz
def oQ(code place:Nat):List Value:=[.int .i64 (code:Int),.int .i64 (place:Int)]
theorem Oe{b:Sx.aY}{mem:List Sx.Row}{N:Nat}{code place:Nat}(hk:mem[0]?=some ⟨105,.dj N (oQ code place)⟩)(m:Nat)(W:World)(β:Sx.Env)(hS:Sx.dS b β W (Sx.rowAt mem) [0]) :
  Calls prog 66 (([.jK 103 0 0,.val (.iface 25 (.int .i64 (code:Int)))]:List Sx.SV).map (Sx.SV.den β)).toArray W (Sx.br b β W (Sx.rowAt mem) m ⟨[0],[],[],[],.val (.bool true),none⟩):=by
 have hB2:aq W (β 0) 105 (oQ code place):=(hS.held 0 (by simp) _ hk).2;exact(Od (β 0) (code:Int) W (hB2.cell_of rfl)).mono fun e w' ⟨he,hw⟩=>.inl ⟨fun p hp=>(by cases hp),β,Sx.dx (v:=.bool true) rfl rfl he (fun q hq=>by cases hq) (by rw[hw];exact ah.refl _ _)⟩
def UP(N code place:Nat)(l:List Sx.SV)(mem:List Sx.Row):Prop:=∃k:Nat,k=0∧l=[.val (.int .i64 (code:Int)),.val (.int .i64 (place:Int))]∧mem[k]?=some ⟨105,.dj N (oQ code place)⟩
theorem Qh(N code place:Nat)(w:World)(hlan:ku w)(h9:9≤N)(hb:aq w N 105 (oQ code place)):Calls prog 24 #[.iface 103 (.pointer (some ⟨N,0,none⟩))] w (Sx.cI ⟨w,[N],fun _ _=>False⟩ (UP N code place)):=by
 have hR:Sx.Rows ⟨w,[N],fun _ _=>False⟩ (Sx.cD [.bY N 105 (oQ code place)]) w [⟨105,.dj N (oQ code place)⟩]:=Sx.fT (w:=w) (S:=[N]) (PP:=fun _ _=>False) (G:=[.bY N 105 (oQ code place)]) (fun q hq=>by rw[VE.1 hq];exact hb) (fun q hq k hk=>by rw[VE.1 hq]at hk;cases hk;simp) (by simp[Sx.jz.block]);have c9:=fun W β (hS:Sx.dS ⟨w,[N],fun _ _=>False⟩ β W (Sx.rowAt [⟨105,.dj N (oQ code place)⟩,⟨103,.ai [.pointer none]⟩]) [1])=>Fl (m:=2) (k:=1) (N:=0) hlan (fun k hk=>by rw[VE.1 hk];exact h9) rfl W β hS;have c22:=fun W β (hS:Sx.dS ⟨w,[N],fun _ _=>False⟩ β W (Sx.rowAt [⟨105,.dj N (oQ code place)⟩,⟨103,.cU [.ptr 0 0]⟩]) [0])=>Oe (N:=N) (code:=code) (place:=place) rfl 2 W β hS;have z0:UP N code place [.val (.int .i64 (code:Int)),.val (.int .i64 (place:Int))] [⟨105,.dj N (oQ code place)⟩,⟨103,.cU [.ptr 0 0]⟩]:=⟨0,rfl,rfl,rfl⟩;have hh:Calls prog 24 (([.jK 103 0 0]:List Sx.SV).map (Sx.SV.den (Sx.cD [.bY N 105 (oQ code place)]))).toArray w (Sx.cI ⟨w,[N],fun _ _=>False⟩ (UP N code place)):=by refine Sx.bO (args:=[.jK 103 0 0]) hR [(9,.au ⟨[1],[(1,⟨103,.cU [.ptr 0 0]⟩)],[],[],.val (.bool true),none⟩),(22,.au ⟨[0],[],[],[],.val (.bool true),none⟩)] [] (by kernel_rfl) func24 rfl (dR rfl) rfl ?_;exact VS (by kernel_rfl) (Sx.t2 c9 c22 z0)
 exact hh
def DR(j code place:Nat):Sx.cn:=⟨[j],[(j,⟨105,.ai (oQ code place)⟩)],[],[],.val (.tuple #[.int .i64 (code:Int),.int .i64 (place:Int)]),none⟩
theorem qh{b:Sx.aY}{row:Nat→Option Sx.Row}{j m code place:Nat}(hlan:ku b.w)(h9:∀k∈b.S,9≤k)(hj:row j=some ⟨105,.ai (oQ code place)⟩)(W:World)(β:Sx.Env)(hS:Sx.dS b β W row [j]) :
  Calls prog 24 (([.jK 103 j 0]:List Sx.SV).map (Sx.SV.den β)).toArray W (Sx.br b β W row m (DR j code place)):=by
 have hB:aq W (β j) 105 (oQ code place):=hS.held j (by simp) _ hj;have h9':9≤β j:=by
  rcases hS.new j (by simp) _ (β j) hj rfl with h|h
  ·exact h9 _ h
  ·have:=hlan.vk.low;omega
 refine(Qh (β j) code place W (hlan.aD hS.aD h9) h9' hB).mono fun en w' hp=>?_;rcases hp with⟨β',l,mem,⟨k,rfl,rfl,hk⟩,he,hR⟩ | ⟨_,_,hf,_⟩
 ·have r:=hR.held 0 _ hk
  have e:β' 0=β j:=r.1;refine .inl ⟨fun p hp=>(by cases hp),β,Sx.dx (v:=.tuple #[.int .i64 (code:Int),.int .i64 (place:Int)]) rfl rfl he (fun q hq=>?_) (hR.aD.mono fun x hx=>.inl ?_)⟩
  ·have hq:q=(j,⟨105,.ai (oQ code place)⟩):=VE.1 hq
   subst hq;show aq w' (β j) 105 (oQ code place);rw[←e];exact r.2
  ·show x∈([j]++[]).filterMap (Sx.cg β row)
   refine Wc.2 ⟨j,by simp,?_⟩;unfold Sx.cg;rw[hj,VE.1 hx];rfl
 ·exact hf.elim
set_option maxRecDepth 100000
open Go Go.RowKit Go.Lib Go.Sort _root_.Go.Proofs.Tryz
set_option maxRecDepth 100000
def jd{α:Type}(a b:List α)(k:Nat):Prop:=∀j,j < k→a[j]?=b[j]?
theorem jd.all{α:Type}{a b:List α}(h:jd a b a.length)(hl:a.length=b.length):a=b:=by
 refine List.ext_getElem? fun j=>?_;by_cases hj:j < a.length
 ·exact h j hj
 ·rw[Wj (by omega),Wj (by omega)]
def LK(B:Bool)(l:List Sx.SV)(_:List Sx.Row):Prop:=l=[.val (.bool B)]
def eg(a b:CF)(s t:fN):List Sx.Row:=[⟨46,.ai (aI a s)⟩,⟨46,.ai (aI b t)⟩]
theorem fJ(a:Int):VG (a !=a)=.bool false:=by simp
abbrev Sv{α:Type}(w:World)(B:Bool)(k p:Nat)(x y:List α)(mm:List Sx.Row)(i:Nat):Prop:=∃H' L',Sx.lj prog f25.ntmps ⟨w,[],fun _ _=>False⟩ (Sx.dr f25 k) H' L' ⟨[(2,.ptr 0 0),(3,.ptr 1 0),(p,.val (.int .i64 ((i:Nat):Int)))],mm⟩
 (Sx.ia (fun i=>i≤x.length∧jd x y i) (fun i=>[(2,.ptr 0 0),(3,.ptr 1 0),(p,.val (.int .i64 ((i:Nat):Int)))]) (fun _=>mm) (fun i=>i+1) (fun i=>x.length - i) (fun(_:Unit)=>x=y) (fun _=>[(2,.ptr 0 0),(3,.ptr 1 0)]) (fun _=>mm) (fun _=>()) (Sx.fX (Sx.dr f25 k) - 1) (Sx.eX prog f25 (LK B) .ret) i)
theorem jd.up{α:Type}{a b:List α}{i:Nat}(h:jd a b i)(e:a[i]?=b[i]?):jd a b (i+1):=fun j hj=>by
 by_cases hji:j=i
 ·rw[hji];exact e
 ·exact h j (by omega)
theorem Su{w:World}(a b:CF)(s t:fN)(ha:gX w [] a s)(hb:gX w [] b t)(wa:iq a)(wb:iq b)(fa:jA a)(hl:a.ag.length=b.ag.length)(B:Bool)(hB:a.ag≠b.ag→B=false)(i:Nat)(hi:i≤a.ag.length∧jd a.ag b.ag i) :
  Sv w B 0 5 a.ag b.ag (eg a b s t) i:=by
 have nQ:=fa.p;by_cases hlt:i < a.ag.length
 ·have c64:=bT ((i:Int) < (a.ag.length:Int)) (by omega)
  have hx:=getD_at hlt;have hy:=getD_at (l:=b.ag) (i:=i) (by omega);have wx:=wa.p _ (dm hlt);have wy:=wb.p _ (dm (l:=b.ag) (i:=i) (by omega));obtain⟨inf,hi1,hi2⟩:=fS (P:=prog) (t:=3) (n:=1) (by kernel_rfl);obtain⟨p,hp1,hp2⟩:=ha.p.RC underlying40 hi1 hi2 underlying3 rfl hx;obtain⟨q,hq1,hq2⟩:=hb.p.RC underlying40 hi1 hi2 underlying3 rfl hy;obtain⟨x,hxe⟩:∃x,x=a.ag.getD i default:=⟨_,rfl⟩;obtain⟨y,hye⟩:∃y,y=b.ag.getD i default:=⟨_,rfl⟩;rw[←hxe]at hx wx hp2;rw[←hye]at hy wy hq2;clear hi1 hi2 hxe hye;have c70:=hp1;have c71:=hp2;have c75:=hq1;have c76:=hq2;by_cases hxy:x=y
  ·have c77:VG (x !=y)=.bool false:=by rw[hxy];exact fJ y
   have c66:=uh (i:=i) (by omega);have h0:i+1≤a.ag.length∧jd a.ag b.ag (i+1):=⟨hlt,hi.2.up (by rw[hx,hy,hxy])⟩;have h1:a.ag.length - (i+1) < a.ag.length - i:=by omega
   have h2:=@rfl _ ([(2,.ptr 0 0),(3,.ptr 1 0),(5,.val (.int .i64 ((i+1:Nat):Int)))]:List (Nat×Sx.SV));have z3:=@rfl _ (eg a b s t);refine⟨[bq 64 true,(70,.any p),(71,.any (.int .i64 x)),(75,.any q),(76,.any (.int .i64 y)),bq 77 false,oP 66 (i+1)],[],?_⟩;exact VS (by kernel_rfl) (Sx.t8 c64 c70 c71 c75 c76 c77 c66 h0 (Sx.t2 h1 h2 z3))
  ·have c77:VG (x !=y)=.bool true:=Bk (bne_iff_ne.2 hxy)
   have hf:B=false:=hB fun he=>hxy (by rw[he,hy]at hx;exact(VX.inj hx).symm);have z0:LK B [.val (.bool false)] []:=by rw[hf];rfl
   refine⟨[bq 64 true,(70,.any p),(71,.any (.int .i64 x)),(75,.any q),(76,.any (.int .i64 y)),bq 77 true],[],?_⟩;exact VS (by kernel_rfl) (Sx.t4 c64 c70 c71 c75 (Sx.t2 c76 c77 z0))
 ·have c64:=bF ((i:Int) < (a.ag.length:Int)) (by omega)
  have hin:i=a.ag.length:=by omega
  have h0:a.ag=b.ag:=jd.all (by rw[←hin];exact hi.2) hl;have h1:=@rfl _ ([(2,.ptr 0 0),(3,.ptr 1 0)]:List (Nat×Sx.SV));have z2:=@rfl _ (eg a b s t);refine⟨[bq 64 false],[],?_⟩;exact VS (by kernel_rfl) (Sx.t2 c64 h0 (VI h1 z2))
theorem Ss{w:World}(a b:CF)(s t:fN)(ha:gX w [] a s)(hb:gX w [] b t)(wa:iq a)(wb:iq b)(fa:jA a)(hl:a.ae.length=b.ae.length)(B:Bool)(hB:a.ae≠b.ae→B=false)(i:Nat)(hi:i≤a.ae.length∧jd a.ae b.ae i) :
  Sv w B 1 6 a.ae b.ae (eg a b s t) i:=by
 have nQ:=fa.r;by_cases hlt:i < a.ae.length
 ·have c82:=bT ((i:Int) < (a.ae.length:Int)) (by omega)
  have hx:=getD_at hlt;have hy:=getD_at (l:=b.ae) (i:=i) (by omega);have wx:=wa.r _ (dm hlt);have wy:=wb.r _ (dm (l:=b.ae) (i:=i) (by omega));obtain⟨inf,hi1,hi2⟩:=fS (P:=prog) (t:=118) (n:=19) (by kernel_rfl);obtain⟨p,hp1,hp2⟩:=ha.r.Ij Rt.aM underlying41 hi1 hi2 underlying118 rfl (by omega) hx;obtain⟨q,hq1,hq2⟩:=hb.r.Ij Rt.aM underlying41 hi1 hi2 underlying118 rfl (by omega) hy;obtain⟨x,hxe⟩:∃x,x=a.ae.getD i default:=⟨_,rfl⟩;obtain⟨y,hye⟩:∃y,y=b.ae.getD i default:=⟨_,rfl⟩;rw[←hxe]at hx wx hp2;rw[←hye]at hy wy hq2;clear hi1 hi2 hxe hye;have c88:=hp1;have c89:=hp2;have c93:=hq1;have c94:=hq2;by_cases hxy:x=y
  ·have c95:=fun W=>(IV (.tmp 89) (.tmp 94) wx wy W).trans (by rw[(bU x y).2 hxy];rfl:_=VV (.bool false) W)
   have c84:=uh (i:=i) (by omega);have h0:i+1≤a.ae.length∧jd a.ae b.ae (i+1):=⟨hlt,hi.2.up (by rw[hx,hy,hxy])⟩;have h1:a.ae.length - (i+1) < a.ae.length - i:=by omega
   have h2:=@rfl _ ([(2,.ptr 0 0),(3,.ptr 1 0),(6,.val (.int .i64 ((i+1:Nat):Int)))]:List (Nat×Sx.SV));have z3:=@rfl _ (eg a b s t);refine⟨[bq 82 true,(88,.any p),(89,.any (.agg x.cells.toArray)),(93,.any q),(94,.any (.agg y.cells.toArray)),(95,.bin (.bool false)),oP 84 (i+1)],[],?_⟩;exact VS (by kernel_rfl) (Sx.t8 c82 c88 c89 c93 c94 c95 c84 h0 (Sx.t2 h1 h2 z3))
  ·have c95:=fun W=>(IV (.tmp 89) (.tmp 94) wx wy W).trans (by rw[show eh x y=false from VO.2 fun hh=>hxy ((bU x y).1 hh)];rfl:_=VV (.bool true) W)
   have hf:B=false:=hB fun he=>hxy (by rw[he,hy]at hx;exact(VX.inj hx).symm);have z0:LK B [.val (.bool false)] []:=by rw[hf];rfl
   refine⟨[bq 82 true,(88,.any p),(89,.any (.agg x.cells.toArray)),(93,.any q),(94,.any (.agg y.cells.toArray)),(95,.bin (.bool true))],[],?_⟩;exact VS (by kernel_rfl) (Sx.t4 c82 c88 c89 c93 (Sx.t2 c94 c95 z0))
 ·have c82:=bF ((i:Int) < (a.ae.length:Int)) (by omega)
  have hin:i=a.ae.length:=by omega
  have h0:a.ae=b.ae:=jd.all (by rw[←hin];exact hi.2) hl;have h1:=@rfl _ ([(2,.ptr 0 0),(3,.ptr 1 0)]:List (Nat×Sx.SV));have z2:=@rfl _ (eg a b s t);refine⟨[bq 82 false],[],?_⟩;exact VS (by kernel_rfl) (Sx.t2 c82 h0 (VI h1 z2))
theorem Sr{w:World}(a b:CF)(s t:fN)(ha:gX w [] a s)(hb:gX w [] b t)(wa:iq a)(wb:iq b)(fa:jA a)(hl:a.af.length=b.af.length)(B:Bool)(hB:a.af≠b.af→B=false)(i:Nat)(hi:i≤a.af.length∧jd a.af b.af i) :
  Sv w B 2 7 a.af b.af (eg a b s t) i:=by
 have nQ:=fa.m;by_cases hlt:i < a.af.length
 ·have c100:=bT ((i:Int) < (a.af.length:Int)) (by omega)
  have hx:=getD_at hlt;have hy:=getD_at (l:=b.af) (i:=i) (by omega);have wx:=wa.m _ (dm hlt);have wy:=wb.m _ (dm (l:=b.af) (i:=i) (by omega));obtain⟨inf,hi1,hi2⟩:=fS (P:=prog) (t:=122) (n:=4) (by kernel_rfl);obtain⟨p,hp1,hp2⟩:=ha.m.Ij Me.aM underlying43 hi1 hi2 underlying122 rfl (by omega) hx;obtain⟨q,hq1,hq2⟩:=hb.m.Ij Me.aM underlying43 hi1 hi2 underlying122 rfl (by omega) hy;obtain⟨x,hxe⟩:∃x,x=a.af.getD i default:=⟨_,rfl⟩;obtain⟨y,hye⟩:∃y,y=b.af.getD i default:=⟨_,rfl⟩;rw[←hxe]at hx wx hp2;rw[←hye]at hy wy hq2;clear hi1 hi2 hxe hye;have c106:=hp1;have c107:=hp2;have c111:=hq1;have c112:=hq2;by_cases hxy:x=y
  ·have c113:=fun W=>(JT (.tmp 107) (.tmp 112) wx wy W).trans (by rw[(bU x y).2 hxy];rfl:_=VV (.bool false) W)
   have c102:=uh (i:=i) (by omega);have h0:i+1≤a.af.length∧jd a.af b.af (i+1):=⟨hlt,hi.2.up (by rw[hx,hy,hxy])⟩;have h1:a.af.length - (i+1) < a.af.length - i:=by omega
   have h2:=@rfl _ ([(2,.ptr 0 0),(3,.ptr 1 0),(7,.val (.int .i64 ((i+1:Nat):Int)))]:List (Nat×Sx.SV));have z3:=@rfl _ (eg a b s t);refine⟨[bq 100 true,(106,.any p),(107,.any (.agg x.cells.toArray)),(111,.any q),(112,.any (.agg y.cells.toArray)),(113,.bin (.bool false)),oP 102 (i+1)],[],?_⟩;exact VS (by kernel_rfl) (Sx.t8 c100 c106 c107 c111 c112 c113 c102 h0 (Sx.t2 h1 h2 z3))
  ·have c113:=fun W=>(JT (.tmp 107) (.tmp 112) wx wy W).trans (by rw[show eh x y=false from VO.2 fun hh=>hxy ((bU x y).1 hh)];rfl:_=VV (.bool true) W)
   have hf:B=false:=hB fun he=>hxy (by rw[he,hy]at hx;exact(VX.inj hx).symm);have z0:LK B [.val (.bool false)] []:=by rw[hf];rfl
   refine⟨[bq 100 true,(106,.any p),(107,.any (.agg x.cells.toArray)),(111,.any q),(112,.any (.agg y.cells.toArray)),(113,.bin (.bool true))],[],?_⟩;exact VS (by kernel_rfl) (Sx.t4 c100 c106 c107 c111 (Sx.t2 c112 c113 z0))
 ·have c100:=bF ((i:Int) < (a.af.length:Int)) (by omega)
  have hin:i=a.af.length:=by omega
  have h0:a.af=b.af:=jd.all (by rw[←hin];exact hi.2) hl;have h1:=@rfl _ ([(2,.ptr 0 0),(3,.ptr 1 0)]:List (Nat×Sx.SV));have z2:=@rfl _ (eg a b s t);refine⟨[bq 100 false],[],?_⟩;exact VS (by kernel_rfl) (Sx.t2 c100 h0 (VI h1 z2))
theorem Sq{w:World}(a b:CF)(s t:fN)(ha:gX w [] a s)(hb:gX w [] b t)(wa:iq a)(wb:iq b)(fa:jA a)(hl:a.aa.length=b.aa.length)(B:Bool)(hB:a.aa≠b.aa→B=false)(i:Nat)(hi:i≤a.aa.length∧jd a.aa b.aa i) :
  Sv w B 3 8 a.aa b.aa (eg a b s t) i:=by
 have nQ:=fa.i;by_cases hlt:i < a.aa.length
 ·have c118:=bT ((i:Int) < (a.aa.length:Int)) (by omega)
  have hx:=getD_at hlt;have hy:=getD_at (l:=b.aa) (i:=i) (by omega);have wx:=wa.i _ (dm hlt);have wy:=wb.i _ (dm (l:=b.aa) (i:=i) (by omega));obtain⟨inf,hi1,hi2⟩:=fS (P:=prog) (t:=124) (n:=3) (by kernel_rfl);obtain⟨p,hp1,hp2⟩:=ha.i.Ij Mi.aM underlying44 hi1 hi2 underlying124 rfl (by omega) hx;obtain⟨q,hq1,hq2⟩:=hb.i.Ij Mi.aM underlying44 hi1 hi2 underlying124 rfl (by omega) hy;obtain⟨x,hxe⟩:∃x,x=a.aa.getD i default:=⟨_,rfl⟩;obtain⟨y,hye⟩:∃y,y=b.aa.getD i default:=⟨_,rfl⟩;rw[←hxe]at hx wx hp2;rw[←hye]at hy wy hq2;clear hi1 hi2 hxe hye;have c124:=hp1;have c125:=hp2;have c129:=hq1;have c130:=hq2;by_cases hxy:x=y
  ·have c131:=fun W=>(JR (.tmp 125) (.tmp 130) wx wy W).trans (by rw[(bU x y).2 hxy];rfl:_=VV (.bool false) W)
   have c120:=uh (i:=i) (by omega);have h0:i+1≤a.aa.length∧jd a.aa b.aa (i+1):=⟨hlt,hi.2.up (by rw[hx,hy,hxy])⟩;have h1:a.aa.length - (i+1) < a.aa.length - i:=by omega
   have h2:=@rfl _ ([(2,.ptr 0 0),(3,.ptr 1 0),(8,.val (.int .i64 ((i+1:Nat):Int)))]:List (Nat×Sx.SV));have z3:=@rfl _ (eg a b s t);refine⟨[bq 118 true,(124,.any p),(125,.any (.agg x.cells.toArray)),(129,.any q),(130,.any (.agg y.cells.toArray)),(131,.bin (.bool false)),oP 120 (i+1)],[],?_⟩;exact VS (by kernel_rfl) (Sx.t8 c118 c124 c125 c129 c130 c131 c120 h0 (Sx.t2 h1 h2 z3))
  ·have c131:=fun W=>(JR (.tmp 125) (.tmp 130) wx wy W).trans (by rw[show eh x y=false from VO.2 fun hh=>hxy ((bU x y).1 hh)];rfl:_=VV (.bool true) W)
   have hf:B=false:=hB fun he=>hxy (by rw[he,hy]at hx;exact(VX.inj hx).symm);have z0:LK B [.val (.bool false)] []:=by rw[hf];rfl
   refine⟨[bq 118 true,(124,.any p),(125,.any (.agg x.cells.toArray)),(129,.any q),(130,.any (.agg y.cells.toArray)),(131,.bin (.bool true))],[],?_⟩;exact VS (by kernel_rfl) (Sx.t4 c118 c124 c125 c129 (Sx.t2 c130 c131 z0))
 ·have c118:=bF ((i:Int) < (a.aa.length:Int)) (by omega)
  have hin:i=a.aa.length:=by omega
  have h0:a.aa=b.aa:=jd.all (by rw[←hin];exact hi.2) hl;have h1:=@rfl _ ([(2,.ptr 0 0),(3,.ptr 1 0)]:List (Nat×Sx.SV));have z2:=@rfl _ (eg a b s t);refine⟨[bq 118 false],[],?_⟩;exact VS (by kernel_rfl) (Sx.t2 c118 h0 (VI h1 z2))
theorem Sp{w:World}(a b:CF)(s t:fN)(ha:gX w [] a s)(hb:gX w [] b t)(wa:iq a)(wb:iq b)(fa:jA a)(hl:a.rules.length=b.rules.length)(B:Bool)(hB:a.rules≠b.rules→B=false)(i:Nat)(hi:i≤a.rules.length∧jd a.rules b.rules i) :
  Sv w B 4 9 a.rules b.rules (eg a b s t) i:=by
 have nQ:=fa.l;by_cases hlt:i < a.rules.length
 ·have c136:=bT ((i:Int) < (a.rules.length:Int)) (by omega)
  have hx:=getD_at hlt;have hy:=getD_at (l:=b.rules) (i:=i) (by omega);have wx:=wa.l _ (dm hlt);have wy:=wb.l _ (dm (l:=b.rules) (i:=i) (by omega));obtain⟨inf,hi1,hi2⟩:=fS (P:=prog) (t:=81) (n:=49) (by kernel_rfl);obtain⟨p,hp1,hp2⟩:=ha.l.Ij Rl.aM underlying42 hi1 hi2 underlying81 rfl (by omega) hx;obtain⟨q,hq1,hq2⟩:=hb.l.Ij Rl.aM underlying42 hi1 hi2 underlying81 rfl (by omega) hy;obtain⟨x,hxe⟩:∃x,x=a.rules.getD i default:=⟨_,rfl⟩;obtain⟨y,hye⟩:∃y,y=b.rules.getD i default:=⟨_,rfl⟩;rw[←hxe]at hx wx hp2;rw[←hye]at hy wy hq2;clear hi1 hi2 hxe hye;have c142:=hp1;have c143:=hp2;have c147:=hq1;have c148:=hq2;by_cases hxy:x=y
  ·have c149:=fun W=>(IY (.tmp 143) (.tmp 148) wx wy W).trans (by rw[(bU x y).2 hxy];rfl:_=VV (.bool false) W)
   have c138:=uh (i:=i) (by omega);have h0:i+1≤a.rules.length∧jd a.rules b.rules (i+1):=⟨hlt,hi.2.up (by rw[hx,hy,hxy])⟩;have h1:a.rules.length - (i+1) < a.rules.length - i:=by omega
   have h2:=@rfl _ ([(2,.ptr 0 0),(3,.ptr 1 0),(9,.val (.int .i64 ((i+1:Nat):Int)))]:List (Nat×Sx.SV));have z3:=@rfl _ (eg a b s t);refine⟨[bq 136 true,(142,.any p),(143,.any (.agg x.cells.toArray)),(147,.any q),(148,.any (.agg y.cells.toArray)),(149,.bin (.bool false)),oP 138 (i+1)],[],?_⟩;exact VS (by kernel_rfl) (Sx.t8 c136 c142 c143 c147 c148 c149 c138 h0 (Sx.t2 h1 h2 z3))
  ·have c149:=fun W=>(IY (.tmp 143) (.tmp 148) wx wy W).trans (by rw[show eh x y=false from VO.2 fun hh=>hxy ((bU x y).1 hh)];rfl:_=VV (.bool true) W)
   have hf:B=false:=hB fun he=>hxy (by rw[he,hy]at hx;exact(VX.inj hx).symm);have z0:LK B [.val (.bool false)] []:=by rw[hf];rfl
   refine⟨[bq 136 true,(142,.any p),(143,.any (.agg x.cells.toArray)),(147,.any q),(148,.any (.agg y.cells.toArray)),(149,.bin (.bool true))],[],?_⟩;exact VS (by kernel_rfl) (Sx.t4 c136 c142 c143 c147 (Sx.t2 c148 c149 z0))
 ·have c136:=bF ((i:Int) < (a.rules.length:Int)) (by omega)
  have hin:i=a.rules.length:=by omega
  have h0:a.rules=b.rules:=jd.all (by rw[←hin];exact hi.2) hl;have h1:=@rfl _ ([(2,.ptr 0 0),(3,.ptr 1 0)]:List (Nat×Sx.SV));have z2:=@rfl _ (eg a b s t);refine⟨[bq 136 false],[],?_⟩;exact VS (by kernel_rfl) (Sx.t2 c136 h0 (VI h1 z2))
theorem Sa(a b:Int):VG (a !=b)=.bool (!decide (a=b)):=by by_cases h:a=b<;>simp[h]
theorem MU{w:World}(a b:CF)(s t:fN)(z0 z1 z2 z3 z4 z5 B:Bool)(hf:(z0||(z1||(z2||(z3||(z4||z5)))))=true→B=false)
  (Bj:VG ((a.ag.length:Int) !=(b.ag.length:Int))=.bool z0) (c24:VG ((a.ae.length:Int) !=(b.ae.length:Int))=.bool z1) (c33:VG ((a.af.length:Int) !=(b.af.length:Int))=.bool z2) (c42:VG ((a.aa.length:Int) !=(b.aa.length:Int))=.bool z3)
  (c51:VG ((a.rules.length:Int) !=(b.rules.length:Int))=.bool z4) (c58:VG (a.aR !=b.aR)=.bool z5) (h:(z0||(z1||(z2||(z3||(z4||z5)))))=true):Calls prog 25 #[.agg (aI a s).toArray,.agg (aI b t).toArray] w (Sx.cI ⟨w,[],fun _ _=>False⟩ (LK B)):=by
 have zz:LK B [.val (.bool false)] []:=by rw[hf h];rfl
 have CH:=VI Bj (dt.mk (b:=z0) (fun _=>c24) (dt.mk (b:=z0||z1) (fun _=>c33) (dt.mk (b:=z0||z1||z2) (fun _=>c42) (dt.mk (b:=z0||z1||z2||z3) (fun _=>c51) (dt.mk (b:=z0||z1||z2||z3||z4) (fun _=>c58) zz)))));refine Sx.bO (args:=[.val (.agg (aI a s).toArray),.val (.agg (aI b t).toArray)]) (gE w) [bq 16 z0,bq 24 z1,bq 33 z2,bq 42 z3,bq 51 z4,bq 58 z5] [] (by kernel_rfl) func25 rfl (dR rfl) rfl ?_;clear hf zz Bj c24 c33 c42 c51 c58;cases z0
 ·cases z1
  ·cases z2
   ·cases z3
    ·cases z4
     ·cases z5
      ·cases h
      ·exact VS (by kernel_rfl) CH
     ·exact VS (by kernel_rfl) CH
    ·exact VS (by kernel_rfl) CH
   ·exact VS (by kernel_rfl) CH
  ·exact VS (by kernel_rfl) CH
 ·exact VS (by kernel_rfl) CH
def Sw{α:Type}(p:Nat)(x y:List α)(mm:List Sx.Row):Sx.Loop:=.mk Nat 0 (fun i=>i≤x.length∧jd x y i) (fun i=>[(2,.ptr 0 0),(3,.ptr 1 0),(p,.val (.int .i64 ((i:Nat):Int)))]) (fun _=>mm) (fun i=>i+1) (fun i=>x.length - i) Unit (fun _=>x=y) (fun _=>[(2,.ptr 0 0),(3,.ptr 1 0)]) (fun _=>mm) (fun _=>())
theorem Sy{α:Type}(p:Nat)(x y:List α)(mm:List Sx.Row):(0≤x.length∧jd x y 0)∧(([(2,.ptr 0 0),(3,.ptr 1 0),(p,.val (.int .i64 ((0:Nat):Int)))]:List (Nat×Sx.SV))=[(2,.ptr 0 0),(3,.ptr 1 0),(p,.val (.int .i64 ((0:Nat):Int)))]∧mm=mm):=⟨⟨VL _,fun j hj=>(by omega)⟩,rfl,rfl⟩
theorem MT{w:World}(a b:CF)(s t:fN)(ha:gX w [] a s)(hb:gX w [] b t)(wa:iq a)(wb:iq b)(fa:jA a)(e0:a.ag.length=b.ag.length)(e1:a.ae.length=b.ae.length)(e2:a.af.length=b.af.length)(e3:a.aa.length=b.aa.length)(e4:a.rules.length=b.rules.length)(e5:a.aR=b.aR):Calls prog 25 #[.agg (aI a s).toArray,.agg (aI b t).toArray] w (Sx.cI ⟨w,[],fun _ _=>False⟩ (LK (eh a b))):=by
 have Bj:VG ((a.ag.length:Int) !=(b.ag.length:Int))=.bool false:=by rw[e0];exact fJ _
 have c24:VG ((a.ae.length:Int) !=(b.ae.length:Int))=.bool false:=by rw[e1];exact fJ _
 have c33:VG ((a.af.length:Int) !=(b.af.length:Int))=.bool false:=by rw[e2];exact fJ _
 have c42:VG ((a.aa.length:Int) !=(b.aa.length:Int))=.bool false:=by rw[e3];exact fJ _
 have c51:VG ((a.rules.length:Int) !=(b.rules.length:Int))=.bool false:=by rw[e4];exact fJ _
 have c58:VG (a.aR !=b.aR)=.bool false:=by rw[e5];exact fJ _
 have hB:∀{p:Prop},(a=b→p)→¬p→eh a b=false:=fun h hn=>VO.2 fun hh=>hn (h ((bU a b).1 hh));have vq:=Su a b s t ha hb wa wb fa e0 (eh a b) (hB fun hh=>by rw[hh]);obtain⟨h0,ee1⟩:=Sy 5 a.ag b.ag (eg a b s t);have rd7:=Ss a b s t ha hb wa wb fa e1 (eh a b) (hB fun hh=>by rw[hh]);obtain⟨h5,e6⟩:=Sy 6 a.ae b.ae (eg a b s t);have rd12:=Sr a b s t ha hb wa wb fa e2 (eh a b) (hB fun hh=>by rw[hh]);obtain⟨h10,e11⟩:=Sy 7 a.af b.af (eg a b s t);have rd17:=Sq a b s t ha hb wa wb fa e3 (eh a b) (hB fun hh=>by rw[hh]);obtain⟨h15,e16⟩:=Sy 8 a.aa b.aa (eg a b s t);have rd22:=Sp a b s t ha hb wa wb fa e4 (eh a b) (hB fun hh=>by rw[hh]);obtain⟨h20,e21⟩:=Sy 9 a.rules b.rules (eg a b s t);have z25f:=fun(_:Unit) (q0:a.ag=b.ag) (_:Unit) (q1:a.ae=b.ae) (_:Unit) (q2:a.af=b.af) (_:Unit) (q3:a.aa=b.aa) (_:Unit) (q4:a.rules=b.rules)=>(show LK (eh a b) [.val (.bool true)] []from by
  have:a=b:=by cases a;cases b;simp_all
  rw[(bU a b).2 this];rfl)
 clear e1;have e1:=ee1
 refine Sx.bO (args:=[.val (.agg (aI a s).toArray),.val (.agg (aI b t).toArray)]) (gE w) [bq 16 false,bq 24 false,bq 33 false,bq 42 false,bq 51 false,bq 58 false]
  [Sw 5 a.ag b.ag (eg a b s t),Sw 6 a.ae b.ae (eg a b s t),Sw 7 a.af b.af (eg a b s t),Sw 8 a.aa b.aa (eg a b s t),Sw 9 a.rules b.rules (eg a b s t)] (by kernel_rfl) func25 rfl (dR rfl) rfl ?_
 exact VS (by kernel_rfl) (Sx.t8 Bj c24 c33 c42 c51 c58 h0 e1 (VI vq (fun(x3:Unit) (hx4:a.ag=b.ag)=>(Sx.t2 h5 e6 (VI rd7 (fun(x8:Unit) (hx9:a.ae=b.ae)=>(Sx.t2 h10 e11 (VI rd12 (fun(x13:Unit) (hx14:a.af=b.af)=>(Sx.t2 h15 e16 (VI rd17 (fun(x18:Unit) (hx19:a.aa=b.aa)=>(Sx.t2 h20 e21 (VI rd22 (fun(x23:Unit) (hx24:a.rules=b.rules)=>(z25f x3 hx4 x8 hx9 x13 hx14 x18 hx19 x23 hx24))))))))))))))))
theorem IP{w:World}(a b:CF)(s t:fN)(ha:gX w [] a s)(hb:gX w [] b t)(wa:iq a)(wb:iq b)(fa:jA a):Calls prog 25 #[.agg (aI a s).toArray,.agg (aI b t).toArray] w (Rn w (.bool (eh a b))):=by
 have main:Calls prog 25 #[.agg (aI a s).toArray,.agg (aI b t).toArray] w (Sx.cI ⟨w,[],fun _ _=>False⟩ (LK (eh a b))):=by
  by_cases e:a.ag.length=b.ag.length∧a.ae.length=b.ae.length∧a.af.length=b.af.length∧a.aa.length=b.aa.length∧a.rules.length=b.rules.length∧a.aR=b.aR
  ·exact MT a b s t ha hb wa wb fa e.1 e.2.1 e.2.2.1 e.2.2.2.1 e.2.2.2.2.1 e.2.2.2.2.2
  ·exact MU a b s t _ _ _ _ _ _ _ (fun _=>VO.2 fun hh=>e (by rw[(bU a b).1 hh];exact⟨rfl,rfl,rfl,rfl,rfl,rfl⟩)) (Sa _ _) (Sa _ _) (Sa _ _) (Sa _ _) (Sa _ _) (Sa _ _) (by simp only[VU,Bool.not_eq_true',decide_eq_false_iff_not];omega)
 refine main.mono fun en w' hp=>?_;rcases hp with⟨β,l,mem,hl,he,hR⟩ | ⟨_,_,hf,_⟩
 ·have hl:l=[.val (.bool (eh a b))]:=hl
  subst hl;exact⟨he,hR.aD⟩
 ·exact hf.elim
set_option maxRecDepth 100000
open Go Go.RowKit Go.Lib Go.Sort _root_.Go.Proofs.Tryz
def yn:Px:=⟨false,10*2^120,8⟩
def yo:Mt:=⟨40,(0,0),oN,oN,6,(0,0),(80,90)⟩
def cN:CF:=⟨[3,4],[⟨yn,3⟩],[⟨[97],yo,3,4,[109],[99]⟩,⟨[98],lG,2,0,[],[]⟩],[⟨[109],5,2,9⟩],[⟨[99],4,16⟩],1⟩
def Vi(cf:CF)(l:List Sx.SV)(mem:List Sx.Row):Prop:=∃k0 k1 k2 k3 k4,l=[.dG [.o k0,.o k1,.o k2,.o k3,.o k4,.v (.int .i64 cf.aR)]]∧mem[k0]?=some ⟨3,.own 1 cf.ag.length cf.cp⟩∧mem[k1]?=some ⟨118,.own 19 cf.ae.length cf.cr⟩∧mem[k2]?=some ⟨81,.own 49 cf.rules.length cf.cl⟩∧mem[k3]?=some ⟨122,.own 4 cf.af.length cf.cm⟩∧mem[k4]?=some ⟨124,.own 3 cf.aa.length cf.ci⟩
theorem GS(w:World):Calls prog 67 #[] w (Sx.cI ⟨w,[],fun _ _=>False⟩ (Vi cN)):=by have z0:Vi cN [.dG [.o 3,.o 4,.o 7,.o 5,.o 6,.v (.int .i64 1)]] [⟨46,.cU [.own 3,.own 4,.own 7,.own 5,.own 6,.val (.int .i64 1)]⟩,⟨29,.ai yn.cells⟩,⟨66,.ai yo.cells⟩,⟨3,.own 1 2 cN.cp⟩,⟨118,.own 19 1 cN.cr⟩,⟨122,.own 4 1 cN.cm⟩,⟨124,.own 3 1 cN.ci⟩,⟨81,.own 49 2 cN.cl⟩]:=⟨3,4,7,5,6,rfl,rfl,rfl,rfl,rfl,rfl⟩;refine Sx.bO (args:=[]) (gE w) [(9,.ij 3 1),(12,.ij 118 19),(15,.ij 122 4),(17,.ij 124 3),(21,.ij 81 49)] [] (by kernel_rfl) func67 rfl (dR rfl) rfl ?_;exact VS (by kernel_rfl) z0
open Go.RowKit Go.Lib Go.Sort
theorem Sc{α:Type}(pre:List α)(x:α)(r:List α):(pre++x::r)[pre.length]?=some x:=by simp
theorem RC{α:Type}(pre:List α)(x y:α)(r:List α):(pre++x::y::r)[pre.length+1]?=some y:=by rw[We (by omega)];simp
theorem cS{is:Bool}{code e:Int}(hc:code≠0):aO is code e=0↔is=true∧e=0:=by
 unfold aO;cases is with
 |true=>simp
 |false=>
  by_cases h:e=0
  ·rw[decide_eq_true h];simp[hc]
  ·rw[decide_eq_false h];simp[h]
theorem LI{out:Bool}{pre r:List Bs}{act o:Int}(hb:jf act o=true)(hout:out=true∨act≠3)(ho:o≤9223372036854775807):nL out (pre++(aS act o++r)) pre.length=.ok (act,o) (pre.length+(aS act o).length):=by
 unfold jf at hb;simp only[VP,VU,decide_eq_true_eq]at hb;obtain⟨⟨h1,h4⟩,h0,hz⟩:=hb;unfold nL;by_cases a1:act=1
 ·have hz0:o=0:=by omega
  have e:aS act o=[di]:=by unfold aS;rw[if_pos a1]
  rw[e];simp only[VM,VN];rw[gG (Sc pre di r)];simp only[Out.bind,if_true];rw[a1,hz0];rfl
 by_cases a2:act=2
 ·have hz0:o=0:=by omega
  have e:aS act o=[lA]:=by unfold aS;rw[if_neg a1,if_pos a2]
  rw[e];simp only[VM,VN];rw[gG (Sc pre lA r)];simp only[Out.bind];rw[if_neg (by decide),if_pos trivial,a2,hz0];rfl
 by_cases a3:act=3
 ·have e:aS act o=[oy,cx o]:=by unfold aS;rw[if_neg a1,if_neg a2,if_pos a3]
  have ht:out=true:=by
   rcases hout with h|h
   ·exact h
   ·exact absurd a3 h
  rw[e];simp only[VM,VN];rw[gG (Sc pre oy (cx o::r))];simp only[Out.bind];rw[if_neg (by decide),if_neg (by decide),if_neg (by decide),if_pos ⟨trivial,ht⟩];have:=um (ws:=pre++oy::cx o::r) (i:=pre.length+1) (n:=o) (RC pre oy (cx o) r) h0 ho;rw[this];show Out.ok (3,((o.toNat:Nat):Int)) (pre.length+1+1)=_;rw[VQ h0,a3];rfl
 ·have a4:act=4:=by omega
  have hz0:o=0:=by omega
  have e:aS act o=[fZ]:=by unfold aS;rw[if_neg a1,if_neg a2,if_neg a3,if_pos a4]
  rw[e];simp only[VM,VN];rw[gG (Sc pre fZ r)];simp only[Out.bind];rw[if_neg (by decide),if_neg (by decide),if_pos trivial,a4,hz0];rfl
theorem Jz{k s:Bs}{pre r:List Bs}(hs:gi s=true)(hr:r[0]?≠some k):nH k (pre++(cO k s++r)) pre.length=.ok s (pre.length+(cO k s).length):=by
 unfold nH cO;by_cases h:s=[]
 ·rw[if_pos h,VN]
  have e:(pre++r)[pre.length]?=r[0]?:=by rw[We (by omega),Nat.sub_self]
  rw[iH (by rw[e];exact hr),h];rfl
 ·rw[if_neg h]
  have hn:aJ s=true:=by unfold gi at hs;rw[decide_eq_false h]at hs;exact hs
  simp only[VM,VN];rw[jh (Sc pre k (s::r))];show fh (pre++k::s::r) (pre.length+1)=_;rw[rZ (RC pre k s r) hn];rfl
def cV(r:Rl):List Bs:=[fY,r.name]++(wm r.mt++([wB]++(aS r.act r.out++(cO bK r.cK++(cO ba r.bL++[])))))
theorem QJ(l:List Bs):TQ ([wB]++l):=fun x hx=>by cases hx;decide
structure Ib(r:Rl):Prop where
 mt:DG r.mt
 out:r.out≤9223372036854775807
theorem MZ(hU:LN){r:Rl}(hr:Ib r)(hc:bp r.mt=true)(hn:aJ r.name=true)(ha:jf r.act r.out=true)(hme:gi r.cK=true)(hmi:gi r.bL=true):lU (cV r) 1=.ok r (cV r).length:=by
 have hp1:∀{α β:Type} (a:α) (i:Nat) (f:α→Nat→Out β),(Out.ok a i).bind f=f a i:=fun _ _ _=>rfl;unfold lU;rw[show fh (cV r) 1=.ok r.name 2 from rZ rfl hn,hp1];have hm:=JV hU (M:=r.mt) hr.mt hc (pre:=[fY,r.name]) (r:=[wB]++(aS r.act r.out++(cO bK r.cK++(cO ba r.bL++[])))) (QJ _);rw[show fk (cV r) 2=.ok r.mt (2+(wm r.mt).length)from hm,hp1];obtain⟨p1,hp⟩:∃p1,p1=[fY,r.name]++wm r.mt:=⟨_,rfl⟩;have l1:p1.length=2+(wm r.mt).length:=by rw[hp,VF];rfl
 have e1:cV r=p1++(wB::(aS r.act r.out++(cO bK r.cK++(cO ba r.bL++[])))):=by rw[hp];unfold cV;simp
 rw[←l1];have e2:JQ r.mt (cV r) p1.length=.ok () (p1.length+1):=by unfold JQ;rw[gG (x:=wB) (by rw[e1];exact Sc _ _ _),hp1];show(aK (decide (wB=wB)) 200 () (p1.length+1)).bind _=_;rw[decide_eq_true rfl];show aK (bp r.mt) 190 () (p1.length+1)=_;rw[hc];rfl
 rw[e2,hp1];obtain⟨p2,hp2⟩:∃p2,p2=p1++[wB]:=⟨_,rfl⟩;have l2:p2.length=p1.length+1:=by rw[hp2,VF];rfl
 have e3:cV r=p2++(aS r.act r.out++(cO bK r.cK++(cO ba r.bL++[]))):=by rw[e1,hp2];simp
 rw[←l2,show nL true (cV r) p2.length=.ok (r.act,r.out) (p2.length+(aS r.act r.out).length)by rw[e3];exact LI ha (.inl rfl) hr.out,hp1];obtain⟨p3,hp3⟩:∃p3,p3=p2++aS r.act r.out:=⟨_,rfl⟩;have l3:p3.length=p2.length+(aS r.act r.out).length:=by rw[hp3,VF]
 have e4:cV r=p3++(cO bK r.cK++(cO ba r.bL++[])):=by rw[e3,hp3];simp
 rw[←l3,show nH bK (cV r) p3.length=.ok r.cK (p3.length+(cO bK r.cK).length)by
  rw[e4];refine Jz hme ?_;unfold cO;split
  ·simp
  ·simp;decide,hp1]
 obtain⟨p4,hp4⟩:∃p4,p4=p3++cO bK r.cK:=⟨_,rfl⟩;have l4:p4.length=p3.length+(cO bK r.cK).length:=by rw[hp4,VF]
 have e5:cV r=p4++(cO ba r.bL++[]):=by rw[e4,hp4];simp
 rw[←l4,show nH ba (cV r) p4.length=.ok r.bL (p4.length+(cO ba r.bL).length)by rw[e5];exact Jz hmi (by simp),hp1];congr 1;rw[e5];simp
theorem nu{x:Bs}{l:List Bs}{cf cf':CF}{d:Nat}(h:eV x (x::l) 1 cf d=.ok cf' (x::l).length):cY (x::l) cf d=.ok cf' (x::l).length:=by show pG (x::l) 0 cf d=_;unfold pG;rw[gG (x:=x) rfl];show(eV x (x::l) 1 cf d).bind _=_;rw[h];show pS (x::l) cf' (x::l).length=_;unfold pS;rw[decide_eq_false (by omega)]
theorem vU{n:Int}(h0:0≤n)(hn:n≤9223372036854775807)(cf:CF)(d:Nat):cY (dX n) cf d=.ok { cf with ag:=cf.ag++[n] } 2:=by refine nu ?_;unfold eV;rw[if_pos rfl,um (n:=n) rfl h0 hn];show Out.ok { cf with ag:=cf.ag++[((n.toNat:Nat):Int)] } 2=_;rw[VQ h0];rfl
theorem Ch(hU:LN){r:Rt}(hp:r.pf.n < 2^128)(hk:gv r.pf.v r.pf.n r.pf.k=true)(h0:0≤r.out)(hn:r.out≤9223372036854775807)(cf:CF)(d:Nat):cY (eB r) cf d=.ok { cf with ae:=cf.ae++[r] } 3:=by refine nu ?_;unfold eV;rw[if_neg (by decide),if_pos rfl,prefix_at hU (p:=r.pf) rfl hp hk];show(gz _ 2).bind _=_;rw[um (n:=r.out) rfl h0 hn];show Out.ok { cf with ae:=cf.ae++[(⟨r.pf,((r.out.toNat:Nat):Int)⟩:Rt)] } 3=_;rw[VQ h0];rfl
theorem Cy{m:Me}(hn:aJ m.name=true)(h1:m.num≤18446744073709551615)(h2:m.den≤18446744073709551615)(h3:m.nR≤18446744073709551615)(cf:CF)(d:Nat):cY (eF m) cf d=.ok { cf with af:=cf.af++[m] } 5:=by refine nu ?_;unfold eV;rw[if_neg (by decide),if_neg (by decide),if_pos rfl,rZ (x:=m.name) rfl hn];show(bc _ _ 2).bind _=_;rw[kg (n:=m.num) rfl h1];show(bc _ _ 3).bind _=_;rw[kg (n:=m.den) rfl h2];show(bc _ _ 4).bind _=_;rw[kg (n:=m.nR) rfl h3];rfl
theorem zT{m:Mi}(hn:aJ m.name=true)(h1:0≤m.out)(h2:m.out≤9223372036854775807)(h3:0≤m.room)(h4:m.room≤9223372036854775807)(cf:CF)(d:Nat):cY (dA m) cf d=.ok { cf with aa:=cf.aa++[m] } 4:=by refine nu ?_;unfold eV;rw[if_neg (by decide),if_neg (by decide),if_neg (by decide),if_pos rfl,rZ (x:=m.name) rfl hn];show(gz _ 2).bind _=_;rw[um (n:=m.out) rfl h1 h2];show(gz _ 3).bind _=_;rw[um (n:=m.room) rfl h3 h4];show Out.ok { cf with aa:=cf.aa++[(⟨m.name,((m.out.toNat:Nat):Int),((m.room.toNat:Nat):Int)⟩:Mi)] } 4=_;rw[VQ h1,VQ h3];rfl
theorem FG(hU:LN){r:Rl}(hr:Ib r)(hc:bp r.mt=true)(hn:aJ r.name=true)(ha:jf r.act r.out=true)(hme:gi r.cK=true)(hmi:gi r.bL=true)(cf:CF)(d:Nat):cY (cV r) cf d=.ok { cf with rules:=cf.rules++[r] } (cV r).length:=by refine nu (x:=fY) ?_;unfold eV;rw[if_neg (by decide),if_neg (by decide),if_neg (by decide),if_neg (by decide),if_pos rfl];have:=MZ hU hr hc hn ha hme hmi;show(lU (cV r) 1).bind _=_;rw[this];rfl
theorem Ha{a:Int}(h:a=1∨a=2∨a=4)(cf:CF):cY (gW a) cf 0=.ok { cf with aR:=a } 2:=by
 have hl:(aS a 0).length=1:=by rcases h with rfl|rfl|rfl<;>rfl
 have hb:jf a 0=true:=by rcases h with rfl|rfl|rfl<;>decide
 have ha:=LI (out:=false) (pre:=[bj]) (r:=[]) hb (.inr (by omega)) (by omega);rw[hl,List.append_nil]at ha;have h2:(bj::aS a 0).length=2:=by rw[VH,hl]
 have:=nu (x:=bj) (l:=aS a 0) (cf:=cf) (cf':={ cf with aR:=a }) (d:=0) (by unfold eV;rw[if_neg (by decide),if_neg (by decide),if_neg (by decide),if_neg (by decide),if_neg (by decide),if_pos rfl];show(nL false (bj::aS a 0) 1).bind _=_;rw[show nL false (bj::aS a 0) 1=.ok (a,0) 2 from ha,h2];rfl);rw[h2]at this;exact this
theorem kS{l:Bs}{ls:List Bs}{k i:Nat}{cf cf':CF}{d:Nat}(h:cY (aj true l) cf d=.ok cf' i):bJ (l::ls) k cf d=bJ ls (k+1) cf' (dN (aj true l) d):=by rw[bJ,h]
theorem iy{α:Type}{W:α→List Bs}{add:CF→α→CF}{d:Nat}{rest:List Bs}:∀(l:List α) (k:Nat) (cf:CF),(∀a∈l,(∀x∈W a,du x)∧(W a)[0]?≠some bj∧∀cf,∃i,cY (W a) cf d=.ok (add cf a) i)→
  bJ (l.map (fun a=>aE 32 (W a))++rest) k cf d=bJ rest (k+l.length) (l.foldl add cf) d
 | [],k,cf,_=>rfl
 |a::l,k,cf,h=>by
  obtain⟨h1,h2,h3⟩:=h a (by simp);obtain⟨i,hi⟩:=h3 cf;have e:=nT true (W a) h1;rw[Wi,VM,kS (by rw[e];exact hi),e];have:dN (W a) d=d:=by unfold dN;rw[if_neg h2]
  rw[this,iy l (k+1) (add cf a) fun b hb=>h b (VK _ hb),VH];congr 1;omega
structure mV(cf:CF):Prop where
 ag:∀n∈cf.ag,0≤n∧n≤9223372036854775807
 ae:∀r∈cf.ae,r.pf.n < 2^128∧gv r.pf.v r.pf.n r.pf.k=true∧0≤r.out∧r.out≤9223372036854775807
 af:∀m∈cf.af,aJ m.name=true∧m.num≤18446744073709551615∧m.den≤18446744073709551615∧m.nR≤18446744073709551615
 aa:∀m∈cf.aa,aJ m.name=true∧0≤m.out∧m.out≤9223372036854775807∧0≤m.room∧m.room≤9223372036854775807
 rules:∀r∈cf.rules,Ib r∧bp r.mt=true∧aJ r.name=true∧jf r.act r.out=true∧gi r.cK=true∧gi r.bL=true
 aR:cf.aR=1∨cf.aR=2∨cf.aR=4
structure RV(cf:CF):Prop where
 ag:∀n∈cf.ag,n≤9223372036854775807
 ae:∀r∈cf.ae,r.pf.n < 2^128∧r.out≤9223372036854775807
 af:∀m∈cf.af,m.num≤18446744073709551615∧m.den≤18446744073709551615∧m.nR≤18446744073709551615
 aa:∀m∈cf.aa,m.out≤9223372036854775807∧m.room≤9223372036854775807
 rules:∀r∈cf.rules,Ib r
theorem fold_zero{α:Type}{E:Int→α→Int}{p:α→Prop}(h:∀e a,E e a=0↔p a∧e=0):∀(l:List α) (e:Int),l.foldl E e=0↔(∀a∈l,p a)∧e=0
 | [],e=>by simp
 |a::l,e=>by
  rw[VR,fold_zero h l,h];constructor
  ·rintro⟨h1,h2,h3⟩
   exact⟨fun b hb=>by
    rcases VJ.1 hb with rfl|hb
    ·exact h2
    ·exact h1 b hb,h3⟩
  ·rintro⟨h1,h2⟩
   exact⟨fun b hb=>h1 b (VK _ hb),h1 a (by simp),h2⟩
theorem Dm(cf:CF):rA cf=0↔(∀n∈cf.ag,0≤n)∧(∀r∈cf.ae,0≤r.out∧gv r.pf.v r.pf.n r.pf.k=true)∧(∀m∈cf.af,aJ m.name=true)∧(∀m∈cf.aa,(0≤m.out∧0≤m.room)∧aJ m.name=true)∧
  (∀r∈cf.rules,gi r.bL=true∧gi r.cK=true∧jf r.act r.out=true∧bp r.mt=true∧aJ r.name=true)∧(cf.aR=1∨cf.aR=2∨cf.aR=4):=by
 have pE:∀e n,Ek e n=0↔0≤n∧e=0:=fun e n=>by unfold Ek;rw[cS (by decide)];simp
 have rE:∀e (r:Rt),xC e r=0↔(0≤r.out∧gv r.pf.v r.pf.n r.pf.k=true)∧e=0:=fun e r=>by unfold xC;rw[cS (by decide),cS (by decide)];simp[and_assoc]
 have mE:∀e (m:Me),xR e m=0↔aJ m.name=true∧e=0:=fun e m=>by unfold xR;rw[cS (by decide)]
 have iE:∀e (m:Mi),ns e m=0↔((0≤m.out∧0≤m.room)∧aJ m.name=true)∧e=0:=fun e m=>by unfold ns;rw[cS (by decide),cS (by decide)];simp[and_assoc]
 have lE:∀e (r:Rl),qO e r=0↔(gi r.bL=true∧gi r.cK=true∧jf r.act r.out=true∧bp r.mt=true∧aJ r.name=true)∧e=0:=fun e r=>by unfold qO;rw[cS (by decide),cS (by decide),cS (by decide),cS (by decide),cS (by decide)];simp[and_assoc]
 unfold rA KT;rw[cS (by decide),fold_zero lE,fold_zero iE,fold_zero mE,fold_zero rE,fold_zero pE];simp only[VU,decide_eq_true_eq,and_true];constructor
 ·rintro⟨h1,h2,h3,h4,h5,h6⟩
  exact⟨h6,h5,h4,h3,h2,h1⟩
 ·rintro⟨h1,h2,h3,h4,h5,h6⟩
  exact⟨h6,h5,h4,h3,h2,h1⟩
theorem Bc{cf:CF}(h:RV cf):rA cf=0↔mV cf:=by
 rw[Dm];constructor
 ·rintro⟨h1,h2,h3,h4,h5,h6⟩
  exact⟨fun n hn=>⟨h1 n hn,h.ag n hn⟩,fun r hr=>⟨(h.ae r hr).1,(h2 r hr).2,(h2 r hr).1,(h.ae r hr).2⟩,fun m hm=>⟨h3 m hm,h.af m hm⟩,fun m hm=>⟨(h4 m hm).2,(h4 m hm).1.1,(h.aa m hm).1,(h4 m hm).1.2,(h.aa m hm).2⟩,
   fun r hr=>⟨h.rules r hr,(h5 r hr).2.2.2.1,(h5 r hr).2.2.2.2,(h5 r hr).2.2.1,(h5 r hr).2.1,(h5 r hr).1⟩,h6⟩
 ·intro h
  exact⟨fun n hn=>(h.ag n hn).1,fun r hr=>⟨(h.ae r hr).2.2.1,(h.ae r hr).2.1⟩,fun m hm=>(h.af m hm).1,fun m hm=>⟨⟨(h.aa m hm).2.1,(h.aa m hm).2.2.2.1⟩,(h.aa m hm).1⟩,
   fun r hr=>⟨(h.rules r hr).2.2.2.2.2,(h.rules r hr).2.2.2.2.1,(h.rules r hr).2.2.2.1,(h.rules r hr).2.1,(h.rules r hr).2.2.1⟩,h.aR⟩
open Go.RowKit Go.Lib Go.Sort
theorem kD{c:UInt8}(h:36≤c.toNat):vE c:=⟨fun e=>by subst e;exact absurd h (by decide),fun e=>by subst e;exact absurd h (by decide),fun e=>by subst e;exact absurd h (by decide),fun e=>by subst e;exact absurd h (by decide)⟩
theorem yv{b:Nat}(h2:2≤b)(h16:b≤16)(u:Nat):∀c∈ao b u,vE c:=fun c hc=>by obtain⟨d,hd,rfl⟩:=iW h2 u c hc;refine kD ?_;rw[eZ (by omega)];split<;>omega
theorem kt(u:Nat):du (ao 10 u):=⟨js u,yv (by omega) (by omega) u⟩
theorem LB{a b:Bs}(ha:∀c∈a,vE c)(hb:∀c∈b,vE c):∀c∈a++b,vE c:=fun c hc=>by
 rcases Wb.1 hc with h|h
 ·exact ha c h
 ·exact hb c h
theorem yx{x:UInt8}{b:Bs}(hx:vE x)(hb:∀c∈b,vE c):∀c∈x::b,vE c:=fun c hc=>by
 rcases VJ.1 hc with rfl|h
 ·exact hx
 ·exact hb c h
theorem Kl{s:UInt8}(hs:vE s){l:List Bs}(h:∀x∈l,∀c∈x,vE c):∀c∈aE s l,vE c:=fun c hc=>by
 rcases fe hc with rfl|⟨x,hx,h1⟩
 ·exact hs
 ·exact h x hx c h1
theorem yd(l:List Nat):∀c∈cH l,vE c:=Kl (kD (by decide)) fun x hx=>by obtain⟨u,_,rfl⟩:=Wq.1 hx;exact yv (by omega) (by omega) u
theorem MH(v:Bool)(n:Nat):∀c∈iI v n,vE c:=by
 cases v with
 |false=>show ∀c∈gk n,vE c;refine Kl (kD (by decide)) fun x hx=>?_;simp at hx;rcases hx with rfl|rfl|rfl|rfl<;>exact yv (by omega) (by omega) _
 |true=>
  show ∀c∈db (bD n),vE c;unfold db;split
  ·exact yd _
  ·exact LB (yd _) (yx (kD (by decide)) (yx (kD (by decide)) (yd _)))
theorem MG(v:Bool)(n:Nat)(k:Int):du (oT v n k):=by unfold oT;refine⟨by simp,LB (MH v n) (yx (kD (by decide)) (yv (by omega) (by omega) _))⟩
theorem Jn{p:Px}(h:gv p.v p.n p.k=true):du (tb p):=by unfold tb tm;rw[if_pos h];exact MG _ _ _
theorem SW{i:Nat}{c:UInt8}(h:Ex i c=true):vE c:=by refine kD ?_;unfold Ex at h;simp only[VU,VP,decide_eq_true_eq]at h;omega
theorem xP{x:Bs}(h:aJ x=true):du x:=by unfold aJ at h;simp only[VP,decide_eq_true_eq,Wn,List.mem_range]at h;refine⟨fun e=>by rw[e]at h;exact absurd h.1.1 (by decide),fun c hc=>?_⟩;obtain⟨i,hi,rfl⟩:=List.mem_iff_getElem.1 hc;have:=h.2 i hi;rw[VY hi]at this;exact SW this
theorem ui{n:Int}(h:0≤n):du (cx n):=by rw[wF h];exact kt _
theorem fj{x:Bs}(h:(!x.isEmpty&&x.all fun c=>decide (36≤c.toNat))=true):du x:=by simp only[VP,Wn,decide_eq_true_eq]at h;refine⟨fun e=>by subst e;exact absurd h.1 (by decide),fun c hc=>kD (h.2 c hc)⟩
theorem BY(s:Nat×Nat):du (ef s):=by
 unfold ef;split
 ·exact kt _
 ·exact⟨by simp,LB (kt _).2 (yx (kD (by decide)) (kt _).2)⟩
theorem Np(n:Nat):du (dw n):=by
 unfold dw;split
 ·exact fj (by decide)
 split
 ·exact fj (by decide)
 ·exact kt _
theorem OB{M:Mt}{k:Nat}(hk:k < 6)(hb:M.asks.testBit k=true)(hs:M.asks.testBit 1=true→gv M.src.v M.src.n M.src.k=true)(hd:M.asks.testBit 2=true→gv M.dst.v M.dst.n M.dst.k=true):∀x∈bA M k,du x:=by
 have two:∀{a b:Bs},du a→du b→∀x∈[a,b],du x:=fun {a b} ha hb x hx=>by
  simp at hx;rcases hx with rfl|rfl
  ·exact ha
  ·exact hb
 match k,hk with
 | 0,_=>exact two (fj (by decide)) (BY _)
 | 1,_=>exact two (fj (by decide)) (Jn (hs hb))
 | 2,_=>exact two (fj (by decide)) (Jn (hd hb))
 | 3,_=>exact two (fj (by decide)) (Np _)
 | 4,_=>exact two (fj (by decide)) (BY _)
 | 5,_=>exact two (fj (by decide)) (BY _)
theorem SY{M:Mt}(hc:bp M=true):∀x∈wm M,du x:=by
 obtain⟨_,_,_,_,_,_,_,hs,hd⟩:=mF hc;unfold wm;split
 ·intro x hx;rw[VE.1 hx];exact fj (by decide)
 ·rw[ov]
  intro x hx;obtain⟨k,hk,hx⟩:=List.mem_flatMap.1 hx;exact OB (iS hk).1 (iS hk).2 hs hd x hx
theorem QO{M:Mt}(hc:bp M=true):wm M≠[]:=by
 have ha:=(mF hc).1;unfold wm;split
 ·simp
 ·rename_i h0
  rw[ov];obtain⟨k,ks,hks⟩:=List.exists_cons_of_ne_nil (PK h0 ha);obtain⟨x,y,e,_⟩:=pM M (iS (M:=M) (k:=k) (by rw[hks];simp)).1;rw[hks,List.flatMap_cons,e];simp
theorem PV{act o:Int}(h:jf act o=true):∀x∈aS act o,du x:=by
 unfold jf at h;simp only[VP,decide_eq_true_eq]at h;unfold aS;split
 ·intro x hx;rw[VE.1 hx];exact fj (by decide)
 split
 ·intro x hx;rw[VE.1 hx];exact fj (by decide)
 split
 ·intro x hx
  simp at hx;rcases hx with rfl|rfl
  ·exact fj (by decide)
  ·exact ui h.2.1
 split
 ·intro x hx;rw[VE.1 hx];exact fj (by decide)
 ·intro x hx;cases hx
theorem PC{k s:Bs}(hk:du k)(h:gi s=true):∀x∈cO k s,du x:=by
 unfold cO;split
 ·intro x hx;cases hx
 ·rename_i h0
  have hn:aJ s=true:=by unfold gi at h;rw[decide_eq_false h0]at h;exact h
  intro x hx;simp at hx;rcases hx with rfl|rfl
  ·exact hk
  ·exact xP hn
theorem IU{r:Rl}(hc:bp r.mt=true)(hn:aJ r.name=true)(ha:jf r.act r.out=true)(hme:gi r.cK=true)(hmi:gi r.bL=true):∀x∈cV r,du x:=by
 intro x hx;unfold cV at hx;simp only[Wb,VJ,Wa,or_false]at hx;rcases hx with(rfl|rfl)|hx|rfl|hx|hx|hx
 ·exact fj (by decide)
 ·exact xP hn
 ·exact SY hc x hx
 ·exact fj (by decide)
 ·exact PV ha x hx
 ·exact PC (fj (by decide)) hme x hx
 ·exact PC (fj (by decide)) hmi x hx
theorem FH{r:Rl}(hc:bp r.mt=true):aE 32 (dv r)=aE 32 (cV r):=by
 have e:Gb r.mt=aE 32 (wm r.mt):=by unfold Gb;rw[hc];exact CB _
 have h1:dv r=fY::(r.name::aE 32 (wm r.mt)::([wB]++(aS r.act r.out++(cO bK r.cK++(cO ba r.bL++[]))))):=by unfold dv;rw[e];simp
 have h2:cV r=fY::(r.name::(wm r.mt++([wB]++(aS r.act r.out++(cO bK r.cK++(cO ba r.bL++[])))))):=rfl;have h3:=GH 32 r.name (wm r.mt) ([wB]++(aS r.act r.out++(cO bK r.cK++(cO ba r.bL++[])))) (QO hc);rw[h1,h2];show fY++32::aE 32 (r.name::_)=fY++32::aE 32 (r.name::_);rw[h3]
def Hk(cf:CF):List (List Bs):=cf.ag.map dX++cf.ae.map eB++cf.af.map eF++cf.aa.map dA++cf.rules.map cV++[gW cf.aR]
theorem CL(a b:List (List Bs)):cL (a++b)=cL a++cL b:=by simp[cL]
theorem tY{α:Type}(f g:α→List Bs):∀l:List α,(∀a∈l,aE 32 (f a)=aE 32 (g a))→cL (l.map f)=cL (l.map g)
 | [],_=>rfl
 |a::l,h=>by show fL (f a)++cL (l.map f)=fL (g a)++cL (l.map g);unfold fL;rw[h a (by simp),tY f g l fun b hb=>h b (VK _ hb)]
theorem Hl{cf:CF}(h:mV cf):ey cf=cL (Hk cf):=by unfold ey ju Hk;simp only[CL];rw[tY dv cV cf.rules fun r hr=>FH (h.rules r hr).2.1]
theorem Ej{cf:CF}(h:mV cf):∀n∈cf.ag,∀x∈dX n,du x:=fun n hn x hx=>by
 simp[dX]at hx;rcases hx with rfl|rfl
 ·exact fj (by decide)
 ·exact ui (h.ag n hn).1
theorem zC{cf:CF}(h:mV cf):∀n∈cf.ae,∀x∈eB n,du x:=fun n hn x hx=>by
 simp[eB]at hx;rcases hx with rfl|rfl|rfl
 ·exact fj (by decide)
 ·exact Jn (h.ae n hn).2.1
 ·exact ui (h.ae n hn).2.2.1
theorem zU{cf:CF}(h:mV cf):∀n∈cf.af,∀x∈eF n,du x:=fun n hn x hx=>by
 simp[eF]at hx;rcases hx with rfl|rfl|rfl|rfl|rfl
 ·exact fj (by decide)
 ·exact xP (h.af n hn).1
 all_goals exact kt _
theorem wj{cf:CF}(h:mV cf):∀n∈cf.aa,∀x∈dA n,du x:=fun n hn x hx=>by
 simp[dA]at hx;rcases hx with rfl|rfl|rfl|rfl
 ·exact fj (by decide)
 ·exact xP (h.aa n hn).1
 ·exact ui (h.aa n hn).2.1
 ·exact ui (h.aa n hn).2.2.2.1
theorem Ed{cf:CF}(h:mV cf):∀r∈cf.rules,∀x∈cV r,du x:=fun r hr=>by have:=h.rules r hr;exact IU this.2.1 this.2.2.1 this.2.2.2.1 this.2.2.2.2.1 this.2.2.2.2.2
theorem KS{a:Int}(h:a=1∨a=2∨a=4):∀x∈gW a,du x:=by
 intro x hx;unfold gW at hx;rcases VJ.1 hx with rfl|hx
 ·exact fj (by decide)
 ·exact PV (by rcases h with rfl|rfl|rfl<;>decide) x hx
theorem Rs{cf:CF}(h:mV cf):∀ws∈Hk cf,∀x∈ws,du x:=by
 intro ws hws x hx;unfold Hk at hws;simp only[Wb,Wq,VE]at hws;rcases hws with((((⟨n,hn,rfl⟩ | ⟨n,hn,rfl⟩)|⟨n,hn,rfl⟩)|⟨n,hn,rfl⟩)|⟨n,hn,rfl⟩)|rfl
 ·exact Ej h n hn x hx
 ·exact zC h n hn x hx
 ·exact zU h n hn x hx
 ·exact wj h n hn x hx
 ·exact Ed h n hn x hx
 ·exact KS h.aR x hx
theorem uB:∀(l:List Int) (cf:CF),l.foldl (fun cf n=>{ cf with ag:=cf.ag++[n] }) cf={ cf with ag:=cf.ag++l }
 | [],cf=>by simp
 |a::l,cf=>by rw[VR,uB l];simp
theorem rm:∀(l:List Rt) (cf:CF),l.foldl (fun cf n=>{ cf with ae:=cf.ae++[n] }) cf={ cf with ae:=cf.ae++l }
 | [],cf=>by simp
 |a::l,cf=>by rw[VR,rm l];simp
theorem rn:∀(l:List Me) (cf:CF),l.foldl (fun cf n=>{ cf with af:=cf.af++[n] }) cf={ cf with af:=cf.af++l }
 | [],cf=>by simp
 |a::l,cf=>by rw[VR,rn l];simp
theorem pK:∀(l:List Mi) (cf:CF),l.foldl (fun cf n=>{ cf with aa:=cf.aa++[n] }) cf={ cf with aa:=cf.aa++l }
 | [],cf=>by simp
 |a::l,cf=>by rw[VR,pK l];simp
theorem uA:∀(l:List Rl) (cf:CF),l.foldl (fun cf n=>{ cf with rules:=cf.rules++[n] }) cf={ cf with rules:=cf.rules++l }
 | [],cf=>by simp
 |a::l,cf=>by rw[VR,uA l];simp
theorem Rz(hU:LN){cf:CF}(h:mV cf):bJ (aw (ey cf)) 1 wZ 0=.ok cf:=by rw[Hl h,qZ (Hk cf) fun ws hws x hx=>(Rs h ws hws x hx).2];unfold Hk;simp only[List.map_append,List.map_map,Wd];show bJ (cf.ag.map (fun n=>aE 32 (dX n))++_) 1 wZ 0=_;rw[iy (W:=dX) (add:=fun cf n=>{ cf with ag:=cf.ag++[n] }) cf.ag _ _ fun n hn=>⟨Ej h n hn,by simp[dX];decide,fun c=>⟨_,vU (h.ag n hn).1 (h.ag n hn).2 c 0⟩⟩,uB];show bJ (cf.ae.map (fun n=>aE 32 (eB n))++_) _ _ 0=_;rw[iy (W:=eB) (add:=fun cf n=>{ cf with ae:=cf.ae++[n] }) cf.ae _ _ fun n hn=>⟨zC h n hn,by simp[eB];decide,fun c=>⟨_,Ch hU (h.ae n hn).1 (h.ae n hn).2.1 (h.ae n hn).2.2.1 (h.ae n hn).2.2.2 c 0⟩⟩,rm];show bJ (cf.af.map (fun n=>aE 32 (eF n))++_) _ _ 0=_;rw[iy (W:=eF) (add:=fun cf n=>{ cf with af:=cf.af++[n] }) cf.af _ _ fun n hn=>⟨zU h n hn,by simp[eF];decide,fun c=>⟨_,Cy (h.af n hn).1 (h.af n hn).2.1 (h.af n hn).2.2.1 (h.af n hn).2.2.2 c 0⟩⟩,rn];show bJ (cf.aa.map (fun n=>aE 32 (dA n))++_) _ _ 0=_;rw[iy (W:=dA) (add:=fun cf n=>{ cf with aa:=cf.aa++[n] }) cf.aa _ _ fun n hn=>⟨wj h n hn,by simp[dA];decide,fun c=>⟨_,zT (h.aa n hn).1 (h.aa n hn).2.1 (h.aa n hn).2.2.1 (h.aa n hn).2.2.2.1 (h.aa n hn).2.2.2.2 c 0⟩⟩,pK];show bJ (cf.rules.map (fun n=>aE 32 (cV n))++_) _ _ 0=_;rw[iy (W:=cV) (add:=fun cf n=>{ cf with rules:=cf.rules++[n] }) cf.rules _ _ fun n hn=>⟨Ed h n hn,by show some fY≠some bj;decide,fun c=>⟨_,FG hU (h.rules n hn).1 (h.rules n hn).2.1 (h.rules n hn).2.2.1 (h.rules n hn).2.2.2.1 (h.rules n hn).2.2.2.2.1 (h.rules n hn).2.2.2.2.2 c 0⟩⟩,uA];have hw:=nT true (gW cf.aR) (KS h.aR);show bJ (aE 32 (gW cf.aR)::[[]]) _ _ 0=_;rw[kS (by rw[hw];exact Ha h.aR _),hw];have e:aj true []=[]:=rfl;rw[kS (cf':={ ag:=cf.ag,ae:=cf.ae,rules:=cf.rules,af:=cf.af,aa:=cf.aa,aR:=cf.aR }) (i:=0) (by rw[e];rfl),e];rfl
open Go.RowKit Go.Lib Go.Sort
theorem Mt.Wf.in{m:Mt}(h:m.Wf):DG m:=⟨h.fE.1,h.fE.2,h.sp.1,h.sp.2,h.dp.1,h.dp.2,h.pr,h.sn,h.dn⟩
theorem rY{ws:List Bs}{i j:Nat}{x:Bs}(h:fh ws i=.ok x j):aJ x=true:=by obtain⟨y,k,_,h⟩:=Out.aB h;obtain⟨hb,rfl⟩:=lI h;exact hb
theorem vS{ws:List Bs}{i j:Nat}{p:Px}(h:cZ ws i=.ok p j):p.n < 2^128∧gv p.v p.n p.k=true:=by
 obtain⟨y,k,_,h⟩:=Out.aB h;obtain⟨hb,rfl⟩:=lI h;cases hr:oM y with
 |none=>rw[hr]at hb;cases hb
 |some p=>exact⟨(lZ hr).1,(lZ hr).2.1⟩
theorem mz{ws:List Bs}{i j n:Nat}(h:gz ws i=.ok n j):(0:Int)≤(n:Int)∧(n:Int)≤9223372036854775807:=by have:=ot h;omega
theorem DE{out:Bool}{ws:List Bs}{i j:Nat}{a:Int×Int}(h:nL out ws i=.ok a j):jf a.1 a.2=true∧a.2≤9223372036854775807∧(out=false→a.1=1∨a.1=2∨a.1=4):=by
 obtain⟨x,k,_,h⟩:=Out.aB h;have one:∀{b:Int×Int},Out.ok b k=.ok a j→(b=(1,0)∨b=(2,0)∨b=(4,0))→jf a.1 a.2=true∧a.2≤9223372036854775807∧(out=false→a.1=1∨a.1=2∨a.1=4):=fun {b} h hb=>by
  injection h with h _;subst h;rcases hb with rfl|rfl|rfl
  ·exact⟨by decide,by decide,fun _=>.inl rfl⟩
  ·exact⟨by decide,by decide,fun _=>.inr (.inl rfl)⟩
  ·exact⟨by decide,by decide,fun _=>.inr (.inr rfl)⟩
 split at h
 ·exact one h (.inl rfl)
 split at h
 ·exact one h (.inr (.inl rfl))
 split at h
 ·exact one h (.inr (.inr rfl))
 split at h
 ·rename_i hx
  obtain⟨n,l,hn,h⟩:=Out.aB h;injection h with h _;subst h;have:=mz hn;refine⟨?_,this.2,fun ho=>by rw[hx.2]at ho;cases ho⟩;unfold jf;simp only[VP,VU,decide_eq_true_eq];exact⟨⟨by decide,by decide⟩,this.1,.inr trivial⟩
 ·cases h
theorem Jy{k:Bs}{ws:List Bs}{i j:Nat}{x:Bs}(h:nH k ws i=.ok x j):gi x=true:=by
 obtain⟨b,l,_,h⟩:=Out.aB h;cases b with
 |true=>have:=rY h;unfold gi;rw[this,Bool.or_true]
 |false=>injection h with h _;rw[←h];decide
theorem QM{m:Mt}{ws:List Bs}{i j:Nat}{u:Unit}(h:JQ m ws i=.ok u j):bp m=true:=by obtain⟨x,k,_,h⟩:=Out.aB h;obtain⟨y,k2,_,h⟩:=Out.aB h;exact(lI h).1
theorem MY{ws:List Bs}{i j:Nat}{r:Rl}(h:lU ws i=.ok r j):Ib r∧bp r.mt=true∧aJ r.name=true∧jf r.act r.out=true∧gi r.cK=true∧gi r.bL=true:=by obtain⟨nm,_,h1,h⟩:=Out.aB h;obtain⟨m,_,h2,h⟩:=Out.aB h;obtain⟨u,_,h3,h⟩:=Out.aB h;obtain⟨a,_,h4,h⟩:=Out.aB h;obtain⟨me,_,h5,h⟩:=Out.aB h;obtain⟨mi,_,h6,h⟩:=Out.aB h;injection h with h _;subst h;exact⟨⟨(tQ h2).1.in,(DE h4).2.1⟩,QM h3,rY h1,(DE h4).1,Jy h5,Jy h6⟩
structure Ub(cf:CF)(d:Nat):Prop where
 ag:∀n∈cf.ag,0≤n∧n≤9223372036854775807
 ae:∀r∈cf.ae,r.pf.n < 2^128∧gv r.pf.v r.pf.n r.pf.k=true∧0≤r.out∧r.out≤9223372036854775807
 af:∀m∈cf.af,aJ m.name=true∧m.num≤18446744073709551615∧m.den≤18446744073709551615∧m.nR≤18446744073709551615
 aa:∀m∈cf.aa,aJ m.name=true∧0≤m.out∧m.out≤9223372036854775807∧0≤m.room∧m.room≤9223372036854775807
 rules:∀r∈cf.rules,Ib r∧bp r.mt=true∧aJ r.name=true∧jf r.act r.out=true∧gi r.cK=true∧gi r.bL=true
 aR:d≠0→cf.aR=1∨cf.aR=2∨cf.aR=4
theorem mo{α:Type}{p:α→Prop}{l:List α}{a:α}(h:∀x∈l,p x)(ha:p a):∀x∈l++[a],p x:=fun x hx=>by
 rcases Wb.1 hx with h1|h1
 ·exact h x h1
 ·rw[VE.1 h1];exact ha
theorem NT{ws:List Bs}{cf cf':CF}{d i:Nat}(h:cY ws cf d=.ok cf' i)(hc:Ub cf d):Ub cf' (dN ws d):=by
 unfold cY at h;split at h
 ·injection h with h _
  subst h;exact hc
 ·obtain⟨x,k,hx,h⟩:=Out.aB h
  obtain⟨c,k2,hb,h⟩:=Out.aB h;have hcc:cf'=c:=by
   unfold pS at h;split at h
   ·cases h
   ·injection h with h _;exact h.symm
  subst hcc;have hx0:ws[0]?=some x:=by
   unfold aP at hx;split at hx
   ·rename_i y hy;injection hx with hx _;rw[←hx];exact hy
   ·cases hx
  have dn:x≠bj→dN ws d=d:=fun hne=>by unfold dN;rw[hx0,if_neg (fun hh=>hne (VX.inj hh))]
  unfold eV at hb;split at hb
  ·rename_i hk
   rw[dn (by rw[hk];decide)];obtain⟨n,_,h1,hb⟩:=Out.aB hb;injection hb with hb _;subst hb;exact { hc with ag:=mo hc.ag (mz h1) }
  split at hb
  ·rename_i hk
   rw[dn (by rw[hk];decide)];obtain⟨p,_,h1,hb⟩:=Out.aB hb;obtain⟨n,_,h2,hb⟩:=Out.aB hb;injection hb with hb _;subst hb;exact { hc with ae:=mo hc.ae ⟨(vS h1).1,(vS h1).2,(mz h2).1,(mz h2).2⟩ }
  split at hb
  ·rename_i hk
   rw[dn (by rw[hk];decide)];obtain⟨nm,_,h1,hb⟩:=Out.aB hb;obtain⟨a,_,h2,hb⟩:=Out.aB hb;obtain⟨b,_,h3,hb⟩:=Out.aB hb;obtain⟨c,_,h4,hb⟩:=Out.aB hb;injection hb with hb _;subst hb;exact { hc with af:=mo hc.af ⟨rY h1,ot h2,ot h3,ot h4⟩ }
  split at hb
  ·rename_i hk
   rw[dn (by rw[hk];decide)];obtain⟨nm,_,h1,hb⟩:=Out.aB hb;obtain⟨a,_,h2,hb⟩:=Out.aB hb;obtain⟨b,_,h3,hb⟩:=Out.aB hb;injection hb with hb _;subst hb;exact { hc with aa:=mo hc.aa ⟨rY h1,(mz h2).1,(mz h2).2,(mz h3).1,(mz h3).2⟩ }
  split at hb
  ·rename_i hk
   rw[dn (by rw[hk];decide)];obtain⟨r,_,h1,hb⟩:=Out.aB hb;injection hb with hb _;subst hb;exact { hc with rules:=mo hc.rules (MY h1) }
  split at hb
  ·obtain⟨u,_,_,hb⟩:=Out.aB hb
   obtain⟨a,_,h1,hb⟩:=Out.aB hb;injection hb with hb _;subst hb;exact { hc with aR:=fun _=>(DE h1).2.2 rfl }
  ·cases hb
theorem zI:∀(ls:List Bs) (k:Nat) (cf:CF) (d:Nat),Ub cf d→∀cf',bJ ls k cf d=.ok cf'→mV cf'
 | [],k,cf,d,hc,cf',h=>by
  unfold bJ at h;injection h with h;subst h;by_cases hd:d=0
  ·rw[if_pos hd]
   exact⟨hc.ag,hc.ae,hc.af,hc.aa,hc.rules,.inr (.inl rfl)⟩
  ·rw[if_neg hd]
   exact⟨hc.ag,hc.ae,hc.af,hc.aa,hc.rules,hc.aR hd⟩
 |l::ls,k,cf,d,hc,cf',h=>by
  unfold bJ at h;cases hl:cY (aj true l) cf d with
  |ok c i=>rw[hl]at h;exact zI ls _ c _ (NT hl hc) cf' h
  |no code p=>rw[hl]at h;cases h
theorem Ty:Ub wZ 0:=⟨fun n h=>(by cases h),fun n h=>(by cases h),fun n h=>(by cases h),fun n h=>(by cases h),fun n h=>(by cases h),fun h=>absurd rfl h⟩
theorem Jg{s:Bs}{cf:CF}(h:cX s=.ok cf):mV cf:=by
 unfold cX at h;split at h
 ·cases h
 ·exact zI _ _ _ _ Ty cf h
theorem mV.in{cf:CF}(h:mV cf):RV cf:=⟨fun n hn=>(h.ag n hn).2,fun r hr=>⟨(h.ae r hr).1,(h.ae r hr).2.2.2⟩,fun m hm=>(h.af m hm).2,fun m hm=>⟨(h.aa m hm).2.2.1,(h.aa m hm).2.2.2.2⟩,fun r hr=>(h.rules r hr).1⟩
open Go Go.RowKit Go.Lib Go.Sort
theorem Bf{P:Program}{f:FuncId}{args:Array Value}{w:World}{v v':Value}(h:Calls P f args w (Rn w v))(h':Calls P f args w (Rn w v'))(hi:P.inits.idxOf? f=none):v=v':=by
 have k1:Calls P f args w fun | .returned u,_=>u=v|_,_=>False:=h.mono fun e w' ⟨he,_⟩=>by subst he;rfl
 have k2:Calls P f args w fun | .returned u,_=>u=v' | _,_=>False:=h'.mono fun e w' ⟨he,_⟩=>by subst he;rfl
 obtain⟨n,u,w1,e1,r1⟩:=k1.done hi;obtain⟨m,u',w2,e2,r2⟩:=k2.done hi;have a:=runN_ended e1 m;have b:=runN_ended e2 n;rw[Ws,a]at b;injection b with ho _;injection ho with hv;rw[←r1,←r2,hv]
theorem Qq{w:World}(hl:dD w):LN:=fun p hn hk=>by
 have e:tb p=oT p.v p.n p.k:=by unfold tb tm;rw[if_pos hk]
 have hp:BL (tb p) p.v p.n p.k:=⟨hn,hk,e.symm⟩;cases hr:oM (tb p)with
 |none=>exact absurd hp (zJ hr p.v p.n p.k)
 |some q=>
  have hq:=lZ hr;have h1:=sW hp (rU p) w hl;have h2:=sW hq (rU p) w hl;have hv:=Bf h1 h2 (by kernel_rfl);injection hv with hv;have hv:#[Wm (ep p.v p.n p.k).toArray,.int .i64 0]=#[Wm (ep q.v q.n q.k).toArray,.int .i64 0]:=hv;have hv:=congrArg Array.toList hv;injection hv with hv _;injection hv with hv;have hv:ep p.v p.n p.k=ep q.v q.n q.k:=by simpa using hv
  rw[Px.cP (p:=p) (q:=q) hn hq.1 hv]
def vl(m:Nat)(cf:CF):List Sx.Atom:=[.o m,.o (m+1),.o (m+2),.o (m+3),.o (m+4),.v (.int .i64 cf.aR)]
structure BH(w:World)(cf:CF)(s:fN):Prop where
 p:Own w 3 1 (.slice s.p.A cf.ag.length s.p.c) cf.ag.length cf.cp
 r:Own w 118 19 (.slice s.r.A cf.ae.length s.r.c) cf.ae.length cf.cr
 l:Own w 81 49 (.slice s.l.A cf.rules.length s.l.c) cf.rules.length cf.cl
 m:Own w 122 4 (.slice s.m.A cf.af.length s.m.c) cf.af.length cf.cm
 i:Own w 124 3 (.slice s.i.A cf.aa.length s.i.c) cf.aa.length cf.ci
def fN.new(s:fN)(N:Nat):Prop:=∀A∈[s.p.A,s.r.A,s.l.A,s.m.A,s.i.A],∀k,A.map (·.block)=some k→N≤k
theorem BH.rd{w:World}{cf:CF}{s:fN}{S:List Nat}(h:BH w cf s)(hS:∀A∈[s.p.A,s.r.A,s.l.A,s.m.A,s.i.A],∀k,A.map (·.block)=some k→k∉S):gX w S cf s:=by have hh:∀A∈[s.p.A,s.r.A,s.l.A,s.m.A,s.i.A],∀n c k,(Wp A n c).ownBlock=some k→k∉S:=fun A hA n c k hk=>hS A hA k (by rw[FB]at hk;exact hk);exact⟨lu.mj h.p (hh _ (by simp) _ _),lu.mj h.r (hh _ (by simp) _ _),lu.mj h.l (hh _ (by simp) _ _),lu.mj h.m (hh _ (by simp) _ _),lu.mj h.i (hh _ (by simp) _ _)⟩
theorem bG{w:World}{T T' size size' n n' c c':Nat}{A A':Option Go.Addr}{xs xs':List Value}(h:Own w T size (.slice A n c) n xs)(h':Own w T' size' (.slice A' n' c') n' xs')(hne:T≠T'){x:Nat}(hx:A.map (·.block)=some x)(hx':A'.map (·.block)=some x):False:=
 h.JL h' hne x (by rw[FB];exact hx) (by rw[FB];exact hx')
theorem wY{β:Sx.Env}{W w':World}{row:Nat→Option Sx.Row}{m:Nat}{X:List Nat}{cf:CF}{s:fN}{ret:Sx.SV}{e:Ending}(h:BH w' cf s)(hn:s.new W.heap.size)(hret:e=.returned (ret.den (aH β m cf s)))(hc:ah [] W w') :
  Sx.DH β W row m ⟨X,[],[],cF cf,ret,none⟩ e w' (aH β m cf s):=by
 have hold:∀i,i < m→β i=(aH β m cf s) i∧β.a i=(aH β m cf s).a i∧β.n i=(aH β m cf s).n i∧β.c i=(aH β m cf s).c i:=fun i hi=>by
  refine⟨rfl,?_,?_,?_⟩
  ·show β.a i=if i=m then s.p.A else if i=m+1 then s.r.A else if i=m+2 then s.l.A else if i=m+3 then s.m.A else if i=m+4 then s.i.A else β.a i
   rw[if_neg (by omega),if_neg (by omega),if_neg (by omega),if_neg (by omega),if_neg (by omega)]
  ·show β.n i=if i=m then cf.ag.length else if i=m+1 then cf.ae.length else if i=m+2 then cf.rules.length else if i=m+3 then cf.af.length else if i=m+4 then cf.aa.length else β.n i
   rw[if_neg (by omega),if_neg (by omega),if_neg (by omega),if_neg (by omega),if_neg (by omega)]
  ·show β.c i=if i=m then s.p.c else if i=m+1 then s.r.c else if i=m+2 then s.l.c else if i=m+3 then s.m.c else if i=m+4 then s.i.c else β.c i
   rw[if_neg (by omega),if_neg (by omega),if_neg (by omega),if_neg (by omega),if_neg (by omega)]
 have a1:∀j k:Nat,m+j=m+k↔j=k:=fun j k=>by omega
 have a2:∀k:Nat,m+(k+1)≠m:=fun k=>by omega
 have aA:(aH β m cf s).a m=s.p.A∧(aH β m cf s).a (m+1)=s.r.A∧(aH β m cf s).a (m+2)=s.l.A∧(aH β m cf s).a (m+3)=s.m.A∧(aH β m cf s).a (m+4)=s.i.A:=by simp[aH]
 have aN:(aH β m cf s).n m=cf.ag.length∧(aH β m cf s).n (m+1)=cf.ae.length∧(aH β m cf s).n (m+2)=cf.rules.length∧(aH β m cf s).n (m+3)=cf.af.length∧(aH β m cf s).n (m+4)=cf.aa.length:=by simp[aH]
 have aC:(aH β m cf s).c m=s.p.c∧(aH β m cf s).c (m+1)=s.r.c∧(aH β m cf s).c (m+2)=s.l.c∧(aH β m cf s).c (m+3)=s.m.c∧(aH β m cf s).c (m+4)=s.i.c:=by simp[aH]
 have bY:∀(k:Nat) (r:Sx.Row) (x:Nat),(cF cf)[k]?=some r→Sx.av (aH β m cf s) (m+k) r=some x→(k=0∧s.p.A.map (·.block)=some x)∨(k=1∧s.r.A.map (·.block)=some x)∨(k=2∧s.l.A.map (·.block)=some x)∨(k=3∧s.m.A.map (·.block)=some x)∨(k=4∧s.i.A.map (·.block)=some x):=by
  intro k r x hr hx;match k,hr with
  | 0,hr=>cases hr;have hx:((aH β m cf s).a (m+0)).map (·.block)=some x:=hx;rw[Wr,aA.1]at hx;exact .inl ⟨rfl,hx⟩
  | 1,hr=>cases hr;have hx:((aH β m cf s).a (m+1)).map (·.block)=some x:=hx;rw[aA.2.1]at hx;exact .inr (.inl ⟨rfl,hx⟩)
  | 2,hr=>cases hr;have hx:((aH β m cf s).a (m+2)).map (·.block)=some x:=hx;rw[aA.2.2.1]at hx;exact .inr (.inr (.inl ⟨rfl,hx⟩))
  | 3,hr=>cases hr;have hx:((aH β m cf s).a (m+3)).map (·.block)=some x:=hx;rw[aA.2.2.2.1]at hx;exact .inr (.inr (.inr (.inl ⟨rfl,hx⟩)))
  | 4,hr=>cases hr;have hx:((aH β m cf s).a (m+4)).map (·.block)=some x:=hx;rw[aA.2.2.2.2]at hx;exact .inr (.inr (.inr (.inr ⟨rfl,hx⟩)))
 refine⟨hold,hret,fun q hq=>(by cases hq),fun k r hr=>?_,fun k r x hr hx=>?_,fun k k' r r' x hr hr' hx hx'=>?_,hc⟩
 ·match k,hr with
  | 0,hr=>cases hr;show(aH β m cf s).n (m+0)=cf.ag.length∧Own w' 3 1 (.slice ((aH β m cf s).a (m+0)) cf.ag.length ((aH β m cf s).c (m+0))) cf.ag.length cf.cp;rw[Wr,aA.1,aN.1,aC.1];exact⟨rfl,h.p⟩
  | 1,hr=>cases hr;show(aH β m cf s).n (m+1)=cf.ae.length∧Own w' 118 19 (.slice ((aH β m cf s).a (m+1)) cf.ae.length ((aH β m cf s).c (m+1))) cf.ae.length cf.cr;rw[aA.2.1,aN.2.1,aC.2.1];exact⟨rfl,h.r⟩
  | 2,hr=>cases hr;show(aH β m cf s).n (m+2)=cf.rules.length∧Own w' 81 49 (.slice ((aH β m cf s).a (m+2)) cf.rules.length ((aH β m cf s).c (m+2))) cf.rules.length cf.cl;rw[aA.2.2.1,aN.2.2.1,aC.2.2.1];exact⟨rfl,h.l⟩
  | 3,hr=>cases hr;show(aH β m cf s).n (m+3)=cf.af.length∧Own w' 122 4 (.slice ((aH β m cf s).a (m+3)) cf.af.length ((aH β m cf s).c (m+3))) cf.af.length cf.cm;rw[aA.2.2.2.1,aN.2.2.2.1,aC.2.2.2.1];exact⟨rfl,h.m⟩
  | 4,hr=>cases hr;show(aH β m cf s).n (m+4)=cf.aa.length∧Own w' 124 3 (.slice ((aH β m cf s).a (m+4)) cf.aa.length ((aH β m cf s).c (m+4))) cf.aa.length cf.ci;rw[aA.2.2.2.2,aN.2.2.2.2,aC.2.2.2.2];exact⟨rfl,h.i⟩
 ·rcases bY k r x hr hx with⟨_,h1⟩ | ⟨_,h1⟩ | ⟨_,h1⟩ | ⟨_,h1⟩ | ⟨_,h1⟩<;>exact .inr (hn _ (by simp) x h1)
 ·have b1:=bY k r x hr hx
  have b2:=bY k' r' x hr' hx';rcases b1 with⟨rfl,h1⟩ | ⟨rfl,h1⟩ | ⟨rfl,h1⟩ | ⟨rfl,h1⟩ | ⟨rfl,h1⟩<;>rcases b2 with⟨rfl,h2⟩ | ⟨rfl,h2⟩ | ⟨rfl,h2⟩ | ⟨rfl,h2⟩ | ⟨rfl,h2⟩
  ·rfl
  ·exact(bG h.p h.r (by decide) h1 h2).elim
  ·exact(bG h.p h.l (by decide) h1 h2).elim
  ·exact(bG h.p h.m (by decide) h1 h2).elim
  ·exact(bG h.p h.i (by decide) h1 h2).elim
  ·exact(bG h.r h.p (by decide) h1 h2).elim
  ·rfl
  ·exact(bG h.r h.l (by decide) h1 h2).elim
  ·exact(bG h.r h.m (by decide) h1 h2).elim
  ·exact(bG h.r h.i (by decide) h1 h2).elim
  ·exact(bG h.l h.p (by decide) h1 h2).elim
  ·exact(bG h.l h.r (by decide) h1 h2).elim
  ·rfl
  ·exact(bG h.l h.m (by decide) h1 h2).elim
  ·exact(bG h.l h.i (by decide) h1 h2).elim
  ·exact(bG h.m h.p (by decide) h1 h2).elim
  ·exact(bG h.m h.r (by decide) h1 h2).elim
  ·exact(bG h.m h.l (by decide) h1 h2).elim
  ·rfl
  ·exact(bG h.m h.i (by decide) h1 h2).elim
  ·exact(bG h.i h.p (by decide) h1 h2).elim
  ·exact(bG h.i h.r (by decide) h1 h2).elim
  ·exact(bG h.i h.l (by decide) h1 h2).elim
  ·exact(bG h.i h.m (by decide) h1 h2).elim
  ·rfl
structure LX(mem:List Sx.Row)(k0 k1 k2 k3 k4:Nat)(cf:CF):Prop where
 p:mem[k0]?=some ⟨3,.own 1 cf.ag.length cf.cp⟩
 r:mem[k1]?=some ⟨118,.own 19 cf.ae.length cf.cr⟩
 l:mem[k2]?=some ⟨81,.own 49 cf.rules.length cf.cl⟩
 m:mem[k3]?=some ⟨122,.own 4 cf.af.length cf.cm⟩
 i:mem[k4]?=some ⟨124,.own 3 cf.aa.length cf.ci⟩
def kJ(β:Sx.Env)(k0 k1 k2 k3 k4:Nat):fN:=⟨⟨β.a k0,β.c k0⟩,⟨β.a k1,β.c k1⟩,⟨β.a k2,β.c k2⟩,⟨β.a k3,β.c k3⟩,⟨β.a k4,β.c k4⟩⟩
theorem Bd{β:Sx.Env}{b:Sx.aY}{w':World}{mem:List Sx.Row}{k0 k1 k2 k3 k4:Nat}{cf:CF}(hR:Sx.Rows b β w' mem)(h:LX mem k0 k1 k2 k3 k4 cf)(hS:b.S=[]) :
  BH w' cf (kJ β k0 k1 k2 k3 k4)∧(kJ β k0 k1 k2 k3 k4).new b.w.heap.size∧β.n k0=cf.ag.length∧β.n k1=cf.ae.length∧β.n k2=cf.rules.length∧β.n k3=cf.af.length∧β.n k4=cf.aa.length:=by
 have o0:β.n k0=cf.ag.length∧Own w' 3 1 (.slice (β.a k0) cf.ag.length (β.c k0)) cf.ag.length cf.cp:=hR.held k0 _ h.p;have o1:β.n k1=cf.ae.length∧Own w' 118 19 (.slice (β.a k1) cf.ae.length (β.c k1)) cf.ae.length cf.cr:=hR.held k1 _ h.r;have o2:β.n k2=cf.rules.length∧Own w' 81 49 (.slice (β.a k2) cf.rules.length (β.c k2)) cf.rules.length cf.cl:=hR.held k2 _ h.l;have o3:β.n k3=cf.af.length∧Own w' 122 4 (.slice (β.a k3) cf.af.length (β.c k3)) cf.af.length cf.cm:=hR.held k3 _ h.m;have o4:β.n k4=cf.aa.length∧Own w' 124 3 (.slice (β.a k4) cf.aa.length (β.c k4)) cf.aa.length cf.ci:=hR.held k4 _ h.i;refine⟨⟨o0.2,o1.2,o2.2,o3.2,o4.2⟩,fun A hA k hk=>?_,o0.1,o1.1,o2.1,o3.1,o4.1⟩;have key:∀(i:Nat) (r:Sx.Row),mem[i]?=some r→Sx.av β i r=some k→b.w.heap.size≤k:=fun i r hi hr=>by
  rcases hR.new i r k hi hr with hh|hh
  ·rw[hS]at hh;cases hh
  ·exact hh
 simp only[kJ,VJ,Wa,or_false]at hA;rcases hA with rfl|rfl|rfl|rfl|rfl
 ·exact key k0 _ h.p hk
 ·exact key k1 _ h.r hk
 ·exact key k2 _ h.l hk
 ·exact key k3 _ h.m hk
 ·exact key k4 _ h.i hk
theorem uN{b:Sx.aY}{β:Sx.Env}{W:World}{mem:List Sx.Row}{gh:List Nat}{m:Nat}{cf:CF}(hS:Sx.dS b β W (Sx.rowAt mem) gh)(h:LX mem m (m+1) (m+2) (m+3) (m+4) cf)(hs:∀k∈[m,m+1,m+2,m+3,m+4],k∈gh) :
  gX W [] cf (kJ β m (m+1) (m+2) (m+3) (m+4))∧(Sx.SV.dG (vl m cf)).den β=.agg (aI cf (kJ β m (m+1) (m+2) (m+3) (m+4))).toArray:=by
 have o0:β.n m=cf.ag.length∧Own W 3 1 (.slice (β.a m) cf.ag.length (β.c m)) cf.ag.length cf.cp:=hS.held m (hs _ (by simp)) _ h.p;have o1:β.n (m+1)=cf.ae.length∧Own W 118 19 (.slice (β.a (m+1)) cf.ae.length (β.c (m+1))) cf.ae.length cf.cr:=hS.held (m+1) (hs _ (by simp)) _ h.r;have o2:β.n (m+2)=cf.rules.length∧Own W 81 49 (.slice (β.a (m+2)) cf.rules.length (β.c (m+2))) cf.rules.length cf.cl:=hS.held (m+2) (hs _ (by simp)) _ h.l;have o3:β.n (m+3)=cf.af.length∧Own W 122 4 (.slice (β.a (m+3)) cf.af.length (β.c (m+3))) cf.af.length cf.cm:=hS.held (m+3) (hs _ (by simp)) _ h.m;have o4:β.n (m+4)=cf.aa.length∧Own W 124 3 (.slice (β.a (m+4)) cf.aa.length (β.c (m+4))) cf.aa.length cf.ci:=hS.held (m+4) (hs _ (by simp)) _ h.i;refine⟨BH.rd ⟨o0.2,o1.2,o2.2,o3.2,o4.2⟩ (fun _ _ _ _ h=>by cases h),?_⟩;show Wm ([β.sl m,β.sl (m+1),β.sl (m+2),β.sl (m+3),β.sl (m+4),.int .i64 cf.aR]:List Value).toArray=_;unfold Sx.Env.sl;rw[o0.1,o1.1,o2.1,o3.1,o4.1];rfl
end Go.Proofs.YtnncigmpcdehnaaGreatDoor
