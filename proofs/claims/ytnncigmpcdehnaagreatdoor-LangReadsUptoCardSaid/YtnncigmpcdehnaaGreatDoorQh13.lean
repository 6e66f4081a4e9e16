import Derived.Test.YtnncigmpcdehnaaGreatDoorQh12
import Derived.Barred
import Derived.Shelf.Vars
import Derived.Stop.LaidErr
import Derived.Lib.LaidTab
import Derived.LaidMore
import Derived.Lay
import Derived.LaidByTextLater
import Derived.LaidHandle
open List renaming length_append→Xy,length_cons→Xz,mem_singleton→XB,mem_cons→XE,not_mem_nil→XH,nil_append→XL,mem_append→XM,cons_append→XQ,length_nil→XS,foldl_cons→XT,mem_cons_of_mem→XW,mem_map→XX,getElem?_append_right→X1,exists_cons_of_ne_nil→X2,getElem?_eq_some_iff→X3,getElem?_eq_getElem→X4,length_singleton→X6,getElem?_eq_none→X7,contains_iff_mem→X8,mem_filterMap→Ya,all_eq_true→Yb,length_map→Yc,mem_range→Yd,map_map→Yf,range→Yi
open Go.Value renaming bool→XA,agg→X5,slice→Ye
open And renaming intro→XC
open Bool renaming and_eq_true→XD,or_eq_true→XN,eq_false_iff→XP,not_eq_true'→XZ
open Nat renaming le_trans→XF,le_refl→XG,zero_le→XI,le_succ_of_le→XU,succ_le_succ→XV,add_zero→X0,mul_le_mul_right→X9,add_comm→Yg,le_succ→Yh
open Option renaming some→XJ
open Eq renaming mp→XO
open Int renaming toNat_of_nonneg→XR
open Go.Result renaming ok→XY
namespace Go.Proofs.YtnncigmpcdehnaaGreatDoor
set_option maxRecDepth 100000
open Go Go.RowKit Go.Lib Go.Sort _root_.Go.Proofs.Tryz
structure jY(w:World)(S:List Nat)(cf:CF)(s:gU):Prop where
 p:qH w S 1 (.slice s.p.A cf.aj.length s.p.c) cf.aj.length (cf.aj.map fun n=>Value.int .i64 n)
 r:qH w S 19 (.slice s.r.A cf.af.length s.r.c) cf.af.length (cf.af.flatMap Rt.cells)
 l:qH w S 49 (.slice s.l.A cf.rules.length s.l.c) cf.rules.length (cf.rules.flatMap Rl.cells)
 m:qH w S 4 (.slice s.m.A cf.ag.length s.m.c) cf.ag.length (cf.ag.flatMap Me.cells)
 i:qH w S 3 (.slice s.i.A cf.ab.length s.i.c) cf.ab.length (cf.ab.flatMap Mi.cells)
structure kr(cf:CF):Prop where
 p:∀n∈cf.aj,qT n
 r:∀n∈cf.af,n.Wf
 l:∀n∈cf.rules,n.Wf
 m:∀n∈cf.ag,n.Wf
 i:∀n∈cf.ab,n.Wf
 d:qT cf.aZ
structure lU(cf:CF):Prop where
 p:cf.aj.length≤1000000000
 r:cf.af.length≤1000000000
 l:cf.rules.length≤1000000000
 m:cf.ag.length≤1000000000
 i:cf.ab.length≤1000000000
theorem jY.aJ{w w':World}{S:List Nat}{cf:CF}{s:gU}(h:jY w S cf s)(hc:ai S w w'):jY w' S cf s:=⟨h.p.aJ hc,h.r.aJ hc,h.l.aJ hc,h.m.aJ hc,h.i.aJ hc⟩
def aR(cf:CF)(s:gU):List Value:=[.slice s.p.A cf.aj.length s.p.c,.slice s.r.A cf.af.length s.r.c,.slice s.l.A cf.rules.length s.l.c,.slice s.m.A cf.ag.length s.m.c,.slice s.i.A cf.ab.length s.i.c,.int .i64 cf.aZ]
def T1(cf:CF):Bs:=P7 [] cf.aj cf.aj.length
def T2(cf:CF):Bs:=OL (T1 cf) cf.af cf.af.length
def T3(cf:CF):Bs:=P6 (T2 cf) cf.ag cf.ag.length
def T4(cf:CF):Bs:=OK (T3 cf) cf.ab cf.ab.length
def T5(cf:CF):Bs:=OJ (T4 cf) cf.rules cf.rules.length
def E1(cf:CF):Int:=Qf 0 cf.aj cf.aj.length
def E2(cf:CF):Int:=KG (E1 cf) cf.af cf.af.length
def E3(cf:CF):Int:=ON (E2 cf) cf.ag cf.ag.length
def E4(cf:CF):Int:=Jp (E3 cf) cf.ab cf.ab.length
def E5(cf:CF):Int:=R4 (E4 cf) cf.rules cf.rules.length
def B1(cf:CF):Bool:=bI false cf.aj.length
def B2(cf:CF):Bool:=bI (B1 cf) cf.af.length
def B3(cf:CF):Bool:=bI (B2 cf) cf.ag.length
def B4(cf:CF):Bool:=bI (B3 cf) cf.ab.length
def B5(cf:CF):Bool:=bI (B4 cf) cf.rules.length
theorem Ca{t0:Bs}{ws:Nat→List Bs}:∀n,t0.length≤(tI t0 ws n).length
 | 0=>XG _
 |n+1=>by rw[tI,Xy];exact XF (Ca n) (Nat.le_add_right _ _)
theorem VV(cf:CF):T5 cf++ir (jW cf.aZ)=fL cf:=by
 unfold fL lP T5 T4 T3 T2 T1 OJ OK P6 OL P7;rw[Cb,Cb,Cb,Cb,Cb];have app:∀a b:List (List Bs),dy (a++b)=dy a++dy b:=fun a b=>by simp[dy]
 simp only[app,XL];simp[dy]
theorem VZ(cf:CF):NJ (E5 cf) cf.aZ=uT cf:=by unfold uT E5 E4 E3 E2 E1 R4 Jp ON KG Qf;rw[DR,DR,DR,DR,DR]
theorem MY{b:Sx.bu}{row:Nat→Option Sx.Row}{i j m:Nat}{og:Option Nat}{p:Bool}{tx:Bs}{e:Int}(h:pT row i j og p tx e)(W:World)(β:Sx.Env)(hS:Sx.fD b β W row [i,j]) :
  Calls prog 76 (([.ptr i 0]:List Sx.SV).map (Sx.SV.den β)).toArray W (Sx.bK b β W row m ⟨[i,j],[],[],[],.val (.int .i64 (tx.length:Int)),none⟩):=by
 obtain⟨ht,_⟩:=qY hS h (by simp) (by simp);refine(Vs ht).mono fun en w' ⟨he,hw⟩=>.inl ⟨fun p hp=>(by cases hp),β,Sx.ep (v:=.int .i64 (tx.length:Int)) rfl rfl he (fun q hq=>(by cases hq)) (by rw[hw];exact ai.refl _ _)⟩
theorem Ce{b:Sx.bu}{row:Nat→Option Sx.Row}{i j m:Nat}{og:Option Nat}{p:Bool}{tx:Bs}{e:Int}(h:pT row i j og p tx e)(h0:tx≠[])(W:World)(β:Sx.Env)(hS:Sx.fD b β W row [i,j]) :
  Calls prog 77 (([.ptr i 0]:List Sx.SV).map (Sx.SV.den β)).toArray W (Sx.bK b β W row m ⟨[i,j],[],[i,j],[],.val (ae tx),none⟩):=by
 obtain⟨ht,_⟩:=qY hS h (by simp) (by simp);refine(La ht h0).mono fun en w' ⟨he,hc⟩=>.inl ⟨fun p hp=>(by cases hp),β,Sx.ep (v:=ae tx) rfl rfl he (fun q hq=>(by cases hq)) (hc.mono fun k hk=>.inl ?_)⟩;show k∈([]++[i,j]).filterMap (Sx.cQ β row);rcases XE.1 hk with rfl|hk
 ·refine Ya.2 ⟨i,by simp,?_⟩
  unfold Sx.cQ;rw[h.b];exact pZ
 ·refine Ya.2 ⟨j,by simp,?_⟩
  unfold Sx.cQ;rw[h.o];show(β.a j).map (·.block)=some k;simpa using hk
theorem To(t:Bs)(ws:List Bs):t++ir ws≠[]:=by unfold ir;simp
abbrev pB(w:World):Sx.bu:=⟨w,[],fun _ _=>False⟩
abbrev pL(cf:CF)(s:gU)(p:Bool)(j:Nat)(e:Int)(mem:List Sx.Row):List Sx.Row:=⟨46,.an (aR cf s)⟩::j0 none [.eU p 1 0,.own j,.val (.int .i64 e)]::mem
abbrev pO(t:Bs):Sx.Row:=⟨5,.own 1 t.length (tf t)⟩
def Qb(cf:CF)(s:gU):List Sx.Loop:=[.mk Nat 0 (fun i=>i≤cf.aj.length) (fun i=>Jo s.p.A cf.aj.length s.p.c i) (fun i=>Tc (aR cf s) false [] 0 cf.aj i) (fun i=>i+1) (fun i=>cf.aj.length - i) Unit (fun _=>True) (fun _=>[(1,.ptr 0 0),(4,.ptr 1 0)]) (fun _=>Tc (aR cf s) false [] 0 cf.aj cf.aj.length) (fun _=>()),
 .mk Nat 0 (fun i=>i≤cf.af.length) (fun i=>Jn s.r.A cf.af.length s.r.c i) (fun i=>Tb (aR cf s) (B1 cf) (T1 cf) (E1 cf) cf.af i) (fun i=>i+1) (fun i=>cf.af.length - i) Unit (fun _=>True) (fun _=>[(1,.ptr 0 0),(4,.ptr 1 0)]) (fun _=>Tb (aR cf s) (B1 cf) (T1 cf) (E1 cf) cf.af cf.af.length) (fun _=>()),
 .mk Nat 0 (fun i=>i≤cf.ag.length) (fun i=>Jm s.m.A cf.ag.length s.m.c i) (fun i=>Ta (aR cf s) (B2 cf) (T2 cf) (E2 cf) cf.ag i) (fun i=>i+1) (fun i=>cf.ag.length - i) Unit (fun _=>True) (fun _=>[(1,.ptr 0 0),(4,.ptr 1 0)]) (fun _=>Ta (aR cf s) (B2 cf) (T2 cf) (E2 cf) cf.ag cf.ag.length) (fun _=>()),
 .mk Nat 0 (fun i=>i≤cf.ab.length) (fun i=>Jl s.i.A cf.ab.length s.i.c i) (fun i=>S9 (aR cf s) (B3 cf) (T3 cf) (E3 cf) cf.ab i) (fun i=>i+1) (fun i=>cf.ab.length - i) Unit (fun _=>True) (fun _=>[(1,.ptr 0 0),(4,.ptr 1 0)]) (fun _=>S9 (aR cf s) (B3 cf) (T3 cf) (E3 cf) cf.ab cf.ab.length) (fun _=>()),
 .mk Nat 0 (fun i=>i≤cf.rules.length) (fun i=>Jk s.l.A cf.rules.length s.l.c i) (fun i=>S8 (aR cf s) (B4 cf) (T4 cf) (E4 cf) cf.rules i) (fun i=>i+1) (fun i=>cf.rules.length - i) Unit (fun _=>True) (fun _=>[(1,.ptr 0 0),(4,.ptr 1 0)]) (fun _=>S8 (aR cf s) (B4 cf) (T4 cf) (E4 cf) cf.rules cf.rules.length) (fun _=>())]
structure OA(w:World)(cf:CF)(s:gU)(TT:Bs)(F:List Bs)(b bl:Bool)(E6 E7:Int):Prop where
 hl:eF w
 r:jY w [] cf s
 w:kr cf
 f:lU cf
 T:TT=T5 cf++ir F
 B:TT.length≤140737488355328
 d:bl=decide (TT.length≤65536)
 e6:E6=bj b 2 (E5 cf)
 e7:E7=bj bl 4 E6
section
variable{w:World}{cf:CF}{s:gU}{TT:Bs}{F:List Bs}{b bl:Bool}{E6 E7:Int}
theorem OA.g(I:OA w cf s TT F b bl E6 E7):(T1 cf).length≤140737488355328∧(T2 cf).length≤140737488355328∧(T3 cf).length≤140737488355328∧(T4 cf).length≤140737488355328∧(T5 cf).length≤140737488355328:=by
 have g5:(T5 cf).length≤140737488355328:=by have hB:=I.B;rw[I.T,Xy]at hB;omega
 have g4:(T4 cf).length≤140737488355328:=XF (Ca _) g5;have g3:(T3 cf).length≤140737488355328:=XF (Ca _) g4;have g2:(T2 cf).length≤140737488355328:=XF (Ca _) g3;exact⟨XF (Ca _) g2,g2,g3,g4,g5⟩
theorem OA.c168(I:OA w cf s TT F b bl E6 E7):XA (decide ((TT.length:Int)≤65536))=.bool bl:=by rw[I.d,show decide ((TT.length:Int)≤65536)=decide (TT.length≤65536)from by rw[decide_eq_decide];omega]
theorem RQ(w:World)(cf:CF)(s:gU)(p:Bool)(j:Nat){e e':Int}{b:Bool}{code:Int}(tx:Bs)(mem:List Sx.Row)(m:Nat)(he:e'=bj b code e)(rj:Sx.rowAt (pL cf s p j e mem) j=some (pO tx))(W:World)(β:Sx.Env)(hS:Sx.fD (pB w) β W (Sx.rowAt (pL cf s p j e mem)) [1,j]):Calls prog 69 (([.ptr 1 0,.val (.bool b),.val (.int .i64 code)]:List Sx.SV).map (Sx.SV.den β)).toArray W (Sx.bK (pB w) β W (Sx.rowAt (pL cf s p j e mem)) m (mw [] 1 j none p e')):=by rw[he];exact tj b code ⟨rfl,rj⟩ W β hS
theorem Vq(w:World)(cf:CF)(s:gU)(p:Bool){e:Int}(tx:Bs)(mem:List Sx.Row)(k m:Nat)(ws:List Bs)(hT:TT=tx++ir ws)(rj:Sx.rowAt (pL cf s p 2 e mem) 2=some (pO tx))(hm:2 < m)(rk:Sx.rowAt (pL cf s p 2 e mem) k=some ⟨9,.own 1 ws.length (strs ws)⟩)(hn:ws.length≤1100000)(hl:TT.length≤140737488355328)(W:World)(β:Sx.Env)(hS:Sx.fD (pB w) β W (Sx.rowAt (pL cf s p 2 e mem)) [1,2,k]) :
  Calls prog 70 (([.ptr 1 0,.own k]:List Sx.SV).map (Sx.SV.den β)).toArray W (Sx.bK (pB w) β W (Sx.rowAt (pL cf s p 2 e mem)) m (B6 [k] 1 2 m none TT e (.tuple #[]))):=by
 subst hT;exact zJ (p:=p) ws ⟨rfl,rj⟩ (by omega) hm rk hn (by rw[←Xy];exact hl) W β hS
theorem WD(w:World)(cf:CF)(s:gU)(j:Nat)(e:Int)(tx:Bs)(mem:List Sx.Row)(m:Nat)(rj:Sx.rowAt (pL cf s true j e mem) j=some (pO tx))(W:World)(β:Sx.Env)(hS:Sx.fD (pB w) β W (Sx.rowAt (pL cf s true j e mem)) [1,j]) :
  Calls prog 76 (([.ptr 1 0]:List Sx.SV).map (Sx.SV.den β)).toArray W (Sx.bK (pB w) β W (Sx.rowAt (pL cf s true j e mem)) m ⟨[1,j],[],[],[],.val (.int .i64 (tx.length:Int)),none⟩):=MY (p:=true) ⟨rfl,rj⟩ W β hS
theorem Wi(w:World)(cf:CF)(s:gU)(j:Nat)(e:Int)(mem:List Sx.Row)(m:Nat){x:Bs}{ws:List Bs}(hT:TT=x++ir ws)(rj:Sx.rowAt (pL cf s true j e mem) j=some (pO TT))(W:World)(β:Sx.Env)(hS:Sx.fD (pB w) β W (Sx.rowAt (pL cf s true j e mem)) [1,j]) :
  Calls prog 77 (([.ptr 1 0]:List Sx.SV).map (Sx.SV.den β)).toArray W (Sx.bK (pB w) β W (Sx.rowAt (pL cf s true j e mem)) m ⟨[1,j],[],[1,j],[],.val (ae TT),none⟩):=Ce (p:=true) ⟨rfl,rj⟩ (by rw[hT];exact To _ _) W β hS
theorem Wx(cf:CF)(s:gU):Jo s.p.A cf.aj.length s.p.c 0=Jo s.p.A cf.aj.length s.p.c 0∧Tc (aR cf s) false [] 0 cf.aj 0=Tc (aR cf s) false [] 0 cf.aj 0:=⟨rfl,rfl⟩
theorem Ww(cf:CF)(s:gU):Jn s.r.A cf.af.length s.r.c 0=Jn s.r.A cf.af.length s.r.c 0∧Tb (aR cf s) (B1 cf) (T1 cf) (E1 cf) cf.af 0=Tb (aR cf s) (B1 cf) (T1 cf) (E1 cf) cf.af 0:=⟨rfl,rfl⟩
theorem Wv(cf:CF)(s:gU):Jm s.m.A cf.ag.length s.m.c 0=Jm s.m.A cf.ag.length s.m.c 0∧Ta (aR cf s) (B2 cf) (T2 cf) (E2 cf) cf.ag 0=Ta (aR cf s) (B2 cf) (T2 cf) (E2 cf) cf.ag 0:=⟨rfl,rfl⟩
theorem Wu(cf:CF)(s:gU):Jl s.i.A cf.ab.length s.i.c 0=Jl s.i.A cf.ab.length s.i.c 0∧S9 (aR cf s) (B3 cf) (T3 cf) (E3 cf) cf.ab 0=S9 (aR cf s) (B3 cf) (T3 cf) (E3 cf) cf.ab 0:=⟨rfl,rfl⟩
theorem Wt(cf:CF)(s:gU):Jk s.l.A cf.rules.length s.l.c 0=Jk s.l.A cf.rules.length s.l.c 0∧S8 (aR cf s) (B4 cf) (T4 cf) (E4 cf) cf.rules 0=S8 (aR cf s) (B4 cf) (T4 cf) (E4 cf) cf.rules 0:=⟨rfl,rfl⟩
def pl(na:Bool)(L:List Bs)(l:List Sx.Row):List Sx.Row:=Sx.au::(ra na L++l)
def OM(L:List Bs):Sx.Row:=⟨9,.own 1 (1+L.length) (strs [aO]++sL L)⟩
theorem S5(L:List Bs):OM L=⟨9,.own 1 (aO::L).length (strs (aO::L))⟩:=by unfold OM;rw[GR,Xz,Yg];rfl
def pk(na:Bool):Nat:=match na with
 |true=>4
 |false=>5
def Vi(na:Bool)(w:World)(cf:CF)(s:gU)(e:Int)(L:List Bs):Prop:=match na with
 |true=>∀W,ai [] w W→Calls prog 75 #[.int .i64 cf.aZ,.int .i64 0] W (Rn W (.slice none 0 0))
 |false=>∀W β,Sx.fD (pB w) β W (Sx.rowAt (pL cf s (B5 cf) 2 e [pO (T5 cf),⟨9,.own 1 1 (strs [aO])⟩])) []→Calls prog 75 (([.val (.int .i64 cf.aZ),.val (.int .i64 0)]:List Sx.SV).map (Sx.SV.den β)).toArray W (Sx.bK (pB w) β W (Sx.rowAt (pL cf s (B5 cf) 2 e [pO (T5 cf),⟨9,.own 1 1 (strs [aO])⟩])) 4 (Ov 4 L.length (strs L)))
def Vj(na:Bool)(L:List Bs):Sx.Hint:=match na with
 |true=>.call (.slice none 0 0)
 |false=>.aB (Ov 4 L.length (strs L))
def Vh(na:Bool)(w:World)(L:List Bs):Prop:=match na with
 |true=>(∀W,ai [] w W→∃A c,Ye none 0 0=.slice A 0 c∧(0 < ([]:List Value).length→∃ad,A=some ad∧∀(j:Nat) (u:Value),([]:List Value)[j]?=some u→W.cell? (ad.add j)=some u))∧([]:List Value).length=0*1∧(∀u∈([]:List Value),u.oneCell'=true)∧1+0≤maxLen∧(1+0)*16≤140737488355328
 |false=>True∧(sL L).length=L.length*1∧(∀u∈sL L,u.oneCell'=true)∧1+L.length≤maxLen∧(1+L.length)*16≤140737488355328
def rz(ze:Bool)(TT:Bs)(E7:Int):Bs×Int:=match ze with
 |true=>(TT,0)
 |false=>([],E7)
theorem Jh{L:List Bs}{na d1 d2 d4 ze:Bool}(I:OA w cf s TT (aO::L) (bP d1 (bP d2 d4)) bl E6 E7)(ha:bp cf.aZ 0=L)(hL:L.length≤10)(hna:decide (L=[])=na)(h1:(cf.aZ==1)=d1)(h2:(cf.aZ==2)=d2)(h4:(cf.aZ==4)=d4)(hz:(E7==0)=ze):Calls prog 28 #[.agg (aR cf s).toArray] w (Sx.cN (pB w) (Xa (rz ze TT E7))):=by
 obtain⟨g1,g2,g3,g4,g5⟩:=I.g;have iZ:=Vc I.hl (aR cf s) cf.aj s.p.A s.p.c I.r.p I.w.p I.f.p false [] 0 g1 (rz ze TT E7);have rd7:=Vb I.hl (aR cf s) cf.af s.r.A s.r.c I.r.r I.w.r I.f.r (B1 cf) (T1 cf) (E1 cf) g2 (rz ze TT E7);have rd12:=Va I.hl (aR cf s) cf.ag s.m.A s.m.c I.r.m I.w.m I.f.m (B2 cf) (T2 cf) (E2 cf) g3 (rz ze TT E7);have rd17:=U9 I.hl (aR cf s) cf.ab s.i.A s.i.c I.r.i I.w.i I.f.i (B3 cf) (T3 cf) (E3 cf) g4 (rz ze TT E7);have rd22:=U8 I.hl (aR cf s) cf.rules s.l.A s.l.c I.r.l I.w.l I.f.l (B4 cf) (T4 cf) (E4 cf) g5 (rz ze TT E7);have c144:XA (cf.aZ==1)=.bool d1:=congrArg _ h1;have c148:XA (cf.aZ==2)=.bool d2:=congrArg _ h2;have c153:XA (cf.aZ==4)=.bool d4:=congrArg _ h4;have c155:=RQ w cf s (B5 cf) 2 (T5 cf) [pO (T5 cf)] 3 I.e6 rfl;have hlan2:∀W,ai [] w W→eF W:=fun W hW=>I.hl.dO hW;have c160:Vi na w cf s E6 L:=by
  cases na with
  |true=>exact fun W hW=>Et (b:=pB w) (ha.trans (of_decide_eq_true hna)) (by omega) (by omega) hlan2 W hW
  |false=>exact fun W β hS=>Es (m:=4) ha (of_decide_eq_false hna) (by omega) (by omega) hlan2 W β hS
 have c161:Vh na w L:=by
  cases na with
  |true=>exact Iv (ai [] w) 1 (by decide)
  |false=>exact(show True∧(sL L).length=L.length*1∧(∀u∈sL L,u.oneCell'=true)∧1+L.length≤maxLen∧(1+L.length)*16≤140737488355328 from by rw[GR];exact BM L 1 L.length rfl (by omega))
 have rk:Sx.rowAt (pL cf s (B5 cf) 2 E6 (pO (T5 cf)::pl na L [OM L])) (pk na)=some (OM L):=by cases na<;>rfl
 have rj:Sx.rowAt (pL cf s true (pk na+1) E6 (Sx.au::pl na L [OM L,pO TT])) (pk na+1)=some (pO TT):=by cases na<;>rfl
 have rj2:Sx.rowAt (pL cf s true (pk na+1) E7 (Sx.au::pl na L [OM L,pO TT])) (pk na+1)=some (pO TT):=by cases na<;>rfl
 have c162:=Vq w cf s (B5 cf) (e:=E6) (T5 cf) (pO (T5 cf)::pl na L [OM L]) (pk na) (pk na+1) (aO::L) I.T rfl (by cases na<;>decide) (rk.trans (congrArg some (S5 L))) (by rw[Xz];omega) I.B;have c167:=WD w cf s (pk na+1) E6 TT (Sx.au::pl na L [OM L,pO TT]) (pk na+2) rj;have c169:=RQ w cf s true (pk na+1) TT (Sx.au::pl na L [OM L,pO TT]) (pk na+2) I.e7 rj;have c174:XA (E7 !=0)=.bool (!ze):=congrArg (fun b=>XA (!b)) hz;have c182:=Wi w cf s (pk na+1) E7 (Sx.au::pl na L [OM L,pO TT]) (pk na+2) I.T rj2;have z25:([.val (ae (rz ze TT E7).1),.val (.int .i64 (rz ze TT E7).2)]:List Sx.SV)=[.val (ae (rz ze TT E7).1),.val (.int .i64 (rz ze TT E7).2)]:=rfl;have CH:=Sx.t2 (XI cf.aj.length) (Wx cf s) (XC iZ (fun(_:Unit) (_:True)=>(Sx.t2 (XI cf.af.length) (Ww cf s) (XC rd7 (fun(_:Unit) (_:True)=>(Sx.t2 (XI cf.ag.length) (Wv cf s) (XC rd12 (fun(_:Unit) (_:True)=>(Sx.t2 (XI cf.ab.length) (Wu cf s) (XC rd17 (fun(_:Unit) (_:True)=>(Sx.t2 (XI cf.rules.length) (Wt cf s) (XC rd22 (fun(_:Unit) (_:True)=>(XC c144 (bA.mk (b:=d1) (fun _=>c148) (bA.mk (b:=d1||d2) (fun _=>c153) (Sx.t8 c155 c160 c161 c162 c167 I.c168 c169 c174 (bA.mk (b:=!ze) (fun _=>c182) z25)))))))))))))))))));refine Sx.bO (args:=[.val (.agg (aR cf s).toArray)]) (jw w) [(18,.tL [(0,0,0),(1,5,1)]),ao 144 d1,ao 148 d2,ao 153 d4,(155,.aB (mw [] 1 2 none (B5 cf) E6)),(157,.jG 9 1),(160,Vj na L),(161,.app 0 []),(162,.aB (B6 [pk na] 1 2 (pk na+1) none TT E6 (.tuple #[]))),(167,.aB ⟨[1,pk na+1],[],[],[],.val (.int .i64 (TT.length:Int)),none⟩),ao 168 bl,(169,.aB (mw [] 1 (pk na+1) none true E7)),ao 174 (!ze),(182,.aB ⟨[1,pk na+1],[],[1,pk na+1],[],.val (ae TT),none⟩)] (Qb cf s) (by kernel_rfl) func28 rfl (bN rfl) rfl ?_;clear I ha hL h1 h2 h4 hz iZ rd7 rd12 rd17 rd22 c144 c148 c153 c155 c160 c161 rk rj rj2 c162 c167 c169 c174 c182 z25 g1 g2 g3 g4 g5;cases na with
 |true=>obtain rfl:L=[]:=of_decide_eq_true hna;cases d1<;>cases d2<;>cases d4<;>cases ze<;>exact XO (by kernel_rfl) CH
 |false=>cases d1<;>cases d2<;>cases d4<;>cases ze<;>exact XO (by kernel_rfl) CH
end
theorem jY.sub{w:World}{S S':List Nat}{cf:CF}{s:gU}(h:jY w S cf s)(hs:∀k∈S',k∈S∨w.heap.size≤k):jY w S' cf s:=⟨h.p.sub hs,h.r.sub hs,h.l.sub hs,h.m.sub hs,h.i.sub hs⟩
theorem Qa{w:World}(hlan:eF w)(cf:CF)(s:gU)(h:jY w [] cf s)(hw:kr cf)(hf:lU cf)(hB:(fL cf).length≤140737488355328):Calls prog 28 #[.agg (aR cf s).toArray] w (Rn w (.tuple #[ae (jS cf).1,.int .i64 (jS cf).2])):=by
 have hT:fL cf=T5 cf++ir (aO::bp cf.aZ 0):=(VV cf).symm;have hE:yM cf=bj (decide ((fL cf).length≤65536)) 4 (bj (bP (cf.aZ==1) (bP (cf.aZ==2) (cf.aZ==4))) 2 (E5 cf)):=by unfold yM;rw[←VZ cf];rfl
 have hp:jS cf=rz (yM cf==0) (fL cf) (yM cf):=by
  unfold jS rz;by_cases h0:yM cf=0
  ·rw[if_pos h0,h0];rfl
  ·rw[if_neg h0,beq_eq_false_iff_ne.2 h0]
 have hL:(bp cf.aZ 0).length≤10:=by
  unfold bp;repeat' split
  all_goals simp
 have main:=Jh (w:=w) (cf:=cf) (s:=s) (TT:=fL cf) (bl:=decide ((fL cf).length≤65536)) (E6:=bj (bP (cf.aZ==1) (bP (cf.aZ==2) (cf.aZ==4))) 2 (E5 cf)) (E7:=yM cf) ⟨hlan,h,hw,hf,hT,hB,rfl,rfl,hE⟩ rfl hL rfl rfl rfl rfl rfl;rw[←hp]at main;refine main.mono fun en w' hp=>?_;rcases hp with⟨β,l,mem,hl,he,hR⟩ | ⟨_,_,hf,_⟩
 ·have hl:l=[.val (ae (jS cf).1),.val (.int .i64 (jS cf).2)]:=hl
  subst hl;exact⟨he,hR.aJ⟩
 ·exact hf.elim
set_option maxRecDepth 100000
open Go Go.RowKit Go.Lib Go.Sort _root_.Go.Proofs.Tryz
set_option maxRecDepth 100000
def lq{α:Type}(a b:List α)(k:Nat):Prop:=∀j,j < k→a[j]?=b[j]?
theorem lq.all{α:Type}{a b:List α}(h:lq a b a.length)(hl:a.length=b.length):a=b:=by
 refine List.ext_getElem? fun j=>?_;by_cases hj:j < a.length
 ·exact h j hj
 ·rw[X7 (by omega),X7 (by omega)]
def Ow(B:Bool)(l:List Sx.SV)(_:List Sx.Row):Prop:=l=[.val (.bool B)]
def fw(a b:CF)(s t:gU):List Sx.Row:=[⟨46,.an (aR a s)⟩,⟨46,.an (aR b t)⟩]
theorem jo(a:Int):XA (a !=a)=.bool false:=by simp
abbrev UK{α:Type}(w:World)(B:Bool)(k p:Nat)(x y:List α)(mm:List Sx.Row)(i:Nat):Prop:=∃H' L',Sx.lN prog f25.ntmps ⟨w,[],fun _ _=>False⟩ (Sx.a7 f25 k) H' L' ⟨[(2,.ptr 0 0),(3,.ptr 1 0),(p,.val (.int .i64 ((i:Nat):Int)))],mm⟩
 (Sx.dP (fun i=>i≤x.length∧lq x y i) (fun i=>[(2,.ptr 0 0),(3,.ptr 1 0),(p,.val (.int .i64 ((i:Nat):Int)))]) (fun _=>mm) (fun i=>i+1) (fun i=>x.length - i) (fun(_:Unit)=>x=y) (fun _=>[(2,.ptr 0 0),(3,.ptr 1 0)]) (fun _=>mm) (fun _=>()) (Sx.ej (Sx.a7 f25 k) - 1) (Sx.fm prog f25 (Ow B) .ret) i)
theorem lq.up{α:Type}{a b:List α}{i:Nat}(h:lq a b i)(e:a[i]?=b[i]?):lq a b (i+1):=fun j hj=>by
 by_cases hji:j=i
 ·rw[hji];exact e
 ·exact h j (by omega)
theorem UJ{w:World}(a b:CF)(s t:gU)(ha:jY w [] a s)(hb:jY w [] b t)(wa:kr a)(wb:kr b)(fa:lU a)(hl:a.aj.length=b.aj.length)(B:Bool)(hB:a.aj≠b.aj→B=false)(i:Nat)(hi:i≤a.aj.length∧lq a.aj b.aj i) :
  UK w B 0 5 a.aj b.aj (fw a b s t) i:=by
 have nc:=fa.p;by_cases hlt:i < a.aj.length
 ·have c64:=bT ((i:Int) < (a.aj.length:Int)) (by omega)
  have hx:=getD_at hlt;have hy:=getD_at (l:=b.aj) (i:=i) (by omega);have wx:=wa.p _ (eg hlt);have wy:=wb.p _ (eg (l:=b.aj) (i:=i) (by omega));obtain⟨inf,hi1,hi2⟩:=jr (P:=prog) (t:=3) (n:=1) (by kernel_rfl);obtain⟨p,hp1,hp2⟩:=ha.p.Uq underlying40 hi1 hi2 underlying3 rfl hx;obtain⟨q,hq1,hq2⟩:=hb.p.Uq underlying40 hi1 hi2 underlying3 rfl hy;obtain⟨x,hxe⟩:∃x,x=a.aj.getD i default:=⟨_,rfl⟩;obtain⟨y,hye⟩:∃y,y=b.aj.getD i default:=⟨_,rfl⟩;rw[←hxe]at hx wx hp2;rw[←hye]at hy wy hq2;clear hi1 hi2 hxe hye;have c70:=hp1;have c71:=hp2;have c75:=hq1;have c76:=hq2;by_cases hxy:x=y
  ·have c77:XA (x !=y)=.bool false:=by rw[hxy];exact jo y
   have c66:=mW (i:=i) (by omega);have h0:i+1≤a.aj.length∧lq a.aj b.aj (i+1):=⟨hlt,hi.2.up (by rw[hx,hy,hxy])⟩;have h1:a.aj.length - (i+1) < a.aj.length - i:=by omega
   have h2:=@rfl _ ([(2,.ptr 0 0),(3,.ptr 1 0),(5,.val (.int .i64 ((i+1:Nat):Int)))]:List (Nat×Sx.SV));have z3:=@rfl _ (fw a b s t);refine⟨[ao 64 true,(70,.any p),(71,.any (.int .i64 x)),(75,.any q),(76,.any (.int .i64 y)),ao 77 false,cO 66 (i+1)],[],?_⟩;exact XO (by kernel_rfl) (Sx.t8 c64 c70 c71 c75 c76 c77 c66 h0 (Sx.t2 h1 h2 z3))
  ·have c77:XA (x !=y)=.bool true:=rY (bne_iff_ne.2 hxy)
   have hf:B=false:=hB fun he=>hxy (by rw[he,hy]at hx;exact(XJ.inj hx).symm);have z0:Ow B [.val (.bool false)] []:=by rw[hf];rfl
   refine⟨[ao 64 true,(70,.any p),(71,.any (.int .i64 x)),(75,.any q),(76,.any (.int .i64 y)),ao 77 true],[],?_⟩;exact XO (by kernel_rfl) (Sx.t4 c64 c70 c71 c75 (Sx.t2 c76 c77 z0))
 ·have c64:=bF ((i:Int) < (a.aj.length:Int)) (by omega)
  have hin:i=a.aj.length:=by omega
  have h0:a.aj=b.aj:=lq.all (by rw[←hin];exact hi.2) hl;have h1:=@rfl _ ([(2,.ptr 0 0),(3,.ptr 1 0)]:List (Nat×Sx.SV));have z2:=@rfl _ (fw a b s t);refine⟨[ao 64 false],[],?_⟩;exact XO (by kernel_rfl) (Sx.t2 c64 h0 (XC h1 z2))
theorem UI{w:World}(a b:CF)(s t:gU)(ha:jY w [] a s)(hb:jY w [] b t)(wa:kr a)(wb:kr b)(fa:lU a)(hl:a.af.length=b.af.length)(B:Bool)(hB:a.af≠b.af→B=false)(i:Nat)(hi:i≤a.af.length∧lq a.af b.af i) :
  UK w B 1 6 a.af b.af (fw a b s t) i:=by
 have nc:=fa.r;by_cases hlt:i < a.af.length
 ·have c82:=bT ((i:Int) < (a.af.length:Int)) (by omega)
  have hx:=getD_at hlt;have hy:=getD_at (l:=b.af) (i:=i) (by omega);have wx:=wa.r _ (eg hlt);have wy:=wb.r _ (eg (l:=b.af) (i:=i) (by omega));obtain⟨inf,hi1,hi2⟩:=jr (P:=prog) (t:=118) (n:=19) (by kernel_rfl);obtain⟨p,hp1,hp2⟩:=ha.r.KI Rt.a6 underlying41 hi1 hi2 underlying118 rfl (by omega) hx;obtain⟨q,hq1,hq2⟩:=hb.r.KI Rt.a6 underlying41 hi1 hi2 underlying118 rfl (by omega) hy;obtain⟨x,hxe⟩:∃x,x=a.af.getD i default:=⟨_,rfl⟩;obtain⟨y,hye⟩:∃y,y=b.af.getD i default:=⟨_,rfl⟩;rw[←hxe]at hx wx hp2;rw[←hye]at hy wy hq2;clear hi1 hi2 hxe hye;have c88:=hp1;have c89:=hp2;have c93:=hq1;have c94:=hq2;by_cases hxy:x=y
  ·have c95:=fun W=>(LA (.tmp 89) (.tmp 94) wx wy W).trans (by rw[(cH x y).2 hxy];rfl:_=XY (.bool false) W)
   have c84:=mW (i:=i) (by omega);have h0:i+1≤a.af.length∧lq a.af b.af (i+1):=⟨hlt,hi.2.up (by rw[hx,hy,hxy])⟩;have h1:a.af.length - (i+1) < a.af.length - i:=by omega
   have h2:=@rfl _ ([(2,.ptr 0 0),(3,.ptr 1 0),(6,.val (.int .i64 ((i+1:Nat):Int)))]:List (Nat×Sx.SV));have z3:=@rfl _ (fw a b s t);refine⟨[ao 82 true,(88,.any p),(89,.any (.agg x.cells.toArray)),(93,.any q),(94,.any (.agg y.cells.toArray)),(95,.bin (.bool false)),cO 84 (i+1)],[],?_⟩;exact XO (by kernel_rfl) (Sx.t8 c82 c88 c89 c93 c94 c95 c84 h0 (Sx.t2 h1 h2 z3))
  ·have c95:=fun W=>(LA (.tmp 89) (.tmp 94) wx wy W).trans (by rw[show fx x y=false from XP.2 fun hh=>hxy ((cH x y).1 hh)];rfl:_=XY (.bool true) W)
   have hf:B=false:=hB fun he=>hxy (by rw[he,hy]at hx;exact(XJ.inj hx).symm);have z0:Ow B [.val (.bool false)] []:=by rw[hf];rfl
   refine⟨[ao 82 true,(88,.any p),(89,.any (.agg x.cells.toArray)),(93,.any q),(94,.any (.agg y.cells.toArray)),(95,.bin (.bool true))],[],?_⟩;exact XO (by kernel_rfl) (Sx.t4 c82 c88 c89 c93 (Sx.t2 c94 c95 z0))
 ·have c82:=bF ((i:Int) < (a.af.length:Int)) (by omega)
  have hin:i=a.af.length:=by omega
  have h0:a.af=b.af:=lq.all (by rw[←hin];exact hi.2) hl;have h1:=@rfl _ ([(2,.ptr 0 0),(3,.ptr 1 0)]:List (Nat×Sx.SV));have z2:=@rfl _ (fw a b s t);refine⟨[ao 82 false],[],?_⟩;exact XO (by kernel_rfl) (Sx.t2 c82 h0 (XC h1 z2))
theorem UH{w:World}(a b:CF)(s t:gU)(ha:jY w [] a s)(hb:jY w [] b t)(wa:kr a)(wb:kr b)(fa:lU a)(hl:a.ag.length=b.ag.length)(B:Bool)(hB:a.ag≠b.ag→B=false)(i:Nat)(hi:i≤a.ag.length∧lq a.ag b.ag i) :
  UK w B 2 7 a.ag b.ag (fw a b s t) i:=by
 have nc:=fa.m;by_cases hlt:i < a.ag.length
 ·have c100:=bT ((i:Int) < (a.ag.length:Int)) (by omega)
  have hx:=getD_at hlt;have hy:=getD_at (l:=b.ag) (i:=i) (by omega);have wx:=wa.m _ (eg hlt);have wy:=wb.m _ (eg (l:=b.ag) (i:=i) (by omega));obtain⟨inf,hi1,hi2⟩:=jr (P:=prog) (t:=122) (n:=4) (by kernel_rfl);obtain⟨p,hp1,hp2⟩:=ha.m.KI Me.a6 underlying43 hi1 hi2 underlying122 rfl (by omega) hx;obtain⟨q,hq1,hq2⟩:=hb.m.KI Me.a6 underlying43 hi1 hi2 underlying122 rfl (by omega) hy;obtain⟨x,hxe⟩:∃x,x=a.ag.getD i default:=⟨_,rfl⟩;obtain⟨y,hye⟩:∃y,y=b.ag.getD i default:=⟨_,rfl⟩;rw[←hxe]at hx wx hp2;rw[←hye]at hy wy hq2;clear hi1 hi2 hxe hye;have c106:=hp1;have c107:=hp2;have c111:=hq1;have c112:=hq2;by_cases hxy:x=y
  ·have c113:=fun W=>(MJ (.tmp 107) (.tmp 112) wx wy W).trans (by rw[(cH x y).2 hxy];rfl:_=XY (.bool false) W)
   have c102:=mW (i:=i) (by omega);have h0:i+1≤a.ag.length∧lq a.ag b.ag (i+1):=⟨hlt,hi.2.up (by rw[hx,hy,hxy])⟩;have h1:a.ag.length - (i+1) < a.ag.length - i:=by omega
   have h2:=@rfl _ ([(2,.ptr 0 0),(3,.ptr 1 0),(7,.val (.int .i64 ((i+1:Nat):Int)))]:List (Nat×Sx.SV));have z3:=@rfl _ (fw a b s t);refine⟨[ao 100 true,(106,.any p),(107,.any (.agg x.cells.toArray)),(111,.any q),(112,.any (.agg y.cells.toArray)),(113,.bin (.bool false)),cO 102 (i+1)],[],?_⟩;exact XO (by kernel_rfl) (Sx.t8 c100 c106 c107 c111 c112 c113 c102 h0 (Sx.t2 h1 h2 z3))
  ·have c113:=fun W=>(MJ (.tmp 107) (.tmp 112) wx wy W).trans (by rw[show fx x y=false from XP.2 fun hh=>hxy ((cH x y).1 hh)];rfl:_=XY (.bool true) W)
   have hf:B=false:=hB fun he=>hxy (by rw[he,hy]at hx;exact(XJ.inj hx).symm);have z0:Ow B [.val (.bool false)] []:=by rw[hf];rfl
   refine⟨[ao 100 true,(106,.any p),(107,.any (.agg x.cells.toArray)),(111,.any q),(112,.any (.agg y.cells.toArray)),(113,.bin (.bool true))],[],?_⟩;exact XO (by kernel_rfl) (Sx.t4 c100 c106 c107 c111 (Sx.t2 c112 c113 z0))
 ·have c100:=bF ((i:Int) < (a.ag.length:Int)) (by omega)
  have hin:i=a.ag.length:=by omega
  have h0:a.ag=b.ag:=lq.all (by rw[←hin];exact hi.2) hl;have h1:=@rfl _ ([(2,.ptr 0 0),(3,.ptr 1 0)]:List (Nat×Sx.SV));have z2:=@rfl _ (fw a b s t);refine⟨[ao 100 false],[],?_⟩;exact XO (by kernel_rfl) (Sx.t2 c100 h0 (XC h1 z2))
theorem UG{w:World}(a b:CF)(s t:gU)(ha:jY w [] a s)(hb:jY w [] b t)(wa:kr a)(wb:kr b)(fa:lU a)(hl:a.ab.length=b.ab.length)(B:Bool)(hB:a.ab≠b.ab→B=false)(i:Nat)(hi:i≤a.ab.length∧lq a.ab b.ab i) :
  UK w B 3 8 a.ab b.ab (fw a b s t) i:=by
 have nc:=fa.i;by_cases hlt:i < a.ab.length
 ·have c118:=bT ((i:Int) < (a.ab.length:Int)) (by omega)
  have hx:=getD_at hlt;have hy:=getD_at (l:=b.ab) (i:=i) (by omega);have wx:=wa.i _ (eg hlt);have wy:=wb.i _ (eg (l:=b.ab) (i:=i) (by omega));obtain⟨inf,hi1,hi2⟩:=jr (P:=prog) (t:=124) (n:=3) (by kernel_rfl);obtain⟨p,hp1,hp2⟩:=ha.i.KI Mi.a6 underlying44 hi1 hi2 underlying124 rfl (by omega) hx;obtain⟨q,hq1,hq2⟩:=hb.i.KI Mi.a6 underlying44 hi1 hi2 underlying124 rfl (by omega) hy;obtain⟨x,hxe⟩:∃x,x=a.ab.getD i default:=⟨_,rfl⟩;obtain⟨y,hye⟩:∃y,y=b.ab.getD i default:=⟨_,rfl⟩;rw[←hxe]at hx wx hp2;rw[←hye]at hy wy hq2;clear hi1 hi2 hxe hye;have c124:=hp1;have c125:=hp2;have c129:=hq1;have c130:=hq2;by_cases hxy:x=y
  ·have c131:=fun W=>(MH (.tmp 125) (.tmp 130) wx wy W).trans (by rw[(cH x y).2 hxy];rfl:_=XY (.bool false) W)
   have c120:=mW (i:=i) (by omega);have h0:i+1≤a.ab.length∧lq a.ab b.ab (i+1):=⟨hlt,hi.2.up (by rw[hx,hy,hxy])⟩;have h1:a.ab.length - (i+1) < a.ab.length - i:=by omega
   have h2:=@rfl _ ([(2,.ptr 0 0),(3,.ptr 1 0),(8,.val (.int .i64 ((i+1:Nat):Int)))]:List (Nat×Sx.SV));have z3:=@rfl _ (fw a b s t);refine⟨[ao 118 true,(124,.any p),(125,.any (.agg x.cells.toArray)),(129,.any q),(130,.any (.agg y.cells.toArray)),(131,.bin (.bool false)),cO 120 (i+1)],[],?_⟩;exact XO (by kernel_rfl) (Sx.t8 c118 c124 c125 c129 c130 c131 c120 h0 (Sx.t2 h1 h2 z3))
  ·have c131:=fun W=>(MH (.tmp 125) (.tmp 130) wx wy W).trans (by rw[show fx x y=false from XP.2 fun hh=>hxy ((cH x y).1 hh)];rfl:_=XY (.bool true) W)
   have hf:B=false:=hB fun he=>hxy (by rw[he,hy]at hx;exact(XJ.inj hx).symm);have z0:Ow B [.val (.bool false)] []:=by rw[hf];rfl
   refine⟨[ao 118 true,(124,.any p),(125,.any (.agg x.cells.toArray)),(129,.any q),(130,.any (.agg y.cells.toArray)),(131,.bin (.bool true))],[],?_⟩;exact XO (by kernel_rfl) (Sx.t4 c118 c124 c125 c129 (Sx.t2 c130 c131 z0))
 ·have c118:=bF ((i:Int) < (a.ab.length:Int)) (by omega)
  have hin:i=a.ab.length:=by omega
  have h0:a.ab=b.ab:=lq.all (by rw[←hin];exact hi.2) hl;have h1:=@rfl _ ([(2,.ptr 0 0),(3,.ptr 1 0)]:List (Nat×Sx.SV));have z2:=@rfl _ (fw a b s t);refine⟨[ao 118 false],[],?_⟩;exact XO (by kernel_rfl) (Sx.t2 c118 h0 (XC h1 z2))
theorem UF{w:World}(a b:CF)(s t:gU)(ha:jY w [] a s)(hb:jY w [] b t)(wa:kr a)(wb:kr b)(fa:lU a)(hl:a.rules.length=b.rules.length)(B:Bool)(hB:a.rules≠b.rules→B=false)(i:Nat)(hi:i≤a.rules.length∧lq a.rules b.rules i) :
  UK w B 4 9 a.rules b.rules (fw a b s t) i:=by
 have nc:=fa.l;by_cases hlt:i < a.rules.length
 ·have c136:=bT ((i:Int) < (a.rules.length:Int)) (by omega)
  have hx:=getD_at hlt;have hy:=getD_at (l:=b.rules) (i:=i) (by omega);have wx:=wa.l _ (eg hlt);have wy:=wb.l _ (eg (l:=b.rules) (i:=i) (by omega));obtain⟨inf,hi1,hi2⟩:=jr (P:=prog) (t:=81) (n:=49) (by kernel_rfl);obtain⟨p,hp1,hp2⟩:=ha.l.KI Rl.a6 underlying42 hi1 hi2 underlying81 rfl (by omega) hx;obtain⟨q,hq1,hq2⟩:=hb.l.KI Rl.a6 underlying42 hi1 hi2 underlying81 rfl (by omega) hy;obtain⟨x,hxe⟩:∃x,x=a.rules.getD i default:=⟨_,rfl⟩;obtain⟨y,hye⟩:∃y,y=b.rules.getD i default:=⟨_,rfl⟩;rw[←hxe]at hx wx hp2;rw[←hye]at hy wy hq2;clear hi1 hi2 hxe hye;have c142:=hp1;have c143:=hp2;have c147:=hq1;have c148:=hq2;by_cases hxy:x=y
  ·have c149:=fun W=>(LQ (.tmp 143) (.tmp 148) wx wy W).trans (by rw[(cH x y).2 hxy];rfl:_=XY (.bool false) W)
   have c138:=mW (i:=i) (by omega);have h0:i+1≤a.rules.length∧lq a.rules b.rules (i+1):=⟨hlt,hi.2.up (by rw[hx,hy,hxy])⟩;have h1:a.rules.length - (i+1) < a.rules.length - i:=by omega
   have h2:=@rfl _ ([(2,.ptr 0 0),(3,.ptr 1 0),(9,.val (.int .i64 ((i+1:Nat):Int)))]:List (Nat×Sx.SV));have z3:=@rfl _ (fw a b s t);refine⟨[ao 136 true,(142,.any p),(143,.any (.agg x.cells.toArray)),(147,.any q),(148,.any (.agg y.cells.toArray)),(149,.bin (.bool false)),cO 138 (i+1)],[],?_⟩;exact XO (by kernel_rfl) (Sx.t8 c136 c142 c143 c147 c148 c149 c138 h0 (Sx.t2 h1 h2 z3))
  ·have c149:=fun W=>(LQ (.tmp 143) (.tmp 148) wx wy W).trans (by rw[show fx x y=false from XP.2 fun hh=>hxy ((cH x y).1 hh)];rfl:_=XY (.bool true) W)
   have hf:B=false:=hB fun he=>hxy (by rw[he,hy]at hx;exact(XJ.inj hx).symm);have z0:Ow B [.val (.bool false)] []:=by rw[hf];rfl
   refine⟨[ao 136 true,(142,.any p),(143,.any (.agg x.cells.toArray)),(147,.any q),(148,.any (.agg y.cells.toArray)),(149,.bin (.bool true))],[],?_⟩;exact XO (by kernel_rfl) (Sx.t4 c136 c142 c143 c147 (Sx.t2 c148 c149 z0))
 ·have c136:=bF ((i:Int) < (a.rules.length:Int)) (by omega)
  have hin:i=a.rules.length:=by omega
  have h0:a.rules=b.rules:=lq.all (by rw[←hin];exact hi.2) hl;have h1:=@rfl _ ([(2,.ptr 0 0),(3,.ptr 1 0)]:List (Nat×Sx.SV));have z2:=@rfl _ (fw a b s t);refine⟨[ao 136 false],[],?_⟩;exact XO (by kernel_rfl) (Sx.t2 c136 h0 (XC h1 z2))
theorem Uo(a b:Int):XA (a !=b)=.bool (!decide (a=b)):=by by_cases h:a=b<;>simp[h]
theorem Pv{w:World}(a b:CF)(s t:gU)(z0 z1 z2 z3 z4 z5 B:Bool)(hf:(z0||(z1||(z2||(z3||(z4||z5)))))=true→B=false)
  (kq:XA ((a.aj.length:Int) !=(b.aj.length:Int))=.bool z0) (c24:XA ((a.af.length:Int) !=(b.af.length:Int))=.bool z1) (c33:XA ((a.ag.length:Int) !=(b.ag.length:Int))=.bool z2) (qy:XA ((a.ab.length:Int) !=(b.ab.length:Int))=.bool z3)
  (c51:XA ((a.rules.length:Int) !=(b.rules.length:Int))=.bool z4) (c58:XA (a.aZ !=b.aZ)=.bool z5) (h:(z0||(z1||(z2||(z3||(z4||z5)))))=true):Calls prog 25 #[.agg (aR a s).toArray,.agg (aR b t).toArray] w (Sx.cN ⟨w,[],fun _ _=>False⟩ (Ow B)):=by
 have zz:Ow B [.val (.bool false)] []:=by rw[hf h];rfl
 have CH:=XC kq (bA.mk (b:=z0) (fun _=>c24) (bA.mk (b:=z0||z1) (fun _=>c33) (bA.mk (b:=z0||z1||z2) (fun _=>qy) (bA.mk (b:=z0||z1||z2||z3) (fun _=>c51) (bA.mk (b:=z0||z1||z2||z3||z4) (fun _=>c58) zz)))));refine Sx.bO (args:=[.val (.agg (aR a s).toArray),.val (.agg (aR b t).toArray)]) (jw w) [ao 16 z0,ao 24 z1,ao 33 z2,ao 42 z3,ao 51 z4,ao 58 z5] [] (by kernel_rfl) func25 rfl (bN rfl) rfl ?_;clear hf zz kq c24 c33 qy c51 c58;cases z0
 ·cases z1
  ·cases z2
   ·cases z3
    ·cases z4
     ·cases z5
      ·cases h
      ·exact XO (by kernel_rfl) CH
     ·exact XO (by kernel_rfl) CH
    ·exact XO (by kernel_rfl) CH
   ·exact XO (by kernel_rfl) CH
  ·exact XO (by kernel_rfl) CH
 ·exact XO (by kernel_rfl) CH
def UL{α:Type}(p:Nat)(x y:List α)(mm:List Sx.Row):Sx.Loop:=.mk Nat 0 (fun i=>i≤x.length∧lq x y i) (fun i=>[(2,.ptr 0 0),(3,.ptr 1 0),(p,.val (.int .i64 ((i:Nat):Int)))]) (fun _=>mm) (fun i=>i+1) (fun i=>x.length - i) Unit (fun _=>x=y) (fun _=>[(2,.ptr 0 0),(3,.ptr 1 0)]) (fun _=>mm) (fun _=>())
theorem UM{α:Type}(p:Nat)(x y:List α)(mm:List Sx.Row):(0≤x.length∧lq x y 0)∧(([(2,.ptr 0 0),(3,.ptr 1 0),(p,.val (.int .i64 ((0:Nat):Int)))]:List (Nat×Sx.SV))=[(2,.ptr 0 0),(3,.ptr 1 0),(p,.val (.int .i64 ((0:Nat):Int)))]∧mm=mm):=⟨⟨XI _,fun j hj=>(by omega)⟩,rfl,rfl⟩
theorem Pt{w:World}(a b:CF)(s t:gU)(ha:jY w [] a s)(hb:jY w [] b t)(wa:kr a)(wb:kr b)(fa:lU a)(e0:a.aj.length=b.aj.length)(e1:a.af.length=b.af.length)(e2:a.ag.length=b.ag.length)(e3:a.ab.length=b.ab.length)(e4:a.rules.length=b.rules.length)(e5:a.aZ=b.aZ):Calls prog 25 #[.agg (aR a s).toArray,.agg (aR b t).toArray] w (Sx.cN ⟨w,[],fun _ _=>False⟩ (Ow (fx a b))):=by
 have kq:XA ((a.aj.length:Int) !=(b.aj.length:Int))=.bool false:=by rw[e0];exact jo _
 have c24:XA ((a.af.length:Int) !=(b.af.length:Int))=.bool false:=by rw[e1];exact jo _
 have c33:XA ((a.ag.length:Int) !=(b.ag.length:Int))=.bool false:=by rw[e2];exact jo _
 have qy:XA ((a.ab.length:Int) !=(b.ab.length:Int))=.bool false:=by rw[e3];exact jo _
 have c51:XA ((a.rules.length:Int) !=(b.rules.length:Int))=.bool false:=by rw[e4];exact jo _
 have c58:XA (a.aZ !=b.aZ)=.bool false:=by rw[e5];exact jo _
 have hB:∀{p:Prop},(a=b→p)→¬p→fx a b=false:=fun h hn=>XP.2 fun hh=>hn (h ((cH a b).1 hh));have iZ:=UJ a b s t ha hb wa wb fa e0 (fx a b) (hB fun hh=>by rw[hh]);obtain⟨h0,ee1⟩:=UM 5 a.aj b.aj (fw a b s t);have rd7:=UI a b s t ha hb wa wb fa e1 (fx a b) (hB fun hh=>by rw[hh]);obtain⟨h5,e6⟩:=UM 6 a.af b.af (fw a b s t);have rd12:=UH a b s t ha hb wa wb fa e2 (fx a b) (hB fun hh=>by rw[hh]);obtain⟨h10,e11⟩:=UM 7 a.ag b.ag (fw a b s t);have rd17:=UG a b s t ha hb wa wb fa e3 (fx a b) (hB fun hh=>by rw[hh]);obtain⟨h15,e16⟩:=UM 8 a.ab b.ab (fw a b s t);have rd22:=UF a b s t ha hb wa wb fa e4 (fx a b) (hB fun hh=>by rw[hh]);obtain⟨h20,e21⟩:=UM 9 a.rules b.rules (fw a b s t);have z25f:=fun(_:Unit) (q0:a.aj=b.aj) (_:Unit) (q1:a.af=b.af) (_:Unit) (q2:a.ag=b.ag) (_:Unit) (q3:a.ab=b.ab) (_:Unit) (q4:a.rules=b.rules)=>(show Ow (fx a b) [.val (.bool true)] []from by
  have:a=b:=by cases a;cases b;simp_all
  rw[(cH a b).2 this];rfl)
 clear e1;have e1:=ee1
 refine Sx.bO (args:=[.val (.agg (aR a s).toArray),.val (.agg (aR b t).toArray)]) (jw w) [ao 16 false,ao 24 false,ao 33 false,ao 42 false,ao 51 false,ao 58 false]
  [UL 5 a.aj b.aj (fw a b s t),UL 6 a.af b.af (fw a b s t),UL 7 a.ag b.ag (fw a b s t),UL 8 a.ab b.ab (fw a b s t),UL 9 a.rules b.rules (fw a b s t)] (by kernel_rfl) func25 rfl (bN rfl) rfl ?_
 exact XO (by kernel_rfl) (Sx.t8 kq c24 c33 qy c51 c58 h0 e1 (XC iZ (fun(x3:Unit) (hx4:a.aj=b.aj)=>(Sx.t2 h5 e6 (XC rd7 (fun(x8:Unit) (hx9:a.af=b.af)=>(Sx.t2 h10 e11 (XC rd12 (fun(x13:Unit) (hx14:a.ag=b.ag)=>(Sx.t2 h15 e16 (XC rd17 (fun(x18:Unit) (hx19:a.ab=b.ab)=>(Sx.t2 h20 e21 (XC rd22 (fun(x23:Unit) (hx24:a.rules=b.rules)=>(z25f x3 hx4 x8 hx9 x13 hx14 x18 hx19 x23 hx24))))))))))))))))
theorem Ls{w:World}(a b:CF)(s t:gU)(ha:jY w [] a s)(hb:jY w [] b t)(wa:kr a)(wb:kr b)(fa:lU a):Calls prog 25 #[.agg (aR a s).toArray,.agg (aR b t).toArray] w (Rn w (.bool (fx a b))):=by
 have main:Calls prog 25 #[.agg (aR a s).toArray,.agg (aR b t).toArray] w (Sx.cN ⟨w,[],fun _ _=>False⟩ (Ow (fx a b))):=by
  by_cases e:a.aj.length=b.aj.length∧a.af.length=b.af.length∧a.ag.length=b.ag.length∧a.ab.length=b.ab.length∧a.rules.length=b.rules.length∧a.aZ=b.aZ
  ·exact Pt a b s t ha hb wa wb fa e.1 e.2.1 e.2.2.1 e.2.2.2.1 e.2.2.2.2.1 e.2.2.2.2.2
  ·exact Pv a b s t _ _ _ _ _ _ _ (fun _=>XP.2 fun hh=>e (by rw[(cH a b).1 hh];exact⟨rfl,rfl,rfl,rfl,rfl,rfl⟩)) (Uo _ _) (Uo _ _) (Uo _ _) (Uo _ _) (Uo _ _) (Uo _ _) (by simp only[XN,XZ,decide_eq_false_iff_not];omega)
 refine main.mono fun en w' hp=>?_;rcases hp with⟨β,l,mem,hl,he,hR⟩ | ⟨_,_,hf,_⟩
 ·have hl:l=[.val (.bool (fx a b))]:=hl
  subst hl;exact⟨he,hR.aJ⟩
 ·exact hf.elim
set_option maxRecDepth 100000
open Go Go.RowKit Go.Lib Go.Sort _root_.Go.Proofs.Tryz
def Bv:Px:=⟨false,10*2^120,8⟩
def Bw:Mt:=⟨40,(0,0),ov,ov,6,(0,0),(80,90)⟩
def dB:CF:=⟨[3,4],[⟨Bv,3⟩],[⟨[97],Bw,3,4,[109],[99]⟩,⟨[98],kU,2,0,[],[]⟩],[⟨[109],5,2,9⟩],[⟨[99],4,16⟩],1⟩
def Xe(cf:CF)(l:List Sx.SV)(mem:List Sx.Row):Prop:=∃k0 k1 k2 k3 k4,l=[.dX [.o k0,.o k1,.o k2,.o k3,.o k4,.v (.int .i64 cf.aZ)]]∧mem[k0]?=some ⟨3,.own 1 cf.aj.length cf.cp⟩∧mem[k1]?=some ⟨118,.own 19 cf.af.length cf.cr⟩∧mem[k2]?=some ⟨81,.own 49 cf.rules.length cf.cl⟩∧mem[k3]?=some ⟨122,.own 4 cf.ag.length cf.cm⟩∧mem[k4]?=some ⟨124,.own 3 cf.ab.length cf.ci⟩
theorem J4(w:World):Calls prog 67 #[] w (Sx.cN ⟨w,[],fun _ _=>False⟩ (Xe dB)):=by have z0:Xe dB [.dX [.o 3,.o 4,.o 7,.o 5,.o 6,.v (.int .i64 1)]] [⟨46,.dK [.own 3,.own 4,.own 7,.own 5,.own 6,.val (.int .i64 1)]⟩,⟨29,.an Bv.cells⟩,⟨66,.an Bw.cells⟩,⟨3,.own 1 2 dB.cp⟩,⟨118,.own 19 1 dB.cr⟩,⟨122,.own 4 1 dB.cm⟩,⟨124,.own 3 1 dB.ci⟩,⟨81,.own 49 2 dB.cl⟩]:=⟨3,4,7,5,6,rfl,rfl,rfl,rfl,rfl,rfl⟩;refine Sx.bO (args:=[]) (jw w) [(9,.jG 3 1),(12,.jG 118 19),(15,.jG 122 4),(17,.jG 124 3),(21,.jG 81 49)] [] (by kernel_rfl) func67 rfl (bN rfl) rfl ?_;exact XO (by kernel_rfl) z0
open Go.RowKit Go.Lib Go.Sort
theorem Ur{α:Type}(pre:List α)(x:α)(r:List α):(pre++x::r)[pre.length]?=some x:=by simp
theorem Uq{α:Type}(pre:List α)(x y:α)(r:List α):(pre++x::y::r)[pre.length+1]?=some y:=by rw[X1 (by omega)];simp
theorem dJ{is:Bool}{code e:Int}(hc:code≠0):bj is code e=0↔is=true∧e=0:=by
 unfold bj;cases is with
 |true=>simp
 |false=>
  by_cases h:e=0
  ·rw[decide_eq_true h];simp[hc]
  ·rw[decide_eq_false h];simp[h]
theorem Ou{out:Bool}{pre r:List Bs}{act o:Int}(hb:ly act o=true)(hout:out=true∨act≠3)(ho:o≤9223372036854775807):pS out (pre++(bp act o++r)) pre.length=.ok (act,o) (pre.length+(bp act o).length):=by
 unfold ly at hb;simp only[XD,XN,decide_eq_true_eq]at hb;obtain⟨⟨h1,h4⟩,h0,hz⟩:=hb;unfold pS;by_cases a1:act=1
 ·have hz0:o=0:=by omega
  have e:bp act o=[bZ]:=by unfold bp;rw[if_pos a1]
  rw[e];simp only[XQ,XL];rw[jy (Ur pre bZ r)];simp only[Out.bind,if_true];rw[a1,hz0];rfl
 by_cases a2:act=2
 ·have hz0:o=0:=by omega
  have e:bp act o=[jb]:=by unfold bp;rw[if_neg a1,if_pos a2]
  rw[e];simp only[XQ,XL];rw[jy (Ur pre jb r)];simp only[Out.bind];rw[if_neg (by decide),if_pos trivial,a2,hz0];rfl
 by_cases a3:act=3
 ·have e:bp act o=[mj,cW o]:=by unfold bp;rw[if_neg a1,if_neg a2,if_pos a3]
  have ht:out=true:=by
   rcases hout with h|h
   ·exact h
   ·exact absurd a3 h
  rw[e];simp only[XQ,XL];rw[jy (Ur pre mj (cW o::r))];simp only[Out.bind];rw[if_neg (by decide),if_neg (by decide),if_neg (by decide),if_pos ⟨trivial,ht⟩];have:=xz (ws:=pre++mj::cW o::r) (i:=pre.length+1) (n:=o) (Uq pre mj (cW o) r) h0 ho;rw[this];show Out.ok (3,((o.toNat:Nat):Int)) (pre.length+1+1)=_;rw[XR h0,a3];rfl
 ·have a4:act=4:=by omega
  have hz0:o=0:=by omega
  have e:bp act o=[eC]:=by unfold bp;rw[if_neg a1,if_neg a2,if_neg a3,if_pos a4]
  rw[e];simp only[XQ,XL];rw[jy (Ur pre eC r)];simp only[Out.bind];rw[if_neg (by decide),if_neg (by decide),if_pos trivial,a4,hz0];rfl
theorem Mo{k s:Bs}{pre r:List Bs}(hs:iV s=true)(hr:r[0]?≠some k):o5 k (pre++(dF k s++r)) pre.length=.ok s (pre.length+(dF k s).length):=by
 unfold o5 dF;by_cases h:s=[]
 ·rw[if_pos h,XL]
  have e:(pre++r)[pre.length]?=r[0]?:=by rw[X1 (by omega),Nat.sub_self]
  rw[kF (by rw[e];exact hr),h];rfl
 ·rw[if_neg h]
  have hn:aK s=true:=by unfold iV at hs;rw[decide_eq_false h]at hs;exact hs
  simp only[XQ,XL];rw[lA (Ur pre k (s::r))];show fO (pre++k::s::r) (pre.length+1)=_;rw[vq (Uq pre k s r) hn];rfl
def dL(r:Rl):List Bs:=[fT,r.name]++(zI r.mt++([oz]++(bp r.act r.out++(dF bc r.dx++(dF aT r.cA++[])))))
theorem Tf(l:List Bs):V5 ([oz]++l):=fun x hx=>by cases hx;decide
structure KB(r:Rl):Prop where
 mt:Gr r.mt
 out:r.out≤9223372036854775807
theorem PC(hU:Oy){r:Rl}(hr:KB r)(hc:bq r.mt=true)(hn:aK r.name=true)(ha:ly r.act r.out=true)(hme:iV r.dx=true)(hmi:iV r.cA=true):od (dL r) 1=.ok r (dL r).length:=by
 have hp1:∀{α β:Type} (a:α) (i:Nat) (f:α→Nat→Out β),(Out.ok a i).bind f=f a i:=fun _ _ _=>rfl;unfold od;rw[show fO (dL r) 1=.ok r.name 2 from vq rfl hn,hp1];have hm:=ML hU (M:=r.mt) hr.mt hc (pre:=[fT,r.name]) (r:=[oz]++(bp r.act r.out++(dF bc r.dx++(dF aT r.cA++[])))) (Tf _);rw[show eO (dL r) 2=.ok r.mt (2+(zI r.mt).length)from hm,hp1];obtain⟨p1,hp⟩:∃p1,p1=[fT,r.name]++zI r.mt:=⟨_,rfl⟩;have l1:p1.length=2+(zI r.mt).length:=by rw[hp,Xy];rfl
 have e1:dL r=p1++(oz::(bp r.act r.out++(dF bc r.dx++(dF aT r.cA++[])))):=by rw[hp];unfold dL;simp
 rw[←l1];have e2:Fx r.mt (dL r) p1.length=.ok () (p1.length+1):=by unfold Fx;rw[jy (x:=oz) (by rw[e1];exact Ur _ _ _),hp1];show(aY (decide (oz=oz)) 200 () (p1.length+1)).bind _=_;rw[decide_eq_true rfl];show aY (bq r.mt) 190 () (p1.length+1)=_;rw[hc];rfl
 rw[e2,hp1];obtain⟨p2,hp2⟩:∃p2,p2=p1++[oz]:=⟨_,rfl⟩;have l2:p2.length=p1.length+1:=by rw[hp2,Xy];rfl
 have e3:dL r=p2++(bp r.act r.out++(dF bc r.dx++(dF aT r.cA++[]))):=by rw[e1,hp2];simp
 rw[←l2,show pS true (dL r) p2.length=.ok (r.act,r.out) (p2.length+(bp r.act r.out).length)by rw[e3];exact Ou ha (.inl rfl) hr.out,hp1];obtain⟨p3,hp3⟩:∃p3,p3=p2++bp r.act r.out:=⟨_,rfl⟩;have l3:p3.length=p2.length+(bp r.act r.out).length:=by rw[hp3,Xy]
 have e4:dL r=p3++(dF bc r.dx++(dF aT r.cA++[])):=by rw[e3,hp3];simp
 rw[←l3,show o5 bc (dL r) p3.length=.ok r.dx (p3.length+(dF bc r.dx).length)by
  rw[e4];refine Mo hme ?_;unfold dF;split
  ·simp
  ·simp;decide,hp1]
 obtain⟨p4,hp4⟩:∃p4,p4=p3++dF bc r.dx:=⟨_,rfl⟩;have l4:p4.length=p3.length+(dF bc r.dx).length:=by rw[hp4,Xy]
 have e5:dL r=p4++(dF aT r.cA++[]):=by rw[e4,hp4];simp
 rw[←l4,show o5 aT (dL r) p4.length=.ok r.cA (p4.length+(dF aT r.cA).length)by rw[e5];exact Mo hmi (by simp),hp1];congr 1;rw[e5];simp
theorem qq{x:Bs}{l:List Bs}{cf cf':CF}{d:Nat}(h:fC x (x::l) 1 cf d=.ok cf' (x::l).length):ef (x::l) cf d=.ok cf' (x::l).length:=by show pz (x::l) 0 cf d=_;unfold pz;rw[jy (x:=x) rfl];show(fC x (x::l) 1 cf d).bind _=_;rw[h];show qG (x::l) cf' (x::l).length=_;unfold qG;rw[decide_eq_false (by omega)]
theorem zp{n:Int}(h0:0≤n)(hn:n≤9223372036854775807)(cf:CF)(d:Nat):ef (fh n) cf d=.ok { cf with aj:=cf.aj++[n] } 2:=by refine qq ?_;unfold fC;rw[if_pos rfl,xz (n:=n) rfl h0 hn];show Out.ok { cf with aj:=cf.aj++[((n.toNat:Nat):Int)] } 2=_;rw[XR h0];rfl
theorem E8(hU:Oy){r:Rt}(hp:r.pf.n < 2^128)(hk:gy r.pf.v r.pf.n r.pf.k=true)(h0:0≤r.out)(hn:r.out≤9223372036854775807)(cf:CF)(d:Nat):ef (fN r) cf d=.ok { cf with af:=cf.af++[r] } 3:=by refine qq ?_;unfold fC;rw[if_neg (by decide),if_pos rfl,prefix_at hU (p:=r.pf) rfl hp hk];show(ji _ 2).bind _=_;rw[xz (n:=r.out) rfl h0 hn];show Out.ok { cf with af:=cf.af++[(⟨r.pf,((r.out.toNat:Nat):Int)⟩:Rt)] } 3=_;rw[XR h0];rfl
theorem Fy{m:Me}(hn:aK m.name=true)(h1:m.num≤18446744073709551615)(h2:m.den≤18446744073709551615)(h3:m.qR≤18446744073709551615)(cf:CF)(d:Nat):ef (fQ m) cf d=.ok { cf with ag:=cf.ag++[m] } 5:=by refine qq ?_;unfold fC;rw[if_neg (by decide),if_neg (by decide),if_pos rfl,vq (x:=m.name) rfl hn];show(bE _ _ 2).bind _=_;rw[mO (n:=m.num) rfl h1];show(bE _ _ 3).bind _=_;rw[mO (n:=m.den) rfl h2];show(bE _ _ 4).bind _=_;rw[mO (n:=m.qR) rfl h3];rfl
theorem CT{m:Mi}(hn:aK m.name=true)(h1:0≤m.out)(h2:m.out≤9223372036854775807)(h3:0≤m.room)(h4:m.room≤9223372036854775807)(cf:CF)(d:Nat):ef (eB m) cf d=.ok { cf with ab:=cf.ab++[m] } 4:=by refine qq ?_;unfold fC;rw[if_neg (by decide),if_neg (by decide),if_neg (by decide),if_pos rfl,vq (x:=m.name) rfl hn];show(ji _ 2).bind _=_;rw[xz (n:=m.out) rfl h1 h2];show(ji _ 3).bind _=_;rw[xz (n:=m.room) rfl h3 h4];show Out.ok { cf with ab:=cf.ab++[(⟨m.name,((m.out.toNat:Nat):Int),((m.room.toNat:Nat):Int)⟩:Mi)] } 4=_;rw[XR h1,XR h3];rfl
theorem IP(hU:Oy){r:Rl}(hr:KB r)(hc:bq r.mt=true)(hn:aK r.name=true)(ha:ly r.act r.out=true)(hme:iV r.dx=true)(hmi:iV r.cA=true)(cf:CF)(d:Nat):ef (dL r) cf d=.ok { cf with rules:=cf.rules++[r] } (dL r).length:=by refine qq (x:=fT) ?_;unfold fC;rw[if_neg (by decide),if_neg (by decide),if_neg (by decide),if_neg (by decide),if_pos rfl];have:=PC hU hr hc hn ha hme hmi;show(od (dL r) 1).bind _=_;rw[this];rfl
theorem Kb{a:Int}(h:a=1∨a=2∨a=4)(cf:CF):ef (jW a) cf 0=.ok { cf with aZ:=a } 2:=by
 have hl:(bp a 0).length=1:=by rcases h with rfl|rfl|rfl<;>rfl
 have hb:ly a 0=true:=by rcases h with rfl|rfl|rfl<;>decide
 have ha:=Ou (out:=false) (pre:=[aO]) (r:=[]) hb (.inr (by omega)) (by omega);rw[hl,List.append_nil]at ha;have h2:(aO::bp a 0).length=2:=by rw[Xz,hl]
 have:=qq (x:=aO) (l:=bp a 0) (cf:=cf) (cf':={ cf with aZ:=a }) (d:=0) (by unfold fC;rw[if_neg (by decide),if_neg (by decide),if_neg (by decide),if_neg (by decide),if_neg (by decide),if_pos rfl];show(pS false (aO::bp a 0) 1).bind _=_;rw[show pS false (aO::bp a 0) 1=.ok (a,0) 2 from ha,h2];rfl);rw[h2]at this;exact this
theorem nJ{l:Bs}{ls:List Bs}{k i:Nat}{cf cf':CF}{d:Nat}(h:ef (aD true l) cf d=.ok cf' i):ei (l::ls) k cf d=ei ls (k+1) cf' (dN (aD true l) d):=by rw[ei,h]
theorem ku{α:Type}{W:α→List Bs}{add:CF→α→CF}{d:Nat}{rest:List Bs}:∀(l:List α) (k:Nat) (cf:CF),(∀a∈l,(∀x∈W a,eW x)∧(W a)[0]?≠some aO∧∀cf,∃i,ef (W a) cf d=.ok (add cf a) i)→
  ei (l.map (fun a=>ay 32 (W a))++rest) k cf d=ei rest (k+l.length) (l.foldl add cf) d
 | [],k,cf,_=>rfl
 |a::l,k,cf,h=>by
  obtain⟨h1,h2,h3⟩:=h a (by simp);obtain⟨i,hi⟩:=h3 cf;have e:=qV true (W a) h1;rw[List.map_cons,XQ,nJ (by rw[e];exact hi),e];have:dN (W a) d=d:=by unfold dN;rw[if_neg h2]
  rw[this,ku l (k+1) (add cf a) fun b hb=>h b (XW _ hb),Xz];congr 1;omega
structure pY(cf:CF):Prop where
 aj:∀n∈cf.aj,0≤n∧n≤9223372036854775807
 af:∀r∈cf.af,r.pf.n < 2^128∧gy r.pf.v r.pf.n r.pf.k=true∧0≤r.out∧r.out≤9223372036854775807
 ag:∀m∈cf.ag,aK m.name=true∧m.num≤18446744073709551615∧m.den≤18446744073709551615∧m.qR≤18446744073709551615
 ab:∀m∈cf.ab,aK m.name=true∧0≤m.out∧m.out≤9223372036854775807∧0≤m.room∧m.room≤9223372036854775807
 rules:∀r∈cf.rules,KB r∧bq r.mt=true∧aK r.name=true∧ly r.act r.out=true∧iV r.dx=true∧iV r.cA=true
 aZ:cf.aZ=1∨cf.aZ=2∨cf.aZ=4
structure Uh(cf:CF):Prop where
 aj:∀n∈cf.aj,n≤9223372036854775807
 af:∀r∈cf.af,r.pf.n < 2^128∧r.out≤9223372036854775807
 ag:∀m∈cf.ag,m.num≤18446744073709551615∧m.den≤18446744073709551615∧m.qR≤18446744073709551615
 ab:∀m∈cf.ab,m.out≤9223372036854775807∧m.room≤9223372036854775807
 rules:∀r∈cf.rules,KB r
theorem fold_zero{α:Type}{E:Int→α→Int}{p:α→Prop}(h:∀e a,E e a=0↔p a∧e=0):∀(l:List α) (e:Int),l.foldl E e=0↔(∀a∈l,p a)∧e=0
 | [],e=>by simp
 |a::l,e=>by
  rw[XT,fold_zero h l,h];constructor
  ·rintro⟨h1,h2,h3⟩
   exact⟨fun b hb=>by
    rcases XE.1 hb with rfl|hb
    ·exact h2
    ·exact h1 b hb,h3⟩
  ·rintro⟨h1,h2⟩
   exact⟨fun b hb=>h1 b (XW _ hb),h1 a (by simp),h2⟩
theorem F9(cf:CF):uT cf=0↔(∀n∈cf.aj,0≤n)∧(∀r∈cf.af,0≤r.out∧gy r.pf.v r.pf.n r.pf.k=true)∧(∀m∈cf.ag,aK m.name=true)∧(∀m∈cf.ab,(0≤m.out∧0≤m.room)∧aK m.name=true)∧
  (∀r∈cf.rules,iV r.cA=true∧iV r.dx=true∧ly r.act r.out=true∧bq r.mt=true∧aK r.name=true)∧(cf.aZ=1∨cf.aZ=2∨cf.aZ=4):=by
 have pE:∀e n,G7 e n=0↔0≤n∧e=0:=fun e n=>by unfold G7;rw[dJ (by decide)];simp
 have rE:∀e (r:Rt),AI e r=0↔(0≤r.out∧gy r.pf.v r.pf.n r.pf.k=true)∧e=0:=fun e r=>by unfold AI;rw[dJ (by decide),dJ (by decide)];simp[and_assoc]
 have mE:∀e (m:Me),A4 e m=0↔aK m.name=true∧e=0:=fun e m=>by unfold A4;rw[dJ (by decide)]
 have iE:∀e (m:Mi),qn e m=0↔((0≤m.out∧0≤m.room)∧aK m.name=true)∧e=0:=fun e m=>by unfold qn;rw[dJ (by decide),dJ (by decide)];simp[and_assoc]
 have lE:∀e (r:Rl),um e r=0↔(iV r.cA=true∧iV r.dx=true∧ly r.act r.out=true∧bq r.mt=true∧aK r.name=true)∧e=0:=fun e r=>by unfold um;rw[dJ (by decide),dJ (by decide),dJ (by decide),dJ (by decide),dJ (by decide)];simp[and_assoc]
 unfold uT NJ;rw[dJ (by decide),fold_zero lE,fold_zero iE,fold_zero mE,fold_zero rE,fold_zero pE];simp only[XN,decide_eq_true_eq,and_true];constructor
 ·rintro⟨h1,h2,h3,h4,h5,h6⟩
  exact⟨h6,h5,h4,h3,h2,h1⟩
 ·rintro⟨h1,h2,h3,h4,h5,h6⟩
  exact⟨h6,h5,h4,h3,h2,h1⟩
theorem D4{cf:CF}(h:Uh cf):uT cf=0↔pY cf:=by
 rw[F9];constructor
 ·rintro⟨h1,h2,h3,h4,h5,h6⟩
  exact⟨fun n hn=>⟨h1 n hn,h.aj n hn⟩,fun r hr=>⟨(h.af r hr).1,(h2 r hr).2,(h2 r hr).1,(h.af r hr).2⟩,fun m hm=>⟨h3 m hm,h.ag m hm⟩,fun m hm=>⟨(h4 m hm).2,(h4 m hm).1.1,(h.ab m hm).1,(h4 m hm).1.2,(h.ab m hm).2⟩,
   fun r hr=>⟨h.rules r hr,(h5 r hr).2.2.2.1,(h5 r hr).2.2.2.2,(h5 r hr).2.2.1,(h5 r hr).2.1,(h5 r hr).1⟩,h6⟩
 ·intro h
  exact⟨fun n hn=>(h.aj n hn).1,fun r hr=>⟨(h.af r hr).2.2.1,(h.af r hr).2.1⟩,fun m hm=>(h.ag m hm).1,fun m hm=>⟨⟨(h.ab m hm).2.1,(h.ab m hm).2.2.2.1⟩,(h.ab m hm).1⟩,
   fun r hr=>⟨(h.rules r hr).2.2.2.2.2,(h.rules r hr).2.2.2.2.1,(h.rules r hr).2.2.2.1,(h.rules r hr).2.1,(h.rules r hr).2.2.1⟩,h.aZ⟩
open Go.RowKit Go.Lib Go.Sort
theorem ns{c:UInt8}(h:36≤c.toNat):yR c:=⟨fun e=>by subst e;exact absurd h (by decide),fun e=>by subst e;exact absurd h (by decide),fun e=>by subst e;exact absurd h (by decide),fun e=>by subst e;exact absurd h (by decide)⟩
theorem BB{b:Nat}(h2:2≤b)(h16:b≤16)(u:Nat):∀c∈aq b u,yR c:=fun c hc=>by obtain⟨d,hd,rfl⟩:=iQ h2 u c hc;refine ns ?_;rw[fb (by omega)];split<;>omega
theorem nf(u:Nat):eW (aq 10 u):=⟨jz u,BB (by omega) (by omega) u⟩
theorem Oi{a b:Bs}(ha:∀c∈a,yR c)(hb:∀c∈b,yR c):∀c∈a++b,yR c:=fun c hc=>by
 rcases XM.1 hc with h|h
 ·exact ha c h
 ·exact hb c h
theorem BD{x:UInt8}{b:Bs}(hx:yR x)(hb:∀c∈b,yR c):∀c∈x::b,yR c:=fun c hc=>by
 rcases XE.1 hc with rfl|h
 ·exact hx
 ·exact hb c h
theorem M4{s:UInt8}(hs:yR s){l:List Bs}(h:∀x∈l,∀c∈x,yR c):∀c∈ay s l,yR c:=fun c hc=>by
 rcases gw hc with rfl|⟨x,hx,h1⟩
 ·exact hs
 ·exact h x hx c h1
theorem Bg(l:List Nat):∀c∈aU l,yR c:=M4 (ns (by decide)) fun x hx=>by obtain⟨u,_,rfl⟩:=XX.1 hx;exact BB (by omega) (by omega) u
theorem Pd(v:Bool)(n:Nat):∀c∈eL v n,yR c:=by
 cases v with
 |false=>show ∀c∈fq n,yR c;refine M4 (ns (by decide)) fun x hx=>?_;simp at hx;rcases hx with rfl|rfl|rfl|rfl<;>exact BB (by omega) (by omega) _
 |true=>
  show ∀c∈cK (aP n),yR c;unfold cK;split
  ·exact Bg _
  ·exact Oi (Bg _) (BD (ns (by decide)) (BD (ns (by decide)) (Bg _)))
theorem Pc(v:Bool)(n:Nat)(k:Int):eW (iX v n k):=by unfold iX;refine⟨by simp,Oi (Pd v n) (BD (ns (by decide)) (BB (by omega) (by omega) _))⟩
theorem Mb{p:Px}(h:gy p.v p.n p.k=true):eW (wJ p):=by unfold wJ j8;rw[if_pos h];exact Pc _ _ _
theorem Vm{i:Nat}{c:UInt8}(h:vo i c=true):yR c:=by refine ns ?_;unfold vo at h;simp only[XN,XD,decide_eq_true_eq]at h;omega
theorem AZ{x:Bs}(h:aK x=true):eW x:=by unfold aK at h;simp only[XD,decide_eq_true_eq,Yb,Yd]at h;refine⟨fun e=>by rw[e]at h;exact absurd h.1.1 (by decide),fun c hc=>?_⟩;obtain⟨i,hi,rfl⟩:=List.mem_iff_getElem.1 hc;have:=h.2 i hi;rw[X4 hi]at this;exact Vm this
theorem xw{n:Int}(h:0≤n):eW (cW n):=by rw[zO h];exact nf _
theorem gC{x:Bs}(h:(!x.isEmpty&&x.all fun c=>decide (36≤c.toNat))=true):eW x:=by simp only[XD,Yb,decide_eq_true_eq]at h;refine⟨fun e=>by subst e;exact absurd h.1 (by decide),fun c hc=>ns (h.2 c hc)⟩
theorem ES(s:Nat×Nat):eW (ft s):=by
 unfold ft;split
 ·exact nf _
 ·exact⟨by simp,Oi (nf _).2 (BD (ns (by decide)) (nf _).2)⟩
theorem P8(n:Nat):eW (eo n):=by
 unfold eo;split
 ·exact gC (by decide)
 split
 ·exact gC (by decide)
 ·exact nf _
theorem Q6{M:Mt}{k:Nat}(hk:k < 6)(hb:M.asks.testBit k=true)(hs:M.asks.testBit 1=true→gy M.src.v M.src.n M.src.k=true)(hd:M.asks.testBit 2=true→gy M.dst.v M.dst.n M.dst.k=true):∀x∈bW M k,eW x:=by
 have two:∀{a b:Bs},eW a→eW b→∀x∈[a,b],eW x:=fun {a b} ha hb x hx=>by
  simp at hx;rcases hx with rfl|rfl
  ·exact ha
  ·exact hb
 match k,hk with
 | 0,_=>exact two (gC (by decide)) (ES _)
 | 1,_=>exact two (gC (by decide)) (Mb (hs hb))
 | 2,_=>exact two (gC (by decide)) (Mb (hd hb))
 | 3,_=>exact two (gC (by decide)) (P8 _)
 | 4,_=>exact two (gC (by decide)) (ES _)
 | 5,_=>exact two (gC (by decide)) (ES _)
theorem Vp{M:Mt}(hc:bq M=true):∀x∈zI M,eW x:=by
 obtain⟨_,_,_,_,_,_,_,hs,hd⟩:=pJ hc;unfold zI;split
 ·intro x hx;rw[XB.1 hx];exact gC (by decide)
 ·rw[rv]
  intro x hx;obtain⟨k,hk,hx⟩:=List.mem_flatMap.1 hx;exact Q6 (kX hk).1 (kX hk).2 hs hd x hx
theorem Tk{M:Mt}(hc:bq M=true):zI M≠[]:=by
 have ha:=(pJ hc).1;unfold zI;split
 ·simp
 ·rename_i h0
  rw[rv];obtain⟨k,ks,hks⟩:=X2 (Sd h0 ha);obtain⟨x,y,e,_⟩:=sS M (kX (M:=M) (k:=k) (by rw[hks];simp)).1;rw[hks,List.flatMap_cons,e];simp
theorem So{act o:Int}(h:ly act o=true):∀x∈bp act o,eW x:=by
 unfold ly at h;simp only[XD,decide_eq_true_eq]at h;unfold bp;split
 ·intro x hx;rw[XB.1 hx];exact gC (by decide)
 split
 ·intro x hx;rw[XB.1 hx];exact gC (by decide)
 split
 ·intro x hx
  simp at hx;rcases hx with rfl|rfl
  ·exact gC (by decide)
  ·exact xw h.2.1
 split
 ·intro x hx;rw[XB.1 hx];exact gC (by decide)
 ·intro x hx;cases hx
theorem R5{k s:Bs}(hk:eW k)(h:iV s=true):∀x∈dF k s,eW x:=by
 unfold dF;split
 ·intro x hx;cases hx
 ·rename_i h0
  have hn:aK s=true:=by unfold iV at h;rw[decide_eq_false h0]at h;exact h
  intro x hx;simp at hx;rcases hx with rfl|rfl
  ·exact hk
  ·exact AZ hn
theorem Ly{r:Rl}(hc:bq r.mt=true)(hn:aK r.name=true)(ha:ly r.act r.out=true)(hme:iV r.dx=true)(hmi:iV r.cA=true):∀x∈dL r,eW x:=by
 intro x hx;unfold dL at hx;simp only[XM,XE,XH,or_false]at hx;rcases hx with(rfl|rfl)|hx|rfl|hx|hx|hx
 ·exact gC (by decide)
 ·exact AZ hn
 ·exact Vp hc x hx
 ·exact gC (by decide)
 ·exact So ha x hx
 ·exact R5 (gC (by decide)) hme x hx
 ·exact R5 (gC (by decide)) hmi x hx
theorem IQ{r:Rl}(hc:bq r.mt=true):ay 32 (ek r)=ay 32 (dL r):=by
 have e:Ji r.mt=ay 32 (zI r.mt):=by unfold Ji;rw[hc];exact FB _
 have h1:ek r=fT::(r.name::ay 32 (zI r.mt)::([oz]++(bp r.act r.out++(dF bc r.dx++(dF aT r.cA++[]))))):=by unfold ek;rw[e];simp
 have h2:dL r=fT::(r.name::(zI r.mt++([oz]++(bp r.act r.out++(dF bc r.dx++(dF aT r.cA++[])))))):=rfl;have h3:=JS 32 r.name (zI r.mt) ([oz]++(bp r.act r.out++(dF bc r.dx++(dF aT r.cA++[])))) (Tk hc);rw[h1,h2];show fT++32::ay 32 (r.name::_)=fT++32::ay 32 (r.name::_);rw[h3]
def Kj(cf:CF):List (List Bs):=cf.aj.map fh++cf.af.map fN++cf.ag.map fQ++cf.ab.map eB++cf.rules.map dL++[jW cf.aZ]
theorem FJ(a b:List (List Bs)):dy (a++b)=dy a++dy b:=by simp[dy]
theorem xq{α:Type}(f g:α→List Bs):∀l:List α,(∀a∈l,ay 32 (f a)=ay 32 (g a))→dy (l.map f)=dy (l.map g)
 | [],_=>rfl
 |a::l,h=>by show ir (f a)++dy (l.map f)=ir (g a)++dy (l.map g);unfold ir;rw[h a (by simp),xq f g l fun b hb=>h b (XW _ hb)]
theorem Kk{cf:CF}(h:pY cf):fL cf=dy (Kj cf):=by unfold fL lP Kj;simp only[FJ];rw[xq ek dL cf.rules fun r hr=>IQ (h.rules r hr).2.1]
theorem G6{cf:CF}(h:pY cf):∀n∈cf.aj,∀x∈fh n,eW x:=fun n hn x hx=>by
 simp[fh]at hx;rcases hx with rfl|rfl
 ·exact gC (by decide)
 ·exact xw (h.aj n hn).1
theorem Cv{cf:CF}(h:pY cf):∀n∈cf.af,∀x∈fN n,eW x:=fun n hn x hx=>by
 simp[fN]at hx;rcases hx with rfl|rfl|rfl
 ·exact gC (by decide)
 ·exact Mb (h.af n hn).2.1
 ·exact xw (h.af n hn).2.2.1
theorem CU{cf:CF}(h:pY cf):∀n∈cf.ag,∀x∈fQ n,eW x:=fun n hn x hx=>by
 simp[fQ]at hx;rcases hx with rfl|rfl|rfl|rfl|rfl
 ·exact gC (by decide)
 ·exact AZ (h.ag n hn).1
 all_goals exact nf _
theorem zH{cf:CF}(h:pY cf):∀n∈cf.ab,∀x∈eB n,eW x:=fun n hn x hx=>by
 simp[eB]at hx;rcases hx with rfl|rfl|rfl|rfl
 ·exact gC (by decide)
 ·exact AZ (h.ab n hn).1
 ·exact xw (h.ab n hn).2.1
 ·exact xw (h.ab n hn).2.2.2.1
theorem GU{cf:CF}(h:pY cf):∀r∈cf.rules,∀x∈dL r,eW x:=fun r hr=>by have:=h.rules r hr;exact Ly this.2.1 this.2.2.1 this.2.2.2.1 this.2.2.2.2.1 this.2.2.2.2.2
theorem NH{a:Int}(h:a=1∨a=2∨a=4):∀x∈jW a,eW x:=by
 intro x hx;unfold jW at hx;rcases XE.1 hx with rfl|hx
 ·exact gC (by decide)
 ·exact So (by rcases h with rfl|rfl|rfl<;>decide) x hx
theorem TO{cf:CF}(h:pY cf):∀ws∈Kj cf,∀x∈ws,eW x:=by
 intro ws hws x hx;unfold Kj at hws;simp only[XM,XX,XB]at hws;rcases hws with((((⟨n,hn,rfl⟩ | ⟨n,hn,rfl⟩)|⟨n,hn,rfl⟩)|⟨n,hn,rfl⟩)|⟨n,hn,rfl⟩)|rfl
 ·exact G6 h n hn x hx
 ·exact Cv h n hn x hx
 ·exact CU h n hn x hx
 ·exact zH h n hn x hx
 ·exact GU h n hn x hx
 ·exact NH h.aZ x hx
theorem xM:∀(l:List Int) (cf:CF),l.foldl (fun cf n=>{ cf with aj:=cf.aj++[n] }) cf={ cf with aj:=cf.aj++l }
 | [],cf=>by simp
 |a::l,cf=>by rw[XT,xM l];simp
theorem uM:∀(l:List Rt) (cf:CF),l.foldl (fun cf n=>{ cf with af:=cf.af++[n] }) cf={ cf with af:=cf.af++l }
 | [],cf=>by simp
 |a::l,cf=>by rw[XT,uM l];simp
theorem uN:∀(l:List Me) (cf:CF),l.foldl (fun cf n=>{ cf with ag:=cf.ag++[n] }) cf={ cf with ag:=cf.ag++l }
 | [],cf=>by simp
 |a::l,cf=>by rw[XT,uN l];simp
theorem sQ:∀(l:List Mi) (cf:CF),l.foldl (fun cf n=>{ cf with ab:=cf.ab++[n] }) cf={ cf with ab:=cf.ab++l }
 | [],cf=>by simp
 |a::l,cf=>by rw[XT,sQ l];simp
theorem xL:∀(l:List Rl) (cf:CF),l.foldl (fun cf n=>{ cf with rules:=cf.rules++[n] }) cf={ cf with rules:=cf.rules++l }
 | [],cf=>by simp
 |a::l,cf=>by rw[XT,xL l];simp
theorem TW(hU:Oy){cf:CF}(h:pY cf):ei (aG (fL cf)) 1 uU 0=.ok cf:=by rw[Kk h,uF (Kj cf) fun ws hws x hx=>(TO h ws hws x hx).2];unfold Kj;simp only[List.map_append,Yf,List.append_assoc];show ei (cf.aj.map (fun n=>ay 32 (fh n))++_) 1 uU 0=_;rw[ku (W:=fh) (add:=fun cf n=>{ cf with aj:=cf.aj++[n] }) cf.aj _ _ fun n hn=>⟨G6 h n hn,by simp[fh];decide,fun c=>⟨_,zp (h.aj n hn).1 (h.aj n hn).2 c 0⟩⟩,xM];show ei (cf.af.map (fun n=>ay 32 (fN n))++_) _ _ 0=_;rw[ku (W:=fN) (add:=fun cf n=>{ cf with af:=cf.af++[n] }) cf.af _ _ fun n hn=>⟨Cv h n hn,by simp[fN];decide,fun c=>⟨_,E8 hU (h.af n hn).1 (h.af n hn).2.1 (h.af n hn).2.2.1 (h.af n hn).2.2.2 c 0⟩⟩,uM];show ei (cf.ag.map (fun n=>ay 32 (fQ n))++_) _ _ 0=_;rw[ku (W:=fQ) (add:=fun cf n=>{ cf with ag:=cf.ag++[n] }) cf.ag _ _ fun n hn=>⟨CU h n hn,by simp[fQ];decide,fun c=>⟨_,Fy (h.ag n hn).1 (h.ag n hn).2.1 (h.ag n hn).2.2.1 (h.ag n hn).2.2.2 c 0⟩⟩,uN];show ei (cf.ab.map (fun n=>ay 32 (eB n))++_) _ _ 0=_;rw[ku (W:=eB) (add:=fun cf n=>{ cf with ab:=cf.ab++[n] }) cf.ab _ _ fun n hn=>⟨zH h n hn,by simp[eB];decide,fun c=>⟨_,CT (h.ab n hn).1 (h.ab n hn).2.1 (h.ab n hn).2.2.1 (h.ab n hn).2.2.2.1 (h.ab n hn).2.2.2.2 c 0⟩⟩,sQ];show ei (cf.rules.map (fun n=>ay 32 (dL n))++_) _ _ 0=_;rw[ku (W:=dL) (add:=fun cf n=>{ cf with rules:=cf.rules++[n] }) cf.rules _ _ fun n hn=>⟨GU h n hn,by show some fT≠some aO;decide,fun c=>⟨_,IP hU (h.rules n hn).1 (h.rules n hn).2.1 (h.rules n hn).2.2.1 (h.rules n hn).2.2.2.1 (h.rules n hn).2.2.2.2.1 (h.rules n hn).2.2.2.2.2 c 0⟩⟩,xL];have hw:=qV true (jW cf.aZ) (NH h.aZ);show ei (ay 32 (jW cf.aZ)::[[]]) _ _ 0=_;rw[nJ (by rw[hw];exact Kb h.aZ _),hw];have e:aD true []=[]:=rfl;rw[nJ (cf':={ aj:=cf.aj,af:=cf.af,rules:=cf.rules,ag:=cf.ag,ab:=cf.ab,aZ:=cf.aZ }) (i:=0) (by rw[e];rfl),e];rfl
open Go.RowKit Go.Lib Go.Sort
theorem Mt.Wf.in{m:Mt}(h:m.Wf):Gr m:=⟨h.fU.1,h.fU.2,h.sp.1,h.sp.2,h.dp.1,h.dp.2,h.pr,h.sn,h.dn⟩
theorem vp{ws:List Bs}{i j:Nat}{x:Bs}(h:fO ws i=.ok x j):aK x=true:=by obtain⟨y,k,_,h⟩:=Out.aH h;obtain⟨hb,rfl⟩:=oC h;exact hb
theorem zi{ws:List Bs}{i j:Nat}{p:Px}(h:dE ws i=.ok p j):p.n < 2^128∧gy p.v p.n p.k=true:=by
 obtain⟨y,k,_,h⟩:=Out.aH h;obtain⟨hb,rfl⟩:=oC h;cases hr:ou y with
 |none=>rw[hr]at hb;cases hb
 |some p=>exact⟨(mL hr).1,(mL hr).2.1⟩
theorem pA{ws:List Bs}{i j n:Nat}(h:ji ws i=.ok n j):(0:Int)≤(n:Int)∧(n:Int)≤9223372036854775807:=by have:=rp h;omega
theorem Gp{out:Bool}{ws:List Bs}{i j:Nat}{a:Int×Int}(h:pS out ws i=.ok a j):ly a.1 a.2=true∧a.2≤9223372036854775807∧(out=false→a.1=1∨a.1=2∨a.1=4):=by
 obtain⟨x,k,_,h⟩:=Out.aH h;have one:∀{b:Int×Int},Out.ok b k=.ok a j→(b=(1,0)∨b=(2,0)∨b=(4,0))→ly a.1 a.2=true∧a.2≤9223372036854775807∧(out=false→a.1=1∨a.1=2∨a.1=4):=fun {b} h hb=>by
  injection h with h _;subst h;rcases hb with rfl|rfl|rfl
  ·exact⟨by decide,by decide,fun _=>.inl rfl⟩
  ·exact⟨by decide,by decide,fun _=>.inr (.inl rfl)⟩
  ·exact⟨by decide,by decide,fun _=>.inr (.inr rfl)⟩
 split at h
 ·exact one h (.inl rfl)
 split at h
 ·exact one h (.inr (.inl rfl))
 split at h
 ·exact one h (.inr (.inr rfl))
 split at h
 ·rename_i hx
  obtain⟨n,l,hn,h⟩:=Out.aH h;injection h with h _;subst h;have:=pA hn;refine⟨?_,this.2,fun ho=>by rw[hx.2]at ho;cases ho⟩;unfold ly;simp only[XD,XN,decide_eq_true_eq];exact⟨⟨by decide,by decide⟩,this.1,.inr trivial⟩
 ·cases h
theorem Mn{k:Bs}{ws:List Bs}{i j:Nat}{x:Bs}(h:o5 k ws i=.ok x j):iV x=true:=by
 obtain⟨b,l,_,h⟩:=Out.aH h;cases b with
 |true=>have:=vp h;unfold iV;rw[this,Bool.or_true]
 |false=>injection h with h _;rw[←h];decide
theorem Tj{m:Mt}{ws:List Bs}{i j:Nat}{u:Unit}(h:Fx m ws i=.ok u j):bq m=true:=by obtain⟨x,k,_,h⟩:=Out.aH h;obtain⟨y,k2,_,h⟩:=Out.aH h;exact(oC h).1
theorem PB{ws:List Bs}{i j:Nat}{r:Rl}(h:od ws i=.ok r j):KB r∧bq r.mt=true∧aK r.name=true∧ly r.act r.out=true∧iV r.dx=true∧iV r.cA=true:=by obtain⟨nm,_,h1,h⟩:=Out.aH h;obtain⟨m,_,h2,h⟩:=Out.aH h;obtain⟨u,_,h3,h⟩:=Out.aH h;obtain⟨a,_,h4,h⟩:=Out.aH h;obtain⟨me,_,h5,h⟩:=Out.aH h;obtain⟨mi,_,h6,h⟩:=Out.aH h;injection h with h _;subst h;exact⟨⟨(xj h2).1.in,(Gp h4).2.1⟩,Tj h3,vp h1,(Gp h4).1,Mn h5,Mn h6⟩
structure We(cf:CF)(d:Nat):Prop where
 aj:∀n∈cf.aj,0≤n∧n≤9223372036854775807
 af:∀r∈cf.af,r.pf.n < 2^128∧gy r.pf.v r.pf.n r.pf.k=true∧0≤r.out∧r.out≤9223372036854775807
 ag:∀m∈cf.ag,aK m.name=true∧m.num≤18446744073709551615∧m.den≤18446744073709551615∧m.qR≤18446744073709551615
 ab:∀m∈cf.ab,aK m.name=true∧0≤m.out∧m.out≤9223372036854775807∧0≤m.room∧m.room≤9223372036854775807
 rules:∀r∈cf.rules,KB r∧bq r.mt=true∧aK r.name=true∧ly r.act r.out=true∧iV r.dx=true∧iV r.cA=true
 aZ:d≠0→cf.aZ=1∨cf.aZ=2∨cf.aZ=4
theorem ph{α:Type}{p:α→Prop}{l:List α}{a:α}(h:∀x∈l,p x)(ha:p a):∀x∈l++[a],p x:=fun x hx=>by
 rcases XM.1 hx with h1|h1
 ·exact h x h1
 ·rw[XB.1 h1];exact ha
theorem QB{ws:List Bs}{cf cf':CF}{d i:Nat}(h:ef ws cf d=.ok cf' i)(hc:We cf d):We cf' (dN ws d):=by
 unfold ef at h;split at h
 ·injection h with h _
  subst h;exact hc
 ·obtain⟨x,k,hx,h⟩:=Out.aH h
  obtain⟨c,k2,hb,h⟩:=Out.aH h;have hcc:cf'=c:=by
   unfold qG at h;split at h
   ·cases h
   ·injection h with h _;exact h.symm
  subst hcc;have hx0:ws[0]?=some x:=by
   unfold aV at hx;split at hx
   ·rename_i y hy;injection hx with hx _;rw[←hx];exact hy
   ·cases hx
  have dn:x≠aO→dN ws d=d:=fun hne=>by unfold dN;rw[hx0,if_neg (fun hh=>hne (XJ.inj hh))]
  unfold fC at hb;split at hb
  ·rename_i hk
   rw[dn (by rw[hk];decide)];obtain⟨n,_,h1,hb⟩:=Out.aH hb;injection hb with hb _;subst hb;exact { hc with aj:=ph hc.aj (pA h1) }
  split at hb
  ·rename_i hk
   rw[dn (by rw[hk];decide)];obtain⟨p,_,h1,hb⟩:=Out.aH hb;obtain⟨n,_,h2,hb⟩:=Out.aH hb;injection hb with hb _;subst hb;exact { hc with af:=ph hc.af ⟨(zi h1).1,(zi h1).2,(pA h2).1,(pA h2).2⟩ }
  split at hb
  ·rename_i hk
   rw[dn (by rw[hk];decide)];obtain⟨nm,_,h1,hb⟩:=Out.aH hb;obtain⟨a,_,h2,hb⟩:=Out.aH hb;obtain⟨b,_,h3,hb⟩:=Out.aH hb;obtain⟨c,_,h4,hb⟩:=Out.aH hb;injection hb with hb _;subst hb;exact { hc with ag:=ph hc.ag ⟨vp h1,rp h2,rp h3,rp h4⟩ }
  split at hb
  ·rename_i hk
   rw[dn (by rw[hk];decide)];obtain⟨nm,_,h1,hb⟩:=Out.aH hb;obtain⟨a,_,h2,hb⟩:=Out.aH hb;obtain⟨b,_,h3,hb⟩:=Out.aH hb;injection hb with hb _;subst hb;exact { hc with ab:=ph hc.ab ⟨vp h1,(pA h2).1,(pA h2).2,(pA h3).1,(pA h3).2⟩ }
  split at hb
  ·rename_i hk
   rw[dn (by rw[hk];decide)];obtain⟨r,_,h1,hb⟩:=Out.aH hb;injection hb with hb _;subst hb;exact { hc with rules:=ph hc.rules (PB h1) }
  split at hb
  ·obtain⟨u,_,_,hb⟩:=Out.aH hb
   obtain⟨a,_,h1,hb⟩:=Out.aH hb;injection hb with hb _;subst hb;exact { hc with aZ:=fun _=>(Gp h1).2.2 rfl }
  ·cases hb
theorem CC:∀(ls:List Bs) (k:Nat) (cf:CF) (d:Nat),We cf d→∀cf',ei ls k cf d=.ok cf'→pY cf'
 | [],k,cf,d,hc,cf',h=>by
  unfold ei at h;injection h with h;subst h;by_cases hd:d=0
  ·rw[if_pos hd]
   exact⟨hc.aj,hc.af,hc.ag,hc.ab,hc.rules,.inr (.inl rfl)⟩
  ·rw[if_neg hd]
   exact⟨hc.aj,hc.af,hc.ag,hc.ab,hc.rules,hc.aZ hd⟩
 |l::ls,k,cf,d,hc,cf',h=>by
  unfold ei at h;cases hl:ef (aD true l) cf d with
  |ok c i=>rw[hl]at h;exact CC ls _ c _ (QB hl hc) cf' h
  |no code p=>rw[hl]at h;cases h
theorem VN:We uU 0:=⟨fun n h=>(by cases h),fun n h=>(by cases h),fun n h=>(by cases h),fun n h=>(by cases h),fun n h=>(by cases h),fun h=>absurd rfl h⟩
theorem L0{s:Bs}{cf:CF}(h:dD s=.ok cf):pY cf:=by
 unfold dD at h;split at h
 ·cases h
 ·exact CC _ _ _ _ VN cf h
theorem pY.in{cf:CF}(h:pY cf):Uh cf:=⟨fun n hn=>(h.aj n hn).2,fun r hr=>⟨(h.af r hr).1,(h.af r hr).2.2.2⟩,fun m hm=>(h.ag m hm).2,fun m hm=>⟨(h.ab m hm).2.2.1,(h.ab m hm).2.2.2.2⟩,fun r hr=>(h.rules r hr).1⟩
open Go Go.RowKit Go.Lib Go.Sort
theorem D6{P:Program}{f:FuncId}{args:Array Value}{w:World}{v v':Value}(h:Calls P f args w (Rn w v))(h':Calls P f args w (Rn w v'))(hi:P.inits.idxOf? f=none):v=v':=by
 have k1:Calls P f args w fun | .returned u,_=>u=v|_,_=>False:=h.mono fun e w' ⟨he,_⟩=>by subst he;rfl
 have k2:Calls P f args w fun | .returned u,_=>u=v' | _,_=>False:=h'.mono fun e w' ⟨he,_⟩=>by subst he;rfl
 obtain⟨n,u,w1,e1,r1⟩:=k1.done hi;obtain⟨m,u',w2,e2,r2⟩:=k2.done hi;have a:=runN_ended e1 m;have b:=runN_ended e2 n;rw[Yg,a]at b;injection b with ho _;injection ho with hv;rw[←r1,←r2,hv]
theorem SP{w:World}(hl:eF w):Oy:=fun p hn hk=>by
 have e:wJ p=iX p.v p.n p.k:=by unfold wJ j8;rw[if_pos hk]
 have hp:tb (wJ p) p.v p.n p.k:=⟨hn,hk,e.symm⟩;cases hr:ou (wJ p)with
 |none=>exact absurd hp (wA hr p.v p.n p.k)
 |some q=>
  have hq:=mL hr;have h1:=wu hp (vk p) w hl;have h2:=wu hq (vk p) w hl;have hv:=D6 h1 h2 (by kernel_rfl);injection hv with hv;have hv:#[X5 (dt p.v p.n p.k).toArray,.int .i64 0]=#[X5 (dt q.v q.n q.k).toArray,.int .i64 0]:=hv;have hv:=congrArg Array.toList hv;injection hv with hv _;injection hv with hv;have hv:dt p.v p.n p.k=dt q.v q.n q.k:=by simpa using hv
  rw[Px.dH (p:=p) (q:=q) hn hq.1 hv]
def yi(m:Nat)(cf:CF):List Sx.Atom:=[.o m,.o (m+1),.o (m+2),.o (m+3),.o (m+4),.v (.int .i64 cf.aZ)]
structure Ew(w:World)(cf:CF)(s:gU):Prop where
 p:Own w 3 1 (.slice s.p.A cf.aj.length s.p.c) cf.aj.length cf.cp
 r:Own w 118 19 (.slice s.r.A cf.af.length s.r.c) cf.af.length cf.cr
 l:Own w 81 49 (.slice s.l.A cf.rules.length s.l.c) cf.rules.length cf.cl
 m:Own w 122 4 (.slice s.m.A cf.ag.length s.m.c) cf.ag.length cf.cm
 i:Own w 124 3 (.slice s.i.A cf.ab.length s.i.c) cf.ab.length cf.ci
def gU.new(s:gU)(N:Nat):Prop:=∀A∈[s.p.A,s.r.A,s.l.A,s.m.A,s.i.A],∀k,A.map (·.block)=some k→N≤k
theorem Ew.rd{w:World}{cf:CF}{s:gU}{S:List Nat}(h:Ew w cf s)(hS:∀A∈[s.p.A,s.r.A,s.l.A,s.m.A,s.i.A],∀k,A.map (·.block)=some k→k∉S):jY w S cf s:=by have hh:∀A∈[s.p.A,s.r.A,s.l.A,s.m.A,s.i.A],∀n c k,(Ye A n c).ownBlock=some k→k∉S:=fun A hA n c k hk=>hS A hA k (by rw[IG]at hk;exact hk);exact⟨qH.o8 h.p (hh _ (by simp) _ _),qH.o8 h.r (hh _ (by simp) _ _),qH.o8 h.l (hh _ (by simp) _ _),qH.o8 h.m (hh _ (by simp) _ _),qH.o8 h.i (hh _ (by simp) _ _)⟩
theorem cx{w:World}{T T' size size' n n' c c':Nat}{A A':Option Go.Addr}{xs xs':List Value}(h:Own w T size (.slice A n c) n xs)(h':Own w T' size' (.slice A' n' c') n' xs')(hne:T≠T'){x:Nat}(hx:A.map (·.block)=some x)(hx':A'.map (·.block)=some x):False:=
 h.MC h' hne x (by rw[IG];exact hx) (by rw[IG];exact hx')
theorem ub{β:Sx.Env}{W w':World}{row:Nat→Option Sx.Row}{m:Nat}{X:List Nat}{cf:CF}{s:gU}{ret:Sx.SV}{e:Ending}(h:Ew w' cf s)(hn:s.new W.heap.size)(hret:e=.returned (ret.den (aL β m cf s)))(hc:ai [] W w') :
  Sx.BT β W row m ⟨X,[],[],bX cf,ret,none⟩ e w' (aL β m cf s):=by
 have hold:∀i,i < m→β i=(aL β m cf s) i∧β.a i=(aL β m cf s).a i∧β.n i=(aL β m cf s).n i∧β.c i=(aL β m cf s).c i:=fun i hi=>by
  refine⟨rfl,?_,?_,?_⟩
  ·show β.a i=if i=m then s.p.A else if i=m+1 then s.r.A else if i=m+2 then s.l.A else if i=m+3 then s.m.A else if i=m+4 then s.i.A else β.a i
   rw[if_neg (by omega),if_neg (by omega),if_neg (by omega),if_neg (by omega),if_neg (by omega)]
  ·show β.n i=if i=m then cf.aj.length else if i=m+1 then cf.af.length else if i=m+2 then cf.rules.length else if i=m+3 then cf.ag.length else if i=m+4 then cf.ab.length else β.n i
   rw[if_neg (by omega),if_neg (by omega),if_neg (by omega),if_neg (by omega),if_neg (by omega)]
  ·show β.c i=if i=m then s.p.c else if i=m+1 then s.r.c else if i=m+2 then s.l.c else if i=m+3 then s.m.c else if i=m+4 then s.i.c else β.c i
   rw[if_neg (by omega),if_neg (by omega),if_neg (by omega),if_neg (by omega),if_neg (by omega)]
 have a1:∀j k:Nat,m+j=m+k↔j=k:=fun j k=>by omega
 have a2:∀k:Nat,m+(k+1)≠m:=fun k=>by omega
 have aA:(aL β m cf s).a m=s.p.A∧(aL β m cf s).a (m+1)=s.r.A∧(aL β m cf s).a (m+2)=s.l.A∧(aL β m cf s).a (m+3)=s.m.A∧(aL β m cf s).a (m+4)=s.i.A:=by simp[aL]
 have aN:(aL β m cf s).n m=cf.aj.length∧(aL β m cf s).n (m+1)=cf.af.length∧(aL β m cf s).n (m+2)=cf.rules.length∧(aL β m cf s).n (m+3)=cf.ag.length∧(aL β m cf s).n (m+4)=cf.ab.length:=by simp[aL]
 have aC:(aL β m cf s).c m=s.p.c∧(aL β m cf s).c (m+1)=s.r.c∧(aL β m cf s).c (m+2)=s.l.c∧(aL β m cf s).c (m+3)=s.m.c∧(aL β m cf s).c (m+4)=s.i.c:=by simp[aL]
 have cw:∀(k:Nat) (r:Sx.Row) (x:Nat),(bX cf)[k]?=some r→Sx.az (aL β m cf s) (m+k) r=some x→(k=0∧s.p.A.map (·.block)=some x)∨(k=1∧s.r.A.map (·.block)=some x)∨(k=2∧s.l.A.map (·.block)=some x)∨(k=3∧s.m.A.map (·.block)=some x)∨(k=4∧s.i.A.map (·.block)=some x):=by
  intro k r x hr hx;match k,hr with
  | 0,hr=>cases hr;have hx:((aL β m cf s).a (m+0)).map (·.block)=some x:=hx;rw[X0,aA.1]at hx;exact .inl ⟨rfl,hx⟩
  | 1,hr=>cases hr;have hx:((aL β m cf s).a (m+1)).map (·.block)=some x:=hx;rw[aA.2.1]at hx;exact .inr (.inl ⟨rfl,hx⟩)
  | 2,hr=>cases hr;have hx:((aL β m cf s).a (m+2)).map (·.block)=some x:=hx;rw[aA.2.2.1]at hx;exact .inr (.inr (.inl ⟨rfl,hx⟩))
  | 3,hr=>cases hr;have hx:((aL β m cf s).a (m+3)).map (·.block)=some x:=hx;rw[aA.2.2.2.1]at hx;exact .inr (.inr (.inr (.inl ⟨rfl,hx⟩)))
  | 4,hr=>cases hr;have hx:((aL β m cf s).a (m+4)).map (·.block)=some x:=hx;rw[aA.2.2.2.2]at hx;exact .inr (.inr (.inr (.inr ⟨rfl,hx⟩)))
 refine⟨hold,hret,fun q hq=>(by cases hq),fun k r hr=>?_,fun k r x hr hx=>?_,fun k k' r r' x hr hr' hx hx'=>?_,hc⟩
 ·match k,hr with
  | 0,hr=>cases hr;show(aL β m cf s).n (m+0)=cf.aj.length∧Own w' 3 1 (.slice ((aL β m cf s).a (m+0)) cf.aj.length ((aL β m cf s).c (m+0))) cf.aj.length cf.cp;rw[X0,aA.1,aN.1,aC.1];exact⟨rfl,h.p⟩
  | 1,hr=>cases hr;show(aL β m cf s).n (m+1)=cf.af.length∧Own w' 118 19 (.slice ((aL β m cf s).a (m+1)) cf.af.length ((aL β m cf s).c (m+1))) cf.af.length cf.cr;rw[aA.2.1,aN.2.1,aC.2.1];exact⟨rfl,h.r⟩
  | 2,hr=>cases hr;show(aL β m cf s).n (m+2)=cf.rules.length∧Own w' 81 49 (.slice ((aL β m cf s).a (m+2)) cf.rules.length ((aL β m cf s).c (m+2))) cf.rules.length cf.cl;rw[aA.2.2.1,aN.2.2.1,aC.2.2.1];exact⟨rfl,h.l⟩
  | 3,hr=>cases hr;show(aL β m cf s).n (m+3)=cf.ag.length∧Own w' 122 4 (.slice ((aL β m cf s).a (m+3)) cf.ag.length ((aL β m cf s).c (m+3))) cf.ag.length cf.cm;rw[aA.2.2.2.1,aN.2.2.2.1,aC.2.2.2.1];exact⟨rfl,h.m⟩
  | 4,hr=>cases hr;show(aL β m cf s).n (m+4)=cf.ab.length∧Own w' 124 3 (.slice ((aL β m cf s).a (m+4)) cf.ab.length ((aL β m cf s).c (m+4))) cf.ab.length cf.ci;rw[aA.2.2.2.2,aN.2.2.2.2,aC.2.2.2.2];exact⟨rfl,h.i⟩
 ·rcases cw k r x hr hx with⟨_,h1⟩ | ⟨_,h1⟩ | ⟨_,h1⟩ | ⟨_,h1⟩ | ⟨_,h1⟩<;>exact .inr (hn _ (by simp) x h1)
 ·have b1:=cw k r x hr hx
  have b2:=cw k' r' x hr' hx';rcases b1 with⟨rfl,h1⟩ | ⟨rfl,h1⟩ | ⟨rfl,h1⟩ | ⟨rfl,h1⟩ | ⟨rfl,h1⟩<;>rcases b2 with⟨rfl,h2⟩ | ⟨rfl,h2⟩ | ⟨rfl,h2⟩ | ⟨rfl,h2⟩ | ⟨rfl,h2⟩
  ·rfl
  ·exact(cx h.p h.r (by decide) h1 h2).elim
  ·exact(cx h.p h.l (by decide) h1 h2).elim
  ·exact(cx h.p h.m (by decide) h1 h2).elim
  ·exact(cx h.p h.i (by decide) h1 h2).elim
  ·exact(cx h.r h.p (by decide) h1 h2).elim
  ·rfl
  ·exact(cx h.r h.l (by decide) h1 h2).elim
  ·exact(cx h.r h.m (by decide) h1 h2).elim
  ·exact(cx h.r h.i (by decide) h1 h2).elim
  ·exact(cx h.l h.p (by decide) h1 h2).elim
  ·exact(cx h.l h.r (by decide) h1 h2).elim
  ·rfl
  ·exact(cx h.l h.m (by decide) h1 h2).elim
  ·exact(cx h.l h.i (by decide) h1 h2).elim
  ·exact(cx h.m h.p (by decide) h1 h2).elim
  ·exact(cx h.m h.r (by decide) h1 h2).elim
  ·exact(cx h.m h.l (by decide) h1 h2).elim
  ·rfl
  ·exact(cx h.m h.i (by decide) h1 h2).elim
  ·exact(cx h.i h.p (by decide) h1 h2).elim
  ·exact(cx h.i h.r (by decide) h1 h2).elim
  ·exact(cx h.i h.l (by decide) h1 h2).elim
  ·exact(cx h.i h.m (by decide) h1 h2).elim
  ·rfl
structure OF(mem:List Sx.Row)(k0 k1 k2 k3 k4:Nat)(cf:CF):Prop where
 p:mem[k0]?=some ⟨3,.own 1 cf.aj.length cf.cp⟩
 r:mem[k1]?=some ⟨118,.own 19 cf.af.length cf.cr⟩
 l:mem[k2]?=some ⟨81,.own 49 cf.rules.length cf.cl⟩
 m:mem[k3]?=some ⟨122,.own 4 cf.ag.length cf.cm⟩
 i:mem[k4]?=some ⟨124,.own 3 cf.ab.length cf.ci⟩
def jP(β:Sx.Env)(k0 k1 k2 k3 k4:Nat):gU:=⟨⟨β.a k0,β.c k0⟩,⟨β.a k1,β.c k1⟩,⟨β.a k2,β.c k2⟩,⟨β.a k3,β.c k3⟩,⟨β.a k4,β.c k4⟩⟩
theorem yh{β:Sx.Env}{b:Sx.bu}{w':World}{mem:List Sx.Row}{k0 k1 k2 k3 k4:Nat}{cf:CF}(hR:Sx.Rows b β w' mem)(h:OF mem k0 k1 k2 k3 k4 cf)(hS:b.S=[]) :
  Ew w' cf (jP β k0 k1 k2 k3 k4)∧(jP β k0 k1 k2 k3 k4).new b.w.heap.size∧β.n k0=cf.aj.length∧β.n k1=cf.af.length∧β.n k2=cf.rules.length∧β.n k3=cf.ag.length∧β.n k4=cf.ab.length:=by
 have o0:β.n k0=cf.aj.length∧Own w' 3 1 (.slice (β.a k0) cf.aj.length (β.c k0)) cf.aj.length cf.cp:=hR.held k0 _ h.p;have o1:β.n k1=cf.af.length∧Own w' 118 19 (.slice (β.a k1) cf.af.length (β.c k1)) cf.af.length cf.cr:=hR.held k1 _ h.r;have o2:β.n k2=cf.rules.length∧Own w' 81 49 (.slice (β.a k2) cf.rules.length (β.c k2)) cf.rules.length cf.cl:=hR.held k2 _ h.l;have o3:β.n k3=cf.ag.length∧Own w' 122 4 (.slice (β.a k3) cf.ag.length (β.c k3)) cf.ag.length cf.cm:=hR.held k3 _ h.m;have o4:β.n k4=cf.ab.length∧Own w' 124 3 (.slice (β.a k4) cf.ab.length (β.c k4)) cf.ab.length cf.ci:=hR.held k4 _ h.i;refine⟨⟨o0.2,o1.2,o2.2,o3.2,o4.2⟩,fun A hA k hk=>?_,o0.1,o1.1,o2.1,o3.1,o4.1⟩;have key:∀(i:Nat) (r:Sx.Row),mem[i]?=some r→Sx.az β i r=some k→b.w.heap.size≤k:=fun i r hi hr=>by
  rcases hR.new i r k hi hr with hh|hh
  ·rw[hS]at hh;cases hh
  ·exact hh
 simp only[jP,XE,XH,or_false]at hA;rcases hA with rfl|rfl|rfl|rfl|rfl
 ·exact key k0 _ h.p hk
 ·exact key k1 _ h.r hk
 ·exact key k2 _ h.l hk
 ·exact key k3 _ h.m hk
 ·exact key k4 _ h.i hk
theorem yg{b:Sx.bu}{β:Sx.Env}{W:World}{mem:List Sx.Row}{iT:List Nat}{m:Nat}{cf:CF}(hS:Sx.fD b β W (Sx.rowAt mem) iT)(h:OF mem m (m+1) (m+2) (m+3) (m+4) cf)(hs:∀k∈[m,m+1,m+2,m+3,m+4],k∈iT) :
  jY W [] cf (jP β m (m+1) (m+2) (m+3) (m+4))∧(Sx.SV.dX (yi m cf)).den β=.agg (aR cf (jP β m (m+1) (m+2) (m+3) (m+4))).toArray:=by
 have o0:β.n m=cf.aj.length∧Own W 3 1 (.slice (β.a m) cf.aj.length (β.c m)) cf.aj.length cf.cp:=hS.held m (hs _ (by simp)) _ h.p;have o1:β.n (m+1)=cf.af.length∧Own W 118 19 (.slice (β.a (m+1)) cf.af.length (β.c (m+1))) cf.af.length cf.cr:=hS.held (m+1) (hs _ (by simp)) _ h.r;have o2:β.n (m+2)=cf.rules.length∧Own W 81 49 (.slice (β.a (m+2)) cf.rules.length (β.c (m+2))) cf.rules.length cf.cl:=hS.held (m+2) (hs _ (by simp)) _ h.l;have o3:β.n (m+3)=cf.ag.length∧Own W 122 4 (.slice (β.a (m+3)) cf.ag.length (β.c (m+3))) cf.ag.length cf.cm:=hS.held (m+3) (hs _ (by simp)) _ h.m;have o4:β.n (m+4)=cf.ab.length∧Own W 124 3 (.slice (β.a (m+4)) cf.ab.length (β.c (m+4))) cf.ab.length cf.ci:=hS.held (m+4) (hs _ (by simp)) _ h.i;refine⟨Ew.rd ⟨o0.2,o1.2,o2.2,o3.2,o4.2⟩ (fun _ _ _ _ h=>by cases h),?_⟩;show X5 ([β.sl m,β.sl (m+1),β.sl (m+2),β.sl (m+3),β.sl (m+4),.int .i64 cf.aZ]:List Value).toArray=_;unfold Sx.Env.sl;rw[o0.1,o1.1,o2.1,o3.1,o4.1];rfl
set_option maxRecDepth 100000
open Go Go.RowKit Go.Lib Go.Sort _root_.Go.Proofs.Tryz
set_option maxRecDepth 100000
def xY:Bs:=[112,111,114,116,32,51,10,112,111,114,116,32,52,10,114,111,117,116,101,32,49,48,46,48,46,48,46,48,47,56,32,51,10,109,101,116,101,114,32,109,32,53,32,50,32,57,10,109,105,114,114,111,114,32,99,32,52,32,49,54,10,114,117,108,101,32,97,32,112,114,111,116,111,32,116,99,112,32,100,112,111,114,116,32,56,48,45,57,48,32,45,62,32,111,117,116,32,52,32,109,101,116,101,114,32,109,32,109,105,114,114,111,114,32,99,10,114,117,108,101,32,98,32,97,110,121,32,45,62,32,100,114,111,112,10,100,101,102,97,117,108,116,32,114,111,117,116,101,10]
def N7:Bs:=[112,111,114,116,32,49,10,109,101,116,101,114,32,49,120,32,49,32,49,32,49,10]
theorem VI(u:Nat)(h:u < 10):aq 10 u=[sig u]:=bh h
theorem V9(u:Nat)(h:¬u < 10)(h2:u / 10 < 10):aq 10 u=[sig (u / 10),sig (u%10)]:=by rw[dQ (by omega) h,bh h2]; rfl
theorem WG(u:Nat)(h:u < 10):cW (u:Int)=[sig u]:=by rw[mY,bh h]
theorem J5:wJ Bv=[49,48,46,48,46,48,46,48,47,56]:=by
 have hk:gy Bv.v Bv.n Bv.k=true:=by decide
 unfold wJ j8;rw[if_pos hk];show fq (10*2^120)++47::aq 10 8=_;unfold fq;rw[show ah (10*2^120) 0=10 by decide,show ah (10*2^120) 1=0 by decide,show ah (10*2^120) 2=0 by decide,show ah (10*2^120) 3=0 by decide,V9 10 (by omega) (by omega),VI 0 (by omega),VI 8 (by omega)];rfl
theorem Q9:bq Bw=true:=by decide
theorem J6:Ji Bw=[112,114,111,116,111,32,116,99,112,32,100,112,111,114,116,32,56,48,45,57,48]:=by
 unfold Ji;rw[Q9];show kV Bw=_;unfold kV;rw[if_neg (by decide)];have e:gR Bw=[gE,eo 6,jV,ft (80,90)]:=rfl;rw[e];have e1:eo 6=kj:=rfl;have e2:ft (80,90)=[56,48,45,57,48]:=by unfold ft;rw[if_neg (by decide)];show aq 10 80++45::aq 10 90=_;rw[V9 80 (by omega) (by omega),V9 90 (by omega) (by omega)];rfl
 rw[e1,e2];rfl
theorem qw:fL dB=xY:=by
 have i1:cW 3=[51]:=WG 3 (by omega);have i2:cW 4=[52]:=WG 4 (by omega);have i3:cW 16=[49,54]:=by have h:cW 16=aq 10 16:=mY 16;rw[h,V9 16 (by omega) (by omega)];rfl
 have l0:fh 3=[gD,[51]]:=by unfold fh;rw[i1]
 have l1:fh 4=[gD,[52]]:=by unfold fh;rw[i2]
 have l2:fN ⟨Bv,3⟩=[bZ,[49,48,46,48,46,48,46,48,47,56],[51]]:=by show [bZ,wJ Bv,cW 3]=_;rw[J5,i1]
 have l3:fQ ⟨[109],5,2,9⟩=[bc,[109],[53],[50],[57]]:=by show [bc,[109],aq 10 5,aq 10 2,aq 10 9]=_;rw[VI 5 (by omega),VI 2 (by omega),VI 9 (by omega)];rfl
 have l4:eB ⟨[99],4,16⟩=[aT,[99],[52],[49,54]]:=by show [aT,[99],cW 4,cW 16]=_;rw[i2,i3]
 have l5:ek ⟨[97],Bw,3,4,[109],[99]⟩=[fT,[97],[112,114,111,116,111,32,116,99,112,32,100,112,111,114,116,32,56,48,45,57,48],oz,mj,[52],bc,[109],aT,[99]]:=by unfold ek;rw[J6,show bp 3 4=[mj,[52]] by unfold bp;rw[if_neg (by decide),if_neg (by decide),if_pos rfl,i2]];rfl
 have l6:ek ⟨[98],kU,2,0,[],[]⟩=[fT,[98],iO,oz,jb]:=rfl;have l7:jW 1=[aO,bZ]:=rfl;have e:lP dB=[fh 3,fh 4,fN ⟨Bv,3⟩,fQ ⟨[109],5,2,9⟩,eB ⟨[99],4,16⟩,ek ⟨[97],Bw,3,4,[109],[99]⟩,ek ⟨[98],kU,2,0,[],[]⟩,jW 1]:=rfl;unfold fL;rw[e,l0,l1,l2,l3,l4,l5,l6,l7];rfl
theorem DP:uT dB=0:=by decide
theorem Rb:Uh dB:=by
 refine⟨fun n hn=>?_,fun r hr=>?_,fun m hm=>?_,fun m hm=>?_,fun r hr=>?_⟩
 ·simp[dB]at hn;omega
 ·simp[dB]at hr;subst hr;decide
 ·simp[dB]at hm;subst hm;decide
 ·simp[dB]at hm;subst hm;decide
 ·simp[dB]at hr
  rcases hr with rfl|rfl
  ·exact⟨⟨by decide,by decide,by decide,by decide,by decide,by decide,by decide,by decide,by decide⟩,by decide⟩
  ·exact⟨⟨by decide,by decide,by decide,by decide,by decide,by decide,by decide,by decide,by decide⟩,by decide⟩
theorem Ra:pY dB:=(D4 Rb).1 DP
theorem F1:jS dB=(xY,0):=by
 have h:yM dB=0:=by unfold yM;rw[qw,DP];decide
 unfold jS;rw[if_pos h,qw]
theorem Q7(hU:Oy):dD xY=.ok dB:=by unfold dD;rw[if_neg (by decide),←qw];exact TW hU Ra
theorem Rx:dD N7=.no 201 2:=by
 unfold dD;rw[if_neg (by decide)];have e:aG N7=[[112,111,114,116,32,49],[109,101,116,101,114,32,49,120,32,49,32,49,32,49],[]]:=rfl;rw[e];have w1:aD true [112,111,114,116,32,49]=fh 1:=by have i1:cW 1=[49]:=WG 1 (by omega);show _=[gD,cW 1];rw[i1];rfl
 rw[nJ (by rw[w1];exact zp (by decide) (by decide) uU 0)];rw[ei];rfl
theorem Ti:kU.Wf:=mP.1
theorem Q8:Bw.Wf:=⟨by decide,by decide,by decide,by decide,by decide,by decide,by decide,by decide,by decide⟩
theorem Bx:kr dB:=by
 refine⟨fun n hn=>?_,fun r hr=>?_,fun r hr=>?_,fun m hm=>?_,fun m hm=>?_,by unfold qT;decide⟩
 ·simp[dB]at hn;unfold qT;omega
 ·simp[dB]at hr;subst hr;exact⟨by decide,by unfold qT;decide,by unfold qT;decide⟩
 ·simp[dB]at hr
  rcases hr with rfl|rfl
  ·exact⟨by decide,Q8,by unfold qT;decide,by unfold qT;decide,by decide,by decide⟩
  ·exact⟨by decide,Ti,by unfold qT;decide,by unfold qT;decide,by decide,by decide⟩
 ·simp[dB]at hm;subst hm;exact⟨by decide,by decide,by decide,by decide⟩
 ·simp[dB]at hm;subst hm;exact⟨by decide,by unfold qT;decide,by unfold qT;decide⟩
theorem DO:lU dB:=⟨by decide,by decide,by decide,by decide,by decide⟩
theorem BE{β:Sx.Env}{m:Nat}{cf:CF}{s:gU}:(Sx.SV.dX (yi m cf)).den (aL β m cf s)=.agg (aR cf s).toArray:=by show X5 ([(aL β m cf s).sl m,(aL β m cf s).sl (m+1),(aL β m cf s).sl (m+2),(aL β m cf s).sl (m+3),(aL β m cf s).sl (m+4),.int .i64 cf.aZ]:List Value).toArray=_;simp[Sx.Env.sl,aL,aR]
def uS(_m:Nat)(cf:CF)(ret:Sx.SV):Sx.cS:=⟨[],[],[],bX cf,ret,none⟩
theorem sV{b:Sx.bu}{row:Nat→Option Sx.Row}{m:Nat}(W:World)(β:Sx.Env)(_:Sx.fD b β W row []):Calls prog 67 (([]:List Sx.SV).map (Sx.SV.den β)).toArray W (Sx.bK b β W row m (uS m dB (.dX (yi m dB)))):=by
 refine(J4 W).mono fun en w' hp=>?_;rcases hp with⟨β',l,mem,⟨k0,k1,k2,k3,k4,rfl,q0,q1,q2,q3,q4⟩,he,hR⟩ | ⟨_,_,hf,_⟩
 ·obtain⟨ho,hn,n0,n1,n2,n3,n4⟩:=yh hR ⟨q0,q1,q2,q3,q4⟩ rfl
  refine .inl ⟨fun p hp=>(by cases hp),aL β m dB (jP β' k0 k1 k2 k3 k4),ub ho hn ?_ hR.aJ⟩;rw[BE,he];show Ending.returned (.agg ([β'.sl k0,β'.sl k1,β'.sl k2,β'.sl k3,β'.sl k4,.int .i64 dB.aZ]:List Value).toArray)=_;unfold Sx.Env.sl;rw[n0,n1,n2,n3,n4];rfl
 ·exact hf.elim
theorem C8{b:Sx.bu}{row:Nat→Option Sx.Row}{m:Nat}{s:Bs}{cf:CF}(hlan:lz b.w)(h9:∀k∈b.S,9≤k)(hs:dD s=.ok cf)(W:World)(β:Sx.Env)(hS:Sx.fD b β W row []):Calls prog 22 (([.val (ae s)]:List Sx.SV).map (Sx.SV.den β)).toArray W (Sx.bK b β W row m (uS m cf (.nz [.row (yi m cf),.a (.v .nilIface)]))):=by
 refine(Hq W (hlan.aJ hS.aJ h9) s).mono fun en w' hp=>?_;rw[hs]at hp;rcases hp with⟨β',l,mem,⟨k0,k1,k2,k3,k4,rfl,q0,q1,q2,q3,q4⟩,he,hR⟩ | ⟨_,_,hf,_⟩
 ·obtain⟨ho,hn,n0,n1,n2,n3,n4⟩:=yh hR ⟨q0,q1,q2,q3,q4⟩ rfl
  refine .inl ⟨fun p hp=>(by cases hp),aL β m cf (jP β' k0 k1 k2 k3 k4),ub ho hn ?_ hR.aJ⟩;have hd:=BE (β:=β) (m:=m) (cf:=cf) (s:=jP β' k0 k1 k2 k3 k4);rw[he];show Ending.returned (.tuple #[.agg ([β'.sl k0,β'.sl k1,β'.sl k2,β'.sl k3,β'.sl k4,.int .i64 cf.aZ]:List Value).toArray,.nilIface])=.returned (.tuple #[(Sx.SV.dX (yi m cf)).den (aL β m cf (jP β' k0 k1 k2 k3 k4)),.nilIface]);rw[hd];unfold Sx.Env.sl;rw[n0,n1,n2,n3,n4];rfl
 ·exact hf.elim
def TV(m:Nat)(code line:Nat):Sx.cS:=⟨[],[],[],[⟨105,.an (tX code line)⟩],.nz [.row (dU.map .v),.ml 103 m 0],none⟩
theorem Hl{β:Sx.Env}{W w':World}{row:Nat→Option Sx.Row}{m k:Nat}{X:List Nat}{T:TypeId}{cs:List Value}{ret:Sx.SV}{e:Ending}(hb:aw w' k T cs)(hn:W.heap.size≤k)(hret:e=.returned (ret.den (β.dW m k)))(hc:ai [] W w'):Sx.BT β W row m ⟨X,[],[],[⟨T,.an cs⟩],ret,none⟩ e w' (β.dW m k):=by
 refine⟨fun i hi=>⟨?_,rfl,rfl,rfl⟩,hret,fun q hq=>(by cases hq),fun i r hr=>?_,fun i r x hr hx=>?_,fun i i' r r' x hr hr' _ _=>?_,hc⟩
 ·show β i=if i=m then k else β i
  rw[if_neg (by omega)]
 ·match i,hr with
  | 0,hr=>cases hr;show aw w' (if m+0=m then k else β (m+0)) T cs;rw[X0,if_pos rfl];exact hb
 ·match i,hr with
  | 0,hr=>cases hr;have hx:some (if m+0=m then k else β (m+0))=some x:=hx;rw[X0,if_pos rfl]at hx;cases hx;exact .inr hn
 ·match i,i',hr,hr' with
  | 0,0,_,_=>rfl
theorem JF(β:Sx.Env):(dU.map Sx.Atom.v).map (Sx.Atom.den β)=dU:=by rw[Yf];exact List.map_id _
theorem C9{b:Sx.bu}{row:Nat→Option Sx.Row}{m:Nat}{s:Bs}{code line:Nat}(hlan:lz b.w)(h9:∀k∈b.S,9≤k)(hs:dD s=.no code line)(W:World)(β:Sx.Env)(hS:Sx.fD b β W row []):Calls prog 22 (([.val (ae s)]:List Sx.SV).map (Sx.SV.den β)).toArray W (Sx.bK b β W row m (TV m code line)):=by
 refine(Hq W (hlan.aJ hS.aJ h9) s).mono fun en w' hp=>?_;rw[hs]at hp;rcases hp with⟨β',l,mem,⟨j,rfl,hj⟩,he,hR⟩ | ⟨_,_,hf,_⟩
 ·have r:=hR.held j _ hj
  have hn:=hR.new j _ (β' j) hj rfl;refine .inl ⟨fun p hp=>(by cases hp),β.dW m (β' j),Hl r ?_ ?_ hR.aJ⟩
  ·rcases hn with h|h
   ·cases h
   ·exact h
  ·rw[he]
   show Ending.returned (.tuple #[.agg dU.toArray,.iface 103 ((pt (β' j) 0))])=.returned (.tuple #[.agg ((dU.map Sx.Atom.v).map (Sx.Atom.den _)).toArray,.iface 103 ((pt (if m=m then β' j else β m) 0))]);rw[JF,if_pos rfl]
 ·exact hf.elim
def gF(m:Nat):List Nat:=[m,m+1,m+2,m+3,m+4]
theorem Fj{b:Sx.bu}{mem:List Sx.Row}{i m:Nat}{cf:CF}(hlan:eF b.w)(h9:∀k∈b.S,9≤k)(h:OF mem i (i+1) (i+2) (i+3) (i+4) cf)(hw:kr cf)(hf:lU cf)(hB:(fL cf).length≤140737488355328)(W:World)(β:Sx.Env)(hS:Sx.fD b β W (Sx.rowAt mem) (gF i)) :
  Calls prog 28 (([.dX (yi i cf)]:List Sx.SV).map (Sx.SV.den β)).toArray W (Sx.bK b β W (Sx.rowAt mem) m ⟨gF i,[],[],[],.val (.tuple #[ae (jS cf).1,.int .i64 (jS cf).2]),none⟩):=by
 obtain⟨hr,hd⟩:=yg hS h (fun k hk=>hk);show Calls prog 28 #[(Sx.SV.dX (yi i cf)).den β] W _;rw[hd];exact(Qa (hlan.aJ hS.aJ h9) cf _ hr hw hf hB).mono fun en w' ⟨he,hc⟩=>.inl ⟨fun p hp=>(by cases hp),β,Sx.ep (v:=.tuple #[ae (jS cf).1,.int .i64 (jS cf).2]) rfl rfl he (fun q hq=>by cases hq) hc⟩
theorem yZ{b:Sx.bu}{mem:List Sx.Row}{i j m:Nat}{c d:CF}(hi:OF mem i (i+1) (i+2) (i+3) (i+4) c)(hj:OF mem j (j+1) (j+2) (j+3) (j+4) d)(wc:kr c)(wd:kr d)(fc:lU c)(W:World)(β:Sx.Env)(hS:Sx.fD b β W (Sx.rowAt mem) (gF i++gF j)) :
  Calls prog 25 (([.dX (yi i c),.dX (yi j d)]:List Sx.SV).map (Sx.SV.den β)).toArray W (Sx.bK b β W (Sx.rowAt mem) m ⟨gF i++gF j,[],[],[],.val (.bool (fx c d)),none⟩):=by
 obtain⟨hr,hd⟩:=yg hS hi (fun k hk=>List.mem_append_left _ hk);obtain⟨hr2,hd2⟩:=yg hS hj (fun k hk=>List.mem_append_right _ hk);show Calls prog 25 #[(Sx.SV.dX (yi i c)).den β,(Sx.SV.dX (yi j d)).den β] W _;rw[hd,hd2];exact(Ls c d _ _ hr hr2 wc wd fc).mono fun en w' ⟨he,hc⟩=>.inl ⟨fun p hp=>(by cases hp),β,Sx.ep (v:=.bool (fx c d)) rfl rfl he (fun q hq=>by cases hq) hc⟩
def Xd(code line:Nat)(l:List Sx.SV)(mem:List Sx.Row):Prop:=∃k,l=[.ml 103 k 0]∧mem[k]?=some ⟨105,.an (tX code line)⟩
theorem Rz(w:World)(hlan:lz w):Calls prog 68 #[] w (Sx.cN ⟨w,[],fun _ _=>False⟩ (Xd 201 2)):=by have c4:=fun W β (hS:Sx.fD ⟨w,[],fun _ _=>False⟩ β W (Sx.rowAt []) [])=>C9 (m:=0) hlan (fun k hk=>by cases hk) Rx W β hS;have z0:Xd 201 2 [.ml 103 0 0] [⟨105,.an (tX 201 2)⟩,⟨46,.dK (dU.map .val)⟩]:=⟨0,rfl,rfl⟩;refine Sx.bO (args:=[]) (jw w) [(4,.aB (TV 0 201 2))] [] (by kernel_rfl) func68 rfl (bN rfl) rfl ?_;exact XO (by kernel_rfl) (XC c4 z0)
theorem Gd{b:Sx.bu}{row:Nat→Option Sx.Row}{m:Nat}(hlan:lz b.w)(h9:∀k∈b.S,9≤k)(W:World)(β:Sx.Env)(hS:Sx.fD b β W row []):Calls prog 68 (([]:List Sx.SV).map (Sx.SV.den β)).toArray W (Sx.bK b β W row m ⟨[],[],[],[⟨105,.an (tX 201 2)⟩],.ml 103 m 0,none⟩):=by
 refine(Rz W (hlan.aJ hS.aJ h9)).mono fun en w' hp=>?_;rcases hp with⟨β',l,mem,⟨j,rfl,hj⟩,he,hR⟩ | ⟨_,_,hf,_⟩
 ·have r:=hR.held j _ hj
  have hn:=hR.new j _ (β' j) hj rfl;refine .inl ⟨fun p hp=>(by cases hp),β.dW m (β' j),Hl r ?_ ?_ hR.aJ⟩
  ·rcases hn with h|h
   ·cases h
   ·exact h
  ·rw[he]
   show Ending.returned (.iface 103 ((pt (β' j) 0)))=.returned (.iface 103 ((pt (if m=m then β' j else β m) 0)));rw[if_pos rfl]
 ·exact hf.elim
theorem Is(w:World)(hlan:lz w):Calls prog 26 #[] w (Rn w (.bool true)):=by
 have no9:∀k∈([]:List Nat),9≤k:=fun k hk=>by cases hk
 have c8:=fun W β (hS:Sx.fD ⟨w,[],fun _ _=>False⟩ β W (Sx.rowAt []) [])=>sV (m:=0) W β hS;have c9:=fun W β (hS:Sx.fD ⟨w,[],fun _ _=>False⟩ β W (Sx.rowAt (bX dB)) (gF 0))=>(show Calls prog 28 (([.dX (yi 0 dB)]:List Sx.SV).map (Sx.SV.den β)).toArray W (Sx.bK ⟨w,[],fun _ _=>False⟩ β W (Sx.rowAt (bX dB)) 5 ⟨gF 0,[],[],[],.val (.tuple #[ae xY,.int .i64 0]),none⟩)from by have:=Fj (m:=5) hlan.yA no9 (i:=0) ⟨rfl,rfl,rfl,rfl,rfl⟩ Bx DO (by rw[qw];decide) W β hS;rw[F1]at this;exact this);have c13:=fun W β (hS:Sx.fD ⟨w,[],fun _ _=>False⟩ β W (Sx.rowAt (bX dB)) [])=>C8 (m:=5) hlan no9 (Q7 (SP hlan.yA)) W β hS;obtain⟨R10,hR10⟩:∃R10:List Sx.Row,R10=bX dB++(bX dB++[⟨46,.dK [.own 5,.own 6,.own 7,.own 8,.own 9,.val (.int .i64 1)]⟩]):=⟨_,rfl⟩;have c17:=fun W β (hS:Sx.fD ⟨w,[],fun _ _=>False⟩ β W (Sx.rowAt R10) [])=>Gd (m:=11) hlan no9 W β hS;have c18:=fun W β (hS:Sx.fD ⟨w,[],fun _ _=>False⟩ β W (Sx.rowAt (R10++[⟨105,.an (tX 201 2)⟩])) [11])=>yT (m:=12) (j:=11) (code:=201) (place:=2) hlan no9 (by rw[hR10];rfl) W β hS;have c33:=fun W β (hS:Sx.fD ⟨w,[],fun _ _=>False⟩ β W (Sx.rowAt (R10++[⟨105,.an (tX 201 2)⟩])) [])=>sV (m:=12) W β hS;have c34:=fun W β (hS:Sx.fD ⟨w,[],fun _ _=>False⟩ β W (Sx.rowAt (R10++(⟨105,.an (tX 201 2)⟩::bX dB))) (gF 5++gF 12))=>(show Calls prog 25 (([.dX (yi 5 dB),.dX (yi 12 dB)]:List Sx.SV).map (Sx.SV.den β)).toArray W (Sx.bK ⟨w,[],fun _ _=>False⟩ β W (Sx.rowAt (R10++(⟨105,.an (tX 201 2)⟩::bX dB))) 17 ⟨gF 5++gF 12,[],[],[],.val (.bool true),none⟩)from by have:=yZ (m:=17) (i:=5) (j:=12) (c:=dB) (d:=dB) (mem:=R10++(⟨105,.an (tX 201 2)⟩::bX dB)) (by rw[hR10];exact⟨rfl,rfl,rfl,rfl,rfl⟩) (by rw[hR10];exact⟨rfl,rfl,rfl,rfl,rfl⟩) Bx Bx DO W β hS;rw[show fx dB dB=true from(cH _ _).2 rfl]at this;exact this);subst hR10;have z0:XA true=.bool true:=rfl;have z1:XA true=.bool true:=rfl;refine Sx.av (args:=[]) [(8,.aB (uS 0 dB (.dX (yi 0 dB)))),(9,.aB ⟨gF 0,[],[],[],.val (.tuple #[ae xY,.int .i64 0]),none⟩),(13,.aB (uS 5 dB (.nz [.row (yi 5 dB),.a (.v .nilIface)]))),(17,.aB ⟨[],[],[],[⟨105,.an (tX 201 2)⟩],.ml 103 11 0,none⟩),(18,.aB (K5 11 201 2)),(33,.aB (uS 12 dB (.dX (yi 12 dB)))),(34,.aB ⟨gF 5++gF 12,[],[],[],.val (.bool true),none⟩),(600004,.ix)] [] (by kernel_rfl) func26 rfl (bN rfl) ?_;exact XO (by kernel_rfl) (Sx.t8 c8 c9 c13 c17 c18 (Sx.t2 c33 c34 z0) c33 c34 z1)
open Go.RowKit Go.Lib Go.Sort
def Ps{α:Type}(o:Out α):Prop:=∀c p,o=.no c p→0 < c
theorem Ps.ok{α:Type}{a:α}{i:Nat}:Ps (.ok a i):=fun _ _ h=>nomatch h
theorem Ps.no{α:Type}{c p:Nat}(h:0 < c):Ps (.no c p:Out α):=fun _ _ e=>by injection e with e _;omega
theorem Ps.bind{α β:Type}{r:Out α}{f:α→Nat→Out β}(h:Ps r)(hf:∀a i,Ps (f a i)):Ps (r.bind f):=by
 cases r with
 |ok a i=>exact hf a i
 |no c p=>exact fun c' p' e=>h c p rfl |> fun hc=>by cases e;exact hc
theorem Ps.next{ws:List Bs}{i:Nat}:Ps (aV ws i):=by unfold aV;split;exact .ok;exact .no (by decide)
theorem Ps.B7{ws:List Bs}{i:Nat}{s:Bs}:Ps (dm ws i s):=by unfold dm;split<;>exact .ok
theorem Ps.want{α:Type}{b:Bool}{c:Nat}{a:α}{i:Nat}(h:0 < c):Ps (aY b c a i):=by cases b;exact .no h;exact .ok
theorem Ps.number{m:Nat}{ws:List Bs}{i:Nat}:Ps (bE m ws i):=.bind .next fun _ _=>.want (by decide)
theorem Ps.int{ws:List Bs}{i:Nat}:Ps (ji ws i):=.number
theorem Ps.name{ws:List Bs}{i:Nat}:Ps (fO ws i):=.bind .next fun _ _=>.want (by decide)
theorem Ps.pre{ws:List Bs}{i:Nat}:Ps (dE ws i):=.bind .next fun _ _=>.want (by decide)
theorem Ps.span{ws:List Bs}{i:Nat}:Ps (jD ws i):=.bind .next fun _ _=>.want (by decide)
theorem Ps.bw{ws:List Bs}{i:Nat}:Ps (eJ ws i):=.bind .B7 fun a j=>by
 cases a
 ·refine .bind .B7 fun b k=>?_
  cases b
  ·exact .number
  ·exact .ok
 ·exact .ok
theorem Ps.Xl{k:Nat}{m:Mt}{ws:List Bs}{i:Nat}:Ps (cF k m ws i):=by
 unfold cF;split<;>refine .bind ?_ fun _ _=>.ok
 ·exact .span
 ·exact .pre
 ·exact .pre
 ·exact .bw
 ·exact .span
 ·exact .span
theorem Ps.field{ws:List Bs}{i:Nat}{m:Mt}:Ps (aQ ws i m):=by
 unfold aQ;split
 ·exact .ok
 ·split
  ·exact .ok
  ·split
   ·exact .no (by decide)
   ·exact .bind .Xl fun _ _=>.ok
theorem Ps.ec(ws:List Bs):∀(f i:Nat) (m:Mt),Ps (ec ws f i m)
 | 0,i,m=>.ok
 |f+1,i,m=>.bind .field fun r j=>by
  cases r.1
  ·exact .ok
  ·exact Ps.ec ws f j r.2
theorem Ps.eO{ws:List Bs}{i:Nat}:Ps (eO ws i):=.bind .B7 fun a j=>by
 cases a
 ·refine .bind .field fun r k=>?_
  cases r.1
  ·exact .bind .next fun _ _=>.no (by decide)
  ·exact .ec _ _ _ _
 ·exact .ok
theorem Ps.act{out:Bool}{ws:List Bs}{i:Nat}:Ps (pS out ws i):=.bind .next fun x j=>by
 split
 ·exact .ok
 split
 ·exact .ok
 split
 ·exact .ok
 split
 ·exact .bind .int fun _ _=>.ok
 ·exact .no (by decide)
theorem Ps.opt{s:Bs}{ws:List Bs}{i:Nat}:Ps (o5 s ws i):=.bind .B7 fun b j=>by
 cases b
 ·exact .ok
 ·exact .name
theorem Ps.Xn{m:Mt}{ws:List Bs}{i:Nat}:Ps (Fx m ws i):=.bind .next fun _ _=>.bind (.want (by decide)) fun _ _=>.want (by decide)
theorem Ps.Wj{ws:List Bs}{i:Nat}:Ps (od ws i):=.bind .name fun _ _=>.bind .eO fun _ _=>.bind .Xn fun _ _=>.bind .act fun _ _=>.bind .opt fun _ _=>.bind .opt fun _ _=>.ok
theorem Ps.Xs{α:Type}{ws:List Bs}{a:α}{i:Nat}:Ps (qG ws a i):=by unfold qG;split;exact .no (by decide);exact .ok
theorem Ps.body{x:Bs}{ws:List Bs}{i:Nat}{cf:CF}{d:Nat}:Ps (fC x ws i cf d):=by
 unfold fC;split
 ·exact .bind .int fun _ _=>.ok
 split
 ·exact .bind .pre fun _ _=>.bind .int fun _ _=>.ok
 split
 ·exact .bind .name fun _ _=>.bind .number fun _ _=>.bind .number fun _ _=>.bind .number fun _ _=>.ok
 split
 ·exact .bind .name fun _ _=>.bind .int fun _ _=>.bind .int fun _ _=>.ok
 split
 ·exact .bind .Wj fun _ _=>.ok
 split
 ·exact .bind (.want (by decide)) fun _ _=>.bind .act fun _ _=>.ok
 ·exact .no (by decide)
theorem Ps.line{ws:List Bs}{cf:CF}{d:Nat}:Ps (ef ws cf d):=by
 unfold ef;split
 ·exact .ok
 ·exact .bind .next fun _ _=>.bind .body fun _ _=>.Xs
def Im(cf:CF):Nat:=cf.aj.length+cf.af.length+cf.rules.length+cf.ag.length+cf.ab.length
theorem FK{ws:List Bs}{cf cf':CF}{d i:Nat}(h:ef ws cf d=.ok cf' i):Im cf'≤Im cf+1:=by
 unfold ef at h;split at h
 ·injection h with h _
  subst h;exact Yh _
 ·obtain⟨x,k,hx,h⟩:=Out.aH h
  obtain⟨c,k2,hb,h⟩:=Out.aH h;have hcc:cf'=c:=by
   unfold qG at h;split at h
   ·cases h
   ·injection h with h _;exact h.symm
  subst hcc;unfold fC at hb;split at hb
  ·obtain⟨n,_,h1,hb⟩:=Out.aH hb
   injection hb with hb _;subst hb;simp only[Im,Xy,Xz,XS];omega
  split at hb
  ·obtain⟨p,_,h1,hb⟩:=Out.aH hb
   obtain⟨n,_,h2,hb⟩:=Out.aH hb;injection hb with hb _;subst hb;simp only[Im,Xy,Xz,XS];omega
  split at hb
  ·obtain⟨nm,_,h1,hb⟩:=Out.aH hb
   obtain⟨a,_,h2,hb⟩:=Out.aH hb;obtain⟨b,_,h3,hb⟩:=Out.aH hb;obtain⟨c,_,h4,hb⟩:=Out.aH hb;injection hb with hb _;subst hb;simp only[Im,Xy,Xz,XS];omega
  split at hb
  ·obtain⟨nm,_,h1,hb⟩:=Out.aH hb
   obtain⟨a,_,h2,hb⟩:=Out.aH hb;obtain⟨b,_,h3,hb⟩:=Out.aH hb;injection hb with hb _;subst hb;simp only[Im,Xy,Xz,XS];omega
  split at hb
  ·obtain⟨r,_,h1,hb⟩:=Out.aH hb
   injection hb with hb _;subst hb;simp only[Im,Xy,Xz,XS];omega
  split at hb
  ·obtain⟨u,_,_,hb⟩:=Out.aH hb
   obtain⟨a,_,h1,hb⟩:=Out.aH hb;injection hb with hb _;subst hb;exact Yh _
  ·cases hb
theorem uw:∀(ls:List Bs) (k:Nat) (cf:CF) (d:Nat) (cf':CF),ei ls k cf d=.ok cf'→Im cf'≤Im cf+ls.length
 | [],k,cf,d,cf',h=>by unfold ei at h;injection h with h;subst h;split<;>exact XG _
 |l::ls,k,cf,d,cf',h=>by
  unfold ei at h;cases hl:ef (aD true l) cf d with
  |ok c i=>rw[hl]at h;have:=uw ls _ c _ cf' h;have:=FK hl;rw[Xz];omega
  |no code p=>rw[hl]at h;cases h
theorem FI(s:Bs):(aG s).length≤s.length+1:=by exact eZ 10 s
open Go Go.RowKit Go.Lib Go.Sort
namespace Sx
end Sx
theorem qH.pre{w:World}{S:List Nat}{size n c:Nat}{A:Option Go.Addr}{xs ys:List Value}(h:qH w S size (.slice A (n+1) c) (n+1) (xs++ys))(hx:xs.length=n*size):qH w S size (.slice A n c) n xs:=by obtain⟨_,A',c',h2,h3⟩:=h;injection h2 with h2 _ h4;subst h2;subst h4;refine⟨hx,A,c,rfl,fun _=>?_⟩;obtain⟨g,o,ha,hg,hl,hr⟩:=h3 (Nat.succ_pos n);exact⟨g,o,ha,hg,hl,fun j u hu=>hr j u (by rw[List.getElem?_append_left (X3.1 hu).1];exact hu)⟩
open Go.RowKit Go.Lib Go.Sort
theorem Ad{b:Nat}(hb:2≤b):∀(k u:Nat),u < b^(k+1)→(aq b u).length≤k+1
 | 0,u,h=>by rw[bh (by simpa using h)];exact XG _
 |k+1,u,h=>by
  by_cases hu:u < b
  ·rw[bh hu];show 1≤_;omega
  ·rw[dQ hb hu,Xy]
   have h2:u / b < b^(k+1):=by rw[Nat.div_lt_iff_lt_mul (by omega),←Nat.pow_succ];exact h
   have:=Ad hb k (u / b) h2;show _+1≤_;omega
theorem rN{u:Nat}(h:u≤18446744073709551615):(aq 10 u).length≤20:=Ad (by omega) 19 u (by omega)
theorem zP{n:Int}(h:qT n):(cW n).length≤21:=by
 unfold qT at h;unfold cW;split
 ·have:=rN (u:=n.natAbs) (by omega)
  rw[Xz];omega
 ·have:=rN (u:=n.toNat) (by omega)
  omega
theorem nT(c:UInt8)(N k:Nat)(xs:List Bs)(hk:xs.length≤k)(h:∀x∈xs,x.length≤N):(ay c xs).length≤k*(N+1):=
 XF (rC c N xs h) (X9 _ hk)
theorem tU{l:List Nat}(hl:l.length≤8)(h:∀x∈l,x < 65536):(aU l).length≤40:=by unfold aU;refine nT 58 4 8 _ (by rw[Yc];exact hl) fun x hx=>?_;obtain⟨y,hy,rfl⟩:=XX.1 hx;exact fk (h y hy)
theorem xE(n:Nat):∀x∈aP n,x < 65536:=fun x hx=>by simp only[aP,XE,XH,or_false]at hx;rcases hx with h|h|h|h|h|h|h|h<;>rw[h]<;>exact xF _ _
theorem EN(v:Bool)(n:Nat):(eL v n).length≤82:=by
 unfold eL;split
 ·unfold cK
  split
  ·have:=tU (l:=aP n) (XG 8) (xE n)
   omega
  ·have h1:=tU (l:=(aP n).take (fK (zs (aP n))).1) (by rw[List.length_take];show min _ 8≤8;omega) fun x hx=>xE n x (List.mem_of_mem_take hx)
   have h2:=tU (l:=(aP n).drop (fK (zs (aP n))).2) (by rw[List.length_drop]; show 8 - _≤8; omega) fun x hx=>xE n x (List.mem_of_mem_drop hx);simp only[Xy,Xz];omega
 ·unfold fq
  refine XF (nT 46 3 4 _ (XG 4) fun x hx=>?_) (by decide);have d:∀i,(aq 10 (ah n i)).length≤3:=fun i=>gh (by have:=ba n i;omega);simp only[XE,XH,or_false]at hx;rcases hx with h|h|h|h<;>rw[h]<;>exact d _
theorem Gy(v:Bool):wid v≤128:=by cases v<;>decide
theorem wI(p:Px):(wJ p).length≤100:=by
 unfold wJ j8;split
 ·rename_i h
  unfold gy at h;simp only[XD,decide_eq_true_eq]at h;have:=Gy p.v;have h1:=EN p.v p.n;have h2:=gh (u:=p.k.toNat) (by omega);unfold iX;simp only[Xy,Xz];omega
 ·exact XI _
theorem uD{m:Mt}(h:m.Wf):(gR m).length≤12∧∀x∈gR m,x.length≤100:=by
 have f:∀k,(oV m k).length≤2∧∀x∈oV m k,x.length≤100:=fun k=>by
  unfold oV;split
  ·have hi:=mB m.fU h.fU.1 h.fU.2
   have hs:=mB m.sp h.sp.1 h.sp.2;have hd:=mB m.dp h.dp.1 h.dp.2;have hp:=zh m.bw h.pr;have p1:=wI m.src;have p2:=wI m.dst;unfold bW;have two:∀(a b:Bs),a.length≤100→b.length≤100→([a,b]:List Bs).length≤2∧∀x∈[a,b],x.length≤100:=fun a b ha hb=>⟨XG _,fun x hx=>by simp only[XE,XH,or_false]at hx;rcases hx with h|h<;>rw[h]<;>assumption⟩;split<;>exact two _ _ (by decide) (by omega)
  ·exact⟨by decide,fun x hx=>by cases hx⟩
 refine⟨?_,fun x hx=>?_⟩
 ·have:=(f 0).1;have:=(f 1).1;have:=(f 2).1;have:=(f 3).1;have:=(f 4).1;have:=(f 5).1
  unfold gR;simp only[Xy];omega
 ·unfold gR at hx
  simp only[XM]at hx;rcases hx with((((h|h)|h)|h)|h)|h
  ·exact(f 0).2 x h
  ·exact(f 1).2 x h
  ·exact(f 2).2 x h
  ·exact(f 3).2 x h
  ·exact(f 4).2 x h
  ·exact(f 5).2 x h
theorem Qd{m:Mt}(h:m.Wf):(Ji m).length≤1212:=by
 unfold Ji;split
 ·unfold kV
  split
  ·decide
  ·exact nT 32 100 12 _ (uD h).1 (uD h).2
 ·exact XI _
theorem qp{ws:List Bs}{M:Nat}(hn:ws.length≤12)(h:∀x∈ws,x.length≤1212+M):(ir ws).length≤12*(1213+M)+1:=by have:=nT 32 (1212+M) 12 ws hn h;unfold ir;rw[Xy,X6];omega
theorem xr{B:Nat}:∀l:List (List Bs),(∀ws∈l,(ir ws).length≤B)→(dy l).length≤l.length*B
 | [],_=>XI _
 |ws::l,h=>by have h1:=h ws (by simp);have h2:=xr l fun x hx=>h x (XW _ hx);show(ir ws++dy l).length≤_;rw[Xy,Xz,Nat.add_mul];omega
structure Xf(cf:CF)(M:Nat):Prop where
 m:∀x∈cf.ag,x.name.length≤M
 i:∀x∈cf.ab,x.name.length≤M
 r:∀x∈cf.rules,x.name.length≤M∧x.dx.length≤M∧x.cA.length≤M
theorem Ak{a o:Int}(h:qT o):(bp a o).length≤2∧∀x∈bp a o,x.length≤21:=by
 have hi:=zP h;unfold bp;split
 ·exact⟨by decide,fun x hx=>by rw[XB.1 hx];decide⟩
 split
 ·exact⟨by decide,fun x hx=>by rw[XB.1 hx];decide⟩
 split
 ·refine⟨XG 2,fun x hx=>?_⟩
  simp only[XE,XH,or_false]at hx;rcases hx with h|h<;>rw[h]
  ·decide
  ·exact hi
 split
 ·exact⟨by decide,fun x hx=>by rw[XB.1 hx];decide⟩
 ·exact⟨by decide,fun x hx=>by cases hx⟩
theorem zv{k s:Bs}{M:Nat}(hk:k.length≤21)(h:s.length≤M):(dF k s).length≤2∧∀x∈dF k s,x.length≤21+M:=by
 unfold dF;split
 ·exact⟨by simp,fun x hx=>by cases hx⟩
 ·refine⟨XG 2,fun x hx=>?_⟩
  simp only[XE,XH,or_false]at hx;rcases hx with h|h<;>rw[h]<;>omega
theorem vU{r:Rl}{M:Nat}(h:r.Wf)(hm:r.name.length≤M∧r.dx.length≤M∧r.cA.length≤M):(ek r).length≤12∧∀x∈ek r,x.length≤1212+M:=by
 obtain⟨a1,a2⟩:=Ak (a:=r.act) h.o;obtain⟨b1,b2⟩:=zv (k:=bc) (by decide) hm.2.1;obtain⟨c1,c2⟩:=zv (k:=aT) (by decide) hm.2.2;have hp:=Qd h.m;refine⟨?_,fun x hx=>?_⟩
 ·unfold ek
  simp only[Xy,Xz,XS];omega
 ·unfold ek at hx
  simp only[XM,XE,XH,or_false]at hx;rcases hx with(((h|h|h|h)|h)|h)|h
  ·rw[h];show 4≤_;omega
  ·rw[h];omega
  ·rw[h];omega
  ·rw[h];show 2≤_;omega
  ·have:=a2 x h;omega
  ·have:=b2 x h;omega
  ·have:=c2 x h;omega
theorem F8{cf:CF}{M N:Nat}(hw:kr cf)(hm:Xf cf M)(hn:Im cf≤N):(fL cf).length≤(N+1)*(12*(1213+M)+1):=by
 have B:∀ws∈lP cf,(ir ws).length≤12*(1213+M)+1:=fun ws hws=>by
  unfold lP at hws;simp only[XM,XX,XB]at hws;have c2:∀(a b:Bs),a.length≤1212+M→b.length≤1212+M→(ir [a,b]).length≤12*(1213+M)+1:=fun a b h1 h2=>qp (by simp) (by simp[h1,h2]);have c3:∀(a b c:Bs),a.length≤1212+M→b.length≤1212+M→c.length≤1212+M→(ir [a,b,c]).length≤12*(1213+M)+1:=fun a b c h1 h2 h3=>qp (by simp) (by simp[h1,h2,h3]);have c4:∀(a b c d:Bs),a.length≤1212+M→b.length≤1212+M→c.length≤1212+M→d.length≤1212+M→(ir [a,b,c,d]).length≤12*(1213+M)+1:=fun a b c d h1 h2 h3 h4=>qp (by simp) (by simp[h1,h2,h3,h4]);have c5:∀(a b c d e:Bs),a.length≤1212+M→b.length≤1212+M→c.length≤1212+M→d.length≤1212+M→e.length≤1212+M→(ir [a,b,c,d,e]).length≤12*(1213+M)+1:=fun a b c d e h1 h2 h3 h4 h5=>qp (by simp) (by simp[h1,h2,h3,h4,h5]);have k:∀(x:Bs),x.length≤10→x.length≤1212+M:=fun x h=>by omega
  have it:∀{n:Int},qT n→(cW n).length≤1212+M:=fun h=>by have:=zP h;omega
  have dg:∀{n:Nat},n≤18446744073709551615→(aq 10 n).length≤1212+M:=fun h=>by have:=rN h;omega
  rcases hws with((((⟨n,h,rfl⟩ | ⟨n,h,rfl⟩)|⟨n,h,rfl⟩)|⟨n,h,rfl⟩)|⟨n,h,rfl⟩)|rfl
  ·exact c2 _ _ (k _ (by decide)) (it (hw.p n h))
  ·exact c3 _ _ _ (k _ (by decide)) (by have:=wI n.pf;omega) (it (hw.r n h).o)
  ·have:=hm.m n h
   exact c5 _ _ _ _ _ (k _ (by decide)) (by omega) (dg (hw.m n h).a) (dg (hw.m n h).b) (dg (hw.m n h).c)
  ·have:=hm.i n h
   exact c4 _ _ _ _ (k _ (by decide)) (by omega) (it (hw.i n h).o) (it (hw.i n h).r)
  ·exact qp (vU (hw.l n h) (hm.r n h)).1 (vU (hw.l n h) (hm.r n h)).2
  ·obtain⟨a1,a2⟩:=Ak (a:=cf.aZ) (o:=0) (by unfold qT;decide)
   refine qp (by unfold jW;rw[Xz];omega) fun x hx=>?_;unfold jW at hx;rcases XE.1 hx with h|h
   ·rw[h];exact k _ (by decide)
   ·have:=a2 x h;omega
 have h:=xr (lP cf) B;refine XF h (X9 _ ?_);unfold lP;simp only[Xy,Yc,X6];unfold Im at hn;omega
theorem jf{s:Bs}(h:aK s=true):s.length≤16:=by unfold aK at h;simp only[XD,decide_eq_true_eq]at h;exact h.1.2
theorem sH{s:Bs}(h:iV s=true):s.length≤16:=by
 unfold iV at h;rw[XN]at h;rcases h with h|h
 ·rw[of_decide_eq_true h];decide
 ·exact jf h
theorem Hf{v:Bool}{n:Nat}{k:Int}(h:gy v n k=true):qT k:=by unfold gy at h;simp only[XD,decide_eq_true_eq]at h;have:=Gy v;unfold qT;omega
theorem Ki{m:Mt}(h:Gr m)(hc:bq m=true):m.Wf:=by
 unfold bq at hc;simp only[XD,XN,decide_eq_true_eq,XZ]at hc;have kx:∀{p:Px} {b:Bool},(b=true∨Ex p=true)→(b=false∨gy p.v p.n p.k=true) → -9223372036854775808≤p.k∧p.k≤9223372036854775807:=by
  intro p b h1 h2;cases b with
  |true=>rcases h2 with h2|h2;exact absurd h2 (by decide);exact Hf h2
  |false=>
   rcases h1 with h1|h1
   ·exact absurd h1 (by decide)
   ·have:=(of_decide_eq_true h1).2.2
    omega
 exact⟨by omega,h.sn,kx hc.1.2.2.1 hc.2.2.1.1,h.dn,kx hc.1.2.2.2.1 hc.2.2.1.2.1,⟨h.i1,h.i2⟩,⟨h.s1,h.s2⟩,⟨h.d1,h.d2⟩,h.pr⟩
theorem pY.wf{cf:CF}(h:pY cf):kr cf∧Xf cf 16:=by
 have i:∀n:Int,0≤n→n≤9223372036854775807→qT n:=fun n h1 h2=>by unfold qT;omega
 refine⟨⟨fun n hn=>i n (h.aj n hn).1 (h.aj n hn).2,fun r hr=>?_,fun r hr=>?_,fun m hm=>?_,fun m hm=>?_,?_⟩,⟨fun m hm=>jf (h.ag m hm).1,fun m hm=>jf (h.ab m hm).1,fun r hr=>?_⟩⟩
 ·obtain⟨a,b,c,d⟩:=h.af r hr
  exact⟨a,Hf b,i _ c d⟩
 ·obtain⟨a,b,c,d,e,f⟩:=h.rules r hr
  have h1:=jf c;have h2:=sH e;have h3:=sH f;have ha:=d;unfold ly at ha;simp only[XD,decide_eq_true_eq]at ha;have:=a.out;exact⟨by unfold maxLen;omega,Ki a.mt b,by unfold qT;omega,by unfold qT;omega,by unfold maxLen;omega,by unfold maxLen;omega⟩
 ·obtain⟨a,b,c,d⟩:=h.ag m hm
  have h1:=jf a;exact⟨by unfold maxLen;omega,b,c,d⟩
 ·obtain⟨a,b,c,d,e⟩:=h.ab m hm
  have h1:=jf a;exact⟨by unfold maxLen;omega,i _ b c,i _ d e⟩
 ·rcases h.aZ with h|h|h<;>rw[h]<;>(unfold qT;omega)
 ·obtain⟨_,_,c,_,e,f⟩:=h.rules r hr
  exact⟨jf c,sH e,sH f⟩
theorem Jf{s:Bs}{cf:CF}(h:dD s=.ok cf):pY cf∧kr cf∧lU cf∧(fL cf).length≤140737488355328∧uT cf=0:=by
 have ok:=L0 h;have hc:Im cf≤65537:=by
  unfold dD at h;split at h
  ·cases h
  ·have h1:=uw _ _ _ _ _ h
   have h2:=FI s;have h3:Im uU=0:=rfl;omega
 have hl:=F8 ok.wf.1 ok.wf.2 hc;refine⟨ok,ok.wf.1,?_,by omega,(D4 ok.in).2 ok⟩;unfold Im at hc;exact⟨by omega,by omega,by omega,by omega,by omega⟩
open Go Go.RowKit Go.Lib Go.Sort _root_.Go.Proofs.Tryz
def s0:gU:=⟨⟨none,0⟩,⟨none,0⟩,⟨none,0⟩,⟨none,0⟩,⟨none,0⟩⟩
theorem NS(W:World)(S:List Nat):jY W S uU s0:=
 ⟨⟨rfl,none,0,rfl,fun h=>absurd h (by decide)⟩,⟨rfl,none,0,rfl,fun h=>absurd h (by decide)⟩,⟨rfl,none,0,rfl,fun h=>absurd h (by decide)⟩,⟨rfl,none,0,rfl,fun h=>absurd h (by decide)⟩,⟨rfl,none,0,rfl,fun h=>absurd h (by decide)⟩⟩
theorem NR:kr uU:=⟨fun _ h=>(by cases h),fun _ h=>(by cases h),fun _ h=>(by cases h),fun _ h=>(by cases h),fun _ h=>(by cases h),by unfold qT;decide⟩
theorem Rm:lU uU:=⟨by decide,by decide,by decide,by decide,by decide⟩
theorem Lr(W:World):Calls prog 25 #[.agg dU.toArray,.agg dU.toArray] W (Rn W (.bool true)):=by have h:=Ls uU uU s0 s0 (NS W []) (NS W []) NR NR Rm;rw[(cH _ _).2 rfl]at h;exact h
abbrev Un(w:World):Sx.bu:=⟨w,[],fun _ _=>False⟩
set_option maxRecDepth 100000
open Go Go.RowKit Go.Lib Go.Sort _root_.Go.Proofs.Tryz
def AK(was:Bool)(i:Nat):List (Nat×Sx.SV):=[(2,.ptr 0 0),(5,.ptr 1 0),(6,.val (.bool was)),(7,.own 7),(8,.val (.int .i64 (i:Int)))]
def oe(ls:List Bs)(cf:CF):List Sx.Row:=⟨46,.an dU⟩::⟨46,.dK (eX 2 3 4 5 6 cf)⟩::(bX cf++[⟨9,.own 1 ls.length (strs ls)⟩])
structure KJ where
 i:Nat
 cf:CF
 was:Bool
structure KC(ls:List Bs)(T:OV)(k:KJ):Prop where
 le:k.i≤ls.length
 nc:k.cf.aj.length≤k.i∧k.cf.af.length≤k.i∧k.cf.rules.length≤k.i∧k.cf.ag.length≤k.i∧k.cf.ab.length≤k.i
 run:T=kN (ls.drop k.i) (k.i+1) k.cf k.was
noncomputable def gZ(ls:List Bs)(k:KJ):KJ:=match decide (aD true (ls.getD k.i [])=[])with
 |true=>⟨k.i+1,k.cf,k.was⟩
 |false=>⟨k.i+1,(ey (aD true (ls.getD k.i [])) k.cf k.was ⟨0,0⟩).1,k.was||decide ((aD true (ls.getD k.i []))[0]?=some aO)⟩
def Sq(T:OV)(l:List Sx.SV)(mem:List Sx.Row):Prop:=match T with
 |.no code line=>l=[.val (.agg dU.toArray),.val (.int .i64 (code:Int)),.val (.int .i64 (line:Int))]
 |.ok cf=>∃k0 k1 k2 k3 k4,l=[.dX [.o k0,.o k1,.o k2,.o k3,.o k4,.v (.int .i64 cf.aZ)],.val (.int .i64 0),.val (.int .i64 0)]∧mem[k0]?=some ⟨3,.own 1 cf.aj.length cf.cp⟩∧mem[k1]?=some ⟨118,.own 19 cf.af.length cf.cr⟩∧mem[k2]?=some ⟨81,.own 49 cf.rules.length cf.cl⟩∧mem[k3]?=some ⟨122,.own 4 cf.ag.length cf.cm⟩∧mem[k4]?=some ⟨124,.own 3 cf.ab.length cf.ci⟩
abbrev Xk(w:World)(ls:List Bs)(T:OV)(k:KJ):Prop:=∃H' L',Sx.lN prog f23.ntmps ⟨w,[],fun _ _=>False⟩ (Sx.a7 f23 0) H' L' ⟨AK k.was k.i,oe ls k.cf⟩
   (Sx.dP (KC ls T) (fun k=>AK k.was k.i) (fun k=>oe ls k.cf) (gZ ls) (fun k=>ls.length+1 - k.i) (fun(x:KJ)=>KC ls T x∧x.i=ls.length) (fun x=>[(2,.ptr 0 0),(5,.ptr 1 0),(6,.val (.bool x.was))]) (fun k=>oe ls k.cf) id (Sx.ej (Sx.a7 f23 0) - 1) (Sx.fm prog f23 (Sq T) .ret) k)
def Wp(_n _m i:Nat)(x:Bs)(ws:List Bs)(z:Bool):List (Nat×Sx.Hint):=[ao 19 true,(24,.ix),(25,.ld (ae x)),(26,.ct (.sl 9 1 ws.length (strs ws))),ao 34 z,cO 21 (i+1)]
theorem LR{w:World}(ls:List Bs)(hls:ls.length≤1000000)(hsz:∀x∈ls,x.length≤900000)(T:OV)(k:KJ)(hk:KC ls T k):Xk w ls T k:=by
 obtain⟨i,cf,was⟩:=k;have hk0:=hk;obtain⟨hle,hfew,hrun⟩:=hk;dsimp only at hle hfew hrun;by_cases hlt:i < ls.length
 ·have c19:=bT ((i:Int) < (ls.length:Int)) (by omega)
  obtain⟨x,hx⟩:∃x,ls[i]?=some x:=⟨_,X4 hlt⟩;have hxl:=hsz x (List.mem_of_getElem? hx);rw[List.drop_eq_getElem_cons (show i < ls.length from hlt),show ls[i]=x from(X3.1 hx).2]at hrun;have hgd:ls.getD i []=x:=by rw[List.getD_eq_getElem?_getD,hx];rfl
  have c24:0≤(i:Int)∧(i:Int) < (ls.length:Int):=⟨by omega,by omega⟩;have c25:(strs ls)[((i:Int)).toNat*1]?=some (ae x):=by rw[Int.toNat_natCast,Nat.mul_one];exact K9 hx
  have c21:=mW (i:=i) (by omega);have c26:=fun W (_:ai [] w W)=>Lt x true (by omega) W;have hwl:=KM true x;have hnx:gZ ls ⟨i,cf,was⟩=match decide (aD true x=[])with|true=>⟨i+1,cf,was⟩ | false=>⟨i+1,(ey (aD true x) cf was ⟨0,0⟩).1,was||decide ((aD true x)[0]?=some aO)⟩:=by unfold gZ;rw[hgd]
  have hru:T=match decide (aD true x=[])with|true=>kN (ls.drop (i+1)) (i+1+1) cf was|false=>match Nat.beq (ey (aD true x) cf was ⟨0,0⟩).2.e 0 with|true=>kN (ls.drop (i+1)) (i+1+1) (ey (aD true x) cf was ⟨0,0⟩).1 (was||decide ((aD true x)[0]?=some aO))|false=>.no (ey (aD true x) cf was ⟨0,0⟩).2.e (i+1):=by rw[hrun,kN];rfl
  have h1:ls.length+1 - (i+1) < ls.length+1 - i:=by omega
  generalize aD true x=ws at*;clear hrun hgd;obtain⟨z,hz⟩:∃z,decide (ws=[])=z:=⟨_,rfl⟩;have c34:XA (((ws.length:Nat):Int)==0)=.bool z:=by rw[←hz];congr 1;rw[Bool.eq_iff_iff,beq_iff_eq,decide_eq_true_iff,←List.length_eq_zero_iff];omega
  rw[hz]at hnx hru;cases z with
  |true=>
   dsimp only at hnx hru;have h0:KC ls T (gZ ls ⟨i,cf,was⟩):=by rw[hnx];exact⟨hlt,⟨XU hfew.1,XU hfew.2.1,XU hfew.2.2.1,XU hfew.2.2.2.1,XU hfew.2.2.2.2⟩,hru⟩
   have h1':ls.length+1 - (gZ ls ⟨i,cf,was⟩).i < ls.length+1 - i:=by rw[hnx]; exact h1
   have h2:AK was (i+1)=AK (gZ ls ⟨i,cf,was⟩).was (gZ ls ⟨i,cf,was⟩).i:=by rw[hnx]
   have z3:oe ls cf=oe ls (gZ ls ⟨i,cf,was⟩).cf:=by rw[hnx]
   have h1:=h1';refine⟨Wp ls.length ws.length i x ws true,[],?_⟩;exact XO (by kernel_rfl) (Sx.t8 c19 c24 c25 c26 c34 c21 h0 h1 (XC h2 z3))
  |false=>
   dsimp only at hnx hru;have nc:cf.aj.length≤1100000∧cf.af.length≤1100000∧cf.rules.length≤1100000∧cf.ag.length≤1100000∧cf.ab.length≤1100000:=⟨by omega,by omega,by omega,by omega,by omega⟩;have hne:ws≠[]:=of_decide_eq_false hz;obtain⟨y,ws',hws⟩:=X2 hne;have hy:ws[0]?=some y:=by rw[hws];rfl
   obtain⟨M,hM⟩:∃M:List Sx.Row,M=oe ls cf++[⟨9,.own 1 ws.length (strs ws)⟩,zg 8 ⟨0,0⟩]:=⟨_,rfl⟩;have c37:=fun W (β:Sx.Env) (hS:Sx.fD ⟨w,[],fun _ _=>False⟩ β W (Sx.rowAt M) [8,1,9,2,3,4,5,6])=>Fc (m:=10) (kw:=8) (kc:=1) (kd:=9) (k0:=2) (k1:=3) (k2:=4) (k3:=5) (k4:=6) (st:=⟨0,0⟩) (ws:=ws) (cf:=cf) (mem:=M) was (by rw[hM];exact⟨rfl,rfl,rfl,rfl,rfl,rfl,rfl⟩) (by rw[hM];rfl) (by decide) (by decide) ⟨by omega,by omega⟩ (XI _) (XI _) (by omega) (fun q hq=>XF (hwl.2 q hq) (by omega)) nc W β hS;subst hM;have fl:=I4 (ws:=ws) (cf:=cf) (was:=was) (st:=⟨0,0⟩);rw[hy]at hnx hru;generalize ey ws cf was ⟨0,0⟩=R at*;obtain⟨cf',s'⟩:=R;dsimp only at*;have qy:=W3 s'.e;have c49:=c21;have c56:(0:Int)≤0∧(0:Int) < (ws.length:Int):=⟨by omega,by rw[hws,Xz];omega⟩;have c57:(strs ws)[((0:Int)).toNat*1]?=some (ae y):=by rw[hws];rfl
   have c58:=fun W=>dR (.tmp 57) (.const (ae aO)) y aO _ rfl W;have hdk:decide (some y=some aO)=decide (y=aO):=by by_cases h:y=aO<;>simp[h]
   rw[hdk]at hnx hru;generalize decide (y=aO)=dk at*;cases hze:Nat.beq s'.e 0 with
   |false=>
    rw[hze]at qy hru;have z0:Sq T [.val (.agg dU.toArray),.val (.int .i64 (s'.e:Int)),.val (.int .i64 ((i+1:Nat):Int))] (⟨46,.an dU⟩::dv none (eX 10 11 12 13 14 cf')::([Sx.au,Sx.au,Sx.au,Sx.au,Sx.au]++(⟨9,.own 1 ls.length (strs ls)⟩::⟨9,.own 1 ws.length (strs ws)⟩::zg 8 s'::bX cf'))):=by rw[hru];rfl
    refine⟨Wp ls.length ws.length i x ws false++[(37,.aB ⟨[8,1,9,2,3,4,5,6],[(1,dv none (eX 10 11 12 13 14 cf')),(9,zg 8 s')],[2,3,4,5,6],bX cf',.val (.tuple #[]),none⟩),ao 42 true,cO 49 (i+1)],[],?_⟩;exact XO (by kernel_rfl) (Sx.t8 c19 c24 c25 c26 c34 c37 qy c49 z0)
   |true=>
    rw[hze]at qy hru;have h0:KC ls T (gZ ls ⟨i,cf,was⟩):=by rw[hnx];exact⟨hlt,⟨XF fl.1 (XV hfew.1),XF fl.2.1 (XV hfew.2.1),XF fl.2.2.1 (XV hfew.2.2.1),XF fl.2.2.2.1 (XV hfew.2.2.2.1),XF fl.2.2.2.2 (XV hfew.2.2.2.2)⟩,hru⟩
    have h1:ls.length+1 - (gZ ls ⟨i,cf,was⟩).i < ls.length+1 - i:=by rw[hnx]; exact h1
    have h2:∀b,b=(was||dk)→AK b (i+1)=AK (gZ ls ⟨i,cf,was⟩).was (gZ ls ⟨i,cf,was⟩).i:=fun b hb=>by rw[hnx,hb]
    have z3:(⟨46,.an dU⟩::dv none (eX 10 11 12 13 14 cf')::(bX cf'++[⟨9,.own 1 ls.length (strs ls)⟩]):List Sx.Row)=⟨46,.an dU⟩::dv none (eX 10 11 12 13 14 (gZ ls ⟨i,cf,was⟩).cf)::(bX (gZ ls ⟨i,cf,was⟩).cf++[⟨9,.own 1 ls.length (strs ls)⟩]):=by rw[hnx]
    refine⟨Wp ls.length ws.length i x ws false++[(37,.aB ⟨[8,1,9,2,3,4,5,6],[(1,dv none (eX 10 11 12 13 14 cf')),(9,zg 8 s')],[2,3,4,5,6],bX cf',.val (.tuple #[]),none⟩),ao 42 false,(56,.ix),(57,.ld (ae y)),(58,.bin (.bool dk))],[],?_⟩;cases was with
    |true=>have h2:=h2 true rfl;exact XO (by kernel_rfl) (Sx.t8 c19 c24 c25 c26 c34 c37 qy c21 (Sx.t2 h0 h1 (XC h2 z3)))
    |false=>have h2:=h2 dk rfl;exact XO (by kernel_rfl) (Sx.t8 c19 c24 c25 c26 c34 c37 qy c56 (Sx.t4 c57 c58 c21 h0 (Sx.t2 h1 h2 z3)))
 ·have c19:=bF ((i:Int) < (ls.length:Int)) (by omega)
  have hin:i=ls.length:=by omega
  have h0:KC ls T ⟨i,cf,was⟩∧i=ls.length:=⟨hk0,hin⟩;have h1:([(2,.ptr 0 0),(5,.ptr 1 0),(6,.val (.bool was))]:List (Nat×Sx.SV))=[(2,.ptr 0 0),(5,.ptr 1 0),(6,.val (.bool was))]:=rfl;have z2:oe ls cf=oe ls cf:=rfl;refine⟨[ao 19 false],[],?_⟩;exact XO (by kernel_rfl) (Sx.t2 c19 h0 (XC h1 z2))
set_option maxRecDepth 100000
open Go Go.RowKit Go.Lib Go.Sort _root_.Go.Proofs.Tryz
set_option maxRecDepth 100000
theorem EZ(s:Bs)(hs:65536 < s.length)(w:World):Calls prog 23 #[ae s] w (Sx.cN ⟨w,[],fun _ _=>False⟩ (Sq (dD s))):=by
 have hT:dD s=.no 4 0:=by unfold dD;rw[if_pos hs]
 have iB:=gz s;have c12:=bT ((s.length:Int) > 65536) (by omega);have z0:Sq (dD s) [.val (.agg dU.toArray),.val (.int .i64 4),.val (.int .i64 0)] [⟨46,.an dU⟩]:=by rw[hT];rfl
 refine Sx.bO (args:=[.val (ae s)]) (qd w) [(11,.is (.int .i64 (s.length:Int))),ao 12 true] [] (by kernel_rfl) func23 rfl (bN rfl) rfl ?_;exact XO (by kernel_rfl) (Sx.t2 iB c12 z0)
theorem Cs(s:Bs)(hs:s.length≤65536)(w:World):Calls prog 23 #[ae s] w (Sx.cN ⟨w,[],fun _ _=>False⟩ (Sq (dD s))):=by
 have hT:dD s=kN (aG s) 1 uU false:=by rw[Je,if_neg (by omega)]
 generalize dD s=T at hT;have iB:=gz s;have c12:=bF ((s.length:Int) > 65536) (by omega);have hcount:=eZ 10 s;have c15:=fun W (_:ai [] w W)=>LO s (by omega) W;have h0:KC (aG s) T ⟨0,uU,false⟩:=⟨XI _,⟨XG _,XG _,XG _,XG _,XG _⟩,hT⟩;have iZ:=LR (w:=w) (aG s) (by show(bH 10 s).length≤_;omega) (fun x hx=>by have:=gW 10 s x hx;omega) T;have fin:∀x:KJ,KC (aG s) T x→x.i=(aG s).length→T=.ok (ot x.was x.cf { x.cf with aZ:=2 }):=fun x hx hi=>by rw[hx.run,hi,List.drop_length];rfl
 have e1:AK false 0=AK false 0∧oe (aG s) uU=oe (aG s) uU:=⟨rfl,rfl⟩;have z6f:=fun(x:KJ) (hx:KC (aG s) T x∧x.i=(aG s).length) (hb:(!x.was)=true)=>(show Sq T [.dX [.o 2,.o 3,.o 4,.o 5,.o 6,.v (.int .i64 2)],.val (.int .i64 0),.val (.int .i64 0)] (⟨46,.dK [.own 2,.own 3,.own 4,.own 5,.own 6,.val (.int .i64 2)]⟩::⟨46,.dK [.own 2,.own 3,.own 4,.own 5,.own 6,.val (.int .i64 2)]⟩::(bX x.cf++[⟨9,.own 1 (aG s).length (strs (aG s))⟩]))from by rw[XZ]at hb;rw[fin x hx.1 hx.2,hb];exact⟨2,3,4,5,6,rfl,rfl,rfl,rfl,rfl,rfl⟩);have z7f:=fun(x:KJ) (hx:KC (aG s) T x∧x.i=(aG s).length) (hb:(!x.was)=false)=>(show Sq T [.dX [.o 2,.o 3,.o 4,.o 5,.o 6,.v (.int .i64 x.cf.aZ)],.val (.int .i64 0),.val (.int .i64 0)] (⟨46,.dK [.own 2,.own 3,.own 4,.own 5,.own 6,.val (.int .i64 x.cf.aZ)]⟩::dv none (eX 2 3 4 5 6 x.cf)::(bX x.cf++[⟨9,.own 1 (aG s).length (strs (aG s))⟩]))from by rw[Bool.not_eq_false']at hb;rw[fin x hx.1 hx.2,hb];exact⟨2,3,4,5,6,rfl,rfl,rfl,rfl,rfl,rfl⟩)
 refine Sx.bO (args:=[.val (ae s)]) (qd w) [(11,.is (.int .i64 (s.length:Int))),ao 12 false,(5,.tL [(0,3,1),(1,118,19),(2,81,49),(3,122,4),(4,124,3)]),(15,.ct (.sl 9 1 (aG s).length (strs (aG s))))]
  [.mk KJ ⟨0,uU,false⟩ (KC (aG s) T) (fun k=>AK k.was k.i) (fun k=>oe (aG s) k.cf) (gZ (aG s)) (fun k=>(aG s).length+1 - k.i) KJ (fun x=>KC (aG s) T x∧x.i=(aG s).length) (fun x=>[(2,.ptr 0 0),(5,.ptr 1 0),(6,.val (.bool x.was))]) (fun k=>oe (aG s) k.cf) id] (by kernel_rfl) func23 rfl (bN rfl) rfl ?_
 exact XO (by kernel_rfl) (Sx.t4 iB c12 c15 h0 (Sx.t2 e1 iZ (fun(x3:KJ) (hx4:KC (aG s) T x3∧x3.i=(aG s).length)=>(Sx.aI (b:=!x3.was) (fun hb5=>(z6f x3 hx4 hb5)) (fun hb5=>(z7f x3 hx4 hb5))))))
theorem GW(s:Bs)(w:World):Calls prog 23 #[ae s] w (Sx.cN ⟨w,[],fun _ _=>False⟩ (Sq (dD s))):=by
 by_cases hs:65536 < s.length
 ·exact EZ s hs w
 ·exact Cs s (by omega) w
set_option maxRecDepth 100000
open Go Go.RowKit Go.Lib Go.Sort _root_.Go.Proofs.Tryz
theorem told_none(w:World):Calls prog 24 #[.nilIface] w (Rn w (.tuple #[.int .i64 0,.int .i64 0])):=by
 have z0:Value.tuple #[.int .i64 0,.int .i64 0]=.tuple #[.int .i64 0,.int .i64 0]:=rfl;have c6:∀W:World,(do eqGuard .eql 48 (.tmp 5) (.const .nilIface) .nilIface .nilIface;binOp .eql 48 .nilIface .nilIface:Sem Value).run prog W=.ok (.bool true) W:=fun W=>by kernel_rfl
 refine Sx.av (args:=[.nilIface]) [(6,.bin (.bool true))] [] (by kernel_rfl) func24 rfl (bN rfl) ?_;exact XO (by kernel_rfl) (XC c6 z0)
set_option maxRecDepth 100000
open Go Go.RowKit Go.Lib Go.Sort _root_.Go.Proofs.Tryz
set_option maxRecDepth 100000
theorem PI{b:Sx.bu}{row:Nat→Option Sx.Row}{m:Nat}{s:Bs}{cf:CF}(hs:dD s=.ok cf)(W:World)(β:Sx.Env)(_:Sx.fD b β W row []):Calls prog 23 (([.val (ae s)]:List Sx.SV).map (Sx.SV.den β)).toArray W (Sx.bK b β W row m (uS m cf (.nz [.row (yi m cf),.a (.v (.int .i64 0)),.a (.v (.int .i64 0))]))):=by
 refine(GW s W).mono fun en w' hp=>?_;rw[hs]at hp;rcases hp with⟨β',l,mem,⟨k0,k1,k2,k3,k4,rfl,q0,q1,q2,q3,q4⟩,he,hR⟩ | ⟨_,_,hf,_⟩
 ·obtain⟨ho,hn,n0,n1,n2,n3,n4⟩:=yh hR ⟨q0,q1,q2,q3,q4⟩ rfl
  refine .inl ⟨fun p hp=>(by cases hp),aL β m cf (jP β' k0 k1 k2 k3 k4),ub ho hn ?_ hR.aJ⟩;have hd:=BE (β:=β) (m:=m) (cf:=cf) (s:=jP β' k0 k1 k2 k3 k4);rw[he];show Ending.returned (.tuple #[.agg ([β'.sl k0,β'.sl k1,β'.sl k2,β'.sl k3,β'.sl k4,.int .i64 cf.aZ]:List Value).toArray,.int .i64 0,.int .i64 0])=.returned (.tuple #[(Sx.SV.dX (yi m cf)).den (aL β m cf (jP β' k0 k1 k2 k3 k4)),.int .i64 0,.int .i64 0]);rw[hd];unfold Sx.Env.sl;rw[n0,n1,n2,n3,n4];rfl
 ·exact hf.elim
theorem PJ{s:Bs}{code line:Nat}(hs:dD s=.no code line)(w:World):Calls prog 23 #[ae s] w (Rn w (.tuple #[.agg dU.toArray,.int .i64 (code:Int),.int .i64 (line:Int)])):=by
 refine(GW s w).mono fun en w' hp=>?_;rw[hs]at hp;rcases hp with⟨β',l,mem,rfl,he,hR⟩ | ⟨_,_,hf,_⟩
 ·exact⟨he,hR.aJ⟩
 ·exact hf.elim
theorem JK(s:Bs)(w:World)(hlan:lz w)(code p:Nat)(hs:dD s=.no code p):Calls prog 5 #[ae s] w (Rn w (.bool true)):=by
 have no9:∀k∈([]:List Nat),9≤k:=fun k hk=>by cases hk
 have hL:∀W,ai [] w W→lz W:=fun W hW=>hlan.aJ hW no9;have c40:=fun W (hW:ai [] w W)=>Is W (hL W hW);have c12:=fun W β (hS:Sx.fD (Un w) β W (Sx.rowAt []) [])=>C9 (m:=0) hlan no9 hs W β hS;have c17:=fun W (_:ai [] w W)=>PJ hs W;have c23:=fun W β (hS:Sx.fD (Un w) β W (Sx.rowAt [⟨105,.an (tX code p)⟩,⟨46,.dK (dU.map .val)⟩,⟨46,.an dU⟩]) [0])=>yT (m:=3) (j:=0) (code:=code) (place:=p) hlan no9 rfl W β hS;have c28:=fun W (_:ai [] w W)=>Lr W;have c32:XA ((code:Int)==(code:Int))=.bool true:=by simp
 have c37:XA ((p:Int)==(p:Int))=.bool true:=by simp
 have z0:XA true=.bool true:=rfl;refine Sx.av (args:=[ae s]) [(12,.aB (TV 0 code p)),(17,.call (.tuple #[.agg dU.toArray,.int .i64 (code:Int),.int .i64 (p:Int)])),(23,.aB (K5 0 code p)),(28,.call (.bool true)),ao 32 true,ao 37 true,(40,.call (.bool true))] [] (by kernel_rfl) func5 rfl (bN rfl) ?_;exact XO (by kernel_rfl) (Sx.t4 c12 c17 c23 c28 (Sx.t2 c32 c37 (XC c40 z0)))
theorem JJ(s:Bs)(w:World)(hlan:lz w)(cf:CF)(hs:dD s=.ok cf):Calls prog 5 #[ae s] w (Rn w (.bool true)):=by
 have no9:∀k∈([]:List Nat),9≤k:=fun k hk=>by cases hk
 have hL:∀W,ai [] w W→lz W:=fun W hW=>hlan.aJ hW no9;obtain⟨_,hw,hf,_,_⟩:=Jf hs;have c40:=fun W (hW:ai [] w W)=>Is W (hL W hW);have c12:=fun W β (hS:Sx.fD (Un w) β W (Sx.rowAt []) [])=>C8 (m:=0) hlan no9 hs W β hS;obtain⟨R6,hR6⟩:∃R6:List Sx.Row,R6=bX cf++[⟨46,.dK [.own 0,.own 1,.own 2,.own 3,.own 4,.val (.int .i64 cf.aZ)]⟩]:=⟨_,rfl⟩;have c17:=fun W β (hS:Sx.fD (Un w) β W (Sx.rowAt R6) [])=>PI (m:=6) hs W β hS;have c23:=fun W (_:ai [] w W)=>told_none W;obtain⟨R12,hR12⟩:∃R12:List Sx.Row,R12=R6++(bX cf++[⟨46,.dK [.own 6,.own 7,.own 8,.own 9,.own 10,.val (.int .i64 cf.aZ)]⟩]):=⟨_,rfl⟩;have c28:=fun W β (hS:Sx.fD (Un w) β W (Sx.rowAt R12) (gF 0++gF 6))=>(show Calls prog 25 (([.dX (yi 0 cf),.dX (yi 6 cf)]:List Sx.SV).map (Sx.SV.den β)).toArray W (Sx.bK (Un w) β W (Sx.rowAt R12) 12 ⟨gF 0++gF 6,[],[],[],.val (.bool true),none⟩)from by have:=yZ (m:=12) (i:=0) (j:=6) (c:=cf) (d:=cf) (mem:=R12) (by rw[hR12,hR6];exact⟨rfl,rfl,rfl,rfl,rfl⟩) (by rw[hR12,hR6];exact⟨rfl,rfl,rfl,rfl,rfl⟩) hw hw hf W β hS;rw[show fx cf cf=true from(cH _ _).2 rfl]at this;exact this);have c32:XA ((0:Int)==0)=.bool true:=rfl;have c37:=c32;have z0:XA true=.bool true:=rfl;subst hR12;subst hR6;refine Sx.av (args:=[ae s]) [(12,.aB (uS 0 cf (.nz [.row (yi 0 cf),.a (.v .nilIface)]))),(17,.aB (uS 6 cf (.nz [.row (yi 6 cf),.a (.v (.int .i64 0)),.a (.v (.int .i64 0))]))),(23,.call (.tuple #[.int .i64 0,.int .i64 0])),(28,.aB ⟨gF 0++gF 6,[],[],[],.val (.bool true),none⟩),ao 32 true,ao 37 true,(40,.call (.bool true))] [] (by kernel_rfl) func5 rfl (bN rfl) ?_;exact XO (by kernel_rfl) (Sx.t4 c12 c17 c23 c28 (Sx.t2 c32 c37 (XC c40 z0)))
theorem MP(s:ByteArray)(w:World)(hlan:lz w)(_:s.size≤100000000):Calls prog 5 #[.string s] w (Rn w (.bool true)):=by
 have e:s=⟨s.data.toList.toArray⟩:=by rw[Array.toArray_toList]
 rw[e];cases h:dD s.data.toList with
 |no code p=>exact JK _ w hlan code p h
 |ok cf=>exact JJ _ w hlan cf h
set_option maxRecDepth 100000
open Go.RowKit Go.Lib Go.Sort Go.ChangeShapes Go.WideShapes _root_.Go.Proofs.Tryz
theorem xA{P:Program}{W:World}{n nm:String}{d:DataW Unit}{r:List (String×DataW Unit)}{g ti:Nat}{ms:Array (String×TypeId)}(h:laidMet P ((n,.iface nm d)::r) W)(hg:P.globalNamed n=some g)(ht:(P.globals[g]?).map (·.type)=some ti)(hi:P.underlying ti=some (.interface ms)) :
  ∃te pe,W.cell? ⟨g,0,none⟩=some (.iface te pe):=by
 obtain⟨ps,⟨g0,t0,cs0,f0,p0,q0,hg0,ht0,hv0,hd0,_,e0⟩,_,hrows⟩:=h;obtain rfl:=XJ.inj (hg.symm.trans hg0);obtain rfl:=XJ.inj (ht.symm.trans ht0);obtain⟨l0⟩:=cs0;obtain⟨f1,u,v,e,_,_⟩:=iface_of_trod hi hd0;refine⟨u,v,?_⟩;simp only at e;subst e;simpa using World.var?_cell hg0 hv0 0
def Hx:List (String×DataW Unit):=Rows.langReadsRow.laid
def UE:List Int:=[0,1,56,2,57,49,28,3,61,58,42,50,38,29,17,4,62,47,59,36,45,43,51,22,53,39,33,30,24,18,12,5,63,55,48,27,60,41,37,16,46,35,44,21,52,32,23,11,54,26,40,15,34,20,31,10,25,14,19,9,13,8,7,6]
theorem QW:1 < prog.globals.size:=of_decide_eq_true (by kernel_rfl)
theorem QV:8 < prog.globals.size:=of_decide_eq_true (by kernel_rfl)
theorem Uu:(((begin prog (fun _ _=>0) default).world.heap[8]?).bind Obj.row?).isSome=true:=by kernel_rfl
theorem J8:prog.globalNamed "errors.errorType"=some 0:=by kernel_rfl
theorem PE:(prog.cutTypes.find? (·.1== "internal/reflectlite.rtype")).map (·.2)=some 242:=by kernel_rfl
theorem types_size:prog.types.size=330:=by kernel_rfl
theorem Te:((Yi 330).filter fun t=>prog.rowNamed t [101,114,114,111,114])=[48]:=by kernel_rfl
theorem xC{W:World}(h:handlesMet prog [("errors.errorType",Rows.laid_errors_errorType)] W):W.cell? ⟨0,0,none⟩=some (.iface 242 (.agg #[.pointer (some ⟨9,48,none⟩)])):=by
 obtain⟨name,u,ty,e1,e2,e3,e4,e5⟩:=h _ (XB.2 rfl);have en:name=[101,114,114,111,114]:=(XJ.inj e1).symm;subst en;obtain rfl:=XJ.inj (PE.symm.trans e2);have hm:ty∈(Yi 330).filter fun t=>prog.rowNamed t [101,114,114,111,114]:=List.mem_filter.2 ⟨Yd.2 (by rw[←types_size];exact e3),e4⟩;rw[Te]at hm;obtain rfl:=XB.1 hm;have hh:typeHandle prog 48=.pointer (some ⟨9,48,none⟩):=by kernel_rfl
 rw[hh]at e5;simpa using World.var?_cell J8 e5 0
theorem QJ{W:World}(hL:laidMetH prog Hx W)(hS:W.ShapedOpen prog):lz W:=by
 have h':laidMet prog (("math/bits.deBruijn32tab",Rows.laid_math_bits_deBruijn32tab)::("math/bits.deBruijn64tab",Rows.laid_math_bits_deBruijn64tab)::("internal/strconv.uint64pow10",Rows.laid_internal_strconv_uint64pow10)::("unicode/utf8.acceptRanges",Rows.laid_unicode_utf8_acceptRanges)::("strconv.ErrRange",Rows.laid_strconv_ErrRange)::("strconv.ErrSyntax",Rows.laid_strconv_ErrSyntax)::("unicode/utf8.first",Rows.laid_unicode_utf8_first)::[]) W∧handlesMet prog [("errors.errorType",Rows.laid_errors_errorType)] W:=hL;obtain⟨t0,th⟩:=h';have t1:=laidMet.tail t0;have t2:=laidMet.tail t1;have t3:=laidMet.tail t2;have t4:=laidMet.tail t3;have t5:=laidMet.tail t4;have h8:Lib.TabIs prog W "math/bits.deBruijn64tab" .u8 UE:=
  Lib.tabIs_of_head (show prog.globalNamed "math/bits.deBruijn64tab"=some 8 by kernel_rfl) (show(prog.globals[8]?).map (·.type)=some 304 by kernel_rfl) underlying304 underlying5 (by kernel_rfl) (by kernel_rfl) t1
 have h2:Lib.TabIs prog W "internal/strconv.uint64pow10" .u64 Lib.pow10Tab:=
  Lib.tabIs_of_head (show prog.globalNamed "internal/strconv.uint64pow10"=some 2 by kernel_rfl) (show(prog.globals[2]?).map (·.type)=some 285 by kernel_rfl) underlying285 underlying89 (by kernel_rfl) (by kernel_rfl) t2
 obtain⟨te2,ON,h4⟩:=xA t4 (show prog.globalNamed "strconv.ErrRange"=some 4 by kernel_rfl) (show(prog.globals[4]?).map (·.type)=some 48 by kernel_rfl) underlying48;obtain⟨te1,KG,h3⟩:=xA t5 (show prog.globalNamed "strconv.ErrSyntax"=some 3 by kernel_rfl) (show(prog.globals[3]?).map (·.type)=some 48 by kernel_rfl) underlying48;have h1:=cell_of_shapedOpen_int (P:=prog) (g:=1) (t:=3) (zero:=#[.int .i64 0]) hS QW (by kernel_rfl) rfl (by kernel_rfl) (by kernel_rfl) underlying3;have hlow:9≤W.heap.size:=by
  obtain⟨⟨z,t⟩,hz⟩:=Option.isSome_iff_exists.1 Uu;obtain⟨cs,hh,_⟩:=hS.1 8 z t QV hz;have:8 < W.heap.size:=by
   rcases Nat.lt_or_ge 8 W.heap.size with h|h
   ·exact h
   ·rw[Array.getElem?_eq_none h]at hh;cases hh
  omega
 exact⟨⟨h1,⟨_,h3,.inr ⟨_,_,rfl⟩⟩,⟨_,h4,.inr ⟨_,_,rfl⟩⟩,h2,h8.cell (by kernel_rfl) 15 (by decide),hlow⟩,xC th⟩
noncomputable def zK(os:Os):World:=
 let w0:=World.holding prog os ⟨#[],#[],[]⟩
 { w0 with heap:=w0.heap.modify 0 fun
   |.cells _ t frozen=>.cells #[.iface 242 (.agg #[(pt 9 48)])] t frozen
   |o=>o }
def uH:List (String×DataW Unit):=Hx.filter fun x=>x.2.handleName?.isNone
noncomputable def qt(os:Os):World:=(zK os).layVars prog uH
theorem JP(os:Os):laidMet prog uH (qt os):=by
 have e1:(uH.filter fun x=>(uH.map (·.1)).contains x.1)=uH:=List.filter_eq_self.2 fun x hx=>X8.2 (XX.2 ⟨x,hx,rfl⟩);have e2:(uH.filter fun x=>!(uH.map (·.1)).contains x.1)=[]:=List.filter_eq_nil_iff.2 fun x hx=>by rw[X8.2 (XX.2 ⟨x,hx,rfl⟩)];simp
 exact laidMet_layVars (w0:=zK os) (uH.map (·.1)) [] (by rw[e1];rfl) (by rw[e1];kernel_rfl) (by rw[e1];kernel_rfl) (by rw[e2];exact LaidIn.none)
theorem M1(os:Os)(args:Array Value):laidMetH prog Hx ((qt os).forCall (fun _ _=>0) ⟨#[],args,[]⟩).memory:=
 laidMetH_of_parts ((JP os).of_heap (by simp[World.memory,World.forCall,Input.heap])) (by kernel_rfl)
end Go.Proofs.YtnncigmpcdehnaaGreatDoor
