import Derived.Test.YtnncigmpcdehnaaGreatDoorQb38
namespace Go.Proofs.YtnncigmpcdehnaaGreatDoor
set_option maxRecDepth 100000
open Go Go.RowKit Go.Lib Go.Sort
structure eo(w:World)(S:List Nat)(cf:CF)(s:fI):Prop where
 p:kB w S 1 (.slice s.p.A cf.ao.length s.p.c) cf.ao.length (cf.ao.map fun n=>Value.int .i64 n)
 r:kB w S 19 (.slice s.r.A cf.ah.length s.r.c) cf.ah.length (cf.ah.flatMap Rt.cells)
 l:kB w S 49 (.slice s.l.A cf.rules.length s.l.c) cf.rules.length (cf.rules.flatMap Rl.cells)
 m:kB w S 4 (.slice s.m.A cf.aj.length s.m.c) cf.aj.length (cf.aj.flatMap Me.cells)
 i:kB w S 3 (.slice s.i.A cf.ab.length s.i.c) cf.ab.length (cf.ab.flatMap Mi.cells)
structure eU(cf:CF):Prop where
 p:∀n∈cf.ao,nG n
 r:∀n∈cf.ah,n.Wf
 l:∀n∈cf.rules,n.Wf
 m:∀n∈cf.aj,n.Wf
 i:∀n∈cf.ab,n.Wf
 d:nG cf.aL
structure e8(cf:CF):Prop where
 p:cf.ao.length≤1000000000
 r:cf.ah.length≤1000000000
 l:cf.rules.length≤1000000000
 m:cf.aj.length≤1000000000
 i:cf.ab.length≤1000000000
theorem eo.aP{w w':World}{S:List Nat}{cf:CF}{s:fI}(h:eo w S cf s)(hc:aw S w w'):eo w' S cf s:=⟨h.p.aP hc,h.r.aP hc,h.l.aP hc,h.m.aP hc,h.i.aP hc⟩
def an(cf:CF)(s:fI):List Value:=[.slice s.p.A cf.ao.length s.p.c,.slice s.r.A cf.ah.length s.r.c,.slice s.l.A cf.rules.length s.l.c,.slice s.m.A cf.aj.length s.m.c,.slice s.i.A cf.ab.length s.i.c,.int .i64 cf.aL]
def T1(cf:CF):Bs:=BG [] cf.ao cf.ao.length
def T2(cf:CF):Bs:=xl (T1 cf) cf.ah cf.ah.length
def T3(cf:CF):Bs:=BF (T2 cf) cf.aj cf.aj.length
def T4(cf:CF):Bs:=ns (T3 cf) cf.ab cf.ab.length
def T5(cf:CF):Bs:=Ie (T4 cf) cf.rules cf.rules.length
def E1(cf:CF):Int:=Es 0 cf.ao cf.ao.length
def E2(cf:CF):Int:=xN (E1 cf) cf.ah cf.ah.length
def E3(cf:CF):Int:=Df (E2 cf) cf.aj cf.aj.length
def E4(cf:CF):Int:=ni (E3 cf) cf.ab cf.ab.length
def E5(cf:CF):Int:=KA (E4 cf) cf.rules cf.rules.length
def B1(cf:CF):Bool:=bI false cf.ao.length
def B2(cf:CF):Bool:=bI (B1 cf) cf.ah.length
def B3(cf:CF):Bool:=bI (B2 cf) cf.aj.length
def B4(cf:CF):Bool:=bI (B3 cf) cf.ab.length
def B5(cf:CF):Bool:=bI (B4 cf) cf.rules.length
theorem xp{t0:Bs}{ws:Nat→List Bs}:∀n,t0.length≤(tI t0 ws n).length
 | 0=>Nat.le_refl _
 |n+1=>by rw[tI,List.length_append];exact Nat.le_trans (xp n) (Nat.le_add_right _ _)
theorem NB(cf:CF):T5 cf++bR (gU cf.aL)=fm cf:=by
 unfold fm jQ T5 T4 T3 T2 T1 Ie ns BF xl BG
 rw[xq,xq,xq,xq,xq]
 have app:∀a b:List (List Bs),di (a++b)=di a++di b:=fun a b=>by simp[di]
 simp only[app,List.nil_append]
 simp[di]
theorem NG(cf:CF):Co (E5 cf) cf.aL=qO cf:=by
 unfold qO E5 E4 E3 E2 E1 KA ni Df xN Es
 rw[yU,yU,yU,yU,yU]
theorem Ge{b:Sx.bw}{row:Nat→Option Sx.Row}{i j m:Nat}{og:Option Nat}{p:Bool}{tx:Bs}{e:Int}(h:mu row i j og p tx e)(W:World)(β:Sx.Env)(hS:Sx.cw b β W row [i,j]) :
  Calls Tryz.prog 76 (([.ptr i 0]:List Sx.SV).map (Sx.SV.den β)).toArray W (Sx.a7 b β W row m ⟨[i,j],[],[],[],.val (.int .i64 (tx.length:Int)),none⟩):=by
 obtain⟨ht,_⟩:=nM hS h (by simp) (by simp)
 refine(Nc ht).mono fun en w' ⟨he,hw⟩=>.inl ⟨fun p hp=>(by cases hp),β,Sx.dH (v:=.int .i64 (tx.length:Int)) rfl rfl he (fun q hq=>(by cases hq)) (by rw[hw];exact aw.refl _ _)⟩
theorem xt{b:Sx.bw}{row:Nat→Option Sx.Row}{i j m:Nat}{og:Option Nat}{p:Bool}{tx:Bs}{e:Int}(h:mu row i j og p tx e)(h0:tx≠[])(W:World)(β:Sx.Env)(hS:Sx.cw b β W row [i,j]) :
  Calls Tryz.prog 77 (([.ptr i 0]:List Sx.SV).map (Sx.SV.den β)).toArray W (Sx.a7 b β W row m ⟨[i,j],[],[i,j],[],.val (af tx),none⟩):=by
 obtain⟨ht,_⟩:=nM hS h (by simp) (by simp)
 refine(EK ht h0).mono fun en w' ⟨he,hc⟩=>.inl ⟨fun p hp=>(by cases hp),β,Sx.dH (v:=af tx) rfl rfl he (fun q hq=>(by cases hq)) (hc.mono fun k hk=>.inl ?_)⟩
 show k∈([]++[i,j]).filterMap (Sx.cK β row)
 rcases List.mem_cons.1 hk with rfl|hk
 ·refine List.mem_filterMap.2 ⟨i,by simp,?_⟩
  unfold Sx.cK
  rw[h.b]
  exact mz
 ·refine List.mem_filterMap.2 ⟨j,by simp,?_⟩
  unfold Sx.cK
  rw[h.o]
  show(β.a j).map (·.block)=some k
  simpa using hk
theorem LN(t:Bs)(ws:List Bs):t++bR ws≠[]:=by unfold bR;simp
abbrev pB(w:World):Sx.bw:=⟨w,[],fun _ _=>False⟩
abbrev pL(cf:CF)(s:fI)(p:Bool)(j:Nat)(e:Int)(mem:List Sx.Row):List Sx.Row:=⟨46,.ag (an cf s)⟩::db none [.cI p 1 0,.own j,.val (.int .i64 e)]::mem
abbrev pO(t:Bs):Sx.Row:=⟨5,.own 1 t.length (iX t)⟩
def ia(cf:CF)(s:fI):List Sx.Loop:=[.mk Nat 0 (fun i=>i≤cf.ao.length) (fun i=>Aa s.p.A cf.ao.length s.p.c i) (fun i=>Ja (an cf s) false [] 0 cf.ao i) (fun i=>i+1) (fun i=>cf.ao.length - i) Unit (fun _=>True) (fun _=>[(1,.ptr 0 0),(4,.ptr 1 0)]) (fun _=>Ja (an cf s) false [] 0 cf.ao cf.ao.length) (fun _=>()),
 .mk Nat 0 (fun i=>i≤cf.ah.length) (fun i=>z8 s.r.A cf.ah.length s.r.c i) (fun i=>I9 (an cf s) (B1 cf) (T1 cf) (E1 cf) cf.ah i) (fun i=>i+1) (fun i=>cf.ah.length - i) Unit (fun _=>True) (fun _=>[(1,.ptr 0 0),(4,.ptr 1 0)]) (fun _=>I9 (an cf s) (B1 cf) (T1 cf) (E1 cf) cf.ah cf.ah.length) (fun _=>()),
 .mk Nat 0 (fun i=>i≤cf.aj.length) (fun i=>zZ s.m.A cf.aj.length s.m.c i) (fun i=>I8 (an cf s) (B2 cf) (T2 cf) (E2 cf) cf.aj i) (fun i=>i+1) (fun i=>cf.aj.length - i) Unit (fun _=>True) (fun _=>[(1,.ptr 0 0),(4,.ptr 1 0)]) (fun _=>I8 (an cf s) (B2 cf) (T2 cf) (E2 cf) cf.aj cf.aj.length) (fun _=>()),
 .mk Nat 0 (fun i=>i≤cf.ab.length) (fun i=>vR s.i.A cf.ab.length s.i.c i) (fun i=>I7 (an cf s) (B3 cf) (T3 cf) (E3 cf) cf.ab i) (fun i=>i+1) (fun i=>cf.ab.length - i) Unit (fun _=>True) (fun _=>[(1,.ptr 0 0),(4,.ptr 1 0)]) (fun _=>I7 (an cf s) (B3 cf) (T3 cf) (E3 cf) cf.ab cf.ab.length) (fun _=>()),
 .mk Nat 0 (fun i=>i≤cf.rules.length) (fun i=>zY s.l.A cf.rules.length s.l.c i) (fun i=>I6 (an cf s) (B4 cf) (T4 cf) (E4 cf) cf.rules i) (fun i=>i+1) (fun i=>cf.rules.length - i) Unit (fun _=>True) (fun _=>[(1,.ptr 0 0),(4,.ptr 1 0)]) (fun _=>I6 (an cf s) (B4 cf) (T4 cf) (E4 cf) cf.rules cf.rules.length) (fun _=>())]
structure oz(w:World)(cf:CF)(s:fI)(TT:Bs)(F:List Bs)(b bl:Bool)(E6 E7:Int):Prop where
 hl:dG w
 r:eo w [] cf s
 w:eU cf
 f:e8 cf
 T:TT=T5 cf++bR F
 B:TT.length≤140737488355328
 d:bl=decide (TT.length≤65536)
 e6:E6=aG b 2 (E5 cf)
 e7:E7=aG bl 4 E6
section
variable{w:World}{cf:CF}{s:fI}{TT:Bs}{F:List Bs}{b bl:Bool}{E6 E7:Int}
theorem oz.g(I:oz w cf s TT F b bl E6 E7):(T1 cf).length≤140737488355328∧(T2 cf).length≤140737488355328∧(T3 cf).length≤140737488355328∧(T4 cf).length≤140737488355328∧(T5 cf).length≤140737488355328:=by
 have g5:(T5 cf).length≤140737488355328:=by have hB:=I.B;rw[I.T,List.length_append]at hB;omega
 have g4:(T4 cf).length≤140737488355328:=Nat.le_trans (xp _) g5
 have g3:(T3 cf).length≤140737488355328:=Nat.le_trans (xp _) g4
 have g2:(T2 cf).length≤140737488355328:=Nat.le_trans (xp _) g3
 exact⟨Nat.le_trans (xp _) g2,g2,g3,g4,g5⟩
theorem oz.c168(I:oz w cf s TT F b bl E6 E7):Value.bool (decide ((TT.length:Int)≤65536))=.bool bl:=by rw[I.d,show decide ((TT.length:Int)≤65536)=decide (TT.length≤65536)from by rw[decide_eq_decide];omega]
theorem ga(w:World)(cf:CF)(s:fI)(p:Bool)(j:Nat){e e':Int}{b:Bool}{code:Int}(tx:Bs)(mem:List Sx.Row)(m:Nat)(he:e'=aG b code e)(rj:Sx.rowAt (pL cf s p j e mem) j=some (pO tx))(W:World)(β:Sx.Env)(hS:Sx.cw (pB w) β W (Sx.rowAt (pL cf s p j e mem)) [1,j]):Calls Tryz.prog 69 (([.ptr 1 0,.val (.bool b),.val (.int .i64 code)]:List Sx.SV).map (Sx.SV.den β)).toArray W (Sx.a7 (pB w) β W (Sx.rowAt (pL cf s p j e mem)) m (cD [] 1 j none p e')):=by
 rw[he];exact eK b code ⟨rfl,rj⟩ W β hS
theorem nD(w:World)(cf:CF)(s:fI)(p:Bool){e:Int}(tx:Bs)(mem:List Sx.Row)(k m:Nat)(ws:List Bs)(hT:TT=tx++bR ws)(rj:Sx.rowAt (pL cf s p 2 e mem) 2=some (pO tx))(hm:2 < m)(rk:Sx.rowAt (pL cf s p 2 e mem) k=some ⟨9,.own 1 ws.length (strs ws)⟩)(hn:ws.length≤1000000)(hl:TT.length≤140737488355328)(W:World)(β:Sx.Env)(hS:Sx.cw (pB w) β W (Sx.rowAt (pL cf s p 2 e mem)) [1,2,k]) :
  Calls Tryz.prog 70 (([.ptr 1 0,.own k]:List Sx.SV).map (Sx.SV.den β)).toArray W (Sx.a7 (pB w) β W (Sx.rowAt (pL cf s p 2 e mem)) m (il [k] 1 2 m none TT e (.tuple #[]))):=by
 subst hT
 exact uT (p:=p) ws ⟨rfl,rj⟩ (by omega) hm rk hn (by rw[←List.length_append];exact hl) W β hS
theorem tY(w:World)(cf:CF)(s:fI)(j:Nat)(e:Int)(tx:Bs)(mem:List Sx.Row)(m:Nat)(rj:Sx.rowAt (pL cf s true j e mem) j=some (pO tx))(W:World)(β:Sx.Env)(hS:Sx.cw (pB w) β W (Sx.rowAt (pL cf s true j e mem)) [1,j]) :
  Calls Tryz.prog 76 (([.ptr 1 0]:List Sx.SV).map (Sx.SV.den β)).toArray W (Sx.a7 (pB w) β W (Sx.rowAt (pL cf s true j e mem)) m ⟨[1,j],[],[],[],.val (.int .i64 (tx.length:Int)),none⟩):=Ge (p:=true) ⟨rfl,rj⟩ W β hS
theorem EL(w:World)(cf:CF)(s:fI)(j:Nat)(e:Int)(mem:List Sx.Row)(m:Nat){x:Bs}{ws:List Bs}(hT:TT=x++bR ws)(rj:Sx.rowAt (pL cf s true j e mem) j=some (pO TT))(W:World)(β:Sx.Env)(hS:Sx.cw (pB w) β W (Sx.rowAt (pL cf s true j e mem)) [1,j]) :
  Calls Tryz.prog 77 (([.ptr 1 0]:List Sx.SV).map (Sx.SV.den β)).toArray W (Sx.a7 (pB w) β W (Sx.rowAt (pL cf s true j e mem)) m ⟨[1,j],[],[1,j],[],.val (af TT),none⟩):=xt (p:=true) ⟨rfl,rj⟩ (by rw[hT];exact LN _ _) W β hS
theorem tV(cf:CF)(s:fI):Aa s.p.A cf.ao.length s.p.c 0=Aa s.p.A cf.ao.length s.p.c 0∧Ja (an cf s) false [] 0 cf.ao 0=Ja (an cf s) false [] 0 cf.ao 0:=⟨rfl,rfl⟩
theorem tU(cf:CF)(s:fI):z8 s.r.A cf.ah.length s.r.c 0=z8 s.r.A cf.ah.length s.r.c 0∧I9 (an cf s) (B1 cf) (T1 cf) (E1 cf) cf.ah 0=I9 (an cf s) (B1 cf) (T1 cf) (E1 cf) cf.ah 0:=⟨rfl,rfl⟩
theorem tS(cf:CF)(s:fI):zZ s.m.A cf.aj.length s.m.c 0=zZ s.m.A cf.aj.length s.m.c 0∧I8 (an cf s) (B2 cf) (T2 cf) (E2 cf) cf.aj 0=I8 (an cf s) (B2 cf) (T2 cf) (E2 cf) cf.aj 0:=⟨rfl,rfl⟩
theorem tR(cf:CF)(s:fI):vR s.i.A cf.ab.length s.i.c 0=vR s.i.A cf.ab.length s.i.c 0∧I7 (an cf s) (B3 cf) (T3 cf) (E3 cf) cf.ab 0=I7 (an cf s) (B3 cf) (T3 cf) (E3 cf) cf.ab 0:=⟨rfl,rfl⟩
theorem tQ(cf:CF)(s:fI):zY s.l.A cf.rules.length s.l.c 0=zY s.l.A cf.rules.length s.l.c 0∧I6 (an cf s) (B4 cf) (T4 cf) (E4 cf) cf.rules 0=I6 (an cf s) (B4 cf) (T4 cf) (E4 cf) cf.rules 0:=⟨rfl,rfl⟩
theorem Dc(I:oz w cf s TT [av,aJ] true bl E6 E7)(hd:cf.aL=1)(hE:E7≠0):Calls Tryz.prog 28 #[.agg (an cf s).toArray] w (Sx.bc (pB w) (w8 ([],E7))):=by
 obtain⟨g1,g2,g3,g4,g5⟩:=I.g
 have rd2:=nz I.hl (an cf s) cf.ao s.p.A s.p.c I.r.p I.w.p I.f.p false [] 0 g1 ([],E7)
 have rd7:=ny I.hl (an cf s) cf.ah s.r.A s.r.c I.r.r I.w.r I.f.r (B1 cf) (T1 cf) (E1 cf) g2 ([],E7)
 have rd12:=nx I.hl (an cf s) cf.aj s.m.A s.m.c I.r.m I.w.m I.f.m (B2 cf) (T2 cf) (E2 cf) g3 ([],E7)
 have rd17:=nu I.hl (an cf s) cf.ab s.i.A s.i.c I.r.i I.w.i I.f.i (B3 cf) (T3 cf) (E3 cf) g4 ([],E7)
 have rd22:=nt I.hl (an cf s) cf.rules s.l.A s.l.c I.r.l I.w.l I.f.l (B4 cf) (T4 cf) (E4 cf) g5 ([],E7)
 have h0:=Nat.zero_le cf.ao.length;have h5:=Nat.zero_le cf.ah.length;have h10:=Nat.zero_le cf.aj.length;have h15:=Nat.zero_le cf.ab.length;have h20:=Nat.zero_le cf.rules.length
 have e1:=tV cf s;have e6:=tU cf s;have e11:=tS cf s;have e16:=tR cf s;have e21:=tQ cf s
 have c144:Value.bool (cf.aL==1)=.bool true:=dQ (by rw[hd];rfl)
 have c155:=ga w cf s (B5 cf) 2 (T5 cf) [pO (T5 cf)] 3 I.e6 rfl
 have ha:aH cf.aL 0=[aJ]:=by rw[hd];rfl
 have hlan2:∀W,aw [] w W→dG W:=fun W hW=>I.hl.cy hW
 have c160:=fun W β (hS:Sx.cw (pB w) β W (Sx.rowAt (pL cf s (B5 cf) 2 E6 [pO (T5 cf),⟨9,.own 1 1 (strs [av])⟩])) [])=>bh (m:=4) ha (by simp) (by omega) (by omega) hlan2 W β hS
 have c161:=aU [aJ] 1 1 rfl (by decide)
 have c162:=nD w cf s (B5 cf) (e:=E6) (T5 cf) [pO (T5 cf),Sx.aa,⟨9,.ag (strs [aJ])⟩,⟨9,.own 1 2 (strs [av,aJ])⟩] 5 6 [av,aJ] I.T rfl (by omega) rfl (by simp) I.B
 have c167:=tY w cf s 6 E6 TT [Sx.aa,Sx.aa,⟨9,.ag (strs [aJ])⟩,⟨9,.own 1 2 (strs [av,aJ])⟩,pO TT] 7 rfl
 have c168:=I.c168
 have c169:=ga w cf s true 6 TT [Sx.aa,Sx.aa,⟨9,.ag (strs [aJ])⟩,⟨9,.own 1 2 (strs [av,aJ])⟩,pO TT] 7 I.e7 rfl
 have c174:Value.bool (E7 !=0)=.bool true:=dQ (by rw[bne_iff_ne];exact hE)
 have z25:([.val (af []),.val (.int .i64 E7)]:List Sx.SV)=[.val (af []),.val (.int .i64 E7)]:=rfl
 refine Sx.aT (args:=[.val (.agg (an cf s).toArray)]) (ct w) [(18,.gq [(0,0,0),(1,5,1)]),(144,.is (.bool true)),(155,.al (cD [] 1 2 none (B5 cf) E6)),(157,.cC 9 1),(160,.al (fH 4 1 (strs [aJ]))),(162,.al (il [5] 1 2 6 none TT E6 (.tuple #[]))),(167,.al ⟨[1,6],[],[],[],.val (.int .i64 (TT.length:Int)),none⟩),(168,.is (.bool bl)),(169,.al (cD [] 1 6 none true E7)),(174,.is (.bool true))] (ia cf s) (by kernel_rfl) Tryz.func28 rfl (Nat.le_of_ble_eq_true rfl) rfl ?_
 exact Eq.mp (by kernel_rfl) (Sx.t2 h0 e1 (And.intro rd2 (fun(x3:Unit) (hx4:True)=>(Sx.t2 h5 e6 (And.intro rd7 (fun(x8:Unit) (hx9:True)=>(Sx.t2 h10 e11 (And.intro rd12 (fun(x13:Unit) (hx14:True)=>(Sx.t2 h15 e16 (And.intro rd17 (fun(x18:Unit) (hx19:True)=>(Sx.t2 h20 e21 (And.intro rd22 (fun(x23:Unit) (hx24:True)=>(Sx.t8 c144 c155 c160 c161 c162 c167 c168 c169 (And.intro c174 z25)))))))))))))))))
theorem Db(I:oz w cf s TT [av,aJ] true bl E6 E7)(hd:cf.aL=1)(hE:E7=0):Calls Tryz.prog 28 #[.agg (an cf s).toArray] w (Sx.bc (pB w) (w8 (TT,0))):=by
 obtain⟨g1,g2,g3,g4,g5⟩:=I.g
 have rd2:=nz I.hl (an cf s) cf.ao s.p.A s.p.c I.r.p I.w.p I.f.p false [] 0 g1 (TT,0)
 have rd7:=ny I.hl (an cf s) cf.ah s.r.A s.r.c I.r.r I.w.r I.f.r (B1 cf) (T1 cf) (E1 cf) g2 (TT,0)
 have rd12:=nx I.hl (an cf s) cf.aj s.m.A s.m.c I.r.m I.w.m I.f.m (B2 cf) (T2 cf) (E2 cf) g3 (TT,0)
 have rd17:=nu I.hl (an cf s) cf.ab s.i.A s.i.c I.r.i I.w.i I.f.i (B3 cf) (T3 cf) (E3 cf) g4 (TT,0)
 have rd22:=nt I.hl (an cf s) cf.rules s.l.A s.l.c I.r.l I.w.l I.f.l (B4 cf) (T4 cf) (E4 cf) g5 (TT,0)
 have h0:=Nat.zero_le cf.ao.length;have h5:=Nat.zero_le cf.ah.length;have h10:=Nat.zero_le cf.aj.length;have h15:=Nat.zero_le cf.ab.length;have h20:=Nat.zero_le cf.rules.length
 have e1:=tV cf s;have e6:=tU cf s;have e11:=tS cf s;have e16:=tR cf s;have e21:=tQ cf s
 have c144:Value.bool (cf.aL==1)=.bool true:=dQ (by rw[hd];rfl)
 have c155:=ga w cf s (B5 cf) 2 (T5 cf) [pO (T5 cf)] 3 I.e6 rfl
 have ha:aH cf.aL 0=[aJ]:=by rw[hd];rfl
 have hlan2:∀W,aw [] w W→dG W:=fun W hW=>I.hl.cy hW
 have c160:=fun W β (hS:Sx.cw (pB w) β W (Sx.rowAt (pL cf s (B5 cf) 2 E6 [pO (T5 cf),⟨9,.own 1 1 (strs [av])⟩])) [])=>bh (m:=4) ha (by simp) (by omega) (by omega) hlan2 W β hS
 have c161:=aU [aJ] 1 1 rfl (by decide)
 have c162:=nD w cf s (B5 cf) (e:=E6) (T5 cf) [pO (T5 cf),Sx.aa,⟨9,.ag (strs [aJ])⟩,⟨9,.own 1 2 (strs [av,aJ])⟩] 5 6 [av,aJ] I.T rfl (by omega) rfl (by simp) I.B
 have c167:=tY w cf s 6 E6 TT [Sx.aa,Sx.aa,⟨9,.ag (strs [aJ])⟩,⟨9,.own 1 2 (strs [av,aJ])⟩,pO TT] 7 rfl
 have c168:=I.c168
 have c169:=ga w cf s true 6 TT [Sx.aa,Sx.aa,⟨9,.ag (strs [aJ])⟩,⟨9,.own 1 2 (strs [av,aJ])⟩,pO TT] 7 I.e7 rfl
 have c174:Value.bool (E7 !=0)=.bool false:=dY (by rw[hE];rfl)
 have c182:=EL w cf s 6 E7 [Sx.aa,Sx.aa,⟨9,.ag (strs [aJ])⟩,⟨9,.own 1 2 (strs [av,aJ])⟩,pO TT] 7 I.T rfl
 have z25:([.val (af TT),.val (.int .i64 0)]:List Sx.SV)=[.val (af TT),.val (.int .i64 0)]:=rfl
 refine Sx.aT (args:=[.val (.agg (an cf s).toArray)]) (ct w) [(18,.gq [(0,0,0),(1,5,1)]),(144,.is (.bool true)),(155,.al (cD [] 1 2 none (B5 cf) E6)),(157,.cC 9 1),(160,.al (fH 4 1 (strs [aJ]))),(162,.al (il [5] 1 2 6 none TT E6 (.tuple #[]))),(167,.al ⟨[1,6],[],[],[],.val (.int .i64 (TT.length:Int)),none⟩),(168,.is (.bool bl)),(169,.al (cD [] 1 6 none true E7)),(174,.is (.bool false)),(182,.al ⟨[1,6],[],[1,6],[],.val (af TT),none⟩)] (ia cf s) (by kernel_rfl) Tryz.func28 rfl (Nat.le_of_ble_eq_true rfl) rfl ?_
 exact Eq.mp (by kernel_rfl) (Sx.t2 h0 e1 (And.intro rd2 (fun(x3:Unit) (hx4:True)=>(Sx.t2 h5 e6 (And.intro rd7 (fun(x8:Unit) (hx9:True)=>(Sx.t2 h10 e11 (And.intro rd12 (fun(x13:Unit) (hx14:True)=>(Sx.t2 h15 e16 (And.intro rd17 (fun(x18:Unit) (hx19:True)=>(Sx.t2 h20 e21 (And.intro rd22 (fun(x23:Unit) (hx24:True)=>(Sx.t8 c144 c155 c160 c161 c162 c167 c168 c169 (Sx.t2 c174 c182 z25)))))))))))))))))
theorem Da(I:oz w cf s TT [av,cW] true bl E6 E7)(hd:cf.aL=2)(hE:E7≠0):Calls Tryz.prog 28 #[.agg (an cf s).toArray] w (Sx.bc (pB w) (w8 ([],E7))):=by
 obtain⟨g1,g2,g3,g4,g5⟩:=I.g
 have rd2:=nz I.hl (an cf s) cf.ao s.p.A s.p.c I.r.p I.w.p I.f.p false [] 0 g1 ([],E7)
 have rd7:=ny I.hl (an cf s) cf.ah s.r.A s.r.c I.r.r I.w.r I.f.r (B1 cf) (T1 cf) (E1 cf) g2 ([],E7)
 have rd12:=nx I.hl (an cf s) cf.aj s.m.A s.m.c I.r.m I.w.m I.f.m (B2 cf) (T2 cf) (E2 cf) g3 ([],E7)
 have rd17:=nu I.hl (an cf s) cf.ab s.i.A s.i.c I.r.i I.w.i I.f.i (B3 cf) (T3 cf) (E3 cf) g4 ([],E7)
 have rd22:=nt I.hl (an cf s) cf.rules s.l.A s.l.c I.r.l I.w.l I.f.l (B4 cf) (T4 cf) (E4 cf) g5 ([],E7)
 have h0:=Nat.zero_le cf.ao.length;have h5:=Nat.zero_le cf.ah.length;have h10:=Nat.zero_le cf.aj.length;have h15:=Nat.zero_le cf.ab.length;have h20:=Nat.zero_le cf.rules.length
 have e1:=tV cf s;have e6:=tU cf s;have e11:=tS cf s;have e16:=tR cf s;have e21:=tQ cf s
 have c144:Value.bool (cf.aL==1)=.bool false:=dY (beq_eq_false_iff_ne.2 (by rw[hd];decide))
 have c148:Value.bool (cf.aL==2)=.bool true:=dQ (by rw[hd];rfl)
 have c155:=ga w cf s (B5 cf) 2 (T5 cf) [pO (T5 cf)] 3 I.e6 rfl
 have ha:aH cf.aL 0=[cW]:=by rw[hd];rfl
 have hlan2:∀W,aw [] w W→dG W:=fun W hW=>I.hl.cy hW
 have c160:=fun W β (hS:Sx.cw (pB w) β W (Sx.rowAt (pL cf s (B5 cf) 2 E6 [pO (T5 cf),⟨9,.own 1 1 (strs [av])⟩])) [])=>bh (m:=4) ha (by simp) (by omega) (by omega) hlan2 W β hS
 have c161:=aU [cW] 1 1 rfl (by decide)
 have c162:=nD w cf s (B5 cf) (e:=E6) (T5 cf) [pO (T5 cf),Sx.aa,⟨9,.ag (strs [cW])⟩,⟨9,.own 1 2 (strs [av,cW])⟩] 5 6 [av,cW] I.T rfl (by omega) rfl (by simp) I.B
 have c167:=tY w cf s 6 E6 TT [Sx.aa,Sx.aa,⟨9,.ag (strs [cW])⟩,⟨9,.own 1 2 (strs [av,cW])⟩,pO TT] 7 rfl
 have c168:=I.c168
 have c169:=ga w cf s true 6 TT [Sx.aa,Sx.aa,⟨9,.ag (strs [cW])⟩,⟨9,.own 1 2 (strs [av,cW])⟩,pO TT] 7 I.e7 rfl
 have c174:Value.bool (E7 !=0)=.bool true:=dQ (by rw[bne_iff_ne];exact hE)
 have z25:([.val (af []),.val (.int .i64 E7)]:List Sx.SV)=[.val (af []),.val (.int .i64 E7)]:=rfl
 refine Sx.aT (args:=[.val (.agg (an cf s).toArray)]) (ct w) [(18,.gq [(0,0,0),(1,5,1)]),(144,.is (.bool false)),(148,.is (.bool true)),(155,.al (cD [] 1 2 none (B5 cf) E6)),(157,.cC 9 1),(160,.al (fH 4 1 (strs [cW]))),(162,.al (il [5] 1 2 6 none TT E6 (.tuple #[]))),(167,.al ⟨[1,6],[],[],[],.val (.int .i64 (TT.length:Int)),none⟩),(168,.is (.bool bl)),(169,.al (cD [] 1 6 none true E7)),(174,.is (.bool true))] (ia cf s) (by kernel_rfl) Tryz.func28 rfl (Nat.le_of_ble_eq_true rfl) rfl ?_
 exact Eq.mp (by kernel_rfl) (Sx.t2 h0 e1 (And.intro rd2 (fun(x3:Unit) (hx4:True)=>(Sx.t2 h5 e6 (And.intro rd7 (fun(x8:Unit) (hx9:True)=>(Sx.t2 h10 e11 (And.intro rd12 (fun(x13:Unit) (hx14:True)=>(Sx.t2 h15 e16 (And.intro rd17 (fun(x18:Unit) (hx19:True)=>(Sx.t2 h20 e21 (And.intro rd22 (fun(x23:Unit) (hx24:True)=>(Sx.t8 c144 c148 c155 c160 c161 c162 c167 c168 (Sx.t2 c169 c174 z25)))))))))))))))))
theorem C9(I:oz w cf s TT [av,cW] true bl E6 E7)(hd:cf.aL=2)(hE:E7=0):Calls Tryz.prog 28 #[.agg (an cf s).toArray] w (Sx.bc (pB w) (w8 (TT,0))):=by
 obtain⟨g1,g2,g3,g4,g5⟩:=I.g
 have rd2:=nz I.hl (an cf s) cf.ao s.p.A s.p.c I.r.p I.w.p I.f.p false [] 0 g1 (TT,0)
 have rd7:=ny I.hl (an cf s) cf.ah s.r.A s.r.c I.r.r I.w.r I.f.r (B1 cf) (T1 cf) (E1 cf) g2 (TT,0)
 have rd12:=nx I.hl (an cf s) cf.aj s.m.A s.m.c I.r.m I.w.m I.f.m (B2 cf) (T2 cf) (E2 cf) g3 (TT,0)
 have rd17:=nu I.hl (an cf s) cf.ab s.i.A s.i.c I.r.i I.w.i I.f.i (B3 cf) (T3 cf) (E3 cf) g4 (TT,0)
 have rd22:=nt I.hl (an cf s) cf.rules s.l.A s.l.c I.r.l I.w.l I.f.l (B4 cf) (T4 cf) (E4 cf) g5 (TT,0)
 have h0:=Nat.zero_le cf.ao.length;have h5:=Nat.zero_le cf.ah.length;have h10:=Nat.zero_le cf.aj.length;have h15:=Nat.zero_le cf.ab.length;have h20:=Nat.zero_le cf.rules.length
 have e1:=tV cf s;have e6:=tU cf s;have e11:=tS cf s;have e16:=tR cf s;have e21:=tQ cf s
 have c144:Value.bool (cf.aL==1)=.bool false:=dY (beq_eq_false_iff_ne.2 (by rw[hd];decide))
 have c148:Value.bool (cf.aL==2)=.bool true:=dQ (by rw[hd];rfl)
 have c155:=ga w cf s (B5 cf) 2 (T5 cf) [pO (T5 cf)] 3 I.e6 rfl
 have ha:aH cf.aL 0=[cW]:=by rw[hd];rfl
 have hlan2:∀W,aw [] w W→dG W:=fun W hW=>I.hl.cy hW
 have c160:=fun W β (hS:Sx.cw (pB w) β W (Sx.rowAt (pL cf s (B5 cf) 2 E6 [pO (T5 cf),⟨9,.own 1 1 (strs [av])⟩])) [])=>bh (m:=4) ha (by simp) (by omega) (by omega) hlan2 W β hS
 have c161:=aU [cW] 1 1 rfl (by decide)
 have c162:=nD w cf s (B5 cf) (e:=E6) (T5 cf) [pO (T5 cf),Sx.aa,⟨9,.ag (strs [cW])⟩,⟨9,.own 1 2 (strs [av,cW])⟩] 5 6 [av,cW] I.T rfl (by omega) rfl (by simp) I.B
 have c167:=tY w cf s 6 E6 TT [Sx.aa,Sx.aa,⟨9,.ag (strs [cW])⟩,⟨9,.own 1 2 (strs [av,cW])⟩,pO TT] 7 rfl
 have c168:=I.c168
 have c169:=ga w cf s true 6 TT [Sx.aa,Sx.aa,⟨9,.ag (strs [cW])⟩,⟨9,.own 1 2 (strs [av,cW])⟩,pO TT] 7 I.e7 rfl
 have c174:Value.bool (E7 !=0)=.bool false:=dY (by rw[hE];rfl)
 have c182:=EL w cf s 6 E7 [Sx.aa,Sx.aa,⟨9,.ag (strs [cW])⟩,⟨9,.own 1 2 (strs [av,cW])⟩,pO TT] 7 I.T rfl
 have z25:([.val (af TT),.val (.int .i64 0)]:List Sx.SV)=[.val (af TT),.val (.int .i64 0)]:=rfl
 refine Sx.aT (args:=[.val (.agg (an cf s).toArray)]) (ct w) [(18,.gq [(0,0,0),(1,5,1)]),(144,.is (.bool false)),(148,.is (.bool true)),(155,.al (cD [] 1 2 none (B5 cf) E6)),(157,.cC 9 1),(160,.al (fH 4 1 (strs [cW]))),(162,.al (il [5] 1 2 6 none TT E6 (.tuple #[]))),(167,.al ⟨[1,6],[],[],[],.val (.int .i64 (TT.length:Int)),none⟩),(168,.is (.bool bl)),(169,.al (cD [] 1 6 none true E7)),(174,.is (.bool false)),(182,.al ⟨[1,6],[],[1,6],[],.val (af TT),none⟩)] (ia cf s) (by kernel_rfl) Tryz.func28 rfl (Nat.le_of_ble_eq_true rfl) rfl ?_
 exact Eq.mp (by kernel_rfl) (Sx.t2 h0 e1 (And.intro rd2 (fun(x3:Unit) (hx4:True)=>(Sx.t2 h5 e6 (And.intro rd7 (fun(x8:Unit) (hx9:True)=>(Sx.t2 h10 e11 (And.intro rd12 (fun(x13:Unit) (hx14:True)=>(Sx.t2 h15 e16 (And.intro rd17 (fun(x18:Unit) (hx19:True)=>(Sx.t2 h20 e21 (And.intro rd22 (fun(x23:Unit) (hx24:True)=>(Sx.t8 c144 c148 c155 c160 c161 c162 c167 c168 (Sx.t2 c169 c174 (And.intro c182 z25))))))))))))))))))
theorem C0(I:oz w cf s TT [av,bn] true bl E6 E7)(hd:cf.aL=4)(hE:E7≠0):Calls Tryz.prog 28 #[.agg (an cf s).toArray] w (Sx.bc (pB w) (w8 ([],E7))):=by
 obtain⟨g1,g2,g3,g4,g5⟩:=I.g
 have rd2:=nz I.hl (an cf s) cf.ao s.p.A s.p.c I.r.p I.w.p I.f.p false [] 0 g1 ([],E7)
 have rd7:=ny I.hl (an cf s) cf.ah s.r.A s.r.c I.r.r I.w.r I.f.r (B1 cf) (T1 cf) (E1 cf) g2 ([],E7)
 have rd12:=nx I.hl (an cf s) cf.aj s.m.A s.m.c I.r.m I.w.m I.f.m (B2 cf) (T2 cf) (E2 cf) g3 ([],E7)
 have rd17:=nu I.hl (an cf s) cf.ab s.i.A s.i.c I.r.i I.w.i I.f.i (B3 cf) (T3 cf) (E3 cf) g4 ([],E7)
 have rd22:=nt I.hl (an cf s) cf.rules s.l.A s.l.c I.r.l I.w.l I.f.l (B4 cf) (T4 cf) (E4 cf) g5 ([],E7)
 have h0:=Nat.zero_le cf.ao.length;have h5:=Nat.zero_le cf.ah.length;have h10:=Nat.zero_le cf.aj.length;have h15:=Nat.zero_le cf.ab.length;have h20:=Nat.zero_le cf.rules.length
 have e1:=tV cf s;have e6:=tU cf s;have e11:=tS cf s;have e16:=tR cf s;have e21:=tQ cf s
 have c144:Value.bool (cf.aL==1)=.bool false:=dY (beq_eq_false_iff_ne.2 (by rw[hd];decide))
 have c148:Value.bool (cf.aL==2)=.bool false:=dY (beq_eq_false_iff_ne.2 (by rw[hd];decide))
 have c153:Value.bool (cf.aL==4)=.bool true:=dQ (by rw[hd];rfl)
 have c155:=ga w cf s (B5 cf) 2 (T5 cf) [pO (T5 cf)] 3 I.e6 rfl
 have ha:aH cf.aL 0=[bn]:=by rw[hd];rfl
 have hlan2:∀W,aw [] w W→dG W:=fun W hW=>I.hl.cy hW
 have c160:=fun W β (hS:Sx.cw (pB w) β W (Sx.rowAt (pL cf s (B5 cf) 2 E6 [pO (T5 cf),⟨9,.own 1 1 (strs [av])⟩])) [])=>bh (m:=4) ha (by simp) (by omega) (by omega) hlan2 W β hS
 have c161:=aU [bn] 1 1 rfl (by decide)
 have c162:=nD w cf s (B5 cf) (e:=E6) (T5 cf) [pO (T5 cf),Sx.aa,⟨9,.ag (strs [bn])⟩,⟨9,.own 1 2 (strs [av,bn])⟩] 5 6 [av,bn] I.T rfl (by omega) rfl (by simp) I.B
 have c167:=tY w cf s 6 E6 TT [Sx.aa,Sx.aa,⟨9,.ag (strs [bn])⟩,⟨9,.own 1 2 (strs [av,bn])⟩,pO TT] 7 rfl
 have c168:=I.c168
 have c169:=ga w cf s true 6 TT [Sx.aa,Sx.aa,⟨9,.ag (strs [bn])⟩,⟨9,.own 1 2 (strs [av,bn])⟩,pO TT] 7 I.e7 rfl
 have c174:Value.bool (E7 !=0)=.bool true:=dQ (by rw[bne_iff_ne];exact hE)
 have z25:([.val (af []),.val (.int .i64 E7)]:List Sx.SV)=[.val (af []),.val (.int .i64 E7)]:=rfl
 refine Sx.aT (args:=[.val (.agg (an cf s).toArray)]) (ct w) [(18,.gq [(0,0,0),(1,5,1)]),(144,.is (.bool false)),(148,.is (.bool false)),(153,.is (.bool true)),(155,.al (cD [] 1 2 none (B5 cf) E6)),(157,.cC 9 1),(160,.al (fH 4 1 (strs [bn]))),(162,.al (il [5] 1 2 6 none TT E6 (.tuple #[]))),(167,.al ⟨[1,6],[],[],[],.val (.int .i64 (TT.length:Int)),none⟩),(168,.is (.bool bl)),(169,.al (cD [] 1 6 none true E7)),(174,.is (.bool true))] (ia cf s) (by kernel_rfl) Tryz.func28 rfl (Nat.le_of_ble_eq_true rfl) rfl ?_
 exact Eq.mp (by kernel_rfl) (Sx.t2 h0 e1 (And.intro rd2 (fun(x3:Unit) (hx4:True)=>(Sx.t2 h5 e6 (And.intro rd7 (fun(x8:Unit) (hx9:True)=>(Sx.t2 h10 e11 (And.intro rd12 (fun(x13:Unit) (hx14:True)=>(Sx.t2 h15 e16 (And.intro rd17 (fun(x18:Unit) (hx19:True)=>(Sx.t2 h20 e21 (And.intro rd22 (fun(x23:Unit) (hx24:True)=>(Sx.t8 c144 c148 c153 c155 c160 c161 c162 c167 (Sx.t2 c168 c169 (And.intro c174 z25))))))))))))))))))
theorem CZ(I:oz w cf s TT [av,bn] true bl E6 E7)(hd:cf.aL=4)(hE:E7=0):Calls Tryz.prog 28 #[.agg (an cf s).toArray] w (Sx.bc (pB w) (w8 (TT,0))):=by
 obtain⟨g1,g2,g3,g4,g5⟩:=I.g
 have rd2:=nz I.hl (an cf s) cf.ao s.p.A s.p.c I.r.p I.w.p I.f.p false [] 0 g1 (TT,0)
 have rd7:=ny I.hl (an cf s) cf.ah s.r.A s.r.c I.r.r I.w.r I.f.r (B1 cf) (T1 cf) (E1 cf) g2 (TT,0)
 have rd12:=nx I.hl (an cf s) cf.aj s.m.A s.m.c I.r.m I.w.m I.f.m (B2 cf) (T2 cf) (E2 cf) g3 (TT,0)
 have rd17:=nu I.hl (an cf s) cf.ab s.i.A s.i.c I.r.i I.w.i I.f.i (B3 cf) (T3 cf) (E3 cf) g4 (TT,0)
 have rd22:=nt I.hl (an cf s) cf.rules s.l.A s.l.c I.r.l I.w.l I.f.l (B4 cf) (T4 cf) (E4 cf) g5 (TT,0)
 have h0:=Nat.zero_le cf.ao.length;have h5:=Nat.zero_le cf.ah.length;have h10:=Nat.zero_le cf.aj.length;have h15:=Nat.zero_le cf.ab.length;have h20:=Nat.zero_le cf.rules.length
 have e1:=tV cf s;have e6:=tU cf s;have e11:=tS cf s;have e16:=tR cf s;have e21:=tQ cf s
 have c144:Value.bool (cf.aL==1)=.bool false:=dY (beq_eq_false_iff_ne.2 (by rw[hd];decide))
 have c148:Value.bool (cf.aL==2)=.bool false:=dY (beq_eq_false_iff_ne.2 (by rw[hd];decide))
 have c153:Value.bool (cf.aL==4)=.bool true:=dQ (by rw[hd];rfl)
 have c155:=ga w cf s (B5 cf) 2 (T5 cf) [pO (T5 cf)] 3 I.e6 rfl
 have ha:aH cf.aL 0=[bn]:=by rw[hd];rfl
 have hlan2:∀W,aw [] w W→dG W:=fun W hW=>I.hl.cy hW
 have c160:=fun W β (hS:Sx.cw (pB w) β W (Sx.rowAt (pL cf s (B5 cf) 2 E6 [pO (T5 cf),⟨9,.own 1 1 (strs [av])⟩])) [])=>bh (m:=4) ha (by simp) (by omega) (by omega) hlan2 W β hS
 have c161:=aU [bn] 1 1 rfl (by decide)
 have c162:=nD w cf s (B5 cf) (e:=E6) (T5 cf) [pO (T5 cf),Sx.aa,⟨9,.ag (strs [bn])⟩,⟨9,.own 1 2 (strs [av,bn])⟩] 5 6 [av,bn] I.T rfl (by omega) rfl (by simp) I.B
 have c167:=tY w cf s 6 E6 TT [Sx.aa,Sx.aa,⟨9,.ag (strs [bn])⟩,⟨9,.own 1 2 (strs [av,bn])⟩,pO TT] 7 rfl
 have c168:=I.c168
 have c169:=ga w cf s true 6 TT [Sx.aa,Sx.aa,⟨9,.ag (strs [bn])⟩,⟨9,.own 1 2 (strs [av,bn])⟩,pO TT] 7 I.e7 rfl
 have c174:Value.bool (E7 !=0)=.bool false:=dY (by rw[hE];rfl)
 have c182:=EL w cf s 6 E7 [Sx.aa,Sx.aa,⟨9,.ag (strs [bn])⟩,⟨9,.own 1 2 (strs [av,bn])⟩,pO TT] 7 I.T rfl
 have z25:([.val (af TT),.val (.int .i64 0)]:List Sx.SV)=[.val (af TT),.val (.int .i64 0)]:=rfl
 refine Sx.aT (args:=[.val (.agg (an cf s).toArray)]) (ct w) [(18,.gq [(0,0,0),(1,5,1)]),(144,.is (.bool false)),(148,.is (.bool false)),(153,.is (.bool true)),(155,.al (cD [] 1 2 none (B5 cf) E6)),(157,.cC 9 1),(160,.al (fH 4 1 (strs [bn]))),(162,.al (il [5] 1 2 6 none TT E6 (.tuple #[]))),(167,.al ⟨[1,6],[],[],[],.val (.int .i64 (TT.length:Int)),none⟩),(168,.is (.bool bl)),(169,.al (cD [] 1 6 none true E7)),(174,.is (.bool false)),(182,.al ⟨[1,6],[],[1,6],[],.val (af TT),none⟩)] (ia cf s) (by kernel_rfl) Tryz.func28 rfl (Nat.le_of_ble_eq_true rfl) rfl ?_
 exact Eq.mp (by kernel_rfl) (Sx.t2 h0 e1 (And.intro rd2 (fun(x3:Unit) (hx4:True)=>(Sx.t2 h5 e6 (And.intro rd7 (fun(x8:Unit) (hx9:True)=>(Sx.t2 h10 e11 (And.intro rd12 (fun(x13:Unit) (hx14:True)=>(Sx.t2 h15 e16 (And.intro rd17 (fun(x18:Unit) (hx19:True)=>(Sx.t2 h20 e21 (And.intro rd22 (fun(x23:Unit) (hx24:True)=>(Sx.t8 c144 c148 c153 c155 c160 c161 c162 c167 (Sx.t4 c168 c169 c174 c182 z25)))))))))))))))))
theorem C8(I:oz w cf s TT [av,ek,bb 0] false bl E6 E7)(hd:cf.aL=3)(hE:E7≠0):Calls Tryz.prog 28 #[.agg (an cf s).toArray] w (Sx.bc (pB w) (w8 ([],E7))):=by
 obtain⟨g1,g2,g3,g4,g5⟩:=I.g
 have rd2:=nz I.hl (an cf s) cf.ao s.p.A s.p.c I.r.p I.w.p I.f.p false [] 0 g1 ([],E7)
 have rd7:=ny I.hl (an cf s) cf.ah s.r.A s.r.c I.r.r I.w.r I.f.r (B1 cf) (T1 cf) (E1 cf) g2 ([],E7)
 have rd12:=nx I.hl (an cf s) cf.aj s.m.A s.m.c I.r.m I.w.m I.f.m (B2 cf) (T2 cf) (E2 cf) g3 ([],E7)
 have rd17:=nu I.hl (an cf s) cf.ab s.i.A s.i.c I.r.i I.w.i I.f.i (B3 cf) (T3 cf) (E3 cf) g4 ([],E7)
 have rd22:=nt I.hl (an cf s) cf.rules s.l.A s.l.c I.r.l I.w.l I.f.l (B4 cf) (T4 cf) (E4 cf) g5 ([],E7)
 have h0:=Nat.zero_le cf.ao.length;have h5:=Nat.zero_le cf.ah.length;have h10:=Nat.zero_le cf.aj.length;have h15:=Nat.zero_le cf.ab.length;have h20:=Nat.zero_le cf.rules.length
 have e1:=tV cf s;have e6:=tU cf s;have e11:=tS cf s;have e16:=tR cf s;have e21:=tQ cf s
 have c144:Value.bool (cf.aL==1)=.bool false:=dY (beq_eq_false_iff_ne.2 (by rw[hd];decide))
 have c148:Value.bool (cf.aL==2)=.bool false:=dY (beq_eq_false_iff_ne.2 (by rw[hd];decide))
 have c153:Value.bool (cf.aL==4)=.bool false:=dY (beq_eq_false_iff_ne.2 (by rw[hd];decide))
 have c155:=ga w cf s (B5 cf) 2 (T5 cf) [pO (T5 cf)] 3 I.e6 rfl
 have ha:aH cf.aL 0=[ek,bb 0]:=by rw[hd];rfl
 have hlan2:∀W,aw [] w W→dG W:=fun W hW=>I.hl.cy hW
 have c160:=fun W β (hS:Sx.cw (pB w) β W (Sx.rowAt (pL cf s (B5 cf) 2 E6 [pO (T5 cf),⟨9,.own 1 1 (strs [av])⟩])) [])=>bh (m:=4) ha (by simp) (by omega) (by omega) hlan2 W β hS
 have c161:=aU [ek,bb 0] 1 2 rfl (by decide)
 have c162:=nD w cf s (B5 cf) (e:=E6) (T5 cf) [pO (T5 cf),Sx.aa,⟨9,.ag (strs [ek,bb 0])⟩,⟨9,.own 1 3 (strs [av,ek,bb 0])⟩] 5 6 [av,ek,bb 0] I.T rfl (by omega) rfl (by simp) I.B
 have c167:=tY w cf s 6 E6 TT [Sx.aa,Sx.aa,⟨9,.ag (strs [ek,bb 0])⟩,⟨9,.own 1 3 (strs [av,ek,bb 0])⟩,pO TT] 7 rfl
 have c168:=I.c168
 have c169:=ga w cf s true 6 TT [Sx.aa,Sx.aa,⟨9,.ag (strs [ek,bb 0])⟩,⟨9,.own 1 3 (strs [av,ek,bb 0])⟩,pO TT] 7 I.e7 rfl
 have c174:Value.bool (E7 !=0)=.bool true:=dQ (by rw[bne_iff_ne];exact hE)
 have z25:([.val (af []),.val (.int .i64 E7)]:List Sx.SV)=[.val (af []),.val (.int .i64 E7)]:=rfl
 refine Sx.aT (args:=[.val (.agg (an cf s).toArray)]) (ct w) [(18,.gq [(0,0,0),(1,5,1)]),(144,.is (.bool false)),(148,.is (.bool false)),(153,.is (.bool false)),(155,.al (cD [] 1 2 none (B5 cf) E6)),(157,.cC 9 1),(160,.al (fH 4 2 (strs [ek,bb 0]))),(162,.al (il [5] 1 2 6 none TT E6 (.tuple #[]))),(167,.al ⟨[1,6],[],[],[],.val (.int .i64 (TT.length:Int)),none⟩),(168,.is (.bool bl)),(169,.al (cD [] 1 6 none true E7)),(174,.is (.bool true))] (ia cf s) (by kernel_rfl) Tryz.func28 rfl (Nat.le_of_ble_eq_true rfl) rfl ?_
 exact Eq.mp (by kernel_rfl) (Sx.t2 h0 e1 (And.intro rd2 (fun(x3:Unit) (hx4:True)=>(Sx.t2 h5 e6 (And.intro rd7 (fun(x8:Unit) (hx9:True)=>(Sx.t2 h10 e11 (And.intro rd12 (fun(x13:Unit) (hx14:True)=>(Sx.t2 h15 e16 (And.intro rd17 (fun(x18:Unit) (hx19:True)=>(Sx.t2 h20 e21 (And.intro rd22 (fun(x23:Unit) (hx24:True)=>(Sx.t8 c144 c148 c153 c155 c160 c161 c162 c167 (Sx.t2 c168 c169 (And.intro c174 z25))))))))))))))))))
theorem C7(I:oz w cf s TT [av,ek,bb 0] false bl E6 E7)(hd:cf.aL=3)(hE:E7=0):Calls Tryz.prog 28 #[.agg (an cf s).toArray] w (Sx.bc (pB w) (w8 (TT,0))):=by
 obtain⟨g1,g2,g3,g4,g5⟩:=I.g
 have rd2:=nz I.hl (an cf s) cf.ao s.p.A s.p.c I.r.p I.w.p I.f.p false [] 0 g1 (TT,0)
 have rd7:=ny I.hl (an cf s) cf.ah s.r.A s.r.c I.r.r I.w.r I.f.r (B1 cf) (T1 cf) (E1 cf) g2 (TT,0)
 have rd12:=nx I.hl (an cf s) cf.aj s.m.A s.m.c I.r.m I.w.m I.f.m (B2 cf) (T2 cf) (E2 cf) g3 (TT,0)
 have rd17:=nu I.hl (an cf s) cf.ab s.i.A s.i.c I.r.i I.w.i I.f.i (B3 cf) (T3 cf) (E3 cf) g4 (TT,0)
 have rd22:=nt I.hl (an cf s) cf.rules s.l.A s.l.c I.r.l I.w.l I.f.l (B4 cf) (T4 cf) (E4 cf) g5 (TT,0)
 have h0:=Nat.zero_le cf.ao.length;have h5:=Nat.zero_le cf.ah.length;have h10:=Nat.zero_le cf.aj.length;have h15:=Nat.zero_le cf.ab.length;have h20:=Nat.zero_le cf.rules.length
 have e1:=tV cf s;have e6:=tU cf s;have e11:=tS cf s;have e16:=tR cf s;have e21:=tQ cf s
 have c144:Value.bool (cf.aL==1)=.bool false:=dY (beq_eq_false_iff_ne.2 (by rw[hd];decide))
 have c148:Value.bool (cf.aL==2)=.bool false:=dY (beq_eq_false_iff_ne.2 (by rw[hd];decide))
 have c153:Value.bool (cf.aL==4)=.bool false:=dY (beq_eq_false_iff_ne.2 (by rw[hd];decide))
 have c155:=ga w cf s (B5 cf) 2 (T5 cf) [pO (T5 cf)] 3 I.e6 rfl
 have ha:aH cf.aL 0=[ek,bb 0]:=by rw[hd];rfl
 have hlan2:∀W,aw [] w W→dG W:=fun W hW=>I.hl.cy hW
 have c160:=fun W β (hS:Sx.cw (pB w) β W (Sx.rowAt (pL cf s (B5 cf) 2 E6 [pO (T5 cf),⟨9,.own 1 1 (strs [av])⟩])) [])=>bh (m:=4) ha (by simp) (by omega) (by omega) hlan2 W β hS
 have c161:=aU [ek,bb 0] 1 2 rfl (by decide)
 have c162:=nD w cf s (B5 cf) (e:=E6) (T5 cf) [pO (T5 cf),Sx.aa,⟨9,.ag (strs [ek,bb 0])⟩,⟨9,.own 1 3 (strs [av,ek,bb 0])⟩] 5 6 [av,ek,bb 0] I.T rfl (by omega) rfl (by simp) I.B
 have c167:=tY w cf s 6 E6 TT [Sx.aa,Sx.aa,⟨9,.ag (strs [ek,bb 0])⟩,⟨9,.own 1 3 (strs [av,ek,bb 0])⟩,pO TT] 7 rfl
 have c168:=I.c168
 have c169:=ga w cf s true 6 TT [Sx.aa,Sx.aa,⟨9,.ag (strs [ek,bb 0])⟩,⟨9,.own 1 3 (strs [av,ek,bb 0])⟩,pO TT] 7 I.e7 rfl
 have c174:Value.bool (E7 !=0)=.bool false:=dY (by rw[hE];rfl)
 have c182:=EL w cf s 6 E7 [Sx.aa,Sx.aa,⟨9,.ag (strs [ek,bb 0])⟩,⟨9,.own 1 3 (strs [av,ek,bb 0])⟩,pO TT] 7 I.T rfl
 have z25:([.val (af TT),.val (.int .i64 0)]:List Sx.SV)=[.val (af TT),.val (.int .i64 0)]:=rfl
 refine Sx.aT (args:=[.val (.agg (an cf s).toArray)]) (ct w) [(18,.gq [(0,0,0),(1,5,1)]),(144,.is (.bool false)),(148,.is (.bool false)),(153,.is (.bool false)),(155,.al (cD [] 1 2 none (B5 cf) E6)),(157,.cC 9 1),(160,.al (fH 4 2 (strs [ek,bb 0]))),(162,.al (il [5] 1 2 6 none TT E6 (.tuple #[]))),(167,.al ⟨[1,6],[],[],[],.val (.int .i64 (TT.length:Int)),none⟩),(168,.is (.bool bl)),(169,.al (cD [] 1 6 none true E7)),(174,.is (.bool false)),(182,.al ⟨[1,6],[],[1,6],[],.val (af TT),none⟩)] (ia cf s) (by kernel_rfl) Tryz.func28 rfl (Nat.le_of_ble_eq_true rfl) rfl ?_
 exact Eq.mp (by kernel_rfl) (Sx.t2 h0 e1 (And.intro rd2 (fun(x3:Unit) (hx4:True)=>(Sx.t2 h5 e6 (And.intro rd7 (fun(x8:Unit) (hx9:True)=>(Sx.t2 h10 e11 (And.intro rd12 (fun(x13:Unit) (hx14:True)=>(Sx.t2 h15 e16 (And.intro rd17 (fun(x18:Unit) (hx19:True)=>(Sx.t2 h20 e21 (And.intro rd22 (fun(x23:Unit) (hx24:True)=>(Sx.t8 c144 c148 c153 c155 c160 c161 c162 c167 (Sx.t4 c168 c169 c174 c182 z25)))))))))))))))))
theorem De(I:oz w cf s TT [av] false bl E6 E7)(hd:cf.aL≠1∧cf.aL≠2∧cf.aL≠3∧cf.aL≠4)(hE:E7≠0):Calls Tryz.prog 28 #[.agg (an cf s).toArray] w (Sx.bc (pB w) (w8 ([],E7))):=by
 obtain⟨g1,g2,g3,g4,g5⟩:=I.g
 have rd2:=nz I.hl (an cf s) cf.ao s.p.A s.p.c I.r.p I.w.p I.f.p false [] 0 g1 ([],E7)
 have rd7:=ny I.hl (an cf s) cf.ah s.r.A s.r.c I.r.r I.w.r I.f.r (B1 cf) (T1 cf) (E1 cf) g2 ([],E7)
 have rd12:=nx I.hl (an cf s) cf.aj s.m.A s.m.c I.r.m I.w.m I.f.m (B2 cf) (T2 cf) (E2 cf) g3 ([],E7)
 have rd17:=nu I.hl (an cf s) cf.ab s.i.A s.i.c I.r.i I.w.i I.f.i (B3 cf) (T3 cf) (E3 cf) g4 ([],E7)
 have rd22:=nt I.hl (an cf s) cf.rules s.l.A s.l.c I.r.l I.w.l I.f.l (B4 cf) (T4 cf) (E4 cf) g5 ([],E7)
 have h0:=Nat.zero_le cf.ao.length;have h5:=Nat.zero_le cf.ah.length;have h10:=Nat.zero_le cf.aj.length;have h15:=Nat.zero_le cf.ab.length;have h20:=Nat.zero_le cf.rules.length
 have e1:=tV cf s;have e6:=tU cf s;have e11:=tS cf s;have e16:=tR cf s;have e21:=tQ cf s
 have c144:Value.bool (cf.aL==1)=.bool false:=dY (beq_eq_false_iff_ne.2 (hd.1))
 have c148:Value.bool (cf.aL==2)=.bool false:=dY (beq_eq_false_iff_ne.2 (hd.2.1))
 have c153:Value.bool (cf.aL==4)=.bool false:=dY (beq_eq_false_iff_ne.2 (hd.2.2.2))
 have c155:=ga w cf s (B5 cf) 2 (T5 cf) [pO (T5 cf)] 3 I.e6 rfl
 have ha:aH cf.aL 0=[]:=by unfold aH;rw[if_neg hd.1,if_neg hd.2.1,if_neg hd.2.2.1,if_neg hd.2.2.2]
 have hlan2:∀W,aw [] w W→dG W:=fun W hW=>I.hl.cy hW
 have c160:=fun W hW=>kt (b:=pB w) ha (by omega) (by omega) hlan2 W hW
 have c161:=na (aw [] w) 1 (by decide)
 have c162:=nD w cf s (B5 cf) (e:=E6) (T5 cf) [pO (T5 cf),Sx.aa,⟨9,.own 1 1 (strs [av])⟩] 4 5 [av] I.T rfl (by omega) rfl (by simp) I.B
 have c167:=tY w cf s 5 E6 TT [Sx.aa,Sx.aa,⟨9,.own 1 1 (strs [av])⟩,pO TT] 6 rfl
 have c168:=I.c168
 have c169:=ga w cf s true 5 TT [Sx.aa,Sx.aa,⟨9,.own 1 1 (strs [av])⟩,pO TT] 6 I.e7 rfl
 have c174:Value.bool (E7 !=0)=.bool true:=dQ (by rw[bne_iff_ne];exact hE)
 have z25:([.val (af []),.val (.int .i64 E7)]:List Sx.SV)=[.val (af []),.val (.int .i64 E7)]:=rfl
 refine Sx.aT (args:=[.val (.agg (an cf s).toArray)]) (ct w) [(18,.gq [(0,0,0),(1,5,1)]),(144,.is (.bool false)),(148,.is (.bool false)),(153,.is (.bool false)),(155,.al (cD [] 1 2 none (B5 cf) E6)),(157,.cC 9 1),(160,.call (.slice none 0 0)),(161,.app 0 []),(162,.al (il [4] 1 2 5 none TT E6 (.tuple #[]))),(167,.al ⟨[1,5],[],[],[],.val (.int .i64 (TT.length:Int)),none⟩),(168,.is (.bool bl)),(169,.al (cD [] 1 5 none true E7)),(174,.is (.bool true))] (ia cf s) (by kernel_rfl) Tryz.func28 rfl (Nat.le_of_ble_eq_true rfl) rfl ?_
 exact Eq.mp (by kernel_rfl) (Sx.t2 h0 e1 (And.intro rd2 (fun(x3:Unit) (hx4:True)=>(Sx.t2 h5 e6 (And.intro rd7 (fun(x8:Unit) (hx9:True)=>(Sx.t2 h10 e11 (And.intro rd12 (fun(x13:Unit) (hx14:True)=>(Sx.t2 h15 e16 (And.intro rd17 (fun(x18:Unit) (hx19:True)=>(Sx.t2 h20 e21 (And.intro rd22 (fun(x23:Unit) (hx24:True)=>(Sx.t8 c144 c148 c153 c155 c160 c161 c162 c167 (Sx.t2 c168 c169 (And.intro c174 z25))))))))))))))))))
theorem Dd(I:oz w cf s TT [av] false bl E6 E7)(hd:cf.aL≠1∧cf.aL≠2∧cf.aL≠3∧cf.aL≠4)(hE:E7=0):Calls Tryz.prog 28 #[.agg (an cf s).toArray] w (Sx.bc (pB w) (w8 (TT,0))):=by
 obtain⟨g1,g2,g3,g4,g5⟩:=I.g
 have rd2:=nz I.hl (an cf s) cf.ao s.p.A s.p.c I.r.p I.w.p I.f.p false [] 0 g1 (TT,0)
 have rd7:=ny I.hl (an cf s) cf.ah s.r.A s.r.c I.r.r I.w.r I.f.r (B1 cf) (T1 cf) (E1 cf) g2 (TT,0)
 have rd12:=nx I.hl (an cf s) cf.aj s.m.A s.m.c I.r.m I.w.m I.f.m (B2 cf) (T2 cf) (E2 cf) g3 (TT,0)
 have rd17:=nu I.hl (an cf s) cf.ab s.i.A s.i.c I.r.i I.w.i I.f.i (B3 cf) (T3 cf) (E3 cf) g4 (TT,0)
 have rd22:=nt I.hl (an cf s) cf.rules s.l.A s.l.c I.r.l I.w.l I.f.l (B4 cf) (T4 cf) (E4 cf) g5 (TT,0)
 have h0:=Nat.zero_le cf.ao.length;have h5:=Nat.zero_le cf.ah.length;have h10:=Nat.zero_le cf.aj.length;have h15:=Nat.zero_le cf.ab.length;have h20:=Nat.zero_le cf.rules.length
 have e1:=tV cf s;have e6:=tU cf s;have e11:=tS cf s;have e16:=tR cf s;have e21:=tQ cf s
 have c144:Value.bool (cf.aL==1)=.bool false:=dY (beq_eq_false_iff_ne.2 (hd.1))
 have c148:Value.bool (cf.aL==2)=.bool false:=dY (beq_eq_false_iff_ne.2 (hd.2.1))
 have c153:Value.bool (cf.aL==4)=.bool false:=dY (beq_eq_false_iff_ne.2 (hd.2.2.2))
 have c155:=ga w cf s (B5 cf) 2 (T5 cf) [pO (T5 cf)] 3 I.e6 rfl
 have ha:aH cf.aL 0=[]:=by unfold aH;rw[if_neg hd.1,if_neg hd.2.1,if_neg hd.2.2.1,if_neg hd.2.2.2]
 have hlan2:∀W,aw [] w W→dG W:=fun W hW=>I.hl.cy hW
 have c160:=fun W hW=>kt (b:=pB w) ha (by omega) (by omega) hlan2 W hW
 have c161:=na (aw [] w) 1 (by decide)
 have c162:=nD w cf s (B5 cf) (e:=E6) (T5 cf) [pO (T5 cf),Sx.aa,⟨9,.own 1 1 (strs [av])⟩] 4 5 [av] I.T rfl (by omega) rfl (by simp) I.B
 have c167:=tY w cf s 5 E6 TT [Sx.aa,Sx.aa,⟨9,.own 1 1 (strs [av])⟩,pO TT] 6 rfl
 have c168:=I.c168
 have c169:=ga w cf s true 5 TT [Sx.aa,Sx.aa,⟨9,.own 1 1 (strs [av])⟩,pO TT] 6 I.e7 rfl
 have c174:Value.bool (E7 !=0)=.bool false:=dY (by rw[hE];rfl)
 have c182:=EL w cf s 5 E7 [Sx.aa,Sx.aa,⟨9,.own 1 1 (strs [av])⟩,pO TT] 6 I.T rfl
 have z25:([.val (af TT),.val (.int .i64 0)]:List Sx.SV)=[.val (af TT),.val (.int .i64 0)]:=rfl
 refine Sx.aT (args:=[.val (.agg (an cf s).toArray)]) (ct w) [(18,.gq [(0,0,0),(1,5,1)]),(144,.is (.bool false)),(148,.is (.bool false)),(153,.is (.bool false)),(155,.al (cD [] 1 2 none (B5 cf) E6)),(157,.cC 9 1),(160,.call (.slice none 0 0)),(161,.app 0 []),(162,.al (il [4] 1 2 5 none TT E6 (.tuple #[]))),(167,.al ⟨[1,5],[],[],[],.val (.int .i64 (TT.length:Int)),none⟩),(168,.is (.bool bl)),(169,.al (cD [] 1 5 none true E7)),(174,.is (.bool false)),(182,.al ⟨[1,5],[],[1,5],[],.val (af TT),none⟩)] (ia cf s) (by kernel_rfl) Tryz.func28 rfl (Nat.le_of_ble_eq_true rfl) rfl ?_
 exact Eq.mp (by kernel_rfl) (Sx.t2 h0 e1 (And.intro rd2 (fun(x3:Unit) (hx4:True)=>(Sx.t2 h5 e6 (And.intro rd7 (fun(x8:Unit) (hx9:True)=>(Sx.t2 h10 e11 (And.intro rd12 (fun(x13:Unit) (hx14:True)=>(Sx.t2 h15 e16 (And.intro rd17 (fun(x18:Unit) (hx19:True)=>(Sx.t2 h20 e21 (And.intro rd22 (fun(x23:Unit) (hx24:True)=>(Sx.t8 c144 c148 c153 c155 c160 c161 c162 c167 (Sx.t4 c168 c169 c174 c182 z25)))))))))))))))))
end
theorem eo.sub{w:World}{S S':List Nat}{cf:CF}{s:fI}(h:eo w S cf s)(hs:∀k∈S',k∈S∨w.heap.size≤k):eo w S' cf s:=⟨h.p.sub hs,h.r.sub hs,h.l.sub hs,h.m.sub hs,h.i.sub hs⟩
def Od(w:World)(cf:CF)(s:fI)(TT:Bs)(b:Bool):Prop:=(aG (decide (TT.length≤65536)) 4 (aG b 2 (E5 cf))=0→Calls Tryz.prog 28 #[.agg (an cf s).toArray] w (Sx.bc ⟨w,[],fun _ _=>False⟩ (w8 (TT,0))))∧
 (¬aG (decide (TT.length≤65536)) 4 (aG b 2 (E5 cf))=0→Calls Tryz.prog 28 #[.agg (an cf s).toArray] w (Sx.bc ⟨w,[],fun _ _=>False⟩ (w8 ([],aG (decide (TT.length≤65536)) 4 (aG b 2 (E5 cf))))))
theorem BH{w:World}(hlan:dG w)(cf:CF)(s:fI)(h:eo w [] cf s)(hw:eU cf)(hf:e8 cf)(hB:(fm cf).length≤140737488355328):Calls Tryz.prog 28 #[.agg (an cf s).toArray] w fun e w'=>e=.returned (.tuple #[af (dU cf).1,.int .i64 (dU cf).2])∧aw [] w w':=by
 have hT:=NB cf
 have hE:=NG cf
 have main:Calls Tryz.prog 28 #[.agg (an cf s).toArray] w (Sx.bc ⟨w,[],fun _ _=>False⟩ (w8 (dU cf))):=by
  unfold dU uf
  rw[←hT]at hB ⊢
  rw[←hE]
  unfold Co
  unfold gU at hB ⊢
  have go:∀(ws:List Bs) (b:Bool),aH cf.aL 0=ws→(decide (cf.aL=1)||(decide (cf.aL=2)||decide (cf.aL=4)))=b→((T5 cf++bR (av::ws)).length≤140737488355328→Od w cf s (T5 cf++bR (av::ws)) b)→
    Calls Tryz.prog 28 #[.agg (an cf s).toArray] w (Sx.bc ⟨w,[],fun _ _=>False⟩ (w8 (if aG (decide ((T5 cf++bR (av::aH cf.aL 0)).length≤65536)) 4 (aG (decide (cf.aL=1)||(decide (cf.aL=2)||decide (cf.aL=4))) 2 (E5 cf))=0 then(T5 cf++bR (av::aH cf.aL 0),0)else([],aG (decide ((T5 cf++bR (av::aH cf.aL 0)).length≤65536)) 4 (aG (decide (cf.aL=1)||(decide (cf.aL=2)||decide (cf.aL=4))) 2 (E5 cf)))))):=by
   intro ws b h1 h2 h3
   rw[h1]at hB ⊢
   rw[h2]
   split
   ·rename_i h0;exact(h3 hB).1 h0
   ·rename_i h0;exact(h3 hB).2 h0
  have mk:∀{F:List Bs} {b:Bool},(T5 cf++bR F).length≤140737488355328→oz w cf s (T5 cf++bR F) F b (decide ((T5 cf++bR F).length≤65536)) (aG b 2 (E5 cf)) (aG (decide ((T5 cf++bR F).length≤65536)) 4 (aG b 2 (E5 cf))):=fun hb=>⟨hlan,h,hw,hf,rfl,hb,rfl,rfl,rfl⟩
  by_cases d1:cf.aL=1
  ·exact go [aJ] true (by rw[d1];rfl) (by rw[d1];rfl) fun hb=>⟨fun h0=>Db (mk hb) d1 h0,fun h0=>Dc (mk hb) d1 h0⟩
  by_cases d2:cf.aL=2
  ·exact go [cW] true (by rw[d2];rfl) (by rw[d2];rfl) fun hb=>⟨fun h0=>C9 (mk hb) d2 h0,fun h0=>Da (mk hb) d2 h0⟩
  by_cases d4:cf.aL=4
  ·exact go [bn] true (by rw[d4];rfl) (by rw[d4];rfl) fun hb=>⟨fun h0=>CZ (mk hb) d4 h0,fun h0=>C0 (mk hb) d4 h0⟩
  by_cases d3:cf.aL=3
  ·exact go [ek,bb 0] false (by rw[d3];rfl) (by rw[d3];rfl) fun hb=>⟨fun h0=>C7 (mk hb) d3 h0,fun h0=>C8 (mk hb) d3 h0⟩
  ·exact go [] false (by unfold aH;rw[if_neg d1,if_neg d2,if_neg d3,if_neg d4]) (by rw[decide_eq_false d1,decide_eq_false d2,decide_eq_false d4];rfl) fun hb=>⟨fun h0=>Dd (mk hb) ⟨d1,d2,d3,d4⟩ h0,fun h0=>De (mk hb) ⟨d1,d2,d3,d4⟩ h0⟩
 refine main.mono fun en w' hp=>?_
 rcases hp with⟨β,l,mem,hl,he,hR⟩ | ⟨_,_,hf,_⟩
 ·have hl:l=[.val (af (dU cf).1),.val (.int .i64 (dU cf).2)]:=hl
  subst hl
  exact⟨he,hR.aP⟩
 ·exact hf.elim
end Go.Proofs.YtnncigmpcdehnaaGreatDoor
