import Derived.Test.YtnncigmpcdehnaaGreatDoorQb35
import Derived.Test.YtnncigmpcdehnaaGreatDoorQb34
namespace Go.Proofs.YtnncigmpcdehnaaGreatDoor
open Go Go.RowKit Go.Lib Go.Sort
def kP:List Kd:=.b::(vL 16 [.i .u8]++[.i .i64])
def kM:List Kd:=[.i .u8,.i .u16,.i .u16]++(kP++(kP++[.i .u8,.i .u16,.i .u16,.i .u16,.i .u16]))
def kR:List Kd:=kP++[.i .i64]
def kL:List Kd:=.s::(kM++[.i .i64,.i .i64,.s,.s])
def Oj:List Kd:=[.s,.i .u64,.i .u64,.i .u64]
def Oi:List Kd:=[.s,.i .i64,.i .i64]
theorem JS:iK Tryz.prog 6 118=some kR:=by kernel_rfl
theorem LZ:iK Tryz.prog 6 81=some kL:=by kernel_rfl
theorem JR:iK Tryz.prog 6 122=some Oj:=by kernel_rfl
theorem JQ:iK Tryz.prog 6 124=some Oi:=by kernel_rfl
theorem FO{x:Nat}(h:x≤255):KE (.i .u8) (.int .u8 (x:Int)):=⟨rfl,by simp[Lit.wf,IntKind.min,IntKind.max,IntKind.signed,IntKind.bits];omega⟩
theorem pW{x:Nat}(h:x≤65535):KE (.i .u16) (.int .u16 (x:Int)):=⟨rfl,by simp[Lit.wf,IntKind.min,IntKind.max,IntKind.signed,IntKind.bits];omega⟩
theorem Ad{x:Nat}(h:x≤18446744073709551615):KE (.i .u64) (.int .u64 (x:Int)):=⟨rfl,by simp[Lit.wf,IntKind.min,IntKind.max,IntKind.signed,IntKind.bits];omega⟩
theorem pX{x:Int}(h : -9223372036854775808≤x∧x≤9223372036854775807):KE (.i .i64) (.int .i64 x):=⟨rfl,by simp[Lit.wf,IntKind.min,IntKind.max,IntKind.signed,IntKind.bits]; omega⟩
theorem FP{s:Bs}(h:s.length≤maxLen):KE .s (.string ⟨s.toArray⟩):=by show(ByteArray.mk s.toArray).size≤maxLen;simpa[ByteArray.size]using h
theorem xQ(f:Nat→Nat)(hf:∀j,f j≤255):∀l:List Nat,cL (vL l.length [.i .u8]) (l.map fun j=>.int .u8 (f j:Int))
 | []=>trivial
 |j::l=>⟨FO (hf j),xQ f hf l⟩
theorem pY{p:Px}(hk : -9223372036854775808≤p.k∧p.k≤9223372036854775807):cL kP p.cells:=by
 show cL (.b::(vL 16 [.i .u8]++[.i .i64])) (.bool p.v::((List.range 16).map (fun j=>Value.int .u8 (ay p.n j:Int))++[.int .i64 p.k]))
 refine⟨trivial,cL.app ?_ ⟨pX hk,trivial⟩⟩
 have:=xQ (ay p.n) (fun j=>by have:=bU p.n j;omega) (List.range 16)
 simpa using this
theorem Dj{m:Mt}(h:m.Wf):cL kM m.cells:=by
 unfold kM Mt.cells
 refine cL.app ⟨FO (by have:=h.asks;omega),pW h.gf.1,pW h.gf.2,trivial⟩ (cL.app (pY h.sk) (cL.app (pY h.dk) ⟨FO h.pr,pW h.sp.1,pW h.sp.2,pW h.dp.1,pW h.dp.2,trivial⟩))
def nG(x:Int):Prop := -9223372036854775808≤x∧x≤9223372036854775807
structure Rt.Wf(r:Rt):Prop where
 n:r.pf.n < 2^128
 k:nG r.pf.k
 o:nG r.out
structure Me.Wf(m:Me):Prop where
 s:m.name.length≤maxLen
 a:m.num≤18446744073709551615
 b:m.den≤18446744073709551615
 c:m.nF≤18446744073709551615
structure Mi.Wf(m:Mi):Prop where
 s:m.name.length≤maxLen
 o:nG m.out
 r:nG m.room
structure Rl.Wf(r:Rl):Prop where
 s:r.name.length≤maxLen
 m:r.mt.Wf
 a:nG r.act
 o:nG r.out
 e:r.aq.length≤maxLen
 i:r.ai.length≤maxLen
theorem uN{r:Rt}(h:r.Wf):cL kR r.cells:=cL.app (pY h.k) ⟨pX h.o,trivial⟩
theorem so{m:Me}(h:m.Wf):cL Oj m.cells:=⟨FP h.s,Ad h.a,Ad h.b,Ad h.c,trivial⟩
theorem sj{m:Mi}(h:m.Wf):cL Oi m.cells:=⟨FP h.s,pX h.o,pX h.r,trivial⟩
theorem uO{r:Rl}(h:r.Wf):cL kL r.cells:=⟨FP h.s,cL.app (Dj h.m) ⟨pX h.a,pX h.o,FP h.e,FP h.i,trivial⟩⟩
theorem Px.aW(p:Px):p.cells.length=18:=by simp[Px.cells,eM,eS,aK]
theorem int_inj{q:IntKind}{a b:Nat}(h:Value.int q (a:Int)=.int q (b:Int)):a=b:=by injection h with _ h;omega
theorem str_inj{a b:Bs}(h:Value.string ⟨a.toArray⟩=.string ⟨b.toArray⟩):a=b:=by
 injection h with h
 injection h with h
 simpa using h
theorem Px.dt{p q:Px}(hp:p.n < 2^128)(hq:q.n < 2^128)(h:p.cells=q.cells):p=q:=by
 have h:Value.bool p.v::((List.range 16).map (fun j=>Value.int .u8 (ay p.n j:Int))++[.int .i64 p.k])=.bool q.v::((List.range 16).map (fun j=>Value.int .u8 (ay q.n j:Int))++[.int .i64 q.k]):=h
 injection h with h1 h2
 injection h1 with h1
 obtain⟨h2,h3⟩:=List.append_inj h2 (by simp)
 injection h3 with h3 _
 injection h3 with _ h3
 have hb:p.n=q.n:=lj hp hq fun i hi=>by
  rw[List.map_inj_left]at h2
  exact int_inj (h2 i (by simpa using hi))
 cases p;cases q
 simp_all
theorem Jk{a b:Mt}(h0:a.asks=b.asks)(h1:a.gf=b.gf)(h2:a.src=b.src)(h3:a.dst=b.dst)(h4:a.bV=b.bV)(h5:a.sp=b.sp)(h6:a.dp=b.dp):a=b:=by
 cases a;cases b;simp_all
theorem Mt.dt{a b:Mt}(ha:a.Wf)(hb:b.Wf)(h:a.cells=b.cells):a=b:=by
 unfold Mt.cells at h
 obtain⟨h1,h2⟩:=List.append_inj h (by simp)
 obtain⟨h3,h4⟩:=List.append_inj h2 (by rw[Px.aW,Px.aW])
 obtain⟨h5,h6⟩:=List.append_inj h4 (by rw[Px.aW,Px.aW])
 injection h1 with e0 h1
 injection h1 with e1 h1
 injection h1 with e2 _
 injection h6 with e3 h6
 injection h6 with e4 h6
 injection h6 with e5 h6
 injection h6 with e6 h6
 injection h6 with e7 _
 exact Jk (int_inj e0) (Prod.ext (int_inj e1) (int_inj e2)) (Px.dt ha.sn hb.sn h3) (Px.dt ha.dn hb.dn h5) (int_inj e3) (Prod.ext (int_inj e4) (int_inj e5)) (Prod.ext (int_inj e6) (int_inj e7))
theorem Rt.dt{a b:Rt}(ha:a.Wf)(hb:b.Wf)(h:a.cells=b.cells):a=b:=by
 obtain⟨h1,h2⟩:=List.append_inj h (by rw[Px.aW,Px.aW])
 injection h2 with h2 _
 injection h2 with _ h2
 have:=Px.dt ha.n hb.n h1
 cases a;cases b
 simp_all
theorem Me.dt{a b:Me}(h:a.cells=b.cells):a=b:=by
 injection h with h1 h
 injection h with h2 h
 injection h with h3 h
 injection h with h4 _
 have e1:=str_inj h1
 have e2:=int_inj h2
 have e3:=int_inj h3
 have e4:=int_inj h4
 cases a;cases b
 simp_all
theorem Mi.dt{a b:Mi}(h:a.cells=b.cells):a=b:=by
 injection h with h1 h
 injection h with h2 h
 injection h with h3 _
 have e1:=str_inj h1
 injection h2 with _ h2
 injection h3 with _ h3
 cases a;cases b
 simp_all
theorem Mt.aW(m:Mt):m.cells.length=44:=by
 unfold Mt.cells
 simp only[List.length_append,List.length_cons,List.length_nil,Px.aW]
theorem Rl.dt{a b:Rl}(ha:a.Wf)(hb:b.Wf)(h:a.cells=b.cells):a=b:=by
 injection h with h1 h
 obtain⟨h2,h⟩:=List.append_inj h (by rw[Mt.aW,Mt.aW])
 injection h with h3 h
 injection h with h4 h
 injection h with h5 h
 injection h with h6 _
 have e1:=str_inj h1
 have e2:=Mt.dt ha.m hb.m h2
 injection h3 with _ h3
 injection h4 with _ h4
 have e5:=str_inj h5
 have e6:=str_inj h6
 cases a;cases b
 simp_all
open Classical in
noncomputable def cn{α:Type}(a b:α):Bool:=decide (a=b)
theorem bD{α:Type}(a b:α):cn a b=true↔a=b:=by unfold cn;simp
theorem Fb(x y:Operand){a b:Rt}(ha:a.Wf)(hb:b.Wf)(W:World):(do eqGuard .neq 118 x y (.agg a.cells.toArray) (.agg b.cells.toArray);binOp .neq 118 (.agg a.cells.toArray) (.agg b.cells.toArray):Sem Value).run Tryz.prog W=.ok (.bool (!cn a b)) W:=
 (wK x y (by kernel_rfl) JS (by kernel_rfl) (by kernel_rfl) (uN ha) (uN hb) ((bD a b).trans ⟨fun h=>by rw[h],Rt.dt ha hb⟩) W).2
theorem F3(x y:Operand){a b:Me}(ha:a.Wf)(hb:b.Wf)(W:World):(do eqGuard .neq 122 x y (.agg a.cells.toArray) (.agg b.cells.toArray);binOp .neq 122 (.agg a.cells.toArray) (.agg b.cells.toArray):Sem Value).run Tryz.prog W=.ok (.bool (!cn a b)) W:=
 (wK x y (by kernel_rfl) JR (by kernel_rfl) (by kernel_rfl) (so ha) (so hb) ((bD a b).trans ⟨fun h=>by rw[h],Me.dt⟩) W).2
theorem F1(x y:Operand){a b:Mi}(ha:a.Wf)(hb:b.Wf)(W:World):(do eqGuard .neq 124 x y (.agg a.cells.toArray) (.agg b.cells.toArray);binOp .neq 124 (.agg a.cells.toArray) (.agg b.cells.toArray):Sem Value).run Tryz.prog W=.ok (.bool (!cn a b)) W:=
 (wK x y (by kernel_rfl) JQ (by kernel_rfl) (by kernel_rfl) (sj ha) (sj hb) ((bD a b).trans ⟨fun h=>by rw[h],Mi.dt⟩) W).2
theorem Ff(x y:Operand){a b:Rl}(ha:a.Wf)(hb:b.Wf)(W:World):(do eqGuard .neq 81 x y (.agg a.cells.toArray) (.agg b.cells.toArray);binOp .neq 81 (.agg a.cells.toArray) (.agg b.cells.toArray):Sem Value).run Tryz.prog W=.ok (.bool (!cn a b)) W:=
 (wK x y (by kernel_rfl) LZ (by kernel_rfl) (by kernel_rfl) (uO ha) (uO hb) ((bD a b).trans ⟨fun h=>by rw[h],Rl.dt ha hb⟩) W).2
set_option maxRecDepth 100000
open Go Go.RowKit Go.Lib Go.Sort
def Eo(ws:List Bs)(l:List Sx.SV)(mem:List Sx.Row):Prop:=(ws=[]∧l=[.val (.slice none 0 0)])∨∃k,ws≠[]∧l=[.mF k 0 ws.length ws.length]∧mem[k]?=some ⟨9,.ag (strs ws)⟩
def jV(ws:List Bs)(w:World)(e:Ending)(w':World):Prop:=aw [] w w'∧((ws=[]∧e=.returned (.slice none 0 0))∨(ws≠[]∧∃b,w.heap.size≤b∧e=.returned (.slice (some ⟨b,0,none⟩) ws.length ws.length)∧aB w' b 9 (strs ws)))
theorem jV.iD{ws:List Bs}{w:World}{en:Ending}{w':World}(h:Sx.bc ⟨w,[],fun _ _=>False⟩ (Eo ws) en w'):jV ws w en w':=by
 rcases h with⟨β,l,mem,⟨h0,rfl⟩ | ⟨k,h0,rfl,hk⟩,he,hR⟩ | ⟨_,_,hf,_⟩
 ·exact⟨hR.aP,.inl ⟨h0,he⟩⟩
 ·have r:=hR.held k _ hk
  have hn:=hR.new k _ (β k) hk rfl
  refine⟨hR.aP,.inr ⟨h0,β k,?_,he,r⟩⟩
  rcases hn with h|h
  ·cases h
  ·exact h
 ·exact hf.elim
theorem ct(w:World):Sx.Rows ⟨w,[],fun _ _=>False⟩ (Sx.cZ []) w []:=Sx.gk (w:=w) (S:=[]) (PP:=fun _ _=>False) (G:=[]) (fun q hq=>by cases hq) (fun q hq=>by cases hq) (by simp)
theorem zv(act out:Int)(h0 : -9223372036854775808≤out)(h1:out≤9223372036854775807)(w:World)(hl:dG w):Calls Tryz.prog 75 #[.int .i64 act,.int .i64 out] w (jV (aH act out) w):=by
 by_cases a1:act=1
 ·have c7:Value.bool (act==1)=.bool true:=dQ (by rw[a1];rfl)
  rw[show aH act out=[aJ] by unfold aH;rw[if_pos a1]]
  have z0:Eo [aJ] [.mF 0 0 1 1] [⟨9,.ag [af aJ]⟩]:=.inr ⟨0,by simp,rfl,rfl⟩
  refine(Sx.aT (args:=[.val (.int .i64 act),.val (.int .i64 out)]) (ct w) [(7,.is (.bool true))] [] (by kernel_rfl) Tryz.func75 rfl (Nat.le_of_ble_eq_true rfl) rfl ?_).mono fun en w' hp=>jV.iD hp
  exact Eq.mp (by kernel_rfl) (And.intro c7 z0)
 have c7:Value.bool (act==1)=.bool false:=dY (beq_eq_false_iff_ne.2 a1)
 by_cases a2:act=2
 ·have c10:Value.bool (act==2)=.bool true:=dQ (by rw[a2];rfl)
  rw[show aH act out=[cW] by unfold aH;rw[if_neg a1,if_pos a2]]
  have z0:Eo [cW] [.mF 0 0 1 1] [⟨9,.ag [af cW]⟩]:=.inr ⟨0,by simp,rfl,rfl⟩
  refine(Sx.aT (args:=[.val (.int .i64 act),.val (.int .i64 out)]) (ct w) [(7,.is (.bool false)),(10,.is (.bool true))] [] (by kernel_rfl) Tryz.func75 rfl (Nat.le_of_ble_eq_true rfl) rfl ?_).mono fun en w' hp=>jV.iD hp
  exact Eq.mp (by kernel_rfl) (Sx.t2 c7 c10 z0)
 have c10:Value.bool (act==2)=.bool false:=dY (beq_eq_false_iff_ne.2 a2)
 by_cases a3:act=3
 ·have c13:Value.bool (act==3)=.bool true:=dQ (by rw[a3];rfl)
  rw[show aH act out=[ek,bb out] by unfold aH;rw[if_neg a1,if_neg a2,if_pos a3]]
  have c15:=fun W (hW:aw [] w W)=>j2 out h0 h1 W (hl.cy hW)
  have z0:Eo [ek,bb out] [.mF 0 0 2 2] [⟨9,.ag [af ek,af (bb out)]⟩]:=.inr ⟨0,by simp,rfl,rfl⟩
  refine(Sx.aT (args:=[.val (.int .i64 act),.val (.int .i64 out)]) (ct w) [(7,.is (.bool false)),(10,.is (.bool false)),(13,.is (.bool true)),(15,.call (af (bb out)))] [] (by kernel_rfl) Tryz.func75 rfl (Nat.le_of_ble_eq_true rfl) rfl ?_).mono fun en w' hp=>jV.iD hp
  exact Eq.mp (by kernel_rfl) (Sx.t4 c7 c10 c13 c15 z0)
 have c13:Value.bool (act==3)=.bool false:=dY (beq_eq_false_iff_ne.2 a3)
 by_cases a4:act=4
 ·have c18:Value.bool (act==4)=.bool true:=dQ (by rw[a4];rfl)
  rw[show aH act out=[bn] by unfold aH;rw[if_neg a1,if_neg a2,if_neg a3,if_pos a4]]
  have z0:Eo [bn] [.mF 0 0 1 1] [⟨9,.ag [af bn]⟩]:=.inr ⟨0,by simp,rfl,rfl⟩
  refine(Sx.aT (args:=[.val (.int .i64 act),.val (.int .i64 out)]) (ct w) [(7,.is (.bool false)),(10,.is (.bool false)),(13,.is (.bool false)),(18,.is (.bool true))] [] (by kernel_rfl) Tryz.func75 rfl (Nat.le_of_ble_eq_true rfl) rfl ?_).mono fun en w' hp=>jV.iD hp
  exact Eq.mp (by kernel_rfl) (Sx.t4 c7 c10 c13 c18 z0)
 have c18:Value.bool (act==4)=.bool false:=dY (beq_eq_false_iff_ne.2 a4)
 rw[show aH act out=[] by unfold aH;rw[if_neg a1,if_neg a2,if_neg a3,if_neg a4]]
 have z0:Eo [] [.val (.slice none 0 0)] []:=.inl ⟨rfl,rfl⟩
 refine(Sx.aT (args:=[.val (.int .i64 act),.val (.int .i64 out)]) (ct w) [(7,.is (.bool false)),(10,.is (.bool false)),(13,.is (.bool false)),(18,.is (.bool false))] [] (by kernel_rfl) Tryz.func75 rfl (Nat.le_of_ble_eq_true rfl) rfl ?_).mono fun en w' hp=>jV.iD hp
 exact Eq.mp (by kernel_rfl) (Sx.t4 c7 c10 c13 c18 z0)
theorem aU(ws:List Bs)(n m:Nat)(hm:ws.length=m)(hn:n+m≤1000):True∧(strs ws).length=m*1∧(∀u∈strs ws,u.oneCell'=true)∧n+m≤maxLen∧(n+m)*16≤140737488355328:=by
 refine⟨trivial,by rw[oH,hm,Nat.mul_one],fun u hu=>?_,by unfold maxLen;omega,by omega⟩
 obtain⟨l,_,rfl⟩:=List.mem_map.1 hu
 rfl
theorem kt{b:Sx.bw}{act out:Int}(ha:aH act out=[])(h0 : -9223372036854775808≤out)(h1:out≤9223372036854775807)(hl:∀W,aw b.S b.w W→dG W)(W:World)(hW:aw b.S b.w W):Calls Tryz.prog 75 #[.int .i64 act,.int .i64 out] W fun e w'=>e=.returned (.slice none 0 0)∧aw [] W w' :=
 (zv act out h0 h1 W (hl W hW)).mono fun en w' ⟨hc,h⟩=>by
  rcases h with⟨_,he⟩ | ⟨hne,_⟩
  ·exact⟨he,hc⟩
  ·exact absurd ha hne
def fH(m n:Nat)(cs:List Value):Sx.cH:=⟨[],[],[],[⟨9,.ag cs⟩],.mF m 0 n n,none⟩
theorem bh{b:Sx.bw}{row:Nat→Option Sx.Row}{m:Nat}{act out:Int}{ws:List Bs}(ha:aH act out=ws)(hne:ws≠[])(h0 : -9223372036854775808≤out)(h1:out≤9223372036854775807)(hl:∀W,aw b.S b.w W→dG W)(W:World)(β:Sx.Env)(hS:Sx.cw b β W row []) :
  Calls Tryz.prog 75 (([.val (.int .i64 act),.val (.int .i64 out)]:List Sx.SV).map (Sx.SV.den β)).toArray W (Sx.a7 b β W row m (fH m ws.length (strs ws))):=by
 refine(zv act out h0 h1 W (hl W hS.aP)).mono fun en w' ⟨hc,h⟩=>?_
 rw[ha]at h
 rcases h with⟨he,_⟩ | ⟨_,k,hk,he,hb⟩
 ·exact absurd he hne
 ·refine .inl ⟨fun p hp=>(by cases hp),β.gb m k,fun i hi=>⟨?_,rfl,rfl,rfl⟩,?_,fun q hq=>(by cases hq),fun i r hr=>?_,fun i r x hr hx=>?_,fun i i' r r' x hr hr' _ _=>?_,hc⟩
  ·show β i=if i=m then k else β i
   rw[if_neg (by omega)]
  ·rw[he]
   show Ending.returned (.slice (some ⟨k,0,none⟩) ws.length ws.length)=.returned (.slice (some ⟨if m=m then k else β m,0,none⟩) ws.length ws.length)
   rw[if_pos rfl]
  ·match i,hr with
   | 0,hr=>
    cases hr
    show aB w' (if m+0=m then k else β (m+0)) 9 (strs ws)
    rw[Nat.add_zero,if_pos rfl]
    exact hb
  ·match i,hr with
   | 0,hr=>
    cases hr
    have hx:some (if m+0=m then k else β (m+0))=some x:=hx
    rw[Nat.add_zero,if_pos rfl]at hx
    cases hx
    exact .inr hk
  ·match i,i',hr,hr' with
   | 0,0,_,_=>rfl
theorem Jd{w:World}{b T n:Nat}{cs:List Value}(h:aB w b T cs)(hn:cs.length=n)(hm:n≤maxLen):Own w T 1 (.slice (some ⟨b,0,none⟩) n n) n cs:=
 ⟨by rw[hn,Nat.mul_one],.inr ⟨b,0,n,cs,rfl,h,Nat.le_refl _,hm,by omega,by rw[List.drop_zero,List.take_of_length_le (by omega)]⟩⟩
theorem uT{b:Sx.bw}{row:Nat→Option Sx.Row}{i j k m:Nat}{og:Option Nat}{p:Bool}{tx:Bs}{e:Int}(ws:List Bs)(h:mu row i j og p tx e)(hi:i < m)(hj:j < m)(rk:row k=some ⟨9,.own 1 ws.length (strs ws)⟩)(hn:ws.length≤1000000)(hl:tx.length+(bR ws).length≤140737488355328)
  (W:World) (β:Sx.Env) (hS:Sx.cw b β W row [i,j,k]) :
  Calls Tryz.prog 70 (([.ptr i 0,.own k]:List Sx.SV).map (Sx.SV.den β)).toArray W (Sx.a7 b β W row m (il [k] i j m og (tx++bR ws) e (.tuple #[]))):=by
 obtain⟨ht,hg⟩:=nM hS h (by simp) (by simp)
 have h2:β.n k=ws.length∧Own W 9 1 (.slice (β.a k) ws.length (β.c k)) ws.length (strs ws):=hS.held k (by simp) _ rk
 show Calls Tryz.prog 70 #[.pointer (some ⟨β i,0,none⟩),.slice (β.a k) (β.n k) (β.c k)] W _
 rw[h2.1]
 exact(B7 ws ht h2.2 (by omega) hl).mono fun en w' hp=>q7 h hi hj hg hp
theorem l9{b:Sx.bw}{row:Nat→Option Sx.Row}{i j k m:Nat}{og:Option Nat}{p:Bool}{tx:Bs}{e:Int}(ws:List Bs)(h:mu row i j og p tx e)(hi:i < m)(hj:j < m)(rk:row k=some ⟨9,.ag (strs ws)⟩)(hn:ws.length≤1000000)(hl:tx.length+(bR ws).length≤140737488355328)
  (W:World) (β:Sx.Env) (hS:Sx.cw b β W row [i,j,k]) :
  Calls Tryz.prog 70 (([.ptr i 0,.mF k 0 ws.length ws.length]:List Sx.SV).map (Sx.SV.den β)).toArray W (Sx.a7 b β W row m (il [k] i j m og (tx++bR ws) e (.tuple #[]))):=by
 obtain⟨ht,hg⟩:=nM hS h (by simp) (by simp)
 have h2:aB W (β k) 9 (strs ws):=hS.held k (by simp) _ rk
 exact(B7 ws ht (Jd h2 (oH ws) (by unfold maxLen;omega)) (by omega) hl).mono fun en w' hp=>q7 h hi hj hg hp
theorem Ko{a o:Int}(h:aH a o=[]):gD a o=false:=by
 unfold aH at h
 unfold gD
 by_cases a1:a=1
 ·rw[if_pos a1]at h;cases h
 by_cases a2:a=2
 ·rw[if_neg a1,if_pos a2]at h;cases h
 by_cases a3:a=3
 ·rw[if_neg a1,if_neg a2,if_pos a3]at h;cases h
 by_cases a4:a=4
 ·rw[if_neg a1,if_neg a2,if_neg a3,if_pos a4]at h;cases h
 have:(decide (1≤a)&&decide (a≤4))=false:=by
  rw[Bool.and_eq_false_iff,decide_eq_false_iff_not,decide_eq_false_iff_not];omega
 rw[this];rfl
theorem tF{a o:Int}{x:Bs}{l:List Bs}(h:aH a o=x::l):(decide (1≤a)&&decide (a≤4))=true:=by
 unfold aH at h
 rw[Bool.and_eq_true,decide_eq_true_iff,decide_eq_true_iff]
 by_cases a1:a=1
 ·omega
 by_cases a2:a=2
 ·omega
 by_cases a3:a=3
 ·omega
 by_cases a4:a=4
 ·omega
 rw[if_neg a1,if_neg a2,if_neg a3,if_neg a4]at h
 cases h
end Go.Proofs.YtnncigmpcdehnaaGreatDoor
