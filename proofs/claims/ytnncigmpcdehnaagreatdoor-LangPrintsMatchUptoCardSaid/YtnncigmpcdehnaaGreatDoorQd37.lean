import Derived.Test.YtnncigmpcdehnaaGreatDoorQd36
namespace Go.Proofs.YtnncigmpcdehnaaGreatDoor
open Go Go.RowKit Go.Lib Go.Sort
def kP:List Kd:=.b::(vO 16 [.i .u8]++[.i .i64])
def kM:List Kd:=[.i .u8,.i .u16,.i .u16]++(kP++(kP++[.i .u8,.i .u16,.i .u16,.i .u16,.i .u16]))
def kR:List Kd:=kP++[.i .i64]
def kL:List Kd:=.s::(kM++[.i .i64,.i .i64,.s,.s])
def PQ:List Kd:=[.s,.i .u64,.i .u64,.i .u64]
def PO:List Kd:=[.s,.i .i64,.i .i64]
theorem KG:iJ Tryz.prog 6 118=some kR:=by kernel_rfl
theorem MP:iJ Tryz.prog 6 81=some kL:=by kernel_rfl
theorem KF:iJ Tryz.prog 6 122=some PQ:=by kernel_rfl
theorem KE:iJ Tryz.prog 6 124=some PO:=by kernel_rfl
theorem Gn{x:Nat}(h:x≤255):LC (.i .u8) (.int .u8 (x:Int)):=⟨rfl,by simp[Lit.wf,IntKind.min,IntKind.max,IntKind.signed,IntKind.bits];omega⟩
theorem qa{x:Nat}(h:x≤65535):LC (.i .u16) (.int .u16 (x:Int)):=⟨rfl,by simp[Lit.wf,IntKind.min,IntKind.max,IntKind.signed,IntKind.bits];omega⟩
theorem AN{x:Nat}(h:x≤18446744073709551615):LC (.i .u64) (.int .u64 (x:Int)):=⟨rfl,by simp[Lit.wf,IntKind.min,IntKind.max,IntKind.signed,IntKind.bits];omega⟩
theorem qb{x:Int}(h : -9223372036854775808≤x∧x≤9223372036854775807):LC (.i .i64) (.int .i64 x):=⟨rfl,by simp[Lit.wf,IntKind.min,IntKind.max,IntKind.signed,IntKind.bits]; omega⟩
theorem Gp{s:Bs}(h:s.length≤maxLen):LC .s (.string ⟨s.toArray⟩):=by show(ByteArray.mk s.toArray).size≤maxLen;simpa[ByteArray.size]using h
theorem yi(f:Nat→Nat)(hf:∀j,f j≤255):∀l:List Nat,cC (vO l.length [.i .u8]) (l.map fun j=>.int .u8 (f j:Int))
 | []=>trivial
 |j::l=>⟨Gn (hf j),yi f hf l⟩
theorem qc{p:Px}(hk : -9223372036854775808≤p.k∧p.k≤9223372036854775807):cC kP p.cells:=by
 show cC (.b::(vO 16 [.i .u8]++[.i .i64])) (.bool p.v::((List.range 16).map (fun j=>Value.int .u8 (ah p.n j:Int))++[.int .i64 p.k]))
 refine⟨trivial,cC.app ?_ ⟨qb hk,trivial⟩⟩
 have:=yi (ah p.n) (fun j=>by have:=aZ p.n j;omega) (List.range 16)
 simpa using this
theorem DR{m:Mt}(h:m.Wf):cC kM m.cells:=by
 unfold kM Mt.cells
 refine cC.app ⟨Gn (by have:=h.asks;omega),qa h.eQ.1,qa h.eQ.2,trivial⟩ (cC.app (qc h.sk) (cC.app (qc h.dk) ⟨Gn h.pr,qa h.sp.1,qa h.sp.2,qa h.dp.1,qa h.dp.2,trivial⟩))
def qT(x:Int):Prop := -9223372036854775808≤x∧x≤9223372036854775807
structure Rt.Wf(r:Rt):Prop where
 n:r.pf.n < 2^128
 k:qT r.pf.k
 o:qT r.out
structure Me.Wf(m:Me):Prop where
 s:m.name.length≤maxLen
 a:m.num≤18446744073709551615
 b:m.den≤18446744073709551615
 c:m.pH≤18446744073709551615
structure Mi.Wf(m:Mi):Prop where
 s:m.name.length≤maxLen
 o:qT m.out
 r:qT m.room
structure Rl.Wf(r:Rl):Prop where
 s:r.name.length≤maxLen
 m:r.mt.Wf
 a:qT r.act
 o:qT r.out
 e:r.dm.length≤maxLen
 i:r.cj.length≤maxLen
theorem uJ{r:Rt}(h:r.Wf):cC kR r.cells:=cC.app (qc h.k) ⟨qb h.o,trivial⟩
theorem sC{m:Me}(h:m.Wf):cC PQ m.cells:=⟨Gp h.s,AN h.a,AN h.b,AN h.c,trivial⟩
theorem sA{m:Mi}(h:m.Wf):cC PO m.cells:=⟨Gp h.s,qb h.o,qb h.r,trivial⟩
theorem uK{r:Rl}(h:r.Wf):cC kL r.cells:=⟨Gp h.s,cC.app (DR h.m) ⟨qb h.a,qb h.o,Gp h.e,Gp h.i,trivial⟩⟩
theorem Px.aL(p:Px):p.cells.length=18:=by simp[Px.cells,cV,cx,az]
theorem int_inj{q:IntKind}{a b:Nat}(h:Value.int q (a:Int)=.int q (b:Int)):a=b:=by injection h with _ h;omega
theorem str_inj{a b:Bs}(h:Value.string ⟨a.toArray⟩=.string ⟨b.toArray⟩):a=b:=by
 injection h with h
 injection h with h
 simpa using h
theorem Px.cY{p q:Px}(hp:p.n < 2^128)(hq:q.n < 2^128)(h:p.cells=q.cells):p=q:=by
 have h:Value.bool p.v::((List.range 16).map (fun j=>Value.int .u8 (ah p.n j:Int))++[.int .i64 p.k])=.bool q.v::((List.range 16).map (fun j=>Value.int .u8 (ah q.n j:Int))++[.int .i64 q.k]):=h
 injection h with h1 h2
 injection h1 with h1
 obtain⟨h2,h3⟩:=List.append_inj h2 (by simp)
 injection h3 with h3 _
 injection h3 with _ h3
 have hb:p.n=q.n:=jq hp hq fun i hi=>by
  rw[List.map_inj_left]at h2
  exact int_inj (h2 i (by simpa using hi))
 cases p;cases q
 simp_all
theorem J7{a b:Mt}(h0:a.asks=b.asks)(h1:a.eQ=b.eQ)(h2:a.src=b.src)(h3:a.dst=b.dst)(h4:a.aV=b.aV)(h5:a.sp=b.sp)(h6:a.dp=b.dp):a=b:=by
 cases a;cases b;simp_all
theorem Mt.cY{a b:Mt}(ha:a.Wf)(hb:b.Wf)(h:a.cells=b.cells):a=b:=by
 unfold Mt.cells at h
 obtain⟨h1,h2⟩:=List.append_inj h (by simp)
 obtain⟨h3,h4⟩:=List.append_inj h2 (by rw[Px.aL,Px.aL])
 obtain⟨h5,h6⟩:=List.append_inj h4 (by rw[Px.aL,Px.aL])
 injection h1 with e0 h1
 injection h1 with e1 h1
 injection h1 with e2 _
 injection h6 with e3 h6
 injection h6 with e4 h6
 injection h6 with e5 h6
 injection h6 with e6 h6
 injection h6 with e7 _
 exact J7 (int_inj e0) (Prod.ext (int_inj e1) (int_inj e2)) (Px.cY ha.sn hb.sn h3) (Px.cY ha.dn hb.dn h5) (int_inj e3) (Prod.ext (int_inj e4) (int_inj e5)) (Prod.ext (int_inj e6) (int_inj e7))
theorem Rt.cY{a b:Rt}(ha:a.Wf)(hb:b.Wf)(h:a.cells=b.cells):a=b:=by
 obtain⟨h1,h2⟩:=List.append_inj h (by rw[Px.aL,Px.aL])
 injection h2 with h2 _
 injection h2 with _ h2
 have:=Px.cY ha.n hb.n h1
 cases a;cases b
 simp_all
theorem Me.cY{a b:Me}(h:a.cells=b.cells):a=b:=by
 injection h with h1 h
 injection h with h2 h
 injection h with h3 h
 injection h with h4 _
 have e1:=str_inj h1
 have e2:=int_inj h2
 have e3:=int_inj h3
 have e4:=int_inj h4
 cases a;cases b
 simp_all
theorem Mi.cY{a b:Mi}(h:a.cells=b.cells):a=b:=by
 injection h with h1 h
 injection h with h2 h
 injection h with h3 _
 have e1:=str_inj h1
 injection h2 with _ h2
 injection h3 with _ h3
 cases a;cases b
 simp_all
theorem Mt.aL(m:Mt):m.cells.length=44:=by
 unfold Mt.cells
 simp only[List.length_append,List.length_cons,List.length_nil,Px.aL]
theorem Rl.cY{a b:Rl}(ha:a.Wf)(hb:b.Wf)(h:a.cells=b.cells):a=b:=by
 injection h with h1 h
 obtain⟨h2,h⟩:=List.append_inj h (by rw[Mt.aL,Mt.aL])
 injection h with h3 h
 injection h with h4 h
 injection h with h5 h
 injection h with h6 _
 have e1:=str_inj h1
 have e2:=Mt.cY ha.m hb.m h2
 injection h3 with _ h3
 injection h4 with _ h4
 have e5:=str_inj h5
 have e6:=str_inj h6
 cases a;cases b
 simp_all
open Classical in
noncomputable def cg{α:Type}(a b:α):Bool:=decide (a=b)
theorem bH{α:Type}(a b:α):cg a b=true↔a=b:=by unfold cg;simp
theorem FJ(x y:Operand){a b:Rt}(ha:a.Wf)(hb:b.Wf)(W:World):(do eqGuard .neq 118 x y (.agg a.cells.toArray) (.agg b.cells.toArray);binOp .neq 118 (.agg a.cells.toArray) (.agg b.cells.toArray):Sem Value).run Tryz.prog W=.ok (.bool (!cg a b)) W:=
 (wS x y (by kernel_rfl) KG (by kernel_rfl) (by kernel_rfl) (uJ ha) (uJ hb) ((bH a b).trans ⟨fun h=>by rw[h],Rt.cY ha hb⟩) W).2
theorem GB(x y:Operand){a b:Me}(ha:a.Wf)(hb:b.Wf)(W:World):(do eqGuard .neq 122 x y (.agg a.cells.toArray) (.agg b.cells.toArray);binOp .neq 122 (.agg a.cells.toArray) (.agg b.cells.toArray):Sem Value).run Tryz.prog W=.ok (.bool (!cg a b)) W:=
 (wS x y (by kernel_rfl) KF (by kernel_rfl) (by kernel_rfl) (sC ha) (sC hb) ((bH a b).trans ⟨fun h=>by rw[h],Me.cY⟩) W).2
theorem Gz(x y:Operand){a b:Mi}(ha:a.Wf)(hb:b.Wf)(W:World):(do eqGuard .neq 124 x y (.agg a.cells.toArray) (.agg b.cells.toArray);binOp .neq 124 (.agg a.cells.toArray) (.agg b.cells.toArray):Sem Value).run Tryz.prog W=.ok (.bool (!cg a b)) W:=
 (wS x y (by kernel_rfl) KE (by kernel_rfl) (by kernel_rfl) (sA ha) (sA hb) ((bH a b).trans ⟨fun h=>by rw[h],Mi.cY⟩) W).2
theorem FQ(x y:Operand){a b:Rl}(ha:a.Wf)(hb:b.Wf)(W:World):(do eqGuard .neq 81 x y (.agg a.cells.toArray) (.agg b.cells.toArray);binOp .neq 81 (.agg a.cells.toArray) (.agg b.cells.toArray):Sem Value).run Tryz.prog W=.ok (.bool (!cg a b)) W:=
 (wS x y (by kernel_rfl) MP (by kernel_rfl) (by kernel_rfl) (uK ha) (uK hb) ((bH a b).trans ⟨fun h=>by rw[h],Rl.cY ha hb⟩) W).2
set_option maxRecDepth 100000
open Go Go.RowKit Go.Lib Go.Sort
def EU(ws:List Bs)(l:List Sx.SV)(mem:List Sx.Row):Prop:=(ws=[]∧l=[.val (.slice none 0 0)])∨∃k,ws≠[]∧l=[.mP k 0 ws.length ws.length]∧mem[k]?=some ⟨9,.aj (strs ws)⟩
def jR(ws:List Bs)(w:World)(e:Ending)(w':World):Prop:=ag [] w w'∧((ws=[]∧e=.returned (.slice none 0 0))∨(ws≠[]∧∃b,w.heap.size≤b∧e=.returned (.slice (some ⟨b,0,none⟩) ws.length ws.length)∧aq w' b 9 (strs ws)))
theorem jR.iC{ws:List Bs}{w:World}{en:Ending}{w':World}(h:Sx.cd ⟨w,[],fun _ _=>False⟩ (EU ws) en w'):jR ws w en w':=by
 rcases h with⟨β,l,mem,⟨h0,rfl⟩ | ⟨k,h0,rfl,hk⟩,he,hR⟩ | ⟨_,_,hf,_⟩
 ·exact⟨hR.aF,.inl ⟨h0,he⟩⟩
 ·have r:=hR.held k _ hk
  have hn:=hR.new k _ (β k) hk rfl
  refine⟨hR.aF,.inr ⟨h0,β k,?_,he,r⟩⟩
  rcases hn with h|h
  ·cases h
  ·exact h
 ·exact hf.elim
theorem ec(w:World):Sx.Rows ⟨w,[],fun _ _=>False⟩ (Sx.cL []) w []:=Sx.gb (w:=w) (S:=[]) (PP:=fun _ _=>False) (G:=[]) (fun q hq=>by cases hq) (fun q hq=>by cases hq) (by simp)
theorem zW(act out:Int)(h0 : -9223372036854775808≤out)(h1:out≤9223372036854775807)(w:World)(hl:dJ w):Calls Tryz.prog 75 #[.int .i64 act,.int .i64 out] w (jR (aW act out) w):=by
 by_cases a1:act=1
 ·have c7:Value.bool (act==1)=.bool true:=gv (by rw[a1];rfl)
  rw[show aW act out=[dx] by unfold aW;rw[if_pos a1]]
  have z0:EU [dx] [.mP 0 0 1 1] [⟨9,.aj [ab dx]⟩]:=.inr ⟨0,by simp,rfl,rfl⟩
  refine(Sx.aY (args:=[.val (.int .i64 act),.val (.int .i64 out)]) (ec w) [(7,.is (.bool true))] [] (by kernel_rfl) Tryz.func75 rfl (Nat.le_of_ble_eq_true rfl) rfl ?_).mono fun en w' hp=>jR.iC hp
  exact Eq.mp (by kernel_rfl) (And.intro c7 z0)
 have c7:Value.bool (act==1)=.bool false:=gZ (beq_eq_false_iff_ne.2 a1)
 by_cases a2:act=2
 ·have c10:Value.bool (act==2)=.bool true:=gv (by rw[a2];rfl)
  rw[show aW act out=[lA] by unfold aW;rw[if_neg a1,if_pos a2]]
  have z0:EU [lA] [.mP 0 0 1 1] [⟨9,.aj [ab lA]⟩]:=.inr ⟨0,by simp,rfl,rfl⟩
  refine(Sx.aY (args:=[.val (.int .i64 act),.val (.int .i64 out)]) (ec w) [(7,.is (.bool false)),(10,.is (.bool true))] [] (by kernel_rfl) Tryz.func75 rfl (Nat.le_of_ble_eq_true rfl) rfl ?_).mono fun en w' hp=>jR.iC hp
  exact Eq.mp (by kernel_rfl) (Sx.t2 c7 c10 z0)
 have c10:Value.bool (act==2)=.bool false:=gZ (beq_eq_false_iff_ne.2 a2)
 by_cases a3:act=3
 ·have c13:Value.bool (act==3)=.bool true:=gv (by rw[a3];rfl)
  rw[show aW act out=[oq,cE out] by unfold aW;rw[if_neg a1,if_neg a2,if_pos a3]]
  have c15:=fun W (hW:ag [] w W)=>jY out h0 h1 W (hl.cS hW)
  have z0:EU [oq,cE out] [.mP 0 0 2 2] [⟨9,.aj [ab oq,ab (cE out)]⟩]:=.inr ⟨0,by simp,rfl,rfl⟩
  refine(Sx.aY (args:=[.val (.int .i64 act),.val (.int .i64 out)]) (ec w) [(7,.is (.bool false)),(10,.is (.bool false)),(13,.is (.bool true)),(15,.call (ab (cE out)))] [] (by kernel_rfl) Tryz.func75 rfl (Nat.le_of_ble_eq_true rfl) rfl ?_).mono fun en w' hp=>jR.iC hp
  exact Eq.mp (by kernel_rfl) (Sx.t4 c7 c10 c13 c15 z0)
 have c13:Value.bool (act==3)=.bool false:=gZ (beq_eq_false_iff_ne.2 a3)
 by_cases a4:act=4
 ·have c18:Value.bool (act==4)=.bool true:=gv (by rw[a4];rfl)
  rw[show aW act out=[gj] by unfold aW;rw[if_neg a1,if_neg a2,if_neg a3,if_pos a4]]
  have z0:EU [gj] [.mP 0 0 1 1] [⟨9,.aj [ab gj]⟩]:=.inr ⟨0,by simp,rfl,rfl⟩
  refine(Sx.aY (args:=[.val (.int .i64 act),.val (.int .i64 out)]) (ec w) [(7,.is (.bool false)),(10,.is (.bool false)),(13,.is (.bool false)),(18,.is (.bool true))] [] (by kernel_rfl) Tryz.func75 rfl (Nat.le_of_ble_eq_true rfl) rfl ?_).mono fun en w' hp=>jR.iC hp
  exact Eq.mp (by kernel_rfl) (Sx.t4 c7 c10 c13 c18 z0)
 have c18:Value.bool (act==4)=.bool false:=gZ (beq_eq_false_iff_ne.2 a4)
 rw[show aW act out=[] by unfold aW;rw[if_neg a1,if_neg a2,if_neg a3,if_neg a4]]
 have z0:EU [] [.val (.slice none 0 0)] []:=.inl ⟨rfl,rfl⟩
 refine(Sx.aY (args:=[.val (.int .i64 act),.val (.int .i64 out)]) (ec w) [(7,.is (.bool false)),(10,.is (.bool false)),(13,.is (.bool false)),(18,.is (.bool false))] [] (by kernel_rfl) Tryz.func75 rfl (Nat.le_of_ble_eq_true rfl) rfl ?_).mono fun en w' hp=>jR.iC hp
 exact Eq.mp (by kernel_rfl) (Sx.t4 c7 c10 c13 c18 z0)
theorem xm(ws:List Bs)(n m:Nat)(hm:ws.length=m)(hn:n+m≤1000):True∧(strs ws).length=m*1∧(∀u∈strs ws,u.oneCell'=true)∧n+m≤maxLen∧(n+m)*16≤140737488355328:=by
 refine⟨trivial,by rw[oL,hm,Nat.mul_one],fun u hu=>?_,by unfold maxLen;omega,by omega⟩
 obtain⟨l,_,rfl⟩:=List.mem_map.1 hu
 rfl
theorem zY{b:Sx.bb}{act out:Int}(ha:aW act out=[])(h0 : -9223372036854775808≤out)(h1:out≤9223372036854775807)(hl:∀W,ag b.S b.w W→dJ W)(W:World)(hW:ag b.S b.w W):Calls Tryz.prog 75 #[.int .i64 act,.int .i64 out] W fun e w'=>e=.returned (.slice none 0 0)∧ag [] W w' :=
 (zW act out h0 h1 W (hl W hW)).mono fun en w' ⟨hc,h⟩=>by
  rcases h with⟨_,he⟩ | ⟨hne,_⟩
  ·exact⟨he,hc⟩
  ·exact absurd ha hne
def IF(m n:Nat)(cs:List Value):Sx.cB:=⟨[],[],[],[⟨9,.aj cs⟩],.mP m 0 n n,none⟩
theorem zX{b:Sx.bb}{row:Nat→Option Sx.Row}{m:Nat}{act out:Int}{ws:List Bs}(ha:aW act out=ws)(hne:ws≠[])(h0 : -9223372036854775808≤out)(h1:out≤9223372036854775807)(hl:∀W,ag b.S b.w W→dJ W)(W:World)(β:Sx.Env)(hS:Sx.dP b β W row []) :
  Calls Tryz.prog 75 (([.val (.int .i64 act),.val (.int .i64 out)]:List Sx.SV).map (Sx.SV.den β)).toArray W (Sx.aP b β W row m (IF m ws.length (strs ws))):=by
 refine(zW act out h0 h1 W (hl W hS.aF)).mono fun en w' ⟨hc,h⟩=>?_
 rw[ha]at h
 rcases h with⟨he,_⟩ | ⟨_,k,hk,he,hb⟩
 ·exact absurd he hne
 ·refine .inl ⟨fun p hp=>(by cases hp),β.fV m k,fun i hi=>⟨?_,rfl,rfl,rfl⟩,?_,fun q hq=>(by cases hq),fun i r hr=>?_,fun i r x hr hx=>?_,fun i i' r r' x hr hr' _ _=>?_,hc⟩
  ·show β i=if i=m then k else β i
   rw[if_neg (by omega)]
  ·rw[he]
   show Ending.returned (.slice (some ⟨k,0,none⟩) ws.length ws.length)=.returned (.slice (some ⟨if m=m then k else β m,0,none⟩) ws.length ws.length)
   rw[if_pos rfl]
  ·match i,hr with
   | 0,hr=>
    cases hr
    show aq w' (if m+0=m then k else β (m+0)) 9 (strs ws)
    rw[Nat.add_zero,if_pos rfl]
    exact hb
  ·match i,hr with
   | 0,hr=>
    cases hr
    have hx:some (if m+0=m then k else β (m+0))=some x:=hx
    rw[Nat.add_zero,if_pos rfl]at hx
    cases hx
    exact .inr hk
  ·match i,i',hr,hr' with
   | 0,0,_,_=>rfl
theorem JZ{w:World}{b T n:Nat}{cs:List Value}(h:aq w b T cs)(hn:cs.length=n)(hm:n≤maxLen):Own w T 1 (.slice (some ⟨b,0,none⟩) n n) n cs:=
 ⟨by rw[hn,Nat.mul_one],.inr ⟨b,0,n,cs,rfl,h,Nat.le_refl _,hm,by omega,by rw[List.drop_zero,List.take_of_length_le (by omega)]⟩⟩
theorem uR{b:Sx.bb}{row:Nat→Option Sx.Row}{i j k m:Nat}{og:Option Nat}{p:Bool}{tx:Bs}{e:Int}(ws:List Bs)(h:mF row i j og p tx e)(hi:i < m)(hj:j < m)(rk:row k=some ⟨9,.own 1 ws.length (strs ws)⟩)(hn:ws.length≤1000000)(hl:tx.length+(iD ws).length≤140737488355328)
  (W:World) (β:Sx.Env) (hS:Sx.dP b β W row [i,j,k]) :
  Calls Tryz.prog 70 (([.ptr i 0,.own k]:List Sx.SV).map (Sx.SV.den β)).toArray W (Sx.aP b β W row m (xx [k] i j m og (tx++iD ws) e (.tuple #[]))):=by
 obtain⟨ht,hg⟩:=nS hS h (by simp) (by simp)
 have h2:β.n k=ws.length∧Own W 9 1 (.slice (β.a k) ws.length (β.c k)) ws.length (strs ws):=hS.held k (by simp) _ rk
 show Calls Tryz.prog 70 #[.pointer (some ⟨β i,0,none⟩),.slice (β.a k) (β.n k) (β.c k)] W _
 rw[h2.1]
 exact(CE ws ht h2.2 (by omega) hl).mono fun en w' hp=>ri h hi hj hg hp
theorem mg{b:Sx.bb}{row:Nat→Option Sx.Row}{i j k m:Nat}{og:Option Nat}{p:Bool}{tx:Bs}{e:Int}(ws:List Bs)(h:mF row i j og p tx e)(hi:i < m)(hj:j < m)(rk:row k=some ⟨9,.aj (strs ws)⟩)(hn:ws.length≤1000000)(hl:tx.length+(iD ws).length≤140737488355328)
  (W:World) (β:Sx.Env) (hS:Sx.dP b β W row [i,j,k]) :
  Calls Tryz.prog 70 (([.ptr i 0,.mP k 0 ws.length ws.length]:List Sx.SV).map (Sx.SV.den β)).toArray W (Sx.aP b β W row m (xx [k] i j m og (tx++iD ws) e (.tuple #[]))):=by
 obtain⟨ht,hg⟩:=nS hS h (by simp) (by simp)
 have h2:aq W (β k) 9 (strs ws):=hS.held k (by simp) _ rk
 exact(CE ws ht (JZ h2 (oL ws) (by unfold maxLen;omega)) (by omega) hl).mono fun en w' hp=>ri h hi hj hg hp
theorem Lf{a o:Int}(h:aW a o=[]):mD a o=false:=by
 unfold aW at h
 unfold mD
 by_cases a1:a=1
 ·rw[if_pos a1]at h;cases h
 by_cases a2:a=2
 ·rw[if_neg a1,if_pos a2]at h;cases h
 by_cases a3:a=3
 ·rw[if_neg a1,if_neg a2,if_pos a3]at h;cases h
 by_cases a4:a=4
 ·rw[if_neg a1,if_neg a2,if_neg a3,if_pos a4]at h;cases h
 have:(decide (1≤a)&&decide (a≤4))=false:=by
  rw[Bool.and_eq_false_iff,decide_eq_false_iff_not,decide_eq_false_iff_not];omega
 rw[this];rfl
theorem ID{a o:Int}{x:Bs}{l:List Bs}(h:aW a o=x::l):(decide (1≤a)&&decide (a≤4))=true:=by
 unfold aW at h
 rw[Bool.and_eq_true,decide_eq_true_iff,decide_eq_true_iff]
 by_cases a1:a=1
 ·omega
 by_cases a2:a=2
 ·omega
 by_cases a3:a=3
 ·omega
 by_cases a4:a=4
 ·omega
 rw[if_neg a1,if_neg a2,if_neg a3,if_neg a4]at h
 cases h
end Go.Proofs.YtnncigmpcdehnaaGreatDoor
