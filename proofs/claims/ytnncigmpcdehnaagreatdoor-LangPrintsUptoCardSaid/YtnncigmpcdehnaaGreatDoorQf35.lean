import Derived.Test.YtnncigmpcdehnaaGreatDoorQf34
namespace Go.Proofs.YtnncigmpcdehnaaGreatDoor
open Go Go.RowKit Go.Lib Go.Sort _root_.Go.Proofs.Tryz
def kP:List Kd:=.b::(yk 16 [.i .u8]++[.i .i64])
def kM:List Kd:=[.i .u8,.i .u16,.i .u16]++(kP++(kP++[.i .u8,.i .u16,.i .u16,.i .u16,.i .u16]))
def kR:List Kd:=kP++[.i .i64]
def kL:List Kd:=.s::(kM++[.i .i64,.i .i64,.s,.s])
def TI:List Kd:=[.s,.i .u64,.i .u64,.i .u64]
def TH:List Kd:=[.s,.i .i64,.i .i64]
theorem NX:jm prog 6 118=some kR:=by kernel_rfl
theorem Qn:jm prog 6 81=some kL:=by kernel_rfl
theorem NW:jm prog 6 122=some TI:=by kernel_rfl
theorem NV:jm prog 6 124=some TH:=by kernel_rfl
theorem Jk{x:Nat}(h:x≤255):OV (.i .u8) (.int .u8 (x:Int)):=⟨rfl,by simp[Lit.wf,IntKind.min,IntKind.max,IntKind.signed,IntKind.bits];omega⟩
theorem rn{x:Nat}(h:x≤65535):OV (.i .u16) (.int .u16 (x:Int)):=⟨rfl,by simp[Lit.wf,IntKind.min,IntKind.max,IntKind.signed,IntKind.bits];omega⟩
theorem CV{x:Nat}(h:x≤18446744073709551615):OV (.i .u64) (.int .u64 (x:Int)):=⟨rfl,by simp[Lit.wf,IntKind.min,IntKind.max,IntKind.signed,IntKind.bits];omega⟩
theorem rp{x:Int}(h : -9223372036854775808≤x∧x≤9223372036854775807):OV (.i .i64) (.int .i64 x):=⟨rfl,by simp[Lit.wf,IntKind.min,IntKind.max,IntKind.signed,IntKind.bits]; omega⟩
theorem Jl{s:Bs}(h:s.length≤maxLen):OV .s (.string ⟨s.toArray⟩):=by show(ByteArray.mk s.toArray).size≤maxLen;simpa[ByteArray.size]using h
theorem Ao(f:Nat→Nat)(hf:∀j,f j≤255):∀l:List Nat,cL (yk l.length [.i .u8]) (l.map fun j=>.int .u8 (f j:Int))
 | []=>trivial
 |j::l=>⟨Jk (hf j),Ao f hf l⟩
theorem rq{p:Px}(hk : -9223372036854775808≤p.k∧p.k≤9223372036854775807):cL kP p.cells:=by
 show cL (.b::(yk 16 [.i .u8]++[.i .i64])) (.bool p.v::((List.range 16).map (fun j=>Value.int .u8 (ah p.n j:Int))++[.int .i64 p.k]))
 refine⟨trivial,cL.app ?_ ⟨rp hk,trivial⟩⟩
 have:=Ao (ah p.n) (fun j=>by have:=a7 p.n j;omega) (List.range 16)
 simpa using this
theorem Gl{m:Mt}(h:m.Wf):cL kM m.cells:=by
 unfold kM Mt.cells
 refine cL.app ⟨Jk (by have:=h.asks;omega),rn h.ff.1,rn h.ff.2,trivial⟩ (cL.app (rq h.sk) (cL.app (rq h.dk) ⟨Jk h.pr,rn h.sp.1,rn h.sp.2,rn h.dp.1,rn h.dp.2,trivial⟩))
def mD(x:Int):Prop := -9223372036854775808≤x∧x≤9223372036854775807
structure Rt.Wf(r:Rt):Prop where
 n:r.pf.n < 2^128
 k:mD r.pf.k
 o:mD r.out
structure Me.Wf(m:Me):Prop where
 s:m.name.length≤maxLen
 a:m.num≤18446744073709551615
 b:m.den≤18446744073709551615
 c:m.iu≤18446744073709551615
structure Mi.Wf(m:Mi):Prop where
 s:m.name.length≤maxLen
 o:mD m.out
 r:mD m.room
structure Rl.Wf(r:Rl):Prop where
 s:r.name.length≤maxLen
 m:r.mt.Wf
 a:mD r.act
 o:mD r.out
 e:r.bC.length≤maxLen
 i:r.aP.length≤maxLen
theorem w8{r:Rt}(h:r.Wf):cL kR r.cells:=cL.app (rq h.k) ⟨rp h.o,trivial⟩
theorem uB{m:Me}(h:m.Wf):cL TI m.cells:=⟨Jl h.s,CV h.a,CV h.b,CV h.c,trivial⟩
theorem uA{m:Mi}(h:m.Wf):cL TH m.cells:=⟨Jl h.s,rp h.o,rp h.r,trivial⟩
theorem w9{r:Rl}(h:r.Wf):cL kL r.cells:=⟨Jl h.s,cL.app (Gl h.m) ⟨rp h.a,rp h.o,Jl h.e,Jl h.i,trivial⟩⟩
theorem Px.az(p:Px):p.cells.length=18:=by simp[Px.cells,dm,cH,aE]
theorem int_inj{q:IntKind}{a b:Nat}(h:Value.int q (a:Int)=.int q (b:Int)):a=b:=by injection h with _ h;omega
theorem str_inj{a b:Bs}(h:Value.string ⟨a.toArray⟩=.string ⟨b.toArray⟩):a=b:=by
 injection h with h
 injection h with h
 simpa using h
theorem Px.dw{p q:Px}(hp:p.n < 2^128)(hq:q.n < 2^128)(h:p.cells=q.cells):p=q:=by
 have h:Value.bool p.v::((List.range 16).map (fun j=>Value.int .u8 (ah p.n j:Int))++[.int .i64 p.k])=.bool q.v::((List.range 16).map (fun j=>Value.int .u8 (ah q.n j:Int))++[.int .i64 q.k]):=h
 injection h with h1 h2
 injection h1 with h1
 obtain⟨h2,h3⟩:=List.append_inj h2 (by simp)
 injection h3 with h3 _
 injection h3 with _ h3
 have hb:p.n=q.n:=jZ hp hq fun i hi=>by
  rw[List.map_inj_left]at h2
  exact int_inj (h2 i (by simpa using hi))
 cases p;cases q
 simp_all
theorem Nn{a b:Mt}(h0:a.asks=b.asks)(h1:a.ff=b.ff)(h2:a.src=b.src)(h3:a.dst=b.dst)(h4:a.bb=b.bb)(h5:a.sp=b.sp)(h6:a.dp=b.dp):a=b:=by
 cases a;cases b;simp_all
theorem Mt.dw{a b:Mt}(ha:a.Wf)(hb:b.Wf)(h:a.cells=b.cells):a=b:=by
 unfold Mt.cells at h
 obtain⟨h1,h2⟩:=List.append_inj h (by simp)
 obtain⟨h3,h4⟩:=List.append_inj h2 (by rw[Px.az,Px.az])
 obtain⟨h5,h6⟩:=List.append_inj h4 (by rw[Px.az,Px.az])
 injection h1 with e0 h1
 injection h1 with e1 h1
 injection h1 with e2 _
 injection h6 with e3 h6
 injection h6 with e4 h6
 injection h6 with e5 h6
 injection h6 with e6 h6
 injection h6 with e7 _
 exact Nn (int_inj e0) (Prod.ext (int_inj e1) (int_inj e2)) (Px.dw ha.sn hb.sn h3) (Px.dw ha.dn hb.dn h5) (int_inj e3) (Prod.ext (int_inj e4) (int_inj e5)) (Prod.ext (int_inj e6) (int_inj e7))
theorem Rt.dw{a b:Rt}(ha:a.Wf)(hb:b.Wf)(h:a.cells=b.cells):a=b:=by
 obtain⟨h1,h2⟩:=List.append_inj h (by rw[Px.az,Px.az])
 injection h2 with h2 _
 injection h2 with _ h2
 have:=Px.dw ha.n hb.n h1
 cases a;cases b
 simp_all
theorem Me.dw{a b:Me}(h:a.cells=b.cells):a=b:=by
 injection h with h1 h
 injection h with h2 h
 injection h with h3 h
 injection h with h4 _
 have e1:=str_inj h1
 have e2:=int_inj h2
 have e3:=int_inj h3
 have e4:=int_inj h4
 cases a;cases b
 simp_all
theorem Mi.dw{a b:Mi}(h:a.cells=b.cells):a=b:=by
 injection h with h1 h
 injection h with h2 h
 injection h with h3 _
 have e1:=str_inj h1
 injection h2 with _ h2
 injection h3 with _ h3
 cases a;cases b
 simp_all
theorem Mt.az(m:Mt):m.cells.length=44:=by
 unfold Mt.cells
 simp only[List.length_append,List.length_cons,List.length_nil,Px.az]
theorem Rl.dw{a b:Rl}(ha:a.Wf)(hb:b.Wf)(h:a.cells=b.cells):a=b:=by
 injection h with h1 h
 obtain⟨h2,h⟩:=List.append_inj h (by rw[Mt.az,Mt.az])
 injection h with h3 h
 injection h with h4 h
 injection h with h5 h
 injection h with h6 _
 have e1:=str_inj h1
 have e2:=Mt.dw ha.m hb.m h2
 injection h3 with _ h3
 injection h4 with _ h4
 have e5:=str_inj h5
 have e6:=str_inj h6
 cases a;cases b
 simp_all
open Classical in
noncomputable def cx{α:Type}(a b:α):Bool:=decide (a=b)
theorem bD{α:Type}(a b:α):cx a b=true↔a=b:=by unfold cx;simp
theorem Iz(x y:Operand){a b:Rt}(ha:a.Wf)(hb:b.Wf)(W:World):(do eqGuard .neq 118 x y (.agg a.cells.toArray) (.agg b.cells.toArray);binOp .neq 118 (.agg a.cells.toArray) (.agg b.cells.toArray):Sem Value).run prog W=.ok (.bool (!cx a b)) W:=
 (y6 x y (by kernel_rfl) NX (by kernel_rfl) (by kernel_rfl) (w8 ha) (w8 hb) ((bD a b).trans ⟨fun h=>by rw[h],Rt.dw ha hb⟩) W).2
theorem Jx(x y:Operand){a b:Me}(ha:a.Wf)(hb:b.Wf)(W:World):(do eqGuard .neq 122 x y (.agg a.cells.toArray) (.agg b.cells.toArray);binOp .neq 122 (.agg a.cells.toArray) (.agg b.cells.toArray):Sem Value).run prog W=.ok (.bool (!cx a b)) W:=
 (y6 x y (by kernel_rfl) NW (by kernel_rfl) (by kernel_rfl) (uB ha) (uB hb) ((bD a b).trans ⟨fun h=>by rw[h],Me.dw⟩) W).2
theorem Jv(x y:Operand){a b:Mi}(ha:a.Wf)(hb:b.Wf)(W:World):(do eqGuard .neq 124 x y (.agg a.cells.toArray) (.agg b.cells.toArray);binOp .neq 124 (.agg a.cells.toArray) (.agg b.cells.toArray):Sem Value).run prog W=.ok (.bool (!cx a b)) W:=
 (y6 x y (by kernel_rfl) NV (by kernel_rfl) (by kernel_rfl) (uA ha) (uA hb) ((bD a b).trans ⟨fun h=>by rw[h],Mi.dw⟩) W).2
theorem IK(x y:Operand){a b:Rl}(ha:a.Wf)(hb:b.Wf)(W:World):(do eqGuard .neq 81 x y (.agg a.cells.toArray) (.agg b.cells.toArray);binOp .neq 81 (.agg a.cells.toArray) (.agg b.cells.toArray):Sem Value).run prog W=.ok (.bool (!cx a b)) W:=
 (y6 x y (by kernel_rfl) Qn (by kernel_rfl) (by kernel_rfl) (w9 ha) (w9 hb) ((bD a b).trans ⟨fun h=>by rw[h],Rl.dw ha hb⟩) W).2
set_option maxRecDepth 100000
open Go Go.RowKit Go.Lib Go.Sort _root_.Go.Proofs.Tryz
def Hr(ws:List Bs)(l:List Sx.SV)(mem:List Sx.Row):Prop:=(ws=[]∧l=[.val (.slice none 0 0)])∨∃k,ws≠[]∧l=[.mP k 0 ws.length ws.length]∧mem[k]?=some ⟨9,.ak (strs ws)⟩
def kI(ws:List Bs)(w:World)(e:Ending)(w':World):Prop:=ai [] w w'∧((ws=[]∧e=.returned (.slice none 0 0))∨(ws≠[]∧∃b,w.heap.size≤b∧e=.returned (.slice (some ⟨b,0,none⟩) ws.length ws.length)∧au w' b 9 (strs ws)))
theorem kI.jh{ws:List Bs}{w:World}{en:Ending}{w':World}(h:Sx.cq ⟨w,[],fun _ _=>False⟩ (Hr ws) en w'):kI ws w en w':=by
 rcases h with⟨β,l,mem,⟨h0,rfl⟩ | ⟨k,h0,rfl,hk⟩,he,hR⟩ | ⟨_,_,hf,_⟩
 ·exact⟨hR.aG,.inl ⟨h0,he⟩⟩
 ·have r:=hR.held k _ hk
  have hn:=hR.new k _ (β k) hk rfl
  refine⟨hR.aG,.inr ⟨h0,β k,?_,he,r⟩⟩
  rcases hn with h|h
  ·cases h
  ·exact h
 ·exact hf.elim
theorem eo(w:World):Sx.Rows ⟨w,[],fun _ _=>False⟩ (Sx.cU []) w []:=Sx.gP (w:=w) (S:=[]) (PP:=fun _ _=>False) (G:=[]) (fun q hq=>by cases hq) (fun q hq=>by cases hq) (by simp)
theorem Ca(act out:Int)(h0 : -9223372036854775808≤out)(h1:out≤9223372036854775807)(w:World)(hl:eb w):Calls prog 75 #[.int .i64 act,.int .i64 out] w (kI (aM act out) w):=by
 by_cases a1:act=1
 ·have c7:Value.bool (act==1)=.bool true:=j4 (by rw[a1];rfl)
  rw[show aM act out=[de] by unfold aM;rw[if_pos a1]]
  have z0:Hr [de] [.mP 0 0 1 1] [⟨9,.ak [ab de]⟩]:=.inr ⟨0,by simp,rfl,rfl⟩
  refine(Sx.aZ (args:=[.val (.int .i64 act),.val (.int .i64 out)]) (eo w) [(7,.is (.bool true))] [] (by kernel_rfl) func75 rfl (cn rfl) rfl ?_).mono fun en w' hp=>kI.jh hp
  exact Eq.mp (by kernel_rfl) (And.intro c7 z0)
 have c7:Value.bool (act==1)=.bool false:=ib (beq_eq_false_iff_ne.2 a1)
 by_cases a2:act=2
 ·have c10:Value.bool (act==2)=.bool true:=j4 (by rw[a2];rfl)
  rw[show aM act out=[kq] by unfold aM;rw[if_neg a1,if_pos a2]]
  have z0:Hr [kq] [.mP 0 0 1 1] [⟨9,.ak [ab kq]⟩]:=.inr ⟨0,by simp,rfl,rfl⟩
  refine(Sx.aZ (args:=[.val (.int .i64 act),.val (.int .i64 out)]) (eo w) [(7,.is (.bool false)),(10,.is (.bool true))] [] (by kernel_rfl) func75 rfl (cn rfl) rfl ?_).mono fun en w' hp=>kI.jh hp
  exact Eq.mp (by kernel_rfl) (Sx.t2 c7 c10 z0)
 have c10:Value.bool (act==2)=.bool false:=ib (beq_eq_false_iff_ne.2 a2)
 by_cases a3:act=3
 ·have c13:Value.bool (act==3)=.bool true:=j4 (by rw[a3];rfl)
  rw[show aM act out=[nC,cz out] by unfold aM;rw[if_neg a1,if_neg a2,if_pos a3]]
  have c15:=fun W (hW:ai [] w W)=>kS out h0 h1 W (hl.df hW)
  have z0:Hr [nC,cz out] [.mP 0 0 2 2] [⟨9,.ak [ab nC,ab (cz out)]⟩]:=.inr ⟨0,by simp,rfl,rfl⟩
  refine(Sx.aZ (args:=[.val (.int .i64 act),.val (.int .i64 out)]) (eo w) [(7,.is (.bool false)),(10,.is (.bool false)),(13,.is (.bool true)),(15,.call (ab (cz out)))] [] (by kernel_rfl) func75 rfl (cn rfl) rfl ?_).mono fun en w' hp=>kI.jh hp
  exact Eq.mp (by kernel_rfl) (Sx.t4 c7 c10 c13 c15 z0)
 have c13:Value.bool (act==3)=.bool false:=ib (beq_eq_false_iff_ne.2 a3)
 by_cases a4:act=4
 ·have c18:Value.bool (act==4)=.bool true:=j4 (by rw[a4];rfl)
  rw[show aM act out=[ga] by unfold aM;rw[if_neg a1,if_neg a2,if_neg a3,if_pos a4]]
  have z0:Hr [ga] [.mP 0 0 1 1] [⟨9,.ak [ab ga]⟩]:=.inr ⟨0,by simp,rfl,rfl⟩
  refine(Sx.aZ (args:=[.val (.int .i64 act),.val (.int .i64 out)]) (eo w) [(7,.is (.bool false)),(10,.is (.bool false)),(13,.is (.bool false)),(18,.is (.bool true))] [] (by kernel_rfl) func75 rfl (cn rfl) rfl ?_).mono fun en w' hp=>kI.jh hp
  exact Eq.mp (by kernel_rfl) (Sx.t4 c7 c10 c13 c18 z0)
 have c18:Value.bool (act==4)=.bool false:=ib (beq_eq_false_iff_ne.2 a4)
 rw[show aM act out=[] by unfold aM;rw[if_neg a1,if_neg a2,if_neg a3,if_neg a4]]
 have z0:Hr [] [.val (.slice none 0 0)] []:=.inl ⟨rfl,rfl⟩
 refine(Sx.aZ (args:=[.val (.int .i64 act),.val (.int .i64 out)]) (eo w) [(7,.is (.bool false)),(10,.is (.bool false)),(13,.is (.bool false)),(18,.is (.bool false))] [] (by kernel_rfl) func75 rfl (cn rfl) rfl ?_).mono fun en w' hp=>kI.jh hp
 exact Eq.mp (by kernel_rfl) (Sx.t4 c7 c10 c13 c18 z0)
theorem zo(ws:List Bs)(n m:Nat)(hm:ws.length=m)(hn:n+m≤1000):True∧(strs ws).length=m*1∧(∀u∈strs ws,u.oneCell'=true)∧n+m≤maxLen∧(n+m)*16≤140737488355328:=by
 refine⟨trivial,by rw[pS,hm,Nat.mul_one],fun u hu=>?_,by unfold maxLen;omega,by omega⟩
 obtain⟨l,_,rfl⟩:=List.mem_map.1 hu
 rfl
theorem Cc{b:Sx.aU}{act out:Int}(ha:aM act out=[])(h0 : -9223372036854775808≤out)(h1:out≤9223372036854775807)(hl:∀W,ai b.S b.w W→eb W)(W:World)(hW:ai b.S b.w W):Calls prog 75 #[.int .i64 act,.int .i64 out] W (Rn W (.slice none 0 0)) :=
 (Ca act out h0 h1 W (hl W hW)).mono fun en w' ⟨hc,h⟩=>by
  rcases h with⟨_,he⟩ | ⟨hne,_⟩
  ·exact⟨he,hc⟩
  ·exact absurd ha hne
def Lk(m n:Nat)(cs:List Value):Sx.cC:=⟨[],[],[],[⟨9,.ak cs⟩],.mP m 0 n n,none⟩
theorem Cb{b:Sx.aU}{row:Nat→Option Sx.Row}{m:Nat}{act out:Int}{ws:List Bs}(ha:aM act out=ws)(hne:ws≠[])(h0 : -9223372036854775808≤out)(h1:out≤9223372036854775807)(hl:∀W,ai b.S b.w W→eb W)(W:World)(β:Sx.Env)(hS:Sx.eF b β W row []) :
  Calls prog 75 (([.val (.int .i64 act),.val (.int .i64 out)]:List Sx.SV).map (Sx.SV.den β)).toArray W (Sx.aY b β W row m (Lk m ws.length (strs ws))):=by
 refine(Ca act out h0 h1 W (hl W hS.aG)).mono fun en w' ⟨hc,h⟩=>?_
 rw[ha]at h
 rcases h with⟨he,_⟩ | ⟨_,k,hk,he,hb⟩
 ·exact absurd he hne
 ·refine .inl ⟨fun p hp=>(by cases hp),β.gk m k,fun i hi=>⟨?_,rfl,rfl,rfl⟩,?_,fun q hq=>(by cases hq),fun i r hr=>?_,fun i r x hr hx=>?_,fun i i' r r' x hr hr' _ _=>?_,hc⟩
  ·show β i=if i=m then k else β i
   rw[if_neg (by omega)]
  ·rw[he]
   show Ending.returned (.slice (some ⟨k,0,none⟩) ws.length ws.length)=.returned (.slice (some ⟨if m=m then k else β m,0,none⟩) ws.length ws.length)
   rw[if_pos rfl]
  ·match i,hr with
   | 0,hr=>
    cases hr
    show au w' (if m+0=m then k else β (m+0)) 9 (strs ws)
    rw[Nat.add_zero,if_pos rfl]
    exact hb
  ·match i,hr with
   | 0,hr=>
    cases hr
    have hx:some (if m+0=m then k else β (m+0))=some x:=hx
    rw[Nat.add_zero,if_pos rfl]at hx
    cases hx
    exact .inr hk
  ·match i,i',hr,hr' with
   | 0,0,_,_=>rfl
theorem Nc{w:World}{b T n:Nat}{cs:List Value}(h:au w b T cs)(hn:cs.length=n)(hm:n≤maxLen):Own w T 1 (.slice (some ⟨b,0,none⟩) n n) n cs:=
 ⟨by rw[hn,Nat.mul_one],.inr ⟨b,0,n,cs,rfl,h,Nat.le_refl _,hm,by omega,by rw[List.drop_zero,List.take_of_length_le (by omega)]⟩⟩
theorem xo{b:Sx.aU}{row:Nat→Option Sx.Row}{i j k m:Nat}{og:Option Nat}{p:Bool}{tx:Bs}{e:Int}(ws:List Bs)(h:nP row i j og p tx e)(hi:i < m)(hj:j < m)(rk:row k=some ⟨9,.own 1 ws.length (strs ws)⟩)(hn:ws.length≤1000000)(hl:tx.length+(eW ws).length≤140737488355328)
  (W:World) (β:Sx.Env) (hS:Sx.eF b β W row [i,j,k]) :
  Calls prog 70 (([.ptr i 0,.own k]:List Sx.SV).map (Sx.SV.den β)).toArray W (Sx.aY b β W row m (zx [k] i j m og (tx++eW ws) e (.tuple #[]))):=by
 obtain⟨ht,hg⟩:=oV hS h (by simp) (by simp)
 have h2:β.n k=ws.length∧Own W 9 1 (.slice (β.a k) ws.length (β.c k)) ws.length (strs ws):=hS.held k (by simp) _ rk
 show Calls prog 70 #[.pointer (some ⟨β i,0,none⟩),.slice (β.a k) (β.n k) (β.c k)] W _
 rw[h2.1]
 exact(ES ws ht h2.2 (by omega) hl).mono fun en w' hp=>sX h hi hj hg hp
theorem JJ{b:Sx.aU}{row:Nat→Option Sx.Row}{i j k m:Nat}{og:Option Nat}{p:Bool}{tx:Bs}{e:Int}(ws:List Bs)(h:nP row i j og p tx e)(hi:i < m)(hj:j < m)(rk:row k=some ⟨9,.ak (strs ws)⟩)(hn:ws.length≤1000000)(hl:tx.length+(eW ws).length≤140737488355328)
  (W:World) (β:Sx.Env) (hS:Sx.eF b β W row [i,j,k]) :
  Calls prog 70 (([.ptr i 0,.mP k 0 ws.length ws.length]:List Sx.SV).map (Sx.SV.den β)).toArray W (Sx.aY b β W row m (zx [k] i j m og (tx++eW ws) e (.tuple #[]))):=by
 obtain⟨ht,hg⟩:=oV hS h (by simp) (by simp)
 have h2:au W (β k) 9 (strs ws):=hS.held k (by simp) _ rk
 exact(ES ws ht (Nc h2 (pS ws) (by unfold maxLen;omega)) (by omega) hl).mono fun en w' hp=>sX h hi hj hg hp
theorem Oz{a o:Int}(h:aM a o=[]):ju a o=false:=by
 unfold aM at h
 unfold ju
 by_cases a1:a=1
 ·rw[if_pos a1]at h;cases h
 by_cases a2:a=2
 ·rw[if_neg a1,if_pos a2]at h;cases h
 by_cases a3:a=3
 ·rw[if_neg a1,if_neg a2,if_pos a3]at h;cases h
 by_cases a4:a=4
 ·rw[if_neg a1,if_neg a2,if_neg a3,if_pos a4]at h;cases h
 have:(decide (1≤a)&&decide (a≤4))=false:=by
  rw[Bool.and_eq_false_iff,decide_eq_false_iff_not,decide_eq_false_iff_not];omega
 rw[this];rfl
theorem Li{a o:Int}{x:Bs}{l:List Bs}(h:aM a o=x::l):(decide (1≤a)&&decide (a≤4))=true:=by
 unfold aM at h
 rw[Bool.and_eq_true,decide_eq_true_iff,decide_eq_true_iff]
 by_cases a1:a=1
 ·omega
 by_cases a2:a=2
 ·omega
 by_cases a3:a=3
 ·omega
 by_cases a4:a=4
 ·omega
 rw[if_neg a1,if_neg a2,if_neg a3,if_neg a4]at h
 cases h
set_option maxRecDepth 100000
open Go Go.RowKit Go.Lib Go.Sort _root_.Go.Proofs.Tryz
abbrev Pv(w:World)(g:Nat)(A:Option Go.Addr):Sx.aU:=⟨w,pP g A,fun _ _=>False⟩
abbrev rL(g:Nat)(p:Bool)(tx:Bs)(r:Rl)(e:Int)(mem:List Sx.Row):List Sx.Row:=ji (some g) [.eG p 0 0,.own 1,.val (.int .i64 e)]::⟨5,.own 1 tx.length (qT tx)⟩::⟨81,.ak r.cells⟩::mem
abbrev rD(g M:Nat)(tx F:Bs)(r:Rl)(e:Int)(mem:List Sx.Row):List Sx.Row:=ji (some g) [.eG true 0 0,.own M,.val (.int .i64 e)]::Sx.an::⟨81,.ak r.cells⟩::(mem++[⟨5,.own 1 (tx++F).length (qT (tx++F))⟩])
abbrev rF(r:Rl)(l:List Bs):List Bs:=gg::r.name::Ak r.mt::u6::l
abbrev wH(g:Nat)(p:Bool)(e:Int):Sx.Hint:=.aq (jD [] 0 1 (some g) p e)
abbrev Ub(w:World)(g:Nat)(A:Option Go.Addr)(tx:Bs)(r:Rl)(F:List Bs)(e:Int):Prop:=Calls prog 74 #[(pt g 0),.agg r.cells.toArray] w (mr g A (.tuple #[]) (tx++eW F) e w)
abbrev TV(g:Nat)(p:Bool)(r:Rl)(b1 b2:Bool)(ck e1 e2:Int)(l:List (Nat×Sx.Hint)):List (Nat×Sx.Hint):=(11,.call (.bool b1))::(16,.call (.tuple #[ab (Ak r.mt),.int .i64 ck]))::(21,.is (.bool b2))::(12,wH g p e1)::(22,wH g p e2)::l
abbrev Ua(tx:Bs)(F:List Bs):Prop:=tx.length+(eW F).length≤140737488355328
structure TA(w:World)(g:Nat)(p:Bool)(A:Option Go.Addr)(tx:Bs)(r:Rl)(b1 b2 b4 b5 bo:Bool)(ck e e1 e2 e3 e4 e5:Int):Prop where
 hl:∀W,ai (pP g A) w W→eb W
 oA:∀W,ai (pP g A) w W→Calls prog 33 #[ab r.name] W (Rn W (.bool b1))
 ir:∀W,ai (pP g A) w W→Calls prog 31 #[.agg r.mt.cells.toArray] W (Rn W (.tuple #[ab (Ak r.mt),.int .i64 ck]))
 c21:Value.bool (ck==0)=.bool b2
 h1:e1=aI b1 201 e
 h2:e2=aI b2 190 e1
 h3:e3=aI bo 2 e2
 h4:e4=aI b4 201 e3
 h5:e5=aI b5 201 e4
 o0 : -9223372036854775808≤r.out
 o1:r.out≤9223372036854775807
theorem tA(w:World)(g:Nat)(p:Bool)(A:Option Go.Addr)(tx:Bs)(r:Rl){e e':Int}{b:Bool}{code:Int}(m:Nat)(mem:List Sx.Row)(he:e'=aI b code e)(W:World)(β:Sx.Env)(hS:Sx.eF (Pv w g A) β W (Sx.rowAt (rL g p tx r e mem)) [0,1]):Calls prog 69 (([.ptr 0 0,.val (.bool b),.val (.int .i64 code)]:List Sx.SV).map (Sx.SV.den β)).toArray W (Sx.aY (Pv w g A) β W (Sx.rowAt (rL g p tx r e mem)) m (jD [] 0 1 (some g) p e')):=by
 rw[he];exact qU b code ⟨rfl,rfl⟩ W β hS
theorem Qb(w:World)(g:Nat)(p:Bool)(A:Option Go.Addr)(tx:Bs)(r:Rl)(e:Int)(mem:List Sx.Row)(k m:Nat)(ws:List Bs)(hm:1 < m)(rk:Sx.rowAt (rL g p tx r e mem) k=some ⟨9,.own 1 ws.length (strs ws)⟩)(hn:ws.length≤1000000)(hl:tx.length+(eW ws).length≤140737488355328)(W:World)(β:Sx.Env)(hS:Sx.eF (Pv w g A) β W (Sx.rowAt (rL g p tx r e mem)) [0,1,k]) :
  Calls prog 70 (([.ptr 0 0,.own k]:List Sx.SV).map (Sx.SV.den β)).toArray W (Sx.aY (Pv w g A) β W (Sx.rowAt (rL g p tx r e mem)) m (zx [k] 0 1 m (some g) (tx++eW ws) e (.tuple #[]))):=
 xo (p:=p) ws ⟨rfl,rfl⟩ (by omega) hm rk hn hl W β hS
theorem FD(P:World→Prop)(n:Nat)(hn:n≤1000):(∀W,P W→∃A c,Value.slice none 0 0=.slice A 0 c∧(0 < ([]:List Value).length→∃ad,A=some ad∧∀(j:Nat) (u:Value),([]:List Value)[j]?=some u→W.cell? (ad.add j)=some u))∧([]:List Value).length=0*1∧(∀u∈([]:List Value),u.oneCell'=true)∧n+0≤maxLen∧(n+0)*16≤140737488355328:=
 ⟨fun _ _=>⟨none,0,rfl,fun hh=>absurd hh (Nat.lt_irrefl _)⟩,rfl,fun u hu=>(by cases hu),by unfold maxLen;omega,by omega⟩
theorem se(n:Nat){x:Bs}{b:Bool}(h:decide (x=[])=b)(W:World):(do eqGuard .eql 9 (.tmp n) (.const (ab [])) (ab x) (ab []);binOp .eql 9 (ab x) (ab []):Sem Value).run prog W=.ok (.bool b) W:=bJ (.tmp n) (.const (ab [])) x [] b h W
theorem sn(n:Nat){x:Bs}{b:Bool}(h:decide (x=[])=!b)(W:World):(do eqGuard .neq 9 (.tmp n) (.const (ab [])) (ab x) (ab []);binOp .neq 9 (ab x) (ab []):Sem Value).run prog W=.ok (.bool b) W:=
 (lQ (.tmp n) (.const (ab [])) x [] W).trans (by rw[show decide (x≠[])=b from by rw[decide_not,h,Bool.not_not]])
def bP(b x:Bool):Bool:=match b with
 |true=>true
 |false=>x
def bQ(na bg bz bo:Bool):Bool:=match na with
 |true=>false
 |false=>match bg with
  |false=>false
  |true=>bP bz bo
def n2(b:Bool)(n:Nat):Nat:=match b with
 |true=>n
 |false=>n+2
def x2(b:Bool)(xs ys:List Value):List Value:=match b with
 |true=>xs
 |false=>xs++ys
def ra(na:Bool)(L:List Bs):List Sx.Row:=match na with
 |true=>[]
 |false=>[⟨9,.ak (strs L)⟩]
def jo(b:Bool)(ws:List Bs)(l:List Sx.Row):List Sx.Row:=match b with
 |true=>l
 |false=>Sx.an::⟨9,.ak (strs ws)⟩::l
def sL(L:List Bs):List Value:=((strs L).drop 0).take (L.length*1)
theorem El(L:List Bs):sL L=strs L:=by unfold sL;rw[List.drop_zero,List.take_of_length_le (by simp[strs])]
def QX(r:Rl)(L:List Bs)(bm bi:Bool):Sx.Row:=⟨9,.own 1 (n2 bi (n2 bm (4+L.length))) (x2 bi (x2 bm (strs [gg,r.name,Ak r.mt,u6]++sL L) (strs [bK,r.bC])) (strs [bh,r.aP]))⟩
def SZ(na:Bool)(r:Rl)(L:List Bs)(bm bi:Bool)(l:List Sx.Row):List Sx.Row:=ra na L++(Sx.an::jo bm [bK,r.bC] (jo bi [bh,r.aP] l))
def QY(na bm bi:Bool):Nat:=n2 bi (n2 bm (match na with|true=>4|false=>5))
def Rg(b:Bool)(k s:Bs):List Bs:=match b with
 |true=>[]
 |false=>[k,s]
def Ht(r:Rl)(L:List Bs)(bm bi:Bool):List Bs:=rF r (L++(Rg bm bK r.bC++Rg bi bh r.aP))
theorem PE(r:Rl)(L:List Bs)(bm bi:Bool):QX r L bm bi=⟨9,.own 1 (Ht r L bm bi).length (strs (Ht r L bm bi))⟩:=by
 unfold QX Ht rF
 rw[El]
 cases bm<;>cases bi<;>simp[n2,x2,Rg,strs,Nat.add_comm,Nat.add_left_comm]<;>omega
def Tt(na:Bool)(w:World)(S:List Nat)(L:List Bs):Prop:=match na with
 |true=>(∀W,ai S w W→∃A c,Value.slice none 0 0=.slice A 0 c∧(0 < ([]:List Value).length→∃ad,A=some ad∧∀(j:Nat) (u:Value),([]:List Value)[j]?=some u→W.cell? (ad.add j)=some u))∧([]:List Value).length=0*1∧(∀u∈([]:List Value),u.oneCell'=true)∧4+0≤maxLen∧(4+0)*16≤140737488355328
 |false=>True∧(sL L).length=L.length*1∧(∀u∈sL L,u.oneCell'=true)∧4+L.length≤maxLen∧(4+L.length)*16≤140737488355328
def Tu(na:Bool)(w:World)(g:Nat)(p:Bool)(A:Option Go.Addr)(tx:Bs)(r:Rl)(e2:Int)(L:List Bs):Prop:=match na with
 |true=>∀W,ai (pP g A) w W→Calls prog 75 #[.int .i64 r.act,.int .i64 r.out] W (Rn W (.slice none 0 0))
 |false=>∀W β,Sx.eF (Pv w g A) β W (Sx.rowAt (rL g p tx r e2 [])) []→Calls prog 75 (([.val (.int .i64 r.act),.val (.int .i64 r.out)]:List Sx.SV).map (Sx.SV.den β)).toArray W (Sx.aY (Pv w g A) β W (Sx.rowAt (rL g p tx r e2 [])) 3 (Lk 3 L.length (strs L)))
def TJ(na:Bool)(L:List Bs):Sx.Hint:=match na with
 |true=>.call (.slice none 0 0)
 |false=>.aq (Lk 3 L.length (strs L))
theorem PC{w:World}{g:Nat}{p:Bool}{A:Option Go.Addr}{c:Nat}{tx:Bs}{r:Rl}{b1 b2 b4 b5 bo:Bool}{ck e e1 e2 e3 e4 e5:Int}{L:List Bs}{na bg bz bm bi:Bool}(h:Tx w g p A c tx e)(H:TA w g p A tx r b1 b2 (bP bm b4) (bP bi b5) (bQ na bg bz bo) ck e e1 e2 e3 e4 e5)
  (k4:bm=false→∀W,ai (pP g A) w W→Calls prog 33 #[ab r.bC] W (Rn W (.bool b4))) (k5:bi=false→∀W,ai (pP g A) w W→Calls prog 33 #[ab r.aP] W (Rn W (.bool b5)))
  (ha:aM r.act r.out=L) (hL:L.length≤10) (hna:decide (L=[])=na) (hg:decide (r.out≥0)=bg) (hz:decide (r.out=0)=bz) (hb:decide (r.act=3)=bo) (hm:decide (r.bC=[])=bm) (hi:decide (r.aP=[])=bi) (hle:Ua tx (Ht r L bm bi)):Ub w g A tx r (Ht r L bm bi) e5:=by
 have c34:Value.bool (decide (r.out≥0))=.bool bg:=congrArg _ hg
 have c39:Value.bool (r.out==0)=.bool bz:=congrArg _ hz
 have c43:Value.bool (r.act==3)=.bool bo:=congrArg _ hb
 have c27:Tu na w g p A tx r e2 L:=by
  cases na with
  |true=>exact fun W hW=>Cc (b:=(Pv w g A)) (ha.trans (of_decide_eq_true hna)) H.o0 H.o1 H.hl W hW
  |false=>exact fun W β hS=>Cb (m:=3) ha (of_decide_eq_false hna) H.o0 H.o1 H.hl W β hS
 have c72:Tt na w (pP g A) L:=by
  cases na with
  |true=>exact FD (ai (pP g A) w) 4 (by decide)
  |false=>exact(show True∧(sL L).length=L.length*1∧(∀u∈sL L,u.oneCell'=true)∧4+L.length≤maxLen∧(4+L.length)*16≤140737488355328 from by rw[El];exact zo L 4 L.length rfl (by omega))
 have c46:=tA w g p A tx r (ra na L).length.succ.succ.succ (ra na L) H.h3
 have c56:=tA w g p A tx r (ra na L).length.succ.succ.succ (ra na L) H.h4
 have c66:=tA w g p A tx r (ra na L).length.succ.succ.succ (ra na L) H.h5
 have c80:=zo [bK,r.bC] (4+L.length) 2 rfl (by omega)
 have c88:=zo [bh,r.aP] (n2 bm (4+L.length)) 2 rfl (by cases bm<;>(show _≤1000;simp only[n2];omega))
 have rk:Sx.rowAt (rL g p tx r e5 (SZ na r L bm bi [QX r L bm bi])) (QY na bm bi)=some (QX r L bm bi):=by cases na<;>cases bm<;>cases bi<;>rfl
 have c91:=Qb w g p A tx r e5 (SZ na r L bm bi [QX r L bm bi]) (QY na bm bi) (QY na bm bi+1) (Ht r L bm bi) (by cases na<;>cases bm<;>cases bi<;>decide) (rk.trans (congrArg some (PE r L bm bi))) (by cases bm<;>cases bi<;>simp[Ht,Rg]<;>omega) hle
 have z0:OA g (tx++eW (Ht r L bm bi)) e5 [] (rD g (QY na bm bi+1) tx (eW (Ht r L bm bi)) r e5 (SZ na r L bm bi [QX r L bm bi])):=by cases na<;>cases bm<;>cases bi<;>exact⟨_,rfl,rfl,rfl⟩
 have CH:=Sx.t4 H.oA (tA w g p A tx r 3 [] H.h1) H.ir H.c21 (Sx.t2 (tA w g p A tx r 3 [] H.h2) c27 (qP.mk (b:=na) (fun _=>c34) (qP.mk (b:=na||!bg) (fun _=>c39) (qP.mk (b:=na||!bg||bz) (fun _=>c43) (Sx.t2 c46 (se 49 hm) (qP.mk k4 (Sx.t2 c56 (se 59 hi) (qP.mk k5 (Sx.t2 c66 c72 (And.intro (sn (b:=!bm) 74 (by rw[Bool.not_not];exact hm)) (qP.mk (b:=bm) (fun _=>c80) (And.intro (sn (b:=!bi) 82 (by rw[Bool.not_not];exact hi)) (qP.mk (b:=bi) (fun _=>c88) (And.intro c91 z0))))))))))))))
 refine D9 [.agg r.cells.toArray] h (TV g p r b1 b2 ck e1 e2 [(27,TJ na L),(34,.is (.bool bg)),(39,.is (.bool bz)),(43,.is (.bool bo)),(72,.app 0 []),(46,wH g p e3),(50,.bin (.bool bm)),(54,.call (.bool b4)),(56,wH g p e4),(60,.bin (.bool bi)),(64,.call (.bool b5)),(66,wH g p e5),(70,.iG 9 1),(75,.bin (.bool (!bm))),(83,.bin (.bool (!bi))),(91,.aq (zx [QY na bm bi] 0 1 (QY na bm bi+1) (some g) (tx++eW (Ht r L bm bi)) e5 (.tuple #[])))]) [] (by kernel_rfl) func74 rfl (cn rfl) ?_
 clear h H k4 k5 hle rk hg hz hb hm hi c27 c72 c46 c56 c66 c80 c88 c91 z0 c34 c39 c43 ha hL
 cases na with
 |true=>
  obtain rfl:L=[]:=of_decide_eq_true hna
  cases bg<;>cases bz<;>cases bm<;>cases bi<;>exact Eq.mp (by kernel_rfl) CH
 |false=>cases bg<;>cases bz<;>cases bm<;>cases bi<;>exact Eq.mp (by kernel_rfl) CH
theorem LX{w:World}{g:Nat}{p:Bool}{A:Option Go.Addr}{c:Nat}{tx:Bs}{e:Int}{r:Rl}(h:Tx w g p A c tx e)(hl:eb w)(hk:∀k∈pP g A,9≤k)(hr:r.Wf)(hle:tx.length+(eW (db r)).length≤140737488355328):Calls prog 74 #[.pointer (some ⟨g,0,none⟩),.agg r.cells.toArray] w (mr g A (.tuple #[]) (tx++eW (db r)) (pY e r) w):=by
 have hc:Value.bool ((if bp r.mt=true then(0:Int)else 190)==0)=.bool (bp r.mt):=by cases bp r.mt<;>rfl
 have hL:(aM r.act r.out).length≤10:=by
  unfold aM
  repeat' split
  all_goals simp
 have hO:∀k s,cR k s=Rg (decide (s=[])) k s:=fun k s=>by
  unfold cR
  by_cases hs:s=[]
  ·rw[if_pos hs,decide_eq_true hs];rfl
  ·rw[if_neg hs,decide_eq_false hs];rfl
 have hW:db r=Ht r (aM r.act r.out) (decide (r.bC=[])) (decide (r.aP=[])):=by
  unfold db Ht
  rw[hO,hO]
  simp
 have hA:ju r.act r.out=bQ (decide (aM r.act r.out=[])) (decide (r.out≥0)) (decide (r.out=0)) (decide (r.act=3)):=by
  cases ha:aM r.act r.out with
  |nil=>rw[decide_eq_true rfl,Oz ha];rfl
  |cons x l=>
   rw[decide_eq_false (by simp)]
   unfold ju
   rw[Li ha]
   cases decide (r.out≥0)<;>cases decide (r.out=0)<;>cases decide (r.act=3)<;>rfl
 have hB:∀s,iW s=bP (decide (s=[])) (aB s):=fun s=>by
  unfold iW
  cases decide (s=[])<;>rfl
 rw[hW]at hle ⊢
 exact PC h (b4:=aB r.bC) (b5:=aB r.aP) (bo:=decide (r.act=3)) ⟨fun W hW=>hl.aG hW hk,fun W _=>pb r.name W,fun W hW=>yo r.mt hr.m W (hl.aG hW hk),hc,rfl,rfl,rfl,rfl,(by unfold pY;rw[hB,hB,hA]),hr.o.1,hr.o.2⟩
  (fun _ W _=>pb r.bC W) (fun _ W _=>pb r.aP W) rfl hL rfl rfl rfl rfl rfl rfl hle
end Go.Proofs.YtnncigmpcdehnaaGreatDoor
