import Derived.Test.YtnncigmpcdehnaaGreatDoorQa36
import Derived.Test.YtnncigmpcdehnaaGreatDoorQa35
namespace Go.Proofs.YtnncigmpcdehnaaGreatDoor
open Go Go.RowKit Go.Lib Go.Sort
def kP:List Kd:=.b::(repK 16 [.i .u8]++[.i .i64])
def kM:List Kd:=[.i .u8,.i .u16,.i .u16]++(kP++(kP++[.i .u8,.i .u16,.i .u16,.i .u16,.i .u16]))
def kR:List Kd:=kP++[.i .i64]
def kL:List Kd:=.s::(kM++[.i .i64,.i .i64,.s,.s])
def kMe:List Kd:=[.s,.i .u64,.i .u64,.i .u64]
def kMi:List Kd:=[.s,.i .i64,.i .i64]
theorem flat118:flatT Tryz.prog 6 118=some kR:=by kernel_rfl
theorem flat81:flatT Tryz.prog 6 81=some kL:=by kernel_rfl
theorem flat122:flatT Tryz.prog 6 122=some kMe:=by kernel_rfl
theorem flat124:flatT Tryz.prog 6 124=some kMi:=by kernel_rfl
theorem ok_u8{x:Nat}(h:x≤255):okC (.i .u8) (.int .u8 (x:Int)):=⟨rfl,by simp[Lit.wf,IntKind.min,IntKind.max,IntKind.signed,IntKind.bits];omega⟩
theorem ok_u16{x:Nat}(h:x≤65535):okC (.i .u16) (.int .u16 (x:Int)):=⟨rfl,by simp[Lit.wf,IntKind.min,IntKind.max,IntKind.signed,IntKind.bits];omega⟩
theorem ok_u64{x:Nat}(h:x≤18446744073709551615):okC (.i .u64) (.int .u64 (x:Int)):=⟨rfl,by simp[Lit.wf,IntKind.min,IntKind.max,IntKind.signed,IntKind.bits];omega⟩
theorem ok_i64{x:Int}(h : -9223372036854775808≤x∧x≤9223372036854775807):okC (.i .i64) (.int .i64 x):=⟨rfl,by simp[Lit.wf,IntKind.min,IntKind.max,IntKind.signed,IntKind.bits]; omega⟩
theorem ok_s{s:Bs}(h:s.length≤maxLen):okC .s (.string ⟨s.toArray⟩):=by show(ByteArray.mk s.toArray).size≤maxLen;simpa[ByteArray.size]using h
theorem ok_bytes(f:Nat→Nat)(hf:∀j,f j≤255):∀l:List Nat,AllOk (repK l.length [.i .u8]) (l.map fun j=>.int .u8 (f j:Int))
 | []=>trivial
 |j::l=>⟨ok_u8 (hf j),ok_bytes f hf l⟩
theorem okP_cells{p:Px}(hk : -9223372036854775808≤p.k∧p.k≤9223372036854775807):AllOk kP p.cells:=by
 show AllOk (.b::(repK 16 [.i .u8]++[.i .i64])) (.bool p.v::((List.range 16).map (fun j=>Value.int .u8 (byteAt p.n j:Int))++[.int .i64 p.k]))
 refine⟨trivial,AllOk.app ?_ ⟨ok_i64 hk,trivial⟩⟩
 have:=ok_bytes (byteAt p.n) (fun j=>by have:=byteAt_lt p.n j;omega) (List.range 16)
 simpa using this
theorem okM_cells{m:Mt}(h:m.Wf):AllOk kM m.cells:=by
 unfold kM Mt.cells
 refine AllOk.app ⟨ok_u8 (by have:=h.asks;omega),ok_u16 h.inn.1,ok_u16 h.inn.2,trivial⟩ (AllOk.app (okP_cells h.sk) (AllOk.app (okP_cells h.dk) ⟨ok_u8 h.pr,ok_u16 h.sp.1,ok_u16 h.sp.2,ok_u16 h.dp.1,ok_u16 h.dp.2,trivial⟩))
def I64(x:Int):Prop := -9223372036854775808≤x∧x≤9223372036854775807
structure Rt.Wf(r:Rt):Prop where
 n:r.pf.n < 2^128
 k:I64 r.pf.k
 o:I64 r.out
structure Me.Wf(m:Me):Prop where
 s:m.name.length≤maxLen
 a:m.num≤18446744073709551615
 b:m.den≤18446744073709551615
 c:m.burst≤18446744073709551615
structure Mi.Wf(m:Mi):Prop where
 s:m.name.length≤maxLen
 o:I64 m.out
 r:I64 m.room
structure Rl.Wf(r:Rl):Prop where
 s:r.name.length≤maxLen
 m:r.mt.Wf
 a:I64 r.act
 o:I64 r.out
 e:r.meter.length≤maxLen
 i:r.mirror.length≤maxLen
theorem okR_cells{r:Rt}(h:r.Wf):AllOk kR r.cells:=AllOk.app (okP_cells h.k) ⟨ok_i64 h.o,trivial⟩
theorem okMe_cells{m:Me}(h:m.Wf):AllOk kMe m.cells:=⟨ok_s h.s,ok_u64 h.a,ok_u64 h.b,ok_u64 h.c,trivial⟩
theorem okMi_cells{m:Mi}(h:m.Wf):AllOk kMi m.cells:=⟨ok_s h.s,ok_i64 h.o,ok_i64 h.r,trivial⟩
theorem okL_cells{r:Rl}(h:r.Wf):AllOk kL r.cells:=⟨ok_s h.s,AllOk.app (okM_cells h.m) ⟨ok_i64 h.a,ok_i64 h.o,ok_s h.e,ok_s h.i,trivial⟩⟩
theorem Px.cells_len(p:Px):p.cells.length=18:=by simp[Px.cells,pfx,adr,adrV]
theorem int_inj{q:IntKind}{a b:Nat}(h:Value.int q (a:Int)=.int q (b:Int)):a=b:=by injection h with _ h;omega
theorem str_inj{a b:Bs}(h:Value.string ⟨a.toArray⟩=.string ⟨b.toArray⟩):a=b:=by
 injection h with h
 injection h with h
 simpa using h
theorem Px.cells_inj{p q:Px}(hp:p.n < 2^128)(hq:q.n < 2^128)(h:p.cells=q.cells):p=q:=by
 have h:Value.bool p.v::((List.range 16).map (fun j=>Value.int .u8 (byteAt p.n j:Int))++[.int .i64 p.k])=.bool q.v::((List.range 16).map (fun j=>Value.int .u8 (byteAt q.n j:Int))++[.int .i64 q.k]):=h
 injection h with h1 h2
 injection h1 with h1
 obtain⟨h2,h3⟩:=List.append_inj h2 (by simp)
 injection h3 with h3 _
 injection h3 with _ h3
 have hb:p.n=q.n:=byteAt_inj hp hq fun i hi=>by
  rw[List.map_inj_left]at h2
  exact int_inj (h2 i (by simpa using hi))
 cases p;cases q
 simp_all
theorem mt_ext0{a b:Mt}(h0:a.asks=b.asks)(h1:a.inn=b.inn)(h2:a.src=b.src)(h3:a.dst=b.dst)(h4:a.proto=b.proto)(h5:a.sp=b.sp)(h6:a.dp=b.dp):a=b:=by
 cases a;cases b;simp_all
theorem Mt.cells_inj{a b:Mt}(ha:a.Wf)(hb:b.Wf)(h:a.cells=b.cells):a=b:=by
 unfold Mt.cells at h
 obtain⟨h1,h2⟩:=List.append_inj h (by simp)
 obtain⟨h3,h4⟩:=List.append_inj h2 (by rw[Px.cells_len,Px.cells_len])
 obtain⟨h5,h6⟩:=List.append_inj h4 (by rw[Px.cells_len,Px.cells_len])
 injection h1 with e0 h1
 injection h1 with e1 h1
 injection h1 with e2 _
 injection h6 with e3 h6
 injection h6 with e4 h6
 injection h6 with e5 h6
 injection h6 with e6 h6
 injection h6 with e7 _
 exact mt_ext0 (int_inj e0) (Prod.ext (int_inj e1) (int_inj e2)) (Px.cells_inj ha.sn hb.sn h3) (Px.cells_inj ha.dn hb.dn h5) (int_inj e3) (Prod.ext (int_inj e4) (int_inj e5)) (Prod.ext (int_inj e6) (int_inj e7))
theorem Rt.cells_inj{a b:Rt}(ha:a.Wf)(hb:b.Wf)(h:a.cells=b.cells):a=b:=by
 obtain⟨h1,h2⟩:=List.append_inj h (by rw[Px.cells_len,Px.cells_len])
 injection h2 with h2 _
 injection h2 with _ h2
 have:=Px.cells_inj ha.n hb.n h1
 cases a;cases b
 simp_all
theorem Me.cells_inj{a b:Me}(h:a.cells=b.cells):a=b:=by
 injection h with h1 h
 injection h with h2 h
 injection h with h3 h
 injection h with h4 _
 have e1:=str_inj h1
 have e2:=int_inj h2
 have e3:=int_inj h3
 have e4:=int_inj h4
 cases a;cases b
 simp_all
theorem Mi.cells_inj{a b:Mi}(h:a.cells=b.cells):a=b:=by
 injection h with h1 h
 injection h with h2 h
 injection h with h3 _
 have e1:=str_inj h1
 injection h2 with _ h2
 injection h3 with _ h3
 cases a;cases b
 simp_all
theorem Mt.cells_len(m:Mt):m.cells.length=44:=by
 unfold Mt.cells
 simp only[List.length_append,List.length_cons,List.length_nil,Px.cells_len]
theorem Rl.cells_inj{a b:Rl}(ha:a.Wf)(hb:b.Wf)(h:a.cells=b.cells):a=b:=by
 injection h with h1 h
 obtain⟨h2,h⟩:=List.append_inj h (by rw[Mt.cells_len,Mt.cells_len])
 injection h with h3 h
 injection h with h4 h
 injection h with h5 h
 injection h with h6 _
 have e1:=str_inj h1
 have e2:=Mt.cells_inj ha.m hb.m h2
 injection h3 with _ h3
 injection h4 with _ h4
 have e5:=str_inj h5
 have e6:=str_inj h6
 cases a;cases b
 simp_all
open Classical in
noncomputable def sameB{α:Type}(a b:α):Bool:=decide (a=b)
theorem sameB_iff{α:Type}(a b:α):sameB a b=true↔a=b:=by unfold sameB;simp
theorem rt_neq(x y:Operand){a b:Rt}(ha:a.Wf)(hb:b.Wf)(W:World):(do eqGuard .neq 118 x y (.agg a.cells.toArray) (.agg b.cells.toArray);binOp .neq 118 (.agg a.cells.toArray) (.agg b.cells.toArray):Sem Value).run Tryz.prog W=.ok (.bool (!sameB a b)) W:=
 (eq_agg x y (by kernel_rfl) flat118 (by kernel_rfl) (by kernel_rfl) (okR_cells ha) (okR_cells hb) ((sameB_iff a b).trans ⟨fun h=>by rw[h],Rt.cells_inj ha hb⟩) W).2
theorem me_neq(x y:Operand){a b:Me}(ha:a.Wf)(hb:b.Wf)(W:World):(do eqGuard .neq 122 x y (.agg a.cells.toArray) (.agg b.cells.toArray);binOp .neq 122 (.agg a.cells.toArray) (.agg b.cells.toArray):Sem Value).run Tryz.prog W=.ok (.bool (!sameB a b)) W:=
 (eq_agg x y (by kernel_rfl) flat122 (by kernel_rfl) (by kernel_rfl) (okMe_cells ha) (okMe_cells hb) ((sameB_iff a b).trans ⟨fun h=>by rw[h],Me.cells_inj⟩) W).2
theorem mi_neq(x y:Operand){a b:Mi}(ha:a.Wf)(hb:b.Wf)(W:World):(do eqGuard .neq 124 x y (.agg a.cells.toArray) (.agg b.cells.toArray);binOp .neq 124 (.agg a.cells.toArray) (.agg b.cells.toArray):Sem Value).run Tryz.prog W=.ok (.bool (!sameB a b)) W:=
 (eq_agg x y (by kernel_rfl) flat124 (by kernel_rfl) (by kernel_rfl) (okMi_cells ha) (okMi_cells hb) ((sameB_iff a b).trans ⟨fun h=>by rw[h],Mi.cells_inj⟩) W).2
theorem rl_neq(x y:Operand){a b:Rl}(ha:a.Wf)(hb:b.Wf)(W:World):(do eqGuard .neq 81 x y (.agg a.cells.toArray) (.agg b.cells.toArray);binOp .neq 81 (.agg a.cells.toArray) (.agg b.cells.toArray):Sem Value).run Tryz.prog W=.ok (.bool (!sameB a b)) W:=
 (eq_agg x y (by kernel_rfl) flat81 (by kernel_rfl) (by kernel_rfl) (okL_cells ha) (okL_cells hb) ((sameB_iff a b).trans ⟨fun h=>by rw[h],Rl.cells_inj ha hb⟩) W).2
set_option maxRecDepth 100000
open Go Go.RowKit Go.Lib Go.Sort
def ActR(ws:List Bs)(l:List Sx.SV)(mem:List Sx.Row):Prop:=(ws=[]∧l=[.val (.slice none 0 0)])∨∃k,ws≠[]∧l=[.slc k 0 ws.length ws.length]∧mem[k]?=some ⟨9,.vals (strs ws)⟩
def ActPost(ws:List Bs)(w:World)(e:Ending)(w':World):Prop:=Chg [] w w'∧((ws=[]∧e=.returned (.slice none 0 0))∨(ws≠[]∧∃b,w.heap.size≤b∧e=.returned (.slice (some ⟨b,0,none⟩) ws.length ws.length)∧Blk w' b 9 (strs ws)))
theorem ActPost.of_any{ws:List Bs}{w:World}{en:Ending}{w':World}(h:Sx.anyPost ⟨w,[],fun _ _=>False⟩ (ActR ws) en w'):ActPost ws w en w':=by
 rcases h with⟨β,l,mem,⟨h0,rfl⟩ | ⟨k,h0,rfl,hk⟩,he,hR⟩ | ⟨_,_,hf,_⟩
 ·exact⟨hR.chg,.inl ⟨h0,he⟩⟩
 ·have r:=hR.held k _ hk
  have hn:=hR.new k _ (β k) hk rfl
  refine⟨hR.chg,.inr ⟨h0,β k,?_,he,r⟩⟩
  rcases hn with h|h
  ·cases h
  ·exact h
 ·exact hf.elim
theorem no_rows(w:World):Sx.Rows ⟨w,[],fun _ _=>False⟩ (Sx.envGiv []) w []:=Sx.rows_giv (w:=w) (S:=[]) (PP:=fun _ _=>False) (G:=[]) (fun q hq=>by cases hq) (fun q hq=>by cases hq) (by simp)
theorem action_N(act out:Int)(h0 : -9223372036854775808≤out)(h1:out≤9223372036854775807)(w:World)(hl:Lan w):Calls Tryz.prog 75 #[.int .i64 act,.int .i64 out] w (ActPost (actWs act out) w):=by
 by_cases a1:act=1
 ·have c7:Value.bool (act==1)=.bool true:=bzt (by rw[a1];rfl)
  rw[show actWs act out=[kRoute] by unfold actWs;rw[if_pos a1]]
  have z0:ActR [kRoute] [.slc 0 0 1 1] [⟨9,.vals [strV kRoute]⟩]:=.inr ⟨0,by simp,rfl,rfl⟩
  refine(Sx.calls_any (args:=[.val (.int .i64 act),.val (.int .i64 out)]) (no_rows w) [(7,.is (.bool true))] [] (by kernel_rfl) Tryz.func75 rfl (Nat.le_of_ble_eq_true rfl) rfl ?_).mono fun en w' hp=>ActPost.of_any hp
  exact Eq.mp (by kernel_rfl) (And.intro c7 z0)
 have c7:Value.bool (act==1)=.bool false:=bzf (beq_eq_false_iff_ne.2 a1)
 by_cases a2:act=2
 ·have c10:Value.bool (act==2)=.bool true:=bzt (by rw[a2];rfl)
  rw[show actWs act out=[kDrop] by unfold actWs;rw[if_neg a1,if_pos a2]]
  have z0:ActR [kDrop] [.slc 0 0 1 1] [⟨9,.vals [strV kDrop]⟩]:=.inr ⟨0,by simp,rfl,rfl⟩
  refine(Sx.calls_any (args:=[.val (.int .i64 act),.val (.int .i64 out)]) (no_rows w) [(7,.is (.bool false)),(10,.is (.bool true))] [] (by kernel_rfl) Tryz.func75 rfl (Nat.le_of_ble_eq_true rfl) rfl ?_).mono fun en w' hp=>ActPost.of_any hp
  exact Eq.mp (by kernel_rfl) (Sx.t2 c7 c10 z0)
 have c10:Value.bool (act==2)=.bool false:=bzf (beq_eq_false_iff_ne.2 a2)
 by_cases a3:act=3
 ·have c13:Value.bool (act==3)=.bool true:=bzt (by rw[a3];rfl)
  rw[show actWs act out=[kOut,itoaT out] by unfold actWs;rw[if_neg a1,if_neg a2,if_pos a3]]
  have c15:=fun W (hW:Chg [] w W)=>itoa64 out h0 h1 W (hl.chg0 hW)
  have z0:ActR [kOut,itoaT out] [.slc 0 0 2 2] [⟨9,.vals [strV kOut,strV (itoaT out)]⟩]:=.inr ⟨0,by simp,rfl,rfl⟩
  refine(Sx.calls_any (args:=[.val (.int .i64 act),.val (.int .i64 out)]) (no_rows w) [(7,.is (.bool false)),(10,.is (.bool false)),(13,.is (.bool true)),(15,.call (strV (itoaT out)))] [] (by kernel_rfl) Tryz.func75 rfl (Nat.le_of_ble_eq_true rfl) rfl ?_).mono fun en w' hp=>ActPost.of_any hp
  exact Eq.mp (by kernel_rfl) (Sx.t4 c7 c10 c13 c15 z0)
 have c13:Value.bool (act==3)=.bool false:=bzf (beq_eq_false_iff_ne.2 a3)
 by_cases a4:act=4
 ·have c18:Value.bool (act==4)=.bool true:=bzt (by rw[a4];rfl)
  rw[show actWs act out=[kReject] by unfold actWs;rw[if_neg a1,if_neg a2,if_neg a3,if_pos a4]]
  have z0:ActR [kReject] [.slc 0 0 1 1] [⟨9,.vals [strV kReject]⟩]:=.inr ⟨0,by simp,rfl,rfl⟩
  refine(Sx.calls_any (args:=[.val (.int .i64 act),.val (.int .i64 out)]) (no_rows w) [(7,.is (.bool false)),(10,.is (.bool false)),(13,.is (.bool false)),(18,.is (.bool true))] [] (by kernel_rfl) Tryz.func75 rfl (Nat.le_of_ble_eq_true rfl) rfl ?_).mono fun en w' hp=>ActPost.of_any hp
  exact Eq.mp (by kernel_rfl) (Sx.t4 c7 c10 c13 c18 z0)
 have c18:Value.bool (act==4)=.bool false:=bzf (beq_eq_false_iff_ne.2 a4)
 rw[show actWs act out=[] by unfold actWs;rw[if_neg a1,if_neg a2,if_neg a3,if_neg a4]]
 have z0:ActR [] [.val (.slice none 0 0)] []:=.inl ⟨rfl,rfl⟩
 refine(Sx.calls_any (args:=[.val (.int .i64 act),.val (.int .i64 out)]) (no_rows w) [(7,.is (.bool false)),(10,.is (.bool false)),(13,.is (.bool false)),(18,.is (.bool false))] [] (by kernel_rfl) Tryz.func75 rfl (Nat.le_of_ble_eq_true rfl) rfl ?_).mono fun en w' hp=>ActPost.of_any hp
 exact Eq.mp (by kernel_rfl) (Sx.t4 c7 c10 c13 c18 z0)
theorem app_st(ws:List Bs)(n m:Nat)(hm:ws.length=m)(hn:n+m≤1000):True∧(strs ws).length=m*1∧(∀u∈strs ws,u.oneCell'=true)∧n+m≤maxLen∧(n+m)*16≤140737488355328:=by
 refine⟨trivial,by rw[strs_len,hm,Nat.mul_one],fun u hu=>?_,by unfold maxLen;omega,by omega⟩
 obtain⟨l,_,rfl⟩:=List.mem_map.1 hu
 rfl
theorem act_none{b:Sx.Base}{act out:Int}(ha:actWs act out=[])(h0 : -9223372036854775808≤out)(h1:out≤9223372036854775807)(hl:∀W,Chg b.S b.w W→Lan W)(W:World)(hW:Chg b.S b.w W):Calls Tryz.prog 75 #[.int .i64 act,.int .i64 out] W fun e w'=>e=.returned (.slice none 0 0)∧Chg [] W w' :=
 (action_N act out h0 h1 W (hl W hW)).mono fun en w' ⟨hc,h⟩=>by
  rcases h with⟨_,he⟩ | ⟨hne,_⟩
  ·exact⟨he,hc⟩
  ·exact absurd ha hne
def actG(m n:Nat)(cs:List Value):Sx.GCall:=⟨[],[],[],[⟨9,.vals cs⟩],.slc m 0 n n,none⟩
theorem act_some{b:Sx.Base}{row:Nat→Option Sx.Row}{m:Nat}{act out:Int}{ws:List Bs}(ha:actWs act out=ws)(hne:ws≠[])(h0 : -9223372036854775808≤out)(h1:out≤9223372036854775807)(hl:∀W,Chg b.S b.w W→Lan W)(W:World)(β:Sx.Env)(hS:Sx.See b β W row []) :
  Calls Tryz.prog 75 (([.val (.int .i64 act),.val (.int .i64 out)]:List Sx.SV).map (Sx.SV.den β)).toArray W (Sx.gPost b β W row m (actG m ws.length (strs ws))):=by
 refine(action_N act out h0 h1 W (hl W hS.chg)).mono fun en w' ⟨hc,h⟩=>?_
 rw[ha]at h
 rcases h with⟨he,_⟩ | ⟨_,k,hk,he,hb⟩
 ·exact absurd he hne
 ·refine .inl ⟨fun p hp=>(by cases hp),β.upd m k,fun i hi=>⟨?_,rfl,rfl,rfl⟩,?_,fun q hq=>(by cases hq),fun i r hr=>?_,fun i r x hr hx=>?_,fun i i' r r' x hr hr' _ _=>?_,hc⟩
  ·show β i=if i=m then k else β i
   rw[if_neg (by omega)]
  ·rw[he]
   show Ending.returned (.slice (some ⟨k,0,none⟩) ws.length ws.length)=.returned (.slice (some ⟨if m=m then k else β m,0,none⟩) ws.length ws.length)
   rw[if_pos rfl]
  ·match i,hr with
   | 0,hr=>
    cases hr
    show Blk w' (if m+0=m then k else β (m+0)) 9 (strs ws)
    rw[Nat.add_zero,if_pos rfl]
    exact hb
  ·match i,hr with
   | 0,hr=>
    cases hr
    have hx:some (if m+0=m then k else β (m+0))=some x:=hx
    rw[Nat.add_zero,if_pos rfl]at hx
    cases hx
    exact .inr hk
  ·match i,i',hr,hr' with
   | 0,0,_,_=>rfl
theorem own_lit{w:World}{b T n:Nat}{cs:List Value}(h:Blk w b T cs)(hn:cs.length=n)(hm:n≤maxLen):Own w T 1 (.slice (some ⟨b,0,none⟩) n n) n cs:=
 ⟨by rw[hn,Nat.mul_one],.inr ⟨b,0,n,cs,rfl,h,Nat.le_refl _,hm,by omega,by rw[List.drop_zero,List.take_of_length_le (by omega)]⟩⟩
theorem line_call{b:Sx.Base}{row:Nat→Option Sx.Row}{i j k m:Nat}{og:Option Nat}{p:Bool}{tx:Bs}{e:Int}(ws:List Bs)(h:TxRows row i j og p tx e)(hi:i < m)(hj:j < m)(rk:row k=some ⟨9,.own 1 ws.length (strs ws)⟩)(hn:ws.length≤1000000)(hl:tx.length+(lnB ws).length≤140737488355328)
  (W:World) (β:Sx.Env) (hS:Sx.See b β W row [i,j,k]) :
  Calls Tryz.prog 70 (([.ptr i 0,.own k]:List Sx.SV).map (Sx.SV.den β)).toArray W (Sx.gPost b β W row m (txG [k] i j m og (tx++lnB ws) e (.tuple #[]))):=by
 obtain⟨ht,hg⟩:=tx_see hS h (by simp) (by simp)
 have h2:β.n k=ws.length∧Own W 9 1 (.slice (β.a k) ws.length (β.c k)) ws.length (strs ws):=hS.held k (by simp) _ rk
 show Calls Tryz.prog 70 #[.pointer (some ⟨β i,0,none⟩),.slice (β.a k) (β.n k) (β.c k)] W _
 rw[h2.1]
 exact(lineT_N ws ht h2.2 (by omega) hl).mono fun en w' hp=>tx_gret h hi hj hg hp
theorem line_lit{b:Sx.Base}{row:Nat→Option Sx.Row}{i j k m:Nat}{og:Option Nat}{p:Bool}{tx:Bs}{e:Int}(ws:List Bs)(h:TxRows row i j og p tx e)(hi:i < m)(hj:j < m)(rk:row k=some ⟨9,.vals (strs ws)⟩)(hn:ws.length≤1000000)(hl:tx.length+(lnB ws).length≤140737488355328)
  (W:World) (β:Sx.Env) (hS:Sx.See b β W row [i,j,k]) :
  Calls Tryz.prog 70 (([.ptr i 0,.slc k 0 ws.length ws.length]:List Sx.SV).map (Sx.SV.den β)).toArray W (Sx.gPost b β W row m (txG [k] i j m og (tx++lnB ws) e (.tuple #[]))):=by
 obtain⟨ht,hg⟩:=tx_see hS h (by simp) (by simp)
 have h2:Blk W (β k) 9 (strs ws):=hS.held k (by simp) _ rk
 exact(lineT_N ws ht (own_lit h2 (strs_len ws) (by unfold maxLen;omega)) (by omega) hl).mono fun en w' hp=>tx_gret h hi hj hg hp
theorem act_nil{a o:Int}(h:actWs a o=[]):actB a o=false:=by
 unfold actWs at h
 unfold actB
 by_cases a1:a=1
 ·rw[if_pos a1]at h;cases h
 by_cases a2:a=2
 ·rw[if_neg a1,if_pos a2]at h;cases h
 by_cases a3:a=3
 ·rw[if_neg a1,if_neg a2,if_pos a3]at h;cases h
 by_cases a4:a=4
 ·rw[if_neg a1,if_neg a2,if_neg a3,if_pos a4]at h;cases h
 have:(decide (1≤a)&&decide (a≤4))=false:=by
  rw[Bool.and_eq_false_iff,decide_eq_false_iff_not,decide_eq_false_iff_not];omega
 rw[this];rfl
theorem act_cons{a o:Int}{x:Bs}{l:List Bs}(h:actWs a o=x::l):(decide (1≤a)&&decide (a≤4))=true:=by
 unfold actWs at h
 rw[Bool.and_eq_true,decide_eq_true_iff,decide_eq_true_iff]
 by_cases a1:a=1
 ·omega
 by_cases a2:a=2
 ·omega
 by_cases a3:a=3
 ·omega
 by_cases a4:a=4
 ·omega
 rw[if_neg a1,if_neg a2,if_neg a3,if_neg a4]at h
 cases h
end Go.Proofs.YtnncigmpcdehnaaGreatDoor
