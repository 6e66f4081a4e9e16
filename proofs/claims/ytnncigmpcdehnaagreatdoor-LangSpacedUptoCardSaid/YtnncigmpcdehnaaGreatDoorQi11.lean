import Derived.Test.YtnncigmpcdehnaaGreatDoorQi10
open Go.Value renaming bool→VE,int→VP,slice→VY
open List renaming append_inj→VF,getD_eq_getElem?_getD→VH,length_append→VI,getElem?_eq_getElem→VJ,range→VQ,take_of_length_le→VR,take_add_one→VU,take_length→VV,length_cons→VW,drop_zero→VX
open And renaming intro→VG
open Go.IntKind renaming signed→VK,bits→VL,min→VN,max→VO
open Eq renaming mp→VM
open Nat renaming le_refl→VT,add_zero→VZ,mul_one→Wa
namespace Go.Proofs.YtnncigmpcdehnaaGreatDoor
open Go Go.RowKit Go.Lib Go.Sort _root_.Go.Proofs.Tryz
def kP:List Kd:=.b::(xD 16 [.i .u8]++[.i .i64])
def kM:List Kd:=[.i .u8,.i .u16,.i .u16]++(kP++(kP++[.i .u8,.i .u16,.i .u16,.i .u16,.i .u16]))
def kR:List Kd:=kP++[.i .i64]
def kL:List Kd:=.s::(kM++[.i .i64,.i .i64,.s,.s])
def UZ:List Kd:=[.s,.i .u64,.i .u64,.i .u64]
def UY:List Kd:=[.s,.i .i64,.i .i64]
theorem Oz:ie prog 6 118=some kR:=by kernel_rfl
theorem Re:ie prog 6 81=some kL:=by kernel_rfl
theorem Oy:ie prog 6 122=some UZ:=by kernel_rfl
theorem Ox:ie prog 6 124=some UY:=by kernel_rfl
theorem JF{x:Nat}(h:x≤255):PF (.i .u8) (.int .u8 (x:Int)):=⟨rfl,by simp[Lit.wf,VN,VO,VK,VL];omega⟩
theorem qo{x:Nat}(h:x≤65535):PF (.i .u16) (.int .u16 (x:Int)):=⟨rfl,by simp[Lit.wf,VN,VO,VK,VL];omega⟩
theorem Ct{x:Nat}(h:x≤18446744073709551615):PF (.i .u64) (.int .u64 (x:Int)):=⟨rfl,by simp[Lit.wf,VN,VO,VK,VL];omega⟩
theorem qp{x:Int}(h : -9223372036854775808≤x∧x≤9223372036854775807):PF (.i .i64) (.int .i64 x):=⟨rfl,by simp[Lit.wf,VN,VO,VK,VL]; omega⟩
theorem JG{s:Bs}(h:s.length≤maxLen):PF .s (.string ⟨s.toArray⟩):=by show(ByteArray.mk s.toArray).size≤maxLen;simpa[ByteArray.size]using h
theorem zO(f:Nat→Nat)(hf:∀j,f j≤255):∀l:List Nat,cz (xD l.length [.i .u8]) (l.map fun j=>.int .u8 (f j:Int))
 | []=>trivial
 |j::l=>⟨JF (hf j),zO f hf l⟩
theorem qq{p:Px}(hk : -9223372036854775808≤p.k∧p.k≤9223372036854775807):cz kP p.cells:=by show cz (.b::(xD 16 [.i .u8]++[.i .i64])) (.bool p.v::((VQ 16).map (fun j=>VP .u8 (an p.n j:Int))++[.int .i64 p.k]));refine⟨trivial,cz.app ?_ ⟨qp hk,trivial⟩⟩;have:=zO (an p.n) (fun j=>by have:=bH p.n j;omega) (VQ 16);simpa using this
theorem Gl{m:Mt}(h:m.Wf):cz kM m.cells:=by unfold kM Mt.cells;refine cz.app ⟨JF (by have:=h.asks;omega),qo h.fE.1,qo h.fE.2,trivial⟩ (cz.app (qq h.sk) (cz.app (qq h.dk) ⟨JF h.pr,qo h.sp.1,qo h.sp.2,qo h.dp.1,qo h.dp.2,trivial⟩))
def nM(x:Int):Prop := -9223372036854775808≤x∧x≤9223372036854775807
structure Rt.Wf(r:Rt):Prop where
 n:r.pf.n < 2^128
 k:nM r.pf.k
 o:nM r.out
structure Me.Wf(m:Me):Prop where
 s:m.name.length≤maxLen
 a:m.num≤18446744073709551615
 b:m.den≤18446744073709551615
 c:m.nR≤18446744073709551615
structure Mi.Wf(m:Mi):Prop where
 s:m.name.length≤maxLen
 o:nM m.out
 r:nM m.room
structure Rl.Wf(r:Rl):Prop where
 s:r.name.length≤maxLen
 m:r.mt.Wf
 a:nM r.act
 o:nM r.out
 e:r.cK.length≤maxLen
 i:r.bL.length≤maxLen
theorem we{r:Rt}(h:r.Wf):cz kR r.cells:=cz.app (qq h.k) ⟨qp h.o,trivial⟩
theorem tD{m:Me}(h:m.Wf):cz UZ m.cells:=⟨JG h.s,Ct h.a,Ct h.b,Ct h.c,trivial⟩
theorem tC{m:Mi}(h:m.Wf):cz UY m.cells:=⟨JG h.s,qp h.o,qp h.r,trivial⟩
theorem wg{r:Rl}(h:r.Wf):cz kL r.cells:=⟨JG h.s,cz.app (Gl h.m) ⟨qp h.a,qp h.o,JG h.e,JG h.i,trivial⟩⟩
theorem Px.aM(p:Px):p.cells.length=18:=by simp[Px.cells,ep,eA,az]
theorem int_inj{q:IntKind}{a b:Nat}(h:VP q (a:Int)=.int q (b:Int)):a=b:=by injection h with _ h;omega
theorem str_inj{a b:Bs}(h:Value.string ⟨a.toArray⟩=.string ⟨b.toArray⟩):a=b:=by injection h with h;injection h with h;simpa using h
theorem Px.cP{p q:Px}(hp:p.n < 2^128)(hq:q.n < 2^128)(h:p.cells=q.cells):p=q:=by
 have h:VE p.v::((VQ 16).map (fun j=>VP .u8 (an p.n j:Int))++[.int .i64 p.k])=.bool q.v::((VQ 16).map (fun j=>VP .u8 (an q.n j:Int))++[.int .i64 q.k]):=h;injection h with h1 h2;injection h1 with h1;obtain⟨h2,h3⟩:=VF h2 (by simp);injection h3 with h3 _;injection h3 with _ h3;have hb:p.n=q.n:=lq hp hq fun i hi=>by rw[List.map_inj_left]at h2;exact int_inj (h2 i (by simpa using hi))
 cases p;cases q;simp_all
theorem NH{a b:Mt}(h0:a.asks=b.asks)(h1:a.fE=b.fE)(h2:a.src=b.src)(h3:a.dst=b.dst)(h4:a.bE=b.bE)(h5:a.sp=b.sp)(h6:a.dp=b.dp):a=b:=by cases a;cases b;simp_all
theorem Mt.cP{a b:Mt}(ha:a.Wf)(hb:b.Wf)(h:a.cells=b.cells):a=b:=by unfold Mt.cells at h;obtain⟨h1,h2⟩:=VF h (by simp);obtain⟨h3,h4⟩:=VF h2 (by rw[Px.aM,Px.aM]);obtain⟨h5,h6⟩:=VF h4 (by rw[Px.aM,Px.aM]);injection h1 with e0 h1;injection h1 with e1 h1;injection h1 with e2 _;injection h6 with e3 h6;injection h6 with e4 h6;injection h6 with e5 h6;injection h6 with e6 h6;injection h6 with e7 _;exact NH (int_inj e0) (Prod.ext (int_inj e1) (int_inj e2)) (Px.cP ha.sn hb.sn h3) (Px.cP ha.dn hb.dn h5) (int_inj e3) (Prod.ext (int_inj e4) (int_inj e5)) (Prod.ext (int_inj e6) (int_inj e7))
theorem Rt.cP{a b:Rt}(ha:a.Wf)(hb:b.Wf)(h:a.cells=b.cells):a=b:=by obtain⟨h1,h2⟩:=VF h (by rw[Px.aM,Px.aM]);injection h2 with h2 _;injection h2 with _ h2;have:=Px.cP ha.n hb.n h1;cases a;cases b;simp_all
theorem Me.cP{a b:Me}(h:a.cells=b.cells):a=b:=by injection h with h1 h;injection h with h2 h;injection h with h3 h;injection h with h4 _;have e1:=str_inj h1;have e2:=int_inj h2;have e3:=int_inj h3;have e4:=int_inj h4;cases a;cases b;simp_all
theorem Mi.cP{a b:Mi}(h:a.cells=b.cells):a=b:=by injection h with h1 h;injection h with h2 h;injection h with h3 _;have e1:=str_inj h1;injection h2 with _ h2;injection h3 with _ h3;cases a;cases b;simp_all
theorem Mt.aM(m:Mt):m.cells.length=44:=by unfold Mt.cells;simp only[VI,VW,List.length_nil,Px.aM]
theorem Rl.cP{a b:Rl}(ha:a.Wf)(hb:b.Wf)(h:a.cells=b.cells):a=b:=by injection h with h1 h;obtain⟨h2,h⟩:=VF h (by rw[Mt.aM,Mt.aM]);injection h with h3 h;injection h with h4 h;injection h with h5 h;injection h with h6 _;have e1:=str_inj h1;have e2:=Mt.cP ha.m hb.m h2;injection h3 with _ h3;injection h4 with _ h4;have e5:=str_inj h5;have e6:=str_inj h6;cases a;cases b;simp_all
open Classical in
noncomputable def eh{α:Type}(a b:α):Bool:=decide (a=b)
theorem bU{α:Type}(a b:α):eh a b=true↔a=b:=by unfold eh;simp
theorem IV(x y:Operand){a b:Rt}(ha:a.Wf)(hb:b.Wf)(W:World):(do eqGuard .neq 118 x y (.agg a.cells.toArray) (.agg b.cells.toArray);binOp .neq 118 (.agg a.cells.toArray) (.agg b.cells.toArray):Sem Value).run prog W=.ok (.bool (!eh a b)) W:=
 (yq x y (by kernel_rfl) Oz (by kernel_rfl) (by kernel_rfl) (we ha) (we hb) ((bU a b).trans ⟨fun h=>by rw[h],Rt.cP ha hb⟩) W).2
theorem JT(x y:Operand){a b:Me}(ha:a.Wf)(hb:b.Wf)(W:World):(do eqGuard .neq 122 x y (.agg a.cells.toArray) (.agg b.cells.toArray);binOp .neq 122 (.agg a.cells.toArray) (.agg b.cells.toArray):Sem Value).run prog W=.ok (.bool (!eh a b)) W:=
 (yq x y (by kernel_rfl) Oy (by kernel_rfl) (by kernel_rfl) (tD ha) (tD hb) ((bU a b).trans ⟨fun h=>by rw[h],Me.cP⟩) W).2
theorem JR(x y:Operand){a b:Mi}(ha:a.Wf)(hb:b.Wf)(W:World):(do eqGuard .neq 124 x y (.agg a.cells.toArray) (.agg b.cells.toArray);binOp .neq 124 (.agg a.cells.toArray) (.agg b.cells.toArray):Sem Value).run prog W=.ok (.bool (!eh a b)) W:=
 (yq x y (by kernel_rfl) Ox (by kernel_rfl) (by kernel_rfl) (tC ha) (tC hb) ((bU a b).trans ⟨fun h=>by rw[h],Mi.cP⟩) W).2
theorem IY(x y:Operand){a b:Rl}(ha:a.Wf)(hb:b.Wf)(W:World):(do eqGuard .neq 81 x y (.agg a.cells.toArray) (.agg b.cells.toArray);binOp .neq 81 (.agg a.cells.toArray) (.agg b.cells.toArray):Sem Value).run prog W=.ok (.bool (!eh a b)) W:=
 (yq x y (by kernel_rfl) Re (by kernel_rfl) (by kernel_rfl) (wg ha) (wg hb) ((bU a b).trans ⟨fun h=>by rw[h],Rl.cP ha hb⟩) W).2
set_option maxRecDepth 100000
open Go Go.RowKit Go.Lib Go.Sort _root_.Go.Proofs.Tryz
def Ic(ws:List Bs)(l:List Sx.SV)(mem:List Sx.Row):Prop:=(ws=[]∧l=[.val (.slice none 0 0)])∨∃k,ws≠[]∧l=[.lO k 0 ws.length ws.length]∧mem[k]?=some ⟨9,.ai (strs ws)⟩
def jC(ws:List Bs)(w:World)(e:Ending)(w':World):Prop:=ah [] w w'∧((ws=[]∧e=.returned (.slice none 0 0))∨(ws≠[]∧∃b,w.heap.size≤b∧e=.returned (.slice (some ⟨b,0,none⟩) ws.length ws.length)∧aq w' b 9 (strs ws)))
theorem jC.gw{ws:List Bs}{w:World}{en:Ending}{w':World}(h:Sx.cI ⟨w,[],fun _ _=>False⟩ (Ic ws) en w'):jC ws w en w':=by
 rcases h with⟨β,l,mem,⟨h0,rfl⟩ | ⟨k,h0,rfl,hk⟩,he,hR⟩ | ⟨_,_,hf,_⟩
 ·exact⟨hR.aD,.inl ⟨h0,he⟩⟩
 ·have r:=hR.held k _ hk
  have hn:=hR.new k _ (β k) hk rfl;refine⟨hR.aD,.inr ⟨h0,β k,?_,he,r⟩⟩;rcases hn with h|h
  ·cases h
  ·exact h
 ·exact hf.elim
theorem gE(w:World):Sx.Rows ⟨w,[],fun _ _=>False⟩ (Sx.cD []) w []:=Sx.fT (w:=w) (S:=[]) (PP:=fun _ _=>False) (G:=[]) (fun q hq=>by cases hq) (fun q hq=>by cases hq) (by simp)
theorem BC(act out:Int)(h0 : -9223372036854775808≤out)(h1:out≤9223372036854775807)(w:World)(hl:dD w):Calls prog 75 #[.int .i64 act,.int .i64 out] w (jC (aS act out) w):=by
 by_cases a1:act=1
 ·have c7:VE (act==1)=.bool true:=Bk (by rw[a1];rfl)
  rw[show aS act out=[di] by unfold aS;rw[if_pos a1]];have z0:Ic [di] [.lO 0 0 1 1] [⟨9,.ai [ab di]⟩]:=.inr ⟨0,by simp,rfl,rfl⟩;refine(Sx.bO (args:=[.val (.int .i64 act),.val (.int .i64 out)]) (gE w) [bq 7 true] [] (by kernel_rfl) func75 rfl (dR rfl) rfl ?_).mono fun en w' hp=>jC.gw hp;exact VM (by kernel_rfl) (VG c7 z0)
 have c7:VE (act==1)=.bool false:=xl (beq_eq_false_iff_ne.2 a1);by_cases a2:act=2
 ·have c10:VE (act==2)=.bool true:=Bk (by rw[a2];rfl)
  rw[show aS act out=[lA] by unfold aS;rw[if_neg a1,if_pos a2]];have z0:Ic [lA] [.lO 0 0 1 1] [⟨9,.ai [ab lA]⟩]:=.inr ⟨0,by simp,rfl,rfl⟩;refine(Sx.bO (args:=[.val (.int .i64 act),.val (.int .i64 out)]) (gE w) [bq 7 false,bq 10 true] [] (by kernel_rfl) func75 rfl (dR rfl) rfl ?_).mono fun en w' hp=>jC.gw hp;exact VM (by kernel_rfl) (Sx.t2 c7 c10 z0)
 have c10:VE (act==2)=.bool false:=xl (beq_eq_false_iff_ne.2 a2);by_cases a3:act=3
 ·have c13:VE (act==3)=.bool true:=Bk (by rw[a3];rfl)
  rw[show aS act out=[oy,cx out] by unfold aS;rw[if_neg a1,if_neg a2,if_pos a3]];have c15:=fun W (hW:ah [] w W)=>my out h0 h1 W (hl.cW hW);have z0:Ic [oy,cx out] [.lO 0 0 2 2] [⟨9,.ai [ab oy,ab (cx out)]⟩]:=.inr ⟨0,by simp,rfl,rfl⟩;refine(Sx.bO (args:=[.val (.int .i64 act),.val (.int .i64 out)]) (gE w) [bq 7 false,bq 10 false,bq 13 true,(15,.call (ab (cx out)))] [] (by kernel_rfl) func75 rfl (dR rfl) rfl ?_).mono fun en w' hp=>jC.gw hp;exact VM (by kernel_rfl) (Sx.t4 c7 c10 c13 c15 z0)
 have c13:VE (act==3)=.bool false:=xl (beq_eq_false_iff_ne.2 a3);by_cases a4:act=4
 ·have c18:VE (act==4)=.bool true:=Bk (by rw[a4];rfl)
  rw[show aS act out=[fZ] by unfold aS;rw[if_neg a1,if_neg a2,if_neg a3,if_pos a4]];have z0:Ic [fZ] [.lO 0 0 1 1] [⟨9,.ai [ab fZ]⟩]:=.inr ⟨0,by simp,rfl,rfl⟩;refine(Sx.bO (args:=[.val (.int .i64 act),.val (.int .i64 out)]) (gE w) [bq 7 false,bq 10 false,bq 13 false,bq 18 true] [] (by kernel_rfl) func75 rfl (dR rfl) rfl ?_).mono fun en w' hp=>jC.gw hp;exact VM (by kernel_rfl) (Sx.t4 c7 c10 c13 c18 z0)
 have c18:VE (act==4)=.bool false:=xl (beq_eq_false_iff_ne.2 a4);rw[show aS act out=[] by unfold aS;rw[if_neg a1,if_neg a2,if_neg a3,if_neg a4]];have z0:Ic [] [.val (.slice none 0 0)] []:=.inl ⟨rfl,rfl⟩;refine(Sx.bO (args:=[.val (.int .i64 act),.val (.int .i64 out)]) (gE w) [bq 7 false,bq 10 false,bq 13 false,bq 18 false] [] (by kernel_rfl) func75 rfl (dR rfl) rfl ?_).mono fun en w' hp=>jC.gw hp;exact VM (by kernel_rfl) (Sx.t4 c7 c10 c13 c18 z0)
theorem yH(ws:List Bs)(n m:Nat)(hm:ws.length=m)(hn:n+m≤1000):True∧(strs ws).length=m*1∧(∀u∈strs ws,u.oneCell'=true)∧n+m≤maxLen∧(n+m)*16≤140737488355328:=by refine⟨trivial,by rw[oV,hm,Wa],fun u hu=>?_,by unfold maxLen;omega,by omega⟩;obtain⟨l,_,rfl⟩:=List.mem_map.1 hu;rfl
theorem BE{b:Sx.aY}{act out:Int}(ha:aS act out=[])(h0 : -9223372036854775808≤out)(h1:out≤9223372036854775807)(hl:∀W,ah b.S b.w W→dD W)(W:World)(hW:ah b.S b.w W):Calls prog 75 #[.int .i64 act,.int .i64 out] W (Rn W (.slice none 0 0)) :=
 (BC act out h0 h1 W (hl W hW)).mono fun en w' ⟨hc,h⟩=>by
  rcases h with⟨_,he⟩ | ⟨hne,_⟩
  ·exact⟨he,hc⟩
  ·exact absurd ha hne
def LJ(m n:Nat)(cs:List Value):Sx.cn:=⟨[],[],[],[⟨9,.ai cs⟩],.lO m 0 n n,none⟩
theorem BD{b:Sx.aY}{row:Nat→Option Sx.Row}{m:Nat}{act out:Int}{ws:List Bs}(ha:aS act out=ws)(hne:ws≠[])(h0 : -9223372036854775808≤out)(h1:out≤9223372036854775807)(hl:∀W,ah b.S b.w W→dD W)(W:World)(β:Sx.Env)(hS:Sx.dS b β W row []) :
  Calls prog 75 (([.val (.int .i64 act),.val (.int .i64 out)]:List Sx.SV).map (Sx.SV.den β)).toArray W (Sx.br b β W row m (LJ m ws.length (strs ws))):=by
 refine(BC act out h0 h1 W (hl W hS.aD)).mono fun en w' ⟨hc,h⟩=>?_;rw[ha]at h;rcases h with⟨he,_⟩ | ⟨_,k,hk,he,hb⟩
 ·exact absurd he hne
 ·refine .inl ⟨fun p hp=>(by cases hp),β.fI m k,fun i hi=>⟨?_,rfl,rfl,rfl⟩,?_,fun q hq=>(by cases hq),fun i r hr=>?_,fun i r x hr hx=>?_,fun i i' r r' x hr hr' _ _=>?_,hc⟩
  ·show β i=if i=m then k else β i
   rw[if_neg (by omega)]
  ·rw[he]
   show Ending.returned (.slice (some ⟨k,0,none⟩) ws.length ws.length)=.returned (.slice (some ⟨if m=m then k else β m,0,none⟩) ws.length ws.length);rw[if_pos rfl]
  ·match i,hr with
   | 0,hr=>cases hr;show aq w' (if m+0=m then k else β (m+0)) 9 (strs ws);rw[VZ,if_pos rfl];exact hb
  ·match i,hr with
   | 0,hr=>cases hr;have hx:some (if m+0=m then k else β (m+0))=some x:=hx;rw[VZ,if_pos rfl]at hx;cases hx;exact .inr hk
  ·match i,i',hr,hr' with
   | 0,0,_,_=>rfl
theorem Ny{w:World}{b T n:Nat}{cs:List Value}(h:aq w b T cs)(hn:cs.length=n)(hm:n≤maxLen):Own w T 1 (.slice (some ⟨b,0,none⟩) n n) n cs:=
 ⟨by rw[hn,Wa],.inr ⟨b,0,n,cs,rfl,h,VT _,hm,by omega,by rw[VX,VR (by omega)]⟩⟩
theorem wu{b:Sx.aY}{row:Nat→Option Sx.Row}{i j k m:Nat}{og:Option Nat}{p:Bool}{tx:Bs}{e:Int}(ws:List Bs)(h:mP row i j og p tx e)(hi:i < m)(hj:j < m)(rk:row k=some ⟨9,.own 1 ws.length (strs ws)⟩)(hn:ws.length≤1100000)(hl:tx.length+(fL ws).length≤140737488355328)
  (W:World) (β:Sx.Env) (hS:Sx.dS b β W row [i,j,k]) :
  Calls prog 70 (([.ptr i 0,.own k]:List Sx.SV).map (Sx.SV.den β)).toArray W (Sx.br b β W row m (yU [k] i j m og (tx++fL ws) e (.tuple #[]))):=by
 obtain⟨ht,hg⟩:=nY hS h (by simp) (by simp);have h2:β.n k=ws.length∧Own W 9 1 (.slice (β.a k) ws.length (β.c k)) ws.length (strs ws):=hS.held k (by simp) _ rk;show Calls prog 70 #[.pointer (some ⟨β i,0,none⟩),.slice (β.a k) (β.n k) (β.c k)] W _;rw[h2.1];exact(EG ws ht h2.2 (by omega) hl).mono fun en w' hp=>rO h hi hj hg hp
theorem Ke{b:Sx.aY}{row:Nat→Option Sx.Row}{i j k m:Nat}{og:Option Nat}{p:Bool}{tx:Bs}{e:Int}(ws:List Bs)(h:mP row i j og p tx e)(hi:i < m)(hj:j < m)(rk:row k=some ⟨9,.ai (strs ws)⟩)(hn:ws.length≤1100000)(hl:tx.length+(fL ws).length≤140737488355328)
  (W:World) (β:Sx.Env) (hS:Sx.dS b β W row [i,j,k]) :
  Calls prog 70 (([.ptr i 0,.lO k 0 ws.length ws.length]:List Sx.SV).map (Sx.SV.den β)).toArray W (Sx.br b β W row m (yU [k] i j m og (tx++fL ws) e (.tuple #[]))):=by
 obtain⟨ht,hg⟩:=nY hS h (by simp) (by simp);have h2:aq W (β k) 9 (strs ws):=hS.held k (by simp) _ rk;exact(EG ws ht (Ny h2 (oV ws) (by unfold maxLen;omega)) (by omega) hl).mono fun en w' hp=>rO h hi hj hg hp
theorem Pg{a o:Int}(h:aS a o=[]):jf a o=false:=by
 unfold aS at h;unfold jf;by_cases a1:a=1
 ·rw[if_pos a1]at h;cases h
 by_cases a2:a=2
 ·rw[if_neg a1,if_pos a2]at h;cases h
 by_cases a3:a=3
 ·rw[if_neg a1,if_neg a2,if_pos a3]at h;cases h
 by_cases a4:a=4
 ·rw[if_neg a1,if_neg a2,if_neg a3,if_pos a4]at h;cases h
 have:(decide (1≤a)&&decide (a≤4))=false:=by rw[Bool.and_eq_false_iff,decide_eq_false_iff_not,decide_eq_false_iff_not];omega
 rw[this];rfl
theorem LH{a o:Int}{x:Bs}{l:List Bs}(h:aS a o=x::l):(decide (1≤a)&&decide (a≤4))=true:=by
 unfold aS at h;rw[Bool.and_eq_true,decide_eq_true_iff,decide_eq_true_iff];by_cases a1:a=1
 ·omega
 by_cases a2:a=2
 ·omega
 by_cases a3:a=3
 ·omega
 by_cases a4:a=4
 ·omega
 rw[if_neg a1,if_neg a2,if_neg a3,if_neg a4]at h;cases h
set_option maxRecDepth 100000
open Go Go.RowKit Go.Lib Go.Sort _root_.Go.Proofs.Tryz
abbrev Qg(w:World)(g:Nat)(A:Option Go.Addr):Sx.aY:=⟨w,oS g A,fun _ _=>False⟩
abbrev rL(g:Nat)(p:Bool)(tx:Bs)(r:Rl)(e:Int)(mem:List Sx.Row):List Sx.Row:=gY (some g) [.dQ p 0 0,.own 1,.val (.int .i64 e)]::⟨5,.own 1 tx.length (qc tx)⟩::⟨81,.ai r.cells⟩::mem
abbrev rD(g M:Nat)(tx F:Bs)(r:Rl)(e:Int)(mem:List Sx.Row):List Sx.Row:=gY (some g) [.dQ true 0 0,.own M,.val (.int .i64 e)]::Sx.ak::⟨81,.ai r.cells⟩::(mem++[⟨5,.own 1 (tx++F).length (qc (tx++F))⟩])
abbrev rF(r:Rl)(l:List Bs):List Bs:=fY::r.name::Gb r.mt::wB::l
abbrev wH(g:Nat)(p:Bool)(e:Int):Sx.Hint:=.au (jN [] 0 1 (some g) p e)
abbrev VA(w:World)(g:Nat)(A:Option Go.Addr)(tx:Bs)(r:Rl)(F:List Bs)(e:Int):Prop:=Calls prog 74 #[(pt g 0),.agg r.cells.toArray] w (lr g A (.tuple #[]) (tx++fL F) e w)
abbrev Vn(g:Nat)(p:Bool)(r:Rl)(b1 b2:Bool)(ck e1 e2:Int)(l:List (Nat×Sx.Hint)):List (Nat×Sx.Hint):=(11,.call (.bool b1))::(16,.call (.tuple #[ab (Gb r.mt),.int .i64 ck]))::(21,.is (.bool b2))::(12,wH g p e1)::(22,wH g p e2)::l
abbrev Vz(tx:Bs)(F:List Bs):Prop:=tx.length+(fL F).length≤140737488355328
structure UQ(w:World)(g:Nat)(p:Bool)(A:Option Go.Addr)(tx:Bs)(r:Rl)(b1 b2 b4 b5 bo:Bool)(ck e e1 e2 e3 e4 e5:Int):Prop where
 hl:∀W,ah (oS g A) w W→dD W
 yB:∀W,ah (oS g A) w W→Calls prog 33 #[ab r.name] W (Rn W (.bool b1))
 Bj:∀W,ah (oS g A) w W→Calls prog 31 #[.agg r.mt.cells.toArray] W (Rn W (.tuple #[ab (Gb r.mt),.int .i64 ck]))
 c21:VE (ck==0)=.bool b2
 h1:e1=aO b1 201 e
 h2:e2=aO b2 190 e1
 h3:e3=aO bo 2 e2
 h4:e4=aO b4 201 e3
 h5:e5=aO b5 201 e4
 o0 : -9223372036854775808≤r.out
 o1:r.out≤9223372036854775807
theorem sr(w:World)(g:Nat)(p:Bool)(A:Option Go.Addr)(tx:Bs)(r:Rl){e e':Int}{b:Bool}{code:Int}(m:Nat)(mem:List Sx.Row)(he:e'=aO b code e)(W:World)(β:Sx.Env)(hS:Sx.dS (Qg w g A) β W (Sx.rowAt (rL g p tx r e mem)) [0,1]):Calls prog 69 (([.ptr 0 0,.val (.bool b),.val (.int .i64 code)]:List Sx.SV).map (Sx.SV.den β)).toArray W (Sx.br (Qg w g A) β W (Sx.rowAt (rL g p tx r e mem)) m (jN [] 0 1 (some g) p e')):=by rw[he];exact qd b code ⟨rfl,rfl⟩ W β hS
theorem QR(w:World)(g:Nat)(p:Bool)(A:Option Go.Addr)(tx:Bs)(r:Rl)(e:Int)(mem:List Sx.Row)(k m:Nat)(ws:List Bs)(hm:1 < m)(rk:Sx.rowAt (rL g p tx r e mem) k=some ⟨9,.own 1 ws.length (strs ws)⟩)(hn:ws.length≤1100000)(hl:tx.length+(fL ws).length≤140737488355328)(W:World)(β:Sx.Env)(hS:Sx.dS (Qg w g A) β W (Sx.rowAt (rL g p tx r e mem)) [0,1,k]) :
  Calls prog 70 (([.ptr 0 0,.own k]:List Sx.SV).map (Sx.SV.den β)).toArray W (Sx.br (Qg w g A) β W (Sx.rowAt (rL g p tx r e mem)) m (yU [k] 0 1 m (some g) (tx++fL ws) e (.tuple #[]))):=
 wu (p:=p) ws ⟨rfl,rfl⟩ (by omega) hm rk hn hl W β hS
theorem Fo(P:World→Prop)(n:Nat)(hn:n≤1000):(∀W,P W→∃A c,VY none 0 0=.slice A 0 c∧(0 < ([]:List Value).length→∃ad,A=some ad∧∀(j:Nat) (u:Value),([]:List Value)[j]?=some u→W.cell? (ad.add j)=some u))∧([]:List Value).length=0*1∧(∀u∈([]:List Value),u.oneCell'=true)∧n+0≤maxLen∧(n+0)*16≤140737488355328:=
 ⟨fun _ _=>⟨none,0,rfl,fun hh=>absurd hh (Nat.lt_irrefl _)⟩,rfl,fun u hu=>(by cases hu),by unfold maxLen;omega,by omega⟩
theorem se(n:Nat){x:Bs}{b:Bool}(h:decide (x=[])=b)(W:World):(do eqGuard .eql 9 (.tmp n) (.const (ab [])) (ab x) (ab []);binOp .eql 9 (ab x) (ab []):Sem Value).run prog W=.ok (.bool b) W:=fP (.tmp n) (.const (ab [])) x [] b h W
theorem sn(n:Nat){x:Bs}{b:Bool}(h:decide (x=[])=!b)(W:World):(do eqGuard .neq 9 (.tmp n) (.const (ab [])) (ab x) (ab []);binOp .neq 9 (ab x) (ab []):Sem Value).run prog W=.ok (.bool b) W:=
 (xt (.tmp n) (.const (ab [])) x [] W).trans (by rw[show decide (x≠[])=b from by rw[decide_not,h,Bool.not_not]])
def bP(b x:Bool):Bool:=match b with
 |true=>true
 |false=>x
def bQ(na bg bz bo:Bool):Bool:=match na with
 |true=>false
 |false=>match bg with
  |false=>false
  |true=>bP bz bo
def n2(b:Bool)(n:Nat):Nat:=match b with
 |true=>n
 |false=>n+2
def x2(b:Bool)(xs ys:List Value):List Value:=match b with
 |true=>xs
 |false=>xs++ys
def ra(na:Bool)(L:List Bs):List Sx.Row:=match na with
 |true=>[]
 |false=>[⟨9,.ai (strs L)⟩]
def vq(b:Bool)(ws:List Bs)(l:List Sx.Row):List Sx.Row:=match b with
 |true=>l
 |false=>Sx.ak::⟨9,.ai (strs ws)⟩::l
def sL(L:List Bs):List Value:=((strs L).drop 0).take (L.length*1)
theorem Eb(L:List Bs):sL L=strs L:=by unfold sL;rw[VX,VR (by simp[strs])]
def RY(r:Rl)(L:List Bs)(bm bi:Bool):Sx.Row:=⟨9,.own 1 (n2 bi (n2 bm (4+L.length))) (x2 bi (x2 bm (strs [fY,r.name,Gb r.mt,wB]++sL L) (strs [bK,r.cK])) (strs [ba,r.bL]))⟩
def Ui(na:Bool)(r:Rl)(L:List Bs)(bm bi:Bool)(l:List Sx.Row):List Sx.Row:=ra na L++(Sx.ak::vq bm [bK,r.cK] (vq bi [ba,r.bL] l))
def RZ(na bm bi:Bool):Nat:=n2 bi (n2 bm (match na with|true=>4|false=>5))
def SA(b:Bool)(k s:Bs):List Bs:=match b with
 |true=>[]
 |false=>[k,s]
def Ie(r:Rl)(L:List Bs)(bm bi:Bool):List Bs:=rF r (L++(SA bm bK r.cK++SA bi ba r.bL))
theorem Qn(r:Rl)(L:List Bs)(bm bi:Bool):RY r L bm bi=⟨9,.own 1 (Ie r L bm bi).length (strs (Ie r L bm bi))⟩:=by unfold RY Ie rF;rw[Eb];cases bm<;>cases bi<;>simp[n2,x2,SA,strs,Nat.add_comm,Nat.add_left_comm]<;>omega
def UM(na:Bool)(w:World)(S:List Nat)(L:List Bs):Prop:=match na with
 |true=>(∀W,ah S w W→∃A c,VY none 0 0=.slice A 0 c∧(0 < ([]:List Value).length→∃ad,A=some ad∧∀(j:Nat) (u:Value),([]:List Value)[j]?=some u→W.cell? (ad.add j)=some u))∧([]:List Value).length=0*1∧(∀u∈([]:List Value),u.oneCell'=true)∧4+0≤maxLen∧(4+0)*16≤140737488355328
 |false=>True∧(sL L).length=L.length*1∧(∀u∈sL L,u.oneCell'=true)∧4+L.length≤maxLen∧(4+L.length)*16≤140737488355328
def UN(na:Bool)(w:World)(g:Nat)(p:Bool)(A:Option Go.Addr)(tx:Bs)(r:Rl)(e2:Int)(L:List Bs):Prop:=match na with
 |true=>∀W,ah (oS g A) w W→Calls prog 75 #[.int .i64 r.act,.int .i64 r.out] W (Rn W (.slice none 0 0))
 |false=>∀W β,Sx.dS (Qg w g A) β W (Sx.rowAt (rL g p tx r e2 [])) []→Calls prog 75 (([.val (.int .i64 r.act),.val (.int .i64 r.out)]:List Sx.SV).map (Sx.SV.den β)).toArray W (Sx.br (Qg w g A) β W (Sx.rowAt (rL g p tx r e2 [])) 3 (LJ 3 L.length (strs L)))
def Va(na:Bool)(L:List Bs):Sx.Hint:=match na with
 |true=>.call (.slice none 0 0)
 |false=>.au (LJ 3 L.length (strs L))
theorem Qm{w:World}{g:Nat}{p:Bool}{A:Option Go.Addr}{c:Nat}{tx:Bs}{r:Rl}{b1 b2 b4 b5 bo:Bool}{ck e e1 e2 e3 e4 e5:Int}{L:List Bs}{na bg bz bm bi:Bool}(h:Tx w g p A c tx e)(H:UQ w g p A tx r b1 b2 (bP bm b4) (bP bi b5) (bQ na bg bz bo) ck e e1 e2 e3 e4 e5)
  (k4:bm=false→∀W,ah (oS g A) w W→Calls prog 33 #[ab r.cK] W (Rn W (.bool b4))) (k5:bi=false→∀W,ah (oS g A) w W→Calls prog 33 #[ab r.bL] W (Rn W (.bool b5)))
  (ha:aS r.act r.out=L) (hL:L.length≤10) (hna:decide (L=[])=na) (hg:decide (r.out≥0)=bg) (hz:decide (r.out=0)=bz) (hb:decide (r.act=3)=bo) (hm:decide (r.cK=[])=bm) (hi:decide (r.bL=[])=bi) (hle:Vz tx (Ie r L bm bi)):VA w g A tx r (Ie r L bm bi) e5:=by
 have c34:VE (decide (r.out≥0))=.bool bg:=congrArg _ hg;have c39:VE (r.out==0)=.bool bz:=congrArg _ hz;have c43:VE (r.act==3)=.bool bo:=congrArg _ hb;have c27:UN na w g p A tx r e2 L:=by
  cases na with
  |true=>exact fun W hW=>BE (b:=(Qg w g A)) (ha.trans (of_decide_eq_true hna)) H.o0 H.o1 H.hl W hW
  |false=>exact fun W β hS=>BD (m:=3) ha (of_decide_eq_false hna) H.o0 H.o1 H.hl W β hS
 have c72:UM na w (oS g A) L:=by
  cases na with
  |true=>exact Fo (ah (oS g A) w) 4 (by decide)
  |false=>exact(show True∧(sL L).length=L.length*1∧(∀u∈sL L,u.oneCell'=true)∧4+L.length≤maxLen∧(4+L.length)*16≤140737488355328 from by rw[Eb];exact yH L 4 L.length rfl (by omega))
 have c46:=sr w g p A tx r (ra na L).length.succ.succ.succ (ra na L) H.h3;have c56:=sr w g p A tx r (ra na L).length.succ.succ.succ (ra na L) H.h4;have c66:=sr w g p A tx r (ra na L).length.succ.succ.succ (ra na L) H.h5;have c80:=yH [bK,r.cK] (4+L.length) 2 rfl (by omega);have c88:=yH [ba,r.bL] (n2 bm (4+L.length)) 2 rfl (by cases bm<;>(show _≤1000;simp only[n2];omega));have rk:Sx.rowAt (rL g p tx r e5 (Ui na r L bm bi [RY r L bm bi])) (RZ na bm bi)=some (RY r L bm bi):=by cases na<;>cases bm<;>cases bi<;>rfl
 have c91:=QR w g p A tx r e5 (Ui na r L bm bi [RY r L bm bi]) (RZ na bm bi) (RZ na bm bi+1) (Ie r L bm bi) (by cases na<;>cases bm<;>cases bi<;>decide) (rk.trans (congrArg some (Qn r L bm bi))) (by cases bm<;>cases bi<;>simp[Ie,SA]<;>omega) hle;have z0:Ph g (tx++fL (Ie r L bm bi)) e5 [] (rD g (RZ na bm bi+1) tx (fL (Ie r L bm bi)) r e5 (Ui na r L bm bi [RY r L bm bi])):=by cases na<;>cases bm<;>cases bi<;>exact⟨_,rfl,rfl,rfl⟩
 have CH:=Sx.t4 H.yB (sr w g p A tx r 3 [] H.h1) H.Bj H.c21 (Sx.t2 (sr w g p A tx r 3 [] H.h2) c27 (dt.mk (b:=na) (fun _=>c34) (dt.mk (b:=na||!bg) (fun _=>c39) (dt.mk (b:=na||!bg||bz) (fun _=>c43) (Sx.t2 c46 (se 49 hm) (dt.mk k4 (Sx.t2 c56 (se 59 hi) (dt.mk k5 (Sx.t2 c66 c72 (VG (sn (b:=!bm) 74 (by rw[Bool.not_not];exact hm)) (dt.mk (b:=bm) (fun _=>c80) (VG (sn (b:=!bi) 82 (by rw[Bool.not_not];exact hi)) (dt.mk (b:=bi) (fun _=>c88) (VG c91 z0))))))))))))));refine DP [.agg r.cells.toArray] h (Vn g p r b1 b2 ck e1 e2 [(27,Va na L),bq 34 bg,bq 39 bz,bq 43 bo,(72,.app 0 []),(46,wH g p e3),(50,.bin (.bool bm)),(54,.call (.bool b4)),(56,wH g p e4),(60,.bin (.bool bi)),(64,.call (.bool b5)),(66,wH g p e5),(70,.ij 9 1),(75,.bin (.bool (!bm))),(83,.bin (.bool (!bi))),(91,.au (yU [RZ na bm bi] 0 1 (RZ na bm bi+1) (some g) (tx++fL (Ie r L bm bi)) e5 (.tuple #[])))]) [] (by kernel_rfl) func74 rfl (dR rfl) ?_;clear h H k4 k5 hle rk hg hz hb hm hi c27 c72 c46 c56 c66 c80 c88 c91 z0 c34 c39 c43 ha hL;cases na with
 |true=>obtain rfl:L=[]:=of_decide_eq_true hna;cases bg<;>cases bz<;>cases bm<;>cases bi<;>exact VM (by kernel_rfl) CH
 |false=>cases bg<;>cases bz<;>cases bm<;>cases bi<;>exact VM (by kernel_rfl) CH
theorem ME{w:World}{g:Nat}{p:Bool}{A:Option Go.Addr}{c:Nat}{tx:Bs}{e:Int}{r:Rl}(h:Tx w g p A c tx e)(hl:dD w)(hk:∀k∈oS g A,9≤k)(hr:r.Wf)(hle:tx.length+(fL (dv r)).length≤140737488355328):Calls prog 74 #[.pointer (some ⟨g,0,none⟩),.agg r.cells.toArray] w (lr g A (.tuple #[]) (tx++fL (dv r)) (qO e r) w):=by
 have hc:VE ((if bp r.mt=true then(0:Int)else 190)==0)=.bool (bp r.mt):=by cases bp r.mt<;>rfl
 have hL:(aS r.act r.out).length≤10:=by
  unfold aS;repeat' split
  all_goals simp
 have hO:∀k s,cO k s=SA (decide (s=[])) k s:=fun k s=>by
  unfold cO;by_cases hs:s=[]
  ·rw[if_pos hs,decide_eq_true hs];rfl
  ·rw[if_neg hs,decide_eq_false hs];rfl
 have hW:dv r=Ie r (aS r.act r.out) (decide (r.cK=[])) (decide (r.bL=[])):=by unfold dv Ie;rw[hO,hO];simp
 have hA:jf r.act r.out=bQ (decide (aS r.act r.out=[])) (decide (r.out≥0)) (decide (r.out=0)) (decide (r.act=3)):=by
  cases ha:aS r.act r.out with
  |nil=>rw[decide_eq_true rfl,Pg ha];rfl
  |cons x l=>rw[decide_eq_false (by simp)];unfold jf;rw[LH ha];cases decide (r.out≥0)<;>cases decide (r.out=0)<;>cases decide (r.act=3)<;>rfl
 have hB:∀s,gi s=bP (decide (s=[])) (aJ s):=fun s=>by unfold gi;cases decide (s=[])<;>rfl
 rw[hW]at hle ⊢
 exact Qm h (b4:=aJ r.cK) (b5:=aJ r.bL) (bo:=decide (r.act=3)) ⟨fun W hW=>hl.aD hW hk,fun W _=>qv r.name W,fun W hW=>xI r.mt hr.m W (hl.aD hW hk),hc,rfl,rfl,rfl,rfl,(by unfold qO;rw[hB,hB,hA]),hr.o.1,hr.o.2⟩
  (fun _ W _=>qv r.cK W) (fun _ W _=>qv r.bL W) rfl hL rfl rfl rfl rfl rfl rfl hle
set_option maxRecDepth 100000
open Go Go.RowKit Go.Lib Go.Sort _root_.Go.Proofs.Tryz
set_option maxRecDepth 100000
theorem Rf(v:Bool)(n:Nat)(k:Int):VE (fH v n k==0)=.bool (gv v n k):=by unfold fH;cases gv v n k<;>rfl
def bI(b0:Bool):Nat→Bool
 | 0=>b0
 |_+1=>true
def tI(t0:Bs)(ws:Nat→List Bs):Nat→Bs
 | 0=>t0
 |i+1=>tI t0 ws i++fL (ws i)
def eI(e0:Int)(E:Nat→Int→Int):Nat→Int
 | 0=>e0
 |i+1=>E i (eI e0 E i)
theorem vH{t0:Bs}{ws:Nat→List Bs}{B:Nat}:∀{n i:Nat},i < n→(tI t0 ws n).length≤B→(tI t0 ws i).length+(fL (ws i)).length≤B
 | 0,_,h,_=>by omega
 |n+1,i,h,hb=>by
  have e:(tI t0 ws (n+1)).length=(tI t0 ws n).length+(fL (ws n)).length:=by rw[tI,VI]
  by_cases hi:i=n
  ·subst hi;omega
  ·exact vH (n:=n) (by omega) (by omega)
theorem yY{α:Type} [Inhabited α](f:α→List Bs)(t0:Bs)(l:List α):tI t0 (fun i=>f (l.getD i default)) l.length=t0++cL (l.map f):=by
 have key:∀k,k≤l.length→tI t0 (fun i=>f (l.getD i default)) k=t0++cL ((l.take k).map f):=by
  intro k;induction k with
  |zero=>intro _;simp[tI,cL]
  |succ k ih=>
   intro hk;rw[tI,ih (by omega),VU];have:l[k]?=some (l.getD k default):=by rw[VH,VJ (by omega)];rfl
   rw[this];simp[cL]
 have:=key l.length (VT _);rwa [VV]at this
theorem AS{α:Type} [Inhabited α](E:Int→α→Int)(e0:Int)(l:List α):eI e0 (fun i e=>E e (l.getD i default)) l.length=l.foldl E e0:=by
 have key:∀k,k≤l.length→eI e0 (fun i e=>E e (l.getD i default)) k=(l.take k).foldl E e0:=by
  intro k;induction k with
  |zero=>intro _;simp[eI]
  |succ k ih=>
   intro hk;rw[eI,ih (by omega),VU];have:l[k]?=some (l.getD k default):=by rw[VH,VJ (by omega)];rfl
   rw[this];simp
 have:=key l.length (VT _);rwa [VV]at this
theorem getD_at{α:Type} [Inhabited α]{l:List α}{i:Nat}(h:i < l.length):l[i]?=some (l.getD i default):=by rw[VH,VJ h];rfl
theorem dm{α:Type} [Inhabited α]{l:List α}{i:Nat}(h:i < l.length):l.getD i default∈l:=List.mem_of_getElem? (getD_at h)
def iJ(k:Nat)(b:Bool)(t:Bs)(e:Int):List Sx.Row:=[gY none [.dQ b 1 0,.own k,.val (.int .i64 e)],⟨5,.own 1 t.length (qc t)⟩]
def yW(b:Bool)(t:Bs)(e:Int):List Sx.Row:=iJ 2 b t e
def Ve(T:Bs×Int)(l:List Sx.SV)(_:List Sx.Row):Prop:=l=[.val (ab T.1),.val (.int .i64 T.2)]
theorem fS{P:Program}{t:TypeId}{n:Nat}(h:(P.info? t).map (·.size)=some n):∃inf,P.info? t=some inf∧inf.size=n:=Option.map_eq_some_iff.1 h
theorem Me.aM(m:Me):m.cells.length=4:=rfl
theorem Mi.aM(m:Mi):m.cells.length=3:=rfl
theorem Rt.aM(m:Rt):m.cells.length=19:=by unfold Rt.cells;rw[VI,Px.aM];rfl
theorem Rl.aM(m:Rl):m.cells.length=49:=by unfold Rl.cells;rw[VW,VI,Mt.aM];rfl
def Gg(A:Option Go.Addr)(n c i:Nat):List (Nat×Sx.SV):=[(1,.ptr 0 0),(4,.ptr 1 0),(20,.val (.slice A n c)),(21,.val (.int .i64 (n:Int))),(22,.val (.int .i64 (i:Int)))]
def No(t0:Bs)(l:List Int):Nat→Bs:=tI t0 fun i=>dX (l.getD i default)
def Nw(e0:Int)(l:List Int):Nat→Int:=eI e0 fun i e=>Ek e (l.getD i default)
def QE(cs:List Value)(b0:Bool)(t0:Bs)(e0:Int)(l:List Int)(i:Nat):List Sx.Row:=⟨46,.ai cs⟩::yW (bI b0 i) (No t0 l i) (Nw e0 l i)
def Gf(A:Option Go.Addr)(n c i:Nat):List (Nat×Sx.SV):=[(1,.ptr 0 0),(4,.ptr 1 0),(37,.val (.slice A n c)),(38,.val (.int .i64 (n:Int))),(39,.val (.int .i64 (i:Int)))]
def Mb(t0:Bs)(l:List Rt):Nat→Bs:=tI t0 fun i=>eB (l.getD i default)
def Ig(e0:Int)(l:List Rt):Nat→Int:=eI e0 fun i e=>xC e (l.getD i default)
def QD(cs:List Value)(b0:Bool)(t0:Bs)(e0:Int)(l:List Rt)(i:Nat):List Sx.Row:=⟨46,.ai cs⟩::yW (bI b0 i) (Mb t0 l i) (Ig e0 l i)
def Ge(A:Option Go.Addr)(n c i:Nat):List (Nat×Sx.SV):=[(1,.ptr 0 0),(4,.ptr 1 0),(67,.val (.slice A n c)),(68,.val (.int .i64 (n:Int))),(69,.val (.int .i64 (i:Int)))]
def Nn(t0:Bs)(l:List Me):Nat→Bs:=tI t0 fun i=>eF (l.getD i default)
def Md(e0:Int)(l:List Me):Nat→Int:=eI e0 fun i e=>xR e (l.getD i default)
def QC(cs:List Value)(b0:Bool)(t0:Bs)(e0:Int)(l:List Me)(i:Nat):List Sx.Row:=⟨46,.ai cs⟩::yW (bI b0 i) (Nn t0 l i) (Md e0 l i)
def Gd(A:Option Go.Addr)(n c i:Nat):List (Nat×Sx.SV):=[(1,.ptr 0 0),(4,.ptr 1 0),(97,.val (.slice A n c)),(98,.val (.int .i64 (n:Int))),(99,.val (.int .i64 (i:Int)))]
def Ma(t0:Bs)(l:List Mi):Nat→Bs:=tI t0 fun i=>dA (l.getD i default)
def Gh(e0:Int)(l:List Mi):Nat→Int:=eI e0 fun i e=>ns e (l.getD i default)
def QB(cs:List Value)(b0:Bool)(t0:Bs)(e0:Int)(l:List Mi)(i:Nat):List Sx.Row:=⟨46,.ai cs⟩::yW (bI b0 i) (Ma t0 l i) (Gh e0 l i)
def Gc(A:Option Go.Addr)(n c i:Nat):List (Nat×Sx.SV):=[(1,.ptr 0 0),(4,.ptr 1 0),(131,.val (.slice A n c)),(132,.val (.int .i64 (n:Int))),(133,.val (.int .i64 (i:Int)))]
def LZ(t0:Bs)(l:List Rl):Nat→Bs:=tI t0 fun i=>dv (l.getD i default)
def PB(e0:Int)(l:List Rl):Nat→Int:=eI e0 fun i e=>qO e (l.getD i default)
def QA(cs:List Value)(b0:Bool)(t0:Bs)(e0:Int)(l:List Rl)(i:Nat):List Sx.Row:=⟨46,.ai cs⟩::yW (bI b0 i) (LZ t0 l i) (PB e0 l i)
abbrev pQ(cs:List Value)(p:Bool)(tx:Bs)(e:Int)(mem:List Sx.Row):List Sx.Row:=⟨46,.ai cs⟩::gY none [.dQ p 1 0,.own 2,.val (.int .i64 e)]::⟨5,.own 1 tx.length (qc tx)⟩::mem
theorem vD(w:World)(cs:List Value)(p:Bool)(tx:Bs)(e:Int)(mem:List Sx.Row)(m:Nat)(b:Bool)(code:Int)(W:World)(β:Sx.Env)(hS:Sx.dS ⟨w,[],fun _ _=>False⟩ β W (Sx.rowAt (pQ cs p tx e mem)) [1,2]) :
  Calls prog 69 (([.ptr 1 0,.val (.bool b),.val (.int .i64 code)]:List Sx.SV).map (Sx.SV.den β)).toArray W (Sx.br ⟨w,[],fun _ _=>False⟩ β W (Sx.rowAt (pQ cs p tx e mem)) m (jN [] 1 2 none p (aO b code e))):=qd b code ⟨rfl,rfl⟩ W β hS
theorem EH(w:World)(cs:List Value)(p:Bool)(tx:Bs)(e:Int)(mem:List Sx.Row)(k m:Nat)(ws:List Bs)(rk:Sx.rowAt (pQ cs p tx e mem) k=some ⟨9,.ai (strs ws)⟩)(hm:2 < m)(hn:ws.length≤1100000)(hl:tx.length+(fL ws).length≤140737488355328)(W:World)(β:Sx.Env)(hS:Sx.dS ⟨w,[],fun _ _=>False⟩ β W (Sx.rowAt (pQ cs p tx e mem)) [1,2,k]) :
  Calls prog 70 (([.ptr 1 0,.lO k 0 ws.length ws.length]:List Sx.SV).map (Sx.SV.den β)).toArray W (Sx.br ⟨w,[],fun _ _=>False⟩ β W (Sx.rowAt (pQ cs p tx e mem)) m (yU [k] 1 2 m none (tx++fL ws) e (.tuple #[]))):=Ke ws ⟨rfl,rfl⟩ (by omega) hm rk hn hl W β hS
theorem FI{b:Sx.aY}{row:Nat→Option Sx.Row}{i j m:Nat}{og:Option Nat}{p:Bool}{tx:Bs}{e:Int}(r:Rl)(h:mP row i j og p tx e)(hi:i < m)(hj:j < m)(hlan:dD b.w)(h9:∀k∈b.S,9≤k)(hr:r.Wf)(hl:tx.length+(fL (dv r)).length≤140737488355328)
  (W:World) (β:Sx.Env) (hS:Sx.dS b β W row [i,j]) :
  Calls prog 74 (([.ptr i 0,.val (.agg r.cells.toArray)]:List Sx.SV).map (Sx.SV.den β)).toArray W (Sx.br b β W row m (yU [] i j m og (tx++fL (dv r)) (qO e r) (.tuple #[]))):=by
 obtain⟨ht,hg⟩:=nY hS h (by simp) (by simp);have hlow:=hlan.low;have old:∀x r k,x∈[i,j]→row x=some r→Sx.av β x r=some k→9≤k:=fun x r k hx hr hk=>by
  rcases hS.new x hx r k hr hk with h|h
  ·exact h9 k h
  ·omega
 refine(ME ht (hlan.aD hS.aD h9) (fun k hk=>?_) hr hl).mono fun en w' hp=>rO h hi hj hg hp;rcases List.mem_cons.1 hk with rfl|hk
 ·exact old i _ _ (by simp) h.b mW
 ·exact old j _ _ (by simp) h.o (by show(β.a j).map (·.block)=some k;simpa using hk)
abbrev Jt(w:World)(T:Bs×Int)(k n:Nat)(fr:Nat→List (Nat×Sx.SV))(mm:Nat→List Sx.Row)(i:Nat):Prop:=∃H' L',Sx.lj prog f28.ntmps ⟨w,[],fun _ _=>False⟩ (Sx.dr f28 k) H' L' ⟨fr i,mm i⟩
 (Sx.ia (fun i=>i≤n) fr mm (fun i=>i+1) (fun i=>n - i) (fun(_:Unit)=>True) (fun _=>[(1,.ptr 0 0),(4,.ptr 1 0)]) (fun _=>mm n) (fun _=>()) (Sx.fX (Sx.dr f28 k) - 1) (Sx.eX prog f28 (Ve T) .ret) i)
theorem SJ{w:World}(hlan:dD w)(cs:List Value)(l:List Int)(A:Option Go.Addr)(c:Nat)(hs:lu w [] 1 (.slice A l.length c) l.length (l.map fun n=>VP .i64 n))(hwf:∀n∈l,nM n)(hl:l.length≤1000000000)(b0:Bool)(t0:Bs)(e0:Int)(hB:(No t0 l l.length).length≤140737488355328)(T:Bs×Int)(i:Nat)(hi:i≤l.length) :
  Jt w T 0 l.length (Gg A l.length c) (QE cs b0 t0 e0 l) i:=by
 by_cases hlt:i < l.length
 ·skip
  have c23:=bT ((i:Int) < (l.length:Int)) (by omega);have hy:=getD_at hlt;have hw:=hwf _ (dm hlt);obtain⟨inf,hi1,hi2⟩:=fS (P:=prog) (t:=3) (n:=1) (by kernel_rfl);obtain⟨pp,hp1,hp2⟩:=hs.RC underlying40 hi1 hi2 underlying3 rfl hy;clear hi1 hi2 hy;have c24:=hp1;have c25:=hp2;have Ho:=uh (i:=i) (by omega);have c28:VE (decide ((l.getD i default)≥0))=.bool (decide ((l.getD i default)≥0)):=rfl;have Dp:=vD w cs (bI b0 i) (No t0 l i) (Nw e0 l i) [] 3 (decide ((l.getD i default)≥0)) 2;have c32:=fun W (hW:ah [] w W)=>my (l.getD i default) hw.1 hw.2 W (hlan.cW hW);have c34:=EH w cs (bI b0 i) (No t0 l i) (aO (decide ((l.getD i default)≥0)) 2 (Nw e0 l i)) [⟨9,.ai (strs (dX (l.getD i default)))⟩] 3 4 (dX (l.getD i default)) rfl (by omega) (dR rfl) (vH hlt hB);have h0:i+1≤l.length:=hlt;have h1:l.length - (i+1) < l.length - i:=by omega
  have h2:Gg A l.length c (i+1)=Gg A l.length c (i+1):=rfl;have z3:⟨46,.ai cs⟩::iJ 4 true (No t0 l (i+1)) (Nw e0 l (i+1))=⟨46,.ai cs⟩::iJ 4 true (No t0 l (i+1)) (Nw e0 l (i+1)):=rfl;refine⟨[bq 23 true,(24,.any pp),(25,.any (.int .i64 (l.getD i default))),oP 35 (i+1),(28,.is (.bool (decide ((l.getD i default)≥0)))),(29,.au (jN [] 1 2 none (bI b0 i) (aO (decide ((l.getD i default)≥0)) 2 (Nw e0 l i)))),(32,.call (ab (cx (l.getD i default)))),(34,.au (yU [3] 1 2 4 none ((No t0 l i)++fL (dX (l.getD i default))) (aO (decide ((l.getD i default)≥0)) 2 (Nw e0 l i)) (.tuple #[])))],[],?_⟩;exact VM (by kernel_rfl) (Sx.t8 c23 c24 c25 c28 Dp c32 c34 Ho (Sx.t2 h0 h1 (VG h2 z3)))
 ·obtain rfl:i=l.length:=by omega
  have c23:=bF ((l.length:Int) < (l.length:Int)) (by omega);refine⟨[bq 23 false],[],?_⟩;exact VM (by kernel_rfl) (Sx.t2 c23 trivial (VG (show([(1,.ptr 0 0),(4,.ptr 1 0)]:List (Nat×Sx.SV))=[(1,.ptr 0 0),(4,.ptr 1 0)]from rfl) (show QE cs b0 t0 e0 l l.length=QE cs b0 t0 e0 l l.length from rfl)))
theorem SI{w:World}(hlan:dD w)(cs:List Value)(l:List Rt)(A:Option Go.Addr)(c:Nat)(hs:lu w [] 19 (.slice A l.length c) l.length (l.flatMap Rt.cells))(hwf:∀n∈l,n.Wf)(hl:l.length≤1000000000)(b0:Bool)(t0:Bs)(e0:Int)(hB:(Mb t0 l l.length).length≤140737488355328)(T:Bs×Int)(i:Nat)(hi:i≤l.length) :
  Jt w T 1 l.length (Gf A l.length c) (QD cs b0 t0 e0 l) i:=by
 by_cases hlt:i < l.length
 ·skip
  have c40:=bT ((i:Int) < (l.length:Int)) (by omega);have hy:=getD_at hlt;have hw:=hwf _ (dm hlt);obtain⟨inf,hi1,hi2⟩:=fS (P:=prog) (t:=118) (n:=19) (by kernel_rfl);obtain⟨pp,hp1,hp2⟩:=hs.Ij Rt.aM underlying41 hi1 hi2 underlying118 rfl (by omega) hy;clear hi1 hi2 hy;have c41:=hp1;have c42:=hp2;have c65:=uh (i:=i) (by omega);have c46:=fun W (hW:ah [] w W)=>BT (l.getD i default).pf.v (l.getD i default).pf.n (l.getD i default).pf.k hw.n W (hlan.cW hW);have c51:=Rf (l.getD i default).pf.v (l.getD i default).pf.n (l.getD i default).pf.k;have c52:=vD w cs (bI b0 i) (Mb t0 l i) (Ig e0 l i) [⟨118,.ai (l.getD i default).cells⟩] 4 (gv (l.getD i default).pf.v (l.getD i default).pf.n (l.getD i default).pf.k) 151;have c56:VE (decide ((l.getD i default).out≥0))=.bool (decide ((l.getD i default).out≥0)):=rfl;have c57:=vD w cs (bI b0 i) (Mb t0 l i) (aO (gv (l.getD i default).pf.v (l.getD i default).pf.n (l.getD i default).pf.k) 151 (Ig e0 l i)) [⟨118,.ai (l.getD i default).cells⟩] 4 (decide ((l.getD i default).out≥0)) 2;have c62:=fun W (hW:ah [] w W)=>my (l.getD i default).out hw.o.1 hw.o.2 W (hlan.cW hW);have c64:=EH w cs (bI b0 i) (Mb t0 l i) (aO (decide ((l.getD i default).out≥0)) 2 (aO (gv (l.getD i default).pf.v (l.getD i default).pf.n (l.getD i default).pf.k) 151 (Ig e0 l i))) [⟨118,.ai (l.getD i default).cells⟩,⟨9,.ai (strs (eB (l.getD i default)))⟩] 4 5 (eB (l.getD i default)) rfl (by omega) (dR rfl) (vH hlt hB);have h0:i+1≤l.length:=hlt;have h1:l.length - (i+1) < l.length - i:=by omega
  have h2:Gf A l.length c (i+1)=Gf A l.length c (i+1):=rfl;have z3:⟨46,.ai cs⟩::iJ 5 true (Mb t0 l (i+1)) (Ig e0 l (i+1))=⟨46,.ai cs⟩::iJ 5 true (Mb t0 l (i+1)) (Ig e0 l (i+1)):=rfl;refine⟨[bq 40 true,(41,.any pp),(42,.any (.agg (l.getD i default).cells.toArray)),oP 65 (i+1),(46,.call (.tuple #[ab (tb (l.getD i default).pf),.int .i64 (fH (l.getD i default).pf.v (l.getD i default).pf.n (l.getD i default).pf.k)])),(51,.is (.bool (gv (l.getD i default).pf.v (l.getD i default).pf.n (l.getD i default).pf.k))),(52,.au (jN [] 1 2 none (bI b0 i) (aO (gv (l.getD i default).pf.v (l.getD i default).pf.n (l.getD i default).pf.k) 151 (Ig e0 l i)))),(56,.is (.bool (decide ((l.getD i default).out≥0)))),(57,.au (jN [] 1 2 none (bI b0 i) (aO (decide ((l.getD i default).out≥0)) 2 (aO (gv (l.getD i default).pf.v (l.getD i default).pf.n (l.getD i default).pf.k) 151 (Ig e0 l i))))),(62,.call (ab (cx (l.getD i default).out))),(64,.au (yU [4] 1 2 5 none ((Mb t0 l i)++fL (eB (l.getD i default))) (aO (decide ((l.getD i default).out≥0)) 2 (aO (gv (l.getD i default).pf.v (l.getD i default).pf.n (l.getD i default).pf.k) 151 (Ig e0 l i))) (.tuple #[])))],[],?_⟩;exact VM (by kernel_rfl) (Sx.t8 c40 c41 c42 c46 c51 c52 c56 c57 (Sx.t4 c62 c64 c65 h0 (Sx.t2 h1 h2 z3)))
 ·obtain rfl:i=l.length:=by omega
  have c40:=bF ((l.length:Int) < (l.length:Int)) (by omega);refine⟨[bq 40 false],[],?_⟩;exact VM (by kernel_rfl) (Sx.t2 c40 trivial (VG (show([(1,.ptr 0 0),(4,.ptr 1 0)]:List (Nat×Sx.SV))=[(1,.ptr 0 0),(4,.ptr 1 0)]from rfl) (show QD cs b0 t0 e0 l l.length=QD cs b0 t0 e0 l l.length from rfl)))
theorem SH{w:World}(hlan:dD w)(cs:List Value)(l:List Me)(A:Option Go.Addr)(c:Nat)(hs:lu w [] 4 (.slice A l.length c) l.length (l.flatMap Me.cells))(hwf:∀n∈l,n.Wf)(hl:l.length≤1000000000)(b0:Bool)(t0:Bs)(e0:Int)(hB:(Nn t0 l l.length).length≤140737488355328)(T:Bs×Int)(i:Nat)(hi:i≤l.length) :
  Jt w T 2 l.length (Ge A l.length c) (QC cs b0 t0 e0 l) i:=by
 by_cases hlt:i < l.length
 ·skip
  have c70:=bT ((i:Int) < (l.length:Int)) (by omega);have hy:=getD_at hlt;have hw:=hwf _ (dm hlt);obtain⟨inf,hi1,hi2⟩:=fS (P:=prog) (t:=122) (n:=4) (by kernel_rfl);obtain⟨pp,hp1,hp2⟩:=hs.Ij Me.aM underlying43 hi1 hi2 underlying122 rfl (by omega) hy;clear hi1 hi2 hy;have c71:=hp1;have c72:=hp2;have c95:=uh (i:=i) (by omega);have c76:=fun W (_:ah [] w W)=>qv (l.getD i default).name W;have c77:=vD w cs (bI b0 i) (Nn t0 l i) (Md e0 l i) [⟨122,.ai (l.getD i default).cells⟩] 4 (aJ (l.getD i default).name) 201;have c84:=fun W (hW:ah [] w W)=>EU (l.getD i default).num (by have:=hw.a;omega) W (hlan.cW hW);have c88:=fun W (hW:ah [] w W)=>EU (l.getD i default).den (by have:=hw.b;omega) W (hlan.cW hW);have c92:=fun W (hW:ah [] w W)=>EU (l.getD i default).nR (by have:=hw.c;omega) W (hlan.cW hW);have c94:=EH w cs (bI b0 i) (Nn t0 l i) (aO (aJ (l.getD i default).name) 201 (Md e0 l i)) [⟨122,.ai (l.getD i default).cells⟩,⟨9,.ai (strs (eF (l.getD i default)))⟩] 4 5 (eF (l.getD i default)) rfl (by omega) (dR rfl) (vH hlt hB);have h0:i+1≤l.length:=hlt;have h1:l.length - (i+1) < l.length - i:=by omega
  have h2:Ge A l.length c (i+1)=Ge A l.length c (i+1):=rfl;have z3:⟨46,.ai cs⟩::iJ 5 true (Nn t0 l (i+1)) (Md e0 l (i+1))=⟨46,.ai cs⟩::iJ 5 true (Nn t0 l (i+1)) (Md e0 l (i+1)):=rfl;refine⟨[bq 70 true,(71,.any pp),(72,.any (.agg (l.getD i default).cells.toArray)),oP 95 (i+1),(76,.call (.bool (aJ (l.getD i default).name))),(77,.au (jN [] 1 2 none (bI b0 i) (aO (aJ (l.getD i default).name) 201 (Md e0 l i)))),(84,.call (ab (ao 10 (l.getD i default).num))),(88,.call (ab (ao 10 (l.getD i default).den))),(92,.call (ab (ao 10 (l.getD i default).nR))),(94,.au (yU [4] 1 2 5 none ((Nn t0 l i)++fL (eF (l.getD i default))) (aO (aJ (l.getD i default).name) 201 (Md e0 l i)) (.tuple #[])))],[],?_⟩;exact VM (by kernel_rfl) (Sx.t8 c70 c71 c72 c76 c77 c84 c88 c92 (Sx.t4 c94 c95 h0 h1 (VG h2 z3)))
 ·obtain rfl:i=l.length:=by omega
  have c70:=bF ((l.length:Int) < (l.length:Int)) (by omega);refine⟨[bq 70 false],[],?_⟩;exact VM (by kernel_rfl) (Sx.t2 c70 trivial (VG (show([(1,.ptr 0 0),(4,.ptr 1 0)]:List (Nat×Sx.SV))=[(1,.ptr 0 0),(4,.ptr 1 0)]from rfl) (show QC cs b0 t0 e0 l l.length=QC cs b0 t0 e0 l l.length from rfl)))
theorem SG{w:World}(hlan:dD w)(cs:List Value)(l:List Mi)(A:Option Go.Addr)(c:Nat)(hs:lu w [] 3 (.slice A l.length c) l.length (l.flatMap Mi.cells))(hwf:∀n∈l,n.Wf)(hl:l.length≤1000000000)(b0:Bool)(t0:Bs)(e0:Int)(hB:(Ma t0 l l.length).length≤140737488355328)(T:Bs×Int)(i:Nat)(hi:i≤l.length) :
  Jt w T 3 l.length (Gd A l.length c) (QB cs b0 t0 e0 l) i:=by
 by_cases hlt:i < l.length
 ·skip
  have c100:=bT ((i:Int) < (l.length:Int)) (by omega);have hy:=getD_at hlt;have hw:=hwf _ (dm hlt);obtain⟨inf,hi1,hi2⟩:=fS (P:=prog) (t:=124) (n:=3) (by kernel_rfl);obtain⟨pp,hp1,hp2⟩:=hs.Ij Mi.aM underlying44 hi1 hi2 underlying124 rfl (by omega) hy;clear hi1 hi2 hy;have c101:=hp1;have c102:=hp2;have c129:=uh (i:=i) (by omega);have c106:=fun W (_:ah [] w W)=>qv (l.getD i default).name W;have c107:=vD w cs (bI b0 i) (Ma t0 l i) (Gh e0 l i) [⟨124,.ai (l.getD i default).cells⟩] 4 (aJ (l.getD i default).name) 201;obtain⟨b1,hb1⟩:∃b,decide ((l.getD i default).out≥0)=b:=⟨_,rfl⟩;obtain⟨b2,hb2⟩:∃b,decide ((l.getD i default).room≥0)=b:=⟨_,rfl⟩;have c111:=congrArg VE hb1;have c115:=congrArg VE hb2;have c117:=vD w cs (bI b0 i) (Ma t0 l i) (aO (aJ (l.getD i default).name) 201 (Gh e0 l i)) [⟨124,.ai (l.getD i default).cells⟩] 4 (b1&&b2) 2;have c123:=fun W (hW:ah [] w W)=>my (l.getD i default).out hw.o.1 hw.o.2 W (hlan.cW hW);have c126:=fun W (hW:ah [] w W)=>my (l.getD i default).room hw.r.1 hw.r.2 W (hlan.cW hW);have c128:=EH w cs (bI b0 i) (Ma t0 l i) (aO (b1&&b2) 2 (aO (aJ (l.getD i default).name) 201 (Gh e0 l i))) [⟨124,.ai (l.getD i default).cells⟩,⟨9,.ai (strs (dA (l.getD i default)))⟩] 4 5 (dA (l.getD i default)) rfl (by omega) (dR rfl) (vH hlt hB);have hE:(aO (b1&&b2) 2 (aO (aJ (l.getD i default).name) 201 (Gh e0 l i)))=ns (Gh e0 l i) (l.getD i default):=by unfold ns;rw[hb1,hb2]
  have h0:i+1≤l.length:=hlt;have h1:l.length - (i+1) < l.length - i:=by omega
  have h2:Gd A l.length c (i+1)=Gd A l.length c (i+1):=rfl;have z3:⟨46,.ai cs⟩::iJ 5 true (Ma t0 l (i+1)) (aO (b1&&b2) 2 (aO (aJ (l.getD i default).name) 201 (Gh e0 l i)))=⟨46,.ai cs⟩::iJ 5 true (Ma t0 l (i+1)) (Gh e0 l (i+1)):=by rw[hE];rfl
  have CH:=Sx.t4 c100 c101 c102 c106 (Sx.t2 c107 c111 (dt.mk (b:=!b1) (fun _=>c115) (Sx.t8 c117 c123 c126 c128 c129 h0 h1 h2 z3)));refine⟨[bq 100 true,(101,.any pp),(102,.any (.agg (l.getD i default).cells.toArray)),oP 129 (i+1),(106,.call (.bool (aJ (l.getD i default).name))),(107,.au (jN [] 1 2 none (bI b0 i) (aO (aJ (l.getD i default).name) 201 (Gh e0 l i)))),bq 111 b1,bq 115 b2,(117,.au (jN [] 1 2 none (bI b0 i) (aO (b1&&b2) 2 (aO (aJ (l.getD i default).name) 201 (Gh e0 l i))))),(123,.call (ab (cx (l.getD i default).out))),(126,.call (ab (cx (l.getD i default).room))),(128,.au (yU [4] 1 2 5 none ((Ma t0 l i)++fL (dA (l.getD i default))) (aO (b1&&b2) 2 (aO (aJ (l.getD i default).name) 201 (Gh e0 l i))) (.tuple #[])))],[],?_⟩;clear c100 c101 c102 c106 c107 c111 c115 c117 c123 c126 c128 c129 h0 h1 h2 z3 hE hb1 hb2 hp1 hp2;cases b1<;>exact VM (by kernel_rfl) CH
 ·obtain rfl:i=l.length:=by omega
  have c100:=bF ((l.length:Int) < (l.length:Int)) (by omega);refine⟨[bq 100 false],[],?_⟩;exact VM (by kernel_rfl) (Sx.t2 c100 trivial (VG (show([(1,.ptr 0 0),(4,.ptr 1 0)]:List (Nat×Sx.SV))=[(1,.ptr 0 0),(4,.ptr 1 0)]from rfl) (show QB cs b0 t0 e0 l l.length=QB cs b0 t0 e0 l l.length from rfl)))
theorem SF{w:World}(hlan:dD w)(cs:List Value)(l:List Rl)(A:Option Go.Addr)(c:Nat)(hs:lu w [] 49 (.slice A l.length c) l.length (l.flatMap Rl.cells))(hwf:∀n∈l,n.Wf)(hl:l.length≤1000000000)(b0:Bool)(t0:Bs)(e0:Int)(hB:(LZ t0 l l.length).length≤140737488355328)(T:Bs×Int)(i:Nat)(hi:i≤l.length) :
  Jt w T 4 l.length (Gc A l.length c) (QA cs b0 t0 e0 l) i:=by
 by_cases hlt:i < l.length
 ·skip
  have c134:=bT ((i:Int) < (l.length:Int)) (by omega);have hy:=getD_at hlt;have hw:=hwf _ (dm hlt);obtain⟨inf,hi1,hi2⟩:=fS (P:=prog) (t:=81) (n:=49) (by kernel_rfl);obtain⟨pp,hp1,hp2⟩:=hs.Ij Rl.aM underlying42 hi1 hi2 underlying81 rfl (by omega) hy;clear hi1 hi2 hy;have c135:=hp1;have c136:=hp2;have c140:=uh (i:=i) (by omega);have c139:=fun W β (hS:Sx.dS ⟨w,[],fun _ _=>False⟩ β W (Sx.rowAt [⟨46,.ai cs⟩,gY none [.dQ (bI b0 i) 1 0,.own 2,.val (.int .i64 (PB e0 l i))],⟨5,.own 1 (LZ t0 l i).length (qc (LZ t0 l i))⟩,⟨81,.ai (l.getD i default).cells⟩]) [1,2])=>FI (m:=4) (og:=none) (p:=(bI b0 i)) (tx:=(LZ t0 l i)) (e:=(PB e0 l i)) (l.getD i default) ⟨rfl,rfl⟩ (by omega) (by omega) hlan (fun k hk=>(by cases hk)) hw (vH hlt hB) W β hS;have h0:i+1≤l.length:=hlt;have h1:l.length - (i+1) < l.length - i:=by omega
  have h2:Gc A l.length c (i+1)=Gc A l.length c (i+1):=rfl;have z3:⟨46,.ai cs⟩::iJ 4 true (LZ t0 l (i+1)) (PB e0 l (i+1))=⟨46,.ai cs⟩::iJ 4 true (LZ t0 l (i+1)) (PB e0 l (i+1)):=rfl;refine⟨[bq 134 true,(135,.any pp),(136,.any (.agg (l.getD i default).cells.toArray)),oP 140 (i+1),(139,.au (yU [] 1 2 4 none ((LZ t0 l i)++fL (dv (l.getD i default))) (qO (PB e0 l i) (l.getD i default)) (.tuple #[])))],[],?_⟩;exact VM (by kernel_rfl) (Sx.t8 c134 c135 c136 c139 c140 h0 h1 h2 z3)
 ·obtain rfl:i=l.length:=by omega
  have c134:=bF ((l.length:Int) < (l.length:Int)) (by omega);refine⟨[bq 134 false],[],?_⟩;exact VM (by kernel_rfl) (Sx.t2 c134 trivial (VG (show([(1,.ptr 0 0),(4,.ptr 1 0)]:List (Nat×Sx.SV))=[(1,.ptr 0 0),(4,.ptr 1 0)]from rfl) (show QA cs b0 t0 e0 l l.length=QA cs b0 t0 e0 l l.length from rfl)))
end Go.Proofs.YtnncigmpcdehnaaGreatDoor
