import Derived.Test.YtnncigmpcdehnaaGreatDoorQg09
open Go.Value renaming tuple→WN,bool→WS,int→WZ
open List renaming length_append→WO,mem_cons_of_mem→WQ,mem_cons→WR,getElem?_append_right→WT,length_cons→WV,mem_of_getElem?→W2,nodup_cons→W4,foldl_cons→W5,mem_filterMap→W6,mem_singleton→Xa,flatMap_cons→Xb,getElem?_eq_getElem→Xe,append_assoc→Xh,not_mem_nil→Xj,take_left'→Xk,mem_filter→Xl,mem_append→Xm,length_nil→Xn
open Nat renaming le_trans→WU,zero_le→WY,le_refl→W9,add_zero→Xf,beq→Xo
open And renaming intro→WW
open Eq renaming mp→WX
open Go.IntKind renaming wrap_u64→W0,u64→W3,u8→Xg
open Int renaming toNat_natCast→W7,fdiv_eq_ediv_of_nonneg→Xd,pow_nonneg→Xp
open Option renaming some→W8
open Bool renaming and_eq_true→Xc
namespace Go.Proofs.YtnncigmpcdehnaaGreatDoor
set_option maxRecDepth 100000
open Go Go.RowKit Go.Lib Go.Sort _root_.Go.Proofs.Tryz
def vB(bt:Bool)(ws:List Bs):List Bs:=match bt with
 |true=>ws
 |false=>[]
theorem q5(xs:List Bs):(strs xs).length=xs.length:=by simp[strs]
def rZ(gm gl:Nat)(A:Option Go.Addr)(mc:List Value)(ys:List Bs)(w:World)(e:Ending)(w':World):Prop:=
 ∃A' c',e=.returned (.tuple #[])∧aq w' gm 66 mc∧aq w' gl 70 [.slice A' ys.length c']∧Own w' 9 1 (.slice A' ys.length c') ys.length (strs ys)∧ai (gm::gl::(A.map (·.block)).toList) w w'∧∀k,A'.map (·.block)=some k→A.map (·.block)=some k∨w.heap.size≤k
structure S4(w:World)(gm gl:Nat)(A:Option Go.Addr)(c:Nat)(m:Mt)(xs ws:List Bs)(v:Value):Prop where
 bm:aq w gm 66 m.cells
 bl:aq w gl 70 [.slice A xs.length c]
 own:Own w 9 1 (.slice A xs.length c) xs.length (strs xs)
 wd:pT w (gm::gl::(A.map (·.block)).toList) 1 v ws.length (strs ws)
def S0(gm gl:Nat)(mc:List Value)(ys:List Bs)(l:List Sx.SV)(mem:List Sx.Row):Prop:=
 ∃k,l=[]∧mem[0]?=some ⟨66,.cR gm mc⟩∧mem[1]?=some ⟨70,.ji gl [.own k]⟩∧mem[k]?=some ⟨9,.own 1 ys.length (strs ys)⟩
theorem rZ.iy{gm gl:Nat}{A:Option Go.Addr}{mc:List Value}{ys:List Bs}{w:World}{en:Ending}{w':World}(h:Sx.dc ⟨w,gm::gl::(A.map (·.block)).toList,fun _ _=>False⟩ (S0 gm gl mc ys) en w'):rZ gm gl A mc ys w en w':=by
 rcases h with⟨β,l,mem,⟨k,rfl,h0,h1,hk⟩,he,hR⟩ | ⟨_,_,hf,_⟩
 ·have r0:=hR.held 0 _ h0
  have r1:=hR.held 1 _ h1;have rk:β.n k=ys.length∧Own w' 9 1 (.slice (β.a k) ys.length (β.c k)) ys.length (strs ys):=hR.held k _ hk;have e0:β 0=gm:=r0.1;have e1:β 1=gl:=r1.1;have hb:=r1.2;have e2:([Sx.SV.own k].map (Sx.SV.den β))=[β.sl k]:=rfl;rw[e1,e2]at hb;unfold Sx.Env.sl at hb;rw[rk.1]at hb;refine⟨β.a k,β.c k,he,e0 ▸ r0.2,hb,rk.2,hR.aF,fun x hx=>?_⟩;rcases hR.new k _ x hk hx with h1|h1
  ·rcases WR.1 h1 with rfl|h1
   ·exact absurd (by rw[Hl];exact hx) (rk.2.Ez (e0 ▸ r0.2) (show(9:Nat)≠66 by decide))
   ·rcases WR.1 h1 with rfl|h1
    ·exact absurd (by rw[Hl];exact hx) (rk.2.Ez hb (show(9:Nat)≠70 by decide))
    ·exact .inl (by simpa using h1)
  ·exact .inr h1
 ·exact hf.elim
def K9(gm gl:Nat)(mc:List Value)(xs:List Bs):List Sx.Row:=[⟨66,.cR gm mc⟩,⟨70,.ji gl [.own 2]⟩,⟨9,.own 1 xs.length (strs xs)⟩]
theorem K7{w:World}{gm gl:Nat}{A:Option Go.Addr}{c:Nat}{m:Mt}{xs ws:List Bs}{v:Value}(h:S4 w gm gl A c m xs ws v):Sx.Rows ⟨w,gm::gl::(A.map (·.block)).toList,fun _ _=>False⟩ (Sx.cV [.bO gm 66 m.cells,.oN gl 70 [.own 2],.own 9 1 A xs.length c (strs xs)]) w (K9 gm gl m.cells xs):=by
 refine Sx.gM (w:=w) (S:=gm::gl::(A.map (·.block)).toList) (PP:=fun _ _=>False) (G:=[.bO gm 66 m.cells,.oN gl 70 [.own 2],.own 9 1 A xs.length c (strs xs)]) (fun q hq=>?_) (fun q hq k hk=>?_) ?_
 ·simp only[WR,Xj,or_false]at hq
  rcases hq with rfl|rfl|rfl
  ·exact h.bm
  ·exact h.bl
  ·exact h.own
 ·simp only[WR,Xj,or_false]at hq
  rcases hq with rfl|rfl|rfl
  ·cases hk;simp
  ·cases hk;simp
  ·have hk:A.map (·.block)=some k:=hk
   rw[hk];simp
 ·have e:([Sx.kV.bO gm 66 m.cells,.oN gl 70 [.own 2],.own 9 1 A xs.length c (strs xs)].filterMap Sx.kV.block)=gm::gl::(A.map (·.block)).toList:=by cases A<;>rfl
  rw[e,W4,W4];have n1:gm∉(A.map (·.block)).toList:=fun hm=>h.own.Ez h.bm (by decide) (by rw[Hl];simpa using hm);have n2:gl∉(A.map (·.block)).toList:=fun hm=>h.own.Ez h.bl (by decide) (by rw[Hl];simpa using hm);refine⟨fun hm=>?_,n2,?_⟩
  ·rcases WR.1 hm with rfl|hm
   ·have:=h.bm.shape.symm.trans h.bl.shape
    simp at this
   ·exact n1 hm
  ·cases A<;>simp
theorem RO{w:World}{gm gl:Nat}{A:Option Go.Addr}{c:Nat}{m:Mt}{xs ws:List Bs}{v:Value}(ask:Nat)(bt:Bool)(h:S4 w gm gl A c m xs ws v)(hb:(bits .and .u8 (m.asks:Int) (ask:Int) !=0)=bt)(hl:xs.length+ws.length≤1000000000) :
  Calls prog 84 #[.int .u8 (ask:Int),v,.pointer (some ⟨gm,0,none⟩),.pointer (some ⟨gl,0,none⟩)] w (rZ gm gl A m.cells (xs++vB bt ws) w):=by
 have hR:=K7 h;have c10:WS (bits .and .u8 (m.asks:Int) (ask:Int) !=0)=.bool bt:=bz hb;cases bt with
 |false=>
  have z0:S0 gm gl m.cells (xs++[]) [] (K9 gm gl m.cells xs):=by rw[List.append_nil];exact⟨2,rfl,rfl,rfl,rfl⟩
  refine(Sx.b6 (args:=[.val (.int .u8 (ask:Int)),.val v,.ptr 0 0,.ptr 1 0]) hR [(10,.is (.bool false))] [] (by kernel_rfl) func84 rfl (bU rfl) rfl ?_).mono fun en w' hp=>rZ.iy hp;exact WX (by kernel_rfl) (WW c10 z0)
 |true=>
  obtain⟨A2,c2,hv⟩:=h.wd.form;have c13:(∀W,ai (gm::gl::(A.map (·.block)).toList) w W→∃B d,v=.slice B ws.length d∧(0 < (strs ws).length→∃ad,B=some ad∧∀(j:Nat) (u:Value),(strs ws)[j]?=some u→W.cell? (ad.add j)=some u))∧(strs ws).length=ws.length*1∧(∀u∈strs ws,u.oneCell'=true)∧xs.length+ws.length≤maxLen∧(xs.length+ws.length)*16≤140737488355328:=by
   refine⟨fun W hW=>?_,by rw[q5,Nat.mul_one],fun u hu=>?_,by unfold maxLen;omega,by omega⟩
   ·obtain⟨_,B,d,h2,h3⟩:=h.wd.aF hW
    refine⟨B,d,h2,fun h0=>?_⟩;obtain⟨g,o,rfl,_,_,hr⟩:=h3 (by rw[q5]at h0;exact h0);exact⟨_,rfl,fun j u hu=>by rw[Addr.add_lit];exact hr j u hu⟩
   ·obtain⟨l,_,rfl⟩:=List.mem_map.1 hu
    rfl
  have z0:S0 gm gl m.cells (xs++ws) [] [⟨66,.cR gm m.cells⟩,⟨70,.ji gl [.own 3]⟩,Sx.au,⟨9,.own 1 (xs.length+ws.length) (strs xs++strs ws)⟩]:=⟨3,rfl,rfl,rfl,by rw[WO,show strs (xs++ws)=strs xs++strs ws by simp[strs]];rfl⟩;refine(Sx.b6 (args:=[.val (.int .u8 (ask:Int)),.val v,.ptr 0 0,.ptr 1 0]) hR [(10,.is (.bool true)),(13,.app ws.length (strs ws))] [] (by kernel_rfl) func84 rfl (bU rfl) rfl ?_).mono fun en w' hp=>rZ.iy hp;exact WX (by kernel_rfl) (Sx.t2 c10 c13 z0)
def rn(j k m:Nat)(mc:List Value)(ys:List Bs):Sx.ct:=⟨[0,1,j,k],[(0,⟨66,.aj mc⟩),(1,⟨70,.dC [.own m]⟩)],[j],[⟨9,.own 1 ys.length (strs ys)⟩],.val (.tuple #[]),none⟩
theorem lN{b:Sx.aV}{row:Nat→Option Sx.Row}{j k mm:Nat}{m:Mt}{xs:List Bs}(x y:Bs)(ask:Nat)(bt:Bool)(r0:row 0=some ⟨66,.aj m.cells⟩)(r1:row 1=some ⟨70,.dC [.own j]⟩)(rj:row j=some ⟨9,.own 1 xs.length (strs xs)⟩)(rk:row k=some ⟨9,.aj [ae x,ae y]⟩)
  (hj:1 < j) (hk:j < k) (_hm:k < mm) (hb:(bits .and .u8 (m.asks:Int) (ask:Int) !=0)=bt) (hl:xs.length≤1000) (W:World) (β:Sx.Env) (hS:Sx.eM b β W row [0,1,j,k]) :
  Calls prog 84 (([.val (.int .u8 (ask:Int)),.nO k 0 2 2,.ptr 0 0,.ptr 1 0]:List Sx.SV).map (Sx.SV.den β)).toArray W (Sx.br b β W row mm (rn j k mm m.cells (xs++vB bt [x,y]))):=by
 have h0:aq W (β 0) 66 m.cells:=hS.held 0 (by simp) _ r0;have h1:aq W (β 1) 70 [β.sl j]:=hS.held 1 (by simp) _ r1;have h2:β.n j=xs.length∧Own W 9 1 (.slice (β.a j) xs.length (β.c j)) xs.length (strs xs):=hS.held j (by simp) _ rj;have h3:aq W (β k) 9 [ae x,ae y]:=hS.held k (by simp) _ rk;have hb1:aq W (β 1) 70 [.slice (β.a j) xs.length (β.c j)]:=by unfold Sx.Env.sl at h1;rw[h2.1]at h1;exact h1
 have nk:β k∉β 0::β 1::((β.a j).map (·.block)).toList:=fun hh=>by
  rcases WR.1 hh with hh|hh
  ·have:=hS.inj k (by simp) 0 (by simp) _ _ (β k) rk r0 rfl (by show some (β 0)=_;rw[hh])
   omega
  rcases WR.1 hh with hh|hh
  ·have:=hS.inj k (by simp) 1 (by simp) _ _ (β k) rk r1 rfl (by show some (β 1)=_;rw[hh])
   omega
  ·have:=hS.inj k (by simp) j (by simp) _ _ (β k) rk rj rfl (by show(β.a j).map (·.block)=some (β k);simpa using hh)
   omega
 have hH:S4 W (β 0) (β 1) (β.a j) (β.c j) m xs [x,y] (.slice (some ⟨β k,0,none⟩) 2 2):=⟨h0,hb1,h2.2,⟨rfl,_,_,rfl,fun _=>⟨β k,0,rfl,nk,h3.lt,fun i u hu=>by have:=h3.cell_of (i:=i) (v:=u) hu;simpa using this⟩⟩⟩;show Calls prog 84 #[.int .u8 (ask:Int),.slice (some ⟨β k,0,none⟩) 2 2,.pointer (some ⟨β 0,0,none⟩),.pointer (some ⟨β 1,0,none⟩)] W _;refine(RO ask bt hH hb (by simp only[WV,Xn];omega)).mono fun en w' hp=>?_;generalize xs++vB bt [x,y]=ys at hp;obtain⟨A',c',he,b0,b1,ho,hc,hn⟩:=hp;refine .inl ⟨fun p hp=>(by cases hp),QA β mm A' ys.length c',fun i hi=>⟨rfl,?_,?_,?_⟩,he,fun q hq=>?_,fun i r hr=>?_,fun i r x hr hx=>?_,fun i i' r r' x hr hr' _ _=>?_,hc.mono fun i hi=>.inl ?_⟩
 ·show β.a i=if i=mm then A' else β.a i
  rw[if_neg (by omega)]
 ·show β.n i=if i=mm then ys.length else β.n i
  rw[if_neg (by omega)]
 ·show β.c i=if i=mm then c' else β.c i
  rw[if_neg (by omega)]
 ·have hq:q=(0,⟨66,.aj m.cells⟩)∨q=(1,⟨70,.dC [.own mm]⟩):=by
   have:q∈[(0,(⟨66,.aj m.cells⟩:Sx.Row)),(1,⟨70,.dC [.own mm]⟩)]:=hq;simpa using this
  rcases hq with rfl|rfl
  ·exact b0
  ·show aq w' (β 1) 70 [.slice (if mm=mm then A' else β.a mm) (if mm=mm then ys.length else β.n mm) (if mm=mm then c' else β.c mm)]
   rw[if_pos rfl,if_pos rfl,if_pos rfl];exact b1
 ·match i,hr with
  | 0,hr=>cases hr;show(if mm+0=mm then ys.length else β.n (mm+0))=ys.length∧Own w' 9 1 (.slice (if mm+0=mm then A' else β.a (mm+0)) ys.length (if mm+0=mm then c' else β.c (mm+0))) ys.length (strs ys);rw[Xf,if_pos rfl,if_pos rfl,if_pos rfl];exact⟨rfl,ho⟩
 ·match i,hr with
  | 0,hr=>
   cases hr;have hx:(if mm+0=mm then A' else β.a (mm+0)).map (·.block)=some x:=hx;rw[Xf,if_pos rfl]at hx;rcases hn x hx with h1|h1
   ·refine .inl (W6.2 ⟨j,by simp[rn],?_⟩)
    unfold Sx.b8;rw[rj];exact h1
   ·exact .inr h1
 ·match i,i',hr,hr' with
  | 0,0,_,_=>rfl
 ·show i∈([0,1]++[j]).filterMap (Sx.b8 β row)
  rcases WR.1 hi with rfl|hi
  ·refine W6.2 ⟨0,by simp,?_⟩
   unfold Sx.b8;rw[r0];rfl
  rcases WR.1 hi with rfl|hi
  ·refine W6.2 ⟨1,by simp,?_⟩
   unfold Sx.b8;rw[r1];rfl
  ·refine W6.2 ⟨j,by simp,?_⟩
   unfold Sx.b8;rw[rj];show(β.a j).map (·.block)=some i;simpa using hi
set_option maxRecDepth 100000
open Go Go.RowKit Go.Lib Go.Sort _root_.Go.Proofs.Tryz
def wN:List Bs:=[xN,mW,oz,fS,iA,jt]
theorem Ib(w:World):Calls prog 151 #[] w (Sx.dM w (.sl 9 1 6 (strs wN))):=by have z0:Sx.gA.sl 9 1 6 (strs wN)=.sl 9 1 6 (strs wN):=rfl;refine Sx.pG (args:=[]) [(1,.jq 9 1)] [] (by kernel_rfl) func151 rfl (bU rfl) ?_;exact WX (by kernel_rfl) z0
set_option maxRecDepth 100000
open Go Go.RowKit Go.Lib Go.Sort _root_.Go.Proofs.Tryz
set_option maxRecDepth 100000
theorem O0:∀(a:Fin 256) (k:Fin 6),(bits .and .u8 (a.val:Int) ((2^k.val:Nat):Int) !=0)=a.val.testBit k.val:=by decide+kernel
theorem yk(m:Mt)(hm:m.Wf)(k:Nat)(hk:k < 6):(bits .and .u8 (m.asks:Int) ((2^k:Nat):Int) !=0)=m.asks.testBit k:=O0 ⟨m.asks,hm.asks⟩ ⟨k,hk⟩
theorem uT(s:Nat×Nat)(h1:s.1≤65535)(h2:s.2≤65535):(eP s).length≤11:=by
 have la:=jf s.1 (by omega);have lb:=jf s.2 (by omega);unfold eP;split
 ·omega
 ·simp only[WO,WV];omega
theorem Io(n:Nat)(h:n≤255):(dR n).length≤5:=by
 have la:=jf n (by omega);unfold dR;split
 ·decide
 split
 ·decide
 ·omega
theorem uu(p:Px):(xI p).length≤100000000:=by
 unfold xI j7;split
 ·rename_i h
  exact Hf (by unfold fW at h;simp only[Xc,decide_eq_true_eq]at h;exact h.1.2)
 ·exact WY _
theorem wi(c:UInt8)(N:Nat):∀xs:List Bs,(∀x∈xs,x.length≤N)→(ax c xs).length≤xs.length*(N+1)
 | [],_=>WY _
 | [x],h=>by have:=h x (by simp);show x.length≤1*(N+1);omega
 |x::y::r,h=>by have:=h x (by simp);have ih:=wi c N (y::r) fun z hz=>h z (WQ _ hz);show(x++c::ax c (y::r)).length≤_;simp only[WO,WV,Nat.add_mul,Nat.one_mul]at ih ⊢;omega
theorem Lv(_n:Nat)(y:List Bs)(hy:y.length≤12)(hx:∀x∈y,x.length≤100000000)(w W:World)(_:ai [] w W)(s:Value)(ho:Own W 9 1 s y.length (strs y)):Calls prog 87 #[s,.string ⟨#[32]⟩] W (Sx.dM W (.val (ae (ax 32 y)))):=by obtain⟨A,c,rfl,_,_⟩:=ho.form;have  :=wi 32 100000000 y hx;have h2:y.length*(100000000+1)≤12*(100000000+1):=Nat.mul_le_mul_right _ hy;exact Cu ho 32 (by omega) (by omega)
theorem RW(m:Mt)(hm:m.Wf)(hc:aY m=false)(w:World):Calls prog 31 #[fQ m] w (Rn w (.tuple #[ae [],.int .i64 190])):=by have c12:=fun W (_:ai [] w W)=>(show Calls prog 83 #[fQ m] W (Rn W (.int .i64 190))from by have:=lS m hm W;rw[hc]at this;exact this);have z0:WN #[.string ⟨#[]⟩,.int .i64 190]=.tuple #[ae [],.int .i64 190]:=rfl;refine Sx.ao (args:=[fQ m]) [(12,.call (.int .i64 190))] [] (by kernel_rfl) func31 rfl (bU rfl) ?_;exact WX (by kernel_rfl) (WW c12 z0)
theorem RX(m:Mt)(hm:m.Wf)(hc:aY m=true)(ha:m.asks=0)(w:World):Calls prog 31 #[fQ m] w (Rn w (.tuple #[ae gD,.int .i64 0])):=by have c12:=fun W (_:ai [] w W)=>(show Calls prog 83 #[fQ m] W (Rn W (.int .i64 0))from by have:=lS m hm W;rw[hc]at this;exact this);have c18:WS ((m.asks:Int)==0)=.bool true:=qI (by rw[ha];rfl);have z0:WN #[.string ⟨#[97,110,121]⟩,.int .i64 0]=.tuple #[ae gD,.int .i64 0]:=rfl;refine Sx.ao (args:=[fQ m]) [(12,.call (.int .i64 0)),(18,.is (.bool true))] [] (by kernel_rfl) func31 rfl (bU rfl) ?_;exact WX (by kernel_rfl) (Sx.t2 c12 c18 z0)
theorem Uk(m:Mt)(hm:m.Wf)(hc:aY m=true)(ha:m.asks≠0)(w:World)(hl:dO w):Calls prog 31 #[fQ m] w (Rn w (.tuple #[ae (ax 32 (kG m)),.int .i64 0])):=by
 have c12:=fun W (_:ai [] w W)=>(show Calls prog 83 #[fQ m] W (Rn W (.int .i64 0))from by have:=lS m hm W;rw[hc]at this;exact this);have c18:WS ((m.asks:Int)==0)=.bool false:=qa (by rw[beq_eq_false_iff_ne];omega);have c23:=fun W (hW:ai [] w W)=>DV m.src.v m.src.n m.src.k hm.sn W (hl.dm hW);have nr:=fun W (hW:ai [] w W)=>DV m.dst.v m.dst.n m.dst.k hm.dn W (hl.dm hW);have xD:=fun W (hW:ai [] w W)=>D5 m.fE hm.fE.1 hm.fE.2 W (hl.dm hW);have c49:=fun W (hW:ai [] w W)=>OX m.bc hm.pr W (hl.dm hW);have c55:=fun W (hW:ai [] w W)=>D5 m.sp hm.sp.1 hm.sp.2 W (hl.dm hW);have c61:=fun W (hW:ai [] w W)=>D5 m.dp hm.dp.1 hm.dp.2 W (hl.dm hW);have hb0:=yk m hm 0 (by omega);have hb1:=yk m hm 1 (by omega);have hb2:=yk m hm 2 (by omega);have hb3:=yk m hm 3 (by omega);have hb4:=yk m hm 4 (by omega);have hb5:=yk m hm 5 (by omega);obtain⟨t0,ht0⟩:∃t:Bs,t=eP m.fE:=⟨_,rfl⟩;obtain⟨t1,ht1⟩:∃t:Bs,t=xI m.src:=⟨_,rfl⟩;obtain⟨t2,ht2⟩:∃t:Bs,t=xI m.dst:=⟨_,rfl⟩;obtain⟨t3,ht3⟩:∃t:Bs,t=dR m.bc:=⟨_,rfl⟩;obtain⟨t4,ht4⟩:∃t:Bs,t=eP m.sp:=⟨_,rfl⟩;obtain⟨t5,ht5⟩:∃t:Bs,t=eP m.dp:=⟨_,rfl⟩;have l0:t0.length≤100000000:=by rw[ht0];exact WU (uT _ hm.fE.1 hm.fE.2) (by omega)
 have l1:t1.length≤100000000:=by rw[ht1];exact uu _
 have l2:t2.length≤100000000:=by rw[ht2];exact uu _
 have l3:t3.length≤100000000:=by rw[ht3];exact WU (Io _ hm.pr) (by omega)
 have l4:t4.length≤100000000:=by rw[ht4];exact WU (uT _ hm.sp.1 hm.sp.2) (by omega)
 have l5:t5.length≤100000000:=by rw[ht5];exact WU (uT _ hm.dp.1 hm.dp.2) (by omega)
 obtain⟨y0,hy0⟩:∃y,y=([]:List Bs)++vB (m.asks.testBit 0) [xN,t0]:=⟨_,rfl⟩;obtain⟨y1,hy1⟩:∃y,y=y0++vB (m.asks.testBit 1) [mW,t1]:=⟨_,rfl⟩;obtain⟨y2,hy2⟩:∃y,y=y1++vB (m.asks.testBit 2) [oz,t2]:=⟨_,rfl⟩;obtain⟨y3,hy3⟩:∃y,y=y2++vB (m.asks.testBit 3) [fS,t3]:=⟨_,rfl⟩;obtain⟨y4,hy4⟩:∃y,y=y3++vB (m.asks.testBit 4) [iA,t4]:=⟨_,rfl⟩;obtain⟨y5,hy5⟩:∃y,y=y4++vB (m.asks.testBit 5) [jt,t5]:=⟨_,rfl⟩;have hy:y5=kG m:=by rw[hy5,hy4,hy3,hy2,hy1,hy0,ht0,ht1,ht2,ht3,ht4,ht5];rfl
 have bd:∀(x:List Bs) (b:Bool) (p q:Bs) (n:Nat),x.length≤n→(x++vB b [p,q]).length≤n+2:=fun x b p q n h=>by
  rw[WO];cases b
  ·show x.length+0≤_;omega
  ·show x.length+2≤_;omega
 have bx:∀(x:List Bs) (b:Bool) (p q:Bs),(∀z∈x,z.length≤100000000)→p.length≤100000000→q.length≤100000000→∀z∈x++vB b [p,q],z.length≤100000000:=fun x b p q h hp hq z hz=>by
  rcases Xm.1 hz with hz|hz
  ·exact h z hz
  ·cases b with
   |true=>
    have hz:z∈[p,q]:=hz;rcases WR.1 hz with rfl|hz
    ·exact hp
    ·rw[Xa.1 hz];exact hq
   |false=>cases hz
 have n0:y0.length≤2:=by rw[hy0];exact bd _ _ _ _ 0 (W9 0)
 have x0:∀z∈y0,z.length≤100000000:=by rw[hy0];exact bx _ _ _ _ (by simp) (by decide) l0
 have n1:y1.length≤4:=by rw[hy1];exact bd _ _ _ _ 2 n0
 have x1:∀z∈y1,z.length≤100000000:=by rw[hy1];exact bx _ _ _ _ x0 (by decide) l1
 have n2:y2.length≤6:=by rw[hy2];exact bd _ _ _ _ 4 n1
 have x2:∀z∈y2,z.length≤100000000:=by rw[hy2];exact bx _ _ _ _ x1 (by decide) l2
 have n3:y3.length≤8:=by rw[hy3];exact bd _ _ _ _ 6 n2
 have x3:∀z∈y3,z.length≤100000000:=by rw[hy3];exact bx _ _ _ _ x2 (by decide) l3
 have n4:y4.length≤10:=by rw[hy4];exact bd _ _ _ _ 8 n3
 have x4:∀z∈y4,z.length≤100000000:=by rw[hy4];exact bx _ _ _ _ x3 (by decide) l4
 have n5:y5.length≤12:=by rw[hy5];exact bd _ _ _ _ 10 n4
 have x5:∀z∈y5,z.length≤100000000:=by rw[hy5];exact bx _ _ _ _ x4 (by decide) l5
 rw[←hy];have c37:=fun W β (hS:Sx.eM ⟨w,[],fun _ _=>False⟩ β W (Sx.rowAt [⟨66,.aj m.cells⟩,⟨70,.dC [.own 2]⟩,⟨9,.own 1 ([]:List Bs).length (strs ([]:List Bs))⟩,⟨9,.aj [ae xN,ae t0]⟩]) [0,1,2,3])=>(show Calls prog 84 (([.val (.int .u8 ((2^0:Nat):Int)),.nO 3 0 2 2,.ptr 0 0,.ptr 1 0]:List Sx.SV).map (Sx.SV.den β)).toArray W (Sx.br ⟨w,[],fun _ _=>False⟩ β W (Sx.rowAt [⟨66,.aj m.cells⟩,⟨70,.dC [.own 2]⟩,⟨9,.own 1 ([]:List Bs).length (strs ([]:List Bs))⟩,⟨9,.aj [ae xN,ae t0]⟩]) 4 (rn 2 3 4 m.cells y0))from by rw[hy0];exact lN xN t0 (2^0) (m.asks.testBit 0) rfl rfl rfl rfl (by omega) (by omega) (by omega) hb0 (WY _) W β hS);have QZ:=fun W β (hS:Sx.eM ⟨w,[],fun _ _=>False⟩ β W (Sx.rowAt [⟨66,.aj m.cells⟩,⟨70,.dC [.own 4]⟩,Sx.au,⟨9,.aj [ae xN,ae t0]⟩,⟨9,.own 1 y0.length (strs y0)⟩,⟨9,.aj [ae mW,ae t1]⟩]) [0,1,4,5])=>(show Calls prog 84 (([.val (.int .u8 ((2^1:Nat):Int)),.nO 5 0 2 2,.ptr 0 0,.ptr 1 0]:List Sx.SV).map (Sx.SV.den β)).toArray W (Sx.br ⟨w,[],fun _ _=>False⟩ β W (Sx.rowAt [⟨66,.aj m.cells⟩,⟨70,.dC [.own 4]⟩,Sx.au,⟨9,.aj [ae xN,ae t0]⟩,⟨9,.own 1 y0.length (strs y0)⟩,⟨9,.aj [ae mW,ae t1]⟩]) 6 (rn 4 5 6 m.cells y1))from by rw[hy1];exact lN mW t1 (2^1) (m.asks.testBit 1) rfl rfl rfl rfl (by omega) (by omega) (by omega) hb1 (WU n0 (by omega)) W β hS);have c45:=fun W β (hS:Sx.eM ⟨w,[],fun _ _=>False⟩ β W (Sx.rowAt [⟨66,.aj m.cells⟩,⟨70,.dC [.own 6]⟩,Sx.au,⟨9,.aj [ae xN,ae t0]⟩,Sx.au,⟨9,.aj [ae mW,ae t1]⟩,⟨9,.own 1 y1.length (strs y1)⟩,⟨9,.aj [ae oz,ae t2]⟩]) [0,1,6,7])=>(show Calls prog 84 (([.val (.int .u8 ((2^2:Nat):Int)),.nO 7 0 2 2,.ptr 0 0,.ptr 1 0]:List Sx.SV).map (Sx.SV.den β)).toArray W (Sx.br ⟨w,[],fun _ _=>False⟩ β W (Sx.rowAt [⟨66,.aj m.cells⟩,⟨70,.dC [.own 6]⟩,Sx.au,⟨9,.aj [ae xN,ae t0]⟩,Sx.au,⟨9,.aj [ae mW,ae t1]⟩,⟨9,.own 1 y1.length (strs y1)⟩,⟨9,.aj [ae oz,ae t2]⟩]) 8 (rn 6 7 8 m.cells y2))from by rw[hy2];exact lN oz t2 (2^2) (m.asks.testBit 2) rfl rfl rfl rfl (by omega) (by omega) (by omega) hb2 (WU n1 (by omega)) W β hS);have c51:=fun W β (hS:Sx.eM ⟨w,[],fun _ _=>False⟩ β W (Sx.rowAt [⟨66,.aj m.cells⟩,⟨70,.dC [.own 8]⟩,Sx.au,⟨9,.aj [ae xN,ae t0]⟩,Sx.au,⟨9,.aj [ae mW,ae t1]⟩,Sx.au,⟨9,.aj [ae oz,ae t2]⟩,⟨9,.own 1 y2.length (strs y2)⟩,⟨9,.aj [ae fS,ae t3]⟩]) [0,1,8,9])=>(show Calls prog 84 (([.val (.int .u8 ((2^3:Nat):Int)),.nO 9 0 2 2,.ptr 0 0,.ptr 1 0]:List Sx.SV).map (Sx.SV.den β)).toArray W (Sx.br ⟨w,[],fun _ _=>False⟩ β W (Sx.rowAt [⟨66,.aj m.cells⟩,⟨70,.dC [.own 8]⟩,Sx.au,⟨9,.aj [ae xN,ae t0]⟩,Sx.au,⟨9,.aj [ae mW,ae t1]⟩,Sx.au,⟨9,.aj [ae oz,ae t2]⟩,⟨9,.own 1 y2.length (strs y2)⟩,⟨9,.aj [ae fS,ae t3]⟩]) 10 (rn 8 9 10 m.cells y3))from by rw[hy3];exact lN fS t3 (2^3) (m.asks.testBit 3) rfl rfl rfl rfl (by omega) (by omega) (by omega) hb3 (WU n2 (by omega)) W β hS);have c57:=fun W β (hS:Sx.eM ⟨w,[],fun _ _=>False⟩ β W (Sx.rowAt [⟨66,.aj m.cells⟩,⟨70,.dC [.own 10]⟩,Sx.au,⟨9,.aj [ae xN,ae t0]⟩,Sx.au,⟨9,.aj [ae mW,ae t1]⟩,Sx.au,⟨9,.aj [ae oz,ae t2]⟩,Sx.au,⟨9,.aj [ae fS,ae t3]⟩,⟨9,.own 1 y3.length (strs y3)⟩,⟨9,.aj [ae iA,ae t4]⟩]) [0,1,10,11])=>(show Calls prog 84 (([.val (.int .u8 ((2^4:Nat):Int)),.nO 11 0 2 2,.ptr 0 0,.ptr 1 0]:List Sx.SV).map (Sx.SV.den β)).toArray W (Sx.br ⟨w,[],fun _ _=>False⟩ β W (Sx.rowAt [⟨66,.aj m.cells⟩,⟨70,.dC [.own 10]⟩,Sx.au,⟨9,.aj [ae xN,ae t0]⟩,Sx.au,⟨9,.aj [ae mW,ae t1]⟩,Sx.au,⟨9,.aj [ae oz,ae t2]⟩,Sx.au,⟨9,.aj [ae fS,ae t3]⟩,⟨9,.own 1 y3.length (strs y3)⟩,⟨9,.aj [ae iA,ae t4]⟩]) 12 (rn 10 11 12 m.cells y4))from by rw[hy4];exact lN iA t4 (2^4) (m.asks.testBit 4) rfl rfl rfl rfl (by omega) (by omega) (by omega) hb4 (WU n3 (by omega)) W β hS);have c63:=fun W β (hS:Sx.eM ⟨w,[],fun _ _=>False⟩ β W (Sx.rowAt [⟨66,.aj m.cells⟩,⟨70,.dC [.own 12]⟩,Sx.au,⟨9,.aj [ae xN,ae t0]⟩,Sx.au,⟨9,.aj [ae mW,ae t1]⟩,Sx.au,⟨9,.aj [ae oz,ae t2]⟩,Sx.au,⟨9,.aj [ae fS,ae t3]⟩,Sx.au,⟨9,.aj [ae iA,ae t4]⟩,⟨9,.own 1 y4.length (strs y4)⟩,⟨9,.aj [ae jt,ae t5]⟩]) [0,1,12,13])=>(show Calls prog 84 (([.val (.int .u8 ((2^5:Nat):Int)),.nO 13 0 2 2,.ptr 0 0,.ptr 1 0]:List Sx.SV).map (Sx.SV.den β)).toArray W (Sx.br ⟨w,[],fun _ _=>False⟩ β W (Sx.rowAt [⟨66,.aj m.cells⟩,⟨70,.dC [.own 12]⟩,Sx.au,⟨9,.aj [ae xN,ae t0]⟩,Sx.au,⟨9,.aj [ae mW,ae t1]⟩,Sx.au,⟨9,.aj [ae oz,ae t2]⟩,Sx.au,⟨9,.aj [ae fS,ae t3]⟩,Sx.au,⟨9,.aj [ae iA,ae t4]⟩,⟨9,.own 1 y4.length (strs y4)⟩,⟨9,.aj [ae jt,ae t5]⟩]) 14 (rn 12 13 14 m.cells y5))from by rw[hy5];exact lN jt t5 (2^5) (m.asks.testBit 5) rfl rfl rfl rfl (by omega) (by omega) (by omega) hb5 (WU n4 (by omega)) W β hS);have c65:=fun W hW s ho=>Lv 0 y5 n5 x5 w W hW s ho;have z0:WN #[ae (ax 32 y5),.int .i64 0]=.tuple #[ae (ax 32 y5),.int .i64 0]:=rfl;rw[←ht0]at xD;have c23:∀W,ai [] w W→Calls prog 72 #[lL m.src] W (Rn W (.tuple #[ae t1,.int .i64 (cU m.src.v m.src.n m.src.k)])):=by rw[ht1];exact c23
 have nr:∀W,ai [] w W→Calls prog 72 #[lL m.dst] W (Rn W (.tuple #[ae t2,.int .i64 (cU m.dst.v m.dst.n m.dst.k)])):=by rw[ht2];exact nr
 rw[←ht3]at c49;rw[←ht4]at c55;rw[←ht5]at c61;clear hy ht0 ht1 ht2 ht3 ht4 ht5 hy0 hy1 hy2 hy3 hy4 hy5;refine Sx.ao (args:=[fQ m]) [(12,.call (.int .i64 0)),(18,.is (.bool false)),(5,.vS [(0,9,1)]),(23,.call (.tuple #[ae t1,.int .i64 (cU m.src.v m.src.n m.src.k)])),(29,.call (.tuple #[ae t2,.int .i64 (cU m.dst.v m.dst.n m.dst.k)])),(35,.call (ae t0)),(49,.call (ae t3)),(55,.call (ae t4)),(61,.call (ae t5)),(37,.ay (rn 2 3 4 m.cells y0)),(41,.ay (rn 4 5 6 m.cells y1)),(45,.ay (rn 6 7 8 m.cells y2)),(51,.ay (rn 8 9 10 m.cells y3)),(57,.ay (rn 10 11 12 m.cells y4)),(63,.ay (rn 12 13 14 m.cells y5)),(65,.bS (.val (ae (ax 32 y5))))] [] (by kernel_rfl) func31 rfl (bU rfl) ?_;exact WX (by kernel_rfl) (Sx.t8 c12 c18 c23 nr xD c37 QZ c45 (Sx.t4 c49 c51 c55 c57 (Sx.t2 c61 c63 (WW c65 z0))))
theorem zR(m:Mt)(hm:m.Wf)(w:World)(hl:dO w):Calls prog 31 #[fQ m] w (Rn w (.tuple #[ae (Ld m),.int .i64 (if aY m=true then 0 else 190)])):=by
 unfold Ld;cases hc:aY m with
 |false=>exact RW m hm hc w
 |true=>
  show Calls prog 31 #[fQ m] w (Rn w (.tuple #[ae (lk m),.int .i64 0]));by_cases ha:m.asks=0
  ·rw[show lk m=gD by unfold lk;rw[if_pos ha]]
   exact RX m hm hc ha w
  ·rw[show lk m=ax 32 (kG m)by unfold lk;rw[if_neg ha]]
   exact Uk m hm hc ha w hl
open Go Go.RowKit Go.Lib Go.Sort _root_.Go.Proofs.Tryz
theorem Rp(x y:Operand)(a i:Nat)(hi:i≤8)(W:World):(do eqGuard .shr 5 x y (.int .u8 (a:Int)) (.int .i64 (i:Int)); binOp .shr 5 (.int .u8 (a:Int)) (.int .i64 (i:Int)):Sem Value).run prog W=.ok (.int .u8 ((a / 2^i:Nat):Int)) W:=by
 show(Op.shift .shr .u8 (a:Int) .i64 (i:Int)).run prog W=_;unfold Op.shift;rw[if_neg (by omega)];have h:min (i:Int).toNat Xg.bits=i:=by show min i 8=i;omega
 show Result.ok (WZ .u8 ((a:Int).fdiv (2^(min (i:Int).toNat Xg.bits)))) W=_;rw[h,Xd _ (Xp (by omega))];simp
theorem Rh{xs:List Bs}{i:Nat}{x:Bs}(h:xs[i]?=some x):(strs xs)[i]?=some (ae x):=by unfold strs;rw[List.getElem?_map,h];rfl
set_option maxRecDepth 100000
open Go Go.RowKit Go.Lib Go.Sort _root_.Go.Proofs.Tryz
set_option maxRecDepth 100000
def IL(most:Nat)(s:Bs):Value:=.tuple #[.int .u64 (eR most s:Int),.bool (aM most s)]
theorem zX{most:Nat}{s:Bs}(h:aM most s=false):WN #[.int .u64 0,.bool false]=IL most s:=by unfold IL eR;rw[h];rfl
theorem Pa{most:Nat}{s:Bs}(h:aM most s=true):WN #[.int .u64 (cK s:Int),.bool true]=IL most s:=by unfold IL eR;rw[h]
def Gq(most:Nat)(s:Bs)(n i:Nat):List (Nat×Sx.SV):=[(0,.val (ae s)),(6,.val (.int .u64 (most:Int))),(7,.val (.int .u64 (n:Int))),(8,.val (.int .i64 (i:Int)))]
def Ex(most:Nat)(s:Bs)(i:Nat):List (Nat×Sx.SV):=Gq most s (cK (s.take i)) i
theorem zY{most:Nat}{s:Bs}{n i:Nat}(h:n=cK (s.take i)):Ex most s i=Gq most s n i:=by rw[h];rfl
structure JI(most:Nat)(s:Bs)(i:Nat):Prop where
 le:i≤s.length
 dg:∀c∈s.take i,L1 c=true
 v:cK (s.take i)≤most
theorem OA(most:Nat)(s:Bs)(hm:most < 18446744073709551616)(h9:9≤most)(hs:s.length≤1000000000)(hne:s≠[])(hz:s.head?=some 48→s=[48])(T:Value)(hT:T=IL most s)(w:World)(i:Nat)(hi:JI most s i):∃H' L',Sx.ex prog f193.ntmps w (Sx.bq f193 0) H' L' ⟨Ex most s i,[]⟩
  (Sx.dP (JI most s) (Ex most s) (fun _=>[]) (fun i=>i+1) (fun i=>s.length+2 - i) (fun(_:Unit)=>aM most s=true) (fun _=>[((7:Nat),Sx.SV.val (.int .u64 (cK s:Int)))]) (fun _=>[]) (fun _=>()) (Sx.eo (Sx.bq f193 0) - 1) (Sx.atEnd prog f193 (fun v=>v=T) .ret) i):=by
 have c27:=iY s;have hi0:=hi.le;by_cases h:i < s.length
 ·have c28:=bT ((i:Int) < (s.length:Int)) (by omega)
  obtain⟨c,hc⟩:∃c,s[i]?=some c:=⟨_,Xe h⟩;have c33:=lF s i c hc;have c38:=c33;have Fm:=c33;by_cases hd:L1 c=true
  ·obtain⟨hd1,hd2,hd3⟩:=Ap hd
   have hr:48≤c.toNat∧c.toNat≤57:=of_decide_eq_true hd;have c34:=bF ((c.toNat:Int) < 48) (by omega);have c39:=bF ((c.toNat:Int) > 57) (by omega);obtain⟨n,hn⟩:∃n,n=cK (s.take i):=⟨_,rfl⟩;have hv:=hi.v;obtain⟨d,hdd⟩:∃d,d=lu c:=⟨_,rfl⟩;have hnx:=IH s i c hc;rw[←hn]at hv hnx;rw[←hdd]at hd2 hd3 hnx;have c44:WZ .u8 (Xg.wrap ((c.toNat:Int) - 48))=.int .u8 (d:Int):=by rw[IntKind.wrap_u8]; congr 1; omega
   have c45:WZ .u64 (W3.wrap (d:Int))=.int .u64 (d:Int):=by rw[W0];congr 1;omega
   have c49:WZ .u64 (W3.wrap ((most:Int) - (d:Int)))=.int .u64 ((most - d:Nat):Int):=by rw[W0]; congr 1; omega
   have c50:WZ .u64 (W3.wrap (((most - d:Nat):Int).tdiv 10))=.int .u64 (((most - d) / 10:Nat):Int):=by rw[show((most - d:Nat):Int).tdiv 10=(((most - d) / 10:Nat):Int)from rfl,W0]; congr 1; omega
   by_cases hb:n > (most - d) / 10
   ·have c51:=bT ((n:Int) > (((most - d) / 10:Nat):Int)) (by omega)
    have z0:WN #[.int .u64 0,.bool false]=T:=by rw[hT];exact zX (IJ (k:=i+1) (by rw[hnx];omega))
    refine⟨[(27,.is (.int .i64 (s.length:Int))),(28,.is (.bool true)),(33,.bin (u8 c)),(34,.is (.bool false)),(38,.bin (u8 c)),(39,.is (.bool false)),(43,.bin (u8 c)),(44,.is (.int .u8 (d:Int))),(45,.is (.int .u64 (d:Int))),(49,.is (.int .u64 ((most - d:Nat):Int))),(50,.is (.int .u64 (((most - d) / 10:Nat):Int))),(51,.is (.bool true))],[],?_⟩;rw[zY hn];exact WX (by kernel_rfl) (Sx.t8 c27 c28 c33 c34 c38 c39 Fm c44 (Sx.t4 c45 c49 c50 c51 z0))
   ·have c51:=bF ((n:Int) > (((most - d) / 10:Nat):Int)) (by omega)
    have c53:WZ .u64 (W3.wrap (10*(n:Int)))=.int .u64 ((10*n:Nat):Int):=by rw[W0];congr 1;omega
    have c55:WZ .u64 (W3.wrap (((10*n:Nat):Int)+(d:Int)))=.int .u64 ((10*n+d:Nat):Int):=by rw[W0];congr 1;omega
    have c30:=mY (i:=i) (by omega);have h0:JI most s (i+1):=⟨h,fun x hx=>by
     rw[List.take_add_one,hc,Xm]at hx;rcases hx with hx|hx
     ·exact hi.dg x hx
     ·rw[Xa.1 hx];exact hd,by rw[hnx];omega⟩
    have h1:s.length+2 - (i+1) < s.length+2 - i:=by omega
    have h2:Gq most s (10*n+d) (i+1)=Ex most s (i+1):=(zY hnx.symm).symm;have z3:([]:List Sx.Row)=[]:=rfl;refine⟨[(27,.is (.int .i64 (s.length:Int))),(28,.is (.bool true)),(33,.bin (u8 c)),(34,.is (.bool false)),(38,.bin (u8 c)),(39,.is (.bool false)),(43,.bin (u8 c)),(44,.is (.int .u8 (d:Int))),(45,.is (.int .u64 (d:Int))),(49,.is (.int .u64 ((most - d:Nat):Int))),(50,.is (.int .u64 (((most - d) / 10:Nat):Int))),(51,.is (.bool false)),(53,.is (.int .u64 ((10*n:Nat):Int))),(55,.is (.int .u64 ((10*n+d:Nat):Int))),(30,.is (.int .i64 ((i+1:Nat):Int)))],[],?_⟩;rw[zY hn];exact WX (by kernel_rfl) (Sx.t8 c27 c28 c33 c34 c38 c39 Fm c44 (Sx.t8 c45 c49 c50 c51 c53 c55 c30 h0 (Sx.t2 h1 h2 z3)))
  ·have hd:L1 c=false:=by simpa using hd
   have z0:WN #[.int .u64 0,.bool false]=T:=by rw[hT];exact zX (IK hc hd)
   have hr:¬(48≤c.toNat∧c.toNat≤57):=of_decide_eq_false hd;by_cases hlo:c.toNat < 48
   ·have c34:=bT ((c.toNat:Int) < 48) (by omega)
    refine⟨[(27,.is (.int .i64 (s.length:Int))),(28,.is (.bool true)),(33,.bin (u8 c)),(34,.is (.bool true))],[],?_⟩;exact WX (by kernel_rfl) (Sx.t4 c27 c28 c33 c34 z0)
   ·have c34:=bF ((c.toNat:Int) < 48) (by omega)
    have c39:=bT ((c.toNat:Int) > 57) (by omega);refine⟨[(27,.is (.int .i64 (s.length:Int))),(28,.is (.bool true)),(33,.bin (u8 c)),(34,.is (.bool false)),(38,.bin (u8 c)),(39,.is (.bool true))],[],?_⟩;exact WX (by kernel_rfl) (Sx.t4 c27 c28 c33 c34 (Sx.t2 c38 c39 z0))
 ·have c28:=bF ((i:Int) < (s.length:Int)) (by omega)
  obtain rfl:i=s.length:=by omega
  have e:s.take s.length=s:=List.take_length;have h0:aM most s=true:=jQ.2 ⟨by have:=hi.v;rwa [e]at this,hne,fun x hx=>hi.dg x (by rwa [e]),hz⟩;have h1:[((7:Nat),Sx.SV.val (.int .u64 (cK (s.take s.length):Int)))]=[((7:Nat),Sx.SV.val (.int .u64 (cK s:Int)))]:=by rw[e]
  have z2:([]:List Sx.Row)=[]:=rfl;refine⟨[(27,.is (.int .i64 (s.length:Int))),(28,.is (.bool false))],[],?_⟩;exact WX (by kernel_rfl) (Sx.t4 c27 c28 h0 h1 z2)
theorem Km(x y:Operand)(k:Nat)(hk:k≤64)(W:World):(do eqGuard .shr 89 x y (.int .u64 18446744073709551615) (.int .i64 (k:Int)); binOp .shr 89 (.int .u64 18446744073709551615) (.int .i64 (k:Int)):Sem Value).run prog W=.ok (.int .u64 ((18446744073709551615 / 2^k:Nat):Int)) W:=by
 show(Op.shift .shr .u64 18446744073709551615 .i64 (k:Int)).run prog W=_;unfold Op.shift;rw[if_neg (by omega)];have h:min (k:Int).toNat W3.bits=k:=by show min k 64=k;omega
 show Result.ok (WZ .u64 ((18446744073709551615:Int).fdiv (2^(min (k:Int).toNat W3.bits)))) W=_;rw[h,Xd _ (Xp (by omega))];simp
theorem o9(s:Bs)(bits:Nat)(hb:4≤bits∧bits≤64)(hs:s.length≤1000000000)(w:World):Calls prog 193 #[ae s,.int .i64 (bits:Int)] w (Rn w (IL (18446744073709551615 / 2^(64 - bits)) s)):=by
 obtain⟨most,hmost⟩:∃m,m=18446744073709551615 / 2^(64 - bits):=⟨_,rfl⟩;have hm:most < 18446744073709551616:=by rw[hmost];exact Nat.lt_of_le_of_lt (Nat.div_le_self _ _) (by decide)
 have h9:9≤most:=by rw[hmost];refine WU ?_ (Nat.div_le_div_left (Nat.pow_le_pow_right (by omega) (show 64 - bits≤60 by omega)) (Nat.pow_pos (by omega)));decide
 rw[←hmost];cases s with
 |nil=>have gb:=fun W=>eX (.tmp 10) (.const (ae [])) [] [] true rfl W;have z0:WN #[.int .u64 0,.bool false]=IL most []:=zX (II most);refine Sx.ao (args:=[ae [],.int .i64 (bits:Int)]) [(11,.bin (.bool true))] [] (by kernel_rfl) func193 rfl (bU rfl) ?_;exact WX (by kernel_rfl) (WW gb z0)
 |cons a t=>
  have gb:=fun W=>eX (.tmp 10) (.const (ae [])) (a::t) [] false (by simp) W;have c14:=lF (a::t) 0 a rfl;obtain⟨z,hz⟩:∃z,z=decide (a=48):=⟨_,rfl⟩;have c15:WS ((a.toNat:Int)==48)=.bool z:=by congr 1;rw[hz,Bool.eq_iff_iff,beq_iff_eq,decide_eq_true_iff,←UInt8.toNat_inj];show(a.toNat:Int)=48↔a.toNat=48;omega
  obtain⟨o,ho⟩:∃o,o=decide (a::t≠[48]):=⟨_,rfl⟩;have c18:=fun W=>(uq (.tmp 17) (.const (ae [48])) (a::t) [48] W).trans (by rw[←ho]);have c23:WZ .i64 (IntKind.i64.wrap (64 - (bits:Int)))=.int .i64 ((64 - bits:Nat):Int):=iw (by rw[jC (by omega) (by omega)]; omega);have c24:=fun W=>(Km (.tmp 21) (.tmp 23) (64 - bits) (by omega) W).trans (by rw[←hmost]);obtain⟨s,hse⟩:∃s,s=a::t:=⟨_,rfl⟩;have hne:s≠[]:=by rw[hse];simp
  rw[←hse]at gb c14 ho c18 hs ⊢;have key:∀(hz:s.head?=some 48→s=[48]),_:=fun hz=>OA most s hm h9 hs hne hz (IL most s) rfl w;have NI:JI most s 0:=⟨WY _,fun x hx=>by simp at hx,WY _⟩;have NE:Gq most s 0 0=Ex most s 0∧([]:List Sx.Row)=[]:=⟨rfl,rfl⟩;have NZ:aM most s=true→WN #[.int .u64 (cK s:Int),.bool true]=IL most s:=Pa;cases z with
  |true=>
   have ha:a=48:=of_decide_eq_true hz.symm;cases o with
   |true=>have hne:=of_decide_eq_true ho.symm;have z0:WN #[.int .u64 0,.bool false]=IL most s:=zX (Ev (by rw[hse,ha];rfl) hne);refine Sx.ao (args:=[ae s,.int .i64 (bits:Int)]) [(11,.bin (.bool false)),(14,.bin (u8 a)),(15,.is (.bool true)),(18,.bin (.bool true))] [] (by kernel_rfl) func193 rfl (bU rfl) ?_;exact WX (by kernel_rfl) (Sx.t4 gb c14 c15 c18 z0)
   |false=>
    have jz:=key fun _=>by have:=of_decide_eq_false ho.symm;simpa using this
    have h0:=NI;have e1:=NE;have z5f:=fun(_:Unit) (h:aM most s=true)=>NZ h;refine Sx.ao (args:=[ae s,.int .i64 (bits:Int)]) [(11,.bin (.bool false)),(14,.bin (u8 a)),(15,.is (.bool true)),(18,.bin (.bool false)),(23,.is (.int .i64 ((64 - bits:Nat):Int))),(24,.bin (.int .u64 (most:Int)))] [.mk Nat 0 (JI most s) (Ex most s) (fun _=>[]) (fun i=>i+1) (fun i=>s.length+2 - i) Unit (fun _=>aM most s=true) (fun _=>[((7:Nat),Sx.SV.val (.int .u64 (cK s:Int)))]) (fun _=>[]) (fun _=>())] (by kernel_rfl) func193 rfl (bU rfl) ?_;exact WX (by kernel_rfl) (Sx.t8 gb c14 c15 c18 c23 c24 h0 e1 (WW jz (fun(x3:Unit) (hx4:aM most s=true)=>(z5f x3 hx4))))
  |false=>have ha:a≠48:=of_decide_eq_false hz.symm;have jz:=key fun h=>absurd (by rw[hse]at h;exact W8.inj h) ha;have h0:=NI;have e1:=NE;have z5f:=fun(_:Unit) (h:aM most s=true)=>NZ h;refine Sx.ao (args:=[ae s,.int .i64 (bits:Int)]) [(11,.bin (.bool false)),(14,.bin (u8 a)),(15,.is (.bool false)),(23,.is (.int .i64 ((64 - bits:Nat):Int))),(24,.bin (.int .u64 (most:Int)))] [.mk Nat 0 (JI most s) (Ex most s) (fun _=>[]) (fun i=>i+1) (fun i=>s.length+2 - i) Unit (fun _=>aM most s=true) (fun _=>[((7:Nat),Sx.SV.val (.int .u64 (cK s:Int)))]) (fun _=>[]) (fun _=>())] (by kernel_rfl) func193 rfl (bU rfl) ?_;exact WX (by kernel_rfl) (Sx.t8 gb c14 c15 c23 c24 h0 e1 jz (fun(x3:Unit) (hx4:aM most s=true)=>(z5f x3 hx4)))
set_option maxRecDepth 100000
open Go.RowKit Go.Lib Go.Sort _root_.Go.Proofs.Tryz
theorem PN:∀(s:List UInt8) (k n:Nat) (b:Bool) (f:Nat→Nat),(∀j,f j < 256)→∀j,(eg s k n b f).1 j < 256:=by
 have hu:∀(f:Nat→Nat) (k n:Nat),(∀j,f j < 256)→n < 256→∀j,de f k n j < 256:=fun f k n hf hn j=>by
  unfold de;split
  ·exact hn
  ·exact hf j
 intro s;induction s with
 |nil=>
  intro k n b f hf j;rw[eg];split
  ·exact hf j
  ·exact hu f k n hf (by omega) j
 |cons c l ih=>
  intro k n b f hf j;rw[eg];split
  ·split
   ·exact hf j
   ·exact ih _ _ _ _ (hu f k n hf (by omega)) j
  ·split
   ·exact hf j
   ·exact ih _ _ _ _ hf j
theorem Rm(s:List UInt8)(j:Nat):(pK s).1 j < 256:=by
 have hl:∀(l:List Nat) (f:Nat→Nat) (k:Nat),(∀u∈l,u < 65536)→(∀j,f j < 256)→∀j,gU f k l j < 256:=by
  intro l f k hl hf j;rw[uA];split
  ·rename_i u hu
   have:=hl u (W2 hu);split
   ·split
    ·exact Nat.div_lt_of_lt_mul (by omega)
    ·exact Nat.mod_lt _ (by decide)
   ·exact hf j
  ·exact hf j
 unfold pK ss;split
 ·rename_i a b ha hb
  split
  ·show 0 < 256;omega
  ·exact hl _ _ _ (oq hb).1 (hl _ _ _ (oq ha).1 fun _=>by show 0 < 256;omega) j
 ·show 0 < 256;omega
theorem AL(v:Bool)(n:Nat):WS (dz v n !=0)=.bool (!iM v n):=by unfold dz;cases iM v n<;>rfl
def y9:Value:=.agg (b7 false 0).toArray
theorem zE(s:List UInt8)(w:World)(v:Bool)(n:Nat)(hn:n < 2^128)(R:Value)
  (H:(v=false∧∀W,Calls prog 45 #[.string ⟨s.toArray⟩] W (Rn W (.tuple #[.agg (b7 v n).toArray,.bool true])))∨
   (v=true∧∃f b,(∀W,Calls prog 45 #[.string ⟨s.toArray⟩] W (Rn W (.tuple #[.agg (aw false f).toArray,.bool false])))∧(∀W,Calls prog 46 #[.string ⟨s.toArray⟩] W (Rn W (.tuple #[.agg (b7 v n).toArray,.bool b])))∧(b=false→R=.tuple #[y9,.int .i64 150])))
  (h1:A4 s v n→R=.tuple #[.agg (b7 v n).toArray,.int .i64 0]) (h2:¬A4 s v n→R=.tuple #[y9,.int .i64 150]) :
  Calls prog 15 #[.string ⟨s.toArray⟩] w (Rn w R):=by
 have c22:=fun W (_:ai [] w W)=>tA v n hn W;rcases H with⟨_,H⟩ | ⟨_,f,b,H4,H6,hb⟩
 ·have c10:=fun W (_:ai [] w W)=>H W
  cases hok:iM v n with
  |false=>
   have nr:WS (dz v n !=0)=.bool true:=by rw[AL,hok];rfl
   have z0:WN #[y9,.int .i64 150]=R:=(h2 fun h=>by rw[h.2.1]at hok;cases hok).symm;refine Sx.ao (args:=[.string ⟨s.toArray⟩]) [(10,.call (.tuple #[.agg (b7 v n).toArray,.bool true])),(22,.call (.tuple #[.string ⟨(fK v n).toArray⟩,.int .i64 (dz v n)])),(29,.is (.bool true))] [] (by kernel_rfl) func15 rfl (bU rfl) ?_;exact WX (by kernel_rfl) (Sx.t2 c10 c22 (WW nr z0))
  |true=>
   have nr:WS (dz v n !=0)=.bool false:=by rw[AL,hok];rfl
   have hat:fK v n=eO v n:=by unfold fK;rw[hok];rfl
   by_cases he:fK v n=s
   ·have c34:=zi (.tmp 32) (.tmp 33) (fK v n) s (r:=false) (by simpa using he)
    have z0:WN #[.agg (b7 v n).toArray,.int .i64 0]=R:=(h1 ⟨hn,hok,by rw[←hat];exact he⟩).symm;refine Sx.ao (args:=[.string ⟨s.toArray⟩]) [(10,.call (.tuple #[.agg (b7 v n).toArray,.bool true])),(22,.call (.tuple #[.string ⟨(fK v n).toArray⟩,.int .i64 (dz v n)])),(29,.is (.bool false)),(34,.bin (.bool false))] [] (by kernel_rfl) func15 rfl (bU rfl) ?_;exact WX (by kernel_rfl) (Sx.t4 c10 c22 nr c34 z0)
   ·have c34:=zi (.tmp 32) (.tmp 33) (fK v n) s (r:=true) (by simpa using he)
    have z0:WN #[y9,.int .i64 150]=R:=(h2 fun h=>he (by rw[hat];exact h.2.2)).symm;refine Sx.ao (args:=[.string ⟨s.toArray⟩]) [(10,.call (.tuple #[.agg (b7 v n).toArray,.bool true])),(22,.call (.tuple #[.string ⟨(fK v n).toArray⟩,.int .i64 (dz v n)])),(29,.is (.bool false)),(34,.bin (.bool true))] [] (by kernel_rfl) func15 rfl (bU rfl) ?_;exact WX (by kernel_rfl) (Sx.t4 c10 c22 nr c34 z0)
 ·have c10:=fun W (_:ai [] w W)=>H4 W
  have c17:=fun W (_:ai [] w W)=>H6 W;cases b with
  |false=>have z0:WN #[y9,.int .i64 150]=R:=(hb rfl).symm;refine Sx.ao (args:=[.string ⟨s.toArray⟩]) [(10,.call (.tuple #[.agg (aw false f).toArray,.bool false])),(17,.call (.tuple #[.agg (b7 v n).toArray,.bool false])),(22,.call (.tuple #[.string ⟨(fK v n).toArray⟩,.int .i64 (dz v n)]))] [] (by kernel_rfl) func15 rfl (bU rfl) ?_;exact WX (by kernel_rfl) (Sx.t2 c10 c17 (WW c22 z0))
  |true=>
   cases hok:iM v n with
   |false=>
    have nr:WS (dz v n !=0)=.bool true:=by rw[AL,hok];rfl
    have z0:WN #[y9,.int .i64 150]=R:=(h2 fun h=>by rw[h.2.1]at hok;cases hok).symm;refine Sx.ao (args:=[.string ⟨s.toArray⟩]) [(10,.call (.tuple #[.agg (aw false f).toArray,.bool false])),(17,.call (.tuple #[.agg (b7 v n).toArray,.bool true])),(22,.call (.tuple #[.string ⟨(fK v n).toArray⟩,.int .i64 (dz v n)])),(29,.is (.bool true))] [] (by kernel_rfl) func15 rfl (bU rfl) ?_;exact WX (by kernel_rfl) (Sx.t4 c10 c17 c22 nr z0)
   |true=>
    have nr:WS (dz v n !=0)=.bool false:=by rw[AL,hok];rfl
    have hat:fK v n=eO v n:=by unfold fK;rw[hok];rfl
    by_cases he:fK v n=s
    ·have c34:=zi (.tmp 32) (.tmp 33) (fK v n) s (r:=false) (by simpa using he)
     have z0:WN #[.agg (b7 v n).toArray,.int .i64 0]=R:=(h1 ⟨hn,hok,by rw[←hat];exact he⟩).symm;refine Sx.ao (args:=[.string ⟨s.toArray⟩]) [(10,.call (.tuple #[.agg (aw false f).toArray,.bool false])),(17,.call (.tuple #[.agg (b7 v n).toArray,.bool true])),(22,.call (.tuple #[.string ⟨(fK v n).toArray⟩,.int .i64 (dz v n)])),(29,.is (.bool false)),(34,.bin (.bool false))] [] (by kernel_rfl) func15 rfl (bU rfl) ?_;exact WX (by kernel_rfl) (Sx.t4 c10 c17 c22 nr (WW c34 z0))
    ·have c34:=zi (.tmp 32) (.tmp 33) (fK v n) s (r:=true) (by simpa using he)
     have z0:WN #[y9,.int .i64 150]=R:=(h2 fun h=>he (by rw[hat];exact h.2.2)).symm;refine Sx.ao (args:=[.string ⟨s.toArray⟩]) [(10,.call (.tuple #[.agg (aw false f).toArray,.bool false])),(17,.call (.tuple #[.agg (b7 v n).toArray,.bool true])),(22,.call (.tuple #[.string ⟨(fK v n).toArray⟩,.int .i64 (dz v n)])),(29,.is (.bool false)),(34,.bin (.bool true))] [] (by kernel_rfl) func15 rfl (bU rfl) ?_;exact WX (by kernel_rfl) (Sx.t4 c10 c17 c22 nr (WW c34 z0))
theorem zD{s:List UInt8}{v:Bool}{n:Nat}(h:A4 s v n)(hs:s.length≤100000000)(w:World):Calls prog 15 #[.string ⟨s.toArray⟩] w (Rn w (.tuple #[.agg (b7 v n).toArray,.int .i64 0])):=by
 refine zE s w v n h.1 _ ?_ (fun _=>rfl) (fun h'=>absurd h h');cases v with
 |false=>
  refine .inl ⟨rfl,fun W=>?_⟩;have:=AB s hs W;have ht:s=ff n:=h.2.2.symm;rw[ht,I9]at this;rw[ht];have e:aw false (Mj n)=b7 false n:=mg false fun j hj=>by
   have h0:=(O9 h.1).1 h.2.1 j;unfold Mj de;split
   ·rename_i hh;rw[hh]
   ·split
    ·rename_i hh;rw[hh]
    ·split
     ·rename_i hh;rw[hh]
     ·split
      ·rename_i hh;rw[hh]
      ·exact(h0 (by omega) hj).symm
  unfold tP at this;simp only at this;rwa [e]at this
 |true=>
  have ht:s=cB (aK n):=h.2.2.symm;have h4:(eg s 0 0 false fun _=>0).2=false:=qD s 0 0 false _ (by rw[ht];exact xm n);obtain⟨h6,h7⟩:=Kk n;refine .inr ⟨rfl,(eg s 0 0 false fun _=>0).1,true,fun W=>?_,fun W=>?_,by intro h;cases h⟩
  ·have:=AB s hs W
   unfold tP at this;rwa [h4]at this
  ·have:=QF s hs W
   unfold xG at this;rw[ht,h6,mg true h7]at this;rw[ht];exact this
theorem zC{s:List UInt8}(h:∀v n,¬A4 s v n)(hs:s.length≤100000000)(w:World):Calls prog 15 #[.string ⟨s.toArray⟩] w (Rn w (.tuple #[y9,.int .i64 150])):=by
 cases h4:(eg s 0 0 false fun _=>0).2 with
 |true=>obtain⟨n,hn,ha,_⟩:=qO false _ (PN s 0 0 false (fun _=>0) fun _=>by show 0 < 256;omega);refine zE s w false n hn _ (.inl ⟨rfl,fun W=>?_⟩) (fun h'=>absurd h' (h _ _)) (fun _=>rfl);have:=AB s hs W;unfold tP at this;rwa [h4,ha]at this
 |false=>
  obtain⟨n,hn,ha,_⟩:=qO true _ (Rm s);refine zE s w true n hn _ (.inr ⟨rfl,(eg s 0 0 false fun _=>0).1,(pK s).2,fun W=>?_,fun W=>?_,fun _=>rfl⟩) (fun h'=>absurd h' (h _ _)) (fun _=>rfl)
  ·have:=AB s hs W
   unfold tP at this;rwa [h4]at this
  ·have:=QF s hs W
   unfold xG at this;rwa [ha]at this
set_option maxRecDepth 100000
open Go.RowKit Go.Lib Go.Sort _root_.Go.Proofs.Tryz
set_option maxRecDepth 100000
theorem Kq(v:Bool)(n:Nat)(w:World):Calls prog 51 #[.agg (b7 v n).toArray] w (Rn w (.int .i64 (wid v:Nat))):=by
 cases v with
 |false=>have z0:WZ .i64 32=.int .i64 ((wid false:Nat):Int):=rfl;refine Sx.ao (args:=[.agg (b7 false n).toArray]) [] [] (by kernel_rfl) func51 rfl (bU rfl) ?_;exact WX (by kernel_rfl) z0
 |true=>have z0:WZ .i64 128=.int .i64 ((wid true:Nat):Int):=rfl;refine Sx.ao (args:=[.agg (b7 true n).toArray]) [] [] (by kernel_rfl) func51 rfl (bU rfl) ?_;exact WX (by kernel_rfl) z0
def uH(s:List UInt8):Nat→Nat
 | 0=>s.length
 |i+1=>if s[i]?=some 47 then i else uH s i
theorem M0(s:List UInt8):∀i,i≤s.length→uH s i≤s.length
 | 0,_=>W9 _
 |i+1,h=>by
  rw[uH];split
  ·omega
  ·exact M0 s i (by omega)
theorem M1(l m:List UInt8)(h:(47:UInt8)∉m):uH (l++47::m) (l++47::m).length=l.length:=by
 have key:∀i,i≤m.length→uH (l++47::m) (l.length+1+i)=l.length:=by
  intro i;induction i with
  |zero=>intro _;rw[Xf,uH,if_pos (by rw[WT (W9 _)];simp)]
  |succ i ih=>intro hi;rw[show l.length+1+(i+1)=(l.length+1+i)+1 by omega,uH,if_neg,ih (by omega)];rw[WT (by omega),show l.length+1+i - l.length=i+1 by omega,List.getElem?_cons_succ];intro he;exact h (W2 he)
 have:=key m.length (W9 _);rw[show(l++47::m).length=l.length+1+m.length by simp;omega];exact this
def rl(s:List UInt8)(i:Nat):List (Nat×Sx.SV):=[(0,.val (.string ⟨s.toArray⟩)),(2,.ptr 0 0),(4,.val (.int .i64 (uH s i:Nat))),(5,.val (.int .i64 (i:Int)))]
def Th:List Value:=cZ false 0 0
def j5:List Sx.Row:=[⟨29,.aj Th⟩]
def Gb(s:List UInt8):List (Nat×Sx.SV):=[(0,.val (.string ⟨s.toArray⟩)),(2,.ptr 0 0),(4,.val (.int .i64 (uH s s.length:Nat)))]
theorem RG(s:List UInt8)(T:Value)(w:World)(hs:s.length≤100000000)(i:Nat)(hi:i≤s.length):∃H' L',Sx.ex prog 58 w (Sx.bq f17 0) H' L' ⟨rl s i,j5⟩
  (Sx.dP (fun i=>i≤s.length) (rl s) (fun _=>j5) (fun i=>i+1) (fun i=>s.length+2 - i) (fun(_:Unit)=>True) (fun _=>Gb s) (fun _=>j5) (fun _=>()) (Sx.eo (Sx.bq f17 0) - 1) (Sx.atEnd prog f17 (fun u=>u=T) .ret) i):=by
 have jM:=iY s;by_cases h:i < s.length
 ·have c17:=bT ((i:Int) < (s.length:Int)) (by omega)
  obtain⟨c,hc⟩:∃c,s[i]?=some c:=⟨_,Xe h⟩;have c22:=lF s i c hc;have c19:=mY (i:=i) (by omega);have h0:i+1≤s.length:=h;have h1:s.length+2 - (i+1) < s.length+2 - i:=by omega
  have z3:j5=j5:=rfl;by_cases h47:c=47
  ·have c23:WS ((c.toNat:Int)==47)=.bool true:=qI (by rw[h47];rfl)
   have ha:uH s (i+1)=i:=by rw[uH,if_pos (by rw[hc,h47])]
   have h2:[((0:Nat),Sx.SV.val (.string ⟨s.toArray⟩)),(2,.ptr 0 0),(4,.val (.int .i64 (i:Int))),(5,.val (.int .i64 ((i+1:Nat):Int)))]=rl s (i+1):=by unfold rl;rw[ha]
   refine⟨[(16,.is (.int .i64 (s.length:Int))),(17,.is (.bool true)),(22,.bin (u8 c)),(23,.is (.bool true)),(19,.is (.int .i64 ((i+1:Nat):Int)))],[],?_⟩;exact WX (by kernel_rfl) (Sx.t8 jM c17 c22 c23 c19 h0 h1 h2 z3)
  ·have c23:WS ((c.toNat:Int)==47)=.bool false:=qa (by
    have:c.toNat≠47:=fun h=>h47 (UInt8.toNat_inj.1 (by rw[h];rfl));simp;omega)
   have ha:uH s (i+1)=uH s i:=by rw[uH,if_neg (by rw[hc];intro h;exact h47 (W8.inj h))]
   have h2:[((0:Nat),Sx.SV.val (.string ⟨s.toArray⟩)),(2,.ptr 0 0),(4,.val (.int .i64 (uH s i:Nat))),(5,.val (.int .i64 ((i+1:Nat):Int)))]=rl s (i+1):=by unfold rl;rw[ha]
   refine⟨[(16,.is (.int .i64 (s.length:Int))),(17,.is (.bool true)),(22,.bin (u8 c)),(23,.is (.bool false)),(19,.is (.int .i64 ((i+1:Nat):Int)))],[],?_⟩;exact WX (by kernel_rfl) (Sx.t8 jM c17 c22 c23 c19 h0 h1 h2 z3)
 ·have c17:=bF ((i:Int) < (s.length:Int)) (by omega)
  have hi':i=s.length:=by omega
  have h0:True:=trivial;have h1:[((0:Nat),Sx.SV.val (.string ⟨s.toArray⟩)),(2,.ptr 0 0),(4,.val (.int .i64 (uH s i:Nat)))]=Gb s:=by unfold Gb;rw[hi']
  have z2:j5=j5:=rfl;refine⟨[(16,.is (.int .i64 (s.length:Int))),(17,.is (.bool false))],[],?_⟩;exact WX (by kernel_rfl) (Sx.t4 jM c17 h0 h1 z2)
def vx(s:List UInt8)(i:Nat):List (Nat×Sx.SV):=[(0,.val (.string ⟨s.toArray⟩)),(2,.ptr 0 0),(6,.ptr 1 0),(8,.val (.int .i64 (i:Int)))]
def j4(v:Bool)(n:Nat):List Sx.Row:=[⟨29,.aj Th⟩,⟨24,.aj (b7 v n)⟩]
def KW(s:List UInt8)(v:Bool)(n:Nat)(i:Nat):Prop:=i≤wid v+1∧∀j:Nat,j < i→¬r7 s v n j
theorem GW(v:Bool)(n:Nat)(k:Int):WS (cU v n k==0)=.bool (fW v n k):=by unfold cU;cases fW v n k<;>rfl
def Ra:Value:=.agg (cZ false 0 0).toArray
theorem RF(s:List UInt8)(v:Bool)(n:Nat)(hn:n < 2^128)(T:Value)(w:World)(hyes:∀j:Nat,r7 s v n j→WN #[.agg (cZ v n j).toArray,.int .i64 0]=T)(i:Nat)(hi:KW s v n i):∃H' L',Sx.ex prog 58 w (Sx.bq f17 1) H' L' ⟨vx s i,j4 v n⟩
  (Sx.dP (KW s v n) (vx s) (fun _=>j4 v n) (fun i=>i+1) (fun i=>wid v+2 - i) (fun(_:Unit)=>∀j:Nat,j≤wid v→¬r7 s v n j) (fun _=>[((2:Nat),Sx.SV.ptr 0 0)]) (fun _=>j4 v n) (fun _=>()) (Sx.eo (Sx.bq f17 1) - 1) (Sx.atEnd prog f17 (fun u=>u=T) .ret) i):=by
 have c37:=fun W (_:ai [] w W)=>Kq v n W;have hw:=eW v;obtain⟨h1,h2⟩:=hi;by_cases h:i≤wid v
 ·have c38:=bT ((i:Int)≤(wid v:Nat)) (by omega)
  have c40:=mY (i:=i) (by omega);have c46:=fun W (_:ai [] w W)=>Ov v n i hn W;have nx:¬r7 s v n i→KW s v n (i+1):=fun hno=>⟨by omega,fun j hj=>by
   by_cases hji:j=i
   ·rw[hji];exact hno
   ·exact h2 j (by omega)⟩
  have hm:wid v+2 - (i+1) < wid v+2 - i:=by omega
  have hh2:vx s (i+1)=vx s (i+1):=rfl;have hh3:j4 v n=j4 v n:=rfl;cases hok:fW v n i with
  |false=>
   have c50:WS (cU v n i==0)=.bool false:=by rw[GW,hok]
   have h0:=nx fun hp=>by rw[hp.2.1]at hok;cases hok
   have h1:=hm;have h2:=hh2;have z3:=hh3;refine⟨[(37,.call (.int .i64 (wid v:Nat))),(38,.is (.bool true)),(46,.call (.tuple #[.string ⟨(j7 v n i).toArray⟩,.int .i64 (cU v n i)])),(50,.is (.bool false)),(40,.is (.int .i64 ((i+1:Nat):Int)))],[],?_⟩;exact WX (by kernel_rfl) (Sx.t8 c37 c38 c46 c50 c40 h0 h1 h2 z3)
  |true=>
   have c50:WS (cU v n i==0)=.bool true:=by rw[GW,hok]
   have hpt:j7 v n i=iV v n i:=by unfold j7;rw[hok];rfl
   by_cases he:j7 v n i=s
   ·have c54:=zj (.tmp 52) (.tmp 53) (j7 v n i) s (r:=true) (by simpa using he)
    have z0:=hyes i ⟨hn,hok,by rw[←hpt];exact he⟩;refine⟨[(37,.call (.int .i64 (wid v:Nat))),(38,.is (.bool true)),(46,.call (.tuple #[.string ⟨(j7 v n i).toArray⟩,.int .i64 (cU v n i)])),(50,.is (.bool true)),(54,.bin (.bool true))],[],?_⟩;exact WX (by kernel_rfl) (Sx.t4 c37 c38 c46 c50 (WW c54 z0))
   ·have c54:=zj (.tmp 52) (.tmp 53) (j7 v n i) s (r:=false) (by simpa using he)
    have h0:=nx fun hp=>he (by rw[hpt];exact hp.2.2);have h1:=hm;have h2:=hh2;have z3:=hh3;refine⟨[(37,.call (.int .i64 (wid v:Nat))),(38,.is (.bool true)),(46,.call (.tuple #[.string ⟨(j7 v n i).toArray⟩,.int .i64 (cU v n i)])),(50,.is (.bool true)),(54,.bin (.bool false)),(40,.is (.int .i64 ((i+1:Nat):Int)))],[],?_⟩;exact WX (by kernel_rfl) (Sx.t8 c37 c38 c46 c50 c54 c40 h0 h1 (WW h2 z3))
 ·have c38:=bF ((i:Int)≤(wid v:Nat)) (by omega)
  have h0:∀j:Nat,j≤wid v→¬r7 s v n j:=fun j hj=>h2 j (by omega);have h1:[((2:Nat),Sx.SV.ptr 0 0)]=[((2:Nat),Sx.SV.ptr 0 0)]:=rfl;have z2:j4 v n=j4 v n:=rfl;refine⟨[(37,.call (.int .i64 (wid v:Nat))),(38,.is (.bool false))],[],?_⟩;exact WX (by kernel_rfl) (Sx.t4 c37 c38 h0 h1 z2)
def Ga(s:List UInt8)(v:Bool)(n:Nat):List Sx.Loop:=
 [.mk Nat 0 (fun i=>i≤s.length) (rl s) (fun _=>j5) (fun i=>i+1) (fun i=>s.length+2 - i) Unit (fun _=>True) (fun _=>Gb s) (fun _=>j5) (fun _=>()),
  .mk Nat 0 (KW s v n) (vx s) (fun _=>j4 v n) (fun i=>i+1) (fun i=>wid v+2 - i) Unit (fun _=>∀j:Nat,j≤wid v→¬r7 s v n j) (fun _=>[((2:Nat),Sx.SV.ptr 0 0)]) (fun _=>j4 v n) (fun _=>())]
theorem sA(s:List UInt8)(hs:s.length≤100000000)(w:World)(v:Bool)(n:Nat)(hn:n < 2^128)(T:Value)
  (H:(A4 (s.take (uH s s.length)) v n∧(∀j:Nat,r7 s v n j→WN #[.agg (cZ v n j).toArray,.int .i64 0]=T)∧((∀j:Nat,j≤wid v→¬r7 s v n j)→WN #[Ra,.int .i64 151]=T))∨
   ((∀v n,¬A4 (s.take (uH s s.length)) v n)∧WN #[Ra,.int .i64 151]=T)):Calls prog 17 #[.string ⟨s.toArray⟩] w (Rn w T):=by
 have hat:=M0 s s.length (W9 _);have c13:=iY s;have h0:0≤s.length:=WY _;have e1:rl s 0=rl s 0∧j5=j5:=⟨rfl,rfl⟩;have jz:=RG s T w hs;have c28:=uU s (uH s s.length) hat;have hl:(s.take (uH s s.length)).length≤100000000:=by rw[List.length_take];omega
 rcases H with⟨hA,hy,hno⟩ | ⟨hA,hT⟩
 ·have nr:=fun W (_:ai [] w W)=>zD hA hl W
  have h5:KW s v n 0:=⟨WY _,fun j hj=>by omega⟩;have e6:vx s 0=vx s 0∧j4 v n=j4 v n:=⟨rfl,rfl⟩;have rd7:=RF s v n hn T w hy;refine Sx.ao (args:=[.string ⟨s.toArray⟩]) [(13,.is (.int .i64 (s.length:Int))),(28,.bin (.string ⟨(s.take (uH s s.length)).toArray⟩)),(29,.call (.tuple #[.agg (b7 v n).toArray,.int .i64 0]))] (Ga s v n) (by kernel_rfl) func17 rfl (bU rfl) ?_;exact WX (by kernel_rfl) (Sx.t4 c13 h0 e1 jz (fun(x:Unit) (hx4:True)=>(Sx.t4 c28 nr h5 e6 (WW rd7 (fun(x:Unit) (hx9:∀j:Nat,j≤wid v→¬r7 s v n j)=>hno hx9)))))
 ·have nr:=fun W (_:ai [] w W)=>zC hA hl W
  have z5:=hT;refine Sx.ao (args:=[.string ⟨s.toArray⟩]) [(13,.is (.int .i64 (s.length:Int))),(28,.bin (.string ⟨(s.take (uH s s.length)).toArray⟩)),(29,.call (.tuple #[y9,.int .i64 150]))] (Ga s v n) (by kernel_rfl) func17 rfl (bU rfl) ?_;exact WX (by kernel_rfl) (Sx.t4 c13 h0 e1 jz (fun(x:Unit) (hx4:True)=>(Sx.t2 c28 nr z5)))
theorem L0{s:List UInt8}{v:Bool}{n j:Nat}(h:r7 s v n j):A4 (s.take (uH s s.length)) v n:=by
 obtain⟨hn,hok,ht⟩:=h;have hd:(47:UInt8)∉an 10 j:=iD (by omega) (by omega) (.inl (by decide));have hs:s=eO v n++47::an 10 j:=by rw[←ht];unfold iV;rw[W7]
 have:=M1 (eO v n) (an 10 j) hd;rw[←hs]at this;rw[this];refine⟨hn,ph hok,?_⟩;rw[hs];exact(Xk rfl).symm
theorem PB{s:List UInt8}{v:Bool}{n:Nat}{k:Int}(h:r7 s v n k):∃j:Nat,k=j∧j≤wid v:=by have h2:=h.2.1;unfold fW at h2;simp only[Xc,decide_eq_true_eq]at h2;exact⟨k.toNat,by omega,by omega⟩
theorem Ky{s:List UInt8}{v:Bool}{n:Nat}{k:Int}(h:r7 s v n k)(hs:s.length≤100000000)(w:World):Calls prog 17 #[.string ⟨s.toArray⟩] w (Rn w (.tuple #[.agg (cZ v n k).toArray,.int .i64 0])):=by
 obtain⟨j,rfl,hj⟩:=PB h;refine sA s hs w v n h.1 _ (.inl ⟨L0 h,fun i hi=>?_,fun hno=>absurd h (hno j hj)⟩);have h1:iV v n i=iV v n j:=by rw[hi.2.2,h.2.2]
 unfold iV at h1;rw[W7,W7]at h1;have h2:=List.append_cancel_left h1;injection h2 with _ h2;rw[w7 (by omega) (by omega) h2]
theorem Kx{s:List UInt8}(h:∀v n k,¬r7 s v n k)(hs:s.length≤100000000)(w:World):Calls prog 17 #[.string ⟨s.toArray⟩] w (Rn w (.tuple #[Ra,.int .i64 151])):=by
 by_cases hA:∃v n,A4 (s.take (uH s s.length)) v n
 ·obtain⟨v,n,hA⟩:=hA
  exact sA s hs w v n hA.1 _ (.inl ⟨hA,fun j hj=>absurd hj (h _ _ _),fun _=>rfl⟩)
 ·exact sA s hs w false 0 (by decide) _ (.inr ⟨fun v n hh=>hA ⟨v,n,hh⟩,rfl⟩)
set_option maxRecDepth 100000
open Go Go.RowKit Go.Lib Go.Sort _root_.Go.Proofs.Tryz
set_option maxRecDepth 100000
def JH{α:Type}(n:Nat)(q:RA α):Prop:=∀st:RS,st.at_≤n→st.e≤1000→(q st).2.at_≤n∧(q st).2.e≤1000
theorem cF{n:Nat}{ws:List Bs}(h:ws.length=n):JH n (av ws):=fun st h1 h2=>by
 unfold av;cases Xo st.e 0 with
 |false=>exact⟨h1,h2⟩
 |true=>
  cases hx:ws[st.at_]? with
  |none=>exact⟨h1,(by decide:200≤1000)⟩
  |some x=>exact⟨by rw[←h];exact(List.getElem?_eq_some_iff.1 hx).1,(by decide:0≤1000)⟩
theorem sw{n code:Nat}{st:RS}(hc:code≤1000)(h1:st.at_≤n)(h2:st.e≤1000):(ee code st).at_≤n∧(ee code st).e≤1000:=by
 unfold ee;cases Xo st.e 0 with
 |false=>exact⟨h1,h2⟩
 |true=>exact⟨by show st.at_ - 1≤n; omega,hc⟩
theorem zO{α:Type}{n code:Nat}{ok:Bool}{a:α}(hc:code≤1000):JH n (xH ok code a):=fun st h1 h2=>by
 cases ok with
 |true=>exact⟨h1,h2⟩
 |false=>exact sw hc h1 h2
theorem lI{α:Type}{n:Nat}{a:α}:JH n (pW a):=fun _ h1 h2=>⟨h1,h2⟩
theorem gP{α β:Type}{n:Nat}{q:RA α}{f:α→RA β}(h:JH n q)(hf:∀a,JH n (f a)):JH n (j6 q f):=fun st h1 h2=>by obtain⟨h3,h4⟩:=h st h1 h2;exact hf _ _ h3 h4
theorem lK{ws:List Bs}{st:RS}:(av ws st).2.e=0→1≤(av ws st).2.at_:=by
 unfold av;cases he:Xo st.e 0 with
 |false=>intro h;rw[h]at he;cases he
 |true=>
  cases ws[st.at_]? with
  |none=>intro h;cases h
  |some x=>intro _;exact Nat.succ_pos _
theorem pI.next{w W:World}{S:List Nat}{g:Nat}{A:Option Go.Addr}{n c:Nat}{st:RS}{ws:List Bs}(h:pI w S g A n c st ws)(hc:ai S w W)(hb:aq W g 114 (fy A n c (av ws st).2)):pI W S g A n c (av ws st).2 ws:=
 let ⟨h1,h2⟩:=cF h.jw.len st h.le h.eb
 h.at hc hb h1 h2
theorem pI.low{w:World}{S:List Nat}{g:Nat}{A:Option Go.Addr}{n c:Nat}{st:RS}{ws:List Bs}(h:pI w S g A n c st ws):pI w [g] g A n c st ws:=
 ⟨h.bO,h.jw.sub (fun x hx=>by rw[Xa.1 hx];exact h.gS),by simp,h.le,h.bd,h.eb,h.sz⟩
theorem qk{ws:List Bs}{st:RS}(h:∀x∈ws,x.length≤100000000):(av ws st).1.length≤100000000:=by
 unfold av;cases Xo st.e 0 with
 |false=>exact WY _
 |true=>
  cases hx:ws[st.at_]? with
  |none=>exact WY _
  |some x=>exact h x (W2 hx)
def Dd(ok:Bool)(code:Nat)(st:RS):RS:=match ok with
 |true=>st
 |false=>ee code st
abbrev VO(w:World)(g:Nat):Sx.aV:=⟨w,[g],fun _ _=>False⟩
abbrev Nx(w:World)(g f:Nat)(rest:List Value)(A:Option Go.Addr)(n c:Nat)(s1 s2:RS)(v:Value):Prop:=∀W,ai [g] w W→aq W g 114 (fy A n c s1)→Calls prog f ((pt g 0)::rest).toArray W (Sx.qV (VO w g) W ((pt g 0)::rest) (.de 0 0 ⟨114,.cR g (fy A n c s2)⟩ v))
section
variable{w:World}{g:Nat}{A:Option Go.Addr}{n c:Nat}{st:RS}{ws:List Bs}
theorem vU(h:pI w [g] g A n c st ws):Nx w g 132 [] A n c st (av ws st).2 (ae (av ws st).1):=
 fun _ hW hb=>RH (.cR g _) rfl rfl rfl (jE (h.at hW hb h.le h.eb))
theorem oW(code:Nat)(h:pI w [g] g A n c st ws){s1:RS}(hl:s1.at_≤n)(he:s1.e≤1000)(h1:s1.e=0→1≤s1.at_):Nx w g 137 [.int .i64 (code:Int)] A n c s1 (ee code s1) (.tuple #[]):=
 fun _ hW hb=>RH (.cR g _) rfl rfl rfl (Ko (h.at hW hb hl he) code h1)
end
theorem H9{w:World}{S:List Nat}{g:Nat}{A:Option Go.Addr}{n c:Nat}{st:RS}{ws:List Bs}(bits most:Nat)(hb:4≤bits∧bits≤64)(hm:most=18446744073709551615 / 2^(64 - bits))(h:pI w S g A n c st ws):Calls prog 133 #[(pt g 0),.int .i64 (bits:Int)] w (ju g A n c pR (jD most ws st) w):=by have h:=h.low;obtain⟨h1,h2⟩:=cF h.jw.len st h.le h.eb;have c9:=vU h;have gb:=fun W (_:ai [g] w W)=>o9 (av ws st).1 bits hb (WU (qk h.sz) (by decide)) W;rw[←hm]at gb;have c17:=oW 200 h h1 h2 lK;have zz:JG g A n c pR (jD most ws st) (.val (.int .u64 (eR most (av ws st).1:Int))) [(g,114,fy A n c (Dd (aM most (av ws st).1) 200 (av ws st).2))]:=⟨rfl,rfl⟩;generalize jD most ws st=R at zz ⊢;unfold IL at gb;generalize aM most (av ws st).1=ok at gb zz;generalize eR most (av ws st).1=v at gb zz;generalize av ws st=r at*;have CH:=Sx.t2 c9 gb (cy.mk (b:=ok) (fun _=>c17) zz);refine fh [.int .i64 (bits:Int)] h.bO [(9,.du 0 (fy A n c r.2) (ae r.1)),(11,.call (.tuple #[.int .u64 (v:Int),.bool ok])),(17,.du 0 (fy A n c (Dd ok 200 r.2)) (.tuple #[]))] [] (by kernel_rfl) func133 rfl (bU rfl) ?_;cases ok<;>exact WX (by kernel_rfl) CH
def VQ(ok:Bool):Int:=match ok with
 |true=>0
 |false=>151
theorem Oy(x:Bs)(hx:x.length≤100000000)(W:World):Calls prog 17 #[ae x] W (Rn W (.tuple #[lL ((nE x).getD nz),.int .i64 (VQ (nE x).isSome)])):=by
 cases h:nE x with
 |some p=>exact Ky (ri h) hx W
 |none=>exact Kx (vw h) hx W
theorem ye{w:World}{S:List Nat}{g:Nat}{A:Option Go.Addr}{n c:Nat}{st:RS}{ws:List Bs}(h:pI w S g A n c st ws):Calls prog 134 #[(pt g 0)] w (ju g A n c lL (dL ws st) w):=by
 have h:=h.low;obtain⟨h1,h2⟩:=cF h.jw.len st h.le h.eb;have c7:=vU h;have c8:=fun W (_:ai [g] w W)=>Oy (av ws st).1 (qk h.sz) W;have c14:=oW 151 h h1 h2 lK;have zz:JG g A n c lL (dL ws st) (.val (lL ((nE (av ws st).1).getD nz))) [(g,114,fy A n c (Dd (nE (av ws st).1).isSome 151 (av ws st).2))]:=⟨rfl,rfl⟩;generalize dL ws st=R at zz ⊢;generalize (nE (av ws st).1).isSome=ok at c8 zz;generalize (nE (av ws st).1).getD nz=p at c8 zz;generalize av ws st=r at*;have c12:WS (VQ ok !=0)=.bool (!ok):=by cases ok<;>rfl
 have CH:=Sx.t2 c7 c8 (WW c12 (cy.mk (b:=ok) (fun _=>c14) zz));refine fh [] h.bO [(7,.du 0 (fy A n c r.2) (ae r.1)),(8,.call (.tuple #[lL p,.int .i64 (VQ ok)])),(12,.is (.bool (!ok))),(14,.du 0 (fy A n c (Dd ok 151 r.2)) (.tuple #[]))] [] (by kernel_rfl) func134 rfl (bU rfl) ?_;cases ok<;>exact WX (by kernel_rfl) CH
open Go.RowKit Go.Lib Go.Sort
def Np:Prop:=∀p:Px,p.n < 2^128→fW p.v p.n p.k=true→nE (xI p)=some p
theorem pq(n:Nat):cK (an 10 n)=n:=gI (by omega) (by omega) n
theorem qt{most n:Nat}(h:n≤most):aM most (an 10 n)=true:=by unfold aM;rw[pq,decide_eq_true h,decide_eq_true rfl];rfl
theorem iQ{ws:List Bs}{i:Nat}{x:Bs}(h:ws[i]?=some x):aO ws i=.ok x (i+1):=by unfold aO;rw[h]
theorem lP{ws:List Bs}{i n most:Nat}(h:ws[i]?=some (an 10 n))(hn:n≤most):a6 most ws i=.ok n (i+1):=by unfold a6;rw[iQ h];show aR (aM most (an 10 n)) 200 (cK (an 10 n)) (i+1)=_;rw[qt hn,pq];rfl
theorem yH{n:Int}(h:0≤n):da n=an 10 n.toNat:=by unfold da;rw[if_neg (by omega)]
theorem wu{ws:List Bs}{i:Nat}{n:Int}(h:ws[i]?=some (da n))(h0:0≤n)(hn:n≤9223372036854775807):ja ws i=.ok n.toNat (i+1):=
 lP (by rw[h,yH h0]) (by omega)
theorem uy{ws:List Bs}{i:Nat}{x:Bs}(h:ws[i]?=some x)(hx:aS x=true):fX ws i=.ok x (i+1):=by unfold fX;rw[iQ h];show aR (aS x) 201 x (i+1)=_;rw[hx];rfl
theorem prefix_at(hU:Np){ws:List Bs}{i:Nat}{p:Px}(h:ws[i]?=some (xI p))(hn:p.n < 2^128)(hk:fW p.v p.n p.k=true):dr ws i=.ok p (i+1):=by unfold dr;rw[iQ h];show aR (nE (xI p)).isSome 151 ((nE (xI p)).getD nz) (i+1)=_;rw[hU p hn hk];rfl
theorem yW(u:Nat):(45:UInt8)∉an 10 u:=iD (by omega) (by omega) (.inl (by decide))
theorem C7(l m:List UInt8)(h:(45:UInt8)∉l):Lib.cut (l++45::m) [45]=(l,m,true):=by unfold Lib.cut;rw[qB 45 l m h,if_pos (by omega)];simp only[W7];rw[Xk rfl];congr 2;rw[show l++45::m=(l++[45])++m by simp];exact List.drop_left' (by simp)
theorem xk(s:List UInt8)(h:(45:UInt8)∉s):Lib.cut s [45]=(s,[],false):=by
 unfold Lib.cut;rcases Lib.index_spec s [45]with⟨h1,_⟩ | ⟨i,_,_,h3,_⟩
 ·rw[h1];rfl
 ·exact absurd (W2 ((Gn s 45 i).1 h3)) h
theorem Ob(s:Nat×Nat):cC (eP s)=(an 10 s.1,an 10 s.2):=by
 unfold cC eP;by_cases h:s.1=s.2
 ·rw[if_pos h,xk _ (yW _),←h]
 ·rw[if_neg h,C7 _ _ (yW _)]
theorem zq{ws:List Bs}{i:Nat}{s:Nat×Nat}(h:ws[i]?=some (eP s))(h1:s.1≤65535)(h2:s.2≤65535):ig ws i=.ok s (i+1):=by unfold ig;rw[iQ h];show aR (aM 65535 (cC (eP s)).1&&aM 65535 (cC (eP s)).2) 200 (cK (cC (eP s)).1,cK (cC (eP s)).2) (i+1)=_;rw[Ob];show aR (aM 65535 (an 10 s.1)&&aM 65535 (an 10 s.2)) 200 (cK (an 10 s.1),cK (an 10 s.2)) (i+1)=_;rw[qt h1,qt h2,pq,pq];rfl
theorem kA{ws:List Bs}{i:Nat}{s:Bs}(h:ws[i]?=some s):cN ws i s=.ok true (i+1):=by unfold cN;rw[if_pos h]
theorem jV{ws:List Bs}{i:Nat}{s:Bs}(h:ws[i]?≠some s):cN ws i s=.ok false i:=by unfold cN;rw[if_neg h]
theorem w8(u:Nat)(c:UInt8)(l:Bs)(h:¬(48≤c.toNat∧c.toNat≤57)):an 10 u≠c::l:=fun he=>by obtain⟨d,hd,hc⟩:=gZ (b:=10) (by omega) u c (by rw[he];simp);rw[hc,eF (by omega),if_pos hd]at h;omega
theorem Lb{ws:List Bs}{i n:Nat}(h:ws[i]?=some (dR n))(hn:n≤255):dS ws i=.ok n (i+1):=by
 unfold dS;by_cases h6:n=6
 ·have:dR n=js:=by unfold dR;rw[if_pos h6]
  rw[kA (by rw[h,this]),h6];rfl
 ·by_cases h17:n=17
  ·have e:dR n=jH:=by unfold dR;rw[if_neg h6,if_pos h17]
   rw[jV (by rw[h,e];decide)];show(cN ws i jH).bind _=_;rw[kA (by rw[h,e]),h17];rfl
  ·have e:dR n=an 10 n:=by unfold dR;rw[if_neg h6,if_neg h17]
   rw[e]at h;rw[jV (by rw[h];exact fun hh=>w8 n 116 _ (by decide) (W8.inj hh))];show(cN ws i jH).bind _=_;rw[jV (by rw[h];exact fun hh=>w8 n 117 _ (by decide) (W8.inj hh))];exact lP h hn
def Og(M m:Mt)(k:Nat):Mt:=match k with
 | 0=>{ m with fE:=M.fE }
 | 1=>{ m with src:=M.src }
 | 2=>{ m with dst:=M.dst }
 | 3=>{ m with bc:=M.bc }
 | 4=>{ m with sp:=M.sp }
 |_=>{ m with dp:=M.dp }
def gJ(M m:Mt)(k:Nat):Mt:=Og M { m with asks:=m.asks|||2^k } k
structure FC(M:Mt):Prop where
 i1:M.fE.1≤65535
 i2:M.fE.2≤65535
 s1:M.sp.1≤65535
 s2:M.sp.2≤65535
 d1:M.dp.1≤65535
 d2:M.dp.2≤65535
 pr:M.bc≤255
 sn:M.src.n < 2^128
 dn:M.dst.n < 2^128
theorem KT(hU:Np){M m:Mt}(hM:FC M)(hs:M.asks.testBit 1=true→fW M.src.v M.src.n M.src.k=true)(hd:M.asks.testBit 2=true→fW M.dst.v M.dst.n M.dst.k=true){k:Nat}(hk:k < 6)(hb:M.asks.testBit k=true){ws:List Bs}{i:Nat}{y:Bs}(hy:(bN M k)[1]?=some y)(h:ws[i]?=some y):bV k m ws i=.ok (Og M m k) (i+1):=by
 match k,hk with
 | 0,_=>cases hy;unfold bV;rw[zq h hM.i1 hM.i2];rfl
 | 1,_=>cases hy;unfold bV;rw[prefix_at hU h hM.sn (hs hb)];rfl
 | 2,_=>cases hy;unfold bV;rw[prefix_at hU h hM.dn (hd hb)];rfl
 | 3,_=>cases hy;unfold bV;rw[Lb h hM.pr];rfl
 | 4,_=>cases hy;unfold bV;rw[zq h hM.s1 hM.s2];rfl
 | 5,_=>cases hy;unfold bV;rw[zq h hM.d1 hM.d2];rfl
theorem rP(M:Mt){k:Nat}(hk:k < 6):∃x y,bN M k=[x,y]∧lq x=some k:=by
 match k,hk with
 | 0,_=>exact⟨_,_,rfl,by decide⟩
 | 1,_=>exact⟨_,_,rfl,by decide⟩
 | 2,_=>exact⟨_,_,rfl,by decide⟩
 | 3,_=>exact⟨_,_,rfl,by decide⟩
 | 4,_=>exact⟨_,_,rfl,by decide⟩
 | 5,_=>exact⟨_,_,rfl,by decide⟩
theorem su(M m:Mt)(k:Nat):(Og M m k).asks=m.asks:=by unfold Og;split<;>rfl
theorem CQ(hU:Np){M m:Mt}(hM:FC M)(hs:M.asks.testBit 1=true→fW M.src.v M.src.n M.src.k=true)(hd:M.asks.testBit 2=true→fW M.dst.v M.dst.n M.dst.k=true){k:Nat}(hk:k < 6)(hb:M.asks.testBit k=true)(hm:m.asks.testBit k=false){pre r:List Bs}:aI (pre++(bN M k++r)) pre.length m=.ok (true,gJ M m k) (pre.length+2):=by
 obtain⟨x,y,e,hx⟩:=rP M hk;have h0:(pre++(bN M k++r))[pre.length]?=some x:=by rw[e];simp
 have h1:(pre++(bN M k++r))[pre.length+1]?=some y:=by rw[e,WT (by omega)];simp
 unfold aI;rw[h0];show(match lq x with|none=>_|some k=>_)=_;rw[hx];show(match m.asks.testBit k with|true=>_|false=>_)=_;rw[hm];show(bV k { m with asks:=m.asks|||2^k } _ (pre.length+1)).bind _=_;rw[KT hU hM hs hd hk hb (y:=y) (by rw[e];rfl) h1];rfl
def Vf(r:List Bs):Prop:=∀x,r[0]?=some x→lq x=none
theorem CO{pre r:List Bs}{m:Mt}(h:Vf r):aI (pre++r) pre.length m=.ok (false,m) pre.length:=by
 unfold aI;have e:(pre++r)[pre.length]?=r[0]?:=by rw[WT (by omega),Nat.sub_self]
 rw[e];cases hx:r[0]? with
 |none=>rfl
 |some x=>show(match lq x with|none=>_|some k=>_)=_;rw[h x hx]
theorem qZ{a k j:Nat}(h:j≠k):(a|||2^k).testBit j=a.testBit j:=by rw[Nat.testBit_or,Nat.testBit_two_pow_of_ne (Ne.symm h),Bool.or_false]
theorem yS(hU:Np){M:Mt}(hM:FC M)(hs:M.asks.testBit 1=true→fW M.src.v M.src.n M.src.k=true)(hd:M.asks.testBit 2=true→fW M.dst.v M.dst.n M.dst.k=true){r:List Bs}(hr:Vf r) :
  ∀(ks:List Nat) (pre:List Bs) (m:Mt) (f:Nat),(∀k∈ks,k < 6∧M.asks.testBit k=true∧m.asks.testBit k=false)→ks.Nodup→ks.length+1≤f→
   dy (pre++(ks.flatMap (bN M)++r)) f pre.length m=.ok (ks.foldl (gJ M) m) (pre.length+2*ks.length)
 | [],pre,m,f+1,_,_,_=>by unfold dy;rw[show pre++(([]:List Nat).flatMap (bN M)++r)=pre++r by simp,CO hr];rfl
 |k::ks,pre,m,f+1,h,hn,hf=>by
  have hk:=h k (by simp);rw[W4]at hn;unfold dy;have e:pre++((k::ks).flatMap (bN M)++r)=pre++(bN M k++(ks.flatMap (bN M)++r)):=by simp
  rw[e,CQ hU hM hs hd hk.1 hk.2.1 hk.2.2];obtain⟨x,y,e2,_⟩:=rP M hk.1;have hl:(bN M k).length=2:=by rw[e2];rfl
  have ih:=yS hU hM hs hd hr ks (pre++bN M k) (gJ M m k) f (fun j hj=>by have h1:=h j (WQ _ hj);refine⟨h1.1,h1.2.1,?_⟩;unfold gJ;rw[su];show(m.asks|||2^k).testBit j=false;rw[qZ (show j≠k from fun he=>hn.1 (by rw[←he];exact hj))];exact h1.2.2) hn.2 (by simp only[WV]at hf;omega);have hpl:(pre++bN M k).length=pre.length+2:=by rw[WO,hl]
  rw[Xh,hpl]at ih;show dy _ f (pre.length+2) (gJ M m k)=_;rw[ih];simp only[W5,WV];congr 1;omega
 |_,_,_,0,_,_,hf=>by omega
def mV(M:Mt):List Nat:=[0,1,2,3,4,5].filter fun k=>M.asks.testBit k
theorem tS(M:Mt):∀l:List Nat,l.flatMap (tB M)=(l.filter fun k=>M.asks.testBit k).flatMap (bN M)
 | []=>rfl
 |k::l=>by rw[Xb,tS M l,List.filter_cons];unfold tB;cases M.asks.testBit k<;>simp
theorem qu(M:Mt):kG M=(mV M).flatMap (bN M):=by unfold mV;rw[←tS];simp[kG]
theorem kg{M:Mt}{k:Nat}(h:k∈mV M):k < 6∧M.asks.testBit k=true:=by unfold mV at h;rw[Xl]at h;refine⟨?_,h.2⟩;have:=h.1;simp at this;omega
theorem Cq(M:Mt):(mV M).Nodup:=by unfold mV;exact List.Pairwise.filter _ (by decide:([0,1,2,3,4,5]:List Nat).Nodup)
theorem Lu{a b:Mt}(h0:a.asks=b.asks)(h1:a.fE=b.fE)(h2:a.src=b.src)(h3:a.dst=b.dst)(h4:a.bc=b.bc)(h5:a.sp=b.sp)(h6:a.dp=b.dp):a=b:=by cases a;cases b;simp_all
theorem yP(M:Mt):∀(ks:List Nat) (m:Mt),(ks.foldl (gJ M) m).asks=ks.foldl (fun a k=>a|||2^k) m.asks
 | [],_=>rfl
 |k::ks,m=>by rw[W5,W5,yP M ks];unfold gJ;rw[su]
theorem Ds:∀a:Fin 64,([0,1,2,3,4,5].filter fun k=>a.val.testBit k).foldl (fun a k=>a|||2^k) 0=a.val:=by decide+kernel
theorem yO{α:Type}(M:Mt)(f:Mt→α)(j:Nat)(h1:∀m,f (gJ M m j)=f M)(h2:∀m k,k < 6→k≠j→f (gJ M m k)=f m):∀(ks:List Nat) (m:Mt),(∀k∈ks,k < 6)→ks.Nodup→(j∈ks→f (ks.foldl (gJ M) m)=f M)∧(j∉ks→f (ks.foldl (gJ M) m)=f m)
 | [],m,_,_=>⟨fun h=>absurd h (by simp),fun _=>rfl⟩
 |k::ks,m,hk,hn=>by
  rw[W4]at hn;have ih:=yO M f j h1 h2 ks (gJ M m k) (fun x hx=>hk x (WQ _ hx)) hn.2;rw[W5];by_cases he:k=j
  ·subst he
   refine⟨fun _=>?_,fun h=>absurd (List.mem_cons_self) h⟩;rw[ih.2 hn.1];exact h1 m
  ·refine⟨fun h=>ih.1 ?_,fun h=>?_⟩
   ·rcases WR.1 h with h|h
    ·exact absurd h.symm he
    ·exact h
   ·rw[ih.2 fun hh=>h (WQ _ hh)]
    exact h2 m k (hk k (by simp)) he
theorem LA{M:Mt}{k:Nat}(hk:k < 6):k∈mV M↔M.asks.testBit k=true:=by unfold mV;rw[Xl];refine⟨fun h=>h.2,fun h=>⟨?_,h⟩⟩;simp;omega
theorem K6{p:Px}(h:DK p=true):p=nz:=by unfold DK at h;have:=of_decide_eq_true h;cases p;simp_all[nz]
theorem So{M:Mt}(ha:M.asks < 64)(z0:M.asks.testBit 0=false→M.fE=(0,0))(z1:M.asks.testBit 1=false→M.src=nz)(z2:M.asks.testBit 2=false→M.dst=nz)(z3:M.asks.testBit 3=false→M.bc=0)(z4:M.asks.testBit 4=false→M.sp=(0,0))(z5:M.asks.testBit 5=false→M.dp=(0,0)):(mV M).foldl (gJ M) ei=M:=by
 have part:∀{α:Type} (f:Mt→α) (j:Nat),j < 6→(∀m,f (gJ M m j)=f M)→(∀m k,k < 6→k≠j→f (gJ M m k)=f m)→(M.asks.testBit j=false→f M=f ei)→f ((mV M).foldl (gJ M) ei)=f M:=fun f j hj h1 h2 h3=>by
  have:=yO M f j h1 h2 (mV M) ei (fun k hk=>(kg hk).1) (Cq M);cases hb:M.asks.testBit j with
  |true=>exact this.1 ((LA hj).2 hb)
  |false=>rw[this.2 (fun hh=>by rw[(LA hj).1 hh]at hb;cases hb)];exact(h3 hb).symm
 have cas:∀{P:Nat→Prop} (j:Nat),(∀k,k < 6→k≠j→P k)→∀k,k < 6→k≠j→P k:=fun _ h=>h;refine Lu ?_ (part (·.fE) 0 (by omega) (fun _=>rfl) (fun m k hk hj=>?_) z0) (part (·.src) 1 (by omega) (fun _=>rfl) (fun m k hk hj=>?_) z1) (part (·.dst) 2 (by omega) (fun _=>rfl) (fun m k hk hj=>?_) z2) (part (·.bc) 3 (by omega) (fun _=>rfl) (fun m k hk hj=>?_) z3) (part (·.sp) 4 (by omega) (fun _=>rfl) (fun m k hk hj=>?_) z4) (part (·.dp) 5 (by omega) (fun _=>rfl) (fun m k hk hj=>?_) z5)
 ·rw[yP]
  exact Ds ⟨M.asks,ha⟩
 all_goals (match k,hk,hj with
  | 0,_,hj=>first|rfl|exact absurd rfl hj
  | 1,_,hj=>first|rfl|exact absurd rfl hj
  | 2,_,hj=>first|rfl|exact absurd rfl hj
  | 3,_,hj=>first|rfl|exact absurd rfl hj
  | 4,_,hj=>first|rfl|exact absurd rfl hj
  | 5,_,hj=>first|rfl|exact absurd rfl hj)
theorem oI{M:Mt}(h:aY M=true):M.asks < 64∧(M.asks.testBit 0=false→M.fE=(0,0))∧(M.asks.testBit 1=false→M.src=nz)∧(M.asks.testBit 2=false→M.dst=nz)∧(M.asks.testBit 3=false→M.bc=0)∧(M.asks.testBit 4=false→M.sp=(0,0))∧(M.asks.testBit 5=false→M.dp=(0,0))∧
  (M.asks.testBit 1=true→fW M.src.v M.src.n M.src.k=true)∧(M.asks.testBit 2=true→fW M.dst.v M.dst.n M.dst.k=true):=by
 unfold aY at h;simp only[Xc]at h;obtain⟨⟨h0,h1,h2,h3,h4,h5,h6⟩,⟨_,_,_,_⟩,⟨g1,g2,_⟩,_⟩:=h;refine⟨by simpa using h0,fun hb=>?_,fun hb=>?_,fun hb=>?_,fun hb=>?_,fun hb=>?_,fun hb=>?_,fun hb=>?_,fun hb=>?_⟩
 ·rw[hb]at h1;exact of_decide_eq_true h1
 ·rw[hb]at h2;exact K6 h2
 ·rw[hb]at h3;exact K6 h3
 ·rw[hb]at h4;exact of_decide_eq_true h4
 ·rw[hb]at h5;exact of_decide_eq_true h5
 ·rw[hb]at h6;exact of_decide_eq_true h6
 ·rw[hb]at g1;exact g1
 ·rw[hb]at g2;exact g2
def yB(M:Mt):List Bs:=if M.asks=0 then [gD] else kG M
theorem EE(M:Mt):lk M=ax 32 (yB M):=by unfold lk yB;split<;>rfl
theorem QT{M:Mt}(h0:M.asks≠0)(h:M.asks < 64):mV M≠[]:=fun he=>by have:=Ds ⟨M.asks,h⟩;have he':([0,1,2,3,4,5].filter fun k=>M.asks.testBit k)=[]:=he;rw[he']at this;exact h0 this.symm
theorem PO:lq gD=none:=by decide
theorem LD(hU:Np){M:Mt}(hM:FC M)(hc:aY M=true){pre r:List Bs}(hr:Vf r):cS (pre++(yB M++r)) pre.length=.ok M (pre.length+(yB M).length):=by
 obtain⟨ha,z0,z1,z2,z3,z4,z5,hs,hd⟩:=oI hc;unfold cS;by_cases h0:M.asks=0
 ·have e:yB M=[gD]:=by unfold yB;rw[if_pos h0]
  rw[e,kA (by simp)];have:M=ei:=by refine Lu h0 (z0 (by rw[h0];rfl)) (z1 (by rw[h0];rfl)) (z2 (by rw[h0];rfl)) (z3 (by rw[h0];rfl)) (z4 (by rw[h0];rfl)) (z5 (by rw[h0];rfl))
  rw[this];rfl
 ·have e:yB M=(mV M).flatMap (bN M):=by unfold yB;rw[if_neg h0,qu]
  rw[e];obtain⟨k,ks,hks⟩:=List.exists_cons_of_ne_nil (QT h0 ha);have hkm:k∈mV M:=by rw[hks];simp
  obtain⟨x,y,e2,hx⟩:=rP M (kg hkm).1;have hat:(pre++((mV M).flatMap (bN M)++r))[pre.length]?=some x:=by rw[hks,Xb,e2,WT (by omega)];simp
  rw[jV (by rw[hat];intro hh;rw[W8.inj hh]at hx;rw[PO]at hx;cases hx)];show(aI (pre++((mV M).flatMap (bN M)++r)) pre.length ei).bind _=_;have e3:pre++((mV M).flatMap (bN M)++r)=pre++(bN M k++(ks.flatMap (bN M)++r)):=by rw[hks];simp
  have nb:∀j,ei.asks.testBit j=false:=fun j=>Nat.zero_testBit j;have hn:=Cq M;rw[hks,W4]at hn;have hf:=CQ hU (m:=ei) hM hs hd (kg hkm).1 (kg hkm).2 (nb k) (pre:=pre) (r:=ks.flatMap (bN M)++r);have hlen2:(bN M k).length=2:=by rw[e2];rfl
  have hll:∀l:List Nat,(∀j∈l,j < 6)→(l.flatMap (bN M)).length=2*l.length:=by
   intro l;induction l with
   |nil=>intro _;rfl
   |cons j l ih=>intro hj;obtain⟨_,_,e4,_⟩:=rP M (hj j (by simp));rw[Xb,WO,ih (fun i hi=>hj i (WQ _ hi)),e4];simp only[WV,Xn];omega
  have hm:=yS hU hM hs hd hr ks (pre++bN M k) (gJ M ei k) ((pre++((mV M).flatMap (bN M)++r)).length+1 - (pre.length+2)) (fun j hj=>by
   have hj2:j∈mV M:=by rw[hks];exact WQ _ hj
   refine⟨(kg hj2).1,(kg hj2).2,?_⟩;unfold gJ;rw[su];show(ei.asks|||2^k).testBit j=false;rw[qZ (show j≠k from fun he=>hn.1 (by rw[←he];exact hj))];exact nb j) hn.2 (by rw[e3];simp only[WO,hlen2,hll ks (fun j hj=>(kg (M:=M) (by rw[hks];exact WQ _ hj)).1)];omega)
  have hpl:(pre++bN M k).length=pre.length+2:=by rw[WO,hlen2]
  rw[Xh,←e3,hpl]at hm;rw[←e3]at hf;rw[hf];show dy _ _ (pre.length+2) (gJ M ei k)=_;rw[hm,hll _ (fun j hj=>(kg hj).1),hks];have:=So ha z0 z1 z2 z3 z4 z5;rw[hks,W5]at this;rw[this];simp only[WV];congr 1;omega
end Go.Proofs.YtnncigmpcdehnaaGreatDoor
