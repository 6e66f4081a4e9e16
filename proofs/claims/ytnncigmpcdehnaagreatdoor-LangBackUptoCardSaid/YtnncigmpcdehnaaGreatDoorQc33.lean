import Derived.Test.YtnncigmpcdehnaaGreatDoorQc32
namespace Go.Proofs.YtnncigmpcdehnaaGreatDoor
set_option maxRecDepth 100000
open Go Go.RowKit Go.Lib Go.Sort
def rV(bt:Bool)(ws:List Bs):List Bs:=match bt with
 |true=>ws
 |false=>[]
theorem oB(xs:List Bs):(strs xs).length=xs.length:=by simp[strs]
def px(gm gl:Nat)(A:Option Go.Addr)(mc:List Value)(ys:List Bs)(w:World)(e:Ending)(w':World):Prop:=
 ∃A' c',e=.returned (.tuple #[])∧aq w' gm 66 mc∧aq w' gl 70 [.slice A' ys.length c']∧Own w' 9 1 (.slice A' ys.length c') ys.length (strs ys)∧ah (gm::gl::(A.map (·.block)).toList) w w'∧∀k,A'.map (·.block)=some k→A.map (·.block)=some k∨w.heap.size≤k
structure Nr(w:World)(gm gl:Nat)(A:Option Go.Addr)(c:Nat)(m:Mt)(xs ws:List Bs)(v:Value):Prop where
 bm:aq w gm 66 m.cells
 bl:aq w gl 70 [.slice A xs.length c]
 own:Own w 9 1 (.slice A xs.length c) xs.length (strs xs)
 wd:kp w (gm::gl::(A.map (·.block)).toList) 1 v ws.length (strs ws)
def Nq(gm gl:Nat)(mc:List Value)(ys:List Bs)(l:List Sx.SV)(mem:List Sx.Row):Prop:=
 ∃k,l=[]∧mem[0]?=some ⟨66,.cx gm mc⟩∧mem[1]?=some ⟨70,.fW gl [.own k]⟩∧mem[k]?=some ⟨9,.own 1 ys.length (strs ys)⟩
theorem px.iu{gm gl:Nat}{A:Option Go.Addr}{mc:List Value}{ys:List Bs}{w:World}{en:Ending}{w':World}(h:Sx.bJ ⟨w,gm::gl::(A.map (·.block)).toList,fun _ _=>False⟩ (Nq gm gl mc ys) en w'):px gm gl A mc ys w en w':=by
 rcases h with⟨β,l,mem,⟨k,rfl,h0,h1,hk⟩,he,hR⟩ | ⟨_,_,hf,_⟩
 ·have r0:=hR.held 0 _ h0
  have r1:=hR.held 1 _ h1
  have rk:β.n k=ys.length∧Own w' 9 1 (.slice (β.a k) ys.length (β.c k)) ys.length (strs ys):=hR.held k _ hk
  have e0:β 0=gm:=r0.1
  have e1:β 1=gl:=r1.1
  have hb:=r1.2
  have e2:([Sx.SV.own k].map (Sx.SV.den β))=[β.sl k]:=rfl
  rw[e1,e2]at hb
  unfold Sx.Env.sl at hb
  rw[rk.1]at hb
  refine⟨β.a k,β.c k,he,e0 ▸ r0.2,hb,rk.2,hR.az,fun x hx=>?_⟩
  rcases hR.new k _ x hk hx with h1|h1
  ·rcases List.mem_cons.1 h1 with rfl|h1
   ·exact absurd (by rw[Dr];exact hx) (rk.2.Aw (e0 ▸ r0.2) (show(9:Nat)≠66 by decide))
   ·rcases List.mem_cons.1 h1 with rfl|h1
    ·exact absurd (by rw[Dr];exact hx) (rk.2.Aw hb (show(9:Nat)≠70 by decide))
    ·exact .inl (by simpa using h1)
  ·exact .inr h1
 ·exact hf.elim
def FZ(gm gl:Nat)(mc:List Value)(xs:List Bs):List Sx.Row:=[⟨66,.cx gm mc⟩,⟨70,.fW gl [.own 2]⟩,⟨9,.own 1 xs.length (strs xs)⟩]
theorem FY{w:World}{gm gl:Nat}{A:Option Go.Addr}{c:Nat}{m:Mt}{xs ws:List Bs}{v:Value}(h:Nr w gm gl A c m xs ws v):Sx.Rows ⟨w,gm::gl::(A.map (·.block)).toList,fun _ _=>False⟩ (Sx.cO [.bM gm 66 m.cells,.mu gl 70 [.own 2],.own 9 1 A xs.length c (strs xs)]) w (FZ gm gl m.cells xs):=by
 refine Sx.ga (w:=w) (S:=gm::gl::(A.map (·.block)).toList) (PP:=fun _ _=>False) (G:=[.bM gm 66 m.cells,.mu gl 70 [.own 2],.own 9 1 A xs.length c (strs xs)]) (fun q hq=>?_) (fun q hq k hk=>?_) ?_
 ·simp only[List.mem_cons,List.not_mem_nil,or_false]at hq
  rcases hq with rfl|rfl|rfl
  ·exact h.bm
  ·exact h.bl
  ·exact h.own
 ·simp only[List.mem_cons,List.not_mem_nil,or_false]at hq
  rcases hq with rfl|rfl|rfl
  ·cases hk;simp
  ·cases hk;simp
  ·have hk:A.map (·.block)=some k:=hk
   rw[hk];simp
 ·have e:([Sx.jO.bM gm 66 m.cells,.mu gl 70 [.own 2],.own 9 1 A xs.length c (strs xs)].filterMap Sx.jO.block)=gm::gl::(A.map (·.block)).toList:=by cases A<;>rfl
  rw[e,List.nodup_cons,List.nodup_cons]
  have n1:gm∉(A.map (·.block)).toList:=fun hm=>h.own.Aw h.bm (by decide) (by rw[Dr];simpa using hm)
  have n2:gl∉(A.map (·.block)).toList:=fun hm=>h.own.Aw h.bl (by decide) (by rw[Dr];simpa using hm)
  refine⟨fun hm=>?_,n2,?_⟩
  ·rcases List.mem_cons.1 hm with rfl|hm
   ·have:=h.bm.shape.symm.trans h.bl.shape
    simp at this
   ·exact n1 hm
  ·cases A<;>simp
theorem Mk{w:World}{gm gl:Nat}{A:Option Go.Addr}{c:Nat}{m:Mt}{xs ws:List Bs}{v:Value}(ask:Nat)(bt:Bool)(h:Nr w gm gl A c m xs ws v)(hb:(bits .and .u8 (m.asks:Int) (ask:Int) !=0)=bt)(hl:xs.length+ws.length≤1000000000) :
  Calls Tryz.prog 84 #[.int .u8 (ask:Int),v,.pointer (some ⟨gm,0,none⟩),.pointer (some ⟨gl,0,none⟩)] w (px gm gl A m.cells (xs++rV bt ws) w):=by
 have hR:=FY h
 have c10:Value.bool (bits .and .u8 (m.asks:Int) (ask:Int) !=0)=.bool bt:=bz hb
 cases bt with
 |false=>
  have z0:Nq gm gl m.cells (xs++[]) [] (FZ gm gl m.cells xs):=by rw[List.append_nil];exact⟨2,rfl,rfl,rfl,rfl⟩
  refine(Sx.aW (args:=[.val (.int .u8 (ask:Int)),.val v,.ptr 0 0,.ptr 1 0]) hR [(10,.is (.bool false))] [] (by kernel_rfl) Tryz.func84 rfl (Nat.le_of_ble_eq_true rfl) rfl ?_).mono fun en w' hp=>px.iu hp
  exact Eq.mp (by kernel_rfl) (And.intro c10 z0)
 |true=>
  obtain⟨A2,c2,hv⟩:=h.wd.form
  have c13:(∀W,ah (gm::gl::(A.map (·.block)).toList) w W→∃B d,v=.slice B ws.length d∧(0 < (strs ws).length→∃ad,B=some ad∧∀(j:Nat) (u:Value),(strs ws)[j]?=some u→W.cell? (ad.add j)=some u))∧(strs ws).length=ws.length*1∧(∀u∈strs ws,u.oneCell'=true)∧xs.length+ws.length≤maxLen∧(xs.length+ws.length)*16≤140737488355328:=by
   refine⟨fun W hW=>?_,by rw[oB,Nat.mul_one],fun u hu=>?_,by unfold maxLen;omega,by omega⟩
   ·obtain⟨_,B,d,h2,h3⟩:=h.wd.az hW
    refine⟨B,d,h2,fun h0=>?_⟩
    obtain⟨g,o,rfl,_,_,hr⟩:=h3 (by rw[oB]at h0;exact h0)
    exact⟨_,rfl,fun j u hu=>by rw[Addr.add_lit];exact hr j u hu⟩
   ·obtain⟨l,_,rfl⟩:=List.mem_map.1 hu
    rfl
  have z0:Nq gm gl m.cells (xs++ws) [] [⟨66,.cx gm m.cells⟩,⟨70,.fW gl [.own 3]⟩,Sx.al,⟨9,.own 1 (xs.length+ws.length) (strs xs++strs ws)⟩]:=⟨3,rfl,rfl,rfl,by rw[List.length_append,show strs (xs++ws)=strs xs++strs ws by simp[strs]];rfl⟩
  refine(Sx.aW (args:=[.val (.int .u8 (ask:Int)),.val v,.ptr 0 0,.ptr 1 0]) hR [(10,.is (.bool true)),(13,.app ws.length (strs ws))] [] (by kernel_rfl) Tryz.func84 rfl (Nat.le_of_ble_eq_true rfl) rfl ?_).mono fun en w' hp=>px.iu hp
  exact Eq.mp (by kernel_rfl) (Sx.t2 c10 c13 z0)
def oH(j k m:Nat)(mc:List Value)(ys:List Bs):Sx.cj:=⟨[0,1,j,k],[(0,⟨66,.aj mc⟩),(1,⟨70,.dm [.own m]⟩)],[j],[⟨9,.own 1 ys.length (strs ys)⟩],.val (.tuple #[]),none⟩
theorem j4{b:Sx.a7}{row:Nat→Option Sx.Row}{j k mm:Nat}{m:Mt}{xs:List Bs}(x y:Bs)(ask:Nat)(bt:Bool)(r0:row 0=some ⟨66,.aj m.cells⟩)(r1:row 1=some ⟨70,.dm [.own j]⟩)(rj:row j=some ⟨9,.own 1 xs.length (strs xs)⟩)(rk:row k=some ⟨9,.aj [ab x,ab y]⟩)
  (hj:1 < j) (hk:j < k) (_hm:k < mm) (hb:(bits .and .u8 (m.asks:Int) (ask:Int) !=0)=bt) (hl:xs.length≤1000) (W:World) (β:Sx.Env) (hS:Sx.dz b β W row [0,1,j,k]) :
  Calls Tryz.prog 84 (([.val (.int .u8 (ask:Int)),.mJ k 0 2 2,.ptr 0 0,.ptr 1 0]:List Sx.SV).map (Sx.SV.den β)).toArray W (Sx.aQ b β W row mm (oH j k mm m.cells (xs++rV bt [x,y]))):=by
 have h0:aq W (β 0) 66 m.cells:=hS.held 0 (by simp) _ r0
 have h1:aq W (β 1) 70 [β.sl j]:=hS.held 1 (by simp) _ r1
 have h2:β.n j=xs.length∧Own W 9 1 (.slice (β.a j) xs.length (β.c j)) xs.length (strs xs):=hS.held j (by simp) _ rj
 have h3:aq W (β k) 9 [ab x,ab y]:=hS.held k (by simp) _ rk
 have hb1:aq W (β 1) 70 [.slice (β.a j) xs.length (β.c j)]:=by
  unfold Sx.Env.sl at h1
  rw[h2.1]at h1
  exact h1
 have nk:β k∉β 0::β 1::((β.a j).map (·.block)).toList:=fun hh=>by
  rcases List.mem_cons.1 hh with hh|hh
  ·have:=hS.inj k (by simp) 0 (by simp) _ _ (β k) rk r0 rfl (by show some (β 0)=_;rw[hh])
   omega
  rcases List.mem_cons.1 hh with hh|hh
  ·have:=hS.inj k (by simp) 1 (by simp) _ _ (β k) rk r1 rfl (by show some (β 1)=_;rw[hh])
   omega
  ·have:=hS.inj k (by simp) j (by simp) _ _ (β k) rk rj rfl (by show(β.a j).map (·.block)=some (β k);simpa using hh)
   omega
 have hH:Nr W (β 0) (β 1) (β.a j) (β.c j) m xs [x,y] (.slice (some ⟨β k,0,none⟩) 2 2):=⟨h0,hb1,h2.2,⟨rfl,_,_,rfl,fun _=>⟨β k,0,rfl,nk,h3.lt,fun i u hu=>by
  have:=h3.cell_of (i:=i) (v:=u) hu
  simpa using this⟩⟩⟩
 show Calls Tryz.prog 84 #[.int .u8 (ask:Int),.slice (some ⟨β k,0,none⟩) 2 2,.pointer (some ⟨β 0,0,none⟩),.pointer (some ⟨β 1,0,none⟩)] W _
 refine(Mk ask bt hH hb (by simp only[List.length_cons,List.length_nil];omega)).mono fun en w' hp=>?_
 generalize xs++rV bt [x,y]=ys at hp
 obtain⟨A',c',he,b0,b1,ho,hc,hn⟩:=hp
 refine .inl ⟨fun p hp=>(by cases hp),Lk β mm A' ys.length c',fun i hi=>⟨rfl,?_,?_,?_⟩,he,fun q hq=>?_,fun i r hr=>?_,fun i r x hr hx=>?_,fun i i' r r' x hr hr' _ _=>?_,hc.mono fun i hi=>.inl ?_⟩
 ·show β.a i=if i=mm then A' else β.a i
  rw[if_neg (by omega)]
 ·show β.n i=if i=mm then ys.length else β.n i
  rw[if_neg (by omega)]
 ·show β.c i=if i=mm then c' else β.c i
  rw[if_neg (by omega)]
 ·have hq:q=(0,⟨66,.aj m.cells⟩)∨q=(1,⟨70,.dm [.own mm]⟩):=by
   have:q∈[(0,(⟨66,.aj m.cells⟩:Sx.Row)),(1,⟨70,.dm [.own mm]⟩)]:=hq
   simpa using this
  rcases hq with rfl|rfl
  ·exact b0
  ·show aq w' (β 1) 70 [.slice (if mm=mm then A' else β.a mm) (if mm=mm then ys.length else β.n mm) (if mm=mm then c' else β.c mm)]
   rw[if_pos rfl,if_pos rfl,if_pos rfl]
   exact b1
 ·match i,hr with
  | 0,hr=>
   cases hr
   show(if mm+0=mm then ys.length else β.n (mm+0))=ys.length∧Own w' 9 1 (.slice (if mm+0=mm then A' else β.a (mm+0)) ys.length (if mm+0=mm then c' else β.c (mm+0))) ys.length (strs ys)
   rw[Nat.add_zero,if_pos rfl,if_pos rfl,if_pos rfl]
   exact⟨rfl,ho⟩
 ·match i,hr with
  | 0,hr=>
   cases hr
   have hx:(if mm+0=mm then A' else β.a (mm+0)).map (·.block)=some x:=hx
   rw[Nat.add_zero,if_pos rfl]at hx
   rcases hn x hx with h1|h1
   ·refine .inl (List.mem_filterMap.2 ⟨j,by simp[oH],?_⟩)
    unfold Sx.ct
    rw[rj]
    exact h1
   ·exact .inr h1
 ·match i,i',hr,hr' with
  | 0,0,_,_=>rfl
 ·show i∈([0,1]++[j]).filterMap (Sx.ct β row)
  rcases List.mem_cons.1 hi with rfl|hi
  ·refine List.mem_filterMap.2 ⟨0,by simp,?_⟩
   unfold Sx.ct
   rw[r0];rfl
  rcases List.mem_cons.1 hi with rfl|hi
  ·refine List.mem_filterMap.2 ⟨1,by simp,?_⟩
   unfold Sx.ct
   rw[r1];rfl
  ·refine List.mem_filterMap.2 ⟨j,by simp,?_⟩
   unfold Sx.ct
   rw[rj]
   show(β.a j).map (·.block)=some i
   simpa using hi
set_option maxRecDepth 100000
open Go Go.RowKit Go.Lib Go.Sort
theorem JK:∀(a:Fin 256) (k:Fin 6),(bits .and .u8 (a.val:Int) ((2^k.val:Nat):Int) !=0)=a.val.testBit k.val:=by decide+kernel
theorem ux(m:Mt)(hm:m.Wf)(k:Nat)(hk:k < 6):(bits .and .u8 (m.asks:Int) ((2^k:Nat):Int) !=0)=m.asks.testBit k:=JK ⟨m.asks,hm.asks⟩ ⟨k,hk⟩
theorem j0(s:Nat×Nat)(h1:s.1≤65535)(h2:s.2≤65535):(eu s).length≤11:=by
 have la:=ik s.1 (by omega)
 have lb:=ik s.2 (by omega)
 unfold eu
 split
 ·omega
 ·simp only[List.length_append,List.length_cons];omega
theorem uw(n:Nat)(h:n≤255):(dK n).length≤5:=by
 have la:=ik n (by omega)
 unfold dK
 split
 ·decide
 split
 ·decide
 ·omega
theorem qT(p:Px):(rU p).length≤100000000:=by
 unfold rU rY
 split
 ·rename_i h
  exact Dj (by unfold gr at h;simp only[Bool.and_eq_true,decide_eq_true_eq]at h;exact h.1.2)
 ·exact Nat.zero_le _
theorem nX(c:UInt8)(N:Nat):∀xs:List Bs,(∀x∈xs,x.length≤N)→(aJ c xs).length≤xs.length*(N+1)
 | [],_=>Nat.zero_le _
 | [x],h=>by
  have:=h x (by simp)
  show x.length≤1*(N+1);omega
 |x::y::r,h=>by
  have:=h x (by simp)
  have ih:=nX c N (y::r) fun z hz=>h z (List.mem_cons_of_mem _ hz)
  show(x++c::aJ c (y::r)).length≤_
  simp only[List.length_append,List.length_cons,Nat.add_mul,Nat.one_mul]at ih ⊢
  omega
theorem Gl(_n:Nat)(y:List Bs)(hy:y.length≤12)(hx:∀x∈y,x.length≤100000000)(w W:World)(_:ah [] w W)(s:Value)(ho:Own W 9 1 s y.length (strs y)):Calls Tryz.prog 87 #[s,.string ⟨#[32]⟩] W (Sx.fI W (.val (ab (aJ 32 y)))):=by
 obtain⟨A,c,rfl,_,_⟩:=ho.form
 have  :=nX 32 100000000 y hx
 have h2:y.length*(100000000+1)≤12*(100000000+1):=Nat.mul_le_mul_right _ hy
 exact yw ho 32 (by omega) (by omega)
theorem Mq(m:Mt)(hm:m.Wf)(hc:bj m=false)(w:World):Calls Tryz.prog 31 #[gv m] w fun e w'=>e=.returned (.tuple #[ab [],.int .i64 190])∧ah [] w w':=by
 have c12:=fun W (_:ah [] w W)=>(show Calls Tryz.prog 83 #[gv m] W fun e w'=>e=.returned (.int .i64 190)∧ah [] W w' from by
  have:=j9 m hm W
  rw[hc]at this
  exact this)
 have z0:Value.tuple #[.string ⟨#[]⟩,.int .i64 190]=.tuple #[ab [],.int .i64 190]:=rfl
 refine Sx.eC (args:=[gv m]) [(12,.call (.int .i64 190))] [] (by kernel_rfl) Tryz.func31 rfl (Nat.le_of_ble_eq_true rfl) ?_
 exact Eq.mp (by kernel_rfl) (And.intro c12 z0)
theorem Mr(m:Mt)(hm:m.Wf)(hc:bj m=true)(ha:m.asks=0)(w:World):Calls Tryz.prog 31 #[gv m] w fun e w'=>e=.returned (.tuple #[ab kZ,.int .i64 0])∧ah [] w w':=by
 have c12:=fun W (_:ah [] w W)=>(show Calls Tryz.prog 83 #[gv m] W fun e w'=>e=.returned (.int .i64 0)∧ah [] W w' from by
  have:=j9 m hm W
  rw[hc]at this
  exact this)
 have c18:Value.bool ((m.asks:Int)==0)=.bool true:=gF (by rw[ha];rfl)
 have z0:Value.tuple #[.string ⟨#[97,110,121]⟩,.int .i64 0]=.tuple #[ab kZ,.int .i64 0]:=rfl
 refine Sx.eC (args:=[gv m]) [(12,.call (.int .i64 0)),(18,.is (.bool true))] [] (by kernel_rfl) Tryz.func31 rfl (Nat.le_of_ble_eq_true rfl) ?_
 exact Eq.mp (by kernel_rfl) (Sx.t2 c12 c18 z0)
theorem Oc(m:Mt)(hm:m.Wf)(hc:bj m=true)(ha:m.asks≠0)(w:World)(hl:dy w):Calls Tryz.prog 31 #[gv m] w fun e w'=>e=.returned (.tuple #[ab (aJ 32 (fJ m)),.int .i64 0])∧ah [] w w':=by
 have c12:=fun W (_:ah [] w W)=>(show Calls Tryz.prog 83 #[gv m] W fun e w'=>e=.returned (.int .i64 0)∧ah [] W w' from by
  have:=j9 m hm W
  rw[hc]at this
  exact this)
 have c18:Value.bool ((m.asks:Int)==0)=.bool false:=iB (by rw[beq_eq_false_iff_ne];omega)
 have c23:=fun W (hW:ah [] w W)=>zS m.src.v m.src.n m.src.k hm.sn W (hl.cP hW)
 have c29:=fun W (hW:ah [] w W)=>zS m.dst.v m.dst.n m.dst.k hm.dn W (hl.cP hW)
 have c35:=fun W (hW:ah [] w W)=>zX m.fU hm.fU.1 hm.fU.2 W (hl.cP hW)
 have c49:=fun W (hW:ah [] w W)=>JI m.bS hm.pr W (hl.cP hW)
 have c55:=fun W (hW:ah [] w W)=>zX m.sp hm.sp.1 hm.sp.2 W (hl.cP hW)
 have c61:=fun W (hW:ah [] w W)=>zX m.dp hm.dp.1 hm.dp.2 W (hl.cP hW)
 have hb0:=ux m hm 0 (by omega)
 have hb1:=ux m hm 1 (by omega)
 have hb2:=ux m hm 2 (by omega)
 have hb3:=ux m hm 3 (by omega)
 have hb4:=ux m hm 4 (by omega)
 have hb5:=ux m hm 5 (by omega)
 obtain⟨t0,ht0⟩:∃t:Bs,t=eu m.fU:=⟨_,rfl⟩
 obtain⟨t1,ht1⟩:∃t:Bs,t=rU m.src:=⟨_,rfl⟩
 obtain⟨t2,ht2⟩:∃t:Bs,t=rU m.dst:=⟨_,rfl⟩
 obtain⟨t3,ht3⟩:∃t:Bs,t=dK m.bS:=⟨_,rfl⟩
 obtain⟨t4,ht4⟩:∃t:Bs,t=eu m.sp:=⟨_,rfl⟩
 obtain⟨t5,ht5⟩:∃t:Bs,t=eu m.dp:=⟨_,rfl⟩
 have l0:t0.length≤100000000:=by rw[ht0];exact Nat.le_trans (j0 _ hm.fU.1 hm.fU.2) (by omega)
 have l1:t1.length≤100000000:=by rw[ht1];exact qT _
 have l2:t2.length≤100000000:=by rw[ht2];exact qT _
 have l3:t3.length≤100000000:=by rw[ht3];exact Nat.le_trans (uw _ hm.pr) (by omega)
 have l4:t4.length≤100000000:=by rw[ht4];exact Nat.le_trans (j0 _ hm.sp.1 hm.sp.2) (by omega)
 have l5:t5.length≤100000000:=by rw[ht5];exact Nat.le_trans (j0 _ hm.dp.1 hm.dp.2) (by omega)
 obtain⟨y0,hy0⟩:∃y,y=([]:List Bs)++rV (m.asks.testBit 0) [lq,t0]:=⟨_,rfl⟩
 obtain⟨y1,hy1⟩:∃y,y=y0++rV (m.asks.testBit 1) [fx,t1]:=⟨_,rfl⟩
 obtain⟨y2,hy2⟩:∃y,y=y1++rV (m.asks.testBit 2) [gw,t2]:=⟨_,rfl⟩
 obtain⟨y3,hy3⟩:∃y,y=y2++rV (m.asks.testBit 3) [dv,t3]:=⟨_,rfl⟩
 obtain⟨y4,hy4⟩:∃y,y=y3++rV (m.asks.testBit 4) [eM,t4]:=⟨_,rfl⟩
 obtain⟨y5,hy5⟩:∃y,y=y4++rV (m.asks.testBit 5) [gi,t5]:=⟨_,rfl⟩
 have hy:y5=fJ m:=by rw[hy5,hy4,hy3,hy2,hy1,hy0,ht0,ht1,ht2,ht3,ht4,ht5];rfl
 have bd:∀(x:List Bs) (b:Bool) (p q:Bs) (n:Nat),x.length≤n→(x++rV b [p,q]).length≤n+2:=fun x b p q n h=>by
  rw[List.length_append]
  cases b
  ·show x.length+0≤_;omega
  ·show x.length+2≤_;omega
 have bx:∀(x:List Bs) (b:Bool) (p q:Bs),(∀z∈x,z.length≤100000000)→p.length≤100000000→q.length≤100000000→∀z∈x++rV b [p,q],z.length≤100000000:=fun x b p q h hp hq z hz=>by
  rcases List.mem_append.1 hz with hz|hz
  ·exact h z hz
  ·cases b with
   |true=>
    have hz:z∈[p,q]:=hz
    rcases List.mem_cons.1 hz with rfl|hz
    ·exact hp
    ·rw[List.mem_singleton.1 hz];exact hq
   |false=>cases hz
 have n0:y0.length≤2:=by rw[hy0];exact bd _ _ _ _ 0 (Nat.le_refl 0)
 have x0:∀z∈y0,z.length≤100000000:=by rw[hy0];exact bx _ _ _ _ (by simp) (by decide) l0
 have n1:y1.length≤4:=by rw[hy1];exact bd _ _ _ _ 2 n0
 have x1:∀z∈y1,z.length≤100000000:=by rw[hy1];exact bx _ _ _ _ x0 (by decide) l1
 have n2:y2.length≤6:=by rw[hy2];exact bd _ _ _ _ 4 n1
 have x2:∀z∈y2,z.length≤100000000:=by rw[hy2];exact bx _ _ _ _ x1 (by decide) l2
 have n3:y3.length≤8:=by rw[hy3];exact bd _ _ _ _ 6 n2
 have x3:∀z∈y3,z.length≤100000000:=by rw[hy3];exact bx _ _ _ _ x2 (by decide) l3
 have n4:y4.length≤10:=by rw[hy4];exact bd _ _ _ _ 8 n3
 have x4:∀z∈y4,z.length≤100000000:=by rw[hy4];exact bx _ _ _ _ x3 (by decide) l4
 have n5:y5.length≤12:=by rw[hy5];exact bd _ _ _ _ 10 n4
 have x5:∀z∈y5,z.length≤100000000:=by rw[hy5];exact bx _ _ _ _ x4 (by decide) l5
 rw[←hy]
 have c37:=fun W β (hS:Sx.dz ⟨w,[],fun _ _=>False⟩ β W (Sx.rowAt [⟨66,.aj m.cells⟩,⟨70,.dm [.own 2]⟩,⟨9,.own 1 ([]:List Bs).length (strs ([]:List Bs))⟩,⟨9,.aj [ab lq,ab t0]⟩]) [0,1,2,3])=>(show Calls Tryz.prog 84 (([.val (.int .u8 ((2^0:Nat):Int)),.mJ 3 0 2 2,.ptr 0 0,.ptr 1 0]:List Sx.SV).map (Sx.SV.den β)).toArray W (Sx.aQ ⟨w,[],fun _ _=>False⟩ β W (Sx.rowAt [⟨66,.aj m.cells⟩,⟨70,.dm [.own 2]⟩,⟨9,.own 1 ([]:List Bs).length (strs ([]:List Bs))⟩,⟨9,.aj [ab lq,ab t0]⟩]) 4 (oH 2 3 4 m.cells y0))from by rw[hy0];exact j4 lq t0 (2^0) (m.asks.testBit 0) rfl rfl rfl rfl (by omega) (by omega) (by omega) hb0 (Nat.zero_le _) W β hS)
 have c41:=fun W β (hS:Sx.dz ⟨w,[],fun _ _=>False⟩ β W (Sx.rowAt [⟨66,.aj m.cells⟩,⟨70,.dm [.own 4]⟩,Sx.al,⟨9,.aj [ab lq,ab t0]⟩,⟨9,.own 1 y0.length (strs y0)⟩,⟨9,.aj [ab fx,ab t1]⟩]) [0,1,4,5])=>(show Calls Tryz.prog 84 (([.val (.int .u8 ((2^1:Nat):Int)),.mJ 5 0 2 2,.ptr 0 0,.ptr 1 0]:List Sx.SV).map (Sx.SV.den β)).toArray W (Sx.aQ ⟨w,[],fun _ _=>False⟩ β W (Sx.rowAt [⟨66,.aj m.cells⟩,⟨70,.dm [.own 4]⟩,Sx.al,⟨9,.aj [ab lq,ab t0]⟩,⟨9,.own 1 y0.length (strs y0)⟩,⟨9,.aj [ab fx,ab t1]⟩]) 6 (oH 4 5 6 m.cells y1))from by rw[hy1];exact j4 fx t1 (2^1) (m.asks.testBit 1) rfl rfl rfl rfl (by omega) (by omega) (by omega) hb1 (Nat.le_trans n0 (by omega)) W β hS)
 have c45:=fun W β (hS:Sx.dz ⟨w,[],fun _ _=>False⟩ β W (Sx.rowAt [⟨66,.aj m.cells⟩,⟨70,.dm [.own 6]⟩,Sx.al,⟨9,.aj [ab lq,ab t0]⟩,Sx.al,⟨9,.aj [ab fx,ab t1]⟩,⟨9,.own 1 y1.length (strs y1)⟩,⟨9,.aj [ab gw,ab t2]⟩]) [0,1,6,7])=>(show Calls Tryz.prog 84 (([.val (.int .u8 ((2^2:Nat):Int)),.mJ 7 0 2 2,.ptr 0 0,.ptr 1 0]:List Sx.SV).map (Sx.SV.den β)).toArray W (Sx.aQ ⟨w,[],fun _ _=>False⟩ β W (Sx.rowAt [⟨66,.aj m.cells⟩,⟨70,.dm [.own 6]⟩,Sx.al,⟨9,.aj [ab lq,ab t0]⟩,Sx.al,⟨9,.aj [ab fx,ab t1]⟩,⟨9,.own 1 y1.length (strs y1)⟩,⟨9,.aj [ab gw,ab t2]⟩]) 8 (oH 6 7 8 m.cells y2))from by rw[hy2];exact j4 gw t2 (2^2) (m.asks.testBit 2) rfl rfl rfl rfl (by omega) (by omega) (by omega) hb2 (Nat.le_trans n1 (by omega)) W β hS)
 have c51:=fun W β (hS:Sx.dz ⟨w,[],fun _ _=>False⟩ β W (Sx.rowAt [⟨66,.aj m.cells⟩,⟨70,.dm [.own 8]⟩,Sx.al,⟨9,.aj [ab lq,ab t0]⟩,Sx.al,⟨9,.aj [ab fx,ab t1]⟩,Sx.al,⟨9,.aj [ab gw,ab t2]⟩,⟨9,.own 1 y2.length (strs y2)⟩,⟨9,.aj [ab dv,ab t3]⟩]) [0,1,8,9])=>(show Calls Tryz.prog 84 (([.val (.int .u8 ((2^3:Nat):Int)),.mJ 9 0 2 2,.ptr 0 0,.ptr 1 0]:List Sx.SV).map (Sx.SV.den β)).toArray W (Sx.aQ ⟨w,[],fun _ _=>False⟩ β W (Sx.rowAt [⟨66,.aj m.cells⟩,⟨70,.dm [.own 8]⟩,Sx.al,⟨9,.aj [ab lq,ab t0]⟩,Sx.al,⟨9,.aj [ab fx,ab t1]⟩,Sx.al,⟨9,.aj [ab gw,ab t2]⟩,⟨9,.own 1 y2.length (strs y2)⟩,⟨9,.aj [ab dv,ab t3]⟩]) 10 (oH 8 9 10 m.cells y3))from by rw[hy3];exact j4 dv t3 (2^3) (m.asks.testBit 3) rfl rfl rfl rfl (by omega) (by omega) (by omega) hb3 (Nat.le_trans n2 (by omega)) W β hS)
 have c57:=fun W β (hS:Sx.dz ⟨w,[],fun _ _=>False⟩ β W (Sx.rowAt [⟨66,.aj m.cells⟩,⟨70,.dm [.own 10]⟩,Sx.al,⟨9,.aj [ab lq,ab t0]⟩,Sx.al,⟨9,.aj [ab fx,ab t1]⟩,Sx.al,⟨9,.aj [ab gw,ab t2]⟩,Sx.al,⟨9,.aj [ab dv,ab t3]⟩,⟨9,.own 1 y3.length (strs y3)⟩,⟨9,.aj [ab eM,ab t4]⟩]) [0,1,10,11])=>(show Calls Tryz.prog 84 (([.val (.int .u8 ((2^4:Nat):Int)),.mJ 11 0 2 2,.ptr 0 0,.ptr 1 0]:List Sx.SV).map (Sx.SV.den β)).toArray W (Sx.aQ ⟨w,[],fun _ _=>False⟩ β W (Sx.rowAt [⟨66,.aj m.cells⟩,⟨70,.dm [.own 10]⟩,Sx.al,⟨9,.aj [ab lq,ab t0]⟩,Sx.al,⟨9,.aj [ab fx,ab t1]⟩,Sx.al,⟨9,.aj [ab gw,ab t2]⟩,Sx.al,⟨9,.aj [ab dv,ab t3]⟩,⟨9,.own 1 y3.length (strs y3)⟩,⟨9,.aj [ab eM,ab t4]⟩]) 12 (oH 10 11 12 m.cells y4))from by rw[hy4];exact j4 eM t4 (2^4) (m.asks.testBit 4) rfl rfl rfl rfl (by omega) (by omega) (by omega) hb4 (Nat.le_trans n3 (by omega)) W β hS)
 have c63:=fun W β (hS:Sx.dz ⟨w,[],fun _ _=>False⟩ β W (Sx.rowAt [⟨66,.aj m.cells⟩,⟨70,.dm [.own 12]⟩,Sx.al,⟨9,.aj [ab lq,ab t0]⟩,Sx.al,⟨9,.aj [ab fx,ab t1]⟩,Sx.al,⟨9,.aj [ab gw,ab t2]⟩,Sx.al,⟨9,.aj [ab dv,ab t3]⟩,Sx.al,⟨9,.aj [ab eM,ab t4]⟩,⟨9,.own 1 y4.length (strs y4)⟩,⟨9,.aj [ab gi,ab t5]⟩]) [0,1,12,13])=>(show Calls Tryz.prog 84 (([.val (.int .u8 ((2^5:Nat):Int)),.mJ 13 0 2 2,.ptr 0 0,.ptr 1 0]:List Sx.SV).map (Sx.SV.den β)).toArray W (Sx.aQ ⟨w,[],fun _ _=>False⟩ β W (Sx.rowAt [⟨66,.aj m.cells⟩,⟨70,.dm [.own 12]⟩,Sx.al,⟨9,.aj [ab lq,ab t0]⟩,Sx.al,⟨9,.aj [ab fx,ab t1]⟩,Sx.al,⟨9,.aj [ab gw,ab t2]⟩,Sx.al,⟨9,.aj [ab dv,ab t3]⟩,Sx.al,⟨9,.aj [ab eM,ab t4]⟩,⟨9,.own 1 y4.length (strs y4)⟩,⟨9,.aj [ab gi,ab t5]⟩]) 14 (oH 12 13 14 m.cells y5))from by rw[hy5];exact j4 gi t5 (2^5) (m.asks.testBit 5) rfl rfl rfl rfl (by omega) (by omega) (by omega) hb5 (Nat.le_trans n4 (by omega)) W β hS)
 have c65:=fun W hW s ho=>Gl 0 y5 n5 x5 w W hW s ho
 have z0:Value.tuple #[ab (aJ 32 y5),.int .i64 0]=.tuple #[ab (aJ 32 y5),.int .i64 0]:=rfl
 rw[←ht0]at c35
 have c23:∀W,ah [] w W→Calls Tryz.prog 72 #[pH m.src] W fun e w'=>e=.returned (.tuple #[ab t1,.int .i64 (fP m.src.v m.src.n m.src.k)])∧ah [] W w':=by rw[ht1];exact c23
 have c29:∀W,ah [] w W→Calls Tryz.prog 72 #[pH m.dst] W fun e w'=>e=.returned (.tuple #[ab t2,.int .i64 (fP m.dst.v m.dst.n m.dst.k)])∧ah [] W w':=by rw[ht2];exact c29
 rw[←ht3]at c49
 rw[←ht4]at c55
 rw[←ht5]at c61
 clear hy ht0 ht1 ht2 ht3 ht4 ht5 hy0 hy1 hy2 hy3 hy4 hy5
 refine Sx.eC (args:=[gv m]) [(12,.call (.int .i64 0)),(18,.is (.bool false)),(5,.sw [(0,9,1)]),(23,.call (.tuple #[ab t1,.int .i64 (fP m.src.v m.src.n m.src.k)])),(29,.call (.tuple #[ab t2,.int .i64 (fP m.dst.v m.dst.n m.dst.k)])),(35,.call (ab t0)),(49,.call (ab t3)),(55,.call (ab t4)),(61,.call (ab t5)),(37,.ai (oH 2 3 4 m.cells y0)),(41,.ai (oH 4 5 6 m.cells y1)),(45,.ai (oH 6 7 8 m.cells y2)),(51,.ai (oH 8 9 10 m.cells y3)),(57,.ai (oH 10 11 12 m.cells y4)),(63,.ai (oH 12 13 14 m.cells y5)),(65,.dH (.val (ab (aJ 32 y5))))] [] (by kernel_rfl) Tryz.func31 rfl (Nat.le_of_ble_eq_true rfl) ?_
 exact Eq.mp (by kernel_rfl) (Sx.t8 c12 c18 c23 c29 c35 c37 c41 c45 (Sx.t4 c49 c51 c55 c57 (Sx.t2 c61 c63 (And.intro c65 z0))))
theorem kS(m:Mt)(hm:m.Wf)(w:World)(hl:dy w):Calls Tryz.prog 31 #[gv m] w fun e w'=>e=.returned (.tuple #[ab (xI m),.int .i64 (if bj m=true then 0 else 190)])∧ah [] w w':=by
 unfold xI
 cases hc:bj m with
 |false=>exact Mq m hm hc w
 |true=>
  show Calls Tryz.prog 31 #[gv m] w fun e w'=>e=.returned (.tuple #[ab (eK m),.int .i64 0])∧ah [] w w'
  by_cases ha:m.asks=0
  ·rw[show eK m=kZ by unfold eK;rw[if_pos ha]]
   exact Mr m hm hc ha w
  ·rw[show eK m=aJ 32 (fJ m)by unfold eK;rw[if_neg ha]]
   exact Oc m hm hc ha w hl
end Go.Proofs.YtnncigmpcdehnaaGreatDoor
