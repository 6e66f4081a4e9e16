import Derived.Test.YtnncigmpcdehnaaGreatDoorQb32
namespace Go.Proofs.YtnncigmpcdehnaaGreatDoor
set_option maxRecDepth 100000
open Go Go.RowKit Go.Lib Go.Sort
def rX(bt:Bool)(ws:List Bs):List Bs:=match bt with
 |true=>ws
 |false=>[]
theorem oH(xs:List Bs):(strs xs).length=xs.length:=by simp[strs]
def pF(gm gl:Nat)(A:Option Go.Addr)(mc:List Value)(ys:List Bs)(w:World)(e:Ending)(w':World):Prop:=
 ∃A' c',e=.returned (.tuple #[])∧aB w' gm 66 mc∧aB w' gl 70 [.slice A' ys.length c']∧Own w' 9 1 (.slice A' ys.length c') ys.length (strs ys)∧aw (gm::gl::(A.map (·.block)).toList) w w'∧∀k,A'.map (·.block)=some k→A.map (·.block)=some k∨w.heap.size≤k
structure Mz(w:World)(gm gl:Nat)(A:Option Go.Addr)(c:Nat)(m:Mt)(xs ws:List Bs)(v:Value):Prop where
 bm:aB w gm 66 m.cells
 bl:aB w gl 70 [.slice A xs.length c]
 own:Own w 9 1 (.slice A xs.length c) xs.length (strs xs)
 wd:kB w (gm::gl::(A.map (·.block)).toList) 1 v ws.length (strs ws)
def My(gm gl:Nat)(mc:List Value)(ys:List Bs)(l:List Sx.SV)(mem:List Sx.Row):Prop:=
 ∃k,l=[]∧mem[0]?=some ⟨66,.cY gm mc⟩∧mem[1]?=some ⟨70,.gJ gl [.own k]⟩∧mem[k]?=some ⟨9,.own 1 ys.length (strs ys)⟩
theorem pF.iD{gm gl:Nat}{A:Option Go.Addr}{mc:List Value}{ys:List Bs}{w:World}{en:Ending}{w':World}(h:Sx.bc ⟨w,gm::gl::(A.map (·.block)).toList,fun _ _=>False⟩ (My gm gl mc ys) en w'):pF gm gl A mc ys w en w':=by
 rcases h with⟨β,l,mem,⟨k,rfl,h0,h1,hk⟩,he,hR⟩ | ⟨_,_,hf,_⟩
 ·have r0:=hR.held 0 _ h0
  have r1:=hR.held 1 _ h1
  have rk:β.n k=ys.length∧Own w' 9 1 (.slice (β.a k) ys.length (β.c k)) ys.length (strs ys):=hR.held k _ hk
  have e0:β 0=gm:=r0.1
  have e1:β 1=gl:=r1.1
  have hb:=r1.2
  have e2:([Sx.SV.own k].map (Sx.SV.den β))=[β.sl k]:=rfl
  rw[e1,e2]at hb
  unfold Sx.Env.sl at hb
  rw[rk.1]at hb
  refine⟨β.a k,β.c k,he,e0 ▸ r0.2,hb,rk.2,hR.aP,fun x hx=>?_⟩
  rcases hR.new k _ x hk hx with h1|h1
  ·rcases List.mem_cons.1 h1 with rfl|h1
   ·exact absurd (by rw[CL];exact hx) (rk.2.BV (e0 ▸ r0.2) (show(9:Nat)≠66 by decide))
   ·rcases List.mem_cons.1 h1 with rfl|h1
    ·exact absurd (by rw[CL];exact hx) (rk.2.BV hb (show(9:Nat)≠70 by decide))
    ·exact .inl (by simpa using h1)
  ·exact .inr h1
 ·exact hf.elim
def FA(gm gl:Nat)(mc:List Value)(xs:List Bs):List Sx.Row:=[⟨66,.cY gm mc⟩,⟨70,.gJ gl [.own 2]⟩,⟨9,.own 1 xs.length (strs xs)⟩]
theorem Fz{w:World}{gm gl:Nat}{A:Option Go.Addr}{c:Nat}{m:Mt}{xs ws:List Bs}{v:Value}(h:Mz w gm gl A c m xs ws v):Sx.Rows ⟨w,gm::gl::(A.map (·.block)).toList,fun _ _=>False⟩ (Sx.cZ [.bY gm 66 m.cells,.mo gl 70 [.own 2],.own 9 1 A xs.length c (strs xs)]) w (FA gm gl m.cells xs):=by
 refine Sx.gk (w:=w) (S:=gm::gl::(A.map (·.block)).toList) (PP:=fun _ _=>False) (G:=[.bY gm 66 m.cells,.mo gl 70 [.own 2],.own 9 1 A xs.length c (strs xs)]) (fun q hq=>?_) (fun q hq k hk=>?_) ?_
 ·simp only[List.mem_cons,List.not_mem_nil,or_false]at hq
  rcases hq with rfl|rfl|rfl
  ·exact h.bm
  ·exact h.bl
  ·exact h.own
 ·simp only[List.mem_cons,List.not_mem_nil,or_false]at hq
  rcases hq with rfl|rfl|rfl
  ·cases hk;simp
  ·cases hk;simp
  ·have hk:A.map (·.block)=some k:=hk
   rw[hk];simp
 ·have e:([Sx.jT.bY gm 66 m.cells,.mo gl 70 [.own 2],.own 9 1 A xs.length c (strs xs)].filterMap Sx.jT.block)=gm::gl::(A.map (·.block)).toList:=by cases A<;>rfl
  rw[e,List.nodup_cons,List.nodup_cons]
  have n1:gm∉(A.map (·.block)).toList:=fun hm=>h.own.BV h.bm (by decide) (by rw[CL];simpa using hm)
  have n2:gl∉(A.map (·.block)).toList:=fun hm=>h.own.BV h.bl (by decide) (by rw[CL];simpa using hm)
  refine⟨fun hm=>?_,n2,?_⟩
  ·rcases List.mem_cons.1 hm with rfl|hm
   ·have:=h.bm.shape.symm.trans h.bl.shape
    simp at this
   ·exact n1 hm
  ·cases A<;>simp
theorem Lz{w:World}{gm gl:Nat}{A:Option Go.Addr}{c:Nat}{m:Mt}{xs ws:List Bs}{v:Value}(ask:Nat)(bt:Bool)(h:Mz w gm gl A c m xs ws v)(hb:(bits .and .u8 (m.asks:Int) (ask:Int) !=0)=bt)(hl:xs.length+ws.length≤1000000000) :
  Calls Tryz.prog 84 #[.int .u8 (ask:Int),v,.pointer (some ⟨gm,0,none⟩),.pointer (some ⟨gl,0,none⟩)] w (pF gm gl A m.cells (xs++rX bt ws) w):=by
 have hR:=Fz h
 have c10:Value.bool (bits .and .u8 (m.asks:Int) (ask:Int) !=0)=.bool bt:=bz hb
 cases bt with
 |false=>
  have z0:My gm gl m.cells (xs++[]) [] (FA gm gl m.cells xs):=by rw[List.append_nil];exact⟨2,rfl,rfl,rfl,rfl⟩
  refine(Sx.aT (args:=[.val (.int .u8 (ask:Int)),.val v,.ptr 0 0,.ptr 1 0]) hR [(10,.is (.bool false))] [] (by kernel_rfl) Tryz.func84 rfl (Nat.le_of_ble_eq_true rfl) rfl ?_).mono fun en w' hp=>pF.iD hp
  exact Eq.mp (by kernel_rfl) (And.intro c10 z0)
 |true=>
  obtain⟨A2,c2,hv⟩:=h.wd.form
  have c13:(∀W,aw (gm::gl::(A.map (·.block)).toList) w W→∃B d,v=.slice B ws.length d∧(0 < (strs ws).length→∃ad,B=some ad∧∀(j:Nat) (u:Value),(strs ws)[j]?=some u→W.cell? (ad.add j)=some u))∧(strs ws).length=ws.length*1∧(∀u∈strs ws,u.oneCell'=true)∧xs.length+ws.length≤maxLen∧(xs.length+ws.length)*16≤140737488355328:=by
   refine⟨fun W hW=>?_,by rw[oH,Nat.mul_one],fun u hu=>?_,by unfold maxLen;omega,by omega⟩
   ·obtain⟨_,B,d,h2,h3⟩:=h.wd.aP hW
    refine⟨B,d,h2,fun h0=>?_⟩
    obtain⟨g,o,rfl,_,_,hr⟩:=h3 (by rw[oH]at h0;exact h0)
    exact⟨_,rfl,fun j u hu=>by rw[Addr.add_lit];exact hr j u hu⟩
   ·obtain⟨l,_,rfl⟩:=List.mem_map.1 hu
    rfl
  have z0:My gm gl m.cells (xs++ws) [] [⟨66,.cY gm m.cells⟩,⟨70,.gJ gl [.own 3]⟩,Sx.aa,⟨9,.own 1 (xs.length+ws.length) (strs xs++strs ws)⟩]:=⟨3,rfl,rfl,rfl,by rw[List.length_append,show strs (xs++ws)=strs xs++strs ws by simp[strs]];rfl⟩
  refine(Sx.aT (args:=[.val (.int .u8 (ask:Int)),.val v,.ptr 0 0,.ptr 1 0]) hR [(10,.is (.bool true)),(13,.app ws.length (strs ws))] [] (by kernel_rfl) Tryz.func84 rfl (Nat.le_of_ble_eq_true rfl) rfl ?_).mono fun en w' hp=>pF.iD hp
  exact Eq.mp (by kernel_rfl) (Sx.t2 c10 c13 z0)
def oP(j k m:Nat)(mc:List Value)(ys:List Bs):Sx.cH:=⟨[0,1,j,k],[(0,⟨66,.ag mc⟩),(1,⟨70,.dm [.own m]⟩)],[j],[⟨9,.own 1 ys.length (strs ys)⟩],.val (.tuple #[]),none⟩
theorem j9{b:Sx.bw}{row:Nat→Option Sx.Row}{j k mm:Nat}{m:Mt}{xs:List Bs}(x y:Bs)(ask:Nat)(bt:Bool)(r0:row 0=some ⟨66,.ag m.cells⟩)(r1:row 1=some ⟨70,.dm [.own j]⟩)(rj:row j=some ⟨9,.own 1 xs.length (strs xs)⟩)(rk:row k=some ⟨9,.ag [af x,af y]⟩)
  (hj:1 < j) (hk:j < k) (_hm:k < mm) (hb:(bits .and .u8 (m.asks:Int) (ask:Int) !=0)=bt) (hl:xs.length≤1000) (W:World) (β:Sx.Env) (hS:Sx.cw b β W row [0,1,j,k]) :
  Calls Tryz.prog 84 (([.val (.int .u8 (ask:Int)),.mF k 0 2 2,.ptr 0 0,.ptr 1 0]:List Sx.SV).map (Sx.SV.den β)).toArray W (Sx.a7 b β W row mm (oP j k mm m.cells (xs++rX bt [x,y]))):=by
 have h0:aB W (β 0) 66 m.cells:=hS.held 0 (by simp) _ r0
 have h1:aB W (β 1) 70 [β.sl j]:=hS.held 1 (by simp) _ r1
 have h2:β.n j=xs.length∧Own W 9 1 (.slice (β.a j) xs.length (β.c j)) xs.length (strs xs):=hS.held j (by simp) _ rj
 have h3:aB W (β k) 9 [af x,af y]:=hS.held k (by simp) _ rk
 have hb1:aB W (β 1) 70 [.slice (β.a j) xs.length (β.c j)]:=by
  unfold Sx.Env.sl at h1
  rw[h2.1]at h1
  exact h1
 have nk:β k∉β 0::β 1::((β.a j).map (·.block)).toList:=fun hh=>by
  rcases List.mem_cons.1 hh with hh|hh
  ·have:=hS.inj k (by simp) 0 (by simp) _ _ (β k) rk r0 rfl (by show some (β 0)=_;rw[hh])
   omega
  rcases List.mem_cons.1 hh with hh|hh
  ·have:=hS.inj k (by simp) 1 (by simp) _ _ (β k) rk r1 rfl (by show some (β 1)=_;rw[hh])
   omega
  ·have:=hS.inj k (by simp) j (by simp) _ _ (β k) rk rj rfl (by show(β.a j).map (·.block)=some (β k);simpa using hh)
   omega
 have hH:Mz W (β 0) (β 1) (β.a j) (β.c j) m xs [x,y] (.slice (some ⟨β k,0,none⟩) 2 2):=⟨h0,hb1,h2.2,⟨rfl,_,_,rfl,fun _=>⟨β k,0,rfl,nk,h3.lt,fun i u hu=>by
  have:=h3.cell_of (i:=i) (v:=u) hu
  simpa using this⟩⟩⟩
 show Calls Tryz.prog 84 #[.int .u8 (ask:Int),.slice (some ⟨β k,0,none⟩) 2 2,.pointer (some ⟨β 0,0,none⟩),.pointer (some ⟨β 1,0,none⟩)] W _
 refine(Lz ask bt hH hb (by simp only[List.length_cons,List.length_nil];omega)).mono fun en w' hp=>?_
 generalize xs++rX bt [x,y]=ys at hp
 obtain⟨A',c',he,b0,b1,ho,hc,hn⟩:=hp
 refine .inl ⟨fun p hp=>(by cases hp),Ku β mm A' ys.length c',fun i hi=>⟨rfl,?_,?_,?_⟩,he,fun q hq=>?_,fun i r hr=>?_,fun i r x hr hx=>?_,fun i i' r r' x hr hr' _ _=>?_,hc.mono fun i hi=>.inl ?_⟩
 ·show β.a i=if i=mm then A' else β.a i
  rw[if_neg (by omega)]
 ·show β.n i=if i=mm then ys.length else β.n i
  rw[if_neg (by omega)]
 ·show β.c i=if i=mm then c' else β.c i
  rw[if_neg (by omega)]
 ·have hq:q=(0,⟨66,.ag m.cells⟩)∨q=(1,⟨70,.dm [.own mm]⟩):=by
   have:q∈[(0,(⟨66,.ag m.cells⟩:Sx.Row)),(1,⟨70,.dm [.own mm]⟩)]:=hq
   simpa using this
  rcases hq with rfl|rfl
  ·exact b0
  ·show aB w' (β 1) 70 [.slice (if mm=mm then A' else β.a mm) (if mm=mm then ys.length else β.n mm) (if mm=mm then c' else β.c mm)]
   rw[if_pos rfl,if_pos rfl,if_pos rfl]
   exact b1
 ·match i,hr with
  | 0,hr=>
   cases hr
   show(if mm+0=mm then ys.length else β.n (mm+0))=ys.length∧Own w' 9 1 (.slice (if mm+0=mm then A' else β.a (mm+0)) ys.length (if mm+0=mm then c' else β.c (mm+0))) ys.length (strs ys)
   rw[Nat.add_zero,if_pos rfl,if_pos rfl,if_pos rfl]
   exact⟨rfl,ho⟩
 ·match i,hr with
  | 0,hr=>
   cases hr
   have hx:(if mm+0=mm then A' else β.a (mm+0)).map (·.block)=some x:=hx
   rw[Nat.add_zero,if_pos rfl]at hx
   rcases hn x hx with h1|h1
   ·refine .inl (List.mem_filterMap.2 ⟨j,by simp[oP],?_⟩)
    unfold Sx.cK
    rw[rj]
    exact h1
   ·exact .inr h1
 ·match i,i',hr,hr' with
  | 0,0,_,_=>rfl
 ·show i∈([0,1]++[j]).filterMap (Sx.cK β row)
  rcases List.mem_cons.1 hi with rfl|hi
  ·refine List.mem_filterMap.2 ⟨0,by simp,?_⟩
   unfold Sx.cK
   rw[r0];rfl
  rcases List.mem_cons.1 hi with rfl|hi
  ·refine List.mem_filterMap.2 ⟨1,by simp,?_⟩
   unfold Sx.cK
   rw[r1];rfl
  ·refine List.mem_filterMap.2 ⟨j,by simp,?_⟩
   unfold Sx.cK
   rw[rj]
   show(β.a j).map (·.block)=some i
   simpa using hi
end Go.Proofs.YtnncigmpcdehnaaGreatDoor
