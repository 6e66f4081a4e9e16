import Derived.Test.YtnncigmpcdehnaaGreatDoorQf29
namespace Go.Proofs.YtnncigmpcdehnaaGreatDoor
set_option maxRecDepth 100000
open Go Go.RowKit Go.Lib Go.Sort _root_.Go.Proofs.Tryz
def uj(bt:Bool)(ws:List Bs):List Bs:=match bt with
 |true=>ws
 |false=>[]
theorem pS(xs:List Bs):(strs xs).length=xs.length:=by simp[strs]
def qO(gm gl:Nat)(A:Option Go.Addr)(mc:List Value)(ys:List Bs)(w:World)(e:Ending)(w':World):Prop:=
 ∃A' c',e=.returned (.tuple #[])∧au w' gm 66 mc∧au w' gl 70 [.slice A' ys.length c']∧Own w' 9 1 (.slice A' ys.length c') ys.length (strs ys)∧ai (gm::gl::(A.map (·.block)).toList) w w'∧∀k,A'.map (·.block)=some k→A.map (·.block)=some k∨w.heap.size≤k
structure QU(w:World)(gm gl:Nat)(A:Option Go.Addr)(c:Nat)(m:Mt)(xs ws:List Bs)(v:Value):Prop where
 bm:au w gm 66 m.cells
 bl:au w gl 70 [.slice A xs.length c]
 own:Own w 9 1 (.slice A xs.length c) xs.length (strs xs)
 wd:kV w (gm::gl::(A.map (·.block)).toList) 1 v ws.length (strs ws)
def QT(gm gl:Nat)(mc:List Value)(ys:List Bs)(l:List Sx.SV)(mem:List Sx.Row):Prop:=
 ∃k,l=[]∧mem[0]?=some ⟨66,.dF gm mc⟩∧mem[1]?=some ⟨70,.jR gl [.own k]⟩∧mem[k]?=some ⟨9,.own 1 ys.length (strs ys)⟩
theorem qO.jh{gm gl:Nat}{A:Option Go.Addr}{mc:List Value}{ys:List Bs}{w:World}{en:Ending}{w':World}(h:Sx.cq ⟨w,gm::gl::(A.map (·.block)).toList,fun _ _=>False⟩ (QT gm gl mc ys) en w'):qO gm gl A mc ys w en w':=by
 rcases h with⟨β,l,mem,⟨k,rfl,h0,h1,hk⟩,he,hR⟩ | ⟨_,_,hf,_⟩
 ·have r0:=hR.held 0 _ h0
  have r1:=hR.held 1 _ h1
  have rk:β.n k=ys.length∧Own w' 9 1 (.slice (β.a k) ys.length (β.c k)) ys.length (strs ys):=hR.held k _ hk
  have e0:β 0=gm:=r0.1
  have e1:β 1=gl:=r1.1
  have hb:=r1.2
  have e2:([Sx.SV.own k].map (Sx.SV.den β))=[β.sl k]:=rfl
  rw[e1,e2]at hb
  unfold Sx.Env.sl at hb
  rw[rk.1]at hb
  refine⟨β.a k,β.c k,he,e0 ▸ r0.2,hb,rk.2,hR.aG,fun x hx=>?_⟩
  rcases hR.new k _ x hk hx with h1|h1
  ·rcases List.mem_cons.1 h1 with rfl|h1
   ·exact absurd (by rw[FO];exact hx) (rk.2.EK (e0 ▸ r0.2) (show(9:Nat)≠66 by decide))
   ·rcases List.mem_cons.1 h1 with rfl|h1
    ·exact absurd (by rw[FO];exact hx) (rk.2.EK hb (show(9:Nat)≠70 by decide))
    ·exact .inl (by simpa using h1)
  ·exact .inr h1
 ·exact hf.elim
def I7(gm gl:Nat)(mc:List Value)(xs:List Bs):List Sx.Row:=[⟨66,.dF gm mc⟩,⟨70,.jR gl [.own 2]⟩,⟨9,.own 1 xs.length (strs xs)⟩]
theorem I6{w:World}{gm gl:Nat}{A:Option Go.Addr}{c:Nat}{m:Mt}{xs ws:List Bs}{v:Value}(h:QU w gm gl A c m xs ws v):Sx.Rows ⟨w,gm::gl::(A.map (·.block)).toList,fun _ _=>False⟩ (Sx.cU [.b9 gm 66 m.cells,.nM gl 70 [.own 2],.own 9 1 A xs.length c (strs xs)]) w (I7 gm gl m.cells xs):=by
 refine Sx.gP (w:=w) (S:=gm::gl::(A.map (·.block)).toList) (PP:=fun _ _=>False) (G:=[.b9 gm 66 m.cells,.nM gl 70 [.own 2],.own 9 1 A xs.length c (strs xs)]) (fun q hq=>?_) (fun q hq k hk=>?_) ?_
 ·simp only[List.mem_cons,List.not_mem_nil,or_false]at hq
  rcases hq with rfl|rfl|rfl
  ·exact h.bm
  ·exact h.bl
  ·exact h.own
 ·simp only[List.mem_cons,List.not_mem_nil,or_false]at hq
  rcases hq with rfl|rfl|rfl
  ·cases hk;simp
  ·cases hk;simp
  ·have hk:A.map (·.block)=some k:=hk
   rw[hk];simp
 ·have e:([Sx.kF.b9 gm 66 m.cells,.nM gl 70 [.own 2],.own 9 1 A xs.length c (strs xs)].filterMap Sx.kF.block)=gm::gl::(A.map (·.block)).toList:=by cases A<;>rfl
  rw[e,List.nodup_cons,List.nodup_cons]
  have n1:gm∉(A.map (·.block)).toList:=fun hm=>h.own.EK h.bm (by decide) (by rw[FO];simpa using hm)
  have n2:gl∉(A.map (·.block)).toList:=fun hm=>h.own.EK h.bl (by decide) (by rw[FO];simpa using hm)
  refine⟨fun hm=>?_,n2,?_⟩
  ·rcases List.mem_cons.1 hm with rfl|hm
   ·have:=h.bm.shape.symm.trans h.bl.shape
    simp at this
   ·exact n1 hm
  ·cases A<;>simp
theorem PS{w:World}{gm gl:Nat}{A:Option Go.Addr}{c:Nat}{m:Mt}{xs ws:List Bs}{v:Value}(ask:Nat)(bt:Bool)(h:QU w gm gl A c m xs ws v)(hb:(bits .and .u8 (m.asks:Int) (ask:Int) !=0)=bt)(hl:xs.length+ws.length≤1000000000) :
  Calls prog 84 #[.int .u8 (ask:Int),v,.pointer (some ⟨gm,0,none⟩),.pointer (some ⟨gl,0,none⟩)] w (qO gm gl A m.cells (xs++uj bt ws) w):=by
 have hR:=I6 h
 have c10:Value.bool (bits .and .u8 (m.asks:Int) (ask:Int) !=0)=.bool bt:=bz hb
 cases bt with
 |false=>
  have z0:QT gm gl m.cells (xs++[]) [] (I7 gm gl m.cells xs):=by rw[List.append_nil];exact⟨2,rfl,rfl,rfl,rfl⟩
  refine(Sx.aZ (args:=[.val (.int .u8 (ask:Int)),.val v,.ptr 0 0,.ptr 1 0]) hR [(10,.is (.bool false))] [] (by kernel_rfl) func84 rfl (cn rfl) rfl ?_).mono fun en w' hp=>qO.jh hp
  exact Eq.mp (by kernel_rfl) (And.intro c10 z0)
 |true=>
  obtain⟨A2,c2,hv⟩:=h.wd.form
  have c13:(∀W,ai (gm::gl::(A.map (·.block)).toList) w W→∃B d,v=.slice B ws.length d∧(0 < (strs ws).length→∃ad,B=some ad∧∀(j:Nat) (u:Value),(strs ws)[j]?=some u→W.cell? (ad.add j)=some u))∧(strs ws).length=ws.length*1∧(∀u∈strs ws,u.oneCell'=true)∧xs.length+ws.length≤maxLen∧(xs.length+ws.length)*16≤140737488355328:=by
   refine⟨fun W hW=>?_,by rw[pS,Nat.mul_one],fun u hu=>?_,by unfold maxLen;omega,by omega⟩
   ·obtain⟨_,B,d,h2,h3⟩:=h.wd.aG hW
    refine⟨B,d,h2,fun h0=>?_⟩
    obtain⟨g,o,rfl,_,_,hr⟩:=h3 (by rw[pS]at h0;exact h0)
    exact⟨_,rfl,fun j u hu=>by rw[Addr.add_lit];exact hr j u hu⟩
   ·obtain⟨l,_,rfl⟩:=List.mem_map.1 hu
    rfl
  have z0:QT gm gl m.cells (xs++ws) [] [⟨66,.dF gm m.cells⟩,⟨70,.jR gl [.own 3]⟩,Sx.an,⟨9,.own 1 (xs.length+ws.length) (strs xs++strs ws)⟩]:=⟨3,rfl,rfl,rfl,by rw[List.length_append,show strs (xs++ws)=strs xs++strs ws by simp[strs]];rfl⟩
  refine(Sx.aZ (args:=[.val (.int .u8 (ask:Int)),.val v,.ptr 0 0,.ptr 1 0]) hR [(10,.is (.bool true)),(13,.app ws.length (strs ws))] [] (by kernel_rfl) func84 rfl (cn rfl) rfl ?_).mono fun en w' hp=>qO.jh hp
  exact Eq.mp (by kernel_rfl) (Sx.t2 c10 c13 z0)
def qe(j k m:Nat)(mc:List Value)(ys:List Bs):Sx.cC:=⟨[0,1,j,k],[(0,⟨66,.ak mc⟩),(1,⟨70,.dK [.own m]⟩)],[j],[⟨9,.own 1 ys.length (strs ys)⟩],.val (.tuple #[]),none⟩
theorem lf{b:Sx.aU}{row:Nat→Option Sx.Row}{j k mm:Nat}{m:Mt}{xs:List Bs}(x y:Bs)(ask:Nat)(bt:Bool)(r0:row 0=some ⟨66,.ak m.cells⟩)(r1:row 1=some ⟨70,.dK [.own j]⟩)(rj:row j=some ⟨9,.own 1 xs.length (strs xs)⟩)(rk:row k=some ⟨9,.ak [ab x,ab y]⟩)
  (hj:1 < j) (hk:j < k) (_hm:k < mm) (hb:(bits .and .u8 (m.asks:Int) (ask:Int) !=0)=bt) (hl:xs.length≤1000) (W:World) (β:Sx.Env) (hS:Sx.eF b β W row [0,1,j,k]) :
  Calls prog 84 (([.val (.int .u8 (ask:Int)),.mP k 0 2 2,.ptr 0 0,.ptr 1 0]:List Sx.SV).map (Sx.SV.den β)).toArray W (Sx.aY b β W row mm (qe j k mm m.cells (xs++uj bt [x,y]))):=by
 have h0:au W (β 0) 66 m.cells:=hS.held 0 (by simp) _ r0
 have h1:au W (β 1) 70 [β.sl j]:=hS.held 1 (by simp) _ r1
 have h2:β.n j=xs.length∧Own W 9 1 (.slice (β.a j) xs.length (β.c j)) xs.length (strs xs):=hS.held j (by simp) _ rj
 have h3:au W (β k) 9 [ab x,ab y]:=hS.held k (by simp) _ rk
 have hb1:au W (β 1) 70 [.slice (β.a j) xs.length (β.c j)]:=by
  unfold Sx.Env.sl at h1
  rw[h2.1]at h1
  exact h1
 have nk:β k∉β 0::β 1::((β.a j).map (·.block)).toList:=fun hh=>by
  rcases List.mem_cons.1 hh with hh|hh
  ·have:=hS.inj k (by simp) 0 (by simp) _ _ (β k) rk r0 rfl (by show some (β 0)=_;rw[hh])
   omega
  rcases List.mem_cons.1 hh with hh|hh
  ·have:=hS.inj k (by simp) 1 (by simp) _ _ (β k) rk r1 rfl (by show some (β 1)=_;rw[hh])
   omega
  ·have:=hS.inj k (by simp) j (by simp) _ _ (β k) rk rj rfl (by show(β.a j).map (·.block)=some (β k);simpa using hh)
   omega
 have hH:QU W (β 0) (β 1) (β.a j) (β.c j) m xs [x,y] (.slice (some ⟨β k,0,none⟩) 2 2):=⟨h0,hb1,h2.2,⟨rfl,_,_,rfl,fun _=>⟨β k,0,rfl,nk,h3.lt,fun i u hu=>by
  have:=h3.cell_of (i:=i) (v:=u) hu
  simpa using this⟩⟩⟩
 show Calls prog 84 #[.int .u8 (ask:Int),.slice (some ⟨β k,0,none⟩) 2 2,.pointer (some ⟨β 0,0,none⟩),.pointer (some ⟨β 1,0,none⟩)] W _
 refine(PS ask bt hH hb (by simp only[List.length_cons,List.length_nil];omega)).mono fun en w' hp=>?_
 generalize xs++uj bt [x,y]=ys at hp
 obtain⟨A',c',he,b0,b1,ho,hc,hn⟩:=hp
 refine .inl ⟨fun p hp=>(by cases hp),OI β mm A' ys.length c',fun i hi=>⟨rfl,?_,?_,?_⟩,he,fun q hq=>?_,fun i r hr=>?_,fun i r x hr hx=>?_,fun i i' r r' x hr hr' _ _=>?_,hc.mono fun i hi=>.inl ?_⟩
 ·show β.a i=if i=mm then A' else β.a i
  rw[if_neg (by omega)]
 ·show β.n i=if i=mm then ys.length else β.n i
  rw[if_neg (by omega)]
 ·show β.c i=if i=mm then c' else β.c i
  rw[if_neg (by omega)]
 ·have hq:q=(0,⟨66,.ak m.cells⟩)∨q=(1,⟨70,.dK [.own mm]⟩):=by
   have:q∈[(0,(⟨66,.ak m.cells⟩:Sx.Row)),(1,⟨70,.dK [.own mm]⟩)]:=hq
   simpa using this
  rcases hq with rfl|rfl
  ·exact b0
  ·show au w' (β 1) 70 [.slice (if mm=mm then A' else β.a mm) (if mm=mm then ys.length else β.n mm) (if mm=mm then c' else β.c mm)]
   rw[if_pos rfl,if_pos rfl,if_pos rfl]
   exact b1
 ·match i,hr with
  | 0,hr=>
   cases hr
   show(if mm+0=mm then ys.length else β.n (mm+0))=ys.length∧Own w' 9 1 (.slice (if mm+0=mm then A' else β.a (mm+0)) ys.length (if mm+0=mm then c' else β.c (mm+0))) ys.length (strs ys)
   rw[Nat.add_zero,if_pos rfl,if_pos rfl,if_pos rfl]
   exact⟨rfl,ho⟩
 ·match i,hr with
  | 0,hr=>
   cases hr
   have hx:(if mm+0=mm then A' else β.a (mm+0)).map (·.block)=some x:=hx
   rw[Nat.add_zero,if_pos rfl]at hx
   rcases hn x hx with h1|h1
   ·refine .inl (List.mem_filterMap.2 ⟨j,by simp[qe],?_⟩)
    unfold Sx.cE
    rw[rj]
    exact h1
   ·exact .inr h1
 ·match i,i',hr,hr' with
  | 0,0,_,_=>rfl
 ·show i∈([0,1]++[j]).filterMap (Sx.cE β row)
  rcases List.mem_cons.1 hi with rfl|hi
  ·refine List.mem_filterMap.2 ⟨0,by simp,?_⟩
   unfold Sx.cE
   rw[r0];rfl
  rcases List.mem_cons.1 hi with rfl|hi
  ·refine List.mem_filterMap.2 ⟨1,by simp,?_⟩
   unfold Sx.cE
   rw[r1];rfl
  ·refine List.mem_filterMap.2 ⟨j,by simp,?_⟩
   unfold Sx.cE
   rw[rj]
   show(β.a j).map (·.block)=some i
   simpa using hi
set_option maxRecDepth 100000
open Go Go.RowKit Go.Lib Go.Sort _root_.Go.Proofs.Tryz
set_option maxRecDepth 100000
theorem vI:∀(k u:Nat),u < 10^(k+1)→(aj 10 u).length≤k+1
 | 0,u,h=>by rw[aW (by simpa using h)];exact Nat.le_refl _
 |k+1,u,h=>by
  by_cases hs:u < 10
  ·rw[aW hs];simp
  ·rw[dE (by omega) hs,List.length_append]
   have:=vI k (u / 10) (by rw[Nat.pow_succ]at h; omega)
   show _+1≤_
   omega
theorem dv(u:Nat)(h:u < 18446744073709551616):(aj 10 u).length≤20:=vI 19 u (by omega)
def vJ(k:Nat×Bs):Nat×Bs:=(k.1 / 10,sig (k.1%10)::k.2)
def DC(k:Nat×Bs):List (Nat×Sx.SV):=[(0,.val (.int .u64 (k.1:Int))),(3,.val (ab k.2))]
def Si(D:Bs)(k:Nat×Bs):Prop:=k.1 < 18446744073709551616∧D.length≤20∧aj 10 k.1++k.2=D
theorem PA:∀d:Fin 10,(sig d.val).toNat=48+d.val:=by decide
theorem Pt{a:Int}(h0:0≤a)(h1:a≤18446744073709551615):IntKind.u64.wrap a=a:=IntWalk.u64_in _ ⟨h0,h1⟩
theorem PB:∀d:Fin 10,Value.int .u8 (IntKind.u8.wrap ((48+d.val:Nat):Int))=u8 (sig d.val):=fun d=>by
 have h:=PA d
 have h2:=d.isLt
 unfold u8
 rw[h,IntWalk.u8_in _ ⟨by omega,by omega⟩]
theorem Sh(D:Bs)(w:World)(k:Nat×Bs)(hk:Si D k):∃H' L',Sx.ex prog 17 w (Sx.aQ f80 0) H' L' ⟨DC k,[]⟩
  (Sx.dR (Si D) DC (fun _=>[]) vJ (fun k=>k.1) (fun(_:Unit)=>False) (fun _=>[]) (fun _=>[]) (fun _=>()) (Sx.dM (Sx.aQ f80 0) - 1) (Sx.atEnd prog f80 (fun v=>v=ab D) .ret) k):=by
 obtain⟨u,s⟩:=k
 obtain⟨hu,hD,he⟩:=hk
 have hu:u < 18446744073709551616:=hu
 have hm:u%10 < 10:=Nat.mod_lt _ (by omega)
 have he:aj 10 u++s=D:=he
 have c5:Value.int .u64 ((u:Int).tmod 10)=.int .u64 ((u%10:Nat):Int):=rfl
 have c6:Value.int .u64 (IntKind.u64.wrap (48+((u%10:Nat):Int)))=.int .u64 ((48+u%10:Nat):Int):=by rw[Pt (by omega) (by omega)];rfl
 have c7:Value.int .u8 (IntKind.u8.wrap ((48+u%10:Nat):Int))=u8 (sig (u%10)):=PB ⟨u%10,hm⟩
 have c13:Value.int .u64 (IntKind.u64.wrap ((u:Int).tdiv 10))=.int .u64 ((u / 10:Nat):Int):=by rw[show(u:Int).tdiv 10=((u / 10:Nat):Int)from rfl,Pt (by omega) (by omega)]
 have c15:Value.bool (((u / 10:Nat):Int)==0)=.bool (decide (u / 10=0)):=by congr 1; rw[Bool.eq_iff_iff]; simp only[beq_iff_eq,decide_eq_true_eq]; omega
 have hs:s.length+1≤20:=by rw[←he,List.length_append]at hD;have:=List.length_pos_iff.2 (ml (b:=10) u);omega
 have c9:True∧1=1∧[u8 (sig (u%10))]=[u8 (sig (u%10))]:=⟨trivial,rfl,rfl⟩
 have oA:=fun W=>bq (.tmp 9) (.tmp 10) [sig (u%10)] s (by show 1+s.length≤_;omega) W
 have z1:u / 10=0→ab (sig (u%10)::s)=ab D:=fun h=>by rw[←he,aW (by omega),show u%10=u by omega]; rfl
 have h2:¬u / 10=0→Si D (vJ (u,s)):=fun h=>⟨by show u / 10 < _; omega,hD,by rw[←he,dE (b:=10) (u:=u) (by omega) (by omega),List.append_assoc]; rfl⟩
 have h3:¬u / 10=0→u / 10 < u:=fun h=>by omega
 refine⟨[(5,.is (.int .u64 ((u%10:Nat):Int))),(6,.is (.int .u64 ((48+u%10:Nat):Int))),(7,.is (u8 (sig (u%10)))),(9,.is (ab [sig (u%10)])),(11,.bin (ab (sig (u%10)::s))),(13,.is (.int .u64 ((u / 10:Nat):Int))),(15,.is (.bool (decide (u / 10=0))))],[],?_⟩
 by_cases hz:u / 10=0
 ·have z0:=z1 hz
  rw[decide_eq_true hz]at c15 ⊢
  exact Eq.mp (by kernel_rfl) (Sx.t4 c5 c6 c7 c9 (Sx.t2 oA c13 (And.intro c15 z0)))
 ·have h0:=h2 hz
  have h1:=h3 hz
  have h2:DC (vJ (u,s))=DC (vJ (u,s)):=rfl
  have z3:([]:List Sx.Row)=[]:=rfl
  rw[decide_eq_false hz]at c15 ⊢
  exact Eq.mp (by kernel_rfl) (Sx.t8 c5 c6 c7 c9 oA c13 c15 h0 (Sx.t2 h1 h2 z3))
theorem jM(u:Nat)(hu:u < 18446744073709551616)(w:World):Calls prog 80 #[.int .u64 (u:Int)] w (Rn w (ab (aj 10 u))):=by
 have h0:Si (aj 10 u) (u,[]):=⟨hu,dv u hu,List.append_nil _⟩
 have e1:DC (u,[])=DC (u,[])∧([]:List Sx.Row)=[]:=⟨rfl,rfl⟩
 have z3:True:=trivial
 have jo:=Sh (aj 10 u) w
 refine Sx.aF (args:=[.int .u64 (u:Int)]) [] [.fin (Nat×Bs) (u,[]) (Si (aj 10 u)) DC (fun _=>[]) vJ (fun k=>k.1)] (by kernel_rfl) func80 rfl (cn rfl) ?_
 exact Eq.mp (by kernel_rfl) (Sx.t2 h0 e1 (And.intro jo z3))
theorem Kw(u:Nat)(h:u < 18446744073709551616):Value.int .u64 (IntKind.u64.wrap (u:Int))=.int .u64 (u:Int):=by rw[Pt (by omega) (by omega)]
theorem yi(s:Nat×Nat)(h1:s.1≤65535)(h2:s.2≤65535)(w:World):Calls prog 149 #[iV s] w (Rn w (ab (dt s))):=by
 obtain⟨a,b⟩:=s
 have h1:a≤65535:=h1
 have h2:b≤65535:=h2
 have la:=fN a (by omega)
 have lb:=fN b (by omega)
 have c10:=Kw a (by omega)
 have c14:=c10
 have c19:=Kw b (by omega)
 have oA:=fun W (_:ai [] w W)=>jM a (by omega) W
 have c15:=oA
 have c20:=fun W (_:ai [] w W)=>jM b (by omega) W
 have ir:=fun W=>bq (.tmp 15) (.const (.string ⟨#[45]⟩)) (aj 10 a) [45] (by show _+1≤_;omega) W
 have c21:=fun W=>bq (.tmp 16) (.tmp 20) (aj 10 a++[45]) (aj 10 b) (by simp only[List.length_append,List.length_cons,List.length_nil];omega) W
 have c7:Value.bool ((a:Int)==(b:Int))=.bool (decide (a=b)):=by congr 1;rw[Bool.eq_iff_iff];simp only[beq_iff_eq,decide_eq_true_eq];omega
 have z0:ab (if a=b then aj 10 a else aj 10 a++[45]++aj 10 b)=ab (dt (a,b)):=by
  unfold dt
  split
  ·rfl
  ·rw[List.append_assoc];rfl
 by_cases hz:a=b
 ·rw[decide_eq_true hz]at c7
  rw[if_pos hz]at z0
  refine Sx.aF (args:=[iV (a,b)]) [(7,.is (.bool true)),(10,.is (.int .u64 (a:Int))),(11,.call (ab (aj 10 a)))] [] (by kernel_rfl) func149 rfl (cn rfl) ?_
  exact Eq.mp (by kernel_rfl) (Sx.t2 c7 c10 (And.intro oA z0))
 ·rw[decide_eq_false hz]at c7
  rw[if_neg hz]at z0
  refine Sx.aF (args:=[iV (a,b)]) [(7,.is (.bool false)),(14,.is (.int .u64 (a:Int))),(15,.call (ab (aj 10 a))),(16,.bin (ab (aj 10 a++[45]))),(19,.is (.int .u64 (b:Int))),(20,.call (ab (aj 10 b))),(21,.bin (ab (aj 10 a++[45]++aj 10 b)))] [] (by kernel_rfl) func149 rfl (cn rfl) ?_
  exact Eq.mp (by kernel_rfl) (Sx.t4 c7 c14 c15 ir (Sx.t2 c19 c20 (And.intro c21 z0)))
theorem IA(n:Nat)(h:n≤255)(w:World):Calls prog 150 #[.int .u8 (n:Int)] w (Rn w (ab (dc n))):=by
 have c4:∀b,decide (n=6)=b→Value.bool ((n:Int)==6)=.bool b:=fun b hb=>by rw[←hb];congr 1;rw[Bool.eq_iff_iff];simp only[beq_iff_eq,decide_eq_true_eq];omega
 have c6:∀b,decide (n=17)=b→Value.bool ((n:Int)==17)=.bool b:=fun b hb=>by rw[←hb];congr 1;rw[Bool.eq_iff_iff];simp only[beq_iff_eq,decide_eq_true_eq];omega
 have c8:=Kw n (by omega)
 have c9:=fun W (_:ai [] w W)=>jM n (by omega) W
 unfold dc
 by_cases h6:n=6
 ·have c4:=c4 true (decide_eq_true h6)
  rw[if_pos h6]
  have z0:Value.string ⟨#[116,99,112]⟩=ab pj:=rfl
  refine Sx.aF (args:=[.int .u8 (n:Int)]) [(4,.is (.bool true))] [] (by kernel_rfl) func150 rfl (cn rfl) ?_
  exact Eq.mp (by kernel_rfl) (And.intro c4 z0)
 by_cases h7:n=17
 ·have c4:=c4 false (decide_eq_false h6)
  have c6:=c6 true (decide_eq_true h7)
  rw[if_neg h6,if_pos h7]
  have z0:Value.string ⟨#[117,100,112]⟩=ab qu:=rfl
  refine Sx.aF (args:=[.int .u8 (n:Int)]) [(4,.is (.bool false)),(6,.is (.bool true))] [] (by kernel_rfl) func150 rfl (cn rfl) ?_
  exact Eq.mp (by kernel_rfl) (Sx.t2 c4 c6 z0)
 ·have c4:=c4 false (decide_eq_false h6)
  have c6:=c6 false (decide_eq_false h7)
  rw[if_neg h6,if_neg h7]
  have z0:ab (aj 10 n)=ab (aj 10 n):=rfl
  refine Sx.aF (args:=[.int .u8 (n:Int)]) [(4,.is (.bool false)),(6,.is (.bool false)),(8,.is (.int .u64 (n:Int))),(9,.call (ab (aj 10 n)))] [] (by kernel_rfl) func150 rfl (cn rfl) ?_
  exact Eq.mp (by kernel_rfl) (Sx.t4 c4 c6 c8 c9 z0)
def yV:List Bs:=[mb,fZ,gX,dB,eQ,gF]
theorem F4(w:World):Calls prog 151 #[] w (Sx.fU w (.sl 9 1 6 (strs yV))):=by
 have z0:Sx.j6.sl 9 1 6 (strs yV)=.sl 9 1 6 (strs yV):=rfl
 refine Sx.Ha (args:=[]) [(1,.iG 9 1)] [] (by kernel_rfl) func151 rfl (cn rfl) ?_
 exact Eq.mp (by kernel_rfl) z0
end Go.Proofs.YtnncigmpcdehnaaGreatDoor
