import Derived.Test.YtnncigmpcdehnaaGreatDoorQc23
namespace Go.Proofs.YtnncigmpcdehnaaGreatDoor
set_option maxRecDepth 100000
open Go.RowKit Go.Lib Go.Sort
noncomputable def bytesOf(t:Nat):Nat:=((Tryz.prog.types[t]?).map (·.bytes)).getD 0
theorem cq:bytesOf 3≤1000∧bytesOf 118≤1000∧bytesOf 81≤1000∧bytesOf 122≤1000∧bytesOf 124≤1000:=by decide+kernel
theorem gq{cells:List Value}{size len B:Nat}(hl:cells.length=1*size)(ha:cells.all (fun u=>u.oneCell')=true)(hn:len≤1000000)(hb:B≤1000) :
  True∧cells.length=1*size∧(∀u:Value,u∈cells→u.oneCell'=true)∧len+1≤maxLen∧(len+1)*B≤140737488355328:=
 ⟨trivial,hl,fun u hu=>List.all_eq_true.1 ha u hu,by unfold maxLen;omega,Nat.le_trans (Nat.mul_le_mul (show len+1≤1000001 by omega) hb) (by decide)⟩
def aX(cf:CF):List Sx.Row:=[⟨3,.own 1 cf.ag.length cf.cp⟩,⟨118,.own 19 cf.ae.length cf.cr⟩,⟨81,.own 49 cf.rules.length cf.cl⟩,⟨122,.own 4 cf.af.length cf.cm⟩,⟨124,.own 3 cf.aa.length cf.ci⟩]
theorem jg{ws:List Bs}{α:Type}{a:α}{i n:Nat}(hl:ws.length=n)(h:decide (i < n)=true):gy ws a i=.no 200 (i+1):=by unfold gy;rw[hl,h]
theorem k8{ws:List Bs}{α:Type}{a:α}{i n:Nat}(hl:ws.length=n)(h:decide (i < n)=false):gy ws a i=.ok a i:=by unfold gy;rw[hl,h]
abbrev mb(g gc gd:Nat)(A:Option Go.Addr)(n c:Nat)(cf:CF)(d i:Nat)(R:List Sx.Row):List Sx.Row:=⟨154,.cx g (cW A n c i)⟩::⟨46,.fW gc [.own 3,.own 4,.own 5,.own 6,.own 7,.val (.int .i64 cf.a8)]⟩::⟨3,.cx gd [.int .i64 (d:Int)]⟩::R
abbrev Ea(g gc gd:Nat):Array Value:=#[.pointer (some ⟨g,0,none⟩),.pointer (some ⟨gc,0,none⟩),.pointer (some ⟨gd,0,none⟩)]
theorem nC{a n:Nat}{b:Bool}(h:decide (a < n)=b):Value.bool (decide ((a:Int) < (n:Int)))=.bool b:=bz (by rw[←h];congr 1;exact propext (by omega))
theorem uR(w:World)(g:Nat)(S:List Nat)(A:Option Go.Addr)(n c:Nat){T:Out CF}(p:Nat)(fin:T=.no 200 (p+1))(W:World)(hW:ah S w W)(_:aq W g 154 (cW A n c p)):Calls Tryz.prog 94 #[.pointer (some ⟨g,0,none⟩),.int .i64 200,.int .i64 ((p:Int)+1)] W (Sx.ue ⟨w,S,jr T w⟩ W [.pointer (some ⟨g,0,none⟩),.int .i64 200,.int .i64 ((p:Int)+1)] (.DJ [(0,0)])):=jb (b:=⟨w,S,jr T w⟩) (vs:=[.pointer (some ⟨g,0,none⟩),.int .i64 200,.int .i64 ((p:Int)+1)]) (ps:=[(0,0)]) ((mg (.pointer (some ⟨g,0,none⟩)) 200 ((p:Int)+1) W).mono fun _ _ ⟨ch,he,hf,hc⟩=>⟨ch,he,(show jr T w _ _ from⟨200,p+1,fin,hf.up hW.size⟩),hc⟩)
section
variable{w:World}{g gc gd:Nat}{A:Option Go.Addr}{n c i:Nat}{ws:List Bs}{cf:CF}{d:Nat}{s:eJ}{T:Out CF}
theorem GR{r:Out Bs}{r2:Out Nat}(h:zO w g gc gd A n c i ws cf d s)
  (nc12:kq 154 g A n c i ws ab r)
  (noc12:fE r T)
  (k0:decide (r.val=bX)=true)
  (nc27:r.okB=true→kq 186 g A n c r.pos ws gx r2)
  (noc27:r.okB=true→fE r2 T)
  (fin:r.okB=true→r2.okB=true→T=gy ws ({ cf with ag:=cf.ag++[(r2.val:Int)] }:CF) r2.pos)
  (heb:decide (r2.pos < n)=true) :
  Calls Tryz.prog 131 (Ea g gc gd) w (ep g gc gd A n c T d (ns g gc gd s) w):=by
 have c12:=aS (T:=T) 0 (mb g gc gd A n c cf d i (aX cf++[])) [] h.dS h.dS.le (noc12 ) rfl (nc12 )
 have c20f:=fun(_:RP r n)=>fun W=>av (.tmp 12) (.const (ab bX)) r.val bX true k0 W
 have c27f:=fun(hp0:RP r n)=>aS (T:=T) 0 (mb g gc gd A n c cf d r.pos (aX cf++[])) [] h.dS hp0.2 (noc27 hp0.1) rfl (nc27 hp0.1)
 have c29f:=fun(_:RP r n) (_:RP r2 n)=>gq (cells:=[gx r2.val]) (size:=1) (B:=bytesOf 3) (by kernel_rfl) (by kernel_rfl) h.qF.1 cq.1
 have c145f:=fun(_:RP r n) (_:RP r2 n)=>nC heb
 have c151f:=fun(hp0:RP r n) (hp1:RP r2 n)=>(show Value.int .i64 (IntKind.i64.wrap ((r2.pos:Int)+1))=.int .i64 ((r2.pos:Int)+1)from iw (jR (by omega) (by have:=hp1.2;have:=h.dS.bd;omega)))
 have c152f:=fun(hp0:RP r n) (hp1:RP r2 n)=>uR w g (ns g gc gd s) A n c r2.pos ((fin hp0.1 hp1.1).trans (jg h.dS.kt.len heb))
 have z2f:=fun(_:RP r n) (_:RP r2 n)=>trivial
 have z4f:=fun(_:RP r n) (_:¬(RP r2 n))=>trivial
 refine fm h [(12,.ai (cB 0 g A n c r ab)),(20,.bin (.bool true)),(27,.ai (cB 0 g A n c r2 gx)),(145,.is (.bool true)),(151,.is (.int .i64 ((r2.pos:Int)+1))),(152,.jk)] [] (by kernel_rfl) Tryz.func131 rfl (Nat.le_of_ble_eq_true rfl) ?_
 exact Eq.mp (by kernel_rfl) (And.intro c12 (fun(hx0:r.okB=true∧r.pos≤n)=>(Sx.t2 (c20f hx0) (c27f hx0) (And.intro (fun(hx1:r2.okB=true∧r2.pos≤n)=>(Sx.t4 (c29f hx0 hx1) (c145f hx0 hx1) (c151f hx0 hx1) (c152f hx0 hx1) (z2f hx0 hx1))) (fun(hx3:¬(r2.okB=true∧r2.pos≤n))=>(z4f hx0 hx3))))))
theorem GS{r:Out Bs}{r2:Out Nat}(h:zO w g gc gd A n c i ws cf d s)
  (nc12:kq 154 g A n c i ws ab r)
  (noc12:fE r T)
  (k0:decide (r.val=bX)=true)
  (nc27:r.okB=true→kq 186 g A n c r.pos ws gx r2)
  (noc27:r.okB=true→fE r2 T)
  (fin:r.okB=true→r2.okB=true→T=gy ws ({ cf with ag:=cf.ag++[(r2.val:Int)] }:CF) r2.pos)
  (heb:decide (r2.pos < n)=false) :
  Calls Tryz.prog 131 (Ea g gc gd) w (ep g gc gd A n c T d (ns g gc gd s) w):=by
 have c12:=aS (T:=T) 0 (mb g gc gd A n c cf d i (aX cf++[])) [] h.dS h.dS.le (noc12 ) rfl (nc12 )
 have c20f:=fun(_:RP r n)=>fun W=>av (.tmp 12) (.const (ab bX)) r.val bX true k0 W
 have c27f:=fun(hp0:RP r n)=>aS (T:=T) 0 (mb g gc gd A n c cf d r.pos (aX cf++[])) [] h.dS hp0.2 (noc27 hp0.1) rfl (nc27 hp0.1)
 have c29f:=fun(_:RP r n) (_:RP r2 n)=>gq (cells:=[gx r2.val]) (size:=1) (B:=bytesOf 3) (by kernel_rfl) (by kernel_rfl) h.qF.1 cq.1
 have c145f:=fun(_:RP r n) (_:RP r2 n)=>nC heb
 have z2f:=fun(hp0:RP r n) (hp1:RP r2 n)=>(show LU g gc gd A n c T d [] (⟨154,.cx g (cW A n c r2.pos)⟩::⟨46,.fW gc [.own 9,.own 4,.own 5,.own 6,.own 7,.val (.int .i64 cf.a8)]⟩::⟨3,.cx gd [.int .i64 (d:Int)]⟩::([Sx.al,⟨118,.own 19 cf.ae.length cf.cr⟩,⟨81,.own 49 cf.rules.length cf.cl⟩,⟨122,.own 4 cf.af.length cf.cm⟩,⟨124,.own 3 cf.aa.length cf.ci⟩]++[⟨3,.aj [gx r2.val]⟩,⟨3,.own 1 (cf.ag.length+1) (cf.cp++[gx r2.val])⟩]))from⟨({ cf with ag:=cf.ag++[(r2.val:Int)] }:CF),r2.pos,9,4,5,6,7,(fin hp0.1 hp1.1).trans (k8 h.dS.kt.len heb),hp1.2,rfl,rfl,rfl,rfl,(show some (⟨3,.own 1 (cf.ag.length+1) (cf.cp++[gx r2.val])⟩:Sx.Row)=some ⟨3,.own 1 ({ cf with ag:=cf.ag++[(r2.val:Int)] }:CF).ag.length ({ cf with ag:=cf.ag++[(r2.val:Int)] }:CF).cp⟩from by simp[CF.cp,gx]),rfl,rfl,rfl,rfl⟩)
 have z4f:=fun(_:RP r n) (_:¬(RP r2 n))=>trivial
 refine fm h [(12,.ai (cB 0 g A n c r ab)),(20,.bin (.bool true)),(27,.ai (cB 0 g A n c r2 gx)),(145,.is (.bool false))] [] (by kernel_rfl) Tryz.func131 rfl (Nat.le_of_ble_eq_true rfl) ?_
 exact Eq.mp (by kernel_rfl) (And.intro c12 (fun(hx0:r.okB=true∧r.pos≤n)=>(Sx.t2 (c20f hx0) (c27f hx0) (And.intro (fun(hx1:r2.okB=true∧r2.pos≤n)=>(Sx.t2 (c29f hx0 hx1) (c145f hx0 hx1) (z2f hx0 hx1))) (fun(hx3:¬(r2.okB=true∧r2.pos≤n))=>(z4f hx0 hx3))))))
theorem D6{r:Out Bs}{r2:Out Px}{r3:Out Nat}(h:zO w g gc gd A n c i ws cf d s)
  (nc12:kq 154 g A n c i ws ab r)
  (noc12:fE r T)
  (k0:decide (r.val=bX)=false)
  (k1:decide (r.val=aT)=true)
  (nc35:r.okB=true→kq 187 g A n c r.pos ws pH r2)
  (noc35:r.okB=true→fE r2 T)
  (nc43:r.okB=true→r2.okB=true→kq 186 g A n c r2.pos ws gx r3)
  (noc43:r.okB=true→r2.okB=true→fE r3 T)
  (fin:r.okB=true→r2.okB=true→r3.okB=true→T=gy ws ({ cf with ae:=cf.ae++[⟨r2.val,(r3.val:Int)⟩] }:CF) r3.pos)
  (heb:decide (r3.pos < n)=true) :
  Calls Tryz.prog 131 (Ea g gc gd) w (ep g gc gd A n c T d (ns g gc gd s) w):=by
 have c12:=aS (T:=T) 0 (mb g gc gd A n c cf d i (aX cf++[])) [] h.dS h.dS.le (noc12 ) rfl (nc12 )
 have c20f:=fun(_:RP r n)=>fun W=>av (.tmp 12) (.const (ab bX)) r.val bX false k0 W
 have c33f:=fun(_:RP r n)=>fun W=>av (.tmp 12) (.const (ab aT)) r.val aT true k1 W
 have c35f:=fun(hp0:RP r n)=>aS (T:=T) 0 (mb g gc gd A n c cf d r.pos (aX cf++[])) [] h.dS hp0.2 (noc35 hp0.1) rfl (nc35 hp0.1)
 have c43f:=fun(hp0:RP r n) (hp1:RP r2 n)=>aS (T:=T) 0 (mb g gc gd A n c cf d r2.pos (aX cf++[⟨29,.aj r2.val.cells⟩])) [] h.dS hp1.2 (noc43 hp0.1 hp1.1) rfl (nc43 hp0.1 hp1.1)
 have c46f:=fun(_:RP r n) (_:RP r2 n) (_:RP r3 n)=>gq (cells:=(Rt.cells ⟨r2.val,(r3.val:Int)⟩)) (size:=19) (B:=bytesOf 118) (by kernel_rfl) (by kernel_rfl) h.qF.2.1 cq.2.1
 have c145f:=fun(_:RP r n) (_:RP r2 n) (_:RP r3 n)=>nC heb
 have c151f:=fun(hp0:RP r n) (hp1:RP r2 n) (hp2:RP r3 n)=>(show Value.int .i64 (IntKind.i64.wrap ((r3.pos:Int)+1))=.int .i64 ((r3.pos:Int)+1)from iw (jR (by omega) (by have:=hp2.2;have:=h.dS.bd;omega)))
 have c152f:=fun(hp0:RP r n) (hp1:RP r2 n) (hp2:RP r3 n)=>uR w g (ns g gc gd s) A n c r3.pos ((fin hp0.1 hp1.1 hp2.1).trans (jg h.dS.kt.len heb))
 have z3f:=fun(_:RP r n) (_:RP r2 n) (_:RP r3 n)=>trivial
 have z5f:=fun(_:RP r n) (_:RP r2 n) (_:¬(RP r3 n))=>trivial
 refine fm h [(12,.ai (cB 0 g A n c r ab)),(20,.bin (.bool false)),(33,.bin (.bool true)),(35,.ai (cB 0 g A n c r2 pH)),(43,.ai (cB 0 g A n c r3 gx)),(145,.is (.bool true)),(151,.is (.int .i64 ((r3.pos:Int)+1))),(152,.jk)] [] (by kernel_rfl) Tryz.func131 rfl (Nat.le_of_ble_eq_true rfl) ?_
 exact Eq.mp (by kernel_rfl) (And.intro c12 (fun(hx0:r.okB=true∧r.pos≤n)=>(Sx.t2 (c20f hx0) (c33f hx0) (And.intro (c35f hx0) (fun(hx1:r2.okB=true∧r2.pos≤n)=>(Sx.t2 (c43f hx0 hx1) (fun(hx2:r3.okB=true∧r3.pos≤n)=>(Sx.t4 (c46f hx0 hx1 hx2) (c145f hx0 hx1 hx2) (c151f hx0 hx1 hx2) (c152f hx0 hx1 hx2) (z3f hx0 hx1 hx2))) (fun(hx4:¬(r3.okB=true∧r3.pos≤n))=>(z5f hx0 hx1 hx4))))))))
theorem D7{r:Out Bs}{r2:Out Px}{r3:Out Nat}(h:zO w g gc gd A n c i ws cf d s)
  (nc12:kq 154 g A n c i ws ab r)
  (noc12:fE r T)
  (k0:decide (r.val=bX)=false)
  (k1:decide (r.val=aT)=true)
  (nc35:r.okB=true→kq 187 g A n c r.pos ws pH r2)
  (noc35:r.okB=true→fE r2 T)
  (nc43:r.okB=true→r2.okB=true→kq 186 g A n c r2.pos ws gx r3)
  (noc43:r.okB=true→r2.okB=true→fE r3 T)
  (fin:r.okB=true→r2.okB=true→r3.okB=true→T=gy ws ({ cf with ae:=cf.ae++[⟨r2.val,(r3.val:Int)⟩] }:CF) r3.pos)
  (heb:decide (r3.pos < n)=false) :
  Calls Tryz.prog 131 (Ea g gc gd) w (ep g gc gd A n c T d (ns g gc gd s) w):=by
 have c12:=aS (T:=T) 0 (mb g gc gd A n c cf d i (aX cf++[])) [] h.dS h.dS.le (noc12 ) rfl (nc12 )
 have c20f:=fun(_:RP r n)=>fun W=>av (.tmp 12) (.const (ab bX)) r.val bX false k0 W
 have c33f:=fun(_:RP r n)=>fun W=>av (.tmp 12) (.const (ab aT)) r.val aT true k1 W
 have c35f:=fun(hp0:RP r n)=>aS (T:=T) 0 (mb g gc gd A n c cf d r.pos (aX cf++[])) [] h.dS hp0.2 (noc35 hp0.1) rfl (nc35 hp0.1)
 have c43f:=fun(hp0:RP r n) (hp1:RP r2 n)=>aS (T:=T) 0 (mb g gc gd A n c cf d r2.pos (aX cf++[⟨29,.aj r2.val.cells⟩])) [] h.dS hp1.2 (noc43 hp0.1 hp1.1) rfl (nc43 hp0.1 hp1.1)
 have c46f:=fun(_:RP r n) (_:RP r2 n) (_:RP r3 n)=>gq (cells:=(Rt.cells ⟨r2.val,(r3.val:Int)⟩)) (size:=19) (B:=bytesOf 118) (by kernel_rfl) (by kernel_rfl) h.qF.2.1 cq.2.1
 have c145f:=fun(_:RP r n) (_:RP r2 n) (_:RP r3 n)=>nC heb
 have z3f:=fun(hp0:RP r n) (hp1:RP r2 n) (hp2:RP r3 n)=>(show LU g gc gd A n c T d [] (⟨154,.cx g (cW A n c r3.pos)⟩::⟨46,.fW gc [.own 3,.own 10,.own 5,.own 6,.own 7,.val (.int .i64 cf.a8)]⟩::⟨3,.cx gd [.int .i64 (d:Int)]⟩::([⟨3,.own 1 cf.ag.length cf.cp⟩,Sx.al,⟨81,.own 49 cf.rules.length cf.cl⟩,⟨122,.own 4 cf.af.length cf.cm⟩,⟨124,.own 3 cf.aa.length cf.ci⟩]++[⟨29,.aj r2.val.cells⟩,⟨118,.aj (Rt.cells ⟨r2.val,(r3.val:Int)⟩)⟩,⟨118,.own 19 (cf.ae.length+1) (cf.cr++(Rt.cells ⟨r2.val,(r3.val:Int)⟩))⟩]))from⟨({ cf with ae:=cf.ae++[⟨r2.val,(r3.val:Int)⟩] }:CF),r3.pos,3,10,5,6,7,(fin hp0.1 hp1.1 hp2.1).trans (k8 h.dS.kt.len heb),hp2.2,rfl,rfl,rfl,rfl,rfl,(show some (⟨118,.own 19 (cf.ae.length+1) (cf.cr++(Rt.cells ⟨r2.val,(r3.val:Int)⟩))⟩:Sx.Row)=some ⟨118,.own 19 ({ cf with ae:=cf.ae++[⟨r2.val,(r3.val:Int)⟩] }:CF).ae.length ({ cf with ae:=cf.ae++[⟨r2.val,(r3.val:Int)⟩] }:CF).cr⟩from by simp[CF.cr]),rfl,rfl,rfl⟩)
 have z5f:=fun(_:RP r n) (_:RP r2 n) (_:¬(RP r3 n))=>trivial
 refine fm h [(12,.ai (cB 0 g A n c r ab)),(20,.bin (.bool false)),(33,.bin (.bool true)),(35,.ai (cB 0 g A n c r2 pH)),(43,.ai (cB 0 g A n c r3 gx)),(145,.is (.bool false))] [] (by kernel_rfl) Tryz.func131 rfl (Nat.le_of_ble_eq_true rfl) ?_
 exact Eq.mp (by kernel_rfl) (And.intro c12 (fun(hx0:r.okB=true∧r.pos≤n)=>(Sx.t2 (c20f hx0) (c33f hx0) (And.intro (c35f hx0) (fun(hx1:r2.okB=true∧r2.pos≤n)=>(Sx.t2 (c43f hx0 hx1) (fun(hx2:r3.okB=true∧r3.pos≤n)=>(Sx.t2 (c46f hx0 hx1 hx2) (c145f hx0 hx1 hx2) (z3f hx0 hx1 hx2))) (fun(hx4:¬(r3.okB=true∧r3.pos≤n))=>(z5f hx0 hx1 hx4))))))))
theorem D8{r:Out Bs}{r2:Out Bs}{r3:Out Nat}{r4:Out Nat}{r5:Out Nat}(h:zO w g gc gd A n c i ws cf d s)
  (nc12:kq 154 g A n c i ws ab r)
  (noc12:fE r T)
  (k0:decide (r.val=bX)=false)
  (k1:decide (r.val=aT)=false)
  (k2:decide (r.val=aH)=true)
  (nc52:r.okB=true→kq 188 g A n c r.pos ws ab r2)
  (noc52:r.okB=true→fE r2 T)
  (nc68x:r.okB=true→r2.okB=true→∀W,dw W g A n c r2.pos ws→Calls Tryz.prog 189 (.pointer (some ⟨g,0,none⟩)::[.int .u64 ((18446744073709551615:Nat):Int)]).toArray W (aO g A n c gu r3 W))
  (noc68x:r.okB=true→r2.okB=true→fE r3 T)
  (nc68_2:r.okB=true→r2.okB=true→r3.okB=true→∀W,dw W g A n c r3.pos ws→Calls Tryz.prog 189 (.pointer (some ⟨g,0,none⟩)::[.int .u64 ((18446744073709551615:Nat):Int)]).toArray W (aO g A n c gu r4 W))
  (noc68_2:r.okB=true→r2.okB=true→r3.okB=true→fE r4 T)
  (nc68_3:r.okB=true→r2.okB=true→r3.okB=true→r4.okB=true→∀W,dw W g A n c r4.pos ws→Calls Tryz.prog 189 (.pointer (some ⟨g,0,none⟩)::[.int .u64 ((18446744073709551615:Nat):Int)]).toArray W (aO g A n c gu r5 W))
  (noc68_3:r.okB=true→r2.okB=true→r3.okB=true→r4.okB=true→fE r5 T)
  (fin:r.okB=true→r2.okB=true→r3.okB=true→r4.okB=true→r5.okB=true→T=gy ws ({ cf with af:=cf.af++[⟨r2.val,r3.val,r4.val,r5.val⟩] }:CF) r5.pos)
  (heb:decide (r5.pos < n)=true) :
  Calls Tryz.prog 131 (Ea g gc gd) w (ep g gc gd A n c T d (ns g gc gd s) w):=by
 have c12:=aS (T:=T) 0 (mb g gc gd A n c cf d i (aX cf++[])) [] h.dS h.dS.le (noc12 ) rfl (nc12 )
 have c20f:=fun(_:RP r n)=>fun W=>av (.tmp 12) (.const (ab bX)) r.val bX false k0 W
 have c33f:=fun(_:RP r n)=>fun W=>av (.tmp 12) (.const (ab aT)) r.val aT false k1 W
 have c50f:=fun(_:RP r n)=>fun W=>av (.tmp 12) (.const (ab aH)) r.val aH true k2 W
 have c52f:=fun(hp0:RP r n)=>aS (T:=T) 0 (mb g gc gd A n c cf d r.pos (aX cf++[])) [] h.dS hp0.2 (noc52 hp0.1) rfl (nc52 hp0.1)
 have c68f:=fun(hp0:RP r n) (hp1:RP r2 n)=>aS (T:=T) 0 (mb g gc gd A n c cf d r2.pos (aX cf++[⟨122,.aj (Me.cells ⟨r2.val,0,0,0⟩)⟩,⟨253,.dm [.ptr 8 1,.ptr 8 2,.ptr 8 3]⟩])) [.int .u64 ((18446744073709551615:Nat):Int)] h.dS hp1.2 (noc68x hp0.1 hp1.1) rfl (nc68x hp0.1 hp1.1)
 have c68_2f:=fun(hp0:RP r n) (hp1:RP r2 n) (hp2:RP r3 n)=>aS (T:=T) 0 (mb g gc gd A n c cf d r3.pos (aX cf++[⟨122,.aj (Me.cells ⟨r2.val,r3.val,0,0⟩)⟩,⟨253,.dm [.ptr 8 1,.ptr 8 2,.ptr 8 3]⟩])) [.int .u64 ((18446744073709551615:Nat):Int)] h.dS hp2.2 (noc68_2 hp0.1 hp1.1 hp2.1) rfl (nc68_2 hp0.1 hp1.1 hp2.1)
 have c68_3f:=fun(hp0:RP r n) (hp1:RP r2 n) (hp2:RP r3 n) (hp3:RP r4 n)=>aS (T:=T) 0 (mb g gc gd A n c cf d r4.pos (aX cf++[⟨122,.aj (Me.cells ⟨r2.val,r3.val,r4.val,0⟩)⟩,⟨253,.dm [.ptr 8 1,.ptr 8 2,.ptr 8 3]⟩])) [.int .u64 ((18446744073709551615:Nat):Int)] h.dS hp3.2 (noc68_3 hp0.1 hp1.1 hp2.1 hp3.1) rfl (nc68_3 hp0.1 hp1.1 hp2.1 hp3.1)
 have c78f:=fun(_:RP r n) (_:RP r2 n) (_:RP r3 n) (_:RP r4 n) (_:RP r5 n)=>gq (cells:=(Me.cells ⟨r2.val,r3.val,r4.val,r5.val⟩)) (size:=4) (B:=bytesOf 122) (by kernel_rfl) (by kernel_rfl) h.qF.2.2.2.1 cq.2.2.2.1
 have c145f:=fun(_:RP r n) (_:RP r2 n) (_:RP r3 n) (_:RP r4 n) (_:RP r5 n)=>nC heb
 have c151f:=fun(hp0:RP r n) (hp1:RP r2 n) (hp2:RP r3 n) (hp3:RP r4 n) (hp4:RP r5 n)=>(show Value.int .i64 (IntKind.i64.wrap ((r5.pos:Int)+1))=.int .i64 ((r5.pos:Int)+1)from iw (jR (by omega) (by have:=hp4.2;have:=h.dS.bd;omega)))
 have c152f:=fun(hp0:RP r n) (hp1:RP r2 n) (hp2:RP r3 n) (hp3:RP r4 n) (hp4:RP r5 n)=>uR w g (ns g gc gd s) A n c r5.pos ((fin hp0.1 hp1.1 hp2.1 hp3.1 hp4.1).trans (jg h.dS.kt.len heb))
 have z5f:=fun(_:RP r n) (_:RP r2 n) (_:RP r3 n) (_:RP r4 n) (_:RP r5 n)=>trivial
 refine fm h [(12,.ai (cB 0 g A n c r ab)),(20,.bin (.bool false)),(33,.bin (.bool false)),(50,.bin (.bool true)),(52,.ai (cB 0 g A n c r2 ab)),(145,.is (.bool true)),(151,.is (.int .i64 ((r5.pos:Int)+1))),(152,.jk)] [.times [[(68,.ai (cB 0 g A n c r3 gu))],[(68,.ai (cB 0 g A n c r4 gu))],[(68,.ai (cB 0 g A n c r5 gu))],[]]] (by kernel_rfl) Tryz.func131 rfl (Nat.le_of_ble_eq_true rfl) ?_
 exact Eq.mp (by kernel_rfl) (And.intro c12 (fun(hx0:r.okB=true∧r.pos≤n)=>(Sx.t4 (c20f hx0) (c33f hx0) (c50f hx0) (c52f hx0) (fun(hx1:r2.okB=true∧r2.pos≤n)=>(And.intro (c68f hx0 hx1) (fun(hx2:r3.okB=true∧r3.pos≤n)=>(And.intro (c68_2f hx0 hx1 hx2) (fun(hx3:r4.okB=true∧r4.pos≤n)=>(And.intro (c68_3f hx0 hx1 hx2 hx3) (fun(hx4:r5.okB=true∧r5.pos≤n)=>(Sx.t4 (c78f hx0 hx1 hx2 hx3 hx4) (c145f hx0 hx1 hx2 hx3 hx4) (c151f hx0 hx1 hx2 hx3 hx4) (c152f hx0 hx1 hx2 hx3 hx4) (z5f hx0 hx1 hx2 hx3 hx4))))))))))))
theorem D9{r:Out Bs}{r2:Out Bs}{r3:Out Nat}{r4:Out Nat}{r5:Out Nat}(h:zO w g gc gd A n c i ws cf d s)
  (nc12:kq 154 g A n c i ws ab r)
  (noc12:fE r T)
  (k0:decide (r.val=bX)=false)
  (k1:decide (r.val=aT)=false)
  (k2:decide (r.val=aH)=true)
  (nc52:r.okB=true→kq 188 g A n c r.pos ws ab r2)
  (noc52:r.okB=true→fE r2 T)
  (nc68x:r.okB=true→r2.okB=true→∀W,dw W g A n c r2.pos ws→Calls Tryz.prog 189 (.pointer (some ⟨g,0,none⟩)::[.int .u64 ((18446744073709551615:Nat):Int)]).toArray W (aO g A n c gu r3 W))
  (noc68x:r.okB=true→r2.okB=true→fE r3 T)
  (nc68_2:r.okB=true→r2.okB=true→r3.okB=true→∀W,dw W g A n c r3.pos ws→Calls Tryz.prog 189 (.pointer (some ⟨g,0,none⟩)::[.int .u64 ((18446744073709551615:Nat):Int)]).toArray W (aO g A n c gu r4 W))
  (noc68_2:r.okB=true→r2.okB=true→r3.okB=true→fE r4 T)
  (nc68_3:r.okB=true→r2.okB=true→r3.okB=true→r4.okB=true→∀W,dw W g A n c r4.pos ws→Calls Tryz.prog 189 (.pointer (some ⟨g,0,none⟩)::[.int .u64 ((18446744073709551615:Nat):Int)]).toArray W (aO g A n c gu r5 W))
  (noc68_3:r.okB=true→r2.okB=true→r3.okB=true→r4.okB=true→fE r5 T)
  (fin:r.okB=true→r2.okB=true→r3.okB=true→r4.okB=true→r5.okB=true→T=gy ws ({ cf with af:=cf.af++[⟨r2.val,r3.val,r4.val,r5.val⟩] }:CF) r5.pos)
  (heb:decide (r5.pos < n)=false) :
  Calls Tryz.prog 131 (Ea g gc gd) w (ep g gc gd A n c T d (ns g gc gd s) w):=by
 have c12:=aS (T:=T) 0 (mb g gc gd A n c cf d i (aX cf++[])) [] h.dS h.dS.le (noc12 ) rfl (nc12 )
 have c20f:=fun(_:RP r n)=>fun W=>av (.tmp 12) (.const (ab bX)) r.val bX false k0 W
 have c33f:=fun(_:RP r n)=>fun W=>av (.tmp 12) (.const (ab aT)) r.val aT false k1 W
 have c50f:=fun(_:RP r n)=>fun W=>av (.tmp 12) (.const (ab aH)) r.val aH true k2 W
 have c52f:=fun(hp0:RP r n)=>aS (T:=T) 0 (mb g gc gd A n c cf d r.pos (aX cf++[])) [] h.dS hp0.2 (noc52 hp0.1) rfl (nc52 hp0.1)
 have c68f:=fun(hp0:RP r n) (hp1:RP r2 n)=>aS (T:=T) 0 (mb g gc gd A n c cf d r2.pos (aX cf++[⟨122,.aj (Me.cells ⟨r2.val,0,0,0⟩)⟩,⟨253,.dm [.ptr 8 1,.ptr 8 2,.ptr 8 3]⟩])) [.int .u64 ((18446744073709551615:Nat):Int)] h.dS hp1.2 (noc68x hp0.1 hp1.1) rfl (nc68x hp0.1 hp1.1)
 have c68_2f:=fun(hp0:RP r n) (hp1:RP r2 n) (hp2:RP r3 n)=>aS (T:=T) 0 (mb g gc gd A n c cf d r3.pos (aX cf++[⟨122,.aj (Me.cells ⟨r2.val,r3.val,0,0⟩)⟩,⟨253,.dm [.ptr 8 1,.ptr 8 2,.ptr 8 3]⟩])) [.int .u64 ((18446744073709551615:Nat):Int)] h.dS hp2.2 (noc68_2 hp0.1 hp1.1 hp2.1) rfl (nc68_2 hp0.1 hp1.1 hp2.1)
 have c68_3f:=fun(hp0:RP r n) (hp1:RP r2 n) (hp2:RP r3 n) (hp3:RP r4 n)=>aS (T:=T) 0 (mb g gc gd A n c cf d r4.pos (aX cf++[⟨122,.aj (Me.cells ⟨r2.val,r3.val,r4.val,0⟩)⟩,⟨253,.dm [.ptr 8 1,.ptr 8 2,.ptr 8 3]⟩])) [.int .u64 ((18446744073709551615:Nat):Int)] h.dS hp3.2 (noc68_3 hp0.1 hp1.1 hp2.1 hp3.1) rfl (nc68_3 hp0.1 hp1.1 hp2.1 hp3.1)
 have c78f:=fun(_:RP r n) (_:RP r2 n) (_:RP r3 n) (_:RP r4 n) (_:RP r5 n)=>gq (cells:=(Me.cells ⟨r2.val,r3.val,r4.val,r5.val⟩)) (size:=4) (B:=bytesOf 122) (by kernel_rfl) (by kernel_rfl) h.qF.2.2.2.1 cq.2.2.2.1
 have c145f:=fun(_:RP r n) (_:RP r2 n) (_:RP r3 n) (_:RP r4 n) (_:RP r5 n)=>nC heb
 have z5f:=fun(hp0:RP r n) (hp1:RP r2 n) (hp2:RP r3 n) (hp3:RP r4 n) (hp4:RP r5 n)=>(show LU g gc gd A n c T d [] (⟨154,.cx g (cW A n c r5.pos)⟩::⟨46,.fW gc [.own 3,.own 4,.own 5,.own 11,.own 7,.val (.int .i64 cf.a8)]⟩::⟨3,.cx gd [.int .i64 (d:Int)]⟩::([⟨3,.own 1 cf.ag.length cf.cp⟩,⟨118,.own 19 cf.ae.length cf.cr⟩,⟨81,.own 49 cf.rules.length cf.cl⟩,Sx.al,⟨124,.own 3 cf.aa.length cf.ci⟩]++[⟨122,.aj (Me.cells ⟨r2.val,r3.val,r4.val,r5.val⟩)⟩,⟨253,.dm [.ptr 8 1,.ptr 8 2,.ptr 8 3]⟩,⟨122,.aj (Me.cells ⟨r2.val,r3.val,r4.val,r5.val⟩)⟩,⟨122,.own 4 (cf.af.length+1) (cf.cm++(Me.cells ⟨r2.val,r3.val,r4.val,r5.val⟩))⟩]))from⟨({ cf with af:=cf.af++[⟨r2.val,r3.val,r4.val,r5.val⟩] }:CF),r5.pos,3,4,5,11,7,(fin hp0.1 hp1.1 hp2.1 hp3.1 hp4.1).trans (k8 h.dS.kt.len heb),hp4.2,rfl,rfl,rfl,rfl,rfl,rfl,rfl,(show some (⟨122,.own 4 (cf.af.length+1) (cf.cm++(Me.cells ⟨r2.val,r3.val,r4.val,r5.val⟩))⟩:Sx.Row)=some ⟨122,.own 4 ({ cf with af:=cf.af++[⟨r2.val,r3.val,r4.val,r5.val⟩] }:CF).af.length ({ cf with af:=cf.af++[⟨r2.val,r3.val,r4.val,r5.val⟩] }:CF).cm⟩from by simp[CF.cm]),rfl⟩)
 refine fm h [(12,.ai (cB 0 g A n c r ab)),(20,.bin (.bool false)),(33,.bin (.bool false)),(50,.bin (.bool true)),(52,.ai (cB 0 g A n c r2 ab)),(145,.is (.bool false))] [.times [[(68,.ai (cB 0 g A n c r3 gu))],[(68,.ai (cB 0 g A n c r4 gu))],[(68,.ai (cB 0 g A n c r5 gu))],[]]] (by kernel_rfl) Tryz.func131 rfl (Nat.le_of_ble_eq_true rfl) ?_
 exact Eq.mp (by kernel_rfl) (And.intro c12 (fun(hx0:r.okB=true∧r.pos≤n)=>(Sx.t4 (c20f hx0) (c33f hx0) (c50f hx0) (c52f hx0) (fun(hx1:r2.okB=true∧r2.pos≤n)=>(And.intro (c68f hx0 hx1) (fun(hx2:r3.okB=true∧r3.pos≤n)=>(And.intro (c68_2f hx0 hx1 hx2) (fun(hx3:r4.okB=true∧r4.pos≤n)=>(And.intro (c68_3f hx0 hx1 hx2 hx3) (fun(hx4:r5.okB=true∧r5.pos≤n)=>(Sx.t2 (c78f hx0 hx1 hx2 hx3 hx4) (c145f hx0 hx1 hx2 hx3 hx4) (z5f hx0 hx1 hx2 hx3 hx4))))))))))))
theorem AR{r:Out Bs}{r2:Out Bs}{r3:Out Nat}{r4:Out Nat}(h:zO w g gc gd A n c i ws cf d s)
  (nc12:kq 154 g A n c i ws ab r)
  (noc12:fE r T)
  (k0:decide (r.val=bX)=false)
  (k1:decide (r.val=aT)=false)
  (k2:decide (r.val=aH)=false)
  (k3:decide (r.val=ax)=true)
  (nc84:r.okB=true→kq 188 g A n c r.pos ws ab r2)
  (noc84:r.okB=true→fE r2 T)
  (nc87:r.okB=true→r2.okB=true→kq 186 g A n c r2.pos ws gx r3)
  (noc87:r.okB=true→r2.okB=true→fE r3 T)
  (nc90:r.okB=true→r2.okB=true→r3.okB=true→kq 186 g A n c r3.pos ws gx r4)
  (noc90:r.okB=true→r2.okB=true→r3.okB=true→fE r4 T)
  (fin:r.okB=true→r2.okB=true→r3.okB=true→r4.okB=true→T=gy ws ({ cf with aa:=cf.aa++[⟨r2.val,(r3.val:Int),(r4.val:Int)⟩] }:CF) r4.pos)
  (heb:decide (r4.pos < n)=true) :
  Calls Tryz.prog 131 (Ea g gc gd) w (ep g gc gd A n c T d (ns g gc gd s) w):=by
 have c12:=aS (T:=T) 0 (mb g gc gd A n c cf d i (aX cf++[])) [] h.dS h.dS.le (noc12 ) rfl (nc12 )
 have c20f:=fun(_:RP r n)=>fun W=>av (.tmp 12) (.const (ab bX)) r.val bX false k0 W
 have c33f:=fun(_:RP r n)=>fun W=>av (.tmp 12) (.const (ab aT)) r.val aT false k1 W
 have c50f:=fun(_:RP r n)=>fun W=>av (.tmp 12) (.const (ab aH)) r.val aH false k2 W
 have c82f:=fun(_:RP r n)=>fun W=>av (.tmp 12) (.const (ab ax)) r.val ax true k3 W
 have c84f:=fun(hp0:RP r n)=>aS (T:=T) 0 (mb g gc gd A n c cf d r.pos (aX cf++[])) [] h.dS hp0.2 (noc84 hp0.1) rfl (nc84 hp0.1)
 have c87f:=fun(hp0:RP r n) (hp1:RP r2 n)=>aS (T:=T) 0 (mb g gc gd A n c cf d r2.pos (aX cf++[⟨124,.aj (Mi.cells ⟨r2.val,0,0⟩)⟩])) [] h.dS hp1.2 (noc87 hp0.1 hp1.1) rfl (nc87 hp0.1 hp1.1)
 have c90f:=fun(hp0:RP r n) (hp1:RP r2 n) (hp2:RP r3 n)=>aS (T:=T) 0 (mb g gc gd A n c cf d r3.pos (aX cf++[⟨124,.aj (Mi.cells ⟨r2.val,(r3.val:Int),0⟩)⟩])) [] h.dS hp2.2 (noc90 hp0.1 hp1.1 hp2.1) rfl (nc90 hp0.1 hp1.1 hp2.1)
 have c99f:=fun(_:RP r n) (_:RP r2 n) (_:RP r3 n) (_:RP r4 n)=>gq (cells:=(Mi.cells ⟨r2.val,(r3.val:Int),(r4.val:Int)⟩)) (size:=3) (B:=bytesOf 124) (by kernel_rfl) (by kernel_rfl) h.qF.2.2.2.2 cq.2.2.2.2
 have c145f:=fun(_:RP r n) (_:RP r2 n) (_:RP r3 n) (_:RP r4 n)=>nC heb
 have c151f:=fun(hp0:RP r n) (hp1:RP r2 n) (hp2:RP r3 n) (hp3:RP r4 n)=>(show Value.int .i64 (IntKind.i64.wrap ((r4.pos:Int)+1))=.int .i64 ((r4.pos:Int)+1)from iw (jR (by omega) (by have:=hp3.2;have:=h.dS.bd;omega)))
 have c152f:=fun(hp0:RP r n) (hp1:RP r2 n) (hp2:RP r3 n) (hp3:RP r4 n)=>uR w g (ns g gc gd s) A n c r4.pos ((fin hp0.1 hp1.1 hp2.1 hp3.1).trans (jg h.dS.kt.len heb))
 have z4f:=fun(_:RP r n) (_:RP r2 n) (_:RP r3 n) (_:RP r4 n)=>trivial
 refine fm h [(12,.ai (cB 0 g A n c r ab)),(20,.bin (.bool false)),(33,.bin (.bool false)),(50,.bin (.bool false)),(82,.bin (.bool true)),(84,.ai (cB 0 g A n c r2 ab)),(87,.ai (cB 0 g A n c r3 gx)),(90,.ai (cB 0 g A n c r4 gx)),(145,.is (.bool true)),(151,.is (.int .i64 ((r4.pos:Int)+1))),(152,.jk)] [] (by kernel_rfl) Tryz.func131 rfl (Nat.le_of_ble_eq_true rfl) ?_
 exact Eq.mp (by kernel_rfl) (And.intro c12 (fun(hx0:r.okB=true∧r.pos≤n)=>(Sx.t4 (c20f hx0) (c33f hx0) (c50f hx0) (c82f hx0) (And.intro (c84f hx0) (fun(hx1:r2.okB=true∧r2.pos≤n)=>(And.intro (c87f hx0 hx1) (fun(hx2:r3.okB=true∧r3.pos≤n)=>(And.intro (c90f hx0 hx1 hx2) (fun(hx3:r4.okB=true∧r4.pos≤n)=>(Sx.t4 (c99f hx0 hx1 hx2 hx3) (c145f hx0 hx1 hx2 hx3) (c151f hx0 hx1 hx2 hx3) (c152f hx0 hx1 hx2 hx3) (z4f hx0 hx1 hx2 hx3)))))))))))
theorem AS{r:Out Bs}{r2:Out Bs}{r3:Out Nat}{r4:Out Nat}(h:zO w g gc gd A n c i ws cf d s)
  (nc12:kq 154 g A n c i ws ab r)
  (noc12:fE r T)
  (k0:decide (r.val=bX)=false)
  (k1:decide (r.val=aT)=false)
  (k2:decide (r.val=aH)=false)
  (k3:decide (r.val=ax)=true)
  (nc84:r.okB=true→kq 188 g A n c r.pos ws ab r2)
  (noc84:r.okB=true→fE r2 T)
  (nc87:r.okB=true→r2.okB=true→kq 186 g A n c r2.pos ws gx r3)
  (noc87:r.okB=true→r2.okB=true→fE r3 T)
  (nc90:r.okB=true→r2.okB=true→r3.okB=true→kq 186 g A n c r3.pos ws gx r4)
  (noc90:r.okB=true→r2.okB=true→r3.okB=true→fE r4 T)
  (fin:r.okB=true→r2.okB=true→r3.okB=true→r4.okB=true→T=gy ws ({ cf with aa:=cf.aa++[⟨r2.val,(r3.val:Int),(r4.val:Int)⟩] }:CF) r4.pos)
  (heb:decide (r4.pos < n)=false) :
  Calls Tryz.prog 131 (Ea g gc gd) w (ep g gc gd A n c T d (ns g gc gd s) w):=by
 have c12:=aS (T:=T) 0 (mb g gc gd A n c cf d i (aX cf++[])) [] h.dS h.dS.le (noc12 ) rfl (nc12 )
 have c20f:=fun(_:RP r n)=>fun W=>av (.tmp 12) (.const (ab bX)) r.val bX false k0 W
 have c33f:=fun(_:RP r n)=>fun W=>av (.tmp 12) (.const (ab aT)) r.val aT false k1 W
 have c50f:=fun(_:RP r n)=>fun W=>av (.tmp 12) (.const (ab aH)) r.val aH false k2 W
 have c82f:=fun(_:RP r n)=>fun W=>av (.tmp 12) (.const (ab ax)) r.val ax true k3 W
 have c84f:=fun(hp0:RP r n)=>aS (T:=T) 0 (mb g gc gd A n c cf d r.pos (aX cf++[])) [] h.dS hp0.2 (noc84 hp0.1) rfl (nc84 hp0.1)
 have c87f:=fun(hp0:RP r n) (hp1:RP r2 n)=>aS (T:=T) 0 (mb g gc gd A n c cf d r2.pos (aX cf++[⟨124,.aj (Mi.cells ⟨r2.val,0,0⟩)⟩])) [] h.dS hp1.2 (noc87 hp0.1 hp1.1) rfl (nc87 hp0.1 hp1.1)
 have c90f:=fun(hp0:RP r n) (hp1:RP r2 n) (hp2:RP r3 n)=>aS (T:=T) 0 (mb g gc gd A n c cf d r3.pos (aX cf++[⟨124,.aj (Mi.cells ⟨r2.val,(r3.val:Int),0⟩)⟩])) [] h.dS hp2.2 (noc90 hp0.1 hp1.1 hp2.1) rfl (nc90 hp0.1 hp1.1 hp2.1)
 have c99f:=fun(_:RP r n) (_:RP r2 n) (_:RP r3 n) (_:RP r4 n)=>gq (cells:=(Mi.cells ⟨r2.val,(r3.val:Int),(r4.val:Int)⟩)) (size:=3) (B:=bytesOf 124) (by kernel_rfl) (by kernel_rfl) h.qF.2.2.2.2 cq.2.2.2.2
 have c145f:=fun(_:RP r n) (_:RP r2 n) (_:RP r3 n) (_:RP r4 n)=>nC heb
 have z4f:=fun(hp0:RP r n) (hp1:RP r2 n) (hp2:RP r3 n) (hp3:RP r4 n)=>(show LU g gc gd A n c T d [] (⟨154,.cx g (cW A n c r4.pos)⟩::⟨46,.fW gc [.own 3,.own 4,.own 5,.own 6,.own 10,.val (.int .i64 cf.a8)]⟩::⟨3,.cx gd [.int .i64 (d:Int)]⟩::([⟨3,.own 1 cf.ag.length cf.cp⟩,⟨118,.own 19 cf.ae.length cf.cr⟩,⟨81,.own 49 cf.rules.length cf.cl⟩,⟨122,.own 4 cf.af.length cf.cm⟩,Sx.al]++[⟨124,.aj (Mi.cells ⟨r2.val,(r3.val:Int),(r4.val:Int)⟩)⟩,⟨124,.aj (Mi.cells ⟨r2.val,(r3.val:Int),(r4.val:Int)⟩)⟩,⟨124,.own 3 (cf.aa.length+1) (cf.ci++(Mi.cells ⟨r2.val,(r3.val:Int),(r4.val:Int)⟩))⟩]))from⟨({ cf with aa:=cf.aa++[⟨r2.val,(r3.val:Int),(r4.val:Int)⟩] }:CF),r4.pos,3,4,5,6,10,(fin hp0.1 hp1.1 hp2.1 hp3.1).trans (k8 h.dS.kt.len heb),hp3.2,rfl,rfl,rfl,rfl,rfl,rfl,rfl,rfl,(show some (⟨124,.own 3 (cf.aa.length+1) (cf.ci++(Mi.cells ⟨r2.val,(r3.val:Int),(r4.val:Int)⟩))⟩:Sx.Row)=some ⟨124,.own 3 ({ cf with aa:=cf.aa++[⟨r2.val,(r3.val:Int),(r4.val:Int)⟩] }:CF).aa.length ({ cf with aa:=cf.aa++[⟨r2.val,(r3.val:Int),(r4.val:Int)⟩] }:CF).ci⟩from by simp[CF.ci])⟩)
 refine fm h [(12,.ai (cB 0 g A n c r ab)),(20,.bin (.bool false)),(33,.bin (.bool false)),(50,.bin (.bool false)),(82,.bin (.bool true)),(84,.ai (cB 0 g A n c r2 ab)),(87,.ai (cB 0 g A n c r3 gx)),(90,.ai (cB 0 g A n c r4 gx)),(145,.is (.bool false))] [] (by kernel_rfl) Tryz.func131 rfl (Nat.le_of_ble_eq_true rfl) ?_
 exact Eq.mp (by kernel_rfl) (And.intro c12 (fun(hx0:r.okB=true∧r.pos≤n)=>(Sx.t4 (c20f hx0) (c33f hx0) (c50f hx0) (c82f hx0) (And.intro (c84f hx0) (fun(hx1:r2.okB=true∧r2.pos≤n)=>(And.intro (c87f hx0 hx1) (fun(hx2:r3.okB=true∧r3.pos≤n)=>(And.intro (c90f hx0 hx1 hx2) (fun(hx3:r4.okB=true∧r4.pos≤n)=>(Sx.t2 (c99f hx0 hx1 hx2 hx3) (c145f hx0 hx1 hx2 hx3) (z4f hx0 hx1 hx2 hx3)))))))))))
theorem GP{r:Out Bs}{r2:Out Rl}(h:zO w g gc gd A n c i ws cf d s)
  (nc12:kq 154 g A n c i ws ab r)
  (noc12:fE r T)
  (k0:decide (r.val=bX)=false)
  (k1:decide (r.val=aT)=false)
  (k2:decide (r.val=aH)=false)
  (k3:decide (r.val=ax)=false)
  (k4:decide (r.val=dB)=true)
  (nc110:r.okB=true→kq 190 g A n c r.pos ws xD r2)
  (noc110:r.okB=true→fE r2 T)
  (fin:r.okB=true→r2.okB=true→T=gy ws ({ cf with rules:=cf.rules++[r2.val] }:CF) r2.pos)
  (heb:decide (r2.pos < n)=true) :
  Calls Tryz.prog 131 (Ea g gc gd) w (ep g gc gd A n c T d (ns g gc gd s) w):=by
 have c12:=aS (T:=T) 0 (mb g gc gd A n c cf d i (aX cf++[])) [] h.dS h.dS.le (noc12 ) rfl (nc12 )
 have c20f:=fun(_:RP r n)=>fun W=>av (.tmp 12) (.const (ab bX)) r.val bX false k0 W
 have c33f:=fun(_:RP r n)=>fun W=>av (.tmp 12) (.const (ab aT)) r.val aT false k1 W
 have c50f:=fun(_:RP r n)=>fun W=>av (.tmp 12) (.const (ab aH)) r.val aH false k2 W
 have c82f:=fun(_:RP r n)=>fun W=>av (.tmp 12) (.const (ab ax)) r.val ax false k3 W
 have c103f:=fun(_:RP r n)=>fun W=>av (.tmp 12) (.const (ab dB)) r.val dB true k4 W
 have c110f:=fun(hp0:RP r n)=>aS (T:=T) 0 (mb g gc gd A n c cf d r.pos (aX cf++[])) [] h.dS hp0.2 (noc110 hp0.1) rfl (nc110 hp0.1)
 have c112f:=fun(_:RP r n) (_:RP r2 n)=>gq (cells:=r2.val.cells) (size:=49) (B:=bytesOf 81) (by kernel_rfl) (by kernel_rfl) h.qF.2.2.1 cq.2.2.1
 have c145f:=fun(_:RP r n) (_:RP r2 n)=>nC heb
 have c151f:=fun(hp0:RP r n) (hp1:RP r2 n)=>(show Value.int .i64 (IntKind.i64.wrap ((r2.pos:Int)+1))=.int .i64 ((r2.pos:Int)+1)from iw (jR (by omega) (by have:=hp1.2;have:=h.dS.bd;omega)))
 have c152f:=fun(hp0:RP r n) (hp1:RP r2 n)=>uR w g (ns g gc gd s) A n c r2.pos ((fin hp0.1 hp1.1).trans (jg h.dS.kt.len heb))
 have z2f:=fun(_:RP r n) (_:RP r2 n)=>trivial
 have z4f:=fun(_:RP r n) (_:¬(RP r2 n))=>trivial
 refine fm h [(12,.ai (cB 0 g A n c r ab)),(20,.bin (.bool false)),(33,.bin (.bool false)),(50,.bin (.bool false)),(82,.bin (.bool false)),(103,.bin (.bool true)),(110,.ai (cB 0 g A n c r2 xD)),(145,.is (.bool true)),(151,.is (.int .i64 ((r2.pos:Int)+1))),(152,.jk)] [] (by kernel_rfl) Tryz.func131 rfl (Nat.le_of_ble_eq_true rfl) ?_
 exact Eq.mp (by kernel_rfl) (And.intro c12 (fun(hx0:r.okB=true∧r.pos≤n)=>(Sx.t4 (c20f hx0) (c33f hx0) (c50f hx0) (c82f hx0) (Sx.t2 (c103f hx0) (c110f hx0) (And.intro (fun(hx1:r2.okB=true∧r2.pos≤n)=>(Sx.t4 (c112f hx0 hx1) (c145f hx0 hx1) (c151f hx0 hx1) (c152f hx0 hx1) (z2f hx0 hx1))) (fun(hx3:¬(r2.okB=true∧r2.pos≤n))=>(z4f hx0 hx3)))))))
theorem GQ{r:Out Bs}{r2:Out Rl}(h:zO w g gc gd A n c i ws cf d s)
  (nc12:kq 154 g A n c i ws ab r)
  (noc12:fE r T)
  (k0:decide (r.val=bX)=false)
  (k1:decide (r.val=aT)=false)
  (k2:decide (r.val=aH)=false)
  (k3:decide (r.val=ax)=false)
  (k4:decide (r.val=dB)=true)
  (nc110:r.okB=true→kq 190 g A n c r.pos ws xD r2)
  (noc110:r.okB=true→fE r2 T)
  (fin:r.okB=true→r2.okB=true→T=gy ws ({ cf with rules:=cf.rules++[r2.val] }:CF) r2.pos)
  (heb:decide (r2.pos < n)=false) :
  Calls Tryz.prog 131 (Ea g gc gd) w (ep g gc gd A n c T d (ns g gc gd s) w):=by
 have c12:=aS (T:=T) 0 (mb g gc gd A n c cf d i (aX cf++[])) [] h.dS h.dS.le (noc12 ) rfl (nc12 )
 have c20f:=fun(_:RP r n)=>fun W=>av (.tmp 12) (.const (ab bX)) r.val bX false k0 W
 have c33f:=fun(_:RP r n)=>fun W=>av (.tmp 12) (.const (ab aT)) r.val aT false k1 W
 have c50f:=fun(_:RP r n)=>fun W=>av (.tmp 12) (.const (ab aH)) r.val aH false k2 W
 have c82f:=fun(_:RP r n)=>fun W=>av (.tmp 12) (.const (ab ax)) r.val ax false k3 W
 have c103f:=fun(_:RP r n)=>fun W=>av (.tmp 12) (.const (ab dB)) r.val dB true k4 W
 have c110f:=fun(hp0:RP r n)=>aS (T:=T) 0 (mb g gc gd A n c cf d r.pos (aX cf++[])) [] h.dS hp0.2 (noc110 hp0.1) rfl (nc110 hp0.1)
 have c112f:=fun(_:RP r n) (_:RP r2 n)=>gq (cells:=r2.val.cells) (size:=49) (B:=bytesOf 81) (by kernel_rfl) (by kernel_rfl) h.qF.2.2.1 cq.2.2.1
 have c145f:=fun(_:RP r n) (_:RP r2 n)=>nC heb
 have z2f:=fun(hp0:RP r n) (hp1:RP r2 n)=>(show LU g gc gd A n c T d [] (⟨154,.cx g (cW A n c r2.pos)⟩::⟨46,.fW gc [.own 3,.own 4,.own 9,.own 6,.own 7,.val (.int .i64 cf.a8)]⟩::⟨3,.cx gd [.int .i64 (d:Int)]⟩::([⟨3,.own 1 cf.ag.length cf.cp⟩,⟨118,.own 19 cf.ae.length cf.cr⟩,Sx.al,⟨122,.own 4 cf.af.length cf.cm⟩,⟨124,.own 3 cf.aa.length cf.ci⟩]++[⟨81,.aj r2.val.cells⟩,⟨81,.own 49 (cf.rules.length+1) (cf.cl++r2.val.cells)⟩]))from⟨({ cf with rules:=cf.rules++[r2.val] }:CF),r2.pos,3,4,9,6,7,(fin hp0.1 hp1.1).trans (k8 h.dS.kt.len heb),hp1.2,rfl,rfl,rfl,rfl,rfl,rfl,(show some (⟨81,.own 49 (cf.rules.length+1) (cf.cl++r2.val.cells)⟩:Sx.Row)=some ⟨81,.own 49 ({ cf with rules:=cf.rules++[r2.val] }:CF).rules.length ({ cf with rules:=cf.rules++[r2.val] }:CF).cl⟩from by simp[CF.cl]),rfl,rfl⟩)
 have z4f:=fun(_:RP r n) (_:¬(RP r2 n))=>trivial
 refine fm h [(12,.ai (cB 0 g A n c r ab)),(20,.bin (.bool false)),(33,.bin (.bool false)),(50,.bin (.bool false)),(82,.bin (.bool false)),(103,.bin (.bool true)),(110,.ai (cB 0 g A n c r2 xD)),(145,.is (.bool false))] [] (by kernel_rfl) Tryz.func131 rfl (Nat.le_of_ble_eq_true rfl) ?_
 exact Eq.mp (by kernel_rfl) (And.intro c12 (fun(hx0:r.okB=true∧r.pos≤n)=>(Sx.t4 (c20f hx0) (c33f hx0) (c50f hx0) (c82f hx0) (Sx.t2 (c103f hx0) (c110f hx0) (And.intro (fun(hx1:r2.okB=true∧r2.pos≤n)=>(Sx.t2 (c112f hx0 hx1) (c145f hx0 hx1) (z2f hx0 hx1))) (fun(hx3:¬(r2.okB=true∧r2.pos≤n))=>(z4f hx0 hx3)))))))
theorem yB{d0:Bool}{r:Out Bs}{r2:Out (Int×Int)}(h:zO w g gc gd A n c i ws cf d s)
  (nc12:kq 154 g A n c i ws ab r)
  (noc12:fE r T)
  (k0:decide (r.val=bX)=false)
  (k1:decide (r.val=aT)=false)
  (k2:decide (r.val=aH)=false)
  (k3:decide (r.val=ax)=false)
  (k4:decide (r.val=dB)=false)
  (k5:decide (r.val=aV)=true)
  (hd0:Value.bool (((d+1:Nat):Int)==1)=.bool d0)
  (no127:r.okB=true→∀code p,(ak d0 200 () r.pos)=.no code p→T=.no code p)
  (nc131:r.okB=true→(ak d0 200 () r.pos).okB=true→∀W,dw W g A n c (ak d0 200 () r.pos).pos ws→Calls Tryz.prog 192 (.pointer (some ⟨g,0,none⟩)::[.bool false]).toArray W (aO g A n c ju r2 W))
  (noc131:r.okB=true→(ak d0 200 () r.pos).okB=true→fE r2 T)
  (fin:r.okB=true→(ak d0 200 () r.pos).okB=true→r2.okB=true→T=gy ws ({ cf with a8:=r2.val.1 }:CF) r2.pos)
  (heb:decide (r2.pos < n)=true) :
  Calls Tryz.prog 131 (Ea g gc gd) w (ep g gc gd A n c T (d+1:Nat) (ns g gc gd s) w):=by
 have hdle:=h.OG
 have c12:=aS (T:=T) 0 (mb g gc gd A n c cf d i (aX cf++[])) [] h.dS h.dS.le (noc12 ) rfl (nc12 )
 have c20f:=fun(_:RP r n)=>fun W=>av (.tmp 12) (.const (ab bX)) r.val bX false k0 W
 have c33f:=fun(_:RP r n)=>fun W=>av (.tmp 12) (.const (ab aT)) r.val aT false k1 W
 have c50f:=fun(_:RP r n)=>fun W=>av (.tmp 12) (.const (ab aH)) r.val aH false k2 W
 have c82f:=fun(_:RP r n)=>fun W=>av (.tmp 12) (.const (ab ax)) r.val ax false k3 W
 have c103f:=fun(_:RP r n)=>fun W=>av (.tmp 12) (.const (ab dB)) r.val dB false k4 W
 have c116f:=fun(_:RP r n)=>fun W=>av (.tmp 12) (.const (ab aV)) r.val aV true k5 W
 have c120f:=fun(_:RP r n)=>(show Value.int .i64 (IntKind.i64.wrap ((d:Int)+1))=.int .i64 ((d+1:Nat):Int)from iw (by rw[jR (by omega) (by omega)];rfl))
 have c126f:=fun(_:RP r n)=>hd0
 have c127f:=fun(hp0:RP r n)=>aS (T:=T) 0 (⟨154,.cx g (cW A n c r.pos)⟩::⟨46,.fW gc [.own 3,.own 4,.own 5,.own 6,.own 7,.val (.int .i64 cf.a8)]⟩::⟨3,.cx gd [.int .i64 ((d+1:Nat):Int)]⟩::(aX cf++[])) [.bool d0,.int .i64 200] h.dS hp0.2 (no127 hp0.1) rfl (fun W hL=>dV d0 200 () hL)
 have c131f:=fun(hp0:RP r n) (hp1:(ak d0 200 () r.pos).okB=true∧(ak d0 200 () r.pos).pos≤n)=>aS (T:=T) 0 (⟨154,.cx g (cW A n c (ak d0 200 () r.pos).pos)⟩::⟨46,.fW gc [.own 3,.own 4,.own 5,.own 6,.own 7,.val (.int .i64 cf.a8)]⟩::⟨3,.cx gd [.int .i64 ((d+1:Nat):Int)]⟩::(aX cf++[])) [.bool false] h.dS hp1.2 (noc131 hp0.1 hp1.1) rfl (nc131 hp0.1 hp1.1)
 have c145f:=fun(_:RP r n) (_:(ak d0 200 () r.pos).okB=true∧(ak d0 200 () r.pos).pos≤n) (_:RP r2 n)=>nC heb
 have c151f:=fun(hp0:RP r n) (hp1:(ak d0 200 () r.pos).okB=true∧(ak d0 200 () r.pos).pos≤n) (hp2:RP r2 n)=>(show Value.int .i64 (IntKind.i64.wrap ((r2.pos:Int)+1))=.int .i64 ((r2.pos:Int)+1)from iw (jR (by omega) (by have:=hp2.2;have:=h.dS.bd;omega)))
 have c152f:=fun(hp0:RP r n) (hp1:(ak d0 200 () r.pos).okB=true∧(ak d0 200 () r.pos).pos≤n) (hp2:RP r2 n)=>uR w g (ns g gc gd s) A n c r2.pos ((fin hp0.1 hp1.1 hp2.1).trans (jg h.dS.kt.len heb))
 have z3f:=fun(_:RP r n) (_:(ak d0 200 () r.pos).okB=true∧(ak d0 200 () r.pos).pos≤n) (_:RP r2 n)=>trivial
 refine fm h [(12,.ai (cB 0 g A n c r ab)),(20,.bin (.bool false)),(33,.bin (.bool false)),(50,.bin (.bool false)),(82,.bin (.bool false)),(103,.bin (.bool false)),(116,.bin (.bool true)),(120,.is (.int .i64 ((d+1:Nat):Int))),(126,.is (.bool d0)),(127,.ai (cB 0 g A n c (ak d0 200 () r.pos) (fun _=>.tuple #[]))),(131,.ai (cB 0 g A n c r2 ju)),(145,.is (.bool true)),(151,.is (.int .i64 ((r2.pos:Int)+1))),(152,.jk)] [] (by kernel_rfl) Tryz.func131 rfl (Nat.le_of_ble_eq_true rfl) ?_
 exact Eq.mp (by kernel_rfl) (And.intro c12 (fun(hx0:r.okB=true∧r.pos≤n)=>(Sx.t8 (c20f hx0) (c33f hx0) (c50f hx0) (c82f hx0) (c103f hx0) (c116f hx0) (c120f hx0) (c126f hx0) (And.intro (c127f hx0) (fun(hx1:(ak d0 200 () r.pos).okB=true∧(ak d0 200 () r.pos).pos≤n)=>(And.intro (c131f hx0 hx1) (fun(hx2:r2.okB=true∧r2.pos≤n)=>(Sx.t2 (c145f hx0 hx1 hx2) (c151f hx0 hx1 hx2) (And.intro (c152f hx0 hx1 hx2) (z3f hx0 hx1 hx2))))))))))
theorem yC{d0:Bool}{r:Out Bs}{r2:Out (Int×Int)}(h:zO w g gc gd A n c i ws cf d s)
  (nc12:kq 154 g A n c i ws ab r)
  (noc12:fE r T)
  (k0:decide (r.val=bX)=false)
  (k1:decide (r.val=aT)=false)
  (k2:decide (r.val=aH)=false)
  (k3:decide (r.val=ax)=false)
  (k4:decide (r.val=dB)=false)
  (k5:decide (r.val=aV)=true)
  (hd0:Value.bool (((d+1:Nat):Int)==1)=.bool d0)
  (no127:r.okB=true→∀code p,(ak d0 200 () r.pos)=.no code p→T=.no code p)
  (nc131:r.okB=true→(ak d0 200 () r.pos).okB=true→∀W,dw W g A n c (ak d0 200 () r.pos).pos ws→Calls Tryz.prog 192 (.pointer (some ⟨g,0,none⟩)::[.bool false]).toArray W (aO g A n c ju r2 W))
  (noc131:r.okB=true→(ak d0 200 () r.pos).okB=true→fE r2 T)
  (fin:r.okB=true→(ak d0 200 () r.pos).okB=true→r2.okB=true→T=gy ws ({ cf with a8:=r2.val.1 }:CF) r2.pos)
  (heb:decide (r2.pos < n)=false) :
  Calls Tryz.prog 131 (Ea g gc gd) w (ep g gc gd A n c T (d+1:Nat) (ns g gc gd s) w):=by
 have hdle:=h.OG
 have c12:=aS (T:=T) 0 (mb g gc gd A n c cf d i (aX cf++[])) [] h.dS h.dS.le (noc12 ) rfl (nc12 )
 have c20f:=fun(_:RP r n)=>fun W=>av (.tmp 12) (.const (ab bX)) r.val bX false k0 W
 have c33f:=fun(_:RP r n)=>fun W=>av (.tmp 12) (.const (ab aT)) r.val aT false k1 W
 have c50f:=fun(_:RP r n)=>fun W=>av (.tmp 12) (.const (ab aH)) r.val aH false k2 W
 have c82f:=fun(_:RP r n)=>fun W=>av (.tmp 12) (.const (ab ax)) r.val ax false k3 W
 have c103f:=fun(_:RP r n)=>fun W=>av (.tmp 12) (.const (ab dB)) r.val dB false k4 W
 have c116f:=fun(_:RP r n)=>fun W=>av (.tmp 12) (.const (ab aV)) r.val aV true k5 W
 have c120f:=fun(_:RP r n)=>(show Value.int .i64 (IntKind.i64.wrap ((d:Int)+1))=.int .i64 ((d+1:Nat):Int)from iw (by rw[jR (by omega) (by omega)];rfl))
 have c126f:=fun(_:RP r n)=>hd0
 have c127f:=fun(hp0:RP r n)=>aS (T:=T) 0 (⟨154,.cx g (cW A n c r.pos)⟩::⟨46,.fW gc [.own 3,.own 4,.own 5,.own 6,.own 7,.val (.int .i64 cf.a8)]⟩::⟨3,.cx gd [.int .i64 ((d+1:Nat):Int)]⟩::(aX cf++[])) [.bool d0,.int .i64 200] h.dS hp0.2 (no127 hp0.1) rfl (fun W hL=>dV d0 200 () hL)
 have c131f:=fun(hp0:RP r n) (hp1:(ak d0 200 () r.pos).okB=true∧(ak d0 200 () r.pos).pos≤n)=>aS (T:=T) 0 (⟨154,.cx g (cW A n c (ak d0 200 () r.pos).pos)⟩::⟨46,.fW gc [.own 3,.own 4,.own 5,.own 6,.own 7,.val (.int .i64 cf.a8)]⟩::⟨3,.cx gd [.int .i64 ((d+1:Nat):Int)]⟩::(aX cf++[])) [.bool false] h.dS hp1.2 (noc131 hp0.1 hp1.1) rfl (nc131 hp0.1 hp1.1)
 have c145f:=fun(_:RP r n) (_:(ak d0 200 () r.pos).okB=true∧(ak d0 200 () r.pos).pos≤n) (_:RP r2 n)=>nC heb
 have z3f:=fun(hp0:RP r n) (hp1:(ak d0 200 () r.pos).okB=true∧(ak d0 200 () r.pos).pos≤n) (hp2:RP r2 n)=>(show LU g gc gd A n c T (d+1:Nat) [] (⟨154,.cx g (cW A n c r2.pos)⟩::⟨46,.fW gc [.own 3,.own 4,.own 5,.own 6,.own 7,.val (.int .i64 r2.val.1)]⟩::⟨3,.cx gd [.int .i64 ((d+1:Nat):Int)]⟩::(aX cf++[]))from⟨({ cf with a8:=r2.val.1 }:CF),r2.pos,3,4,5,6,7,(fin hp0.1 hp1.1 hp2.1).trans (k8 h.dS.kt.len heb),hp2.2,rfl,rfl,rfl,rfl,rfl,rfl,rfl,rfl,rfl⟩)
 refine fm h [(12,.ai (cB 0 g A n c r ab)),(20,.bin (.bool false)),(33,.bin (.bool false)),(50,.bin (.bool false)),(82,.bin (.bool false)),(103,.bin (.bool false)),(116,.bin (.bool true)),(120,.is (.int .i64 ((d+1:Nat):Int))),(126,.is (.bool d0)),(127,.ai (cB 0 g A n c (ak d0 200 () r.pos) (fun _=>.tuple #[]))),(131,.ai (cB 0 g A n c r2 ju)),(145,.is (.bool false))] [] (by kernel_rfl) Tryz.func131 rfl (Nat.le_of_ble_eq_true rfl) ?_
 exact Eq.mp (by kernel_rfl) (And.intro c12 (fun(hx0:r.okB=true∧r.pos≤n)=>(Sx.t8 (c20f hx0) (c33f hx0) (c50f hx0) (c82f hx0) (c103f hx0) (c116f hx0) (c120f hx0) (c126f hx0) (And.intro (c127f hx0) (fun(hx1:(ak d0 200 () r.pos).okB=true∧(ak d0 200 () r.pos).pos≤n)=>(And.intro (c131f hx0 hx1) (fun(hx2:r2.okB=true∧r2.pos≤n)=>(And.intro (c145f hx0 hx1 hx2) (z3f hx0 hx1 hx2)))))))))
theorem GU{r:Out Bs}(h:zO w g gc gd A n c i ws cf d s)
  (nc12:kq 154 g A n c i ws ab r)
  (noc12:fE r T)
  (k0:decide (r.val=bX)=false)
  (k1:decide (r.val=aT)=false)
  (k2:decide (r.val=aH)=false)
  (k3:decide (r.val=ax)=false)
  (k4:decide (r.val=dB)=false)
  (k5:decide (r.val=aV)=false)
  (fin:r.okB=true→T=.no 200 r.pos) :
  Calls Tryz.prog 131 (Ea g gc gd) w (ep g gc gd A n c T d (ns g gc gd s) w):=by
 have c12:=aS (T:=T) 0 (mb g gc gd A n c cf d i (aX cf++[])) [] h.dS h.dS.le (noc12 ) rfl (nc12 )
 have c20f:=fun(_:RP r n)=>fun W=>av (.tmp 12) (.const (ab bX)) r.val bX false k0 W
 have c33f:=fun(_:RP r n)=>fun W=>av (.tmp 12) (.const (ab aT)) r.val aT false k1 W
 have c50f:=fun(_:RP r n)=>fun W=>av (.tmp 12) (.const (ab aH)) r.val aH false k2 W
 have c82f:=fun(_:RP r n)=>fun W=>av (.tmp 12) (.const (ab ax)) r.val ax false k3 W
 have c103f:=fun(_:RP r n)=>fun W=>av (.tmp 12) (.const (ab dB)) r.val dB false k4 W
 have c116f:=fun(_:RP r n)=>fun W=>av (.tmp 12) (.const (ab aV)) r.val aV false k5 W
 have c18f:=fun(hp0:RP r n) W (hW:ah (ns g gc gd s) w W) (_:aq W g 154 (cW A n c r.pos))=>jb (b:=⟨w,ns g gc gd s,jr T w⟩) (vs:=[.pointer (some ⟨g,0,none⟩),.int .i64 200,.int .i64 (r.pos:Int)]) (ps:=[(0,0)]) ((mg (.pointer (some ⟨g,0,none⟩)) 200 (r.pos:Int) W).mono fun _ _ ⟨ch,he,hf,hc⟩=>⟨ch,he,(show jr T w _ _ from⟨200,r.pos,fin hp0.1,hf.up hW.size⟩),hc⟩)
 have z1f:=fun(_:RP r n)=>trivial
 refine fm h [(12,.ai (cB 0 g A n c r ab)),(20,.bin (.bool false)),(33,.bin (.bool false)),(50,.bin (.bool false)),(82,.bin (.bool false)),(103,.bin (.bool false)),(116,.bin (.bool false)),(18,.jk)] [] (by kernel_rfl) Tryz.func131 rfl (Nat.le_of_ble_eq_true rfl) ?_
 exact Eq.mp (by kernel_rfl) (And.intro c12 (fun(hx0:r.okB=true∧r.pos≤n)=>(Sx.t4 (c20f hx0) (c33f hx0) (c50f hx0) (c82f hx0) (Sx.t2 (c103f hx0) (c116f hx0) (And.intro (c18f hx0) (z1f hx0))))))
end
end Go.Proofs.YtnncigmpcdehnaaGreatDoor
