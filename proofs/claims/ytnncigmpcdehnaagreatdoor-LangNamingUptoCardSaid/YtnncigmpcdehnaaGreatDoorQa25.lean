import Derived.Test.YtnncigmpcdehnaaGreatDoorQa24
namespace Go.Proofs.YtnncigmpcdehnaaGreatDoor
set_option maxRecDepth 100000
open Go.RowKit Go.Lib Go.Sort
noncomputable def bytesOf(t:Nat):Nat:=((Tryz.prog.types[t]?).map (·.bytes)).getD 0
theorem bytes_le:bytesOf 3≤1000∧bytesOf 118≤1000∧bytesOf 81≤1000∧bytesOf 122≤1000∧bytesOf 124≤1000:=by decide+kernel
theorem app_ob{cells:List Value}{size len B:Nat}(hl:cells.length=1*size)(ha:cells.all (fun u=>u.oneCell')=true)(hn:len≤1000000)(hb:B≤1000) :
  True∧cells.length=1*size∧(∀u:Value,u∈cells→u.oneCell'=true)∧len+1≤maxLen∧(len+1)*B≤140737488355328:=
 ⟨trivial,hl,fun u hu=>List.all_eq_true.1 ha u hu,by unfold maxLen;omega,Nat.le_trans (Nat.mul_le_mul (show len+1≤1000001 by omega) hb) (by decide)⟩
def rowsC(cf:CF):List Sx.Row:=[⟨3,.own 1 cf.ports.length cf.cp⟩,⟨118,.own 19 cf.routes.length cf.cr⟩,⟨81,.own 49 cf.rules.length cf.cl⟩,⟨122,.own 4 cf.meters.length cf.cm⟩,⟨124,.own 3 cf.mirrors.length cf.ci⟩]
theorem endR_yes{ws:List Bs}{α:Type}{a:α}{i n:Nat}(hl:ws.length=n)(h:decide (i < n)=true):endR ws a i=.no 200 (i+1):=by unfold endR;rw[hl,h]
theorem endR_no{ws:List Bs}{α:Type}{a:α}{i n:Nat}(hl:ws.length=n)(h:decide (i < n)=false):endR ws a i=.ok a i:=by unfold endR;rw[hl,h]
abbrev inM(g gc gd:Nat)(A:Option Go.Addr)(n c:Nat)(cf:CF)(d i:Nat)(R:List Sx.Row):List Sx.Row:=⟨154,.giv g (lnC A n c i)⟩::⟨46,.gvs gc [.own 3,.own 4,.own 5,.own 6,.own 7,.val (.int .i64 cf.dflt)]⟩::⟨3,.giv gd [.int .i64 (d:Int)]⟩::R
abbrev inA(g gc gd:Nat):Array Value:=#[.pointer (some ⟨g,0,none⟩),.pointer (some ⟨gc,0,none⟩),.pointer (some ⟨gd,0,none⟩)]
theorem ltB{a n:Nat}{b:Bool}(h:decide (a < n)=b):Value.bool (decide ((a:Int) < (n:Int)))=.bool b:=bz (by rw[←h];congr 1;exact propext (by omega))
theorem inPan(w:World)(g:Nat)(S:List Nat)(A:Option Go.Addr)(n c:Nat){T:Out CF}(p:Nat)(fin:T=.no 200 (p+1))(W:World)(hW:Chg S w W)(_:Blk W g 154 (lnC A n c p)):Calls Tryz.prog 94 #[.pointer (some ⟨g,0,none⟩),.int .i64 200,.int .i64 ((p:Int)+1)] W (Sx.xPost ⟨w,S,LnP T w⟩ W [.pointer (some ⟨g,0,none⟩),.int .i64 200,.int .i64 ((p:Int)+1)] (.pan [(0,0)])):=pan_none (b:=⟨w,S,LnP T w⟩) (vs:=[.pointer (some ⟨g,0,none⟩),.int .i64 200,.int .i64 ((p:Int)+1)]) (ps:=[(0,0)]) ((fail_N (.pointer (some ⟨g,0,none⟩)) 200 ((p:Int)+1) W).mono fun _ _ ⟨ch,he,hf,hc⟩=>⟨ch,he,(show LnP T w _ _ from⟨200,p+1,fin,hf.up hW.size⟩),hc⟩)
section
variable{w:World}{g gc gd:Nat}{A:Option Go.Addr}{n c i:Nat}{ws:List Bs}{cf:CF}{d:Nat}{s:Sls}{T:Out CF}
theorem in_port1{r:Out Bs}{r2:Out Nat}(h:InH w g gc gd A n c i ws cf d s)
  (nc12:LnK 154 g A n c i ws strV r)
  (noc12:NoK r T)
  (k0:decide (r.val=kPort)=true)
  (nc27:r.okB=true→LnK 186 g A n c r.pos ws intV r2)
  (noc27:r.okB=true→NoK r2 T)
  (fin:r.okB=true→r2.okB=true→T=endR ws ({ cf with ports:=cf.ports++[(r2.val:Int)] }:CF) r2.pos)
  (heb:decide (r2.pos < n)=true) :
  Calls Tryz.prog 131 (inA g gc gd) w (InPost g gc gd A n c T d (inS g gc gd s) w):=by
 have c12:=ln_sts (T:=T) 0 (inM g gc gd A n c cf d i (rowsC cf++[])) [] h.lns h.lns.le (noc12 ) rfl (nc12 )
 have c20f:=fun(_:RP r n)=>fun W=>str_eq (.tmp 12) (.const (strV kPort)) r.val kPort true k0 W
 have c27f:=fun(hp0:RP r n)=>ln_sts (T:=T) 0 (inM g gc gd A n c cf d r.pos (rowsC cf++[])) [] h.lns hp0.2 (noc27 hp0.1) rfl (nc27 hp0.1)
 have c29f:=fun(_:RP r n) (_:RP r2 n)=>app_ob (cells:=[intV r2.val]) (size:=1) (B:=bytesOf 3) (by kernel_rfl) (by kernel_rfl) h.few.1 bytes_le.1
 have c145f:=fun(_:RP r n) (_:RP r2 n)=>ltB heb
 have c151f:=fun(hp0:RP r n) (hp1:RP r2 n)=>(show Value.int .i64 (IntKind.i64.wrap ((r2.pos:Int)+1))=.int .i64 ((r2.pos:Int)+1)from iw (w64 (by omega) (by have:=hp1.2;have:=h.lns.bd;omega)))
 have c152f:=fun(hp0:RP r n) (hp1:RP r2 n)=>inPan w g (inS g gc gd s) A n c r2.pos ((fin hp0.1 hp1.1).trans (endR_yes h.lns.wds.len heb))
 have z2f:=fun(_:RP r n) (_:RP r2 n)=>trivial
 have z4f:=fun(_:RP r n) (_:¬(RP r2 n))=>trivial
 refine in_walk h [(12,.callG (lnG 0 g A n c r strV)),(20,.bin (.bool true)),(27,.callG (lnG 0 g A n c r2 intV)),(145,.is (.bool true)),(151,.is (.int .i64 ((r2.pos:Int)+1))),(152,.callP)] [] (by kernel_rfl) Tryz.func131 rfl (Nat.le_of_ble_eq_true rfl) ?_
 exact Eq.mp (by kernel_rfl) (And.intro c12 (fun(hx0:r.okB=true∧r.pos≤n)=>(Sx.t2 (c20f hx0) (c27f hx0) (And.intro (fun(hx1:r2.okB=true∧r2.pos≤n)=>(Sx.t4 (c29f hx0 hx1) (c145f hx0 hx1) (c151f hx0 hx1) (c152f hx0 hx1) (z2f hx0 hx1))) (fun(hx3:¬(r2.okB=true∧r2.pos≤n))=>(z4f hx0 hx3))))))
theorem in_port0{r:Out Bs}{r2:Out Nat}(h:InH w g gc gd A n c i ws cf d s)
  (nc12:LnK 154 g A n c i ws strV r)
  (noc12:NoK r T)
  (k0:decide (r.val=kPort)=true)
  (nc27:r.okB=true→LnK 186 g A n c r.pos ws intV r2)
  (noc27:r.okB=true→NoK r2 T)
  (fin:r.okB=true→r2.okB=true→T=endR ws ({ cf with ports:=cf.ports++[(r2.val:Int)] }:CF) r2.pos)
  (heb:decide (r2.pos < n)=false) :
  Calls Tryz.prog 131 (inA g gc gd) w (InPost g gc gd A n c T d (inS g gc gd s) w):=by
 have c12:=ln_sts (T:=T) 0 (inM g gc gd A n c cf d i (rowsC cf++[])) [] h.lns h.lns.le (noc12 ) rfl (nc12 )
 have c20f:=fun(_:RP r n)=>fun W=>str_eq (.tmp 12) (.const (strV kPort)) r.val kPort true k0 W
 have c27f:=fun(hp0:RP r n)=>ln_sts (T:=T) 0 (inM g gc gd A n c cf d r.pos (rowsC cf++[])) [] h.lns hp0.2 (noc27 hp0.1) rfl (nc27 hp0.1)
 have c29f:=fun(_:RP r n) (_:RP r2 n)=>app_ob (cells:=[intV r2.val]) (size:=1) (B:=bytesOf 3) (by kernel_rfl) (by kernel_rfl) h.few.1 bytes_le.1
 have c145f:=fun(_:RP r n) (_:RP r2 n)=>ltB heb
 have z2f:=fun(hp0:RP r n) (hp1:RP r2 n)=>(show InR g gc gd A n c T d [] (⟨154,.giv g (lnC A n c r2.pos)⟩::⟨46,.gvs gc [.own 9,.own 4,.own 5,.own 6,.own 7,.val (.int .i64 cf.dflt)]⟩::⟨3,.giv gd [.int .i64 (d:Int)]⟩::([Sx.deadRow,⟨118,.own 19 cf.routes.length cf.cr⟩,⟨81,.own 49 cf.rules.length cf.cl⟩,⟨122,.own 4 cf.meters.length cf.cm⟩,⟨124,.own 3 cf.mirrors.length cf.ci⟩]++[⟨3,.vals [intV r2.val]⟩,⟨3,.own 1 (cf.ports.length+1) (cf.cp++[intV r2.val])⟩]))from⟨({ cf with ports:=cf.ports++[(r2.val:Int)] }:CF),r2.pos,9,4,5,6,7,(fin hp0.1 hp1.1).trans (endR_no h.lns.wds.len heb),hp1.2,rfl,rfl,rfl,rfl,(show some (⟨3,.own 1 (cf.ports.length+1) (cf.cp++[intV r2.val])⟩:Sx.Row)=some ⟨3,.own 1 ({ cf with ports:=cf.ports++[(r2.val:Int)] }:CF).ports.length ({ cf with ports:=cf.ports++[(r2.val:Int)] }:CF).cp⟩from by simp[CF.cp,intV]),rfl,rfl,rfl,rfl⟩)
 have z4f:=fun(_:RP r n) (_:¬(RP r2 n))=>trivial
 refine in_walk h [(12,.callG (lnG 0 g A n c r strV)),(20,.bin (.bool true)),(27,.callG (lnG 0 g A n c r2 intV)),(145,.is (.bool false))] [] (by kernel_rfl) Tryz.func131 rfl (Nat.le_of_ble_eq_true rfl) ?_
 exact Eq.mp (by kernel_rfl) (And.intro c12 (fun(hx0:r.okB=true∧r.pos≤n)=>(Sx.t2 (c20f hx0) (c27f hx0) (And.intro (fun(hx1:r2.okB=true∧r2.pos≤n)=>(Sx.t2 (c29f hx0 hx1) (c145f hx0 hx1) (z2f hx0 hx1))) (fun(hx3:¬(r2.okB=true∧r2.pos≤n))=>(z4f hx0 hx3))))))
theorem in_route1{r:Out Bs}{r2:Out Px}{r3:Out Nat}(h:InH w g gc gd A n c i ws cf d s)
  (nc12:LnK 154 g A n c i ws strV r)
  (noc12:NoK r T)
  (k0:decide (r.val=kPort)=false)
  (k1:decide (r.val=kRoute)=true)
  (nc35:r.okB=true→LnK 187 g A n c r.pos ws pxV r2)
  (noc35:r.okB=true→NoK r2 T)
  (nc43:r.okB=true→r2.okB=true→LnK 186 g A n c r2.pos ws intV r3)
  (noc43:r.okB=true→r2.okB=true→NoK r3 T)
  (fin:r.okB=true→r2.okB=true→r3.okB=true→T=endR ws ({ cf with routes:=cf.routes++[⟨r2.val,(r3.val:Int)⟩] }:CF) r3.pos)
  (heb:decide (r3.pos < n)=true) :
  Calls Tryz.prog 131 (inA g gc gd) w (InPost g gc gd A n c T d (inS g gc gd s) w):=by
 have c12:=ln_sts (T:=T) 0 (inM g gc gd A n c cf d i (rowsC cf++[])) [] h.lns h.lns.le (noc12 ) rfl (nc12 )
 have c20f:=fun(_:RP r n)=>fun W=>str_eq (.tmp 12) (.const (strV kPort)) r.val kPort false k0 W
 have c33f:=fun(_:RP r n)=>fun W=>str_eq (.tmp 12) (.const (strV kRoute)) r.val kRoute true k1 W
 have c35f:=fun(hp0:RP r n)=>ln_sts (T:=T) 0 (inM g gc gd A n c cf d r.pos (rowsC cf++[])) [] h.lns hp0.2 (noc35 hp0.1) rfl (nc35 hp0.1)
 have c43f:=fun(hp0:RP r n) (hp1:RP r2 n)=>ln_sts (T:=T) 0 (inM g gc gd A n c cf d r2.pos (rowsC cf++[⟨29,.vals r2.val.cells⟩])) [] h.lns hp1.2 (noc43 hp0.1 hp1.1) rfl (nc43 hp0.1 hp1.1)
 have c46f:=fun(_:RP r n) (_:RP r2 n) (_:RP r3 n)=>app_ob (cells:=(Rt.cells ⟨r2.val,(r3.val:Int)⟩)) (size:=19) (B:=bytesOf 118) (by kernel_rfl) (by kernel_rfl) h.few.2.1 bytes_le.2.1
 have c145f:=fun(_:RP r n) (_:RP r2 n) (_:RP r3 n)=>ltB heb
 have c151f:=fun(hp0:RP r n) (hp1:RP r2 n) (hp2:RP r3 n)=>(show Value.int .i64 (IntKind.i64.wrap ((r3.pos:Int)+1))=.int .i64 ((r3.pos:Int)+1)from iw (w64 (by omega) (by have:=hp2.2;have:=h.lns.bd;omega)))
 have c152f:=fun(hp0:RP r n) (hp1:RP r2 n) (hp2:RP r3 n)=>inPan w g (inS g gc gd s) A n c r3.pos ((fin hp0.1 hp1.1 hp2.1).trans (endR_yes h.lns.wds.len heb))
 have z3f:=fun(_:RP r n) (_:RP r2 n) (_:RP r3 n)=>trivial
 have z5f:=fun(_:RP r n) (_:RP r2 n) (_:¬(RP r3 n))=>trivial
 refine in_walk h [(12,.callG (lnG 0 g A n c r strV)),(20,.bin (.bool false)),(33,.bin (.bool true)),(35,.callG (lnG 0 g A n c r2 pxV)),(43,.callG (lnG 0 g A n c r3 intV)),(145,.is (.bool true)),(151,.is (.int .i64 ((r3.pos:Int)+1))),(152,.callP)] [] (by kernel_rfl) Tryz.func131 rfl (Nat.le_of_ble_eq_true rfl) ?_
 exact Eq.mp (by kernel_rfl) (And.intro c12 (fun(hx0:r.okB=true∧r.pos≤n)=>(Sx.t2 (c20f hx0) (c33f hx0) (And.intro (c35f hx0) (fun(hx1:r2.okB=true∧r2.pos≤n)=>(Sx.t2 (c43f hx0 hx1) (fun(hx2:r3.okB=true∧r3.pos≤n)=>(Sx.t4 (c46f hx0 hx1 hx2) (c145f hx0 hx1 hx2) (c151f hx0 hx1 hx2) (c152f hx0 hx1 hx2) (z3f hx0 hx1 hx2))) (fun(hx4:¬(r3.okB=true∧r3.pos≤n))=>(z5f hx0 hx1 hx4))))))))
theorem in_route0{r:Out Bs}{r2:Out Px}{r3:Out Nat}(h:InH w g gc gd A n c i ws cf d s)
  (nc12:LnK 154 g A n c i ws strV r)
  (noc12:NoK r T)
  (k0:decide (r.val=kPort)=false)
  (k1:decide (r.val=kRoute)=true)
  (nc35:r.okB=true→LnK 187 g A n c r.pos ws pxV r2)
  (noc35:r.okB=true→NoK r2 T)
  (nc43:r.okB=true→r2.okB=true→LnK 186 g A n c r2.pos ws intV r3)
  (noc43:r.okB=true→r2.okB=true→NoK r3 T)
  (fin:r.okB=true→r2.okB=true→r3.okB=true→T=endR ws ({ cf with routes:=cf.routes++[⟨r2.val,(r3.val:Int)⟩] }:CF) r3.pos)
  (heb:decide (r3.pos < n)=false) :
  Calls Tryz.prog 131 (inA g gc gd) w (InPost g gc gd A n c T d (inS g gc gd s) w):=by
 have c12:=ln_sts (T:=T) 0 (inM g gc gd A n c cf d i (rowsC cf++[])) [] h.lns h.lns.le (noc12 ) rfl (nc12 )
 have c20f:=fun(_:RP r n)=>fun W=>str_eq (.tmp 12) (.const (strV kPort)) r.val kPort false k0 W
 have c33f:=fun(_:RP r n)=>fun W=>str_eq (.tmp 12) (.const (strV kRoute)) r.val kRoute true k1 W
 have c35f:=fun(hp0:RP r n)=>ln_sts (T:=T) 0 (inM g gc gd A n c cf d r.pos (rowsC cf++[])) [] h.lns hp0.2 (noc35 hp0.1) rfl (nc35 hp0.1)
 have c43f:=fun(hp0:RP r n) (hp1:RP r2 n)=>ln_sts (T:=T) 0 (inM g gc gd A n c cf d r2.pos (rowsC cf++[⟨29,.vals r2.val.cells⟩])) [] h.lns hp1.2 (noc43 hp0.1 hp1.1) rfl (nc43 hp0.1 hp1.1)
 have c46f:=fun(_:RP r n) (_:RP r2 n) (_:RP r3 n)=>app_ob (cells:=(Rt.cells ⟨r2.val,(r3.val:Int)⟩)) (size:=19) (B:=bytesOf 118) (by kernel_rfl) (by kernel_rfl) h.few.2.1 bytes_le.2.1
 have c145f:=fun(_:RP r n) (_:RP r2 n) (_:RP r3 n)=>ltB heb
 have z3f:=fun(hp0:RP r n) (hp1:RP r2 n) (hp2:RP r3 n)=>(show InR g gc gd A n c T d [] (⟨154,.giv g (lnC A n c r3.pos)⟩::⟨46,.gvs gc [.own 3,.own 10,.own 5,.own 6,.own 7,.val (.int .i64 cf.dflt)]⟩::⟨3,.giv gd [.int .i64 (d:Int)]⟩::([⟨3,.own 1 cf.ports.length cf.cp⟩,Sx.deadRow,⟨81,.own 49 cf.rules.length cf.cl⟩,⟨122,.own 4 cf.meters.length cf.cm⟩,⟨124,.own 3 cf.mirrors.length cf.ci⟩]++[⟨29,.vals r2.val.cells⟩,⟨118,.vals (Rt.cells ⟨r2.val,(r3.val:Int)⟩)⟩,⟨118,.own 19 (cf.routes.length+1) (cf.cr++(Rt.cells ⟨r2.val,(r3.val:Int)⟩))⟩]))from⟨({ cf with routes:=cf.routes++[⟨r2.val,(r3.val:Int)⟩] }:CF),r3.pos,3,10,5,6,7,(fin hp0.1 hp1.1 hp2.1).trans (endR_no h.lns.wds.len heb),hp2.2,rfl,rfl,rfl,rfl,rfl,(show some (⟨118,.own 19 (cf.routes.length+1) (cf.cr++(Rt.cells ⟨r2.val,(r3.val:Int)⟩))⟩:Sx.Row)=some ⟨118,.own 19 ({ cf with routes:=cf.routes++[⟨r2.val,(r3.val:Int)⟩] }:CF).routes.length ({ cf with routes:=cf.routes++[⟨r2.val,(r3.val:Int)⟩] }:CF).cr⟩from by simp[CF.cr]),rfl,rfl,rfl⟩)
 have z5f:=fun(_:RP r n) (_:RP r2 n) (_:¬(RP r3 n))=>trivial
 refine in_walk h [(12,.callG (lnG 0 g A n c r strV)),(20,.bin (.bool false)),(33,.bin (.bool true)),(35,.callG (lnG 0 g A n c r2 pxV)),(43,.callG (lnG 0 g A n c r3 intV)),(145,.is (.bool false))] [] (by kernel_rfl) Tryz.func131 rfl (Nat.le_of_ble_eq_true rfl) ?_
 exact Eq.mp (by kernel_rfl) (And.intro c12 (fun(hx0:r.okB=true∧r.pos≤n)=>(Sx.t2 (c20f hx0) (c33f hx0) (And.intro (c35f hx0) (fun(hx1:r2.okB=true∧r2.pos≤n)=>(Sx.t2 (c43f hx0 hx1) (fun(hx2:r3.okB=true∧r3.pos≤n)=>(Sx.t2 (c46f hx0 hx1 hx2) (c145f hx0 hx1 hx2) (z3f hx0 hx1 hx2))) (fun(hx4:¬(r3.okB=true∧r3.pos≤n))=>(z5f hx0 hx1 hx4))))))))
theorem in_meter1{r:Out Bs}{r2:Out Bs}{r3:Out Nat}{r4:Out Nat}{r5:Out Nat}(h:InH w g gc gd A n c i ws cf d s)
  (nc12:LnK 154 g A n c i ws strV r)
  (noc12:NoK r T)
  (k0:decide (r.val=kPort)=false)
  (k1:decide (r.val=kRoute)=false)
  (k2:decide (r.val=kMeter)=true)
  (nc52:r.okB=true→LnK 188 g A n c r.pos ws strV r2)
  (noc52:r.okB=true→NoK r2 T)
  (nc68x:r.okB=true→r2.okB=true→∀W,Lin W g A n c r2.pos ws→Calls Tryz.prog 189 (.pointer (some ⟨g,0,none⟩)::[.int .u64 ((18446744073709551615:Nat):Int)]).toArray W (LnPost g A n c natV r3 W))
  (noc68x:r.okB=true→r2.okB=true→NoK r3 T)
  (nc68_2:r.okB=true→r2.okB=true→r3.okB=true→∀W,Lin W g A n c r3.pos ws→Calls Tryz.prog 189 (.pointer (some ⟨g,0,none⟩)::[.int .u64 ((18446744073709551615:Nat):Int)]).toArray W (LnPost g A n c natV r4 W))
  (noc68_2:r.okB=true→r2.okB=true→r3.okB=true→NoK r4 T)
  (nc68_3:r.okB=true→r2.okB=true→r3.okB=true→r4.okB=true→∀W,Lin W g A n c r4.pos ws→Calls Tryz.prog 189 (.pointer (some ⟨g,0,none⟩)::[.int .u64 ((18446744073709551615:Nat):Int)]).toArray W (LnPost g A n c natV r5 W))
  (noc68_3:r.okB=true→r2.okB=true→r3.okB=true→r4.okB=true→NoK r5 T)
  (fin:r.okB=true→r2.okB=true→r3.okB=true→r4.okB=true→r5.okB=true→T=endR ws ({ cf with meters:=cf.meters++[⟨r2.val,r3.val,r4.val,r5.val⟩] }:CF) r5.pos)
  (heb:decide (r5.pos < n)=true) :
  Calls Tryz.prog 131 (inA g gc gd) w (InPost g gc gd A n c T d (inS g gc gd s) w):=by
 have c12:=ln_sts (T:=T) 0 (inM g gc gd A n c cf d i (rowsC cf++[])) [] h.lns h.lns.le (noc12 ) rfl (nc12 )
 have c20f:=fun(_:RP r n)=>fun W=>str_eq (.tmp 12) (.const (strV kPort)) r.val kPort false k0 W
 have c33f:=fun(_:RP r n)=>fun W=>str_eq (.tmp 12) (.const (strV kRoute)) r.val kRoute false k1 W
 have c50f:=fun(_:RP r n)=>fun W=>str_eq (.tmp 12) (.const (strV kMeter)) r.val kMeter true k2 W
 have c52f:=fun(hp0:RP r n)=>ln_sts (T:=T) 0 (inM g gc gd A n c cf d r.pos (rowsC cf++[])) [] h.lns hp0.2 (noc52 hp0.1) rfl (nc52 hp0.1)
 have c68f:=fun(hp0:RP r n) (hp1:RP r2 n)=>ln_sts (T:=T) 0 (inM g gc gd A n c cf d r2.pos (rowsC cf++[⟨122,.vals (Me.cells ⟨r2.val,0,0,0⟩)⟩,⟨253,.svs [.ptr 8 1,.ptr 8 2,.ptr 8 3]⟩])) [.int .u64 ((18446744073709551615:Nat):Int)] h.lns hp1.2 (noc68x hp0.1 hp1.1) rfl (nc68x hp0.1 hp1.1)
 have c68_2f:=fun(hp0:RP r n) (hp1:RP r2 n) (hp2:RP r3 n)=>ln_sts (T:=T) 0 (inM g gc gd A n c cf d r3.pos (rowsC cf++[⟨122,.vals (Me.cells ⟨r2.val,r3.val,0,0⟩)⟩,⟨253,.svs [.ptr 8 1,.ptr 8 2,.ptr 8 3]⟩])) [.int .u64 ((18446744073709551615:Nat):Int)] h.lns hp2.2 (noc68_2 hp0.1 hp1.1 hp2.1) rfl (nc68_2 hp0.1 hp1.1 hp2.1)
 have c68_3f:=fun(hp0:RP r n) (hp1:RP r2 n) (hp2:RP r3 n) (hp3:RP r4 n)=>ln_sts (T:=T) 0 (inM g gc gd A n c cf d r4.pos (rowsC cf++[⟨122,.vals (Me.cells ⟨r2.val,r3.val,r4.val,0⟩)⟩,⟨253,.svs [.ptr 8 1,.ptr 8 2,.ptr 8 3]⟩])) [.int .u64 ((18446744073709551615:Nat):Int)] h.lns hp3.2 (noc68_3 hp0.1 hp1.1 hp2.1 hp3.1) rfl (nc68_3 hp0.1 hp1.1 hp2.1 hp3.1)
 have c78f:=fun(_:RP r n) (_:RP r2 n) (_:RP r3 n) (_:RP r4 n) (_:RP r5 n)=>app_ob (cells:=(Me.cells ⟨r2.val,r3.val,r4.val,r5.val⟩)) (size:=4) (B:=bytesOf 122) (by kernel_rfl) (by kernel_rfl) h.few.2.2.2.1 bytes_le.2.2.2.1
 have c145f:=fun(_:RP r n) (_:RP r2 n) (_:RP r3 n) (_:RP r4 n) (_:RP r5 n)=>ltB heb
 have c151f:=fun(hp0:RP r n) (hp1:RP r2 n) (hp2:RP r3 n) (hp3:RP r4 n) (hp4:RP r5 n)=>(show Value.int .i64 (IntKind.i64.wrap ((r5.pos:Int)+1))=.int .i64 ((r5.pos:Int)+1)from iw (w64 (by omega) (by have:=hp4.2;have:=h.lns.bd;omega)))
 have c152f:=fun(hp0:RP r n) (hp1:RP r2 n) (hp2:RP r3 n) (hp3:RP r4 n) (hp4:RP r5 n)=>inPan w g (inS g gc gd s) A n c r5.pos ((fin hp0.1 hp1.1 hp2.1 hp3.1 hp4.1).trans (endR_yes h.lns.wds.len heb))
 have z5f:=fun(_:RP r n) (_:RP r2 n) (_:RP r3 n) (_:RP r4 n) (_:RP r5 n)=>trivial
 refine in_walk h [(12,.callG (lnG 0 g A n c r strV)),(20,.bin (.bool false)),(33,.bin (.bool false)),(50,.bin (.bool true)),(52,.callG (lnG 0 g A n c r2 strV)),(145,.is (.bool true)),(151,.is (.int .i64 ((r5.pos:Int)+1))),(152,.callP)] [.times [[(68,.callG (lnG 0 g A n c r3 natV))],[(68,.callG (lnG 0 g A n c r4 natV))],[(68,.callG (lnG 0 g A n c r5 natV))],[]]] (by kernel_rfl) Tryz.func131 rfl (Nat.le_of_ble_eq_true rfl) ?_
 exact Eq.mp (by kernel_rfl) (And.intro c12 (fun(hx0:r.okB=true∧r.pos≤n)=>(Sx.t4 (c20f hx0) (c33f hx0) (c50f hx0) (c52f hx0) (fun(hx1:r2.okB=true∧r2.pos≤n)=>(And.intro (c68f hx0 hx1) (fun(hx2:r3.okB=true∧r3.pos≤n)=>(And.intro (c68_2f hx0 hx1 hx2) (fun(hx3:r4.okB=true∧r4.pos≤n)=>(And.intro (c68_3f hx0 hx1 hx2 hx3) (fun(hx4:r5.okB=true∧r5.pos≤n)=>(Sx.t4 (c78f hx0 hx1 hx2 hx3 hx4) (c145f hx0 hx1 hx2 hx3 hx4) (c151f hx0 hx1 hx2 hx3 hx4) (c152f hx0 hx1 hx2 hx3 hx4) (z5f hx0 hx1 hx2 hx3 hx4))))))))))))
theorem in_meter0{r:Out Bs}{r2:Out Bs}{r3:Out Nat}{r4:Out Nat}{r5:Out Nat}(h:InH w g gc gd A n c i ws cf d s)
  (nc12:LnK 154 g A n c i ws strV r)
  (noc12:NoK r T)
  (k0:decide (r.val=kPort)=false)
  (k1:decide (r.val=kRoute)=false)
  (k2:decide (r.val=kMeter)=true)
  (nc52:r.okB=true→LnK 188 g A n c r.pos ws strV r2)
  (noc52:r.okB=true→NoK r2 T)
  (nc68x:r.okB=true→r2.okB=true→∀W,Lin W g A n c r2.pos ws→Calls Tryz.prog 189 (.pointer (some ⟨g,0,none⟩)::[.int .u64 ((18446744073709551615:Nat):Int)]).toArray W (LnPost g A n c natV r3 W))
  (noc68x:r.okB=true→r2.okB=true→NoK r3 T)
  (nc68_2:r.okB=true→r2.okB=true→r3.okB=true→∀W,Lin W g A n c r3.pos ws→Calls Tryz.prog 189 (.pointer (some ⟨g,0,none⟩)::[.int .u64 ((18446744073709551615:Nat):Int)]).toArray W (LnPost g A n c natV r4 W))
  (noc68_2:r.okB=true→r2.okB=true→r3.okB=true→NoK r4 T)
  (nc68_3:r.okB=true→r2.okB=true→r3.okB=true→r4.okB=true→∀W,Lin W g A n c r4.pos ws→Calls Tryz.prog 189 (.pointer (some ⟨g,0,none⟩)::[.int .u64 ((18446744073709551615:Nat):Int)]).toArray W (LnPost g A n c natV r5 W))
  (noc68_3:r.okB=true→r2.okB=true→r3.okB=true→r4.okB=true→NoK r5 T)
  (fin:r.okB=true→r2.okB=true→r3.okB=true→r4.okB=true→r5.okB=true→T=endR ws ({ cf with meters:=cf.meters++[⟨r2.val,r3.val,r4.val,r5.val⟩] }:CF) r5.pos)
  (heb:decide (r5.pos < n)=false) :
  Calls Tryz.prog 131 (inA g gc gd) w (InPost g gc gd A n c T d (inS g gc gd s) w):=by
 have c12:=ln_sts (T:=T) 0 (inM g gc gd A n c cf d i (rowsC cf++[])) [] h.lns h.lns.le (noc12 ) rfl (nc12 )
 have c20f:=fun(_:RP r n)=>fun W=>str_eq (.tmp 12) (.const (strV kPort)) r.val kPort false k0 W
 have c33f:=fun(_:RP r n)=>fun W=>str_eq (.tmp 12) (.const (strV kRoute)) r.val kRoute false k1 W
 have c50f:=fun(_:RP r n)=>fun W=>str_eq (.tmp 12) (.const (strV kMeter)) r.val kMeter true k2 W
 have c52f:=fun(hp0:RP r n)=>ln_sts (T:=T) 0 (inM g gc gd A n c cf d r.pos (rowsC cf++[])) [] h.lns hp0.2 (noc52 hp0.1) rfl (nc52 hp0.1)
 have c68f:=fun(hp0:RP r n) (hp1:RP r2 n)=>ln_sts (T:=T) 0 (inM g gc gd A n c cf d r2.pos (rowsC cf++[⟨122,.vals (Me.cells ⟨r2.val,0,0,0⟩)⟩,⟨253,.svs [.ptr 8 1,.ptr 8 2,.ptr 8 3]⟩])) [.int .u64 ((18446744073709551615:Nat):Int)] h.lns hp1.2 (noc68x hp0.1 hp1.1) rfl (nc68x hp0.1 hp1.1)
 have c68_2f:=fun(hp0:RP r n) (hp1:RP r2 n) (hp2:RP r3 n)=>ln_sts (T:=T) 0 (inM g gc gd A n c cf d r3.pos (rowsC cf++[⟨122,.vals (Me.cells ⟨r2.val,r3.val,0,0⟩)⟩,⟨253,.svs [.ptr 8 1,.ptr 8 2,.ptr 8 3]⟩])) [.int .u64 ((18446744073709551615:Nat):Int)] h.lns hp2.2 (noc68_2 hp0.1 hp1.1 hp2.1) rfl (nc68_2 hp0.1 hp1.1 hp2.1)
 have c68_3f:=fun(hp0:RP r n) (hp1:RP r2 n) (hp2:RP r3 n) (hp3:RP r4 n)=>ln_sts (T:=T) 0 (inM g gc gd A n c cf d r4.pos (rowsC cf++[⟨122,.vals (Me.cells ⟨r2.val,r3.val,r4.val,0⟩)⟩,⟨253,.svs [.ptr 8 1,.ptr 8 2,.ptr 8 3]⟩])) [.int .u64 ((18446744073709551615:Nat):Int)] h.lns hp3.2 (noc68_3 hp0.1 hp1.1 hp2.1 hp3.1) rfl (nc68_3 hp0.1 hp1.1 hp2.1 hp3.1)
 have c78f:=fun(_:RP r n) (_:RP r2 n) (_:RP r3 n) (_:RP r4 n) (_:RP r5 n)=>app_ob (cells:=(Me.cells ⟨r2.val,r3.val,r4.val,r5.val⟩)) (size:=4) (B:=bytesOf 122) (by kernel_rfl) (by kernel_rfl) h.few.2.2.2.1 bytes_le.2.2.2.1
 have c145f:=fun(_:RP r n) (_:RP r2 n) (_:RP r3 n) (_:RP r4 n) (_:RP r5 n)=>ltB heb
 have z5f:=fun(hp0:RP r n) (hp1:RP r2 n) (hp2:RP r3 n) (hp3:RP r4 n) (hp4:RP r5 n)=>(show InR g gc gd A n c T d [] (⟨154,.giv g (lnC A n c r5.pos)⟩::⟨46,.gvs gc [.own 3,.own 4,.own 5,.own 11,.own 7,.val (.int .i64 cf.dflt)]⟩::⟨3,.giv gd [.int .i64 (d:Int)]⟩::([⟨3,.own 1 cf.ports.length cf.cp⟩,⟨118,.own 19 cf.routes.length cf.cr⟩,⟨81,.own 49 cf.rules.length cf.cl⟩,Sx.deadRow,⟨124,.own 3 cf.mirrors.length cf.ci⟩]++[⟨122,.vals (Me.cells ⟨r2.val,r3.val,r4.val,r5.val⟩)⟩,⟨253,.svs [.ptr 8 1,.ptr 8 2,.ptr 8 3]⟩,⟨122,.vals (Me.cells ⟨r2.val,r3.val,r4.val,r5.val⟩)⟩,⟨122,.own 4 (cf.meters.length+1) (cf.cm++(Me.cells ⟨r2.val,r3.val,r4.val,r5.val⟩))⟩]))from⟨({ cf with meters:=cf.meters++[⟨r2.val,r3.val,r4.val,r5.val⟩] }:CF),r5.pos,3,4,5,11,7,(fin hp0.1 hp1.1 hp2.1 hp3.1 hp4.1).trans (endR_no h.lns.wds.len heb),hp4.2,rfl,rfl,rfl,rfl,rfl,rfl,rfl,(show some (⟨122,.own 4 (cf.meters.length+1) (cf.cm++(Me.cells ⟨r2.val,r3.val,r4.val,r5.val⟩))⟩:Sx.Row)=some ⟨122,.own 4 ({ cf with meters:=cf.meters++[⟨r2.val,r3.val,r4.val,r5.val⟩] }:CF).meters.length ({ cf with meters:=cf.meters++[⟨r2.val,r3.val,r4.val,r5.val⟩] }:CF).cm⟩from by simp[CF.cm]),rfl⟩)
 refine in_walk h [(12,.callG (lnG 0 g A n c r strV)),(20,.bin (.bool false)),(33,.bin (.bool false)),(50,.bin (.bool true)),(52,.callG (lnG 0 g A n c r2 strV)),(145,.is (.bool false))] [.times [[(68,.callG (lnG 0 g A n c r3 natV))],[(68,.callG (lnG 0 g A n c r4 natV))],[(68,.callG (lnG 0 g A n c r5 natV))],[]]] (by kernel_rfl) Tryz.func131 rfl (Nat.le_of_ble_eq_true rfl) ?_
 exact Eq.mp (by kernel_rfl) (And.intro c12 (fun(hx0:r.okB=true∧r.pos≤n)=>(Sx.t4 (c20f hx0) (c33f hx0) (c50f hx0) (c52f hx0) (fun(hx1:r2.okB=true∧r2.pos≤n)=>(And.intro (c68f hx0 hx1) (fun(hx2:r3.okB=true∧r3.pos≤n)=>(And.intro (c68_2f hx0 hx1 hx2) (fun(hx3:r4.okB=true∧r4.pos≤n)=>(And.intro (c68_3f hx0 hx1 hx2 hx3) (fun(hx4:r5.okB=true∧r5.pos≤n)=>(Sx.t2 (c78f hx0 hx1 hx2 hx3 hx4) (c145f hx0 hx1 hx2 hx3 hx4) (z5f hx0 hx1 hx2 hx3 hx4))))))))))))
theorem in_mirror1{r:Out Bs}{r2:Out Bs}{r3:Out Nat}{r4:Out Nat}(h:InH w g gc gd A n c i ws cf d s)
  (nc12:LnK 154 g A n c i ws strV r)
  (noc12:NoK r T)
  (k0:decide (r.val=kPort)=false)
  (k1:decide (r.val=kRoute)=false)
  (k2:decide (r.val=kMeter)=false)
  (k3:decide (r.val=kMirror)=true)
  (nc84:r.okB=true→LnK 188 g A n c r.pos ws strV r2)
  (noc84:r.okB=true→NoK r2 T)
  (nc87:r.okB=true→r2.okB=true→LnK 186 g A n c r2.pos ws intV r3)
  (noc87:r.okB=true→r2.okB=true→NoK r3 T)
  (nc90:r.okB=true→r2.okB=true→r3.okB=true→LnK 186 g A n c r3.pos ws intV r4)
  (noc90:r.okB=true→r2.okB=true→r3.okB=true→NoK r4 T)
  (fin:r.okB=true→r2.okB=true→r3.okB=true→r4.okB=true→T=endR ws ({ cf with mirrors:=cf.mirrors++[⟨r2.val,(r3.val:Int),(r4.val:Int)⟩] }:CF) r4.pos)
  (heb:decide (r4.pos < n)=true) :
  Calls Tryz.prog 131 (inA g gc gd) w (InPost g gc gd A n c T d (inS g gc gd s) w):=by
 have c12:=ln_sts (T:=T) 0 (inM g gc gd A n c cf d i (rowsC cf++[])) [] h.lns h.lns.le (noc12 ) rfl (nc12 )
 have c20f:=fun(_:RP r n)=>fun W=>str_eq (.tmp 12) (.const (strV kPort)) r.val kPort false k0 W
 have c33f:=fun(_:RP r n)=>fun W=>str_eq (.tmp 12) (.const (strV kRoute)) r.val kRoute false k1 W
 have c50f:=fun(_:RP r n)=>fun W=>str_eq (.tmp 12) (.const (strV kMeter)) r.val kMeter false k2 W
 have c82f:=fun(_:RP r n)=>fun W=>str_eq (.tmp 12) (.const (strV kMirror)) r.val kMirror true k3 W
 have c84f:=fun(hp0:RP r n)=>ln_sts (T:=T) 0 (inM g gc gd A n c cf d r.pos (rowsC cf++[])) [] h.lns hp0.2 (noc84 hp0.1) rfl (nc84 hp0.1)
 have c87f:=fun(hp0:RP r n) (hp1:RP r2 n)=>ln_sts (T:=T) 0 (inM g gc gd A n c cf d r2.pos (rowsC cf++[⟨124,.vals (Mi.cells ⟨r2.val,0,0⟩)⟩])) [] h.lns hp1.2 (noc87 hp0.1 hp1.1) rfl (nc87 hp0.1 hp1.1)
 have c90f:=fun(hp0:RP r n) (hp1:RP r2 n) (hp2:RP r3 n)=>ln_sts (T:=T) 0 (inM g gc gd A n c cf d r3.pos (rowsC cf++[⟨124,.vals (Mi.cells ⟨r2.val,(r3.val:Int),0⟩)⟩])) [] h.lns hp2.2 (noc90 hp0.1 hp1.1 hp2.1) rfl (nc90 hp0.1 hp1.1 hp2.1)
 have c99f:=fun(_:RP r n) (_:RP r2 n) (_:RP r3 n) (_:RP r4 n)=>app_ob (cells:=(Mi.cells ⟨r2.val,(r3.val:Int),(r4.val:Int)⟩)) (size:=3) (B:=bytesOf 124) (by kernel_rfl) (by kernel_rfl) h.few.2.2.2.2 bytes_le.2.2.2.2
 have c145f:=fun(_:RP r n) (_:RP r2 n) (_:RP r3 n) (_:RP r4 n)=>ltB heb
 have c151f:=fun(hp0:RP r n) (hp1:RP r2 n) (hp2:RP r3 n) (hp3:RP r4 n)=>(show Value.int .i64 (IntKind.i64.wrap ((r4.pos:Int)+1))=.int .i64 ((r4.pos:Int)+1)from iw (w64 (by omega) (by have:=hp3.2;have:=h.lns.bd;omega)))
 have c152f:=fun(hp0:RP r n) (hp1:RP r2 n) (hp2:RP r3 n) (hp3:RP r4 n)=>inPan w g (inS g gc gd s) A n c r4.pos ((fin hp0.1 hp1.1 hp2.1 hp3.1).trans (endR_yes h.lns.wds.len heb))
 have z4f:=fun(_:RP r n) (_:RP r2 n) (_:RP r3 n) (_:RP r4 n)=>trivial
 refine in_walk h [(12,.callG (lnG 0 g A n c r strV)),(20,.bin (.bool false)),(33,.bin (.bool false)),(50,.bin (.bool false)),(82,.bin (.bool true)),(84,.callG (lnG 0 g A n c r2 strV)),(87,.callG (lnG 0 g A n c r3 intV)),(90,.callG (lnG 0 g A n c r4 intV)),(145,.is (.bool true)),(151,.is (.int .i64 ((r4.pos:Int)+1))),(152,.callP)] [] (by kernel_rfl) Tryz.func131 rfl (Nat.le_of_ble_eq_true rfl) ?_
 exact Eq.mp (by kernel_rfl) (And.intro c12 (fun(hx0:r.okB=true∧r.pos≤n)=>(Sx.t4 (c20f hx0) (c33f hx0) (c50f hx0) (c82f hx0) (And.intro (c84f hx0) (fun(hx1:r2.okB=true∧r2.pos≤n)=>(And.intro (c87f hx0 hx1) (fun(hx2:r3.okB=true∧r3.pos≤n)=>(And.intro (c90f hx0 hx1 hx2) (fun(hx3:r4.okB=true∧r4.pos≤n)=>(Sx.t4 (c99f hx0 hx1 hx2 hx3) (c145f hx0 hx1 hx2 hx3) (c151f hx0 hx1 hx2 hx3) (c152f hx0 hx1 hx2 hx3) (z4f hx0 hx1 hx2 hx3)))))))))))
theorem in_mirror0{r:Out Bs}{r2:Out Bs}{r3:Out Nat}{r4:Out Nat}(h:InH w g gc gd A n c i ws cf d s)
  (nc12:LnK 154 g A n c i ws strV r)
  (noc12:NoK r T)
  (k0:decide (r.val=kPort)=false)
  (k1:decide (r.val=kRoute)=false)
  (k2:decide (r.val=kMeter)=false)
  (k3:decide (r.val=kMirror)=true)
  (nc84:r.okB=true→LnK 188 g A n c r.pos ws strV r2)
  (noc84:r.okB=true→NoK r2 T)
  (nc87:r.okB=true→r2.okB=true→LnK 186 g A n c r2.pos ws intV r3)
  (noc87:r.okB=true→r2.okB=true→NoK r3 T)
  (nc90:r.okB=true→r2.okB=true→r3.okB=true→LnK 186 g A n c r3.pos ws intV r4)
  (noc90:r.okB=true→r2.okB=true→r3.okB=true→NoK r4 T)
  (fin:r.okB=true→r2.okB=true→r3.okB=true→r4.okB=true→T=endR ws ({ cf with mirrors:=cf.mirrors++[⟨r2.val,(r3.val:Int),(r4.val:Int)⟩] }:CF) r4.pos)
  (heb:decide (r4.pos < n)=false) :
  Calls Tryz.prog 131 (inA g gc gd) w (InPost g gc gd A n c T d (inS g gc gd s) w):=by
 have c12:=ln_sts (T:=T) 0 (inM g gc gd A n c cf d i (rowsC cf++[])) [] h.lns h.lns.le (noc12 ) rfl (nc12 )
 have c20f:=fun(_:RP r n)=>fun W=>str_eq (.tmp 12) (.const (strV kPort)) r.val kPort false k0 W
 have c33f:=fun(_:RP r n)=>fun W=>str_eq (.tmp 12) (.const (strV kRoute)) r.val kRoute false k1 W
 have c50f:=fun(_:RP r n)=>fun W=>str_eq (.tmp 12) (.const (strV kMeter)) r.val kMeter false k2 W
 have c82f:=fun(_:RP r n)=>fun W=>str_eq (.tmp 12) (.const (strV kMirror)) r.val kMirror true k3 W
 have c84f:=fun(hp0:RP r n)=>ln_sts (T:=T) 0 (inM g gc gd A n c cf d r.pos (rowsC cf++[])) [] h.lns hp0.2 (noc84 hp0.1) rfl (nc84 hp0.1)
 have c87f:=fun(hp0:RP r n) (hp1:RP r2 n)=>ln_sts (T:=T) 0 (inM g gc gd A n c cf d r2.pos (rowsC cf++[⟨124,.vals (Mi.cells ⟨r2.val,0,0⟩)⟩])) [] h.lns hp1.2 (noc87 hp0.1 hp1.1) rfl (nc87 hp0.1 hp1.1)
 have c90f:=fun(hp0:RP r n) (hp1:RP r2 n) (hp2:RP r3 n)=>ln_sts (T:=T) 0 (inM g gc gd A n c cf d r3.pos (rowsC cf++[⟨124,.vals (Mi.cells ⟨r2.val,(r3.val:Int),0⟩)⟩])) [] h.lns hp2.2 (noc90 hp0.1 hp1.1 hp2.1) rfl (nc90 hp0.1 hp1.1 hp2.1)
 have c99f:=fun(_:RP r n) (_:RP r2 n) (_:RP r3 n) (_:RP r4 n)=>app_ob (cells:=(Mi.cells ⟨r2.val,(r3.val:Int),(r4.val:Int)⟩)) (size:=3) (B:=bytesOf 124) (by kernel_rfl) (by kernel_rfl) h.few.2.2.2.2 bytes_le.2.2.2.2
 have c145f:=fun(_:RP r n) (_:RP r2 n) (_:RP r3 n) (_:RP r4 n)=>ltB heb
 have z4f:=fun(hp0:RP r n) (hp1:RP r2 n) (hp2:RP r3 n) (hp3:RP r4 n)=>(show InR g gc gd A n c T d [] (⟨154,.giv g (lnC A n c r4.pos)⟩::⟨46,.gvs gc [.own 3,.own 4,.own 5,.own 6,.own 10,.val (.int .i64 cf.dflt)]⟩::⟨3,.giv gd [.int .i64 (d:Int)]⟩::([⟨3,.own 1 cf.ports.length cf.cp⟩,⟨118,.own 19 cf.routes.length cf.cr⟩,⟨81,.own 49 cf.rules.length cf.cl⟩,⟨122,.own 4 cf.meters.length cf.cm⟩,Sx.deadRow]++[⟨124,.vals (Mi.cells ⟨r2.val,(r3.val:Int),(r4.val:Int)⟩)⟩,⟨124,.vals (Mi.cells ⟨r2.val,(r3.val:Int),(r4.val:Int)⟩)⟩,⟨124,.own 3 (cf.mirrors.length+1) (cf.ci++(Mi.cells ⟨r2.val,(r3.val:Int),(r4.val:Int)⟩))⟩]))from⟨({ cf with mirrors:=cf.mirrors++[⟨r2.val,(r3.val:Int),(r4.val:Int)⟩] }:CF),r4.pos,3,4,5,6,10,(fin hp0.1 hp1.1 hp2.1 hp3.1).trans (endR_no h.lns.wds.len heb),hp3.2,rfl,rfl,rfl,rfl,rfl,rfl,rfl,rfl,(show some (⟨124,.own 3 (cf.mirrors.length+1) (cf.ci++(Mi.cells ⟨r2.val,(r3.val:Int),(r4.val:Int)⟩))⟩:Sx.Row)=some ⟨124,.own 3 ({ cf with mirrors:=cf.mirrors++[⟨r2.val,(r3.val:Int),(r4.val:Int)⟩] }:CF).mirrors.length ({ cf with mirrors:=cf.mirrors++[⟨r2.val,(r3.val:Int),(r4.val:Int)⟩] }:CF).ci⟩from by simp[CF.ci])⟩)
 refine in_walk h [(12,.callG (lnG 0 g A n c r strV)),(20,.bin (.bool false)),(33,.bin (.bool false)),(50,.bin (.bool false)),(82,.bin (.bool true)),(84,.callG (lnG 0 g A n c r2 strV)),(87,.callG (lnG 0 g A n c r3 intV)),(90,.callG (lnG 0 g A n c r4 intV)),(145,.is (.bool false))] [] (by kernel_rfl) Tryz.func131 rfl (Nat.le_of_ble_eq_true rfl) ?_
 exact Eq.mp (by kernel_rfl) (And.intro c12 (fun(hx0:r.okB=true∧r.pos≤n)=>(Sx.t4 (c20f hx0) (c33f hx0) (c50f hx0) (c82f hx0) (And.intro (c84f hx0) (fun(hx1:r2.okB=true∧r2.pos≤n)=>(And.intro (c87f hx0 hx1) (fun(hx2:r3.okB=true∧r3.pos≤n)=>(And.intro (c90f hx0 hx1 hx2) (fun(hx3:r4.okB=true∧r4.pos≤n)=>(Sx.t2 (c99f hx0 hx1 hx2 hx3) (c145f hx0 hx1 hx2 hx3) (z4f hx0 hx1 hx2 hx3)))))))))))
theorem in_rule1{r:Out Bs}{r2:Out Rl}(h:InH w g gc gd A n c i ws cf d s)
  (nc12:LnK 154 g A n c i ws strV r)
  (noc12:NoK r T)
  (k0:decide (r.val=kPort)=false)
  (k1:decide (r.val=kRoute)=false)
  (k2:decide (r.val=kMeter)=false)
  (k3:decide (r.val=kMirror)=false)
  (k4:decide (r.val=kRule)=true)
  (nc110:r.okB=true→LnK 190 g A n c r.pos ws rlV r2)
  (noc110:r.okB=true→NoK r2 T)
  (fin:r.okB=true→r2.okB=true→T=endR ws ({ cf with rules:=cf.rules++[r2.val] }:CF) r2.pos)
  (heb:decide (r2.pos < n)=true) :
  Calls Tryz.prog 131 (inA g gc gd) w (InPost g gc gd A n c T d (inS g gc gd s) w):=by
 have c12:=ln_sts (T:=T) 0 (inM g gc gd A n c cf d i (rowsC cf++[])) [] h.lns h.lns.le (noc12 ) rfl (nc12 )
 have c20f:=fun(_:RP r n)=>fun W=>str_eq (.tmp 12) (.const (strV kPort)) r.val kPort false k0 W
 have c33f:=fun(_:RP r n)=>fun W=>str_eq (.tmp 12) (.const (strV kRoute)) r.val kRoute false k1 W
 have c50f:=fun(_:RP r n)=>fun W=>str_eq (.tmp 12) (.const (strV kMeter)) r.val kMeter false k2 W
 have c82f:=fun(_:RP r n)=>fun W=>str_eq (.tmp 12) (.const (strV kMirror)) r.val kMirror false k3 W
 have c103f:=fun(_:RP r n)=>fun W=>str_eq (.tmp 12) (.const (strV kRule)) r.val kRule true k4 W
 have c110f:=fun(hp0:RP r n)=>ln_sts (T:=T) 0 (inM g gc gd A n c cf d r.pos (rowsC cf++[])) [] h.lns hp0.2 (noc110 hp0.1) rfl (nc110 hp0.1)
 have c112f:=fun(_:RP r n) (_:RP r2 n)=>app_ob (cells:=r2.val.cells) (size:=49) (B:=bytesOf 81) (by kernel_rfl) (by kernel_rfl) h.few.2.2.1 bytes_le.2.2.1
 have c145f:=fun(_:RP r n) (_:RP r2 n)=>ltB heb
 have c151f:=fun(hp0:RP r n) (hp1:RP r2 n)=>(show Value.int .i64 (IntKind.i64.wrap ((r2.pos:Int)+1))=.int .i64 ((r2.pos:Int)+1)from iw (w64 (by omega) (by have:=hp1.2;have:=h.lns.bd;omega)))
 have c152f:=fun(hp0:RP r n) (hp1:RP r2 n)=>inPan w g (inS g gc gd s) A n c r2.pos ((fin hp0.1 hp1.1).trans (endR_yes h.lns.wds.len heb))
 have z2f:=fun(_:RP r n) (_:RP r2 n)=>trivial
 have z4f:=fun(_:RP r n) (_:¬(RP r2 n))=>trivial
 refine in_walk h [(12,.callG (lnG 0 g A n c r strV)),(20,.bin (.bool false)),(33,.bin (.bool false)),(50,.bin (.bool false)),(82,.bin (.bool false)),(103,.bin (.bool true)),(110,.callG (lnG 0 g A n c r2 rlV)),(145,.is (.bool true)),(151,.is (.int .i64 ((r2.pos:Int)+1))),(152,.callP)] [] (by kernel_rfl) Tryz.func131 rfl (Nat.le_of_ble_eq_true rfl) ?_
 exact Eq.mp (by kernel_rfl) (And.intro c12 (fun(hx0:r.okB=true∧r.pos≤n)=>(Sx.t4 (c20f hx0) (c33f hx0) (c50f hx0) (c82f hx0) (Sx.t2 (c103f hx0) (c110f hx0) (And.intro (fun(hx1:r2.okB=true∧r2.pos≤n)=>(Sx.t4 (c112f hx0 hx1) (c145f hx0 hx1) (c151f hx0 hx1) (c152f hx0 hx1) (z2f hx0 hx1))) (fun(hx3:¬(r2.okB=true∧r2.pos≤n))=>(z4f hx0 hx3)))))))
theorem in_rule0{r:Out Bs}{r2:Out Rl}(h:InH w g gc gd A n c i ws cf d s)
  (nc12:LnK 154 g A n c i ws strV r)
  (noc12:NoK r T)
  (k0:decide (r.val=kPort)=false)
  (k1:decide (r.val=kRoute)=false)
  (k2:decide (r.val=kMeter)=false)
  (k3:decide (r.val=kMirror)=false)
  (k4:decide (r.val=kRule)=true)
  (nc110:r.okB=true→LnK 190 g A n c r.pos ws rlV r2)
  (noc110:r.okB=true→NoK r2 T)
  (fin:r.okB=true→r2.okB=true→T=endR ws ({ cf with rules:=cf.rules++[r2.val] }:CF) r2.pos)
  (heb:decide (r2.pos < n)=false) :
  Calls Tryz.prog 131 (inA g gc gd) w (InPost g gc gd A n c T d (inS g gc gd s) w):=by
 have c12:=ln_sts (T:=T) 0 (inM g gc gd A n c cf d i (rowsC cf++[])) [] h.lns h.lns.le (noc12 ) rfl (nc12 )
 have c20f:=fun(_:RP r n)=>fun W=>str_eq (.tmp 12) (.const (strV kPort)) r.val kPort false k0 W
 have c33f:=fun(_:RP r n)=>fun W=>str_eq (.tmp 12) (.const (strV kRoute)) r.val kRoute false k1 W
 have c50f:=fun(_:RP r n)=>fun W=>str_eq (.tmp 12) (.const (strV kMeter)) r.val kMeter false k2 W
 have c82f:=fun(_:RP r n)=>fun W=>str_eq (.tmp 12) (.const (strV kMirror)) r.val kMirror false k3 W
 have c103f:=fun(_:RP r n)=>fun W=>str_eq (.tmp 12) (.const (strV kRule)) r.val kRule true k4 W
 have c110f:=fun(hp0:RP r n)=>ln_sts (T:=T) 0 (inM g gc gd A n c cf d r.pos (rowsC cf++[])) [] h.lns hp0.2 (noc110 hp0.1) rfl (nc110 hp0.1)
 have c112f:=fun(_:RP r n) (_:RP r2 n)=>app_ob (cells:=r2.val.cells) (size:=49) (B:=bytesOf 81) (by kernel_rfl) (by kernel_rfl) h.few.2.2.1 bytes_le.2.2.1
 have c145f:=fun(_:RP r n) (_:RP r2 n)=>ltB heb
 have z2f:=fun(hp0:RP r n) (hp1:RP r2 n)=>(show InR g gc gd A n c T d [] (⟨154,.giv g (lnC A n c r2.pos)⟩::⟨46,.gvs gc [.own 3,.own 4,.own 9,.own 6,.own 7,.val (.int .i64 cf.dflt)]⟩::⟨3,.giv gd [.int .i64 (d:Int)]⟩::([⟨3,.own 1 cf.ports.length cf.cp⟩,⟨118,.own 19 cf.routes.length cf.cr⟩,Sx.deadRow,⟨122,.own 4 cf.meters.length cf.cm⟩,⟨124,.own 3 cf.mirrors.length cf.ci⟩]++[⟨81,.vals r2.val.cells⟩,⟨81,.own 49 (cf.rules.length+1) (cf.cl++r2.val.cells)⟩]))from⟨({ cf with rules:=cf.rules++[r2.val] }:CF),r2.pos,3,4,9,6,7,(fin hp0.1 hp1.1).trans (endR_no h.lns.wds.len heb),hp1.2,rfl,rfl,rfl,rfl,rfl,rfl,(show some (⟨81,.own 49 (cf.rules.length+1) (cf.cl++r2.val.cells)⟩:Sx.Row)=some ⟨81,.own 49 ({ cf with rules:=cf.rules++[r2.val] }:CF).rules.length ({ cf with rules:=cf.rules++[r2.val] }:CF).cl⟩from by simp[CF.cl]),rfl,rfl⟩)
 have z4f:=fun(_:RP r n) (_:¬(RP r2 n))=>trivial
 refine in_walk h [(12,.callG (lnG 0 g A n c r strV)),(20,.bin (.bool false)),(33,.bin (.bool false)),(50,.bin (.bool false)),(82,.bin (.bool false)),(103,.bin (.bool true)),(110,.callG (lnG 0 g A n c r2 rlV)),(145,.is (.bool false))] [] (by kernel_rfl) Tryz.func131 rfl (Nat.le_of_ble_eq_true rfl) ?_
 exact Eq.mp (by kernel_rfl) (And.intro c12 (fun(hx0:r.okB=true∧r.pos≤n)=>(Sx.t4 (c20f hx0) (c33f hx0) (c50f hx0) (c82f hx0) (Sx.t2 (c103f hx0) (c110f hx0) (And.intro (fun(hx1:r2.okB=true∧r2.pos≤n)=>(Sx.t2 (c112f hx0 hx1) (c145f hx0 hx1) (z2f hx0 hx1))) (fun(hx3:¬(r2.okB=true∧r2.pos≤n))=>(z4f hx0 hx3)))))))
theorem in_default1{d0:Bool}{r:Out Bs}{r2:Out (Int×Int)}(h:InH w g gc gd A n c i ws cf d s)
  (nc12:LnK 154 g A n c i ws strV r)
  (noc12:NoK r T)
  (k0:decide (r.val=kPort)=false)
  (k1:decide (r.val=kRoute)=false)
  (k2:decide (r.val=kMeter)=false)
  (k3:decide (r.val=kMirror)=false)
  (k4:decide (r.val=kRule)=false)
  (k5:decide (r.val=kDefault)=true)
  (hd0:Value.bool (((d+1:Nat):Int)==1)=.bool d0)
  (no127:r.okB=true→∀code p,(wantR d0 200 () r.pos)=.no code p→T=.no code p)
  (nc131:r.okB=true→(wantR d0 200 () r.pos).okB=true→∀W,Lin W g A n c (wantR d0 200 () r.pos).pos ws→Calls Tryz.prog 192 (.pointer (some ⟨g,0,none⟩)::[.bool false]).toArray W (LnPost g A n c actV r2 W))
  (noc131:r.okB=true→(wantR d0 200 () r.pos).okB=true→NoK r2 T)
  (fin:r.okB=true→(wantR d0 200 () r.pos).okB=true→r2.okB=true→T=endR ws ({ cf with dflt:=r2.val.1 }:CF) r2.pos)
  (heb:decide (r2.pos < n)=true) :
  Calls Tryz.prog 131 (inA g gc gd) w (InPost g gc gd A n c T (d+1:Nat) (inS g gc gd s) w):=by
 have hdle:=h.dle
 have c12:=ln_sts (T:=T) 0 (inM g gc gd A n c cf d i (rowsC cf++[])) [] h.lns h.lns.le (noc12 ) rfl (nc12 )
 have c20f:=fun(_:RP r n)=>fun W=>str_eq (.tmp 12) (.const (strV kPort)) r.val kPort false k0 W
 have c33f:=fun(_:RP r n)=>fun W=>str_eq (.tmp 12) (.const (strV kRoute)) r.val kRoute false k1 W
 have c50f:=fun(_:RP r n)=>fun W=>str_eq (.tmp 12) (.const (strV kMeter)) r.val kMeter false k2 W
 have c82f:=fun(_:RP r n)=>fun W=>str_eq (.tmp 12) (.const (strV kMirror)) r.val kMirror false k3 W
 have c103f:=fun(_:RP r n)=>fun W=>str_eq (.tmp 12) (.const (strV kRule)) r.val kRule false k4 W
 have c116f:=fun(_:RP r n)=>fun W=>str_eq (.tmp 12) (.const (strV kDefault)) r.val kDefault true k5 W
 have c120f:=fun(_:RP r n)=>(show Value.int .i64 (IntKind.i64.wrap ((d:Int)+1))=.int .i64 ((d+1:Nat):Int)from iw (by rw[w64 (by omega) (by omega)];rfl))
 have c126f:=fun(_:RP r n)=>hd0
 have c127f:=fun(hp0:RP r n)=>ln_sts (T:=T) 0 (⟨154,.giv g (lnC A n c r.pos)⟩::⟨46,.gvs gc [.own 3,.own 4,.own 5,.own 6,.own 7,.val (.int .i64 cf.dflt)]⟩::⟨3,.giv gd [.int .i64 ((d+1:Nat):Int)]⟩::(rowsC cf++[])) [.bool d0,.int .i64 200] h.lns hp0.2 (no127 hp0.1) rfl (fun W hL=>want_N d0 200 () hL)
 have c131f:=fun(hp0:RP r n) (hp1:(wantR d0 200 () r.pos).okB=true∧(wantR d0 200 () r.pos).pos≤n)=>ln_sts (T:=T) 0 (⟨154,.giv g (lnC A n c (wantR d0 200 () r.pos).pos)⟩::⟨46,.gvs gc [.own 3,.own 4,.own 5,.own 6,.own 7,.val (.int .i64 cf.dflt)]⟩::⟨3,.giv gd [.int .i64 ((d+1:Nat):Int)]⟩::(rowsC cf++[])) [.bool false] h.lns hp1.2 (noc131 hp0.1 hp1.1) rfl (nc131 hp0.1 hp1.1)
 have c145f:=fun(_:RP r n) (_:(wantR d0 200 () r.pos).okB=true∧(wantR d0 200 () r.pos).pos≤n) (_:RP r2 n)=>ltB heb
 have c151f:=fun(hp0:RP r n) (hp1:(wantR d0 200 () r.pos).okB=true∧(wantR d0 200 () r.pos).pos≤n) (hp2:RP r2 n)=>(show Value.int .i64 (IntKind.i64.wrap ((r2.pos:Int)+1))=.int .i64 ((r2.pos:Int)+1)from iw (w64 (by omega) (by have:=hp2.2;have:=h.lns.bd;omega)))
 have c152f:=fun(hp0:RP r n) (hp1:(wantR d0 200 () r.pos).okB=true∧(wantR d0 200 () r.pos).pos≤n) (hp2:RP r2 n)=>inPan w g (inS g gc gd s) A n c r2.pos ((fin hp0.1 hp1.1 hp2.1).trans (endR_yes h.lns.wds.len heb))
 have z3f:=fun(_:RP r n) (_:(wantR d0 200 () r.pos).okB=true∧(wantR d0 200 () r.pos).pos≤n) (_:RP r2 n)=>trivial
 refine in_walk h [(12,.callG (lnG 0 g A n c r strV)),(20,.bin (.bool false)),(33,.bin (.bool false)),(50,.bin (.bool false)),(82,.bin (.bool false)),(103,.bin (.bool false)),(116,.bin (.bool true)),(120,.is (.int .i64 ((d+1:Nat):Int))),(126,.is (.bool d0)),(127,.callG (lnG 0 g A n c (wantR d0 200 () r.pos) (fun _=>.tuple #[]))),(131,.callG (lnG 0 g A n c r2 actV)),(145,.is (.bool true)),(151,.is (.int .i64 ((r2.pos:Int)+1))),(152,.callP)] [] (by kernel_rfl) Tryz.func131 rfl (Nat.le_of_ble_eq_true rfl) ?_
 exact Eq.mp (by kernel_rfl) (And.intro c12 (fun(hx0:r.okB=true∧r.pos≤n)=>(Sx.t8 (c20f hx0) (c33f hx0) (c50f hx0) (c82f hx0) (c103f hx0) (c116f hx0) (c120f hx0) (c126f hx0) (And.intro (c127f hx0) (fun(hx1:(wantR d0 200 () r.pos).okB=true∧(wantR d0 200 () r.pos).pos≤n)=>(And.intro (c131f hx0 hx1) (fun(hx2:r2.okB=true∧r2.pos≤n)=>(Sx.t2 (c145f hx0 hx1 hx2) (c151f hx0 hx1 hx2) (And.intro (c152f hx0 hx1 hx2) (z3f hx0 hx1 hx2))))))))))
theorem in_default0{d0:Bool}{r:Out Bs}{r2:Out (Int×Int)}(h:InH w g gc gd A n c i ws cf d s)
  (nc12:LnK 154 g A n c i ws strV r)
  (noc12:NoK r T)
  (k0:decide (r.val=kPort)=false)
  (k1:decide (r.val=kRoute)=false)
  (k2:decide (r.val=kMeter)=false)
  (k3:decide (r.val=kMirror)=false)
  (k4:decide (r.val=kRule)=false)
  (k5:decide (r.val=kDefault)=true)
  (hd0:Value.bool (((d+1:Nat):Int)==1)=.bool d0)
  (no127:r.okB=true→∀code p,(wantR d0 200 () r.pos)=.no code p→T=.no code p)
  (nc131:r.okB=true→(wantR d0 200 () r.pos).okB=true→∀W,Lin W g A n c (wantR d0 200 () r.pos).pos ws→Calls Tryz.prog 192 (.pointer (some ⟨g,0,none⟩)::[.bool false]).toArray W (LnPost g A n c actV r2 W))
  (noc131:r.okB=true→(wantR d0 200 () r.pos).okB=true→NoK r2 T)
  (fin:r.okB=true→(wantR d0 200 () r.pos).okB=true→r2.okB=true→T=endR ws ({ cf with dflt:=r2.val.1 }:CF) r2.pos)
  (heb:decide (r2.pos < n)=false) :
  Calls Tryz.prog 131 (inA g gc gd) w (InPost g gc gd A n c T (d+1:Nat) (inS g gc gd s) w):=by
 have hdle:=h.dle
 have c12:=ln_sts (T:=T) 0 (inM g gc gd A n c cf d i (rowsC cf++[])) [] h.lns h.lns.le (noc12 ) rfl (nc12 )
 have c20f:=fun(_:RP r n)=>fun W=>str_eq (.tmp 12) (.const (strV kPort)) r.val kPort false k0 W
 have c33f:=fun(_:RP r n)=>fun W=>str_eq (.tmp 12) (.const (strV kRoute)) r.val kRoute false k1 W
 have c50f:=fun(_:RP r n)=>fun W=>str_eq (.tmp 12) (.const (strV kMeter)) r.val kMeter false k2 W
 have c82f:=fun(_:RP r n)=>fun W=>str_eq (.tmp 12) (.const (strV kMirror)) r.val kMirror false k3 W
 have c103f:=fun(_:RP r n)=>fun W=>str_eq (.tmp 12) (.const (strV kRule)) r.val kRule false k4 W
 have c116f:=fun(_:RP r n)=>fun W=>str_eq (.tmp 12) (.const (strV kDefault)) r.val kDefault true k5 W
 have c120f:=fun(_:RP r n)=>(show Value.int .i64 (IntKind.i64.wrap ((d:Int)+1))=.int .i64 ((d+1:Nat):Int)from iw (by rw[w64 (by omega) (by omega)];rfl))
 have c126f:=fun(_:RP r n)=>hd0
 have c127f:=fun(hp0:RP r n)=>ln_sts (T:=T) 0 (⟨154,.giv g (lnC A n c r.pos)⟩::⟨46,.gvs gc [.own 3,.own 4,.own 5,.own 6,.own 7,.val (.int .i64 cf.dflt)]⟩::⟨3,.giv gd [.int .i64 ((d+1:Nat):Int)]⟩::(rowsC cf++[])) [.bool d0,.int .i64 200] h.lns hp0.2 (no127 hp0.1) rfl (fun W hL=>want_N d0 200 () hL)
 have c131f:=fun(hp0:RP r n) (hp1:(wantR d0 200 () r.pos).okB=true∧(wantR d0 200 () r.pos).pos≤n)=>ln_sts (T:=T) 0 (⟨154,.giv g (lnC A n c (wantR d0 200 () r.pos).pos)⟩::⟨46,.gvs gc [.own 3,.own 4,.own 5,.own 6,.own 7,.val (.int .i64 cf.dflt)]⟩::⟨3,.giv gd [.int .i64 ((d+1:Nat):Int)]⟩::(rowsC cf++[])) [.bool false] h.lns hp1.2 (noc131 hp0.1 hp1.1) rfl (nc131 hp0.1 hp1.1)
 have c145f:=fun(_:RP r n) (_:(wantR d0 200 () r.pos).okB=true∧(wantR d0 200 () r.pos).pos≤n) (_:RP r2 n)=>ltB heb
 have z3f:=fun(hp0:RP r n) (hp1:(wantR d0 200 () r.pos).okB=true∧(wantR d0 200 () r.pos).pos≤n) (hp2:RP r2 n)=>(show InR g gc gd A n c T (d+1:Nat) [] (⟨154,.giv g (lnC A n c r2.pos)⟩::⟨46,.gvs gc [.own 3,.own 4,.own 5,.own 6,.own 7,.val (.int .i64 r2.val.1)]⟩::⟨3,.giv gd [.int .i64 ((d+1:Nat):Int)]⟩::(rowsC cf++[]))from⟨({ cf with dflt:=r2.val.1 }:CF),r2.pos,3,4,5,6,7,(fin hp0.1 hp1.1 hp2.1).trans (endR_no h.lns.wds.len heb),hp2.2,rfl,rfl,rfl,rfl,rfl,rfl,rfl,rfl,rfl⟩)
 refine in_walk h [(12,.callG (lnG 0 g A n c r strV)),(20,.bin (.bool false)),(33,.bin (.bool false)),(50,.bin (.bool false)),(82,.bin (.bool false)),(103,.bin (.bool false)),(116,.bin (.bool true)),(120,.is (.int .i64 ((d+1:Nat):Int))),(126,.is (.bool d0)),(127,.callG (lnG 0 g A n c (wantR d0 200 () r.pos) (fun _=>.tuple #[]))),(131,.callG (lnG 0 g A n c r2 actV)),(145,.is (.bool false))] [] (by kernel_rfl) Tryz.func131 rfl (Nat.le_of_ble_eq_true rfl) ?_
 exact Eq.mp (by kernel_rfl) (And.intro c12 (fun(hx0:r.okB=true∧r.pos≤n)=>(Sx.t8 (c20f hx0) (c33f hx0) (c50f hx0) (c82f hx0) (c103f hx0) (c116f hx0) (c120f hx0) (c126f hx0) (And.intro (c127f hx0) (fun(hx1:(wantR d0 200 () r.pos).okB=true∧(wantR d0 200 () r.pos).pos≤n)=>(And.intro (c131f hx0 hx1) (fun(hx2:r2.okB=true∧r2.pos≤n)=>(And.intro (c145f hx0 hx1 hx2) (z3f hx0 hx1 hx2)))))))))
theorem in_other{r:Out Bs}(h:InH w g gc gd A n c i ws cf d s)
  (nc12:LnK 154 g A n c i ws strV r)
  (noc12:NoK r T)
  (k0:decide (r.val=kPort)=false)
  (k1:decide (r.val=kRoute)=false)
  (k2:decide (r.val=kMeter)=false)
  (k3:decide (r.val=kMirror)=false)
  (k4:decide (r.val=kRule)=false)
  (k5:decide (r.val=kDefault)=false)
  (fin:r.okB=true→T=.no 200 r.pos) :
  Calls Tryz.prog 131 (inA g gc gd) w (InPost g gc gd A n c T d (inS g gc gd s) w):=by
 have c12:=ln_sts (T:=T) 0 (inM g gc gd A n c cf d i (rowsC cf++[])) [] h.lns h.lns.le (noc12 ) rfl (nc12 )
 have c20f:=fun(_:RP r n)=>fun W=>str_eq (.tmp 12) (.const (strV kPort)) r.val kPort false k0 W
 have c33f:=fun(_:RP r n)=>fun W=>str_eq (.tmp 12) (.const (strV kRoute)) r.val kRoute false k1 W
 have c50f:=fun(_:RP r n)=>fun W=>str_eq (.tmp 12) (.const (strV kMeter)) r.val kMeter false k2 W
 have c82f:=fun(_:RP r n)=>fun W=>str_eq (.tmp 12) (.const (strV kMirror)) r.val kMirror false k3 W
 have c103f:=fun(_:RP r n)=>fun W=>str_eq (.tmp 12) (.const (strV kRule)) r.val kRule false k4 W
 have c116f:=fun(_:RP r n)=>fun W=>str_eq (.tmp 12) (.const (strV kDefault)) r.val kDefault false k5 W
 have c18f:=fun(hp0:RP r n) W (hW:Chg (inS g gc gd s) w W) (_:Blk W g 154 (lnC A n c r.pos))=>pan_none (b:=⟨w,inS g gc gd s,LnP T w⟩) (vs:=[.pointer (some ⟨g,0,none⟩),.int .i64 200,.int .i64 (r.pos:Int)]) (ps:=[(0,0)]) ((fail_N (.pointer (some ⟨g,0,none⟩)) 200 (r.pos:Int) W).mono fun _ _ ⟨ch,he,hf,hc⟩=>⟨ch,he,(show LnP T w _ _ from⟨200,r.pos,fin hp0.1,hf.up hW.size⟩),hc⟩)
 have z1f:=fun(_:RP r n)=>trivial
 refine in_walk h [(12,.callG (lnG 0 g A n c r strV)),(20,.bin (.bool false)),(33,.bin (.bool false)),(50,.bin (.bool false)),(82,.bin (.bool false)),(103,.bin (.bool false)),(116,.bin (.bool false)),(18,.callP)] [] (by kernel_rfl) Tryz.func131 rfl (Nat.le_of_ble_eq_true rfl) ?_
 exact Eq.mp (by kernel_rfl) (And.intro c12 (fun(hx0:r.okB=true∧r.pos≤n)=>(Sx.t4 (c20f hx0) (c33f hx0) (c50f hx0) (c82f hx0) (Sx.t2 (c103f hx0) (c116f hx0) (And.intro (c18f hx0) (z1f hx0))))))
end
end Go.Proofs.YtnncigmpcdehnaaGreatDoor
