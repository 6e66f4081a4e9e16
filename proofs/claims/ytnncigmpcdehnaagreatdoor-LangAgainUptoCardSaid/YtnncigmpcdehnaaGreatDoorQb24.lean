import Derived.Test.YtnncigmpcdehnaaGreatDoorQb23
namespace Go.Proofs.YtnncigmpcdehnaaGreatDoor
set_option maxRecDepth 100000
open Go.RowKit Go.Lib Go.Sort
noncomputable def bytesOf(t:Nat):Nat:=((Tryz.prog.types[t]?).map (·.bytes)).getD 0
theorem cz:bytesOf 3≤1000∧bytesOf 118≤1000∧bytesOf 81≤1000∧bytesOf 122≤1000∧bytesOf 124≤1000:=by decide+kernel
theorem gy{cells:List Value}{size len B:Nat}(hl:cells.length=1*size)(ha:cells.all (fun u=>u.oneCell')=true)(hn:len≤1000000)(hb:B≤1000) :
  True∧cells.length=1*size∧(∀u:Value,u∈cells→u.oneCell'=true)∧len+1≤maxLen∧(len+1)*B≤140737488355328:=
 ⟨trivial,hl,fun u hu=>List.all_eq_true.1 ha u hu,by unfold maxLen;omega,Nat.le_trans (Nat.mul_le_mul (show len+1≤1000001 by omega) hb) (by decide)⟩
def bg(cf:CF):List Sx.Row:=[⟨3,.own 1 cf.ao.length cf.cp⟩,⟨118,.own 19 cf.ah.length cf.cr⟩,⟨81,.own 49 cf.rules.length cf.cl⟩,⟨122,.own 4 cf.aj.length cf.cm⟩,⟨124,.own 3 cf.ab.length cf.ci⟩]
theorem kp{ws:List Bs}{α:Type}{a:α}{i n:Nat}(hl:ws.length=n)(h:decide (i < n)=true):gR ws a i=.no 200 (i+1):=by unfold gR;rw[hl,h]
theorem mW{ws:List Bs}{α:Type}{a:α}{i n:Nat}(hl:ws.length=n)(h:decide (i < n)=false):gR ws a i=.ok a i:=by unfold gR;rw[hl,h]
abbrev mf(g gc gd:Nat)(A:Option Go.Addr)(n c:Nat)(cf:CF)(d i:Nat)(R:List Sx.Row):List Sx.Row:=⟨154,.cY g (df A n c i)⟩::⟨46,.gJ gc [.own 3,.own 4,.own 5,.own 6,.own 7,.val (.int .i64 cf.aL)]⟩::⟨3,.cY gd [.int .i64 (d:Int)]⟩::R
abbrev DH(g gc gd:Nat):Array Value:=#[.pointer (some ⟨g,0,none⟩),.pointer (some ⟨gc,0,none⟩),.pointer (some ⟨gd,0,none⟩)]
theorem oC{a n:Nat}{b:Bool}(h:decide (a < n)=b):Value.bool (decide ((a:Int) < (n:Int)))=.bool b:=bz (by rw[←h];congr 1;exact propext (by omega))
theorem u4(w:World)(g:Nat)(S:List Nat)(A:Option Go.Addr)(n c:Nat){T:Out CF}(p:Nat)(fin:T=.no 200 (p+1))(W:World)(hW:aw S w W)(_:aB W g 154 (df A n c p)):Calls Tryz.prog 94 #[.pointer (some ⟨g,0,none⟩),.int .i64 200,.int .i64 ((p:Int)+1)] W (Sx.ui ⟨w,S,jz T w⟩ W [.pointer (some ⟨g,0,none⟩),.int .i64 200,.int .i64 ((p:Int)+1)] (.Dg [(0,0)])):=jg (b:=⟨w,S,jz T w⟩) (vs:=[.pointer (some ⟨g,0,none⟩),.int .i64 200,.int .i64 ((p:Int)+1)]) (ps:=[(0,0)]) ((oh (.pointer (some ⟨g,0,none⟩)) 200 ((p:Int)+1) W).mono fun _ _ ⟨ch,he,hf,hc⟩=>⟨ch,he,(show jz T w _ _ from⟨200,p+1,fin,hf.up hW.size⟩),hc⟩)
section
variable{w:World}{g gc gd:Nat}{A:Option Go.Addr}{n c i:Nat}{ws:List Bs}{cf:CF}{d:Nat}{s:fI}{T:Out CF}
theorem Gu{r:Out Bs}{r2:Out Nat}(h:zD w g gc gd A n c i ws cf d s)
  (nc12:ku 154 g A n c i ws af r)
  (noc12:fO r T)
  (k0:decide (r.val=b8)=true)
  (nc27:r.okB=true→ku 186 g A n c r.pos ws gC r2)
  (noc27:r.okB=true→fO r2 T)
  (fin:r.okB=true→r2.okB=true→T=gR ws ({ cf with ao:=cf.ao++[(r2.val:Int)] }:CF) r2.pos)
  (heb:decide (r2.pos < n)=true) :
  Calls Tryz.prog 131 (DH g gc gd) w (eD g gc gd A n c T d (nj g gc gd s) w):=by
 have c12:=a6 (T:=T) 0 (mf g gc gd A n c cf d i (bg cf++[])) [] h.ec h.ec.le (noc12 ) rfl (nc12 )
 have c20f:=fun(_:RP r n)=>fun W=>aD (.tmp 12) (.const (af b8)) r.val b8 true k0 W
 have c27f:=fun(hp0:RP r n)=>a6 (T:=T) 0 (mf g gc gd A n c cf d r.pos (bg cf++[])) [] h.ec hp0.2 (noc27 hp0.1) rfl (nc27 hp0.1)
 have c29f:=fun(_:RP r n) (_:RP r2 n)=>gy (cells:=[gC r2.val]) (size:=1) (B:=bytesOf 3) (by kernel_rfl) (by kernel_rfl) h.qV.1 cz.1
 have c145f:=fun(_:RP r n) (_:RP r2 n)=>oC heb
 have c151f:=fun(hp0:RP r n) (hp1:RP r2 n)=>(show Value.int .i64 (IntKind.i64.wrap ((r2.pos:Int)+1))=.int .i64 ((r2.pos:Int)+1)from iw (j5 (by omega) (by have:=hp1.2;have:=h.ec.bd;omega)))
 have c152f:=fun(hp0:RP r n) (hp1:RP r2 n)=>u4 w g (nj g gc gd s) A n c r2.pos ((fin hp0.1 hp1.1).trans (kp h.ec.kz.len heb))
 have z2f:=fun(_:RP r n) (_:RP r2 n)=>trivial
 have z4f:=fun(_:RP r n) (_:¬(RP r2 n))=>trivial
 refine fB h [(12,.al (cE 0 g A n c r af)),(20,.bin (.bool true)),(27,.al (cE 0 g A n c r2 gC)),(145,.is (.bool true)),(151,.is (.int .i64 ((r2.pos:Int)+1))),(152,.jt)] [] (by kernel_rfl) Tryz.func131 rfl (Nat.le_of_ble_eq_true rfl) ?_
 exact Eq.mp (by kernel_rfl) (And.intro c12 (fun(hx0:r.okB=true∧r.pos≤n)=>(Sx.t2 (c20f hx0) (c27f hx0) (And.intro (fun(hx1:r2.okB=true∧r2.pos≤n)=>(Sx.t4 (c29f hx0 hx1) (c145f hx0 hx1) (c151f hx0 hx1) (c152f hx0 hx1) (z2f hx0 hx1))) (fun(hx3:¬(r2.okB=true∧r2.pos≤n))=>(z4f hx0 hx3))))))
theorem Gv{r:Out Bs}{r2:Out Nat}(h:zD w g gc gd A n c i ws cf d s)
  (nc12:ku 154 g A n c i ws af r)
  (noc12:fO r T)
  (k0:decide (r.val=b8)=true)
  (nc27:r.okB=true→ku 186 g A n c r.pos ws gC r2)
  (noc27:r.okB=true→fO r2 T)
  (fin:r.okB=true→r2.okB=true→T=gR ws ({ cf with ao:=cf.ao++[(r2.val:Int)] }:CF) r2.pos)
  (heb:decide (r2.pos < n)=false) :
  Calls Tryz.prog 131 (DH g gc gd) w (eD g gc gd A n c T d (nj g gc gd s) w):=by
 have c12:=a6 (T:=T) 0 (mf g gc gd A n c cf d i (bg cf++[])) [] h.ec h.ec.le (noc12 ) rfl (nc12 )
 have c20f:=fun(_:RP r n)=>fun W=>aD (.tmp 12) (.const (af b8)) r.val b8 true k0 W
 have c27f:=fun(hp0:RP r n)=>a6 (T:=T) 0 (mf g gc gd A n c cf d r.pos (bg cf++[])) [] h.ec hp0.2 (noc27 hp0.1) rfl (nc27 hp0.1)
 have c29f:=fun(_:RP r n) (_:RP r2 n)=>gy (cells:=[gC r2.val]) (size:=1) (B:=bytesOf 3) (by kernel_rfl) (by kernel_rfl) h.qV.1 cz.1
 have c145f:=fun(_:RP r n) (_:RP r2 n)=>oC heb
 have z2f:=fun(hp0:RP r n) (hp1:RP r2 n)=>(show KU g gc gd A n c T d [] (⟨154,.cY g (df A n c r2.pos)⟩::⟨46,.gJ gc [.own 9,.own 4,.own 5,.own 6,.own 7,.val (.int .i64 cf.aL)]⟩::⟨3,.cY gd [.int .i64 (d:Int)]⟩::([Sx.aa,⟨118,.own 19 cf.ah.length cf.cr⟩,⟨81,.own 49 cf.rules.length cf.cl⟩,⟨122,.own 4 cf.aj.length cf.cm⟩,⟨124,.own 3 cf.ab.length cf.ci⟩]++[⟨3,.ag [gC r2.val]⟩,⟨3,.own 1 (cf.ao.length+1) (cf.cp++[gC r2.val])⟩]))from⟨({ cf with ao:=cf.ao++[(r2.val:Int)] }:CF),r2.pos,9,4,5,6,7,(fin hp0.1 hp1.1).trans (mW h.ec.kz.len heb),hp1.2,rfl,rfl,rfl,rfl,(show some (⟨3,.own 1 (cf.ao.length+1) (cf.cp++[gC r2.val])⟩:Sx.Row)=some ⟨3,.own 1 ({ cf with ao:=cf.ao++[(r2.val:Int)] }:CF).ao.length ({ cf with ao:=cf.ao++[(r2.val:Int)] }:CF).cp⟩from by simp[CF.cp,gC]),rfl,rfl,rfl,rfl⟩)
 have z4f:=fun(_:RP r n) (_:¬(RP r2 n))=>trivial
 refine fB h [(12,.al (cE 0 g A n c r af)),(20,.bin (.bool true)),(27,.al (cE 0 g A n c r2 gC)),(145,.is (.bool false))] [] (by kernel_rfl) Tryz.func131 rfl (Nat.le_of_ble_eq_true rfl) ?_
 exact Eq.mp (by kernel_rfl) (And.intro c12 (fun(hx0:r.okB=true∧r.pos≤n)=>(Sx.t2 (c20f hx0) (c27f hx0) (And.intro (fun(hx1:r2.okB=true∧r2.pos≤n)=>(Sx.t2 (c29f hx0 hx1) (c145f hx0 hx1) (z2f hx0 hx1))) (fun(hx3:¬(r2.okB=true∧r2.pos≤n))=>(z4f hx0 hx3))))))
theorem DD{r:Out Bs}{r2:Out Px}{r3:Out Nat}(h:zD w g gc gd A n c i ws cf d s)
  (nc12:ku 154 g A n c i ws af r)
  (noc12:fO r T)
  (k0:decide (r.val=b8)=false)
  (k1:decide (r.val=aJ)=true)
  (nc35:r.okB=true→ku 187 g A n c r.pos ws pS r2)
  (noc35:r.okB=true→fO r2 T)
  (nc43:r.okB=true→r2.okB=true→ku 186 g A n c r2.pos ws gC r3)
  (noc43:r.okB=true→r2.okB=true→fO r3 T)
  (fin:r.okB=true→r2.okB=true→r3.okB=true→T=gR ws ({ cf with ah:=cf.ah++[⟨r2.val,(r3.val:Int)⟩] }:CF) r3.pos)
  (heb:decide (r3.pos < n)=true) :
  Calls Tryz.prog 131 (DH g gc gd) w (eD g gc gd A n c T d (nj g gc gd s) w):=by
 have c12:=a6 (T:=T) 0 (mf g gc gd A n c cf d i (bg cf++[])) [] h.ec h.ec.le (noc12 ) rfl (nc12 )
 have c20f:=fun(_:RP r n)=>fun W=>aD (.tmp 12) (.const (af b8)) r.val b8 false k0 W
 have c33f:=fun(_:RP r n)=>fun W=>aD (.tmp 12) (.const (af aJ)) r.val aJ true k1 W
 have c35f:=fun(hp0:RP r n)=>a6 (T:=T) 0 (mf g gc gd A n c cf d r.pos (bg cf++[])) [] h.ec hp0.2 (noc35 hp0.1) rfl (nc35 hp0.1)
 have c43f:=fun(hp0:RP r n) (hp1:RP r2 n)=>a6 (T:=T) 0 (mf g gc gd A n c cf d r2.pos (bg cf++[⟨29,.ag r2.val.cells⟩])) [] h.ec hp1.2 (noc43 hp0.1 hp1.1) rfl (nc43 hp0.1 hp1.1)
 have c46f:=fun(_:RP r n) (_:RP r2 n) (_:RP r3 n)=>gy (cells:=(Rt.cells ⟨r2.val,(r3.val:Int)⟩)) (size:=19) (B:=bytesOf 118) (by kernel_rfl) (by kernel_rfl) h.qV.2.1 cz.2.1
 have c145f:=fun(_:RP r n) (_:RP r2 n) (_:RP r3 n)=>oC heb
 have c151f:=fun(hp0:RP r n) (hp1:RP r2 n) (hp2:RP r3 n)=>(show Value.int .i64 (IntKind.i64.wrap ((r3.pos:Int)+1))=.int .i64 ((r3.pos:Int)+1)from iw (j5 (by omega) (by have:=hp2.2;have:=h.ec.bd;omega)))
 have c152f:=fun(hp0:RP r n) (hp1:RP r2 n) (hp2:RP r3 n)=>u4 w g (nj g gc gd s) A n c r3.pos ((fin hp0.1 hp1.1 hp2.1).trans (kp h.ec.kz.len heb))
 have z3f:=fun(_:RP r n) (_:RP r2 n) (_:RP r3 n)=>trivial
 have z5f:=fun(_:RP r n) (_:RP r2 n) (_:¬(RP r3 n))=>trivial
 refine fB h [(12,.al (cE 0 g A n c r af)),(20,.bin (.bool false)),(33,.bin (.bool true)),(35,.al (cE 0 g A n c r2 pS)),(43,.al (cE 0 g A n c r3 gC)),(145,.is (.bool true)),(151,.is (.int .i64 ((r3.pos:Int)+1))),(152,.jt)] [] (by kernel_rfl) Tryz.func131 rfl (Nat.le_of_ble_eq_true rfl) ?_
 exact Eq.mp (by kernel_rfl) (And.intro c12 (fun(hx0:r.okB=true∧r.pos≤n)=>(Sx.t2 (c20f hx0) (c33f hx0) (And.intro (c35f hx0) (fun(hx1:r2.okB=true∧r2.pos≤n)=>(Sx.t2 (c43f hx0 hx1) (fun(hx2:r3.okB=true∧r3.pos≤n)=>(Sx.t4 (c46f hx0 hx1 hx2) (c145f hx0 hx1 hx2) (c151f hx0 hx1 hx2) (c152f hx0 hx1 hx2) (z3f hx0 hx1 hx2))) (fun(hx4:¬(r3.okB=true∧r3.pos≤n))=>(z5f hx0 hx1 hx4))))))))
theorem DE{r:Out Bs}{r2:Out Px}{r3:Out Nat}(h:zD w g gc gd A n c i ws cf d s)
  (nc12:ku 154 g A n c i ws af r)
  (noc12:fO r T)
  (k0:decide (r.val=b8)=false)
  (k1:decide (r.val=aJ)=true)
  (nc35:r.okB=true→ku 187 g A n c r.pos ws pS r2)
  (noc35:r.okB=true→fO r2 T)
  (nc43:r.okB=true→r2.okB=true→ku 186 g A n c r2.pos ws gC r3)
  (noc43:r.okB=true→r2.okB=true→fO r3 T)
  (fin:r.okB=true→r2.okB=true→r3.okB=true→T=gR ws ({ cf with ah:=cf.ah++[⟨r2.val,(r3.val:Int)⟩] }:CF) r3.pos)
  (heb:decide (r3.pos < n)=false) :
  Calls Tryz.prog 131 (DH g gc gd) w (eD g gc gd A n c T d (nj g gc gd s) w):=by
 have c12:=a6 (T:=T) 0 (mf g gc gd A n c cf d i (bg cf++[])) [] h.ec h.ec.le (noc12 ) rfl (nc12 )
 have c20f:=fun(_:RP r n)=>fun W=>aD (.tmp 12) (.const (af b8)) r.val b8 false k0 W
 have c33f:=fun(_:RP r n)=>fun W=>aD (.tmp 12) (.const (af aJ)) r.val aJ true k1 W
 have c35f:=fun(hp0:RP r n)=>a6 (T:=T) 0 (mf g gc gd A n c cf d r.pos (bg cf++[])) [] h.ec hp0.2 (noc35 hp0.1) rfl (nc35 hp0.1)
 have c43f:=fun(hp0:RP r n) (hp1:RP r2 n)=>a6 (T:=T) 0 (mf g gc gd A n c cf d r2.pos (bg cf++[⟨29,.ag r2.val.cells⟩])) [] h.ec hp1.2 (noc43 hp0.1 hp1.1) rfl (nc43 hp0.1 hp1.1)
 have c46f:=fun(_:RP r n) (_:RP r2 n) (_:RP r3 n)=>gy (cells:=(Rt.cells ⟨r2.val,(r3.val:Int)⟩)) (size:=19) (B:=bytesOf 118) (by kernel_rfl) (by kernel_rfl) h.qV.2.1 cz.2.1
 have c145f:=fun(_:RP r n) (_:RP r2 n) (_:RP r3 n)=>oC heb
 have z3f:=fun(hp0:RP r n) (hp1:RP r2 n) (hp2:RP r3 n)=>(show KU g gc gd A n c T d [] (⟨154,.cY g (df A n c r3.pos)⟩::⟨46,.gJ gc [.own 3,.own 10,.own 5,.own 6,.own 7,.val (.int .i64 cf.aL)]⟩::⟨3,.cY gd [.int .i64 (d:Int)]⟩::([⟨3,.own 1 cf.ao.length cf.cp⟩,Sx.aa,⟨81,.own 49 cf.rules.length cf.cl⟩,⟨122,.own 4 cf.aj.length cf.cm⟩,⟨124,.own 3 cf.ab.length cf.ci⟩]++[⟨29,.ag r2.val.cells⟩,⟨118,.ag (Rt.cells ⟨r2.val,(r3.val:Int)⟩)⟩,⟨118,.own 19 (cf.ah.length+1) (cf.cr++(Rt.cells ⟨r2.val,(r3.val:Int)⟩))⟩]))from⟨({ cf with ah:=cf.ah++[⟨r2.val,(r3.val:Int)⟩] }:CF),r3.pos,3,10,5,6,7,(fin hp0.1 hp1.1 hp2.1).trans (mW h.ec.kz.len heb),hp2.2,rfl,rfl,rfl,rfl,rfl,(show some (⟨118,.own 19 (cf.ah.length+1) (cf.cr++(Rt.cells ⟨r2.val,(r3.val:Int)⟩))⟩:Sx.Row)=some ⟨118,.own 19 ({ cf with ah:=cf.ah++[⟨r2.val,(r3.val:Int)⟩] }:CF).ah.length ({ cf with ah:=cf.ah++[⟨r2.val,(r3.val:Int)⟩] }:CF).cr⟩from by simp[CF.cr]),rfl,rfl,rfl⟩)
 have z5f:=fun(_:RP r n) (_:RP r2 n) (_:¬(RP r3 n))=>trivial
 refine fB h [(12,.al (cE 0 g A n c r af)),(20,.bin (.bool false)),(33,.bin (.bool true)),(35,.al (cE 0 g A n c r2 pS)),(43,.al (cE 0 g A n c r3 gC)),(145,.is (.bool false))] [] (by kernel_rfl) Tryz.func131 rfl (Nat.le_of_ble_eq_true rfl) ?_
 exact Eq.mp (by kernel_rfl) (And.intro c12 (fun(hx0:r.okB=true∧r.pos≤n)=>(Sx.t2 (c20f hx0) (c33f hx0) (And.intro (c35f hx0) (fun(hx1:r2.okB=true∧r2.pos≤n)=>(Sx.t2 (c43f hx0 hx1) (fun(hx2:r3.okB=true∧r3.pos≤n)=>(Sx.t2 (c46f hx0 hx1 hx2) (c145f hx0 hx1 hx2) (z3f hx0 hx1 hx2))) (fun(hx4:¬(r3.okB=true∧r3.pos≤n))=>(z5f hx0 hx1 hx4))))))))
theorem DF{r:Out Bs}{r2:Out Bs}{r3:Out Nat}{r4:Out Nat}{r5:Out Nat}(h:zD w g gc gd A n c i ws cf d s)
  (nc12:ku 154 g A n c i ws af r)
  (noc12:fO r T)
  (k0:decide (r.val=b8)=false)
  (k1:decide (r.val=aJ)=false)
  (k2:decide (r.val=ak)=true)
  (nc52:r.okB=true→ku 188 g A n c r.pos ws af r2)
  (noc52:r.okB=true→fO r2 T)
  (nc68x:r.okB=true→r2.okB=true→∀W,dF W g A n c r2.pos ws→Calls Tryz.prog 189 (.pointer (some ⟨g,0,none⟩)::[.int .u64 ((18446744073709551615:Nat):Int)]).toArray W (aY g A n c gA r3 W))
  (noc68x:r.okB=true→r2.okB=true→fO r3 T)
  (nc68_2:r.okB=true→r2.okB=true→r3.okB=true→∀W,dF W g A n c r3.pos ws→Calls Tryz.prog 189 (.pointer (some ⟨g,0,none⟩)::[.int .u64 ((18446744073709551615:Nat):Int)]).toArray W (aY g A n c gA r4 W))
  (noc68_2:r.okB=true→r2.okB=true→r3.okB=true→fO r4 T)
  (nc68_3:r.okB=true→r2.okB=true→r3.okB=true→r4.okB=true→∀W,dF W g A n c r4.pos ws→Calls Tryz.prog 189 (.pointer (some ⟨g,0,none⟩)::[.int .u64 ((18446744073709551615:Nat):Int)]).toArray W (aY g A n c gA r5 W))
  (noc68_3:r.okB=true→r2.okB=true→r3.okB=true→r4.okB=true→fO r5 T)
  (fin:r.okB=true→r2.okB=true→r3.okB=true→r4.okB=true→r5.okB=true→T=gR ws ({ cf with aj:=cf.aj++[⟨r2.val,r3.val,r4.val,r5.val⟩] }:CF) r5.pos)
  (heb:decide (r5.pos < n)=true) :
  Calls Tryz.prog 131 (DH g gc gd) w (eD g gc gd A n c T d (nj g gc gd s) w):=by
 have c12:=a6 (T:=T) 0 (mf g gc gd A n c cf d i (bg cf++[])) [] h.ec h.ec.le (noc12 ) rfl (nc12 )
 have c20f:=fun(_:RP r n)=>fun W=>aD (.tmp 12) (.const (af b8)) r.val b8 false k0 W
 have c33f:=fun(_:RP r n)=>fun W=>aD (.tmp 12) (.const (af aJ)) r.val aJ false k1 W
 have c50f:=fun(_:RP r n)=>fun W=>aD (.tmp 12) (.const (af ak)) r.val ak true k2 W
 have c52f:=fun(hp0:RP r n)=>a6 (T:=T) 0 (mf g gc gd A n c cf d r.pos (bg cf++[])) [] h.ec hp0.2 (noc52 hp0.1) rfl (nc52 hp0.1)
 have c68f:=fun(hp0:RP r n) (hp1:RP r2 n)=>a6 (T:=T) 0 (mf g gc gd A n c cf d r2.pos (bg cf++[⟨122,.ag (Me.cells ⟨r2.val,0,0,0⟩)⟩,⟨253,.dm [.ptr 8 1,.ptr 8 2,.ptr 8 3]⟩])) [.int .u64 ((18446744073709551615:Nat):Int)] h.ec hp1.2 (noc68x hp0.1 hp1.1) rfl (nc68x hp0.1 hp1.1)
 have c68_2f:=fun(hp0:RP r n) (hp1:RP r2 n) (hp2:RP r3 n)=>a6 (T:=T) 0 (mf g gc gd A n c cf d r3.pos (bg cf++[⟨122,.ag (Me.cells ⟨r2.val,r3.val,0,0⟩)⟩,⟨253,.dm [.ptr 8 1,.ptr 8 2,.ptr 8 3]⟩])) [.int .u64 ((18446744073709551615:Nat):Int)] h.ec hp2.2 (noc68_2 hp0.1 hp1.1 hp2.1) rfl (nc68_2 hp0.1 hp1.1 hp2.1)
 have c68_3f:=fun(hp0:RP r n) (hp1:RP r2 n) (hp2:RP r3 n) (hp3:RP r4 n)=>a6 (T:=T) 0 (mf g gc gd A n c cf d r4.pos (bg cf++[⟨122,.ag (Me.cells ⟨r2.val,r3.val,r4.val,0⟩)⟩,⟨253,.dm [.ptr 8 1,.ptr 8 2,.ptr 8 3]⟩])) [.int .u64 ((18446744073709551615:Nat):Int)] h.ec hp3.2 (noc68_3 hp0.1 hp1.1 hp2.1 hp3.1) rfl (nc68_3 hp0.1 hp1.1 hp2.1 hp3.1)
 have c78f:=fun(_:RP r n) (_:RP r2 n) (_:RP r3 n) (_:RP r4 n) (_:RP r5 n)=>gy (cells:=(Me.cells ⟨r2.val,r3.val,r4.val,r5.val⟩)) (size:=4) (B:=bytesOf 122) (by kernel_rfl) (by kernel_rfl) h.qV.2.2.2.1 cz.2.2.2.1
 have c145f:=fun(_:RP r n) (_:RP r2 n) (_:RP r3 n) (_:RP r4 n) (_:RP r5 n)=>oC heb
 have c151f:=fun(hp0:RP r n) (hp1:RP r2 n) (hp2:RP r3 n) (hp3:RP r4 n) (hp4:RP r5 n)=>(show Value.int .i64 (IntKind.i64.wrap ((r5.pos:Int)+1))=.int .i64 ((r5.pos:Int)+1)from iw (j5 (by omega) (by have:=hp4.2;have:=h.ec.bd;omega)))
 have c152f:=fun(hp0:RP r n) (hp1:RP r2 n) (hp2:RP r3 n) (hp3:RP r4 n) (hp4:RP r5 n)=>u4 w g (nj g gc gd s) A n c r5.pos ((fin hp0.1 hp1.1 hp2.1 hp3.1 hp4.1).trans (kp h.ec.kz.len heb))
 have z5f:=fun(_:RP r n) (_:RP r2 n) (_:RP r3 n) (_:RP r4 n) (_:RP r5 n)=>trivial
 refine fB h [(12,.al (cE 0 g A n c r af)),(20,.bin (.bool false)),(33,.bin (.bool false)),(50,.bin (.bool true)),(52,.al (cE 0 g A n c r2 af)),(145,.is (.bool true)),(151,.is (.int .i64 ((r5.pos:Int)+1))),(152,.jt)] [.times [[(68,.al (cE 0 g A n c r3 gA))],[(68,.al (cE 0 g A n c r4 gA))],[(68,.al (cE 0 g A n c r5 gA))],[]]] (by kernel_rfl) Tryz.func131 rfl (Nat.le_of_ble_eq_true rfl) ?_
 exact Eq.mp (by kernel_rfl) (And.intro c12 (fun(hx0:r.okB=true∧r.pos≤n)=>(Sx.t4 (c20f hx0) (c33f hx0) (c50f hx0) (c52f hx0) (fun(hx1:r2.okB=true∧r2.pos≤n)=>(And.intro (c68f hx0 hx1) (fun(hx2:r3.okB=true∧r3.pos≤n)=>(And.intro (c68_2f hx0 hx1 hx2) (fun(hx3:r4.okB=true∧r4.pos≤n)=>(And.intro (c68_3f hx0 hx1 hx2 hx3) (fun(hx4:r5.okB=true∧r5.pos≤n)=>(Sx.t4 (c78f hx0 hx1 hx2 hx3 hx4) (c145f hx0 hx1 hx2 hx3 hx4) (c151f hx0 hx1 hx2 hx3 hx4) (c152f hx0 hx1 hx2 hx3 hx4) (z5f hx0 hx1 hx2 hx3 hx4))))))))))))
theorem DG{r:Out Bs}{r2:Out Bs}{r3:Out Nat}{r4:Out Nat}{r5:Out Nat}(h:zD w g gc gd A n c i ws cf d s)
  (nc12:ku 154 g A n c i ws af r)
  (noc12:fO r T)
  (k0:decide (r.val=b8)=false)
  (k1:decide (r.val=aJ)=false)
  (k2:decide (r.val=ak)=true)
  (nc52:r.okB=true→ku 188 g A n c r.pos ws af r2)
  (noc52:r.okB=true→fO r2 T)
  (nc68x:r.okB=true→r2.okB=true→∀W,dF W g A n c r2.pos ws→Calls Tryz.prog 189 (.pointer (some ⟨g,0,none⟩)::[.int .u64 ((18446744073709551615:Nat):Int)]).toArray W (aY g A n c gA r3 W))
  (noc68x:r.okB=true→r2.okB=true→fO r3 T)
  (nc68_2:r.okB=true→r2.okB=true→r3.okB=true→∀W,dF W g A n c r3.pos ws→Calls Tryz.prog 189 (.pointer (some ⟨g,0,none⟩)::[.int .u64 ((18446744073709551615:Nat):Int)]).toArray W (aY g A n c gA r4 W))
  (noc68_2:r.okB=true→r2.okB=true→r3.okB=true→fO r4 T)
  (nc68_3:r.okB=true→r2.okB=true→r3.okB=true→r4.okB=true→∀W,dF W g A n c r4.pos ws→Calls Tryz.prog 189 (.pointer (some ⟨g,0,none⟩)::[.int .u64 ((18446744073709551615:Nat):Int)]).toArray W (aY g A n c gA r5 W))
  (noc68_3:r.okB=true→r2.okB=true→r3.okB=true→r4.okB=true→fO r5 T)
  (fin:r.okB=true→r2.okB=true→r3.okB=true→r4.okB=true→r5.okB=true→T=gR ws ({ cf with aj:=cf.aj++[⟨r2.val,r3.val,r4.val,r5.val⟩] }:CF) r5.pos)
  (heb:decide (r5.pos < n)=false) :
  Calls Tryz.prog 131 (DH g gc gd) w (eD g gc gd A n c T d (nj g gc gd s) w):=by
 have c12:=a6 (T:=T) 0 (mf g gc gd A n c cf d i (bg cf++[])) [] h.ec h.ec.le (noc12 ) rfl (nc12 )
 have c20f:=fun(_:RP r n)=>fun W=>aD (.tmp 12) (.const (af b8)) r.val b8 false k0 W
 have c33f:=fun(_:RP r n)=>fun W=>aD (.tmp 12) (.const (af aJ)) r.val aJ false k1 W
 have c50f:=fun(_:RP r n)=>fun W=>aD (.tmp 12) (.const (af ak)) r.val ak true k2 W
 have c52f:=fun(hp0:RP r n)=>a6 (T:=T) 0 (mf g gc gd A n c cf d r.pos (bg cf++[])) [] h.ec hp0.2 (noc52 hp0.1) rfl (nc52 hp0.1)
 have c68f:=fun(hp0:RP r n) (hp1:RP r2 n)=>a6 (T:=T) 0 (mf g gc gd A n c cf d r2.pos (bg cf++[⟨122,.ag (Me.cells ⟨r2.val,0,0,0⟩)⟩,⟨253,.dm [.ptr 8 1,.ptr 8 2,.ptr 8 3]⟩])) [.int .u64 ((18446744073709551615:Nat):Int)] h.ec hp1.2 (noc68x hp0.1 hp1.1) rfl (nc68x hp0.1 hp1.1)
 have c68_2f:=fun(hp0:RP r n) (hp1:RP r2 n) (hp2:RP r3 n)=>a6 (T:=T) 0 (mf g gc gd A n c cf d r3.pos (bg cf++[⟨122,.ag (Me.cells ⟨r2.val,r3.val,0,0⟩)⟩,⟨253,.dm [.ptr 8 1,.ptr 8 2,.ptr 8 3]⟩])) [.int .u64 ((18446744073709551615:Nat):Int)] h.ec hp2.2 (noc68_2 hp0.1 hp1.1 hp2.1) rfl (nc68_2 hp0.1 hp1.1 hp2.1)
 have c68_3f:=fun(hp0:RP r n) (hp1:RP r2 n) (hp2:RP r3 n) (hp3:RP r4 n)=>a6 (T:=T) 0 (mf g gc gd A n c cf d r4.pos (bg cf++[⟨122,.ag (Me.cells ⟨r2.val,r3.val,r4.val,0⟩)⟩,⟨253,.dm [.ptr 8 1,.ptr 8 2,.ptr 8 3]⟩])) [.int .u64 ((18446744073709551615:Nat):Int)] h.ec hp3.2 (noc68_3 hp0.1 hp1.1 hp2.1 hp3.1) rfl (nc68_3 hp0.1 hp1.1 hp2.1 hp3.1)
 have c78f:=fun(_:RP r n) (_:RP r2 n) (_:RP r3 n) (_:RP r4 n) (_:RP r5 n)=>gy (cells:=(Me.cells ⟨r2.val,r3.val,r4.val,r5.val⟩)) (size:=4) (B:=bytesOf 122) (by kernel_rfl) (by kernel_rfl) h.qV.2.2.2.1 cz.2.2.2.1
 have c145f:=fun(_:RP r n) (_:RP r2 n) (_:RP r3 n) (_:RP r4 n) (_:RP r5 n)=>oC heb
 have z5f:=fun(hp0:RP r n) (hp1:RP r2 n) (hp2:RP r3 n) (hp3:RP r4 n) (hp4:RP r5 n)=>(show KU g gc gd A n c T d [] (⟨154,.cY g (df A n c r5.pos)⟩::⟨46,.gJ gc [.own 3,.own 4,.own 5,.own 11,.own 7,.val (.int .i64 cf.aL)]⟩::⟨3,.cY gd [.int .i64 (d:Int)]⟩::([⟨3,.own 1 cf.ao.length cf.cp⟩,⟨118,.own 19 cf.ah.length cf.cr⟩,⟨81,.own 49 cf.rules.length cf.cl⟩,Sx.aa,⟨124,.own 3 cf.ab.length cf.ci⟩]++[⟨122,.ag (Me.cells ⟨r2.val,r3.val,r4.val,r5.val⟩)⟩,⟨253,.dm [.ptr 8 1,.ptr 8 2,.ptr 8 3]⟩,⟨122,.ag (Me.cells ⟨r2.val,r3.val,r4.val,r5.val⟩)⟩,⟨122,.own 4 (cf.aj.length+1) (cf.cm++(Me.cells ⟨r2.val,r3.val,r4.val,r5.val⟩))⟩]))from⟨({ cf with aj:=cf.aj++[⟨r2.val,r3.val,r4.val,r5.val⟩] }:CF),r5.pos,3,4,5,11,7,(fin hp0.1 hp1.1 hp2.1 hp3.1 hp4.1).trans (mW h.ec.kz.len heb),hp4.2,rfl,rfl,rfl,rfl,rfl,rfl,rfl,(show some (⟨122,.own 4 (cf.aj.length+1) (cf.cm++(Me.cells ⟨r2.val,r3.val,r4.val,r5.val⟩))⟩:Sx.Row)=some ⟨122,.own 4 ({ cf with aj:=cf.aj++[⟨r2.val,r3.val,r4.val,r5.val⟩] }:CF).aj.length ({ cf with aj:=cf.aj++[⟨r2.val,r3.val,r4.val,r5.val⟩] }:CF).cm⟩from by simp[CF.cm]),rfl⟩)
 refine fB h [(12,.al (cE 0 g A n c r af)),(20,.bin (.bool false)),(33,.bin (.bool false)),(50,.bin (.bool true)),(52,.al (cE 0 g A n c r2 af)),(145,.is (.bool false))] [.times [[(68,.al (cE 0 g A n c r3 gA))],[(68,.al (cE 0 g A n c r4 gA))],[(68,.al (cE 0 g A n c r5 gA))],[]]] (by kernel_rfl) Tryz.func131 rfl (Nat.le_of_ble_eq_true rfl) ?_
 exact Eq.mp (by kernel_rfl) (And.intro c12 (fun(hx0:r.okB=true∧r.pos≤n)=>(Sx.t4 (c20f hx0) (c33f hx0) (c50f hx0) (c52f hx0) (fun(hx1:r2.okB=true∧r2.pos≤n)=>(And.intro (c68f hx0 hx1) (fun(hx2:r3.okB=true∧r3.pos≤n)=>(And.intro (c68_2f hx0 hx1 hx2) (fun(hx3:r4.okB=true∧r4.pos≤n)=>(And.intro (c68_3f hx0 hx1 hx2 hx3) (fun(hx4:r5.okB=true∧r5.pos≤n)=>(Sx.t2 (c78f hx0 hx1 hx2 hx3 hx4) (c145f hx0 hx1 hx2 hx3 hx4) (z5f hx0 hx1 hx2 hx3 hx4))))))))))))
theorem AA{r:Out Bs}{r2:Out Bs}{r3:Out Nat}{r4:Out Nat}(h:zD w g gc gd A n c i ws cf d s)
  (nc12:ku 154 g A n c i ws af r)
  (noc12:fO r T)
  (k0:decide (r.val=b8)=false)
  (k1:decide (r.val=aJ)=false)
  (k2:decide (r.val=ak)=false)
  (k3:decide (r.val=ae)=true)
  (nc84:r.okB=true→ku 188 g A n c r.pos ws af r2)
  (noc84:r.okB=true→fO r2 T)
  (nc87:r.okB=true→r2.okB=true→ku 186 g A n c r2.pos ws gC r3)
  (noc87:r.okB=true→r2.okB=true→fO r3 T)
  (nc90:r.okB=true→r2.okB=true→r3.okB=true→ku 186 g A n c r3.pos ws gC r4)
  (noc90:r.okB=true→r2.okB=true→r3.okB=true→fO r4 T)
  (fin:r.okB=true→r2.okB=true→r3.okB=true→r4.okB=true→T=gR ws ({ cf with ab:=cf.ab++[⟨r2.val,(r3.val:Int),(r4.val:Int)⟩] }:CF) r4.pos)
  (heb:decide (r4.pos < n)=true) :
  Calls Tryz.prog 131 (DH g gc gd) w (eD g gc gd A n c T d (nj g gc gd s) w):=by
 have c12:=a6 (T:=T) 0 (mf g gc gd A n c cf d i (bg cf++[])) [] h.ec h.ec.le (noc12 ) rfl (nc12 )
 have c20f:=fun(_:RP r n)=>fun W=>aD (.tmp 12) (.const (af b8)) r.val b8 false k0 W
 have c33f:=fun(_:RP r n)=>fun W=>aD (.tmp 12) (.const (af aJ)) r.val aJ false k1 W
 have c50f:=fun(_:RP r n)=>fun W=>aD (.tmp 12) (.const (af ak)) r.val ak false k2 W
 have c82f:=fun(_:RP r n)=>fun W=>aD (.tmp 12) (.const (af ae)) r.val ae true k3 W
 have c84f:=fun(hp0:RP r n)=>a6 (T:=T) 0 (mf g gc gd A n c cf d r.pos (bg cf++[])) [] h.ec hp0.2 (noc84 hp0.1) rfl (nc84 hp0.1)
 have c87f:=fun(hp0:RP r n) (hp1:RP r2 n)=>a6 (T:=T) 0 (mf g gc gd A n c cf d r2.pos (bg cf++[⟨124,.ag (Mi.cells ⟨r2.val,0,0⟩)⟩])) [] h.ec hp1.2 (noc87 hp0.1 hp1.1) rfl (nc87 hp0.1 hp1.1)
 have c90f:=fun(hp0:RP r n) (hp1:RP r2 n) (hp2:RP r3 n)=>a6 (T:=T) 0 (mf g gc gd A n c cf d r3.pos (bg cf++[⟨124,.ag (Mi.cells ⟨r2.val,(r3.val:Int),0⟩)⟩])) [] h.ec hp2.2 (noc90 hp0.1 hp1.1 hp2.1) rfl (nc90 hp0.1 hp1.1 hp2.1)
 have c99f:=fun(_:RP r n) (_:RP r2 n) (_:RP r3 n) (_:RP r4 n)=>gy (cells:=(Mi.cells ⟨r2.val,(r3.val:Int),(r4.val:Int)⟩)) (size:=3) (B:=bytesOf 124) (by kernel_rfl) (by kernel_rfl) h.qV.2.2.2.2 cz.2.2.2.2
 have c145f:=fun(_:RP r n) (_:RP r2 n) (_:RP r3 n) (_:RP r4 n)=>oC heb
 have c151f:=fun(hp0:RP r n) (hp1:RP r2 n) (hp2:RP r3 n) (hp3:RP r4 n)=>(show Value.int .i64 (IntKind.i64.wrap ((r4.pos:Int)+1))=.int .i64 ((r4.pos:Int)+1)from iw (j5 (by omega) (by have:=hp3.2;have:=h.ec.bd;omega)))
 have c152f:=fun(hp0:RP r n) (hp1:RP r2 n) (hp2:RP r3 n) (hp3:RP r4 n)=>u4 w g (nj g gc gd s) A n c r4.pos ((fin hp0.1 hp1.1 hp2.1 hp3.1).trans (kp h.ec.kz.len heb))
 have z4f:=fun(_:RP r n) (_:RP r2 n) (_:RP r3 n) (_:RP r4 n)=>trivial
 refine fB h [(12,.al (cE 0 g A n c r af)),(20,.bin (.bool false)),(33,.bin (.bool false)),(50,.bin (.bool false)),(82,.bin (.bool true)),(84,.al (cE 0 g A n c r2 af)),(87,.al (cE 0 g A n c r3 gC)),(90,.al (cE 0 g A n c r4 gC)),(145,.is (.bool true)),(151,.is (.int .i64 ((r4.pos:Int)+1))),(152,.jt)] [] (by kernel_rfl) Tryz.func131 rfl (Nat.le_of_ble_eq_true rfl) ?_
 exact Eq.mp (by kernel_rfl) (And.intro c12 (fun(hx0:r.okB=true∧r.pos≤n)=>(Sx.t4 (c20f hx0) (c33f hx0) (c50f hx0) (c82f hx0) (And.intro (c84f hx0) (fun(hx1:r2.okB=true∧r2.pos≤n)=>(And.intro (c87f hx0 hx1) (fun(hx2:r3.okB=true∧r3.pos≤n)=>(And.intro (c90f hx0 hx1 hx2) (fun(hx3:r4.okB=true∧r4.pos≤n)=>(Sx.t4 (c99f hx0 hx1 hx2 hx3) (c145f hx0 hx1 hx2 hx3) (c151f hx0 hx1 hx2 hx3) (c152f hx0 hx1 hx2 hx3) (z4f hx0 hx1 hx2 hx3)))))))))))
theorem AB{r:Out Bs}{r2:Out Bs}{r3:Out Nat}{r4:Out Nat}(h:zD w g gc gd A n c i ws cf d s)
  (nc12:ku 154 g A n c i ws af r)
  (noc12:fO r T)
  (k0:decide (r.val=b8)=false)
  (k1:decide (r.val=aJ)=false)
  (k2:decide (r.val=ak)=false)
  (k3:decide (r.val=ae)=true)
  (nc84:r.okB=true→ku 188 g A n c r.pos ws af r2)
  (noc84:r.okB=true→fO r2 T)
  (nc87:r.okB=true→r2.okB=true→ku 186 g A n c r2.pos ws gC r3)
  (noc87:r.okB=true→r2.okB=true→fO r3 T)
  (nc90:r.okB=true→r2.okB=true→r3.okB=true→ku 186 g A n c r3.pos ws gC r4)
  (noc90:r.okB=true→r2.okB=true→r3.okB=true→fO r4 T)
  (fin:r.okB=true→r2.okB=true→r3.okB=true→r4.okB=true→T=gR ws ({ cf with ab:=cf.ab++[⟨r2.val,(r3.val:Int),(r4.val:Int)⟩] }:CF) r4.pos)
  (heb:decide (r4.pos < n)=false) :
  Calls Tryz.prog 131 (DH g gc gd) w (eD g gc gd A n c T d (nj g gc gd s) w):=by
 have c12:=a6 (T:=T) 0 (mf g gc gd A n c cf d i (bg cf++[])) [] h.ec h.ec.le (noc12 ) rfl (nc12 )
 have c20f:=fun(_:RP r n)=>fun W=>aD (.tmp 12) (.const (af b8)) r.val b8 false k0 W
 have c33f:=fun(_:RP r n)=>fun W=>aD (.tmp 12) (.const (af aJ)) r.val aJ false k1 W
 have c50f:=fun(_:RP r n)=>fun W=>aD (.tmp 12) (.const (af ak)) r.val ak false k2 W
 have c82f:=fun(_:RP r n)=>fun W=>aD (.tmp 12) (.const (af ae)) r.val ae true k3 W
 have c84f:=fun(hp0:RP r n)=>a6 (T:=T) 0 (mf g gc gd A n c cf d r.pos (bg cf++[])) [] h.ec hp0.2 (noc84 hp0.1) rfl (nc84 hp0.1)
 have c87f:=fun(hp0:RP r n) (hp1:RP r2 n)=>a6 (T:=T) 0 (mf g gc gd A n c cf d r2.pos (bg cf++[⟨124,.ag (Mi.cells ⟨r2.val,0,0⟩)⟩])) [] h.ec hp1.2 (noc87 hp0.1 hp1.1) rfl (nc87 hp0.1 hp1.1)
 have c90f:=fun(hp0:RP r n) (hp1:RP r2 n) (hp2:RP r3 n)=>a6 (T:=T) 0 (mf g gc gd A n c cf d r3.pos (bg cf++[⟨124,.ag (Mi.cells ⟨r2.val,(r3.val:Int),0⟩)⟩])) [] h.ec hp2.2 (noc90 hp0.1 hp1.1 hp2.1) rfl (nc90 hp0.1 hp1.1 hp2.1)
 have c99f:=fun(_:RP r n) (_:RP r2 n) (_:RP r3 n) (_:RP r4 n)=>gy (cells:=(Mi.cells ⟨r2.val,(r3.val:Int),(r4.val:Int)⟩)) (size:=3) (B:=bytesOf 124) (by kernel_rfl) (by kernel_rfl) h.qV.2.2.2.2 cz.2.2.2.2
 have c145f:=fun(_:RP r n) (_:RP r2 n) (_:RP r3 n) (_:RP r4 n)=>oC heb
 have z4f:=fun(hp0:RP r n) (hp1:RP r2 n) (hp2:RP r3 n) (hp3:RP r4 n)=>(show KU g gc gd A n c T d [] (⟨154,.cY g (df A n c r4.pos)⟩::⟨46,.gJ gc [.own 3,.own 4,.own 5,.own 6,.own 10,.val (.int .i64 cf.aL)]⟩::⟨3,.cY gd [.int .i64 (d:Int)]⟩::([⟨3,.own 1 cf.ao.length cf.cp⟩,⟨118,.own 19 cf.ah.length cf.cr⟩,⟨81,.own 49 cf.rules.length cf.cl⟩,⟨122,.own 4 cf.aj.length cf.cm⟩,Sx.aa]++[⟨124,.ag (Mi.cells ⟨r2.val,(r3.val:Int),(r4.val:Int)⟩)⟩,⟨124,.ag (Mi.cells ⟨r2.val,(r3.val:Int),(r4.val:Int)⟩)⟩,⟨124,.own 3 (cf.ab.length+1) (cf.ci++(Mi.cells ⟨r2.val,(r3.val:Int),(r4.val:Int)⟩))⟩]))from⟨({ cf with ab:=cf.ab++[⟨r2.val,(r3.val:Int),(r4.val:Int)⟩] }:CF),r4.pos,3,4,5,6,10,(fin hp0.1 hp1.1 hp2.1 hp3.1).trans (mW h.ec.kz.len heb),hp3.2,rfl,rfl,rfl,rfl,rfl,rfl,rfl,rfl,(show some (⟨124,.own 3 (cf.ab.length+1) (cf.ci++(Mi.cells ⟨r2.val,(r3.val:Int),(r4.val:Int)⟩))⟩:Sx.Row)=some ⟨124,.own 3 ({ cf with ab:=cf.ab++[⟨r2.val,(r3.val:Int),(r4.val:Int)⟩] }:CF).ab.length ({ cf with ab:=cf.ab++[⟨r2.val,(r3.val:Int),(r4.val:Int)⟩] }:CF).ci⟩from by simp[CF.ci])⟩)
 refine fB h [(12,.al (cE 0 g A n c r af)),(20,.bin (.bool false)),(33,.bin (.bool false)),(50,.bin (.bool false)),(82,.bin (.bool true)),(84,.al (cE 0 g A n c r2 af)),(87,.al (cE 0 g A n c r3 gC)),(90,.al (cE 0 g A n c r4 gC)),(145,.is (.bool false))] [] (by kernel_rfl) Tryz.func131 rfl (Nat.le_of_ble_eq_true rfl) ?_
 exact Eq.mp (by kernel_rfl) (And.intro c12 (fun(hx0:r.okB=true∧r.pos≤n)=>(Sx.t4 (c20f hx0) (c33f hx0) (c50f hx0) (c82f hx0) (And.intro (c84f hx0) (fun(hx1:r2.okB=true∧r2.pos≤n)=>(And.intro (c87f hx0 hx1) (fun(hx2:r3.okB=true∧r3.pos≤n)=>(And.intro (c90f hx0 hx1 hx2) (fun(hx3:r4.okB=true∧r4.pos≤n)=>(Sx.t2 (c99f hx0 hx1 hx2 hx3) (c145f hx0 hx1 hx2 hx3) (z4f hx0 hx1 hx2 hx3)))))))))))
theorem Gs{r:Out Bs}{r2:Out Rl}(h:zD w g gc gd A n c i ws cf d s)
  (nc12:ku 154 g A n c i ws af r)
  (noc12:fO r T)
  (k0:decide (r.val=b8)=false)
  (k1:decide (r.val=aJ)=false)
  (k2:decide (r.val=ak)=false)
  (k3:decide (r.val=ae)=false)
  (k4:decide (r.val=dM)=true)
  (nc110:r.okB=true→ku 190 g A n c r.pos ws xH r2)
  (noc110:r.okB=true→fO r2 T)
  (fin:r.okB=true→r2.okB=true→T=gR ws ({ cf with rules:=cf.rules++[r2.val] }:CF) r2.pos)
  (heb:decide (r2.pos < n)=true) :
  Calls Tryz.prog 131 (DH g gc gd) w (eD g gc gd A n c T d (nj g gc gd s) w):=by
 have c12:=a6 (T:=T) 0 (mf g gc gd A n c cf d i (bg cf++[])) [] h.ec h.ec.le (noc12 ) rfl (nc12 )
 have c20f:=fun(_:RP r n)=>fun W=>aD (.tmp 12) (.const (af b8)) r.val b8 false k0 W
 have c33f:=fun(_:RP r n)=>fun W=>aD (.tmp 12) (.const (af aJ)) r.val aJ false k1 W
 have c50f:=fun(_:RP r n)=>fun W=>aD (.tmp 12) (.const (af ak)) r.val ak false k2 W
 have c82f:=fun(_:RP r n)=>fun W=>aD (.tmp 12) (.const (af ae)) r.val ae false k3 W
 have c103f:=fun(_:RP r n)=>fun W=>aD (.tmp 12) (.const (af dM)) r.val dM true k4 W
 have c110f:=fun(hp0:RP r n)=>a6 (T:=T) 0 (mf g gc gd A n c cf d r.pos (bg cf++[])) [] h.ec hp0.2 (noc110 hp0.1) rfl (nc110 hp0.1)
 have c112f:=fun(_:RP r n) (_:RP r2 n)=>gy (cells:=r2.val.cells) (size:=49) (B:=bytesOf 81) (by kernel_rfl) (by kernel_rfl) h.qV.2.2.1 cz.2.2.1
 have c145f:=fun(_:RP r n) (_:RP r2 n)=>oC heb
 have c151f:=fun(hp0:RP r n) (hp1:RP r2 n)=>(show Value.int .i64 (IntKind.i64.wrap ((r2.pos:Int)+1))=.int .i64 ((r2.pos:Int)+1)from iw (j5 (by omega) (by have:=hp1.2;have:=h.ec.bd;omega)))
 have c152f:=fun(hp0:RP r n) (hp1:RP r2 n)=>u4 w g (nj g gc gd s) A n c r2.pos ((fin hp0.1 hp1.1).trans (kp h.ec.kz.len heb))
 have z2f:=fun(_:RP r n) (_:RP r2 n)=>trivial
 have z4f:=fun(_:RP r n) (_:¬(RP r2 n))=>trivial
 refine fB h [(12,.al (cE 0 g A n c r af)),(20,.bin (.bool false)),(33,.bin (.bool false)),(50,.bin (.bool false)),(82,.bin (.bool false)),(103,.bin (.bool true)),(110,.al (cE 0 g A n c r2 xH)),(145,.is (.bool true)),(151,.is (.int .i64 ((r2.pos:Int)+1))),(152,.jt)] [] (by kernel_rfl) Tryz.func131 rfl (Nat.le_of_ble_eq_true rfl) ?_
 exact Eq.mp (by kernel_rfl) (And.intro c12 (fun(hx0:r.okB=true∧r.pos≤n)=>(Sx.t4 (c20f hx0) (c33f hx0) (c50f hx0) (c82f hx0) (Sx.t2 (c103f hx0) (c110f hx0) (And.intro (fun(hx1:r2.okB=true∧r2.pos≤n)=>(Sx.t4 (c112f hx0 hx1) (c145f hx0 hx1) (c151f hx0 hx1) (c152f hx0 hx1) (z2f hx0 hx1))) (fun(hx3:¬(r2.okB=true∧r2.pos≤n))=>(z4f hx0 hx3)))))))
theorem Gt{r:Out Bs}{r2:Out Rl}(h:zD w g gc gd A n c i ws cf d s)
  (nc12:ku 154 g A n c i ws af r)
  (noc12:fO r T)
  (k0:decide (r.val=b8)=false)
  (k1:decide (r.val=aJ)=false)
  (k2:decide (r.val=ak)=false)
  (k3:decide (r.val=ae)=false)
  (k4:decide (r.val=dM)=true)
  (nc110:r.okB=true→ku 190 g A n c r.pos ws xH r2)
  (noc110:r.okB=true→fO r2 T)
  (fin:r.okB=true→r2.okB=true→T=gR ws ({ cf with rules:=cf.rules++[r2.val] }:CF) r2.pos)
  (heb:decide (r2.pos < n)=false) :
  Calls Tryz.prog 131 (DH g gc gd) w (eD g gc gd A n c T d (nj g gc gd s) w):=by
 have c12:=a6 (T:=T) 0 (mf g gc gd A n c cf d i (bg cf++[])) [] h.ec h.ec.le (noc12 ) rfl (nc12 )
 have c20f:=fun(_:RP r n)=>fun W=>aD (.tmp 12) (.const (af b8)) r.val b8 false k0 W
 have c33f:=fun(_:RP r n)=>fun W=>aD (.tmp 12) (.const (af aJ)) r.val aJ false k1 W
 have c50f:=fun(_:RP r n)=>fun W=>aD (.tmp 12) (.const (af ak)) r.val ak false k2 W
 have c82f:=fun(_:RP r n)=>fun W=>aD (.tmp 12) (.const (af ae)) r.val ae false k3 W
 have c103f:=fun(_:RP r n)=>fun W=>aD (.tmp 12) (.const (af dM)) r.val dM true k4 W
 have c110f:=fun(hp0:RP r n)=>a6 (T:=T) 0 (mf g gc gd A n c cf d r.pos (bg cf++[])) [] h.ec hp0.2 (noc110 hp0.1) rfl (nc110 hp0.1)
 have c112f:=fun(_:RP r n) (_:RP r2 n)=>gy (cells:=r2.val.cells) (size:=49) (B:=bytesOf 81) (by kernel_rfl) (by kernel_rfl) h.qV.2.2.1 cz.2.2.1
 have c145f:=fun(_:RP r n) (_:RP r2 n)=>oC heb
 have z2f:=fun(hp0:RP r n) (hp1:RP r2 n)=>(show KU g gc gd A n c T d [] (⟨154,.cY g (df A n c r2.pos)⟩::⟨46,.gJ gc [.own 3,.own 4,.own 9,.own 6,.own 7,.val (.int .i64 cf.aL)]⟩::⟨3,.cY gd [.int .i64 (d:Int)]⟩::([⟨3,.own 1 cf.ao.length cf.cp⟩,⟨118,.own 19 cf.ah.length cf.cr⟩,Sx.aa,⟨122,.own 4 cf.aj.length cf.cm⟩,⟨124,.own 3 cf.ab.length cf.ci⟩]++[⟨81,.ag r2.val.cells⟩,⟨81,.own 49 (cf.rules.length+1) (cf.cl++r2.val.cells)⟩]))from⟨({ cf with rules:=cf.rules++[r2.val] }:CF),r2.pos,3,4,9,6,7,(fin hp0.1 hp1.1).trans (mW h.ec.kz.len heb),hp1.2,rfl,rfl,rfl,rfl,rfl,rfl,(show some (⟨81,.own 49 (cf.rules.length+1) (cf.cl++r2.val.cells)⟩:Sx.Row)=some ⟨81,.own 49 ({ cf with rules:=cf.rules++[r2.val] }:CF).rules.length ({ cf with rules:=cf.rules++[r2.val] }:CF).cl⟩from by simp[CF.cl]),rfl,rfl⟩)
 have z4f:=fun(_:RP r n) (_:¬(RP r2 n))=>trivial
 refine fB h [(12,.al (cE 0 g A n c r af)),(20,.bin (.bool false)),(33,.bin (.bool false)),(50,.bin (.bool false)),(82,.bin (.bool false)),(103,.bin (.bool true)),(110,.al (cE 0 g A n c r2 xH)),(145,.is (.bool false))] [] (by kernel_rfl) Tryz.func131 rfl (Nat.le_of_ble_eq_true rfl) ?_
 exact Eq.mp (by kernel_rfl) (And.intro c12 (fun(hx0:r.okB=true∧r.pos≤n)=>(Sx.t4 (c20f hx0) (c33f hx0) (c50f hx0) (c82f hx0) (Sx.t2 (c103f hx0) (c110f hx0) (And.intro (fun(hx1:r2.okB=true∧r2.pos≤n)=>(Sx.t2 (c112f hx0 hx1) (c145f hx0 hx1) (z2f hx0 hx1))) (fun(hx3:¬(r2.okB=true∧r2.pos≤n))=>(z4f hx0 hx3)))))))
theorem yC{d0:Bool}{r:Out Bs}{r2:Out (Int×Int)}(h:zD w g gc gd A n c i ws cf d s)
  (nc12:ku 154 g A n c i ws af r)
  (noc12:fO r T)
  (k0:decide (r.val=b8)=false)
  (k1:decide (r.val=aJ)=false)
  (k2:decide (r.val=ak)=false)
  (k3:decide (r.val=ae)=false)
  (k4:decide (r.val=dM)=false)
  (k5:decide (r.val=av)=true)
  (hd0:Value.bool (((d+1:Nat):Int)==1)=.bool d0)
  (no127:r.okB=true→∀code p,(ax d0 200 () r.pos)=.no code p→T=.no code p)
  (nc131:r.okB=true→(ax d0 200 () r.pos).okB=true→∀W,dF W g A n c (ax d0 200 () r.pos).pos ws→Calls Tryz.prog 192 (.pointer (some ⟨g,0,none⟩)::[.bool false]).toArray W (aY g A n c jA r2 W))
  (noc131:r.okB=true→(ax d0 200 () r.pos).okB=true→fO r2 T)
  (fin:r.okB=true→(ax d0 200 () r.pos).okB=true→r2.okB=true→T=gR ws ({ cf with aL:=r2.val.1 }:CF) r2.pos)
  (heb:decide (r2.pos < n)=true) :
  Calls Tryz.prog 131 (DH g gc gd) w (eD g gc gd A n c T (d+1:Nat) (nj g gc gd s) w):=by
 have hdle:=h.Nq
 have c12:=a6 (T:=T) 0 (mf g gc gd A n c cf d i (bg cf++[])) [] h.ec h.ec.le (noc12 ) rfl (nc12 )
 have c20f:=fun(_:RP r n)=>fun W=>aD (.tmp 12) (.const (af b8)) r.val b8 false k0 W
 have c33f:=fun(_:RP r n)=>fun W=>aD (.tmp 12) (.const (af aJ)) r.val aJ false k1 W
 have c50f:=fun(_:RP r n)=>fun W=>aD (.tmp 12) (.const (af ak)) r.val ak false k2 W
 have c82f:=fun(_:RP r n)=>fun W=>aD (.tmp 12) (.const (af ae)) r.val ae false k3 W
 have c103f:=fun(_:RP r n)=>fun W=>aD (.tmp 12) (.const (af dM)) r.val dM false k4 W
 have c116f:=fun(_:RP r n)=>fun W=>aD (.tmp 12) (.const (af av)) r.val av true k5 W
 have c120f:=fun(_:RP r n)=>(show Value.int .i64 (IntKind.i64.wrap ((d:Int)+1))=.int .i64 ((d+1:Nat):Int)from iw (by rw[j5 (by omega) (by omega)];rfl))
 have c126f:=fun(_:RP r n)=>hd0
 have c127f:=fun(hp0:RP r n)=>a6 (T:=T) 0 (⟨154,.cY g (df A n c r.pos)⟩::⟨46,.gJ gc [.own 3,.own 4,.own 5,.own 6,.own 7,.val (.int .i64 cf.aL)]⟩::⟨3,.cY gd [.int .i64 ((d+1:Nat):Int)]⟩::(bg cf++[])) [.bool d0,.int .i64 200] h.ec hp0.2 (no127 hp0.1) rfl (fun W hL=>ee d0 200 () hL)
 have c131f:=fun(hp0:RP r n) (hp1:(ax d0 200 () r.pos).okB=true∧(ax d0 200 () r.pos).pos≤n)=>a6 (T:=T) 0 (⟨154,.cY g (df A n c (ax d0 200 () r.pos).pos)⟩::⟨46,.gJ gc [.own 3,.own 4,.own 5,.own 6,.own 7,.val (.int .i64 cf.aL)]⟩::⟨3,.cY gd [.int .i64 ((d+1:Nat):Int)]⟩::(bg cf++[])) [.bool false] h.ec hp1.2 (noc131 hp0.1 hp1.1) rfl (nc131 hp0.1 hp1.1)
 have c145f:=fun(_:RP r n) (_:(ax d0 200 () r.pos).okB=true∧(ax d0 200 () r.pos).pos≤n) (_:RP r2 n)=>oC heb
 have c151f:=fun(hp0:RP r n) (hp1:(ax d0 200 () r.pos).okB=true∧(ax d0 200 () r.pos).pos≤n) (hp2:RP r2 n)=>(show Value.int .i64 (IntKind.i64.wrap ((r2.pos:Int)+1))=.int .i64 ((r2.pos:Int)+1)from iw (j5 (by omega) (by have:=hp2.2;have:=h.ec.bd;omega)))
 have c152f:=fun(hp0:RP r n) (hp1:(ax d0 200 () r.pos).okB=true∧(ax d0 200 () r.pos).pos≤n) (hp2:RP r2 n)=>u4 w g (nj g gc gd s) A n c r2.pos ((fin hp0.1 hp1.1 hp2.1).trans (kp h.ec.kz.len heb))
 have z3f:=fun(_:RP r n) (_:(ax d0 200 () r.pos).okB=true∧(ax d0 200 () r.pos).pos≤n) (_:RP r2 n)=>trivial
 refine fB h [(12,.al (cE 0 g A n c r af)),(20,.bin (.bool false)),(33,.bin (.bool false)),(50,.bin (.bool false)),(82,.bin (.bool false)),(103,.bin (.bool false)),(116,.bin (.bool true)),(120,.is (.int .i64 ((d+1:Nat):Int))),(126,.is (.bool d0)),(127,.al (cE 0 g A n c (ax d0 200 () r.pos) (fun _=>.tuple #[]))),(131,.al (cE 0 g A n c r2 jA)),(145,.is (.bool true)),(151,.is (.int .i64 ((r2.pos:Int)+1))),(152,.jt)] [] (by kernel_rfl) Tryz.func131 rfl (Nat.le_of_ble_eq_true rfl) ?_
 exact Eq.mp (by kernel_rfl) (And.intro c12 (fun(hx0:r.okB=true∧r.pos≤n)=>(Sx.t8 (c20f hx0) (c33f hx0) (c50f hx0) (c82f hx0) (c103f hx0) (c116f hx0) (c120f hx0) (c126f hx0) (And.intro (c127f hx0) (fun(hx1:(ax d0 200 () r.pos).okB=true∧(ax d0 200 () r.pos).pos≤n)=>(And.intro (c131f hx0 hx1) (fun(hx2:r2.okB=true∧r2.pos≤n)=>(Sx.t2 (c145f hx0 hx1 hx2) (c151f hx0 hx1 hx2) (And.intro (c152f hx0 hx1 hx2) (z3f hx0 hx1 hx2))))))))))
theorem yD{d0:Bool}{r:Out Bs}{r2:Out (Int×Int)}(h:zD w g gc gd A n c i ws cf d s)
  (nc12:ku 154 g A n c i ws af r)
  (noc12:fO r T)
  (k0:decide (r.val=b8)=false)
  (k1:decide (r.val=aJ)=false)
  (k2:decide (r.val=ak)=false)
  (k3:decide (r.val=ae)=false)
  (k4:decide (r.val=dM)=false)
  (k5:decide (r.val=av)=true)
  (hd0:Value.bool (((d+1:Nat):Int)==1)=.bool d0)
  (no127:r.okB=true→∀code p,(ax d0 200 () r.pos)=.no code p→T=.no code p)
  (nc131:r.okB=true→(ax d0 200 () r.pos).okB=true→∀W,dF W g A n c (ax d0 200 () r.pos).pos ws→Calls Tryz.prog 192 (.pointer (some ⟨g,0,none⟩)::[.bool false]).toArray W (aY g A n c jA r2 W))
  (noc131:r.okB=true→(ax d0 200 () r.pos).okB=true→fO r2 T)
  (fin:r.okB=true→(ax d0 200 () r.pos).okB=true→r2.okB=true→T=gR ws ({ cf with aL:=r2.val.1 }:CF) r2.pos)
  (heb:decide (r2.pos < n)=false) :
  Calls Tryz.prog 131 (DH g gc gd) w (eD g gc gd A n c T (d+1:Nat) (nj g gc gd s) w):=by
 have hdle:=h.Nq
 have c12:=a6 (T:=T) 0 (mf g gc gd A n c cf d i (bg cf++[])) [] h.ec h.ec.le (noc12 ) rfl (nc12 )
 have c20f:=fun(_:RP r n)=>fun W=>aD (.tmp 12) (.const (af b8)) r.val b8 false k0 W
 have c33f:=fun(_:RP r n)=>fun W=>aD (.tmp 12) (.const (af aJ)) r.val aJ false k1 W
 have c50f:=fun(_:RP r n)=>fun W=>aD (.tmp 12) (.const (af ak)) r.val ak false k2 W
 have c82f:=fun(_:RP r n)=>fun W=>aD (.tmp 12) (.const (af ae)) r.val ae false k3 W
 have c103f:=fun(_:RP r n)=>fun W=>aD (.tmp 12) (.const (af dM)) r.val dM false k4 W
 have c116f:=fun(_:RP r n)=>fun W=>aD (.tmp 12) (.const (af av)) r.val av true k5 W
 have c120f:=fun(_:RP r n)=>(show Value.int .i64 (IntKind.i64.wrap ((d:Int)+1))=.int .i64 ((d+1:Nat):Int)from iw (by rw[j5 (by omega) (by omega)];rfl))
 have c126f:=fun(_:RP r n)=>hd0
 have c127f:=fun(hp0:RP r n)=>a6 (T:=T) 0 (⟨154,.cY g (df A n c r.pos)⟩::⟨46,.gJ gc [.own 3,.own 4,.own 5,.own 6,.own 7,.val (.int .i64 cf.aL)]⟩::⟨3,.cY gd [.int .i64 ((d+1:Nat):Int)]⟩::(bg cf++[])) [.bool d0,.int .i64 200] h.ec hp0.2 (no127 hp0.1) rfl (fun W hL=>ee d0 200 () hL)
 have c131f:=fun(hp0:RP r n) (hp1:(ax d0 200 () r.pos).okB=true∧(ax d0 200 () r.pos).pos≤n)=>a6 (T:=T) 0 (⟨154,.cY g (df A n c (ax d0 200 () r.pos).pos)⟩::⟨46,.gJ gc [.own 3,.own 4,.own 5,.own 6,.own 7,.val (.int .i64 cf.aL)]⟩::⟨3,.cY gd [.int .i64 ((d+1:Nat):Int)]⟩::(bg cf++[])) [.bool false] h.ec hp1.2 (noc131 hp0.1 hp1.1) rfl (nc131 hp0.1 hp1.1)
 have c145f:=fun(_:RP r n) (_:(ax d0 200 () r.pos).okB=true∧(ax d0 200 () r.pos).pos≤n) (_:RP r2 n)=>oC heb
 have z3f:=fun(hp0:RP r n) (hp1:(ax d0 200 () r.pos).okB=true∧(ax d0 200 () r.pos).pos≤n) (hp2:RP r2 n)=>(show KU g gc gd A n c T (d+1:Nat) [] (⟨154,.cY g (df A n c r2.pos)⟩::⟨46,.gJ gc [.own 3,.own 4,.own 5,.own 6,.own 7,.val (.int .i64 r2.val.1)]⟩::⟨3,.cY gd [.int .i64 ((d+1:Nat):Int)]⟩::(bg cf++[]))from⟨({ cf with aL:=r2.val.1 }:CF),r2.pos,3,4,5,6,7,(fin hp0.1 hp1.1 hp2.1).trans (mW h.ec.kz.len heb),hp2.2,rfl,rfl,rfl,rfl,rfl,rfl,rfl,rfl,rfl⟩)
 refine fB h [(12,.al (cE 0 g A n c r af)),(20,.bin (.bool false)),(33,.bin (.bool false)),(50,.bin (.bool false)),(82,.bin (.bool false)),(103,.bin (.bool false)),(116,.bin (.bool true)),(120,.is (.int .i64 ((d+1:Nat):Int))),(126,.is (.bool d0)),(127,.al (cE 0 g A n c (ax d0 200 () r.pos) (fun _=>.tuple #[]))),(131,.al (cE 0 g A n c r2 jA)),(145,.is (.bool false))] [] (by kernel_rfl) Tryz.func131 rfl (Nat.le_of_ble_eq_true rfl) ?_
 exact Eq.mp (by kernel_rfl) (And.intro c12 (fun(hx0:r.okB=true∧r.pos≤n)=>(Sx.t8 (c20f hx0) (c33f hx0) (c50f hx0) (c82f hx0) (c103f hx0) (c116f hx0) (c120f hx0) (c126f hx0) (And.intro (c127f hx0) (fun(hx1:(ax d0 200 () r.pos).okB=true∧(ax d0 200 () r.pos).pos≤n)=>(And.intro (c131f hx0 hx1) (fun(hx2:r2.okB=true∧r2.pos≤n)=>(And.intro (c145f hx0 hx1 hx2) (z3f hx0 hx1 hx2)))))))))
theorem Gw{r:Out Bs}(h:zD w g gc gd A n c i ws cf d s)
  (nc12:ku 154 g A n c i ws af r)
  (noc12:fO r T)
  (k0:decide (r.val=b8)=false)
  (k1:decide (r.val=aJ)=false)
  (k2:decide (r.val=ak)=false)
  (k3:decide (r.val=ae)=false)
  (k4:decide (r.val=dM)=false)
  (k5:decide (r.val=av)=false)
  (fin:r.okB=true→T=.no 200 r.pos) :
  Calls Tryz.prog 131 (DH g gc gd) w (eD g gc gd A n c T d (nj g gc gd s) w):=by
 have c12:=a6 (T:=T) 0 (mf g gc gd A n c cf d i (bg cf++[])) [] h.ec h.ec.le (noc12 ) rfl (nc12 )
 have c20f:=fun(_:RP r n)=>fun W=>aD (.tmp 12) (.const (af b8)) r.val b8 false k0 W
 have c33f:=fun(_:RP r n)=>fun W=>aD (.tmp 12) (.const (af aJ)) r.val aJ false k1 W
 have c50f:=fun(_:RP r n)=>fun W=>aD (.tmp 12) (.const (af ak)) r.val ak false k2 W
 have c82f:=fun(_:RP r n)=>fun W=>aD (.tmp 12) (.const (af ae)) r.val ae false k3 W
 have c103f:=fun(_:RP r n)=>fun W=>aD (.tmp 12) (.const (af dM)) r.val dM false k4 W
 have c116f:=fun(_:RP r n)=>fun W=>aD (.tmp 12) (.const (af av)) r.val av false k5 W
 have c18f:=fun(hp0:RP r n) W (hW:aw (nj g gc gd s) w W) (_:aB W g 154 (df A n c r.pos))=>jg (b:=⟨w,nj g gc gd s,jz T w⟩) (vs:=[.pointer (some ⟨g,0,none⟩),.int .i64 200,.int .i64 (r.pos:Int)]) (ps:=[(0,0)]) ((oh (.pointer (some ⟨g,0,none⟩)) 200 (r.pos:Int) W).mono fun _ _ ⟨ch,he,hf,hc⟩=>⟨ch,he,(show jz T w _ _ from⟨200,r.pos,fin hp0.1,hf.up hW.size⟩),hc⟩)
 have z1f:=fun(_:RP r n)=>trivial
 refine fB h [(12,.al (cE 0 g A n c r af)),(20,.bin (.bool false)),(33,.bin (.bool false)),(50,.bin (.bool false)),(82,.bin (.bool false)),(103,.bin (.bool false)),(116,.bin (.bool false)),(18,.jt)] [] (by kernel_rfl) Tryz.func131 rfl (Nat.le_of_ble_eq_true rfl) ?_
 exact Eq.mp (by kernel_rfl) (And.intro c12 (fun(hx0:r.okB=true∧r.pos≤n)=>(Sx.t4 (c20f hx0) (c33f hx0) (c50f hx0) (c82f hx0) (Sx.t2 (c103f hx0) (c116f hx0) (And.intro (c18f hx0) (z1f hx0))))))
end
end Go.Proofs.YtnncigmpcdehnaaGreatDoor
