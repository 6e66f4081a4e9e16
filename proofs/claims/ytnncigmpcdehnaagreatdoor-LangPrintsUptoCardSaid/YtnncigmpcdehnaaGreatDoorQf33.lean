import Derived.Test.YtnncigmpcdehnaaGreatDoorQf32
namespace Go.Proofs.YtnncigmpcdehnaaGreatDoor
set_option maxRecDepth 100000
open Go Go.RowKit Go.Lib Go.Sort _root_.Go.Proofs.Tryz
set_option maxRecDepth 100000
theorem PN(x y:Operand)(a p:Nat)(ha:a < 256)(hp:p≠0)(W:World):(do eqGuard .quo 5 x y (.int .u8 (a:Int)) (.int .u8 (p:Int)); binOp .quo 5 (.int .u8 (a:Int)) (.int .u8 (p:Int)):Sem Value).run prog W=.ok (.int .u8 ((a / p:Nat):Int)) W:=by
 show(Op.intDiv .quo .u8 (a:Int) (p:Int)).run prog W=_
 unfold Op.intDiv
 rw[if_neg (by omega)]
 show Result.ok (Value.int .u8 (IntKind.u8.wrap ((a:Int).tdiv (p:Int)))) W=_
 have h:a / p≤a:=Nat.div_le_self _ _
 rw[show(a:Int).tdiv (p:Int)=((a / p:Nat):Int)from rfl]
 generalize a / p=q at h ⊢
 rw[IntWalk.u8_in _ ⟨by omega,by omega⟩]
theorem ML(m:Mt)(hm:m.Wf)(k p:Nat)(hp:p=2^k)(w:World):Calls prog 146 #[j5 m,.int .u8 (p:Int)] w (Rn w (.bool (m.asks.testBit k))):=by
 have ha:m.asks < 256:=hm.asks
 have c8:=fun W=>PN (.tmp 6) (.tmp 7) m.asks p ha (by rw[hp];exact Nat.pos_iff_ne_zero.1 (Nat.two_pow_pos k)) W
 have c9:Value.int .u8 (((m.asks / p:Nat):Int).tmod 2)=.int .u8 ((m.asks / p%2:Nat):Int):=rfl
 have c10:Value.bool (((m.asks / p%2:Nat):Int)==1)=.bool (m.asks.testBit k):=by
  rw[Nat.testBit_eq_decide_div_mod_eq,←hp]
  congr 1
  rw[Bool.eq_iff_iff]
  simp only[beq_iff_eq,decide_eq_true_eq]
  omega
 have z0:Value.bool (m.asks.testBit k)=.bool (m.asks.testBit k):=rfl
 refine Sx.aF (args:=[j5 m,.int .u8 (p:Int)]) [(8,.bin (.int .u8 ((m.asks / p:Nat):Int))),(9,.is (.int .u8 ((m.asks / p%2:Nat):Int))),(10,.is (.bool (m.asks.testBit k)))] [] (by kernel_rfl) func146 rfl (cn rfl) ?_
 exact Eq.mp (by kernel_rfl) (Sx.t2 c8 c9 (And.intro c10 z0))
theorem IZ(p:Nat)(w:World):Calls prog 148 #[.int .u8 (p:Int)] w (Rn w (.bool (decide (p=6)||decide (p=17)))):=by
 have e6:((p:Int)==6)=decide (p=6):=by rw[Bool.eq_iff_iff];simp only[beq_iff_eq,decide_eq_true_eq];omega
 have e17:((p:Int)==17)=decide (p=17):=by rw[Bool.eq_iff_iff];simp only[beq_iff_eq,decide_eq_true_eq];omega
 cases h6:decide (p=6)with
 |true=>
  have c4:Value.bool ((p:Int)==6)=.bool true:=by rw[e6,h6]
  have z0:Value.bool true=.bool (true||decide (p=17)):=rfl
  refine Sx.aF (args:=[.int .u8 (p:Int)]) [(4,.is (.bool true))] [] (by kernel_rfl) func148 rfl (cn rfl) ?_
  exact Eq.mp (by kernel_rfl) (And.intro c4 z0)
 |false=>
  have c4:Value.bool ((p:Int)==6)=.bool false:=by rw[e6,h6]
  have c7:Value.bool ((p:Int)==17)=.bool (decide (p=17)):=by rw[e17]
  have z0:Value.bool (decide (p=17))=.bool (false||decide (p=17)):=rfl
  refine Sx.aF (args:=[.int .u8 (p:Int)]) [(4,.is (.bool false)),(7,.is (.bool (decide (p=17))))] [] (by kernel_rfl) func148 rfl (cn rfl) ?_
  exact Eq.mp (by kernel_rfl) (Sx.t2 c4 c7 z0)
def fy(b0 b1 b2 b3 b4 b5:Bool)(s:Nat)(t:Bool):List (Nat×Sx.SV):=[(1,.ptr 0 0),(3,.ptr 1 0),(4,.val (.bool b0)),(5,.val (.bool b1)),(6,.val (.bool b2)),(7,.val (.bool b3)),(8,.val (.bool b4)),(9,.val (.bool b5)),(s,.val (.bool t))]
def nf(m:Mt):List Sx.Row:=[⟨66,.ak m.cells⟩,⟨64,.ak [.int .u16 0,.int .u16 0]⟩]
def Eu(b3 a4 a5 t6 g1 g2 g3 g4 u3 pt:Bool):Bool:=
 bif t6 then false else bif g1||(g2||(g3||g4))then false else bif u3 then false else(a4&&a5)||(b3&&pt)
structure oQ(t a n r:Bool):Prop where
 x:t=true→true=r
 y:t=false→a=true→n=r
 z:t=false→a=false→false=r
theorem qi(t a n:Bool):oQ t a n (t||(a&&n)):=⟨fun h=>by rw[h];rfl,fun h h'=>by rw[h,h'];rfl,fun h h'=>by rw[h,h'];rfl⟩
theorem I0(m:Mt)(w:World)(b0 b1 b2 b3 b4 b5 a0 a1 a2 a3 a4 a5 t0 n0 n1 n2 n3 n4 n5 t1 t2 t3 t4 t5 t6 g1 g2 g3 g4 x1 x2 y1 y2 u1 u2 u3 ne pt:Bool)
  (c12:∀W,ai [] w W→Calls prog 146 #[j5 m,.int .u8 1] W (Rn W (.bool b0)))
  (c14:∀W,ai [] w W→Calls prog 146 #[j5 m,.int .u8 2] W (Rn W (.bool b1)))
  (ir:∀W,ai [] w W→Calls prog 146 #[j5 m,.int .u8 4] W (Rn W (.bool b2)))
  (c18:∀W,ai [] w W→Calls prog 146 #[j5 m,.int .u8 8] W (Rn W (.bool b3)))
  (c20:∀W,ai [] w W→Calls prog 146 #[j5 m,.int .u8 16] W (Rn W (.bool b4)))
  (c22:∀W,ai [] w W→Calls prog 146 #[j5 m,.int .u8 32] W (Rn W (.bool b5)))
  (c28:Value.bool (!b0)=.bool a0)
  (c38:Value.bool (!b1)=.bool a1)
  (c48:Value.bool (!b2)=.bool a2)
  (c58:Value.bool (!b3)=.bool a3)
  (c67:Value.bool (!b4)=.bool a4)
  (c77:Value.bool (!b5)=.bool a5)
  (c25:Value.bool (decide ((m.asks:Int) > 63))=.bool t0)
  (c33:∀W,(do eqGuard .neq 64 (.tmp 31) (.tmp 32) (iV m.ff) (iV (0,0));binOp .neq 64 (iV m.ff) (iV (0,0)):Sem Value).run prog W=.ok (.bool n0) W)
  (c43:∀W,(do eqGuard .neq 29 (.tmp 41) (.tmp 42) (n9 m.src) (n9 oc);binOp .neq 29 (n9 m.src) (n9 oc):Sem Value).run prog W=.ok (.bool n1) W)
  (c53:∀W,(do eqGuard .neq 29 (.tmp 51) (.tmp 52) (n9 m.dst) (n9 oc);binOp .neq 29 (n9 m.dst) (n9 oc):Sem Value).run prog W=.ok (.bool n2) W)
  (c62:Value.bool ((m.bb:Int) !=0)=.bool n3)
  (c72:∀W,(do eqGuard .neq 64 (.tmp 70) (.tmp 71) (iV m.sp) (iV (0,0));binOp .neq 64 (iV m.sp) (iV (0,0)):Sem Value).run prog W=.ok (.bool n4) W)
  (c82:∀W,(do eqGuard .neq 64 (.tmp 80) (.tmp 81) (iV m.dp) (iV (0,0));binOp .neq 64 (iV m.dp) (iV (0,0)):Sem Value).run prog W=.ok (.bool n5) W)
  (k1:oQ t0 a0 n0 t1)
  (k2:oQ t1 a1 n1 t2)
  (k3:oQ t2 a2 n2 t3)
  (k4:oQ t3 a3 n3 t4)
  (k5:oQ t4 a4 n4 t5)
  (k6:oQ t5 a5 n5 t6)
  (c91:Value.bool (decide ((m.ff.1:Int) > (m.ff.2:Int)))=.bool g1) (c96:Value.bool (decide ((m.ff.2:Int) > 255))=.bool g2) (c105:Value.bool (decide ((m.sp.1:Int) > (m.sp.2:Int)))=.bool g3) (c114:Value.bool (decide ((m.dp.1:Int) > (m.dp.2:Int)))=.bool g4)
  (c120:∀W,ai [] w W→Calls prog 147 #[n9 m.src] W (Rn W (.bool x1))) (c128:∀W,ai [] w W→Calls prog 147 #[n9 m.dst] W (Rn W (.bool x2)))
  (c121:Value.bool (!x1)=.bool y1) (c129:Value.bool (!x2)=.bool y2) (k7:oQ false b1 y1 u1) (k8:oQ u1 b2 y2 u2) (k9:oQ u2 (b1&&b2) ne u3)
  (c146:Value.bool (m.src.v !=m.dst.v)=.bool ne) (c160:∀W,ai [] w W→Calls prog 148 #[.int .u8 (m.bb:Int)] W (Rn W (.bool pt))) :
  Calls prog 88 #[j5 m] w (Rn w (.bool (Eu b3 a4 a5 t6 g1 g2 g3 g4 u3 pt))):=by
 have c150:=c67
 have c153:=c77
 have zmem:=(rfl:nf m=nf m)
 have h1f:=fun(h:t0=true)=>congrArg (fy b0 b1 b2 b3 b4 b5 36) (k1.x h)
 have h4f:=fun(h:t0=false) (h':a0=true)=>congrArg (fy b0 b1 b2 b3 b4 b5 36) (k1.y h h')
 have h6f:=fun(h:t0=false) (h':a0=false)=>congrArg (fy b0 b1 b2 b3 b4 b5 36) (k1.z h h')
 have h9f:=fun(h:t1=true)=>congrArg (fy b0 b1 b2 b3 b4 b5 46) (k2.x h)
 have h12f:=fun(h:t1=false) (h':a1=true)=>congrArg (fy b0 b1 b2 b3 b4 b5 46) (k2.y h h')
 have h14f:=fun(h:t1=false) (h':a1=false)=>congrArg (fy b0 b1 b2 b3 b4 b5 46) (k2.z h h')
 have h17f:=fun(h:t2=true)=>congrArg (fy b0 b1 b2 b3 b4 b5 56) (k3.x h)
 have h20f:=fun(h:t2=false) (h':a2=true)=>congrArg (fy b0 b1 b2 b3 b4 b5 56) (k3.y h h')
 have h22f:=fun(h:t2=false) (h':a2=false)=>congrArg (fy b0 b1 b2 b3 b4 b5 56) (k3.z h h')
 have h25f:=fun(h:t3=true)=>congrArg (fy b0 b1 b2 b3 b4 b5 65) (k4.x h)
 have h28f:=fun(h:t3=false) (h':a3=true)=>congrArg (fy b0 b1 b2 b3 b4 b5 65) (k4.y h h')
 have h30f:=fun(h:t3=false) (h':a3=false)=>congrArg (fy b0 b1 b2 b3 b4 b5 65) (k4.z h h')
 have h33f:=fun(h:t4=true)=>congrArg (fy b0 b1 b2 b3 b4 b5 75) (k5.x h)
 have h36f:=fun(h:t4=false) (h':a4=true)=>congrArg (fy b0 b1 b2 b3 b4 b5 75) (k5.y h h')
 have h38f:=fun(h:t4=false) (h':a4=false)=>congrArg (fy b0 b1 b2 b3 b4 b5 75) (k5.z h h')
 have h41f:=fun(h:t5=true)=>congrArg (fy b0 b1 b2 b3 b4 b5 84) (k6.x h)
 have h44f:=fun(h:t5=false) (h':a5=true)=>congrArg (fy b0 b1 b2 b3 b4 b5 84) (k6.y h h')
 have h46f:=fun(h:t5=false) (h':a5=false)=>congrArg (fy b0 b1 b2 b3 b4 b5 84) (k6.z h h')
 have h59f:=fun(_:t6=false) (_:g1=false) (_:g2=false) (_:g3=false) (_:g4=false) (h:b1=true)=>congrArg (fy b0 b1 b2 b3 b4 b5 123) (k7.y rfl h)
 have h61f:=fun(_:t6=false) (_:g1=false) (_:g2=false) (_:g3=false) (_:g4=false) (h:b1=false)=>congrArg (fy b0 b1 b2 b3 b4 b5 123) (k7.z rfl h)
 have h64f:=fun(_:t6=false) (_:g1=false) (_:g2=false) (_:g3=false) (_:g4=false) (h:u1=true)=>congrArg (fy b0 b1 b2 b3 b4 b5 132) (k8.x h)
 have h67f:=fun(_:t6=false) (_:g1=false) (_:g2=false) (_:g3=false) (_:g4=false) (h:u1=false) (h':b2=true)=>congrArg (fy b0 b1 b2 b3 b4 b5 132) (k8.y h h')
 have h69f:=fun(_:t6=false) (_:g1=false) (_:g2=false) (_:g3=false) (_:g4=false) (h:u1=false) (h':b2=false)=>congrArg (fy b0 b1 b2 b3 b4 b5 132) (k8.z h h')
 have h72f:=fun(_:t6=false) (_:g1=false) (_:g2=false) (_:g3=false) (_:g4=false) (h:u2=true)=>congrArg (fy b0 b1 b2 b3 b4 b5 148) (k9.x h)
 have h76f:=fun(_:t6=false) (_:g1=false) (_:g2=false) (_:g3=false) (_:g4=false) (h:u2=false) (h1:b1=true) (h2:b2=true)=>congrArg (fy b0 b1 b2 b3 b4 b5 148) (k9.y h (by rw[h1,h2];rfl))
 have h78f:=fun(_:t6=false) (_:g1=false) (_:g2=false) (_:g3=false) (_:g4=false) (h:u2=false) (h1:b1=true) (h2:b2=false)=>congrArg (fy b0 b1 b2 b3 b4 b5 148) (k9.z h (by rw[h1,h2];rfl))
 have h80f:=fun(_:t6=false) (_:g1=false) (_:g2=false) (_:g3=false) (_:g4=false) (h:u2=false) (h1:b1=false)=>congrArg (fy b0 b1 b2 b3 b4 b5 148) (k9.z h (by rw[h1];rfl))
 refine Sx.aF (args:=[j5 m]) [(12,.call (.bool b0)),(14,.call (.bool b1)),(16,.call (.bool b2)),(18,.call (.bool b3)),(20,.call (.bool b4)),(22,.call (.bool b5)),(25,.is (.bool t0)),(28,.is (.bool a0)),(38,.is (.bool a1)),(48,.is (.bool a2)),(58,.is (.bool a3)),(67,.is (.bool a4)),(77,.is (.bool a5)),(33,.bin (.bool n0)),(43,.bin (.bool n1)),(53,.bin (.bool n2)),(62,.is (.bool n3)),(72,.bin (.bool n4)),(82,.bin (.bool n5)),(700003,.GZ [(14,fy b0 b1 b2 b3 b4 b5 36 t1,nf m),(10,fy b0 b1 b2 b3 b4 b5 46 t2,nf m),(10,fy b0 b1 b2 b3 b4 b5 56 t3,nf m),(9,fy b0 b1 b2 b3 b4 b5 65 t4,nf m),(10,fy b0 b1 b2 b3 b4 b5 75 t5,nf m),(9,fy b0 b1 b2 b3 b4 b5 84 t6,nf m)]),(91,.is (.bool g1)),(96,.is (.bool g2)),(105,.is (.bool g3)),(114,.is (.bool g4)),(120,.call (.bool x1)),(128,.call (.bool x2)),(121,.is (.bool y1)),(129,.is (.bool y2)),(146,.is (.bool ne)),(160,.call (.bool pt)),(150,.is (.bool a4)),(153,.is (.bool a5)),(700007,.GZ [(8,fy b0 b1 b2 b3 b4 b5 123 u1,nf m),(9,fy b0 b1 b2 b3 b4 b5 132 u2,nf m),(16,fy b0 b1 b2 b3 b4 b5 148 u3,nf m)])] [] (by kernel_rfl) func88 rfl (cn rfl) ?_
 exact Eq.mp (by kernel_rfl) (Sx.t8 c12 c14 ir c18 c20 c22 (And.intro c25 (Sx.aw (b:=t0) (fun hb0=>(And.intro (h1f hb0) zmem)) (fun hb0=>(And.intro c28 (Sx.aw (b:=a0) (fun hb3=>(Sx.t2 c33 (h4f hb0 hb3) zmem)) (fun hb3=>(And.intro (h6f hb0 hb3) zmem))))))) (Sx.aw (b:=t1) (fun hb8=>(And.intro (h9f hb8) zmem)) (fun hb8=>(And.intro c38 (Sx.aw (b:=a1) (fun hb11=>(Sx.t2 c43 (h12f hb8 hb11) zmem)) (fun hb11=>(And.intro (h14f hb8 hb11) zmem)))))) (Sx.t4 (Sx.aw (b:=t2) (fun hb16=>(And.intro (h17f hb16) zmem)) (fun hb16=>(And.intro c48 (Sx.aw (b:=a2) (fun hb19=>(Sx.t2 c53 (h20f hb16 hb19) zmem)) (fun hb19=>(And.intro (h22f hb16 hb19) zmem)))))) (Sx.aw (b:=t3) (fun hb24=>(And.intro (h25f hb24) zmem)) (fun hb24=>(And.intro c58 (Sx.aw (b:=a3) (fun hb27=>(Sx.t2 c62 (h28f hb24 hb27) zmem)) (fun hb27=>(And.intro (h30f hb24 hb27) zmem)))))) (Sx.aw (b:=t4) (fun hb32=>(And.intro (h33f hb32) zmem)) (fun hb32=>(And.intro c67 (Sx.aw (b:=a4) (fun hb35=>(Sx.t2 c72 (h36f hb32 hb35) zmem)) (fun hb35=>(And.intro (h38f hb32 hb35) zmem)))))) (Sx.aw (b:=t5) (fun hb40=>(And.intro (h41f hb40) zmem)) (fun hb40=>(And.intro c77 (Sx.aw (b:=a5) (fun hb43=>(Sx.t2 c82 (h44f hb40 hb43) zmem)) (fun hb43=>(And.intro (h46f hb40 hb43) zmem)))))) (Sx.aw (b:=t6) (fun hb48=>(show Go.Value.bool false=Go.Value.bool (Eu b3 a4 a5 t6 g1 g2 g3 g4 u3 pt)from by cases hb48<;>rfl)) (fun hb48=>(And.intro c91 (Sx.aw (b:=g1) (fun hb50=>(show Go.Value.bool false=Go.Value.bool (Eu b3 a4 a5 t6 g1 g2 g3 g4 u3 pt)from by subst_vars;trivial)) (fun hb50=>(And.intro c96 (Sx.aw (b:=g2) (fun hb52=>(show Go.Value.bool false=Go.Value.bool (Eu b3 a4 a5 t6 g1 g2 g3 g4 u3 pt)from by subst_vars;trivial)) (fun hb52=>(And.intro c105 (Sx.aw (b:=g3) (fun hb54=>(show Go.Value.bool false=Go.Value.bool (Eu b3 a4 a5 t6 g1 g2 g3 g4 u3 pt)from by subst_vars;trivial)) (fun hb54=>(And.intro c114 (Sx.aw (b:=g4) (fun hb56=>(show Go.Value.bool false=Go.Value.bool (Eu b3 a4 a5 t6 g1 g2 g3 g4 u3 pt)from by subst_vars;trivial)) (fun hb56=>(Sx.t2 (Sx.aw (b:=b1) (fun hb58=>(Sx.t2 c120 c121 (And.intro (h59f hb48 hb50 hb52 hb54 hb56 hb58) zmem))) (fun hb58=>(And.intro (h61f hb48 hb50 hb52 hb54 hb56 hb58) zmem))) (Sx.aw (b:=u1) (fun hb63=>(And.intro (h64f hb48 hb50 hb52 hb54 hb56 hb63) zmem)) (fun hb63=>(Sx.aw (b:=b2) (fun hb66=>(Sx.t2 c128 c129 (And.intro (h67f hb48 hb50 hb52 hb54 hb56 hb63 hb66) zmem))) (fun hb66=>(And.intro (h69f hb48 hb50 hb52 hb54 hb56 hb63 hb66) zmem))))) (And.intro (Sx.aw (b:=u2) (fun hb71=>(And.intro (h72f hb48 hb50 hb52 hb54 hb56 hb71) zmem)) (fun hb71=>(Sx.aw (b:=b1) (fun hb74=>(Sx.aw (b:=b2) (fun hb75=>(Sx.t2 c146 (h76f hb48 hb50 hb52 hb54 hb56 hb71 hb74 hb75) zmem)) (fun hb75=>(And.intro (h78f hb48 hb50 hb52 hb54 hb56 hb71 hb74 hb75) zmem)))) (fun hb74=>(And.intro (h80f hb48 hb50 hb52 hb54 hb56 hb71 hb74) zmem))))) (Sx.aw (b:=u3) (fun hb82=>(show Go.Value.bool false=Go.Value.bool (Eu b3 a4 a5 t6 g1 g2 g3 g4 u3 pt)from by subst_vars;trivial)) (fun hb82=>(And.intro c150 (Sx.aw (b:=a4) (fun hb84=>(And.intro c153 (Sx.aw (b:=a5) (fun hb85=>(show Go.Value.bool true=Go.Value.bool (Eu b3 a4 a5 t6 g1 g2 g3 g4 u3 pt)from by subst_vars;trivial)) (fun hb85=>(Sx.aw (b:=b3) (fun hb87=>(And.intro c160 (show Go.Value.bool pt=Go.Value.bool (Eu b3 a4 a5 t6 g1 g2 g3 g4 u3 pt)from by subst_vars;trivial))) (fun hb87=>(show Go.Value.bool false=Go.Value.bool (Eu b3 a4 a5 t6 g1 g2 g3 g4 u3 pt)from by subst_vars;trivial))))))) (fun hb84=>(Sx.aw (b:=b3) (fun hb90=>(And.intro c160 (show Go.Value.bool pt=Go.Value.bool (Eu b3 a4 a5 t6 g1 g2 g3 g4 u3 pt)from by subst_vars;trivial))) (fun hb90=>(show Go.Value.bool false=Go.Value.bool (Eu b3 a4 a5 t6 g1 g2 g3 g4 u3 pt)from by subst_vars;trivial))))))))))))))))))))))))))
end Go.Proofs.YtnncigmpcdehnaaGreatDoor
