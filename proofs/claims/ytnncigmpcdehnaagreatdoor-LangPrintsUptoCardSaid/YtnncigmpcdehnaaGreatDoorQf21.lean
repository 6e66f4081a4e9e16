import Derived.Test.YtnncigmpcdehnaaGreatDoorQf20
namespace Go.Proofs.YtnncigmpcdehnaaGreatDoor
set_option maxRecDepth 100000
open Go.RowKit Go.Lib Go.Sort _root_.Go.Proofs.Tryz
set_option maxRecDepth 100000
structure Mt.Wf(m:Mt):Prop where
 asks:m.asks < 256
 sn:m.src.n < 2^128
 sk : -9223372036854775808≤m.src.k∧m.src.k≤9223372036854775807
 dn:m.dst.n < 2^128
 dk : -9223372036854775808≤m.dst.k∧m.dst.k≤9223372036854775807
 ff:m.ff.1≤65535∧m.ff.2≤65535
 sp:m.sp.1≤65535∧m.sp.2≤65535
 dp:m.dp.1≤65535∧m.dp.2≤65535
 pr:m.bb≤255
theorem K6:∀a:Fin 256,(bits .and .u8 (a.val:Int) 2 !=0)=a.val.testBit 1:=by decide+kernel
theorem K5:∀a:Fin 256,(bits .and .u8 (a.val:Int) 4 !=0)=a.val.testBit 2:=by decide+kernel
theorem Hh:∀a:Fin 256,(bits .and .u8 (a.val:Int) 48 !=0)=(a.val.testBit 4||a.val.testBit 5):=by decide+kernel
theorem Jd:∀a:Fin 256,(bits .andNot .u8 (a.val:Int) 63 !=0)=decide (¬a.val < 64):=by decide+kernel
theorem DP(m:Mt)(what:Int)(b:Bool)(hb:(bits .and .u8 (m.asks:Int) what !=0)=b)(w:World):Calls prog 144 #[j5 m,.int .u8 what] w (Rn w (.bool b)):=by
 have c9:Value.bool (bits .and .u8 (m.asks:Int) what !=0)=.bool b:=bz hb
 have z0:Value.bool b=.bool b:=rfl
 refine Sx.aF (args:=[j5 m,.int .u8 what]) [(9,.is (.bool b))] [] (by kernel_rfl) func144 rfl (cn rfl) ?_
 exact Eq.mp (by kernel_rfl) (And.intro c9 z0)
theorem zc:prog.cellsOf 64=2:=by kernel_rfl
theorem Od:prog.cellsOf 62=1:=by kernel_rfl
theorem OX(d x:Nat)(hx:x≤65535):prog.keyLits (d+1) 62 [.int .u16 (x:Int)]=some [.int .u16 (x:Int)]:=by
 have hw:(Lit.int .u16 (x:Int)).wf=true:=by simp[Lit.wf,IntKind.min,IntKind.max,IntKind.signed,IntKind.bits];omega
 simp[Program.keyLits,underlying62,hw]
theorem JH(d:Nat)(s:Nat×Nat)(h1:s.1≤65535)(h2:s.2≤65535):prog.keyLits (d+2) 64 [.int .u16 (s.1:Int),.int .u16 (s.2:Int)]=some [.int .u16 (s.1:Int),.int .u16 (s.2:Int)]:=by
 have e1:=OX d s.1 h1
 have e2:=OX d s.2 h2
 have e3:(([.int .u16 (s.1:Int),.int .u16 (s.2:Int)]:List Value).drop 0).take 1=[.int .u16 (s.1:Int)]:=rfl
 have e4:(([.int .u16 (s.1:Int),.int .u16 (s.2:Int)]:List Value).drop 1).take 1=[.int .u16 (s.2:Int)]:=rfl
 unfold Program.keyLits
 rw[underlying64]
 simp only
 rw[if_pos ⟨by rw[zc];rfl,by simp⟩]
 simp only[List.mapM_cons,List.mapM_nil,Od,e3,e4,e1,e2]
 rfl
theorem Tp(s r:Nat×Nat)(hs:s.1≤65535∧s.2≤65535)(hr:r.1≤65535∧r.2≤65535)(W:World):(Op.equalIn 10000 64 (iV s) (iV r)).run prog W=.ok (decide (s=r)) W:=by
 obtain⟨q,h1,h2⟩:=run_equalIn_deep (P:=prog) 9995 5 64 (by kernel_rfl) W 5 5 (iV s) (iV r) _ _ (by simp[iV,Value.formed,underlying64,zc]) (by simp[iV,Value.formed,underlying64,zc]) (JH 3 s hs.1 hs.2) (JH 3 r hr.1 hr.2)
 simp only[Nat.reduceAdd]at h1
 have e:q=decide (s=r):=by
  rw[Bool.eq_iff_iff,h2,decide_eq_true_eq]
  constructor
  ·intro h
   injection h with h3 h4
   injection h3 with _ h3
   injection h4 with h4 _
   injection h4 with _ h4
   exact Prod.ext (by omega) (by omega)
  ·rintro rfl;rfl
 rw[h1,e]
theorem NK(op:BinOp)(x y:Operand)(a b:Array Value)(W:World):(eqGuard op 64 x y (.agg a) (.agg b)).run prog W=.ok () W:=by cases op<;>kernel_rfl
theorem q8(x y:Operand)(s:Nat×Nat)(hs:s.1≤65535∧s.2≤65535)(W:World):(do eqGuard .neq 64 x y (iV s) (iV (0,0));binOp .neq 64 (iV s) (iV (0,0)):Sem Value).run prog W=.ok (.bool (!gO s)) W:=by
 have h:=Tp s (0,0) hs (by decide) W
 rw[Sem.run_bind,show(eqGuard .neq 64 x y (iV s) (iV (0,0))).run prog W=_ from NK .neq x y _ _ W,Result.andThen_ok]
 show(do pure (.bool (!(←Op.equal 64 (iV s) (iV (0,0))))):Sem Value).run prog W=_
 rw[Sem.run_bind,show(Op.equal 64 (iV s) (iV (0,0))).run prog W=_ from h]
 rfl
theorem yn(x y:Operand)(p:Px)(hn:p.n < 2^128)(hk : -9223372036854775808≤p.k∧p.k≤9223372036854775807)(W:World):(do eqGuard .neq 29 x y (n9 p) (n9 oc); binOp .neq 29 (n9 p) (n9 oc):Sem Value).run prog W=.ok (.bool (!Ci p)) W:=Ss x y p.v false p.n 0 p.k 0 hn (by omega) hk (by omega) W
def LJ(n0:Bool):Int:=bif n0 then 1 else 0
def LI(n0 n1:Bool):Int:=bif n1 then LJ n0+2 else LJ n0
def LH(n0 n1 n2:Bool):Int:=bif n2 then LI n0 n1+4 else LI n0 n1
def LG(n0 n1 n2 n3:Bool):Int:=bif n3 then LH n0 n1 n2+8 else LH n0 n1 n2
def LF(n0 n1 n2 n3 n4:Bool):Int:=bif n4 then LG n0 n1 n2 n3+16 else LG n0 n1 n2 n3
def J1(n0 n1 n2 n3 n4 n5:Bool):Int:=bif n5 then LF n0 n1 n2 n3 n4+32 else LF n0 n1 n2 n3 n4
def Sn(o1 hs g1 g2 g3 g4 s x1 d x2 ne pt q6 q17:Bool):Int:=
 bif o1||hs then 190 else bif g1||(g2||(g3||g4))then 190 else bif (s&&x1)||(d&&x2)then 190 else bif s&&d&&ne then 190 else bif pt&&q6&&q17 then 190 else 0
def G5(v:Int):List (Nat×Sx.SV):=[(1,.ptr 0 0),(2,.val (.int .i64 0)),(3,.val (.int .u8 v))]
def sG(m:Mt):List Sx.Row:=[⟨66,.ak m.cells⟩]
theorem Oa(m:Mt)(w:World)(n0 n1 n2 n3 n4 n5 o1 hs g1 g2 g3 g4 s x1 d x2 ne pt q6 q17:Bool)(v7 e1 e2:Int)
  (c8:∀W,(do eqGuard .neq 64 (.tmp 6) (.tmp 7) (iV m.ff) (iV (0,0));binOp .neq 64 (iV m.ff) (iV (0,0)):Sem Value).run prog W=.ok (.bool n0) W)
  (c14:∀W,(do eqGuard .neq 29 (.tmp 12) (.tmp 13) (n9 m.src) (n9 oc);binOp .neq 29 (n9 m.src) (n9 oc):Sem Value).run prog W=.ok (.bool n1) W)
  (c20:∀W,(do eqGuard .neq 29 (.tmp 18) (.tmp 19) (n9 m.dst) (n9 oc);binOp .neq 29 (n9 m.dst) (n9 oc):Sem Value).run prog W=.ok (.bool n2) W)
  (c25:Value.bool ((m.bb:Int) !=0)=.bool n3)
  (c31:∀W,(do eqGuard .neq 64 (.tmp 29) (.tmp 30) (iV m.sp) (iV (0,0));binOp .neq 64 (iV m.sp) (iV (0,0)):Sem Value).run prog W=.ok (.bool n4) W)
  (c37:∀W,(do eqGuard .neq 64 (.tmp 35) (.tmp 36) (iV m.dp) (iV (0,0));binOp .neq 64 (iV m.dp) (iV (0,0)):Sem Value).run prog W=.ok (.bool n5) W)
  (c43:Value.int .u8 (bits .andNot .u8 (J1 n0 n1 n2 n3 n4 n5) (m.asks:Int))=.int .u8 v7)
  (c45:∀W,ai [] w W→Calls prog 144 #[j5 m,.int .u8 48] W (Rn W (.bool pt)))
  (c50:Value.bool (bits .andNot .u8 (m.asks:Int) 63 !=0)=.bool o1)
  (c53:Value.bool (v7 !=0)=.bool hs)
  (c62:Value.bool (decide ((m.ff.2:Int) < (m.ff.1:Int)))=.bool g1) (c67:Value.bool (decide (255 < (m.ff.2:Int)))=.bool g2)
  (c76:Value.bool (decide ((m.sp.2:Int) < (m.sp.1:Int)))=.bool g3) (c85:Value.bool (decide ((m.dp.2:Int) < (m.dp.1:Int)))=.bool g4)
  (c89:∀W,ai [] w W→Calls prog 144 #[j5 m,.int .u8 2] W (Rn W (.bool s)))
  (c98:∀W,ai [] w W→Calls prog 144 #[j5 m,.int .u8 4] W (Rn W (.bool d)))
  (c93:∀W,ai [] w W→Calls prog 50 #[n9 m.src] W (Rn W (.int .i64 e1)))
  (c102:∀W,ai [] w W→Calls prog 50 #[n9 m.dst] W (Rn W (.int .i64 e2)))
  (c94:Value.bool (e1 !=0)=.bool x1) (c103:Value.bool (e2 !=0)=.bool x2)
  (c122:Value.bool (m.src.v !=m.dst.v)=.bool ne) (c129:Value.bool ((m.bb:Int) !=6)=.bool q6) (c134:Value.bool ((m.bb:Int) !=17)=.bool q17) :
  Calls prog 83 #[j5 m] w (Rn w (.int .i64 (Sn o1 hs g1 g2 g3 g4 s x1 d x2 ne pt q6 q17))):=by
 have c10f:=fun(hb:n0=true)=>(show Value.int .u8 (bits .or .u8 0 1)=.int .u8 (LJ n0)from by subst hb;rfl)
 have c16f:=fun(hb:n1=true)=>(show Value.int .u8 (bits .or .u8 (LJ n0) 2)=.int .u8 (LI n0 n1)from by subst hb;cases n0<;>rfl)
 have c22f:=fun(hb:n2=true)=>(show Value.int .u8 (bits .or .u8 (LI n0 n1) 4)=.int .u8 (LH n0 n1 n2)from by subst hb;cases n0<;>cases n1<;>rfl)
 have c27f:=fun(hb:n3=true)=>(show Value.int .u8 (bits .or .u8 (LH n0 n1 n2) 8)=.int .u8 (LG n0 n1 n2 n3)from by subst hb;cases n0<;>cases n1<;>cases n2<;>rfl)
 have c33f:=fun(hb:n4=true)=>(show Value.int .u8 (bits .or .u8 (LG n0 n1 n2 n3) 16)=.int .u8 (LF n0 n1 n2 n3 n4)from by subst hb;cases n0<;>cases n1<;>cases n2<;>cases n3<;>rfl)
 have c39f:=fun(hb:n5=true)=>(show Value.int .u8 (bits .or .u8 (LF n0 n1 n2 n3 n4) 32)=.int .u8 (J1 n0 n1 n2 n3 n4 n5)from by subst hb;cases n0<;>cases n1<;>cases n2<;>cases n3<;>cases n4<;>rfl)
 have zmem:=(rfl:sG m=sG m)
 have c108:=c89
 have c111:=c98
 refine Sx.aF (args:=[j5 m]) [(8,.bin (.bool n0)),(14,.bin (.bool n1)),(20,.bin (.bool n2)),(25,.is (.bool n3)),(31,.bin (.bool n4)),(37,.bin (.bool n5)),
  (10,.is (.int .u8 (LJ n0))),(16,.is (.int .u8 (LI n0 n1))),(22,.is (.int .u8 (LH n0 n1 n2))),(27,.is (.int .u8 (LG n0 n1 n2 n3))),(33,.is (.int .u8 (LF n0 n1 n2 n3 n4))),(39,.is (.int .u8 (J1 n0 n1 n2 n3 n4 n5))),
  (500008,.join (G5 (LJ n0)) (sG m)),(500014,.join (G5 (LI n0 n1)) (sG m)),(500020,.join (G5 (LH n0 n1 n2)) (sG m)),(500025,.join (G5 (LG n0 n1 n2 n3)) (sG m)),(500031,.join (G5 (LF n0 n1 n2 n3 n4)) (sG m)),(500037,.join (G5 (J1 n0 n1 n2 n3 n4 n5)) (sG m)),
  (43,.is (.int .u8 v7)),(45,.call (.bool pt)),(50,.is (.bool o1)),(53,.is (.bool hs)),(62,.is (.bool g1)),(67,.is (.bool g2)),(76,.is (.bool g3)),(85,.is (.bool g4)),
  (89,.call (.bool s)),(98,.call (.bool d)),(93,.call (.int .i64 e1)),(102,.call (.int .i64 e2)),(94,.is (.bool x1)),(103,.is (.bool x2)),(108,.call (.bool s)),(111,.call (.bool d)),(122,.is (.bool ne)),(129,.is (.bool q6)),(134,.is (.bool q17))] [] (by kernel_rfl) func83 rfl (cn rfl) ?_
 have GG:∀ n:Nat,Int.ofNat n=(Sn o1 hs g1 g2 g3 g4 s x1 d x2 ne pt q6 q17)→Value.int .i64 (Int.ofNat n)=Value.int .i64 (Sn o1 hs g1 g2 g3 g4 s x1 d x2 ne pt q6 q17):=fun n h=>by rw[h]
 exact Eq.mp (by kernel_rfl) (Sx.t8 c8 (Sx.aw (b:=n0) (fun hb0=>(Sx.t2 (c10f hb0) (show [(1,Sx.SV.ptr 0 0),(2,Sx.SV.val (Value.int .i64 (Int.ofNat 0))),(3,Sx.SV.val (Value.int .u8 (LJ n0)))]=[(1,Sx.SV.ptr 0 0),(2,Sx.SV.val (Value.int .i64 (Int.ofNat 0))),(3,Sx.SV.val (Value.int .u8 (LJ n0)))]from by cases hb0<;>rfl) zmem)) (fun hb0=>(And.intro (show [(1,Sx.SV.ptr 0 0),(2,Sx.SV.val (Value.int .i64 (Int.ofNat 0))),(3,Sx.SV.val (Value.int .u8 (Int.ofNat 0)))]=[(1,Sx.SV.ptr 0 0),(2,Sx.SV.val (Value.int .i64 (Int.ofNat 0))),(3,Sx.SV.val (Value.int .u8 (LJ n0)))]from by cases hb0<;>rfl) zmem))) c14 (Sx.aw (b:=n1) (fun hb5=>(Sx.t2 (c16f hb5) (show [(1,Sx.SV.ptr 0 0),(2,Sx.SV.val (Value.int .i64 (Int.ofNat 0))),(3,Sx.SV.val (Value.int .u8 (LI n0 n1)))]=[(1,Sx.SV.ptr 0 0),(2,Sx.SV.val (Value.int .i64 (Int.ofNat 0))),(3,Sx.SV.val (Value.int .u8 (LI n0 n1)))]from by cases hb5<;>rfl) zmem)) (fun hb5=>(And.intro (show [(1,Sx.SV.ptr 0 0),(2,Sx.SV.val (Value.int .i64 (Int.ofNat 0))),(3,Sx.SV.val (Value.int .u8 (LJ n0)))]=[(1,Sx.SV.ptr 0 0),(2,Sx.SV.val (Value.int .i64 (Int.ofNat 0))),(3,Sx.SV.val (Value.int .u8 (LI n0 n1)))]from by cases hb5<;>rfl) zmem))) c20 (Sx.aw (b:=n2) (fun hb10=>(Sx.t2 (c22f hb10) (show [(1,Sx.SV.ptr 0 0),(2,Sx.SV.val (Value.int .i64 (Int.ofNat 0))),(3,Sx.SV.val (Value.int .u8 (LH n0 n1 n2)))]=[(1,Sx.SV.ptr 0 0),(2,Sx.SV.val (Value.int .i64 (Int.ofNat 0))),(3,Sx.SV.val (Value.int .u8 (LH n0 n1 n2)))]from by cases hb10<;>rfl) zmem)) (fun hb10=>(And.intro (show [(1,Sx.SV.ptr 0 0),(2,Sx.SV.val (Value.int .i64 (Int.ofNat 0))),(3,Sx.SV.val (Value.int .u8 (LI n0 n1)))]=[(1,Sx.SV.ptr 0 0),(2,Sx.SV.val (Value.int .i64 (Int.ofNat 0))),(3,Sx.SV.val (Value.int .u8 (LH n0 n1 n2)))]from by cases hb10<;>rfl) zmem))) c25 (Sx.aw (b:=n3) (fun hb15=>(Sx.t2 (c27f hb15) (show [(1,Sx.SV.ptr 0 0),(2,Sx.SV.val (Value.int .i64 (Int.ofNat 0))),(3,Sx.SV.val (Value.int .u8 (LG n0 n1 n2 n3)))]=[(1,Sx.SV.ptr 0 0),(2,Sx.SV.val (Value.int .i64 (Int.ofNat 0))),(3,Sx.SV.val (Value.int .u8 (LG n0 n1 n2 n3)))]from by cases hb15<;>rfl) zmem)) (fun hb15=>(And.intro (show [(1,Sx.SV.ptr 0 0),(2,Sx.SV.val (Value.int .i64 (Int.ofNat 0))),(3,Sx.SV.val (Value.int .u8 (LH n0 n1 n2)))]=[(1,Sx.SV.ptr 0 0),(2,Sx.SV.val (Value.int .i64 (Int.ofNat 0))),(3,Sx.SV.val (Value.int .u8 (LG n0 n1 n2 n3)))]from by cases hb15<;>rfl) zmem))) (Sx.t4 c31 (Sx.aw (b:=n4) (fun hb20=>(Sx.t2 (c33f hb20) (show [(1,Sx.SV.ptr 0 0),(2,Sx.SV.val (Value.int .i64 (Int.ofNat 0))),(3,Sx.SV.val (Value.int .u8 (LF n0 n1 n2 n3 n4)))]=[(1,Sx.SV.ptr 0 0),(2,Sx.SV.val (Value.int .i64 (Int.ofNat 0))),(3,Sx.SV.val (Value.int .u8 (LF n0 n1 n2 n3 n4)))]from by cases hb20<;>rfl) zmem)) (fun hb20=>(And.intro (show [(1,Sx.SV.ptr 0 0),(2,Sx.SV.val (Value.int .i64 (Int.ofNat 0))),(3,Sx.SV.val (Value.int .u8 (LG n0 n1 n2 n3)))]=[(1,Sx.SV.ptr 0 0),(2,Sx.SV.val (Value.int .i64 (Int.ofNat 0))),(3,Sx.SV.val (Value.int .u8 (LF n0 n1 n2 n3 n4)))]from by cases hb20<;>rfl) zmem))) c37 (Sx.aw (b:=n5) (fun hb25=>(Sx.t2 (c39f hb25) (show [(1,Sx.SV.ptr 0 0),(2,Sx.SV.val (Value.int .i64 (Int.ofNat 0))),(3,Sx.SV.val (Value.int .u8 (J1 n0 n1 n2 n3 n4 n5)))]=[(1,Sx.SV.ptr 0 0),(2,Sx.SV.val (Value.int .i64 (Int.ofNat 0))),(3,Sx.SV.val (Value.int .u8 (J1 n0 n1 n2 n3 n4 n5)))]from by cases hb25<;>rfl) zmem)) (fun hb25=>(And.intro (show [(1,Sx.SV.ptr 0 0),(2,Sx.SV.val (Value.int .i64 (Int.ofNat 0))),(3,Sx.SV.val (Value.int .u8 (LF n0 n1 n2 n3 n4)))]=[(1,Sx.SV.ptr 0 0),(2,Sx.SV.val (Value.int .i64 (Int.ofNat 0))),(3,Sx.SV.val (Value.int .u8 (J1 n0 n1 n2 n3 n4 n5)))]from by cases hb25<;>rfl) zmem))) (Sx.t2 c43 c45 (And.intro c50 (Sx.aw (b:=o1) (fun hb30=>(show Value.int .i64 (Int.ofNat 190)=Value.int .i64 (Sn o1 hs g1 g2 g3 g4 s x1 d x2 ne pt q6 q17)from by cases hb30<;>rfl)) (fun hb30=>(And.intro c53 (Sx.aw (b:=hs) (fun hb32=>(GG 190 (by subst_vars;trivial))) (fun hb32=>(And.intro c62 (Sx.aw (b:=g1) (fun hb34=>(GG 190 (by subst_vars;trivial))) (fun hb34=>(And.intro c67 (Sx.aw (b:=g2) (fun hb36=>(GG 190 (by subst_vars;trivial))) (fun hb36=>(And.intro c76 (Sx.aw (b:=g3) (fun hb38=>(GG 190 (by subst_vars;trivial))) (fun hb38=>(And.intro c85 (Sx.aw (b:=g4) (fun hb40=>(GG 190 (by subst_vars;trivial))) (fun hb40=>(And.intro c89 (Sx.aw (b:=s) (fun hb42=>(Sx.t2 c93 c94 (Sx.aw (b:=x1) (fun hb43=>(GG 190 (by subst_vars;trivial))) (fun hb43=>(And.intro c98 (Sx.aw (b:=d) (fun hb45=>(Sx.t2 c102 c103 (Sx.aw (b:=x2) (fun hb46=>(GG 190 (by subst_vars;trivial))) (fun hb46=>(And.intro c108 (Sx.aw (b:=s) (fun hb48=>(And.intro c111 (Sx.aw (b:=d) (fun hb49=>(And.intro c122 (Sx.aw (b:=ne) (fun hb50=>(GG 190 (by subst_vars;trivial))) (fun hb50=>(Sx.aw (b:=pt) (fun hb52=>(And.intro c129 (Sx.aw (b:=q6) (fun hb53=>(And.intro c134 (Sx.aw (b:=q17) (fun hb54=>(GG 190 (by subst_vars;trivial))) (fun hb54=>(GG 0 (by subst_vars;trivial)))))) (fun hb53=>(GG 0 (by subst_vars;trivial)))))) (fun hb52=>(GG 0 (by subst_vars;trivial)))))))) (fun hb49=>(Sx.aw (b:=pt) (fun hb59=>(And.intro c129 (Sx.aw (b:=q6) (fun hb60=>(And.intro c134 (Sx.aw (b:=q17) (fun hb61=>(GG 190 (by subst_vars;trivial))) (fun hb61=>(GG 0 (by subst_vars;trivial)))))) (fun hb60=>(GG 0 (by subst_vars;trivial)))))) (fun hb59=>(GG 0 (by subst_vars;trivial)))))))) (fun hb48=>(Sx.aw (b:=pt) (fun hb66=>(And.intro c129 (Sx.aw (b:=q6) (fun hb67=>(And.intro c134 (Sx.aw (b:=q17) (fun hb68=>(GG 190 (by subst_vars;trivial))) (fun hb68=>(GG 0 (by subst_vars;trivial)))))) (fun hb67=>(GG 0 (by subst_vars;trivial)))))) (fun hb66=>(GG 0 (by subst_vars;trivial))))))))))) (fun hb45=>(And.intro c108 (Sx.aw (b:=s) (fun hb73=>(And.intro c111 (Sx.aw (b:=d) (fun hb74=>(And.intro c122 (Sx.aw (b:=ne) (fun hb75=>(GG 190 (by subst_vars;trivial))) (fun hb75=>(Sx.aw (b:=pt) (fun hb77=>(And.intro c129 (Sx.aw (b:=q6) (fun hb78=>(And.intro c134 (Sx.aw (b:=q17) (fun hb79=>(GG 190 (by subst_vars;trivial))) (fun hb79=>(GG 0 (by subst_vars;trivial)))))) (fun hb78=>(GG 0 (by subst_vars;trivial)))))) (fun hb77=>(GG 0 (by subst_vars;trivial)))))))) (fun hb74=>(Sx.aw (b:=pt) (fun hb84=>(And.intro c129 (Sx.aw (b:=q6) (fun hb85=>(And.intro c134 (Sx.aw (b:=q17) (fun hb86=>(GG 190 (by subst_vars;trivial))) (fun hb86=>(GG 0 (by subst_vars;trivial)))))) (fun hb85=>(GG 0 (by subst_vars;trivial)))))) (fun hb84=>(GG 0 (by subst_vars;trivial)))))))) (fun hb73=>(Sx.aw (b:=pt) (fun hb91=>(And.intro c129 (Sx.aw (b:=q6) (fun hb92=>(And.intro c134 (Sx.aw (b:=q17) (fun hb93=>(GG 190 (by subst_vars;trivial))) (fun hb93=>(GG 0 (by subst_vars;trivial)))))) (fun hb92=>(GG 0 (by subst_vars;trivial)))))) (fun hb91=>(GG 0 (by subst_vars;trivial)))))))))))))) (fun hb42=>(And.intro c98 (Sx.aw (b:=d) (fun hb98=>(Sx.t2 c102 c103 (Sx.aw (b:=x2) (fun hb99=>(GG 190 (by subst_vars;trivial))) (fun hb99=>(And.intro c108 (Sx.aw (b:=s) (fun hb101=>(And.intro c111 (Sx.aw (b:=d) (fun hb102=>(And.intro c122 (Sx.aw (b:=ne) (fun hb103=>(GG 190 (by subst_vars;trivial))) (fun hb103=>(Sx.aw (b:=pt) (fun hb105=>(And.intro c129 (Sx.aw (b:=q6) (fun hb106=>(And.intro c134 (Sx.aw (b:=q17) (fun hb107=>(GG 190 (by subst_vars;trivial))) (fun hb107=>(GG 0 (by subst_vars;trivial)))))) (fun hb106=>(GG 0 (by subst_vars;trivial)))))) (fun hb105=>(GG 0 (by subst_vars;trivial)))))))) (fun hb102=>(Sx.aw (b:=pt) (fun hb112=>(And.intro c129 (Sx.aw (b:=q6) (fun hb113=>(And.intro c134 (Sx.aw (b:=q17) (fun hb114=>(GG 190 (by subst_vars;trivial))) (fun hb114=>(GG 0 (by subst_vars;trivial)))))) (fun hb113=>(GG 0 (by subst_vars;trivial)))))) (fun hb112=>(GG 0 (by subst_vars;trivial)))))))) (fun hb101=>(Sx.aw (b:=pt) (fun hb119=>(And.intro c129 (Sx.aw (b:=q6) (fun hb120=>(And.intro c134 (Sx.aw (b:=q17) (fun hb121=>(GG 190 (by subst_vars;trivial))) (fun hb121=>(GG 0 (by subst_vars;trivial)))))) (fun hb120=>(GG 0 (by subst_vars;trivial)))))) (fun hb119=>(GG 0 (by subst_vars;trivial))))))))))) (fun hb98=>(And.intro c108 (Sx.aw (b:=s) (fun hb126=>(And.intro c111 (Sx.aw (b:=d) (fun hb127=>(And.intro c122 (Sx.aw (b:=ne) (fun hb128=>(GG 190 (by subst_vars;trivial))) (fun hb128=>(Sx.aw (b:=pt) (fun hb130=>(And.intro c129 (Sx.aw (b:=q6) (fun hb131=>(And.intro c134 (Sx.aw (b:=q17) (fun hb132=>(GG 190 (by subst_vars;trivial))) (fun hb132=>(GG 0 (by subst_vars;trivial)))))) (fun hb131=>(GG 0 (by subst_vars;trivial)))))) (fun hb130=>(GG 0 (by subst_vars;trivial)))))))) (fun hb127=>(Sx.aw (b:=pt) (fun hb137=>(And.intro c129 (Sx.aw (b:=q6) (fun hb138=>(And.intro c134 (Sx.aw (b:=q17) (fun hb139=>(GG 190 (by subst_vars;trivial))) (fun hb139=>(GG 0 (by subst_vars;trivial)))))) (fun hb138=>(GG 0 (by subst_vars;trivial)))))) (fun hb137=>(GG 0 (by subst_vars;trivial)))))))) (fun hb126=>(Sx.aw (b:=pt) (fun hb144=>(And.intro c129 (Sx.aw (b:=q6) (fun hb145=>(And.intro c134 (Sx.aw (b:=q17) (fun hb146=>(GG 190 (by subst_vars;trivial))) (fun hb146=>(GG 0 (by subst_vars;trivial)))))) (fun hb145=>(GG 0 (by subst_vars;trivial)))))) (fun hb144=>(GG 0 (by subst_vars;trivial))))))))))))))))))))))))))))))))))
end Go.Proofs.YtnncigmpcdehnaaGreatDoor
