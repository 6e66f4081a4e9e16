import Derived.Test.YtnncigmpcdehnaaGreatDoorQa37
namespace Go.Proofs.YtnncigmpcdehnaaGreatDoor
set_option maxRecDepth 100000
open Go Go.RowKit Go.Lib Go.Sort
abbrev txB(w:World)(g:Nat)(A:Option Go.Addr):Sx.Base:=⟨w,txK g A,fun _ _=>False⟩
abbrev rL(g:Nat)(p:Bool)(tx:Bs)(r:Rl)(e:Int)(mem:List Sx.Row):List Sx.Row:=txRow (some g) [.nptr p 0 0,.own 1,.val (.int .i64 e)]::⟨5,.own 1 tx.length (byC tx)⟩::⟨81,.vals r.cells⟩::mem
abbrev rD(g M:Nat)(tx F:Bs)(r:Rl)(e:Int)(mem:List Sx.Row):List Sx.Row:=txRow (some g) [.nptr true 0 0,.own M,.val (.int .i64 e)]::Sx.deadRow::⟨81,.vals r.cells⟩::(mem++[⟨5,.own 1 (tx++F).length (byC (tx++F))⟩])
abbrev rF(r:Rl)(l:List Bs):List Bs:=kRule::r.name::pmT r.mt::kTo::l
abbrev wH(g:Nat)(p:Bool)(e:Int):Sx.Hint:=.callG (wantG [] 0 1 (some g) p e)
abbrev RlT(w:World)(g:Nat)(A:Option Go.Addr)(tx:Bs)(r:Rl)(F:List Bs)(e:Int):Prop:=Calls Tryz.prog 74 #[.pointer (some ⟨g,0,none⟩),.agg r.cells.toArray] w (TxPost g A (.tuple #[]) (tx++lnB F) e w)
abbrev rlH(g:Nat)(p:Bool)(r:Rl)(b1 b2:Bool)(ck e1 e2:Int)(l:List (Nat×Sx.Hint)):List (Nat×Sx.Hint):=(11,.call (.bool b1))::(16,.call (.tuple #[strV (pmT r.mt),.int .i64 ck]))::(21,.is (.bool b2))::(12,wH g p e1)::(22,wH g p e2)::l
abbrev TxF(tx:Bs)(F:List Bs):Prop:=tx.length+(lnB F).length≤140737488355328
structure RuIn(w:World)(g:Nat)(p:Bool)(A:Option Go.Addr)(tx:Bs)(r:Rl)(b1 b2 b4 b5 bo:Bool)(ck e e1 e2 e3 e4 e5:Int):Prop where
 hl:∀W,Chg (txK g A) w W→Lan W
 c11:∀W,Chg (txK g A) w W→Calls Tryz.prog 33 #[strV r.name] W fun e w'=>e=.returned (.bool b1)∧Chg [] W w'
 c16:∀W,Chg (txK g A) w W→Calls Tryz.prog 31 #[.agg r.mt.cells.toArray] W fun e w'=>e=.returned (.tuple #[strV (pmT r.mt),.int .i64 ck])∧Chg [] W w'
 c21:Value.bool (ck==0)=.bool b2
 c54:r.meter≠[]→∀W,Chg (txK g A) w W→Calls Tryz.prog 33 #[strV r.meter] W fun e w'=>e=.returned (.bool b4)∧Chg [] W w'
 c64:r.mirror≠[]→∀W,Chg (txK g A) w W→Calls Tryz.prog 33 #[strV r.mirror] W fun e w'=>e=.returned (.bool b5)∧Chg [] W w'
 h1:e1=wantE b1 201 e
 h2:e2=wantE b2 190 e1
 h3:e3=wantE bo 2 e2
 h4:e4=wantE b4 201 e3
 h5:e5=wantE b5 201 e4
 o0 : -9223372036854775808≤r.out
 o1:r.out≤9223372036854775807
theorem wantRl(w:World)(g:Nat)(p:Bool)(A:Option Go.Addr)(tx:Bs)(r:Rl){e e':Int}{b:Bool}{code:Int}(m:Nat)(mem:List Sx.Row)(he:e'=wantE b code e)(W:World)(β:Sx.Env)(hS:Sx.See (txB w g A) β W (Sx.rowAt (rL g p tx r e mem)) [0,1]):Calls Tryz.prog 69 (([.ptr 0 0,.val (.bool b),.val (.int .i64 code)]:List Sx.SV).map (Sx.SV.den β)).toArray W (Sx.gPost (txB w g A) β W (Sx.rowAt (rL g p tx r e mem)) m (wantG [] 0 1 (some g) p e')):=by
 rw[he];exact want_call b code ⟨rfl,rfl⟩ W β hS
theorem lineRl(w:World)(g:Nat)(p:Bool)(A:Option Go.Addr)(tx:Bs)(r:Rl)(e:Int)(mem:List Sx.Row)(k m:Nat)(ws:List Bs)(hm:1 < m)(rk:Sx.rowAt (rL g p tx r e mem) k=some ⟨9,.own 1 ws.length (strs ws)⟩)(hn:ws.length≤1000000)(hl:tx.length+(lnB ws).length≤140737488355328)(W:World)(β:Sx.Env)(hS:Sx.See (txB w g A) β W (Sx.rowAt (rL g p tx r e mem)) [0,1,k]) :
  Calls Tryz.prog 70 (([.ptr 0 0,.own k]:List Sx.SV).map (Sx.SV.den β)).toArray W (Sx.gPost (txB w g A) β W (Sx.rowAt (rL g p tx r e mem)) m (txG [k] 0 1 m (some g) (tx++lnB ws) e (.tuple #[]))):=
 line_call (p:=p) ws ⟨rfl,rfl⟩ (by omega) hm rk hn hl W β hS
theorem app_nil(P:World→Prop)(n:Nat)(hn:n≤1000):(∀W,P W→∃A c,Value.slice none 0 0=.slice A 0 c∧(0 < ([]:List Value).length→∃ad,A=some ad∧∀(j:Nat) (u:Value),([]:List Value)[j]?=some u→W.cell? (ad.add j)=some u))∧([]:List Value).length=0*1∧(∀u∈([]:List Value),u.oneCell'=true)∧n+0≤maxLen∧(n+0)*16≤140737488355328:=
 ⟨fun _ _=>⟨none,0,rfl,fun hh=>absurd hh (Nat.lt_irrefl _)⟩,rfl,fun u hu=>(by cases hu),by unfold maxLen;omega,by omega⟩
theorem se(n:Nat){x:Bs}{b:Bool}(h:decide (x=[])=b)(W:World):(do eqGuard .eql 9 (.tmp n) (.const (strV [])) (strV x) (strV []);binOp .eql 9 (strV x) (strV []):Sem Value).run Tryz.prog W=.ok (.bool b) W:=str_eq (.tmp n) (.const (strV [])) x [] b h W
theorem sn(n:Nat){x:Bs}{b:Bool}(h:decide (x=[])=!b)(W:World):(do eqGuard .neq 9 (.tmp n) (.const (strV [])) (strV x) (strV []);binOp .neq 9 (strV x) (strV []):Sem Value).run Tryz.prog W=.ok (.bool b) W:=
 (str_neq (.tmp n) (.const (strV [])) x [] W).trans (by rw[show decide (x≠[])=b from by rw[decide_not,h,Bool.not_not]])
section
variable{w:World}{g:Nat}{p:Bool}{A:Option Go.Addr}{c:Nat}{tx:Bs}{r:Rl}{b1 b2 b4 b5 bo:Bool}{ck e e1 e2 e3 e4 e5:Int}
theorem rw000(h:Tx w g p A c tx e)(H:RuIn w g p A tx r b1 b2 true true false ck e e1 e2 e3 e4 e5)(ha:actWs r.act r.out=[])(hm:decide (r.meter=[])=true)(hi:decide (r.mirror=[])=true)(hle:TxF tx (rF r [])):RlT w g A tx r (rF r []) e5:=by
 have c11:=H.c11;have c16:=H.c16;have c21:=H.c21
 have c50:=se 49 hm;have c60:=se 59 hi
 have c75:=sn (b:=false) 74 hm;have c83:=sn (b:=false) 82 hi
 have c12:=wantRl w g p A tx r 3 [] H.h1
 have c22:=wantRl w g p A tx r 3 [] H.h2
 have c27:=fun W hW=>act_none (b:=(txB w g A)) ha H.o0 H.o1 H.hl W hW
 have c46:=wantRl w g p A tx r 3 [] H.h3
 have c56:=wantRl w g p A tx r 3 [] H.h4
 have c66:=wantRl w g p A tx r 3 [] H.h5
 have c72:=app_nil (Chg (txK g A) w) 4 (by decide)
 have c91:=lineRl w g p A tx r e5 [Sx.deadRow,⟨9,.own 1 4 (strs (rF r []))⟩] 4 5 (rF r []) (by omega) rfl (by simp) hle
 have z0:TxR0 g (tx++lnB (rF r [])) e5 [] (rD g 5 tx (lnB (rF r [])) r e5 [Sx.deadRow,⟨9,.own 1 4 (strs (rF r []))⟩]):=⟨5,rfl,rfl,rfl⟩
 refine tx_walk [.agg r.cells.toArray] h (rlH g p r b1 b2 ck e1 e2 [(27,.call (.slice none 0 0)),(72,.app 0 []),(46,wH g p e3),(50,.bin (.bool true)),(56,wH g p e4),(60,.bin (.bool true)),(66,wH g p e5),(70,.nils 9 1),(75,.bin (.bool false)),(83,.bin (.bool false)),(91,.callG (txG [4] 0 1 5 (some g) (tx++lnB (rF r [])) e5 (.tuple #[])))]) [] (by kernel_rfl) Tryz.func74 rfl (Nat.le_of_ble_eq_true rfl) ?_
 exact Eq.mp (by kernel_rfl) (Sx.t8 c11 c12 c16 c21 c22 c27 c46 c50 (Sx.t4 c56 c60 c66 c72 (Sx.t2 c75 c83 (And.intro c91 z0))))
theorem rw001(h:Tx w g p A c tx e)(H:RuIn w g p A tx r b1 b2 true b5 false ck e e1 e2 e3 e4 e5)(ha:actWs r.act r.out=[])(hm:decide (r.meter=[])=true)(hi:decide (r.mirror=[])=false)(hle:TxF tx (rF r [kMirror,r.mirror])):RlT w g A tx r (rF r [kMirror,r.mirror]) e5:=by
 have c11:=H.c11;have c16:=H.c16;have c21:=H.c21
 have c50:=se 49 hm;have c60:=se 59 hi
 have c64:=H.c64 (of_decide_eq_false hi)
 have c75:=sn (b:=false) 74 hm;have c83:=sn (b:=true) 82 hi
 have c12:=wantRl w g p A tx r 3 [] H.h1
 have c22:=wantRl w g p A tx r 3 [] H.h2
 have c27:=fun W hW=>act_none (b:=(txB w g A)) ha H.o0 H.o1 H.hl W hW
 have c46:=wantRl w g p A tx r 3 [] H.h3
 have c56:=wantRl w g p A tx r 3 [] H.h4
 have c66:=wantRl w g p A tx r 3 [] H.h5
 have c72:=app_nil (Chg (txK g A) w) 4 (by decide)
 have c88:=app_st [kMirror,r.mirror] 4 2 rfl (by decide)
 have c91:=lineRl w g p A tx r e5 [Sx.deadRow,Sx.deadRow,⟨9,.vals (strs [kMirror,r.mirror])⟩,⟨9,.own 1 6 (strs (rF r [kMirror,r.mirror]))⟩] 6 7 (rF r [kMirror,r.mirror]) (by omega) rfl (by simp) hle
 have z0:TxR0 g (tx++lnB (rF r [kMirror,r.mirror])) e5 [] (rD g 7 tx (lnB (rF r [kMirror,r.mirror])) r e5 [Sx.deadRow,Sx.deadRow,⟨9,.vals (strs [kMirror,r.mirror])⟩,⟨9,.own 1 6 (strs (rF r [kMirror,r.mirror]))⟩]):=⟨7,rfl,rfl,rfl⟩
 refine tx_walk [.agg r.cells.toArray] h (rlH g p r b1 b2 ck e1 e2 [(27,.call (.slice none 0 0)),(72,.app 0 []),(46,wH g p e3),(50,.bin (.bool true)),(56,wH g p e4),(60,.bin (.bool false)),(64,.call (.bool b5)),(66,wH g p e5),(70,.nils 9 1),(75,.bin (.bool false)),(83,.bin (.bool true)),(91,.callG (txG [6] 0 1 7 (some g) (tx++lnB (rF r [kMirror,r.mirror])) e5 (.tuple #[])))]) [] (by kernel_rfl) Tryz.func74 rfl (Nat.le_of_ble_eq_true rfl) ?_
 exact Eq.mp (by kernel_rfl) (Sx.t8 c11 c12 c16 c21 c22 c27 c46 c50 (Sx.t8 c56 c60 c64 c66 c72 c75 c83 c88 (And.intro c91 z0)))
theorem rw010(h:Tx w g p A c tx e)(H:RuIn w g p A tx r b1 b2 b4 true false ck e e1 e2 e3 e4 e5)(ha:actWs r.act r.out=[])(hm:decide (r.meter=[])=false)(hi:decide (r.mirror=[])=true)(hle:TxF tx (rF r [kMeter,r.meter])):RlT w g A tx r (rF r [kMeter,r.meter]) e5:=by
 have c11:=H.c11;have c16:=H.c16;have c21:=H.c21
 have c50:=se 49 hm;have c60:=se 59 hi
 have c54:=H.c54 (of_decide_eq_false hm)
 have c75:=sn (b:=true) 74 hm;have c83:=sn (b:=false) 82 hi
 have c12:=wantRl w g p A tx r 3 [] H.h1
 have c22:=wantRl w g p A tx r 3 [] H.h2
 have c27:=fun W hW=>act_none (b:=(txB w g A)) ha H.o0 H.o1 H.hl W hW
 have c46:=wantRl w g p A tx r 3 [] H.h3
 have c56:=wantRl w g p A tx r 3 [] H.h4
 have c66:=wantRl w g p A tx r 3 [] H.h5
 have c72:=app_nil (Chg (txK g A) w) 4 (by decide)
 have c80:=app_st [kMeter,r.meter] 4 2 rfl (by decide)
 have c91:=lineRl w g p A tx r e5 [Sx.deadRow,Sx.deadRow,⟨9,.vals (strs [kMeter,r.meter])⟩,⟨9,.own 1 6 (strs (rF r [kMeter,r.meter]))⟩] 6 7 (rF r [kMeter,r.meter]) (by omega) rfl (by simp) hle
 have z0:TxR0 g (tx++lnB (rF r [kMeter,r.meter])) e5 [] (rD g 7 tx (lnB (rF r [kMeter,r.meter])) r e5 [Sx.deadRow,Sx.deadRow,⟨9,.vals (strs [kMeter,r.meter])⟩,⟨9,.own 1 6 (strs (rF r [kMeter,r.meter]))⟩]):=⟨7,rfl,rfl,rfl⟩
 refine tx_walk [.agg r.cells.toArray] h (rlH g p r b1 b2 ck e1 e2 [(27,.call (.slice none 0 0)),(72,.app 0 []),(46,wH g p e3),(50,.bin (.bool false)),(54,.call (.bool b4)),(56,wH g p e4),(60,.bin (.bool true)),(66,wH g p e5),(70,.nils 9 1),(75,.bin (.bool true)),(83,.bin (.bool false)),(91,.callG (txG [6] 0 1 7 (some g) (tx++lnB (rF r [kMeter,r.meter])) e5 (.tuple #[])))]) [] (by kernel_rfl) Tryz.func74 rfl (Nat.le_of_ble_eq_true rfl) ?_
 exact Eq.mp (by kernel_rfl) (Sx.t8 c11 c12 c16 c21 c22 c27 c46 c50 (Sx.t8 c54 c56 c60 c66 c72 c75 c80 c83 (And.intro c91 z0)))
theorem rw011(h:Tx w g p A c tx e)(H:RuIn w g p A tx r b1 b2 b4 b5 false ck e e1 e2 e3 e4 e5)(ha:actWs r.act r.out=[])(hm:decide (r.meter=[])=false)(hi:decide (r.mirror=[])=false)(hle:TxF tx (rF r [kMeter,r.meter,kMirror,r.mirror])):RlT w g A tx r (rF r [kMeter,r.meter,kMirror,r.mirror]) e5:=by
 have c11:=H.c11;have c16:=H.c16;have c21:=H.c21
 have c50:=se 49 hm;have c60:=se 59 hi
 have c54:=H.c54 (of_decide_eq_false hm)
 have c64:=H.c64 (of_decide_eq_false hi)
 have c75:=sn (b:=true) 74 hm;have c83:=sn (b:=true) 82 hi
 have c12:=wantRl w g p A tx r 3 [] H.h1
 have c22:=wantRl w g p A tx r 3 [] H.h2
 have c27:=fun W hW=>act_none (b:=(txB w g A)) ha H.o0 H.o1 H.hl W hW
 have c46:=wantRl w g p A tx r 3 [] H.h3
 have c56:=wantRl w g p A tx r 3 [] H.h4
 have c66:=wantRl w g p A tx r 3 [] H.h5
 have c72:=app_nil (Chg (txK g A) w) 4 (by decide)
 have c80:=app_st [kMeter,r.meter] 4 2 rfl (by decide)
 have c88:=app_st [kMirror,r.mirror] 6 2 rfl (by decide)
 have c91:=lineRl w g p A tx r e5 [Sx.deadRow,Sx.deadRow,⟨9,.vals (strs [kMeter,r.meter])⟩,Sx.deadRow,⟨9,.vals (strs [kMirror,r.mirror])⟩,⟨9,.own 1 8 (strs (rF r [kMeter,r.meter,kMirror,r.mirror]))⟩] 8 9 (rF r [kMeter,r.meter,kMirror,r.mirror]) (by omega) rfl (by simp) hle
 have z0:TxR0 g (tx++lnB (rF r [kMeter,r.meter,kMirror,r.mirror])) e5 [] (rD g 9 tx (lnB (rF r [kMeter,r.meter,kMirror,r.mirror])) r e5 [Sx.deadRow,Sx.deadRow,⟨9,.vals (strs [kMeter,r.meter])⟩,Sx.deadRow,⟨9,.vals (strs [kMirror,r.mirror])⟩,⟨9,.own 1 8 (strs (rF r [kMeter,r.meter,kMirror,r.mirror]))⟩]):=⟨9,rfl,rfl,rfl⟩
 refine tx_walk [.agg r.cells.toArray] h (rlH g p r b1 b2 ck e1 e2 [(27,.call (.slice none 0 0)),(72,.app 0 []),(46,wH g p e3),(50,.bin (.bool false)),(54,.call (.bool b4)),(56,wH g p e4),(60,.bin (.bool false)),(64,.call (.bool b5)),(66,wH g p e5),(70,.nils 9 1),(75,.bin (.bool true)),(83,.bin (.bool true)),(91,.callG (txG [8] 0 1 9 (some g) (tx++lnB (rF r [kMeter,r.meter,kMirror,r.mirror])) e5 (.tuple #[])))]) [] (by kernel_rfl) Tryz.func74 rfl (Nat.le_of_ble_eq_true rfl) ?_
 exact Eq.mp (by kernel_rfl) (Sx.t8 c11 c12 c16 c21 c22 c27 c46 c50 (Sx.t8 c54 c56 c60 c64 c66 c72 c75 c80 (Sx.t2 c83 c88 (And.intro c91 z0))))
theorem rw1a00{a0:Bs}(h:Tx w g p A c tx e)(H:RuIn w g p A tx r b1 b2 true true false ck e e1 e2 e3 e4 e5)(ha:actWs r.act r.out=[a0])(hg:¬r.out≥0)(hm:decide (r.meter=[])=true)(hi:decide (r.mirror=[])=true)(hle:TxF tx (rF r [a0])):RlT w g A tx r (rF r [a0]) e5:=by
 have c11:=H.c11;have c16:=H.c16;have c21:=H.c21
 have c34:Value.bool (decide (r.out≥0))=.bool false:=bzf (decide_eq_false hg)
 have c50:=se 49 hm;have c60:=se 59 hi
 have c75:=sn (b:=false) 74 hm;have c83:=sn (b:=false) 82 hi
 have c12:=wantRl w g p A tx r 3 [] H.h1
 have c22:=wantRl w g p A tx r 3 [] H.h2
 have c27:=fun W β (hS:Sx.See (txB w g A) β W (Sx.rowAt (rL g p tx r e2 [])) [])=>act_some (m:=3) ha (by simp) H.o0 H.o1 H.hl W β hS
 have c46:=wantRl w g p A tx r 4 [⟨9,.vals (strs [a0])⟩] H.h3
 have c56:=wantRl w g p A tx r 4 [⟨9,.vals (strs [a0])⟩] H.h4
 have c66:=wantRl w g p A tx r 4 [⟨9,.vals (strs [a0])⟩] H.h5
 have c72:=app_st [a0] 4 1 rfl (by decide)
 have c91:=lineRl w g p A tx r e5 [⟨9,.vals (strs [a0])⟩,Sx.deadRow,⟨9,.own 1 5 (strs (rF r [a0]))⟩] 5 6 (rF r [a0]) (by omega) rfl (by simp) hle
 have z0:TxR0 g (tx++lnB (rF r [a0])) e5 [] (rD g 6 tx (lnB (rF r [a0])) r e5 [⟨9,.vals (strs [a0])⟩,Sx.deadRow,⟨9,.own 1 5 (strs (rF r [a0]))⟩]):=⟨6,rfl,rfl,rfl⟩
 refine tx_walk [.agg r.cells.toArray] h (rlH g p r b1 b2 ck e1 e2 [(27,.callG (actG 3 1 (strs [a0]))),(34,.is (.bool false)),(46,wH g p e3),(50,.bin (.bool true)),(56,wH g p e4),(60,.bin (.bool true)),(66,wH g p e5),(70,.nils 9 1),(75,.bin (.bool false)),(83,.bin (.bool false)),(91,.callG (txG [5] 0 1 6 (some g) (tx++lnB (rF r [a0])) e5 (.tuple #[])))]) [] (by kernel_rfl) Tryz.func74 rfl (Nat.le_of_ble_eq_true rfl) ?_
 exact Eq.mp (by kernel_rfl) (Sx.t8 c11 c12 c16 c21 c22 c27 c34 c46 (Sx.t8 c50 c56 c60 c66 c72 c75 c83 c91 z0))
theorem rw1a01{a0:Bs}(h:Tx w g p A c tx e)(H:RuIn w g p A tx r b1 b2 true b5 false ck e e1 e2 e3 e4 e5)(ha:actWs r.act r.out=[a0])(hg:¬r.out≥0)(hm:decide (r.meter=[])=true)(hi:decide (r.mirror=[])=false)(hle:TxF tx (rF r [a0,kMirror,r.mirror])):RlT w g A tx r (rF r [a0,kMirror,r.mirror]) e5:=by
 have c11:=H.c11;have c16:=H.c16;have c21:=H.c21
 have c34:Value.bool (decide (r.out≥0))=.bool false:=bzf (decide_eq_false hg)
 have c50:=se 49 hm;have c60:=se 59 hi
 have c64:=H.c64 (of_decide_eq_false hi)
 have c75:=sn (b:=false) 74 hm;have c83:=sn (b:=true) 82 hi
 have c12:=wantRl w g p A tx r 3 [] H.h1
 have c22:=wantRl w g p A tx r 3 [] H.h2
 have c27:=fun W β (hS:Sx.See (txB w g A) β W (Sx.rowAt (rL g p tx r e2 [])) [])=>act_some (m:=3) ha (by simp) H.o0 H.o1 H.hl W β hS
 have c46:=wantRl w g p A tx r 4 [⟨9,.vals (strs [a0])⟩] H.h3
 have c56:=wantRl w g p A tx r 4 [⟨9,.vals (strs [a0])⟩] H.h4
 have c66:=wantRl w g p A tx r 4 [⟨9,.vals (strs [a0])⟩] H.h5
 have c72:=app_st [a0] 4 1 rfl (by decide)
 have c88:=app_st [kMirror,r.mirror] 5 2 rfl (by decide)
 have c91:=lineRl w g p A tx r e5 [⟨9,.vals (strs [a0])⟩,Sx.deadRow,Sx.deadRow,⟨9,.vals (strs [kMirror,r.mirror])⟩,⟨9,.own 1 7 (strs (rF r [a0,kMirror,r.mirror]))⟩] 7 8 (rF r [a0,kMirror,r.mirror]) (by omega) rfl (by simp) hle
 have z0:TxR0 g (tx++lnB (rF r [a0,kMirror,r.mirror])) e5 [] (rD g 8 tx (lnB (rF r [a0,kMirror,r.mirror])) r e5 [⟨9,.vals (strs [a0])⟩,Sx.deadRow,Sx.deadRow,⟨9,.vals (strs [kMirror,r.mirror])⟩,⟨9,.own 1 7 (strs (rF r [a0,kMirror,r.mirror]))⟩]):=⟨8,rfl,rfl,rfl⟩
 refine tx_walk [.agg r.cells.toArray] h (rlH g p r b1 b2 ck e1 e2 [(27,.callG (actG 3 1 (strs [a0]))),(34,.is (.bool false)),(46,wH g p e3),(50,.bin (.bool true)),(56,wH g p e4),(60,.bin (.bool false)),(64,.call (.bool b5)),(66,wH g p e5),(70,.nils 9 1),(75,.bin (.bool false)),(83,.bin (.bool true)),(91,.callG (txG [7] 0 1 8 (some g) (tx++lnB (rF r [a0,kMirror,r.mirror])) e5 (.tuple #[])))]) [] (by kernel_rfl) Tryz.func74 rfl (Nat.le_of_ble_eq_true rfl) ?_
 exact Eq.mp (by kernel_rfl) (Sx.t8 c11 c12 c16 c21 c22 c27 c34 c46 (Sx.t8 c50 c56 c60 c64 c66 c72 c75 c83 (Sx.t2 c88 c91 z0)))
theorem rw1a10{a0:Bs}(h:Tx w g p A c tx e)(H:RuIn w g p A tx r b1 b2 b4 true false ck e e1 e2 e3 e4 e5)(ha:actWs r.act r.out=[a0])(hg:¬r.out≥0)(hm:decide (r.meter=[])=false)(hi:decide (r.mirror=[])=true)(hle:TxF tx (rF r [a0,kMeter,r.meter])):RlT w g A tx r (rF r [a0,kMeter,r.meter]) e5:=by
 have c11:=H.c11;have c16:=H.c16;have c21:=H.c21
 have c34:Value.bool (decide (r.out≥0))=.bool false:=bzf (decide_eq_false hg)
 have c50:=se 49 hm;have c60:=se 59 hi
 have c54:=H.c54 (of_decide_eq_false hm)
 have c75:=sn (b:=true) 74 hm;have c83:=sn (b:=false) 82 hi
 have c12:=wantRl w g p A tx r 3 [] H.h1
 have c22:=wantRl w g p A tx r 3 [] H.h2
 have c27:=fun W β (hS:Sx.See (txB w g A) β W (Sx.rowAt (rL g p tx r e2 [])) [])=>act_some (m:=3) ha (by simp) H.o0 H.o1 H.hl W β hS
 have c46:=wantRl w g p A tx r 4 [⟨9,.vals (strs [a0])⟩] H.h3
 have c56:=wantRl w g p A tx r 4 [⟨9,.vals (strs [a0])⟩] H.h4
 have c66:=wantRl w g p A tx r 4 [⟨9,.vals (strs [a0])⟩] H.h5
 have c72:=app_st [a0] 4 1 rfl (by decide)
 have c80:=app_st [kMeter,r.meter] 5 2 rfl (by decide)
 have c91:=lineRl w g p A tx r e5 [⟨9,.vals (strs [a0])⟩,Sx.deadRow,Sx.deadRow,⟨9,.vals (strs [kMeter,r.meter])⟩,⟨9,.own 1 7 (strs (rF r [a0,kMeter,r.meter]))⟩] 7 8 (rF r [a0,kMeter,r.meter]) (by omega) rfl (by simp) hle
 have z0:TxR0 g (tx++lnB (rF r [a0,kMeter,r.meter])) e5 [] (rD g 8 tx (lnB (rF r [a0,kMeter,r.meter])) r e5 [⟨9,.vals (strs [a0])⟩,Sx.deadRow,Sx.deadRow,⟨9,.vals (strs [kMeter,r.meter])⟩,⟨9,.own 1 7 (strs (rF r [a0,kMeter,r.meter]))⟩]):=⟨8,rfl,rfl,rfl⟩
 refine tx_walk [.agg r.cells.toArray] h (rlH g p r b1 b2 ck e1 e2 [(27,.callG (actG 3 1 (strs [a0]))),(34,.is (.bool false)),(46,wH g p e3),(50,.bin (.bool false)),(54,.call (.bool b4)),(56,wH g p e4),(60,.bin (.bool true)),(66,wH g p e5),(70,.nils 9 1),(75,.bin (.bool true)),(83,.bin (.bool false)),(91,.callG (txG [7] 0 1 8 (some g) (tx++lnB (rF r [a0,kMeter,r.meter])) e5 (.tuple #[])))]) [] (by kernel_rfl) Tryz.func74 rfl (Nat.le_of_ble_eq_true rfl) ?_
 exact Eq.mp (by kernel_rfl) (Sx.t8 c11 c12 c16 c21 c22 c27 c34 c46 (Sx.t8 c50 c54 c56 c60 c66 c72 c75 c80 (Sx.t2 c83 c91 z0)))
theorem rw1a11{a0:Bs}(h:Tx w g p A c tx e)(H:RuIn w g p A tx r b1 b2 b4 b5 false ck e e1 e2 e3 e4 e5)(ha:actWs r.act r.out=[a0])(hg:¬r.out≥0)(hm:decide (r.meter=[])=false)(hi:decide (r.mirror=[])=false)(hle:TxF tx (rF r [a0,kMeter,r.meter,kMirror,r.mirror])):RlT w g A tx r (rF r [a0,kMeter,r.meter,kMirror,r.mirror]) e5:=by
 have c11:=H.c11;have c16:=H.c16;have c21:=H.c21
 have c34:Value.bool (decide (r.out≥0))=.bool false:=bzf (decide_eq_false hg)
 have c50:=se 49 hm;have c60:=se 59 hi
 have c54:=H.c54 (of_decide_eq_false hm)
 have c64:=H.c64 (of_decide_eq_false hi)
 have c75:=sn (b:=true) 74 hm;have c83:=sn (b:=true) 82 hi
 have c12:=wantRl w g p A tx r 3 [] H.h1
 have c22:=wantRl w g p A tx r 3 [] H.h2
 have c27:=fun W β (hS:Sx.See (txB w g A) β W (Sx.rowAt (rL g p tx r e2 [])) [])=>act_some (m:=3) ha (by simp) H.o0 H.o1 H.hl W β hS
 have c46:=wantRl w g p A tx r 4 [⟨9,.vals (strs [a0])⟩] H.h3
 have c56:=wantRl w g p A tx r 4 [⟨9,.vals (strs [a0])⟩] H.h4
 have c66:=wantRl w g p A tx r 4 [⟨9,.vals (strs [a0])⟩] H.h5
 have c72:=app_st [a0] 4 1 rfl (by decide)
 have c80:=app_st [kMeter,r.meter] 5 2 rfl (by decide)
 have c88:=app_st [kMirror,r.mirror] 7 2 rfl (by decide)
 have c91:=lineRl w g p A tx r e5 [⟨9,.vals (strs [a0])⟩,Sx.deadRow,Sx.deadRow,⟨9,.vals (strs [kMeter,r.meter])⟩,Sx.deadRow,⟨9,.vals (strs [kMirror,r.mirror])⟩,⟨9,.own 1 9 (strs (rF r [a0,kMeter,r.meter,kMirror,r.mirror]))⟩] 9 10 (rF r [a0,kMeter,r.meter,kMirror,r.mirror]) (by omega) rfl (by simp) hle
 have z0:TxR0 g (tx++lnB (rF r [a0,kMeter,r.meter,kMirror,r.mirror])) e5 [] (rD g 10 tx (lnB (rF r [a0,kMeter,r.meter,kMirror,r.mirror])) r e5 [⟨9,.vals (strs [a0])⟩,Sx.deadRow,Sx.deadRow,⟨9,.vals (strs [kMeter,r.meter])⟩,Sx.deadRow,⟨9,.vals (strs [kMirror,r.mirror])⟩,⟨9,.own 1 9 (strs (rF r [a0,kMeter,r.meter,kMirror,r.mirror]))⟩]):=⟨10,rfl,rfl,rfl⟩
 refine tx_walk [.agg r.cells.toArray] h (rlH g p r b1 b2 ck e1 e2 [(27,.callG (actG 3 1 (strs [a0]))),(34,.is (.bool false)),(46,wH g p e3),(50,.bin (.bool false)),(54,.call (.bool b4)),(56,wH g p e4),(60,.bin (.bool false)),(64,.call (.bool b5)),(66,wH g p e5),(70,.nils 9 1),(75,.bin (.bool true)),(83,.bin (.bool true)),(91,.callG (txG [9] 0 1 10 (some g) (tx++lnB (rF r [a0,kMeter,r.meter,kMirror,r.mirror])) e5 (.tuple #[])))]) [] (by kernel_rfl) Tryz.func74 rfl (Nat.le_of_ble_eq_true rfl) ?_
 exact Eq.mp (by kernel_rfl) (Sx.t8 c11 c12 c16 c21 c22 c27 c34 c46 (Sx.t8 c50 c54 c56 c60 c64 c66 c72 c75 (Sx.t4 c80 c83 c88 c91 z0)))
theorem rw1b00{a0:Bs}(h:Tx w g p A c tx e)(H:RuIn w g p A tx r b1 b2 true true true ck e e1 e2 e3 e4 e5)(ha:actWs r.act r.out=[a0])(hg:r.out≥0)(hz:r.out=0)(hm:decide (r.meter=[])=true)(hi:decide (r.mirror=[])=true)(hle:TxF tx (rF r [a0])):RlT w g A tx r (rF r [a0]) e5:=by
 have c11:=H.c11;have c16:=H.c16;have c21:=H.c21
 have c34:Value.bool (decide (r.out≥0))=.bool true:=bzt (decide_eq_true hg)
 have c39:Value.bool (r.out==0)=.bool true:=bzt (by rw[hz];rfl)
 have c50:=se 49 hm;have c60:=se 59 hi
 have c75:=sn (b:=false) 74 hm;have c83:=sn (b:=false) 82 hi
 have c12:=wantRl w g p A tx r 3 [] H.h1
 have c22:=wantRl w g p A tx r 3 [] H.h2
 have c27:=fun W β (hS:Sx.See (txB w g A) β W (Sx.rowAt (rL g p tx r e2 [])) [])=>act_some (m:=3) ha (by simp) H.o0 H.o1 H.hl W β hS
 have c46:=wantRl w g p A tx r 4 [⟨9,.vals (strs [a0])⟩] H.h3
 have c56:=wantRl w g p A tx r 4 [⟨9,.vals (strs [a0])⟩] H.h4
 have c66:=wantRl w g p A tx r 4 [⟨9,.vals (strs [a0])⟩] H.h5
 have c72:=app_st [a0] 4 1 rfl (by decide)
 have c91:=lineRl w g p A tx r e5 [⟨9,.vals (strs [a0])⟩,Sx.deadRow,⟨9,.own 1 5 (strs (rF r [a0]))⟩] 5 6 (rF r [a0]) (by omega) rfl (by simp) hle
 have z0:TxR0 g (tx++lnB (rF r [a0])) e5 [] (rD g 6 tx (lnB (rF r [a0])) r e5 [⟨9,.vals (strs [a0])⟩,Sx.deadRow,⟨9,.own 1 5 (strs (rF r [a0]))⟩]):=⟨6,rfl,rfl,rfl⟩
 refine tx_walk [.agg r.cells.toArray] h (rlH g p r b1 b2 ck e1 e2 [(27,.callG (actG 3 1 (strs [a0]))),(34,.is (.bool true)),(39,.is (.bool true)),(46,wH g p e3),(50,.bin (.bool true)),(56,wH g p e4),(60,.bin (.bool true)),(66,wH g p e5),(70,.nils 9 1),(75,.bin (.bool false)),(83,.bin (.bool false)),(91,.callG (txG [5] 0 1 6 (some g) (tx++lnB (rF r [a0])) e5 (.tuple #[])))]) [] (by kernel_rfl) Tryz.func74 rfl (Nat.le_of_ble_eq_true rfl) ?_
 exact Eq.mp (by kernel_rfl) (Sx.t8 c11 c12 c16 c21 c22 c27 c34 c39 (Sx.t8 c46 c50 c56 c60 c66 c72 c75 c83 (And.intro c91 z0)))
theorem rw1b01{a0:Bs}(h:Tx w g p A c tx e)(H:RuIn w g p A tx r b1 b2 true b5 true ck e e1 e2 e3 e4 e5)(ha:actWs r.act r.out=[a0])(hg:r.out≥0)(hz:r.out=0)(hm:decide (r.meter=[])=true)(hi:decide (r.mirror=[])=false)(hle:TxF tx (rF r [a0,kMirror,r.mirror])):RlT w g A tx r (rF r [a0,kMirror,r.mirror]) e5:=by
 have c11:=H.c11;have c16:=H.c16;have c21:=H.c21
 have c34:Value.bool (decide (r.out≥0))=.bool true:=bzt (decide_eq_true hg)
 have c39:Value.bool (r.out==0)=.bool true:=bzt (by rw[hz];rfl)
 have c50:=se 49 hm;have c60:=se 59 hi
 have c64:=H.c64 (of_decide_eq_false hi)
 have c75:=sn (b:=false) 74 hm;have c83:=sn (b:=true) 82 hi
 have c12:=wantRl w g p A tx r 3 [] H.h1
 have c22:=wantRl w g p A tx r 3 [] H.h2
 have c27:=fun W β (hS:Sx.See (txB w g A) β W (Sx.rowAt (rL g p tx r e2 [])) [])=>act_some (m:=3) ha (by simp) H.o0 H.o1 H.hl W β hS
 have c46:=wantRl w g p A tx r 4 [⟨9,.vals (strs [a0])⟩] H.h3
 have c56:=wantRl w g p A tx r 4 [⟨9,.vals (strs [a0])⟩] H.h4
 have c66:=wantRl w g p A tx r 4 [⟨9,.vals (strs [a0])⟩] H.h5
 have c72:=app_st [a0] 4 1 rfl (by decide)
 have c88:=app_st [kMirror,r.mirror] 5 2 rfl (by decide)
 have c91:=lineRl w g p A tx r e5 [⟨9,.vals (strs [a0])⟩,Sx.deadRow,Sx.deadRow,⟨9,.vals (strs [kMirror,r.mirror])⟩,⟨9,.own 1 7 (strs (rF r [a0,kMirror,r.mirror]))⟩] 7 8 (rF r [a0,kMirror,r.mirror]) (by omega) rfl (by simp) hle
 have z0:TxR0 g (tx++lnB (rF r [a0,kMirror,r.mirror])) e5 [] (rD g 8 tx (lnB (rF r [a0,kMirror,r.mirror])) r e5 [⟨9,.vals (strs [a0])⟩,Sx.deadRow,Sx.deadRow,⟨9,.vals (strs [kMirror,r.mirror])⟩,⟨9,.own 1 7 (strs (rF r [a0,kMirror,r.mirror]))⟩]):=⟨8,rfl,rfl,rfl⟩
 refine tx_walk [.agg r.cells.toArray] h (rlH g p r b1 b2 ck e1 e2 [(27,.callG (actG 3 1 (strs [a0]))),(34,.is (.bool true)),(39,.is (.bool true)),(46,wH g p e3),(50,.bin (.bool true)),(56,wH g p e4),(60,.bin (.bool false)),(64,.call (.bool b5)),(66,wH g p e5),(70,.nils 9 1),(75,.bin (.bool false)),(83,.bin (.bool true)),(91,.callG (txG [7] 0 1 8 (some g) (tx++lnB (rF r [a0,kMirror,r.mirror])) e5 (.tuple #[])))]) [] (by kernel_rfl) Tryz.func74 rfl (Nat.le_of_ble_eq_true rfl) ?_
 exact Eq.mp (by kernel_rfl) (Sx.t8 c11 c12 c16 c21 c22 c27 c34 c39 (Sx.t8 c46 c50 c56 c60 c64 c66 c72 c75 (Sx.t2 c83 c88 (And.intro c91 z0))))
theorem rw1b10{a0:Bs}(h:Tx w g p A c tx e)(H:RuIn w g p A tx r b1 b2 b4 true true ck e e1 e2 e3 e4 e5)(ha:actWs r.act r.out=[a0])(hg:r.out≥0)(hz:r.out=0)(hm:decide (r.meter=[])=false)(hi:decide (r.mirror=[])=true)(hle:TxF tx (rF r [a0,kMeter,r.meter])):RlT w g A tx r (rF r [a0,kMeter,r.meter]) e5:=by
 have c11:=H.c11;have c16:=H.c16;have c21:=H.c21
 have c34:Value.bool (decide (r.out≥0))=.bool true:=bzt (decide_eq_true hg)
 have c39:Value.bool (r.out==0)=.bool true:=bzt (by rw[hz];rfl)
 have c50:=se 49 hm;have c60:=se 59 hi
 have c54:=H.c54 (of_decide_eq_false hm)
 have c75:=sn (b:=true) 74 hm;have c83:=sn (b:=false) 82 hi
 have c12:=wantRl w g p A tx r 3 [] H.h1
 have c22:=wantRl w g p A tx r 3 [] H.h2
 have c27:=fun W β (hS:Sx.See (txB w g A) β W (Sx.rowAt (rL g p tx r e2 [])) [])=>act_some (m:=3) ha (by simp) H.o0 H.o1 H.hl W β hS
 have c46:=wantRl w g p A tx r 4 [⟨9,.vals (strs [a0])⟩] H.h3
 have c56:=wantRl w g p A tx r 4 [⟨9,.vals (strs [a0])⟩] H.h4
 have c66:=wantRl w g p A tx r 4 [⟨9,.vals (strs [a0])⟩] H.h5
 have c72:=app_st [a0] 4 1 rfl (by decide)
 have c80:=app_st [kMeter,r.meter] 5 2 rfl (by decide)
 have c91:=lineRl w g p A tx r e5 [⟨9,.vals (strs [a0])⟩,Sx.deadRow,Sx.deadRow,⟨9,.vals (strs [kMeter,r.meter])⟩,⟨9,.own 1 7 (strs (rF r [a0,kMeter,r.meter]))⟩] 7 8 (rF r [a0,kMeter,r.meter]) (by omega) rfl (by simp) hle
 have z0:TxR0 g (tx++lnB (rF r [a0,kMeter,r.meter])) e5 [] (rD g 8 tx (lnB (rF r [a0,kMeter,r.meter])) r e5 [⟨9,.vals (strs [a0])⟩,Sx.deadRow,Sx.deadRow,⟨9,.vals (strs [kMeter,r.meter])⟩,⟨9,.own 1 7 (strs (rF r [a0,kMeter,r.meter]))⟩]):=⟨8,rfl,rfl,rfl⟩
 refine tx_walk [.agg r.cells.toArray] h (rlH g p r b1 b2 ck e1 e2 [(27,.callG (actG 3 1 (strs [a0]))),(34,.is (.bool true)),(39,.is (.bool true)),(46,wH g p e3),(50,.bin (.bool false)),(54,.call (.bool b4)),(56,wH g p e4),(60,.bin (.bool true)),(66,wH g p e5),(70,.nils 9 1),(75,.bin (.bool true)),(83,.bin (.bool false)),(91,.callG (txG [7] 0 1 8 (some g) (tx++lnB (rF r [a0,kMeter,r.meter])) e5 (.tuple #[])))]) [] (by kernel_rfl) Tryz.func74 rfl (Nat.le_of_ble_eq_true rfl) ?_
 exact Eq.mp (by kernel_rfl) (Sx.t8 c11 c12 c16 c21 c22 c27 c34 c39 (Sx.t8 c46 c50 c54 c56 c60 c66 c72 c75 (Sx.t2 c80 c83 (And.intro c91 z0))))
theorem rw1b11{a0:Bs}(h:Tx w g p A c tx e)(H:RuIn w g p A tx r b1 b2 b4 b5 true ck e e1 e2 e3 e4 e5)(ha:actWs r.act r.out=[a0])(hg:r.out≥0)(hz:r.out=0)(hm:decide (r.meter=[])=false)(hi:decide (r.mirror=[])=false)(hle:TxF tx (rF r [a0,kMeter,r.meter,kMirror,r.mirror])):RlT w g A tx r (rF r [a0,kMeter,r.meter,kMirror,r.mirror]) e5:=by
 have c11:=H.c11;have c16:=H.c16;have c21:=H.c21
 have c34:Value.bool (decide (r.out≥0))=.bool true:=bzt (decide_eq_true hg)
 have c39:Value.bool (r.out==0)=.bool true:=bzt (by rw[hz];rfl)
 have c50:=se 49 hm;have c60:=se 59 hi
 have c54:=H.c54 (of_decide_eq_false hm)
 have c64:=H.c64 (of_decide_eq_false hi)
 have c75:=sn (b:=true) 74 hm;have c83:=sn (b:=true) 82 hi
 have c12:=wantRl w g p A tx r 3 [] H.h1
 have c22:=wantRl w g p A tx r 3 [] H.h2
 have c27:=fun W β (hS:Sx.See (txB w g A) β W (Sx.rowAt (rL g p tx r e2 [])) [])=>act_some (m:=3) ha (by simp) H.o0 H.o1 H.hl W β hS
 have c46:=wantRl w g p A tx r 4 [⟨9,.vals (strs [a0])⟩] H.h3
 have c56:=wantRl w g p A tx r 4 [⟨9,.vals (strs [a0])⟩] H.h4
 have c66:=wantRl w g p A tx r 4 [⟨9,.vals (strs [a0])⟩] H.h5
 have c72:=app_st [a0] 4 1 rfl (by decide)
 have c80:=app_st [kMeter,r.meter] 5 2 rfl (by decide)
 have c88:=app_st [kMirror,r.mirror] 7 2 rfl (by decide)
 have c91:=lineRl w g p A tx r e5 [⟨9,.vals (strs [a0])⟩,Sx.deadRow,Sx.deadRow,⟨9,.vals (strs [kMeter,r.meter])⟩,Sx.deadRow,⟨9,.vals (strs [kMirror,r.mirror])⟩,⟨9,.own 1 9 (strs (rF r [a0,kMeter,r.meter,kMirror,r.mirror]))⟩] 9 10 (rF r [a0,kMeter,r.meter,kMirror,r.mirror]) (by omega) rfl (by simp) hle
 have z0:TxR0 g (tx++lnB (rF r [a0,kMeter,r.meter,kMirror,r.mirror])) e5 [] (rD g 10 tx (lnB (rF r [a0,kMeter,r.meter,kMirror,r.mirror])) r e5 [⟨9,.vals (strs [a0])⟩,Sx.deadRow,Sx.deadRow,⟨9,.vals (strs [kMeter,r.meter])⟩,Sx.deadRow,⟨9,.vals (strs [kMirror,r.mirror])⟩,⟨9,.own 1 9 (strs (rF r [a0,kMeter,r.meter,kMirror,r.mirror]))⟩]):=⟨10,rfl,rfl,rfl⟩
 refine tx_walk [.agg r.cells.toArray] h (rlH g p r b1 b2 ck e1 e2 [(27,.callG (actG 3 1 (strs [a0]))),(34,.is (.bool true)),(39,.is (.bool true)),(46,wH g p e3),(50,.bin (.bool false)),(54,.call (.bool b4)),(56,wH g p e4),(60,.bin (.bool false)),(64,.call (.bool b5)),(66,wH g p e5),(70,.nils 9 1),(75,.bin (.bool true)),(83,.bin (.bool true)),(91,.callG (txG [9] 0 1 10 (some g) (tx++lnB (rF r [a0,kMeter,r.meter,kMirror,r.mirror])) e5 (.tuple #[])))]) [] (by kernel_rfl) Tryz.func74 rfl (Nat.le_of_ble_eq_true rfl) ?_
 exact Eq.mp (by kernel_rfl) (Sx.t8 c11 c12 c16 c21 c22 c27 c34 c39 (Sx.t8 c46 c50 c54 c56 c60 c64 c66 c72 (Sx.t4 c75 c80 c83 c88 (And.intro c91 z0))))
theorem rw1c00{a0:Bs}(h:Tx w g p A c tx e)(H:RuIn w g p A tx r b1 b2 true true bo ck e e1 e2 e3 e4 e5)(ha:actWs r.act r.out=[a0])(hg:r.out≥0)(hz:¬r.out=0)(hb:bo=decide (r.act=3))(hm:decide (r.meter=[])=true)(hi:decide (r.mirror=[])=true)(hle:TxF tx (rF r [a0])):RlT w g A tx r (rF r [a0]) e5:=by
 have c11:=H.c11;have c16:=H.c16;have c21:=H.c21
 have c34:Value.bool (decide (r.out≥0))=.bool true:=bzt (decide_eq_true hg)
 have c39:Value.bool (r.out==0)=.bool false:=bzf (beq_eq_false_iff_ne.2 hz)
 have c43:Value.bool (r.act==3)=.bool bo:=by rw[hb];rfl
 have c50:=se 49 hm;have c60:=se 59 hi
 have c75:=sn (b:=false) 74 hm;have c83:=sn (b:=false) 82 hi
 have c12:=wantRl w g p A tx r 3 [] H.h1
 have c22:=wantRl w g p A tx r 3 [] H.h2
 have c27:=fun W β (hS:Sx.See (txB w g A) β W (Sx.rowAt (rL g p tx r e2 [])) [])=>act_some (m:=3) ha (by simp) H.o0 H.o1 H.hl W β hS
 have c46:=wantRl w g p A tx r 4 [⟨9,.vals (strs [a0])⟩] H.h3
 have c56:=wantRl w g p A tx r 4 [⟨9,.vals (strs [a0])⟩] H.h4
 have c66:=wantRl w g p A tx r 4 [⟨9,.vals (strs [a0])⟩] H.h5
 have c72:=app_st [a0] 4 1 rfl (by decide)
 have c91:=lineRl w g p A tx r e5 [⟨9,.vals (strs [a0])⟩,Sx.deadRow,⟨9,.own 1 5 (strs (rF r [a0]))⟩] 5 6 (rF r [a0]) (by omega) rfl (by simp) hle
 have z0:TxR0 g (tx++lnB (rF r [a0])) e5 [] (rD g 6 tx (lnB (rF r [a0])) r e5 [⟨9,.vals (strs [a0])⟩,Sx.deadRow,⟨9,.own 1 5 (strs (rF r [a0]))⟩]):=⟨6,rfl,rfl,rfl⟩
 refine tx_walk [.agg r.cells.toArray] h (rlH g p r b1 b2 ck e1 e2 [(27,.callG (actG 3 1 (strs [a0]))),(34,.is (.bool true)),(39,.is (.bool false)),(43,.is (.bool bo)),(46,wH g p e3),(50,.bin (.bool true)),(56,wH g p e4),(60,.bin (.bool true)),(66,wH g p e5),(70,.nils 9 1),(75,.bin (.bool false)),(83,.bin (.bool false)),(91,.callG (txG [5] 0 1 6 (some g) (tx++lnB (rF r [a0])) e5 (.tuple #[])))]) [] (by kernel_rfl) Tryz.func74 rfl (Nat.le_of_ble_eq_true rfl) ?_
 exact Eq.mp (by kernel_rfl) (Sx.t8 c11 c12 c16 c21 c22 c27 c34 c39 (Sx.t8 c43 c46 c50 c56 c60 c66 c72 c75 (Sx.t2 c83 c91 z0)))
theorem rw1c01{a0:Bs}(h:Tx w g p A c tx e)(H:RuIn w g p A tx r b1 b2 true b5 bo ck e e1 e2 e3 e4 e5)(ha:actWs r.act r.out=[a0])(hg:r.out≥0)(hz:¬r.out=0)(hb:bo=decide (r.act=3))(hm:decide (r.meter=[])=true)(hi:decide (r.mirror=[])=false)(hle:TxF tx (rF r [a0,kMirror,r.mirror])):RlT w g A tx r (rF r [a0,kMirror,r.mirror]) e5:=by
 have c11:=H.c11;have c16:=H.c16;have c21:=H.c21
 have c34:Value.bool (decide (r.out≥0))=.bool true:=bzt (decide_eq_true hg)
 have c39:Value.bool (r.out==0)=.bool false:=bzf (beq_eq_false_iff_ne.2 hz)
 have c43:Value.bool (r.act==3)=.bool bo:=by rw[hb];rfl
 have c50:=se 49 hm;have c60:=se 59 hi
 have c64:=H.c64 (of_decide_eq_false hi)
 have c75:=sn (b:=false) 74 hm;have c83:=sn (b:=true) 82 hi
 have c12:=wantRl w g p A tx r 3 [] H.h1
 have c22:=wantRl w g p A tx r 3 [] H.h2
 have c27:=fun W β (hS:Sx.See (txB w g A) β W (Sx.rowAt (rL g p tx r e2 [])) [])=>act_some (m:=3) ha (by simp) H.o0 H.o1 H.hl W β hS
 have c46:=wantRl w g p A tx r 4 [⟨9,.vals (strs [a0])⟩] H.h3
 have c56:=wantRl w g p A tx r 4 [⟨9,.vals (strs [a0])⟩] H.h4
 have c66:=wantRl w g p A tx r 4 [⟨9,.vals (strs [a0])⟩] H.h5
 have c72:=app_st [a0] 4 1 rfl (by decide)
 have c88:=app_st [kMirror,r.mirror] 5 2 rfl (by decide)
 have c91:=lineRl w g p A tx r e5 [⟨9,.vals (strs [a0])⟩,Sx.deadRow,Sx.deadRow,⟨9,.vals (strs [kMirror,r.mirror])⟩,⟨9,.own 1 7 (strs (rF r [a0,kMirror,r.mirror]))⟩] 7 8 (rF r [a0,kMirror,r.mirror]) (by omega) rfl (by simp) hle
 have z0:TxR0 g (tx++lnB (rF r [a0,kMirror,r.mirror])) e5 [] (rD g 8 tx (lnB (rF r [a0,kMirror,r.mirror])) r e5 [⟨9,.vals (strs [a0])⟩,Sx.deadRow,Sx.deadRow,⟨9,.vals (strs [kMirror,r.mirror])⟩,⟨9,.own 1 7 (strs (rF r [a0,kMirror,r.mirror]))⟩]):=⟨8,rfl,rfl,rfl⟩
 refine tx_walk [.agg r.cells.toArray] h (rlH g p r b1 b2 ck e1 e2 [(27,.callG (actG 3 1 (strs [a0]))),(34,.is (.bool true)),(39,.is (.bool false)),(43,.is (.bool bo)),(46,wH g p e3),(50,.bin (.bool true)),(56,wH g p e4),(60,.bin (.bool false)),(64,.call (.bool b5)),(66,wH g p e5),(70,.nils 9 1),(75,.bin (.bool false)),(83,.bin (.bool true)),(91,.callG (txG [7] 0 1 8 (some g) (tx++lnB (rF r [a0,kMirror,r.mirror])) e5 (.tuple #[])))]) [] (by kernel_rfl) Tryz.func74 rfl (Nat.le_of_ble_eq_true rfl) ?_
 exact Eq.mp (by kernel_rfl) (Sx.t8 c11 c12 c16 c21 c22 c27 c34 c39 (Sx.t8 c43 c46 c50 c56 c60 c64 c66 c72 (Sx.t4 c75 c83 c88 c91 z0)))
theorem rw1c10{a0:Bs}(h:Tx w g p A c tx e)(H:RuIn w g p A tx r b1 b2 b4 true bo ck e e1 e2 e3 e4 e5)(ha:actWs r.act r.out=[a0])(hg:r.out≥0)(hz:¬r.out=0)(hb:bo=decide (r.act=3))(hm:decide (r.meter=[])=false)(hi:decide (r.mirror=[])=true)(hle:TxF tx (rF r [a0,kMeter,r.meter])):RlT w g A tx r (rF r [a0,kMeter,r.meter]) e5:=by
 have c11:=H.c11;have c16:=H.c16;have c21:=H.c21
 have c34:Value.bool (decide (r.out≥0))=.bool true:=bzt (decide_eq_true hg)
 have c39:Value.bool (r.out==0)=.bool false:=bzf (beq_eq_false_iff_ne.2 hz)
 have c43:Value.bool (r.act==3)=.bool bo:=by rw[hb];rfl
 have c50:=se 49 hm;have c60:=se 59 hi
 have c54:=H.c54 (of_decide_eq_false hm)
 have c75:=sn (b:=true) 74 hm;have c83:=sn (b:=false) 82 hi
 have c12:=wantRl w g p A tx r 3 [] H.h1
 have c22:=wantRl w g p A tx r 3 [] H.h2
 have c27:=fun W β (hS:Sx.See (txB w g A) β W (Sx.rowAt (rL g p tx r e2 [])) [])=>act_some (m:=3) ha (by simp) H.o0 H.o1 H.hl W β hS
 have c46:=wantRl w g p A tx r 4 [⟨9,.vals (strs [a0])⟩] H.h3
 have c56:=wantRl w g p A tx r 4 [⟨9,.vals (strs [a0])⟩] H.h4
 have c66:=wantRl w g p A tx r 4 [⟨9,.vals (strs [a0])⟩] H.h5
 have c72:=app_st [a0] 4 1 rfl (by decide)
 have c80:=app_st [kMeter,r.meter] 5 2 rfl (by decide)
 have c91:=lineRl w g p A tx r e5 [⟨9,.vals (strs [a0])⟩,Sx.deadRow,Sx.deadRow,⟨9,.vals (strs [kMeter,r.meter])⟩,⟨9,.own 1 7 (strs (rF r [a0,kMeter,r.meter]))⟩] 7 8 (rF r [a0,kMeter,r.meter]) (by omega) rfl (by simp) hle
 have z0:TxR0 g (tx++lnB (rF r [a0,kMeter,r.meter])) e5 [] (rD g 8 tx (lnB (rF r [a0,kMeter,r.meter])) r e5 [⟨9,.vals (strs [a0])⟩,Sx.deadRow,Sx.deadRow,⟨9,.vals (strs [kMeter,r.meter])⟩,⟨9,.own 1 7 (strs (rF r [a0,kMeter,r.meter]))⟩]):=⟨8,rfl,rfl,rfl⟩
 refine tx_walk [.agg r.cells.toArray] h (rlH g p r b1 b2 ck e1 e2 [(27,.callG (actG 3 1 (strs [a0]))),(34,.is (.bool true)),(39,.is (.bool false)),(43,.is (.bool bo)),(46,wH g p e3),(50,.bin (.bool false)),(54,.call (.bool b4)),(56,wH g p e4),(60,.bin (.bool true)),(66,wH g p e5),(70,.nils 9 1),(75,.bin (.bool true)),(83,.bin (.bool false)),(91,.callG (txG [7] 0 1 8 (some g) (tx++lnB (rF r [a0,kMeter,r.meter])) e5 (.tuple #[])))]) [] (by kernel_rfl) Tryz.func74 rfl (Nat.le_of_ble_eq_true rfl) ?_
 exact Eq.mp (by kernel_rfl) (Sx.t8 c11 c12 c16 c21 c22 c27 c34 c39 (Sx.t8 c43 c46 c50 c54 c56 c60 c66 c72 (Sx.t4 c75 c80 c83 c91 z0)))
theorem rw1c11{a0:Bs}(h:Tx w g p A c tx e)(H:RuIn w g p A tx r b1 b2 b4 b5 bo ck e e1 e2 e3 e4 e5)(ha:actWs r.act r.out=[a0])(hg:r.out≥0)(hz:¬r.out=0)(hb:bo=decide (r.act=3))(hm:decide (r.meter=[])=false)(hi:decide (r.mirror=[])=false)(hle:TxF tx (rF r [a0,kMeter,r.meter,kMirror,r.mirror])):RlT w g A tx r (rF r [a0,kMeter,r.meter,kMirror,r.mirror]) e5:=by
 have c11:=H.c11;have c16:=H.c16;have c21:=H.c21
 have c34:Value.bool (decide (r.out≥0))=.bool true:=bzt (decide_eq_true hg)
 have c39:Value.bool (r.out==0)=.bool false:=bzf (beq_eq_false_iff_ne.2 hz)
 have c43:Value.bool (r.act==3)=.bool bo:=by rw[hb];rfl
 have c50:=se 49 hm;have c60:=se 59 hi
 have c54:=H.c54 (of_decide_eq_false hm)
 have c64:=H.c64 (of_decide_eq_false hi)
 have c75:=sn (b:=true) 74 hm;have c83:=sn (b:=true) 82 hi
 have c12:=wantRl w g p A tx r 3 [] H.h1
 have c22:=wantRl w g p A tx r 3 [] H.h2
 have c27:=fun W β (hS:Sx.See (txB w g A) β W (Sx.rowAt (rL g p tx r e2 [])) [])=>act_some (m:=3) ha (by simp) H.o0 H.o1 H.hl W β hS
 have c46:=wantRl w g p A tx r 4 [⟨9,.vals (strs [a0])⟩] H.h3
 have c56:=wantRl w g p A tx r 4 [⟨9,.vals (strs [a0])⟩] H.h4
 have c66:=wantRl w g p A tx r 4 [⟨9,.vals (strs [a0])⟩] H.h5
 have c72:=app_st [a0] 4 1 rfl (by decide)
 have c80:=app_st [kMeter,r.meter] 5 2 rfl (by decide)
 have c88:=app_st [kMirror,r.mirror] 7 2 rfl (by decide)
 have c91:=lineRl w g p A tx r e5 [⟨9,.vals (strs [a0])⟩,Sx.deadRow,Sx.deadRow,⟨9,.vals (strs [kMeter,r.meter])⟩,Sx.deadRow,⟨9,.vals (strs [kMirror,r.mirror])⟩,⟨9,.own 1 9 (strs (rF r [a0,kMeter,r.meter,kMirror,r.mirror]))⟩] 9 10 (rF r [a0,kMeter,r.meter,kMirror,r.mirror]) (by omega) rfl (by simp) hle
 have z0:TxR0 g (tx++lnB (rF r [a0,kMeter,r.meter,kMirror,r.mirror])) e5 [] (rD g 10 tx (lnB (rF r [a0,kMeter,r.meter,kMirror,r.mirror])) r e5 [⟨9,.vals (strs [a0])⟩,Sx.deadRow,Sx.deadRow,⟨9,.vals (strs [kMeter,r.meter])⟩,Sx.deadRow,⟨9,.vals (strs [kMirror,r.mirror])⟩,⟨9,.own 1 9 (strs (rF r [a0,kMeter,r.meter,kMirror,r.mirror]))⟩]):=⟨10,rfl,rfl,rfl⟩
 refine tx_walk [.agg r.cells.toArray] h (rlH g p r b1 b2 ck e1 e2 [(27,.callG (actG 3 1 (strs [a0]))),(34,.is (.bool true)),(39,.is (.bool false)),(43,.is (.bool bo)),(46,wH g p e3),(50,.bin (.bool false)),(54,.call (.bool b4)),(56,wH g p e4),(60,.bin (.bool false)),(64,.call (.bool b5)),(66,wH g p e5),(70,.nils 9 1),(75,.bin (.bool true)),(83,.bin (.bool true)),(91,.callG (txG [9] 0 1 10 (some g) (tx++lnB (rF r [a0,kMeter,r.meter,kMirror,r.mirror])) e5 (.tuple #[])))]) [] (by kernel_rfl) Tryz.func74 rfl (Nat.le_of_ble_eq_true rfl) ?_
 exact Eq.mp (by kernel_rfl) (Sx.t8 c11 c12 c16 c21 c22 c27 c34 c39 (Sx.t8 c43 c46 c50 c54 c56 c60 c64 c66 (Sx.t4 c72 c75 c80 c83 (Sx.t2 c88 c91 z0))))
theorem rw2a00{a0 a1:Bs}(h:Tx w g p A c tx e)(H:RuIn w g p A tx r b1 b2 true true false ck e e1 e2 e3 e4 e5)(ha:actWs r.act r.out=[a0,a1])(hg:¬r.out≥0)(hm:decide (r.meter=[])=true)(hi:decide (r.mirror=[])=true)(hle:TxF tx (rF r [a0,a1])):RlT w g A tx r (rF r [a0,a1]) e5:=by
 have c11:=H.c11;have c16:=H.c16;have c21:=H.c21
 have c34:Value.bool (decide (r.out≥0))=.bool false:=bzf (decide_eq_false hg)
 have c50:=se 49 hm;have c60:=se 59 hi
 have c75:=sn (b:=false) 74 hm;have c83:=sn (b:=false) 82 hi
 have c12:=wantRl w g p A tx r 3 [] H.h1
 have c22:=wantRl w g p A tx r 3 [] H.h2
 have c27:=fun W β (hS:Sx.See (txB w g A) β W (Sx.rowAt (rL g p tx r e2 [])) [])=>act_some (m:=3) ha (by simp) H.o0 H.o1 H.hl W β hS
 have c46:=wantRl w g p A tx r 4 [⟨9,.vals (strs [a0,a1])⟩] H.h3
 have c56:=wantRl w g p A tx r 4 [⟨9,.vals (strs [a0,a1])⟩] H.h4
 have c66:=wantRl w g p A tx r 4 [⟨9,.vals (strs [a0,a1])⟩] H.h5
 have c72:=app_st [a0,a1] 4 2 rfl (by decide)
 have c91:=lineRl w g p A tx r e5 [⟨9,.vals (strs [a0,a1])⟩,Sx.deadRow,⟨9,.own 1 6 (strs (rF r [a0,a1]))⟩] 5 6 (rF r [a0,a1]) (by omega) rfl (by simp) hle
 have z0:TxR0 g (tx++lnB (rF r [a0,a1])) e5 [] (rD g 6 tx (lnB (rF r [a0,a1])) r e5 [⟨9,.vals (strs [a0,a1])⟩,Sx.deadRow,⟨9,.own 1 6 (strs (rF r [a0,a1]))⟩]):=⟨6,rfl,rfl,rfl⟩
 refine tx_walk [.agg r.cells.toArray] h (rlH g p r b1 b2 ck e1 e2 [(27,.callG (actG 3 2 (strs [a0,a1]))),(34,.is (.bool false)),(46,wH g p e3),(50,.bin (.bool true)),(56,wH g p e4),(60,.bin (.bool true)),(66,wH g p e5),(70,.nils 9 1),(75,.bin (.bool false)),(83,.bin (.bool false)),(91,.callG (txG [5] 0 1 6 (some g) (tx++lnB (rF r [a0,a1])) e5 (.tuple #[])))]) [] (by kernel_rfl) Tryz.func74 rfl (Nat.le_of_ble_eq_true rfl) ?_
 exact Eq.mp (by kernel_rfl) (Sx.t8 c11 c12 c16 c21 c22 c27 c34 c46 (Sx.t8 c50 c56 c60 c66 c72 c75 c83 c91 z0))
theorem rw2a01{a0 a1:Bs}(h:Tx w g p A c tx e)(H:RuIn w g p A tx r b1 b2 true b5 false ck e e1 e2 e3 e4 e5)(ha:actWs r.act r.out=[a0,a1])(hg:¬r.out≥0)(hm:decide (r.meter=[])=true)(hi:decide (r.mirror=[])=false)(hle:TxF tx (rF r [a0,a1,kMirror,r.mirror])):RlT w g A tx r (rF r [a0,a1,kMirror,r.mirror]) e5:=by
 have c11:=H.c11;have c16:=H.c16;have c21:=H.c21
 have c34:Value.bool (decide (r.out≥0))=.bool false:=bzf (decide_eq_false hg)
 have c50:=se 49 hm;have c60:=se 59 hi
 have c64:=H.c64 (of_decide_eq_false hi)
 have c75:=sn (b:=false) 74 hm;have c83:=sn (b:=true) 82 hi
 have c12:=wantRl w g p A tx r 3 [] H.h1
 have c22:=wantRl w g p A tx r 3 [] H.h2
 have c27:=fun W β (hS:Sx.See (txB w g A) β W (Sx.rowAt (rL g p tx r e2 [])) [])=>act_some (m:=3) ha (by simp) H.o0 H.o1 H.hl W β hS
 have c46:=wantRl w g p A tx r 4 [⟨9,.vals (strs [a0,a1])⟩] H.h3
 have c56:=wantRl w g p A tx r 4 [⟨9,.vals (strs [a0,a1])⟩] H.h4
 have c66:=wantRl w g p A tx r 4 [⟨9,.vals (strs [a0,a1])⟩] H.h5
 have c72:=app_st [a0,a1] 4 2 rfl (by decide)
 have c88:=app_st [kMirror,r.mirror] 6 2 rfl (by decide)
 have c91:=lineRl w g p A tx r e5 [⟨9,.vals (strs [a0,a1])⟩,Sx.deadRow,Sx.deadRow,⟨9,.vals (strs [kMirror,r.mirror])⟩,⟨9,.own 1 8 (strs (rF r [a0,a1,kMirror,r.mirror]))⟩] 7 8 (rF r [a0,a1,kMirror,r.mirror]) (by omega) rfl (by simp) hle
 have z0:TxR0 g (tx++lnB (rF r [a0,a1,kMirror,r.mirror])) e5 [] (rD g 8 tx (lnB (rF r [a0,a1,kMirror,r.mirror])) r e5 [⟨9,.vals (strs [a0,a1])⟩,Sx.deadRow,Sx.deadRow,⟨9,.vals (strs [kMirror,r.mirror])⟩,⟨9,.own 1 8 (strs (rF r [a0,a1,kMirror,r.mirror]))⟩]):=⟨8,rfl,rfl,rfl⟩
 refine tx_walk [.agg r.cells.toArray] h (rlH g p r b1 b2 ck e1 e2 [(27,.callG (actG 3 2 (strs [a0,a1]))),(34,.is (.bool false)),(46,wH g p e3),(50,.bin (.bool true)),(56,wH g p e4),(60,.bin (.bool false)),(64,.call (.bool b5)),(66,wH g p e5),(70,.nils 9 1),(75,.bin (.bool false)),(83,.bin (.bool true)),(91,.callG (txG [7] 0 1 8 (some g) (tx++lnB (rF r [a0,a1,kMirror,r.mirror])) e5 (.tuple #[])))]) [] (by kernel_rfl) Tryz.func74 rfl (Nat.le_of_ble_eq_true rfl) ?_
 exact Eq.mp (by kernel_rfl) (Sx.t8 c11 c12 c16 c21 c22 c27 c34 c46 (Sx.t8 c50 c56 c60 c64 c66 c72 c75 c83 (Sx.t2 c88 c91 z0)))
theorem rw2a10{a0 a1:Bs}(h:Tx w g p A c tx e)(H:RuIn w g p A tx r b1 b2 b4 true false ck e e1 e2 e3 e4 e5)(ha:actWs r.act r.out=[a0,a1])(hg:¬r.out≥0)(hm:decide (r.meter=[])=false)(hi:decide (r.mirror=[])=true)(hle:TxF tx (rF r [a0,a1,kMeter,r.meter])):RlT w g A tx r (rF r [a0,a1,kMeter,r.meter]) e5:=by
 have c11:=H.c11;have c16:=H.c16;have c21:=H.c21
 have c34:Value.bool (decide (r.out≥0))=.bool false:=bzf (decide_eq_false hg)
 have c50:=se 49 hm;have c60:=se 59 hi
 have c54:=H.c54 (of_decide_eq_false hm)
 have c75:=sn (b:=true) 74 hm;have c83:=sn (b:=false) 82 hi
 have c12:=wantRl w g p A tx r 3 [] H.h1
 have c22:=wantRl w g p A tx r 3 [] H.h2
 have c27:=fun W β (hS:Sx.See (txB w g A) β W (Sx.rowAt (rL g p tx r e2 [])) [])=>act_some (m:=3) ha (by simp) H.o0 H.o1 H.hl W β hS
 have c46:=wantRl w g p A tx r 4 [⟨9,.vals (strs [a0,a1])⟩] H.h3
 have c56:=wantRl w g p A tx r 4 [⟨9,.vals (strs [a0,a1])⟩] H.h4
 have c66:=wantRl w g p A tx r 4 [⟨9,.vals (strs [a0,a1])⟩] H.h5
 have c72:=app_st [a0,a1] 4 2 rfl (by decide)
 have c80:=app_st [kMeter,r.meter] 6 2 rfl (by decide)
 have c91:=lineRl w g p A tx r e5 [⟨9,.vals (strs [a0,a1])⟩,Sx.deadRow,Sx.deadRow,⟨9,.vals (strs [kMeter,r.meter])⟩,⟨9,.own 1 8 (strs (rF r [a0,a1,kMeter,r.meter]))⟩] 7 8 (rF r [a0,a1,kMeter,r.meter]) (by omega) rfl (by simp) hle
 have z0:TxR0 g (tx++lnB (rF r [a0,a1,kMeter,r.meter])) e5 [] (rD g 8 tx (lnB (rF r [a0,a1,kMeter,r.meter])) r e5 [⟨9,.vals (strs [a0,a1])⟩,Sx.deadRow,Sx.deadRow,⟨9,.vals (strs [kMeter,r.meter])⟩,⟨9,.own 1 8 (strs (rF r [a0,a1,kMeter,r.meter]))⟩]):=⟨8,rfl,rfl,rfl⟩
 refine tx_walk [.agg r.cells.toArray] h (rlH g p r b1 b2 ck e1 e2 [(27,.callG (actG 3 2 (strs [a0,a1]))),(34,.is (.bool false)),(46,wH g p e3),(50,.bin (.bool false)),(54,.call (.bool b4)),(56,wH g p e4),(60,.bin (.bool true)),(66,wH g p e5),(70,.nils 9 1),(75,.bin (.bool true)),(83,.bin (.bool false)),(91,.callG (txG [7] 0 1 8 (some g) (tx++lnB (rF r [a0,a1,kMeter,r.meter])) e5 (.tuple #[])))]) [] (by kernel_rfl) Tryz.func74 rfl (Nat.le_of_ble_eq_true rfl) ?_
 exact Eq.mp (by kernel_rfl) (Sx.t8 c11 c12 c16 c21 c22 c27 c34 c46 (Sx.t8 c50 c54 c56 c60 c66 c72 c75 c80 (Sx.t2 c83 c91 z0)))
theorem rw2a11{a0 a1:Bs}(h:Tx w g p A c tx e)(H:RuIn w g p A tx r b1 b2 b4 b5 false ck e e1 e2 e3 e4 e5)(ha:actWs r.act r.out=[a0,a1])(hg:¬r.out≥0)(hm:decide (r.meter=[])=false)(hi:decide (r.mirror=[])=false)(hle:TxF tx (rF r [a0,a1,kMeter,r.meter,kMirror,r.mirror])):RlT w g A tx r (rF r [a0,a1,kMeter,r.meter,kMirror,r.mirror]) e5:=by
 have c11:=H.c11;have c16:=H.c16;have c21:=H.c21
 have c34:Value.bool (decide (r.out≥0))=.bool false:=bzf (decide_eq_false hg)
 have c50:=se 49 hm;have c60:=se 59 hi
 have c54:=H.c54 (of_decide_eq_false hm)
 have c64:=H.c64 (of_decide_eq_false hi)
 have c75:=sn (b:=true) 74 hm;have c83:=sn (b:=true) 82 hi
 have c12:=wantRl w g p A tx r 3 [] H.h1
 have c22:=wantRl w g p A tx r 3 [] H.h2
 have c27:=fun W β (hS:Sx.See (txB w g A) β W (Sx.rowAt (rL g p tx r e2 [])) [])=>act_some (m:=3) ha (by simp) H.o0 H.o1 H.hl W β hS
 have c46:=wantRl w g p A tx r 4 [⟨9,.vals (strs [a0,a1])⟩] H.h3
 have c56:=wantRl w g p A tx r 4 [⟨9,.vals (strs [a0,a1])⟩] H.h4
 have c66:=wantRl w g p A tx r 4 [⟨9,.vals (strs [a0,a1])⟩] H.h5
 have c72:=app_st [a0,a1] 4 2 rfl (by decide)
 have c80:=app_st [kMeter,r.meter] 6 2 rfl (by decide)
 have c88:=app_st [kMirror,r.mirror] 8 2 rfl (by decide)
 have c91:=lineRl w g p A tx r e5 [⟨9,.vals (strs [a0,a1])⟩,Sx.deadRow,Sx.deadRow,⟨9,.vals (strs [kMeter,r.meter])⟩,Sx.deadRow,⟨9,.vals (strs [kMirror,r.mirror])⟩,⟨9,.own 1 10 (strs (rF r [a0,a1,kMeter,r.meter,kMirror,r.mirror]))⟩] 9 10 (rF r [a0,a1,kMeter,r.meter,kMirror,r.mirror]) (by omega) rfl (by simp) hle
 have z0:TxR0 g (tx++lnB (rF r [a0,a1,kMeter,r.meter,kMirror,r.mirror])) e5 [] (rD g 10 tx (lnB (rF r [a0,a1,kMeter,r.meter,kMirror,r.mirror])) r e5 [⟨9,.vals (strs [a0,a1])⟩,Sx.deadRow,Sx.deadRow,⟨9,.vals (strs [kMeter,r.meter])⟩,Sx.deadRow,⟨9,.vals (strs [kMirror,r.mirror])⟩,⟨9,.own 1 10 (strs (rF r [a0,a1,kMeter,r.meter,kMirror,r.mirror]))⟩]):=⟨10,rfl,rfl,rfl⟩
 refine tx_walk [.agg r.cells.toArray] h (rlH g p r b1 b2 ck e1 e2 [(27,.callG (actG 3 2 (strs [a0,a1]))),(34,.is (.bool false)),(46,wH g p e3),(50,.bin (.bool false)),(54,.call (.bool b4)),(56,wH g p e4),(60,.bin (.bool false)),(64,.call (.bool b5)),(66,wH g p e5),(70,.nils 9 1),(75,.bin (.bool true)),(83,.bin (.bool true)),(91,.callG (txG [9] 0 1 10 (some g) (tx++lnB (rF r [a0,a1,kMeter,r.meter,kMirror,r.mirror])) e5 (.tuple #[])))]) [] (by kernel_rfl) Tryz.func74 rfl (Nat.le_of_ble_eq_true rfl) ?_
 exact Eq.mp (by kernel_rfl) (Sx.t8 c11 c12 c16 c21 c22 c27 c34 c46 (Sx.t8 c50 c54 c56 c60 c64 c66 c72 c75 (Sx.t4 c80 c83 c88 c91 z0)))
theorem rw2b00{a0 a1:Bs}(h:Tx w g p A c tx e)(H:RuIn w g p A tx r b1 b2 true true true ck e e1 e2 e3 e4 e5)(ha:actWs r.act r.out=[a0,a1])(hg:r.out≥0)(hz:r.out=0)(hm:decide (r.meter=[])=true)(hi:decide (r.mirror=[])=true)(hle:TxF tx (rF r [a0,a1])):RlT w g A tx r (rF r [a0,a1]) e5:=by
 have c11:=H.c11;have c16:=H.c16;have c21:=H.c21
 have c34:Value.bool (decide (r.out≥0))=.bool true:=bzt (decide_eq_true hg)
 have c39:Value.bool (r.out==0)=.bool true:=bzt (by rw[hz];rfl)
 have c50:=se 49 hm;have c60:=se 59 hi
 have c75:=sn (b:=false) 74 hm;have c83:=sn (b:=false) 82 hi
 have c12:=wantRl w g p A tx r 3 [] H.h1
 have c22:=wantRl w g p A tx r 3 [] H.h2
 have c27:=fun W β (hS:Sx.See (txB w g A) β W (Sx.rowAt (rL g p tx r e2 [])) [])=>act_some (m:=3) ha (by simp) H.o0 H.o1 H.hl W β hS
 have c46:=wantRl w g p A tx r 4 [⟨9,.vals (strs [a0,a1])⟩] H.h3
 have c56:=wantRl w g p A tx r 4 [⟨9,.vals (strs [a0,a1])⟩] H.h4
 have c66:=wantRl w g p A tx r 4 [⟨9,.vals (strs [a0,a1])⟩] H.h5
 have c72:=app_st [a0,a1] 4 2 rfl (by decide)
 have c91:=lineRl w g p A tx r e5 [⟨9,.vals (strs [a0,a1])⟩,Sx.deadRow,⟨9,.own 1 6 (strs (rF r [a0,a1]))⟩] 5 6 (rF r [a0,a1]) (by omega) rfl (by simp) hle
 have z0:TxR0 g (tx++lnB (rF r [a0,a1])) e5 [] (rD g 6 tx (lnB (rF r [a0,a1])) r e5 [⟨9,.vals (strs [a0,a1])⟩,Sx.deadRow,⟨9,.own 1 6 (strs (rF r [a0,a1]))⟩]):=⟨6,rfl,rfl,rfl⟩
 refine tx_walk [.agg r.cells.toArray] h (rlH g p r b1 b2 ck e1 e2 [(27,.callG (actG 3 2 (strs [a0,a1]))),(34,.is (.bool true)),(39,.is (.bool true)),(46,wH g p e3),(50,.bin (.bool true)),(56,wH g p e4),(60,.bin (.bool true)),(66,wH g p e5),(70,.nils 9 1),(75,.bin (.bool false)),(83,.bin (.bool false)),(91,.callG (txG [5] 0 1 6 (some g) (tx++lnB (rF r [a0,a1])) e5 (.tuple #[])))]) [] (by kernel_rfl) Tryz.func74 rfl (Nat.le_of_ble_eq_true rfl) ?_
 exact Eq.mp (by kernel_rfl) (Sx.t8 c11 c12 c16 c21 c22 c27 c34 c39 (Sx.t8 c46 c50 c56 c60 c66 c72 c75 c83 (And.intro c91 z0)))
theorem rw2b01{a0 a1:Bs}(h:Tx w g p A c tx e)(H:RuIn w g p A tx r b1 b2 true b5 true ck e e1 e2 e3 e4 e5)(ha:actWs r.act r.out=[a0,a1])(hg:r.out≥0)(hz:r.out=0)(hm:decide (r.meter=[])=true)(hi:decide (r.mirror=[])=false)(hle:TxF tx (rF r [a0,a1,kMirror,r.mirror])):RlT w g A tx r (rF r [a0,a1,kMirror,r.mirror]) e5:=by
 have c11:=H.c11;have c16:=H.c16;have c21:=H.c21
 have c34:Value.bool (decide (r.out≥0))=.bool true:=bzt (decide_eq_true hg)
 have c39:Value.bool (r.out==0)=.bool true:=bzt (by rw[hz];rfl)
 have c50:=se 49 hm;have c60:=se 59 hi
 have c64:=H.c64 (of_decide_eq_false hi)
 have c75:=sn (b:=false) 74 hm;have c83:=sn (b:=true) 82 hi
 have c12:=wantRl w g p A tx r 3 [] H.h1
 have c22:=wantRl w g p A tx r 3 [] H.h2
 have c27:=fun W β (hS:Sx.See (txB w g A) β W (Sx.rowAt (rL g p tx r e2 [])) [])=>act_some (m:=3) ha (by simp) H.o0 H.o1 H.hl W β hS
 have c46:=wantRl w g p A tx r 4 [⟨9,.vals (strs [a0,a1])⟩] H.h3
 have c56:=wantRl w g p A tx r 4 [⟨9,.vals (strs [a0,a1])⟩] H.h4
 have c66:=wantRl w g p A tx r 4 [⟨9,.vals (strs [a0,a1])⟩] H.h5
 have c72:=app_st [a0,a1] 4 2 rfl (by decide)
 have c88:=app_st [kMirror,r.mirror] 6 2 rfl (by decide)
 have c91:=lineRl w g p A tx r e5 [⟨9,.vals (strs [a0,a1])⟩,Sx.deadRow,Sx.deadRow,⟨9,.vals (strs [kMirror,r.mirror])⟩,⟨9,.own 1 8 (strs (rF r [a0,a1,kMirror,r.mirror]))⟩] 7 8 (rF r [a0,a1,kMirror,r.mirror]) (by omega) rfl (by simp) hle
 have z0:TxR0 g (tx++lnB (rF r [a0,a1,kMirror,r.mirror])) e5 [] (rD g 8 tx (lnB (rF r [a0,a1,kMirror,r.mirror])) r e5 [⟨9,.vals (strs [a0,a1])⟩,Sx.deadRow,Sx.deadRow,⟨9,.vals (strs [kMirror,r.mirror])⟩,⟨9,.own 1 8 (strs (rF r [a0,a1,kMirror,r.mirror]))⟩]):=⟨8,rfl,rfl,rfl⟩
 refine tx_walk [.agg r.cells.toArray] h (rlH g p r b1 b2 ck e1 e2 [(27,.callG (actG 3 2 (strs [a0,a1]))),(34,.is (.bool true)),(39,.is (.bool true)),(46,wH g p e3),(50,.bin (.bool true)),(56,wH g p e4),(60,.bin (.bool false)),(64,.call (.bool b5)),(66,wH g p e5),(70,.nils 9 1),(75,.bin (.bool false)),(83,.bin (.bool true)),(91,.callG (txG [7] 0 1 8 (some g) (tx++lnB (rF r [a0,a1,kMirror,r.mirror])) e5 (.tuple #[])))]) [] (by kernel_rfl) Tryz.func74 rfl (Nat.le_of_ble_eq_true rfl) ?_
 exact Eq.mp (by kernel_rfl) (Sx.t8 c11 c12 c16 c21 c22 c27 c34 c39 (Sx.t8 c46 c50 c56 c60 c64 c66 c72 c75 (Sx.t2 c83 c88 (And.intro c91 z0))))
theorem rw2b10{a0 a1:Bs}(h:Tx w g p A c tx e)(H:RuIn w g p A tx r b1 b2 b4 true true ck e e1 e2 e3 e4 e5)(ha:actWs r.act r.out=[a0,a1])(hg:r.out≥0)(hz:r.out=0)(hm:decide (r.meter=[])=false)(hi:decide (r.mirror=[])=true)(hle:TxF tx (rF r [a0,a1,kMeter,r.meter])):RlT w g A tx r (rF r [a0,a1,kMeter,r.meter]) e5:=by
 have c11:=H.c11;have c16:=H.c16;have c21:=H.c21
 have c34:Value.bool (decide (r.out≥0))=.bool true:=bzt (decide_eq_true hg)
 have c39:Value.bool (r.out==0)=.bool true:=bzt (by rw[hz];rfl)
 have c50:=se 49 hm;have c60:=se 59 hi
 have c54:=H.c54 (of_decide_eq_false hm)
 have c75:=sn (b:=true) 74 hm;have c83:=sn (b:=false) 82 hi
 have c12:=wantRl w g p A tx r 3 [] H.h1
 have c22:=wantRl w g p A tx r 3 [] H.h2
 have c27:=fun W β (hS:Sx.See (txB w g A) β W (Sx.rowAt (rL g p tx r e2 [])) [])=>act_some (m:=3) ha (by simp) H.o0 H.o1 H.hl W β hS
 have c46:=wantRl w g p A tx r 4 [⟨9,.vals (strs [a0,a1])⟩] H.h3
 have c56:=wantRl w g p A tx r 4 [⟨9,.vals (strs [a0,a1])⟩] H.h4
 have c66:=wantRl w g p A tx r 4 [⟨9,.vals (strs [a0,a1])⟩] H.h5
 have c72:=app_st [a0,a1] 4 2 rfl (by decide)
 have c80:=app_st [kMeter,r.meter] 6 2 rfl (by decide)
 have c91:=lineRl w g p A tx r e5 [⟨9,.vals (strs [a0,a1])⟩,Sx.deadRow,Sx.deadRow,⟨9,.vals (strs [kMeter,r.meter])⟩,⟨9,.own 1 8 (strs (rF r [a0,a1,kMeter,r.meter]))⟩] 7 8 (rF r [a0,a1,kMeter,r.meter]) (by omega) rfl (by simp) hle
 have z0:TxR0 g (tx++lnB (rF r [a0,a1,kMeter,r.meter])) e5 [] (rD g 8 tx (lnB (rF r [a0,a1,kMeter,r.meter])) r e5 [⟨9,.vals (strs [a0,a1])⟩,Sx.deadRow,Sx.deadRow,⟨9,.vals (strs [kMeter,r.meter])⟩,⟨9,.own 1 8 (strs (rF r [a0,a1,kMeter,r.meter]))⟩]):=⟨8,rfl,rfl,rfl⟩
 refine tx_walk [.agg r.cells.toArray] h (rlH g p r b1 b2 ck e1 e2 [(27,.callG (actG 3 2 (strs [a0,a1]))),(34,.is (.bool true)),(39,.is (.bool true)),(46,wH g p e3),(50,.bin (.bool false)),(54,.call (.bool b4)),(56,wH g p e4),(60,.bin (.bool true)),(66,wH g p e5),(70,.nils 9 1),(75,.bin (.bool true)),(83,.bin (.bool false)),(91,.callG (txG [7] 0 1 8 (some g) (tx++lnB (rF r [a0,a1,kMeter,r.meter])) e5 (.tuple #[])))]) [] (by kernel_rfl) Tryz.func74 rfl (Nat.le_of_ble_eq_true rfl) ?_
 exact Eq.mp (by kernel_rfl) (Sx.t8 c11 c12 c16 c21 c22 c27 c34 c39 (Sx.t8 c46 c50 c54 c56 c60 c66 c72 c75 (Sx.t2 c80 c83 (And.intro c91 z0))))
theorem rw2b11{a0 a1:Bs}(h:Tx w g p A c tx e)(H:RuIn w g p A tx r b1 b2 b4 b5 true ck e e1 e2 e3 e4 e5)(ha:actWs r.act r.out=[a0,a1])(hg:r.out≥0)(hz:r.out=0)(hm:decide (r.meter=[])=false)(hi:decide (r.mirror=[])=false)(hle:TxF tx (rF r [a0,a1,kMeter,r.meter,kMirror,r.mirror])):RlT w g A tx r (rF r [a0,a1,kMeter,r.meter,kMirror,r.mirror]) e5:=by
 have c11:=H.c11;have c16:=H.c16;have c21:=H.c21
 have c34:Value.bool (decide (r.out≥0))=.bool true:=bzt (decide_eq_true hg)
 have c39:Value.bool (r.out==0)=.bool true:=bzt (by rw[hz];rfl)
 have c50:=se 49 hm;have c60:=se 59 hi
 have c54:=H.c54 (of_decide_eq_false hm)
 have c64:=H.c64 (of_decide_eq_false hi)
 have c75:=sn (b:=true) 74 hm;have c83:=sn (b:=true) 82 hi
 have c12:=wantRl w g p A tx r 3 [] H.h1
 have c22:=wantRl w g p A tx r 3 [] H.h2
 have c27:=fun W β (hS:Sx.See (txB w g A) β W (Sx.rowAt (rL g p tx r e2 [])) [])=>act_some (m:=3) ha (by simp) H.o0 H.o1 H.hl W β hS
 have c46:=wantRl w g p A tx r 4 [⟨9,.vals (strs [a0,a1])⟩] H.h3
 have c56:=wantRl w g p A tx r 4 [⟨9,.vals (strs [a0,a1])⟩] H.h4
 have c66:=wantRl w g p A tx r 4 [⟨9,.vals (strs [a0,a1])⟩] H.h5
 have c72:=app_st [a0,a1] 4 2 rfl (by decide)
 have c80:=app_st [kMeter,r.meter] 6 2 rfl (by decide)
 have c88:=app_st [kMirror,r.mirror] 8 2 rfl (by decide)
 have c91:=lineRl w g p A tx r e5 [⟨9,.vals (strs [a0,a1])⟩,Sx.deadRow,Sx.deadRow,⟨9,.vals (strs [kMeter,r.meter])⟩,Sx.deadRow,⟨9,.vals (strs [kMirror,r.mirror])⟩,⟨9,.own 1 10 (strs (rF r [a0,a1,kMeter,r.meter,kMirror,r.mirror]))⟩] 9 10 (rF r [a0,a1,kMeter,r.meter,kMirror,r.mirror]) (by omega) rfl (by simp) hle
 have z0:TxR0 g (tx++lnB (rF r [a0,a1,kMeter,r.meter,kMirror,r.mirror])) e5 [] (rD g 10 tx (lnB (rF r [a0,a1,kMeter,r.meter,kMirror,r.mirror])) r e5 [⟨9,.vals (strs [a0,a1])⟩,Sx.deadRow,Sx.deadRow,⟨9,.vals (strs [kMeter,r.meter])⟩,Sx.deadRow,⟨9,.vals (strs [kMirror,r.mirror])⟩,⟨9,.own 1 10 (strs (rF r [a0,a1,kMeter,r.meter,kMirror,r.mirror]))⟩]):=⟨10,rfl,rfl,rfl⟩
 refine tx_walk [.agg r.cells.toArray] h (rlH g p r b1 b2 ck e1 e2 [(27,.callG (actG 3 2 (strs [a0,a1]))),(34,.is (.bool true)),(39,.is (.bool true)),(46,wH g p e3),(50,.bin (.bool false)),(54,.call (.bool b4)),(56,wH g p e4),(60,.bin (.bool false)),(64,.call (.bool b5)),(66,wH g p e5),(70,.nils 9 1),(75,.bin (.bool true)),(83,.bin (.bool true)),(91,.callG (txG [9] 0 1 10 (some g) (tx++lnB (rF r [a0,a1,kMeter,r.meter,kMirror,r.mirror])) e5 (.tuple #[])))]) [] (by kernel_rfl) Tryz.func74 rfl (Nat.le_of_ble_eq_true rfl) ?_
 exact Eq.mp (by kernel_rfl) (Sx.t8 c11 c12 c16 c21 c22 c27 c34 c39 (Sx.t8 c46 c50 c54 c56 c60 c64 c66 c72 (Sx.t4 c75 c80 c83 c88 (And.intro c91 z0))))
theorem rw2c00{a0 a1:Bs}(h:Tx w g p A c tx e)(H:RuIn w g p A tx r b1 b2 true true bo ck e e1 e2 e3 e4 e5)(ha:actWs r.act r.out=[a0,a1])(hg:r.out≥0)(hz:¬r.out=0)(hb:bo=decide (r.act=3))(hm:decide (r.meter=[])=true)(hi:decide (r.mirror=[])=true)(hle:TxF tx (rF r [a0,a1])):RlT w g A tx r (rF r [a0,a1]) e5:=by
 have c11:=H.c11;have c16:=H.c16;have c21:=H.c21
 have c34:Value.bool (decide (r.out≥0))=.bool true:=bzt (decide_eq_true hg)
 have c39:Value.bool (r.out==0)=.bool false:=bzf (beq_eq_false_iff_ne.2 hz)
 have c43:Value.bool (r.act==3)=.bool bo:=by rw[hb];rfl
 have c50:=se 49 hm;have c60:=se 59 hi
 have c75:=sn (b:=false) 74 hm;have c83:=sn (b:=false) 82 hi
 have c12:=wantRl w g p A tx r 3 [] H.h1
 have c22:=wantRl w g p A tx r 3 [] H.h2
 have c27:=fun W β (hS:Sx.See (txB w g A) β W (Sx.rowAt (rL g p tx r e2 [])) [])=>act_some (m:=3) ha (by simp) H.o0 H.o1 H.hl W β hS
 have c46:=wantRl w g p A tx r 4 [⟨9,.vals (strs [a0,a1])⟩] H.h3
 have c56:=wantRl w g p A tx r 4 [⟨9,.vals (strs [a0,a1])⟩] H.h4
 have c66:=wantRl w g p A tx r 4 [⟨9,.vals (strs [a0,a1])⟩] H.h5
 have c72:=app_st [a0,a1] 4 2 rfl (by decide)
 have c91:=lineRl w g p A tx r e5 [⟨9,.vals (strs [a0,a1])⟩,Sx.deadRow,⟨9,.own 1 6 (strs (rF r [a0,a1]))⟩] 5 6 (rF r [a0,a1]) (by omega) rfl (by simp) hle
 have z0:TxR0 g (tx++lnB (rF r [a0,a1])) e5 [] (rD g 6 tx (lnB (rF r [a0,a1])) r e5 [⟨9,.vals (strs [a0,a1])⟩,Sx.deadRow,⟨9,.own 1 6 (strs (rF r [a0,a1]))⟩]):=⟨6,rfl,rfl,rfl⟩
 refine tx_walk [.agg r.cells.toArray] h (rlH g p r b1 b2 ck e1 e2 [(27,.callG (actG 3 2 (strs [a0,a1]))),(34,.is (.bool true)),(39,.is (.bool false)),(43,.is (.bool bo)),(46,wH g p e3),(50,.bin (.bool true)),(56,wH g p e4),(60,.bin (.bool true)),(66,wH g p e5),(70,.nils 9 1),(75,.bin (.bool false)),(83,.bin (.bool false)),(91,.callG (txG [5] 0 1 6 (some g) (tx++lnB (rF r [a0,a1])) e5 (.tuple #[])))]) [] (by kernel_rfl) Tryz.func74 rfl (Nat.le_of_ble_eq_true rfl) ?_
 exact Eq.mp (by kernel_rfl) (Sx.t8 c11 c12 c16 c21 c22 c27 c34 c39 (Sx.t8 c43 c46 c50 c56 c60 c66 c72 c75 (Sx.t2 c83 c91 z0)))
theorem rw2c01{a0 a1:Bs}(h:Tx w g p A c tx e)(H:RuIn w g p A tx r b1 b2 true b5 bo ck e e1 e2 e3 e4 e5)(ha:actWs r.act r.out=[a0,a1])(hg:r.out≥0)(hz:¬r.out=0)(hb:bo=decide (r.act=3))(hm:decide (r.meter=[])=true)(hi:decide (r.mirror=[])=false)(hle:TxF tx (rF r [a0,a1,kMirror,r.mirror])):RlT w g A tx r (rF r [a0,a1,kMirror,r.mirror]) e5:=by
 have c11:=H.c11;have c16:=H.c16;have c21:=H.c21
 have c34:Value.bool (decide (r.out≥0))=.bool true:=bzt (decide_eq_true hg)
 have c39:Value.bool (r.out==0)=.bool false:=bzf (beq_eq_false_iff_ne.2 hz)
 have c43:Value.bool (r.act==3)=.bool bo:=by rw[hb];rfl
 have c50:=se 49 hm;have c60:=se 59 hi
 have c64:=H.c64 (of_decide_eq_false hi)
 have c75:=sn (b:=false) 74 hm;have c83:=sn (b:=true) 82 hi
 have c12:=wantRl w g p A tx r 3 [] H.h1
 have c22:=wantRl w g p A tx r 3 [] H.h2
 have c27:=fun W β (hS:Sx.See (txB w g A) β W (Sx.rowAt (rL g p tx r e2 [])) [])=>act_some (m:=3) ha (by simp) H.o0 H.o1 H.hl W β hS
 have c46:=wantRl w g p A tx r 4 [⟨9,.vals (strs [a0,a1])⟩] H.h3
 have c56:=wantRl w g p A tx r 4 [⟨9,.vals (strs [a0,a1])⟩] H.h4
 have c66:=wantRl w g p A tx r 4 [⟨9,.vals (strs [a0,a1])⟩] H.h5
 have c72:=app_st [a0,a1] 4 2 rfl (by decide)
 have c88:=app_st [kMirror,r.mirror] 6 2 rfl (by decide)
 have c91:=lineRl w g p A tx r e5 [⟨9,.vals (strs [a0,a1])⟩,Sx.deadRow,Sx.deadRow,⟨9,.vals (strs [kMirror,r.mirror])⟩,⟨9,.own 1 8 (strs (rF r [a0,a1,kMirror,r.mirror]))⟩] 7 8 (rF r [a0,a1,kMirror,r.mirror]) (by omega) rfl (by simp) hle
 have z0:TxR0 g (tx++lnB (rF r [a0,a1,kMirror,r.mirror])) e5 [] (rD g 8 tx (lnB (rF r [a0,a1,kMirror,r.mirror])) r e5 [⟨9,.vals (strs [a0,a1])⟩,Sx.deadRow,Sx.deadRow,⟨9,.vals (strs [kMirror,r.mirror])⟩,⟨9,.own 1 8 (strs (rF r [a0,a1,kMirror,r.mirror]))⟩]):=⟨8,rfl,rfl,rfl⟩
 refine tx_walk [.agg r.cells.toArray] h (rlH g p r b1 b2 ck e1 e2 [(27,.callG (actG 3 2 (strs [a0,a1]))),(34,.is (.bool true)),(39,.is (.bool false)),(43,.is (.bool bo)),(46,wH g p e3),(50,.bin (.bool true)),(56,wH g p e4),(60,.bin (.bool false)),(64,.call (.bool b5)),(66,wH g p e5),(70,.nils 9 1),(75,.bin (.bool false)),(83,.bin (.bool true)),(91,.callG (txG [7] 0 1 8 (some g) (tx++lnB (rF r [a0,a1,kMirror,r.mirror])) e5 (.tuple #[])))]) [] (by kernel_rfl) Tryz.func74 rfl (Nat.le_of_ble_eq_true rfl) ?_
 exact Eq.mp (by kernel_rfl) (Sx.t8 c11 c12 c16 c21 c22 c27 c34 c39 (Sx.t8 c43 c46 c50 c56 c60 c64 c66 c72 (Sx.t4 c75 c83 c88 c91 z0)))
theorem rw2c10{a0 a1:Bs}(h:Tx w g p A c tx e)(H:RuIn w g p A tx r b1 b2 b4 true bo ck e e1 e2 e3 e4 e5)(ha:actWs r.act r.out=[a0,a1])(hg:r.out≥0)(hz:¬r.out=0)(hb:bo=decide (r.act=3))(hm:decide (r.meter=[])=false)(hi:decide (r.mirror=[])=true)(hle:TxF tx (rF r [a0,a1,kMeter,r.meter])):RlT w g A tx r (rF r [a0,a1,kMeter,r.meter]) e5:=by
 have c11:=H.c11;have c16:=H.c16;have c21:=H.c21
 have c34:Value.bool (decide (r.out≥0))=.bool true:=bzt (decide_eq_true hg)
 have c39:Value.bool (r.out==0)=.bool false:=bzf (beq_eq_false_iff_ne.2 hz)
 have c43:Value.bool (r.act==3)=.bool bo:=by rw[hb];rfl
 have c50:=se 49 hm;have c60:=se 59 hi
 have c54:=H.c54 (of_decide_eq_false hm)
 have c75:=sn (b:=true) 74 hm;have c83:=sn (b:=false) 82 hi
 have c12:=wantRl w g p A tx r 3 [] H.h1
 have c22:=wantRl w g p A tx r 3 [] H.h2
 have c27:=fun W β (hS:Sx.See (txB w g A) β W (Sx.rowAt (rL g p tx r e2 [])) [])=>act_some (m:=3) ha (by simp) H.o0 H.o1 H.hl W β hS
 have c46:=wantRl w g p A tx r 4 [⟨9,.vals (strs [a0,a1])⟩] H.h3
 have c56:=wantRl w g p A tx r 4 [⟨9,.vals (strs [a0,a1])⟩] H.h4
 have c66:=wantRl w g p A tx r 4 [⟨9,.vals (strs [a0,a1])⟩] H.h5
 have c72:=app_st [a0,a1] 4 2 rfl (by decide)
 have c80:=app_st [kMeter,r.meter] 6 2 rfl (by decide)
 have c91:=lineRl w g p A tx r e5 [⟨9,.vals (strs [a0,a1])⟩,Sx.deadRow,Sx.deadRow,⟨9,.vals (strs [kMeter,r.meter])⟩,⟨9,.own 1 8 (strs (rF r [a0,a1,kMeter,r.meter]))⟩] 7 8 (rF r [a0,a1,kMeter,r.meter]) (by omega) rfl (by simp) hle
 have z0:TxR0 g (tx++lnB (rF r [a0,a1,kMeter,r.meter])) e5 [] (rD g 8 tx (lnB (rF r [a0,a1,kMeter,r.meter])) r e5 [⟨9,.vals (strs [a0,a1])⟩,Sx.deadRow,Sx.deadRow,⟨9,.vals (strs [kMeter,r.meter])⟩,⟨9,.own 1 8 (strs (rF r [a0,a1,kMeter,r.meter]))⟩]):=⟨8,rfl,rfl,rfl⟩
 refine tx_walk [.agg r.cells.toArray] h (rlH g p r b1 b2 ck e1 e2 [(27,.callG (actG 3 2 (strs [a0,a1]))),(34,.is (.bool true)),(39,.is (.bool false)),(43,.is (.bool bo)),(46,wH g p e3),(50,.bin (.bool false)),(54,.call (.bool b4)),(56,wH g p e4),(60,.bin (.bool true)),(66,wH g p e5),(70,.nils 9 1),(75,.bin (.bool true)),(83,.bin (.bool false)),(91,.callG (txG [7] 0 1 8 (some g) (tx++lnB (rF r [a0,a1,kMeter,r.meter])) e5 (.tuple #[])))]) [] (by kernel_rfl) Tryz.func74 rfl (Nat.le_of_ble_eq_true rfl) ?_
 exact Eq.mp (by kernel_rfl) (Sx.t8 c11 c12 c16 c21 c22 c27 c34 c39 (Sx.t8 c43 c46 c50 c54 c56 c60 c66 c72 (Sx.t4 c75 c80 c83 c91 z0)))
theorem rw2c11{a0 a1:Bs}(h:Tx w g p A c tx e)(H:RuIn w g p A tx r b1 b2 b4 b5 bo ck e e1 e2 e3 e4 e5)(ha:actWs r.act r.out=[a0,a1])(hg:r.out≥0)(hz:¬r.out=0)(hb:bo=decide (r.act=3))(hm:decide (r.meter=[])=false)(hi:decide (r.mirror=[])=false)(hle:TxF tx (rF r [a0,a1,kMeter,r.meter,kMirror,r.mirror])):RlT w g A tx r (rF r [a0,a1,kMeter,r.meter,kMirror,r.mirror]) e5:=by
 have c11:=H.c11;have c16:=H.c16;have c21:=H.c21
 have c34:Value.bool (decide (r.out≥0))=.bool true:=bzt (decide_eq_true hg)
 have c39:Value.bool (r.out==0)=.bool false:=bzf (beq_eq_false_iff_ne.2 hz)
 have c43:Value.bool (r.act==3)=.bool bo:=by rw[hb];rfl
 have c50:=se 49 hm;have c60:=se 59 hi
 have c54:=H.c54 (of_decide_eq_false hm)
 have c64:=H.c64 (of_decide_eq_false hi)
 have c75:=sn (b:=true) 74 hm;have c83:=sn (b:=true) 82 hi
 have c12:=wantRl w g p A tx r 3 [] H.h1
 have c22:=wantRl w g p A tx r 3 [] H.h2
 have c27:=fun W β (hS:Sx.See (txB w g A) β W (Sx.rowAt (rL g p tx r e2 [])) [])=>act_some (m:=3) ha (by simp) H.o0 H.o1 H.hl W β hS
 have c46:=wantRl w g p A tx r 4 [⟨9,.vals (strs [a0,a1])⟩] H.h3
 have c56:=wantRl w g p A tx r 4 [⟨9,.vals (strs [a0,a1])⟩] H.h4
 have c66:=wantRl w g p A tx r 4 [⟨9,.vals (strs [a0,a1])⟩] H.h5
 have c72:=app_st [a0,a1] 4 2 rfl (by decide)
 have c80:=app_st [kMeter,r.meter] 6 2 rfl (by decide)
 have c88:=app_st [kMirror,r.mirror] 8 2 rfl (by decide)
 have c91:=lineRl w g p A tx r e5 [⟨9,.vals (strs [a0,a1])⟩,Sx.deadRow,Sx.deadRow,⟨9,.vals (strs [kMeter,r.meter])⟩,Sx.deadRow,⟨9,.vals (strs [kMirror,r.mirror])⟩,⟨9,.own 1 10 (strs (rF r [a0,a1,kMeter,r.meter,kMirror,r.mirror]))⟩] 9 10 (rF r [a0,a1,kMeter,r.meter,kMirror,r.mirror]) (by omega) rfl (by simp) hle
 have z0:TxR0 g (tx++lnB (rF r [a0,a1,kMeter,r.meter,kMirror,r.mirror])) e5 [] (rD g 10 tx (lnB (rF r [a0,a1,kMeter,r.meter,kMirror,r.mirror])) r e5 [⟨9,.vals (strs [a0,a1])⟩,Sx.deadRow,Sx.deadRow,⟨9,.vals (strs [kMeter,r.meter])⟩,Sx.deadRow,⟨9,.vals (strs [kMirror,r.mirror])⟩,⟨9,.own 1 10 (strs (rF r [a0,a1,kMeter,r.meter,kMirror,r.mirror]))⟩]):=⟨10,rfl,rfl,rfl⟩
 refine tx_walk [.agg r.cells.toArray] h (rlH g p r b1 b2 ck e1 e2 [(27,.callG (actG 3 2 (strs [a0,a1]))),(34,.is (.bool true)),(39,.is (.bool false)),(43,.is (.bool bo)),(46,wH g p e3),(50,.bin (.bool false)),(54,.call (.bool b4)),(56,wH g p e4),(60,.bin (.bool false)),(64,.call (.bool b5)),(66,wH g p e5),(70,.nils 9 1),(75,.bin (.bool true)),(83,.bin (.bool true)),(91,.callG (txG [9] 0 1 10 (some g) (tx++lnB (rF r [a0,a1,kMeter,r.meter,kMirror,r.mirror])) e5 (.tuple #[])))]) [] (by kernel_rfl) Tryz.func74 rfl (Nat.le_of_ble_eq_true rfl) ?_
 exact Eq.mp (by kernel_rfl) (Sx.t8 c11 c12 c16 c21 c22 c27 c34 c39 (Sx.t8 c43 c46 c50 c54 c56 c60 c64 c66 (Sx.t4 c72 c75 c80 c83 (Sx.t2 c88 c91 z0))))
end
theorem trule_N{w:World}{g:Nat}{p:Bool}{A:Option Go.Addr}{c:Nat}{tx:Bs}{e:Int}{r:Rl}(h:Tx w g p A c tx e)(hl:Lan w)(hk:∀k∈txK g A,9≤k)(hr:r.Wf)(hle:tx.length+(lnB (ruleWs r)).length≤140737488355328):Calls Tryz.prog 74 #[.pointer (some ⟨g,0,none⟩),.agg r.cells.toArray] w (TxPost g A (.tuple #[]) (tx++lnB (ruleWs r)) (ruleE e r) w):=by
 have H:∀{bo b4 b5:Bool},actB r.act r.out=bo→optB r.meter=b4→optB r.mirror=b5→∃e1 e2 e3 e4,RuIn w g p A tx r (nameB r.name) (checkM r.mt) b4 b5 bo (if checkM r.mt=true then(0:Int)else 190) e e1 e2 e3 e4 (ruleE e r):=by
  intro bo b4 b5 h3 h4 h5
  exact⟨_,_,_,_,⟨fun W hW=>hl.chg hW hk,fun W _=>name_N r.name W,fun W hW=>printMatch_N r.mt hr.m W (hl.chg hW hk),by cases checkM r.mt<;>rfl,
   fun hn W _=>by rw[←h4,show optB r.meter=nameB r.meter by unfold optB;rw[decide_eq_false hn];rfl];exact name_N r.meter W,
   fun hn W _=>by rw[←h5,show optB r.mirror=nameB r.mirror by unfold optB;rw[decide_eq_false hn];rfl];exact name_N r.mirror W,
   rfl,rfl,rfl,rfl,by unfold ruleE;rw[h3,h4,h5],hr.o.1,hr.o.2⟩⟩
 have ob1:∀{x:Bs},x=[]→optB x=true:=fun hx=>by unfold optB;rw[decide_eq_true hx];rfl
 have ws:∀{l x y:List Bs},actWs r.act r.out=l→optWs kMeter r.meter=x→optWs kMirror r.mirror=y→ruleWs r=rF r (l++(x++y)):=fun h1 h2 h3=>by
  unfold ruleWs;rw[h1,h2,h3];simp
 have o1:∀{k x:Bs},x=[]→optWs k x=[]:=fun hx=>by unfold optWs;rw[if_pos hx]
 have o2:∀{k x:Bs},¬x=[]→optWs k x=[k,x]:=fun hx=>by unfold optWs;rw[if_neg hx]
 have hcases:actWs r.act r.out=[]∨(∃a0,actWs r.act r.out=[a0])∨∃a0 a1,actWs r.act r.out=[a0,a1]:=by
  unfold actWs
  repeat' split
  all_goals simp
 have act0:actWs r.act r.out=[]→actB r.act r.out=false:=act_nil
 have actA:∀{x l},actWs r.act r.out=x::l→¬r.out≥0→actB r.act r.out=false:=fun ha hg=>by unfold actB;rw[act_cons ha,decide_eq_false hg];rfl
 have actB':∀{x l},actWs r.act r.out=x::l→r.out≥0→r.out=0→actB r.act r.out=true:=fun ha hg hz=>by unfold actB;rw[act_cons ha,decide_eq_true hg,decide_eq_true hz];rfl
 have actC:∀{x l},actWs r.act r.out=x::l→r.out≥0→¬r.out=0→actB r.act r.out=decide (r.act=3):=fun ha hg hz=>by unfold actB;rw[act_cons ha,decide_eq_true hg,decide_eq_false hz];cases decide (r.act=3)<;>rfl
 rcases hcases with ha|⟨a0,ha⟩ | ⟨a0,a1,ha⟩
 ·by_cases hme:r.meter=[]
  ·by_cases hmi:r.mirror=[]
   ·rw[ws ha (o1 hme) (o1 hmi)]at hle ⊢
    obtain⟨e1,e2,e3,e4,h0⟩:=H (act0 ha) (ob1 hme) (ob1 hmi)
    exact rw000 h h0 ha (decide_eq_true hme) (decide_eq_true hmi) hle
   ·rw[ws ha (o1 hme) (o2 hmi)]at hle ⊢
    obtain⟨e1,e2,e3,e4,h0⟩:=H (act0 ha) (ob1 hme) rfl
    exact rw001 h h0 ha (decide_eq_true hme) (decide_eq_false hmi) hle
  ·by_cases hmi:r.mirror=[]
   ·rw[ws ha (o2 hme) (o1 hmi)]at hle ⊢
    obtain⟨e1,e2,e3,e4,h0⟩:=H (act0 ha) rfl (ob1 hmi)
    exact rw010 h h0 ha (decide_eq_false hme) (decide_eq_true hmi) hle
   ·rw[ws ha (o2 hme) (o2 hmi)]at hle ⊢
    obtain⟨e1,e2,e3,e4,h0⟩:=H (act0 ha) rfl rfl
    exact rw011 h h0 ha (decide_eq_false hme) (decide_eq_false hmi) hle
 ·by_cases hg:r.out≥0
  ·by_cases hz:r.out=0
   ·by_cases hme:r.meter=[]
    ·by_cases hmi:r.mirror=[]
     ·rw[ws ha (o1 hme) (o1 hmi)]at hle ⊢
      obtain⟨e1,e2,e3,e4,h0⟩:=H (actB' ha hg hz) (ob1 hme) (ob1 hmi)
      exact rw1b00 h h0 ha hg hz (decide_eq_true hme) (decide_eq_true hmi) hle
     ·rw[ws ha (o1 hme) (o2 hmi)]at hle ⊢
      obtain⟨e1,e2,e3,e4,h0⟩:=H (actB' ha hg hz) (ob1 hme) rfl
      exact rw1b01 h h0 ha hg hz (decide_eq_true hme) (decide_eq_false hmi) hle
    ·by_cases hmi:r.mirror=[]
     ·rw[ws ha (o2 hme) (o1 hmi)]at hle ⊢
      obtain⟨e1,e2,e3,e4,h0⟩:=H (actB' ha hg hz) rfl (ob1 hmi)
      exact rw1b10 h h0 ha hg hz (decide_eq_false hme) (decide_eq_true hmi) hle
     ·rw[ws ha (o2 hme) (o2 hmi)]at hle ⊢
      obtain⟨e1,e2,e3,e4,h0⟩:=H (actB' ha hg hz) rfl rfl
      exact rw1b11 h h0 ha hg hz (decide_eq_false hme) (decide_eq_false hmi) hle
   ·by_cases hme:r.meter=[]
    ·by_cases hmi:r.mirror=[]
     ·rw[ws ha (o1 hme) (o1 hmi)]at hle ⊢
      obtain⟨e1,e2,e3,e4,h0⟩:=H (actC ha hg hz) (ob1 hme) (ob1 hmi)
      exact rw1c00 h h0 ha hg hz rfl (decide_eq_true hme) (decide_eq_true hmi) hle
     ·rw[ws ha (o1 hme) (o2 hmi)]at hle ⊢
      obtain⟨e1,e2,e3,e4,h0⟩:=H (actC ha hg hz) (ob1 hme) rfl
      exact rw1c01 h h0 ha hg hz rfl (decide_eq_true hme) (decide_eq_false hmi) hle
    ·by_cases hmi:r.mirror=[]
     ·rw[ws ha (o2 hme) (o1 hmi)]at hle ⊢
      obtain⟨e1,e2,e3,e4,h0⟩:=H (actC ha hg hz) rfl (ob1 hmi)
      exact rw1c10 h h0 ha hg hz rfl (decide_eq_false hme) (decide_eq_true hmi) hle
     ·rw[ws ha (o2 hme) (o2 hmi)]at hle ⊢
      obtain⟨e1,e2,e3,e4,h0⟩:=H (actC ha hg hz) rfl rfl
      exact rw1c11 h h0 ha hg hz rfl (decide_eq_false hme) (decide_eq_false hmi) hle
  ·by_cases hme:r.meter=[]
   ·by_cases hmi:r.mirror=[]
    ·rw[ws ha (o1 hme) (o1 hmi)]at hle ⊢
     obtain⟨e1,e2,e3,e4,h0⟩:=H (actA ha hg) (ob1 hme) (ob1 hmi)
     exact rw1a00 h h0 ha hg (decide_eq_true hme) (decide_eq_true hmi) hle
    ·rw[ws ha (o1 hme) (o2 hmi)]at hle ⊢
     obtain⟨e1,e2,e3,e4,h0⟩:=H (actA ha hg) (ob1 hme) rfl
     exact rw1a01 h h0 ha hg (decide_eq_true hme) (decide_eq_false hmi) hle
   ·by_cases hmi:r.mirror=[]
    ·rw[ws ha (o2 hme) (o1 hmi)]at hle ⊢
     obtain⟨e1,e2,e3,e4,h0⟩:=H (actA ha hg) rfl (ob1 hmi)
     exact rw1a10 h h0 ha hg (decide_eq_false hme) (decide_eq_true hmi) hle
    ·rw[ws ha (o2 hme) (o2 hmi)]at hle ⊢
     obtain⟨e1,e2,e3,e4,h0⟩:=H (actA ha hg) rfl rfl
     exact rw1a11 h h0 ha hg (decide_eq_false hme) (decide_eq_false hmi) hle
 ·by_cases hg:r.out≥0
  ·by_cases hz:r.out=0
   ·by_cases hme:r.meter=[]
    ·by_cases hmi:r.mirror=[]
     ·rw[ws ha (o1 hme) (o1 hmi)]at hle ⊢
      obtain⟨e1,e2,e3,e4,h0⟩:=H (actB' ha hg hz) (ob1 hme) (ob1 hmi)
      exact rw2b00 h h0 ha hg hz (decide_eq_true hme) (decide_eq_true hmi) hle
     ·rw[ws ha (o1 hme) (o2 hmi)]at hle ⊢
      obtain⟨e1,e2,e3,e4,h0⟩:=H (actB' ha hg hz) (ob1 hme) rfl
      exact rw2b01 h h0 ha hg hz (decide_eq_true hme) (decide_eq_false hmi) hle
    ·by_cases hmi:r.mirror=[]
     ·rw[ws ha (o2 hme) (o1 hmi)]at hle ⊢
      obtain⟨e1,e2,e3,e4,h0⟩:=H (actB' ha hg hz) rfl (ob1 hmi)
      exact rw2b10 h h0 ha hg hz (decide_eq_false hme) (decide_eq_true hmi) hle
     ·rw[ws ha (o2 hme) (o2 hmi)]at hle ⊢
      obtain⟨e1,e2,e3,e4,h0⟩:=H (actB' ha hg hz) rfl rfl
      exact rw2b11 h h0 ha hg hz (decide_eq_false hme) (decide_eq_false hmi) hle
   ·by_cases hme:r.meter=[]
    ·by_cases hmi:r.mirror=[]
     ·rw[ws ha (o1 hme) (o1 hmi)]at hle ⊢
      obtain⟨e1,e2,e3,e4,h0⟩:=H (actC ha hg hz) (ob1 hme) (ob1 hmi)
      exact rw2c00 h h0 ha hg hz rfl (decide_eq_true hme) (decide_eq_true hmi) hle
     ·rw[ws ha (o1 hme) (o2 hmi)]at hle ⊢
      obtain⟨e1,e2,e3,e4,h0⟩:=H (actC ha hg hz) (ob1 hme) rfl
      exact rw2c01 h h0 ha hg hz rfl (decide_eq_true hme) (decide_eq_false hmi) hle
    ·by_cases hmi:r.mirror=[]
     ·rw[ws ha (o2 hme) (o1 hmi)]at hle ⊢
      obtain⟨e1,e2,e3,e4,h0⟩:=H (actC ha hg hz) rfl (ob1 hmi)
      exact rw2c10 h h0 ha hg hz rfl (decide_eq_false hme) (decide_eq_true hmi) hle
     ·rw[ws ha (o2 hme) (o2 hmi)]at hle ⊢
      obtain⟨e1,e2,e3,e4,h0⟩:=H (actC ha hg hz) rfl rfl
      exact rw2c11 h h0 ha hg hz rfl (decide_eq_false hme) (decide_eq_false hmi) hle
  ·by_cases hme:r.meter=[]
   ·by_cases hmi:r.mirror=[]
    ·rw[ws ha (o1 hme) (o1 hmi)]at hle ⊢
     obtain⟨e1,e2,e3,e4,h0⟩:=H (actA ha hg) (ob1 hme) (ob1 hmi)
     exact rw2a00 h h0 ha hg (decide_eq_true hme) (decide_eq_true hmi) hle
    ·rw[ws ha (o1 hme) (o2 hmi)]at hle ⊢
     obtain⟨e1,e2,e3,e4,h0⟩:=H (actA ha hg) (ob1 hme) rfl
     exact rw2a01 h h0 ha hg (decide_eq_true hme) (decide_eq_false hmi) hle
   ·by_cases hmi:r.mirror=[]
    ·rw[ws ha (o2 hme) (o1 hmi)]at hle ⊢
     obtain⟨e1,e2,e3,e4,h0⟩:=H (actA ha hg) rfl (ob1 hmi)
     exact rw2a10 h h0 ha hg (decide_eq_false hme) (decide_eq_true hmi) hle
    ·rw[ws ha (o2 hme) (o2 hmi)]at hle ⊢
     obtain⟨e1,e2,e3,e4,h0⟩:=H (actA ha hg) rfl rfl
     exact rw2a11 h h0 ha hg (decide_eq_false hme) (decide_eq_false hmi) hle
end Go.Proofs.YtnncigmpcdehnaaGreatDoor
