import Derived.Test.YtnncigmpcdehnaaGreatDoorQb36
namespace Go.Proofs.YtnncigmpcdehnaaGreatDoor
set_option maxRecDepth 100000
open Go Go.RowKit Go.Lib Go.Sort
abbrev nr(w:World)(g:Nat)(A:Option Go.Addr):Sx.bw:=⟨w,oA g A,fun _ _=>False⟩
abbrev rL(g:Nat)(p:Bool)(tx:Bs)(r:Rl)(e:Int)(mem:List Sx.Row):List Sx.Row:=db (some g) [.cI p 0 0,.own 1,.val (.int .i64 e)]::⟨5,.own 1 tx.length (iX tx)⟩::⟨81,.ag r.cells⟩::mem
abbrev rD(g M:Nat)(tx F:Bs)(r:Rl)(e:Int)(mem:List Sx.Row):List Sx.Row:=db (some g) [.cI true 0 0,.own M,.val (.int .i64 e)]::Sx.aa::⟨81,.ag r.cells⟩::(mem++[⟨5,.own 1 (tx++F).length (iX (tx++F))⟩])
abbrev rF(r:Rl)(l:List Bs):List Bs:=dM::r.name::Er r.mt::oD::l
abbrev wH(g:Nat)(p:Bool)(e:Int):Sx.Hint:=.al (cD [] 0 1 (some g) p e)
abbrev pK(w:World)(g:Nat)(A:Option Go.Addr)(tx:Bs)(r:Rl)(F:List Bs)(e:Int):Prop:=Calls Tryz.prog 74 #[.pointer (some ⟨g,0,none⟩),.agg r.cells.toArray] w (lk g A (.tuple #[]) (tx++bR F) e w)
abbrev pH(g:Nat)(p:Bool)(r:Rl)(b1 b2:Bool)(ck e1 e2:Int)(l:List (Nat×Sx.Hint)):List (Nat×Sx.Hint):=(11,.call (.bool b1))::(16,.call (.tuple #[af (Er r.mt),.int .i64 ck]))::(21,.is (.bool b2))::(12,wH g p e1)::(22,wH g p e2)::l
abbrev pJ(tx:Bs)(F:List Bs):Prop:=tx.length+(bR F).length≤140737488355328
structure gz(w:World)(g:Nat)(p:Bool)(A:Option Go.Addr)(tx:Bs)(r:Rl)(b1 b2 b4 b5 bo:Bool)(ck e e1 e2 e3 e4 e5:Int):Prop where
 hl:∀W,aw (oA g A) w W→dG W
 dK:∀W,aw (oA g A) w W→Calls Tryz.prog 33 #[af r.name] W fun e w'=>e=.returned (.bool b1)∧aw [] W w'
 cx:∀W,aw (oA g A) w W→Calls Tryz.prog 31 #[.agg r.mt.cells.toArray] W fun e w'=>e=.returned (.tuple #[af (Er r.mt),.int .i64 ck])∧aw [] W w'
 c21:Value.bool (ck==0)=.bool b2
 iF:r.aq≠[]→∀W,aw (oA g A) w W→Calls Tryz.prog 33 #[af r.aq] W fun e w'=>e=.returned (.bool b4)∧aw [] W w'
 iQ:r.ai≠[]→∀W,aw (oA g A) w W→Calls Tryz.prog 33 #[af r.ai] W fun e w'=>e=.returned (.bool b5)∧aw [] W w'
 h1:e1=aG b1 201 e
 h2:e2=aG b2 190 e1
 h3:e3=aG bo 2 e2
 h4:e4=aG b4 201 e3
 h5:e5=aG b5 201 e4
 o0 : -9223372036854775808≤r.out
 o1:r.out≤9223372036854775807
theorem au(w:World)(g:Nat)(p:Bool)(A:Option Go.Addr)(tx:Bs)(r:Rl){e e':Int}{b:Bool}{code:Int}(m:Nat)(mem:List Sx.Row)(he:e'=aG b code e)(W:World)(β:Sx.Env)(hS:Sx.cw (nr w g A) β W (Sx.rowAt (rL g p tx r e mem)) [0,1]):Calls Tryz.prog 69 (([.ptr 0 0,.val (.bool b),.val (.int .i64 code)]:List Sx.SV).map (Sx.SV.den β)).toArray W (Sx.a7 (nr w g A) β W (Sx.rowAt (rL g p tx r e mem)) m (cD [] 0 1 (some g) p e')):=by
 rw[he];exact eK b code ⟨rfl,rfl⟩ W β hS
theorem cQ(w:World)(g:Nat)(p:Bool)(A:Option Go.Addr)(tx:Bs)(r:Rl)(e:Int)(mem:List Sx.Row)(k m:Nat)(ws:List Bs)(hm:1 < m)(rk:Sx.rowAt (rL g p tx r e mem) k=some ⟨9,.own 1 ws.length (strs ws)⟩)(hn:ws.length≤1000000)(hl:tx.length+(bR ws).length≤140737488355328)(W:World)(β:Sx.Env)(hS:Sx.cw (nr w g A) β W (Sx.rowAt (rL g p tx r e mem)) [0,1,k]) :
  Calls Tryz.prog 70 (([.ptr 0 0,.own k]:List Sx.SV).map (Sx.SV.den β)).toArray W (Sx.a7 (nr w g A) β W (Sx.rowAt (rL g p tx r e mem)) m (il [k] 0 1 m (some g) (tx++bR ws) e (.tuple #[]))):=
 uT (p:=p) ws ⟨rfl,rfl⟩ (by omega) hm rk hn hl W β hS
theorem na(P:World→Prop)(n:Nat)(hn:n≤1000):(∀W,P W→∃A c,Value.slice none 0 0=.slice A 0 c∧(0 < ([]:List Value).length→∃ad,A=some ad∧∀(j:Nat) (u:Value),([]:List Value)[j]?=some u→W.cell? (ad.add j)=some u))∧([]:List Value).length=0*1∧(∀u∈([]:List Value),u.oneCell'=true)∧n+0≤maxLen∧(n+0)*16≤140737488355328:=
 ⟨fun _ _=>⟨none,0,rfl,fun hh=>absurd hh (Nat.lt_irrefl _)⟩,rfl,fun u hu=>(by cases hu),by unfold maxLen;omega,by omega⟩
theorem se(n:Nat){x:Bs}{b:Bool}(h:decide (x=[])=b)(W:World):(do eqGuard .eql 9 (.tmp n) (.const (af [])) (af x) (af []);binOp .eql 9 (af x) (af []):Sem Value).run Tryz.prog W=.ok (.bool b) W:=aD (.tmp n) (.const (af [])) x [] b h W
theorem sn(n:Nat){x:Bs}{b:Bool}(h:decide (x=[])=!b)(W:World):(do eqGuard .neq 9 (.tmp n) (.const (af [])) (af x) (af []);binOp .neq 9 (af x) (af []):Sem Value).run Tryz.prog W=.ok (.bool b) W:=
 (vA (.tmp n) (.const (af [])) x [] W).trans (by rw[show decide (x≠[])=b from by rw[decide_not,h,Bool.not_not]])
section
variable{w:World}{g:Nat}{p:Bool}{A:Option Go.Addr}{c:Nat}{tx:Bs}{r:Rl}{b1 b2 b4 b5 bo:Bool}{ck e e1 e2 e3 e4 e5:Int}
theorem MV(h:Tx w g p A c tx e)(H:gz w g p A tx r b1 b2 true true false ck e e1 e2 e3 e4 e5)(ha:aH r.act r.out=[])(hm:decide (r.aq=[])=true)(hi:decide (r.ai=[])=true)(hle:pJ tx (rF r [])):pK w g A tx r (rF r []) e5:=by
 have dK:=H.dK;have cx:=H.cx;have c21:=H.c21
 have c50:=se 49 hm;have c60:=se 59 hi
 have c75:=sn (b:=false) 74 hm;have c83:=sn (b:=false) 82 hi
 have c12:=au w g p A tx r 3 [] H.h1
 have c22:=au w g p A tx r 3 [] H.h2
 have c27:=fun W hW=>kt (b:=(nr w g A)) ha H.o0 H.o1 H.hl W hW
 have c46:=au w g p A tx r 3 [] H.h3
 have c56:=au w g p A tx r 3 [] H.h4
 have c66:=au w g p A tx r 3 [] H.h5
 have c72:=na (aw (oA g A) w) 4 (by decide)
 have c91:=cQ w g p A tx r e5 [Sx.aa,⟨9,.own 1 4 (strs (rF r []))⟩] 4 5 (rF r []) (by omega) rfl (by simp) hle
 have z0:fZ g (tx++bR (rF r [])) e5 [] (rD g 5 tx (bR (rF r [])) r e5 [Sx.aa,⟨9,.own 1 4 (strs (rF r []))⟩]):=⟨5,rfl,rfl,rfl⟩
 refine bQ [.agg r.cells.toArray] h (pH g p r b1 b2 ck e1 e2 [(27,.call (.slice none 0 0)),(72,.app 0 []),(46,wH g p e3),(50,.bin (.bool true)),(56,wH g p e4),(60,.bin (.bool true)),(66,wH g p e5),(70,.cC 9 1),(75,.bin (.bool false)),(83,.bin (.bool false)),(91,.al (il [4] 0 1 5 (some g) (tx++bR (rF r [])) e5 (.tuple #[])))]) [] (by kernel_rfl) Tryz.func74 rfl (Nat.le_of_ble_eq_true rfl) ?_
 exact Eq.mp (by kernel_rfl) (Sx.t8 dK c12 cx c21 c22 c27 c46 c50 (Sx.t4 c56 c60 c66 c72 (Sx.t2 c75 c83 (And.intro c91 z0))))
theorem MU(h:Tx w g p A c tx e)(H:gz w g p A tx r b1 b2 true b5 false ck e e1 e2 e3 e4 e5)(ha:aH r.act r.out=[])(hm:decide (r.aq=[])=true)(hi:decide (r.ai=[])=false)(hle:pJ tx (rF r [ae,r.ai])):pK w g A tx r (rF r [ae,r.ai]) e5:=by
 have dK:=H.dK;have cx:=H.cx;have c21:=H.c21
 have c50:=se 49 hm;have c60:=se 59 hi
 have iQ:=H.iQ (of_decide_eq_false hi)
 have c75:=sn (b:=false) 74 hm;have c83:=sn (b:=true) 82 hi
 have c12:=au w g p A tx r 3 [] H.h1
 have c22:=au w g p A tx r 3 [] H.h2
 have c27:=fun W hW=>kt (b:=(nr w g A)) ha H.o0 H.o1 H.hl W hW
 have c46:=au w g p A tx r 3 [] H.h3
 have c56:=au w g p A tx r 3 [] H.h4
 have c66:=au w g p A tx r 3 [] H.h5
 have c72:=na (aw (oA g A) w) 4 (by decide)
 have c88:=aU [ae,r.ai] 4 2 rfl (by decide)
 have c91:=cQ w g p A tx r e5 [Sx.aa,Sx.aa,⟨9,.ag (strs [ae,r.ai])⟩,⟨9,.own 1 6 (strs (rF r [ae,r.ai]))⟩] 6 7 (rF r [ae,r.ai]) (by omega) rfl (by simp) hle
 have z0:fZ g (tx++bR (rF r [ae,r.ai])) e5 [] (rD g 7 tx (bR (rF r [ae,r.ai])) r e5 [Sx.aa,Sx.aa,⟨9,.ag (strs [ae,r.ai])⟩,⟨9,.own 1 6 (strs (rF r [ae,r.ai]))⟩]):=⟨7,rfl,rfl,rfl⟩
 refine bQ [.agg r.cells.toArray] h (pH g p r b1 b2 ck e1 e2 [(27,.call (.slice none 0 0)),(72,.app 0 []),(46,wH g p e3),(50,.bin (.bool true)),(56,wH g p e4),(60,.bin (.bool false)),(64,.call (.bool b5)),(66,wH g p e5),(70,.cC 9 1),(75,.bin (.bool false)),(83,.bin (.bool true)),(91,.al (il [6] 0 1 7 (some g) (tx++bR (rF r [ae,r.ai])) e5 (.tuple #[])))]) [] (by kernel_rfl) Tryz.func74 rfl (Nat.le_of_ble_eq_true rfl) ?_
 exact Eq.mp (by kernel_rfl) (Sx.t8 dK c12 cx c21 c22 c27 c46 c50 (Sx.t8 c56 c60 iQ c66 c72 c75 c83 c88 (And.intro c91 z0)))
theorem MT(h:Tx w g p A c tx e)(H:gz w g p A tx r b1 b2 b4 true false ck e e1 e2 e3 e4 e5)(ha:aH r.act r.out=[])(hm:decide (r.aq=[])=false)(hi:decide (r.ai=[])=true)(hle:pJ tx (rF r [ak,r.aq])):pK w g A tx r (rF r [ak,r.aq]) e5:=by
 have dK:=H.dK;have cx:=H.cx;have c21:=H.c21
 have c50:=se 49 hm;have c60:=se 59 hi
 have iF:=H.iF (of_decide_eq_false hm)
 have c75:=sn (b:=true) 74 hm;have c83:=sn (b:=false) 82 hi
 have c12:=au w g p A tx r 3 [] H.h1
 have c22:=au w g p A tx r 3 [] H.h2
 have c27:=fun W hW=>kt (b:=(nr w g A)) ha H.o0 H.o1 H.hl W hW
 have c46:=au w g p A tx r 3 [] H.h3
 have c56:=au w g p A tx r 3 [] H.h4
 have c66:=au w g p A tx r 3 [] H.h5
 have c72:=na (aw (oA g A) w) 4 (by decide)
 have c80:=aU [ak,r.aq] 4 2 rfl (by decide)
 have c91:=cQ w g p A tx r e5 [Sx.aa,Sx.aa,⟨9,.ag (strs [ak,r.aq])⟩,⟨9,.own 1 6 (strs (rF r [ak,r.aq]))⟩] 6 7 (rF r [ak,r.aq]) (by omega) rfl (by simp) hle
 have z0:fZ g (tx++bR (rF r [ak,r.aq])) e5 [] (rD g 7 tx (bR (rF r [ak,r.aq])) r e5 [Sx.aa,Sx.aa,⟨9,.ag (strs [ak,r.aq])⟩,⟨9,.own 1 6 (strs (rF r [ak,r.aq]))⟩]):=⟨7,rfl,rfl,rfl⟩
 refine bQ [.agg r.cells.toArray] h (pH g p r b1 b2 ck e1 e2 [(27,.call (.slice none 0 0)),(72,.app 0 []),(46,wH g p e3),(50,.bin (.bool false)),(54,.call (.bool b4)),(56,wH g p e4),(60,.bin (.bool true)),(66,wH g p e5),(70,.cC 9 1),(75,.bin (.bool true)),(83,.bin (.bool false)),(91,.al (il [6] 0 1 7 (some g) (tx++bR (rF r [ak,r.aq])) e5 (.tuple #[])))]) [] (by kernel_rfl) Tryz.func74 rfl (Nat.le_of_ble_eq_true rfl) ?_
 exact Eq.mp (by kernel_rfl) (Sx.t8 dK c12 cx c21 c22 c27 c46 c50 (Sx.t8 iF c56 c60 c66 c72 c75 c80 c83 (And.intro c91 z0)))
theorem MS(h:Tx w g p A c tx e)(H:gz w g p A tx r b1 b2 b4 b5 false ck e e1 e2 e3 e4 e5)(ha:aH r.act r.out=[])(hm:decide (r.aq=[])=false)(hi:decide (r.ai=[])=false)(hle:pJ tx (rF r [ak,r.aq,ae,r.ai])):pK w g A tx r (rF r [ak,r.aq,ae,r.ai]) e5:=by
 have dK:=H.dK;have cx:=H.cx;have c21:=H.c21
 have c50:=se 49 hm;have c60:=se 59 hi
 have iF:=H.iF (of_decide_eq_false hm)
 have iQ:=H.iQ (of_decide_eq_false hi)
 have c75:=sn (b:=true) 74 hm;have c83:=sn (b:=true) 82 hi
 have c12:=au w g p A tx r 3 [] H.h1
 have c22:=au w g p A tx r 3 [] H.h2
 have c27:=fun W hW=>kt (b:=(nr w g A)) ha H.o0 H.o1 H.hl W hW
 have c46:=au w g p A tx r 3 [] H.h3
 have c56:=au w g p A tx r 3 [] H.h4
 have c66:=au w g p A tx r 3 [] H.h5
 have c72:=na (aw (oA g A) w) 4 (by decide)
 have c80:=aU [ak,r.aq] 4 2 rfl (by decide)
 have c88:=aU [ae,r.ai] 6 2 rfl (by decide)
 have c91:=cQ w g p A tx r e5 [Sx.aa,Sx.aa,⟨9,.ag (strs [ak,r.aq])⟩,Sx.aa,⟨9,.ag (strs [ae,r.ai])⟩,⟨9,.own 1 8 (strs (rF r [ak,r.aq,ae,r.ai]))⟩] 8 9 (rF r [ak,r.aq,ae,r.ai]) (by omega) rfl (by simp) hle
 have z0:fZ g (tx++bR (rF r [ak,r.aq,ae,r.ai])) e5 [] (rD g 9 tx (bR (rF r [ak,r.aq,ae,r.ai])) r e5 [Sx.aa,Sx.aa,⟨9,.ag (strs [ak,r.aq])⟩,Sx.aa,⟨9,.ag (strs [ae,r.ai])⟩,⟨9,.own 1 8 (strs (rF r [ak,r.aq,ae,r.ai]))⟩]):=⟨9,rfl,rfl,rfl⟩
 refine bQ [.agg r.cells.toArray] h (pH g p r b1 b2 ck e1 e2 [(27,.call (.slice none 0 0)),(72,.app 0 []),(46,wH g p e3),(50,.bin (.bool false)),(54,.call (.bool b4)),(56,wH g p e4),(60,.bin (.bool false)),(64,.call (.bool b5)),(66,wH g p e5),(70,.cC 9 1),(75,.bin (.bool true)),(83,.bin (.bool true)),(91,.al (il [8] 0 1 9 (some g) (tx++bR (rF r [ak,r.aq,ae,r.ai])) e5 (.tuple #[])))]) [] (by kernel_rfl) Tryz.func74 rfl (Nat.le_of_ble_eq_true rfl) ?_
 exact Eq.mp (by kernel_rfl) (Sx.t8 dK c12 cx c21 c22 c27 c46 c50 (Sx.t8 iF c56 c60 iQ c66 c72 c75 c80 (Sx.t2 c83 c88 (And.intro c91 z0))))
theorem Ls{a0:Bs}(h:Tx w g p A c tx e)(H:gz w g p A tx r b1 b2 true true false ck e e1 e2 e3 e4 e5)(ha:aH r.act r.out=[a0])(hg:¬r.out≥0)(hm:decide (r.aq=[])=true)(hi:decide (r.ai=[])=true)(hle:pJ tx (rF r [a0])):pK w g A tx r (rF r [a0]) e5:=by
 have dK:=H.dK;have cx:=H.cx;have c21:=H.c21
 have c34:Value.bool (decide (r.out≥0))=.bool false:=dY (decide_eq_false hg)
 have c50:=se 49 hm;have c60:=se 59 hi
 have c75:=sn (b:=false) 74 hm;have c83:=sn (b:=false) 82 hi
 have c12:=au w g p A tx r 3 [] H.h1
 have c22:=au w g p A tx r 3 [] H.h2
 have c27:=fun W β (hS:Sx.cw (nr w g A) β W (Sx.rowAt (rL g p tx r e2 [])) [])=>bh (m:=3) ha (by simp) H.o0 H.o1 H.hl W β hS
 have c46:=au w g p A tx r 4 [⟨9,.ag (strs [a0])⟩] H.h3
 have c56:=au w g p A tx r 4 [⟨9,.ag (strs [a0])⟩] H.h4
 have c66:=au w g p A tx r 4 [⟨9,.ag (strs [a0])⟩] H.h5
 have c72:=aU [a0] 4 1 rfl (by decide)
 have c91:=cQ w g p A tx r e5 [⟨9,.ag (strs [a0])⟩,Sx.aa,⟨9,.own 1 5 (strs (rF r [a0]))⟩] 5 6 (rF r [a0]) (by omega) rfl (by simp) hle
 have z0:fZ g (tx++bR (rF r [a0])) e5 [] (rD g 6 tx (bR (rF r [a0])) r e5 [⟨9,.ag (strs [a0])⟩,Sx.aa,⟨9,.own 1 5 (strs (rF r [a0]))⟩]):=⟨6,rfl,rfl,rfl⟩
 refine bQ [.agg r.cells.toArray] h (pH g p r b1 b2 ck e1 e2 [(27,.al (fH 3 1 (strs [a0]))),(34,.is (.bool false)),(46,wH g p e3),(50,.bin (.bool true)),(56,wH g p e4),(60,.bin (.bool true)),(66,wH g p e5),(70,.cC 9 1),(75,.bin (.bool false)),(83,.bin (.bool false)),(91,.al (il [5] 0 1 6 (some g) (tx++bR (rF r [a0])) e5 (.tuple #[])))]) [] (by kernel_rfl) Tryz.func74 rfl (Nat.le_of_ble_eq_true rfl) ?_
 exact Eq.mp (by kernel_rfl) (Sx.t8 dK c12 cx c21 c22 c27 c34 c46 (Sx.t8 c50 c56 c60 c66 c72 c75 c83 c91 z0))
theorem Lr{a0:Bs}(h:Tx w g p A c tx e)(H:gz w g p A tx r b1 b2 true b5 false ck e e1 e2 e3 e4 e5)(ha:aH r.act r.out=[a0])(hg:¬r.out≥0)(hm:decide (r.aq=[])=true)(hi:decide (r.ai=[])=false)(hle:pJ tx (rF r [a0,ae,r.ai])):pK w g A tx r (rF r [a0,ae,r.ai]) e5:=by
 have dK:=H.dK;have cx:=H.cx;have c21:=H.c21
 have c34:Value.bool (decide (r.out≥0))=.bool false:=dY (decide_eq_false hg)
 have c50:=se 49 hm;have c60:=se 59 hi
 have iQ:=H.iQ (of_decide_eq_false hi)
 have c75:=sn (b:=false) 74 hm;have c83:=sn (b:=true) 82 hi
 have c12:=au w g p A tx r 3 [] H.h1
 have c22:=au w g p A tx r 3 [] H.h2
 have c27:=fun W β (hS:Sx.cw (nr w g A) β W (Sx.rowAt (rL g p tx r e2 [])) [])=>bh (m:=3) ha (by simp) H.o0 H.o1 H.hl W β hS
 have c46:=au w g p A tx r 4 [⟨9,.ag (strs [a0])⟩] H.h3
 have c56:=au w g p A tx r 4 [⟨9,.ag (strs [a0])⟩] H.h4
 have c66:=au w g p A tx r 4 [⟨9,.ag (strs [a0])⟩] H.h5
 have c72:=aU [a0] 4 1 rfl (by decide)
 have c88:=aU [ae,r.ai] 5 2 rfl (by decide)
 have c91:=cQ w g p A tx r e5 [⟨9,.ag (strs [a0])⟩,Sx.aa,Sx.aa,⟨9,.ag (strs [ae,r.ai])⟩,⟨9,.own 1 7 (strs (rF r [a0,ae,r.ai]))⟩] 7 8 (rF r [a0,ae,r.ai]) (by omega) rfl (by simp) hle
 have z0:fZ g (tx++bR (rF r [a0,ae,r.ai])) e5 [] (rD g 8 tx (bR (rF r [a0,ae,r.ai])) r e5 [⟨9,.ag (strs [a0])⟩,Sx.aa,Sx.aa,⟨9,.ag (strs [ae,r.ai])⟩,⟨9,.own 1 7 (strs (rF r [a0,ae,r.ai]))⟩]):=⟨8,rfl,rfl,rfl⟩
 refine bQ [.agg r.cells.toArray] h (pH g p r b1 b2 ck e1 e2 [(27,.al (fH 3 1 (strs [a0]))),(34,.is (.bool false)),(46,wH g p e3),(50,.bin (.bool true)),(56,wH g p e4),(60,.bin (.bool false)),(64,.call (.bool b5)),(66,wH g p e5),(70,.cC 9 1),(75,.bin (.bool false)),(83,.bin (.bool true)),(91,.al (il [7] 0 1 8 (some g) (tx++bR (rF r [a0,ae,r.ai])) e5 (.tuple #[])))]) [] (by kernel_rfl) Tryz.func74 rfl (Nat.le_of_ble_eq_true rfl) ?_
 exact Eq.mp (by kernel_rfl) (Sx.t8 dK c12 cx c21 c22 c27 c34 c46 (Sx.t8 c50 c56 c60 iQ c66 c72 c75 c83 (Sx.t2 c88 c91 z0)))
theorem Lq{a0:Bs}(h:Tx w g p A c tx e)(H:gz w g p A tx r b1 b2 b4 true false ck e e1 e2 e3 e4 e5)(ha:aH r.act r.out=[a0])(hg:¬r.out≥0)(hm:decide (r.aq=[])=false)(hi:decide (r.ai=[])=true)(hle:pJ tx (rF r [a0,ak,r.aq])):pK w g A tx r (rF r [a0,ak,r.aq]) e5:=by
 have dK:=H.dK;have cx:=H.cx;have c21:=H.c21
 have c34:Value.bool (decide (r.out≥0))=.bool false:=dY (decide_eq_false hg)
 have c50:=se 49 hm;have c60:=se 59 hi
 have iF:=H.iF (of_decide_eq_false hm)
 have c75:=sn (b:=true) 74 hm;have c83:=sn (b:=false) 82 hi
 have c12:=au w g p A tx r 3 [] H.h1
 have c22:=au w g p A tx r 3 [] H.h2
 have c27:=fun W β (hS:Sx.cw (nr w g A) β W (Sx.rowAt (rL g p tx r e2 [])) [])=>bh (m:=3) ha (by simp) H.o0 H.o1 H.hl W β hS
 have c46:=au w g p A tx r 4 [⟨9,.ag (strs [a0])⟩] H.h3
 have c56:=au w g p A tx r 4 [⟨9,.ag (strs [a0])⟩] H.h4
 have c66:=au w g p A tx r 4 [⟨9,.ag (strs [a0])⟩] H.h5
 have c72:=aU [a0] 4 1 rfl (by decide)
 have c80:=aU [ak,r.aq] 5 2 rfl (by decide)
 have c91:=cQ w g p A tx r e5 [⟨9,.ag (strs [a0])⟩,Sx.aa,Sx.aa,⟨9,.ag (strs [ak,r.aq])⟩,⟨9,.own 1 7 (strs (rF r [a0,ak,r.aq]))⟩] 7 8 (rF r [a0,ak,r.aq]) (by omega) rfl (by simp) hle
 have z0:fZ g (tx++bR (rF r [a0,ak,r.aq])) e5 [] (rD g 8 tx (bR (rF r [a0,ak,r.aq])) r e5 [⟨9,.ag (strs [a0])⟩,Sx.aa,Sx.aa,⟨9,.ag (strs [ak,r.aq])⟩,⟨9,.own 1 7 (strs (rF r [a0,ak,r.aq]))⟩]):=⟨8,rfl,rfl,rfl⟩
 refine bQ [.agg r.cells.toArray] h (pH g p r b1 b2 ck e1 e2 [(27,.al (fH 3 1 (strs [a0]))),(34,.is (.bool false)),(46,wH g p e3),(50,.bin (.bool false)),(54,.call (.bool b4)),(56,wH g p e4),(60,.bin (.bool true)),(66,wH g p e5),(70,.cC 9 1),(75,.bin (.bool true)),(83,.bin (.bool false)),(91,.al (il [7] 0 1 8 (some g) (tx++bR (rF r [a0,ak,r.aq])) e5 (.tuple #[])))]) [] (by kernel_rfl) Tryz.func74 rfl (Nat.le_of_ble_eq_true rfl) ?_
 exact Eq.mp (by kernel_rfl) (Sx.t8 dK c12 cx c21 c22 c27 c34 c46 (Sx.t8 c50 iF c56 c60 c66 c72 c75 c80 (Sx.t2 c83 c91 z0)))
theorem Lp{a0:Bs}(h:Tx w g p A c tx e)(H:gz w g p A tx r b1 b2 b4 b5 false ck e e1 e2 e3 e4 e5)(ha:aH r.act r.out=[a0])(hg:¬r.out≥0)(hm:decide (r.aq=[])=false)(hi:decide (r.ai=[])=false)(hle:pJ tx (rF r [a0,ak,r.aq,ae,r.ai])):pK w g A tx r (rF r [a0,ak,r.aq,ae,r.ai]) e5:=by
 have dK:=H.dK;have cx:=H.cx;have c21:=H.c21
 have c34:Value.bool (decide (r.out≥0))=.bool false:=dY (decide_eq_false hg)
 have c50:=se 49 hm;have c60:=se 59 hi
 have iF:=H.iF (of_decide_eq_false hm)
 have iQ:=H.iQ (of_decide_eq_false hi)
 have c75:=sn (b:=true) 74 hm;have c83:=sn (b:=true) 82 hi
 have c12:=au w g p A tx r 3 [] H.h1
 have c22:=au w g p A tx r 3 [] H.h2
 have c27:=fun W β (hS:Sx.cw (nr w g A) β W (Sx.rowAt (rL g p tx r e2 [])) [])=>bh (m:=3) ha (by simp) H.o0 H.o1 H.hl W β hS
 have c46:=au w g p A tx r 4 [⟨9,.ag (strs [a0])⟩] H.h3
 have c56:=au w g p A tx r 4 [⟨9,.ag (strs [a0])⟩] H.h4
 have c66:=au w g p A tx r 4 [⟨9,.ag (strs [a0])⟩] H.h5
 have c72:=aU [a0] 4 1 rfl (by decide)
 have c80:=aU [ak,r.aq] 5 2 rfl (by decide)
 have c88:=aU [ae,r.ai] 7 2 rfl (by decide)
 have c91:=cQ w g p A tx r e5 [⟨9,.ag (strs [a0])⟩,Sx.aa,Sx.aa,⟨9,.ag (strs [ak,r.aq])⟩,Sx.aa,⟨9,.ag (strs [ae,r.ai])⟩,⟨9,.own 1 9 (strs (rF r [a0,ak,r.aq,ae,r.ai]))⟩] 9 10 (rF r [a0,ak,r.aq,ae,r.ai]) (by omega) rfl (by simp) hle
 have z0:fZ g (tx++bR (rF r [a0,ak,r.aq,ae,r.ai])) e5 [] (rD g 10 tx (bR (rF r [a0,ak,r.aq,ae,r.ai])) r e5 [⟨9,.ag (strs [a0])⟩,Sx.aa,Sx.aa,⟨9,.ag (strs [ak,r.aq])⟩,Sx.aa,⟨9,.ag (strs [ae,r.ai])⟩,⟨9,.own 1 9 (strs (rF r [a0,ak,r.aq,ae,r.ai]))⟩]):=⟨10,rfl,rfl,rfl⟩
 refine bQ [.agg r.cells.toArray] h (pH g p r b1 b2 ck e1 e2 [(27,.al (fH 3 1 (strs [a0]))),(34,.is (.bool false)),(46,wH g p e3),(50,.bin (.bool false)),(54,.call (.bool b4)),(56,wH g p e4),(60,.bin (.bool false)),(64,.call (.bool b5)),(66,wH g p e5),(70,.cC 9 1),(75,.bin (.bool true)),(83,.bin (.bool true)),(91,.al (il [9] 0 1 10 (some g) (tx++bR (rF r [a0,ak,r.aq,ae,r.ai])) e5 (.tuple #[])))]) [] (by kernel_rfl) Tryz.func74 rfl (Nat.le_of_ble_eq_true rfl) ?_
 exact Eq.mp (by kernel_rfl) (Sx.t8 dK c12 cx c21 c22 c27 c34 c46 (Sx.t8 c50 iF c56 c60 iQ c66 c72 c75 (Sx.t4 c80 c83 c88 c91 z0)))
theorem Ln{a0:Bs}(h:Tx w g p A c tx e)(H:gz w g p A tx r b1 b2 true true true ck e e1 e2 e3 e4 e5)(ha:aH r.act r.out=[a0])(hg:r.out≥0)(hz:r.out=0)(hm:decide (r.aq=[])=true)(hi:decide (r.ai=[])=true)(hle:pJ tx (rF r [a0])):pK w g A tx r (rF r [a0]) e5:=by
 have dK:=H.dK;have cx:=H.cx;have c21:=H.c21
 have c34:Value.bool (decide (r.out≥0))=.bool true:=dQ (decide_eq_true hg)
 have c39:Value.bool (r.out==0)=.bool true:=dQ (by rw[hz];rfl)
 have c50:=se 49 hm;have c60:=se 59 hi
 have c75:=sn (b:=false) 74 hm;have c83:=sn (b:=false) 82 hi
 have c12:=au w g p A tx r 3 [] H.h1
 have c22:=au w g p A tx r 3 [] H.h2
 have c27:=fun W β (hS:Sx.cw (nr w g A) β W (Sx.rowAt (rL g p tx r e2 [])) [])=>bh (m:=3) ha (by simp) H.o0 H.o1 H.hl W β hS
 have c46:=au w g p A tx r 4 [⟨9,.ag (strs [a0])⟩] H.h3
 have c56:=au w g p A tx r 4 [⟨9,.ag (strs [a0])⟩] H.h4
 have c66:=au w g p A tx r 4 [⟨9,.ag (strs [a0])⟩] H.h5
 have c72:=aU [a0] 4 1 rfl (by decide)
 have c91:=cQ w g p A tx r e5 [⟨9,.ag (strs [a0])⟩,Sx.aa,⟨9,.own 1 5 (strs (rF r [a0]))⟩] 5 6 (rF r [a0]) (by omega) rfl (by simp) hle
 have z0:fZ g (tx++bR (rF r [a0])) e5 [] (rD g 6 tx (bR (rF r [a0])) r e5 [⟨9,.ag (strs [a0])⟩,Sx.aa,⟨9,.own 1 5 (strs (rF r [a0]))⟩]):=⟨6,rfl,rfl,rfl⟩
 refine bQ [.agg r.cells.toArray] h (pH g p r b1 b2 ck e1 e2 [(27,.al (fH 3 1 (strs [a0]))),(34,.is (.bool true)),(39,.is (.bool true)),(46,wH g p e3),(50,.bin (.bool true)),(56,wH g p e4),(60,.bin (.bool true)),(66,wH g p e5),(70,.cC 9 1),(75,.bin (.bool false)),(83,.bin (.bool false)),(91,.al (il [5] 0 1 6 (some g) (tx++bR (rF r [a0])) e5 (.tuple #[])))]) [] (by kernel_rfl) Tryz.func74 rfl (Nat.le_of_ble_eq_true rfl) ?_
 exact Eq.mp (by kernel_rfl) (Sx.t8 dK c12 cx c21 c22 c27 c34 c39 (Sx.t8 c46 c50 c56 c60 c66 c72 c75 c83 (And.intro c91 z0)))
theorem Lm{a0:Bs}(h:Tx w g p A c tx e)(H:gz w g p A tx r b1 b2 true b5 true ck e e1 e2 e3 e4 e5)(ha:aH r.act r.out=[a0])(hg:r.out≥0)(hz:r.out=0)(hm:decide (r.aq=[])=true)(hi:decide (r.ai=[])=false)(hle:pJ tx (rF r [a0,ae,r.ai])):pK w g A tx r (rF r [a0,ae,r.ai]) e5:=by
 have dK:=H.dK;have cx:=H.cx;have c21:=H.c21
 have c34:Value.bool (decide (r.out≥0))=.bool true:=dQ (decide_eq_true hg)
 have c39:Value.bool (r.out==0)=.bool true:=dQ (by rw[hz];rfl)
 have c50:=se 49 hm;have c60:=se 59 hi
 have iQ:=H.iQ (of_decide_eq_false hi)
 have c75:=sn (b:=false) 74 hm;have c83:=sn (b:=true) 82 hi
 have c12:=au w g p A tx r 3 [] H.h1
 have c22:=au w g p A tx r 3 [] H.h2
 have c27:=fun W β (hS:Sx.cw (nr w g A) β W (Sx.rowAt (rL g p tx r e2 [])) [])=>bh (m:=3) ha (by simp) H.o0 H.o1 H.hl W β hS
 have c46:=au w g p A tx r 4 [⟨9,.ag (strs [a0])⟩] H.h3
 have c56:=au w g p A tx r 4 [⟨9,.ag (strs [a0])⟩] H.h4
 have c66:=au w g p A tx r 4 [⟨9,.ag (strs [a0])⟩] H.h5
 have c72:=aU [a0] 4 1 rfl (by decide)
 have c88:=aU [ae,r.ai] 5 2 rfl (by decide)
 have c91:=cQ w g p A tx r e5 [⟨9,.ag (strs [a0])⟩,Sx.aa,Sx.aa,⟨9,.ag (strs [ae,r.ai])⟩,⟨9,.own 1 7 (strs (rF r [a0,ae,r.ai]))⟩] 7 8 (rF r [a0,ae,r.ai]) (by omega) rfl (by simp) hle
 have z0:fZ g (tx++bR (rF r [a0,ae,r.ai])) e5 [] (rD g 8 tx (bR (rF r [a0,ae,r.ai])) r e5 [⟨9,.ag (strs [a0])⟩,Sx.aa,Sx.aa,⟨9,.ag (strs [ae,r.ai])⟩,⟨9,.own 1 7 (strs (rF r [a0,ae,r.ai]))⟩]):=⟨8,rfl,rfl,rfl⟩
 refine bQ [.agg r.cells.toArray] h (pH g p r b1 b2 ck e1 e2 [(27,.al (fH 3 1 (strs [a0]))),(34,.is (.bool true)),(39,.is (.bool true)),(46,wH g p e3),(50,.bin (.bool true)),(56,wH g p e4),(60,.bin (.bool false)),(64,.call (.bool b5)),(66,wH g p e5),(70,.cC 9 1),(75,.bin (.bool false)),(83,.bin (.bool true)),(91,.al (il [7] 0 1 8 (some g) (tx++bR (rF r [a0,ae,r.ai])) e5 (.tuple #[])))]) [] (by kernel_rfl) Tryz.func74 rfl (Nat.le_of_ble_eq_true rfl) ?_
 exact Eq.mp (by kernel_rfl) (Sx.t8 dK c12 cx c21 c22 c27 c34 c39 (Sx.t8 c46 c50 c56 c60 iQ c66 c72 c75 (Sx.t2 c83 c88 (And.intro c91 z0))))
theorem Ll{a0:Bs}(h:Tx w g p A c tx e)(H:gz w g p A tx r b1 b2 b4 true true ck e e1 e2 e3 e4 e5)(ha:aH r.act r.out=[a0])(hg:r.out≥0)(hz:r.out=0)(hm:decide (r.aq=[])=false)(hi:decide (r.ai=[])=true)(hle:pJ tx (rF r [a0,ak,r.aq])):pK w g A tx r (rF r [a0,ak,r.aq]) e5:=by
 have dK:=H.dK;have cx:=H.cx;have c21:=H.c21
 have c34:Value.bool (decide (r.out≥0))=.bool true:=dQ (decide_eq_true hg)
 have c39:Value.bool (r.out==0)=.bool true:=dQ (by rw[hz];rfl)
 have c50:=se 49 hm;have c60:=se 59 hi
 have iF:=H.iF (of_decide_eq_false hm)
 have c75:=sn (b:=true) 74 hm;have c83:=sn (b:=false) 82 hi
 have c12:=au w g p A tx r 3 [] H.h1
 have c22:=au w g p A tx r 3 [] H.h2
 have c27:=fun W β (hS:Sx.cw (nr w g A) β W (Sx.rowAt (rL g p tx r e2 [])) [])=>bh (m:=3) ha (by simp) H.o0 H.o1 H.hl W β hS
 have c46:=au w g p A tx r 4 [⟨9,.ag (strs [a0])⟩] H.h3
 have c56:=au w g p A tx r 4 [⟨9,.ag (strs [a0])⟩] H.h4
 have c66:=au w g p A tx r 4 [⟨9,.ag (strs [a0])⟩] H.h5
 have c72:=aU [a0] 4 1 rfl (by decide)
 have c80:=aU [ak,r.aq] 5 2 rfl (by decide)
 have c91:=cQ w g p A tx r e5 [⟨9,.ag (strs [a0])⟩,Sx.aa,Sx.aa,⟨9,.ag (strs [ak,r.aq])⟩,⟨9,.own 1 7 (strs (rF r [a0,ak,r.aq]))⟩] 7 8 (rF r [a0,ak,r.aq]) (by omega) rfl (by simp) hle
 have z0:fZ g (tx++bR (rF r [a0,ak,r.aq])) e5 [] (rD g 8 tx (bR (rF r [a0,ak,r.aq])) r e5 [⟨9,.ag (strs [a0])⟩,Sx.aa,Sx.aa,⟨9,.ag (strs [ak,r.aq])⟩,⟨9,.own 1 7 (strs (rF r [a0,ak,r.aq]))⟩]):=⟨8,rfl,rfl,rfl⟩
 refine bQ [.agg r.cells.toArray] h (pH g p r b1 b2 ck e1 e2 [(27,.al (fH 3 1 (strs [a0]))),(34,.is (.bool true)),(39,.is (.bool true)),(46,wH g p e3),(50,.bin (.bool false)),(54,.call (.bool b4)),(56,wH g p e4),(60,.bin (.bool true)),(66,wH g p e5),(70,.cC 9 1),(75,.bin (.bool true)),(83,.bin (.bool false)),(91,.al (il [7] 0 1 8 (some g) (tx++bR (rF r [a0,ak,r.aq])) e5 (.tuple #[])))]) [] (by kernel_rfl) Tryz.func74 rfl (Nat.le_of_ble_eq_true rfl) ?_
 exact Eq.mp (by kernel_rfl) (Sx.t8 dK c12 cx c21 c22 c27 c34 c39 (Sx.t8 c46 c50 iF c56 c60 c66 c72 c75 (Sx.t2 c80 c83 (And.intro c91 z0))))
theorem Lk{a0:Bs}(h:Tx w g p A c tx e)(H:gz w g p A tx r b1 b2 b4 b5 true ck e e1 e2 e3 e4 e5)(ha:aH r.act r.out=[a0])(hg:r.out≥0)(hz:r.out=0)(hm:decide (r.aq=[])=false)(hi:decide (r.ai=[])=false)(hle:pJ tx (rF r [a0,ak,r.aq,ae,r.ai])):pK w g A tx r (rF r [a0,ak,r.aq,ae,r.ai]) e5:=by
 have dK:=H.dK;have cx:=H.cx;have c21:=H.c21
 have c34:Value.bool (decide (r.out≥0))=.bool true:=dQ (decide_eq_true hg)
 have c39:Value.bool (r.out==0)=.bool true:=dQ (by rw[hz];rfl)
 have c50:=se 49 hm;have c60:=se 59 hi
 have iF:=H.iF (of_decide_eq_false hm)
 have iQ:=H.iQ (of_decide_eq_false hi)
 have c75:=sn (b:=true) 74 hm;have c83:=sn (b:=true) 82 hi
 have c12:=au w g p A tx r 3 [] H.h1
 have c22:=au w g p A tx r 3 [] H.h2
 have c27:=fun W β (hS:Sx.cw (nr w g A) β W (Sx.rowAt (rL g p tx r e2 [])) [])=>bh (m:=3) ha (by simp) H.o0 H.o1 H.hl W β hS
 have c46:=au w g p A tx r 4 [⟨9,.ag (strs [a0])⟩] H.h3
 have c56:=au w g p A tx r 4 [⟨9,.ag (strs [a0])⟩] H.h4
 have c66:=au w g p A tx r 4 [⟨9,.ag (strs [a0])⟩] H.h5
 have c72:=aU [a0] 4 1 rfl (by decide)
 have c80:=aU [ak,r.aq] 5 2 rfl (by decide)
 have c88:=aU [ae,r.ai] 7 2 rfl (by decide)
 have c91:=cQ w g p A tx r e5 [⟨9,.ag (strs [a0])⟩,Sx.aa,Sx.aa,⟨9,.ag (strs [ak,r.aq])⟩,Sx.aa,⟨9,.ag (strs [ae,r.ai])⟩,⟨9,.own 1 9 (strs (rF r [a0,ak,r.aq,ae,r.ai]))⟩] 9 10 (rF r [a0,ak,r.aq,ae,r.ai]) (by omega) rfl (by simp) hle
 have z0:fZ g (tx++bR (rF r [a0,ak,r.aq,ae,r.ai])) e5 [] (rD g 10 tx (bR (rF r [a0,ak,r.aq,ae,r.ai])) r e5 [⟨9,.ag (strs [a0])⟩,Sx.aa,Sx.aa,⟨9,.ag (strs [ak,r.aq])⟩,Sx.aa,⟨9,.ag (strs [ae,r.ai])⟩,⟨9,.own 1 9 (strs (rF r [a0,ak,r.aq,ae,r.ai]))⟩]):=⟨10,rfl,rfl,rfl⟩
 refine bQ [.agg r.cells.toArray] h (pH g p r b1 b2 ck e1 e2 [(27,.al (fH 3 1 (strs [a0]))),(34,.is (.bool true)),(39,.is (.bool true)),(46,wH g p e3),(50,.bin (.bool false)),(54,.call (.bool b4)),(56,wH g p e4),(60,.bin (.bool false)),(64,.call (.bool b5)),(66,wH g p e5),(70,.cC 9 1),(75,.bin (.bool true)),(83,.bin (.bool true)),(91,.al (il [9] 0 1 10 (some g) (tx++bR (rF r [a0,ak,r.aq,ae,r.ai])) e5 (.tuple #[])))]) [] (by kernel_rfl) Tryz.func74 rfl (Nat.le_of_ble_eq_true rfl) ?_
 exact Eq.mp (by kernel_rfl) (Sx.t8 dK c12 cx c21 c22 c27 c34 c39 (Sx.t8 c46 c50 iF c56 c60 iQ c66 c72 (Sx.t4 c75 c80 c83 c88 (And.intro c91 z0))))
theorem Lj{a0:Bs}(h:Tx w g p A c tx e)(H:gz w g p A tx r b1 b2 true true bo ck e e1 e2 e3 e4 e5)(ha:aH r.act r.out=[a0])(hg:r.out≥0)(hz:¬r.out=0)(hb:bo=decide (r.act=3))(hm:decide (r.aq=[])=true)(hi:decide (r.ai=[])=true)(hle:pJ tx (rF r [a0])):pK w g A tx r (rF r [a0]) e5:=by
 have dK:=H.dK;have cx:=H.cx;have c21:=H.c21
 have c34:Value.bool (decide (r.out≥0))=.bool true:=dQ (decide_eq_true hg)
 have c39:Value.bool (r.out==0)=.bool false:=dY (beq_eq_false_iff_ne.2 hz)
 have c43:Value.bool (r.act==3)=.bool bo:=by rw[hb];rfl
 have c50:=se 49 hm;have c60:=se 59 hi
 have c75:=sn (b:=false) 74 hm;have c83:=sn (b:=false) 82 hi
 have c12:=au w g p A tx r 3 [] H.h1
 have c22:=au w g p A tx r 3 [] H.h2
 have c27:=fun W β (hS:Sx.cw (nr w g A) β W (Sx.rowAt (rL g p tx r e2 [])) [])=>bh (m:=3) ha (by simp) H.o0 H.o1 H.hl W β hS
 have c46:=au w g p A tx r 4 [⟨9,.ag (strs [a0])⟩] H.h3
 have c56:=au w g p A tx r 4 [⟨9,.ag (strs [a0])⟩] H.h4
 have c66:=au w g p A tx r 4 [⟨9,.ag (strs [a0])⟩] H.h5
 have c72:=aU [a0] 4 1 rfl (by decide)
 have c91:=cQ w g p A tx r e5 [⟨9,.ag (strs [a0])⟩,Sx.aa,⟨9,.own 1 5 (strs (rF r [a0]))⟩] 5 6 (rF r [a0]) (by omega) rfl (by simp) hle
 have z0:fZ g (tx++bR (rF r [a0])) e5 [] (rD g 6 tx (bR (rF r [a0])) r e5 [⟨9,.ag (strs [a0])⟩,Sx.aa,⟨9,.own 1 5 (strs (rF r [a0]))⟩]):=⟨6,rfl,rfl,rfl⟩
 refine bQ [.agg r.cells.toArray] h (pH g p r b1 b2 ck e1 e2 [(27,.al (fH 3 1 (strs [a0]))),(34,.is (.bool true)),(39,.is (.bool false)),(43,.is (.bool bo)),(46,wH g p e3),(50,.bin (.bool true)),(56,wH g p e4),(60,.bin (.bool true)),(66,wH g p e5),(70,.cC 9 1),(75,.bin (.bool false)),(83,.bin (.bool false)),(91,.al (il [5] 0 1 6 (some g) (tx++bR (rF r [a0])) e5 (.tuple #[])))]) [] (by kernel_rfl) Tryz.func74 rfl (Nat.le_of_ble_eq_true rfl) ?_
 exact Eq.mp (by kernel_rfl) (Sx.t8 dK c12 cx c21 c22 c27 c34 c39 (Sx.t8 c43 c46 c50 c56 c60 c66 c72 c75 (Sx.t2 c83 c91 z0)))
theorem Li{a0:Bs}(h:Tx w g p A c tx e)(H:gz w g p A tx r b1 b2 true b5 bo ck e e1 e2 e3 e4 e5)(ha:aH r.act r.out=[a0])(hg:r.out≥0)(hz:¬r.out=0)(hb:bo=decide (r.act=3))(hm:decide (r.aq=[])=true)(hi:decide (r.ai=[])=false)(hle:pJ tx (rF r [a0,ae,r.ai])):pK w g A tx r (rF r [a0,ae,r.ai]) e5:=by
 have dK:=H.dK;have cx:=H.cx;have c21:=H.c21
 have c34:Value.bool (decide (r.out≥0))=.bool true:=dQ (decide_eq_true hg)
 have c39:Value.bool (r.out==0)=.bool false:=dY (beq_eq_false_iff_ne.2 hz)
 have c43:Value.bool (r.act==3)=.bool bo:=by rw[hb];rfl
 have c50:=se 49 hm;have c60:=se 59 hi
 have iQ:=H.iQ (of_decide_eq_false hi)
 have c75:=sn (b:=false) 74 hm;have c83:=sn (b:=true) 82 hi
 have c12:=au w g p A tx r 3 [] H.h1
 have c22:=au w g p A tx r 3 [] H.h2
 have c27:=fun W β (hS:Sx.cw (nr w g A) β W (Sx.rowAt (rL g p tx r e2 [])) [])=>bh (m:=3) ha (by simp) H.o0 H.o1 H.hl W β hS
 have c46:=au w g p A tx r 4 [⟨9,.ag (strs [a0])⟩] H.h3
 have c56:=au w g p A tx r 4 [⟨9,.ag (strs [a0])⟩] H.h4
 have c66:=au w g p A tx r 4 [⟨9,.ag (strs [a0])⟩] H.h5
 have c72:=aU [a0] 4 1 rfl (by decide)
 have c88:=aU [ae,r.ai] 5 2 rfl (by decide)
 have c91:=cQ w g p A tx r e5 [⟨9,.ag (strs [a0])⟩,Sx.aa,Sx.aa,⟨9,.ag (strs [ae,r.ai])⟩,⟨9,.own 1 7 (strs (rF r [a0,ae,r.ai]))⟩] 7 8 (rF r [a0,ae,r.ai]) (by omega) rfl (by simp) hle
 have z0:fZ g (tx++bR (rF r [a0,ae,r.ai])) e5 [] (rD g 8 tx (bR (rF r [a0,ae,r.ai])) r e5 [⟨9,.ag (strs [a0])⟩,Sx.aa,Sx.aa,⟨9,.ag (strs [ae,r.ai])⟩,⟨9,.own 1 7 (strs (rF r [a0,ae,r.ai]))⟩]):=⟨8,rfl,rfl,rfl⟩
 refine bQ [.agg r.cells.toArray] h (pH g p r b1 b2 ck e1 e2 [(27,.al (fH 3 1 (strs [a0]))),(34,.is (.bool true)),(39,.is (.bool false)),(43,.is (.bool bo)),(46,wH g p e3),(50,.bin (.bool true)),(56,wH g p e4),(60,.bin (.bool false)),(64,.call (.bool b5)),(66,wH g p e5),(70,.cC 9 1),(75,.bin (.bool false)),(83,.bin (.bool true)),(91,.al (il [7] 0 1 8 (some g) (tx++bR (rF r [a0,ae,r.ai])) e5 (.tuple #[])))]) [] (by kernel_rfl) Tryz.func74 rfl (Nat.le_of_ble_eq_true rfl) ?_
 exact Eq.mp (by kernel_rfl) (Sx.t8 dK c12 cx c21 c22 c27 c34 c39 (Sx.t8 c43 c46 c50 c56 c60 iQ c66 c72 (Sx.t4 c75 c83 c88 c91 z0)))
theorem Lh{a0:Bs}(h:Tx w g p A c tx e)(H:gz w g p A tx r b1 b2 b4 true bo ck e e1 e2 e3 e4 e5)(ha:aH r.act r.out=[a0])(hg:r.out≥0)(hz:¬r.out=0)(hb:bo=decide (r.act=3))(hm:decide (r.aq=[])=false)(hi:decide (r.ai=[])=true)(hle:pJ tx (rF r [a0,ak,r.aq])):pK w g A tx r (rF r [a0,ak,r.aq]) e5:=by
 have dK:=H.dK;have cx:=H.cx;have c21:=H.c21
 have c34:Value.bool (decide (r.out≥0))=.bool true:=dQ (decide_eq_true hg)
 have c39:Value.bool (r.out==0)=.bool false:=dY (beq_eq_false_iff_ne.2 hz)
 have c43:Value.bool (r.act==3)=.bool bo:=by rw[hb];rfl
 have c50:=se 49 hm;have c60:=se 59 hi
 have iF:=H.iF (of_decide_eq_false hm)
 have c75:=sn (b:=true) 74 hm;have c83:=sn (b:=false) 82 hi
 have c12:=au w g p A tx r 3 [] H.h1
 have c22:=au w g p A tx r 3 [] H.h2
 have c27:=fun W β (hS:Sx.cw (nr w g A) β W (Sx.rowAt (rL g p tx r e2 [])) [])=>bh (m:=3) ha (by simp) H.o0 H.o1 H.hl W β hS
 have c46:=au w g p A tx r 4 [⟨9,.ag (strs [a0])⟩] H.h3
 have c56:=au w g p A tx r 4 [⟨9,.ag (strs [a0])⟩] H.h4
 have c66:=au w g p A tx r 4 [⟨9,.ag (strs [a0])⟩] H.h5
 have c72:=aU [a0] 4 1 rfl (by decide)
 have c80:=aU [ak,r.aq] 5 2 rfl (by decide)
 have c91:=cQ w g p A tx r e5 [⟨9,.ag (strs [a0])⟩,Sx.aa,Sx.aa,⟨9,.ag (strs [ak,r.aq])⟩,⟨9,.own 1 7 (strs (rF r [a0,ak,r.aq]))⟩] 7 8 (rF r [a0,ak,r.aq]) (by omega) rfl (by simp) hle
 have z0:fZ g (tx++bR (rF r [a0,ak,r.aq])) e5 [] (rD g 8 tx (bR (rF r [a0,ak,r.aq])) r e5 [⟨9,.ag (strs [a0])⟩,Sx.aa,Sx.aa,⟨9,.ag (strs [ak,r.aq])⟩,⟨9,.own 1 7 (strs (rF r [a0,ak,r.aq]))⟩]):=⟨8,rfl,rfl,rfl⟩
 refine bQ [.agg r.cells.toArray] h (pH g p r b1 b2 ck e1 e2 [(27,.al (fH 3 1 (strs [a0]))),(34,.is (.bool true)),(39,.is (.bool false)),(43,.is (.bool bo)),(46,wH g p e3),(50,.bin (.bool false)),(54,.call (.bool b4)),(56,wH g p e4),(60,.bin (.bool true)),(66,wH g p e5),(70,.cC 9 1),(75,.bin (.bool true)),(83,.bin (.bool false)),(91,.al (il [7] 0 1 8 (some g) (tx++bR (rF r [a0,ak,r.aq])) e5 (.tuple #[])))]) [] (by kernel_rfl) Tryz.func74 rfl (Nat.le_of_ble_eq_true rfl) ?_
 exact Eq.mp (by kernel_rfl) (Sx.t8 dK c12 cx c21 c22 c27 c34 c39 (Sx.t8 c43 c46 c50 iF c56 c60 c66 c72 (Sx.t4 c75 c80 c83 c91 z0)))
theorem Lg{a0:Bs}(h:Tx w g p A c tx e)(H:gz w g p A tx r b1 b2 b4 b5 bo ck e e1 e2 e3 e4 e5)(ha:aH r.act r.out=[a0])(hg:r.out≥0)(hz:¬r.out=0)(hb:bo=decide (r.act=3))(hm:decide (r.aq=[])=false)(hi:decide (r.ai=[])=false)(hle:pJ tx (rF r [a0,ak,r.aq,ae,r.ai])):pK w g A tx r (rF r [a0,ak,r.aq,ae,r.ai]) e5:=by
 have dK:=H.dK;have cx:=H.cx;have c21:=H.c21
 have c34:Value.bool (decide (r.out≥0))=.bool true:=dQ (decide_eq_true hg)
 have c39:Value.bool (r.out==0)=.bool false:=dY (beq_eq_false_iff_ne.2 hz)
 have c43:Value.bool (r.act==3)=.bool bo:=by rw[hb];rfl
 have c50:=se 49 hm;have c60:=se 59 hi
 have iF:=H.iF (of_decide_eq_false hm)
 have iQ:=H.iQ (of_decide_eq_false hi)
 have c75:=sn (b:=true) 74 hm;have c83:=sn (b:=true) 82 hi
 have c12:=au w g p A tx r 3 [] H.h1
 have c22:=au w g p A tx r 3 [] H.h2
 have c27:=fun W β (hS:Sx.cw (nr w g A) β W (Sx.rowAt (rL g p tx r e2 [])) [])=>bh (m:=3) ha (by simp) H.o0 H.o1 H.hl W β hS
 have c46:=au w g p A tx r 4 [⟨9,.ag (strs [a0])⟩] H.h3
 have c56:=au w g p A tx r 4 [⟨9,.ag (strs [a0])⟩] H.h4
 have c66:=au w g p A tx r 4 [⟨9,.ag (strs [a0])⟩] H.h5
 have c72:=aU [a0] 4 1 rfl (by decide)
 have c80:=aU [ak,r.aq] 5 2 rfl (by decide)
 have c88:=aU [ae,r.ai] 7 2 rfl (by decide)
 have c91:=cQ w g p A tx r e5 [⟨9,.ag (strs [a0])⟩,Sx.aa,Sx.aa,⟨9,.ag (strs [ak,r.aq])⟩,Sx.aa,⟨9,.ag (strs [ae,r.ai])⟩,⟨9,.own 1 9 (strs (rF r [a0,ak,r.aq,ae,r.ai]))⟩] 9 10 (rF r [a0,ak,r.aq,ae,r.ai]) (by omega) rfl (by simp) hle
 have z0:fZ g (tx++bR (rF r [a0,ak,r.aq,ae,r.ai])) e5 [] (rD g 10 tx (bR (rF r [a0,ak,r.aq,ae,r.ai])) r e5 [⟨9,.ag (strs [a0])⟩,Sx.aa,Sx.aa,⟨9,.ag (strs [ak,r.aq])⟩,Sx.aa,⟨9,.ag (strs [ae,r.ai])⟩,⟨9,.own 1 9 (strs (rF r [a0,ak,r.aq,ae,r.ai]))⟩]):=⟨10,rfl,rfl,rfl⟩
 refine bQ [.agg r.cells.toArray] h (pH g p r b1 b2 ck e1 e2 [(27,.al (fH 3 1 (strs [a0]))),(34,.is (.bool true)),(39,.is (.bool false)),(43,.is (.bool bo)),(46,wH g p e3),(50,.bin (.bool false)),(54,.call (.bool b4)),(56,wH g p e4),(60,.bin (.bool false)),(64,.call (.bool b5)),(66,wH g p e5),(70,.cC 9 1),(75,.bin (.bool true)),(83,.bin (.bool true)),(91,.al (il [9] 0 1 10 (some g) (tx++bR (rF r [a0,ak,r.aq,ae,r.ai])) e5 (.tuple #[])))]) [] (by kernel_rfl) Tryz.func74 rfl (Nat.le_of_ble_eq_true rfl) ?_
 exact Eq.mp (by kernel_rfl) (Sx.t8 dK c12 cx c21 c22 c27 c34 c39 (Sx.t8 c43 c46 c50 iF c56 c60 iQ c66 (Sx.t4 c72 c75 c80 c83 (Sx.t2 c88 c91 z0))))
theorem Lf{a0 a1:Bs}(h:Tx w g p A c tx e)(H:gz w g p A tx r b1 b2 true true false ck e e1 e2 e3 e4 e5)(ha:aH r.act r.out=[a0,a1])(hg:¬r.out≥0)(hm:decide (r.aq=[])=true)(hi:decide (r.ai=[])=true)(hle:pJ tx (rF r [a0,a1])):pK w g A tx r (rF r [a0,a1]) e5:=by
 have dK:=H.dK;have cx:=H.cx;have c21:=H.c21
 have c34:Value.bool (decide (r.out≥0))=.bool false:=dY (decide_eq_false hg)
 have c50:=se 49 hm;have c60:=se 59 hi
 have c75:=sn (b:=false) 74 hm;have c83:=sn (b:=false) 82 hi
 have c12:=au w g p A tx r 3 [] H.h1
 have c22:=au w g p A tx r 3 [] H.h2
 have c27:=fun W β (hS:Sx.cw (nr w g A) β W (Sx.rowAt (rL g p tx r e2 [])) [])=>bh (m:=3) ha (by simp) H.o0 H.o1 H.hl W β hS
 have c46:=au w g p A tx r 4 [⟨9,.ag (strs [a0,a1])⟩] H.h3
 have c56:=au w g p A tx r 4 [⟨9,.ag (strs [a0,a1])⟩] H.h4
 have c66:=au w g p A tx r 4 [⟨9,.ag (strs [a0,a1])⟩] H.h5
 have c72:=aU [a0,a1] 4 2 rfl (by decide)
 have c91:=cQ w g p A tx r e5 [⟨9,.ag (strs [a0,a1])⟩,Sx.aa,⟨9,.own 1 6 (strs (rF r [a0,a1]))⟩] 5 6 (rF r [a0,a1]) (by omega) rfl (by simp) hle
 have z0:fZ g (tx++bR (rF r [a0,a1])) e5 [] (rD g 6 tx (bR (rF r [a0,a1])) r e5 [⟨9,.ag (strs [a0,a1])⟩,Sx.aa,⟨9,.own 1 6 (strs (rF r [a0,a1]))⟩]):=⟨6,rfl,rfl,rfl⟩
 refine bQ [.agg r.cells.toArray] h (pH g p r b1 b2 ck e1 e2 [(27,.al (fH 3 2 (strs [a0,a1]))),(34,.is (.bool false)),(46,wH g p e3),(50,.bin (.bool true)),(56,wH g p e4),(60,.bin (.bool true)),(66,wH g p e5),(70,.cC 9 1),(75,.bin (.bool false)),(83,.bin (.bool false)),(91,.al (il [5] 0 1 6 (some g) (tx++bR (rF r [a0,a1])) e5 (.tuple #[])))]) [] (by kernel_rfl) Tryz.func74 rfl (Nat.le_of_ble_eq_true rfl) ?_
 exact Eq.mp (by kernel_rfl) (Sx.t8 dK c12 cx c21 c22 c27 c34 c46 (Sx.t8 c50 c56 c60 c66 c72 c75 c83 c91 z0))
theorem Le{a0 a1:Bs}(h:Tx w g p A c tx e)(H:gz w g p A tx r b1 b2 true b5 false ck e e1 e2 e3 e4 e5)(ha:aH r.act r.out=[a0,a1])(hg:¬r.out≥0)(hm:decide (r.aq=[])=true)(hi:decide (r.ai=[])=false)(hle:pJ tx (rF r [a0,a1,ae,r.ai])):pK w g A tx r (rF r [a0,a1,ae,r.ai]) e5:=by
 have dK:=H.dK;have cx:=H.cx;have c21:=H.c21
 have c34:Value.bool (decide (r.out≥0))=.bool false:=dY (decide_eq_false hg)
 have c50:=se 49 hm;have c60:=se 59 hi
 have iQ:=H.iQ (of_decide_eq_false hi)
 have c75:=sn (b:=false) 74 hm;have c83:=sn (b:=true) 82 hi
 have c12:=au w g p A tx r 3 [] H.h1
 have c22:=au w g p A tx r 3 [] H.h2
 have c27:=fun W β (hS:Sx.cw (nr w g A) β W (Sx.rowAt (rL g p tx r e2 [])) [])=>bh (m:=3) ha (by simp) H.o0 H.o1 H.hl W β hS
 have c46:=au w g p A tx r 4 [⟨9,.ag (strs [a0,a1])⟩] H.h3
 have c56:=au w g p A tx r 4 [⟨9,.ag (strs [a0,a1])⟩] H.h4
 have c66:=au w g p A tx r 4 [⟨9,.ag (strs [a0,a1])⟩] H.h5
 have c72:=aU [a0,a1] 4 2 rfl (by decide)
 have c88:=aU [ae,r.ai] 6 2 rfl (by decide)
 have c91:=cQ w g p A tx r e5 [⟨9,.ag (strs [a0,a1])⟩,Sx.aa,Sx.aa,⟨9,.ag (strs [ae,r.ai])⟩,⟨9,.own 1 8 (strs (rF r [a0,a1,ae,r.ai]))⟩] 7 8 (rF r [a0,a1,ae,r.ai]) (by omega) rfl (by simp) hle
 have z0:fZ g (tx++bR (rF r [a0,a1,ae,r.ai])) e5 [] (rD g 8 tx (bR (rF r [a0,a1,ae,r.ai])) r e5 [⟨9,.ag (strs [a0,a1])⟩,Sx.aa,Sx.aa,⟨9,.ag (strs [ae,r.ai])⟩,⟨9,.own 1 8 (strs (rF r [a0,a1,ae,r.ai]))⟩]):=⟨8,rfl,rfl,rfl⟩
 refine bQ [.agg r.cells.toArray] h (pH g p r b1 b2 ck e1 e2 [(27,.al (fH 3 2 (strs [a0,a1]))),(34,.is (.bool false)),(46,wH g p e3),(50,.bin (.bool true)),(56,wH g p e4),(60,.bin (.bool false)),(64,.call (.bool b5)),(66,wH g p e5),(70,.cC 9 1),(75,.bin (.bool false)),(83,.bin (.bool true)),(91,.al (il [7] 0 1 8 (some g) (tx++bR (rF r [a0,a1,ae,r.ai])) e5 (.tuple #[])))]) [] (by kernel_rfl) Tryz.func74 rfl (Nat.le_of_ble_eq_true rfl) ?_
 exact Eq.mp (by kernel_rfl) (Sx.t8 dK c12 cx c21 c22 c27 c34 c46 (Sx.t8 c50 c56 c60 iQ c66 c72 c75 c83 (Sx.t2 c88 c91 z0)))
theorem Ld{a0 a1:Bs}(h:Tx w g p A c tx e)(H:gz w g p A tx r b1 b2 b4 true false ck e e1 e2 e3 e4 e5)(ha:aH r.act r.out=[a0,a1])(hg:¬r.out≥0)(hm:decide (r.aq=[])=false)(hi:decide (r.ai=[])=true)(hle:pJ tx (rF r [a0,a1,ak,r.aq])):pK w g A tx r (rF r [a0,a1,ak,r.aq]) e5:=by
 have dK:=H.dK;have cx:=H.cx;have c21:=H.c21
 have c34:Value.bool (decide (r.out≥0))=.bool false:=dY (decide_eq_false hg)
 have c50:=se 49 hm;have c60:=se 59 hi
 have iF:=H.iF (of_decide_eq_false hm)
 have c75:=sn (b:=true) 74 hm;have c83:=sn (b:=false) 82 hi
 have c12:=au w g p A tx r 3 [] H.h1
 have c22:=au w g p A tx r 3 [] H.h2
 have c27:=fun W β (hS:Sx.cw (nr w g A) β W (Sx.rowAt (rL g p tx r e2 [])) [])=>bh (m:=3) ha (by simp) H.o0 H.o1 H.hl W β hS
 have c46:=au w g p A tx r 4 [⟨9,.ag (strs [a0,a1])⟩] H.h3
 have c56:=au w g p A tx r 4 [⟨9,.ag (strs [a0,a1])⟩] H.h4
 have c66:=au w g p A tx r 4 [⟨9,.ag (strs [a0,a1])⟩] H.h5
 have c72:=aU [a0,a1] 4 2 rfl (by decide)
 have c80:=aU [ak,r.aq] 6 2 rfl (by decide)
 have c91:=cQ w g p A tx r e5 [⟨9,.ag (strs [a0,a1])⟩,Sx.aa,Sx.aa,⟨9,.ag (strs [ak,r.aq])⟩,⟨9,.own 1 8 (strs (rF r [a0,a1,ak,r.aq]))⟩] 7 8 (rF r [a0,a1,ak,r.aq]) (by omega) rfl (by simp) hle
 have z0:fZ g (tx++bR (rF r [a0,a1,ak,r.aq])) e5 [] (rD g 8 tx (bR (rF r [a0,a1,ak,r.aq])) r e5 [⟨9,.ag (strs [a0,a1])⟩,Sx.aa,Sx.aa,⟨9,.ag (strs [ak,r.aq])⟩,⟨9,.own 1 8 (strs (rF r [a0,a1,ak,r.aq]))⟩]):=⟨8,rfl,rfl,rfl⟩
 refine bQ [.agg r.cells.toArray] h (pH g p r b1 b2 ck e1 e2 [(27,.al (fH 3 2 (strs [a0,a1]))),(34,.is (.bool false)),(46,wH g p e3),(50,.bin (.bool false)),(54,.call (.bool b4)),(56,wH g p e4),(60,.bin (.bool true)),(66,wH g p e5),(70,.cC 9 1),(75,.bin (.bool true)),(83,.bin (.bool false)),(91,.al (il [7] 0 1 8 (some g) (tx++bR (rF r [a0,a1,ak,r.aq])) e5 (.tuple #[])))]) [] (by kernel_rfl) Tryz.func74 rfl (Nat.le_of_ble_eq_true rfl) ?_
 exact Eq.mp (by kernel_rfl) (Sx.t8 dK c12 cx c21 c22 c27 c34 c46 (Sx.t8 c50 iF c56 c60 c66 c72 c75 c80 (Sx.t2 c83 c91 z0)))
theorem Lc{a0 a1:Bs}(h:Tx w g p A c tx e)(H:gz w g p A tx r b1 b2 b4 b5 false ck e e1 e2 e3 e4 e5)(ha:aH r.act r.out=[a0,a1])(hg:¬r.out≥0)(hm:decide (r.aq=[])=false)(hi:decide (r.ai=[])=false)(hle:pJ tx (rF r [a0,a1,ak,r.aq,ae,r.ai])):pK w g A tx r (rF r [a0,a1,ak,r.aq,ae,r.ai]) e5:=by
 have dK:=H.dK;have cx:=H.cx;have c21:=H.c21
 have c34:Value.bool (decide (r.out≥0))=.bool false:=dY (decide_eq_false hg)
 have c50:=se 49 hm;have c60:=se 59 hi
 have iF:=H.iF (of_decide_eq_false hm)
 have iQ:=H.iQ (of_decide_eq_false hi)
 have c75:=sn (b:=true) 74 hm;have c83:=sn (b:=true) 82 hi
 have c12:=au w g p A tx r 3 [] H.h1
 have c22:=au w g p A tx r 3 [] H.h2
 have c27:=fun W β (hS:Sx.cw (nr w g A) β W (Sx.rowAt (rL g p tx r e2 [])) [])=>bh (m:=3) ha (by simp) H.o0 H.o1 H.hl W β hS
 have c46:=au w g p A tx r 4 [⟨9,.ag (strs [a0,a1])⟩] H.h3
 have c56:=au w g p A tx r 4 [⟨9,.ag (strs [a0,a1])⟩] H.h4
 have c66:=au w g p A tx r 4 [⟨9,.ag (strs [a0,a1])⟩] H.h5
 have c72:=aU [a0,a1] 4 2 rfl (by decide)
 have c80:=aU [ak,r.aq] 6 2 rfl (by decide)
 have c88:=aU [ae,r.ai] 8 2 rfl (by decide)
 have c91:=cQ w g p A tx r e5 [⟨9,.ag (strs [a0,a1])⟩,Sx.aa,Sx.aa,⟨9,.ag (strs [ak,r.aq])⟩,Sx.aa,⟨9,.ag (strs [ae,r.ai])⟩,⟨9,.own 1 10 (strs (rF r [a0,a1,ak,r.aq,ae,r.ai]))⟩] 9 10 (rF r [a0,a1,ak,r.aq,ae,r.ai]) (by omega) rfl (by simp) hle
 have z0:fZ g (tx++bR (rF r [a0,a1,ak,r.aq,ae,r.ai])) e5 [] (rD g 10 tx (bR (rF r [a0,a1,ak,r.aq,ae,r.ai])) r e5 [⟨9,.ag (strs [a0,a1])⟩,Sx.aa,Sx.aa,⟨9,.ag (strs [ak,r.aq])⟩,Sx.aa,⟨9,.ag (strs [ae,r.ai])⟩,⟨9,.own 1 10 (strs (rF r [a0,a1,ak,r.aq,ae,r.ai]))⟩]):=⟨10,rfl,rfl,rfl⟩
 refine bQ [.agg r.cells.toArray] h (pH g p r b1 b2 ck e1 e2 [(27,.al (fH 3 2 (strs [a0,a1]))),(34,.is (.bool false)),(46,wH g p e3),(50,.bin (.bool false)),(54,.call (.bool b4)),(56,wH g p e4),(60,.bin (.bool false)),(64,.call (.bool b5)),(66,wH g p e5),(70,.cC 9 1),(75,.bin (.bool true)),(83,.bin (.bool true)),(91,.al (il [9] 0 1 10 (some g) (tx++bR (rF r [a0,a1,ak,r.aq,ae,r.ai])) e5 (.tuple #[])))]) [] (by kernel_rfl) Tryz.func74 rfl (Nat.le_of_ble_eq_true rfl) ?_
 exact Eq.mp (by kernel_rfl) (Sx.t8 dK c12 cx c21 c22 c27 c34 c46 (Sx.t8 c50 iF c56 c60 iQ c66 c72 c75 (Sx.t4 c80 c83 c88 c91 z0)))
theorem Lb{a0 a1:Bs}(h:Tx w g p A c tx e)(H:gz w g p A tx r b1 b2 true true true ck e e1 e2 e3 e4 e5)(ha:aH r.act r.out=[a0,a1])(hg:r.out≥0)(hz:r.out=0)(hm:decide (r.aq=[])=true)(hi:decide (r.ai=[])=true)(hle:pJ tx (rF r [a0,a1])):pK w g A tx r (rF r [a0,a1]) e5:=by
 have dK:=H.dK;have cx:=H.cx;have c21:=H.c21
 have c34:Value.bool (decide (r.out≥0))=.bool true:=dQ (decide_eq_true hg)
 have c39:Value.bool (r.out==0)=.bool true:=dQ (by rw[hz];rfl)
 have c50:=se 49 hm;have c60:=se 59 hi
 have c75:=sn (b:=false) 74 hm;have c83:=sn (b:=false) 82 hi
 have c12:=au w g p A tx r 3 [] H.h1
 have c22:=au w g p A tx r 3 [] H.h2
 have c27:=fun W β (hS:Sx.cw (nr w g A) β W (Sx.rowAt (rL g p tx r e2 [])) [])=>bh (m:=3) ha (by simp) H.o0 H.o1 H.hl W β hS
 have c46:=au w g p A tx r 4 [⟨9,.ag (strs [a0,a1])⟩] H.h3
 have c56:=au w g p A tx r 4 [⟨9,.ag (strs [a0,a1])⟩] H.h4
 have c66:=au w g p A tx r 4 [⟨9,.ag (strs [a0,a1])⟩] H.h5
 have c72:=aU [a0,a1] 4 2 rfl (by decide)
 have c91:=cQ w g p A tx r e5 [⟨9,.ag (strs [a0,a1])⟩,Sx.aa,⟨9,.own 1 6 (strs (rF r [a0,a1]))⟩] 5 6 (rF r [a0,a1]) (by omega) rfl (by simp) hle
 have z0:fZ g (tx++bR (rF r [a0,a1])) e5 [] (rD g 6 tx (bR (rF r [a0,a1])) r e5 [⟨9,.ag (strs [a0,a1])⟩,Sx.aa,⟨9,.own 1 6 (strs (rF r [a0,a1]))⟩]):=⟨6,rfl,rfl,rfl⟩
 refine bQ [.agg r.cells.toArray] h (pH g p r b1 b2 ck e1 e2 [(27,.al (fH 3 2 (strs [a0,a1]))),(34,.is (.bool true)),(39,.is (.bool true)),(46,wH g p e3),(50,.bin (.bool true)),(56,wH g p e4),(60,.bin (.bool true)),(66,wH g p e5),(70,.cC 9 1),(75,.bin (.bool false)),(83,.bin (.bool false)),(91,.al (il [5] 0 1 6 (some g) (tx++bR (rF r [a0,a1])) e5 (.tuple #[])))]) [] (by kernel_rfl) Tryz.func74 rfl (Nat.le_of_ble_eq_true rfl) ?_
 exact Eq.mp (by kernel_rfl) (Sx.t8 dK c12 cx c21 c22 c27 c34 c39 (Sx.t8 c46 c50 c56 c60 c66 c72 c75 c83 (And.intro c91 z0)))
theorem La{a0 a1:Bs}(h:Tx w g p A c tx e)(H:gz w g p A tx r b1 b2 true b5 true ck e e1 e2 e3 e4 e5)(ha:aH r.act r.out=[a0,a1])(hg:r.out≥0)(hz:r.out=0)(hm:decide (r.aq=[])=true)(hi:decide (r.ai=[])=false)(hle:pJ tx (rF r [a0,a1,ae,r.ai])):pK w g A tx r (rF r [a0,a1,ae,r.ai]) e5:=by
 have dK:=H.dK;have cx:=H.cx;have c21:=H.c21
 have c34:Value.bool (decide (r.out≥0))=.bool true:=dQ (decide_eq_true hg)
 have c39:Value.bool (r.out==0)=.bool true:=dQ (by rw[hz];rfl)
 have c50:=se 49 hm;have c60:=se 59 hi
 have iQ:=H.iQ (of_decide_eq_false hi)
 have c75:=sn (b:=false) 74 hm;have c83:=sn (b:=true) 82 hi
 have c12:=au w g p A tx r 3 [] H.h1
 have c22:=au w g p A tx r 3 [] H.h2
 have c27:=fun W β (hS:Sx.cw (nr w g A) β W (Sx.rowAt (rL g p tx r e2 [])) [])=>bh (m:=3) ha (by simp) H.o0 H.o1 H.hl W β hS
 have c46:=au w g p A tx r 4 [⟨9,.ag (strs [a0,a1])⟩] H.h3
 have c56:=au w g p A tx r 4 [⟨9,.ag (strs [a0,a1])⟩] H.h4
 have c66:=au w g p A tx r 4 [⟨9,.ag (strs [a0,a1])⟩] H.h5
 have c72:=aU [a0,a1] 4 2 rfl (by decide)
 have c88:=aU [ae,r.ai] 6 2 rfl (by decide)
 have c91:=cQ w g p A tx r e5 [⟨9,.ag (strs [a0,a1])⟩,Sx.aa,Sx.aa,⟨9,.ag (strs [ae,r.ai])⟩,⟨9,.own 1 8 (strs (rF r [a0,a1,ae,r.ai]))⟩] 7 8 (rF r [a0,a1,ae,r.ai]) (by omega) rfl (by simp) hle
 have z0:fZ g (tx++bR (rF r [a0,a1,ae,r.ai])) e5 [] (rD g 8 tx (bR (rF r [a0,a1,ae,r.ai])) r e5 [⟨9,.ag (strs [a0,a1])⟩,Sx.aa,Sx.aa,⟨9,.ag (strs [ae,r.ai])⟩,⟨9,.own 1 8 (strs (rF r [a0,a1,ae,r.ai]))⟩]):=⟨8,rfl,rfl,rfl⟩
 refine bQ [.agg r.cells.toArray] h (pH g p r b1 b2 ck e1 e2 [(27,.al (fH 3 2 (strs [a0,a1]))),(34,.is (.bool true)),(39,.is (.bool true)),(46,wH g p e3),(50,.bin (.bool true)),(56,wH g p e4),(60,.bin (.bool false)),(64,.call (.bool b5)),(66,wH g p e5),(70,.cC 9 1),(75,.bin (.bool false)),(83,.bin (.bool true)),(91,.al (il [7] 0 1 8 (some g) (tx++bR (rF r [a0,a1,ae,r.ai])) e5 (.tuple #[])))]) [] (by kernel_rfl) Tryz.func74 rfl (Nat.le_of_ble_eq_true rfl) ?_
 exact Eq.mp (by kernel_rfl) (Sx.t8 dK c12 cx c21 c22 c27 c34 c39 (Sx.t8 c46 c50 c56 c60 iQ c66 c72 c75 (Sx.t2 c83 c88 (And.intro c91 z0))))
theorem K9{a0 a1:Bs}(h:Tx w g p A c tx e)(H:gz w g p A tx r b1 b2 b4 true true ck e e1 e2 e3 e4 e5)(ha:aH r.act r.out=[a0,a1])(hg:r.out≥0)(hz:r.out=0)(hm:decide (r.aq=[])=false)(hi:decide (r.ai=[])=true)(hle:pJ tx (rF r [a0,a1,ak,r.aq])):pK w g A tx r (rF r [a0,a1,ak,r.aq]) e5:=by
 have dK:=H.dK;have cx:=H.cx;have c21:=H.c21
 have c34:Value.bool (decide (r.out≥0))=.bool true:=dQ (decide_eq_true hg)
 have c39:Value.bool (r.out==0)=.bool true:=dQ (by rw[hz];rfl)
 have c50:=se 49 hm;have c60:=se 59 hi
 have iF:=H.iF (of_decide_eq_false hm)
 have c75:=sn (b:=true) 74 hm;have c83:=sn (b:=false) 82 hi
 have c12:=au w g p A tx r 3 [] H.h1
 have c22:=au w g p A tx r 3 [] H.h2
 have c27:=fun W β (hS:Sx.cw (nr w g A) β W (Sx.rowAt (rL g p tx r e2 [])) [])=>bh (m:=3) ha (by simp) H.o0 H.o1 H.hl W β hS
 have c46:=au w g p A tx r 4 [⟨9,.ag (strs [a0,a1])⟩] H.h3
 have c56:=au w g p A tx r 4 [⟨9,.ag (strs [a0,a1])⟩] H.h4
 have c66:=au w g p A tx r 4 [⟨9,.ag (strs [a0,a1])⟩] H.h5
 have c72:=aU [a0,a1] 4 2 rfl (by decide)
 have c80:=aU [ak,r.aq] 6 2 rfl (by decide)
 have c91:=cQ w g p A tx r e5 [⟨9,.ag (strs [a0,a1])⟩,Sx.aa,Sx.aa,⟨9,.ag (strs [ak,r.aq])⟩,⟨9,.own 1 8 (strs (rF r [a0,a1,ak,r.aq]))⟩] 7 8 (rF r [a0,a1,ak,r.aq]) (by omega) rfl (by simp) hle
 have z0:fZ g (tx++bR (rF r [a0,a1,ak,r.aq])) e5 [] (rD g 8 tx (bR (rF r [a0,a1,ak,r.aq])) r e5 [⟨9,.ag (strs [a0,a1])⟩,Sx.aa,Sx.aa,⟨9,.ag (strs [ak,r.aq])⟩,⟨9,.own 1 8 (strs (rF r [a0,a1,ak,r.aq]))⟩]):=⟨8,rfl,rfl,rfl⟩
 refine bQ [.agg r.cells.toArray] h (pH g p r b1 b2 ck e1 e2 [(27,.al (fH 3 2 (strs [a0,a1]))),(34,.is (.bool true)),(39,.is (.bool true)),(46,wH g p e3),(50,.bin (.bool false)),(54,.call (.bool b4)),(56,wH g p e4),(60,.bin (.bool true)),(66,wH g p e5),(70,.cC 9 1),(75,.bin (.bool true)),(83,.bin (.bool false)),(91,.al (il [7] 0 1 8 (some g) (tx++bR (rF r [a0,a1,ak,r.aq])) e5 (.tuple #[])))]) [] (by kernel_rfl) Tryz.func74 rfl (Nat.le_of_ble_eq_true rfl) ?_
 exact Eq.mp (by kernel_rfl) (Sx.t8 dK c12 cx c21 c22 c27 c34 c39 (Sx.t8 c46 c50 iF c56 c60 c66 c72 c75 (Sx.t2 c80 c83 (And.intro c91 z0))))
theorem K8{a0 a1:Bs}(h:Tx w g p A c tx e)(H:gz w g p A tx r b1 b2 b4 b5 true ck e e1 e2 e3 e4 e5)(ha:aH r.act r.out=[a0,a1])(hg:r.out≥0)(hz:r.out=0)(hm:decide (r.aq=[])=false)(hi:decide (r.ai=[])=false)(hle:pJ tx (rF r [a0,a1,ak,r.aq,ae,r.ai])):pK w g A tx r (rF r [a0,a1,ak,r.aq,ae,r.ai]) e5:=by
 have dK:=H.dK;have cx:=H.cx;have c21:=H.c21
 have c34:Value.bool (decide (r.out≥0))=.bool true:=dQ (decide_eq_true hg)
 have c39:Value.bool (r.out==0)=.bool true:=dQ (by rw[hz];rfl)
 have c50:=se 49 hm;have c60:=se 59 hi
 have iF:=H.iF (of_decide_eq_false hm)
 have iQ:=H.iQ (of_decide_eq_false hi)
 have c75:=sn (b:=true) 74 hm;have c83:=sn (b:=true) 82 hi
 have c12:=au w g p A tx r 3 [] H.h1
 have c22:=au w g p A tx r 3 [] H.h2
 have c27:=fun W β (hS:Sx.cw (nr w g A) β W (Sx.rowAt (rL g p tx r e2 [])) [])=>bh (m:=3) ha (by simp) H.o0 H.o1 H.hl W β hS
 have c46:=au w g p A tx r 4 [⟨9,.ag (strs [a0,a1])⟩] H.h3
 have c56:=au w g p A tx r 4 [⟨9,.ag (strs [a0,a1])⟩] H.h4
 have c66:=au w g p A tx r 4 [⟨9,.ag (strs [a0,a1])⟩] H.h5
 have c72:=aU [a0,a1] 4 2 rfl (by decide)
 have c80:=aU [ak,r.aq] 6 2 rfl (by decide)
 have c88:=aU [ae,r.ai] 8 2 rfl (by decide)
 have c91:=cQ w g p A tx r e5 [⟨9,.ag (strs [a0,a1])⟩,Sx.aa,Sx.aa,⟨9,.ag (strs [ak,r.aq])⟩,Sx.aa,⟨9,.ag (strs [ae,r.ai])⟩,⟨9,.own 1 10 (strs (rF r [a0,a1,ak,r.aq,ae,r.ai]))⟩] 9 10 (rF r [a0,a1,ak,r.aq,ae,r.ai]) (by omega) rfl (by simp) hle
 have z0:fZ g (tx++bR (rF r [a0,a1,ak,r.aq,ae,r.ai])) e5 [] (rD g 10 tx (bR (rF r [a0,a1,ak,r.aq,ae,r.ai])) r e5 [⟨9,.ag (strs [a0,a1])⟩,Sx.aa,Sx.aa,⟨9,.ag (strs [ak,r.aq])⟩,Sx.aa,⟨9,.ag (strs [ae,r.ai])⟩,⟨9,.own 1 10 (strs (rF r [a0,a1,ak,r.aq,ae,r.ai]))⟩]):=⟨10,rfl,rfl,rfl⟩
 refine bQ [.agg r.cells.toArray] h (pH g p r b1 b2 ck e1 e2 [(27,.al (fH 3 2 (strs [a0,a1]))),(34,.is (.bool true)),(39,.is (.bool true)),(46,wH g p e3),(50,.bin (.bool false)),(54,.call (.bool b4)),(56,wH g p e4),(60,.bin (.bool false)),(64,.call (.bool b5)),(66,wH g p e5),(70,.cC 9 1),(75,.bin (.bool true)),(83,.bin (.bool true)),(91,.al (il [9] 0 1 10 (some g) (tx++bR (rF r [a0,a1,ak,r.aq,ae,r.ai])) e5 (.tuple #[])))]) [] (by kernel_rfl) Tryz.func74 rfl (Nat.le_of_ble_eq_true rfl) ?_
 exact Eq.mp (by kernel_rfl) (Sx.t8 dK c12 cx c21 c22 c27 c34 c39 (Sx.t8 c46 c50 iF c56 c60 iQ c66 c72 (Sx.t4 c75 c80 c83 c88 (And.intro c91 z0))))
theorem K7{a0 a1:Bs}(h:Tx w g p A c tx e)(H:gz w g p A tx r b1 b2 true true bo ck e e1 e2 e3 e4 e5)(ha:aH r.act r.out=[a0,a1])(hg:r.out≥0)(hz:¬r.out=0)(hb:bo=decide (r.act=3))(hm:decide (r.aq=[])=true)(hi:decide (r.ai=[])=true)(hle:pJ tx (rF r [a0,a1])):pK w g A tx r (rF r [a0,a1]) e5:=by
 have dK:=H.dK;have cx:=H.cx;have c21:=H.c21
 have c34:Value.bool (decide (r.out≥0))=.bool true:=dQ (decide_eq_true hg)
 have c39:Value.bool (r.out==0)=.bool false:=dY (beq_eq_false_iff_ne.2 hz)
 have c43:Value.bool (r.act==3)=.bool bo:=by rw[hb];rfl
 have c50:=se 49 hm;have c60:=se 59 hi
 have c75:=sn (b:=false) 74 hm;have c83:=sn (b:=false) 82 hi
 have c12:=au w g p A tx r 3 [] H.h1
 have c22:=au w g p A tx r 3 [] H.h2
 have c27:=fun W β (hS:Sx.cw (nr w g A) β W (Sx.rowAt (rL g p tx r e2 [])) [])=>bh (m:=3) ha (by simp) H.o0 H.o1 H.hl W β hS
 have c46:=au w g p A tx r 4 [⟨9,.ag (strs [a0,a1])⟩] H.h3
 have c56:=au w g p A tx r 4 [⟨9,.ag (strs [a0,a1])⟩] H.h4
 have c66:=au w g p A tx r 4 [⟨9,.ag (strs [a0,a1])⟩] H.h5
 have c72:=aU [a0,a1] 4 2 rfl (by decide)
 have c91:=cQ w g p A tx r e5 [⟨9,.ag (strs [a0,a1])⟩,Sx.aa,⟨9,.own 1 6 (strs (rF r [a0,a1]))⟩] 5 6 (rF r [a0,a1]) (by omega) rfl (by simp) hle
 have z0:fZ g (tx++bR (rF r [a0,a1])) e5 [] (rD g 6 tx (bR (rF r [a0,a1])) r e5 [⟨9,.ag (strs [a0,a1])⟩,Sx.aa,⟨9,.own 1 6 (strs (rF r [a0,a1]))⟩]):=⟨6,rfl,rfl,rfl⟩
 refine bQ [.agg r.cells.toArray] h (pH g p r b1 b2 ck e1 e2 [(27,.al (fH 3 2 (strs [a0,a1]))),(34,.is (.bool true)),(39,.is (.bool false)),(43,.is (.bool bo)),(46,wH g p e3),(50,.bin (.bool true)),(56,wH g p e4),(60,.bin (.bool true)),(66,wH g p e5),(70,.cC 9 1),(75,.bin (.bool false)),(83,.bin (.bool false)),(91,.al (il [5] 0 1 6 (some g) (tx++bR (rF r [a0,a1])) e5 (.tuple #[])))]) [] (by kernel_rfl) Tryz.func74 rfl (Nat.le_of_ble_eq_true rfl) ?_
 exact Eq.mp (by kernel_rfl) (Sx.t8 dK c12 cx c21 c22 c27 c34 c39 (Sx.t8 c43 c46 c50 c56 c60 c66 c72 c75 (Sx.t2 c83 c91 z0)))
theorem K6{a0 a1:Bs}(h:Tx w g p A c tx e)(H:gz w g p A tx r b1 b2 true b5 bo ck e e1 e2 e3 e4 e5)(ha:aH r.act r.out=[a0,a1])(hg:r.out≥0)(hz:¬r.out=0)(hb:bo=decide (r.act=3))(hm:decide (r.aq=[])=true)(hi:decide (r.ai=[])=false)(hle:pJ tx (rF r [a0,a1,ae,r.ai])):pK w g A tx r (rF r [a0,a1,ae,r.ai]) e5:=by
 have dK:=H.dK;have cx:=H.cx;have c21:=H.c21
 have c34:Value.bool (decide (r.out≥0))=.bool true:=dQ (decide_eq_true hg)
 have c39:Value.bool (r.out==0)=.bool false:=dY (beq_eq_false_iff_ne.2 hz)
 have c43:Value.bool (r.act==3)=.bool bo:=by rw[hb];rfl
 have c50:=se 49 hm;have c60:=se 59 hi
 have iQ:=H.iQ (of_decide_eq_false hi)
 have c75:=sn (b:=false) 74 hm;have c83:=sn (b:=true) 82 hi
 have c12:=au w g p A tx r 3 [] H.h1
 have c22:=au w g p A tx r 3 [] H.h2
 have c27:=fun W β (hS:Sx.cw (nr w g A) β W (Sx.rowAt (rL g p tx r e2 [])) [])=>bh (m:=3) ha (by simp) H.o0 H.o1 H.hl W β hS
 have c46:=au w g p A tx r 4 [⟨9,.ag (strs [a0,a1])⟩] H.h3
 have c56:=au w g p A tx r 4 [⟨9,.ag (strs [a0,a1])⟩] H.h4
 have c66:=au w g p A tx r 4 [⟨9,.ag (strs [a0,a1])⟩] H.h5
 have c72:=aU [a0,a1] 4 2 rfl (by decide)
 have c88:=aU [ae,r.ai] 6 2 rfl (by decide)
 have c91:=cQ w g p A tx r e5 [⟨9,.ag (strs [a0,a1])⟩,Sx.aa,Sx.aa,⟨9,.ag (strs [ae,r.ai])⟩,⟨9,.own 1 8 (strs (rF r [a0,a1,ae,r.ai]))⟩] 7 8 (rF r [a0,a1,ae,r.ai]) (by omega) rfl (by simp) hle
 have z0:fZ g (tx++bR (rF r [a0,a1,ae,r.ai])) e5 [] (rD g 8 tx (bR (rF r [a0,a1,ae,r.ai])) r e5 [⟨9,.ag (strs [a0,a1])⟩,Sx.aa,Sx.aa,⟨9,.ag (strs [ae,r.ai])⟩,⟨9,.own 1 8 (strs (rF r [a0,a1,ae,r.ai]))⟩]):=⟨8,rfl,rfl,rfl⟩
 refine bQ [.agg r.cells.toArray] h (pH g p r b1 b2 ck e1 e2 [(27,.al (fH 3 2 (strs [a0,a1]))),(34,.is (.bool true)),(39,.is (.bool false)),(43,.is (.bool bo)),(46,wH g p e3),(50,.bin (.bool true)),(56,wH g p e4),(60,.bin (.bool false)),(64,.call (.bool b5)),(66,wH g p e5),(70,.cC 9 1),(75,.bin (.bool false)),(83,.bin (.bool true)),(91,.al (il [7] 0 1 8 (some g) (tx++bR (rF r [a0,a1,ae,r.ai])) e5 (.tuple #[])))]) [] (by kernel_rfl) Tryz.func74 rfl (Nat.le_of_ble_eq_true rfl) ?_
 exact Eq.mp (by kernel_rfl) (Sx.t8 dK c12 cx c21 c22 c27 c34 c39 (Sx.t8 c43 c46 c50 c56 c60 iQ c66 c72 (Sx.t4 c75 c83 c88 c91 z0)))
theorem K5{a0 a1:Bs}(h:Tx w g p A c tx e)(H:gz w g p A tx r b1 b2 b4 true bo ck e e1 e2 e3 e4 e5)(ha:aH r.act r.out=[a0,a1])(hg:r.out≥0)(hz:¬r.out=0)(hb:bo=decide (r.act=3))(hm:decide (r.aq=[])=false)(hi:decide (r.ai=[])=true)(hle:pJ tx (rF r [a0,a1,ak,r.aq])):pK w g A tx r (rF r [a0,a1,ak,r.aq]) e5:=by
 have dK:=H.dK;have cx:=H.cx;have c21:=H.c21
 have c34:Value.bool (decide (r.out≥0))=.bool true:=dQ (decide_eq_true hg)
 have c39:Value.bool (r.out==0)=.bool false:=dY (beq_eq_false_iff_ne.2 hz)
 have c43:Value.bool (r.act==3)=.bool bo:=by rw[hb];rfl
 have c50:=se 49 hm;have c60:=se 59 hi
 have iF:=H.iF (of_decide_eq_false hm)
 have c75:=sn (b:=true) 74 hm;have c83:=sn (b:=false) 82 hi
 have c12:=au w g p A tx r 3 [] H.h1
 have c22:=au w g p A tx r 3 [] H.h2
 have c27:=fun W β (hS:Sx.cw (nr w g A) β W (Sx.rowAt (rL g p tx r e2 [])) [])=>bh (m:=3) ha (by simp) H.o0 H.o1 H.hl W β hS
 have c46:=au w g p A tx r 4 [⟨9,.ag (strs [a0,a1])⟩] H.h3
 have c56:=au w g p A tx r 4 [⟨9,.ag (strs [a0,a1])⟩] H.h4
 have c66:=au w g p A tx r 4 [⟨9,.ag (strs [a0,a1])⟩] H.h5
 have c72:=aU [a0,a1] 4 2 rfl (by decide)
 have c80:=aU [ak,r.aq] 6 2 rfl (by decide)
 have c91:=cQ w g p A tx r e5 [⟨9,.ag (strs [a0,a1])⟩,Sx.aa,Sx.aa,⟨9,.ag (strs [ak,r.aq])⟩,⟨9,.own 1 8 (strs (rF r [a0,a1,ak,r.aq]))⟩] 7 8 (rF r [a0,a1,ak,r.aq]) (by omega) rfl (by simp) hle
 have z0:fZ g (tx++bR (rF r [a0,a1,ak,r.aq])) e5 [] (rD g 8 tx (bR (rF r [a0,a1,ak,r.aq])) r e5 [⟨9,.ag (strs [a0,a1])⟩,Sx.aa,Sx.aa,⟨9,.ag (strs [ak,r.aq])⟩,⟨9,.own 1 8 (strs (rF r [a0,a1,ak,r.aq]))⟩]):=⟨8,rfl,rfl,rfl⟩
 refine bQ [.agg r.cells.toArray] h (pH g p r b1 b2 ck e1 e2 [(27,.al (fH 3 2 (strs [a0,a1]))),(34,.is (.bool true)),(39,.is (.bool false)),(43,.is (.bool bo)),(46,wH g p e3),(50,.bin (.bool false)),(54,.call (.bool b4)),(56,wH g p e4),(60,.bin (.bool true)),(66,wH g p e5),(70,.cC 9 1),(75,.bin (.bool true)),(83,.bin (.bool false)),(91,.al (il [7] 0 1 8 (some g) (tx++bR (rF r [a0,a1,ak,r.aq])) e5 (.tuple #[])))]) [] (by kernel_rfl) Tryz.func74 rfl (Nat.le_of_ble_eq_true rfl) ?_
 exact Eq.mp (by kernel_rfl) (Sx.t8 dK c12 cx c21 c22 c27 c34 c39 (Sx.t8 c43 c46 c50 iF c56 c60 c66 c72 (Sx.t4 c75 c80 c83 c91 z0)))
theorem K4{a0 a1:Bs}(h:Tx w g p A c tx e)(H:gz w g p A tx r b1 b2 b4 b5 bo ck e e1 e2 e3 e4 e5)(ha:aH r.act r.out=[a0,a1])(hg:r.out≥0)(hz:¬r.out=0)(hb:bo=decide (r.act=3))(hm:decide (r.aq=[])=false)(hi:decide (r.ai=[])=false)(hle:pJ tx (rF r [a0,a1,ak,r.aq,ae,r.ai])):pK w g A tx r (rF r [a0,a1,ak,r.aq,ae,r.ai]) e5:=by
 have dK:=H.dK;have cx:=H.cx;have c21:=H.c21
 have c34:Value.bool (decide (r.out≥0))=.bool true:=dQ (decide_eq_true hg)
 have c39:Value.bool (r.out==0)=.bool false:=dY (beq_eq_false_iff_ne.2 hz)
 have c43:Value.bool (r.act==3)=.bool bo:=by rw[hb];rfl
 have c50:=se 49 hm;have c60:=se 59 hi
 have iF:=H.iF (of_decide_eq_false hm)
 have iQ:=H.iQ (of_decide_eq_false hi)
 have c75:=sn (b:=true) 74 hm;have c83:=sn (b:=true) 82 hi
 have c12:=au w g p A tx r 3 [] H.h1
 have c22:=au w g p A tx r 3 [] H.h2
 have c27:=fun W β (hS:Sx.cw (nr w g A) β W (Sx.rowAt (rL g p tx r e2 [])) [])=>bh (m:=3) ha (by simp) H.o0 H.o1 H.hl W β hS
 have c46:=au w g p A tx r 4 [⟨9,.ag (strs [a0,a1])⟩] H.h3
 have c56:=au w g p A tx r 4 [⟨9,.ag (strs [a0,a1])⟩] H.h4
 have c66:=au w g p A tx r 4 [⟨9,.ag (strs [a0,a1])⟩] H.h5
 have c72:=aU [a0,a1] 4 2 rfl (by decide)
 have c80:=aU [ak,r.aq] 6 2 rfl (by decide)
 have c88:=aU [ae,r.ai] 8 2 rfl (by decide)
 have c91:=cQ w g p A tx r e5 [⟨9,.ag (strs [a0,a1])⟩,Sx.aa,Sx.aa,⟨9,.ag (strs [ak,r.aq])⟩,Sx.aa,⟨9,.ag (strs [ae,r.ai])⟩,⟨9,.own 1 10 (strs (rF r [a0,a1,ak,r.aq,ae,r.ai]))⟩] 9 10 (rF r [a0,a1,ak,r.aq,ae,r.ai]) (by omega) rfl (by simp) hle
 have z0:fZ g (tx++bR (rF r [a0,a1,ak,r.aq,ae,r.ai])) e5 [] (rD g 10 tx (bR (rF r [a0,a1,ak,r.aq,ae,r.ai])) r e5 [⟨9,.ag (strs [a0,a1])⟩,Sx.aa,Sx.aa,⟨9,.ag (strs [ak,r.aq])⟩,Sx.aa,⟨9,.ag (strs [ae,r.ai])⟩,⟨9,.own 1 10 (strs (rF r [a0,a1,ak,r.aq,ae,r.ai]))⟩]):=⟨10,rfl,rfl,rfl⟩
 refine bQ [.agg r.cells.toArray] h (pH g p r b1 b2 ck e1 e2 [(27,.al (fH 3 2 (strs [a0,a1]))),(34,.is (.bool true)),(39,.is (.bool false)),(43,.is (.bool bo)),(46,wH g p e3),(50,.bin (.bool false)),(54,.call (.bool b4)),(56,wH g p e4),(60,.bin (.bool false)),(64,.call (.bool b5)),(66,wH g p e5),(70,.cC 9 1),(75,.bin (.bool true)),(83,.bin (.bool true)),(91,.al (il [9] 0 1 10 (some g) (tx++bR (rF r [a0,a1,ak,r.aq,ae,r.ai])) e5 (.tuple #[])))]) [] (by kernel_rfl) Tryz.func74 rfl (Nat.le_of_ble_eq_true rfl) ?_
 exact Eq.mp (by kernel_rfl) (Sx.t8 dK c12 cx c21 c22 c27 c34 c39 (Sx.t8 c43 c46 c50 iF c56 c60 iQ c66 (Sx.t4 c72 c75 c80 c83 (Sx.t2 c88 c91 z0))))
end
theorem Iy{w:World}{g:Nat}{p:Bool}{A:Option Go.Addr}{c:Nat}{tx:Bs}{e:Int}{r:Rl}(h:Tx w g p A c tx e)(hl:dG w)(hk:∀k∈oA g A,9≤k)(hr:r.Wf)(hle:tx.length+(bR (dR r)).length≤140737488355328):Calls Tryz.prog 74 #[.pointer (some ⟨g,0,none⟩),.agg r.cells.toArray] w (lk g A (.tuple #[]) (tx++bR (dR r)) (oM e r) w):=by
 have H:∀{bo b4 b5:Bool},gD r.act r.out=bo→fz r.aq=b4→fz r.ai=b5→∃e1 e2 e3 e4,gz w g p A tx r (aM r.name) (bL r.mt) b4 b5 bo (if bL r.mt=true then(0:Int)else 190) e e1 e2 e3 e4 (oM e r):=by
  intro bo b4 b5 h3 h4 h5
  exact⟨_,_,_,_,⟨fun W hW=>hl.aP hW hk,fun W _=>nV r.name W,fun W hW=>vO r.mt hr.m W (hl.aP hW hk),by cases bL r.mt<;>rfl,
   fun hn W _=>by rw[←h4,show fz r.aq=aM r.aq by unfold fz;rw[decide_eq_false hn];rfl];exact nV r.aq W,
   fun hn W _=>by rw[←h5,show fz r.ai=aM r.ai by unfold fz;rw[decide_eq_false hn];rfl];exact nV r.ai W,
   rfl,rfl,rfl,rfl,by unfold oM;rw[h3,h4,h5],hr.o.1,hr.o.2⟩⟩
 have ob1:∀{x:Bs},x=[]→fz x=true:=fun hx=>by unfold fz;rw[decide_eq_true hx];rfl
 have ws:∀{l x y:List Bs},aH r.act r.out=l→cO ak r.aq=x→cO ae r.ai=y→dR r=rF r (l++(x++y)):=fun h1 h2 h3=>by
  unfold dR;rw[h1,h2,h3];simp
 have o1:∀{k x:Bs},x=[]→cO k x=[]:=fun hx=>by unfold cO;rw[if_pos hx]
 have o2:∀{k x:Bs},¬x=[]→cO k x=[k,x]:=fun hx=>by unfold cO;rw[if_neg hx]
 have hcases:aH r.act r.out=[]∨(∃a0,aH r.act r.out=[a0])∨∃a0 a1,aH r.act r.out=[a0,a1]:=by
  unfold aH
  repeat' split
  all_goals simp
 have act0:aH r.act r.out=[]→gD r.act r.out=false:=Ko
 have actA:∀{x l},aH r.act r.out=x::l→¬r.out≥0→gD r.act r.out=false:=fun ha hg=>by unfold gD;rw[tF ha,decide_eq_false hg];rfl
 have actB':∀{x l},aH r.act r.out=x::l→r.out≥0→r.out=0→gD r.act r.out=true:=fun ha hg hz=>by unfold gD;rw[tF ha,decide_eq_true hg,decide_eq_true hz];rfl
 have actC:∀{x l},aH r.act r.out=x::l→r.out≥0→¬r.out=0→gD r.act r.out=decide (r.act=3):=fun ha hg hz=>by unfold gD;rw[tF ha,decide_eq_true hg,decide_eq_false hz];cases decide (r.act=3)<;>rfl
 rcases hcases with ha|⟨a0,ha⟩ | ⟨a0,a1,ha⟩
 ·by_cases hme:r.aq=[]
  ·by_cases hmi:r.ai=[]
   ·rw[ws ha (o1 hme) (o1 hmi)]at hle ⊢
    obtain⟨e1,e2,e3,e4,h0⟩:=H (act0 ha) (ob1 hme) (ob1 hmi)
    exact MV h h0 ha (decide_eq_true hme) (decide_eq_true hmi) hle
   ·rw[ws ha (o1 hme) (o2 hmi)]at hle ⊢
    obtain⟨e1,e2,e3,e4,h0⟩:=H (act0 ha) (ob1 hme) rfl
    exact MU h h0 ha (decide_eq_true hme) (decide_eq_false hmi) hle
  ·by_cases hmi:r.ai=[]
   ·rw[ws ha (o2 hme) (o1 hmi)]at hle ⊢
    obtain⟨e1,e2,e3,e4,h0⟩:=H (act0 ha) rfl (ob1 hmi)
    exact MT h h0 ha (decide_eq_false hme) (decide_eq_true hmi) hle
   ·rw[ws ha (o2 hme) (o2 hmi)]at hle ⊢
    obtain⟨e1,e2,e3,e4,h0⟩:=H (act0 ha) rfl rfl
    exact MS h h0 ha (decide_eq_false hme) (decide_eq_false hmi) hle
 ·by_cases hg:r.out≥0
  ·by_cases hz:r.out=0
   ·by_cases hme:r.aq=[]
    ·by_cases hmi:r.ai=[]
     ·rw[ws ha (o1 hme) (o1 hmi)]at hle ⊢
      obtain⟨e1,e2,e3,e4,h0⟩:=H (actB' ha hg hz) (ob1 hme) (ob1 hmi)
      exact Ln h h0 ha hg hz (decide_eq_true hme) (decide_eq_true hmi) hle
     ·rw[ws ha (o1 hme) (o2 hmi)]at hle ⊢
      obtain⟨e1,e2,e3,e4,h0⟩:=H (actB' ha hg hz) (ob1 hme) rfl
      exact Lm h h0 ha hg hz (decide_eq_true hme) (decide_eq_false hmi) hle
    ·by_cases hmi:r.ai=[]
     ·rw[ws ha (o2 hme) (o1 hmi)]at hle ⊢
      obtain⟨e1,e2,e3,e4,h0⟩:=H (actB' ha hg hz) rfl (ob1 hmi)
      exact Ll h h0 ha hg hz (decide_eq_false hme) (decide_eq_true hmi) hle
     ·rw[ws ha (o2 hme) (o2 hmi)]at hle ⊢
      obtain⟨e1,e2,e3,e4,h0⟩:=H (actB' ha hg hz) rfl rfl
      exact Lk h h0 ha hg hz (decide_eq_false hme) (decide_eq_false hmi) hle
   ·by_cases hme:r.aq=[]
    ·by_cases hmi:r.ai=[]
     ·rw[ws ha (o1 hme) (o1 hmi)]at hle ⊢
      obtain⟨e1,e2,e3,e4,h0⟩:=H (actC ha hg hz) (ob1 hme) (ob1 hmi)
      exact Lj h h0 ha hg hz rfl (decide_eq_true hme) (decide_eq_true hmi) hle
     ·rw[ws ha (o1 hme) (o2 hmi)]at hle ⊢
      obtain⟨e1,e2,e3,e4,h0⟩:=H (actC ha hg hz) (ob1 hme) rfl
      exact Li h h0 ha hg hz rfl (decide_eq_true hme) (decide_eq_false hmi) hle
    ·by_cases hmi:r.ai=[]
     ·rw[ws ha (o2 hme) (o1 hmi)]at hle ⊢
      obtain⟨e1,e2,e3,e4,h0⟩:=H (actC ha hg hz) rfl (ob1 hmi)
      exact Lh h h0 ha hg hz rfl (decide_eq_false hme) (decide_eq_true hmi) hle
     ·rw[ws ha (o2 hme) (o2 hmi)]at hle ⊢
      obtain⟨e1,e2,e3,e4,h0⟩:=H (actC ha hg hz) rfl rfl
      exact Lg h h0 ha hg hz rfl (decide_eq_false hme) (decide_eq_false hmi) hle
  ·by_cases hme:r.aq=[]
   ·by_cases hmi:r.ai=[]
    ·rw[ws ha (o1 hme) (o1 hmi)]at hle ⊢
     obtain⟨e1,e2,e3,e4,h0⟩:=H (actA ha hg) (ob1 hme) (ob1 hmi)
     exact Ls h h0 ha hg (decide_eq_true hme) (decide_eq_true hmi) hle
    ·rw[ws ha (o1 hme) (o2 hmi)]at hle ⊢
     obtain⟨e1,e2,e3,e4,h0⟩:=H (actA ha hg) (ob1 hme) rfl
     exact Lr h h0 ha hg (decide_eq_true hme) (decide_eq_false hmi) hle
   ·by_cases hmi:r.ai=[]
    ·rw[ws ha (o2 hme) (o1 hmi)]at hle ⊢
     obtain⟨e1,e2,e3,e4,h0⟩:=H (actA ha hg) rfl (ob1 hmi)
     exact Lq h h0 ha hg (decide_eq_false hme) (decide_eq_true hmi) hle
    ·rw[ws ha (o2 hme) (o2 hmi)]at hle ⊢
     obtain⟨e1,e2,e3,e4,h0⟩:=H (actA ha hg) rfl rfl
     exact Lp h h0 ha hg (decide_eq_false hme) (decide_eq_false hmi) hle
 ·by_cases hg:r.out≥0
  ·by_cases hz:r.out=0
   ·by_cases hme:r.aq=[]
    ·by_cases hmi:r.ai=[]
     ·rw[ws ha (o1 hme) (o1 hmi)]at hle ⊢
      obtain⟨e1,e2,e3,e4,h0⟩:=H (actB' ha hg hz) (ob1 hme) (ob1 hmi)
      exact Lb h h0 ha hg hz (decide_eq_true hme) (decide_eq_true hmi) hle
     ·rw[ws ha (o1 hme) (o2 hmi)]at hle ⊢
      obtain⟨e1,e2,e3,e4,h0⟩:=H (actB' ha hg hz) (ob1 hme) rfl
      exact La h h0 ha hg hz (decide_eq_true hme) (decide_eq_false hmi) hle
    ·by_cases hmi:r.ai=[]
     ·rw[ws ha (o2 hme) (o1 hmi)]at hle ⊢
      obtain⟨e1,e2,e3,e4,h0⟩:=H (actB' ha hg hz) rfl (ob1 hmi)
      exact K9 h h0 ha hg hz (decide_eq_false hme) (decide_eq_true hmi) hle
     ·rw[ws ha (o2 hme) (o2 hmi)]at hle ⊢
      obtain⟨e1,e2,e3,e4,h0⟩:=H (actB' ha hg hz) rfl rfl
      exact K8 h h0 ha hg hz (decide_eq_false hme) (decide_eq_false hmi) hle
   ·by_cases hme:r.aq=[]
    ·by_cases hmi:r.ai=[]
     ·rw[ws ha (o1 hme) (o1 hmi)]at hle ⊢
      obtain⟨e1,e2,e3,e4,h0⟩:=H (actC ha hg hz) (ob1 hme) (ob1 hmi)
      exact K7 h h0 ha hg hz rfl (decide_eq_true hme) (decide_eq_true hmi) hle
     ·rw[ws ha (o1 hme) (o2 hmi)]at hle ⊢
      obtain⟨e1,e2,e3,e4,h0⟩:=H (actC ha hg hz) (ob1 hme) rfl
      exact K6 h h0 ha hg hz rfl (decide_eq_true hme) (decide_eq_false hmi) hle
    ·by_cases hmi:r.ai=[]
     ·rw[ws ha (o2 hme) (o1 hmi)]at hle ⊢
      obtain⟨e1,e2,e3,e4,h0⟩:=H (actC ha hg hz) rfl (ob1 hmi)
      exact K5 h h0 ha hg hz rfl (decide_eq_false hme) (decide_eq_true hmi) hle
     ·rw[ws ha (o2 hme) (o2 hmi)]at hle ⊢
      obtain⟨e1,e2,e3,e4,h0⟩:=H (actC ha hg hz) rfl rfl
      exact K4 h h0 ha hg hz rfl (decide_eq_false hme) (decide_eq_false hmi) hle
  ·by_cases hme:r.aq=[]
   ·by_cases hmi:r.ai=[]
    ·rw[ws ha (o1 hme) (o1 hmi)]at hle ⊢
     obtain⟨e1,e2,e3,e4,h0⟩:=H (actA ha hg) (ob1 hme) (ob1 hmi)
     exact Lf h h0 ha hg (decide_eq_true hme) (decide_eq_true hmi) hle
    ·rw[ws ha (o1 hme) (o2 hmi)]at hle ⊢
     obtain⟨e1,e2,e3,e4,h0⟩:=H (actA ha hg) (ob1 hme) rfl
     exact Le h h0 ha hg (decide_eq_true hme) (decide_eq_false hmi) hle
   ·by_cases hmi:r.ai=[]
    ·rw[ws ha (o2 hme) (o1 hmi)]at hle ⊢
     obtain⟨e1,e2,e3,e4,h0⟩:=H (actA ha hg) rfl (ob1 hmi)
     exact Ld h h0 ha hg (decide_eq_false hme) (decide_eq_true hmi) hle
    ·rw[ws ha (o2 hme) (o2 hmi)]at hle ⊢
     obtain⟨e1,e2,e3,e4,h0⟩:=H (actA ha hg) rfl rfl
     exact Lc h h0 ha hg (decide_eq_false hme) (decide_eq_false hmi) hle
end Go.Proofs.YtnncigmpcdehnaaGreatDoor
