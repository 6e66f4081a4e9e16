import Derived.Test.YtnncigmpcdehnaaGreatDoorQd37
namespace Go.Proofs.YtnncigmpcdehnaaGreatDoor
set_option maxRecDepth 100000
open Go Go.RowKit Go.Lib Go.Sort
abbrev L1(w:World)(g:Nat)(A:Option Go.Addr):Sx.bb:=⟨w,oJ g A,fun _ _=>False⟩
abbrev rL(g:Nat)(p:Bool)(tx:Bs)(r:Rl)(e:Int)(mem:List Sx.Row):List Sx.Row:=cN (some g) [.cw p 0 0,.own 1,.val (.int .i64 e)]::⟨5,.own 1 tx.length (iU tx)⟩::⟨81,.aj r.cells⟩::mem
abbrev rD(g M:Nat)(tx F:Bs)(r:Rl)(e:Int)(mem:List Sx.Row):List Sx.Row:=cN (some g) [.cw true 0 0,.own M,.val (.int .i64 e)]::Sx.al::⟨81,.aj r.cells⟩::(mem++[⟨5,.own 1 (tx++F).length (iU (tx++F))⟩])
abbrev rF(r:Rl)(l:List Bs):List Bs:=gi::r.name::yd r.mt::uU::l
abbrev wH(g:Nat)(p:Bool)(e:Int):Sx.Hint:=.an (fq [] 0 1 (some g) p e)
abbrev Qd(w:World)(g:Nat)(A:Option Go.Addr)(tx:Bs)(r:Rl)(F:List Bs)(e:Int):Prop:=Calls Tryz.prog 74 #[.pointer (some ⟨g,0,none⟩),.agg r.cells.toArray] w (lr g A (.tuple #[]) (tx++iD F) e w)
abbrev P2(g:Nat)(p:Bool)(r:Rl)(b1 b2:Bool)(ck e1 e2:Int)(l:List (Nat×Sx.Hint)):List (Nat×Sx.Hint):=(11,.call (.bool b1))::(16,.call (.tuple #[ab (yd r.mt),.int .i64 ck]))::(21,.is (.bool b2))::(12,wH g p e1)::(22,wH g p e2)::l
abbrev Qc(tx:Bs)(F:List Bs):Prop:=tx.length+(iD F).length≤140737488355328
structure PI(w:World)(g:Nat)(p:Bool)(A:Option Go.Addr)(tx:Bs)(r:Rl)(b1 b2 b4 b5 bo:Bool)(ck e e1 e2 e3 e4 e5:Int):Prop where
 hl:∀W,ag (oJ g A) w W→dJ W
 nM:∀W,ag (oJ g A) w W→Calls Tryz.prog 33 #[ab r.name] W fun e w'=>e=.returned (.bool b1)∧ag [] W w'
 gB:∀W,ag (oJ g A) w W→Calls Tryz.prog 31 #[.agg r.mt.cells.toArray] W fun e w'=>e=.returned (.tuple #[ab (yd r.mt),.int .i64 ck])∧ag [] W w'
 c21:Value.bool (ck==0)=.bool b2
 h1:e1=aB b1 201 e
 h2:e2=aB b2 190 e1
 h3:e3=aB bo 2 e2
 h4:e4=aB b4 201 e3
 h5:e5=aB b5 201 e4
 o0 : -9223372036854775808≤r.out
 o1:r.out≤9223372036854775807
theorem rJ(w:World)(g:Nat)(p:Bool)(A:Option Go.Addr)(tx:Bs)(r:Rl){e e':Int}{b:Bool}{code:Int}(m:Nat)(mem:List Sx.Row)(he:e'=aB b code e)(W:World)(β:Sx.Env)(hS:Sx.dP (L1 w g A) β W (Sx.rowAt (rL g p tx r e mem)) [0,1]):Calls Tryz.prog 69 (([.ptr 0 0,.val (.bool b),.val (.int .i64 code)]:List Sx.SV).map (Sx.SV.den β)).toArray W (Sx.aP (L1 w g A) β W (Sx.rowAt (rL g p tx r e mem)) m (fq [] 0 1 (some g) p e')):=by
 rw[he];exact ey b code ⟨rfl,rfl⟩ W β hS
theorem ME(w:World)(g:Nat)(p:Bool)(A:Option Go.Addr)(tx:Bs)(r:Rl)(e:Int)(mem:List Sx.Row)(k m:Nat)(ws:List Bs)(hm:1 < m)(rk:Sx.rowAt (rL g p tx r e mem) k=some ⟨9,.own 1 ws.length (strs ws)⟩)(hn:ws.length≤1000000)(hl:tx.length+(iD ws).length≤140737488355328)(W:World)(β:Sx.Env)(hS:Sx.dP (L1 w g A) β W (Sx.rowAt (rL g p tx r e mem)) [0,1,k]) :
  Calls Tryz.prog 70 (([.ptr 0 0,.own k]:List Sx.SV).map (Sx.SV.den β)).toArray W (Sx.aP (L1 w g A) β W (Sx.rowAt (rL g p tx r e mem)) m (xx [k] 0 1 m (some g) (tx++iD ws) e (.tuple #[]))):=
 uR (p:=p) ws ⟨rfl,rfl⟩ (by omega) hm rk hn hl W β hS
theorem Df(P:World→Prop)(n:Nat)(hn:n≤1000):(∀W,P W→∃A c,Value.slice none 0 0=.slice A 0 c∧(0 < ([]:List Value).length→∃ad,A=some ad∧∀(j:Nat) (u:Value),([]:List Value)[j]?=some u→W.cell? (ad.add j)=some u))∧([]:List Value).length=0*1∧(∀u∈([]:List Value),u.oneCell'=true)∧n+0≤maxLen∧(n+0)*16≤140737488355328:=
 ⟨fun _ _=>⟨none,0,rfl,fun hh=>absurd hh (Nat.lt_irrefl _)⟩,rfl,fun u hu=>(by cases hu),by unfold maxLen;omega,by omega⟩
theorem se(n:Nat){x:Bs}{b:Bool}(h:decide (x=[])=b)(W:World):(do eqGuard .eql 9 (.tmp n) (.const (ab [])) (ab x) (ab []);binOp .eql 9 (ab x) (ab []):Sem Value).run Tryz.prog W=.ok (.bool b) W:=bC (.tmp n) (.const (ab [])) x [] b h W
theorem sn(n:Nat){x:Bs}{b:Bool}(h:decide (x=[])=!b)(W:World):(do eqGuard .neq 9 (.tmp n) (.const (ab [])) (ab x) (ab []);binOp .neq 9 (ab x) (ab []):Sem Value).run Tryz.prog W=.ok (.bool b) W:=
 (oM (.tmp n) (.const (ab [])) x [] W).trans (by rw[show decide (x≠[])=b from by rw[decide_not,h,Bool.not_not]])
def bP(b x:Bool):Bool:=match b with
 |true=>true
 |false=>x
def bQ(na bg bz bo:Bool):Bool:=match na with
 |true=>false
 |false=>match bg with
  |false=>false
  |true=>bP bz bo
def n2(b:Bool)(n:Nat):Nat:=match b with
 |true=>n
 |false=>n+2
def x2(b:Bool)(xs ys:List Value):List Value:=match b with
 |true=>xs
 |false=>xs++ys
def ra(na:Bool)(L:List Bs):List Sx.Row:=match na with
 |true=>[]
 |false=>[⟨9,.aj (strs L)⟩]
def jA(b:Bool)(ws:List Bs)(l:List Sx.Row):List Sx.Row:=match b with
 |true=>l
 |false=>Sx.al::⟨9,.aj (strs ws)⟩::l
def sL(L:List Bs):List Value:=((strs L).drop 0).take (L.length*1)
theorem B7(L:List Bs):sL L=strs L:=by unfold sL;rw[List.drop_zero,List.take_of_length_le (by simp[strs])]
def Ns(r:Rl)(L:List Bs)(bm bi:Bool):Sx.Row:=⟨9,.own 1 (n2 bi (n2 bm (4+L.length))) (x2 bi (x2 bm (strs [gi,r.name,yd r.mt,uU]++sL L) (strs [bU,r.dm])) (strs [bp,r.cj]))⟩
def Pc(na:Bool)(r:Rl)(L:List Bs)(bm bi:Bool)(l:List Sx.Row):List Sx.Row:=ra na L++(Sx.al::jA bm [bU,r.dm] (jA bi [bp,r.cj] l))
def Nt(na bm bi:Bool):Nat:=n2 bi (n2 bm (match na with|true=>4|false=>5))
def NL(b:Bool)(k s:Bs):List Bs:=match b with
 |true=>[]
 |false=>[k,s]
def EW(r:Rl)(L:List Bs)(bm bi:Bool):List Bs:=rF r (L++(NL bm bU r.dm++NL bi bp r.cj))
theorem Ma(r:Rl)(L:List Bs)(bm bi:Bool):Ns r L bm bi=⟨9,.own 1 (EW r L bm bi).length (strs (EW r L bm bi))⟩:=by
 unfold Ns EW rF
 rw[B7]
 cases bm<;>cases bi<;>simp[n2,x2,NL,strs,Nat.add_comm,Nat.add_left_comm]<;>omega
def PE(na:Bool)(w:World)(S:List Nat)(L:List Bs):Prop:=match na with
 |true=>(∀W,ag S w W→∃A c,Value.slice none 0 0=.slice A 0 c∧(0 < ([]:List Value).length→∃ad,A=some ad∧∀(j:Nat) (u:Value),([]:List Value)[j]?=some u→W.cell? (ad.add j)=some u))∧([]:List Value).length=0*1∧(∀u∈([]:List Value),u.oneCell'=true)∧4+0≤maxLen∧(4+0)*16≤140737488355328
 |false=>True∧(sL L).length=L.length*1∧(∀u∈sL L,u.oneCell'=true)∧4+L.length≤maxLen∧(4+L.length)*16≤140737488355328
def PF(na:Bool)(w:World)(g:Nat)(p:Bool)(A:Option Go.Addr)(tx:Bs)(r:Rl)(e2:Int)(L:List Bs):Prop:=match na with
 |true=>∀W,ag (oJ g A) w W→Calls Tryz.prog 75 #[.int .i64 r.act,.int .i64 r.out] W fun e w'=>e=.returned (.slice none 0 0)∧ag [] W w'
 |false=>∀W β,Sx.dP (L1 w g A) β W (Sx.rowAt (rL g p tx r e2 [])) []→Calls Tryz.prog 75 (([.val (.int .i64 r.act),.val (.int .i64 r.out)]:List Sx.SV).map (Sx.SV.den β)).toArray W (Sx.aP (L1 w g A) β W (Sx.rowAt (rL g p tx r e2 [])) 3 (IF 3 L.length (strs L)))
def PR(na:Bool)(L:List Bs):Sx.Hint:=match na with
 |true=>.call (.slice none 0 0)
 |false=>.an (IF 3 L.length (strs L))
theorem L8{w:World}{g:Nat}{p:Bool}{A:Option Go.Addr}{c:Nat}{tx:Bs}{r:Rl}{b1 b2 b4 b5 bo:Bool}{ck e e1 e2 e3 e4 e5:Int}{L:List Bs}{na bg bz bm bi:Bool}(h:Tx w g p A c tx e)(H:PI w g p A tx r b1 b2 (bP bm b4) (bP bi b5) (bQ na bg bz bo) ck e e1 e2 e3 e4 e5)
  (k4:bm=false→∀W,ag (oJ g A) w W→Calls Tryz.prog 33 #[ab r.dm] W fun e w'=>e=.returned (.bool b4)∧ag [] W w') (k5:bi=false→∀W,ag (oJ g A) w W→Calls Tryz.prog 33 #[ab r.cj] W fun e w'=>e=.returned (.bool b5)∧ag [] W w')
  (ha:aW r.act r.out=L) (hL:L.length≤10) (hna:decide (L=[])=na) (hg:decide (r.out≥0)=bg) (hz:decide (r.out=0)=bz) (hb:decide (r.act=3)=bo) (hm:decide (r.dm=[])=bm) (hi:decide (r.cj=[])=bi) (hle:Qc tx (EW r L bm bi)):Qd w g A tx r (EW r L bm bi) e5:=by
 have c34:Value.bool (decide (r.out≥0))=.bool bg:=congrArg _ hg
 have c39:Value.bool (r.out==0)=.bool bz:=congrArg _ hz
 have c43:Value.bool (r.act==3)=.bool bo:=congrArg _ hb
 have c27:PF na w g p A tx r e2 L:=by
  cases na with
  |true=>exact fun W hW=>zY (b:=(L1 w g A)) (ha.trans (of_decide_eq_true hna)) H.o0 H.o1 H.hl W hW
  |false=>exact fun W β hS=>zX (m:=3) ha (of_decide_eq_false hna) H.o0 H.o1 H.hl W β hS
 have c72:PE na w (oJ g A) L:=by
  cases na with
  |true=>exact Df (ag (oJ g A) w) 4 (by decide)
  |false=>exact(show True∧(sL L).length=L.length*1∧(∀u∈sL L,u.oneCell'=true)∧4+L.length≤maxLen∧(4+L.length)*16≤140737488355328 from by rw[B7];exact xm L 4 L.length rfl (by omega))
 have c46:=rJ w g p A tx r (ra na L).length.succ.succ.succ (ra na L) H.h3
 have c56:=rJ w g p A tx r (ra na L).length.succ.succ.succ (ra na L) H.h4
 have c66:=rJ w g p A tx r (ra na L).length.succ.succ.succ (ra na L) H.h5
 have c80:=xm [bU,r.dm] (4+L.length) 2 rfl (by omega)
 have c88:=xm [bp,r.cj] (n2 bm (4+L.length)) 2 rfl (by cases bm<;>(show _≤1000;simp only[n2];omega))
 have rk:Sx.rowAt (rL g p tx r e5 (Pc na r L bm bi [Ns r L bm bi])) (Nt na bm bi)=some (Ns r L bm bi):=by cases na<;>cases bm<;>cases bi<;>rfl
 have c91:=ME w g p A tx r e5 (Pc na r L bm bi [Ns r L bm bi]) (Nt na bm bi) (Nt na bm bi+1) (EW r L bm bi) (by cases na<;>cases bm<;>cases bi<;>decide) (rk.trans (congrArg some (Ma r L bm bi))) (by cases bm<;>cases bi<;>simp[EW,NL]<;>omega) hle
 have z0:Lg g (tx++iD (EW r L bm bi)) e5 [] (rD g (Nt na bm bi+1) tx (iD (EW r L bm bi)) r e5 (Pc na r L bm bi [Ns r L bm bi])):=by cases na<;>cases bm<;>cases bi<;>exact⟨_,rfl,rfl,rfl⟩
 have CH:=Sx.t4 H.nM (rJ w g p A tx r 3 [] H.h1) H.gB H.c21 (Sx.t2 (rJ w g p A tx r 3 [] H.h2) c27 (q9.mk (b:=na) (fun _=>c34) (q9.mk (b:=na||!bg) (fun _=>c39) (q9.mk (b:=na||!bg||bz) (fun _=>c43) (Sx.t2 c46 (se 49 hm) (q9.mk k4 (Sx.t2 c56 (se 59 hi) (q9.mk k5 (Sx.t2 c66 c72 (And.intro (sn (b:=!bm) 74 (by rw[Bool.not_not];exact hm)) (q9.mk (b:=bm) (fun _=>c80) (And.intro (sn (b:=!bi) 82 (by rw[Bool.not_not];exact hi)) (q9.mk (b:=bi) (fun _=>c88) (And.intro c91 z0))))))))))))))
 refine BQ [.agg r.cells.toArray] h (P2 g p r b1 b2 ck e1 e2 [(27,PR na L),(34,.is (.bool bg)),(39,.is (.bool bz)),(43,.is (.bool bo)),(72,.app 0 []),(46,wH g p e3),(50,.bin (.bool bm)),(54,.call (.bool b4)),(56,wH g p e4),(60,.bin (.bool bi)),(64,.call (.bool b5)),(66,wH g p e5),(70,.gL 9 1),(75,.bin (.bool (!bm))),(83,.bin (.bool (!bi))),(91,.an (xx [Nt na bm bi] 0 1 (Nt na bm bi+1) (some g) (tx++iD (EW r L bm bi)) e5 (.tuple #[])))]) [] (by kernel_rfl) Tryz.func74 rfl (Nat.le_of_ble_eq_true rfl) ?_
 clear h H k4 k5 hle rk hg hz hb hm hi c27 c72 c46 c56 c66 c80 c88 c91 z0 c34 c39 c43 ha hL
 cases na with
 |true=>
  obtain rfl:L=[]:=of_decide_eq_true hna
  cases bg<;>cases bz<;>cases bm<;>cases bi<;>exact Eq.mp (by kernel_rfl) CH
 |false=>cases bg<;>cases bz<;>cases bm<;>cases bi<;>exact Eq.mp (by kernel_rfl) CH
theorem Jd{w:World}{g:Nat}{p:Bool}{A:Option Go.Addr}{c:Nat}{tx:Bs}{e:Int}{r:Rl}(h:Tx w g p A c tx e)(hl:dJ w)(hk:∀k∈oJ g A,9≤k)(hr:r.Wf)(hle:tx.length+(iD (eD r)).length≤140737488355328):Calls Tryz.prog 74 #[.pointer (some ⟨g,0,none⟩),.agg r.cells.toArray] w (lr g A (.tuple #[]) (tx++iD (eD r)) (qv e r) w):=by
 have hc:Value.bool ((if ba r.mt=true then(0:Int)else 190)==0)=.bool (ba r.mt):=by cases ba r.mt<;>rfl
 have hL:(aW r.act r.out).length≤10:=by
  unfold aW
  repeat' split
  all_goals simp
 have hO:∀k s,du k s=NL (decide (s=[])) k s:=fun k s=>by
  unfold du
  by_cases hs:s=[]
  ·rw[if_pos hs,decide_eq_true hs];rfl
  ·rw[if_neg hs,decide_eq_false hs];rfl
 have hW:eD r=EW r (aW r.act r.out) (decide (r.dm=[])) (decide (r.cj=[])):=by
  unfold eD EW
  rw[hO,hO]
  simp
 have hA:mD r.act r.out=bQ (decide (aW r.act r.out=[])) (decide (r.out≥0)) (decide (r.out=0)) (decide (r.act=3)):=by
  cases ha:aW r.act r.out with
  |nil=>rw[decide_eq_true rfl,Lf ha];rfl
  |cons x l=>
   rw[decide_eq_false (by simp)]
   unfold mD
   rw[ID ha]
   cases decide (r.out≥0)<;>cases decide (r.out=0)<;>cases decide (r.act=3)<;>rfl
 have hB:∀s,ju s=bP (decide (s=[])) (aE s):=fun s=>by
  unfold ju
  cases decide (s=[])<;>rfl
 rw[hW]at hle ⊢
 exact L8 h (b4:=aE r.dm) (b5:=aE r.cj) (bo:=decide (r.act=3)) ⟨fun W hW=>hl.aF hW hk,fun W _=>od r.name W,fun W hW=>oW r.mt hr.m W (hl.aF hW hk),hc,rfl,rfl,rfl,rfl,(by unfold qv;rw[hB,hB,hA]),hr.o.1,hr.o.2⟩
  (fun _ W _=>od r.dm W) (fun _ W _=>od r.cj W) rfl hL rfl rfl rfl rfl rfl rfl hle
end Go.Proofs.YtnncigmpcdehnaaGreatDoor
