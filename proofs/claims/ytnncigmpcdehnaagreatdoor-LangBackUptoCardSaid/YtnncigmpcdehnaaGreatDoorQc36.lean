import Derived.Test.YtnncigmpcdehnaaGreatDoorQc35
namespace Go.Proofs.YtnncigmpcdehnaaGreatDoor
set_option maxRecDepth 100000
open Go Go.RowKit Go.Lib Go.Sort
abbrev LY(w:World)(g:Nat)(A:Option Go.Addr):Sx.a7:=⟨w,oy g A,fun _ _=>False⟩
abbrev rL(g:Nat)(p:Bool)(tx:Bs)(r:Rl)(e:Int)(mem:List Sx.Row):List Sx.Row:=cS (some g) [.cD p 0 0,.own 1,.val (.int .i64 e)]::⟨5,.own 1 tx.length (iS tx)⟩::⟨81,.aj r.cells⟩::mem
abbrev rD(g M:Nat)(tx F:Bs)(r:Rl)(e:Int)(mem:List Sx.Row):List Sx.Row:=cS (some g) [.cD true 0 0,.own M,.val (.int .i64 e)]::Sx.al::⟨81,.aj r.cells⟩::(mem++[⟨5,.own 1 (tx++F).length (iS (tx++F))⟩])
abbrev rF(r:Rl)(l:List Bs):List Bs:=dB::r.name::xI r.mt::nU::l
abbrev wH(g:Nat)(p:Bool)(e:Int):Sx.Hint:=.ai (fp [] 0 1 (some g) p e)
abbrev Qi(w:World)(g:Nat)(A:Option Go.Addr)(tx:Bs)(r:Rl)(F:List Bs)(e:Int):Prop:=Calls Tryz.prog 74 #[.pointer (some ⟨g,0,none⟩),.agg r.cells.toArray] w (lh g A (.tuple #[]) (tx++fV F) e w)
abbrev P8(g:Nat)(p:Bool)(r:Rl)(b1 b2:Bool)(ck e1 e2:Int)(l:List (Nat×Sx.Hint)):List (Nat×Sx.Hint):=(11,.call (.bool b1))::(16,.call (.tuple #[ab (xI r.mt),.int .i64 ck]))::(21,.is (.bool b2))::(12,wH g p e1)::(22,wH g p e2)::l
abbrev Qg(tx:Bs)(F:List Bs):Prop:=tx.length+(fV F).length≤140737488355328
structure PI(w:World)(g:Nat)(p:Bool)(A:Option Go.Addr)(tx:Bs)(r:Rl)(b1 b2 b4 b5 bo:Bool)(ck e e1 e2 e3 e4 e5:Int):Prop where
 hl:∀W,ah (oy g A) w W→dy W
 zm:∀W,ah (oy g A) w W→Calls Tryz.prog 33 #[ab r.name] W fun e w'=>e=.returned (.bool b1)∧ah [] W w'
 k9:∀W,ah (oy g A) w W→Calls Tryz.prog 31 #[.agg r.mt.cells.toArray] W fun e w'=>e=.returned (.tuple #[ab (xI r.mt),.int .i64 ck])∧ah [] W w'
 c21:Value.bool (ck==0)=.bool b2
 h1:e1=aE b1 201 e
 h2:e2=aE b2 190 e1
 h3:e3=aE bo 2 e2
 h4:e4=aE b4 201 e3
 h5:e5=aE b5 201 e4
 o0 : -9223372036854775808≤r.out
 o1:r.out≤9223372036854775807
theorem ri(w:World)(g:Nat)(p:Bool)(A:Option Go.Addr)(tx:Bs)(r:Rl){e e':Int}{b:Bool}{code:Int}(m:Nat)(mem:List Sx.Row)(he:e'=aE b code e)(W:World)(β:Sx.Env)(hS:Sx.dz (LY w g A) β W (Sx.rowAt (rL g p tx r e mem)) [0,1]):Calls Tryz.prog 69 (([.ptr 0 0,.val (.bool b),.val (.int .i64 code)]:List Sx.SV).map (Sx.SV.den β)).toArray W (Sx.aQ (LY w g A) β W (Sx.rowAt (rL g p tx r e mem)) m (fp [] 0 1 (some g) p e')):=by
 rw[he];exact eF b code ⟨rfl,rfl⟩ W β hS
theorem MB(w:World)(g:Nat)(p:Bool)(A:Option Go.Addr)(tx:Bs)(r:Rl)(e:Int)(mem:List Sx.Row)(k m:Nat)(ws:List Bs)(hm:1 < m)(rk:Sx.rowAt (rL g p tx r e mem) k=some ⟨9,.own 1 ws.length (strs ws)⟩)(hn:ws.length≤1000000)(hl:tx.length+(fV ws).length≤140737488355328)(W:World)(β:Sx.Env)(hS:Sx.dz (LY w g A) β W (Sx.rowAt (rL g p tx r e mem)) [0,1,k]) :
  Calls Tryz.prog 70 (([.ptr 0 0,.own k]:List Sx.SV).map (Sx.SV.den β)).toArray W (Sx.aQ (LY w g A) β W (Sx.rowAt (rL g p tx r e mem)) m (w8 [k] 0 1 m (some g) (tx++fV ws) e (.tuple #[]))):=
 uJ (p:=p) ws ⟨rfl,rfl⟩ (by omega) hm rk hn hl W β hS
theorem De(P:World→Prop)(n:Nat)(hn:n≤1000):(∀W,P W→∃A c,Value.slice none 0 0=.slice A 0 c∧(0 < ([]:List Value).length→∃ad,A=some ad∧∀(j:Nat) (u:Value),([]:List Value)[j]?=some u→W.cell? (ad.add j)=some u))∧([]:List Value).length=0*1∧(∀u∈([]:List Value),u.oneCell'=true)∧n+0≤maxLen∧(n+0)*16≤140737488355328:=
 ⟨fun _ _=>⟨none,0,rfl,fun hh=>absurd hh (Nat.lt_irrefl _)⟩,rfl,fun u hu=>(by cases hu),by unfold maxLen;omega,by omega⟩
theorem se(n:Nat){x:Bs}{b:Bool}(h:decide (x=[])=b)(W:World):(do eqGuard .eql 9 (.tmp n) (.const (ab [])) (ab x) (ab []);binOp .eql 9 (ab x) (ab []):Sem Value).run Tryz.prog W=.ok (.bool b) W:=av (.tmp n) (.const (ab [])) x [] b h W
theorem sn(n:Nat){x:Bs}{b:Bool}(h:decide (x=[])=!b)(W:World):(do eqGuard .neq 9 (.tmp n) (.const (ab [])) (ab x) (ab []);binOp .neq 9 (ab x) (ab []):Sem Value).run Tryz.prog W=.ok (.bool b) W:=
 (vq (.tmp n) (.const (ab [])) x [] W).trans (by rw[show decide (x≠[])=b from by rw[decide_not,h,Bool.not_not]])
def qN(b:Bool)(X T:Prop):Prop:=match b with
 |true=>T
 |false=>X∧T
theorem qN.mk{b:Bool}{X T:Prop}(hx:b=false→X)(ht:T):qN b X T:=by
 cases b
 ·exact⟨hx rfl,ht⟩
 ·exact ht
def bP(b x:Bool):Bool:=match b with
 |true=>true
 |false=>x
def bQ(na bg bz bo:Bool):Bool:=match na with
 |true=>false
 |false=>match bg with
  |false=>false
  |true=>bP bz bo
def n2(b:Bool)(n:Nat):Nat:=match b with
 |true=>n
 |false=>n+2
def x2(b:Bool)(xs ys:List Value):List Value:=match b with
 |true=>xs
 |false=>xs++ys
def ra(na:Bool)(L:List Bs):List Sx.Row:=match na with
 |true=>[]
 |false=>[⟨9,.aj (strs L)⟩]
def nq(b:Bool)(ws:List Bs)(l:List Sx.Row):List Sx.Row:=match b with
 |true=>l
 |false=>Sx.al::⟨9,.aj (strs ws)⟩::l
def sL(L:List Bs):List Value:=((strs L).drop 0).take (L.length*1)
theorem BV(L:List Bs):sL L=strs L:=by unfold sL;rw[List.drop_zero,List.take_of_length_le (by simp[strs])]
def Nu(r:Rl)(L:List Bs)(bm bi:Bool):Sx.Row:=⟨9,.own 1 (n2 bi (n2 bm (4+L.length))) (x2 bi (x2 bm (strs [dB,r.name,xI r.mt,nU]++sL L) (strs [aH,r.df])) (strs [ax,r.bZ]))⟩
def Pc(na:Bool)(r:Rl)(L:List Bs)(bm bi:Bool)(l:List Sx.Row):List Sx.Row:=ra na L++(Sx.al::nq bm [aH,r.df] (nq bi [ax,r.bZ] l))
def Nv(na bm bi:Bool):Nat:=n2 bi (n2 bm (match na with|true=>4|false=>5))
def NO(b:Bool)(k s:Bs):List Bs:=match b with
 |true=>[]
 |false=>[k,s]
def ER(r:Rl)(L:List Bs)(bm bi:Bool):List Bs:=rF r (L++(NO bm aH r.df++NO bi ax r.bZ))
theorem L9(r:Rl)(L:List Bs)(bm bi:Bool):Nu r L bm bi=⟨9,.own 1 (ER r L bm bi).length (strs (ER r L bm bi))⟩:=by
 unfold Nu ER rF
 rw[BV]
 cases bm<;>cases bi<;>simp[n2,x2,NO,strs,Nat.add_comm,Nat.add_left_comm]<;>omega
def PD(na:Bool)(w:World)(S:List Nat)(L:List Bs):Prop:=match na with
 |true=>(∀W,ah S w W→∃A c,Value.slice none 0 0=.slice A 0 c∧(0 < ([]:List Value).length→∃ad,A=some ad∧∀(j:Nat) (u:Value),([]:List Value)[j]?=some u→W.cell? (ad.add j)=some u))∧([]:List Value).length=0*1∧(∀u∈([]:List Value),u.oneCell'=true)∧4+0≤maxLen∧(4+0)*16≤140737488355328
 |false=>True∧(sL L).length=L.length*1∧(∀u∈sL L,u.oneCell'=true)∧4+L.length≤maxLen∧(4+L.length)*16≤140737488355328
def PE(na:Bool)(w:World)(g:Nat)(p:Bool)(A:Option Go.Addr)(tx:Bs)(r:Rl)(e2:Int)(L:List Bs):Prop:=match na with
 |true=>∀W,ah (oy g A) w W→Calls Tryz.prog 75 #[.int .i64 r.act,.int .i64 r.out] W fun e w'=>e=.returned (.slice none 0 0)∧ah [] W w'
 |false=>∀W β,Sx.dz (LY w g A) β W (Sx.rowAt (rL g p tx r e2 [])) []→Calls Tryz.prog 75 (([.val (.int .i64 r.act),.val (.int .i64 r.out)]:List Sx.SV).map (Sx.SV.den β)).toArray W (Sx.aQ (LY w g A) β W (Sx.rowAt (rL g p tx r e2 [])) 3 (IA 3 L.length (strs L)))
def PZ(na:Bool)(L:List Bs):Sx.Hint:=match na with
 |true=>.call (.slice none 0 0)
 |false=>.ai (IA 3 L.length (strs L))
theorem L8{w:World}{g:Nat}{p:Bool}{A:Option Go.Addr}{c:Nat}{tx:Bs}{r:Rl}{b1 b2 b4 b5 bo:Bool}{ck e e1 e2 e3 e4 e5:Int}{L:List Bs}{na bg bz bm bi:Bool}(h:Tx w g p A c tx e)(H:PI w g p A tx r b1 b2 (bP bm b4) (bP bi b5) (bQ na bg bz bo) ck e e1 e2 e3 e4 e5)
  (k4:bm=false→∀W,ah (oy g A) w W→Calls Tryz.prog 33 #[ab r.df] W fun e w'=>e=.returned (.bool b4)∧ah [] W w') (k5:bi=false→∀W,ah (oy g A) w W→Calls Tryz.prog 33 #[ab r.bZ] W fun e w'=>e=.returned (.bool b5)∧ah [] W w')
  (ha:aZ r.act r.out=L) (hL:L.length≤10) (hna:decide (L=[])=na) (hg:decide (r.out≥0)=bg) (hz:decide (r.out=0)=bz) (hb:decide (r.act=3)=bo) (hm:decide (r.df=[])=bm) (hi:decide (r.bZ=[])=bi) (hle:Qg tx (ER r L bm bi)):Qi w g A tx r (ER r L bm bi) e5:=by
 have c34:Value.bool (decide (r.out≥0))=.bool bg:=congrArg _ hg
 have c39:Value.bool (r.out==0)=.bool bz:=congrArg _ hz
 have c43:Value.bool (r.act==3)=.bool bo:=congrArg _ hb
 have c27:PE na w g p A tx r e2 L:=by
  cases na with
  |true=>exact fun W hW=>zF (b:=(LY w g A)) (ha.trans (of_decide_eq_true hna)) H.o0 H.o1 H.hl W hW
  |false=>exact fun W β hS=>zE (m:=3) ha (of_decide_eq_false hna) H.o0 H.o1 H.hl W β hS
 have c72:PD na w (oy g A) L:=by
  cases na with
  |true=>exact De (ah (oy g A) w) 4 (by decide)
  |false=>exact(show True∧(sL L).length=L.length*1∧(∀u∈sL L,u.oneCell'=true)∧4+L.length≤maxLen∧(4+L.length)*16≤140737488355328 from by rw[BV];exact wT L 4 L.length rfl (by omega))
 have c46:=ri w g p A tx r (ra na L).length.succ.succ.succ (ra na L) H.h3
 have c56:=ri w g p A tx r (ra na L).length.succ.succ.succ (ra na L) H.h4
 have c66:=ri w g p A tx r (ra na L).length.succ.succ.succ (ra na L) H.h5
 have c80:=wT [aH,r.df] (4+L.length) 2 rfl (by omega)
 have c88:=wT [ax,r.bZ] (n2 bm (4+L.length)) 2 rfl (by cases bm<;>(show _≤1000;simp only[n2];omega))
 have rk:Sx.rowAt (rL g p tx r e5 (Pc na r L bm bi [Nu r L bm bi])) (Nv na bm bi)=some (Nu r L bm bi):=by cases na<;>cases bm<;>cases bi<;>rfl
 have c91:=MB w g p A tx r e5 (Pc na r L bm bi [Nu r L bm bi]) (Nv na bm bi) (Nv na bm bi+1) (ER r L bm bi) (by cases na<;>cases bm<;>cases bi<;>decide) (rk.trans (congrArg some (L9 r L bm bi))) (by cases bm<;>cases bi<;>simp[ER,NO]<;>omega) hle
 have z0:Lc g (tx++fV (ER r L bm bi)) e5 [] (rD g (Nv na bm bi+1) tx (fV (ER r L bm bi)) r e5 (Pc na r L bm bi [Nu r L bm bi])):=by cases na<;>cases bm<;>cases bi<;>exact⟨_,rfl,rfl,rfl⟩
 have CH:=Sx.t4 H.zm (ri w g p A tx r 3 [] H.h1) H.k9 H.c21 (Sx.t2 (ri w g p A tx r 3 [] H.h2) c27 (qN.mk (b:=na) (fun _=>c34) (qN.mk (b:=na||!bg) (fun _=>c39) (qN.mk (b:=na||!bg||bz) (fun _=>c43) (Sx.t2 c46 (se 49 hm) (qN.mk k4 (Sx.t2 c56 (se 59 hi) (qN.mk k5 (Sx.t2 c66 c72 (And.intro (sn (b:=!bm) 74 (by rw[Bool.not_not];exact hm)) (qN.mk (b:=bm) (fun _=>c80) (And.intro (sn (b:=!bi) 82 (by rw[Bool.not_not];exact hi)) (qN.mk (b:=bi) (fun _=>c88) (And.intro c91 z0))))))))))))))
 refine BJ [.agg r.cells.toArray] h (P8 g p r b1 b2 ck e1 e2 [(27,PZ na L),(34,.is (.bool bg)),(39,.is (.bool bz)),(43,.is (.bool bo)),(72,.app 0 []),(46,wH g p e3),(50,.bin (.bool bm)),(54,.call (.bool b4)),(56,wH g p e4),(60,.bin (.bool bi)),(64,.call (.bool b5)),(66,wH g p e5),(70,.iy 9 1),(75,.bin (.bool (!bm))),(83,.bin (.bool (!bi))),(91,.ai (w8 [Nv na bm bi] 0 1 (Nv na bm bi+1) (some g) (tx++fV (ER r L bm bi)) e5 (.tuple #[])))]) [] (by kernel_rfl) Tryz.func74 rfl (Nat.le_of_ble_eq_true rfl) ?_
 clear h H k4 k5 hle rk hg hz hb hm hi c27 c72 c46 c56 c66 c80 c88 c91 z0 c34 c39 c43 ha hL
 cases na with
 |true=>
  obtain rfl:L=[]:=of_decide_eq_true hna
  cases bg<;>cases bz<;>cases bm<;>cases bi<;>exact Eq.mp (by kernel_rfl) CH
 |false=>cases bg<;>cases bz<;>cases bm<;>cases bi<;>exact Eq.mp (by kernel_rfl) CH
theorem I4{w:World}{g:Nat}{p:Bool}{A:Option Go.Addr}{c:Nat}{tx:Bs}{e:Int}{r:Rl}(h:Tx w g p A c tx e)(hl:dy w)(hk:∀k∈oy g A,9≤k)(hr:r.Wf)(hle:tx.length+(fV (dJ r)).length≤140737488355328):Calls Tryz.prog 74 #[.pointer (some ⟨g,0,none⟩),.agg r.cells.toArray] w (lh g A (.tuple #[]) (tx++fV (dJ r)) (qh e r) w):=by
 have hc:Value.bool ((if bj r.mt=true then(0:Int)else 190)==0)=.bool (bj r.mt):=by cases bj r.mt<;>rfl
 have hL:(aZ r.act r.out).length≤10:=by
  unfold aZ
  repeat' split
  all_goals simp
 have hO:∀k s,de k s=NO (decide (s=[])) k s:=fun k s=>by
  unfold de
  by_cases hs:s=[]
  ·rw[if_pos hs,decide_eq_true hs];rfl
  ·rw[if_neg hs,decide_eq_false hs];rfl
 have hW:dJ r=ER r (aZ r.act r.out) (decide (r.df=[])) (decide (r.bZ=[])):=by
  unfold dJ ER
  rw[hO,hO]
  simp
 have hA:my r.act r.out=bQ (decide (aZ r.act r.out=[])) (decide (r.out≥0)) (decide (r.out=0)) (decide (r.act=3)):=by
  cases ha:aZ r.act r.out with
  |nil=>rw[decide_eq_true rfl,Lb ha];rfl
  |cons x l=>
   rw[decide_eq_false (by simp)]
   unfold my
   rw[Iy ha]
   cases decide (r.out≥0)<;>cases decide (r.out=0)<;>cases decide (r.act=3)<;>rfl
 have hB:∀s,jt s=bP (decide (s=[])) (aG s):=fun s=>by
  unfold jt
  cases decide (s=[])<;>rfl
 rw[hW]at hle ⊢
 exact L8 h (b4:=aG r.df) (b5:=aG r.bZ) (bo:=decide (r.act=3)) ⟨fun W hW=>hl.az hW hk,fun W _=>nQ r.name W,fun W hW=>kS r.mt hr.m W (hl.az hW hk),hc,rfl,rfl,rfl,rfl,(by unfold qh;rw[hB,hB,hA]),hr.o.1,hr.o.2⟩
  (fun _ W _=>nQ r.df W) (fun _ W _=>nQ r.bZ W) rfl hL rfl rfl rfl rfl rfl rfl hle
end Go.Proofs.YtnncigmpcdehnaaGreatDoor
