import Derived.Test.YtnncigmpcdehnaaGreatDoorQf21
import Derived.Lib.AppendStr
import Derived.Lib.UnsafeStr
import Derived.Lib.Builder
import Derived.StillTailTactics
namespace Go.Proofs.YtnncigmpcdehnaaGreatDoor
open Go.RowKit Go.Lib Go.Sort _root_.Go.Proofs.Tryz
theorem NJ:∀(a:Fin 256) (n0 n1 n2 n3 n4 n5:Bool),(bits .andNot .u8 (J1 n0 n1 n2 n3 n4 n5) (a.val:Int) !=0)=
  ((n0&&!a.val.testBit 0)||((n1&&!a.val.testBit 1)||((n2&&!a.val.testBit 2)||((n3&&!a.val.testBit 3)||((n4&&!a.val.testBit 4)||(n5&&!a.val.testBit 5)))))):=by decide+kernel
theorem Ql(l b0 b1 b2 b3 b4 b5 z0 z1 z2 z3 z4 z5:Bool):(l&&((b0||z0)&&((b1||z1)&&((b2||z2)&&((b3||z3)&&((b4||z4)&&(b5||z5)))))))=
  !(!l||((!z0&&!b0)||((!z1&&!b1)||((!z2&&!b2)||((!z3&&!b3)||((!z4&&!b4)||(!z5&&!b5))))))):=by
 simp[Bool.not_or,Bool.or_comm]
theorem yG(a b:Nat):decide (a≤b)=!decide ((b:Int) < (a:Int)):=by
 by_cases h:a≤b
 ·rw[decide_eq_true h,decide_eq_false (by omega)];rfl
 ·rw[decide_eq_false h,decide_eq_true (by omega)];rfl
theorem N9:∀(o1 hs g1 g2 g3 g4 s x1 d x2 ne pt q6 q17:Bool),Sn o1 hs g1 g2 g3 g4 s x1 d x2 ne pt q6 q17=
  if(!(o1||hs)&&((!g1&&(!g2&&(!g3&&!g4)))&&(((!s||!x1)&&((!d||!x2)&&(!(s&&d)||!ne)))&&(!pt||(!q6||!q17)))))=true then 0 else 190:=by decide+kernel
theorem qm(m:Mt)(hw:m.Wf)(w:World):Calls prog 83 #[j5 m] w (Rn w (.int .i64 (if bp m=true then 0 else 190))):=by
 have ha:=hw.asks
 have key:=Oa m w (!gO m.ff) (!Ci m.src) (!Ci m.dst) ((m.bb:Int) !=0) (!gO m.sp) (!gO m.dp) (bits .andNot .u8 (m.asks:Int) 63 !=0)
  (bits .andNot .u8 (J1 (!gO m.ff) (!Ci m.src) (!Ci m.dst) ((m.bb:Int) !=0) (!gO m.sp) (!gO m.dp)) (m.asks:Int) !=0)
  (decide ((m.ff.2:Int) < (m.ff.1:Int))) (decide (255 < (m.ff.2:Int))) (decide ((m.sp.2:Int) < (m.sp.1:Int))) (decide ((m.dp.2:Int) < (m.dp.1:Int)))
  (m.asks.testBit 1) (dC m.src.v m.src.n m.src.k !=0) (m.asks.testBit 2) (dC m.dst.v m.dst.n m.dst.k !=0) (m.src.v !=m.dst.v) (m.asks.testBit 4||m.asks.testBit 5) ((m.bb:Int) !=6) ((m.bb:Int) !=17)
  _ (dC m.src.v m.src.n m.src.k) (dC m.dst.v m.dst.n m.dst.k)
  (q8 _ _ m.ff hw.ff) (yn _ _ m.src hw.sn hw.sk) (yn _ _ m.dst hw.dn hw.dk) rfl (q8 _ _ m.sp hw.sp) (q8 _ _ m.dp hw.dp) rfl
  (fun W _=>DP m 48 _ (Hh ⟨m.asks,ha⟩) W) rfl rfl rfl rfl rfl rfl
  (fun W _=>DP m 2 _ (K6 ⟨m.asks,ha⟩) W) (fun W _=>DP m 4 _ (K5 ⟨m.asks,ha⟩) W)
  (fun W _=>tq _ _ _ hw.sn W) (fun W _=>tq _ _ _ hw.dn W) rfl rfl rfl rfl rfl
 rw[N9]at key
 have ho:=Jd ⟨m.asks,ha⟩
 have hh:=NJ ⟨m.asks,ha⟩ (!gO m.ff) (!Ci m.src) (!Ci m.dst) ((m.bb:Int) !=0) (!gO m.sp) (!gO m.dp)
 have hx:∀p:Px,(dC p.v p.n p.k !=0)=!gh p.v p.n p.k:=fun p=>by unfold dC;cases gh p.v p.n p.k<;>rfl
 have hp0:((m.bb:Int) !=0)=!decide (m.bb=0):=by by_cases h:m.bb=0<;>simp[h]
 have hp6:((m.bb:Int) !=6)=!decide (m.bb=6):=by
  by_cases h:m.bb=6
  ·rw[h];rfl
  ·rw[decide_eq_false h];simp;omega
 have hp17:((m.bb:Int) !=17)=!decide (m.bb=17):=by
  by_cases h:m.bb=17
  ·rw[h];rfl
  ·rw[decide_eq_false h];simp;omega
 have hne:(m.src.v !=m.dst.v)=!decide (m.src.v=m.dst.v):=by cases m.src.v<;>cases m.dst.v<;>rfl
 have e:bp m=(!((bits .andNot .u8 (m.asks:Int) 63 !=0)||(bits .andNot .u8 (J1 (!gO m.ff) (!Ci m.src) (!Ci m.dst) ((m.bb:Int) !=0) (!gO m.sp) (!gO m.dp)) (m.asks:Int) !=0))&&
   ((!decide ((m.ff.2:Int) < (m.ff.1:Int))&&(!decide (255 < (m.ff.2:Int))&&(!decide ((m.sp.2:Int) < (m.sp.1:Int))&&!decide ((m.dp.2:Int) < (m.dp.1:Int)))))&&
   (((!m.asks.testBit 1||!(dC m.src.v m.src.n m.src.k !=0))&&((!m.asks.testBit 2||!(dC m.dst.v m.dst.n m.dst.k !=0))&&(!(m.asks.testBit 1&&m.asks.testBit 2)||!(m.src.v !=m.dst.v))))&&
   (!(m.asks.testBit 4||m.asks.testBit 5)||(!((m.bb:Int) !=6)||!((m.bb:Int) !=17)))))):=by
  rw[show(bits .andNot .u8 (m.asks:Int) 63 !=0)=decide (¬m.asks < 64)from ho]
  rw[show(bits .andNot .u8 (J1 (!gO m.ff) (!Ci m.src) (!Ci m.dst) ((m.bb:Int) !=0) (!gO m.sp) (!gO m.dp)) (m.asks:Int) !=0)=_ from hh]
  rw[hx,hx,hp6,hp17,hp0,hne]
  simp only[Bool.not_not]
  have h255:decide (m.ff.2≤255)=!decide (255 < (m.ff.2:Int)):=yG m.ff.2 255
  unfold bp
  rw[Ql,yG,h255,yG,yG]
  have:decide (¬m.asks < 64)=!decide (m.asks < 64):=decide_not
  rw[this]
 rw[←e]at key
 exact key
set_option maxRecDepth 100000
open Go Go.RowKit Go.Lib Go.Sort _root_.Go.Proofs.Tryz
set_option maxRecDepth 100000
section
variable{P:Program}(w:World)
theorem sJ(t u ty e:TypeId)(i:TypeInfo)(ht:P.underlying t=some (.slice e))(hu:P.underlying u=some .string)(hi:P.info? e=some i)(hz:i.zero=some (.int .u8 0))
  (hsize:i.size=1) (hby:i.bytes=1) (v:Value) (n:Nat) (xs:List Value) (hown:Own w e 1 v n xs) (s:ByteArray) (h63:n+s.size≤maxLen) (hbytes:n+s.size≤140737488355328) :
  ∃A' c' w',(Builtin.append_ #[t,u] ty #[v,.string s]).run P w=.ok (.slice A' (n+s.size) c') w'∧Own w' e 1 (.slice A' (n+s.size) c') (n+s.size) (xs++strCells s)∧ai v.ownBlock.toList w w'∧
   ((Value.slice A' (n+s.size) c').ownBlock=v.ownBlock∨∃k,(Value.slice A' (n+s.size) c').ownBlock=some k∧w.heap.size≤k):=by
 have hsmall:n+s.size≤9223372036854775807:=by simp only[maxLen]at h63;omega
 have hxl:xs.length=n:=by simpa using hown.1
 have hlen:(xs++strCells s).length=(n+s.size)*1:=by rw[List.length_append,hxl,strCells_length,Nat.mul_one]
 have grown:∀(old:Nat),old < n+s.size→∀(S:List Nat),
   Own (w.drew.alloc (.cells (xs.toArray++(strCells s).toArray++Builtin.zeroCells (Value.int .u8 0).cells (grownCap w (n+s.size) old e - (n+s.size))) e)) e 1
    (.slice (some ⟨w.heap.size,0,none⟩) (n+s.size) (grownCap w (n+s.size) old e)) (n+s.size) (xs++strCells s)∧
   ai S w (w.drew.alloc (.cells (xs.toArray++(strCells s).toArray++Builtin.zeroCells (Value.int .u8 0).cells (grownCap w (n+s.size) old e - (n+s.size))) e)):=by
  intro old ho S
  have hge:=grownCap_ge w (n+s.size) old e
  have hcm:grownCap w (n+s.size) old e≤maxLen:=grownCap_le_maxLen w (n+s.size) old e h63
  refine⟨⟨hlen,.inr ⟨w.heap.size,0,_,_,rfl,au.new w.drew e _,hge,hcm,?_,?_⟩⟩,(ai.refl S w).drew.alloc _⟩
  ·have hz1:(Value.int IntKind.u8 0).cells.size=1:=rfl
   simp only[Array.length_toList,Array.size_append,List.size_toArray,size_zeroCells,hz1,hxl,strCells_length]
   omega
  ·simp only[Array.toList_append,List.append_assoc,List.drop_zero]
   rw[←List.append_assoc,←hlen]
   exact List.take_left
 rcases hown.2 with⟨rfl,rfl⟩ | ⟨g,o,cap,L,rfl,hg,hnc,hcm,hcL,hxs⟩
 ·have hx:xs=[]:=List.eq_nil_of_length_eq_zero hxl
  subst hx
  by_cases hm:s.size=0
  ·have hn:strCells s=[]:=List.eq_nil_of_length_eq_zero (by rw[strCells_length];exact hm)
   refine⟨none,0,w,?_,by rw[hm,hn];exact Own.nil w e 1,ai.refl _ _,.inl rfl⟩
   have hf:=run_firstCells_string (P:=P) w 1 s
   rw[hm]at hf
   simp[Builtin.append_,run_underlying ht,run_underlying hu,sizeOf,typeInfo,hi,hsize,Builtin.lenOf,hm,hf]
  ·have hr:=run_append_nil_string (P:=P) w t u ty e i (.int .u8 0) ht hu hi hz s (by omega) (by omega) (by rw[hby];omega)
   have hgr:=grown 0 (by omega) (Value.ownBlock (.slice none 0 0)).toList
   simp only[Nat.zero_add,List.nil_append,Array.empty_append]at hgr ⊢
   have e1:(s.data.map fun b=>Value.int .u8 b.toNat)=(strCells s).toArray:=by
    apply Array.ext'
    simp[strCells]
   rw[e1]at hr
   exact⟨_,_,_,hr,hgr.1,hgr.2,.inr ⟨_,rfl,Nat.le_refl _⟩⟩
 ·by_cases hroom:n+s.size≤cap
  ·have hst:=eK (P:=P) w (o+n) (strCells s) hg (by rw[strCells_length];omega) (strCells_oneCell s)
   have hf:=run_firstCells_string (P:=P) w 1 s
   refine⟨some ⟨g,o,none⟩,cap,w.setRow g (splice L (o+n) (strCells s)).toArray,?_,⟨hlen,.inr ⟨g,o,cap,_,rfl,hg.row _,hroom,hcm,?_,?_⟩⟩,?_,.inl rfl⟩
   ·simp[Builtin.append_,run_underlying ht,run_underlying hu,sizeOf,typeInfo,hi,hsize,Builtin.lenOf,hroom,hf,Addr.add_lit,hst]
   ·rw[kN _ _ _ (by rw[strCells_length];omega)];exact hcL
   ·have h1:n+s.size=n+(strCells s).length:=by rw[strCells_length]
    rw[Nat.mul_one,h1]
    exact rT L o n xs (strCells s) (by simpa using hxs) (by simpa using hown.1) (by rw[strCells_length];omega)
   ·exact(ai.refl _ _).setRow (.inl (by simp[Value.ownBlock])) _
  ·have holds:∀j u,xs[j]?=some u→w.cell? ((⟨g,o,none⟩:Addr).add j)=some u:=hown.jX
   have hr:=run_append_grow_string (P:=P) w t u ty e i (.int .u8 0) ht hu hi hz ⟨g,o,none⟩ n cap xs (by rw[hsize];simpa using hxl) holds s (by omega) (by omega) (by rw[hby];exact growslice_fits (by omega) (by omega))
   have hgr:=grown cap (by omega) (Value.ownBlock (.slice (some ⟨g,o,none⟩) n cap)).toList
   exact⟨_,_,_,hr,hgr.1,hgr.2,.inr ⟨_,rfl,Nat.le_refl _⟩⟩
theorem oR{ops:Array Oper}{rest:List Oper}{o:Oper}{a:Act}{Q:Exit→Act→World→Prop}(hgd:o.guard=none)(s x:Operand)(t u:TypeId)
  (ho:o.op=.call { callee:=.builtin .append,args:=#[s,x],argTypes:=#[t,u] })
  (e:TypeId) (i:TypeInfo) (ht:P.underlying t=some (.slice e)) (hu:P.underlying u=some .string) (hi:P.info? e=some i) (hz:i.zero=some (.int .u8 0)) (hsize:i.size=1) (hby:i.bytes=1)
  (v:Value) (n:Nat) (xs:List Value) (hs:a.eval s=v) (hown:Own w e 1 v n xs) (l:ByteArray) (hx:a.eval x=.string l) (h63:n+l.size≤maxLen) (hbytes:n+l.size≤140737488355328)
  (h:∀A' c' w',Own w' e 1 (.slice A' (n+l.size) c') (n+l.size) (xs++strCells l)→ai v.ownBlock.toList w w'→
   ((Value.slice A' (n+l.size) c').ownBlock=v.ownBlock∨∃k,(Value.slice A' (n+l.size) c').ownBlock=some k∧w.heap.size≤k)→wpList P ops Q rest (a.put o.dst (.slice A' (n+l.size) c')) w'):wpList P ops Q (o::rest) a w:=
 wpList_plain hgd fun _ hK=>by
  obtain⟨A',c',w',hrun,h2,h3,h4⟩:=sJ (P:=P) w t u o.type e i ht hu hi hz hsize hby v n xs hown l h63 hbytes
  unfold Oper.wp execOp
  simp only[ho,resolve,invoke,builtin,Sem.run_bind,Sem.run_pure,Result.andThen_ok,List.map_toArray,List.map_cons,List.map_nil,hs,hx,hrun]
  exact hK _ _ (h A' c' w' h2 h3 h4)
end
def Q8(p:Value)(A:Option Go.Addr)(n c:Nat)(e:Int):List Value:=[p,.slice A n c,.int .i64 e]
def pV(b:Bool)(g:Nat):Value:=.pointer (match b with
 |true=>some ⟨g,0,none⟩
 |false=>none)
def qT(l:Bs):List Value:=l.map fun b=>.int .u8 b.toNat
theorem Og(l:Bs):strCells ⟨l.toArray⟩=qT l:=by simp[strCells,qT]
structure Tx(w:World)(g:Nat)(p:Bool)(A:Option Go.Addr)(c:Nat)(tx:Bs)(e:Int):Prop where
 b9:au w g 132 (Q8 (pV p g) A tx.length c e)
 own:Own w 5 1 (.slice A tx.length c) tx.length (qT tx)
theorem FO{A:Option Go.Addr}{n c:Nat}:(Value.slice A n c).ownBlock=A.map (·.block):=by cases A<;>rfl
theorem Tx.ne{w:World}{g:Nat}{p:Bool}{A:Option Go.Addr}{c:Nat}{tx:Bs}{e:Int}(h:Tx w g p A c tx e):(Value.slice A tx.length c).ownBlock≠some g:=h.own.EK h.b9 (by decide)
def pP(g:Nat)(A:Option Go.Addr):List Nat:=g::(A.map (·.block)).toList
set_option maxHeartbeats 1000000 in
theorem KG(b:Nat)(w:World)(h0:w.cell? ⟨b,0,none⟩=some (.pointer (some ⟨b,0,none⟩))) :
  Calls prog 194 #[.pointer (some ⟨b,0,none⟩)] w fun e w'=>e=.returned (.tuple #[])∧w'=w:=by
 have hs:(prog.info? 130).map (·.size)=some 2:=by kernel_rfl
 obtain⟨j,hj,_⟩:=Option.map_eq_some_iff.1 hs
 go_enter func194,ntmps194
 go_wp2
 rw[Lib.run_neq_ptr_same w _ underlying128 hj]
 go_wp2
 go_end0
 exact⟨rfl,rfl⟩
set_option maxHeartbeats 1000000 in
theorem G4(b:Nat)(w:World)(h0:w.cell? ⟨b,0,none⟩=some (.pointer none))(hsh:w.shape? b=some (132,3))(hfz:w.frozen? ⟨b,0,none⟩=false) :
  Calls prog 194 #[.pointer (some ⟨b,0,none⟩)] w fun e w'=>e=.returned (.tuple #[])∧w'=w.setCell ⟨b,0,none⟩ (.pointer (some ⟨b,0,none⟩)):=by
 have hs:(prog.info? 130).map (·.size)=some 2:=by kernel_rfl
 obtain⟨j,hj,hjs⟩:=Option.map_eq_some_iff.1 hs
 have hl:liesAt prog prog.depth 132 (3 / prog.cellsOf 132) 0 130 1=true:=by kernel_rfl
 go_enter func194,ntmps194
 go_wp2
 rw[Lib.run_to_unsafe w ⟨b,0,none⟩ underlying128 underlying188 hj (by rw[hjs];decide) hsh (Nat.zero_lt_succ 2)]
 simp only[Result.andThen]
 rw[Oper.upon_value]
 go_wp2
 rw[run_callFunc_extern func233 (by kernel_rfl) (by kernel_rfl) (by kernel_rfl) (e:=Extern.AbiNoEscape.same) (by kernel_rfl)]
 rw[Lib.run_noEscape]
 simp only[Result.andThen]
 rw[Oper.upon_value]
 go_wp2
 rw[Lib.run_from_unsafe w ⟨b,0,none⟩ underlying188 underlying128 hj hsh hl]
 simp only[Result.andThen]
 rw[Oper.upon_value]
 go_wp2
 go_end0
 exact⟨rfl,rfl⟩
theorem Sm{w:World}{g:Nat}{p:Bool}{A:Option Go.Addr}{c:Nat}{tx:Bs}{e:Int}(h:Tx w g p A c tx e) :
  Calls prog 194 #[.pointer (some ⟨g,0,none⟩)] w fun e' w'=>e'=.returned (.tuple #[])∧Tx w' g true A c tx e∧ai [g] w w':=by
 cases p with
 |false=>
  refine(G4 g w (h.b9.cell_of rfl) h.b9.shape (h.b9.frozen 0)).mono ?_
  rintro e' w' ⟨rfl,rfl⟩
  exact⟨rfl,⟨by simpa[Q8,pV]using h.b9.pU 0 (.pointer (some ⟨g,0,none⟩)),h.own.LK h.ne _⟩,(ai.refl _ w).setCell (.inl (by simp)) _⟩
 |true=>
  refine(KG g w (h.b9.cell_of rfl)).mono ?_
  rintro e' w' ⟨rfl,rfl⟩
  exact⟨rfl,h,ai.refl _ _⟩
def mr(g:Nat)(A:Option Go.Addr)(r:Value)(tx:Bs)(e:Int)(w:World)(e':Ending)(w':World):Prop:=
 ∃A' c',e'=.returned r∧Tx w' g true A' c' tx e∧ai (pP g A) w w'∧∀k,A'.map (·.block)=some k→A.map (·.block)=some k∨w.heap.size≤k
theorem JZ:∃i,prog.info? 5=some i∧i.zero=some (.int .u8 0)∧i.size=1∧i.bytes=1:=info_parts (by kernel_rfl)
set_option maxHeartbeats 2000000 in
theorem LM{w:World}{g:Nat}{p:Bool}{A:Option Go.Addr}{c:Nat}{tx:Bs}{e:Int}(s:Bs)(h:Tx w g p A c tx e)(hs:tx.length+s.length≤140737488355328) :
  Calls prog 141 #[.pointer (some ⟨g,0,none⟩),.string ⟨s.toArray⟩] w (mr g A (.tuple #[.int .i64 (s.length:Int),.nilIface]) (tx++s) e w):=by
 obtain⟨i0,hi,hz0,hz1,hz2⟩:=JZ
 have hsz:(⟨s.toArray⟩:ByteArray).size=s.length:=by simp[ByteArray.size]
 have HC:=hid (Sm h)
 clear h
 go_enter func141,ntmps141
 go_wp2_with (go_at_call 194;refine HC.out.mono ?_)
 rintro e1 w1 ⟨rfl,h1,hb1⟩
 have c1:w1.cell? ⟨g,1,none⟩=some (.slice A tx.length c):=h1.b9.cell_of rfl
 go_wp2_with (at_builtin;refine oR _ rfl _ _ 82 9 rfl 5 i0 underlying82 underlying9 hi hz0 hz1 hz2 _ _ _ rfl h1.own ⟨s.toArray⟩ rfl ?c3 ?c4 ?_)
 case c3=>rw[hsz];unfold maxLen;omega
 case c4=>rw[hsz];omega
 intro A' c' w2 hown' hchg hk
 rw[Og]at hown'
 have hb2:au w2 g 132 (Q8 (pV true g) A tx.length c e):=h1.b9.aG hchg (by
  intro hm
  exact h1.ne (by simpa using hm))
 have d1:w2.cell? ⟨g,1,none⟩=some (.slice A tx.length c):=hb2.cell_of rfl
 have f1:w2.frozen? ⟨g,1,none⟩=false:=hb2.frozen 1
 go_wp2
 go_ret2
 refine⟨A',c',by simp,⟨?_,?_⟩,?_,?_⟩
 ·have:=hb2.pU 1 (.slice A' (tx.length+s.length) c')
  simpa[Q8]using this
 ·rw[List.length_append,show qT (tx++s)=qT tx++qT s by simp[qT]]
  exact hown'.LK (hown'.EK hb2 (by decide)) _
 ·have hb1':ai (pP g A) w w1:=hb1.mono fun k hk=>.inl (by simp at hk;simp[pP,hk])
  have h2':ai (pP g A) w1 w2:=hchg.mono fun k hk=>.inl (by unfold pP;rw[FO]at hk;exact List.mem_cons_of_mem _ hk)
  exact(hb1'.trans h2').setCell (.inl (by simp[pP])) _
 ·intro k hk'
  have hk2:(Value.slice A' (tx.length+s.length) c').ownBlock=some k:=by rw[FO];exact hk'
  rcases hk with hh|⟨j,hj,hj2⟩
  ·rw[hk2]at hh
   exact .inl (by rw[FO]at hh;exact hh.symm)
  ·rw[hk2]at hj
   cases hj
   exact .inr (Nat.le_trans hb1.size hj2)
end Go.Proofs.YtnncigmpcdehnaaGreatDoor
