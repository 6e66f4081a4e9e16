import Derived.Test.YtnncigmpcdehnaaGreatDoorQd01
import Derived.Test.YtnncigmpcdehnaaGreatDoorQd02
import Derived.Test.YtnncigmpcdehnaaGreatDoorQd03
import Derived.Test.YtnncigmpcdehnaaGreatDoorRows
import Derived.DeepKeys
import Derived.Laws.BitsAllLaws
namespace Go.Proofs.YtnncigmpcdehnaaGreatDoor
set_option maxRecDepth 100000
open Go.RowKit Go.Lib
def az(v:Bool)(f:Nat→Nat):List Value:=.bool v::(List.range 16).map (fun j=>.int .u8 (f j:Int))
theorem ay(v:Bool)(f:Nat→Nat):(az v f).length=17:=by simp[az]
theorem qk(v:Bool)(f:Nat→Nat):(az v f)[0]?=some (.bool v):=rfl
theorem cn(v:Bool)(f:Nat→Nat)(i:Nat)(hi:i < 16):(az v f)[1+i]?=some (.int .u8 (f i:Int)):=by
 rw[Nat.add_comm];simp[az,hi]
set_option maxHeartbeats 1000000 in
theorem uk(v:Bool)(f:Nat→Nat)(w:World) :
  Calls Tryz.prog 107 #[.agg (az v f).toArray] w fun e w'=>e=.returned (.int .i64 (wid v:Nat))∧ag [] w w':=by
 have b0:=aq.new w 24 (az v f).toArray
 have c0:=b0.cell_of (i:=0) (v:=.bool v) rfl
 have fin:=hid ((ag.refl [] w).alloc (.cells (az v f).toArray 24))
 cases v
 ·go_enter Tryz.func107,Tryz.ntmps107
  go_wp2
  go_ret
  exact⟨rfl,fin.out⟩
 ·go_enter Tryz.func107,Tryz.ntmps107
  go_wp2
  go_ret
  exact⟨rfl,fin.out⟩
theorem eC:(Tryz.prog.info? 24).map (·.size)=some 17:=by kernel_rfl
theorem ug{ops:Array Oper}{rest:List Oper}{o:Oper}{a:Act}{w:World}{Q:Exit→Act→World→Prop}(hgd:o.guard=none)(x:Operand)(ho:o.op=.load 24 x)
  (g:Nat) (hx:a.eval x=.pointer (some ⟨g,0,none⟩)) (t:TypeId) (v:Bool) (f:Nat→Nat) (hb:aq w g t (az v f))
  (h:wpList Tryz.prog ops Q rest (a.put o.dst (.agg (az v f).toArray)) w):wpList Tryz.prog ops Q (o::rest) a w:=
 wpList_load_row hgd 24 x ho g hx t _ (0,0) _ hb Tryz.underlying24 rfl (eC.trans (by simp[az])) h
theorem EP(v:Bool)(f:Nat→Nat):(az v f).toArray.all (·.oneCell')=true:=by
 simp[az,Value.oneCell']
theorem jT{ops:Array Oper}{rest:List Oper}{o:Oper}{a:Act}{w:World}{Q:Exit→Act→World→Prop}(hgd:o.guard=none)(x y:Operand)(ho:o.op=.store 24 x y)
  (g:Nat) (v:Bool) (f:Nat→Nat) (hx:a.eval x=.pointer (some ⟨g,0,none⟩)) (hy:a.eval y=.agg (az v f).toArray) (t:TypeId) (old:List Value) (hb:aq w g t old) (hl:old.length=17)
  (h:wpList Tryz.prog ops Q rest (a.put o.dst undef) (w.setRow g (az v f).toArray)):wpList Tryz.prog ops Q (o::rest) a w:=
 wpList_store_row hgd 24 x y ho g _ hx hy t old.toArray hb (eC.trans (by simp[az])) (by simp[az,hl]) (EP v f) h
theorem Pe{fn:Func}{p:Tmp}(h:fn.results=#[.cell p 24])(tmps:Array Value)(w:World)(g:Nat)(v:Bool)(f:Nat→Nat)(t:TypeId)
  (hp:tmps.getD p undef=.pointer (some ⟨g,0,none⟩)) (hb:aq w g t (az v f)):(results fn tmps).run Tryz.prog w=.ok (.agg (az v f).toArray) w:=
 results_cell_row h tmps w g t _ (0,0) _ hp hb Tryz.underlying24 rfl (eC.trans (by simp[az]))
theorem pJ(v:Bool){f g:Nat→Nat}(h:∀j,j < 16→f j=g j):az v f=az v g:=by
 unfold az
 congr 1
 exact List.map_congr_left fun j hj=>by rw[h j (by simpa using hj)]
def j9(K:Nat)(f:Nat→Nat)(i j:Nat):Nat:=if j < i then eK K j (f j)else f j
theorem tU(v:Bool)(f g:Nat→Nat)(i x:Nat)(hg:g i=x)(he:∀j,j < 16→j≠i→g j=f j):(az v f).set (1+i) (.int .u8 (x:Int))=az v g:=by
 apply List.ext_getElem?
 intro j
 rw[List.getElem?_set,ay]
 by_cases h1:1+i=j
 ·subst h1
  rw[if_pos rfl]
  by_cases hi:i < 16
  ·rw[cn v g i hi,if_pos (by omega),hg]
  ·rw[if_neg (by omega),List.getElem?_eq_none (by rw[ay];omega)]
 ·rw[if_neg h1]
  cases j with
  |zero=>rfl
  |succ j=>
   rw[Nat.add_comm j 1]
   by_cases hj:j < 16
   ·rw[cn v f j hj,cn v g j hj,he j hj (by omega)]
   ·rw[List.getElem?_eq_none (by rw[ay];omega),List.getElem?_eq_none (by rw[ay];omega)]
theorem Gy{K i x:Nat}{f:Nat→Nat}(h:eK K i (f i)=x):j9 K f (i+1) i=x:=by unfold j9;rw[if_pos (by omega),h]
theorem Gx(K:Nat)(f:Nat→Nat)(i j:Nat)(_:j < 16)(hj:j≠i):j9 K f (i+1) j=j9 K f i j:=by
 unfold j9
 by_cases h:j < i
 ·rw[if_pos h,if_pos (by omega)]
 ·rw[if_neg h,if_neg (by omega)]
theorem zR:∀(x:Fin 256) (s:Fin 8),bits BinOp.and IntKind.u8 (x.val:Int) (255*2^s.val%256)=((x.val / 2^s.val*2^s.val:Nat):Int):=by decide +kernel
theorem Ld(x s:Nat)(hx:x < 256)(hs:s < 8):bits BinOp.and IntKind.u8 (x:Int) (255*2^s%256)=((x / 2^s*2^s:Nat):Int):=zR ⟨x,hx⟩ ⟨s,hs⟩
set_option maxHeartbeats 2000000 in
theorem sN(v:Bool)(f:Nat→Nat)(K:Nat)(hf:∀j,f j < 256)(hK:K≤128)(w:World) :
  Calls Tryz.prog 108 #[.agg (az v f).toArray,.int .i64 K] w fun e w'=>e=.returned (.agg (az v fun j=>eK K j (f j)).toArray)∧ag [] w w':=by
 have HS:=hid (show aq ((w.alloc (.cells (az v f).toArray 24)).alloc (.cells (az false fun _=>0).toArray 24)) w.heap.size 24 (az v (j9 K f 0))from(aq.new w 24 (az v f).toArray).alloc _)
 have HR:=hid (show aq ((w.alloc (.cells (az v f).toArray 24)).alloc (.cells (az false fun _=>0).toArray 24)) (w.heap.size+1) 24 (az false fun _=>0)from aq.eZ _ 24 (az false fun _=>0).toArray (by simp))
 have HC:=hid (((ag.refl [] w).alloc (.cells (az v f).toArray 24)).alloc (.cells (az false fun _=>0).toArray 24))
 go_enter Tryz.func108,Tryz.ntmps108
 go_wp2
 go_loopw [7] (fun iv wr=>∃i:Nat,i≤16∧iv=.int .i64 i∧aq wr w.heap.size 24 (az v (j9 K f i))∧aq wr (w.heap.size+1) 24 (az false fun _=>0)∧ag [] w wr) (fun iv _=>16 - (RowKit.intOf iv).toNat)
 case atStart=>exact⟨0,by omega,rfl,HS.out,HR.out,HC.out⟩
 case round=>
  obtain⟨i,hi,rfl,hS,hR,hC⟩:=hrel
  by_cases hlt:(i:Int) < 16
  ·have i0:(0:Int)≤(i:Int):=by omega
   have c1:=hS.cell_of (cn v (j9 K f i) i (by omega))
   have f1:=hS.frozen (1+i)
   by_cases h1:(K:Int) - 8*(i:Int)≤0
   ·go_wp2
    go_roundw
    case measure=>simp[RowKit.intOf];omega
    case rel=>
     refine⟨i+1,by omega,by go_num,?_,hR.I0 (by simp) _,hC.Jn (Nat.le_refl _) _ _⟩
     have hs:=hS.oO (1+i) (.int .u8 0)
     have e:=tU v (j9 K f i) (j9 K f (i+1)) i 0 (Gy (by unfold eK;rw[if_pos (by omega)])) (Gx K f i)
     exact e ▸ hs
   ·by_cases h2:(K:Int) - 8*(i:Int) < 8
    ·obtain⟨s,hs⟩:∃s:Nat,s=8*i+8 - K:=⟨_,rfl⟩
     have es:(8:Int) - ((K:Int) - 8*(i:Int))=(s:Int):=by omega
     have s0:(0:Int)≤(s:Int):=by omega
     go_wp2
     go_region
     go_wp2
     go_roundw
     case measure=>simp[RowKit.intOf];omega
     case rel=>
      refine⟨i+1,by omega,by go_num,?_,(hR.I0 (by simp) _).drewN 1,(hC.Jn (Nat.le_refl _) _ _).drew⟩
      have hv:bits BinOp.and IntKind.u8 (j9 K f i i:Int) (255*2^(8*i+8 - K)%256)=((eK K i (f i):Nat):Int):=by
       rw[show j9 K f i i=f i by unfold j9; rw[if_neg (by omega)],Ld (f i) (8*i+8 - K) (hf i) (by omega)]
       unfold eK;rw[if_neg (by omega),if_pos (by omega)]
      rw[hv]
      have hs:=hS.oO (1+i) (.int .u8 ((eK K i (f i):Nat):Int))
      have e:=tU v (j9 K f i) (j9 K f (i+1)) i _ (Gy rfl) (Gx K f i)
      exact(e ▸ hs).drewN 1
    ·go_wp2
     go_roundw
     case measure=>simp[RowKit.intOf];omega
     case rel=>
      refine⟨i+1,by omega,by go_num,?_,hR,hC⟩
      rwa [pJ v (f:=j9 K f i) (g:=j9 K f (i+1)) (fun j _=>by
       unfold j9
       by_cases h:j < i
       ·rw[if_pos h,if_pos (by omega)]
       ·rw[if_neg h]
        by_cases h3:j=i
        ·subst h3;rw[if_pos (by omega)];unfold eK;rw[if_neg (by omega),if_neg (by omega)]
        ·rw[if_neg (by omega)])]at hS
  ·have hi16:i=16:=by omega
   subst hi16
   go_wp2_with (first | (refine ug rfl _ rfl w.heap.size rfl 24 v _ hS ?_) | (refine jT rfl _ _ rfl (w.heap.size+1) v _ rfl rfl 24 _ hR (ay _ _) ?_))
   refine bodyPost_ret (Pe rfl _ _ (w.heap.size+1) v (fun j=>eK K j (f j)) 24 rfl ?_) rfl ⟨rfl,hC.setRow (.inr (by omega)) _⟩
   have hs:=hR.row (az v (j9 K f 16))
   rwa [pJ v (f:=j9 K f 16) (g:=fun j=>eK K j (f j)) (fun j hj=>if_pos hj)]at hs
open Go.RowKit Go.Lib Go.Sort
def gr(f:Nat→Nat):List Value:=(List.range 16).map (fun j=>.int .u8 (f j:Int))
def EF(f:Nat→Nat):List Lit:=(List.range 16).map (fun j=>.int .u8 (f j:Int))
def lP(f g:Nat→Nat):Bool:=(List.range 16).all fun j=>f j==g j
theorem iO(f g:Nat→Nat):lP f g=true↔∀j,j < 16→f j=g j:=by simp[lP]
theorem Da(f g:Nat→Nat):EF f=EF g↔lP f g=true:=by
 rw[iO]
 unfold EF
 rw[List.map_inj_left]
 constructor
 ·intro h j hj
  have:=h j (by simpa using hj)
  injection this with _ h2
  omega
 ·intro h j hj
  rw[h j (by simpa using hj)]
theorem yw{α β:Type}(g:α→Option β)(h:α→β):∀l:List α,(∀x∈l,g x=some (h x))→l.mapM g=some (l.map h)
 | [],_=>by simp
 |x::l,H=>by
  rw[List.mapM_cons,H x (by simp),yw g h l (fun y hy=>H y (by simp[hy]))]
  rfl
theorem y6{α β:Type}(h:α→β):∀l:List α,(l.map fun x=>[h x]).flatten=l.map h
 | []=>rfl
 |x::l=>by rw[List.map_cons,List.flatten_cons,y6 h l];rfl
theorem Pr(d x:Nat)(hx:x < 256):Tryz.prog.keyLits (d+1) 5 [.int .u8 (x:Int)]=some [.int .u8 (x:Int)]:=by
 have hw:(Lit.int .u8 (x:Int)).wf=true:=by simp[Lit.wf,IntKind.min,IntKind.max,IntKind.signed,IntKind.bits];omega
 simp[Program.keyLits,Tryz.underlying5,hw]
theorem M0:Tryz.prog.cellsOf 5=1:=by kernel_rfl
theorem rA:Tryz.prog.cellsOf 22=16:=by kernel_rfl
theorem Ig(f:Nat→Nat)(i:Nat)(hi:i < 16):((gr f).drop (i*1)).take 1=[.int .u8 (f i:Int)]:=by
 rw[Nat.mul_one]
 have:(gr f)[i]?=some (.int .u8 (f i:Int)):=by simp[gr,hi]
 have hl:i < (gr f).length:=by simp[gr];omega
 rw[List.drop_eq_getElem_cons hl]
 rw[List.getElem?_eq_getElem hl]at this
 injection this with this
 rw[this];rfl
theorem A4(d:Nat)(f:Nat→Nat)(hf:∀j,f j < 256):Tryz.prog.keyLits (d+2) 22 (gr f)=some (EF f):=by
 unfold Program.keyLits
 rw[Tryz.underlying22]
 simp only
 rw[if_pos (by rw[rA];simp[gr]),yw _ (fun i=>[Lit.int .u8 (f i:Int)]) _ (fun i hi=>by rw[M0,Ig f i (by simpa using hi)];exact Pr d _ (hf i)),Option.map_some,y6]
 rfl
theorem Oy(f g:Nat→Nat)(hf:∀j,f j < 256)(hg:∀j,g j < 256)(W:World):(Op.equalIn 10000 22 (.agg (gr f).toArray) (.agg (gr g).toArray)).run Tryz.prog W=.ok (lP f g) W:=by
 obtain⟨r,h1,h2⟩:=run_equalIn_deep (P:=Tryz.prog) 9995 5 22 (by kernel_rfl) W 5 5 (.agg (gr f).toArray) (.agg (gr g).toArray) _ _ (by simp[Value.formed,Tryz.underlying22,rA,gr]) (by simp[Value.formed,Tryz.underlying22,rA,gr]) (A4 3 f hf) (A4 3 g hg)
 simp only[Nat.reduceAdd]at h1
 rw[Da]at h2
 have e:r=lP f g:=by
  revert h2
  cases r<;>cases lP f g<;>simp
 rw[h1,e]
theorem EO(v:Bool)(f:Nat→Nat):(az v f).toArray.extract 1 17=(gr f).toArray:=by
 apply Array.toList_inj.1
 simp[az,gr,List.take_of_length_le]
theorem FE:(Tryz.prog.info? 22).map (·.size)=some 16:=by kernel_rfl
theorem jN(f:Nat→Nat):(gr f).length=16:=by simp[gr]
theorem CO(x y:Operand)(a b:Array Value)(W:World):(eqGuard .neq 22 x y (.agg a) (.agg b)).run Tryz.prog W=.ok () W:=by kernel_rfl
theorem CU(v:Bool)(f:Nat→Nat)(W:World):(Instr.field 24 (.agg (az v f).toArray) 1).run Tryz.prog W=.ok (.agg (gr f).toArray) W:=by
 have h:(Instr.field 24 (.agg (az v f).toArray) 1).run Tryz.prog W=.ok (.agg ((az v f).toArray.extract 1 17)) W:=by kernel_rfl
 rw[h,EO]
theorem vj(v:Bool)(f:Nat→Nat)(W:World):(Instr.field 24 (.agg (az v f).toArray) 0).run Tryz.prog W=.ok (.bool v) W:=by kernel_rfl
theorem JD{w:World}{g:Nat}{t:TypeId}{v:Bool}{f:Nat→Nat}(hb:aq w g t (az v f)):∀W,(∃p:Regrown,W=grow (redrawn w p.d) p.os)→W.rangeAt g 1 (gr f):=
 hb.mT 1 (gr f) fun j x hx=>by
  have hj:j < 16:=by
   have:=(List.getElem?_eq_some_iff.1 hx).1
   rwa [jN]at this
  rw[cn v f j hj]
  rw[←hx];simp[gr,hj]
attribute [local go_sem] CO CU vj
theorem GG(k i x:Nat):eK k i x≤x:=by
 unfold eK
 by_cases h:k≤8*i
 ·rw[if_pos h];exact Nat.zero_le _
 ·rw[if_neg h]
  by_cases h2:k < 8*i+8
  ·rw[if_pos h2];exact Nat.div_mul_le_self _ _
  ·rw[if_neg h2];exact Nat.le_refl _
set_option maxHeartbeats 2000000 in
theorem uj(v:Bool)(f:Nat→Nat)(hf:∀j,f j < 256)(w:World) :
  Calls Tryz.prog 109 #[.agg (az v f).toArray] w fun e w'=>e=.returned (.int .i64 (if lP (fun j=>eK (wid v) j (f j)) f then 0 else 150))∧ag [] w w':=by
 have HB:=hid (aq.new w 24 (az v f).toArray)
 have HC:=hid ((ag.refl [] w).alloc (.cells (az v f).toArray 24))
 have HW:=hid (mq (uk v f))
 have HM:=hid (mq (sN v f (wid v) hf (eV v)))
 have hE:=Oy (fun j=>eK (wid v) j (f j)) f (fun j=>Nat.lt_of_le_of_lt (GG _ _ _) (hf j)) hf
 obtain⟨b,hb⟩:∃b,b=lP (fun j=>eK (wid v) j (f j)) f:=⟨_,rfl⟩
 rw[←hb]at hE
 rw[←hb]
 clear hb
 go_enter Tryz.func109,Tryz.ntmps109
 go_wp2
 obtain⟨w1,hw1⟩:∃w1,w1=w.alloc (.cells (az v f).toArray 24):=⟨_,rfl⟩
 rw[←hw1]
 have B1:aq w1 w.heap.size 24 (az v f):=by rw[hw1];exact HB.out
 have C1:ag [] w w1:=by rw[hw1];exact HC.out
 clear hw1 HB HC
 have R0:=B1.sb
 have R1:=JD B1
 refine wp_region_quiet_below (by kernel_rfl) (by kernel_rfl) ?_
 refine ku rfl 24 _ rfl w.heap.size 0 rfl (az v f) _ R0 Tryz.underlying24 rfl (eC.trans (by rw[ay])) ?_
 refine ku rfl 24 _ rfl w.heap.size 0 rfl (az v f) _ R0 Tryz.underlying24 rfl (eC.trans (by rw[ay])) ?_
 repeat (first|refine ku rfl 22 _ rfl w.heap.size 1 rfl (gr f) _ R1 Tryz.underlying22 rfl (FE.trans (by rw[jN])) ?_|go_big_quiet_step ((first | (go_at_call 107;with_reducible exact HW.out _ _ _) | (go_at_call 108;with_reducible exact HM.out _ _ _)))|quiet_step ((first | (go_at_call 107;with_reducible exact HW.out _ _ _) | (go_at_call 108;with_reducible exact HM.out _ _ _))))
 refine wpQuiet_nil ?_
 intro w3 hw3
 have C3:=eO hw3
 clear hw3 R0 R1
 have fin:=hid (C1.trans C3)
 cases b
 ·go_wp2
  go_ret
  exact⟨rfl,fin.out⟩
 ·go_wp2
  go_ret
  exact⟨rfl,fin.out⟩
def cx(v:Bool)(n:Nat):List Value:=az v (ah n)
theorem bL(v:Bool)(n:Nat):(cx v n).length=17:=ay v _
theorem nV{n m:Nat}(hn:n < 2^128)(hm:m < 2^128):lP (ah n) (ah m)=decide (n=m):=by
 by_cases h:n=m
 ·rw[decide_eq_true h,h];exact(iO _ _).2 fun _ _=>rfl
 ·rw[decide_eq_false h]
  rw[←Bool.not_eq_true,iO]
  exact fun q=>h (jq hn hm q)
theorem ux{n k:Nat}(hn:n < 2^128)(hk:k≤128):lP (fun j=>eK k j (ah n j)) (ah n)=decide (cK n k=n):=by
 rw[←nV (Nat.lt_of_le_of_lt (sP n k) hn) hn]
 rw[Bool.eq_iff_iff,iO,iO]
 exact⟨fun h j hj=>by rw[kg n k j hj hk];exact h j hj,fun h j hj=>by rw[←kg n k j hj hk];exact h j hj⟩
theorem IB(v:Bool)(n k:Nat)(hk:k≤128):az v (fun j=>eK k j (ah n j))=cx v (cK n k):=
 pJ v fun j hj=>(kg n k j hj hk).symm
theorem I4(v:Bool)(n:Nat)(w:World):Calls Tryz.prog 107 #[.agg (cx v n).toArray] w fun e w'=>e=.returned (.int .i64 (wid v:Nat))∧ag [] w w':=uk v _ w
theorem GF(v:Bool)(n K:Nat)(hK:K≤128)(w:World):Calls Tryz.prog 108 #[.agg (cx v n).toArray,.int .i64 K] w fun e w'=>e=.returned (.agg (cx v (cK n K)).toArray)∧ag [] w w':=by
 have h:=sN v (ah n) K (aZ n) hK w
 rwa [IB v n K hK]at h
def eu(v:Bool)(n:Nat):Int:=if iG v n then 0 else 150
theorem mv(v:Bool)(n:Nat)(hn:n < 2^128)(w:World):Calls Tryz.prog 109 #[.agg (cx v n).toArray] w fun e w'=>e=.returned (.int .i64 (eu v n))∧ag [] w w':=by
 have h:=uj v (ah n) (aZ n) w
 rwa [ux hn (eV v)]at h
open Go.RowKit Go.Lib Go.Sort
def cV(v:Bool)(n:Nat)(k:Int):List Value:=cx v n++[.int .i64 k]
theorem eX(v:Bool)(n:Nat)(k:Int):(cV v n k).length=18:=by simp[cV,bL]
theorem rn(v:Bool)(n:Nat)(k:Int)(j:Nat)(x:Value)(h:(cx v n)[j]?=some x):(cV v n k)[j]?=some x:=by
 unfold cV
 rw[List.getElem?_append_left (List.getElem?_eq_some_iff.1 h).1,h]
theorem gg(v:Bool)(n:Nat)(k:Int):(cV v n k)[17]?=some (.int .i64 k):=by
 unfold cV
 rw[List.getElem?_append_right (by rw[bL];omega),bL];rfl
theorem Le(v:Bool)(n j:Nat)(x:Value)(h:(gr (ah n))[j]?=some x):(cx v n)[1+j]?=some x:=by
 have hj:j < 16:=by
  have:=(List.getElem?_eq_some_iff.1 h).1
  rwa [jN]at this
 unfold cx
 rw[cn v _ j hj,←h];simp[gr,hj]
theorem vF:(Tryz.prog.info? 29).map (·.size)=some 18:=by kernel_rfl
theorem Gg(v:Bool)(n:Nat)(k:Int):(cV v n k).toArray.all (·.oneCell')=true:=by
 simp[cV,cx,az,Value.oneCell']
structure PJ(w:World)(g:Nat)(v:Bool)(n:Nat)(k:Int):Prop where
 whole:∀W,(∃p:Regrown,W=grow (redrawn w p.d) p.os)→W.rangeAt g 0 (cV v n k)
 cx:∀W,(∃p:Regrown,W=grow (redrawn w p.d) p.os)→W.rangeAt g 0 (cx v n)
 Qb:∀W,(∃p:Regrown,W=grow (redrawn w p.d) p.os)→W.rangeAt g 1 (gr (ah n))
theorem aq.DL{w:World}{g:Nat}{t:TypeId}{v:Bool}{n:Nat}{k:Int}(hb:aq w g t (cV v n k)):PJ w g v n k:=
 ⟨hb.sb,hb.mT 0 _ (fun j x hx=>by rw[Nat.zero_add];exact rn v n k j x hx),hb.mT 1 _ (fun j x hx=>rn v n k _ x (Le v n j x hx))⟩
def df(v:Bool)(n:Nat)(k:Int):Int:=if fA v n k then 0 else 151
theorem zg(v:Bool)(n:Nat)(W:World):(Instr.field 24 (.agg (cx v n).toArray) 1).run Tryz.prog W=.ok (.agg (gr (ah n)).toArray) W:=CU v _ W
theorem tB(v:Bool)(n:Nat)(W:World):(Instr.field 24 (.agg (cx v n).toArray) 0).run Tryz.prog W=.ok (.bool v) W:=vj v _ W
attribute [local go_sem] CO zg tB
set_option maxHeartbeats 2000000 in
theorem rv(v:Bool)(n:Nat)(k:Int)(hn:n < 2^128)(w:World) :
  Calls Tryz.prog 50 #[.agg (cV v n k).toArray] w fun e w'=>e=.returned (.int .i64 (df v n k))∧ag [] w w':=by
 have HB:=hid (aq.new w 29 (cV v n k).toArray)
 have HC:=hid ((ag.refl [] w).alloc (.cells (cV v n k).toArray 29))
 have HW:=hid (mq (I4 v n))
 have hw128:=eV v
 by_cases h1:k < 0
 ·have fin:df v n k=151:=by unfold df fA;rw[decide_eq_false (by omega)];rfl
  have FIN:=hid fin
  clear fin
  go_enter Tryz.func50,Tryz.ntmps50
  go_wp2
  obtain⟨w1,hw1⟩:∃w1,w1=w.alloc (.cells (cV v n k).toArray 29):=⟨_,rfl⟩
  rw[←hw1]
  have B1:aq w1 w.heap.size 29 (cV v n k):=by rw[hw1];exact HB.out
  have C1:ag [] w w1:=by rw[hw1];exact HC.out
  clear hw1 HB HC
  have ck:=cell_regrown (B1.cell_of (gg v n k))
  refine wp_region_quiet_below (by kernel_rfl) (by kernel_rfl) ?_
  repeat (first|go_big_quiet_step (fail)|quiet_step (fail))
  refine wpQuiet_nil ?_
  intro w3 hw3
  have C3:=eO hw3
  clear hw3 ck
  have HF:=hid (C1.trans C3)
  go_wp2
  rw[FIN.out]
  go_ret
  exact⟨rfl,HF.out⟩
 ·obtain⟨K,rfl⟩:∃K:Nat,k=(K:Int):=⟨k.toNat,by omega⟩
  have d1:decide ((K:Int) < 0)=false:=decide_eq_false (by omega)
  by_cases h2:(wid v:Int) < (K:Int)
  ·have d2:decide (wid v < K)=true:=decide_eq_true (by omega)
   have fin:df v n K=151:=by unfold df fA;rw[decide_eq_false (p:=(K:Int)≤(wid v:Int)) (by omega)];simp
   have FIN:=hid fin
   clear fin hw128
   go_enter Tryz.func50,Tryz.ntmps50
   go_wp2
   obtain⟨w1,hw1⟩:∃w1,w1=w.alloc (.cells (cV v n K).toArray 29):=⟨_,rfl⟩
   rw[←hw1]
   have B1:aq w1 w.heap.size 29 (cV v n K):=by rw[hw1];exact HB.out
   have C1:ag [] w w1:=by rw[hw1];exact HC.out
   clear hw1 HB HC
   have ck:=cell_regrown (B1.cell_of (gg v n K))
   have R:=B1.DL
   refine wp_region_quiet_below (by kernel_rfl) (by kernel_rfl) ?_
   repeat (first | (go_big_quiet_want;refine fP 24 _ rfl w.heap.size 0 rfl (cx v n) _ R.cx Tryz.underlying24 rfl (eC.trans (by rw[bL])) ?_;go_big_quiet_on)|go_big_quiet_step ((go_at_call 107;with_reducible exact HW.out _ _ _))|quiet_step ((go_at_call 107;with_reducible exact HW.out _ _ _)))
   refine wpQuiet_nil ?_
   intro w3 hw3
   have C3:=eO hw3
   clear hw3 ck R
   have HF:=hid (C1.trans C3)
   go_wp2
   rw[FIN.out]
   go_ret
   exact⟨rfl,HF.out⟩
  ·have d2:decide (wid v < K)=false:=decide_eq_false (by omega)
   obtain⟨b,hb⟩:∃b,b=decide (cK n K=n):=⟨_,rfl⟩
   have fin:df v n K=if b then 0 else 151:=by unfold df fA;rw[decide_eq_true (p:=(K:Int)≤(wid v:Int)) (by omega),hb];simp
   have FIN:=hid fin
   have HM:=hid (mq (GF v n K (by omega)))
   have hE:=Oy (ah (cK n K)) (ah n) (aZ _) (aZ _)
   rw[nV (Nat.lt_of_le_of_lt (sP n K) hn) hn,←hb]at hE
   clear hb
   clear fin hw128
   go_enter Tryz.func50,Tryz.ntmps50
   go_wp2
   obtain⟨w1,hw1⟩:∃w1,w1=w.alloc (.cells (cV v n K).toArray 29):=⟨_,rfl⟩
   rw[←hw1]
   have B1:aq w1 w.heap.size 29 (cV v n K):=by rw[hw1];exact HB.out
   have C1:ag [] w w1:=by rw[hw1];exact HC.out
   clear hw1 HB HC
   have ck:=cell_regrown (B1.cell_of (gg v n K))
   have R:=B1.DL
   refine wp_region_quiet_below (by kernel_rfl) (by kernel_rfl) ?_
   repeat (first | (go_big_quiet_want;refine fP 24 _ rfl w.heap.size 0 rfl (cx v n) _ R.cx Tryz.underlying24 rfl (eC.trans (by rw[bL])) ?_;go_big_quiet_on) | (go_big_quiet_want;refine fP 22 _ rfl w.heap.size 1 rfl (gr (ah n)) _ R.Qb Tryz.underlying22 rfl (FE.trans (by rw[jN])) ?_;go_big_quiet_on)|go_big_quiet_step ((first | (go_at_call 107;with_reducible exact HW.out _ _ _) | (go_at_call 108;with_reducible exact HM.out _ _ _)))|quiet_step ((first | (go_at_call 107;with_reducible exact HW.out _ _ _) | (go_at_call 108;with_reducible exact HM.out _ _ _))))
   refine wpQuiet_nil ?_
   intro w3 hw3
   have C3:=eO hw3
   clear hw3 ck R
   have HF:=hid (C1.trans C3)
   cases b
   ·go_wp2
    rw[FIN.out]
    go_ret
    exact⟨rfl,HF.out⟩
   ·go_wp2
    rw[FIN.out]
    go_ret
    exact⟨rfl,HF.out⟩
open Go.RowKit Go.Lib Go.Sort
theorem MH{ops:Array Oper}{rest:List Oper}{o:Oper}{a:Act}{w:World}{Q:Exit→Act→World→Prop}(hgd:o.guard=none)(x:Operand)(ho:o.op=.load 29 x)
  (g:Nat) (hx:a.eval x=.pointer (some ⟨g,0,none⟩)) (t:TypeId) (v:Bool) (n:Nat) (k:Int) (hb:aq w g t (cV v n k))
  (h:wpList Tryz.prog ops Q rest (a.put o.dst (.agg (cV v n k).toArray)) w):wpList Tryz.prog ops Q (o::rest) a w:=
 wpList_load_row hgd 29 x ho g hx t _ (0,0) _ hb Tryz.underlying29 rfl (vF.trans (by simp[eX])) h
theorem Dl{ops:Array Oper}{rest:List Oper}{o:Oper}{a:Act}{w:World}{Q:Exit→Act→World→Prop}(hgd:o.guard=none)(x y:Operand)(ho:o.op=.store 29 x y)
  (g:Nat) (v:Bool) (n:Nat) (k:Int) (hx:a.eval x=.pointer (some ⟨g,0,none⟩)) (hy:a.eval y=.agg (cV v n k).toArray) (t:TypeId) (old:List Value) (hb:aq w g t old) (hl:old.length=18)
  (h:wpList Tryz.prog ops Q rest (a.put o.dst undef) (w.setRow g (cV v n k).toArray)):wpList Tryz.prog ops Q (o::rest) a w:=
 wpList_store_row hgd 29 x y ho g _ hx hy t old.toArray hb (vF.trans (by simp[eX])) (by simp[eX,hl]) (Gg v n k) h
theorem ik{ops:Array Oper}{rest:List Oper}{o:Oper}{a:Act}{w:World}{Q:Exit→Act→World→Prop}(hgd:o.guard=none)(x:Operand)(ho:o.op=.load 24 x)
  (g:Nat) (hx:a.eval x=.pointer (some ⟨g,0,none⟩)) (t:TypeId) (v:Bool) (n:Nat) (hb:aq w g t (cx v n))
  (h:wpList Tryz.prog ops Q rest (a.put o.dst (.agg (cx v n).toArray)) w):wpList Tryz.prog ops Q (o::rest) a w:=ug hgd x ho g hx t v (ah n) hb h
def iy:Array Value:=#[.bool false,.int .u8 0,.int .u8 0,.int .u8 0,.int .u8 0,.int .u8 0,.int .u8 0,.int .u8 0,.int .u8 0,.int .u8 0,.int .u8 0,.int .u8 0,.int .u8 0,.int .u8 0,.int .u8 0,.int .u8 0,.int .u8 0,.int .i64 0]
theorem I1:iy=(cV false 0 0).toArray:=by kernel_rfl
theorem FC{ops:Array Oper}{rest:List Oper}{o:Oper}{a:Act}{w:World}{Q:Exit→Act→World→Prop}(hgd:o.guard=none)(x y:Operand)(ho:o.op=.store 29 x y)
  (g:Nat) (hx:a.eval x=.pointer (some ⟨g,0,none⟩)) (hy:a.eval y=.agg iy) (t:TypeId) (old:List Value) (hb:aq w g t old) (hl:old.length=18)
  (h:wpList Tryz.prog ops Q rest (a.put o.dst undef) (w.setRow g (cV false 0 0).toArray)):wpList Tryz.prog ops Q (o::rest) a w:=
 Dl hgd x y ho g false 0 0 hx (by rw[hy,I1]) t old hb hl h
theorem Cb{fn:Func}{p q:Tmp}(h:fn.results=#[.cell p 29,.tmp q])(tmps:Array Value)(w:World)(g:Nat)(v:Bool)(n:Nat)(k:Int)(t:TypeId)(u:Value)
  (hp:tmps.getD p undef=.pointer (some ⟨g,0,none⟩)) (hq:tmps.getD q undef=u) (hb:aq w g t (cV v n k)):(results fn tmps).run Tryz.prog w=.ok (.tuple #[.agg (cV v n k).toArray,u]) w:=by
 have hp':tmps[p]?.getD undef=.pointer (some ⟨g,0,none⟩):=by simpa using hp
 have hq':tmps[q]?.getD undef=u:=by simpa using hq
 simp[results,h,hp',hq',asAddr,run_loadVar_row w g t 29 _ (0,0) _ hb Tryz.underlying29 rfl (vF.trans (by simp[eX]))]
theorem KY(v:Bool)(n:Nat)(k:Int):Tryz.prog.built 29 [(0,.agg (cx v n).toArray),(1,.int .i64 k)]=some (cV v n k).toArray:=by kernel_rfl
theorem K6{ops:Array Oper}{rest:List Oper}{o:Oper}{a:Act}{w:World}{Q:Exit→Act→World→Prop}(hg:o.guard=none)(x y:Operand)(ho:o.op=.build 29 #[(0,x),(1,y)])(v:Bool)(n:Nat)(k:Int)
  (hx:a.eval x=.agg (cx v n).toArray) (hy:a.eval y=.int .i64 k) (h:wpList Tryz.prog ops Q rest (a.put o.dst (.agg (cV v n k).toArray)) w):wpList Tryz.prog ops Q (o::rest) a w:=by
 have e:Tryz.prog.built 29 ((#[(0,x),(1,y)]:Array (Nat×Operand)).map fun(i,z)=>(i,a.eval z)).toList=some (cV v n k).toArray:=by
  simp only[List.map_toArray,List.map_cons,List.map_nil,hx,hy]
  exact KY v n k
 refine wpList_build hg 29 _ ho (by rw[e];rfl) ?_
 rw[e]
 exact h
open Go.RowKit Go.Lib Go.Sort
def IQ(w:World)(g o n:Nat):Prop:=∀j,j < 16→w.cell? ⟨g,o+j,none⟩=some (.int .u8 (ah n j:Int))
theorem IQ.aF{w w':World}{g o n:Nat}(h:IQ w g o n)(hc:ag [] w w'):IQ w' g o n:=fun j hj=>by
 have hl:=block_lt_of_cell (h j hj)
 rw[hc.cell hl (by simp)];exact h j hj
open Go.RowKit Go.Lib Go.Sort
open Go.RowKit Go.Lib Go.Sort
theorem LG{ops:Array Oper}{rest:List Oper}{o:Oper}{a:Act}{w:World}{Q:Exit→Act→World→Prop}(hgd:Region.wanted o (yielded ops a.tmps)=true)(x:Operand)(ho:o.op=.load 29 x)
  (g:Nat) (hx:a.eval x=.pointer (some ⟨g,0,none⟩)) (t:TypeId) (v:Bool) (n:Nat) (k:Int) (hb:aq w g t (cV v n k))
  (h:wpList Tryz.prog ops Q rest (a.put o.dst (.agg (cV v n k).toArray)) w):wpList Tryz.prog ops Q (o::rest) a w:=by
 unfold wpList
 rw[if_pos hgd]
 exact .inl (wp_load_row 29 x ho g hx t _ (0,0) _ hb Tryz.underlying29 rfl (vF.trans (by simp[eX])) h)
theorem Ol{ops:Array Oper}{rest:List Oper}{o:Oper}{a:Act}{w:World}{Q:Exit→Act→World→Prop}(hgd:Region.wanted o (yielded ops a.tmps)=true)(x:Operand)(ho:o.op=.load 24 x)
  (g:Nat) (hx:a.eval x=.pointer (some ⟨g,0,none⟩)) (t:TypeId) (v:Bool) (n:Nat) (k:Int) (hb:aq w g t (cV v n k))
  (h:wpList Tryz.prog ops Q rest (a.put o.dst (.agg (cx v n).toArray)) w):wpList Tryz.prog ops Q (o::rest) a w:=by
 unfold wpList
 rw[if_pos hgd]
 exact .inl (wp_load_mid 24 x ho g 0 hx (cx v n) _ (fun j y hy=>hb.cell_of (by rw[Nat.zero_add];exact rn v n k j y hy)) Tryz.underlying24 rfl (eC.trans (by rw[bL])) h)
theorem Oj{ops:Array Oper}{rest:List Oper}{o:Oper}{a:Act}{w:World}{Q:Exit→Act→World→Prop}(hgd:o.guard=none)(x:Operand)(ho:o.op=.load 24 x)
  (g:Nat) (hx:a.eval x=.pointer (some ⟨g,0,none⟩)) (t:TypeId) (v:Bool) (n:Nat) (k:Int) (hb:aq w g t (cV v n k))
  (h:wpList Tryz.prog ops Q rest (a.put o.dst (.agg (cx v n).toArray)) w):wpList Tryz.prog ops Q (o::rest) a w:=
 Ol (by unfold Region.wanted;rw[hgd]) x ho g hx t v n k hb h
open Go.RowKit Go.Lib Go.Sort
open Go.RowKit Go.Lib Go.Sort
def A5(v:Bool)(n:Nat):List Lit:=.bool v::EF (ah n)
def Ke(v:Bool)(n:Nat)(k:Int):List Lit:=A5 v n++[.int .i64 k]
theorem Kf(v v':Bool)(n m:Nat)(hn:n < 2^128)(hm:m < 2^128):A5 v n=A5 v' m↔v=v'∧n=m:=by
 unfold A5
 rw[List.cons.injEq,Da,nV hn hm,decide_eq_true_eq]
 constructor
 ·rintro⟨h1,h2⟩
  injection h1 with h1
  exact⟨h1,h2⟩
 ·rintro⟨rfl,rfl⟩
  exact⟨rfl,rfl⟩
theorem yA(v:Bool)(n:Nat):(A5 v n).length=17:=by simp[A5,EF]
theorem Kc(v v':Bool)(n m:Nat)(k j:Int)(hn:n < 2^128)(hm:m < 2^128):Ke v n k=Ke v' m j↔v=v'∧n=m∧k=j:=by
 unfold Ke
 constructor
 ·intro h
  obtain⟨h1,h2⟩:=List.append_inj h (by rw[yA,yA])
  obtain⟨h3,h4⟩:=(Kf v v' n m hn hm).1 h1
  injection h2 with h2
  injection h2 with _ h2
  exact⟨h3,h4,h2⟩
 ·rintro⟨rfl,rfl,rfl⟩
  rfl
theorem C8:Tryz.prog.cellsOf 24=17:=by kernel_rfl
theorem wZ:Tryz.prog.cellsOf 29=18:=by kernel_rfl
theorem M1:Tryz.prog.cellsOf 4=1:=by kernel_rfl
theorem M3:Tryz.prog.cellsOf 3=1:=by kernel_rfl
theorem Pt(d:Nat)(v:Bool):Tryz.prog.keyLits (d+1) 4 [.bool v]=some [.bool v]:=by
 simp[Program.keyLits,Tryz.underlying4]
theorem Pv(d:Nat)(k:Int)(h0 : -9223372036854775808≤k)(h1:k≤9223372036854775807):Tryz.prog.keyLits (d+1) 3 [.int .i64 k]=some [.int .i64 k]:=by
 have hw:(Lit.int .i64 k).wf=true:=by simp[Lit.wf,IntKind.min,IntKind.max,IntKind.signed,IntKind.bits];omega
 simp[Program.keyLits,Tryz.underlying3,hw]
theorem IC(v:Bool)(n:Nat):((cx v n).drop 1).take 16=gr (ah n):=by
 unfold cx az gr
 rw[List.drop_one,List.tail_cons,List.take_of_length_le (by simp)]
theorem MD(d:Nat)(v:Bool)(n:Nat):Tryz.prog.keyLits (d+3) 24 (cx v n)=some (A5 v n):=by
 have h1:=Pt (d+1) v
 have h2:=A4 d (ah n) (aZ n)
 have h3:=IC v n
 have h4:((cx v n).drop 0).take 1=[.bool v]:=rfl
 unfold Program.keyLits
 rw[Tryz.underlying24]
 simp only
 rw[if_pos ⟨by rw[C8,bL],by simp⟩]
 simp only[List.mapM_cons,List.mapM_nil,M1,rA,h3,h4,h1,h2]
 rfl
theorem GN(d:Nat)(v:Bool)(n:Nat)(k:Int)(h0 : -9223372036854775808≤k)(h1:k≤9223372036854775807):Tryz.prog.keyLits (d+4) 29 (cV v n k)=some (Ke v n k):=by
 have e1:=MD d v n
 have e2:=Pv (d+2) k h0 h1
 have e3:((cV v n k).drop 0).take 17=cx v n:=by
  unfold cV;rw[List.drop_zero,List.take_left' (bL v n)]
 have e4:((cV v n k).drop 17).take 1=[.int .i64 k]:=by
  unfold cV;rw[List.drop_left' (bL v n)];rfl
 unfold Program.keyLits
 rw[Tryz.underlying29]
 simp only
 rw[if_pos ⟨by rw[wZ,eX],by simp⟩]
 simp only[List.mapM_cons,List.mapM_nil,C8,M3,e1,e2,e3,e4]
 rfl
theorem PD(v v':Bool)(n m:Nat)(k j:Int)(hn:n < 2^128)(hm:m < 2^128)(hk : -9223372036854775808≤k∧k≤9223372036854775807)(hj : -9223372036854775808≤j∧j≤9223372036854775807)(W:World):(Op.equalIn 10000 29 (.agg (cV v n k).toArray) (.agg (cV v' m j).toArray)).run Tryz.prog W=.ok (decide (v=v'∧n=m∧k=j)) W:=by
 obtain⟨r,h1,h2⟩:=run_equalIn_deep (P:=Tryz.prog) 9995 5 29 (by kernel_rfl) W 5 5 (.agg (cV v n k).toArray) (.agg (cV v' m j).toArray) _ _ (by simp[Value.formed,Tryz.underlying29,wZ,eX]) (by simp[Value.formed,Tryz.underlying29,wZ,eX]) (GN 1 v n k hk.1 hk.2) (GN 1 v' m j hj.1 hj.2)
 simp only[Nat.reduceAdd]at h1
 rw[Kc v v' n m k j hn hm]at h2
 have e:r=decide (v=v'∧n=m∧k=j):=by
  rw[Bool.eq_iff_iff,h2,decide_eq_true_eq]
 rw[h1,e]
theorem Kw(op:BinOp)(x y:Operand)(a b:Array Value)(W:World):(eqGuard op 29 x y (.agg a) (.agg b)).run Tryz.prog W=.ok () W:=by cases op<;>kernel_rfl
end Go.Proofs.YtnncigmpcdehnaaGreatDoor
