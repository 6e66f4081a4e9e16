import Derived.Test.YtnncigmpcdehnaaGreatDoorQc01
import Derived.Test.YtnncigmpcdehnaaGreatDoorQc02
import Derived.Test.YtnncigmpcdehnaaGreatDoorQc03
import Derived.Test.YtnncigmpcdehnaaGreatDoorRows
import Derived.DeepKeys
import Derived.Laws.BitsAllLaws
namespace Go.Proofs.YtnncigmpcdehnaaGreatDoor
set_option maxRecDepth 100000
open Go.RowKit Go.Lib
def aD(v:Bool)(f:Nat→Nat):List Value:=.bool v::(List.range 16).map (fun j=>.int .u8 (f j:Int))
theorem aB(v:Bool)(f:Nat→Nat):(aD v f).length=17:=by simp[aD]
theorem p9(v:Bool)(f:Nat→Nat):(aD v f)[0]?=some (.bool v):=rfl
theorem di(v:Bool)(f:Nat→Nat)(i:Nat)(hi:i < 16):(aD v f)[1+i]?=some (.int .u8 (f i:Int)):=by
 rw[Nat.add_comm];simp[aD,hi]
set_option maxHeartbeats 1000000 in
theorem uf(v:Bool)(f:Nat→Nat)(w:World) :
  Calls Tryz.prog 107 #[.agg (aD v f).toArray] w fun e w'=>e=.returned (.int .i64 (wid v:Nat))∧ah [] w w':=by
 have b0:=aq.new w 24 (aD v f).toArray
 have c0:=b0.cell_of (i:=0) (v:=.bool v) rfl
 have fin:=hid ((ah.refl [] w).alloc (.cells (aD v f).toArray 24))
 cases v
 ·go_enter Tryz.func107,Tryz.ntmps107
  go_wp2
  go_ret
  exact⟨rfl,fin.out⟩
 ·go_enter Tryz.func107,Tryz.ntmps107
  go_wp2
  go_ret
  exact⟨rfl,fin.out⟩
theorem kK:(Tryz.prog.info? 24).map (·.size)=some 17:=by kernel_rfl
theorem tY{ops:Array Oper}{rest:List Oper}{o:Oper}{a:Act}{w:World}{Q:Exit→Act→World→Prop}(hgd:o.guard=none)(x:Operand)(ho:o.op=.load 24 x)
  (g:Nat) (hx:a.eval x=.pointer (some ⟨g,0,none⟩)) (t:TypeId) (v:Bool) (f:Nat→Nat) (hb:aq w g t (aD v f))
  (h:wpList Tryz.prog ops Q rest (a.put o.dst (.agg (aD v f).toArray)) w):wpList Tryz.prog ops Q (o::rest) a w:=
 wpList_load_row hgd 24 x ho g hx t _ (0,0) _ hb Tryz.underlying24 rfl (kK.trans (by simp[aD])) h
theorem EL(v:Bool)(f:Nat→Nat):(aD v f).toArray.all (·.oneCell')=true:=by
 simp[aD,Value.oneCell']
theorem jS{ops:Array Oper}{rest:List Oper}{o:Oper}{a:Act}{w:World}{Q:Exit→Act→World→Prop}(hgd:o.guard=none)(x y:Operand)(ho:o.op=.store 24 x y)
  (g:Nat) (v:Bool) (f:Nat→Nat) (hx:a.eval x=.pointer (some ⟨g,0,none⟩)) (hy:a.eval y=.agg (aD v f).toArray) (t:TypeId) (old:List Value) (hb:aq w g t old) (hl:old.length=17)
  (h:wpList Tryz.prog ops Q rest (a.put o.dst undef) (w.setRow g (aD v f).toArray)):wpList Tryz.prog ops Q (o::rest) a w:=
 wpList_store_row hgd 24 x y ho g _ hx hy t old.toArray hb (kK.trans (by simp[aD])) (by simp[aD,hl]) (EL v f) h
theorem Pe{fn:Func}{p:Tmp}(h:fn.results=#[.cell p 24])(tmps:Array Value)(w:World)(g:Nat)(v:Bool)(f:Nat→Nat)(t:TypeId)
  (hp:tmps.getD p undef=.pointer (some ⟨g,0,none⟩)) (hb:aq w g t (aD v f)):(results fn tmps).run Tryz.prog w=.ok (.agg (aD v f).toArray) w:=
 results_cell_row h tmps w g t _ (0,0) _ hp hb Tryz.underlying24 rfl (kK.trans (by simp[aD]))
theorem pq(v:Bool){f g:Nat→Nat}(h:∀j,j < 16→f j=g j):aD v f=aD v g:=by
 unfold aD
 congr 1
 exact List.map_congr_left fun j hj=>by rw[h j (by simpa using hj)]
def j8(K:Nat)(f:Nat→Nat)(i j:Nat):Nat:=if j < i then ft K j (f j)else f j
theorem tL(v:Bool)(f g:Nat→Nat)(i x:Nat)(hg:g i=x)(he:∀j,j < 16→j≠i→g j=f j):(aD v f).set (1+i) (.int .u8 (x:Int))=aD v g:=by
 apply List.ext_getElem?
 intro j
 rw[List.getElem?_set,aB]
 by_cases h1:1+i=j
 ·subst h1
  rw[if_pos rfl]
  by_cases hi:i < 16
  ·rw[di v g i hi,if_pos (by omega),hg]
  ·rw[if_neg (by omega),List.getElem?_eq_none (by rw[aB];omega)]
 ·rw[if_neg h1]
  cases j with
  |zero=>rfl
  |succ j=>
   rw[Nat.add_comm j 1]
   by_cases hj:j < 16
   ·rw[di v f j hj,di v g j hj,he j hj (by omega)]
   ·rw[List.getElem?_eq_none (by rw[aB];omega),List.getElem?_eq_none (by rw[aB];omega)]
theorem Gn{K i x:Nat}{f:Nat→Nat}(h:ft K i (f i)=x):j8 K f (i+1) i=x:=by unfold j8;rw[if_pos (by omega),h]
theorem Gm(K:Nat)(f:Nat→Nat)(i j:Nat)(_:j < 16)(hj:j≠i):j8 K f (i+1) j=j8 K f i j:=by
 unfold j8
 by_cases h:j < i
 ·rw[if_pos h,if_pos (by omega)]
 ·rw[if_neg h,if_neg (by omega)]
theorem zy:∀(x:Fin 256) (s:Fin 8),bits BinOp.and IntKind.u8 (x.val:Int) (255*2^s.val%256)=((x.val / 2^s.val*2^s.val:Nat):Int):=by decide +kernel
theorem K9(x s:Nat)(hx:x < 256)(hs:s < 8):bits BinOp.and IntKind.u8 (x:Int) (255*2^s%256)=((x / 2^s*2^s:Nat):Int):=zy ⟨x,hx⟩ ⟨s,hs⟩
set_option maxHeartbeats 2000000 in
theorem sF(v:Bool)(f:Nat→Nat)(K:Nat)(hf:∀j,f j < 256)(hK:K≤128)(w:World) :
  Calls Tryz.prog 108 #[.agg (aD v f).toArray,.int .i64 K] w fun e w'=>e=.returned (.agg (aD v fun j=>ft K j (f j)).toArray)∧ah [] w w':=by
 have HS:=hid (show aq ((w.alloc (.cells (aD v f).toArray 24)).alloc (.cells (aD false fun _=>0).toArray 24)) w.heap.size 24 (aD v (j8 K f 0))from(aq.new w 24 (aD v f).toArray).alloc _)
 have HR:=hid (show aq ((w.alloc (.cells (aD v f).toArray 24)).alloc (.cells (aD false fun _=>0).toArray 24)) (w.heap.size+1) 24 (aD false fun _=>0)from aq.e9 _ 24 (aD false fun _=>0).toArray (by simp))
 have HC:=hid (((ah.refl [] w).alloc (.cells (aD v f).toArray 24)).alloc (.cells (aD false fun _=>0).toArray 24))
 go_enter Tryz.func108,Tryz.ntmps108
 go_wp2
 go_loopw [7] (fun iv wr=>∃i:Nat,i≤16∧iv=.int .i64 i∧aq wr w.heap.size 24 (aD v (j8 K f i))∧aq wr (w.heap.size+1) 24 (aD false fun _=>0)∧ah [] w wr) (fun iv _=>16 - (RowKit.intOf iv).toNat)
 case atStart=>exact⟨0,by omega,rfl,HS.out,HR.out,HC.out⟩
 case round=>
  obtain⟨i,hi,rfl,hS,hR,hC⟩:=hrel
  by_cases hlt:(i:Int) < 16
  ·have i0:(0:Int)≤(i:Int):=by omega
   have c1:=hS.cell_of (di v (j8 K f i) i (by omega))
   have f1:=hS.frozen (1+i)
   by_cases h1:(K:Int) - 8*(i:Int)≤0
   ·go_wp2
    go_roundw
    case measure=>simp[RowKit.intOf];omega
    case rel=>
     refine⟨i+1,by omega,by go_num,?_,hR.IU (by simp) _,hC.Jj (Nat.le_refl _) _ _⟩
     have hs:=hS.oC (1+i) (.int .u8 0)
     have e:=tL v (j8 K f i) (j8 K f (i+1)) i 0 (Gn (by unfold ft;rw[if_pos (by omega)])) (Gm K f i)
     exact e ▸ hs
   ·by_cases h2:(K:Int) - 8*(i:Int) < 8
    ·obtain⟨s,hs⟩:∃s:Nat,s=8*i+8 - K:=⟨_,rfl⟩
     have es:(8:Int) - ((K:Int) - 8*(i:Int))=(s:Int):=by omega
     have s0:(0:Int)≤(s:Int):=by omega
     go_wp2
     go_region
     go_wp2
     go_roundw
     case measure=>simp[RowKit.intOf];omega
     case rel=>
      refine⟨i+1,by omega,by go_num,?_,(hR.IU (by simp) _).drewN 1,(hC.Jj (Nat.le_refl _) _ _).drew⟩
      have hv:bits BinOp.and IntKind.u8 (j8 K f i i:Int) (255*2^(8*i+8 - K)%256)=((ft K i (f i):Nat):Int):=by
       rw[show j8 K f i i=f i by unfold j8; rw[if_neg (by omega)],K9 (f i) (8*i+8 - K) (hf i) (by omega)]
       unfold ft;rw[if_neg (by omega),if_pos (by omega)]
      rw[hv]
      have hs:=hS.oC (1+i) (.int .u8 ((ft K i (f i):Nat):Int))
      have e:=tL v (j8 K f i) (j8 K f (i+1)) i _ (Gn rfl) (Gm K f i)
      exact(e ▸ hs).drewN 1
    ·go_wp2
     go_roundw
     case measure=>simp[RowKit.intOf];omega
     case rel=>
      refine⟨i+1,by omega,by go_num,?_,hR,hC⟩
      rwa [pq v (f:=j8 K f i) (g:=j8 K f (i+1)) (fun j _=>by
       unfold j8
       by_cases h:j < i
       ·rw[if_pos h,if_pos (by omega)]
       ·rw[if_neg h]
        by_cases h3:j=i
        ·subst h3;rw[if_pos (by omega)];unfold ft;rw[if_neg (by omega),if_neg (by omega)]
        ·rw[if_neg (by omega)])]at hS
  ·have hi16:i=16:=by omega
   subst hi16
   go_wp2_with (first | (refine tY rfl _ rfl w.heap.size rfl 24 v _ hS ?_) | (refine jS rfl _ _ rfl (w.heap.size+1) v _ rfl rfl 24 _ hR (aB _ _) ?_))
   refine bodyPost_ret (Pe rfl _ _ (w.heap.size+1) v (fun j=>ft K j (f j)) 24 rfl ?_) rfl ⟨rfl,hC.setRow (.inr (by omega)) _⟩
   have hs:=hR.row (aD v (j8 K f 16))
   rwa [pq v (f:=j8 K f 16) (g:=fun j=>ft K j (f j)) (fun j hj=>if_pos hj)]at hs
open Go.RowKit Go.Lib Go.Sort
def gn(f:Nat→Nat):List Value:=(List.range 16).map (fun j=>.int .u8 (f j:Int))
def EA(f:Nat→Nat):List Lit:=(List.range 16).map (fun j=>.int .u8 (f j:Int))
def lK(f g:Nat→Nat):Bool:=(List.range 16).all fun j=>f j==g j
theorem iM(f g:Nat→Nat):lK f g=true↔∀j,j < 16→f j=g j:=by simp[lK]
theorem C9(f g:Nat→Nat):EA f=EA g↔lK f g=true:=by
 rw[iM]
 unfold EA
 rw[List.map_inj_left]
 constructor
 ·intro h j hj
  have:=h j (by simpa using hj)
  injection this with _ h2
  omega
 ·intro h j hj
  rw[h j (by simpa using hj)]
theorem x9{α β:Type}(g:α→Option β)(h:α→β):∀l:List α,(∀x∈l,g x=some (h x))→l.mapM g=some (l.map h)
 | [],_=>by simp
 |x::l,H=>by
  rw[List.mapM_cons,H x (by simp),x9 g h l (fun y hy=>H y (by simp[hy]))]
  rfl
theorem yI{α β:Type}(h:α→β):∀l:List α,(l.map fun x=>[h x]).flatten=l.map h
 | []=>rfl
 |x::l=>by rw[List.map_cons,List.flatten_cons,yI h l];rfl
theorem Pq(d x:Nat)(hx:x < 256):Tryz.prog.keyLits (d+1) 5 [.int .u8 (x:Int)]=some [.int .u8 (x:Int)]:=by
 have hw:(Lit.int .u8 (x:Int)).wf=true:=by simp[Lit.wf,IntKind.min,IntKind.max,IntKind.signed,IntKind.bits];omega
 simp[Program.keyLits,Tryz.underlying5,hw]
theorem M4:Tryz.prog.cellsOf 5=1:=by kernel_rfl
theorem q7:Tryz.prog.cellsOf 22=16:=by kernel_rfl
theorem H6(f:Nat→Nat)(i:Nat)(hi:i < 16):((gn f).drop (i*1)).take 1=[.int .u8 (f i:Int)]:=by
 rw[Nat.mul_one]
 have:(gn f)[i]?=some (.int .u8 (f i:Int)):=by simp[gn,hi]
 have hl:i < (gn f).length:=by simp[gn];omega
 rw[List.drop_eq_getElem_cons hl]
 rw[List.getElem?_eq_getElem hl]at this
 injection this with this
 rw[this];rfl
theorem AJ(d:Nat)(f:Nat→Nat)(hf:∀j,f j < 256):Tryz.prog.keyLits (d+2) 22 (gn f)=some (EA f):=by
 unfold Program.keyLits
 rw[Tryz.underlying22]
 simp only
 rw[if_pos (by rw[q7];simp[gn]),x9 _ (fun i=>[Lit.int .u8 (f i:Int)]) _ (fun i hi=>by rw[M4,H6 f i (by simpa using hi)];exact Pq d _ (hf i)),Option.map_some,yI]
 rfl
theorem OE(f g:Nat→Nat)(hf:∀j,f j < 256)(hg:∀j,g j < 256)(W:World):(Op.equalIn 10000 22 (.agg (gn f).toArray) (.agg (gn g).toArray)).run Tryz.prog W=.ok (lK f g) W:=by
 obtain⟨r,h1,h2⟩:=run_equalIn_deep (P:=Tryz.prog) 9995 5 22 (by kernel_rfl) W 5 5 (.agg (gn f).toArray) (.agg (gn g).toArray) _ _ (by simp[Value.formed,Tryz.underlying22,q7,gn]) (by simp[Value.formed,Tryz.underlying22,q7,gn]) (AJ 3 f hf) (AJ 3 g hg)
 simp only[Nat.reduceAdd]at h1
 rw[C9]at h2
 have e:r=lK f g:=by
  revert h2
  cases r<;>cases lK f g<;>simp
 rw[h1,e]
theorem EK(v:Bool)(f:Nat→Nat):(aD v f).toArray.extract 1 17=(gn f).toArray:=by
 apply Array.toList_inj.1
 simp[aD,gn,List.take_of_length_le]
theorem Fu:(Tryz.prog.info? 22).map (·.size)=some 16:=by kernel_rfl
theorem jM(f:Nat→Nat):(gn f).length=16:=by simp[gn]
theorem CG(x y:Operand)(a b:Array Value)(W:World):(eqGuard .neq 22 x y (.agg a) (.agg b)).run Tryz.prog W=.ok () W:=by kernel_rfl
theorem CO(v:Bool)(f:Nat→Nat)(W:World):(Instr.field 24 (.agg (aD v f).toArray) 1).run Tryz.prog W=.ok (.agg (gn f).toArray) W:=by
 have h:(Instr.field 24 (.agg (aD v f).toArray) 1).run Tryz.prog W=.ok (.agg ((aD v f).toArray.extract 1 17)) W:=by kernel_rfl
 rw[h,EK]
theorem u3(v:Bool)(f:Nat→Nat)(W:World):(Instr.field 24 (.agg (aD v f).toArray) 0).run Tryz.prog W=.ok (.bool v) W:=by kernel_rfl
theorem JD{w:World}{g:Nat}{t:TypeId}{v:Bool}{f:Nat→Nat}(hb:aq w g t (aD v f)):∀W,(∃p:Regrown,W=grow (redrawn w p.d) p.os)→W.rangeAt g 1 (gn f):=
 hb.mO 1 (gn f) fun j x hx=>by
  have hj:j < 16:=by
   have:=(List.getElem?_eq_some_iff.1 hx).1
   rwa [jM]at this
  rw[di v f j hj]
  rw[←hx];simp[gn,hj]
attribute [local go_sem] CG CO u3
theorem Gu(k i x:Nat):ft k i x≤x:=by
 unfold ft
 by_cases h:k≤8*i
 ·rw[if_pos h];exact Nat.zero_le _
 ·rw[if_neg h]
  by_cases h2:k < 8*i+8
  ·rw[if_pos h2];exact Nat.div_mul_le_self _ _
  ·rw[if_neg h2];exact Nat.le_refl _
set_option maxHeartbeats 2000000 in
theorem uc(v:Bool)(f:Nat→Nat)(hf:∀j,f j < 256)(w:World) :
  Calls Tryz.prog 109 #[.agg (aD v f).toArray] w fun e w'=>e=.returned (.int .i64 (if lK (fun j=>ft (wid v) j (f j)) f then 0 else 150))∧ah [] w w':=by
 have HB:=hid (aq.new w 24 (aD v f).toArray)
 have HC:=hid ((ah.refl [] w).alloc (.cells (aD v f).toArray 24))
 have HW:=hid (wM (uf v f))
 have HM:=hid (wM (sF v f (wid v) hf (nF v)))
 have hE:=OE (fun j=>ft (wid v) j (f j)) f (fun j=>Nat.lt_of_le_of_lt (Gu _ _ _) (hf j)) hf
 obtain⟨b,hb⟩:∃b,b=lK (fun j=>ft (wid v) j (f j)) f:=⟨_,rfl⟩
 rw[←hb]at hE
 rw[←hb]
 clear hb
 go_enter Tryz.func109,Tryz.ntmps109
 go_wp2
 obtain⟨w1,hw1⟩:∃w1,w1=w.alloc (.cells (aD v f).toArray 24):=⟨_,rfl⟩
 rw[←hw1]
 have B1:aq w1 w.heap.size 24 (aD v f):=by rw[hw1];exact HB.out
 have C1:ah [] w w1:=by rw[hw1];exact HC.out
 clear hw1 HB HC
 have R0:=B1.rS
 have R1:=JD B1
 refine wp_region_quiet_below (by kernel_rfl) (by kernel_rfl) ?_
 refine ky rfl 24 _ rfl w.heap.size 0 rfl (aD v f) _ R0 Tryz.underlying24 rfl (kK.trans (by rw[aB])) ?_
 refine ky rfl 24 _ rfl w.heap.size 0 rfl (aD v f) _ R0 Tryz.underlying24 rfl (kK.trans (by rw[aB])) ?_
 repeat (first|refine ky rfl 22 _ rfl w.heap.size 1 rfl (gn f) _ R1 Tryz.underlying22 rfl (Fu.trans (by rw[jM])) ?_|go_big_quiet_step ((first | (go_at_call 107;with_reducible exact HW.out _ _ _) | (go_at_call 108;with_reducible exact HM.out _ _ _)))|quiet_step ((first | (go_at_call 107;with_reducible exact HW.out _ _ _) | (go_at_call 108;with_reducible exact HM.out _ _ _))))
 refine wpQuiet_nil ?_
 intro w3 hw3
 have C3:=gW hw3
 clear hw3 R0 R1
 have fin:=hid (C1.trans C3)
 cases b
 ·go_wp2
  go_ret
  exact⟨rfl,fin.out⟩
 ·go_wp2
  go_ret
  exact⟨rfl,fin.out⟩
def eE(v:Bool)(n:Nat):List Value:=aD v (ao n)
theorem eo(v:Bool)(n:Nat):(eE v n).length=17:=aB v _
theorem nK{n m:Nat}(hn:n < 2^128)(hm:m < 2^128):lK (ao n) (ao m)=decide (n=m):=by
 by_cases h:n=m
 ·rw[decide_eq_true h,h];exact(iM _ _).2 fun _ _=>rfl
 ·rw[decide_eq_false h]
  rw[←Bool.not_eq_true,iM]
  exact fun q=>h (lg hn hm q)
theorem uo{n k:Nat}(hn:n < 2^128)(hk:k≤128):lK (fun j=>ft k j (ao n j)) (ao n)=decide (ey n k=n):=by
 rw[←nK (Nat.lt_of_le_of_lt (xZ n k) hn) hn]
 rw[Bool.eq_iff_iff,iM,iM]
 exact⟨fun h j hj=>by rw[pT n k j hj hk];exact h j hj,fun h j hj=>by rw[←pT n k j hj hk];exact h j hj⟩
theorem Iw(v:Bool)(n k:Nat)(hk:k≤128):aD v (fun j=>ft k j (ao n j))=eE v (ey n k):=
 pq v fun j hj=>(pT n k j hj hk).symm
theorem IX(v:Bool)(n:Nat)(w:World):Calls Tryz.prog 107 #[.agg (eE v n).toArray] w fun e w'=>e=.returned (.int .i64 (wid v:Nat))∧ah [] w w':=uf v _ w
theorem Gt(v:Bool)(n K:Nat)(hK:K≤128)(w:World):Calls Tryz.prog 108 #[.agg (eE v n).toArray,.int .i64 K] w fun e w'=>e=.returned (.agg (eE v (ey n K)).toArray)∧ah [] w w':=by
 have h:=sF v (ao n) K (bR n) hK w
 rwa [Iw v n K hK]at h
def oY(v:Bool)(n:Nat):Int:=if tW v n then 0 else 150
theorem mr(v:Bool)(n:Nat)(hn:n < 2^128)(w:World):Calls Tryz.prog 109 #[.agg (eE v n).toArray] w fun e w'=>e=.returned (.int .i64 (oY v n))∧ah [] w w':=by
 have h:=uc v (ao n) (bR n) w
 rwa [uo hn (nF v)]at h
open Go.RowKit Go.Lib Go.Sort
def ew(v:Bool)(n:Nat)(k:Int):List Value:=eE v n++[.int .i64 k]
theorem eZ(v:Bool)(n:Nat)(k:Int):(ew v n k).length=18:=by simp[ew,eo]
theorem vJ(v:Bool)(n:Nat)(k:Int)(j:Nat)(x:Value)(h:(eE v n)[j]?=some x):(ew v n k)[j]?=some x:=by
 unfold ew
 rw[List.getElem?_append_left (List.getElem?_eq_some_iff.1 h).1,h]
theorem oI(v:Bool)(n:Nat)(k:Int):(ew v n k)[17]?=some (.int .i64 k):=by
 unfold ew
 rw[List.getElem?_append_right (by rw[eo];omega),eo];rfl
theorem La(v:Bool)(n j:Nat)(x:Value)(h:(gn (ao n))[j]?=some x):(eE v n)[1+j]?=some x:=by
 have hj:j < 16:=by
  have:=(List.getElem?_eq_some_iff.1 h).1
  rwa [jM]at this
 unfold eE
 rw[di v _ j hj,←h];simp[gn,hj]
theorem vz:(Tryz.prog.info? 29).map (·.size)=some 18:=by kernel_rfl
theorem F5(v:Bool)(n:Nat)(k:Int):(ew v n k).toArray.all (·.oneCell')=true:=by
 simp[ew,eE,aD,Value.oneCell']
structure PO(w:World)(g:Nat)(v:Bool)(n:Nat)(k:Int):Prop where
 whole:∀W,(∃p:Regrown,W=grow (redrawn w p.d) p.os)→W.rangeAt g 0 (ew v n k)
 eE:∀W,(∃p:Regrown,W=grow (redrawn w p.d) p.os)→W.rangeAt g 0 (eE v n)
 Qf:∀W,(∃p:Regrown,W=grow (redrawn w p.d) p.os)→W.rangeAt g 1 (gn (ao n))
theorem aq.Of{w:World}{g:Nat}{t:TypeId}{v:Bool}{n:Nat}{k:Int}(hb:aq w g t (ew v n k)):PO w g v n k:=
 ⟨hb.rS,hb.mO 0 _ (fun j x hx=>by rw[Nat.zero_add];exact vJ v n k j x hx),hb.mO 1 _ (fun j x hx=>vJ v n k _ x (La v n j x hx))⟩
def fP(v:Bool)(n:Nat)(k:Int):Int:=if gr v n k then 0 else 151
theorem Hi(v:Bool)(n:Nat)(W:World):(Instr.field 24 (.agg (eE v n).toArray) 1).run Tryz.prog W=.ok (.agg (gn (ao n)).toArray) W:=CO v _ W
theorem AW(v:Bool)(n:Nat)(W:World):(Instr.field 24 (.agg (eE v n).toArray) 0).run Tryz.prog W=.ok (.bool v) W:=u3 v _ W
attribute [local go_sem] CG Hi AW
set_option maxHeartbeats 2000000 in
theorem q5(v:Bool)(n:Nat)(k:Int)(hn:n < 2^128)(w:World) :
  Calls Tryz.prog 50 #[.agg (ew v n k).toArray] w fun e w'=>e=.returned (.int .i64 (fP v n k))∧ah [] w w':=by
 have HB:=hid (aq.new w 29 (ew v n k).toArray)
 have HC:=hid ((ah.refl [] w).alloc (.cells (ew v n k).toArray 29))
 have HW:=hid (wM (IX v n))
 have hw128:=nF v
 by_cases h1:k < 0
 ·have fin:fP v n k=151:=by unfold fP gr;rw[decide_eq_false (by omega)];rfl
  have FIN:=hid fin
  clear fin
  go_enter Tryz.func50,Tryz.ntmps50
  go_wp2
  obtain⟨w1,hw1⟩:∃w1,w1=w.alloc (.cells (ew v n k).toArray 29):=⟨_,rfl⟩
  rw[←hw1]
  have B1:aq w1 w.heap.size 29 (ew v n k):=by rw[hw1];exact HB.out
  have C1:ah [] w w1:=by rw[hw1];exact HC.out
  clear hw1 HB HC
  have ck:=cell_regrown (B1.cell_of (oI v n k))
  refine wp_region_quiet_below (by kernel_rfl) (by kernel_rfl) ?_
  repeat (first|go_big_quiet_step (fail)|quiet_step (fail))
  refine wpQuiet_nil ?_
  intro w3 hw3
  have C3:=gW hw3
  clear hw3 ck
  have HF:=hid (C1.trans C3)
  go_wp2
  rw[FIN.out]
  go_ret
  exact⟨rfl,HF.out⟩
 ·obtain⟨K,rfl⟩:∃K:Nat,k=(K:Int):=⟨k.toNat,by omega⟩
  have d1:decide ((K:Int) < 0)=false:=decide_eq_false (by omega)
  by_cases h2:(wid v:Int) < (K:Int)
  ·have d2:decide (wid v < K)=true:=decide_eq_true (by omega)
   have fin:fP v n K=151:=by unfold fP gr;rw[decide_eq_false (p:=(K:Int)≤(wid v:Int)) (by omega)];simp
   have FIN:=hid fin
   clear fin hw128
   go_enter Tryz.func50,Tryz.ntmps50
   go_wp2
   obtain⟨w1,hw1⟩:∃w1,w1=w.alloc (.cells (ew v n K).toArray 29):=⟨_,rfl⟩
   rw[←hw1]
   have B1:aq w1 w.heap.size 29 (ew v n K):=by rw[hw1];exact HB.out
   have C1:ah [] w w1:=by rw[hw1];exact HC.out
   clear hw1 HB HC
   have ck:=cell_regrown (B1.cell_of (oI v n K))
   have R:=B1.Of
   refine wp_region_quiet_below (by kernel_rfl) (by kernel_rfl) ?_
   repeat (first | (go_big_quiet_want;refine nL 24 _ rfl w.heap.size 0 rfl (eE v n) _ R.eE Tryz.underlying24 rfl (kK.trans (by rw[eo])) ?_;go_big_quiet_on)|go_big_quiet_step ((go_at_call 107;with_reducible exact HW.out _ _ _))|quiet_step ((go_at_call 107;with_reducible exact HW.out _ _ _)))
   refine wpQuiet_nil ?_
   intro w3 hw3
   have C3:=gW hw3
   clear hw3 ck R
   have HF:=hid (C1.trans C3)
   go_wp2
   rw[FIN.out]
   go_ret
   exact⟨rfl,HF.out⟩
  ·have d2:decide (wid v < K)=false:=decide_eq_false (by omega)
   obtain⟨b,hb⟩:∃b,b=decide (ey n K=n):=⟨_,rfl⟩
   have fin:fP v n K=if b then 0 else 151:=by unfold fP gr;rw[decide_eq_true (p:=(K:Int)≤(wid v:Int)) (by omega),hb];simp
   have FIN:=hid fin
   have HM:=hid (wM (Gt v n K (by omega)))
   have hE:=OE (ao (ey n K)) (ao n) (bR _) (bR _)
   rw[nK (Nat.lt_of_le_of_lt (xZ n K) hn) hn,←hb]at hE
   clear hb
   clear fin hw128
   go_enter Tryz.func50,Tryz.ntmps50
   go_wp2
   obtain⟨w1,hw1⟩:∃w1,w1=w.alloc (.cells (ew v n K).toArray 29):=⟨_,rfl⟩
   rw[←hw1]
   have B1:aq w1 w.heap.size 29 (ew v n K):=by rw[hw1];exact HB.out
   have C1:ah [] w w1:=by rw[hw1];exact HC.out
   clear hw1 HB HC
   have ck:=cell_regrown (B1.cell_of (oI v n K))
   have R:=B1.Of
   refine wp_region_quiet_below (by kernel_rfl) (by kernel_rfl) ?_
   repeat (first | (go_big_quiet_want;refine nL 24 _ rfl w.heap.size 0 rfl (eE v n) _ R.eE Tryz.underlying24 rfl (kK.trans (by rw[eo])) ?_;go_big_quiet_on) | (go_big_quiet_want;refine nL 22 _ rfl w.heap.size 1 rfl (gn (ao n)) _ R.Qf Tryz.underlying22 rfl (Fu.trans (by rw[jM])) ?_;go_big_quiet_on)|go_big_quiet_step ((first | (go_at_call 107;with_reducible exact HW.out _ _ _) | (go_at_call 108;with_reducible exact HM.out _ _ _)))|quiet_step ((first | (go_at_call 107;with_reducible exact HW.out _ _ _) | (go_at_call 108;with_reducible exact HM.out _ _ _))))
   refine wpQuiet_nil ?_
   intro w3 hw3
   have C3:=gW hw3
   clear hw3 ck R
   have HF:=hid (C1.trans C3)
   cases b
   ·go_wp2
    rw[FIN.out]
    go_ret
    exact⟨rfl,HF.out⟩
   ·go_wp2
    rw[FIN.out]
    go_ret
    exact⟨rfl,HF.out⟩
open Go.RowKit Go.Lib Go.Sort
theorem ME{ops:Array Oper}{rest:List Oper}{o:Oper}{a:Act}{w:World}{Q:Exit→Act→World→Prop}(hgd:o.guard=none)(x:Operand)(ho:o.op=.load 29 x)
  (g:Nat) (hx:a.eval x=.pointer (some ⟨g,0,none⟩)) (t:TypeId) (v:Bool) (n:Nat) (k:Int) (hb:aq w g t (ew v n k))
  (h:wpList Tryz.prog ops Q rest (a.put o.dst (.agg (ew v n k).toArray)) w):wpList Tryz.prog ops Q (o::rest) a w:=
 wpList_load_row hgd 29 x ho g hx t _ (0,0) _ hb Tryz.underlying29 rfl (vz.trans (by simp[eZ])) h
theorem Dl{ops:Array Oper}{rest:List Oper}{o:Oper}{a:Act}{w:World}{Q:Exit→Act→World→Prop}(hgd:o.guard=none)(x y:Operand)(ho:o.op=.store 29 x y)
  (g:Nat) (v:Bool) (n:Nat) (k:Int) (hx:a.eval x=.pointer (some ⟨g,0,none⟩)) (hy:a.eval y=.agg (ew v n k).toArray) (t:TypeId) (old:List Value) (hb:aq w g t old) (hl:old.length=18)
  (h:wpList Tryz.prog ops Q rest (a.put o.dst undef) (w.setRow g (ew v n k).toArray)):wpList Tryz.prog ops Q (o::rest) a w:=
 wpList_store_row hgd 29 x y ho g _ hx hy t old.toArray hb (vz.trans (by simp[eZ])) (by simp[eZ,hl]) (F5 v n k) h
theorem iD{ops:Array Oper}{rest:List Oper}{o:Oper}{a:Act}{w:World}{Q:Exit→Act→World→Prop}(hgd:o.guard=none)(x:Operand)(ho:o.op=.load 24 x)
  (g:Nat) (hx:a.eval x=.pointer (some ⟨g,0,none⟩)) (t:TypeId) (v:Bool) (n:Nat) (hb:aq w g t (eE v n))
  (h:wpList Tryz.prog ops Q rest (a.put o.dst (.agg (eE v n).toArray)) w):wpList Tryz.prog ops Q (o::rest) a w:=tY hgd x ho g hx t v (ao n) hb h
def im:Array Value:=#[.bool false,.int .u8 0,.int .u8 0,.int .u8 0,.int .u8 0,.int .u8 0,.int .u8 0,.int .u8 0,.int .u8 0,.int .u8 0,.int .u8 0,.int .u8 0,.int .u8 0,.int .u8 0,.int .u8 0,.int .u8 0,.int .u8 0,.int .i64 0]
theorem IV:im=(ew false 0 0).toArray:=by kernel_rfl
theorem Fp{ops:Array Oper}{rest:List Oper}{o:Oper}{a:Act}{w:World}{Q:Exit→Act→World→Prop}(hgd:o.guard=none)(x y:Operand)(ho:o.op=.store 29 x y)
  (g:Nat) (hx:a.eval x=.pointer (some ⟨g,0,none⟩)) (hy:a.eval y=.agg im) (t:TypeId) (old:List Value) (hb:aq w g t old) (hl:old.length=18)
  (h:wpList Tryz.prog ops Q rest (a.put o.dst undef) (w.setRow g (ew false 0 0).toArray)):wpList Tryz.prog ops Q (o::rest) a w:=
 Dl hgd x y ho g false 0 0 hx (by rw[hy,IV]) t old hb hl h
theorem BY{fn:Func}{p q:Tmp}(h:fn.results=#[.cell p 29,.tmp q])(tmps:Array Value)(w:World)(g:Nat)(v:Bool)(n:Nat)(k:Int)(t:TypeId)(u:Value)
  (hp:tmps.getD p undef=.pointer (some ⟨g,0,none⟩)) (hq:tmps.getD q undef=u) (hb:aq w g t (ew v n k)):(results fn tmps).run Tryz.prog w=.ok (.tuple #[.agg (ew v n k).toArray,u]) w:=by
 have hp':tmps[p]?.getD undef=.pointer (some ⟨g,0,none⟩):=by simpa using hp
 have hq':tmps[q]?.getD undef=u:=by simpa using hq
 simp[results,h,hp',hq',asAddr,run_loadVar_row w g t 29 _ (0,0) _ hb Tryz.underlying29 rfl (vz.trans (by simp[eZ]))]
theorem KV(v:Bool)(n:Nat)(k:Int):Tryz.prog.built 29 [(0,.agg (eE v n).toArray),(1,.int .i64 k)]=some (ew v n k).toArray:=by kernel_rfl
theorem KZ{ops:Array Oper}{rest:List Oper}{o:Oper}{a:Act}{w:World}{Q:Exit→Act→World→Prop}(hg:o.guard=none)(x y:Operand)(ho:o.op=.build 29 #[(0,x),(1,y)])(v:Bool)(n:Nat)(k:Int)
  (hx:a.eval x=.agg (eE v n).toArray) (hy:a.eval y=.int .i64 k) (h:wpList Tryz.prog ops Q rest (a.put o.dst (.agg (ew v n k).toArray)) w):wpList Tryz.prog ops Q (o::rest) a w:=by
 have e:Tryz.prog.built 29 ((#[(0,x),(1,y)]:Array (Nat×Operand)).map fun(i,z)=>(i,a.eval z)).toList=some (ew v n k).toArray:=by
  simp only[List.map_toArray,List.map_cons,List.map_nil,hx,hy]
  exact KV v n k
 refine wpList_build hg 29 _ ho (by rw[e];rfl) ?_
 rw[e]
 exact h
open Go.RowKit Go.Lib Go.Sort
def IK(w:World)(g o n:Nat):Prop:=∀j,j < 16→w.cell? ⟨g,o+j,none⟩=some (.int .u8 (ao n j:Int))
theorem IK.az{w w':World}{g o n:Nat}(h:IK w g o n)(hc:ah [] w w'):IK w' g o n:=fun j hj=>by
 have hl:=block_lt_of_cell (h j hj)
 rw[hc.cell hl (by simp)];exact h j hj
open Go.RowKit Go.Lib Go.Sort
open Go.RowKit Go.Lib Go.Sort
theorem LC{ops:Array Oper}{rest:List Oper}{o:Oper}{a:Act}{w:World}{Q:Exit→Act→World→Prop}(hgd:Region.wanted o (yielded ops a.tmps)=true)(x:Operand)(ho:o.op=.load 29 x)
  (g:Nat) (hx:a.eval x=.pointer (some ⟨g,0,none⟩)) (t:TypeId) (v:Bool) (n:Nat) (k:Int) (hb:aq w g t (ew v n k))
  (h:wpList Tryz.prog ops Q rest (a.put o.dst (.agg (ew v n k).toArray)) w):wpList Tryz.prog ops Q (o::rest) a w:=by
 unfold wpList
 rw[if_pos hgd]
 exact .inl (wp_load_row 29 x ho g hx t _ (0,0) _ hb Tryz.underlying29 rfl (vz.trans (by simp[eZ])) h)
theorem Ow{ops:Array Oper}{rest:List Oper}{o:Oper}{a:Act}{w:World}{Q:Exit→Act→World→Prop}(hgd:Region.wanted o (yielded ops a.tmps)=true)(x:Operand)(ho:o.op=.load 24 x)
  (g:Nat) (hx:a.eval x=.pointer (some ⟨g,0,none⟩)) (t:TypeId) (v:Bool) (n:Nat) (k:Int) (hb:aq w g t (ew v n k))
  (h:wpList Tryz.prog ops Q rest (a.put o.dst (.agg (eE v n).toArray)) w):wpList Tryz.prog ops Q (o::rest) a w:=by
 unfold wpList
 rw[if_pos hgd]
 exact .inl (wp_load_mid 24 x ho g 0 hx (eE v n) _ (fun j y hy=>hb.cell_of (by rw[Nat.zero_add];exact vJ v n k j y hy)) Tryz.underlying24 rfl (kK.trans (by rw[eo])) h)
theorem Ov{ops:Array Oper}{rest:List Oper}{o:Oper}{a:Act}{w:World}{Q:Exit→Act→World→Prop}(hgd:o.guard=none)(x:Operand)(ho:o.op=.load 24 x)
  (g:Nat) (hx:a.eval x=.pointer (some ⟨g,0,none⟩)) (t:TypeId) (v:Bool) (n:Nat) (k:Int) (hb:aq w g t (ew v n k))
  (h:wpList Tryz.prog ops Q rest (a.put o.dst (.agg (eE v n).toArray)) w):wpList Tryz.prog ops Q (o::rest) a w:=
 Ow (by unfold Region.wanted;rw[hgd]) x ho g hx t v n k hb h
open Go.RowKit Go.Lib Go.Sort
open Go.RowKit Go.Lib Go.Sort
def AK(v:Bool)(n:Nat):List Lit:=.bool v::EA (ao n)
def J6(v:Bool)(n:Nat)(k:Int):List Lit:=AK v n++[.int .i64 k]
theorem J7(v v':Bool)(n m:Nat)(hn:n < 2^128)(hm:m < 2^128):AK v n=AK v' m↔v=v'∧n=m:=by
 unfold AK
 rw[List.cons.injEq,C9,nK hn hm,decide_eq_true_eq]
 constructor
 ·rintro⟨h1,h2⟩
  injection h1 with h1
  exact⟨h1,h2⟩
 ·rintro⟨rfl,rfl⟩
  exact⟨rfl,rfl⟩
theorem yf(v:Bool)(n:Nat):(AK v n).length=17:=by simp[AK,EA]
theorem J5(v v':Bool)(n m:Nat)(k j:Int)(hn:n < 2^128)(hm:m < 2^128):J6 v n k=J6 v' m j↔v=v'∧n=m∧k=j:=by
 unfold J6
 constructor
 ·intro h
  obtain⟨h1,h2⟩:=List.append_inj h (by rw[yf,yf])
  obtain⟨h3,h4⟩:=(J7 v v' n m hn hm).1 h1
  injection h2 with h2
  injection h2 with _ h2
  exact⟨h3,h4,h2⟩
 ·rintro⟨rfl,rfl,rfl⟩
  rfl
theorem CY:Tryz.prog.cellsOf 24=17:=by kernel_rfl
theorem wO:Tryz.prog.cellsOf 29=18:=by kernel_rfl
theorem M5:Tryz.prog.cellsOf 4=1:=by kernel_rfl
theorem M6:Tryz.prog.cellsOf 3=1:=by kernel_rfl
theorem Pr(d:Nat)(v:Bool):Tryz.prog.keyLits (d+1) 4 [.bool v]=some [.bool v]:=by
 simp[Program.keyLits,Tryz.underlying4]
theorem Pt(d:Nat)(k:Int)(h0 : -9223372036854775808≤k)(h1:k≤9223372036854775807):Tryz.prog.keyLits (d+1) 3 [.int .i64 k]=some [.int .i64 k]:=by
 have hw:(Lit.int .i64 k).wf=true:=by simp[Lit.wf,IntKind.min,IntKind.max,IntKind.signed,IntKind.bits];omega
 simp[Program.keyLits,Tryz.underlying3,hw]
theorem Ix(v:Bool)(n:Nat):((eE v n).drop 1).take 16=gn (ao n):=by
 unfold eE aD gn
 rw[List.drop_one,List.tail_cons,List.take_of_length_le (by simp)]
theorem MA(d:Nat)(v:Bool)(n:Nat):Tryz.prog.keyLits (d+3) 24 (eE v n)=some (AK v n):=by
 have h1:=Pr (d+1) v
 have h2:=AJ d (ao n) (bR n)
 have h3:=Ix v n
 have h4:((eE v n).drop 0).take 1=[.bool v]:=rfl
 unfold Program.keyLits
 rw[Tryz.underlying24]
 simp only
 rw[if_pos ⟨by rw[CY,eo],by simp⟩]
 simp only[List.mapM_cons,List.mapM_nil,M5,q7,h3,h4,h1,h2]
 rfl
theorem Gz(d:Nat)(v:Bool)(n:Nat)(k:Int)(h0 : -9223372036854775808≤k)(h1:k≤9223372036854775807):Tryz.prog.keyLits (d+4) 29 (ew v n k)=some (J6 v n k):=by
 have e1:=MA d v n
 have e2:=Pt (d+2) k h0 h1
 have e3:((ew v n k).drop 0).take 17=eE v n:=by
  unfold ew;rw[List.drop_zero,List.take_left' (eo v n)]
 have e4:((ew v n k).drop 17).take 1=[.int .i64 k]:=by
  unfold ew;rw[List.drop_left' (eo v n)];rfl
 unfold Program.keyLits
 rw[Tryz.underlying29]
 simp only
 rw[if_pos ⟨by rw[wO,eZ],by simp⟩]
 simp only[List.mapM_cons,List.mapM_nil,CY,M6,e1,e2,e3,e4]
 rfl
theorem PC(v v':Bool)(n m:Nat)(k j:Int)(hn:n < 2^128)(hm:m < 2^128)(hk : -9223372036854775808≤k∧k≤9223372036854775807)(hj : -9223372036854775808≤j∧j≤9223372036854775807)(W:World):(Op.equalIn 10000 29 (.agg (ew v n k).toArray) (.agg (ew v' m j).toArray)).run Tryz.prog W=.ok (decide (v=v'∧n=m∧k=j)) W:=by
 obtain⟨r,h1,h2⟩:=run_equalIn_deep (P:=Tryz.prog) 9995 5 29 (by kernel_rfl) W 5 5 (.agg (ew v n k).toArray) (.agg (ew v' m j).toArray) _ _ (by simp[Value.formed,Tryz.underlying29,wO,eZ]) (by simp[Value.formed,Tryz.underlying29,wO,eZ]) (Gz 1 v n k hk.1 hk.2) (Gz 1 v' m j hj.1 hj.2)
 simp only[Nat.reduceAdd]at h1
 rw[J5 v v' n m k j hn hm]at h2
 have e:r=decide (v=v'∧n=m∧k=j):=by
  rw[Bool.eq_iff_iff,h2,decide_eq_true_eq]
 rw[h1,e]
theorem Kq(op:BinOp)(x y:Operand)(a b:Array Value)(W:World):(eqGuard op 29 x y (.agg a) (.agg b)).run Tryz.prog W=.ok () W:=by cases op<;>kernel_rfl
end Go.Proofs.YtnncigmpcdehnaaGreatDoor
