import Derived.Test.YtnncigmpcdehnaaGreatDoorQb01
import Derived.Test.YtnncigmpcdehnaaGreatDoorQb02
import Derived.Test.YtnncigmpcdehnaaGreatDoorQb03
import Derived.Test.YtnncigmpcdehnaaGreatDoorRows
import Derived.DeepKeys
import Derived.Laws.BitsAllLaws
namespace Go.Proofs.YtnncigmpcdehnaaGreatDoor
set_option maxRecDepth 100000
open Go.RowKit Go.Lib
def aK(v:Bool)(f:Nat→Nat):List Value:=.bool v::(List.range 16).map (fun j=>.int .u8 (f j:Int))
theorem aI(v:Bool)(f:Nat→Nat):(aK v f).length=17:=by simp[aK]
theorem qg(v:Bool)(f:Nat→Nat):(aK v f)[0]?=some (.bool v):=rfl
theorem dv(v:Bool)(f:Nat→Nat)(i:Nat)(hi:i < 16):(aK v f)[1+i]?=some (.int .u8 (f i:Int)):=by
 rw[Nat.add_comm];simp[aK,hi]
set_option maxHeartbeats 1000000 in
theorem uj(v:Bool)(f:Nat→Nat)(w:World) :
  Calls Tryz.prog 107 #[.agg (aK v f).toArray] w fun e w'=>e=.returned (.int .i64 (wid v:Nat))∧aw [] w w':=by
 have b0:=aB.new w 24 (aK v f).toArray
 have c0:=b0.cell_of (i:=0) (v:=.bool v) rfl
 have fin:=hid ((aw.refl [] w).alloc (.cells (aK v f).toArray 24))
 cases v
 ·go_enter Tryz.func107,Tryz.ntmps107
  go_wp2
  go_ret
  exact⟨rfl,fin.out⟩
 ·go_enter Tryz.func107,Tryz.ntmps107
  go_wp2
  go_ret
  exact⟨rfl,fin.out⟩
theorem kS:(Tryz.prog.info? 24).map (·.size)=some 17:=by kernel_rfl
theorem tZ{ops:Array Oper}{rest:List Oper}{o:Oper}{a:Act}{w:World}{Q:Exit→Act→World→Prop}(hgd:o.guard=none)(x:Operand)(ho:o.op=.load 24 x)
  (g:Nat) (hx:a.eval x=.pointer (some ⟨g,0,none⟩)) (t:TypeId) (v:Bool) (f:Nat→Nat) (hb:aB w g t (aK v f))
  (h:wpList Tryz.prog ops Q rest (a.put o.dst (.agg (aK v f).toArray)) w):wpList Tryz.prog ops Q (o::rest) a w:=
 wpList_load_row hgd 24 x ho g hx t _ (0,0) _ hb Tryz.underlying24 rfl (kS.trans (by simp[aK])) h
theorem Ek(v:Bool)(f:Nat→Nat):(aK v f).toArray.all (·.oneCell')=true:=by
 simp[aK,Value.oneCell']
theorem jW{ops:Array Oper}{rest:List Oper}{o:Oper}{a:Act}{w:World}{Q:Exit→Act→World→Prop}(hgd:o.guard=none)(x y:Operand)(ho:o.op=.store 24 x y)
  (g:Nat) (v:Bool) (f:Nat→Nat) (hx:a.eval x=.pointer (some ⟨g,0,none⟩)) (hy:a.eval y=.agg (aK v f).toArray) (t:TypeId) (old:List Value) (hb:aB w g t old) (hl:old.length=17)
  (h:wpList Tryz.prog ops Q rest (a.put o.dst undef) (w.setRow g (aK v f).toArray)):wpList Tryz.prog ops Q (o::rest) a w:=
 wpList_store_row hgd 24 x y ho g _ hx hy t old.toArray hb (kS.trans (by simp[aK])) (by simp[aK,hl]) (Ek v f) h
theorem NW{fn:Func}{p:Tmp}(h:fn.results=#[.cell p 24])(tmps:Array Value)(w:World)(g:Nat)(v:Bool)(f:Nat→Nat)(t:TypeId)
  (hp:tmps.getD p undef=.pointer (some ⟨g,0,none⟩)) (hb:aB w g t (aK v f)):(results fn tmps).run Tryz.prog w=.ok (.agg (aK v f).toArray) w:=
 results_cell_row h tmps w g t _ (0,0) _ hp hb Tryz.underlying24 rfl (kS.trans (by simp[aK]))
theorem pC(v:Bool){f g:Nat→Nat}(h:∀j,j < 16→f j=g j):aK v f=aK v g:=by
 unfold aK
 congr 1
 exact List.map_congr_left fun j hj=>by rw[h j (by simpa using hj)]
def kj(K:Nat)(f:Nat→Nat)(i j:Nat):Nat:=if j < i then fC K j (f j)else f j
theorem tE(v:Bool)(f g:Nat→Nat)(i x:Nat)(hg:g i=x)(he:∀j,j < 16→j≠i→g j=f j):(aK v f).set (1+i) (.int .u8 (x:Int))=aK v g:=by
 apply List.ext_getElem?
 intro j
 rw[List.getElem?_set,aI]
 by_cases h1:1+i=j
 ·subst h1
  rw[if_pos rfl]
  by_cases hi:i < 16
  ·rw[dv v g i hi,if_pos (by omega),hg]
  ·rw[if_neg (by omega),List.getElem?_eq_none (by rw[aI];omega)]
 ·rw[if_neg h1]
  cases j with
  |zero=>rfl
  |succ j=>
   rw[Nat.add_comm j 1]
   by_cases hj:j < 16
   ·rw[dv v f j hj,dv v g j hj,he j hj (by omega)]
   ·rw[List.getElem?_eq_none (by rw[aI];omega),List.getElem?_eq_none (by rw[aI];omega)]
theorem FZ{K i x:Nat}{f:Nat→Nat}(h:fC K i (f i)=x):kj K f (i+1) i=x:=by unfold kj;rw[if_pos (by omega),h]
theorem FY(K:Nat)(f:Nat→Nat)(i j:Nat)(_:j < 16)(hj:j≠i):kj K f (i+1) j=kj K f i j:=by
 unfold kj
 by_cases h:j < i
 ·rw[if_pos h,if_pos (by omega)]
 ·rw[if_neg h,if_neg (by omega)]
theorem zp:∀(x:Fin 256) (s:Fin 8),bits BinOp.and IntKind.u8 (x.val:Int) (255*2^s.val%256)=((x.val / 2^s.val*2^s.val:Nat):Int):=by decide +kernel
theorem Kk(x s:Nat)(hx:x < 256)(hs:s < 8):bits BinOp.and IntKind.u8 (x:Int) (255*2^s%256)=((x / 2^s*2^s:Nat):Int):=zp ⟨x,hx⟩ ⟨s,hs⟩
set_option maxHeartbeats 2000000 in
theorem sE(v:Bool)(f:Nat→Nat)(K:Nat)(hf:∀j,f j < 256)(hK:K≤128)(w:World) :
  Calls Tryz.prog 108 #[.agg (aK v f).toArray,.int .i64 K] w fun e w'=>e=.returned (.agg (aK v fun j=>fC K j (f j)).toArray)∧aw [] w w':=by
 have HS:=hid (show aB ((w.alloc (.cells (aK v f).toArray 24)).alloc (.cells (aK false fun _=>0).toArray 24)) w.heap.size 24 (aK v (kj K f 0))from(aB.new w 24 (aK v f).toArray).alloc _)
 have HR:=hid (show aB ((w.alloc (.cells (aK v f).toArray 24)).alloc (.cells (aK false fun _=>0).toArray 24)) (w.heap.size+1) 24 (aK false fun _=>0)from aB.fh _ 24 (aK false fun _=>0).toArray (by simp))
 have HC:=hid (((aw.refl [] w).alloc (.cells (aK v f).toArray 24)).alloc (.cells (aK false fun _=>0).toArray 24))
 go_enter Tryz.func108,Tryz.ntmps108
 go_wp2
 go_loopw [7] (fun iv wr=>∃i:Nat,i≤16∧iv=.int .i64 i∧aB wr w.heap.size 24 (aK v (kj K f i))∧aB wr (w.heap.size+1) 24 (aK false fun _=>0)∧aw [] w wr) (fun iv _=>16 - (RowKit.intOf iv).toNat)
 case atStart=>exact⟨0,by omega,rfl,HS.out,HR.out,HC.out⟩
 case round=>
  obtain⟨i,hi,rfl,hS,hR,hC⟩:=hrel
  by_cases hlt:(i:Int) < 16
  ·have i0:(0:Int)≤(i:Int):=by omega
   have c1:=hS.cell_of (dv v (kj K f i) i (by omega))
   have f1:=hS.frozen (1+i)
   by_cases h1:(K:Int) - 8*(i:Int)≤0
   ·go_wp2
    go_roundw
    case measure=>simp[RowKit.intOf];omega
    case rel=>
     refine⟨i+1,by omega,by go_num,?_,hR.Il (by simp) _,hC.IG (Nat.le_refl _) _ _⟩
     have hs:=hS.oI (1+i) (.int .u8 0)
     have e:=tE v (kj K f i) (kj K f (i+1)) i 0 (FZ (by unfold fC;rw[if_pos (by omega)])) (FY K f i)
     exact e ▸ hs
   ·by_cases h2:(K:Int) - 8*(i:Int) < 8
    ·obtain⟨s,hs⟩:∃s:Nat,s=8*i+8 - K:=⟨_,rfl⟩
     have es:(8:Int) - ((K:Int) - 8*(i:Int))=(s:Int):=by omega
     have s0:(0:Int)≤(s:Int):=by omega
     go_wp2
     go_region
     go_wp2
     go_roundw
     case measure=>simp[RowKit.intOf];omega
     case rel=>
      refine⟨i+1,by omega,by go_num,?_,(hR.Il (by simp) _).drewN 1,(hC.IG (Nat.le_refl _) _ _).drew⟩
      have hv:bits BinOp.and IntKind.u8 (kj K f i i:Int) (255*2^(8*i+8 - K)%256)=((fC K i (f i):Nat):Int):=by
       rw[show kj K f i i=f i by unfold kj; rw[if_neg (by omega)],Kk (f i) (8*i+8 - K) (hf i) (by omega)]
       unfold fC;rw[if_neg (by omega),if_pos (by omega)]
      rw[hv]
      have hs:=hS.oI (1+i) (.int .u8 ((fC K i (f i):Nat):Int))
      have e:=tE v (kj K f i) (kj K f (i+1)) i _ (FZ rfl) (FY K f i)
      exact(e ▸ hs).drewN 1
    ·go_wp2
     go_roundw
     case measure=>simp[RowKit.intOf];omega
     case rel=>
      refine⟨i+1,by omega,by go_num,?_,hR,hC⟩
      rwa [pC v (f:=kj K f i) (g:=kj K f (i+1)) (fun j _=>by
       unfold kj
       by_cases h:j < i
       ·rw[if_pos h,if_pos (by omega)]
       ·rw[if_neg h]
        by_cases h3:j=i
        ·subst h3;rw[if_pos (by omega)];unfold fC;rw[if_neg (by omega),if_neg (by omega)]
        ·rw[if_neg (by omega)])]at hS
  ·have hi16:i=16:=by omega
   subst hi16
   go_wp2_with (first | (refine tZ rfl _ rfl w.heap.size rfl 24 v _ hS ?_) | (refine jW rfl _ _ rfl (w.heap.size+1) v _ rfl rfl 24 _ hR (aI _ _) ?_))
   refine bodyPost_ret (NW rfl _ _ (w.heap.size+1) v (fun j=>fC K j (f j)) 24 rfl ?_) rfl ⟨rfl,hC.setRow (.inr (by omega)) _⟩
   have hs:=hR.row (aK v (kj K f 16))
   rwa [pC v (f:=kj K f 16) (g:=fun j=>fC K j (f j)) (fun j hj=>if_pos hj)]at hs
open Go.RowKit Go.Lib Go.Sort
def gw(f:Nat→Nat):List Value:=(List.range 16).map (fun j=>.int .u8 (f j:Int))
def D9(f:Nat→Nat):List Lit:=(List.range 16).map (fun j=>.int .u8 (f j:Int))
def lJ(f g:Nat→Nat):Bool:=(List.range 16).all fun j=>f j==g j
theorem iR(f g:Nat→Nat):lJ f g=true↔∀j,j < 16→f j=g j:=by simp[lJ]
theorem Cx(f g:Nat→Nat):D9 f=D9 g↔lJ f g=true:=by
 rw[iR]
 unfold D9
 rw[List.map_inj_left]
 constructor
 ·intro h j hj
  have:=h j (by simpa using hj)
  injection this with _ h2
  omega
 ·intro h j hj
  rw[h j (by simpa using hj)]
theorem ya{α β:Type}(g:α→Option β)(h:α→β):∀l:List α,(∀x∈l,g x=some (h x))→l.mapM g=some (l.map h)
 | [],_=>by simp
 |x::l,H=>by
  rw[List.mapM_cons,H x (by simp),ya g h l (fun y hy=>H y (by simp[hy]))]
  rfl
theorem yJ{α β:Type}(h:α→β):∀l:List α,(l.map fun x=>[h x]).flatten=l.map h
 | []=>rfl
 |x::l=>by rw[List.map_cons,List.flatten_cons,yJ h l];rfl
theorem N1(d x:Nat)(hx:x < 256):Tryz.prog.keyLits (d+1) 5 [.int .u8 (x:Int)]=some [.int .u8 (x:Int)]:=by
 have hw:(Lit.int .u8 (x:Int)).wf=true:=by simp[Lit.wf,IntKind.min,IntKind.max,IntKind.signed,IntKind.bits];omega
 simp[Program.keyLits,Tryz.underlying5,hw]
theorem Mf:Tryz.prog.cellsOf 5=1:=by kernel_rfl
theorem rp:Tryz.prog.cellsOf 22=16:=by kernel_rfl
theorem Hf(f:Nat→Nat)(i:Nat)(hi:i < 16):((gw f).drop (i*1)).take 1=[.int .u8 (f i:Int)]:=by
 rw[Nat.mul_one]
 have:(gw f)[i]?=some (.int .u8 (f i:Int)):=by simp[gw,hi]
 have hl:i < (gw f).length:=by simp[gw];omega
 rw[List.drop_eq_getElem_cons hl]
 rw[List.getElem?_eq_getElem hl]at this
 injection this with this
 rw[this];rfl
theorem Ar(d:Nat)(f:Nat→Nat)(hf:∀j,f j < 256):Tryz.prog.keyLits (d+2) 22 (gw f)=some (D9 f):=by
 unfold Program.keyLits
 rw[Tryz.underlying22]
 simp only
 rw[if_pos (by rw[rp];simp[gw]),ya _ (fun i=>[Lit.int .u8 (f i:Int)]) _ (fun i hi=>by rw[Mf,Hf f i (by simpa using hi)];exact N1 d _ (hf i)),Option.map_some,yJ]
 rfl
theorem No(f g:Nat→Nat)(hf:∀j,f j < 256)(hg:∀j,g j < 256)(W:World):(Op.equalIn 10000 22 (.agg (gw f).toArray) (.agg (gw g).toArray)).run Tryz.prog W=.ok (lJ f g) W:=by
 obtain⟨r,h1,h2⟩:=run_equalIn_deep (P:=Tryz.prog) 9995 5 22 (by kernel_rfl) W 5 5 (.agg (gw f).toArray) (.agg (gw g).toArray) _ _ (by simp[Value.formed,Tryz.underlying22,rp,gw]) (by simp[Value.formed,Tryz.underlying22,rp,gw]) (Ar 3 f hf) (Ar 3 g hg)
 simp only[Nat.reduceAdd]at h1
 rw[Cx]at h2
 have e:r=lJ f g:=by
  revert h2
  cases r<;>cases lJ f g<;>simp
 rw[h1,e]
theorem Ej(v:Bool)(f:Nat→Nat):(aK v f).toArray.extract 1 17=(gw f).toArray:=by
 apply Array.toList_inj.1
 simp[aK,gw,List.take_of_length_le]
theorem EV:(Tryz.prog.info? 22).map (·.size)=some 16:=by kernel_rfl
theorem jR(f:Nat→Nat):(gw f).length=16:=by simp[gw]
theorem Ce(x y:Operand)(a b:Array Value)(W:World):(eqGuard .neq 22 x y (.agg a) (.agg b)).run Tryz.prog W=.ok () W:=by kernel_rfl
theorem Ck(v:Bool)(f:Nat→Nat)(W:World):(Instr.field 24 (.agg (aK v f).toArray) 1).run Tryz.prog W=.ok (.agg (gw f).toArray) W:=by
 have h:(Instr.field 24 (.agg (aK v f).toArray) 1).run Tryz.prog W=.ok (.agg ((aK v f).toArray.extract 1 17)) W:=by kernel_rfl
 rw[h,Ej]
theorem vg(v:Bool)(f:Nat→Nat)(W:World):(Instr.field 24 (.agg (aK v f).toArray) 0).run Tryz.prog W=.ok (.bool v) W:=by kernel_rfl
theorem IY{w:World}{g:Nat}{t:TypeId}{v:Bool}{f:Nat→Nat}(hb:aB w g t (aK v f)):∀W,(∃p:Regrown,W=grow (redrawn w p.d) p.os)→W.rangeAt g 1 (gw f):=
 hb.mJ 1 (gw f) fun j x hx=>by
  have hj:j < 16:=by
   have:=(List.getElem?_eq_some_iff.1 hx).1
   rwa [jR]at this
  rw[dv v f j hj]
  rw[←hx];simp[gw,hj]
attribute [local go_sem] Ce Ck vg
theorem F7(k i x:Nat):fC k i x≤x:=by
 unfold fC
 by_cases h:k≤8*i
 ·rw[if_pos h];exact Nat.zero_le _
 ·rw[if_neg h]
  by_cases h2:k < 8*i+8
  ·rw[if_pos h2];exact Nat.div_mul_le_self _ _
  ·rw[if_neg h2];exact Nat.le_refl _
set_option maxHeartbeats 2000000 in
theorem ug(v:Bool)(f:Nat→Nat)(hf:∀j,f j < 256)(w:World) :
  Calls Tryz.prog 109 #[.agg (aK v f).toArray] w fun e w'=>e=.returned (.int .i64 (if lJ (fun j=>fC (wid v) j (f j)) f then 0 else 150))∧aw [] w w':=by
 have HB:=hid (aB.new w 24 (aK v f).toArray)
 have HC:=hid ((aw.refl [] w).alloc (.cells (aK v f).toArray 24))
 have HW:=hid (wR (uj v f))
 have HM:=hid (wR (sE v f (wid v) hf (nJ v)))
 have hE:=No (fun j=>fC (wid v) j (f j)) f (fun j=>Nat.lt_of_le_of_lt (F7 _ _ _) (hf j)) hf
 obtain⟨b,hb⟩:∃b,b=lJ (fun j=>fC (wid v) j (f j)) f:=⟨_,rfl⟩
 rw[←hb]at hE
 rw[←hb]
 clear hb
 go_enter Tryz.func109,Tryz.ntmps109
 go_wp2
 obtain⟨w1,hw1⟩:∃w1,w1=w.alloc (.cells (aK v f).toArray 24):=⟨_,rfl⟩
 rw[←hw1]
 have B1:aB w1 w.heap.size 24 (aK v f):=by rw[hw1];exact HB.out
 have C1:aw [] w w1:=by rw[hw1];exact HC.out
 clear hw1 HB HC
 have R0:=B1.rU
 have R1:=IY B1
 refine wp_region_quiet_below (by kernel_rfl) (by kernel_rfl) ?_
 refine kD rfl 24 _ rfl w.heap.size 0 rfl (aK v f) _ R0 Tryz.underlying24 rfl (kS.trans (by rw[aI])) ?_
 refine kD rfl 24 _ rfl w.heap.size 0 rfl (aK v f) _ R0 Tryz.underlying24 rfl (kS.trans (by rw[aI])) ?_
 repeat (first|refine kD rfl 22 _ rfl w.heap.size 1 rfl (gw f) _ R1 Tryz.underlying22 rfl (EV.trans (by rw[jR])) ?_|go_big_quiet_step ((first | (go_at_call 107;with_reducible exact HW.out _ _ _) | (go_at_call 108;with_reducible exact HM.out _ _ _)))|quiet_step ((first | (go_at_call 107;with_reducible exact HW.out _ _ _) | (go_at_call 108;with_reducible exact HM.out _ _ _))))
 refine wpQuiet_nil ?_
 intro w3 hw3
 have C3:=ie hw3
 clear hw3 R0 R1
 have fin:=hid (C1.trans C3)
 cases b
 ·go_wp2
  go_ret
  exact⟨rfl,fin.out⟩
 ·go_wp2
  go_ret
  exact⟨rfl,fin.out⟩
def eS(v:Bool)(n:Nat):List Value:=aK v (ay n)
theorem eC(v:Bool)(n:Nat):(eS v n).length=17:=aI v _
theorem nO{n m:Nat}(hn:n < 2^128)(hm:m < 2^128):lJ (ay n) (ay m)=decide (n=m):=by
 by_cases h:n=m
 ·rw[decide_eq_true h,h];exact(iR _ _).2 fun _ _=>rfl
 ·rw[decide_eq_false h]
  rw[←Bool.not_eq_true,iR]
  exact fun q=>h (lj hn hm q)
theorem ux{n k:Nat}(hn:n < 2^128)(hk:k≤128):lJ (fun j=>fC k j (ay n j)) (ay n)=decide (eF n k=n):=by
 rw[←nO (Nat.lt_of_le_of_lt (x9 n k) hn) hn]
 rw[Bool.eq_iff_iff,iR,iR]
 exact⟨fun h j hj=>by rw[p5 n k j hj hk];exact h j hj,fun h j hj=>by rw[←p5 n k j hj hk];exact h j hj⟩
theorem H3(v:Bool)(n k:Nat)(hk:k≤128):aK v (fun j=>fC k j (ay n j))=eS v (eF n k):=
 pC v fun j hj=>(p5 n k j hj hk).symm
theorem Iq(v:Bool)(n:Nat)(w:World):Calls Tryz.prog 107 #[.agg (eS v n).toArray] w fun e w'=>e=.returned (.int .i64 (wid v:Nat))∧aw [] w w':=uj v _ w
theorem F6(v:Bool)(n K:Nat)(hK:K≤128)(w:World):Calls Tryz.prog 108 #[.agg (eS v n).toArray,.int .i64 K] w fun e w'=>e=.returned (.agg (eS v (eF n K)).toArray)∧aw [] w w':=by
 have h:=sE v (ay n) K (bU n) hK w
 rwa [H3 v n K hK]at h
def pn(v:Bool)(n:Nat):Int:=if tW v n then 0 else 150
theorem mn(v:Bool)(n:Nat)(hn:n < 2^128)(w:World):Calls Tryz.prog 109 #[.agg (eS v n).toArray] w fun e w'=>e=.returned (.int .i64 (pn v n))∧aw [] w w':=by
 have h:=ug v (ay n) (bU n) w
 rwa [ux hn (nJ v)]at h
open Go.RowKit Go.Lib Go.Sort
def eM(v:Bool)(n:Nat)(k:Int):List Value:=eS v n++[.int .i64 k]
theorem ff(v:Bool)(n:Nat)(k:Int):(eM v n k).length=18:=by simp[eM,eC]
theorem vQ(v:Bool)(n:Nat)(k:Int)(j:Nat)(x:Value)(h:(eS v n)[j]?=some x):(eM v n k)[j]?=some x:=by
 unfold eM
 rw[List.getElem?_append_left (List.getElem?_eq_some_iff.1 h).1,h]
theorem oQ(v:Bool)(n:Nat)(k:Int):(eM v n k)[17]?=some (.int .i64 k):=by
 unfold eM
 rw[List.getElem?_append_right (by rw[eC];omega),eC];rfl
theorem Kn(v:Bool)(n j:Nat)(x:Value)(h:(gw (ay n))[j]?=some x):(eS v n)[1+j]?=some x:=by
 have hj:j < 16:=by
  have:=(List.getElem?_eq_some_iff.1 h).1
  rwa [jR]at this
 unfold eS
 rw[dv v _ j hj,←h];simp[gw,hj]
theorem vG:(Tryz.prog.info? 29).map (·.size)=some 18:=by kernel_rfl
theorem FG(v:Bool)(n:Nat)(k:Int):(eM v n k).toArray.all (·.oneCell')=true:=by
 simp[eM,eS,aK,Value.oneCell']
structure Oe(w:World)(g:Nat)(v:Bool)(n:Nat)(k:Int):Prop where
 whole:∀W,(∃p:Regrown,W=grow (redrawn w p.d) p.os)→W.rangeAt g 0 (eM v n k)
 eS:∀W,(∃p:Regrown,W=grow (redrawn w p.d) p.os)→W.rangeAt g 0 (eS v n)
 OB:∀W,(∃p:Regrown,W=grow (redrawn w p.d) p.os)→W.rangeAt g 1 (gw (ay n))
theorem aB.M6{w:World}{g:Nat}{t:TypeId}{v:Bool}{n:Nat}{k:Int}(hb:aB w g t (eM v n k)):Oe w g v n k:=
 ⟨hb.rU,hb.mJ 0 _ (fun j x hx=>by rw[Nat.zero_add];exact vQ v n k j x hx),hb.mJ 1 _ (fun j x hx=>vQ v n k _ x (Kn v n j x hx))⟩
def fW(v:Bool)(n:Nat)(k:Int):Int:=if gg v n k then 0 else 151
theorem GU(v:Bool)(n:Nat)(W:World):(Instr.field 24 (.agg (eS v n).toArray) 1).run Tryz.prog W=.ok (.agg (gw (ay n)).toArray) W:=Ck v _ W
theorem AG(v:Bool)(n:Nat)(W:World):(Instr.field 24 (.agg (eS v n).toArray) 0).run Tryz.prog W=.ok (.bool v) W:=vg v _ W
attribute [local go_sem] Ce GU AG
set_option maxHeartbeats 2000000 in
theorem rn(v:Bool)(n:Nat)(k:Int)(hn:n < 2^128)(w:World) :
  Calls Tryz.prog 50 #[.agg (eM v n k).toArray] w fun e w'=>e=.returned (.int .i64 (fW v n k))∧aw [] w w':=by
 have HB:=hid (aB.new w 29 (eM v n k).toArray)
 have HC:=hid ((aw.refl [] w).alloc (.cells (eM v n k).toArray 29))
 have HW:=hid (wR (Iq v n))
 have hw128:=nJ v
 by_cases h1:k < 0
 ·have fin:fW v n k=151:=by unfold fW gg;rw[decide_eq_false (by omega)];rfl
  have FIN:=hid fin
  clear fin
  go_enter Tryz.func50,Tryz.ntmps50
  go_wp2
  obtain⟨w1,hw1⟩:∃w1,w1=w.alloc (.cells (eM v n k).toArray 29):=⟨_,rfl⟩
  rw[←hw1]
  have B1:aB w1 w.heap.size 29 (eM v n k):=by rw[hw1];exact HB.out
  have C1:aw [] w w1:=by rw[hw1];exact HC.out
  clear hw1 HB HC
  have ck:=cell_regrown (B1.cell_of (oQ v n k))
  refine wp_region_quiet_below (by kernel_rfl) (by kernel_rfl) ?_
  repeat (first|go_big_quiet_step (fail)|quiet_step (fail))
  refine wpQuiet_nil ?_
  intro w3 hw3
  have C3:=ie hw3
  clear hw3 ck
  have HF:=hid (C1.trans C3)
  go_wp2
  rw[FIN.out]
  go_ret
  exact⟨rfl,HF.out⟩
 ·obtain⟨K,rfl⟩:∃K:Nat,k=(K:Int):=⟨k.toNat,by omega⟩
  have d1:decide ((K:Int) < 0)=false:=decide_eq_false (by omega)
  by_cases h2:(wid v:Int) < (K:Int)
  ·have d2:decide (wid v < K)=true:=decide_eq_true (by omega)
   have fin:fW v n K=151:=by unfold fW gg;rw[decide_eq_false (p:=(K:Int)≤(wid v:Int)) (by omega)];simp
   have FIN:=hid fin
   clear fin hw128
   go_enter Tryz.func50,Tryz.ntmps50
   go_wp2
   obtain⟨w1,hw1⟩:∃w1,w1=w.alloc (.cells (eM v n K).toArray 29):=⟨_,rfl⟩
   rw[←hw1]
   have B1:aB w1 w.heap.size 29 (eM v n K):=by rw[hw1];exact HB.out
   have C1:aw [] w w1:=by rw[hw1];exact HC.out
   clear hw1 HB HC
   have ck:=cell_regrown (B1.cell_of (oQ v n K))
   have R:=B1.M6
   refine wp_region_quiet_below (by kernel_rfl) (by kernel_rfl) ?_
   repeat (first | (go_big_quiet_want;refine nP 24 _ rfl w.heap.size 0 rfl (eS v n) _ R.eS Tryz.underlying24 rfl (kS.trans (by rw[eC])) ?_;go_big_quiet_on)|go_big_quiet_step ((go_at_call 107;with_reducible exact HW.out _ _ _))|quiet_step ((go_at_call 107;with_reducible exact HW.out _ _ _)))
   refine wpQuiet_nil ?_
   intro w3 hw3
   have C3:=ie hw3
   clear hw3 ck R
   have HF:=hid (C1.trans C3)
   go_wp2
   rw[FIN.out]
   go_ret
   exact⟨rfl,HF.out⟩
  ·have d2:decide (wid v < K)=false:=decide_eq_false (by omega)
   obtain⟨b,hb⟩:∃b,b=decide (eF n K=n):=⟨_,rfl⟩
   have fin:fW v n K=if b then 0 else 151:=by unfold fW gg;rw[decide_eq_true (p:=(K:Int)≤(wid v:Int)) (by omega),hb];simp
   have FIN:=hid fin
   have HM:=hid (wR (F6 v n K (by omega)))
   have hE:=No (ay (eF n K)) (ay n) (bU _) (bU _)
   rw[nO (Nat.lt_of_le_of_lt (x9 n K) hn) hn,←hb]at hE
   clear hb
   clear fin hw128
   go_enter Tryz.func50,Tryz.ntmps50
   go_wp2
   obtain⟨w1,hw1⟩:∃w1,w1=w.alloc (.cells (eM v n K).toArray 29):=⟨_,rfl⟩
   rw[←hw1]
   have B1:aB w1 w.heap.size 29 (eM v n K):=by rw[hw1];exact HB.out
   have C1:aw [] w w1:=by rw[hw1];exact HC.out
   clear hw1 HB HC
   have ck:=cell_regrown (B1.cell_of (oQ v n K))
   have R:=B1.M6
   refine wp_region_quiet_below (by kernel_rfl) (by kernel_rfl) ?_
   repeat (first | (go_big_quiet_want;refine nP 24 _ rfl w.heap.size 0 rfl (eS v n) _ R.eS Tryz.underlying24 rfl (kS.trans (by rw[eC])) ?_;go_big_quiet_on) | (go_big_quiet_want;refine nP 22 _ rfl w.heap.size 1 rfl (gw (ay n)) _ R.OB Tryz.underlying22 rfl (EV.trans (by rw[jR])) ?_;go_big_quiet_on)|go_big_quiet_step ((first | (go_at_call 107;with_reducible exact HW.out _ _ _) | (go_at_call 108;with_reducible exact HM.out _ _ _)))|quiet_step ((first | (go_at_call 107;with_reducible exact HW.out _ _ _) | (go_at_call 108;with_reducible exact HM.out _ _ _))))
   refine wpQuiet_nil ?_
   intro w3 hw3
   have C3:=ie hw3
   clear hw3 ck R
   have HF:=hid (C1.trans C3)
   cases b
   ·go_wp2
    rw[FIN.out]
    go_ret
    exact⟨rfl,HF.out⟩
   ·go_wp2
    rw[FIN.out]
    go_ret
    exact⟨rfl,HF.out⟩
open Go.RowKit Go.Lib Go.Sort
theorem LR{ops:Array Oper}{rest:List Oper}{o:Oper}{a:Act}{w:World}{Q:Exit→Act→World→Prop}(hgd:o.guard=none)(x:Operand)(ho:o.op=.load 29 x)
  (g:Nat) (hx:a.eval x=.pointer (some ⟨g,0,none⟩)) (t:TypeId) (v:Bool) (n:Nat) (k:Int) (hb:aB w g t (eM v n k))
  (h:wpList Tryz.prog ops Q rest (a.put o.dst (.agg (eM v n k).toArray)) w):wpList Tryz.prog ops Q (o::rest) a w:=
 wpList_load_row hgd 29 x ho g hx t _ (0,0) _ hb Tryz.underlying29 rfl (vG.trans (by simp[ff])) h
theorem CG{ops:Array Oper}{rest:List Oper}{o:Oper}{a:Act}{w:World}{Q:Exit→Act→World→Prop}(hgd:o.guard=none)(x y:Operand)(ho:o.op=.store 29 x y)
  (g:Nat) (v:Bool) (n:Nat) (k:Int) (hx:a.eval x=.pointer (some ⟨g,0,none⟩)) (hy:a.eval y=.agg (eM v n k).toArray) (t:TypeId) (old:List Value) (hb:aB w g t old) (hl:old.length=18)
  (h:wpList Tryz.prog ops Q rest (a.put o.dst undef) (w.setRow g (eM v n k).toArray)):wpList Tryz.prog ops Q (o::rest) a w:=
 wpList_store_row hgd 29 x y ho g _ hx hy t old.toArray hb (vG.trans (by simp[ff])) (by simp[ff,hl]) (FG v n k) h
theorem iI{ops:Array Oper}{rest:List Oper}{o:Oper}{a:Act}{w:World}{Q:Exit→Act→World→Prop}(hgd:o.guard=none)(x:Operand)(ho:o.op=.load 24 x)
  (g:Nat) (hx:a.eval x=.pointer (some ⟨g,0,none⟩)) (t:TypeId) (v:Bool) (n:Nat) (hb:aB w g t (eS v n))
  (h:wpList Tryz.prog ops Q rest (a.put o.dst (.agg (eS v n).toArray)) w):wpList Tryz.prog ops Q (o::rest) a w:=tZ hgd x ho g hx t v (ay n) hb h
def iA:Array Value:=#[.bool false,.int .u8 0,.int .u8 0,.int .u8 0,.int .u8 0,.int .u8 0,.int .u8 0,.int .u8 0,.int .u8 0,.int .u8 0,.int .u8 0,.int .u8 0,.int .u8 0,.int .u8 0,.int .u8 0,.int .u8 0,.int .u8 0,.int .i64 0]
theorem Im:iA=(eM false 0 0).toArray:=by kernel_rfl
theorem ER{ops:Array Oper}{rest:List Oper}{o:Oper}{a:Act}{w:World}{Q:Exit→Act→World→Prop}(hgd:o.guard=none)(x y:Operand)(ho:o.op=.store 29 x y)
  (g:Nat) (hx:a.eval x=.pointer (some ⟨g,0,none⟩)) (hy:a.eval y=.agg iA) (t:TypeId) (old:List Value) (hb:aB w g t old) (hl:old.length=18)
  (h:wpList Tryz.prog ops Q rest (a.put o.dst undef) (w.setRow g (eM false 0 0).toArray)):wpList Tryz.prog ops Q (o::rest) a w:=
 CG hgd x y ho g false 0 0 hx (by rw[hy,Im]) t old hb hl h
theorem BB{fn:Func}{p q:Tmp}(h:fn.results=#[.cell p 29,.tmp q])(tmps:Array Value)(w:World)(g:Nat)(v:Bool)(n:Nat)(k:Int)(t:TypeId)(u:Value)
  (hp:tmps.getD p undef=.pointer (some ⟨g,0,none⟩)) (hq:tmps.getD q undef=u) (hb:aB w g t (eM v n k)):(results fn tmps).run Tryz.prog w=.ok (.tuple #[.agg (eM v n k).toArray,u]) w:=by
 have hp':tmps[p]?.getD undef=.pointer (some ⟨g,0,none⟩):=by simpa using hp
 have hq':tmps[q]?.getD undef=u:=by simpa using hq
 simp[results,h,hp',hq',asAddr,run_loadVar_row w g t 29 _ (0,0) _ hb Tryz.underlying29 rfl (vG.trans (by simp[ff]))]
theorem Ka(v:Bool)(n:Nat)(k:Int):Tryz.prog.built 29 [(0,.agg (eS v n).toArray),(1,.int .i64 k)]=some (eM v n k).toArray:=by kernel_rfl
theorem Kf{ops:Array Oper}{rest:List Oper}{o:Oper}{a:Act}{w:World}{Q:Exit→Act→World→Prop}(hg:o.guard=none)(x y:Operand)(ho:o.op=.build 29 #[(0,x),(1,y)])(v:Bool)(n:Nat)(k:Int)
  (hx:a.eval x=.agg (eS v n).toArray) (hy:a.eval y=.int .i64 k) (h:wpList Tryz.prog ops Q rest (a.put o.dst (.agg (eM v n k).toArray)) w):wpList Tryz.prog ops Q (o::rest) a w:=by
 have e:Tryz.prog.built 29 ((#[(0,x),(1,y)]:Array (Nat×Operand)).map fun(i,z)=>(i,a.eval z)).toList=some (eM v n k).toArray:=by
  simp only[List.map_toArray,List.map_cons,List.map_nil,hx,hy]
  exact Ka v n k
 refine wpList_build hg 29 _ ho (by rw[e];rfl) ?_
 rw[e]
 exact h
open Go.RowKit Go.Lib Go.Sort
def Ic(w:World)(g o n:Nat):Prop:=∀j,j < 16→w.cell? ⟨g,o+j,none⟩=some (.int .u8 (ay n j:Int))
theorem Ic.aP{w w':World}{g o n:Nat}(h:Ic w g o n)(hc:aw [] w w'):Ic w' g o n:=fun j hj=>by
 have hl:=block_lt_of_cell (h j hj)
 rw[hc.cell hl (by simp)];exact h j hj
open Go.RowKit Go.Lib Go.Sort
open Go.RowKit Go.Lib Go.Sort
theorem KH{ops:Array Oper}{rest:List Oper}{o:Oper}{a:Act}{w:World}{Q:Exit→Act→World→Prop}(hgd:Region.wanted o (yielded ops a.tmps)=true)(x:Operand)(ho:o.op=.load 29 x)
  (g:Nat) (hx:a.eval x=.pointer (some ⟨g,0,none⟩)) (t:TypeId) (v:Bool) (n:Nat) (k:Int) (hb:aB w g t (eM v n k))
  (h:wpList Tryz.prog ops Q rest (a.put o.dst (.agg (eM v n k).toArray)) w):wpList Tryz.prog ops Q (o::rest) a w:=by
 unfold wpList
 rw[if_pos hgd]
 exact .inl (wp_load_row 29 x ho g hx t _ (0,0) _ hb Tryz.underlying29 rfl (vG.trans (by simp[ff])) h)
theorem Nf{ops:Array Oper}{rest:List Oper}{o:Oper}{a:Act}{w:World}{Q:Exit→Act→World→Prop}(hgd:Region.wanted o (yielded ops a.tmps)=true)(x:Operand)(ho:o.op=.load 24 x)
  (g:Nat) (hx:a.eval x=.pointer (some ⟨g,0,none⟩)) (t:TypeId) (v:Bool) (n:Nat) (k:Int) (hb:aB w g t (eM v n k))
  (h:wpList Tryz.prog ops Q rest (a.put o.dst (.agg (eS v n).toArray)) w):wpList Tryz.prog ops Q (o::rest) a w:=by
 unfold wpList
 rw[if_pos hgd]
 exact .inl (wp_load_mid 24 x ho g 0 hx (eS v n) _ (fun j y hy=>hb.cell_of (by rw[Nat.zero_add];exact vQ v n k j y hy)) Tryz.underlying24 rfl (kS.trans (by rw[eC])) h)
theorem Nd{ops:Array Oper}{rest:List Oper}{o:Oper}{a:Act}{w:World}{Q:Exit→Act→World→Prop}(hgd:o.guard=none)(x:Operand)(ho:o.op=.load 24 x)
  (g:Nat) (hx:a.eval x=.pointer (some ⟨g,0,none⟩)) (t:TypeId) (v:Bool) (n:Nat) (k:Int) (hb:aB w g t (eM v n k))
  (h:wpList Tryz.prog ops Q rest (a.put o.dst (.agg (eS v n).toArray)) w):wpList Tryz.prog ops Q (o::rest) a w:=
 Nf (by unfold Region.wanted;rw[hgd]) x ho g hx t v n k hb h
open Go.RowKit Go.Lib Go.Sort
open Go.RowKit Go.Lib Go.Sort
def As(v:Bool)(n:Nat):List Lit:=.bool v::D9 (ay n)
def Jp(v:Bool)(n:Nat)(k:Int):List Lit:=As v n++[.int .i64 k]
theorem Jq(v v':Bool)(n m:Nat)(hn:n < 2^128)(hm:m < 2^128):As v n=As v' m↔v=v'∧n=m:=by
 unfold As
 rw[List.cons.injEq,Cx,nO hn hm,decide_eq_true_eq]
 constructor
 ·rintro⟨h1,h2⟩
  injection h1 with h1
  exact⟨h1,h2⟩
 ·rintro⟨rfl,rfl⟩
  exact⟨rfl,rfl⟩
theorem yf(v:Bool)(n:Nat):(As v n).length=17:=by simp[As,D9]
theorem Jo(v v':Bool)(n m:Nat)(k j:Int)(hn:n < 2^128)(hm:m < 2^128):Jp v n k=Jp v' m j↔v=v'∧n=m∧k=j:=by
 unfold Jp
 constructor
 ·intro h
  obtain⟨h1,h2⟩:=List.append_inj h (by rw[yf,yf])
  obtain⟨h3,h4⟩:=(Jq v v' n m hn hm).1 h1
  injection h2 with h2
  injection h2 with _ h2
  exact⟨h3,h4,h2⟩
 ·rintro⟨rfl,rfl,rfl⟩
  rfl
theorem Cv:Tryz.prog.cellsOf 24=17:=by kernel_rfl
theorem wU:Tryz.prog.cellsOf 29=18:=by kernel_rfl
theorem Mg:Tryz.prog.cellsOf 4=1:=by kernel_rfl
theorem Mh:Tryz.prog.cellsOf 3=1:=by kernel_rfl
theorem N2(d:Nat)(v:Bool):Tryz.prog.keyLits (d+1) 4 [.bool v]=some [.bool v]:=by
 simp[Program.keyLits,Tryz.underlying4]
theorem N3(d:Nat)(k:Int)(h0 : -9223372036854775808≤k)(h1:k≤9223372036854775807):Tryz.prog.keyLits (d+1) 3 [.int .i64 k]=some [.int .i64 k]:=by
 have hw:(Lit.int .i64 k).wf=true:=by simp[Lit.wf,IntKind.min,IntKind.max,IntKind.signed,IntKind.bits];omega
 simp[Program.keyLits,Tryz.underlying3,hw]
theorem H4(v:Bool)(n:Nat):((eS v n).drop 1).take 16=gw (ay n):=by
 unfold eS aK gw
 rw[List.drop_one,List.tail_cons,List.take_of_length_le (by simp)]
theorem LO(d:Nat)(v:Bool)(n:Nat):Tryz.prog.keyLits (d+3) 24 (eS v n)=some (As v n):=by
 have h1:=N2 (d+1) v
 have h2:=Ar d (ay n) (bU n)
 have h3:=H4 v n
 have h4:((eS v n).drop 0).take 1=[.bool v]:=rfl
 unfold Program.keyLits
 rw[Tryz.underlying24]
 simp only
 rw[if_pos ⟨by rw[Cv,eC],by simp⟩]
 simp only[List.mapM_cons,List.mapM_nil,Mg,rp,h3,h4,h1,h2]
 rfl
theorem Gc(d:Nat)(v:Bool)(n:Nat)(k:Int)(h0 : -9223372036854775808≤k)(h1:k≤9223372036854775807):Tryz.prog.keyLits (d+4) 29 (eM v n k)=some (Jp v n k):=by
 have e1:=LO d v n
 have e2:=N3 (d+2) k h0 h1
 have e3:((eM v n k).drop 0).take 17=eS v n:=by
  unfold eM;rw[List.drop_zero,List.take_left' (eC v n)]
 have e4:((eM v n k).drop 17).take 1=[.int .i64 k]:=by
  unfold eM;rw[List.drop_left' (eC v n)];rfl
 unfold Program.keyLits
 rw[Tryz.underlying29]
 simp only
 rw[if_pos ⟨by rw[wU,ff],by simp⟩]
 simp only[List.mapM_cons,List.mapM_nil,Cv,Mh,e1,e2,e3,e4]
 rfl
theorem N9(v v':Bool)(n m:Nat)(k j:Int)(hn:n < 2^128)(hm:m < 2^128)(hk : -9223372036854775808≤k∧k≤9223372036854775807)(hj : -9223372036854775808≤j∧j≤9223372036854775807)(W:World):(Op.equalIn 10000 29 (.agg (eM v n k).toArray) (.agg (eM v' m j).toArray)).run Tryz.prog W=.ok (decide (v=v'∧n=m∧k=j)) W:=by
 obtain⟨r,h1,h2⟩:=run_equalIn_deep (P:=Tryz.prog) 9995 5 29 (by kernel_rfl) W 5 5 (.agg (eM v n k).toArray) (.agg (eM v' m j).toArray) _ _ (by simp[Value.formed,Tryz.underlying29,wU,ff]) (by simp[Value.formed,Tryz.underlying29,wU,ff]) (Gc 1 v n k hk.1 hk.2) (Gc 1 v' m j hj.1 hj.2)
 simp only[Nat.reduceAdd]at h1
 rw[Jo v v' n m k j hn hm]at h2
 have e:r=decide (v=v'∧n=m∧k=j):=by
  rw[Bool.eq_iff_iff,h2,decide_eq_true_eq]
 rw[h1,e]
theorem JH(op:BinOp)(x y:Operand)(a b:Array Value)(W:World):(eqGuard op 29 x y (.agg a) (.agg b)).run Tryz.prog W=.ok () W:=by cases op<;>kernel_rfl
end Go.Proofs.YtnncigmpcdehnaaGreatDoor
