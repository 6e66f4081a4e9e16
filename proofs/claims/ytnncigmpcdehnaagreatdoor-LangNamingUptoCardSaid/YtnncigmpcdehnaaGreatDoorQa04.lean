import Derived.Test.YtnncigmpcdehnaaGreatDoorQa01
import Derived.Test.YtnncigmpcdehnaaGreatDoorQa02
import Derived.Test.YtnncigmpcdehnaaGreatDoorQa03
import Derived.Test.YtnncigmpcdehnaaGreatDoorRows
import Derived.DeepKeys
import Derived.Laws.BitsAllLaws
namespace Go.Proofs.YtnncigmpcdehnaaGreatDoor
set_option maxRecDepth 100000
open Go.RowKit Go.Lib
def adrV(v:Bool)(f:Nat→Nat):List Value:=.bool v::(List.range 16).map (fun j=>.int .u8 (f j:Int))
theorem adrV_length(v:Bool)(f:Nat→Nat):(adrV v f).length=17:=by simp[adrV]
theorem adrV_bool(v:Bool)(f:Nat→Nat):(adrV v f)[0]?=some (.bool v):=rfl
theorem adrV_byte(v:Bool)(f:Nat→Nat)(i:Nat)(hi:i < 16):(adrV v f)[1+i]?=some (.int .u8 (f i:Int)):=by
 rw[Nat.add_comm];simp[adrV,hi]
set_option maxHeartbeats 1000000 in
theorem width_any(v:Bool)(f:Nat→Nat)(w:World) :
  Calls Tryz.prog 107 #[.agg (adrV v f).toArray] w fun e w'=>e=.returned (.int .i64 (wid v:Nat))∧Chg [] w w':=by
 have b0:=Blk.new w 24 (adrV v f).toArray
 have c0:=b0.cell_of (i:=0) (v:=.bool v) rfl
 have fin:=hid ((Chg.refl [] w).alloc (.cells (adrV v f).toArray 24))
 cases v
 ·go_enter Tryz.func107,Tryz.ntmps107
  go_wp2
  go_ret
  exact⟨rfl,fin.out⟩
 ·go_enter Tryz.func107,Tryz.ntmps107
  go_wp2
  go_ret
  exact⟨rfl,fin.out⟩
theorem size24:(Tryz.prog.info? 24).map (·.size)=some 17:=by kernel_rfl
theorem ld24{ops:Array Oper}{rest:List Oper}{o:Oper}{a:Act}{w:World}{Q:Exit→Act→World→Prop}(hgd:o.guard=none)(x:Operand)(ho:o.op=.load 24 x)
  (g:Nat) (hx:a.eval x=.pointer (some ⟨g,0,none⟩)) (t:TypeId) (v:Bool) (f:Nat→Nat) (hb:Blk w g t (adrV v f))
  (h:wpList Tryz.prog ops Q rest (a.put o.dst (.agg (adrV v f).toArray)) w):wpList Tryz.prog ops Q (o::rest) a w:=
 wpList_load_row hgd 24 x ho g hx t _ (0,0) _ hb Tryz.underlying24 rfl (size24.trans (by simp[adrV])) h
theorem adrV_ones(v:Bool)(f:Nat→Nat):(adrV v f).toArray.all (·.oneCell')=true:=by
 simp[adrV,Value.oneCell']
theorem st24{ops:Array Oper}{rest:List Oper}{o:Oper}{a:Act}{w:World}{Q:Exit→Act→World→Prop}(hgd:o.guard=none)(x y:Operand)(ho:o.op=.store 24 x y)
  (g:Nat) (v:Bool) (f:Nat→Nat) (hx:a.eval x=.pointer (some ⟨g,0,none⟩)) (hy:a.eval y=.agg (adrV v f).toArray) (t:TypeId) (old:List Value) (hb:Blk w g t old) (hl:old.length=17)
  (h:wpList Tryz.prog ops Q rest (a.put o.dst undef) (w.setRow g (adrV v f).toArray)):wpList Tryz.prog ops Q (o::rest) a w:=
 wpList_store_row hgd 24 x y ho g _ hx hy t old.toArray hb (size24.trans (by simp[adrV])) (by simp[adrV,hl]) (adrV_ones v f) h
theorem rs24{fn:Func}{p:Tmp}(h:fn.results=#[.cell p 24])(tmps:Array Value)(w:World)(g:Nat)(v:Bool)(f:Nat→Nat)(t:TypeId)
  (hp:tmps.getD p undef=.pointer (some ⟨g,0,none⟩)) (hb:Blk w g t (adrV v f)):(results fn tmps).run Tryz.prog w=.ok (.agg (adrV v f).toArray) w:=
 results_cell_row h tmps w g t _ (0,0) _ hp hb Tryz.underlying24 rfl (size24.trans (by simp[adrV]))
theorem adrV_ext(v:Bool){f g:Nat→Nat}(h:∀j,j < 16→f j=g j):adrV v f=adrV v g:=by
 unfold adrV
 congr 1
 exact List.map_congr_left fun j hj=>by rw[h j (by simpa using hj)]
def mixF(K:Nat)(f:Nat→Nat)(i j:Nat):Nat:=if j < i then maskB K j (f j)else f j
theorem adrV_set(v:Bool)(f g:Nat→Nat)(i x:Nat)(hg:g i=x)(he:∀j,j < 16→j≠i→g j=f j):(adrV v f).set (1+i) (.int .u8 (x:Int))=adrV v g:=by
 apply List.ext_getElem?
 intro j
 rw[List.getElem?_set,adrV_length]
 by_cases h1:1+i=j
 ·subst h1
  rw[if_pos rfl]
  by_cases hi:i < 16
  ·rw[adrV_byte v g i hi,if_pos (by omega),hg]
  ·rw[if_neg (by omega),List.getElem?_eq_none (by rw[adrV_length];omega)]
 ·rw[if_neg h1]
  cases j with
  |zero=>rfl
  |succ j=>
   rw[Nat.add_comm j 1]
   by_cases hj:j < 16
   ·rw[adrV_byte v f j hj,adrV_byte v g j hj,he j hj (by omega)]
   ·rw[List.getElem?_eq_none (by rw[adrV_length];omega),List.getElem?_eq_none (by rw[adrV_length];omega)]
theorem mix_at{K i x:Nat}{f:Nat→Nat}(h:maskB K i (f i)=x):mixF K f (i+1) i=x:=by unfold mixF;rw[if_pos (by omega),h]
theorem mix_up(K:Nat)(f:Nat→Nat)(i j:Nat)(_:j < 16)(hj:j≠i):mixF K f (i+1) j=mixF K f i j:=by
 unfold mixF
 by_cases h:j < i
 ·rw[if_pos h,if_pos (by omega)]
 ·rw[if_neg h,if_neg (by omega)]
theorem and_top_all:∀(x:Fin 256) (s:Fin 8),bits BinOp.and IntKind.u8 (x.val:Int) (255*2^s.val%256)=((x.val / 2^s.val*2^s.val:Nat):Int):=by decide +kernel
theorem and_top(x s:Nat)(hx:x < 256)(hs:s < 8):bits BinOp.and IntKind.u8 (x:Int) (255*2^s%256)=((x / 2^s*2^s:Nat):Int):=and_top_all ⟨x,hx⟩ ⟨s,hs⟩
set_option maxHeartbeats 2000000 in
theorem masked_any(v:Bool)(f:Nat→Nat)(K:Nat)(hf:∀j,f j < 256)(hK:K≤128)(w:World) :
  Calls Tryz.prog 108 #[.agg (adrV v f).toArray,.int .i64 K] w fun e w'=>e=.returned (.agg (adrV v fun j=>maskB K j (f j)).toArray)∧Chg [] w w':=by
 have HS:=hid (show Blk ((w.alloc (.cells (adrV v f).toArray 24)).alloc (.cells (adrV false fun _=>0).toArray 24)) w.heap.size 24 (adrV v (mixF K f 0))from(Blk.new w 24 (adrV v f).toArray).alloc _)
 have HR:=hid (show Blk ((w.alloc (.cells (adrV v f).toArray 24)).alloc (.cells (adrV false fun _=>0).toArray 24)) (w.heap.size+1) 24 (adrV false fun _=>0)from Blk.new_at _ 24 (adrV false fun _=>0).toArray (by simp))
 have HC:=hid (((Chg.refl [] w).alloc (.cells (adrV v f).toArray 24)).alloc (.cells (adrV false fun _=>0).toArray 24))
 go_enter Tryz.func108,Tryz.ntmps108
 go_wp2
 go_loopw [7] (fun iv wr=>∃i:Nat,i≤16∧iv=.int .i64 i∧Blk wr w.heap.size 24 (adrV v (mixF K f i))∧Blk wr (w.heap.size+1) 24 (adrV false fun _=>0)∧Chg [] w wr) (fun iv _=>16 - (RowKit.intOf iv).toNat)
 case atStart=>exact⟨0,by omega,rfl,HS.out,HR.out,HC.out⟩
 case round=>
  obtain⟨i,hi,rfl,hS,hR,hC⟩:=hrel
  by_cases hlt:(i:Int) < 16
  ·have i0:(0:Int)≤(i:Int):=by omega
   have c1:=hS.cell_of (adrV_byte v (mixF K f i) i (by omega))
   have f1:=hS.frozen (1+i)
   by_cases h1:(K:Int) - 8*(i:Int)≤0
   ·go_wp2
    go_roundw
    case measure=>simp[RowKit.intOf];omega
    case rel=>
     refine⟨i+1,by omega,by go_num,?_,hR.far (by simp) _,hC.set1 (Nat.le_refl _) _ _⟩
     have hs:=hS.set_ (1+i) (.int .u8 0)
     have e:=adrV_set v (mixF K f i) (mixF K f (i+1)) i 0 (mix_at (by unfold maskB;rw[if_pos (by omega)])) (mix_up K f i)
     exact e ▸ hs
   ·by_cases h2:(K:Int) - 8*(i:Int) < 8
    ·obtain⟨s,hs⟩:∃s:Nat,s=8*i+8 - K:=⟨_,rfl⟩
     have es:(8:Int) - ((K:Int) - 8*(i:Int))=(s:Int):=by omega
     have s0:(0:Int)≤(s:Int):=by omega
     go_wp2
     go_region
     go_wp2
     go_roundw
     case measure=>simp[RowKit.intOf];omega
     case rel=>
      refine⟨i+1,by omega,by go_num,?_,(hR.far (by simp) _).drewN 1,(hC.set1 (Nat.le_refl _) _ _).drew⟩
      have hv:bits BinOp.and IntKind.u8 (mixF K f i i:Int) (255*2^(8*i+8 - K)%256)=((maskB K i (f i):Nat):Int):=by
       rw[show mixF K f i i=f i by unfold mixF; rw[if_neg (by omega)],and_top (f i) (8*i+8 - K) (hf i) (by omega)]
       unfold maskB;rw[if_neg (by omega),if_pos (by omega)]
      rw[hv]
      have hs:=hS.set_ (1+i) (.int .u8 ((maskB K i (f i):Nat):Int))
      have e:=adrV_set v (mixF K f i) (mixF K f (i+1)) i _ (mix_at rfl) (mix_up K f i)
      exact(e ▸ hs).drewN 1
    ·go_wp2
     go_roundw
     case measure=>simp[RowKit.intOf];omega
     case rel=>
      refine⟨i+1,by omega,by go_num,?_,hR,hC⟩
      rwa [adrV_ext v (f:=mixF K f i) (g:=mixF K f (i+1)) (fun j _=>by
       unfold mixF
       by_cases h:j < i
       ·rw[if_pos h,if_pos (by omega)]
       ·rw[if_neg h]
        by_cases h3:j=i
        ·subst h3;rw[if_pos (by omega)];unfold maskB;rw[if_neg (by omega),if_neg (by omega)]
        ·rw[if_neg (by omega)])]at hS
  ·have hi16:i=16:=by omega
   subst hi16
   go_wp2_with (first | (refine ld24 rfl _ rfl w.heap.size rfl 24 v _ hS ?_) | (refine st24 rfl _ _ rfl (w.heap.size+1) v _ rfl rfl 24 _ hR (adrV_length _ _) ?_))
   refine bodyPost_ret (rs24 rfl _ _ (w.heap.size+1) v (fun j=>maskB K j (f j)) 24 rfl ?_) rfl ⟨rfl,hC.setRow (.inr (by omega)) _⟩
   have hs:=hR.row (adrV v (mixF K f 16))
   rwa [adrV_ext v (f:=mixF K f 16) (g:=fun j=>maskB K j (f j)) (fun j hj=>if_pos hj)]at hs
open Go.RowKit Go.Lib Go.Sort
def bytV(f:Nat→Nat):List Value:=(List.range 16).map (fun j=>.int .u8 (f j:Int))
def bytL(f:Nat→Nat):List Lit:=(List.range 16).map (fun j=>.int .u8 (f j:Int))
def sameF(f g:Nat→Nat):Bool:=(List.range 16).all fun j=>f j==g j
theorem sameF_iff(f g:Nat→Nat):sameF f g=true↔∀j,j < 16→f j=g j:=by simp[sameF]
theorem bytL_eq(f g:Nat→Nat):bytL f=bytL g↔sameF f g=true:=by
 rw[sameF_iff]
 unfold bytL
 rw[List.map_inj_left]
 constructor
 ·intro h j hj
  have:=h j (by simpa using hj)
  injection this with _ h2
  omega
 ·intro h j hj
  rw[h j (by simpa using hj)]
theorem mapM_all{α β:Type}(g:α→Option β)(h:α→β):∀l:List α,(∀x∈l,g x=some (h x))→l.mapM g=some (l.map h)
 | [],_=>by simp
 |x::l,H=>by
  rw[List.mapM_cons,H x (by simp),mapM_all g h l (fun y hy=>H y (by simp[hy]))]
  rfl
theorem flat_one{α β:Type}(h:α→β):∀l:List α,(l.map fun x=>[h x]).flatten=l.map h
 | []=>rfl
 |x::l=>by rw[List.map_cons,List.flatten_cons,flat_one h l];rfl
theorem lit5(d x:Nat)(hx:x < 256):Tryz.prog.keyLits (d+1) 5 [.int .u8 (x:Int)]=some [.int .u8 (x:Int)]:=by
 have hw:(Lit.int .u8 (x:Int)).wf=true:=by simp[Lit.wf,IntKind.min,IntKind.max,IntKind.signed,IntKind.bits];omega
 simp[Program.keyLits,Tryz.underlying5,hw]
theorem cells5:Tryz.prog.cellsOf 5=1:=by kernel_rfl
theorem cells22:Tryz.prog.cellsOf 22=16:=by kernel_rfl
theorem bytV_one(f:Nat→Nat)(i:Nat)(hi:i < 16):((bytV f).drop (i*1)).take 1=[.int .u8 (f i:Int)]:=by
 rw[Nat.mul_one]
 have:(bytV f)[i]?=some (.int .u8 (f i:Int)):=by simp[bytV,hi]
 have hl:i < (bytV f).length:=by simp[bytV];omega
 rw[List.drop_eq_getElem_cons hl]
 rw[List.getElem?_eq_getElem hl]at this
 injection this with this
 rw[this];rfl
theorem lits22(d:Nat)(f:Nat→Nat)(hf:∀j,f j < 256):Tryz.prog.keyLits (d+2) 22 (bytV f)=some (bytL f):=by
 unfold Program.keyLits
 rw[Tryz.underlying22]
 simp only
 rw[if_pos (by rw[cells22];simp[bytV]),mapM_all _ (fun i=>[Lit.int .u8 (f i:Int)]) _ (fun i hi=>by rw[cells5,bytV_one f i (by simpa using hi)];exact lit5 d _ (hf i)),Option.map_some,flat_one]
 rfl
theorem eq22(f g:Nat→Nat)(hf:∀j,f j < 256)(hg:∀j,g j < 256)(W:World):(Op.equalIn 10000 22 (.agg (bytV f).toArray) (.agg (bytV g).toArray)).run Tryz.prog W=.ok (sameF f g) W:=by
 obtain⟨r,h1,h2⟩:=run_equalIn_deep (P:=Tryz.prog) 9995 5 22 (by kernel_rfl) W 5 5 (.agg (bytV f).toArray) (.agg (bytV g).toArray) _ _ (by simp[Value.formed,Tryz.underlying22,cells22,bytV]) (by simp[Value.formed,Tryz.underlying22,cells22,bytV]) (lits22 3 f hf) (lits22 3 g hg)
 simp only[Nat.reduceAdd]at h1
 rw[bytL_eq]at h2
 have e:r=sameF f g:=by
  revert h2
  cases r<;>cases sameF f g<;>simp
 rw[h1,e]
theorem adr_bytes(v:Bool)(f:Nat→Nat):(adrV v f).toArray.extract 1 17=(bytV f).toArray:=by
 apply Array.toList_inj.1
 simp[adrV,bytV,List.take_of_length_le]
theorem size22:(Tryz.prog.info? 22).map (·.size)=some 16:=by kernel_rfl
theorem bytV_length(f:Nat→Nat):(bytV f).length=16:=by simp[bytV]
theorem guard22(x y:Operand)(a b:Array Value)(W:World):(eqGuard .neq 22 x y (.agg a) (.agg b)).run Tryz.prog W=.ok () W:=by kernel_rfl
theorem field24(v:Bool)(f:Nat→Nat)(W:World):(Instr.field 24 (.agg (adrV v f).toArray) 1).run Tryz.prog W=.ok (.agg (bytV f).toArray) W:=by
 have h:(Instr.field 24 (.agg (adrV v f).toArray) 1).run Tryz.prog W=.ok (.agg ((adrV v f).toArray.extract 1 17)) W:=by kernel_rfl
 rw[h,adr_bytes]
theorem field24_0(v:Bool)(f:Nat→Nat)(W:World):(Instr.field 24 (.agg (adrV v f).toArray) 0).run Tryz.prog W=.ok (.bool v) W:=by kernel_rfl
theorem range24{w:World}{g:Nat}{t:TypeId}{v:Bool}{f:Nat→Nat}(hb:Blk w g t (adrV v f)):∀W,(∃p:Regrown,W=grow (redrawn w p.d) p.os)→W.rangeAt g 1 (bytV f):=
 hb.range_cls 1 (bytV f) fun j x hx=>by
  have hj:j < 16:=by
   have:=(List.getElem?_eq_some_iff.1 hx).1
   rwa [bytV_length]at this
  rw[adrV_byte v f j hj]
  rw[←hx];simp[bytV,hj]
attribute [local go_sem] guard22 field24 field24_0
theorem maskB_le(k i x:Nat):maskB k i x≤x:=by
 unfold maskB
 by_cases h:k≤8*i
 ·rw[if_pos h];exact Nat.zero_le _
 ·rw[if_neg h]
  by_cases h2:k < 8*i+8
  ·rw[if_pos h2];exact Nat.div_mul_le_self _ _
  ·rw[if_neg h2];exact Nat.le_refl _
set_option maxHeartbeats 2000000 in
theorem checkAddr_any(v:Bool)(f:Nat→Nat)(hf:∀j,f j < 256)(w:World) :
  Calls Tryz.prog 109 #[.agg (adrV v f).toArray] w fun e w'=>e=.returned (.int .i64 (if sameF (fun j=>maskB (wid v) j (f j)) f then 0 else 150))∧Chg [] w w':=by
 have HB:=hid (Blk.new w 24 (adrV v f).toArray)
 have HC:=hid ((Chg.refl [] w).alloc (.cells (adrV v f).toArray 24))
 have HW:=hid (cls_of (width_any v f))
 have HM:=hid (cls_of (masked_any v f (wid v) hf (wid_le v)))
 have hE:=eq22 (fun j=>maskB (wid v) j (f j)) f (fun j=>Nat.lt_of_le_of_lt (maskB_le _ _ _) (hf j)) hf
 obtain⟨b,hb⟩:∃b,b=sameF (fun j=>maskB (wid v) j (f j)) f:=⟨_,rfl⟩
 rw[←hb]at hE
 rw[←hb]
 clear hb
 go_enter Tryz.func109,Tryz.ntmps109
 go_wp2
 obtain⟨w1,hw1⟩:∃w1,w1=w.alloc (.cells (adrV v f).toArray 24):=⟨_,rfl⟩
 rw[←hw1]
 have B1:Blk w1 w.heap.size 24 (adrV v f):=by rw[hw1];exact HB.out
 have C1:Chg [] w w1:=by rw[hw1];exact HC.out
 clear hw1 HB HC
 have R0:=B1.range_cls0
 have R1:=range24 B1
 refine wp_region_quiet_below (by kernel_rfl) (by kernel_rfl) ?_
 refine wpQuiet_load rfl 24 _ rfl w.heap.size 0 rfl (adrV v f) _ R0 Tryz.underlying24 rfl (size24.trans (by rw[adrV_length])) ?_
 refine wpQuiet_load rfl 24 _ rfl w.heap.size 0 rfl (adrV v f) _ R0 Tryz.underlying24 rfl (size24.trans (by rw[adrV_length])) ?_
 repeat (first|refine wpQuiet_load rfl 22 _ rfl w.heap.size 1 rfl (bytV f) _ R1 Tryz.underlying22 rfl (size22.trans (by rw[bytV_length])) ?_|go_big_quiet_step ((first | (go_at_call 107;with_reducible exact HW.out _ _ _) | (go_at_call 108;with_reducible exact HM.out _ _ _)))|quiet_step ((first | (go_at_call 107;with_reducible exact HW.out _ _ _) | (go_at_call 108;with_reducible exact HM.out _ _ _))))
 refine wpQuiet_nil ?_
 intro w3 hw3
 have C3:=chg_cls hw3
 clear hw3 R0 R1
 have fin:=hid (C1.trans C3)
 cases b
 ·go_wp2
  go_ret
  exact⟨rfl,fin.out⟩
 ·go_wp2
  go_ret
  exact⟨rfl,fin.out⟩
def adr(v:Bool)(n:Nat):List Value:=adrV v (byteAt n)
theorem adr_length(v:Bool)(n:Nat):(adr v n).length=17:=adrV_length v _
theorem same_bytes{n m:Nat}(hn:n < 2^128)(hm:m < 2^128):sameF (byteAt n) (byteAt m)=decide (n=m):=by
 by_cases h:n=m
 ·rw[decide_eq_true h,h];exact(sameF_iff _ _).2 fun _ _=>rfl
 ·rw[decide_eq_false h]
  rw[←Bool.not_eq_true,sameF_iff]
  exact fun q=>h (byteAt_inj hn hm q)
theorem same_mask{n k:Nat}(hn:n < 2^128)(hk:k≤128):sameF (fun j=>maskB k j (byteAt n j)) (byteAt n)=decide (maskN n k=n):=by
 rw[←same_bytes (Nat.lt_of_le_of_lt (maskN_le n k) hn) hn]
 rw[Bool.eq_iff_iff,sameF_iff,sameF_iff]
 exact⟨fun h j hj=>by rw[mask_byte n k j hj hk];exact h j hj,fun h j hj=>by rw[←mask_byte n k j hj hk];exact h j hj⟩
theorem adr_mask(v:Bool)(n k:Nat)(hk:k≤128):adrV v (fun j=>maskB k j (byteAt n j))=adr v (maskN n k):=
 adrV_ext v fun j hj=>(mask_byte n k j hj hk).symm
theorem width_N(v:Bool)(n:Nat)(w:World):Calls Tryz.prog 107 #[.agg (adr v n).toArray] w fun e w'=>e=.returned (.int .i64 (wid v:Nat))∧Chg [] w w':=width_any v _ w
theorem masked_N(v:Bool)(n K:Nat)(hK:K≤128)(w:World):Calls Tryz.prog 108 #[.agg (adr v n).toArray,.int .i64 K] w fun e w'=>e=.returned (.agg (adr v (maskN n K)).toArray)∧Chg [] w w':=by
 have h:=masked_any v (byteAt n) K (byteAt_lt n) hK w
 rwa [adr_mask v n K hK]at h
def errA(v:Bool)(n:Nat):Int:=if okA v n then 0 else 150
theorem checkAddr_N(v:Bool)(n:Nat)(hn:n < 2^128)(w:World):Calls Tryz.prog 109 #[.agg (adr v n).toArray] w fun e w'=>e=.returned (.int .i64 (errA v n))∧Chg [] w w':=by
 have h:=checkAddr_any v (byteAt n) (byteAt_lt n) w
 rwa [same_mask hn (wid_le v)]at h
open Go.RowKit Go.Lib Go.Sort
def pfx(v:Bool)(n:Nat)(k:Int):List Value:=adr v n++[.int .i64 k]
theorem pfx_length(v:Bool)(n:Nat)(k:Int):(pfx v n k).length=18:=by simp[pfx,adr_length]
theorem pfx_adr(v:Bool)(n:Nat)(k:Int)(j:Nat)(x:Value)(h:(adr v n)[j]?=some x):(pfx v n k)[j]?=some x:=by
 unfold pfx
 rw[List.getElem?_append_left (List.getElem?_eq_some_iff.1 h).1,h]
theorem pfx_bits(v:Bool)(n:Nat)(k:Int):(pfx v n k)[17]?=some (.int .i64 k):=by
 unfold pfx
 rw[List.getElem?_append_right (by rw[adr_length];omega),adr_length];rfl
theorem adr_byt(v:Bool)(n j:Nat)(x:Value)(h:(bytV (byteAt n))[j]?=some x):(adr v n)[1+j]?=some x:=by
 have hj:j < 16:=by
  have:=(List.getElem?_eq_some_iff.1 h).1
  rwa [bytV_length]at this
 unfold adr
 rw[adrV_byte v _ j hj,←h];simp[bytV,hj]
theorem size29:(Tryz.prog.info? 29).map (·.size)=some 18:=by kernel_rfl
theorem pfx_ones(v:Bool)(n:Nat)(k:Int):(pfx v n k).toArray.all (·.oneCell')=true:=by
 simp[pfx,adr,adrV,Value.oneCell']
structure PfxR(w:World)(g:Nat)(v:Bool)(n:Nat)(k:Int):Prop where
 whole:∀W,(∃p:Regrown,W=grow (redrawn w p.d) p.os)→W.rangeAt g 0 (pfx v n k)
 adr:∀W,(∃p:Regrown,W=grow (redrawn w p.d) p.os)→W.rangeAt g 0 (adr v n)
 byt:∀W,(∃p:Regrown,W=grow (redrawn w p.d) p.os)→W.rangeAt g 1 (bytV (byteAt n))
theorem Blk.pfxR{w:World}{g:Nat}{t:TypeId}{v:Bool}{n:Nat}{k:Int}(hb:Blk w g t (pfx v n k)):PfxR w g v n k:=
 ⟨hb.range_cls0,hb.range_cls 0 _ (fun j x hx=>by rw[Nat.zero_add];exact pfx_adr v n k j x hx),hb.range_cls 1 _ (fun j x hx=>pfx_adr v n k _ x (adr_byt v n j x hx))⟩
def errP(v:Bool)(n:Nat)(k:Int):Int:=if okP v n k then 0 else 151
theorem field24N(v:Bool)(n:Nat)(W:World):(Instr.field 24 (.agg (adr v n).toArray) 1).run Tryz.prog W=.ok (.agg (bytV (byteAt n)).toArray) W:=field24 v _ W
theorem field24N_0(v:Bool)(n:Nat)(W:World):(Instr.field 24 (.agg (adr v n).toArray) 0).run Tryz.prog W=.ok (.bool v) W:=field24_0 v _ W
attribute [local go_sem] guard22 field24N field24N_0
set_option maxHeartbeats 2000000 in
theorem check_N(v:Bool)(n:Nat)(k:Int)(hn:n < 2^128)(w:World) :
  Calls Tryz.prog 50 #[.agg (pfx v n k).toArray] w fun e w'=>e=.returned (.int .i64 (errP v n k))∧Chg [] w w':=by
 have HB:=hid (Blk.new w 29 (pfx v n k).toArray)
 have HC:=hid ((Chg.refl [] w).alloc (.cells (pfx v n k).toArray 29))
 have HW:=hid (cls_of (width_N v n))
 have hw128:=wid_le v
 by_cases h1:k < 0
 ·have fin:errP v n k=151:=by unfold errP okP;rw[decide_eq_false (by omega)];rfl
  have FIN:=hid fin
  clear fin
  go_enter Tryz.func50,Tryz.ntmps50
  go_wp2
  obtain⟨w1,hw1⟩:∃w1,w1=w.alloc (.cells (pfx v n k).toArray 29):=⟨_,rfl⟩
  rw[←hw1]
  have B1:Blk w1 w.heap.size 29 (pfx v n k):=by rw[hw1];exact HB.out
  have C1:Chg [] w w1:=by rw[hw1];exact HC.out
  clear hw1 HB HC
  have ck:=cell_regrown (B1.cell_of (pfx_bits v n k))
  refine wp_region_quiet_below (by kernel_rfl) (by kernel_rfl) ?_
  repeat (first|go_big_quiet_step (fail)|quiet_step (fail))
  refine wpQuiet_nil ?_
  intro w3 hw3
  have C3:=chg_cls hw3
  clear hw3 ck
  have HF:=hid (C1.trans C3)
  go_wp2
  rw[FIN.out]
  go_ret
  exact⟨rfl,HF.out⟩
 ·obtain⟨K,rfl⟩:∃K:Nat,k=(K:Int):=⟨k.toNat,by omega⟩
  have d1:decide ((K:Int) < 0)=false:=decide_eq_false (by omega)
  by_cases h2:(wid v:Int) < (K:Int)
  ·have d2:decide (wid v < K)=true:=decide_eq_true (by omega)
   have fin:errP v n K=151:=by unfold errP okP;rw[decide_eq_false (p:=(K:Int)≤(wid v:Int)) (by omega)];simp
   have FIN:=hid fin
   clear fin hw128
   go_enter Tryz.func50,Tryz.ntmps50
   go_wp2
   obtain⟨w1,hw1⟩:∃w1,w1=w.alloc (.cells (pfx v n K).toArray 29):=⟨_,rfl⟩
   rw[←hw1]
   have B1:Blk w1 w.heap.size 29 (pfx v n K):=by rw[hw1];exact HB.out
   have C1:Chg [] w w1:=by rw[hw1];exact HC.out
   clear hw1 HB HC
   have ck:=cell_regrown (B1.cell_of (pfx_bits v n K))
   have R:=B1.pfxR
   refine wp_region_quiet_below (by kernel_rfl) (by kernel_rfl) ?_
   repeat (first | (go_big_quiet_want;refine quiet_load 24 _ rfl w.heap.size 0 rfl (adr v n) _ R.adr Tryz.underlying24 rfl (size24.trans (by rw[adr_length])) ?_;go_big_quiet_on)|go_big_quiet_step ((go_at_call 107;with_reducible exact HW.out _ _ _))|quiet_step ((go_at_call 107;with_reducible exact HW.out _ _ _)))
   refine wpQuiet_nil ?_
   intro w3 hw3
   have C3:=chg_cls hw3
   clear hw3 ck R
   have HF:=hid (C1.trans C3)
   go_wp2
   rw[FIN.out]
   go_ret
   exact⟨rfl,HF.out⟩
  ·have d2:decide (wid v < K)=false:=decide_eq_false (by omega)
   obtain⟨b,hb⟩:∃b,b=decide (maskN n K=n):=⟨_,rfl⟩
   have fin:errP v n K=if b then 0 else 151:=by unfold errP okP;rw[decide_eq_true (p:=(K:Int)≤(wid v:Int)) (by omega),hb];simp
   have FIN:=hid fin
   have HM:=hid (cls_of (masked_N v n K (by omega)))
   have hE:=eq22 (byteAt (maskN n K)) (byteAt n) (byteAt_lt _) (byteAt_lt _)
   rw[same_bytes (Nat.lt_of_le_of_lt (maskN_le n K) hn) hn,←hb]at hE
   clear hb
   clear fin hw128
   go_enter Tryz.func50,Tryz.ntmps50
   go_wp2
   obtain⟨w1,hw1⟩:∃w1,w1=w.alloc (.cells (pfx v n K).toArray 29):=⟨_,rfl⟩
   rw[←hw1]
   have B1:Blk w1 w.heap.size 29 (pfx v n K):=by rw[hw1];exact HB.out
   have C1:Chg [] w w1:=by rw[hw1];exact HC.out
   clear hw1 HB HC
   have ck:=cell_regrown (B1.cell_of (pfx_bits v n K))
   have R:=B1.pfxR
   refine wp_region_quiet_below (by kernel_rfl) (by kernel_rfl) ?_
   repeat (first | (go_big_quiet_want;refine quiet_load 24 _ rfl w.heap.size 0 rfl (adr v n) _ R.adr Tryz.underlying24 rfl (size24.trans (by rw[adr_length])) ?_;go_big_quiet_on) | (go_big_quiet_want;refine quiet_load 22 _ rfl w.heap.size 1 rfl (bytV (byteAt n)) _ R.byt Tryz.underlying22 rfl (size22.trans (by rw[bytV_length])) ?_;go_big_quiet_on)|go_big_quiet_step ((first | (go_at_call 107;with_reducible exact HW.out _ _ _) | (go_at_call 108;with_reducible exact HM.out _ _ _)))|quiet_step ((first | (go_at_call 107;with_reducible exact HW.out _ _ _) | (go_at_call 108;with_reducible exact HM.out _ _ _))))
   refine wpQuiet_nil ?_
   intro w3 hw3
   have C3:=chg_cls hw3
   clear hw3 ck R
   have HF:=hid (C1.trans C3)
   cases b
   ·go_wp2
    rw[FIN.out]
    go_ret
    exact⟨rfl,HF.out⟩
   ·go_wp2
    rw[FIN.out]
    go_ret
    exact⟨rfl,HF.out⟩
open Go.RowKit Go.Lib Go.Sort
theorem ld29{ops:Array Oper}{rest:List Oper}{o:Oper}{a:Act}{w:World}{Q:Exit→Act→World→Prop}(hgd:o.guard=none)(x:Operand)(ho:o.op=.load 29 x)
  (g:Nat) (hx:a.eval x=.pointer (some ⟨g,0,none⟩)) (t:TypeId) (v:Bool) (n:Nat) (k:Int) (hb:Blk w g t (pfx v n k))
  (h:wpList Tryz.prog ops Q rest (a.put o.dst (.agg (pfx v n k).toArray)) w):wpList Tryz.prog ops Q (o::rest) a w:=
 wpList_load_row hgd 29 x ho g hx t _ (0,0) _ hb Tryz.underlying29 rfl (size29.trans (by simp[pfx_length])) h
theorem st29{ops:Array Oper}{rest:List Oper}{o:Oper}{a:Act}{w:World}{Q:Exit→Act→World→Prop}(hgd:o.guard=none)(x y:Operand)(ho:o.op=.store 29 x y)
  (g:Nat) (v:Bool) (n:Nat) (k:Int) (hx:a.eval x=.pointer (some ⟨g,0,none⟩)) (hy:a.eval y=.agg (pfx v n k).toArray) (t:TypeId) (old:List Value) (hb:Blk w g t old) (hl:old.length=18)
  (h:wpList Tryz.prog ops Q rest (a.put o.dst undef) (w.setRow g (pfx v n k).toArray)):wpList Tryz.prog ops Q (o::rest) a w:=
 wpList_store_row hgd 29 x y ho g _ hx hy t old.toArray hb (size29.trans (by simp[pfx_length])) (by simp[pfx_length,hl]) (pfx_ones v n k) h
theorem ld24n{ops:Array Oper}{rest:List Oper}{o:Oper}{a:Act}{w:World}{Q:Exit→Act→World→Prop}(hgd:o.guard=none)(x:Operand)(ho:o.op=.load 24 x)
  (g:Nat) (hx:a.eval x=.pointer (some ⟨g,0,none⟩)) (t:TypeId) (v:Bool) (n:Nat) (hb:Blk w g t (adr v n))
  (h:wpList Tryz.prog ops Q rest (a.put o.dst (.agg (adr v n).toArray)) w):wpList Tryz.prog ops Q (o::rest) a w:=ld24 hgd x ho g hx t v (byteAt n) hb h
def zpfx:Array Value:=#[.bool false,.int .u8 0,.int .u8 0,.int .u8 0,.int .u8 0,.int .u8 0,.int .u8 0,.int .u8 0,.int .u8 0,.int .u8 0,.int .u8 0,.int .u8 0,.int .u8 0,.int .u8 0,.int .u8 0,.int .u8 0,.int .u8 0,.int .i64 0]
theorem zpfx_eq:zpfx=(pfx false 0 0).toArray:=by kernel_rfl
theorem st29z{ops:Array Oper}{rest:List Oper}{o:Oper}{a:Act}{w:World}{Q:Exit→Act→World→Prop}(hgd:o.guard=none)(x y:Operand)(ho:o.op=.store 29 x y)
  (g:Nat) (hx:a.eval x=.pointer (some ⟨g,0,none⟩)) (hy:a.eval y=.agg zpfx) (t:TypeId) (old:List Value) (hb:Blk w g t old) (hl:old.length=18)
  (h:wpList Tryz.prog ops Q rest (a.put o.dst undef) (w.setRow g (pfx false 0 0).toArray)):wpList Tryz.prog ops Q (o::rest) a w:=
 st29 hgd x y ho g false 0 0 hx (by rw[hy,zpfx_eq]) t old hb hl h
theorem rs29t{fn:Func}{p q:Tmp}(h:fn.results=#[.cell p 29,.tmp q])(tmps:Array Value)(w:World)(g:Nat)(v:Bool)(n:Nat)(k:Int)(t:TypeId)(u:Value)
  (hp:tmps.getD p undef=.pointer (some ⟨g,0,none⟩)) (hq:tmps.getD q undef=u) (hb:Blk w g t (pfx v n k)):(results fn tmps).run Tryz.prog w=.ok (.tuple #[.agg (pfx v n k).toArray,u]) w:=by
 have hp':tmps[p]?.getD undef=.pointer (some ⟨g,0,none⟩):=by simpa using hp
 have hq':tmps[q]?.getD undef=u:=by simpa using hq
 simp[results,h,hp',hq',asAddr,run_loadVar_row w g t 29 _ (0,0) _ hb Tryz.underlying29 rfl (size29.trans (by simp[pfx_length]))]
theorem built29(v:Bool)(n:Nat)(k:Int):Tryz.prog.built 29 [(0,.agg (adr v n).toArray),(1,.int .i64 k)]=some (pfx v n k).toArray:=by kernel_rfl
theorem bd29{ops:Array Oper}{rest:List Oper}{o:Oper}{a:Act}{w:World}{Q:Exit→Act→World→Prop}(hg:o.guard=none)(x y:Operand)(ho:o.op=.build 29 #[(0,x),(1,y)])(v:Bool)(n:Nat)(k:Int)
  (hx:a.eval x=.agg (adr v n).toArray) (hy:a.eval y=.int .i64 k) (h:wpList Tryz.prog ops Q rest (a.put o.dst (.agg (pfx v n k).toArray)) w):wpList Tryz.prog ops Q (o::rest) a w:=by
 have e:Tryz.prog.built 29 ((#[(0,x),(1,y)]:Array (Nat×Operand)).map fun(i,z)=>(i,a.eval z)).toList=some (pfx v n k).toArray:=by
  simp only[List.map_toArray,List.map_cons,List.map_nil,hx,hy]
  exact built29 v n k
 refine wpList_build hg 29 _ ho (by rw[e];rfl) ?_
 rw[e]
 exact h
open Go.RowKit Go.Lib Go.Sort
def BytAt(w:World)(g o n:Nat):Prop:=∀j,j < 16→w.cell? ⟨g,o+j,none⟩=some (.int .u8 (byteAt n j:Int))
theorem BytAt.chg{w w':World}{g o n:Nat}(h:BytAt w g o n)(hc:Chg [] w w'):BytAt w' g o n:=fun j hj=>by
 have hl:=block_lt_of_cell (h j hj)
 rw[hc.cell hl (by simp)];exact h j hj
open Go.RowKit Go.Lib Go.Sort
open Go.RowKit Go.Lib Go.Sort
theorem ld29g{ops:Array Oper}{rest:List Oper}{o:Oper}{a:Act}{w:World}{Q:Exit→Act→World→Prop}(hgd:Region.wanted o (yielded ops a.tmps)=true)(x:Operand)(ho:o.op=.load 29 x)
  (g:Nat) (hx:a.eval x=.pointer (some ⟨g,0,none⟩)) (t:TypeId) (v:Bool) (n:Nat) (k:Int) (hb:Blk w g t (pfx v n k))
  (h:wpList Tryz.prog ops Q rest (a.put o.dst (.agg (pfx v n k).toArray)) w):wpList Tryz.prog ops Q (o::rest) a w:=by
 unfold wpList
 rw[if_pos hgd]
 exact .inl (wp_load_row 29 x ho g hx t _ (0,0) _ hb Tryz.underlying29 rfl (size29.trans (by simp[pfx_length])) h)
theorem ld24p{ops:Array Oper}{rest:List Oper}{o:Oper}{a:Act}{w:World}{Q:Exit→Act→World→Prop}(hgd:Region.wanted o (yielded ops a.tmps)=true)(x:Operand)(ho:o.op=.load 24 x)
  (g:Nat) (hx:a.eval x=.pointer (some ⟨g,0,none⟩)) (t:TypeId) (v:Bool) (n:Nat) (k:Int) (hb:Blk w g t (pfx v n k))
  (h:wpList Tryz.prog ops Q rest (a.put o.dst (.agg (adr v n).toArray)) w):wpList Tryz.prog ops Q (o::rest) a w:=by
 unfold wpList
 rw[if_pos hgd]
 exact .inl (wp_load_mid 24 x ho g 0 hx (adr v n) _ (fun j y hy=>hb.cell_of (by rw[Nat.zero_add];exact pfx_adr v n k j y hy)) Tryz.underlying24 rfl (size24.trans (by rw[adr_length])) h)
theorem ld29p{ops:Array Oper}{rest:List Oper}{o:Oper}{a:Act}{w:World}{Q:Exit→Act→World→Prop}(hgd:o.guard=none)(x:Operand)(ho:o.op=.load 24 x)
  (g:Nat) (hx:a.eval x=.pointer (some ⟨g,0,none⟩)) (t:TypeId) (v:Bool) (n:Nat) (k:Int) (hb:Blk w g t (pfx v n k))
  (h:wpList Tryz.prog ops Q rest (a.put o.dst (.agg (adr v n).toArray)) w):wpList Tryz.prog ops Q (o::rest) a w:=
 ld24p (by unfold Region.wanted;rw[hgd]) x ho g hx t v n k hb h
open Go.RowKit Go.Lib Go.Sort
open Go.RowKit Go.Lib Go.Sort
def litA(v:Bool)(n:Nat):List Lit:=.bool v::bytL (byteAt n)
def litP(v:Bool)(n:Nat)(k:Int):List Lit:=litA v n++[.int .i64 k]
theorem litA_eq(v v':Bool)(n m:Nat)(hn:n < 2^128)(hm:m < 2^128):litA v n=litA v' m↔v=v'∧n=m:=by
 unfold litA
 rw[List.cons.injEq,bytL_eq,same_bytes hn hm,decide_eq_true_eq]
 constructor
 ·rintro⟨h1,h2⟩
  injection h1 with h1
  exact⟨h1,h2⟩
 ·rintro⟨rfl,rfl⟩
  exact⟨rfl,rfl⟩
theorem litA_len(v:Bool)(n:Nat):(litA v n).length=17:=by simp[litA,bytL]
theorem litP_eq(v v':Bool)(n m:Nat)(k j:Int)(hn:n < 2^128)(hm:m < 2^128):litP v n k=litP v' m j↔v=v'∧n=m∧k=j:=by
 unfold litP
 constructor
 ·intro h
  obtain⟨h1,h2⟩:=List.append_inj h (by rw[litA_len,litA_len])
  obtain⟨h3,h4⟩:=(litA_eq v v' n m hn hm).1 h1
  injection h2 with h2
  injection h2 with _ h2
  exact⟨h3,h4,h2⟩
 ·rintro⟨rfl,rfl,rfl⟩
  rfl
theorem cells24:Tryz.prog.cellsOf 24=17:=by kernel_rfl
theorem cells29:Tryz.prog.cellsOf 29=18:=by kernel_rfl
theorem cells4:Tryz.prog.cellsOf 4=1:=by kernel_rfl
theorem cells3:Tryz.prog.cellsOf 3=1:=by kernel_rfl
theorem lit4(d:Nat)(v:Bool):Tryz.prog.keyLits (d+1) 4 [.bool v]=some [.bool v]:=by
 simp[Program.keyLits,Tryz.underlying4]
theorem lit3(d:Nat)(k:Int)(h0 : -9223372036854775808≤k)(h1:k≤9223372036854775807):Tryz.prog.keyLits (d+1) 3 [.int .i64 k]=some [.int .i64 k]:=by
 have hw:(Lit.int .i64 k).wf=true:=by simp[Lit.wf,IntKind.min,IntKind.max,IntKind.signed,IntKind.bits];omega
 simp[Program.keyLits,Tryz.underlying3,hw]
theorem adr_drop(v:Bool)(n:Nat):((adr v n).drop 1).take 16=bytV (byteAt n):=by
 unfold adr adrV bytV
 rw[List.drop_one,List.tail_cons,List.take_of_length_le (by simp)]
theorem lits24(d:Nat)(v:Bool)(n:Nat):Tryz.prog.keyLits (d+3) 24 (adr v n)=some (litA v n):=by
 have h1:=lit4 (d+1) v
 have h2:=lits22 d (byteAt n) (byteAt_lt n)
 have h3:=adr_drop v n
 have h4:((adr v n).drop 0).take 1=[.bool v]:=rfl
 unfold Program.keyLits
 rw[Tryz.underlying24]
 simp only
 rw[if_pos ⟨by rw[cells24,adr_length],by simp⟩]
 simp only[List.mapM_cons,List.mapM_nil,cells4,cells22,h3,h4,h1,h2]
 rfl
theorem lits29(d:Nat)(v:Bool)(n:Nat)(k:Int)(h0 : -9223372036854775808≤k)(h1:k≤9223372036854775807):Tryz.prog.keyLits (d+4) 29 (pfx v n k)=some (litP v n k):=by
 have e1:=lits24 d v n
 have e2:=lit3 (d+2) k h0 h1
 have e3:((pfx v n k).drop 0).take 17=adr v n:=by
  unfold pfx;rw[List.drop_zero,List.take_left' (adr_length v n)]
 have e4:((pfx v n k).drop 17).take 1=[.int .i64 k]:=by
  unfold pfx;rw[List.drop_left' (adr_length v n)];rfl
 unfold Program.keyLits
 rw[Tryz.underlying29]
 simp only
 rw[if_pos ⟨by rw[cells29,pfx_length],by simp⟩]
 simp only[List.mapM_cons,List.mapM_nil,cells24,cells3,e1,e2,e3,e4]
 rfl
theorem eq29(v v':Bool)(n m:Nat)(k j:Int)(hn:n < 2^128)(hm:m < 2^128)(hk : -9223372036854775808≤k∧k≤9223372036854775807)(hj : -9223372036854775808≤j∧j≤9223372036854775807)(W:World):(Op.equalIn 10000 29 (.agg (pfx v n k).toArray) (.agg (pfx v' m j).toArray)).run Tryz.prog W=.ok (decide (v=v'∧n=m∧k=j)) W:=by
 obtain⟨r,h1,h2⟩:=run_equalIn_deep (P:=Tryz.prog) 9995 5 29 (by kernel_rfl) W 5 5 (.agg (pfx v n k).toArray) (.agg (pfx v' m j).toArray) _ _ (by simp[Value.formed,Tryz.underlying29,cells29,pfx_length]) (by simp[Value.formed,Tryz.underlying29,cells29,pfx_length]) (lits29 1 v n k hk.1 hk.2) (lits29 1 v' m j hj.1 hj.2)
 simp only[Nat.reduceAdd]at h1
 rw[litP_eq v v' n m k j hn hm]at h2
 have e:r=decide (v=v'∧n=m∧k=j):=by
  rw[Bool.eq_iff_iff,h2,decide_eq_true_eq]
 rw[h1,e]
theorem guard29(op:BinOp)(x y:Operand)(a b:Array Value)(W:World):(eqGuard op 29 x y (.agg a) (.agg b)).run Tryz.prog W=.ok () W:=by cases op<;>kernel_rfl
end Go.Proofs.YtnncigmpcdehnaaGreatDoor
