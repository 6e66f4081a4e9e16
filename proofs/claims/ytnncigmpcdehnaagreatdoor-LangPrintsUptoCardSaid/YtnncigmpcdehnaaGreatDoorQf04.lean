import Derived.Test.YtnncigmpcdehnaaGreatDoorQf01
import Derived.Test.YtnncigmpcdehnaaGreatDoorQf02
import Derived.Test.YtnncigmpcdehnaaGreatDoorQf03
import Derived.Test.YtnncigmpcdehnaaGreatDoorRows
import Derived.DeepKeys
import Derived.Laws.BitsAllLaws
namespace Go.Proofs.YtnncigmpcdehnaaGreatDoor
set_option maxRecDepth 100000
open Go.RowKit Go.Lib _root_.Go.Proofs.Tryz
set_option maxRecDepth 100000
def aE(v:Bool)(f:Nat→Nat):List Value:=.bool v::(List.range 16).map (fun j=>.int .u8 (f j:Int))
theorem aD(v:Bool)(f:Nat→Nat):(aE v f).length=17:=by simp[aE]
theorem rN(v:Bool)(f:Nat→Nat):(aE v f)[0]?=some (.bool v):=rfl
theorem cB(v:Bool)(f:Nat→Nat)(i:Nat)(hi:i < 16):(aE v f)[1+i]?=some (.int .u8 (f i:Int)):=by
 rw[Nat.add_comm];simp[aE,hi]
set_option maxHeartbeats 1000000 in
theorem wF(v:Bool)(f:Nat→Nat)(w:World) :
  Calls prog 107 #[.agg (aE v f).toArray] w fun e w'=>e=.returned (.int .i64 (wid v:Nat))∧ai [] w w':=by
 have b0:=au.new w 24 (aE v f).toArray
 have c0:=b0.cell_of (i:=0) (v:=.bool v) rfl
 have fin:=hid ((ai.refl [] w).alloc (.cells (aE v f).toArray 24))
 cases v
 ·go_enter func107,ntmps107
  go_wp2
  go_ret
  exact⟨rfl,fin.out⟩
 ·go_enter func107,ntmps107
  go_wp2
  go_ret
  exact⟨rfl,fin.out⟩
theorem fh:(prog.info? 24).map (·.size)=some 17:=by kernel_rfl
theorem wA{ops:Array Oper}{rest:List Oper}{o:Oper}{a:Act}{w:World}{Q:Exit→Act→World→Prop}(hgd:o.guard=none)(x:Operand)(ho:o.op=.load 24 x)
  (g:Nat) (hx:a.eval x=.pointer (some ⟨g,0,none⟩)) (t:TypeId) (v:Bool) (f:Nat→Nat) (hb:au w g t (aE v f))
  (h:wpList prog ops Q rest (a.put o.dst (.agg (aE v f).toArray)) w):wpList prog ops Q (o::rest) a w:=
 wpList_load_row hgd 24 x ho g hx t _ (0,0) _ hb underlying24 rfl (fh.trans (by simp[aE])) h
theorem Ho(v:Bool)(f:Nat→Nat):(aE v f).toArray.all (·.oneCell')=true:=by
 simp[aE,Value.oneCell']
theorem kK{ops:Array Oper}{rest:List Oper}{o:Oper}{a:Act}{w:World}{Q:Exit→Act→World→Prop}(hgd:o.guard=none)(x y:Operand)(ho:o.op=.store 24 x y)
  (g:Nat) (v:Bool) (f:Nat→Nat) (hx:a.eval x=.pointer (some ⟨g,0,none⟩)) (hy:a.eval y=.agg (aE v f).toArray) (t:TypeId) (old:List Value) (hb:au w g t old) (hl:old.length=17)
  (h:wpList prog ops Q rest (a.put o.dst undef) (w.setRow g (aE v f).toArray)):wpList prog ops Q (o::rest) a w:=
 wpList_store_row hgd 24 x y ho g _ hx hy t old.toArray hb (fh.trans (by simp[aE])) (by simp[aE,hl]) (Ho v f) h
theorem S4{fn:Func}{p:Tmp}(h:fn.results=#[.cell p 24])(tmps:Array Value)(w:World)(g:Nat)(v:Bool)(f:Nat→Nat)(t:TypeId)
  (hp:tmps.getD p undef=.pointer (some ⟨g,0,none⟩)) (hb:au w g t (aE v f)):(results fn tmps).run prog w=.ok (.agg (aE v f).toArray) w:=
 results_cell_row h tmps w g t _ (0,0) _ hp hb underlying24 rfl (fh.trans (by simp[aE]))
theorem qM(v:Bool){f g:Nat→Nat}(h:∀j,j < 16→f j=g j):aE v f=aE v g:=by
 unfold aE
 congr 1
 exact List.map_congr_left fun j hj=>by rw[h j (by simpa using hj)]
def lj(K:Nat)(f:Nat→Nat)(i j:Nat):Nat:=if j < i then fq K j (f j)else f j
theorem vY(v:Bool)(f g:Nat→Nat)(i x:Nat)(hg:g i=x)(he:∀j,j < 16→j≠i→g j=f j):(aE v f).set (1+i) (.int .u8 (x:Int))=aE v g:=by
 apply List.ext_getElem?
 intro j
 rw[List.getElem?_set,aD]
 by_cases h1:1+i=j
 ·subst h1
  rw[if_pos rfl]
  by_cases hi:i < 16
  ·rw[cB v g i hi,if_pos (by omega),hg]
  ·rw[if_neg (by omega),List.getElem?_eq_none (by rw[aD];omega)]
 ·rw[if_neg h1]
  cases j with
  |zero=>rfl
  |succ j=>
   rw[Nat.add_comm j 1]
   by_cases hj:j < 16
   ·rw[cB v f j hj,cB v g j hj,he j hj (by omega)]
   ·rw[List.getElem?_eq_none (by rw[aD];omega),List.getElem?_eq_none (by rw[aD];omega)]
theorem Ju{K i x:Nat}{f:Nat→Nat}(h:fq K i (f i)=x):lj K f (i+1) i=x:=by unfold lj;rw[if_pos (by omega),h]
theorem Jt(K:Nat)(f:Nat→Nat)(i j:Nat)(_:j < 16)(hj:j≠i):lj K f (i+1) j=lj K f i j:=by
 unfold lj
 by_cases h:j < i
 ·rw[if_pos h,if_pos (by omega)]
 ·rw[if_neg h,if_neg (by omega)]
theorem BZ:∀(x:Fin 256) (s:Fin 8),bits BinOp.and IntKind.u8 (x.val:Int) (255*2^s.val%256)=((x.val / 2^s.val*2^s.val:Nat):Int):=by decide +kernel
theorem Ox(x s:Nat)(hx:x < 256)(hs:s < 8):bits BinOp.and IntKind.u8 (x:Int) (255*2^s%256)=((x / 2^s*2^s:Nat):Int):=BZ ⟨x,hx⟩ ⟨s,hs⟩
set_option maxHeartbeats 2000000 in
theorem uO(v:Bool)(f:Nat→Nat)(K:Nat)(hf:∀j,f j < 256)(hK:K≤128)(w:World) :
  Calls prog 108 #[.agg (aE v f).toArray,.int .i64 K] w fun e w'=>e=.returned (.agg (aE v fun j=>fq K j (f j)).toArray)∧ai [] w w':=by
 have HS:=hid (show au ((w.alloc (.cells (aE v f).toArray 24)).alloc (.cells (aE false fun _=>0).toArray 24)) w.heap.size 24 (aE v (lj K f 0))from(au.new w 24 (aE v f).toArray).alloc _)
 have HR:=hid (show au ((w.alloc (.cells (aE v f).toArray 24)).alloc (.cells (aE false fun _=>0).toArray 24)) (w.heap.size+1) 24 (aE false fun _=>0)from au.fJ _ 24 (aE false fun _=>0).toArray (by simp))
 have HC:=hid (((ai.refl [] w).alloc (.cells (aE v f).toArray 24)).alloc (.cells (aE false fun _=>0).toArray 24))
 go_enter func108,ntmps108
 go_wp2
 go_loopw [7] (fun iv wr=>∃i:Nat,i≤16∧iv=.int .i64 i∧au wr w.heap.size 24 (aE v (lj K f i))∧au wr (w.heap.size+1) 24 (aE false fun _=>0)∧ai [] w wr) (fun iv _=>16 - (RowKit.intOf iv).toNat)
 case atStart=>exact⟨0,by omega,rfl,HS.out,HR.out,HC.out⟩
 case round=>
  obtain⟨i,hi,rfl,hS,hR,hC⟩:=hrel
  by_cases hlt:(i:Int) < 16
  ·have i0:(0:Int)≤(i:Int):=by omega
   have c1:=hS.cell_of (cB v (lj K f i) i (by omega))
   have f1:=hS.frozen (1+i)
   by_cases h1:(K:Int) - 8*(i:Int)≤0
   ·go_wp2
    go_roundw
    case measure=>simp[RowKit.intOf];omega
    case rel=>
     refine⟨i+1,by omega,by go_num,?_,hR.LK (by simp) _,hC.Mn (Nat.le_refl _) _ _⟩
     have hs:=hS.pU (1+i) (.int .u8 0)
     have e:=vY v (lj K f i) (lj K f (i+1)) i 0 (Ju (by unfold fq;rw[if_pos (by omega)])) (Jt K f i)
     exact e ▸ hs
   ·by_cases h2:(K:Int) - 8*(i:Int) < 8
    ·obtain⟨s,hs⟩:∃s:Nat,s=8*i+8 - K:=⟨_,rfl⟩
     have es:(8:Int) - ((K:Int) - 8*(i:Int))=(s:Int):=by omega
     have s0:(0:Int)≤(s:Int):=by omega
     go_wp2
     go_region
     go_wp2
     go_roundw
     case measure=>simp[RowKit.intOf];omega
     case rel=>
      refine⟨i+1,by omega,by go_num,?_,(hR.LK (by simp) _).drewN 1,(hC.Mn (Nat.le_refl _) _ _).drew⟩
      have hv:bits BinOp.and IntKind.u8 (lj K f i i:Int) (255*2^(8*i+8 - K)%256)=((fq K i (f i):Nat):Int):=by
       rw[show lj K f i i=f i by unfold lj; rw[if_neg (by omega)],Ox (f i) (8*i+8 - K) (hf i) (by omega)]
       unfold fq;rw[if_neg (by omega),if_pos (by omega)]
      rw[hv]
      have hs:=hS.pU (1+i) (.int .u8 ((fq K i (f i):Nat):Int))
      have e:=vY v (lj K f i) (lj K f (i+1)) i _ (Ju rfl) (Jt K f i)
      exact(e ▸ hs).drewN 1
    ·go_wp2
     go_roundw
     case measure=>simp[RowKit.intOf];omega
     case rel=>
      refine⟨i+1,by omega,by go_num,?_,hR,hC⟩
      rwa [qM v (f:=lj K f i) (g:=lj K f (i+1)) (fun j _=>by
       unfold lj
       by_cases h:j < i
       ·rw[if_pos h,if_pos (by omega)]
       ·rw[if_neg h]
        by_cases h3:j=i
        ·subst h3;rw[if_pos (by omega)];unfold fq;rw[if_neg (by omega),if_neg (by omega)]
        ·rw[if_neg (by omega)])]at hS
  ·have hi16:i=16:=by omega
   subst hi16
   go_wp2_with (first | (refine wA rfl _ rfl w.heap.size rfl 24 v _ hS ?_) | (refine kK rfl _ _ rfl (w.heap.size+1) v _ rfl rfl 24 _ hR (aD _ _) ?_))
   refine bodyPost_ret (S4 rfl _ _ (w.heap.size+1) v (fun j=>fq K j (f j)) 24 rfl ?_) rfl ⟨rfl,hC.setRow (.inr (by omega)) _⟩
   have hs:=hR.row (aE v (lj K f 16))
   rwa [qM v (f:=lj K f 16) (g:=fun j=>fq K j (f j)) (fun j hj=>if_pos hj)]at hs
open Go.RowKit Go.Lib Go.Sort
def gZ(f:Nat→Nat):List Value:=(List.range 16).map (fun j=>.int .u8 (f j:Int))
def He(f:Nat→Nat):List Lit:=(List.range 16).map (fun j=>.int .u8 (f j:Int))
def mT(f g:Nat→Nat):Bool:=(List.range 16).all fun j=>f j==g j
theorem jw(f g:Nat→Nat):mT f g=true↔∀j,j < 16→f j=g j:=by simp[mT]
theorem Fx(f g:Nat→Nat):He f=He g↔mT f g=true:=by
 rw[jw]
 unfold He
 rw[List.map_inj_left]
 constructor
 ·intro h j hj
  have:=h j (by simpa using hj)
  injection this with _ h2
  omega
 ·intro h j hj
  rw[h j (by simpa using hj)]
theorem AB{α β:Type}(g:α→Option β)(h:α→β):∀l:List α,(∀x∈l,g x=some (h x))→l.mapM g=some (l.map h)
 | [],_=>by simp
 |x::l,H=>by
  rw[List.mapM_cons,H x (by simp),AB g h l (fun y hy=>H y (by simp[hy]))]
  rfl
theorem Be{α β:Type}(h:α→β):∀l:List α,(l.map fun x=>[h x]).flatten=l.map h
 | []=>rfl
 |x::l=>by rw[List.map_cons,List.flatten_cons,Be h l];rfl
theorem Th(d x:Nat)(hx:x < 256):prog.keyLits (d+1) 5 [.int .u8 (x:Int)]=some [.int .u8 (x:Int)]:=by
 have hw:(Lit.int .u8 (x:Int)).wf=true:=by simp[Lit.wf,IntKind.min,IntKind.max,IntKind.signed,IntKind.bits];omega
 simp[Program.keyLits,underlying5,hw]
theorem Qx:prog.cellsOf 5=1:=by kernel_rfl
theorem tr:prog.cellsOf 22=16:=by kernel_rfl
theorem KR(f:Nat→Nat)(i:Nat)(hi:i < 16):((gZ f).drop (i*1)).take 1=[.int .u8 (f i:Int)]:=by
 rw[Nat.mul_one]
 have:(gZ f)[i]?=some (.int .u8 (f i:Int)):=by simp[gZ,hi]
 have hl:i < (gZ f).length:=by simp[gZ];omega
 rw[List.drop_eq_getElem_cons hl]
 rw[List.getElem?_eq_getElem hl]at this
 injection this with this
 rw[this];rfl
theorem Dh(d:Nat)(f:Nat→Nat)(hf:∀j,f j < 256):prog.keyLits (d+2) 22 (gZ f)=some (He f):=by
 unfold Program.keyLits
 rw[underlying22]
 simp only
 rw[if_pos (by rw[tr];simp[gZ]),AB _ (fun i=>[Lit.int .u8 (f i:Int)]) _ (fun i hi=>by rw[Qx,KR f i (by simpa using hi)];exact Th d _ (hf i)),Option.map_some,Be]
 rfl
theorem Sf(f g:Nat→Nat)(hf:∀j,f j < 256)(hg:∀j,g j < 256)(W:World):(Op.equalIn 10000 22 (.agg (gZ f).toArray) (.agg (gZ g).toArray)).run prog W=.ok (mT f g) W:=by
 obtain⟨r,h1,h2⟩:=run_equalIn_deep (P:=prog) 9995 5 22 (by kernel_rfl) W 5 5 (.agg (gZ f).toArray) (.agg (gZ g).toArray) _ _ (by simp[Value.formed,underlying22,tr,gZ]) (by simp[Value.formed,underlying22,tr,gZ]) (Dh 3 f hf) (Dh 3 g hg)
 simp only[Nat.reduceAdd]at h1
 rw[Fx]at h2
 have e:r=mT f g:=by
  revert h2
  cases r<;>cases mT f g<;>simp
 rw[h1,e]
theorem Hn(v:Bool)(f:Nat→Nat):(aE v f).toArray.extract 1 17=(gZ f).toArray:=by
 apply Array.toList_inj.1
 simp[aE,gZ,List.take_of_length_le]
theorem It:(prog.info? 22).map (·.size)=some 16:=by kernel_rfl
theorem kD(f:Nat→Nat):(gZ f).length=16:=by simp[gZ]
theorem E0(x y:Operand)(a b:Array Value)(W:World):(eqGuard .neq 22 x y (.agg a) (.agg b)).run prog W=.ok () W:=by kernel_rfl
theorem Fg(v:Bool)(f:Nat→Nat)(W:World):(Instr.field 24 (.agg (aE v f).toArray) 1).run prog W=.ok (.agg (gZ f).toArray) W:=by
 have h:(Instr.field 24 (.agg (aE v f).toArray) 1).run prog W=.ok (.agg ((aE v f).toArray.extract 1 17)) W:=by kernel_rfl
 rw[h,Hn]
theorem xF(v:Bool)(f:Nat→Nat)(W:World):(Instr.field 24 (.agg (aE v f).toArray) 0).run prog W=.ok (.bool v) W:=by kernel_rfl
theorem MG{w:World}{g:Nat}{t:TypeId}{v:Bool}{f:Nat→Nat}(hb:au w g t (aE v f)):∀W,(∃p:Regrown,W=grow (redrawn w p.d) p.os)→W.rangeAt g 1 (gZ f):=
 hb.n6 1 (gZ f) fun j x hx=>by
  have hj:j < 16:=by
   have:=(List.getElem?_eq_some_iff.1 hx).1
   rwa [kD]at this
  rw[cB v f j hj]
  rw[←hx];simp[gZ,hj]
attribute [local go_sem] E0 Fg xF
theorem JB(k i x:Nat):fq k i x≤x:=by
 unfold fq
 by_cases h:k≤8*i
 ·rw[if_pos h];exact Nat.zero_le _
 ·rw[if_neg h]
  by_cases h2:k < 8*i+8
  ·rw[if_pos h2];exact Nat.div_mul_le_self _ _
  ·rw[if_neg h2];exact Nat.le_refl _
set_option maxHeartbeats 2000000 in
theorem wE(v:Bool)(f:Nat→Nat)(hf:∀j,f j < 256)(w:World) :
  Calls prog 109 #[.agg (aE v f).toArray] w fun e w'=>e=.returned (.int .i64 (if mT (fun j=>fq (wid v) j (f j)) f then 0 else 150))∧ai [] w w':=by
 have HB:=hid (au.new w 24 (aE v f).toArray)
 have HC:=hid ((ai.refl [] w).alloc (.cells (aE v f).toArray 24))
 have HW:=hid (nI (wF v f))
 have HM:=hid (nI (uO v f (wid v) hf (fA v)))
 have hE:=Sf (fun j=>fq (wid v) j (f j)) f (fun j=>Nat.lt_of_le_of_lt (JB _ _ _) (hf j)) hf
 obtain⟨b,hb⟩:∃b,b=mT (fun j=>fq (wid v) j (f j)) f:=⟨_,rfl⟩
 rw[←hb]at hE
 rw[←hb]
 clear hb
 go_enter func109,ntmps109
 go_wp2
 obtain⟨w1,hw1⟩:∃w1,w1=w.alloc (.cells (aE v f).toArray 24):=⟨_,rfl⟩
 rw[←hw1]
 have B1:au w1 w.heap.size 24 (aE v f):=by rw[hw1];exact HB.out
 have C1:ai [] w w1:=by rw[hw1];exact HC.out
 clear hw1 HB HC
 have R0:=B1.ue
 have R1:=MG B1
 refine wp_region_quiet_below (by kernel_rfl) (by kernel_rfl) ?_
 refine lH rfl 24 _ rfl w.heap.size 0 rfl (aE v f) _ R0 underlying24 rfl (fh.trans (by rw[aD])) ?_
 refine lH rfl 24 _ rfl w.heap.size 0 rfl (aE v f) _ R0 underlying24 rfl (fh.trans (by rw[aD])) ?_
 repeat (first|refine lH rfl 22 _ rfl w.heap.size 1 rfl (gZ f) _ R1 underlying22 rfl (It.trans (by rw[kD])) ?_|go_big_quiet_step ((first | (go_at_call 107;with_reducible exact HW.out _ _ _) | (go_at_call 108;with_reducible exact HM.out _ _ _)))|quiet_step ((first | (go_at_call 107;with_reducible exact HW.out _ _ _) | (go_at_call 108;with_reducible exact HM.out _ _ _))))
 refine wpQuiet_nil ?_
 intro w3 hw3
 have C3:=fw hw3
 clear hw3 R0 R1
 have fin:=hid (C1.trans C3)
 cases b
 ·go_wp2
  go_ret
  exact⟨rfl,fin.out⟩
 ·go_wp2
  go_ret
  exact⟨rfl,fin.out⟩
def cH(v:Bool)(n:Nat):List Value:=aE v (ah n)
theorem bS(v:Bool)(n:Nat):(cH v n).length=17:=aD v _
theorem oY{n m:Nat}(hn:n < 2^128)(hm:m < 2^128):mT (ah n) (ah m)=decide (n=m):=by
 by_cases h:n=m
 ·rw[decide_eq_true h,h];exact(jw _ _).2 fun _ _=>rfl
 ·rw[decide_eq_false h]
  rw[←Bool.not_eq_true,jw]
  exact fun q=>h (jZ hn hm q)
theorem wN{n k:Nat}(hn:n < 2^128)(hk:k≤128):mT (fun j=>fq k j (ah n j)) (ah n)=decide (cS n k=n):=by
 rw[←oY (Nat.lt_of_le_of_lt (uQ n k) hn) hn]
 rw[Bool.eq_iff_iff,jw,jw]
 exact⟨fun h j hj=>by rw[ll n k j hj hk];exact h j hj,fun h j hj=>by rw[←ll n k j hj hk];exact h j hj⟩
theorem Lg(v:Bool)(n k:Nat)(hk:k≤128):aE v (fun j=>fq k j (ah n j))=cH v (cS n k):=
 qM v fun j hj=>(ll n k j hj hk).symm
theorem LO(v:Bool)(n:Nat)(w:World):Calls prog 107 #[.agg (cH v n).toArray] w (Rn w (.int .i64 (wid v:Nat))):=wF v _ w
theorem JA(v:Bool)(n K:Nat)(hK:K≤128)(w:World):Calls prog 108 #[.agg (cH v n).toArray,.int .i64 K] w (Rn w (.agg (cH v (cS n K)).toArray)):=by
 have h:=uO v (ah n) K (a7 n) hK w
 rwa [Lg v n K hK]at h
def eY(v:Bool)(n:Nat):Int:=if jk v n then 0 else 150
theorem nK(v:Bool)(n:Nat)(hn:n < 2^128)(w:World):Calls prog 109 #[.agg (cH v n).toArray] w (Rn w (.int .i64 (eY v n))):=by
 have h:=wE v (ah n) (a7 n) w
 rwa [wN hn (fA v)]at h
open Go.RowKit Go.Lib Go.Sort
def dm(v:Bool)(n:Nat)(k:Int):List Value:=cH v n++[.int .i64 k]
theorem fH(v:Bool)(n:Nat)(k:Int):(dm v n k).length=18:=by simp[dm,bS]
theorem tf(v:Bool)(n:Nat)(k:Int)(j:Nat)(x:Value)(h:(cH v n)[j]?=some x):(dm v n k)[j]?=some x:=by
 unfold dm
 rw[List.getElem?_append_left (List.getElem?_eq_some_iff.1 h).1,h]
theorem gU(v:Bool)(n:Nat)(k:Int):(dm v n k)[17]?=some (.int .i64 k):=by
 unfold dm
 rw[List.getElem?_append_right (by rw[bS];omega),bS];rfl
theorem Oy(v:Bool)(n j:Nat)(x:Value)(h:(gZ (ah n))[j]?=some x):(cH v n)[1+j]?=some x:=by
 have hj:j < 16:=by
  have:=(List.getElem?_eq_some_iff.1 h).1
  rwa [kD]at this
 unfold cH
 rw[cB v _ j hj,←h];simp[gZ,hj]
theorem ya:(prog.info? 29).map (·.size)=some 18:=by kernel_rfl
theorem Jc(v:Bool)(n:Nat)(k:Int):(dm v n k).toArray.all (·.oneCell')=true:=by
 simp[dm,cH,aE,Value.oneCell']
structure TB(w:World)(g:Nat)(v:Bool)(n:Nat)(k:Int):Prop where
 whole:∀W,(∃p:Regrown,W=grow (redrawn w p.d) p.os)→W.rangeAt g 0 (dm v n k)
 cH:∀W,(∃p:Regrown,W=grow (redrawn w p.d) p.os)→W.rangeAt g 0 (cH v n)
 T9:∀W,(∃p:Regrown,W=grow (redrawn w p.d) p.os)→W.rangeAt g 1 (gZ (ah n))
theorem au.Gg{w:World}{g:Nat}{t:TypeId}{v:Bool}{n:Nat}{k:Int}(hb:au w g t (dm v n k)):TB w g v n k:=
 ⟨hb.ue,hb.n6 0 _ (fun j x hx=>by rw[Nat.zero_add];exact tf v n k j x hx),hb.n6 1 _ (fun j x hx=>tf v n k _ x (Oy v n j x hx))⟩
def dC(v:Bool)(n:Nat)(k:Int):Int:=if gh v n k then 0 else 151
theorem Bn(v:Bool)(n:Nat)(W:World):(Instr.field 24 (.agg (cH v n).toArray) 1).run prog W=.ok (.agg (gZ (ah n)).toArray) W:=Fg v _ W
theorem vF(v:Bool)(n:Nat)(W:World):(Instr.field 24 (.agg (cH v n).toArray) 0).run prog W=.ok (.bool v) W:=xF v _ W
attribute [local go_sem] E0 Bn vF
set_option maxHeartbeats 2000000 in
theorem tq(v:Bool)(n:Nat)(k:Int)(hn:n < 2^128)(w:World) :
  Calls prog 50 #[.agg (dm v n k).toArray] w fun e w'=>e=.returned (.int .i64 (dC v n k))∧ai [] w w':=by
 have HB:=hid (au.new w 29 (dm v n k).toArray)
 have HC:=hid ((ai.refl [] w).alloc (.cells (dm v n k).toArray 29))
 have HW:=hid (nI (LO v n))
 have hw128:=fA v
 by_cases h1:k < 0
 ·have fin:dC v n k=151:=by unfold dC gh;rw[decide_eq_false (by omega)];rfl
  have FIN:=hid fin
  clear fin
  go_enter func50,ntmps50
  go_wp2
  obtain⟨w1,hw1⟩:∃w1,w1=w.alloc (.cells (dm v n k).toArray 29):=⟨_,rfl⟩
  rw[←hw1]
  have B1:au w1 w.heap.size 29 (dm v n k):=by rw[hw1];exact HB.out
  have C1:ai [] w w1:=by rw[hw1];exact HC.out
  clear hw1 HB HC
  have ck:=cell_regrown (B1.cell_of (gU v n k))
  refine wp_region_quiet_below (by kernel_rfl) (by kernel_rfl) ?_
  repeat (first|go_big_quiet_step (fail)|quiet_step (fail))
  refine wpQuiet_nil ?_
  intro w3 hw3
  have C3:=fw hw3
  clear hw3 ck
  have HF:=hid (C1.trans C3)
  go_wp2
  rw[FIN.out]
  go_ret
  exact⟨rfl,HF.out⟩
 ·obtain⟨K,rfl⟩:∃K:Nat,k=(K:Int):=⟨k.toNat,by omega⟩
  have d1:decide ((K:Int) < 0)=false:=decide_eq_false (by omega)
  by_cases h2:(wid v:Int) < (K:Int)
  ·have d2:decide (wid v < K)=true:=decide_eq_true (by omega)
   have fin:dC v n K=151:=by unfold dC gh;rw[decide_eq_false (p:=(K:Int)≤(wid v:Int)) (by omega)];simp
   have FIN:=hid fin
   clear fin hw128
   go_enter func50,ntmps50
   go_wp2
   obtain⟨w1,hw1⟩:∃w1,w1=w.alloc (.cells (dm v n K).toArray 29):=⟨_,rfl⟩
   rw[←hw1]
   have B1:au w1 w.heap.size 29 (dm v n K):=by rw[hw1];exact HB.out
   have C1:ai [] w w1:=by rw[hw1];exact HC.out
   clear hw1 HB HC
   have ck:=cell_regrown (B1.cell_of (gU v n K))
   have R:=B1.Gg
   refine wp_region_quiet_below (by kernel_rfl) (by kernel_rfl) ?_
   repeat (first | (go_big_quiet_want;refine gD 24 _ rfl w.heap.size 0 rfl (cH v n) _ R.cH underlying24 rfl (fh.trans (by rw[bS])) ?_;go_big_quiet_on)|go_big_quiet_step ((go_at_call 107;with_reducible exact HW.out _ _ _))|quiet_step ((go_at_call 107;with_reducible exact HW.out _ _ _)))
   refine wpQuiet_nil ?_
   intro w3 hw3
   have C3:=fw hw3
   clear hw3 ck R
   have HF:=hid (C1.trans C3)
   go_wp2
   rw[FIN.out]
   go_ret
   exact⟨rfl,HF.out⟩
  ·have d2:decide (wid v < K)=false:=decide_eq_false (by omega)
   obtain⟨b,hb⟩:∃b,b=decide (cS n K=n):=⟨_,rfl⟩
   have fin:dC v n K=if b then 0 else 151:=by unfold dC gh;rw[decide_eq_true (p:=(K:Int)≤(wid v:Int)) (by omega),hb];simp
   have FIN:=hid fin
   have HM:=hid (nI (JA v n K (by omega)))
   have hE:=Sf (ah (cS n K)) (ah n) (a7 _) (a7 _)
   rw[oY (Nat.lt_of_le_of_lt (uQ n K) hn) hn,←hb]at hE
   clear hb
   clear fin hw128
   go_enter func50,ntmps50
   go_wp2
   obtain⟨w1,hw1⟩:∃w1,w1=w.alloc (.cells (dm v n K).toArray 29):=⟨_,rfl⟩
   rw[←hw1]
   have B1:au w1 w.heap.size 29 (dm v n K):=by rw[hw1];exact HB.out
   have C1:ai [] w w1:=by rw[hw1];exact HC.out
   clear hw1 HB HC
   have ck:=cell_regrown (B1.cell_of (gU v n K))
   have R:=B1.Gg
   refine wp_region_quiet_below (by kernel_rfl) (by kernel_rfl) ?_
   repeat (first | (go_big_quiet_want;refine gD 24 _ rfl w.heap.size 0 rfl (cH v n) _ R.cH underlying24 rfl (fh.trans (by rw[bS])) ?_;go_big_quiet_on) | (go_big_quiet_want;refine gD 22 _ rfl w.heap.size 1 rfl (gZ (ah n)) _ R.T9 underlying22 rfl (It.trans (by rw[kD])) ?_;go_big_quiet_on)|go_big_quiet_step ((first | (go_at_call 107;with_reducible exact HW.out _ _ _) | (go_at_call 108;with_reducible exact HM.out _ _ _)))|quiet_step ((first | (go_at_call 107;with_reducible exact HW.out _ _ _) | (go_at_call 108;with_reducible exact HM.out _ _ _))))
   refine wpQuiet_nil ?_
   intro w3 hw3
   have C3:=fw hw3
   clear hw3 ck R
   have HF:=hid (C1.trans C3)
   cases b
   ·go_wp2
    rw[FIN.out]
    go_ret
    exact⟨rfl,HF.out⟩
   ·go_wp2
    rw[FIN.out]
    go_ret
    exact⟨rfl,HF.out⟩
open Go.RowKit Go.Lib Go.Sort
theorem Qe{ops:Array Oper}{rest:List Oper}{o:Oper}{a:Act}{w:World}{Q:Exit→Act→World→Prop}(hgd:o.guard=none)(x:Operand)(ho:o.op=.load 29 x)
  (g:Nat) (hx:a.eval x=.pointer (some ⟨g,0,none⟩)) (t:TypeId) (v:Bool) (n:Nat) (k:Int) (hb:au w g t (dm v n k))
  (h:wpList prog ops Q rest (a.put o.dst (.agg (dm v n k).toArray)) w):wpList prog ops Q (o::rest) a w:=
 wpList_load_row hgd 29 x ho g hx t _ (0,0) _ hb underlying29 rfl (ya.trans (by simp[fH])) h
theorem FK{ops:Array Oper}{rest:List Oper}{o:Oper}{a:Act}{w:World}{Q:Exit→Act→World→Prop}(hgd:o.guard=none)(x y:Operand)(ho:o.op=.store 29 x y)
  (g:Nat) (v:Bool) (n:Nat) (k:Int) (hx:a.eval x=.pointer (some ⟨g,0,none⟩)) (hy:a.eval y=.agg (dm v n k).toArray) (t:TypeId) (old:List Value) (hb:au w g t old) (hl:old.length=18)
  (h:wpList prog ops Q rest (a.put o.dst undef) (w.setRow g (dm v n k).toArray)):wpList prog ops Q (o::rest) a w:=
 wpList_store_row hgd 29 x y ho g _ hx hy t old.toArray hb (ya.trans (by simp[fH])) (by simp[fH,hl]) (Jc v n k) h
theorem iY{ops:Array Oper}{rest:List Oper}{o:Oper}{a:Act}{w:World}{Q:Exit→Act→World→Prop}(hgd:o.guard=none)(x:Operand)(ho:o.op=.load 24 x)
  (g:Nat) (hx:a.eval x=.pointer (some ⟨g,0,none⟩)) (t:TypeId) (v:Bool) (n:Nat) (hb:au w g t (cH v n))
  (h:wpList prog ops Q rest (a.put o.dst (.agg (cH v n).toArray)) w):wpList prog ops Q (o::rest) a w:=wA hgd x ho g hx t v (ah n) hb h
def je:Array Value:=#[.bool false,.int .u8 0,.int .u8 0,.int .u8 0,.int .u8 0,.int .u8 0,.int .u8 0,.int .u8 0,.int .u8 0,.int .u8 0,.int .u8 0,.int .u8 0,.int .u8 0,.int .u8 0,.int .u8 0,.int .u8 0,.int .u8 0,.int .i64 0]
theorem LL:je=(dm false 0 0).toArray:=by kernel_rfl
theorem Ir{ops:Array Oper}{rest:List Oper}{o:Oper}{a:Act}{w:World}{Q:Exit→Act→World→Prop}(hgd:o.guard=none)(x y:Operand)(ho:o.op=.store 29 x y)
  (g:Nat) (hx:a.eval x=.pointer (some ⟨g,0,none⟩)) (hy:a.eval y=.agg je) (t:TypeId) (old:List Value) (hb:au w g t old) (hl:old.length=18)
  (h:wpList prog ops Q rest (a.put o.dst undef) (w.setRow g (dm false 0 0).toArray)):wpList prog ops Q (o::rest) a w:=
 FK hgd x y ho g false 0 0 hx (by rw[hy,LL]) t old hb hl h
theorem Eo{fn:Func}{p q:Tmp}(h:fn.results=#[.cell p 29,.tmp q])(tmps:Array Value)(w:World)(g:Nat)(v:Bool)(n:Nat)(k:Int)(t:TypeId)(u:Value)
  (hp:tmps.getD p undef=.pointer (some ⟨g,0,none⟩)) (hq:tmps.getD q undef=u) (hb:au w g t (dm v n k)):(results fn tmps).run prog w=.ok (.tuple #[.agg (dm v n k).toArray,u]) w:=by
 have hp':tmps[p]?.getD undef=.pointer (some ⟨g,0,none⟩):=by simpa using hp
 have hq':tmps[q]?.getD undef=u:=by simpa using hq
 simp[results,h,hp',hq',asAddr,run_loadVar_row w g t 29 _ (0,0) _ hb underlying29 rfl (ya.trans (by simp[fH]))]
theorem Oh(v:Bool)(n:Nat)(k:Int):prog.built 29 [(0,.agg (cH v n).toArray),(1,.int .i64 k)]=some (dm v n k).toArray:=by kernel_rfl
theorem Oo{ops:Array Oper}{rest:List Oper}{o:Oper}{a:Act}{w:World}{Q:Exit→Act→World→Prop}(hg:o.guard=none)(x y:Operand)(ho:o.op=.build 29 #[(0,x),(1,y)])(v:Bool)(n:Nat)(k:Int)
  (hx:a.eval x=.agg (cH v n).toArray) (hy:a.eval y=.int .i64 k) (h:wpList prog ops Q rest (a.put o.dst (.agg (dm v n k).toArray)) w):wpList prog ops Q (o::rest) a w:=by
 have e:prog.built 29 ((#[(0,x),(1,y)]:Array (Nat×Operand)).map fun(i,z)=>(i,a.eval z)).toList=some (dm v n k).toArray:=by
  simp only[List.map_toArray,List.map_cons,List.map_nil,hx,hy]
  exact Oh v n k
 refine wpList_build hg 29 _ ho (by rw[e];rfl) ?_
 rw[e]
 exact h
open Go.RowKit Go.Lib Go.Sort
def Lw(w:World)(g o n:Nat):Prop:=∀j,j < 16→w.cell? ⟨g,o+j,none⟩=some (.int .u8 (ah n j:Int))
theorem Lw.aG{w w':World}{g o n:Nat}(h:Lw w g o n)(hc:ai [] w w'):Lw w' g o n:=fun j hj=>by
 have hl:=block_lt_of_cell (h j hj)
 rw[hc.cell hl (by simp)];exact h j hj
open Go.RowKit Go.Lib Go.Sort
open Go.RowKit Go.Lib Go.Sort
theorem OY{ops:Array Oper}{rest:List Oper}{o:Oper}{a:Act}{w:World}{Q:Exit→Act→World→Prop}(hgd:Region.wanted o (yielded ops a.tmps)=true)(x:Operand)(ho:o.op=.load 29 x)
  (g:Nat) (hx:a.eval x=.pointer (some ⟨g,0,none⟩)) (t:TypeId) (v:Bool) (n:Nat) (k:Int) (hb:au w g t (dm v n k))
  (h:wpList prog ops Q rest (a.put o.dst (.agg (dm v n k).toArray)) w):wpList prog ops Q (o::rest) a w:=by
 unfold wpList
 rw[if_pos hgd]
 exact .inl (wp_load_row 29 x ho g hx t _ (0,0) _ hb underlying29 rfl (ya.trans (by simp[fH])) h)
theorem R5{ops:Array Oper}{rest:List Oper}{o:Oper}{a:Act}{w:World}{Q:Exit→Act→World→Prop}(hgd:Region.wanted o (yielded ops a.tmps)=true)(x:Operand)(ho:o.op=.load 24 x)
  (g:Nat) (hx:a.eval x=.pointer (some ⟨g,0,none⟩)) (t:TypeId) (v:Bool) (n:Nat) (k:Int) (hb:au w g t (dm v n k))
  (h:wpList prog ops Q rest (a.put o.dst (.agg (cH v n).toArray)) w):wpList prog ops Q (o::rest) a w:=by
 unfold wpList
 rw[if_pos hgd]
 exact .inl (wp_load_mid 24 x ho g 0 hx (cH v n) _ (fun j y hy=>hb.cell_of (by rw[Nat.zero_add];exact tf v n k j y hy)) underlying24 rfl (fh.trans (by rw[bS])) h)
theorem R4{ops:Array Oper}{rest:List Oper}{o:Oper}{a:Act}{w:World}{Q:Exit→Act→World→Prop}(hgd:o.guard=none)(x:Operand)(ho:o.op=.load 24 x)
  (g:Nat) (hx:a.eval x=.pointer (some ⟨g,0,none⟩)) (t:TypeId) (v:Bool) (n:Nat) (k:Int) (hb:au w g t (dm v n k))
  (h:wpList prog ops Q rest (a.put o.dst (.agg (cH v n).toArray)) w):wpList prog ops Q (o::rest) a w:=
 R5 (by unfold Region.wanted;rw[hgd]) x ho g hx t v n k hb h
open Go.RowKit Go.Lib Go.Sort
open Go.RowKit Go.Lib Go.Sort
def Di(v:Bool)(n:Nat):List Lit:=.bool v::He (ah n)
def Nt(v:Bool)(n:Nat)(k:Int):List Lit:=Di v n++[.int .i64 k]
theorem Nu(v v':Bool)(n m:Nat)(hn:n < 2^128)(hm:m < 2^128):Di v n=Di v' m↔v=v'∧n=m:=by
 unfold Di
 rw[List.cons.injEq,Fx,oY hn hm,decide_eq_true_eq]
 constructor
 ·rintro⟨h1,h2⟩
  injection h1 with h1
  exact⟨h1,h2⟩
 ·rintro⟨rfl,rfl⟩
  exact⟨rfl,rfl⟩
theorem AG(v:Bool)(n:Nat):(Di v n).length=17:=by simp[Di,He]
theorem Ns(v v':Bool)(n m:Nat)(k j:Int)(hn:n < 2^128)(hm:m < 2^128):Nt v n k=Nt v' m j↔v=v'∧n=m∧k=j:=by
 unfold Nt
 constructor
 ·intro h
  obtain⟨h1,h2⟩:=List.append_inj h (by rw[AG,AG])
  obtain⟨h3,h4⟩:=(Nu v v' n m hn hm).1 h1
  injection h2 with h2
  injection h2 with _ h2
  exact⟨h3,h4,h2⟩
 ·rintro⟨rfl,rfl,rfl⟩
  rfl
theorem Fs:prog.cellsOf 24=17:=by kernel_rfl
theorem zd:prog.cellsOf 29=18:=by kernel_rfl
theorem Qy:prog.cellsOf 4=1:=by kernel_rfl
theorem Qz:prog.cellsOf 3=1:=by kernel_rfl
theorem Ti(d:Nat)(v:Bool):prog.keyLits (d+1) 4 [.bool v]=some [.bool v]:=by
 simp[Program.keyLits,underlying4]
theorem Tj(d:Nat)(k:Int)(h0 : -9223372036854775808≤k)(h1:k≤9223372036854775807):prog.keyLits (d+1) 3 [.int .i64 k]=some [.int .i64 k]:=by
 have hw:(Lit.int .i64 k).wf=true:=by simp[Lit.wf,IntKind.min,IntKind.max,IntKind.signed,IntKind.bits];omega
 simp[Program.keyLits,underlying3,hw]
theorem Lh(v:Bool)(n:Nat):((cH v n).drop 1).take 16=gZ (ah n):=by
 unfold cH aE gZ
 rw[List.drop_one,List.tail_cons,List.take_of_length_le (by simp)]
theorem Qa(d:Nat)(v:Bool)(n:Nat):prog.keyLits (d+3) 24 (cH v n)=some (Di v n):=by
 have h1:=Ti (d+1) v
 have h2:=Dh d (ah n) (a7 n)
 have h3:=Lh v n
 have h4:((cH v n).drop 0).take 1=[.bool v]:=rfl
 unfold Program.keyLits
 rw[underlying24]
 simp only
 rw[if_pos ⟨by rw[Fs,bS],by simp⟩]
 simp only[List.mapM_cons,List.mapM_nil,Qy,tr,h3,h4,h1,h2]
 rfl
theorem JI(d:Nat)(v:Bool)(n:Nat)(k:Int)(h0 : -9223372036854775808≤k)(h1:k≤9223372036854775807):prog.keyLits (d+4) 29 (dm v n k)=some (Nt v n k):=by
 have e1:=Qa d v n
 have e2:=Tj (d+2) k h0 h1
 have e3:((dm v n k).drop 0).take 17=cH v n:=by
  unfold dm;rw[List.drop_zero,List.take_left' (bS v n)]
 have e4:((dm v n k).drop 17).take 1=[.int .i64 k]:=by
  unfold dm;rw[List.drop_left' (bS v n)];rfl
 unfold Program.keyLits
 rw[underlying29]
 simp only
 rw[if_pos ⟨by rw[zd,fH],by simp⟩]
 simp only[List.mapM_cons,List.mapM_nil,Fs,Qz,e1,e2,e3,e4]
 rfl
theorem Tq(v v':Bool)(n m:Nat)(k j:Int)(hn:n < 2^128)(hm:m < 2^128)(hk : -9223372036854775808≤k∧k≤9223372036854775807)(hj : -9223372036854775808≤j∧j≤9223372036854775807)(W:World):(Op.equalIn 10000 29 (.agg (dm v n k).toArray) (.agg (dm v' m j).toArray)).run prog W=.ok (decide (v=v'∧n=m∧k=j)) W:=by
 obtain⟨r,h1,h2⟩:=run_equalIn_deep (P:=prog) 9995 5 29 (by kernel_rfl) W 5 5 (.agg (dm v n k).toArray) (.agg (dm v' m j).toArray) _ _ (by simp[Value.formed,underlying29,zd,fH]) (by simp[Value.formed,underlying29,zd,fH]) (JI 1 v n k hk.1 hk.2) (JI 1 v' m j hj.1 hj.2)
 simp only[Nat.reduceAdd]at h1
 rw[Ns v v' n m k j hn hm]at h2
 have e:r=decide (v=v'∧n=m∧k=j):=by
  rw[Bool.eq_iff_iff,h2,decide_eq_true_eq]
 rw[h1,e]
theorem NL(op:BinOp)(x y:Operand)(a b:Array Value)(W:World):(eqGuard op 29 x y (.agg a) (.agg b)).run prog W=.ok () W:=by cases op<;>kernel_rfl
end Go.Proofs.YtnncigmpcdehnaaGreatDoor
