import Derived.Test.YtnncigmpcdehnaaGreatDoorQf05
namespace Go.Proofs.YtnncigmpcdehnaaGreatDoor
set_option maxRecDepth 100000
open Go.RowKit Go.Lib Go.Sort _root_.Go.Proofs.Tryz
set_option maxRecDepth 100000
theorem Tryz.O0:(prog.info? 9).map (fun i=>(i.zero,i.size,i.bytes))=some (some (.string ⟨#[]⟩),1,16):=by kernel_rfl
def strs(xs:List (List UInt8)):List Value:=xs.map fun l=>.string ⟨l.toArray⟩
theorem Ed{xs:List (List UInt8)}{j:Nat}{x:ByteArray}(h:(xs.map fun l=>(⟨l.toArray⟩:ByteArray))[j]?=some x):(strs xs)[j]?=some (.string x):=by
 rw[List.getElem?_map]at h
 unfold strs
 rw[List.getElem?_map]
 cases hx:xs[j]? with
 |none=>rw[hx]at h;cases h
 |some y=>rw[hx]at h;injection h with h;rw[←h];rfl
theorem qG(xs:List (List UInt8)):(xs.map fun l=>(⟨l.toArray⟩:ByteArray)).map (·.data.toList)=xs:=by
 rw[List.map_map]
 conv=>rhs;rw[←List.map_id xs]
 rfl
theorem AZ{w0 w:World}{A:Option Go.Addr}{n c:Nat}{xs:List (List UInt8)}(h:Acc w0 w 9 1 (.slice A n c) n (strs xs))(sep:UInt8)(hN:n≤140737488355328)(hlen:(ao sep xs).length≤140737488355328) :
  Calls prog 87 #[.slice A n c,.string ⟨#[sep]⟩] w (Rn w (.string ⟨(ao sep xs).toArray⟩)):=by
 have hl:xs.length=n:=by have:=h.own.len;simpa[strs]using this
 by_cases h0:n=0
 ·subst h0
  have:xs=[]:=List.eq_nil_of_length_eq_zero hl
  subst this
  exact(Tryz.strings_Join_none A c ⟨#[sep]⟩ w).mono fun e w' ⟨h1,h2⟩=>⟨h1,by rw[h2];exact ai.refl _ _⟩
 ·obtain⟨g,o,c',hv,hnc,_,hg⟩:=h.own.some_ (by omega)
  injection hv with hA _ hc
  subst hA hc
  have hj:=Tryz.strings_Join g o c (xs.map fun l=>(⟨l.toArray⟩:ByteArray)) ⟨#[sep]⟩ w (fun j x hx=>by
   have:=h.own.jX j _ (Ed hx)
   rwa [Lib.add_plain]at this) hg (by simpa[hl]using hN) (by simpa[hl]using hnc) (by rw[qG,show(⟨#[sep]⟩:ByteArray).data.toList=[sep]from rfl,nD];exact hlen)
  rw[qG,show(⟨#[sep]⟩:ByteArray).data.toList=[sep]from rfl,nD,List.length_map,hl]at hj
  exact hj.mono fun e w' ⟨h1,h2⟩=>⟨h1,ai.dO h2⟩
theorem jB(c:UInt8)(M:Nat):∀xs:List (List UInt8),(∀x∈xs,x.length≤M)→(ao c xs).length≤xs.length*(M+1)
 | [],_=>by simp[ao]
 | [x],h=>by have:=h x (by simp);simp[ao];omega
 |x::y::r,h=>by
  have h1:=h x (by simp)
  have h2:=jB c M (y::r) (fun z hz=>h z (by simp at hz ⊢;exact .inr hz))
  rw[ao,List.length_append,List.length_cons,List.length_cons,Nat.succ_mul]
  omega
set_option maxHeartbeats 4000000 in
theorem AW(l:List Nat)(hl:∀u∈l,u < 65536)(g o c:Nat)(hn:l.length≤8)(w:World)(HL:eb w)(hA:∀j u,l[j]?=some u→w.cell? ⟨g,o+j,none⟩=some (.int .u16 (u:Nat)))(hg:g < w.heap.size) :
  Calls prog 112 #[.slice (some ⟨g,o,none⟩) l.length c] w fun e w'=>e=.returned (.string ⟨(aR l).toArray⟩)∧ai [] w w':=by
 obtain⟨i0,hi,hz0,hz1,hz2⟩:=info_parts Tryz.O0
 have HLL:=hid HL
 clear HL
 have HU:=hid hl
 clear hl
 have HA:=hid hA
 clear hA
 have HIN:=hid (Sx.t2 hi hz0 (And.intro hz1 hz2))
 clear hi hz0 hz1 hz2
 obtain⟨n,hln⟩:∃n,n=l.length:=⟨_,rfl⟩
 rw[←hln]at hn ⊢
 have HLN:=hid hln
 clear hln
 go_enter func112,ntmps112
 go_wp2
 go_loopw [3,8] (fun sv iv wr=>∃(k:Nat) (Av:Option Go.Addr) (cv:Nat),k≤n∧iv=.int .i64 k∧sv=.slice Av k cv∧Acc w wr 9 1 (.slice Av k cv) k (strs ((l.take k).map (aj 16)))) (fun _ iv _=>n - (RowKit.intOf iv).toNat)
 case atStart=>exact⟨0,none,0,Nat.zero_le _,rfl,rfl,Acc.nil w 9 1 (ai.refl _ _)⟩
 case round=>
  obtain⟨k,Av,cv,hk,rfl,rfl,hAc⟩:=hrel
  by_cases hlt:k < n
  ·have hkl:k < l.length:=by rw[←HLN.out];exact hlt
   obtain⟨u,hu⟩:∃u,l[k]?=some u:=⟨_,List.getElem?_eq_getElem hkl⟩
   have hu16:=HU.out u (List.mem_of_getElem? hu)
   have cu:=(hAc.aG.cell (p:=⟨g,o+k,none⟩) hg (by simp)).trans (HA.out k u hu)
   have HF:=hid (Sc 16 u (.inr rfl) hu16 wr (HLL.out.df hAc.aG))
   have HS:=hid (show strs ((l.take (k+1)).map (aj 16))=strs ((l.take k).map (aj 16))++[.string ⟨(aj 16 u).toArray⟩] by
    rw[List.take_add_one,hu];simp[strs])
   have HAc:=hid hAc
   clear hu hAc
   have hu0:(0:Int)≤(u:Int):=by omega
   go_wp2_with (first | (go_at_call 73;refine HF.out.mono ?_;rintro e w2 ⟨rfl,C2⟩) | ((with_reducible refine fS ?_);(refine dY _ rfl (.tmp 12) (.tmp 16) 70 rfl 9 i0 _ 1 16 underlying70 HIN.out.1 HIN.out.2.1 HIN.out.2.2.1 HIN.out.2.2.2 rfl (by omega) (.slice Av k cv) k (strs ((l.take k).map (aj 16))) rfl ((HAc.out.later C2).alloc _).own ⟨w2.heap.size,0,none⟩ 1 1 [.string ⟨(aj 16 u).toArray⟩] rfl rfl (by simpa using (au.new w2 9 #[.string ⟨(aj 16 u).toArray⟩]).B8) (by simp[Value.oneCell']) (by unfold maxLen;omega) (by omega) ?_);intro A' c' w3 hO3 hC3 hb3))
   go_roundw
   case measure=>simp[RowKit.intOf];omega
   case rel=>
    refine⟨k+1,A',c',by omega,by go_num,rfl,?_⟩
    rw[HS.out]
    exact Acc.append ((HAc.out.later C2).alloc _) hO3 hC3 hb3
  ·have hkn:k=n:=by omega
   subst hkn
   have HT:=hid (show l.take k=l from List.take_of_length_le (by rw[←HLN.out];exact Nat.le_refl _))
   rw[HT.out]at hAc
   have HJ:=hid (AZ hAc 58 (by omega) (by
    have:=jB 58 4 (l.map (aj 16)) (fun x hx=>by
     rw[List.mem_map]at hx
     obtain⟨u,hu,rfl⟩:=hx
     exact gI (HU.out u hu))
    rw[List.length_map,←HLN.out]at this
    omega))
   have HCC:=hid hAc.aG
   clear hAc
   go_wp2_with (go_at_call 87;refine HJ.out.mono ?_;rintro e w4 ⟨rfl,C4⟩)
   go_ret
   exact⟨rfl,HCC.out.trans C4⟩
open Go.RowKit Go.Lib Go.Sort
theorem D6(w:World):Calls prog 160 #[] w fun e w'=>e=.returned (.int .i64 2)∧w'=w:=by
 go_enter func160,ntmps160
 go_wp2
 go_loopw [1,2] (fun nv tv wr=>wr=w∧((nv=.int .i64 0∧tv=.int .u64 65535)∨(nv=.int .i64 1∧tv=.int .u64 255)∨(nv=.int .i64 2∧tv=.int .u64 0))) (fun _ tv _=>(RowKit.intOf tv).toNat)
 case atStart=>exact⟨rfl,.inl ⟨rfl,rfl⟩⟩
 case round=>
  obtain⟨rfl,⟨rfl,rfl⟩ | ⟨rfl,rfl⟩ | ⟨rfl,rfl⟩⟩:=hrel
  ·go_wp2
   go_roundw
   case measure=>decide
   case rel=>exact⟨by first|trivial|rfl,.inr (.inl ⟨rfl,rfl⟩)⟩
  ·go_wp2
   go_roundw
   case measure=>decide
   case rel=>exact⟨by first|trivial|rfl,.inr (.inr ⟨rfl,rfl⟩)⟩
  ·go_wp2
   go_ret
   exact⟨rfl,rfl⟩
theorem yu(v x:Nat)(hv:v < 65536)(hx:x < 256):bits .or .u64 ((v:Int)*256) (x:Int)=((v*256+x:Nat):Int):=by
 have h:=u64_or_nat (v*256) x (by omega) (by omega)
 rw[nat_join 8 (v*256) x (by omega) (by omega)]at h
 have e:((v*256:Nat):Int)=(v:Int)*256:=by omega
 rwa [e]at h
set_option maxHeartbeats 4000000 in
theorem Py(g o c:Nat)(i:Nat)(hi:i < 8)(n:Nat)(w:World)(hb:∀j,j < 16→w.cell? ⟨g,o+j,none⟩=some (.int .u8 (ah n j:Nat)))(hc:16≤c) :
  Calls prog 165 #[.slice (some ⟨g,o,none⟩) 16 c,.int .i64 (2*i:Nat)] w fun e w'=>e=.returned (.tuple #[.int .u16 (eu n i:Nat),.int .i64 0])∧w'=w:=by
 have h1:=hb (2*i) (by omega)
 have h2:=hb (2*i+1) (by omega)
 have l1:=a7 n (2*i)
 have l2:=a7 n (2*i+1)
 obtain⟨x,hx⟩:∃x,x=ah n (2*i):=⟨_,rfl⟩
 obtain⟨y,hy⟩:∃y,y=ah n (2*i+1):=⟨_,rfl⟩
 have HG:=hid (show eu n i=x*256+y by rw[hx,hy];rfl)
 rw[←hx]at h1 l1
 rw[←hy]at h2 l2
 rw[HG.out]
 obtain⟨k,hk⟩:∃k,k=2*i:=⟨_,rfl⟩
 rw[←hk]at h1 h2 ⊢
 have hk16:k+2≤16:=by omega
 clear hx hy hk hb hi HG i n
 rw[show o+(k+1)=o+k+1 by omega]at h2
 have o1:bits .or .u64 0 (x:Int)=(x:Int):=by have:=yu 0 x (by omega) l1;simpa using this
 have o0:=yu 0 x (by omega) l1
 have o2:=yu x y (by omega) l2
 go_enter func165,ntmps165
 go_wp2_with (go_at_call 160;refine(D6 _).mono ?_;rintro e w2 ⟨rfl,rfl⟩)
 go_loopw [7,28] (fun vv jv wr=>wr=w2∧((vv=.int .u64 0∧jv=.int .i64 0)∨(vv=.int .u64 x∧jv=.int .i64 1)∨(vv=.int .u64 ((x*256+y:Nat):Int)∧jv=.int .i64 2))) (fun _ jv _=>2 - (RowKit.intOf jv).toNat)
 case atStart=>exact⟨rfl,.inl ⟨rfl,rfl⟩⟩
 case round=>
  obtain⟨rfl,⟨rfl,rfl⟩ | ⟨rfl,rfl⟩ | ⟨rfl,rfl⟩⟩:=hrel
  ·go_wp2
   go_roundw
   case measure=>decide
   case rel=>exact⟨by first|trivial|rfl,.inr (.inl ⟨rfl,rfl⟩)⟩
  ·go_wp2
   go_roundw
   case measure=>decide
   case rel=>exact⟨by first|trivial|rfl,.inr (.inr ⟨rfl,rfl⟩)⟩
  ·have hs:x*256+y < 65536:=by omega
   go_wp2
   go_ret2
   exact⟨rfl,rfl⟩
def z87:Array Value:=#[.int .u16 0,.int .u16 0,.int .u16 0,.int .u16 0,.int .u16 0,.int .u16 0,.int .u16 0,.int .u16 0]
def g16(f:Nat→Nat):List Value:=(List.range 8).map fun j=>.int .u16 (f j:Nat)
theorem fM(f:Nat→Nat):(g16 f).length=8:=by simp[g16]
theorem vq(f:Nat→Nat)(j:Nat)(hj:j < 8):(g16 f)[j]?=some (.int .u16 (f j:Nat)):=by simp[g16,hj]
theorem J9(f:Nat→Nat):(g16 f).toArray.all (·.oneCell')=true:=by simp[g16,Value.oneCell']
theorem Cz:(prog.info? 172).map (·.size)=some 8:=by kernel_rfl
def yA(n i j:Nat):Nat:=if j < i then eu n j else 0
theorem NS{f g:Nat→Nat}(h:∀j,j < 8→f j=g j):g16 f=g16 g:=List.map_congr_left fun j hj=>by rw[h j (by simpa using hj)]
theorem NR(n i:Nat)(hi:i < 8):(g16 (yA n i)).set i (.int .u16 (eu n i:Nat))=g16 (yA n (i+1)):=by
 apply List.ext_getElem?
 intro j
 rw[List.getElem?_set,fM]
 by_cases hj:j < 8
 ·rw[vq _ j hj,vq _ j hj]
  unfold yA
  by_cases h:i=j
  ·subst h;rw[if_pos rfl,if_pos hi,if_pos (by omega)]
  ·rw[if_neg h]
   by_cases h2:j < i
   ·rw[if_pos h2,if_pos (by omega)]
   ·rw[if_neg h2,if_neg (by omega)]
 ·rw[List.getElem?_eq_none (by rw[fM];omega),List.getElem?_eq_none (by rw[fM];omega)]
  split<;>simp_all
theorem Qd{ops:Array Oper}{rest:List Oper}{o:Oper}{a:Act}{w:World}{Q:Exit→Act→World→Prop}(hgd:o.guard=none)(x:Operand)(ho:o.op=.load 172 x)
  (g:Nat) (hx:a.eval x=.pointer (some ⟨g,0,none⟩)) (t:TypeId) (f:Nat→Nat) (hb:au w g t (g16 f))
  (h:wpList prog ops Q rest (a.put o.dst (.agg (g16 f).toArray)) w):wpList prog ops Q (o::rest) a w:=
 wpList_load_row hgd 172 x ho g hx t _ (0,0) _ hb underlying172 rfl (Cz.trans (by simp[fM])) h
theorem Pz{ops:Array Oper}{rest:List Oper}{o:Oper}{a:Act}{w:World}{Q:Exit→Act→World→Prop}(hgd:o.guard=none)(x y:Operand)(ho:o.op=.store 172 x y)
  (g:Nat) (f:Nat→Nat) (hx:a.eval x=.pointer (some ⟨g,0,none⟩)) (hy:a.eval y=.agg (g16 f).toArray) (t:TypeId) (old:List Value) (hb:au w g t old) (hl:old.length=8)
  (h:wpList prog ops Q rest (a.put o.dst undef) (w.setRow g (g16 f).toArray)):wpList prog ops Q (o::rest) a w:=
 wpList_store_row hgd 172 x y ho g _ hx hy t old.toArray hb (Cz.trans (by simp[fM])) (by simp[fM,hl]) (J9 f) h
theorem S0{fn:Func}{p:Tmp}(h:fn.results=#[.cell p 172])(tmps:Array Value)(w:World)(g:Nat)(f:Nat→Nat)(t:TypeId)
  (hp:tmps.getD p undef=.pointer (some ⟨g,0,none⟩)) (hb:au w g t (g16 f)):(results fn tmps).run prog w=.ok (.agg (g16 f).toArray) w:=
 results_cell_row h tmps w g t _ (0,0) _ hp hb underlying172 rfl (Cz.trans (by simp[fM]))
theorem au.KS{w:World}{g:Nat}{t:TypeId}{v:Bool}{n:Nat}(hb:au w g t (cH v n)):∀j,j < 16→w.cell? ⟨g,1+j,none⟩=some (.int .u8 (ah n j:Nat)):=fun j hj=>hb.cell_of (cB v _ j hj)
set_option maxHeartbeats 4000000 in
theorem J4(v:Bool)(n:Nat)(w:World):Calls prog 110 #[.agg (cH v n).toArray] w fun e w'=>e=.returned (.agg (g16 (eu n)).toArray)∧ai [] w w':=by
 have HA:=hid (show au (((w.alloc (.cells (cH v n).toArray 24)).alloc (.cells z87 172)).alloc (.cells z87 172)) w.heap.size 24 (cH v n)from((au.new w 24 (cH v n).toArray).alloc _).alloc _)
 have HR:=hid (show au (((w.alloc (.cells (cH v n).toArray 24)).alloc (.cells z87 172)).alloc (.cells z87 172)) (w.heap.size+1) 172 (g16 (yA n 0))from(au.fJ (w.alloc (.cells (cH v n).toArray 24)) 172 z87 (by simp)).alloc _)
 have HO:=hid (show au (((w.alloc (.cells (cH v n).toArray 24)).alloc (.cells z87 172)).alloc (.cells z87 172)) (w.heap.size+2) 172 (g16 (yA n 0))from au.fJ _ 172 z87 (by simp))
 have HC:=hid ((((ai.refl [] w).alloc (.cells (cH v n).toArray 24)).alloc (.cells z87 172)).alloc (.cells z87 172))
 go_enter func110,ntmps110
 go_wp2
 go_loopw [5] (fun iv wr=>∃i:Nat,i≤8∧iv=.int .i64 i∧au wr w.heap.size 24 (cH v n)∧au wr (w.heap.size+1) 172 (g16 (yA n 0))∧au wr (w.heap.size+2) 172 (g16 (yA n i))∧ai [] w wr) (fun iv _=>8 - (RowKit.intOf iv).toNat)
 case atStart=>exact⟨0,by omega,rfl,HA.out,HR.out,HO.out,HC.out⟩
 case round=>
  obtain⟨i,hi,rfl,hA,hR,hO,hC⟩:=hrel
  by_cases hlt:i < 8
  ·have co:=hO.cell_of (vq _ i hlt)
   have fo:=hO.frozen i
   have HT:=hid (Py w.heap.size 1 16 i hlt n wr hA.KS (by omega))
   obtain⟨k,hk⟩:∃k:Nat,k=2*i:=⟨_,rfl⟩
   rw[←hk]at HT
   have e2:(2:Int)*(i:Int)=(k:Int):=by omega
   have k14:k≤14:=by omega
   clear hk
   have HS:=hid (NR n i hlt)
   have HA:=hid hA
   have HR:=hid hR
   have HO:=hid hO
   have HC:=hid hC
   clear hA hR hO hC
   go_wp2_with (go_at_call 165;refine HT.out.mono ?_;rintro e w2 ⟨rfl,rfl⟩)
   go_roundw
   case measure=>simp[RowKit.intOf];omega
   case rel=>
    refine⟨i+1,by omega,by go_num,HA.out.LK (by show w.heap.size≠w.heap.size+1+1;omega) _,HR.out.LK (by show w.heap.size+1≠w.heap.size+1+1;omega) _,?_,HC.out.Mn (by omega) _ _⟩
    rw[←HS.out]
    exact HO.out.pU i _
  ·have hi8:i=8:=by omega
   subst hi8
   go_wp2_with (first | (refine Qd rfl _ rfl (w.heap.size+2) rfl 172 _ hO ?_) | (refine Pz rfl _ _ rfl (w.heap.size+1) _ rfl rfl 172 _ hR (fM _) ?_))
   refine bodyPost_ret (S0 rfl _ _ (w.heap.size+1) (eu n) 172 rfl ?_) rfl ⟨rfl,hC.setRow (.inr (by omega)) _⟩
   have hs:=hR.row (g16 (yA n 8))
   rwa [NS (f:=yA n 8) (g:=eu n) (fun j hj=>if_pos hj)]at hs
theorem Q3(n k:Nat)(hk:k < 8):(zs (aL n))[k]?=some (eu n k==0):=by
 match k,hk with
 | 0,_=>rfl
 | 1,_=>rfl
 | 2,_=>rfl
 | 3,_=>rfl
 | 4,_=>rfl
 | 5,_=>rfl
 | 6,_=>rfl
 | 7,_=>rfl
theorem Pp(n:Nat):(zs (aL n)).length=8:=rfl
theorem FU(z:List Bool)(k:Nat)(h:z[k]?=some true):ie (z.drop k)=ie (z.drop (k+1))+1:=by
 obtain⟨h1,h2⟩:=List.getElem?_eq_some_iff.1 h
 rw[List.drop_eq_getElem_cons h1,h2];rfl
theorem FT(z:List Bool)(k:Nat)(h:z[k]?≠some true):ie (z.drop k)=0:=by
 by_cases h1:k < z.length
 ·rw[List.drop_eq_getElem_cons h1]
  rw[List.getElem?_eq_getElem h1]at h
  cases h2:z[k]with
  |true=>rw[h2]at h;exact absurd rfl h
  |false=>rfl
 ·rw[List.drop_eq_nil_of_le (by omega)];rfl
set_option maxHeartbeats 4000000 in
theorem Sb(n:Nat)(w:World):Calls prog 111 #[.agg (g16 (eu n)).toArray] w fun e w'=>e=.returned (.tuple #[.int .i64 ((gH (zs (aL n))).1:Nat),.int .i64 ((gH (zs (aL n))).2:Nat)])∧ai [] w w':=by
 have HA:=hid (au.new w 172 (g16 (eu n)).toArray)
 have HC:=hid ((ai.refl [] w).alloc (.cells (g16 (eu n)).toArray 172))
 obtain⟨Z,hZ⟩:∃Z,Z=zs (aL n):=⟨_,rfl⟩
 rw[←hZ]
 have HZ:=hid (fun k (hk:k < 8)=>(show Z[k]?=some (eu n k==0)by rw[hZ];exact Q3 n k hk))
 have HZL:=hid (show Z.length=8 by rw[hZ];exact Pp n)
 clear hZ
 obtain⟨G,hG⟩:∃G,G=gH Z:=⟨_,rfl⟩
 rw[←hG]
 have HG:=hid hG
 clear hG
 go_enter func111,ntmps111
 go_wp2
 obtain⟨wo,hwo⟩:∃wo,wo=w.alloc (.cells (g16 (eu n)).toArray 172):=⟨_,rfl⟩
 have hA:=HA.out
 have hC:=HC.out
 rw[←hwo]at hA hC ⊢
 clear hwo HA HC
 go_loopw [2,3,4] (fun fv tv iv wr=>wr=wo∧∃(u f t i:Nat),fv=.int .i64 f∧tv=.int .i64 t∧iv=.int .i64 i∧f≤t∧t≤8∧i≤8∧u+i≥8∧Hid (G=GO Z u i f t)) (fun _ _ iv _=>9 - (RowKit.intOf iv).toNat)
 case atStart=>exact⟨rfl,8,0,0,0,rfl,rfl,rfl,by omega,by omega,by omega,by omega,HG.out⟩
 case round=>
  obtain⟨rfl,u,f,t,i,rfl,rfl,rfl,hft,ht,hi,hu,hh⟩:=hrel
  by_cases hlt:i < 8
  ·obtain⟨u,rfl⟩:∃u',u=u'+1:=⟨u - 1,by omega⟩
   have hr:=hid (show i+ie (Z.drop i)≤8 by have:=ye (Z.drop i);rw[List.length_drop,HZL.out]at this;omega)
   obtain⟨e,he⟩:∃e,e=i+ie (Z.drop i):=⟨_,rfl⟩
   have hh2:=hh.out
   rw[GO,if_pos hlt,←he]at hh2
   have he8:e≤8:=by rw[he];exact hr.out
   have hie:i≤e:=by omega
   have HE:=hid he
   have HH:=hid hh2
   clear he hh hh2 hr HG
   have d8:decide ((i:Int) < 8)=true:=decide_eq_true (by omega)
   go_wp2
   obtain⟨wq,hwq⟩:∃wq,wq=wr:=⟨_,rfl⟩
   rw[←hwq]at hA hC ⊢
   have HWQ:=hid hwq
   clear hwq
   go_loopw [5] (fun kv wx=>wx=wq∧∃k:Nat,kv=.int .i64 k∧i≤k∧k≤e∧Hid (k+ie (Z.drop k)=e)) (fun kv _=>9 - (RowKit.intOf kv).toNat)
   case atStart=>exact⟨rfl,i,rfl,by omega,hie,HE.out.symm⟩
   case round=>
    obtain⟨rfl,k,rfl,hik,hke,hk⟩:=hrel
    by_cases hk8:k < 8
    ·have ck:=hA.cell_of (vq (eu n) k hk8)
     have zk:=HZ.out k hk8
     by_cases h0:eu n k=0
     ·have c0:(eu n k:Int)=0:=by omega
      have hst:=FU Z k (by rw[zk,h0];rfl)
      have HS:=hid (show k+1+ie (Z.drop (k+1))=e by have:=hk.out;omega)
      have HLE:=hid (show k+1≤e by have:=HS.out;omega)
      clear hst zk hk
      go_wp2
      go_roundw
      case measure=>simp[RowKit.intOf];omega
      case rel=>exact⟨by first|trivial|rfl,k+1,by go_num,by omega,HLE.out,HS.out⟩
     ·have c0:(eu n k:Int)≠0:=by omega
      have hst:=FT Z k (by rw[zk];simpa using h0)
      have hek:e=k:=by have:=hk.out;omega
      subst hek
      clear hst zk hk
      go_wp2
      all_goals refine⟨⟨HWQ.out,u,?_⟩,by simp[RowKit.intOf];omega⟩
      ·refine⟨i,e,max i (e - 1)+1,rfl,rfl,by congr 1; omega,hie,he8,by omega,by omega,?_⟩
       exact hid (HH.out.trans (if_pos (by omega)))
      ·refine⟨f,t,max i (e - 1)+1,rfl,rfl,by congr 1; omega,hft,ht,by omega,by omega,?_⟩
       exact hid (HH.out.trans (if_neg (by omega)))
    ·have hek:e=k:=by omega
     subst hek
     clear hk
     go_wp2
     all_goals refine⟨⟨HWQ.out,u,?_⟩,by simp[RowKit.intOf];omega⟩
     ·refine⟨i,e,max i (e - 1)+1,rfl,rfl,by congr 1; omega,hie,he8,by omega,by omega,?_⟩
      exact hid (HH.out.trans (if_pos (by omega)))
     ·refine⟨f,t,max i (e - 1)+1,rfl,rfl,by congr 1; omega,hft,ht,by omega,by omega,?_⟩
      exact hid (HH.out.trans (if_neg (by omega)))
  ·have hi8:i=8:=by omega
   subst hi8
   have hh2:=hid (show G=(f,t)by
    rw[hh.out]
    cases u with
    |zero=>rfl
    |succ u=>rw[GO,if_neg (by omega)])
   go_wp2
   rw[hh2.out]
   go_ret2
   exact⟨rfl,hC⟩
open Go.RowKit Go.Lib Go.Sort
theorem AV(l:List Nat)(hl:∀u∈l,u < 65536)(g o c:Nat)(hn:l.length≤8)(w:World)(HL:eb w)(hA:∀j u,l[j]?=some u→w.cell? ⟨g,o+j,none⟩=some (.int .u16 (u:Nat)))(hg:g < w.heap.size)(d:Nat)(os:Array Obj) :
  Calls prog 112 #[.slice (some ⟨g,o,none⟩) l.length c] (grow (redrawn w d) os) fun e w''=>e=.returned (.string ⟨(aR l).toArray⟩)∧∃p:Regrown,w''=grow (redrawn w p.d) p.os:=by
 have hc:ai [] w (grow (redrawn w d) os):=fw ⟨⟨d,os⟩,rfl⟩
 exact Calls.regrown_of ((AW l hl g o c hn _ (HL.df hc) (fun j u hu=>(hc.cell (p:=⟨g,o+j,none⟩) hg (by simp)).trans (hA j u hu)) (Nat.lt_of_lt_of_le hg hc.size)).mono fun _ _ ⟨e1,e2⟩=>⟨e1,e2.below (by simp) (Nat.le_refl _)⟩)
theorem JU(n:Nat)(hn:n < 65536)(w:World)(hl:eb w):Calls prog 71 #[.int .i64 n] w (Rn w (.string ⟨(aj 10 n).toArray⟩)):=by
 refine(Tryz.strconv_Itoa n (by omega) (by omega) w hl.SH).mono ?_
 rintro e w' ⟨rfl,k,os,rfl⟩
 refine⟨by rw[Lib.itoa_nonneg,nH],((ai.refl [] w).drewN k).trans (fw ⟨⟨(w.drewN k).drawn,os⟩,rfl⟩)⟩
def mC(v:Bool)(n:Nat):List UInt8:=if jk v n then fD v n else []
set_option maxHeartbeats 4000000 in
theorem B9(v:Bool)(n:Nat)(hn:n < 2^128)(h:jk v n=false)(w:World):Calls prog 53 #[.agg (cH v n).toArray] w fun e w'=>e=.returned (.tuple #[.string ⟨#[]⟩,.int .i64 150])∧ai [] w w':=by
 have HA:=hid (au.new w 24 (cH v n).toArray)
 have HC:=hid ((ai.refl [] w).alloc (.cells (cH v n).toArray 24))
 have HK:=hid (nK v n hn)
 rw[show eY v n=150 by unfold eY;rw[h];rfl]at HK
 clear hn
 go_enter func53,ntmps53
 go_wp2_with (first | (go_at_call 109;refine(HK.out _).mono ?_;rintro e w2 ⟨rfl,C2⟩) | (refine iY rfl _ rfl w.heap.size rfl 24 v n HA.out ?_))
 go_ret2
 exact⟨rfl,HC.out.trans C2⟩
theorem PL(n k:Nat):strs ((List.range (k+1)).map fun i=>aj 10 (ah n i))=strs ((List.range k).map fun i=>aj 10 (ah n i))++[.string ⟨(aj 10 (ah n k)).toArray⟩]:=by
 rw[List.range_succ,List.map_append];simp[strs]
theorem zF(n:Nat):gb n=ao 46 ((List.range 4).map fun i=>aj 10 (ah n i)):=rfl
set_option maxHeartbeats 4000000 in
theorem DX(n:Nat)(hn:n < 2^128)(h:jk false n=true)(w:World)(HL:eb w):Calls prog 53 #[.agg (cH false n).toArray] w fun e w'=>e=.returned (.tuple #[.string ⟨(gb n).toArray⟩,.int .i64 0])∧ai [] w w':=by
 obtain⟨i0,hi,hz0,hz1,hz2⟩:=info_parts Tryz.O0
 have HIN:=hid (Sx.t2 hi hz0 (And.intro hz1 hz2))
 clear hi hz0 hz1 hz2
 have HA:=hid (au.new w 24 (cH false n).toArray)
 have HC:=hid ((ai.refl [] w).alloc (.cells (cH false n).toArray 24))
 have HK:=hid (nK false n hn)
 rw[show eY false n=0 by unfold eY;rw[h];rfl]at HK
 have HLL:=hid HL
 clear hn HL
 go_enter func53,ntmps53
 go_wp2_with (first | (go_at_call 109;refine(HK.out _).mono ?_;rintro e w2 ⟨rfl,C2⟩;have cb:=(HA.out.aG C2 (by simp)).cell_of (rN false (ah n))) | (refine iY rfl _ rfl w.heap.size rfl 24 false n HA.out ?_))
 obtain⟨w1,hw1⟩:∃w1,w1=w2:=⟨_,rfl⟩
 have hA:=HA.out.aG C2 (by simp)
 have hC:=HC.out.trans C2
 rw[←hw1]at hA hC ⊢
 clear hw1 HA HC C2 cb
 have HL1:=hid (HLL.out.df hC)
 go_loopw [8,41] (fun sv iv wr=>∃(k:Nat) (Av:Option Go.Addr) (cv:Nat),k≤4∧iv=.int .i64 k∧sv=.slice Av k cv∧Acc w1 wr 9 1 (.slice Av k cv) k (strs ((List.range k).map fun i=>aj 10 (ah n i)))) (fun _ iv _=>4 - (RowKit.intOf iv).toNat)
 case atStart=>exact⟨0,none,0,Nat.zero_le _,rfl,rfl,Acc.nil w1 9 1 (ai.refl _ _)⟩
 case round=>
  obtain⟨k,Av,cv,hk,rfl,rfl,hAc⟩:=hrel
  by_cases hlt:k < 4
  ·have cu:=(hAc.aG.cell (p:=⟨w.heap.size,1+k,none⟩) hA.lt (by simp)).trans (hA.KS k (by omega))
   have hb:=a7 n k
   have HS:=hid (PL n k)
   obtain⟨u,hu⟩:∃u,u=ah n k:=⟨_,rfl⟩
   rw[←hu]at cu hb HS
   have HF:=hid (JU u (by omega) wr (HL1.out.df hAc.aG))
   have HAc:=hid hAc
   clear hu hAc
   have hu0:(0:Int)≤(u:Int):=by omega
   go_wp2_with (first | (go_at_call 71;refine HF.out.mono ?_;rintro e w2 ⟨rfl,C2⟩) | ((with_reducible refine fS ?_);(refine dY _ rfl (.tmp 45) (.tmp 49) 70 rfl 9 i0 _ 1 16 underlying70 HIN.out.1 HIN.out.2.1 HIN.out.2.2.1 HIN.out.2.2.2 rfl (by omega) (.slice Av k cv) k (strs ((List.range k).map fun i=>aj 10 (ah n i))) rfl ((HAc.out.later C2).alloc _).own ⟨w2.heap.size,0,none⟩ 1 1 [.string ⟨(aj 10 u).toArray⟩] rfl rfl (by simpa using (au.new w2 9 #[.string ⟨(aj 10 u).toArray⟩]).B8) (by simp[Value.oneCell']) (by unfold maxLen;omega) (by omega) ?_);intro A' c' w3 hO3 hC3 hb3))
   go_roundw
   case measure=>simp[RowKit.intOf];omega
   case rel=>
    refine⟨k+1,A',c',by omega,by go_num,rfl,?_⟩
    rw[HS.out]
    exact Acc.append ((HAc.out.later C2).alloc _) hO3 hC3 hb3
  ·have hkn:k=4:=by omega
   subst hkn
   have HJ:=hid (AZ hAc 46 (by omega) (by
    have:=jB 46 3 ((List.range 4).map fun i=>aj 10 (ah n i)) (fun x hx=>by
     rw[List.mem_map]at hx
     obtain⟨u,hu,rfl⟩:=hx
     exact fO (by have:=a7 n u;omega))
    rw[List.length_map,List.length_range]at this
    omega))
   rw[←zF]at HJ
   have HCC:=hid (hC.trans hAc.aG)
   clear hAc
   go_wp2_with (go_at_call 87;refine HJ.out.mono ?_;rintro e w4 ⟨rfl,C4⟩)
   go_ret2
   exact⟨rfl,HCC.out.trans C4⟩
open Go.RowKit Go.Lib Go.Sort
theorem qA(n j:Nat)(hj:j < 8):(aL n)[j]?=some (eu n j):=by
 match j,hj with
 | 0,_=>rfl
 | 1,_=>rfl
 | 2,_=>rfl
 | 3,_=>rfl
 | 4,_=>rfl
 | 5,_=>rfl
 | 6,_=>rfl
 | 7,_=>rfl
theorem eX(n:Nat):(aL n).length=8:=rfl
theorem yP{n j u:Nat}(h:(aL n)[j]?=some u):j < 8∧u=eu n j:=by
 have hj:j < 8:=by have:=(List.getElem?_eq_some_iff.1 h).1;rwa [eX]at this
 rw[qA n j hj]at h
 exact⟨hj,(Option.some.inj h).symm⟩
theorem gY{n u:Nat}(h:u∈aL n):u < 65536:=by
 obtain⟨j,hj⟩:=List.getElem?_of_mem h
 rw[(yP hj).2]
 exact vo n j
theorem au.eu{w:World}{g:Nat}{t:TypeId}{n:Nat}(hb:au w g t (g16 (eu n))){j u:Nat}(h:(aL n)[j]?=some u):w.cell? ⟨g,j,none⟩=some (.int .u16 (u:Nat)):=by
 obtain⟨h1,rfl⟩:=yP h
 exact hb.cell_of (vq _ j h1)
theorem Dm(n g:Nat)(w:World)(HL:eb w)(hb:au w g 172 (g16 (eu n))):Calls prog 112 #[.slice (some ⟨g,0,none⟩) 8 8] w (Rn w (.string ⟨(aR (aL n)).toArray⟩)):=
 AW (aL n) (fun _ hu=>gY hu) g 0 8 (Nat.le_refl _) w HL (fun j u hu=>by rw[Nat.zero_add];exact hb.eu hu) hb.lt
set_option maxHeartbeats 4000000 in
theorem DW(n:Nat)(hn:n < 2^128)(h:jk true n=true)(w:World)(HL:eb w):Calls prog 53 #[.agg (cH true n).toArray] w fun e w'=>e=.returned (.tuple #[.string ⟨(cM (aL n)).toArray⟩,.int .i64 0])∧ai [] w w':=by
 have HA:=hid (au.new w 24 (cH true n).toArray)
 have HC:=hid ((ai.refl [] w).alloc (.cells (cH true n).toArray 24))
 have HK:=hid (nK true n hn)
 rw[show eY true n=0 by unfold eY;rw[h];rfl]at HK
 have HLL:=hid HL
 have HGR:=hid (J4 true n)
 obtain⟨f,t,hG⟩:∃f t,gH (zs (aL n))=(f,t):=⟨_,_,rfl⟩
 have hfg:=Bg (aL n) rfl
 have HGP:=hid (Sb n)
 have HT6:=hid (show cM (aL n)=if f=t then aR (aL n)else aR ((aL n).take f)++(58::58::aR ((aL n).drop t))by unfold cM;rw[hG])
 rw[hG]at HGP hfg
 obtain⟨hft,ht8,_⟩:=hfg
 simp only at hft ht8
 clear hn HL hG
 by_cases hq:f=t
 ·subst hq
  have HTE:=hid (show cM (aL n)=aR (aL n)from HT6.out.trans (if_pos rfl))
  rw[HTE.out]
  go_enter func53,ntmps53
  go_wp2_with (first
   | (go_at_call 109;refine(HK.out _).mono ?_;rintro e w2 ⟨rfl,C2⟩;have cb:=(HA.out.aG C2 (by simp)).cell_of (rN true (ah n)))
   | (go_at_call 110;refine(HGR.out _).mono ?_;rintro e w3 ⟨rfl,C3⟩)
   | (go_at_call 111;refine(HGP.out _).mono ?_;rintro e w4 ⟨rfl,C4⟩)
   | (go_at_call 112;refine(Dm n w3.heap.size w4 (HLL.out.df (((((HC.out.trans C2).trans C3).alloc (.cells z87 172)).setRow (.inr (Nat.le_trans (HC.out.trans C2).size C3.size)) (g16 (eu n)).toArray).trans C4)) (((au.new w3 172 z87).row _).aG C4 (by simp))).mono ?_;rintro e w5 ⟨rfl,C5⟩)
   | (refine iY rfl _ rfl w.heap.size rfl 24 true n (HA.out.aG C2 (by simp)) ?_)
   | (refine iY rfl _ rfl w.heap.size rfl 24 true n HA.out ?_)
   | (refine Pz rfl _ _ rfl w3.heap.size (eu n) rfl rfl 172 _ (au.new w3 172 z87) rfl ?_)
   | (refine Qd rfl _ rfl w3.heap.size rfl 172 (eu n) ((au.new w3 172 z87).row _) ?_))
  go_ret2
  exact⟨rfl,(((((HC.out.trans C2).trans C3).alloc (.cells z87 172)).setRow (.inr (Nat.le_trans (HC.out.trans C2).size C3.size)) (g16 (eu n)).toArray).trans C4).trans C5⟩
 ·have dq:decide ((f:Int)=(t:Int))=false:=decide_eq_false (by omega)
  have HTE:=hid (show cM (aL n)=aR ((aL n).take f)++(58::58::aR ((aL n).drop t))from HT6.out.trans (if_neg hq))
  obtain⟨X,hX⟩:∃X,X=aR ((aL n).take f):=⟨_,rfl⟩
  obtain⟨Y,hY⟩:∃Y,Y=aR ((aL n).drop t):=⟨_,rfl⟩
  rw[←hX,←hY]at HTE
  have HX:=hid hX
  have HY:=hid hY
  clear hX hY
  rw[HTE.out]
  go_enter func53,ntmps53
  go_wp2_with (first
   | (go_at_call 109;refine(HK.out _).mono ?_;rintro e w2 ⟨rfl,C2⟩;have cb:=(HA.out.aG C2 (by simp)).cell_of (rN true (ah n)))
   | (go_at_call 110;refine(HGR.out _).mono ?_;rintro e w3 ⟨rfl,C3⟩)
   | (go_at_call 111;refine(HGP.out _).mono ?_;rintro e w4 ⟨rfl,C4⟩)
   | (refine iY rfl _ rfl w.heap.size rfl 24 true n (HA.out.aG C2 (by simp)) ?_)
   | (refine iY rfl _ rfl w.heap.size rfl 24 true n HA.out ?_)
   | (refine Pz rfl _ _ rfl w3.heap.size (eu n) rfl rfl 172 _ (au.new w3 172 z87) rfl ?_)
   | (refine Qd rfl _ rfl w3.heap.size rfl 172 (eu n) ((au.new w3 172 z87).row _) ?_))
  obtain⟨w5,hw5⟩:∃w5,w5=w4:=⟨_,rfl⟩
  have hB:au w4 w3.heap.size 172 (g16 (eu n)):=((au.new w3 172 z87).row _).aG C4 (by simp)
  have hC:ai [] w w4:=(((((HC.out.trans C2).trans C3).alloc (.cells z87 172)).setRow (.inr (Nat.le_trans (HC.out.trans C2).size C3.size)) (g16 (eu n)).toArray).trans C4)
  obtain⟨g,hg⟩:∃g,g=w3.heap.size:=⟨_,rfl⟩
  rw[←hg]at hB ⊢
  rw[←hw5]at hB hC ⊢
  clear hw5 hg C4 cb C3 C2 HA HC w2 w3 w4
  have hL:=HLL.out.df hC
  have hal:prog.arrayLen 172=8:=by kernel_rfl
  have hs1:∀W,(Instr.sliceAt 172 (.pointer (some ⟨g,0,none⟩)) none (some (.int .i64 (f:Nat))) none).run prog W=.ok (.slice (some ⟨g,0,none⟩) f 8) W:=fun W=>by
   rw[run_sliceAt_array_h (P:=prog) W 172 ⟨g,0,none⟩ (by kernel_rfl) .i64 (f:Nat) (by omega) (by omega)]
   go_simp
  obtain⟨o2,ho2⟩:∃o2,o2=if 8=t then 0 else t:=⟨_,rfl⟩
  have hs2:∀W,(Instr.sliceAt 172 (.pointer (some ⟨g,0,none⟩)) (some (.int .i64 (t:Nat))) none none).run prog W=.ok (.slice (some ⟨g,o2,none⟩) (8 - t) (8 - t)) W:=fun W=>by
   rw[run_sliceAt_array_l (P:=prog) W 172 ⟨g,0,none⟩ (by kernel_rfl) .i64 (t:Nat) (by omega) (by omega)]
   rw[ho2]
   by_cases h8:8=t
   ·rw[if_pos h8];subst h8;go_simp
   ·rw[if_neg h8];go_simp
  have hj1:=AV ((aL n).take f) (fun u hu=>gY (List.mem_of_mem_take hu)) g 0 8 (by rw[List.length_take];omega) w5 hL (fun j u hu=>by
   rw[Nat.zero_add]
   rw[List.getElem?_take]at hu
   split at hu
   ·exact hB.eu hu
   ·cases hu) hB.lt
  have hj2:=AV ((aL n).drop t) (fun u hu=>gY (List.mem_of_mem_drop hu)) g o2 (8 - t) (by rw[List.length_drop,eX]; omega) w5 hL (fun j u hu=>by
   rw[List.getElem?_drop]at hu
   have h8:=(yP hu).1
   rw[ho2,if_neg (by omega)]
   exact hB.eu hu) hB.lt
  rw[List.length_take,eX,Nat.min_eq_left (by omega)]at hj1
  rw[List.length_drop,eX]at hj2
  have hlen:∀m:List Nat,(∀u∈m,u < 65536)→m.length≤8→((aR m).length:Int)≤8000:=fun m hm hm8=>by
   have:=jB 58 4 (m.map (aj 16)) (fun x hx=>by
    rw[List.mem_map]at hx
    obtain⟨u,hu,rfl⟩:=hx
    exact gI (hm u hu))
   rw[List.length_map]at this
   unfold aR
   omega
  have hl1:=hlen ((aL n).take f) (fun u hu=>gY (List.mem_of_mem_take hu)) (by rw[List.length_take];omega)
  have hl2:=hlen ((aL n).drop t) (fun u hu=>gY (List.mem_of_mem_drop hu)) (by rw[List.length_drop,eX];omega)
  rw[←HX.out]at hl1 hj1
  rw[←HY.out]at hl2 hj2
  have had1:∀W,(Op.stringOp .add ⟨X.toArray⟩ ⟨#[58,58]⟩).run prog W=.ok (.string ⟨(X++[58,58]).toArray⟩) W:=fun W=>run_string_add_lists W X [58,58] (by omega) (by decide)
  have had2:∀W,(Op.stringOp .add ⟨(X++[58,58]).toArray⟩ ⟨Y.toArray⟩).run prog W=.ok (.string ⟨(X++(58::58::Y)).toArray⟩) W:=fun W=>by
   have:=run_string_add_lists (P:=prog) W (X++[58,58]) Y (by simp;omega) (by omega)
   rw[this]
   simp
  clear hl1 hl2 hlen
  have HJ1:=hid hj1
  have HJ2:=hid hj2
  clear hj1 hj2 hal ho2 hB hL
  refine wp_region_quiet_below (by kernel_rfl) (by kernel_rfl) ?_
  repeat (first|go_big_quiet_step ((first | (go_at_call 112;with_reducible exact HJ1.out _ _) | (go_at_call 112;with_reducible exact HJ2.out _ _)))|quiet_step ((first | (go_at_call 112;with_reducible exact HJ1.out _ _) | (go_at_call 112;with_reducible exact HJ2.out _ _))))
  refine wpQuiet_nil ?_
  intro w6 hw6
  have C6:=fw hw6
  clear hw6
  go_wp2
  go_ret2
  exact⟨rfl,hC.trans C6⟩
theorem pH(v:Bool)(n:Nat)(hn:n < 2^128)(w:World)(HL:eb w):Calls prog 53 #[.agg (cH v n).toArray] w (Rn w (.tuple #[.string ⟨(mC v n).toArray⟩,.int .i64 (eY v n)])):=by
 cases h:jk v n with
 |false=>
  rw[show mC v n=[] by unfold mC;rw[h];rfl,show eY v n=150 by unfold eY;rw[h];rfl]
  exact B9 v n hn h w
 |true=>
  rw[show mC v n=fD v n by unfold mC;rw[h];rfl,show eY v n=0 by unfold eY;rw[h];rfl]
  cases v
  ·exact DX n hn h w HL
  ·exact DW n hn h w HL
end Go.Proofs.YtnncigmpcdehnaaGreatDoor
