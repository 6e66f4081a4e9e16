import Derived.Test.YtnncigmpcdehnaaGreatDoorQf07
namespace Go.Proofs.YtnncigmpcdehnaaGreatDoor
set_option maxRecDepth 100000
open Go.RowKit Go.Lib Go.Sort _root_.Go.Proofs.Tryz
theorem Oi:prog.built 24 [(0,.bool true)]=some (aE true fun _=>0).toArray:=by kernel_rfl
theorem Tv{ops:Array Oper}{rest:List Oper}{o:Oper}{a:Act}{w:World}{Q:Exit→Act→World→Prop}(hg:o.guard=none)(ho:o.op=.build 24 #[(0,.const (.bool true))])
  (h:wpList prog ops Q rest (a.put o.dst (.agg (aE true fun _=>0).toArray)) w):wpList prog ops Q (o::rest) a w:=by
 have e:prog.built 24 ((#[(0,.const (.bool true))]:Array (Nat×Operand)).map fun(i,z)=>(i,a.eval z)).toList=some (aE true fun _=>0).toArray:=by
  simp only[List.map_toArray,List.map_cons,List.map_nil]
  exact Oi
 refine wpList_build hg 24 _ ho (by rw[e];rfl) ?_
 rw[e]
 exact h
theorem Eh(g k2:Nat)(hk:k2≤14)(W:World):(Instr.sliceAt 22 (.pointer (some ⟨g,1,none⟩)) (some (.int .i64 (k2:Int))) none none).run prog W=.ok (.slice (some ⟨g,1+k2,none⟩) (16 - k2) (16 - k2)) W:=by
 have hal:prog.arrayLen 22=16:=by kernel_rfl
 rw[run_sliceAt_array_l (P:=prog) W 22 ⟨g,1,none⟩ (by kernel_rfl) .i64 (k2:Int) (by omega) (by omega)]
 have h16:¬16=k2:=by omega
 go_simp
theorem nQ.eM{w:World}{A:Option Go.Addr}{n c:Nat}{xs:List Nat}(h:Own w 62 1 (.slice A n c) n (iT xs)):nQ w A xs:=fun h0=>by
 have hl:xs.length=n:=by have:=h.len;rw[iS]at this;omega
 obtain⟨g,o,c',hv,_,_,hg⟩:=h.some_ (by omega)
 injection hv with hA _ hc
 subst hA hc
 refine⟨⟨g,o,none⟩,rfl,hg,fun j u hu=>h.jX j _ ?_⟩
 unfold iT
 rw[List.getElem?_map,hu];rfl
def rowOf(n:Nat)(z:Value):Array Value:=Array.replicate n z
theorem JC(n:Nat)(hb:n≤8)(W:World):(Instr.makeSlice 158 (.int .i64 (n:Int)) (.int .i64 (n:Int))).run prog W=.ok (.slice (some ⟨W.heap.size,0,none⟩) n n) (W.alloc (.cells (rowOf n (.int .u16 0)) 62)):=by
 obtain⟨i,hi,hy0,hy1,hy2⟩:=info_parts Tryz.JY
 have hb':(i.bytes:Int)*(n:Int)≤281474976710656:=by rw[hy2];omega
 have h:=run_make (P:=prog) W 158 62 i _ underlying158 hi hy0 .i64 .i64 n n (by omega) (Int.le_refl _) hb' (by omega)
 simp only[Int.toNat_natCast,hy1,Nat.mul_one]at h
 rw[h]
 have e1:madeCells (Value.int IntKind.u16 0).cells n=rowOf n (.int .u16 0):=by
  rw[show(Value.int IntKind.u16 0).cells=#[.int .u16 0]from rfl]
  unfold madeCells rowOf
  apply Array.ext
  ·simp
  ·intro j h1 h2
   simp[Nat.mod_one]
 rw[e1]
theorem nQ.OE(W:World)(n:Nat):nQ (W.alloc (.cells (rowOf n (.int .u16 0)) 62)) (some ⟨W.heap.size,0,none⟩) (List.replicate n 0):=fun _=>by
 have hb:=au.new W 62 (rowOf n (.int .u16 0))
 refine⟨⟨W.heap.size,0,none⟩,rfl,hb.lt,fun j u hu=>?_⟩
 rw[Lib.add_plain,Nat.zero_add]
 refine hb.cell_of ?_
 rw[List.getElem?_replicate]at hu
 split at hu
 ·rename_i hj
  injection hu with hu
  subst hu
  simp[rowOf,hj]
 ·cases hu
def qN(s:List UInt8)(w:World)(e:Ending)(w':World):Prop:=
 ∃(n:Nat) (ok:Bool),e=.returned (.tuple #[.agg (cH true n).toArray,.bool ok])∧ai [] w w'∧n < 2^128∧(ok=true→cM (aL n)=s)∧∀m,m < 2^128→s=cM (aL m)→n=m∧ok=true
theorem sU{s:List UInt8}{w w':World}(f:Nat→Nat)(hf:∀j,f j < 256)(hC:ai [] w w')(h:∀m,s=cM (aL m)→False):qN s w (.returned (.tuple #[.agg (aE true f).toArray,.bool false])) w':=by
 obtain⟨n,hn,he,_⟩:=vX true f hf
 rw[he]
 exact⟨n,false,rfl,hC,hn,fun h=>(by cases h),fun m _ h2=>(h m h2).elim⟩
set_option maxHeartbeats 8000000 in
theorem Pq(s:List UInt8)(hs:s.length≤100000000)(w:World)(HL:eb w):Calls prog 42 #[.string ⟨s.toArray⟩] w (qN s w):=by
 have HCUT:=hid (fun W (hW:eb W)=>KA s [58,58] (by omega) W hW)
 have hcl:=Fl s [58,58]
 have HCAN:=hid (fun(x1 x2:List Nat) (o1 o2:Bool)=>Hx (s:=s) (x1:=x1) (x2:=x2) (o1:=o1) (o2:=o2))
 obtain⟨hd,hhd⟩:∃x,x=(Lib.cut s [58,58]).1:=⟨_,rfl⟩
 obtain⟨tl,htl⟩:∃x,x=(Lib.cut s [58,58]).2.1:=⟨_,rfl⟩
 obtain⟨b,hb⟩:∃x,x=(Lib.cut s [58,58]).2.2:=⟨_,rfl⟩
 rw[←hhd,←htl]at hcl
 rw[←hhd,←htl,←hb]at HCUT HCAN
 clear hhd htl hb
 have HC1:=hid (fun W (hW:eb W)=>BD hd (by omega) W hW)
 have HC2:=hid (fun W (hW:eb W)=>BD tl (by omega) W hW)
 have HR:=hid (show au ((w.alloc (.cells (aE false fun _=>0).toArray 24)).alloc (.cells (aE false fun _=>0).toArray 24)) w.heap.size 24 (aE false fun _=>0)from(au.new w 24 (aE false fun _=>0).toArray).alloc _)
 have HA:=hid (show au ((w.alloc (.cells (aE false fun _=>0).toArray 24)).alloc (.cells (aE false fun _=>0).toArray 24)) (w.heap.size+1) 24 (aE false fun _=>0)from au.fJ _ 24 (aE false fun _=>0).toArray (by simp))
 have HR1:=hid ((show au (((w.alloc (.cells (aE false fun _=>0).toArray 24)).alloc (.cells (aE false fun _=>0).toArray 24)).setRow (w.heap.size+1) (aE true fun _=>0).toArray) w.heap.size 24 (aE false fun _=>0)from HR.out.aG (S:=[w.heap.size+1]) ((ai.refl _ _).setRow (.inl (by simp)) _) (by simp)))
 have HA1:=hid (HA.out.row (aE true fun _=>0))
 have HCH:=hid ((((ai.refl [] w).alloc (.cells (aE false fun _=>0).toArray 24)).alloc (.cells (aE false fun _=>0).toArray 24)).setRow (g:=w.heap.size+1) (.inr (by omega)) (aE true fun _=>0).toArray)
 have HL1:=hid (HL.df HCH.out)
 have HLW:=hid HL.low
 have HSL:=hid hs
 have HCL:=hid hcl
 clear HL hs hcl
 go_enter func42,ntmps42
 go_wp2_with (first
  | (go_at_call 48;refine(HCUT.out _ HL1.out).mono ?_;rintro e w2 ⟨rfl,C2⟩)
  | (go_at_call 96;refine(HC1.out _ (HL1.out.df C2)).mono ?_)
  | (refine Tv rfl rfl ?_)
  | (refine kK rfl _ _ rfl (w.heap.size+1) true (fun _=>0) rfl rfl 24 _ HA.out (aD _ _) ?_))
 rintro e w3 ⟨A1,n1,c1,x1,o1,rfl,hAc1,hx1,hn1,hcan1⟩
 have HAc1:=hid hAc1
 have HX1:=hid hx1
 have HCN1:=hid hcan1
 clear hAc1 hx1 hcan1
 go_wp2_with (go_at_call 96;refine(HC2.out _ ((HL1.out.df C2).df HAc1.out.aG)).mono ?_)
 rintro e w4 ⟨A2,n2,c2,x2,o2,rfl,hAc2,hx2,hn2,hcan2⟩
 have HAc2:=hid hAc2
 have HX2:=hid hx2
 have HCN2:=hid hcan2
 clear hAc2 hx2 hcan2
 have HCH4:=hid ((C2.trans HAc1.out.aG).trans HAc2.out.aG)
 have HA4:=hid (HA1.out.aG HCH4.out (by simp))
 have HR4:=hid (HR1.out.aG HCH4.out (by simp))
 have HC4:=hid (HCH.out.trans HCH4.out)
 have HL4:=hid (HL1.out.df HCH4.out)
 have HW:=hid (HCAN.out x1 x2 o1 o2 HCN1.out HCN2.out)
 have hl1:x1.length=n1:=by have:=HAc1.out.own.len;rw[iS]at this;omega
 have hl2:x2.length=n2:=by have:=HAc2.out.own.len;rw[iS]at this;omega
 have S1:=hid ((nQ.eM HAc1.out.own).aG HAc2.out.aG)
 have S2:=hid (nQ.eM HAc2.out.own)
 have b1:n1≤100000001:=by have:=HSL.out;have:=HCL.out;omega
 have b2:n2≤100000001:=by have:=HSL.out;have:=HCL.out;omega
 clear HAc1 HAc2 HCN1 HCN2 hn1 hn2 HC1 HC2 HCUT HCAN HA1 HR1 HA HR HCL C2
 cases o1 with
 |false=>
  have HF:=hid (show ∀m,s=cM (aL m)→False from fun m h=>by have:=(HW.out m h).1;cases this)
  go_wp2_with (first | (refine wA rfl _ rfl (w.heap.size+1) rfl 24 true (fun _=>0) HA4.out ?_) | (refine kK rfl _ _ rfl w.heap.size true (fun _=>0) rfl rfl 24 _ HR4.out (aD _ _) ?_))
  refine bodyPost_ret (j9 rfl _ _ w.heap.size true (fun _=>0) 24 _ rfl rfl (HR4.out.row (aE true (fun _=>0)))) rfl ?_
  exact sU (fun _=>0) (fun _=>by show 0 < 256;omega) (HC4.out.setRow (.inr (Nat.le_refl _)) _) HF.out
 |true=>
  cases o2 with
  |false=>
   have HF:=hid (show ∀m,s=cM (aL m)→False from fun m h=>by have:=(HW.out m h).2.1;cases this)
   go_wp2_with (first | (refine wA rfl _ rfl (w.heap.size+1) rfl 24 true (fun _=>0) HA4.out ?_) | (refine kK rfl _ _ rfl w.heap.size true (fun _=>0) rfl rfl 24 _ HR4.out (aD _ _) ?_))
   refine bodyPost_ret (j9 rfl _ _ w.heap.size true (fun _=>0) 24 _ rfl rfl (HR4.out.row (aE true (fun _=>0)))) rfl ?_
   exact sU (fun _=>0) (fun _=>by show 0 < 256;omega) (HC4.out.setRow (.inr (Nat.le_refl _)) _) HF.out
  |true=>
   by_cases h8:8 < n1+n2
   ·have i8:(8:Int) < (n1:Int)+(n2:Int):=by omega
    have HF:=hid (show ∀m,s=cM (aL m)→False from fun m h=>by have:=(HW.out m h).2.2.1;omega)
    go_wp2_with (first | (refine wA rfl _ rfl (w.heap.size+1) rfl 24 true (fun _=>0) HA4.out ?_) | (refine kK rfl _ _ rfl w.heap.size true (fun _=>0) rfl rfl 24 _ HR4.out (aD _ _) ?_))
    refine bodyPost_ret (j9 rfl _ _ w.heap.size true (fun _=>0) 24 _ rfl rfl (HR4.out.row (aE true (fun _=>0)))) rfl ?_
    exact sU (fun _=>0) (fun _=>by show 0 < 256;omega) (HC4.out.setRow (.inr (Nat.le_refl _)) _) HF.out
   ·cases b with
    |true=>
     obtain⟨z,hz⟩:∃z,z=8 - n1 - n2:=⟨_,rfl⟩
     have HZ:=hid hz
     clear hz
     have i8:(n1:Int)+(n2:Int)≤8:=by omega
     have ez:(8:Int) - (n1:Int) - (n2:Int)=(z:Int):=by have:=HZ.out; omega
     have hmk:=JC z (by have:=HZ.out;omega)
     have HCON:=hid (BC (w4.heap.size+1) ((w4.alloc (.cells (rowOf z (.int .u16 0)) 62)).alloc (.cells #[.slice A1 n1 c1,.slice (some ⟨w4.heap.size,0,none⟩) z z,.slice A2 n2 c2] 158)) A1 (some ⟨w4.heap.size,0,none⟩) A2 c1 z c2 x1 (List.replicate z 0) x2 (by rw[List.length_replicate,hl1,hl2];have:=HZ.out;omega)
      (by rw[hl1];exact(au.fJ _ 158 #[.slice A1 n1 c1,.slice (some ⟨w4.heap.size,0,none⟩) z z,.slice A2 n2 c2] (by simp)).cell_of (i:=0) rfl)
      (by rw[List.length_replicate];exact(au.fJ _ 158 #[.slice A1 n1 c1,.slice (some ⟨w4.heap.size,0,none⟩) z z,.slice A2 n2 c2] (by simp)).cell_of (i:=1) rfl)
      (by rw[hl2];exact(au.fJ _ 158 #[.slice A1 n1 c1,.slice (some ⟨w4.heap.size,0,none⟩) z z,.slice A2 n2 c2] (by simp)).cell_of (i:=2) rfl)
      (by simp)
      (S1.out.aG (((ai.refl _ _).alloc _).alloc _)) ((nQ.OE w4 z).aG ((ai.refl _ _).alloc _)) (S2.out.aG (((ai.refl _ _).alloc _).alloc _)))
     obtain⟨L,hL⟩:∃L,L=x1++List.replicate z 0++x2:=⟨_,rfl⟩
     rw[←hL]at HCON
     have HLW2:=hid (show ∀m,s=cM (aL m)→L=aL m from fun m h=>by have:=(HW.out m h).2.2.2.2;rw[hl1,hl2]at this;rw[hL,←this,←HZ.out])
     have hLl:L.length=8:=by rw[hL,List.length_append,List.length_append,List.length_replicate,hl1,hl2];have:=HZ.out;omega
     have HLT:=hid (show ∀u∈L,u < 65536 from fun u hu=>by
      rw[hL,List.mem_append,List.mem_append]at hu
      rcases hu with(hu|hu)|hu
      ·exact HX1.out u hu
      ·have:=(List.mem_replicate.1 hu).2;omega
      ·exact HX2.out u hu)
     have HLL:=hid hLl
     clear hL hLl
     go_wp2_with (go_at_call 97;refine HCON.out.mono ?_)
     rintro e w5 ⟨G,cG,Lx,rfl,hG,hcG,hLx,C5⟩
     have HA5:=hid (((HA4.out.alloc (.cells (rowOf z (.int .u16 0)) 62)).alloc (.cells #[.slice A1 n1 c1,.slice (some ⟨w4.heap.size,0,none⟩) z z,.slice A2 n2 c2] 158)).aG C5 (by simp))
     have HR5:=hid (((HR4.out.alloc (.cells (rowOf z (.int .u16 0)) 62)).alloc (.cells #[.slice A1 n1 c1,.slice (some ⟨w4.heap.size,0,none⟩) z z,.slice A2 n2 c2] 158)).aG C5 (by simp))
     have HC5:=hid (((HC4.out.alloc (.cells (rowOf z (.int .u16 0)) 62)).alloc (.cells #[.slice A1 n1 c1,.slice (some ⟨w4.heap.size,0,none⟩) z z,.slice A2 n2 c2] 158)).trans C5)
     have HL5:=hid (((HL4.out.alloc (.cells (rowOf z (.int .u16 0)) 62)).alloc (.cells #[.slice A1 n1 c1,.slice (some ⟨w4.heap.size,0,none⟩) z z,.slice A2 n2 c2] 158)).df C5)
     have HG:=hid hG
     have HLX:=hid hLx
     clear hG hLx C5 HCON
     go_wp2
     obtain⟨wq,hwq⟩:∃wq,wq=w5:=⟨_,rfl⟩
     rw[←hwq]at HA5 HR5 HC5 HL5 HG ⊢
     clear hwq
     go_loopw [71] (fun iv wr=>∃k:Nat,k≤8∧iv=.int .i64 k∧au wr w.heap.size 24 (aE false fun _=>0)∧au wr (w.heap.size+1) 24 (aE true (bf L k))∧au wr G 62 Lx∧ai [] w wr∧eb wr) (fun iv _=>8 - (RowKit.intOf iv).toNat)
     case atStart=>exact⟨0,by omega,rfl,HR5.out,HA5.out,HG.out,HC5.out,HL5.out⟩
     case round=>
      obtain⟨k,hk,rfl,hR,hA,hG,hC,hLN⟩:=hrel
      by_cases hlt:k < 8
      ·obtain⟨u,hu⟩:∃u,L[k]?=some u:=⟨_,List.getElem?_eq_getElem (by rw[HLL.out];exact hlt)⟩
       have cu:=hG.cell_of (HLX.out k u hu)
       have hu65:=HLT.out u (List.mem_of_getElem? hu)
       have HPUT:=hid (OQ u hu65)
       obtain⟨k2,hk2⟩:∃k2:Nat,k2=2*k:=⟨_,rfl⟩
       have e2:(2:Int)*(k:Int)=(k2:Int):=by omega
       have k14:k2≤14:=by omega
       have w2k:IntKind.i64.wrap (k2:Int)=(k2:Int):=by rw[IntKind.wrap_i64];omega
       have h1:=Pf L k u hu
       have h2:=Pe L k u hu
       have h3:=Fz L k
       rw[←hk2]at h1 h2 h3
       have hsl:=Eh (w.heap.size+1) k2 k14
       have HQ1:=hid h1
       have HQ2:=hid h2
       have HQ3:=hid h3
       have HR6:=hid hR
       have HA6:=hid hA
       have HG6:=hid hG
       have HC6:=hid hC
       have HL6:=hid hLN
       have hne:w.heap.size+1≠G:=fun h=>by
        have:=au.EK hG hA (by decide)
        omega
       have HNE:=hid hne
       clear hu h1 h2 h3 hR hA hG hC hLN hne hk2
       go_wp2
       go_region_with (go_at_call 98; refine(HPUT.out _).mono ?_; rintro e w1 ⟨A,c,rfl,hP⟩; have hb1:au w1 (w.heap.size+1) 24 (aE true (bf L k)):=au.aG (by exact HA6.out) hP.aG (by simp); have hcp:=BB hb1 k2 (u / 256) (u%256) k14 HQ1.out HQ2.out HQ3.out hP.own)
       all_goals go_wp2
       all_goals go_roundw
       all_goals first | (case measure=>simp[RowKit.intOf];omega)|skip
       all_goals refine⟨k+1,by omega,by go_num,?_,?_,?_,?_,?_⟩
       ·exact(au.aG (by exact HR6.out) hP.aG (by simp)).aG (S:=[w.heap.size+1]) ((ai.refl _ _).setRow (.inl (by simp)) _) (by simp)
       ·exact hb1.row _
       ·exact(au.aG (by exact HG6.out) hP.aG (by simp)).aG (S:=[w.heap.size+1]) ((ai.refl _ _).setRow (.inl (by simp)) _) (by simpa using fun h=>HNE.out h.symm)
       ·exact(ai.trans (by exact HC6.out.drew) hP.aG).setRow (.inr (by omega)) _
       ·exact(eb.df (eb.df HL6.out ((ai.refl [] _).drew)) hP.aG).aG (S:=[w.heap.size+1]) ((ai.refl _ _).setRow (.inl (by simp)) _) (by intro j hj;have:=HLW.out;rw[List.mem_singleton]at hj;omega)
      ·have hk8:k=8:=by omega
       subst hk8
       obtain⟨n,hn,hen,hbn⟩:=vX true (bf L 8) (Pd HLT.out 8)
       have hgr:=E8 HLL.out hbn
       rw[hen]at hA
       have HAT:=hid (pH true n hn wr hLN)
       rw[show mC true n=cM (aL n)by unfold mC;rw[yv];rfl]at HAT
       obtain⟨T,hT⟩:∃T,T=cM (aL n):=⟨_,rfl⟩
       rw[←hT]at HAT
       have HTT:=hid hT
       have HFI:=hid (show ∀W,ai [] w W→qN s w (.returned (.tuple #[.agg (cH true n).toArray,.bool (T==s)])) W from fun W hW=>by
        refine⟨n,(T==s),rfl,hW,hn,fun h=>?_,fun m hm h=>?_⟩
        ·rw[←hT];exact eq_of_beq h
        ·have h1:n=m:=Ba hn hm (by rw[hgr];exact HLW2.out m h)
         refine⟨h1,?_⟩
         rw[hT,h1,h]
         exact beq_self_eq_true _)
       have HA7:=hid hA
       have HR7:=hid hR
       have HC7:=hid hC
       clear hA hR hC hG hLN hT hgr hbn hen hn
       go_wp2_with (first
        | (go_at_call 53;refine HAT.out.mono ?_;rintro e w6 ⟨rfl,C6⟩)
        | (refine iY rfl _ rfl (w.heap.size+1) rfl 24 true n (HA7.out.aG C6 (by simp)) ?_)
        | (refine iY rfl _ rfl (w.heap.size+1) rfl 24 true n HA7.out ?_)
        | (refine kK rfl _ _ rfl w.heap.size true (ah n) rfl rfl 24 _ (HR7.out.aG C6 (by simp)) (aD _ _) ?_))
       refine bodyPost_ret (j9 rfl _ _ w.heap.size true (ah n) 24 _ rfl rfl ((HR7.out.aG C6 (by simp)).row (cH true n))) rfl ?_
       exact HFI.out _ ((HC7.out.trans C6).setRow (.inr (Nat.le_refl _)) _)
    |false=>
     by_cases h88:n1=8
     ·have h00:n2=0:=by omega
      subst h88 h00
      have hmk:∀W:World,(Instr.makeSlice 158 (.int .i64 0) (.int .i64 0)).run prog W=.ok (.slice (some ⟨W.heap.size,0,none⟩) 0 0) (W.alloc (.cells (rowOf 0 (.int .u16 0)) 62)):=JC 0 (by omega)
      have HCON:=hid (BC (w4.heap.size+1) ((w4.alloc (.cells (rowOf 0 (.int .u16 0)) 62)).alloc (.cells #[.slice A1 8 c1,.slice (some ⟨w4.heap.size,0,none⟩) 0 0,.slice A2 0 c2] 158)) A1 (some ⟨w4.heap.size,0,none⟩) A2 c1 0 c2 x1 (List.replicate 0 0) x2 (by rw[List.length_replicate,hl1,hl2]<;>omega)
       (by rw[hl1];exact(au.fJ _ 158 #[.slice A1 8 c1,.slice (some ⟨w4.heap.size,0,none⟩) 0 0,.slice A2 0 c2] (by simp)).cell_of (i:=0) rfl)
       (by rw[List.length_replicate];exact(au.fJ _ 158 #[.slice A1 8 c1,.slice (some ⟨w4.heap.size,0,none⟩) 0 0,.slice A2 0 c2] (by simp)).cell_of (i:=1) rfl)
       (by rw[hl2];exact(au.fJ _ 158 #[.slice A1 8 c1,.slice (some ⟨w4.heap.size,0,none⟩) 0 0,.slice A2 0 c2] (by simp)).cell_of (i:=2) rfl)
       (by simp)
       (S1.out.aG (((ai.refl _ _).alloc _).alloc _)) ((nQ.OE w4 0).aG ((ai.refl _ _).alloc _)) (S2.out.aG (((ai.refl _ _).alloc _).alloc _)))
      obtain⟨L,hL⟩:∃L,L=x1++List.replicate 0 0++x2:=⟨_,rfl⟩
      rw[←hL]at HCON
      have HLW2:=hid (show ∀m,s=cM (aL m)→L=aL m from fun m h=>by have:=(HW.out m h).2.2.2.2;rw[hl1,hl2]at this;rw[hL,←this])
      have hLl:L.length=8:=by rw[hL,List.length_append,List.length_append,List.length_replicate,hl1,hl2]<;>omega
      have HLT:=hid (show ∀u∈L,u < 65536 from fun u hu=>by
       rw[hL,List.mem_append,List.mem_append]at hu
       rcases hu with(hu|hu)|hu
       ·exact HX1.out u hu
       ·have:=(List.mem_replicate.1 hu).2;omega
       ·exact HX2.out u hu)
      have HLL:=hid hLl
      clear hL hLl
      go_wp2_with (go_at_call 97;refine HCON.out.mono ?_)
      rintro e w5 ⟨G,cG,Lx,rfl,hG,hcG,hLx,C5⟩
      have HA5:=hid (((HA4.out.alloc (.cells (rowOf 0 (.int .u16 0)) 62)).alloc (.cells #[.slice A1 8 c1,.slice (some ⟨w4.heap.size,0,none⟩) 0 0,.slice A2 0 c2] 158)).aG C5 (by simp))
      have HR5:=hid (((HR4.out.alloc (.cells (rowOf 0 (.int .u16 0)) 62)).alloc (.cells #[.slice A1 8 c1,.slice (some ⟨w4.heap.size,0,none⟩) 0 0,.slice A2 0 c2] 158)).aG C5 (by simp))
      have HC5:=hid (((HC4.out.alloc (.cells (rowOf 0 (.int .u16 0)) 62)).alloc (.cells #[.slice A1 8 c1,.slice (some ⟨w4.heap.size,0,none⟩) 0 0,.slice A2 0 c2] 158)).trans C5)
      have HL5:=hid (((HL4.out.alloc (.cells (rowOf 0 (.int .u16 0)) 62)).alloc (.cells #[.slice A1 8 c1,.slice (some ⟨w4.heap.size,0,none⟩) 0 0,.slice A2 0 c2] 158)).df C5)
      have HG:=hid hG
      have HLX:=hid hLx
      clear hG hLx C5 HCON
      go_wp2
      obtain⟨wq,hwq⟩:∃wq,wq=w5:=⟨_,rfl⟩
      rw[←hwq]at HA5 HR5 HC5 HL5 HG ⊢
      clear hwq
      go_loopw [71] (fun iv wr=>∃k:Nat,k≤8∧iv=.int .i64 k∧au wr w.heap.size 24 (aE false fun _=>0)∧au wr (w.heap.size+1) 24 (aE true (bf L k))∧au wr G 62 Lx∧ai [] w wr∧eb wr) (fun iv _=>8 - (RowKit.intOf iv).toNat)
      case atStart=>exact⟨0,by omega,rfl,HR5.out,HA5.out,HG.out,HC5.out,HL5.out⟩
      case round=>
       obtain⟨k,hk,rfl,hR,hA,hG,hC,hLN⟩:=hrel
       by_cases hlt:k < 8
       ·obtain⟨u,hu⟩:∃u,L[k]?=some u:=⟨_,List.getElem?_eq_getElem (by rw[HLL.out];exact hlt)⟩
        have cu:=hG.cell_of (HLX.out k u hu)
        have hu65:=HLT.out u (List.mem_of_getElem? hu)
        have HPUT:=hid (OQ u hu65)
        obtain⟨k2,hk2⟩:∃k2:Nat,k2=2*k:=⟨_,rfl⟩
        have e2:(2:Int)*(k:Int)=(k2:Int):=by omega
        have k14:k2≤14:=by omega
        have w2k:IntKind.i64.wrap (k2:Int)=(k2:Int):=by rw[IntKind.wrap_i64];omega
        have h1:=Pf L k u hu
        have h2:=Pe L k u hu
        have h3:=Fz L k
        rw[←hk2]at h1 h2 h3
        have hsl:=Eh (w.heap.size+1) k2 k14
        have HQ1:=hid h1
        have HQ2:=hid h2
        have HQ3:=hid h3
        have HR6:=hid hR
        have HA6:=hid hA
        have HG6:=hid hG
        have HC6:=hid hC
        have HL6:=hid hLN
        have hne:w.heap.size+1≠G:=fun h=>by
         have:=au.EK hG hA (by decide)
         omega
        have HNE:=hid hne
        clear hu h1 h2 h3 hR hA hG hC hLN hne hk2
        go_wp2
        go_region_with (go_at_call 98; refine(HPUT.out _).mono ?_; rintro e w1 ⟨A,c,rfl,hP⟩; have hb1:au w1 (w.heap.size+1) 24 (aE true (bf L k)):=au.aG (by exact HA6.out) hP.aG (by simp); have hcp:=BB hb1 k2 (u / 256) (u%256) k14 HQ1.out HQ2.out HQ3.out hP.own)
        all_goals go_wp2
        all_goals go_roundw
        all_goals first | (case measure=>simp[RowKit.intOf];omega)|skip
        all_goals refine⟨k+1,by omega,by go_num,?_,?_,?_,?_,?_⟩
        ·exact(au.aG (by exact HR6.out) hP.aG (by simp)).aG (S:=[w.heap.size+1]) ((ai.refl _ _).setRow (.inl (by simp)) _) (by simp)
        ·exact hb1.row _
        ·exact(au.aG (by exact HG6.out) hP.aG (by simp)).aG (S:=[w.heap.size+1]) ((ai.refl _ _).setRow (.inl (by simp)) _) (by simpa using fun h=>HNE.out h.symm)
        ·exact(ai.trans (by exact HC6.out.drew) hP.aG).setRow (.inr (by omega)) _
        ·exact(eb.df (eb.df HL6.out ((ai.refl [] _).drew)) hP.aG).aG (S:=[w.heap.size+1]) ((ai.refl _ _).setRow (.inl (by simp)) _) (by intro j hj;have:=HLW.out;rw[List.mem_singleton]at hj;omega)
       ·have hk8:k=8:=by omega
        subst hk8
        obtain⟨n,hn,hen,hbn⟩:=vX true (bf L 8) (Pd HLT.out 8)
        have hgr:=E8 HLL.out hbn
        rw[hen]at hA
        have HAT:=hid (pH true n hn wr hLN)
        rw[show mC true n=cM (aL n)by unfold mC;rw[yv];rfl]at HAT
        obtain⟨T,hT⟩:∃T,T=cM (aL n):=⟨_,rfl⟩
        rw[←hT]at HAT
        have HTT:=hid hT
        have HFI:=hid (show ∀W,ai [] w W→qN s w (.returned (.tuple #[.agg (cH true n).toArray,.bool (T==s)])) W from fun W hW=>by
         refine⟨n,(T==s),rfl,hW,hn,fun h=>?_,fun m hm h=>?_⟩
         ·rw[←hT];exact eq_of_beq h
         ·have h1:n=m:=Ba hn hm (by rw[hgr];exact HLW2.out m h)
          refine⟨h1,?_⟩
          rw[hT,h1,h]
          exact beq_self_eq_true _)
        have HA7:=hid hA
        have HR7:=hid hR
        have HC7:=hid hC
        clear hA hR hC hG hLN hT hgr hbn hen hn
        go_wp2_with (first
         | (go_at_call 53;refine HAT.out.mono ?_;rintro e w6 ⟨rfl,C6⟩)
         | (refine iY rfl _ rfl (w.heap.size+1) rfl 24 true n (HA7.out.aG C6 (by simp)) ?_)
         | (refine iY rfl _ rfl (w.heap.size+1) rfl 24 true n HA7.out ?_)
         | (refine kK rfl _ _ rfl w.heap.size true (ah n) rfl rfl 24 _ (HR7.out.aG C6 (by simp)) (aD _ _) ?_))
        refine bodyPost_ret (j9 rfl _ _ w.heap.size true (ah n) 24 _ rfl rfl ((HR7.out.aG C6 (by simp)).row (cH true n))) rfl ?_
        exact HFI.out _ ((HC7.out.trans C6).setRow (.inr (Nat.le_refl _)) _)
     ·have i88:decide ((n1:Int)=8)=false:=decide_eq_false (by omega)
      have i89:((n1:Int)==8)=false:=by rw[beq_eq_false_iff_ne];omega
      have i87:((n1:Int) !=8)=true:=by rw[bne_iff_ne];omega
      have i8:(n1:Int)+(n2:Int)≤8:=by omega
      have HF:=hid (show ∀m,s=cM (aL m)→False from fun m h=>by
       have:=(HW.out m h).2.2.2.1
       rcases this with h|h
       ·cases h
       ·omega)
      go_wp2_with (first | (refine wA rfl _ rfl (w.heap.size+1) rfl 24 true (fun _=>0) HA4.out ?_) | (refine kK rfl _ _ rfl w.heap.size true (fun _=>0) rfl rfl 24 _ HR4.out (aD _ _) ?_))
      refine bodyPost_ret (j9 rfl _ _ w.heap.size true (fun _=>0) 24 _ rfl rfl (HR4.out.row (aE true (fun _=>0)))) rfl ?_
      exact sU (fun _=>0) (fun _=>by show 0 < 256;omega) (HC4.out.setRow (.inr (Nat.le_refl _)) _) HF.out
end Go.Proofs.YtnncigmpcdehnaaGreatDoor
