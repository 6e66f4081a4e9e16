import Derived.Test.YtnncigmpcdehnaaGreatDoorQb08
namespace Go.Proofs.YtnncigmpcdehnaaGreatDoor
set_option maxRecDepth 100000
open Go.RowKit Go.Lib Go.Sort
def Ia(s:List UInt8)(v:Bool)(n:Nat):Prop:=n < 2^128∧tW v n=true∧jb v n=s
def Mv(s:List UInt8)(w:World)(e:Ending)(w':World):Prop:=
 ∃(v:Bool) (n:Nat) (er:Int),e=.returned (.tuple #[.agg (eS v n).toArray,.int .i64 er])∧aw [] w w'∧((er=0∧Ia s v n∧∀v' m,Ia s v' m→v'=v∧m=n)∨(er=150∧v=false∧n=0∧∀v' m,¬Ia s v' m))
theorem Hh:Tryz.prog.built 24 []=some (eS false 0).toArray:=by kernel_rfl
theorem KQ{ops:Array Oper}{rest:List Oper}{o:Oper}{a:Act}{w:World}{Q:Exit→Act→World→Prop}(hg:o.guard=none)(ho:o.op=.build 24 #[])
  (h:wpList Tryz.prog ops Q rest (a.put o.dst (.agg (eS false 0).toArray)) w):wpList Tryz.prog ops Q (o::rest) a w:=by
 have e:Tryz.prog.built 24 ((#[]:Array (Nat×Operand)).map fun(i,z)=>(i,a.eval z)).toList=some (eS false 0).toArray:=by
  rw[Array.map_empty]
  exact Hh
 refine wpList_build hg 24 _ ho (by rw[e];rfl) ?_
 rw[e]
 exact h
theorem u3{s:List UInt8}{m:Nat}(h:Ia s true m):(58:UInt8)∈s:=by
 rw[←h.2.2];exact AS m
theorem u2{s:List UInt8}{m:Nat}(h:Ia s false m):(58:UInt8)∉s:=by
 rw[←h.2.2];exact y8 m
theorem Fs{w w3:World}{v:Bool}{n:Nat}(h:aB w3 w.heap.size 24 (aK false fun _=>0)):aB ((w3.alloc (.cells (aK false fun _=>0).toArray 24)).setRow w3.heap.size (aK v (ay n)).toArray) w.heap.size 24 (aK false fun _=>0):=
 (h.alloc _).aP (S:=[w3.heap.size]) ((aw.refl _ _).setRow (.inl (by simp)) _) (by have:=h.lt;simp;omega)
set_option maxHeartbeats 4000000 in
theorem zW(s:List UInt8)(hs:s.length≤100000000)(w:World)(HL:dG w):Calls Tryz.prog 14 #[.string ⟨s.toArray⟩] w (Mv s w):=by
 have HR:=hid (aB.new w 24 (aK false fun _=>0).toArray)
 have HC:=hid ((aw.refl [] w).alloc (.cells (aK false fun _=>0).toArray 24))
 have HL1:=hid (HL.alloc (.cells (aK false fun _=>0).toArray 24))
 have HCT:=hid (AQ s 58)
 have HW:=hid (fun W (hW:dG W)=>KW s hs W hW)
 have HD:=hid (fun W (hW:dG W)=>GY s hs W hW)
 clear HL
 by_cases hc:(58:UInt8)∈s
 ·rw[decide_eq_true hc]at HCT
  have HCC:=hid hc
  clear hc
  go_enter Tryz.func14,Tryz.ntmps14
  go_wp2_with (first | (go_at_call 43;refine(HCT.out _).mono ?_;rintro e w2 ⟨rfl,hw2⟩;subst hw2) | (go_at_call 42;refine(HW.out _ HL1.out).mono ?_))
  rintro e w3 ⟨n,ok,rfl,C3,hn,hok,hcan⟩
  have HN:=hid hn
  have HOK:=hid hok
  have HCAN:=hid hcan
  have HW3:=hid (Nat.le_trans (Nat.le_of_lt (HR.out.lt)) C3.size)
  have HC3:=hid ((HC.out.trans C3).alloc (.cells (aK false fun _=>0).toArray 24))
  have HRW:=hid (Fs (w:=w) (v:=true) (n:=n) (HR.out.aP C3 (by simp)))
  clear hn hok hcan HR HC HW HD HCT
  cases ok with
  |true=>
   have HF:=hid (show Ia s true n∧∀v' m,Ia s v' m→v'=true∧m=n from⟨⟨HN.out,vU n,HOK.out rfl⟩,fun v' m hm=>by
    cases v' with
    |true=>exact⟨rfl,(HCAN.out m hm.1 hm.2.2.symm).1.symm⟩
    |false=>exact absurd HCC.out (u2 hm)⟩)
   go_wp2_with (first
    | (refine jW rfl _ _ rfl w3.heap.size true (ay n) rfl rfl 24 _ (aB.new w3 24 (aK false fun _=>0).toArray) (aI _ _) ?_)
    | (refine iI rfl _ rfl w3.heap.size rfl 24 true n ((aB.new w3 24 (aK false fun _=>0).toArray).row _) ?_)
    | (refine jW rfl _ _ rfl w.heap.size true (ay n) rfl rfl 24 (aK false fun _=>0) HRW.out (aI _ _) ?_))
   refine bodyPost_ret (jD rfl _ _ w.heap.size true (ay n) 24 _ rfl rfl (HRW.out.row (eS true n))) rfl ?_
   exact⟨true,n,0,rfl,(HC3.out.setRow (.inr HW3.out) _).setRow (.inr (Nat.le_refl _)) _,.inl ⟨rfl,HF.out.1,HF.out.2⟩⟩
  |false=>
   have HF:=hid (show ∀v' m,¬Ia s v' m from fun v' m hm=>by
    cases v' with
    |true=>exact absurd (HCAN.out m hm.1 hm.2.2.symm).2 (by decide)
    |false=>exact absurd HCC.out (u2 hm))
   go_wp2_with (first
    | (refine jW rfl _ _ rfl w3.heap.size true (ay n) rfl rfl 24 _ (aB.new w3 24 (aK false fun _=>0).toArray) (aI _ _) ?_)
    | (refine KQ rfl rfl ?_)
    | (refine jW rfl _ _ rfl w.heap.size false (ay 0) rfl rfl 24 (aK false fun _=>0) HRW.out (aI _ _) ?_))
   refine bodyPost_ret (jD rfl _ _ w.heap.size false (ay 0) 24 _ rfl rfl (HRW.out.row (eS false 0))) rfl ?_
   exact⟨false,0,150,rfl,(HC3.out.setRow (.inr HW3.out) _).setRow (.inr (Nat.le_refl _)) _,.inr ⟨rfl,rfl,rfl,HF.out⟩⟩
 ·rw[decide_eq_false hc]at HCT
  have HCC:=hid hc
  clear hc
  go_enter Tryz.func14,Tryz.ntmps14
  go_wp2_with (first | (go_at_call 43;refine(HCT.out _).mono ?_;rintro e w2 ⟨rfl,hw2⟩;subst hw2) | (go_at_call 44;refine(HD.out _ HL1.out).mono ?_))
  rintro e w3 ⟨n,ok,rfl,C3,hn,hok,hcan⟩
  have HN:=hid hn
  have HOK:=hid hok
  have HCAN:=hid hcan
  have HW3:=hid (Nat.le_trans (Nat.le_of_lt (HR.out.lt)) C3.size)
  have HC3:=hid ((HC.out.trans C3).alloc (.cells (aK false fun _=>0).toArray 24))
  have HRW:=hid (Fs (w:=w) (v:=false) (n:=n) (HR.out.aP C3 (by simp)))
  clear hn hok hcan HR HC HW HD HCT
  cases ok with
  |true=>
   have HF:=hid (show Ia s false n∧∀v' m,Ia s v' m→v'=false∧m=n from⟨⟨HN.out,(HOK.out rfl).1,(HOK.out rfl).2⟩,fun v' m hm=>by
    cases v' with
    |false=>exact⟨rfl,(HCAN.out m hm.1 hm.2.1 hm.2.2.symm).1.symm⟩
    |true=>exact absurd (u3 hm) HCC.out⟩)
   go_wp2_with (first
    | (refine jW rfl _ _ rfl w3.heap.size false (ay n) rfl rfl 24 _ (aB.new w3 24 (aK false fun _=>0).toArray) (aI _ _) ?_)
    | (refine iI rfl _ rfl w3.heap.size rfl 24 false n ((aB.new w3 24 (aK false fun _=>0).toArray).row _) ?_)
    | (refine jW rfl _ _ rfl w.heap.size false (ay n) rfl rfl 24 (aK false fun _=>0) HRW.out (aI _ _) ?_))
   refine bodyPost_ret (jD rfl _ _ w.heap.size false (ay n) 24 _ rfl rfl (HRW.out.row (eS false n))) rfl ?_
   exact⟨false,n,0,rfl,(HC3.out.setRow (.inr HW3.out) _).setRow (.inr (Nat.le_refl _)) _,.inl ⟨rfl,HF.out.1,HF.out.2⟩⟩
  |false=>
   have HF:=hid (show ∀v' m,¬Ia s v' m from fun v' m hm=>by
    cases v' with
    |false=>exact absurd (HCAN.out m hm.1 hm.2.1 hm.2.2.symm).2 (by decide)
    |true=>exact absurd (u3 hm) HCC.out)
   go_wp2_with (first
    | (refine jW rfl _ _ rfl w3.heap.size false (ay n) rfl rfl 24 _ (aB.new w3 24 (aK false fun _=>0).toArray) (aI _ _) ?_)
    | (refine KQ rfl rfl ?_)
    | (refine jW rfl _ _ rfl w.heap.size false (ay 0) rfl rfl 24 (aK false fun _=>0) HRW.out (aI _ _) ?_))
   refine bodyPost_ret (jD rfl _ _ w.heap.size false (ay 0) 24 _ rfl rfl (HRW.out.row (eS false 0))) rfl ?_
   exact⟨false,0,150,rfl,(HC3.out.setRow (.inr HW3.out) _).setRow (.inr (Nat.le_refl _)) _,.inr ⟨rfl,rfl,rfl,HF.out⟩⟩
open Go.RowKit Go.Lib Go.Sort
theorem rf{v:Bool}{n:Nat}{k:Int}(h:gg v n k=true):tW v n=true:=by
 unfold gg at h
 simp only[Bool.and_eq_true,decide_eq_true_eq]at h
 obtain⟨⟨h1,h2⟩,h3⟩:=h
 have:=xR v n k.toNat (by omega)
 rwa [h3]at this
theorem si{v:Bool}{n:Nat}{k:Int}(h:gg v n k=true):0≤k∧k≤128:=by
 have hw:=nJ v
 unfold gg at h
 simp only[Bool.and_eq_true,decide_eq_true_eq]at h
 omega
theorem ur(v:Bool)(n:Nat):(jb v n).length≤8000:=by
 cases v with
 |false=>
  have h:=iV 46 3 [az 10 (ay n 0),az 10 (ay n 1),az 10 (ay n 2),az 10 (ay n 3)] (fun x hx=>by
   simp at hx
   rcases hx with rfl|rfl|rfl|rfl<;>exact gT (by have:=bU n 0;have:=bU n 1;have:=bU n 2;have:=bU n 3;omega))
  show(gG n).length≤8000
  unfold gG
  simp only[List.length_cons,List.length_nil]at h
  omega
 |true=>
  have hj:∀m:List Nat,(∀u∈m,u < 65536)→m.length≤8→(de m).length≤40:=fun m hm hm8=>by
   have:=iV 58 4 (m.map (az 16)) (fun x hx=>by
    rw[List.mem_map]at hx
    obtain⟨u,hu,rfl⟩:=hx
    exact jo (hm u hu))
   rw[List.length_map]at this
   unfold de
   omega
  show(dD (bS n)).length≤8000
  unfold dD
  split
  ·have:=hj (bS n) (fun u hu=>gu hu) (by rw[eG];omega)
   omega
  ·have h1:=hj ((bS n).take (fV (zs (bS n))).1) (fun u hu=>gu (List.mem_of_mem_take hu)) (by rw[List.length_take,eG];omega)
   have h2:=hj ((bS n).drop (fV (zs (bS n))).2) (fun u hu=>gu (List.mem_of_mem_drop hu)) (by rw[List.length_drop,eG];omega)
   simp only[List.length_append,List.length_cons]
   omega
def oF(v:Bool)(n:Nat)(k:Int):List UInt8:=jb v n++(47::az 10 k.toNat)
def r7(v:Bool)(n:Nat)(k:Int):List UInt8:=if gg v n k then oF v n k else []
set_option maxHeartbeats 4000000 in
theorem zH(v:Bool)(n:Nat)(k:Int)(hn:n < 2^128)(w:World)(HL:dG w):Calls Tryz.prog 72 #[.agg (eM v n k).toArray] w fun e w'=>e=.returned (.tuple #[.string ⟨(r7 v n k).toArray⟩,.int .i64 (fW v n k)])∧aw [] w w':=by
 have HB:=hid (aB.new w 29 (eM v n k).toArray)
 have HC:=hid ((aw.refl [] w).alloc (.cells (eM v n k).toArray 29))
 have HL1:=hid (HL.alloc (.cells (eM v n k).toArray 29))
 have HK:=hid (rn v n k hn)
 have HAT:=hid (fun W (hW:dG W)=>oy v n hn W hW)
 clear HL
 by_cases h1:gg v n k=true
 ·have hb:=si h1
  have HE:=hid (show fW v n k=0 by unfold fW;rw[if_pos h1])
  rw[show pn v n=0 by unfold pn;rw[if_pos (rf h1)],show tu v n=jb v n by unfold tu;rw[if_pos (rf h1)]]at HAT
  obtain⟨K,rfl⟩:∃K:Nat,k=(K:Int):=⟨k.toNat,by omega⟩
  have HT:=hid (show r7 v n K=jb v n++(47::az 10 K)by unfold r7;rw[if_pos h1];rfl)
  have hlen:=ur v n
  obtain⟨X,hX⟩:∃X,X=jb v n:=⟨_,rfl⟩
  rw[←hX]at HAT HT hlen
  have hd:(az 10 K).length≤3:=gT (by omega)
  have had1:∀W,(Op.stringOp .add ⟨X.toArray⟩ ⟨#[47]⟩).run Tryz.prog W=.ok (.string ⟨(X++[47]).toArray⟩) W:=fun W=>run_string_add_lists W X [47] (by omega) (by decide)
  have had2:∀W,(Op.stringOp .add ⟨(X++[47]).toArray⟩ ⟨(az 10 K).toArray⟩).run Tryz.prog W=.ok (.string ⟨(X++(47::az 10 K)).toArray⟩) W:=fun W=>by
   have:=run_string_add_lists (P:=Tryz.prog) W (X++[47]) (az 10 K) (by simp;omega) (by omega)
   rw[this]
   simp
  have HIT:=hid (fun W (hW:dG W)=>Gl K (by omega) W hW)
  clear hX hlen hd
  rw[HE.out]at HK ⊢
  rw[HT.out]
  go_enter Tryz.func72,Tryz.ntmps72
  go_wp2_with (first
   | (go_at_call 50;refine(HK.out _).mono ?_;rintro e w2 ⟨rfl,C2⟩)
   | (go_at_call 53;refine(HAT.out _ (HL1.out.cy C2)).mono ?_;rintro e w3 ⟨rfl,C3⟩;have ck:=((HB.out.aP C2 (by simp)).aP C3 (by simp)).cell_of (oQ v n K))
   | (go_at_call 71;refine(HIT.out _ ((HL1.out.cy C2).cy C3)).mono ?_;rintro e w4 ⟨rfl,C4⟩)
   | (refine Nd rfl _ rfl w.heap.size rfl 29 v n K (HB.out.aP C2 (by simp)) ?_)
   | (refine LR rfl _ rfl w.heap.size rfl 29 v n K HB.out ?_))
  go_ret2
  exact⟨rfl,((HC.out.trans C2).trans C3).trans C4⟩
 ·have HE:=hid (show fW v n k=151 by unfold fW;rw[if_neg h1])
  have HT:=hid (show r7 v n k=[] by unfold r7;rw[if_neg h1])
  rw[HE.out]at HK ⊢
  rw[HT.out]
  go_enter Tryz.func72,Tryz.ntmps72
  go_wp2_with (first
   | (go_at_call 50;refine(HK.out _).mono ?_;rintro e w2 ⟨rfl,C2⟩)
   | (refine LR rfl _ rfl w.heap.size rfl 29 v n k HB.out ?_))
  go_ret2
  exact⟨rfl,HC.out.trans C2⟩
open Go.RowKit Go.Lib Go.Sort
def zC(s:List UInt8)(v:Bool)(n:Nat)(k:Int):Prop:=n < 2^128∧gg v n k=true∧oF v n k=s
def Mu(s:List UInt8)(w:World)(e:Ending)(w':World):Prop:=
 ∃(v:Bool) (n:Nat) (k:Int) (er:Int),e=.returned (.tuple #[.agg (eM v n k).toArray,.int .i64 er])∧aw [] w w'∧((er=0∧zC s v n k∧∀v' m j,zC s v' m j→v'=v∧m=n∧j=k)∨(er=151∧v=false∧n=0∧k=0∧∀v' m j,¬zC s v' m j))
theorem xy(v:Bool)(n:Nat):(47:UInt8)∉jb v n:=by
 have hd:∀u,(47:UInt8)∉az 10 u:=fun u=>iW (by omega) (by omega) (.inl (by decide))
 have hx:∀u,(47:UInt8)∉az 16 u:=fun u=>iW (by omega) (by omega) (.inl (by decide))
 have hj:∀l:List Nat,(47:UInt8)∉de l:=fun l h=>by
  rcases fA h with h|⟨x,hx2,h⟩
  ·exact absurd h (by decide)
  ·rw[List.mem_map]at hx2
   obtain⟨u,_,rfl⟩:=hx2
   exact hx u h
 cases v with
 |false=>
  intro h
  rcases fA (show(47:UInt8)∈gG n from h)with h|⟨x,hx,h⟩
  ·exact absurd h (by decide)
  ·simp at hx
   rcases hx with rfl|rfl|rfl|rfl<;>exact hd _ h
 |true=>
  show(47:UInt8)∉dD (bS n)
  unfold dD
  split
  ·exact hj _
  ·intro h
   rw[List.mem_append,List.mem_cons,List.mem_cons]at h
   rcases h with h|h|h|h
   ·exact hj _ h
   ·exact absurd h (by decide)
   ·exact absurd h (by decide)
   ·exact hj _ h
theorem vm(l m:List UInt8)(h:(47:UInt8)∉l):Lib.cut (l++47::m) [47]=(l,m,true):=by
 unfold Lib.cut
 rw[od 47 l m h,if_pos (by omega)]
 simp only[Int.toNat_natCast]
 rw[List.take_left' rfl]
 congr 2
 rw[show l++47::m=(l++[47])++m by simp]
 exact List.drop_left' (by simp)
theorem G1(s:List UInt8):((Lib.cut s [47]).2.1=[])∨s=(Lib.cut s [47]).1++47::(Lib.cut s [47]).2.1:=by
 by_cases h:(47:UInt8)∈s
 ·obtain⟨a,b,rfl,ha⟩:=s7 47 s h
  rw[vm a b ha]
  exact .inr rfl
 ·left
  unfold Lib.cut
  rcases Lib.index_spec s [47]with⟨h1,_⟩ | ⟨i,_,_,h3,_⟩
  ·rw[h1];rfl
  ·exact absurd (List.mem_of_getElem? ((BQ s 47 i).1 h3)) h
set_option maxHeartbeats 8000000 in
theorem Fm(s:List UInt8)(hs:s.length≤100000000)(w:World)(HL:dG w):Calls Tryz.prog 16 #[.string ⟨s.toArray⟩] w (Mu s w):=by
 have HCUT:=hid (fun W (hW:dG W)=>G2 s [47] (by omega) W hW)
 have hcl:=Cp s [47]
 have hcb:=G1 s
 have HCS:=hid (fun v n k (h:zC s v n k)=>(show(Lib.cut s [47]).1=jb v n∧(Lib.cut s [47]).2.1=az 10 k.toNat by
  have:=vm (jb v n) (az 10 k.toNat) (xy v n)
  rw[←h.2.2]
  unfold oF
  rw[this]
  exact⟨rfl,rfl⟩))
 obtain⟨at_,hat⟩:∃x,x=(Lib.cut s [47]).1:=⟨_,rfl⟩
 obtain⟨bt,hbt⟩:∃x,x=(Lib.cut s [47]).2.1:=⟨_,rfl⟩
 obtain⟨b,hb⟩:∃x,x=(Lib.cut s [47]).2.2:=⟨_,rfl⟩
 rw[←hat,←hbt]at hcl hcb HCS
 rw[←hat,←hbt,←hb]at HCUT
 clear hat hbt hb
 have HCB:=hid hcb
 have HRA:=hid (fun W (hW:dG W)=>zW at_ (by omega) W hW)
 have HNU:=hid (fun W (hW:dG W)=>BR 10 128 (.inl rfl) (by omega) ⟨bt.toArray⟩ (by simp[ByteArray.size];omega) W hW)
 have HR:=hid (aB.new w 29 iA)
 have HC:=hid ((aw.refl [] w).alloc (.cells iA 29))
 have HL1:=hid (HL.alloc (.cells iA 29))
 clear HL hs hcl hcb
 go_enter Tryz.func16,Tryz.ntmps16
 go_wp2_with (first
  | (go_at_call 48;refine(HCUT.out _ HL1.out).mono ?_;rintro e w1 ⟨rfl,C1⟩)
  | (go_at_call 14;refine(HRA.out _ (HL1.out.cy C1)).mono ?_))
 rintro e w2 ⟨v,n,er,rfl,C2,hra⟩
 have HR2:=hid ((HR.out.aP C1 (by simp)).aP C2 (by simp))
 have HC2:=hid ((HC.out.trans C1).trans C2)
 have HL2:=hid ((HL1.out.cy C1).cy C2)
 have HLT:=hid (show w.heap.size < w2.heap.size from HR2.out.lt)
 clear HR HC HL1 C1 C2
 have HB3:=hid ((aB.new w2 24 (aK false fun _=>0).toArray).row (eS v n))
 have HR3:=hid (show aB ((w2.alloc (.cells (aK false fun _=>0).toArray 24)).setRow w2.heap.size (eS v n).toArray) w.heap.size 29 iA.toList from(HR2.out.alloc _).aP (S:=[w2.heap.size]) ((aw.refl _ _).setRow (g:=w2.heap.size) (.inl (by simp)) _) (by have:=HLT.out;simp;omega))
 have HC3:=hid ((HC2.out.alloc (.cells (aK false fun _=>0).toArray 24)).setRow (g:=w2.heap.size) (.inr (Nat.le_of_lt HLT.out)) (eS v n).toArray)
 have HL3:=hid ((HL2.out.alloc (.cells (aK false fun _=>0).toArray 24)).aP (S:=[w2.heap.size]) ((aw.refl _ _).setRow (g:=w2.heap.size) (.inl (by simp)) (eS v n).toArray) (by intro j hj;have:=HL2.out.low;rw[List.mem_singleton]at hj;omega))
 have HRAW:=hid hra
 clear hra
 go_wp2_with (first
  | (go_at_call 49;refine(HNU.out _ HL3.out).mono ?_)
  | (refine jW rfl _ _ rfl w2.heap.size v (ay n) rfl rfl 24 (aK false fun _=>0) (aB.new w2 24 (aK false fun _=>0).toArray) (aI _ _) ?_))
 rintro e w3 ⟨u,ok,rfl,C3,u0,u1,hok,hcan⟩
 have HOK:=hid hok
 have HCAN:=hid hcan
 have HB4:=hid (HB3.out.aP C3 (by simp))
 have HR4:=hid (HR3.out.aP C3 (by simp))
 have HC4:=hid (HC3.out.trans C3)
 have HLT4:=hid (show w.heap.size < w3.heap.size from HR4.out.lt)
 clear hok hcan HB3 HR3 HC3 HL3 C3 HR2 HC2 HL2 HLT HCUT HRA HNU
 have hra:=HRAW.out
 clear HRAW
 obtain⟨kk,hkk⟩:∃kk,kk=IntKind.i64.wrap u:=⟨_,rfl⟩
 rcases hra with⟨rfl,hia,hun⟩ | ⟨rfl,rfl,rfl,hno⟩
 ·have HIA:=hid hia
  have HUN:=hid hun
  clear hia hun
  cases ok with
  |false=>
   have HF:=hid (show ∀v' m j,¬zC s v' m j from fun v' m j h=>by
    have h2:=(HCS.out v' m j h).2
    have hb:=si h.2.1
    have:=(HCAN.out j.toNat (by omega) h2).2
    cases this)
   have hkk':=hkk.symm
   clear hkk u1
   have HR5:=hid (show aB ((w3.alloc (.cells iA 29)).setRow w3.heap.size (eM v n kk).toArray) w.heap.size 29 iA.toList from(HR4.out.alloc _).aP (S:=[w3.heap.size]) ((aw.refl _ _).setRow (g:=w3.heap.size) (.inl (by simp)) _) (by have:=HLT4.out;simp;omega))
   have HC5:=hid ((HC4.out.alloc (.cells iA 29)).setRow (g:=w3.heap.size) (.inr (Nat.le_of_lt HLT4.out)) (eM v n kk).toArray)
   go_wp2_with (first
    | (refine iI rfl _ rfl w2.heap.size rfl 24 v n HB4.out ?_)
    | (refine Kf rfl _ _ rfl v n kk rfl rfl ?_)
    | (refine CG rfl _ _ rfl w3.heap.size v n kk rfl rfl 29 _ (aB.new w3 29 iA) rfl ?_)
    | (refine ER rfl _ _ rfl w.heap.size rfl rfl 29 _ HR5.out rfl ?_))
   refine bodyPost_ret (BB rfl _ _ w.heap.size false 0 0 29 _ rfl rfl (HR5.out.row (eM false 0 0))) rfl ?_
   exact⟨false,0,0,151,rfl,HC5.out.setRow (.inr (Nat.le_refl _)) _,.inr ⟨rfl,rfl,rfl,rfl,HF.out⟩⟩
  |true=>
   obtain⟨N,rfl,hN,hNt⟩:=HOK.out rfl
   have hkk':IntKind.i64.wrap (N:Int)=(N:Int):=by rw[IntKind.wrap_i64];omega
   rw[hkk']at hkk
   subst hkk
   have hNN:(N:Int)≤128:=by omega
   have HNT:=hid hNt
   clear u1 hNt
   have HSS:=hid (show s=jb v n++47::az 10 N from by
    rcases HCB.out with h|h
    ·have h5:bt=az 10 N:=HNT.out
     rw[h]at h5
     exact absurd h5.symm (mX N)
    ·rw[h,←HIA.out.2.2]
     have h5:bt=az 10 N:=HNT.out
     rw[h5])
   have HCH:=hid (fun v' m j (h:zC s v' m j)=>(show v'=v∧m=n∧j=(N:Int)from by
    obtain⟨h1,h2⟩:=HCS.out v' m j h
    have hb:=si h.2.1
    have h3:=HUN.out v' m ⟨h.1,rf h.2.1,h1.symm⟩
    have h4:bt=az 10 N:=HNT.out
    have h5:j.toNat=N:=yV (by omega) (by omega) (h2.symm.trans h4)
    exact⟨h3.1,h3.2,by omega⟩))
   have HK:=hid (rn v n N HIA.out.1)
   by_cases hP:gg v n N=true
   ·have HF:=hid (show zC s v n N∧∀v' m j,zC s v' m j→v'=v∧m=n∧j=(N:Int)from⟨⟨HIA.out.1,hP,HSS.out.symm⟩,HCH.out⟩)
    rw[show fW v n N=0 by unfold fW;rw[if_pos hP]]at HK
    have HR5:=hid (show aB ((w3.alloc (.cells iA 29)).setRow w3.heap.size (eM v n N).toArray) w.heap.size 29 iA.toList from(HR4.out.alloc _).aP (S:=[w3.heap.size]) ((aw.refl _ _).setRow (g:=w3.heap.size) (.inl (by simp)) _) (by have:=HLT4.out;simp;omega))
    have HC5:=hid ((HC4.out.alloc (.cells iA 29)).setRow (g:=w3.heap.size) (.inr (Nat.le_of_lt HLT4.out)) (eM v n N).toArray)
    go_wp2_with (first
     | (go_at_call 50;refine(HK.out _).mono ?_;rintro e w6 ⟨rfl,C6⟩)
     | (refine iI rfl _ rfl w2.heap.size rfl 24 v n HB4.out ?_)
     | (refine Kf rfl _ _ rfl v n N rfl rfl ?_)
     | (refine CG rfl _ _ rfl w3.heap.size v n N rfl rfl 29 _ (aB.new w3 29 iA) rfl ?_)
     | (refine KH rfl _ rfl w3.heap.size rfl 29 v n N ((aB.new w3 29 iA).row _) ?_)
     | (refine LR rfl _ rfl w3.heap.size rfl 29 v n N (((aB.new w3 29 iA).row _).aP C6 (by simp)) ?_)
     | (refine CG rfl _ _ rfl w.heap.size v n N rfl rfl 29 _ (HR5.out.aP C6 (by simp)) rfl ?_))
    refine bodyPost_ret (BB rfl _ _ w.heap.size v n N 29 _ rfl rfl ((HR5.out.aP C6 (by simp)).row (eM v n N))) rfl ?_
    exact⟨v,n,N,0,rfl,(HC5.out.trans C6).setRow (.inr (Nat.le_refl _)) _,.inl ⟨rfl,HF.out.1,HF.out.2⟩⟩
   ·have HF:=hid (show ∀v' m j,¬zC s v' m j from fun v' m j h=>by
     obtain⟨rfl,rfl,rfl⟩:=HCH.out v' m j h
     exact hP h.2.1)
    rw[show fW v n N=151 by unfold fW;rw[if_neg hP]]at HK
    have HR5:=hid (show aB ((w3.alloc (.cells iA 29)).setRow w3.heap.size (eM v n N).toArray) w.heap.size 29 iA.toList from(HR4.out.alloc _).aP (S:=[w3.heap.size]) ((aw.refl _ _).setRow (g:=w3.heap.size) (.inl (by simp)) _) (by have:=HLT4.out;simp;omega))
    have HC5:=hid ((HC4.out.alloc (.cells iA 29)).setRow (g:=w3.heap.size) (.inr (Nat.le_of_lt HLT4.out)) (eM v n N).toArray)
    go_wp2_with (first
     | (go_at_call 50;refine(HK.out _).mono ?_;rintro e w6 ⟨rfl,C6⟩)
     | (refine iI rfl _ rfl w2.heap.size rfl 24 v n HB4.out ?_)
     | (refine Kf rfl _ _ rfl v n N rfl rfl ?_)
     | (refine CG rfl _ _ rfl w3.heap.size v n N rfl rfl 29 _ (aB.new w3 29 iA) rfl ?_)
     | (refine KH rfl _ rfl w3.heap.size rfl 29 v n N ((aB.new w3 29 iA).row _) ?_)
     | (refine ER rfl _ _ rfl w.heap.size rfl rfl 29 _ (HR5.out.aP C6 (by simp)) rfl ?_))
    refine bodyPost_ret (BB rfl _ _ w.heap.size false 0 0 29 _ rfl rfl ((HR5.out.aP C6 (by simp)).row (eM false 0 0))) rfl ?_
    exact⟨false,0,0,151,rfl,(HC5.out.trans C6).setRow (.inr (Nat.le_refl _)) _,.inr ⟨rfl,rfl,rfl,rfl,HF.out⟩⟩
 ·have HF:=hid (show ∀v' m j,¬zC s v' m j from fun v' m j h=>by
   have h1:=(HCS.out v' m j h).1
   exact hno v' m ⟨h.1,rf h.2.1,h1.symm⟩)
  have hkk':=hkk.symm
  clear hkk u1 hno
  have HR5:=hid (show aB ((w3.alloc (.cells iA 29)).setRow w3.heap.size (eM false 0 kk).toArray) w.heap.size 29 iA.toList from(HR4.out.alloc _).aP (S:=[w3.heap.size]) ((aw.refl _ _).setRow (g:=w3.heap.size) (.inl (by simp)) _) (by have:=HLT4.out;simp;omega))
  have HC5:=hid ((HC4.out.alloc (.cells iA 29)).setRow (g:=w3.heap.size) (.inr (Nat.le_of_lt HLT4.out)) (eM false 0 kk).toArray)
  go_wp2_with (first
   | (refine iI rfl _ rfl w2.heap.size rfl 24 false 0 HB4.out ?_)
   | (refine Kf rfl _ _ rfl false 0 kk rfl rfl ?_)
   | (refine CG rfl _ _ rfl w3.heap.size false 0 kk rfl rfl 29 _ (aB.new w3 29 iA) rfl ?_)
   | (refine ER rfl _ _ rfl w.heap.size rfl rfl 29 _ HR5.out rfl ?_))
  refine bodyPost_ret (BB rfl _ _ w.heap.size false 0 0 29 _ rfl rfl (HR5.out.row (eM false 0 0))) rfl ?_
  exact⟨false,0,0,151,rfl,HC5.out.setRow (.inr (Nat.le_refl _)) _,.inr ⟨rfl,rfl,rfl,rfl,HF.out⟩⟩
end Go.Proofs.YtnncigmpcdehnaaGreatDoor
