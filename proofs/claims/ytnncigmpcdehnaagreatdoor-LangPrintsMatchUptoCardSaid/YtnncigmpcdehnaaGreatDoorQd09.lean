import Derived.Test.YtnncigmpcdehnaaGreatDoorQd08
namespace Go.Proofs.YtnncigmpcdehnaaGreatDoor
set_option maxRecDepth 100000
open Go.RowKit Go.Lib Go.Sort
def IM(s:List UInt8)(v:Bool)(n:Nat):Prop:=n < 2^128∧iG v n=true∧fC v n=s
def Nj(s:List UInt8)(w:World)(e:Ending)(w':World):Prop:=
 ∃(v:Bool) (n:Nat) (er:Int),e=.returned (.tuple #[.agg (cx v n).toArray,.int .i64 er])∧ag [] w w'∧((er=0∧IM s v n∧∀v' m,IM s v' m→v'=v∧m=n)∨(er=150∧v=false∧n=0∧∀v' m,¬IM s v' m))
theorem Ii:Tryz.prog.built 24 []=some (cx false 0).toArray:=by kernel_rfl
theorem LR{ops:Array Oper}{rest:List Oper}{o:Oper}{a:Act}{w:World}{Q:Exit→Act→World→Prop}(hg:o.guard=none)(ho:o.op=.build 24 #[])
  (h:wpList Tryz.prog ops Q rest (a.put o.dst (.agg (cx false 0).toArray)) w):wpList Tryz.prog ops Q (o::rest) a w:=by
 have e:Tryz.prog.built 24 ((#[]:Array (Nat×Operand)).map fun(i,z)=>(i,a.eval z)).toList=some (cx false 0).toArray:=by
  rw[Array.map_empty]
  exact Ii
 refine wpList_build hg 24 _ ho (by rw[e];rfl) ?_
 rw[e]
 exact h
theorem u4{s:List UInt8}{m:Nat}(h:IM s true m):(58:UInt8)∈s:=by
 rw[←h.2.2];exact Bq m
theorem uZ{s:List UInt8}{m:Nat}(h:IM s false m):(58:UInt8)∉s:=by
 rw[←h.2.2];exact zx m
theorem F0{w w3:World}{v:Bool}{n:Nat}(h:aq w3 w.heap.size 24 (az false fun _=>0)):aq ((w3.alloc (.cells (az false fun _=>0).toArray 24)).setRow w3.heap.size (az v (ah n)).toArray) w.heap.size 24 (az false fun _=>0):=
 (h.alloc _).aF (S:=[w3.heap.size]) ((ag.refl _ _).setRow (.inl (by simp)) _) (by have:=h.lt;simp;omega)
set_option maxHeartbeats 4000000 in
theorem AD(s:List UInt8)(hs:s.length≤100000000)(w:World)(HL:dJ w):Calls Tryz.prog 14 #[.string ⟨s.toArray⟩] w (Nj s w):=by
 have HR:=hid (aq.new w 24 (az false fun _=>0).toArray)
 have HC:=hid ((ag.refl [] w).alloc (.cells (az false fun _=>0).toArray 24))
 have HL1:=hid (HL.alloc (.cells (az false fun _=>0).toArray 24))
 have HCT:=hid (Bo s 58)
 have HW:=hid (fun W (hW:dJ W)=>LY s hs W hW)
 have HD:=hid (fun W (hW:dJ W)=>Hu s hs W hW)
 clear HL
 by_cases hc:(58:UInt8)∈s
 ·rw[decide_eq_true hc]at HCT
  have HCC:=hid hc
  clear hc
  go_enter Tryz.func14,Tryz.ntmps14
  go_wp2_with (first | (go_at_call 43;refine(HCT.out _).mono ?_;rintro e w2 ⟨rfl,hw2⟩;subst hw2) | (go_at_call 42;refine(HW.out _ HL1.out).mono ?_))
  rintro e w3 ⟨n,ok,rfl,C3,hn,hok,hcan⟩
  have HN:=hid hn
  have HOK:=hid hok
  have HCAN:=hid hcan
  have HW3:=hid (Nat.le_trans (Nat.le_of_lt (HR.out.lt)) C3.size)
  have HC3:=hid ((HC.out.trans C3).alloc (.cells (az false fun _=>0).toArray 24))
  have HRW:=hid (F0 (w:=w) (v:=true) (n:=n) (HR.out.aF C3 (by simp)))
  clear hn hok hcan HR HC HW HD HCT
  cases ok with
  |true=>
   have HF:=hid (show IM s true n∧∀v' m,IM s v' m→v'=true∧m=n from⟨⟨HN.out,vW n,HOK.out rfl⟩,fun v' m hm=>by
    cases v' with
    |true=>exact⟨rfl,(HCAN.out m hm.1 hm.2.2.symm).1.symm⟩
    |false=>exact absurd HCC.out (uZ hm)⟩)
   go_wp2_with (first
    | (refine jT rfl _ _ rfl w3.heap.size true (ah n) rfl rfl 24 _ (aq.new w3 24 (az false fun _=>0).toArray) (ay _ _) ?_)
    | (refine ik rfl _ rfl w3.heap.size rfl 24 true n ((aq.new w3 24 (az false fun _=>0).toArray).row _) ?_)
    | (refine jT rfl _ _ rfl w.heap.size true (ah n) rfl rfl 24 (az false fun _=>0) HRW.out (ay _ _) ?_))
   refine bodyPost_ret (jy rfl _ _ w.heap.size true (ah n) 24 _ rfl rfl (HRW.out.row (cx true n))) rfl ?_
   exact⟨true,n,0,rfl,(HC3.out.setRow (.inr HW3.out) _).setRow (.inr (Nat.le_refl _)) _,.inl ⟨rfl,HF.out.1,HF.out.2⟩⟩
  |false=>
   have HF:=hid (show ∀v' m,¬IM s v' m from fun v' m hm=>by
    cases v' with
    |true=>exact absurd (HCAN.out m hm.1 hm.2.2.symm).2 (by decide)
    |false=>exact absurd HCC.out (uZ hm))
   go_wp2_with (first
    | (refine jT rfl _ _ rfl w3.heap.size true (ah n) rfl rfl 24 _ (aq.new w3 24 (az false fun _=>0).toArray) (ay _ _) ?_)
    | (refine LR rfl rfl ?_)
    | (refine jT rfl _ _ rfl w.heap.size false (ah 0) rfl rfl 24 (az false fun _=>0) HRW.out (ay _ _) ?_))
   refine bodyPost_ret (jy rfl _ _ w.heap.size false (ah 0) 24 _ rfl rfl (HRW.out.row (cx false 0))) rfl ?_
   exact⟨false,0,150,rfl,(HC3.out.setRow (.inr HW3.out) _).setRow (.inr (Nat.le_refl _)) _,.inr ⟨rfl,rfl,rfl,HF.out⟩⟩
 ·rw[decide_eq_false hc]at HCT
  have HCC:=hid hc
  clear hc
  go_enter Tryz.func14,Tryz.ntmps14
  go_wp2_with (first | (go_at_call 43;refine(HCT.out _).mono ?_;rintro e w2 ⟨rfl,hw2⟩;subst hw2) | (go_at_call 44;refine(HD.out _ HL1.out).mono ?_))
  rintro e w3 ⟨n,ok,rfl,C3,hn,hok,hcan⟩
  have HN:=hid hn
  have HOK:=hid hok
  have HCAN:=hid hcan
  have HW3:=hid (Nat.le_trans (Nat.le_of_lt (HR.out.lt)) C3.size)
  have HC3:=hid ((HC.out.trans C3).alloc (.cells (az false fun _=>0).toArray 24))
  have HRW:=hid (F0 (w:=w) (v:=false) (n:=n) (HR.out.aF C3 (by simp)))
  clear hn hok hcan HR HC HW HD HCT
  cases ok with
  |true=>
   have HF:=hid (show IM s false n∧∀v' m,IM s v' m→v'=false∧m=n from⟨⟨HN.out,(HOK.out rfl).1,(HOK.out rfl).2⟩,fun v' m hm=>by
    cases v' with
    |false=>exact⟨rfl,(HCAN.out m hm.1 hm.2.1 hm.2.2.symm).1.symm⟩
    |true=>exact absurd (u4 hm) HCC.out⟩)
   go_wp2_with (first
    | (refine jT rfl _ _ rfl w3.heap.size false (ah n) rfl rfl 24 _ (aq.new w3 24 (az false fun _=>0).toArray) (ay _ _) ?_)
    | (refine ik rfl _ rfl w3.heap.size rfl 24 false n ((aq.new w3 24 (az false fun _=>0).toArray).row _) ?_)
    | (refine jT rfl _ _ rfl w.heap.size false (ah n) rfl rfl 24 (az false fun _=>0) HRW.out (ay _ _) ?_))
   refine bodyPost_ret (jy rfl _ _ w.heap.size false (ah n) 24 _ rfl rfl (HRW.out.row (cx false n))) rfl ?_
   exact⟨false,n,0,rfl,(HC3.out.setRow (.inr HW3.out) _).setRow (.inr (Nat.le_refl _)) _,.inl ⟨rfl,HF.out.1,HF.out.2⟩⟩
  |false=>
   have HF:=hid (show ∀v' m,¬IM s v' m from fun v' m hm=>by
    cases v' with
    |false=>exact absurd (HCAN.out m hm.1 hm.2.1 hm.2.2.symm).2 (by decide)
    |true=>exact absurd (u4 hm) HCC.out)
   go_wp2_with (first
    | (refine jT rfl _ _ rfl w3.heap.size false (ah n) rfl rfl 24 _ (aq.new w3 24 (az false fun _=>0).toArray) (ay _ _) ?_)
    | (refine LR rfl rfl ?_)
    | (refine jT rfl _ _ rfl w.heap.size false (ah 0) rfl rfl 24 (az false fun _=>0) HRW.out (ay _ _) ?_))
   refine bodyPost_ret (jy rfl _ _ w.heap.size false (ah 0) 24 _ rfl rfl (HRW.out.row (cx false 0))) rfl ?_
   exact⟨false,0,150,rfl,(HC3.out.setRow (.inr HW3.out) _).setRow (.inr (Nat.le_refl _)) _,.inr ⟨rfl,rfl,rfl,HF.out⟩⟩
open Go.RowKit Go.Lib Go.Sort
theorem o7{v:Bool}{n:Nat}{k:Int}(h:fA v n k=true):iG v n=true:=by
 unfold fA at h
 simp only[Bool.and_eq_true,decide_eq_true_eq]at h
 obtain⟨⟨h1,h2⟩,h3⟩:=h
 have:=yj v n k.toNat (by omega)
 rwa [h3]at this
theorem lZ{v:Bool}{n:Nat}{k:Int}(h:fA v n k=true):0≤k∧k≤128:=by
 have hw:=eV v
 unfold fA at h
 simp only[Bool.and_eq_true,decide_eq_true_eq]at h
 omega
theorem pT(v:Bool)(n:Nat):(fC v n).length≤8000:=by
 cases v with
 |false=>
  have h:=iS 46 3 [ak 10 (ah n 0),ak 10 (ah n 1),ak 10 (ah n 2),ak 10 (ah n 3)] (fun x hx=>by
   simp at hx
   rcases hx with rfl|rfl|rfl|rfl<;>exact gO (by have:=aZ n 0;have:=aZ n 1;have:=aZ n 2;have:=aZ n 3;omega))
  show(fD n).length≤8000
  unfold fD
  simp only[List.length_cons,List.length_nil]at h
  omega
 |true=>
  have hj:∀m:List Nat,(∀u∈m,u < 65536)→m.length≤8→(aO m).length≤40:=fun m hm hm8=>by
   have:=iS 58 4 (m.map (ak 16)) (fun x hx=>by
    rw[List.mem_map]at hx
    obtain⟨u,hu,rfl⟩:=hx
    exact gN (hm u hu))
   rw[List.length_map]at this
   unfold aO
   omega
  show(cH (aM n)).length≤8000
  unfold cH
  split
  ·have:=hj (aM n) (fun u hu=>gn hu) (by rw[ep];omega)
   omega
  ·have h1:=hj ((aM n).take (gq (zs (aM n))).1) (fun u hu=>gn (List.mem_of_mem_take hu)) (by rw[List.length_take,ep];omega)
   have h2:=hj ((aM n).drop (gq (zs (aM n))).2) (fun u hu=>gn (List.mem_of_mem_drop hu)) (by rw[List.length_drop,ep];omega)
   simp only[List.length_append,List.length_cons]
   omega
def ly(v:Bool)(n:Nat)(k:Int):List UInt8:=fC v n++(47::ak 10 k.toNat)
def nY(v:Bool)(n:Nat)(k:Int):List UInt8:=if fA v n k then ly v n k else []
set_option maxHeartbeats 4000000 in
theorem Ak(v:Bool)(n:Nat)(k:Int)(hn:n < 2^128)(w:World)(HL:dJ w):Calls Tryz.prog 72 #[.agg (cV v n k).toArray] w fun e w'=>e=.returned (.tuple #[.string ⟨(nY v n k).toArray⟩,.int .i64 (df v n k)])∧ag [] w w':=by
 have HB:=hid (aq.new w 29 (cV v n k).toArray)
 have HC:=hid ((ag.refl [] w).alloc (.cells (cV v n k).toArray 29))
 have HL1:=hid (HL.alloc (.cells (cV v n k).toArray 29))
 have HK:=hid (rv v n k hn)
 have HAT:=hid (fun W (hW:dJ W)=>oD v n hn W hW)
 clear HL
 by_cases h1:fA v n k=true
 ·have hb:=lZ h1
  have HE:=hid (show df v n k=0 by unfold df;rw[if_pos h1])
  rw[show eu v n=0 by unfold eu;rw[if_pos (o7 h1)],show lH v n=fC v n by unfold lH;rw[if_pos (o7 h1)]]at HAT
  obtain⟨K,rfl⟩:∃K:Nat,k=(K:Int):=⟨k.toNat,by omega⟩
  have HT:=hid (show nY v n K=fC v n++(47::ak 10 K)by unfold nY;rw[if_pos h1];rfl)
  have hlen:=pT v n
  obtain⟨X,hX⟩:∃X,X=fC v n:=⟨_,rfl⟩
  rw[←hX]at HAT HT hlen
  have hd:(ak 10 K).length≤3:=gO (by omega)
  have had1:∀W,(Op.stringOp .add ⟨X.toArray⟩ ⟨#[47]⟩).run Tryz.prog W=.ok (.string ⟨(X++[47]).toArray⟩) W:=fun W=>run_string_add_lists W X [47] (by omega) (by decide)
  have had2:∀W,(Op.stringOp .add ⟨(X++[47]).toArray⟩ ⟨(ak 10 K).toArray⟩).run Tryz.prog W=.ok (.string ⟨(X++(47::ak 10 K)).toArray⟩) W:=fun W=>by
   have:=run_string_add_lists (P:=Tryz.prog) W (X++[47]) (ak 10 K) (by simp;omega) (by omega)
   rw[this]
   simp
  have HIT:=hid (fun W (hW:dJ W)=>GX K (by omega) W hW)
  clear hX hlen hd
  rw[HE.out]at HK ⊢
  rw[HT.out]
  go_enter Tryz.func72,Tryz.ntmps72
  go_wp2_with (first
   | (go_at_call 50;refine(HK.out _).mono ?_;rintro e w2 ⟨rfl,C2⟩)
   | (go_at_call 53;refine(HAT.out _ (HL1.out.cS C2)).mono ?_;rintro e w3 ⟨rfl,C3⟩;have ck:=((HB.out.aF C2 (by simp)).aF C3 (by simp)).cell_of (gg v n K))
   | (go_at_call 71;refine(HIT.out _ ((HL1.out.cS C2).cS C3)).mono ?_;rintro e w4 ⟨rfl,C4⟩)
   | (refine Oj rfl _ rfl w.heap.size rfl 29 v n K (HB.out.aF C2 (by simp)) ?_)
   | (refine MH rfl _ rfl w.heap.size rfl 29 v n K HB.out ?_))
  go_ret2
  exact⟨rfl,((HC.out.trans C2).trans C3).trans C4⟩
 ·have HE:=hid (show df v n k=151 by unfold df;rw[if_neg h1])
  have HT:=hid (show nY v n k=[] by unfold nY;rw[if_neg h1])
  rw[HE.out]at HK ⊢
  rw[HT.out]
  go_enter Tryz.func72,Tryz.ntmps72
  go_wp2_with (first
   | (go_at_call 50;refine(HK.out _).mono ?_;rintro e w2 ⟨rfl,C2⟩)
   | (refine MH rfl _ rfl w.heap.size rfl 29 v n k HB.out ?_))
  go_ret2
  exact⟨rfl,HC.out.trans C2⟩
open Go.RowKit Go.Lib Go.Sort
def Af(s:List UInt8)(v:Bool)(n:Nat)(k:Int):Prop:=n < 2^128∧fA v n k=true∧ly v n k=s
def Ni(s:List UInt8)(w:World)(e:Ending)(w':World):Prop:=
 ∃(v:Bool) (n:Nat) (k:Int) (er:Int),e=.returned (.tuple #[.agg (cV v n k).toArray,.int .i64 er])∧ag [] w w'∧((er=0∧Af s v n k∧∀v' m j,Af s v' m j→v'=v∧m=n∧j=k)∨(er=151∧v=false∧n=0∧k=0∧∀v' m j,¬Af s v' m j))
theorem xL(v:Bool)(n:Nat):(47:UInt8)∉fC v n:=by
 have hd:∀u,(47:UInt8)∉ak 10 u:=fun u=>iT (by omega) (by omega) (.inl (by decide))
 have hx:∀u,(47:UInt8)∉ak 16 u:=fun u=>iT (by omega) (by omega) (.inl (by decide))
 have hj:∀l:List Nat,(47:UInt8)∉aO l:=fun l h=>by
  rcases fm h with h|⟨x,hx2,h⟩
  ·exact absurd h (by decide)
  ·rw[List.mem_map]at hx2
   obtain⟨u,_,rfl⟩:=hx2
   exact hx u h
 cases v with
 |false=>
  intro h
  rcases fm (show(47:UInt8)∈fD n from h)with h|⟨x,hx,h⟩
  ·exact absurd h (by decide)
  ·simp at hx
   rcases hx with rfl|rfl|rfl|rfl<;>exact hd _ h
 |true=>
  show(47:UInt8)∉cH (aM n)
  unfold cH
  split
  ·exact hj _
  ·intro h
   rw[List.mem_append,List.mem_cons,List.mem_cons]at h
   rcases h with h|h|h|h
   ·exact hj _ h
   ·exact absurd h (by decide)
   ·exact absurd h (by decide)
   ·exact hj _ h
theorem vo(l m:List UInt8)(h:(47:UInt8)∉l):Lib.cut (l++47::m) [47]=(l,m,true):=by
 unfold Lib.cut
 rw[ou 47 l m h,if_pos (by omega)]
 simp only[Int.toNat_natCast]
 rw[List.take_left' rfl]
 congr 2
 rw[show l++47::m=(l++[47])++m by simp]
 exact List.drop_left' (by simp)
theorem HQ(s:List UInt8):((Lib.cut s [47]).2.1=[])∨s=(Lib.cut s [47]).1++47::(Lib.cut s [47]).2.1:=by
 by_cases h:(47:UInt8)∈s
 ·obtain⟨a,b,rfl,ha⟩:=ts 47 s h
  rw[vo a b ha]
  exact .inr rfl
 ·left
  unfold Lib.cut
  rcases Lib.index_spec s [47]with⟨h1,_⟩ | ⟨i,_,_,h3,_⟩
  ·rw[h1];rfl
  ·exact absurd (List.mem_of_getElem? ((Cs s 47 i).1 h3)) h
set_option maxHeartbeats 8000000 in
theorem FY(s:List UInt8)(hs:s.length≤100000000)(w:World)(HL:dJ w):Calls Tryz.prog 16 #[.string ⟨s.toArray⟩] w (Ni s w):=by
 have HCUT:=hid (fun W (hW:dJ W)=>H3 s [47] (by omega) W hW)
 have hcl:=CY s [47]
 have hcb:=HQ s
 have HCS:=hid (fun v n k (h:Af s v n k)=>(show(Lib.cut s [47]).1=fC v n∧(Lib.cut s [47]).2.1=ak 10 k.toNat by
  have:=vo (fC v n) (ak 10 k.toNat) (xL v n)
  rw[←h.2.2]
  unfold ly
  rw[this]
  exact⟨rfl,rfl⟩))
 obtain⟨at_,hat⟩:∃x,x=(Lib.cut s [47]).1:=⟨_,rfl⟩
 obtain⟨bt,hbt⟩:∃x,x=(Lib.cut s [47]).2.1:=⟨_,rfl⟩
 obtain⟨b,hb⟩:∃x,x=(Lib.cut s [47]).2.2:=⟨_,rfl⟩
 rw[←hat,←hbt]at hcl hcb HCS
 rw[←hat,←hbt,←hb]at HCUT
 clear hat hbt hb
 have HCB:=hid hcb
 have HRA:=hid (fun W (hW:dJ W)=>AD at_ (by omega) W hW)
 have HNU:=hid (fun W (hW:dJ W)=>Ct 10 128 (.inl rfl) (by omega) ⟨bt.toArray⟩ (by simp[ByteArray.size];omega) W hW)
 have HR:=hid (aq.new w 29 iy)
 have HC:=hid ((ag.refl [] w).alloc (.cells iy 29))
 have HL1:=hid (HL.alloc (.cells iy 29))
 clear HL hs hcl hcb
 go_enter Tryz.func16,Tryz.ntmps16
 go_wp2_with (first
  | (go_at_call 48;refine(HCUT.out _ HL1.out).mono ?_;rintro e w1 ⟨rfl,C1⟩)
  | (go_at_call 14;refine(HRA.out _ (HL1.out.cS C1)).mono ?_))
 rintro e w2 ⟨v,n,er,rfl,C2,hra⟩
 have HR2:=hid ((HR.out.aF C1 (by simp)).aF C2 (by simp))
 have HC2:=hid ((HC.out.trans C1).trans C2)
 have HL2:=hid ((HL1.out.cS C1).cS C2)
 have HLT:=hid (show w.heap.size < w2.heap.size from HR2.out.lt)
 clear HR HC HL1 C1 C2
 have HB3:=hid ((aq.new w2 24 (az false fun _=>0).toArray).row (cx v n))
 have HR3:=hid (show aq ((w2.alloc (.cells (az false fun _=>0).toArray 24)).setRow w2.heap.size (cx v n).toArray) w.heap.size 29 iy.toList from(HR2.out.alloc _).aF (S:=[w2.heap.size]) ((ag.refl _ _).setRow (g:=w2.heap.size) (.inl (by simp)) _) (by have:=HLT.out;simp;omega))
 have HC3:=hid ((HC2.out.alloc (.cells (az false fun _=>0).toArray 24)).setRow (g:=w2.heap.size) (.inr (Nat.le_of_lt HLT.out)) (cx v n).toArray)
 have HL3:=hid ((HL2.out.alloc (.cells (az false fun _=>0).toArray 24)).aF (S:=[w2.heap.size]) ((ag.refl _ _).setRow (g:=w2.heap.size) (.inl (by simp)) (cx v n).toArray) (by intro j hj;have:=HL2.out.low;rw[List.mem_singleton]at hj;omega))
 have HRAW:=hid hra
 clear hra
 go_wp2_with (first
  | (go_at_call 49;refine(HNU.out _ HL3.out).mono ?_)
  | (refine jT rfl _ _ rfl w2.heap.size v (ah n) rfl rfl 24 (az false fun _=>0) (aq.new w2 24 (az false fun _=>0).toArray) (ay _ _) ?_))
 rintro e w3 ⟨u,ok,rfl,C3,u0,u1,hok,hcan⟩
 have HOK:=hid hok
 have HCAN:=hid hcan
 have HB4:=hid (HB3.out.aF C3 (by simp))
 have HR4:=hid (HR3.out.aF C3 (by simp))
 have HC4:=hid (HC3.out.trans C3)
 have HLT4:=hid (show w.heap.size < w3.heap.size from HR4.out.lt)
 clear hok hcan HB3 HR3 HC3 HL3 C3 HR2 HC2 HL2 HLT HCUT HRA HNU
 have hra:=HRAW.out
 clear HRAW
 obtain⟨kk,hkk⟩:∃kk,kk=IntKind.i64.wrap u:=⟨_,rfl⟩
 rcases hra with⟨rfl,hia,hun⟩ | ⟨rfl,rfl,rfl,hno⟩
 ·have HIA:=hid hia
  have HUN:=hid hun
  clear hia hun
  cases ok with
  |false=>
   have HF:=hid (show ∀v' m j,¬Af s v' m j from fun v' m j h=>by
    have h2:=(HCS.out v' m j h).2
    have hb:=lZ h.2.1
    have:=(HCAN.out j.toNat (by omega) h2).2
    cases this)
   have hkk':=hkk.symm
   clear hkk u1
   have HR5:=hid (show aq ((w3.alloc (.cells iy 29)).setRow w3.heap.size (cV v n kk).toArray) w.heap.size 29 iy.toList from(HR4.out.alloc _).aF (S:=[w3.heap.size]) ((ag.refl _ _).setRow (g:=w3.heap.size) (.inl (by simp)) _) (by have:=HLT4.out;simp;omega))
   have HC5:=hid ((HC4.out.alloc (.cells iy 29)).setRow (g:=w3.heap.size) (.inr (Nat.le_of_lt HLT4.out)) (cV v n kk).toArray)
   go_wp2_with (first
    | (refine ik rfl _ rfl w2.heap.size rfl 24 v n HB4.out ?_)
    | (refine K6 rfl _ _ rfl v n kk rfl rfl ?_)
    | (refine Dl rfl _ _ rfl w3.heap.size v n kk rfl rfl 29 _ (aq.new w3 29 iy) rfl ?_)
    | (refine FC rfl _ _ rfl w.heap.size rfl rfl 29 _ HR5.out rfl ?_))
   refine bodyPost_ret (Cb rfl _ _ w.heap.size false 0 0 29 _ rfl rfl (HR5.out.row (cV false 0 0))) rfl ?_
   exact⟨false,0,0,151,rfl,HC5.out.setRow (.inr (Nat.le_refl _)) _,.inr ⟨rfl,rfl,rfl,rfl,HF.out⟩⟩
  |true=>
   obtain⟨N,rfl,hN,hNt⟩:=HOK.out rfl
   have hkk':IntKind.i64.wrap (N:Int)=(N:Int):=by rw[IntKind.wrap_i64];omega
   rw[hkk']at hkk
   subst hkk
   have hNN:(N:Int)≤128:=by omega
   have HNT:=hid hNt
   clear u1 hNt
   have HSS:=hid (show s=fC v n++47::ak 10 N from by
    rcases HCB.out with h|h
    ·have h5:bt=ak 10 N:=HNT.out
     rw[h]at h5
     exact absurd h5.symm (lh N)
    ·rw[h,←HIA.out.2.2]
     have h5:bt=ak 10 N:=HNT.out
     rw[h5])
   have HCH:=hid (fun v' m j (h:Af s v' m j)=>(show v'=v∧m=n∧j=(N:Int)from by
    obtain⟨h1,h2⟩:=HCS.out v' m j h
    have hb:=lZ h.2.1
    have h3:=HUN.out v' m ⟨h.1,o7 h.2.1,h1.symm⟩
    have h4:bt=ak 10 N:=HNT.out
    have h5:j.toNat=N:=zp (by omega) (by omega) (h2.symm.trans h4)
    exact⟨h3.1,h3.2,by omega⟩))
   have HK:=hid (rv v n N HIA.out.1)
   by_cases hP:fA v n N=true
   ·have HF:=hid (show Af s v n N∧∀v' m j,Af s v' m j→v'=v∧m=n∧j=(N:Int)from⟨⟨HIA.out.1,hP,HSS.out.symm⟩,HCH.out⟩)
    rw[show df v n N=0 by unfold df;rw[if_pos hP]]at HK
    have HR5:=hid (show aq ((w3.alloc (.cells iy 29)).setRow w3.heap.size (cV v n N).toArray) w.heap.size 29 iy.toList from(HR4.out.alloc _).aF (S:=[w3.heap.size]) ((ag.refl _ _).setRow (g:=w3.heap.size) (.inl (by simp)) _) (by have:=HLT4.out;simp;omega))
    have HC5:=hid ((HC4.out.alloc (.cells iy 29)).setRow (g:=w3.heap.size) (.inr (Nat.le_of_lt HLT4.out)) (cV v n N).toArray)
    go_wp2_with (first
     | (go_at_call 50;refine(HK.out _).mono ?_;rintro e w6 ⟨rfl,C6⟩)
     | (refine ik rfl _ rfl w2.heap.size rfl 24 v n HB4.out ?_)
     | (refine K6 rfl _ _ rfl v n N rfl rfl ?_)
     | (refine Dl rfl _ _ rfl w3.heap.size v n N rfl rfl 29 _ (aq.new w3 29 iy) rfl ?_)
     | (refine LG rfl _ rfl w3.heap.size rfl 29 v n N ((aq.new w3 29 iy).row _) ?_)
     | (refine MH rfl _ rfl w3.heap.size rfl 29 v n N (((aq.new w3 29 iy).row _).aF C6 (by simp)) ?_)
     | (refine Dl rfl _ _ rfl w.heap.size v n N rfl rfl 29 _ (HR5.out.aF C6 (by simp)) rfl ?_))
    refine bodyPost_ret (Cb rfl _ _ w.heap.size v n N 29 _ rfl rfl ((HR5.out.aF C6 (by simp)).row (cV v n N))) rfl ?_
    exact⟨v,n,N,0,rfl,(HC5.out.trans C6).setRow (.inr (Nat.le_refl _)) _,.inl ⟨rfl,HF.out.1,HF.out.2⟩⟩
   ·have HF:=hid (show ∀v' m j,¬Af s v' m j from fun v' m j h=>by
     obtain⟨rfl,rfl,rfl⟩:=HCH.out v' m j h
     exact hP h.2.1)
    rw[show df v n N=151 by unfold df;rw[if_neg hP]]at HK
    have HR5:=hid (show aq ((w3.alloc (.cells iy 29)).setRow w3.heap.size (cV v n N).toArray) w.heap.size 29 iy.toList from(HR4.out.alloc _).aF (S:=[w3.heap.size]) ((ag.refl _ _).setRow (g:=w3.heap.size) (.inl (by simp)) _) (by have:=HLT4.out;simp;omega))
    have HC5:=hid ((HC4.out.alloc (.cells iy 29)).setRow (g:=w3.heap.size) (.inr (Nat.le_of_lt HLT4.out)) (cV v n N).toArray)
    go_wp2_with (first
     | (go_at_call 50;refine(HK.out _).mono ?_;rintro e w6 ⟨rfl,C6⟩)
     | (refine ik rfl _ rfl w2.heap.size rfl 24 v n HB4.out ?_)
     | (refine K6 rfl _ _ rfl v n N rfl rfl ?_)
     | (refine Dl rfl _ _ rfl w3.heap.size v n N rfl rfl 29 _ (aq.new w3 29 iy) rfl ?_)
     | (refine LG rfl _ rfl w3.heap.size rfl 29 v n N ((aq.new w3 29 iy).row _) ?_)
     | (refine FC rfl _ _ rfl w.heap.size rfl rfl 29 _ (HR5.out.aF C6 (by simp)) rfl ?_))
    refine bodyPost_ret (Cb rfl _ _ w.heap.size false 0 0 29 _ rfl rfl ((HR5.out.aF C6 (by simp)).row (cV false 0 0))) rfl ?_
    exact⟨false,0,0,151,rfl,(HC5.out.trans C6).setRow (.inr (Nat.le_refl _)) _,.inr ⟨rfl,rfl,rfl,rfl,HF.out⟩⟩
 ·have HF:=hid (show ∀v' m j,¬Af s v' m j from fun v' m j h=>by
   have h1:=(HCS.out v' m j h).1
   exact hno v' m ⟨h.1,o7 h.2.1,h1.symm⟩)
  have hkk':=hkk.symm
  clear hkk u1 hno
  have HR5:=hid (show aq ((w3.alloc (.cells iy 29)).setRow w3.heap.size (cV false 0 kk).toArray) w.heap.size 29 iy.toList from(HR4.out.alloc _).aF (S:=[w3.heap.size]) ((ag.refl _ _).setRow (g:=w3.heap.size) (.inl (by simp)) _) (by have:=HLT4.out;simp;omega))
  have HC5:=hid ((HC4.out.alloc (.cells iy 29)).setRow (g:=w3.heap.size) (.inr (Nat.le_of_lt HLT4.out)) (cV false 0 kk).toArray)
  go_wp2_with (first
   | (refine ik rfl _ rfl w2.heap.size rfl 24 false 0 HB4.out ?_)
   | (refine K6 rfl _ _ rfl false 0 kk rfl rfl ?_)
   | (refine Dl rfl _ _ rfl w3.heap.size false 0 kk rfl rfl 29 _ (aq.new w3 29 iy) rfl ?_)
   | (refine FC rfl _ _ rfl w.heap.size rfl rfl 29 _ HR5.out rfl ?_))
  refine bodyPost_ret (Cb rfl _ _ w.heap.size false 0 0 29 _ rfl rfl (HR5.out.row (cV false 0 0))) rfl ?_
  exact⟨false,0,0,151,rfl,HC5.out.setRow (.inr (Nat.le_refl _)) _,.inr ⟨rfl,rfl,rfl,rfl,HF.out⟩⟩
end Go.Proofs.YtnncigmpcdehnaaGreatDoor
