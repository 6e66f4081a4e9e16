import Derived.Test.YtnncigmpcdehnaaGreatDoorQf08
namespace Go.Proofs.YtnncigmpcdehnaaGreatDoor
set_option maxRecDepth 100000
open Go.RowKit Go.Lib Go.Sort _root_.Go.Proofs.Tryz
set_option maxRecDepth 100000
def Ls(s:List UInt8)(v:Bool)(n:Nat):Prop:=n < 2^128∧jk v n=true∧fD v n=s
def QQ(s:List UInt8)(w:World)(e:Ending)(w':World):Prop:=
 ∃(v:Bool) (n:Nat) (er:Int),e=.returned (.tuple #[.agg (cH v n).toArray,.int .i64 er])∧ai [] w w'∧((er=0∧Ls s v n∧∀v' m,Ls s v' m→v'=v∧m=n)∨(er=150∧v=false∧n=0∧∀v' m,¬Ls s v' m))
theorem KU:prog.built 24 []=some (cH false 0).toArray:=by kernel_rfl
theorem Pg{ops:Array Oper}{rest:List Oper}{o:Oper}{a:Act}{w:World}{Q:Exit→Act→World→Prop}(hg:o.guard=none)(ho:o.op=.build 24 #[])
  (h:wpList prog ops Q rest (a.put o.dst (.agg (cH false 0).toArray)) w):wpList prog ops Q (o::rest) a w:=by
 have e:prog.built 24 ((#[]:Array (Nat×Operand)).map fun(i,z)=>(i,a.eval z)).toList=some (cH false 0).toArray:=by
  rw[Array.map_empty]
  exact KU
 refine wpList_build hg 24 _ ho (by rw[e];rfl) ?_
 rw[e]
 exact h
theorem xw{s:List UInt8}{m:Nat}(h:Ls s true m):(58:UInt8)∈s:=by
 rw[←h.2.2];exact DH m
theorem xv{s:List UInt8}{m:Nat}(h:Ls s false m):(58:UInt8)∉s:=by
 rw[←h.2.2];exact BF m
theorem IV{w w3:World}{v:Bool}{n:Nat}(h:au w3 w.heap.size 24 (aE false fun _=>0)):au ((w3.alloc (.cells (aE false fun _=>0).toArray 24)).setRow w3.heap.size (aE v (ah n)).toArray) w.heap.size 24 (aE false fun _=>0):=
 (h.alloc _).aG (S:=[w3.heap.size]) ((ai.refl _ _).setRow (.inl (by simp)) _) (by have:=h.lt;simp;omega)
set_option maxHeartbeats 4000000 in
theorem CL(s:List UInt8)(hs:s.length≤100000000)(w:World)(HL:eb w):Calls prog 14 #[.string ⟨s.toArray⟩] w (QQ s w):=by
 have HR:=hid (au.new w 24 (aE false fun _=>0).toArray)
 have HC:=hid ((ai.refl [] w).alloc (.cells (aE false fun _=>0).toArray 24))
 have HL1:=hid (HL.alloc (.cells (aE false fun _=>0).toArray 24))
 have HCT:=hid (DF s 58)
 have HW:=hid (fun W (hW:eb W)=>Pq s hs W hW)
 have HD:=hid (fun W (hW:eb W)=>Ku s hs W hW)
 clear HL
 by_cases hc:(58:UInt8)∈s
 ·rw[decide_eq_true hc]at HCT
  have HCC:=hid hc
  clear hc
  go_enter func14,ntmps14
  go_wp2_with (first | (go_at_call 43;refine(HCT.out _).mono ?_;rintro e w2 ⟨rfl,hw2⟩;subst hw2) | (go_at_call 42;refine(HW.out _ HL1.out).mono ?_))
  rintro e w3 ⟨n,ok,rfl,C3,hn,hok,hcan⟩
  have HN:=hid hn
  have HOK:=hid hok
  have HCAN:=hid hcan
  have HW3:=hid (Nat.le_trans (Nat.le_of_lt (HR.out.lt)) C3.size)
  have HC3:=hid ((HC.out.trans C3).alloc (.cells (aE false fun _=>0).toArray 24))
  have HRW:=hid (IV (w:=w) (v:=true) (n:=n) (HR.out.aG C3 (by simp)))
  clear hn hok hcan HR HC HW HD HCT
  cases ok with
  |true=>
   have HF:=hid (show Ls s true n∧∀v' m,Ls s v' m→v'=true∧m=n from⟨⟨HN.out,yv n,HOK.out rfl⟩,fun v' m hm=>by
    cases v' with
    |true=>exact⟨rfl,(HCAN.out m hm.1 hm.2.2.symm).1.symm⟩
    |false=>exact absurd HCC.out (xv hm)⟩)
   go_wp2_with (first
    | (refine kK rfl _ _ rfl w3.heap.size true (ah n) rfl rfl 24 _ (au.new w3 24 (aE false fun _=>0).toArray) (aD _ _) ?_)
    | (refine iY rfl _ rfl w3.heap.size rfl 24 true n ((au.new w3 24 (aE false fun _=>0).toArray).row _) ?_)
    | (refine kK rfl _ _ rfl w.heap.size true (ah n) rfl rfl 24 (aE false fun _=>0) HRW.out (aD _ _) ?_))
   refine bodyPost_ret (j9 rfl _ _ w.heap.size true (ah n) 24 _ rfl rfl (HRW.out.row (cH true n))) rfl ?_
   exact⟨true,n,0,rfl,(HC3.out.setRow (.inr HW3.out) _).setRow (.inr (Nat.le_refl _)) _,.inl ⟨rfl,HF.out.1,HF.out.2⟩⟩
  |false=>
   have HF:=hid (show ∀v' m,¬Ls s v' m from fun v' m hm=>by
    cases v' with
    |true=>exact absurd (HCAN.out m hm.1 hm.2.2.symm).2 (by decide)
    |false=>exact absurd HCC.out (xv hm))
   go_wp2_with (first
    | (refine kK rfl _ _ rfl w3.heap.size true (ah n) rfl rfl 24 _ (au.new w3 24 (aE false fun _=>0).toArray) (aD _ _) ?_)
    | (refine Pg rfl rfl ?_)
    | (refine kK rfl _ _ rfl w.heap.size false (ah 0) rfl rfl 24 (aE false fun _=>0) HRW.out (aD _ _) ?_))
   refine bodyPost_ret (j9 rfl _ _ w.heap.size false (ah 0) 24 _ rfl rfl (HRW.out.row (cH false 0))) rfl ?_
   exact⟨false,0,150,rfl,(HC3.out.setRow (.inr HW3.out) _).setRow (.inr (Nat.le_refl _)) _,.inr ⟨rfl,rfl,rfl,HF.out⟩⟩
 ·rw[decide_eq_false hc]at HCT
  have HCC:=hid hc
  clear hc
  go_enter func14,ntmps14
  go_wp2_with (first | (go_at_call 43;refine(HCT.out _).mono ?_;rintro e w2 ⟨rfl,hw2⟩;subst hw2) | (go_at_call 44;refine(HD.out _ HL1.out).mono ?_))
  rintro e w3 ⟨n,ok,rfl,C3,hn,hok,hcan⟩
  have HN:=hid hn
  have HOK:=hid hok
  have HCAN:=hid hcan
  have HW3:=hid (Nat.le_trans (Nat.le_of_lt (HR.out.lt)) C3.size)
  have HC3:=hid ((HC.out.trans C3).alloc (.cells (aE false fun _=>0).toArray 24))
  have HRW:=hid (IV (w:=w) (v:=false) (n:=n) (HR.out.aG C3 (by simp)))
  clear hn hok hcan HR HC HW HD HCT
  cases ok with
  |true=>
   have HF:=hid (show Ls s false n∧∀v' m,Ls s v' m→v'=false∧m=n from⟨⟨HN.out,(HOK.out rfl).1,(HOK.out rfl).2⟩,fun v' m hm=>by
    cases v' with
    |false=>exact⟨rfl,(HCAN.out m hm.1 hm.2.1 hm.2.2.symm).1.symm⟩
    |true=>exact absurd (xw hm) HCC.out⟩)
   go_wp2_with (first
    | (refine kK rfl _ _ rfl w3.heap.size false (ah n) rfl rfl 24 _ (au.new w3 24 (aE false fun _=>0).toArray) (aD _ _) ?_)
    | (refine iY rfl _ rfl w3.heap.size rfl 24 false n ((au.new w3 24 (aE false fun _=>0).toArray).row _) ?_)
    | (refine kK rfl _ _ rfl w.heap.size false (ah n) rfl rfl 24 (aE false fun _=>0) HRW.out (aD _ _) ?_))
   refine bodyPost_ret (j9 rfl _ _ w.heap.size false (ah n) 24 _ rfl rfl (HRW.out.row (cH false n))) rfl ?_
   exact⟨false,n,0,rfl,(HC3.out.setRow (.inr HW3.out) _).setRow (.inr (Nat.le_refl _)) _,.inl ⟨rfl,HF.out.1,HF.out.2⟩⟩
  |false=>
   have HF:=hid (show ∀v' m,¬Ls s v' m from fun v' m hm=>by
    cases v' with
    |false=>exact absurd (HCAN.out m hm.1 hm.2.1 hm.2.2.symm).2 (by decide)
    |true=>exact absurd (xw hm) HCC.out)
   go_wp2_with (first
    | (refine kK rfl _ _ rfl w3.heap.size false (ah n) rfl rfl 24 _ (au.new w3 24 (aE false fun _=>0).toArray) (aD _ _) ?_)
    | (refine Pg rfl rfl ?_)
    | (refine kK rfl _ _ rfl w.heap.size false (ah 0) rfl rfl 24 (aE false fun _=>0) HRW.out (aD _ _) ?_))
   refine bodyPost_ret (j9 rfl _ _ w.heap.size false (ah 0) 24 _ rfl rfl (HRW.out.row (cH false 0))) rfl ?_
   exact⟨false,0,150,rfl,(HC3.out.setRow (.inr HW3.out) _).setRow (.inr (Nat.le_refl _)) _,.inr ⟨rfl,rfl,rfl,HF.out⟩⟩
open Go.RowKit Go.Lib Go.Sort
theorem qk{v:Bool}{n:Nat}{k:Int}(h:gh v n k=true):jk v n=true:=by
 unfold gh at h
 simp only[Bool.and_eq_true,decide_eq_true_eq]at h
 obtain⟨⟨h1,h2⟩,h3⟩:=h
 have:=Ap v n k.toNat (by omega)
 rwa [h3]at this
theorem nq{v:Bool}{n:Nat}{k:Int}(h:gh v n k=true):0≤k∧k≤128:=by
 have hw:=fA v
 unfold gh at h
 simp only[Bool.and_eq_true,decide_eq_true_eq]at h
 omega
theorem qY(v:Bool)(n:Nat):(fD v n).length≤8000:=by
 cases v with
 |false=>
  have h:=jB 46 3 [aj 10 (ah n 0),aj 10 (ah n 1),aj 10 (ah n 2),aj 10 (ah n 3)] (fun x hx=>by
   simp at hx
   rcases hx with rfl|rfl|rfl|rfl<;>exact fO (by have:=a7 n 0;have:=a7 n 1;have:=a7 n 2;have:=a7 n 3;omega))
  show(gb n).length≤8000
  unfold gb
  simp only[List.length_cons,List.length_nil]at h
  omega
 |true=>
  have hj:∀m:List Nat,(∀u∈m,u < 65536)→m.length≤8→(aR m).length≤40:=fun m hm hm8=>by
   have:=jB 58 4 (m.map (aj 16)) (fun x hx=>by
    rw[List.mem_map]at hx
    obtain⟨u,hu,rfl⟩:=hx
    exact gI (hm u hu))
   rw[List.length_map]at this
   unfold aR
   omega
  show(cM (aL n)).length≤8000
  unfold cM
  split
  ·have:=hj (aL n) (fun u hu=>gY hu) (by rw[eX];omega)
   omega
  ·have h1:=hj ((aL n).take (gH (zs (aL n))).1) (fun u hu=>gY (List.mem_of_mem_take hu)) (by rw[List.length_take,eX];omega)
   have h2:=hj ((aL n).drop (gH (zs (aL n))).2) (fun u hu=>gY (List.mem_of_mem_drop hu)) (by rw[List.length_drop,eX];omega)
   simp only[List.length_append,List.length_cons]
   omega
def kX(v:Bool)(n:Nat)(k:Int):List UInt8:=fD v n++(47::aj 10 k.toNat)
def nh(v:Bool)(n:Nat)(k:Int):List UInt8:=if gh v n k then kX v n k else []
set_option maxHeartbeats 4000000 in
theorem Cq(v:Bool)(n:Nat)(k:Int)(hn:n < 2^128)(w:World)(HL:eb w):Calls prog 72 #[.agg (dm v n k).toArray] w fun e w'=>e=.returned (.tuple #[.string ⟨(nh v n k).toArray⟩,.int .i64 (dC v n k)])∧ai [] w w':=by
 have HB:=hid (au.new w 29 (dm v n k).toArray)
 have HC:=hid ((ai.refl [] w).alloc (.cells (dm v n k).toArray 29))
 have HL1:=hid (HL.alloc (.cells (dm v n k).toArray 29))
 have HK:=hid (tq v n k hn)
 have HAT:=hid (fun W (hW:eb W)=>pH v n hn W hW)
 clear HL
 by_cases h1:gh v n k=true
 ·have hb:=nq h1
  have HE:=hid (show dC v n k=0 by unfold dC;rw[if_pos h1])
  rw[show eY v n=0 by unfold eY;rw[if_pos (qk h1)],show mC v n=fD v n by unfold mC;rw[if_pos (qk h1)]]at HAT
  obtain⟨K,rfl⟩:∃K:Nat,k=(K:Int):=⟨k.toNat,by omega⟩
  have HT:=hid (show nh v n K=fD v n++(47::aj 10 K)by unfold nh;rw[if_pos h1];rfl)
  have hlen:=qY v n
  obtain⟨X,hX⟩:∃X,X=fD v n:=⟨_,rfl⟩
  rw[←hX]at HAT HT hlen
  have hd:(aj 10 K).length≤3:=fO (by omega)
  have had1:∀W,(Op.stringOp .add ⟨X.toArray⟩ ⟨#[47]⟩).run prog W=.ok (.string ⟨(X++[47]).toArray⟩) W:=fun W=>run_string_add_lists W X [47] (by omega) (by decide)
  have had2:∀W,(Op.stringOp .add ⟨(X++[47]).toArray⟩ ⟨(aj 10 K).toArray⟩).run prog W=.ok (.string ⟨(X++(47::aj 10 K)).toArray⟩) W:=fun W=>by
   have:=run_string_add_lists (P:=prog) W (X++[47]) (aj 10 K) (by simp;omega) (by omega)
   rw[this]
   simp
  have HIT:=hid (fun W (hW:eb W)=>JU K (by omega) W hW)
  clear hX hlen hd
  rw[HE.out]at HK ⊢
  rw[HT.out]
  go_enter func72,ntmps72
  go_wp2_with (first
   | (go_at_call 50;refine(HK.out _).mono ?_;rintro e w2 ⟨rfl,C2⟩)
   | (go_at_call 53;refine(HAT.out _ (HL1.out.df C2)).mono ?_;rintro e w3 ⟨rfl,C3⟩;have ck:=((HB.out.aG C2 (by simp)).aG C3 (by simp)).cell_of (gU v n K))
   | (go_at_call 71;refine(HIT.out _ ((HL1.out.df C2).df C3)).mono ?_;rintro e w4 ⟨rfl,C4⟩)
   | (refine R4 rfl _ rfl w.heap.size rfl 29 v n K (HB.out.aG C2 (by simp)) ?_)
   | (refine Qe rfl _ rfl w.heap.size rfl 29 v n K HB.out ?_))
  go_ret2
  exact⟨rfl,((HC.out.trans C2).trans C3).trans C4⟩
 ·have HE:=hid (show dC v n k=151 by unfold dC;rw[if_neg h1])
  have HT:=hid (show nh v n k=[] by unfold nh;rw[if_neg h1])
  rw[HE.out]at HK ⊢
  rw[HT.out]
  go_enter func72,ntmps72
  go_wp2_with (first
   | (go_at_call 50;refine(HK.out _).mono ?_;rintro e w2 ⟨rfl,C2⟩)
   | (refine Qe rfl _ rfl w.heap.size rfl 29 v n k HB.out ?_))
  go_ret2
  exact⟨rfl,HC.out.trans C2⟩
open Go.RowKit Go.Lib Go.Sort
def Cl(s:List UInt8)(v:Bool)(n:Nat)(k:Int):Prop:=n < 2^128∧gh v n k=true∧kX v n k=s
def QP(s:List UInt8)(w:World)(e:Ending)(w':World):Prop:=
 ∃(v:Bool) (n:Nat) (k:Int) (er:Int),e=.returned (.tuple #[.agg (dm v n k).toArray,.int .i64 er])∧ai [] w w'∧((er=0∧Cl s v n k∧∀v' m j,Cl s v' m j→v'=v∧m=n∧j=k)∨(er=151∧v=false∧n=0∧k=0∧∀v' m j,¬Cl s v' m j))
theorem zR(v:Bool)(n:Nat):(47:UInt8)∉fD v n:=by
 have hd:∀u,(47:UInt8)∉aj 10 u:=fun u=>jC (by omega) (by omega) (.inl (by decide))
 have hx:∀u,(47:UInt8)∉aj 16 u:=fun u=>jC (by omega) (by omega) (.inl (by decide))
 have hj:∀l:List Nat,(47:UInt8)∉aR l:=fun l h=>by
  rcases fX h with h|⟨x,hx2,h⟩
  ·exact absurd h (by decide)
  ·rw[List.mem_map]at hx2
   obtain⟨u,_,rfl⟩:=hx2
   exact hx u h
 cases v with
 |false=>
  intro h
  rcases fX (show(47:UInt8)∈gb n from h)with h|⟨x,hx,h⟩
  ·exact absurd h (by decide)
  ·simp at hx
   rcases hx with rfl|rfl|rfl|rfl<;>exact hd _ h
 |true=>
  show(47:UInt8)∉cM (aL n)
  unfold cM
  split
  ·exact hj _
  ·intro h
   rw[List.mem_append,List.mem_cons,List.mem_cons]at h
   rcases h with h|h|h|h
   ·exact hj _ h
   ·exact absurd h (by decide)
   ·exact absurd h (by decide)
   ·exact hj _ h
theorem xK(l m:List UInt8)(h:(47:UInt8)∉l):Lib.cut (l++47::m) [47]=(l,m,true):=by
 unfold Lib.cut
 rw[pq 47 l m h,if_pos (by omega)]
 simp only[Int.toNat_natCast]
 rw[List.take_left' rfl]
 congr 2
 rw[show l++47::m=(l++[47])++m by simp]
 exact List.drop_left' (by simp)
theorem Kz(s:List UInt8):((Lib.cut s [47]).2.1=[])∨s=(Lib.cut s [47]).1++47::(Lib.cut s [47]).2.1:=by
 by_cases h:(47:UInt8)∈s
 ·obtain⟨a,b,rfl,ha⟩:=vA 47 s h
  rw[xK a b ha]
  exact .inr rfl
 ·left
  unfold Lib.cut
  rcases Lib.index_spec s [47]with⟨h1,_⟩ | ⟨i,_,_,h3,_⟩
  ·rw[h1];rfl
  ·exact absurd (List.mem_of_getElem? ((EF s 47 i).1 h3)) h
set_option maxHeartbeats 8000000 in
theorem IT(s:List UInt8)(hs:s.length≤100000000)(w:World)(HL:eb w):Calls prog 16 #[.string ⟨s.toArray⟩] w (QP s w):=by
 have HCUT:=hid (fun W (hW:eb W)=>KA s [47] (by omega) W hW)
 have hcl:=Fl s [47]
 have hcb:=Kz s
 have HCS:=hid (fun v n k (h:Cl s v n k)=>(show(Lib.cut s [47]).1=fD v n∧(Lib.cut s [47]).2.1=aj 10 k.toNat by
  have:=xK (fD v n) (aj 10 k.toNat) (zR v n)
  rw[←h.2.2]
  unfold kX
  rw[this]
  exact⟨rfl,rfl⟩))
 obtain⟨at_,hat⟩:∃x,x=(Lib.cut s [47]).1:=⟨_,rfl⟩
 obtain⟨bt,hbt⟩:∃x,x=(Lib.cut s [47]).2.1:=⟨_,rfl⟩
 obtain⟨b,hb⟩:∃x,x=(Lib.cut s [47]).2.2:=⟨_,rfl⟩
 rw[←hat,←hbt]at hcl hcb HCS
 rw[←hat,←hbt,←hb]at HCUT
 clear hat hbt hb
 have HCB:=hid hcb
 have HRA:=hid (fun W (hW:eb W)=>CL at_ (by omega) W hW)
 have HNU:=hid (fun W (hW:eb W)=>EG 10 128 (.inl rfl) (by omega) ⟨bt.toArray⟩ (by simp[ByteArray.size];omega) W hW)
 have HR:=hid (au.new w 29 je)
 have HC:=hid ((ai.refl [] w).alloc (.cells je 29))
 have HL1:=hid (HL.alloc (.cells je 29))
 clear HL hs hcl hcb
 go_enter func16,ntmps16
 go_wp2_with (first
  | (go_at_call 48;refine(HCUT.out _ HL1.out).mono ?_;rintro e w1 ⟨rfl,C1⟩)
  | (go_at_call 14;refine(HRA.out _ (HL1.out.df C1)).mono ?_))
 rintro e w2 ⟨v,n,er,rfl,C2,hra⟩
 have HR2:=hid ((HR.out.aG C1 (by simp)).aG C2 (by simp))
 have HC2:=hid ((HC.out.trans C1).trans C2)
 have HL2:=hid ((HL1.out.df C1).df C2)
 have HLT:=hid (show w.heap.size < w2.heap.size from HR2.out.lt)
 clear HR HC HL1 C1 C2
 have HB3:=hid ((au.new w2 24 (aE false fun _=>0).toArray).row (cH v n))
 have HR3:=hid (show au ((w2.alloc (.cells (aE false fun _=>0).toArray 24)).setRow w2.heap.size (cH v n).toArray) w.heap.size 29 je.toList from(HR2.out.alloc _).aG (S:=[w2.heap.size]) ((ai.refl _ _).setRow (g:=w2.heap.size) (.inl (by simp)) _) (by have:=HLT.out;simp;omega))
 have HC3:=hid ((HC2.out.alloc (.cells (aE false fun _=>0).toArray 24)).setRow (g:=w2.heap.size) (.inr (Nat.le_of_lt HLT.out)) (cH v n).toArray)
 have HL3:=hid ((HL2.out.alloc (.cells (aE false fun _=>0).toArray 24)).aG (S:=[w2.heap.size]) ((ai.refl _ _).setRow (g:=w2.heap.size) (.inl (by simp)) (cH v n).toArray) (by intro j hj;have:=HL2.out.low;rw[List.mem_singleton]at hj;omega))
 have HRAW:=hid hra
 clear hra
 go_wp2_with (first
  | (go_at_call 49;refine(HNU.out _ HL3.out).mono ?_)
  | (refine kK rfl _ _ rfl w2.heap.size v (ah n) rfl rfl 24 (aE false fun _=>0) (au.new w2 24 (aE false fun _=>0).toArray) (aD _ _) ?_))
 rintro e w3 ⟨u,ok,rfl,C3,u0,u1,hok,hcan⟩
 have HOK:=hid hok
 have HCAN:=hid hcan
 have HB4:=hid (HB3.out.aG C3 (by simp))
 have HR4:=hid (HR3.out.aG C3 (by simp))
 have HC4:=hid (HC3.out.trans C3)
 have HLT4:=hid (show w.heap.size < w3.heap.size from HR4.out.lt)
 clear hok hcan HB3 HR3 HC3 HL3 C3 HR2 HC2 HL2 HLT HCUT HRA HNU
 have hra:=HRAW.out
 clear HRAW
 obtain⟨kk,hkk⟩:∃kk,kk=IntKind.i64.wrap u:=⟨_,rfl⟩
 rcases hra with⟨rfl,hia,hun⟩ | ⟨rfl,rfl,rfl,hno⟩
 ·have HIA:=hid hia
  have HUN:=hid hun
  clear hia hun
  cases ok with
  |false=>
   have HF:=hid (show ∀v' m j,¬Cl s v' m j from fun v' m j h=>by
    have h2:=(HCS.out v' m j h).2
    have hb:=nq h.2.1
    have:=(HCAN.out j.toNat (by omega) h2).2
    cases this)
   have hkk':=hkk.symm
   clear hkk u1
   have HR5:=hid (show au ((w3.alloc (.cells je 29)).setRow w3.heap.size (dm v n kk).toArray) w.heap.size 29 je.toList from(HR4.out.alloc _).aG (S:=[w3.heap.size]) ((ai.refl _ _).setRow (g:=w3.heap.size) (.inl (by simp)) _) (by have:=HLT4.out;simp;omega))
   have HC5:=hid ((HC4.out.alloc (.cells je 29)).setRow (g:=w3.heap.size) (.inr (Nat.le_of_lt HLT4.out)) (dm v n kk).toArray)
   go_wp2_with (first
    | (refine iY rfl _ rfl w2.heap.size rfl 24 v n HB4.out ?_)
    | (refine Oo rfl _ _ rfl v n kk rfl rfl ?_)
    | (refine FK rfl _ _ rfl w3.heap.size v n kk rfl rfl 29 _ (au.new w3 29 je) rfl ?_)
    | (refine Ir rfl _ _ rfl w.heap.size rfl rfl 29 _ HR5.out rfl ?_))
   refine bodyPost_ret (Eo rfl _ _ w.heap.size false 0 0 29 _ rfl rfl (HR5.out.row (dm false 0 0))) rfl ?_
   exact⟨false,0,0,151,rfl,HC5.out.setRow (.inr (Nat.le_refl _)) _,.inr ⟨rfl,rfl,rfl,rfl,HF.out⟩⟩
  |true=>
   obtain⟨N,rfl,hN,hNt⟩:=HOK.out rfl
   have hkk':IntKind.i64.wrap (N:Int)=(N:Int):=by rw[IntKind.wrap_i64];omega
   rw[hkk']at hkk
   subst hkk
   have hNN:(N:Int)≤128:=by omega
   have HNT:=hid hNt
   clear u1 hNt
   have HSS:=hid (show s=fD v n++47::aj 10 N from by
    rcases HCB.out with h|h
    ·have h5:bt=aj 10 N:=HNT.out
     rw[h]at h5
     exact absurd h5.symm (ml N)
    ·rw[h,←HIA.out.2.2]
     have h5:bt=aj 10 N:=HNT.out
     rw[h5])
   have HCH:=hid (fun v' m j (h:Cl s v' m j)=>(show v'=v∧m=n∧j=(N:Int)from by
    obtain⟨h1,h2⟩:=HCS.out v' m j h
    have hb:=nq h.2.1
    have h3:=HUN.out v' m ⟨h.1,qk h.2.1,h1.symm⟩
    have h4:bt=aj 10 N:=HNT.out
    have h5:j.toNat=N:=Bw (by omega) (by omega) (h2.symm.trans h4)
    exact⟨h3.1,h3.2,by omega⟩))
   have HK:=hid (tq v n N HIA.out.1)
   by_cases hP:gh v n N=true
   ·have HF:=hid (show Cl s v n N∧∀v' m j,Cl s v' m j→v'=v∧m=n∧j=(N:Int)from⟨⟨HIA.out.1,hP,HSS.out.symm⟩,HCH.out⟩)
    rw[show dC v n N=0 by unfold dC;rw[if_pos hP]]at HK
    have HR5:=hid (show au ((w3.alloc (.cells je 29)).setRow w3.heap.size (dm v n N).toArray) w.heap.size 29 je.toList from(HR4.out.alloc _).aG (S:=[w3.heap.size]) ((ai.refl _ _).setRow (g:=w3.heap.size) (.inl (by simp)) _) (by have:=HLT4.out;simp;omega))
    have HC5:=hid ((HC4.out.alloc (.cells je 29)).setRow (g:=w3.heap.size) (.inr (Nat.le_of_lt HLT4.out)) (dm v n N).toArray)
    go_wp2_with (first
     | (go_at_call 50;refine(HK.out _).mono ?_;rintro e w6 ⟨rfl,C6⟩)
     | (refine iY rfl _ rfl w2.heap.size rfl 24 v n HB4.out ?_)
     | (refine Oo rfl _ _ rfl v n N rfl rfl ?_)
     | (refine FK rfl _ _ rfl w3.heap.size v n N rfl rfl 29 _ (au.new w3 29 je) rfl ?_)
     | (refine OY rfl _ rfl w3.heap.size rfl 29 v n N ((au.new w3 29 je).row _) ?_)
     | (refine Qe rfl _ rfl w3.heap.size rfl 29 v n N (((au.new w3 29 je).row _).aG C6 (by simp)) ?_)
     | (refine FK rfl _ _ rfl w.heap.size v n N rfl rfl 29 _ (HR5.out.aG C6 (by simp)) rfl ?_))
    refine bodyPost_ret (Eo rfl _ _ w.heap.size v n N 29 _ rfl rfl ((HR5.out.aG C6 (by simp)).row (dm v n N))) rfl ?_
    exact⟨v,n,N,0,rfl,(HC5.out.trans C6).setRow (.inr (Nat.le_refl _)) _,.inl ⟨rfl,HF.out.1,HF.out.2⟩⟩
   ·have HF:=hid (show ∀v' m j,¬Cl s v' m j from fun v' m j h=>by
     obtain⟨rfl,rfl,rfl⟩:=HCH.out v' m j h
     exact hP h.2.1)
    rw[show dC v n N=151 by unfold dC;rw[if_neg hP]]at HK
    have HR5:=hid (show au ((w3.alloc (.cells je 29)).setRow w3.heap.size (dm v n N).toArray) w.heap.size 29 je.toList from(HR4.out.alloc _).aG (S:=[w3.heap.size]) ((ai.refl _ _).setRow (g:=w3.heap.size) (.inl (by simp)) _) (by have:=HLT4.out;simp;omega))
    have HC5:=hid ((HC4.out.alloc (.cells je 29)).setRow (g:=w3.heap.size) (.inr (Nat.le_of_lt HLT4.out)) (dm v n N).toArray)
    go_wp2_with (first
     | (go_at_call 50;refine(HK.out _).mono ?_;rintro e w6 ⟨rfl,C6⟩)
     | (refine iY rfl _ rfl w2.heap.size rfl 24 v n HB4.out ?_)
     | (refine Oo rfl _ _ rfl v n N rfl rfl ?_)
     | (refine FK rfl _ _ rfl w3.heap.size v n N rfl rfl 29 _ (au.new w3 29 je) rfl ?_)
     | (refine OY rfl _ rfl w3.heap.size rfl 29 v n N ((au.new w3 29 je).row _) ?_)
     | (refine Ir rfl _ _ rfl w.heap.size rfl rfl 29 _ (HR5.out.aG C6 (by simp)) rfl ?_))
    refine bodyPost_ret (Eo rfl _ _ w.heap.size false 0 0 29 _ rfl rfl ((HR5.out.aG C6 (by simp)).row (dm false 0 0))) rfl ?_
    exact⟨false,0,0,151,rfl,(HC5.out.trans C6).setRow (.inr (Nat.le_refl _)) _,.inr ⟨rfl,rfl,rfl,rfl,HF.out⟩⟩
 ·have HF:=hid (show ∀v' m j,¬Cl s v' m j from fun v' m j h=>by
   have h1:=(HCS.out v' m j h).1
   exact hno v' m ⟨h.1,qk h.2.1,h1.symm⟩)
  have hkk':=hkk.symm
  clear hkk u1 hno
  have HR5:=hid (show au ((w3.alloc (.cells je 29)).setRow w3.heap.size (dm false 0 kk).toArray) w.heap.size 29 je.toList from(HR4.out.alloc _).aG (S:=[w3.heap.size]) ((ai.refl _ _).setRow (g:=w3.heap.size) (.inl (by simp)) _) (by have:=HLT4.out;simp;omega))
  have HC5:=hid ((HC4.out.alloc (.cells je 29)).setRow (g:=w3.heap.size) (.inr (Nat.le_of_lt HLT4.out)) (dm false 0 kk).toArray)
  go_wp2_with (first
   | (refine iY rfl _ rfl w2.heap.size rfl 24 false 0 HB4.out ?_)
   | (refine Oo rfl _ _ rfl false 0 kk rfl rfl ?_)
   | (refine FK rfl _ _ rfl w3.heap.size false 0 kk rfl rfl 29 _ (au.new w3 29 je) rfl ?_)
   | (refine Ir rfl _ _ rfl w.heap.size rfl rfl 29 _ HR5.out rfl ?_))
  refine bodyPost_ret (Eo rfl _ _ w.heap.size false 0 0 29 _ rfl rfl (HR5.out.row (dm false 0 0))) rfl ?_
  exact⟨false,0,0,151,rfl,HC5.out.setRow (.inr (Nat.le_refl _)) _,.inr ⟨rfl,rfl,rfl,rfl,HF.out⟩⟩
end Go.Proofs.YtnncigmpcdehnaaGreatDoor
