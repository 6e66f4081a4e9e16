import Derived.Test.YtnncigmpcdehnaaGreatDoorQa08
namespace Go.Proofs.YtnncigmpcdehnaaGreatDoor
set_option maxRecDepth 100000
open Go.RowKit Go.Lib Go.Sort
def IsA(s:List UInt8)(v:Bool)(n:Nat):Prop:=n < 2^128∧okA v n=true∧textA v n=s
def RaPost(s:List UInt8)(w:World)(e:Ending)(w':World):Prop:=
 ∃(v:Bool) (n:Nat) (er:Int),e=.returned (.tuple #[.agg (adr v n).toArray,.int .i64 er])∧Chg [] w w'∧((er=0∧IsA s v n∧∀v' m,IsA s v' m→v'=v∧m=n)∨(er=150∧v=false∧n=0∧∀v' m,¬IsA s v' m))
theorem built24z:Tryz.prog.built 24 []=some (adr false 0).toArray:=by kernel_rfl
theorem bd24z{ops:Array Oper}{rest:List Oper}{o:Oper}{a:Act}{w:World}{Q:Exit→Act→World→Prop}(hg:o.guard=none)(ho:o.op=.build 24 #[])
  (h:wpList Tryz.prog ops Q rest (a.put o.dst (.agg (adr false 0).toArray)) w):wpList Tryz.prog ops Q (o::rest) a w:=by
 have e:Tryz.prog.built 24 ((#[]:Array (Nat×Operand)).map fun(i,z)=>(i,a.eval z)).toList=some (adr false 0).toArray:=by
  rw[Array.map_empty]
  exact built24z
 refine wpList_build hg 24 _ ho (by rw[e];rfl) ?_
 rw[e]
 exact h
theorem isA_colon{s:List UInt8}{m:Nat}(h:IsA s true m):(58:UInt8)∈s:=by
 rw[←h.2.2];exact colon_grps m
theorem isA_point{s:List UInt8}{m:Nat}(h:IsA s false m):(58:UInt8)∉s:=by
 rw[←h.2.2];exact colon_text4 m
theorem rd_row{w w3:World}{v:Bool}{n:Nat}(h:Blk w3 w.heap.size 24 (adrV false fun _=>0)):Blk ((w3.alloc (.cells (adrV false fun _=>0).toArray 24)).setRow w3.heap.size (adrV v (byteAt n)).toArray) w.heap.size 24 (adrV false fun _=>0):=
 (h.alloc _).chg (S:=[w3.heap.size]) ((Chg.refl _ _).setRow (.inl (by simp)) _) (by have:=h.lt;simp;omega)
set_option maxHeartbeats 4000000 in
theorem readAddr_N(s:List UInt8)(hs:s.length≤100000000)(w:World)(HL:Lan w):Calls Tryz.prog 14 #[.string ⟨s.toArray⟩] w (RaPost s w):=by
 have HR:=hid (Blk.new w 24 (adrV false fun _=>0).toArray)
 have HC:=hid ((Chg.refl [] w).alloc (.cells (adrV false fun _=>0).toArray 24))
 have HL1:=hid (HL.alloc (.cells (adrV false fun _=>0).toArray 24))
 have HCT:=hid (contains_N s 58)
 have HW:=hid (fun W (hW:Lan W)=>wide_N s hs W hW)
 have HD:=hid (fun W (hW:Lan W)=>dotted_N s hs W hW)
 clear HL
 by_cases hc:(58:UInt8)∈s
 ·rw[decide_eq_true hc]at HCT
  have HCC:=hid hc
  clear hc
  go_enter Tryz.func14,Tryz.ntmps14
  go_wp2_with (first | (go_at_call 43;refine(HCT.out _).mono ?_;rintro e w2 ⟨rfl,hw2⟩;subst hw2) | (go_at_call 42;refine(HW.out _ HL1.out).mono ?_))
  rintro e w3 ⟨n,ok,rfl,C3,hn,hok,hcan⟩
  have HN:=hid hn
  have HOK:=hid hok
  have HCAN:=hid hcan
  have HW3:=hid (Nat.le_trans (Nat.le_of_lt (HR.out.lt)) C3.size)
  have HC3:=hid ((HC.out.trans C3).alloc (.cells (adrV false fun _=>0).toArray 24))
  have HRW:=hid (rd_row (w:=w) (v:=true) (n:=n) (HR.out.chg C3 (by simp)))
  clear hn hok hcan HR HC HW HD HCT
  cases ok with
  |true=>
   have HF:=hid (show IsA s true n∧∀v' m,IsA s v' m→v'=true∧m=n from⟨⟨HN.out,okA_six n,HOK.out rfl⟩,fun v' m hm=>by
    cases v' with
    |true=>exact⟨rfl,(HCAN.out m hm.1 hm.2.2.symm).1.symm⟩
    |false=>exact absurd HCC.out (isA_point hm)⟩)
   go_wp2_with (first
    | (refine st24 rfl _ _ rfl w3.heap.size true (byteAt n) rfl rfl 24 _ (Blk.new w3 24 (adrV false fun _=>0).toArray) (adrV_length _ _) ?_)
    | (refine ld24n rfl _ rfl w3.heap.size rfl 24 true n ((Blk.new w3 24 (adrV false fun _=>0).toArray).row _) ?_)
    | (refine st24 rfl _ _ rfl w.heap.size true (byteAt n) rfl rfl 24 (adrV false fun _=>0) HRW.out (adrV_length _ _) ?_))
   refine bodyPost_ret (rs24t rfl _ _ w.heap.size true (byteAt n) 24 _ rfl rfl (HRW.out.row (adr true n))) rfl ?_
   exact⟨true,n,0,rfl,(HC3.out.setRow (.inr HW3.out) _).setRow (.inr (Nat.le_refl _)) _,.inl ⟨rfl,HF.out.1,HF.out.2⟩⟩
  |false=>
   have HF:=hid (show ∀v' m,¬IsA s v' m from fun v' m hm=>by
    cases v' with
    |true=>exact absurd (HCAN.out m hm.1 hm.2.2.symm).2 (by decide)
    |false=>exact absurd HCC.out (isA_point hm))
   go_wp2_with (first
    | (refine st24 rfl _ _ rfl w3.heap.size true (byteAt n) rfl rfl 24 _ (Blk.new w3 24 (adrV false fun _=>0).toArray) (adrV_length _ _) ?_)
    | (refine bd24z rfl rfl ?_)
    | (refine st24 rfl _ _ rfl w.heap.size false (byteAt 0) rfl rfl 24 (adrV false fun _=>0) HRW.out (adrV_length _ _) ?_))
   refine bodyPost_ret (rs24t rfl _ _ w.heap.size false (byteAt 0) 24 _ rfl rfl (HRW.out.row (adr false 0))) rfl ?_
   exact⟨false,0,150,rfl,(HC3.out.setRow (.inr HW3.out) _).setRow (.inr (Nat.le_refl _)) _,.inr ⟨rfl,rfl,rfl,HF.out⟩⟩
 ·rw[decide_eq_false hc]at HCT
  have HCC:=hid hc
  clear hc
  go_enter Tryz.func14,Tryz.ntmps14
  go_wp2_with (first | (go_at_call 43;refine(HCT.out _).mono ?_;rintro e w2 ⟨rfl,hw2⟩;subst hw2) | (go_at_call 44;refine(HD.out _ HL1.out).mono ?_))
  rintro e w3 ⟨n,ok,rfl,C3,hn,hok,hcan⟩
  have HN:=hid hn
  have HOK:=hid hok
  have HCAN:=hid hcan
  have HW3:=hid (Nat.le_trans (Nat.le_of_lt (HR.out.lt)) C3.size)
  have HC3:=hid ((HC.out.trans C3).alloc (.cells (adrV false fun _=>0).toArray 24))
  have HRW:=hid (rd_row (w:=w) (v:=false) (n:=n) (HR.out.chg C3 (by simp)))
  clear hn hok hcan HR HC HW HD HCT
  cases ok with
  |true=>
   have HF:=hid (show IsA s false n∧∀v' m,IsA s v' m→v'=false∧m=n from⟨⟨HN.out,(HOK.out rfl).1,(HOK.out rfl).2⟩,fun v' m hm=>by
    cases v' with
    |false=>exact⟨rfl,(HCAN.out m hm.1 hm.2.1 hm.2.2.symm).1.symm⟩
    |true=>exact absurd (isA_colon hm) HCC.out⟩)
   go_wp2_with (first
    | (refine st24 rfl _ _ rfl w3.heap.size false (byteAt n) rfl rfl 24 _ (Blk.new w3 24 (adrV false fun _=>0).toArray) (adrV_length _ _) ?_)
    | (refine ld24n rfl _ rfl w3.heap.size rfl 24 false n ((Blk.new w3 24 (adrV false fun _=>0).toArray).row _) ?_)
    | (refine st24 rfl _ _ rfl w.heap.size false (byteAt n) rfl rfl 24 (adrV false fun _=>0) HRW.out (adrV_length _ _) ?_))
   refine bodyPost_ret (rs24t rfl _ _ w.heap.size false (byteAt n) 24 _ rfl rfl (HRW.out.row (adr false n))) rfl ?_
   exact⟨false,n,0,rfl,(HC3.out.setRow (.inr HW3.out) _).setRow (.inr (Nat.le_refl _)) _,.inl ⟨rfl,HF.out.1,HF.out.2⟩⟩
  |false=>
   have HF:=hid (show ∀v' m,¬IsA s v' m from fun v' m hm=>by
    cases v' with
    |false=>exact absurd (HCAN.out m hm.1 hm.2.1 hm.2.2.symm).2 (by decide)
    |true=>exact absurd (isA_colon hm) HCC.out)
   go_wp2_with (first
    | (refine st24 rfl _ _ rfl w3.heap.size false (byteAt n) rfl rfl 24 _ (Blk.new w3 24 (adrV false fun _=>0).toArray) (adrV_length _ _) ?_)
    | (refine bd24z rfl rfl ?_)
    | (refine st24 rfl _ _ rfl w.heap.size false (byteAt 0) rfl rfl 24 (adrV false fun _=>0) HRW.out (adrV_length _ _) ?_))
   refine bodyPost_ret (rs24t rfl _ _ w.heap.size false (byteAt 0) 24 _ rfl rfl (HRW.out.row (adr false 0))) rfl ?_
   exact⟨false,0,150,rfl,(HC3.out.setRow (.inr HW3.out) _).setRow (.inr (Nat.le_refl _)) _,.inr ⟨rfl,rfl,rfl,HF.out⟩⟩
open Go.RowKit Go.Lib Go.Sort
theorem okP_okA{v:Bool}{n:Nat}{k:Int}(h:okP v n k=true):okA v n=true:=by
 unfold okP at h
 simp only[Bool.and_eq_true,decide_eq_true_eq]at h
 obtain⟨⟨h1,h2⟩,h3⟩:=h
 have:=okA_mask v n k.toNat (by omega)
 rwa [h3]at this
theorem okP_bits{v:Bool}{n:Nat}{k:Int}(h:okP v n k=true):0≤k∧k≤128:=by
 have hw:=wid_le v
 unfold okP at h
 simp only[Bool.and_eq_true,decide_eq_true_eq]at h
 omega
theorem textA_len(v:Bool)(n:Nat):(textA v n).length≤8000:=by
 cases v with
 |false=>
  have h:=joinC_len 46 3 [digs 10 (byteAt n 0),digs 10 (byteAt n 1),digs 10 (byteAt n 2),digs 10 (byteAt n 3)] (fun x hx=>by
   simp at hx
   rcases hx with rfl|rfl|rfl|rfl<;>exact digs10_len (by have:=byteAt_lt n 0;have:=byteAt_lt n 1;have:=byteAt_lt n 2;have:=byteAt_lt n 3;omega))
  show(text4 n).length≤8000
  unfold text4
  simp only[List.length_cons,List.length_nil]at h
  omega
 |true=>
  have hj:∀m:List Nat,(∀u∈m,u < 65536)→m.length≤8→(joinD m).length≤40:=fun m hm hm8=>by
   have:=joinC_len 58 4 (m.map (digs 16)) (fun x hx=>by
    rw[List.mem_map]at hx
    obtain⟨u,hu,rfl⟩:=hx
    exact digs16_len (hm u hu))
   rw[List.length_map]at this
   unfold joinD
   omega
  show(text6 (grps n)).length≤8000
  unfold text6
  split
  ·have:=hj (grps n) (fun u hu=>grps_lt hu) (by rw[grps_len];omega)
   omega
  ·have h1:=hj ((grps n).take (gapN (zs (grps n))).1) (fun u hu=>grps_lt (List.mem_of_mem_take hu)) (by rw[List.length_take,grps_len];omega)
   have h2:=hj ((grps n).drop (gapN (zs (grps n))).2) (fun u hu=>grps_lt (List.mem_of_mem_drop hu)) (by rw[List.length_drop,grps_len];omega)
   simp only[List.length_append,List.length_cons]
   omega
def textP(v:Bool)(n:Nat)(k:Int):List UInt8:=textA v n++(47::digs 10 k.toNat)
def ptxt(v:Bool)(n:Nat)(k:Int):List UInt8:=if okP v n k then textP v n k else []
set_option maxHeartbeats 4000000 in
theorem text_N(v:Bool)(n:Nat)(k:Int)(hn:n < 2^128)(w:World)(HL:Lan w):Calls Tryz.prog 72 #[.agg (pfx v n k).toArray] w fun e w'=>e=.returned (.tuple #[.string ⟨(ptxt v n k).toArray⟩,.int .i64 (errP v n k)])∧Chg [] w w':=by
 have HB:=hid (Blk.new w 29 (pfx v n k).toArray)
 have HC:=hid ((Chg.refl [] w).alloc (.cells (pfx v n k).toArray 29))
 have HL1:=hid (HL.alloc (.cells (pfx v n k).toArray 29))
 have HK:=hid (check_N v n k hn)
 have HAT:=hid (fun W (hW:Lan W)=>addrText_N v n hn W hW)
 clear HL
 by_cases h1:okP v n k=true
 ·have hb:=okP_bits h1
  have HE:=hid (show errP v n k=0 by unfold errP;rw[if_pos h1])
  rw[show errA v n=0 by unfold errA;rw[if_pos (okP_okA h1)],show atxt v n=textA v n by unfold atxt;rw[if_pos (okP_okA h1)]]at HAT
  obtain⟨K,rfl⟩:∃K:Nat,k=(K:Int):=⟨k.toNat,by omega⟩
  have HT:=hid (show ptxt v n K=textA v n++(47::digs 10 K)by unfold ptxt;rw[if_pos h1];rfl)
  have hlen:=textA_len v n
  obtain⟨X,hX⟩:∃X,X=textA v n:=⟨_,rfl⟩
  rw[←hX]at HAT HT hlen
  have hd:(digs 10 K).length≤3:=digs10_len (by omega)
  have had1:∀W,(Op.stringOp .add ⟨X.toArray⟩ ⟨#[47]⟩).run Tryz.prog W=.ok (.string ⟨(X++[47]).toArray⟩) W:=fun W=>run_string_add_lists W X [47] (by omega) (by decide)
  have had2:∀W,(Op.stringOp .add ⟨(X++[47]).toArray⟩ ⟨(digs 10 K).toArray⟩).run Tryz.prog W=.ok (.string ⟨(X++(47::digs 10 K)).toArray⟩) W:=fun W=>by
   have:=run_string_add_lists (P:=Tryz.prog) W (X++[47]) (digs 10 K) (by simp;omega) (by omega)
   rw[this]
   simp
  have HIT:=hid (fun W (hW:Lan W)=>itoa_N K (by omega) W hW)
  clear hX hlen hd
  rw[HE.out]at HK ⊢
  rw[HT.out]
  go_enter Tryz.func72,Tryz.ntmps72
  go_wp2_with (first
   | (go_at_call 50;refine(HK.out _).mono ?_;rintro e w2 ⟨rfl,C2⟩)
   | (go_at_call 53;refine(HAT.out _ (HL1.out.chg0 C2)).mono ?_;rintro e w3 ⟨rfl,C3⟩;have ck:=((HB.out.chg C2 (by simp)).chg C3 (by simp)).cell_of (pfx_bits v n K))
   | (go_at_call 71;refine(HIT.out _ ((HL1.out.chg0 C2).chg0 C3)).mono ?_;rintro e w4 ⟨rfl,C4⟩)
   | (refine ld29p rfl _ rfl w.heap.size rfl 29 v n K (HB.out.chg C2 (by simp)) ?_)
   | (refine ld29 rfl _ rfl w.heap.size rfl 29 v n K HB.out ?_))
  go_ret2
  exact⟨rfl,((HC.out.trans C2).trans C3).trans C4⟩
 ·have HE:=hid (show errP v n k=151 by unfold errP;rw[if_neg h1])
  have HT:=hid (show ptxt v n k=[] by unfold ptxt;rw[if_neg h1])
  rw[HE.out]at HK ⊢
  rw[HT.out]
  go_enter Tryz.func72,Tryz.ntmps72
  go_wp2_with (first
   | (go_at_call 50;refine(HK.out _).mono ?_;rintro e w2 ⟨rfl,C2⟩)
   | (refine ld29 rfl _ rfl w.heap.size rfl 29 v n k HB.out ?_))
  go_ret2
  exact⟨rfl,HC.out.trans C2⟩
open Go.RowKit Go.Lib Go.Sort
def IsP(s:List UInt8)(v:Bool)(n:Nat)(k:Int):Prop:=n < 2^128∧okP v n k=true∧textP v n k=s
def RpPost(s:List UInt8)(w:World)(e:Ending)(w':World):Prop:=
 ∃(v:Bool) (n:Nat) (k:Int) (er:Int),e=.returned (.tuple #[.agg (pfx v n k).toArray,.int .i64 er])∧Chg [] w w'∧((er=0∧IsP s v n k∧∀v' m j,IsP s v' m j→v'=v∧m=n∧j=k)∨(er=151∧v=false∧n=0∧k=0∧∀v' m j,¬IsP s v' m j))
theorem slash_textA(v:Bool)(n:Nat):(47:UInt8)∉textA v n:=by
 have hd:∀u,(47:UInt8)∉digs 10 u:=fun u=>digs_none (by omega) (by omega) (.inl (by decide))
 have hx:∀u,(47:UInt8)∉digs 16 u:=fun u=>digs_none (by omega) (by omega) (.inl (by decide))
 have hj:∀l:List Nat,(47:UInt8)∉joinD l:=fun l h=>by
  rcases mem_of_joinC h with h|⟨x,hx2,h⟩
  ·exact absurd h (by decide)
  ·rw[List.mem_map]at hx2
   obtain⟨u,_,rfl⟩:=hx2
   exact hx u h
 cases v with
 |false=>
  intro h
  rcases mem_of_joinC (show(47:UInt8)∈text4 n from h)with h|⟨x,hx,h⟩
  ·exact absurd h (by decide)
  ·simp at hx
   rcases hx with rfl|rfl|rfl|rfl<;>exact hd _ h
 |true=>
  show(47:UInt8)∉text6 (grps n)
  unfold text6
  split
  ·exact hj _
  ·intro h
   rw[List.mem_append,List.mem_cons,List.mem_cons]at h
   rcases h with h|h|h|h
   ·exact hj _ h
   ·exact absurd h (by decide)
   ·exact absurd h (by decide)
   ·exact hj _ h
theorem cut_slash(l m:List UInt8)(h:(47:UInt8)∉l):Lib.cut (l++47::m) [47]=(l,m,true):=by
 unfold Lib.cut
 rw[index_sign 47 l m h,if_pos (by omega)]
 simp only[Int.toNat_natCast]
 rw[List.take_left' rfl]
 congr 2
 rw[show l++47::m=(l++[47])++m by simp]
 exact List.drop_left' (by simp)
theorem cut_back(s:List UInt8):((Lib.cut s [47]).2.1=[])∨s=(Lib.cut s [47]).1++47::(Lib.cut s [47]).2.1:=by
 by_cases h:(47:UInt8)∈s
 ·obtain⟨a,b,rfl,ha⟩:=first_of 47 s h
  rw[cut_slash a b ha]
  exact .inr rfl
 ·left
  unfold Lib.cut
  rcases Lib.index_spec s [47]with⟨h1,_⟩ | ⟨i,_,_,h3,_⟩
  ·rw[h1];rfl
  ·exact absurd (List.mem_of_getElem? ((occ_one s 47 i).1 h3)) h
set_option maxHeartbeats 8000000 in
theorem read_N(s:List UInt8)(hs:s.length≤100000000)(w:World)(HL:Lan w):Calls Tryz.prog 16 #[.string ⟨s.toArray⟩] w (RpPost s w):=by
 have HCUT:=hid (fun W (hW:Lan W)=>cut_N s [47] (by omega) W hW)
 have hcl:=cut_len s [47]
 have hcb:=cut_back s
 have HCS:=hid (fun v n k (h:IsP s v n k)=>(show(Lib.cut s [47]).1=textA v n∧(Lib.cut s [47]).2.1=digs 10 k.toNat by
  have:=cut_slash (textA v n) (digs 10 k.toNat) (slash_textA v n)
  rw[←h.2.2]
  unfold textP
  rw[this]
  exact⟨rfl,rfl⟩))
 obtain⟨at_,hat⟩:∃x,x=(Lib.cut s [47]).1:=⟨_,rfl⟩
 obtain⟨bt,hbt⟩:∃x,x=(Lib.cut s [47]).2.1:=⟨_,rfl⟩
 obtain⟨b,hb⟩:∃x,x=(Lib.cut s [47]).2.2:=⟨_,rfl⟩
 rw[←hat,←hbt]at hcl hcb HCS
 rw[←hat,←hbt,←hb]at HCUT
 clear hat hbt hb
 have HCB:=hid hcb
 have HRA:=hid (fun W (hW:Lan W)=>readAddr_N at_ (by omega) W hW)
 have HNU:=hid (fun W (hW:Lan W)=>num_N 10 128 (.inl rfl) (by omega) ⟨bt.toArray⟩ (by simp[ByteArray.size];omega) W hW)
 have HR:=hid (Blk.new w 29 zpfx)
 have HC:=hid ((Chg.refl [] w).alloc (.cells zpfx 29))
 have HL1:=hid (HL.alloc (.cells zpfx 29))
 clear HL hs hcl hcb
 go_enter Tryz.func16,Tryz.ntmps16
 go_wp2_with (first
  | (go_at_call 48;refine(HCUT.out _ HL1.out).mono ?_;rintro e w1 ⟨rfl,C1⟩)
  | (go_at_call 14;refine(HRA.out _ (HL1.out.chg0 C1)).mono ?_))
 rintro e w2 ⟨v,n,er,rfl,C2,hra⟩
 have HR2:=hid ((HR.out.chg C1 (by simp)).chg C2 (by simp))
 have HC2:=hid ((HC.out.trans C1).trans C2)
 have HL2:=hid ((HL1.out.chg0 C1).chg0 C2)
 have HLT:=hid (show w.heap.size < w2.heap.size from HR2.out.lt)
 clear HR HC HL1 C1 C2
 have HB3:=hid ((Blk.new w2 24 (adrV false fun _=>0).toArray).row (adr v n))
 have HR3:=hid (show Blk ((w2.alloc (.cells (adrV false fun _=>0).toArray 24)).setRow w2.heap.size (adr v n).toArray) w.heap.size 29 zpfx.toList from(HR2.out.alloc _).chg (S:=[w2.heap.size]) ((Chg.refl _ _).setRow (g:=w2.heap.size) (.inl (by simp)) _) (by have:=HLT.out;simp;omega))
 have HC3:=hid ((HC2.out.alloc (.cells (adrV false fun _=>0).toArray 24)).setRow (g:=w2.heap.size) (.inr (Nat.le_of_lt HLT.out)) (adr v n).toArray)
 have HL3:=hid ((HL2.out.alloc (.cells (adrV false fun _=>0).toArray 24)).chg (S:=[w2.heap.size]) ((Chg.refl _ _).setRow (g:=w2.heap.size) (.inl (by simp)) (adr v n).toArray) (by intro j hj;have:=HL2.out.low;rw[List.mem_singleton]at hj;omega))
 have HRAW:=hid hra
 clear hra
 go_wp2_with (first
  | (go_at_call 49;refine(HNU.out _ HL3.out).mono ?_)
  | (refine st24 rfl _ _ rfl w2.heap.size v (byteAt n) rfl rfl 24 (adrV false fun _=>0) (Blk.new w2 24 (adrV false fun _=>0).toArray) (adrV_length _ _) ?_))
 rintro e w3 ⟨u,ok,rfl,C3,u0,u1,hok,hcan⟩
 have HOK:=hid hok
 have HCAN:=hid hcan
 have HB4:=hid (HB3.out.chg C3 (by simp))
 have HR4:=hid (HR3.out.chg C3 (by simp))
 have HC4:=hid (HC3.out.trans C3)
 have HLT4:=hid (show w.heap.size < w3.heap.size from HR4.out.lt)
 clear hok hcan HB3 HR3 HC3 HL3 C3 HR2 HC2 HL2 HLT HCUT HRA HNU
 have hra:=HRAW.out
 clear HRAW
 obtain⟨kk,hkk⟩:∃kk,kk=IntKind.i64.wrap u:=⟨_,rfl⟩
 rcases hra with⟨rfl,hia,hun⟩ | ⟨rfl,rfl,rfl,hno⟩
 ·have HIA:=hid hia
  have HUN:=hid hun
  clear hia hun
  cases ok with
  |false=>
   have HF:=hid (show ∀v' m j,¬IsP s v' m j from fun v' m j h=>by
    have h2:=(HCS.out v' m j h).2
    have hb:=okP_bits h.2.1
    have:=(HCAN.out j.toNat (by omega) h2).2
    cases this)
   have hkk':=hkk.symm
   clear hkk u1
   have HR5:=hid (show Blk ((w3.alloc (.cells zpfx 29)).setRow w3.heap.size (pfx v n kk).toArray) w.heap.size 29 zpfx.toList from(HR4.out.alloc _).chg (S:=[w3.heap.size]) ((Chg.refl _ _).setRow (g:=w3.heap.size) (.inl (by simp)) _) (by have:=HLT4.out;simp;omega))
   have HC5:=hid ((HC4.out.alloc (.cells zpfx 29)).setRow (g:=w3.heap.size) (.inr (Nat.le_of_lt HLT4.out)) (pfx v n kk).toArray)
   go_wp2_with (first
    | (refine ld24n rfl _ rfl w2.heap.size rfl 24 v n HB4.out ?_)
    | (refine bd29 rfl _ _ rfl v n kk rfl rfl ?_)
    | (refine st29 rfl _ _ rfl w3.heap.size v n kk rfl rfl 29 _ (Blk.new w3 29 zpfx) rfl ?_)
    | (refine st29z rfl _ _ rfl w.heap.size rfl rfl 29 _ HR5.out rfl ?_))
   refine bodyPost_ret (rs29t rfl _ _ w.heap.size false 0 0 29 _ rfl rfl (HR5.out.row (pfx false 0 0))) rfl ?_
   exact⟨false,0,0,151,rfl,HC5.out.setRow (.inr (Nat.le_refl _)) _,.inr ⟨rfl,rfl,rfl,rfl,HF.out⟩⟩
  |true=>
   obtain⟨N,rfl,hN,hNt⟩:=HOK.out rfl
   have hkk':IntKind.i64.wrap (N:Int)=(N:Int):=by rw[IntKind.wrap_i64];omega
   rw[hkk']at hkk
   subst hkk
   have hNN:(N:Int)≤128:=by omega
   have HNT:=hid hNt
   clear u1 hNt
   have HSS:=hid (show s=textA v n++47::digs 10 N from by
    rcases HCB.out with h|h
    ·have h5:bt=digs 10 N:=HNT.out
     rw[h]at h5
     exact absurd h5.symm (digs_ne N)
    ·rw[h,←HIA.out.2.2]
     have h5:bt=digs 10 N:=HNT.out
     rw[h5])
   have HCH:=hid (fun v' m j (h:IsP s v' m j)=>(show v'=v∧m=n∧j=(N:Int)from by
    obtain⟨h1,h2⟩:=HCS.out v' m j h
    have hb:=okP_bits h.2.1
    have h3:=HUN.out v' m ⟨h.1,okP_okA h.2.1,h1.symm⟩
    have h4:bt=digs 10 N:=HNT.out
    have h5:j.toNat=N:=digs_inj (by omega) (by omega) (h2.symm.trans h4)
    exact⟨h3.1,h3.2,by omega⟩))
   have HK:=hid (check_N v n N HIA.out.1)
   by_cases hP:okP v n N=true
   ·have HF:=hid (show IsP s v n N∧∀v' m j,IsP s v' m j→v'=v∧m=n∧j=(N:Int)from⟨⟨HIA.out.1,hP,HSS.out.symm⟩,HCH.out⟩)
    rw[show errP v n N=0 by unfold errP;rw[if_pos hP]]at HK
    have HR5:=hid (show Blk ((w3.alloc (.cells zpfx 29)).setRow w3.heap.size (pfx v n N).toArray) w.heap.size 29 zpfx.toList from(HR4.out.alloc _).chg (S:=[w3.heap.size]) ((Chg.refl _ _).setRow (g:=w3.heap.size) (.inl (by simp)) _) (by have:=HLT4.out;simp;omega))
    have HC5:=hid ((HC4.out.alloc (.cells zpfx 29)).setRow (g:=w3.heap.size) (.inr (Nat.le_of_lt HLT4.out)) (pfx v n N).toArray)
    go_wp2_with (first
     | (go_at_call 50;refine(HK.out _).mono ?_;rintro e w6 ⟨rfl,C6⟩)
     | (refine ld24n rfl _ rfl w2.heap.size rfl 24 v n HB4.out ?_)
     | (refine bd29 rfl _ _ rfl v n N rfl rfl ?_)
     | (refine st29 rfl _ _ rfl w3.heap.size v n N rfl rfl 29 _ (Blk.new w3 29 zpfx) rfl ?_)
     | (refine ld29g rfl _ rfl w3.heap.size rfl 29 v n N ((Blk.new w3 29 zpfx).row _) ?_)
     | (refine ld29 rfl _ rfl w3.heap.size rfl 29 v n N (((Blk.new w3 29 zpfx).row _).chg C6 (by simp)) ?_)
     | (refine st29 rfl _ _ rfl w.heap.size v n N rfl rfl 29 _ (HR5.out.chg C6 (by simp)) rfl ?_))
    refine bodyPost_ret (rs29t rfl _ _ w.heap.size v n N 29 _ rfl rfl ((HR5.out.chg C6 (by simp)).row (pfx v n N))) rfl ?_
    exact⟨v,n,N,0,rfl,(HC5.out.trans C6).setRow (.inr (Nat.le_refl _)) _,.inl ⟨rfl,HF.out.1,HF.out.2⟩⟩
   ·have HF:=hid (show ∀v' m j,¬IsP s v' m j from fun v' m j h=>by
     obtain⟨rfl,rfl,rfl⟩:=HCH.out v' m j h
     exact hP h.2.1)
    rw[show errP v n N=151 by unfold errP;rw[if_neg hP]]at HK
    have HR5:=hid (show Blk ((w3.alloc (.cells zpfx 29)).setRow w3.heap.size (pfx v n N).toArray) w.heap.size 29 zpfx.toList from(HR4.out.alloc _).chg (S:=[w3.heap.size]) ((Chg.refl _ _).setRow (g:=w3.heap.size) (.inl (by simp)) _) (by have:=HLT4.out;simp;omega))
    have HC5:=hid ((HC4.out.alloc (.cells zpfx 29)).setRow (g:=w3.heap.size) (.inr (Nat.le_of_lt HLT4.out)) (pfx v n N).toArray)
    go_wp2_with (first
     | (go_at_call 50;refine(HK.out _).mono ?_;rintro e w6 ⟨rfl,C6⟩)
     | (refine ld24n rfl _ rfl w2.heap.size rfl 24 v n HB4.out ?_)
     | (refine bd29 rfl _ _ rfl v n N rfl rfl ?_)
     | (refine st29 rfl _ _ rfl w3.heap.size v n N rfl rfl 29 _ (Blk.new w3 29 zpfx) rfl ?_)
     | (refine ld29g rfl _ rfl w3.heap.size rfl 29 v n N ((Blk.new w3 29 zpfx).row _) ?_)
     | (refine st29z rfl _ _ rfl w.heap.size rfl rfl 29 _ (HR5.out.chg C6 (by simp)) rfl ?_))
    refine bodyPost_ret (rs29t rfl _ _ w.heap.size false 0 0 29 _ rfl rfl ((HR5.out.chg C6 (by simp)).row (pfx false 0 0))) rfl ?_
    exact⟨false,0,0,151,rfl,(HC5.out.trans C6).setRow (.inr (Nat.le_refl _)) _,.inr ⟨rfl,rfl,rfl,rfl,HF.out⟩⟩
 ·have HF:=hid (show ∀v' m j,¬IsP s v' m j from fun v' m j h=>by
   have h1:=(HCS.out v' m j h).1
   exact hno v' m ⟨h.1,okP_okA h.2.1,h1.symm⟩)
  have hkk':=hkk.symm
  clear hkk u1 hno
  have HR5:=hid (show Blk ((w3.alloc (.cells zpfx 29)).setRow w3.heap.size (pfx false 0 kk).toArray) w.heap.size 29 zpfx.toList from(HR4.out.alloc _).chg (S:=[w3.heap.size]) ((Chg.refl _ _).setRow (g:=w3.heap.size) (.inl (by simp)) _) (by have:=HLT4.out;simp;omega))
  have HC5:=hid ((HC4.out.alloc (.cells zpfx 29)).setRow (g:=w3.heap.size) (.inr (Nat.le_of_lt HLT4.out)) (pfx false 0 kk).toArray)
  go_wp2_with (first
   | (refine ld24n rfl _ rfl w2.heap.size rfl 24 false 0 HB4.out ?_)
   | (refine bd29 rfl _ _ rfl false 0 kk rfl rfl ?_)
   | (refine st29 rfl _ _ rfl w3.heap.size false 0 kk rfl rfl 29 _ (Blk.new w3 29 zpfx) rfl ?_)
   | (refine st29z rfl _ _ rfl w.heap.size rfl rfl 29 _ HR5.out rfl ?_))
  refine bodyPost_ret (rs29t rfl _ _ w.heap.size false 0 0 29 _ rfl rfl (HR5.out.row (pfx false 0 0))) rfl ?_
  exact⟨false,0,0,151,rfl,HC5.out.setRow (.inr (Nat.le_refl _)) _,.inr ⟨rfl,rfl,rfl,rfl,HF.out⟩⟩
end Go.Proofs.YtnncigmpcdehnaaGreatDoor
