import Derived.Test.YtnncigmpcdehnaaGreatDoorQi01
import Derived.Laws.IdiomStrings
import Derived.Lib.AppendIntMem
import Derived.Lib.Strings
import Derived.Lib.ConvBytes
import Derived.Lib.AtoiAllMem
import Derived.Laws.Strings3
open Nat renaming lt_of_lt_of_le→VE,le_refl→VM,le_trans→VW,zero_add→Wh,zero_le→Wi
open List renaming getElem?_eq_getElem→VF,length_drop→VH,drop_eq_getElem_cons→VK,range→VL,length_map→VN,length_take→VP,length_cons→VQ,getElem?_eq_some_iff→VS,take_of_length_le→VT,mem_map→VU,getElem?_eq_none→VV,mem_of_mem_take→VX,mem_of_mem_drop→VY,mem_of_getElem?→VZ,length_append→Wd,getElem?_map→We,length_set→Wg
open Go.IntKind renaming u64→VG,u8→Wa,wrap_u64→Wc
open Array renaming size_replicate→VI
open Go.Value renaming int→VJ,oneCell'→VR
open Go.Instr renaming sliceAt→VO
namespace Go.Proofs.YtnncigmpcdehnaaGreatDoor
set_option maxRecDepth 100000
open Go.RowKit Go.Lib Go.Sort _root_.Go.Proofs.Tryz
set_option maxRecDepth 100000
structure dD(w:World):Prop where
 m0:∃m,w.cell? ⟨1,0,none⟩=some (.int .i64 m)
 e1:∃ev,w.cell? ⟨3,0,none⟩=some ev∧(ev=.nilIface∨∃te pe,ev=.iface te pe)
 e2:∃ev,w.cell? ⟨4,0,none⟩=some ev∧(ev=.nilIface∨∃te pe,ev=.iface te pe)
 TN:Lib.TabIs prog w "internal/strconv.uint64pow10" .u64 Lib.pow10Tab
 tz:w.cell? ⟨8,15,none⟩=some (.int .u8 4)
 low:9≤w.heap.size
theorem Ia{w w':World}{g:Nat}(hg:prog.globalNamed "internal/strconv.uint64pow10"=some g)(h:Lib.TabIs prog w "internal/strconv.uint64pow10" .u64 Lib.pow10Tab)(hc:w'.heap[g]?=w.heap[g]?):Lib.TabIs prog w' "internal/strconv.uint64pow10" .u64 Lib.pow10Tab:=by unfold Lib.TabIs World.var? at*;rw[hg]at h ⊢;simp only[Option.bind_some]at h ⊢;rw[hc];exact h
theorem xJ:prog.globalNamed "internal/strconv.uint64pow10"=some 2:=by kernel_rfl
theorem dD.GF{w w':World}(h:dD w)(hs:w.heap.size≤w'.heap.size)(hc:∀k,k < 9→w'.heap[k]?=w.heap[k]?):dD w':=by have hl:=h.low;have e:∀k i,k < 9→w'.cell? ⟨k,i,none⟩=w.cell? ⟨k,i,none⟩:=fun k i hk=>World.cell?_of_block (w:=w) (hc k hk);exact⟨by rw[e 1 0 (by omega)];exact h.m0,by rw[e 3 0 (by omega)];exact h.e1,by rw[e 4 0 (by omega)];exact h.e2,Ia xJ h.TN (hc 2 (by omega)),by rw[e 8 15 (by omega)];exact h.tz,by omega⟩
theorem dD.aD{S:List Nat}{w w':World}(h:dD w)(hc:ah S w w')(hS:∀k∈S,9≤k):dD w':=
 h.GF hc.size fun k hk=>hc.block k (by have:=h.low;omega) (fun hm=>by have:=hS k hm;omega)
theorem dD.cW{w w':World}(h:dD w)(hc:ah [] w w'):dD w':=h.aD hc (by simp)
theorem dD.alloc{w:World}(h:dD w)(o:Obj):dD (w.alloc o):=h.cW ((ah.refl [] w).alloc o)
theorem Ud(w:World)(h:w.cell? ⟨8,15,none⟩=some (.int .u8 4)):Calls prog 247 #[.int .u64 16] w fun e w'=>e=.returned (.int .i64 4)∧w'=w:=by
 have h1:VG.wrap (bits BinOp.and VG 16 (VG.wrap (-16))*285870213051353865) / 288230376151711744=15:=by decide +kernel
 go_enter func247,ntmps247
 go_wp2
 go_ret
 exact⟨rfl,rfl⟩
theorem Sk(w:World)(h:w.cell? ⟨8,15,none⟩=some (.int .u8 4)):Calls prog 237 #[.int .u64 16] w fun e w'=>e=.returned (.int .i64 4)∧w'=w:=by
 go_enter func237,ntmps237
 go_wp2_with (go_at_call 247;refine(Ud _ h).mono ?_;rintro e w2 ⟨rfl,rfl⟩)
 go_ret
 exact⟨rfl,rfl⟩
theorem SK(w:World):Calls prog 236 #[.int .i64 16] w fun e w'=>e=.returned (.bool true)∧ah [] w w':=by
 have h1:bits BinOp.and IntKind.i64 16 15=0:=by decide+kernel
 go_enter func236,ntmps236
 go_wp2
 go_ret
 exact⟨rfl,ah.refl [] w⟩
def RX(l:List UInt8):List Value:=l.map fun b=>.int .u8 (b.toNat:Int)
theorem Qf{l:List UInt8}{j:Nat}(hj:j < l.length):(RX l)[j]?=some (.int .u8 (l[j].toNat:Int)):=by simp[RX,hj]
theorem TE(x:Nat)(hx:x < 65536):bits BinOp.and VG (x:Int) 15=((x%16:Nat):Int):=by have h:=u64_and_nat x 15 (by omega) (by omega);rw[show(15:Nat)=2^4 - 1 by rfl,Nat.and_two_pow_sub_one_eq_mod]at h;exact h
def Of:ByteArray:={ data:=#[48,49,50,51,52,53,54,55,56,57,97,98,99,100,101,102,103,104,105,106,107,108,109,110,111,112,113,114,115,116,117,118,119,120,121,122] }
theorem Kw:∀d:Fin 16,((Of[d.val]'(by have:=d.2;exact VE this (by decide))).toNat:Int)=((sig d.val).toNat:Int):=by decide+kernel
theorem EO(d:Nat)(h:d < 16)(h2:d < Of.size):((Of[d]'h2).toNat:Int)=((sig d).toNat:Int):=Kw ⟨d,h⟩
theorem wL{L:List Value}{i:Nat}{ds:List UInt8}(hi:i < L.length)(hD:L.drop (i+1)=RX ds)(c:UInt8):(L.set i (.int .u8 (c.toNat:Int))).drop i=RX (c::ds):=by rw[VK (by simpa using hi),List.getElem_set_self,List.drop_set_of_lt (by omega),hD];rfl
theorem Tm{W:World}{g k:Nat}{t:TypeId}{L:List Value}{b:List UInt8}{ds:List UInt8}(hs:b=ds)(hD:L.drop k=RX ds)(hB:aq W g t L)(cap:Nat) :
  (convert 82 9 (.slice (some ⟨g,k,none⟩) b.length cap)).run prog W=.ok (.string ⟨b.toArray⟩) W:=by
 subst hs;exact run_convert_bytes_back W 82 9 5 ⟨g,k,none⟩ cap b underlying82 underlying5 underlying9 fun j hj=>by refine hB.TF k j _ ?_;rw[hD];exact Qf hj
set_option maxHeartbeats 4000000 in
theorem vy(n:Nat)(hn:n < 65536)(w:World)(hl:dD w):Calls prog 199 #[.slice none 0 0,.int .u64 n,.int .i64 16,.bool false,.bool false] w fun e w'=>e=.returned (.tuple #[.slice none 0 0,.string ⟨(ao 16 n).toArray⟩])∧ah [] w w':=by
 have H0:=hid (aq.new w 286 zeroCells286);have HC:=hid ((ah.refl [] w).alloc (.cells zeroCells286 286));have HT:=hid (hl.alloc (.cells zeroCells286 286));go_enter func199,ntmps199
 go_wp2_with (first | (go_at_call 236;refine(SK _).mono ?_;rintro e w2 ⟨rfl,C2⟩) | (go_at_call 237;refine(Sk _ (HT.out.cW C2).tz).mono ?_;rintro e w3 ⟨rfl,rfl⟩))
 obtain⟨wo,hwo⟩:∃wo,wo=w3:=⟨_,rfl⟩;have HB0:=H0.out.aD C2 (by simp);have HC0:=HC.out.trans C2;rw[←hwo]at HB0 HC0 ⊢;clear hwo C2 H0 HC HT hl w3;go_loopw [1,13] (fun uv iv wr=>∃(u i:Nat) (a:Int) (L:List Value) (ds:List UInt8),uv=.int .u64 a∧iv=.int .i64 i∧aq wr w.heap.size 286 L∧L.length=65∧ah [] w wr∧Hid (a=(u:Int)∧u < 65536∧i+ds.length=65∧L.drop i=RX ds∧ao 16 n=ao 16 u++ds)) (fun uv _ _=>(RowKit.intOf uv).toNat)
 case atStart=>exact⟨n,65,n,_,[],rfl,rfl,HB0,rfl,HC0,rfl,hn,rfl,rfl,by simp⟩
 case round=>
  obtain⟨u,i,a,L,ds,rfl,rfl,hB,hL,hC,hh⟩:=hrel;obtain⟨ha,hu,hi,hD,hd⟩:=hh.out;clear hh;have hlen:=iX hn;rw[hd,Wd]at hlen;have hpos:0 < (ao 16 u).length:=List.length_pos_iff.2 (js u);obtain⟨k,rfl⟩:∃k,i=k+1:=⟨i - 1,by omega⟩;have hk:(((k+1:Nat):Int)) - 1=(k:Int):=by omega
  have hk65:k < 65:=by omega
  obtain⟨x,hc⟩:∃x,wr.cell? ⟨w.heap.size,k,none⟩=some x:=⟨_,hB.cell_of (i:=k) (VF (by omega:k < L.length))⟩;have hf:=hB.frozen k;have a0:0≤a:=by omega
  have a1:a < 65536:=by omega
  by_cases h16:a < 16
  ·have hD':=wL (c:=sig u) (by omega:k < L.length) hD
   have hlD:=congrArg List.length hD';rw[VH,Wg,hL]at hlD;have HD:=hid hD';have HH:=hid (show ds.length=64 - k by omega);have HS:=hid (show ao 16 n=sig u::ds by rw[hd,aX (by omega)];rfl);have HU:=hid (show a=(u:Int)∧u < 16 by omega);have hlen2:(ao 16 n).length=65 - k:=by rw[HS.out,VQ,HH.out]; omega
   have hsl:∀W,(VO 286 (.pointer (some ⟨w.heap.size,0,none⟩)) (some (.int .i64 (k:Int))) none none).run prog W=.ok (.slice (some ⟨w.heap.size,k,none⟩) (ao 16 n).length (65 - k)) W:=fun W=>by
    rw[run_sliceAt_array_l (P:=prog) W 286 ⟨w.heap.size,0,none⟩ (by kernel_rfl) .i64 (k:Int) (by omega) (by have:prog.arrayLen 286=65:=(by kernel_rfl);omega)];rw[hlen2];go_simp
    omega
   clear hlen2;clear hd hD hD' hlD hlen hpos ha hi hu;go_wp2
   obtain⟨ua,u16⟩:=HU.out;have hv:VJ Wa ((Of[a.toNat]'(VE (by omega:a.toNat < 16) (by decide))).toNat:Int)=.int .u8 ((sig u).toNat:Int):=by
    have e:a.toNat=u:=by omega
    congr 1;rw[←EO u u16 (VE u16 (by decide))];simp only[e]
   have hB2:=hB.oW k (.int .u8 ((sig u).toNat:Int));have HW:=Tm HS.out HD.out hB2;rw[show(VJ Wa ((({ data:=#[48,49,50,51,52,53,54,55,56,57,97,98,99,100,101,102,103,104,105,106,107,108,109,110,111,112,113,114,115,116,117,118,119,120,121,122] }:ByteArray)[a.toNat]'(VE (by omega:a.toNat < 16) (by decide))).toNat:Int))=.int .u8 ((sig u).toNat:Int)from hv];rw[HW (65 - k)];have HCC:=hid (hC.setCell (p:=⟨w.heap.size,k,none⟩) (.inr (VM _)) (.int .u8 ((sig u).toNat:Int)));go_wp2
   go_ret2
   exact⟨rfl,HCC.out⟩
  ·obtain⟨r,hr⟩:∃r:Int,r=bits BinOp.and VG a 15:=⟨_,rfl⟩
   have hr2:r=((u%16:Nat):Int):=by rw[hr,ha];exact TE u hu
   have r0:0≤r:=by omega
   have r1:r < 16:=by omega
   have hr':bits BinOp.and VG a 15=r:=hr.symm;clear hr;have HR:=hid hr2;have HD:=hid (wL (c:=sig (u%16)) (by omega:k < L.length) hD);have HS:=hid (show ao 16 n=ao 16 (u / 16)++sig (u%16)::ds by rw[hd,dB (by omega) (by omega)]; simp);have HU:=hid (show a=(u:Int)∧u < 65536∧k+(ds.length+1)=65 by omega);clear hd hD hlen hpos ha hi hu hr2;go_wp2
   obtain⟨ua,u16,hkd⟩:=HU.out;have hv:VJ Wa ((({ data:=#[48,49,50,51,52,53,54,55,56,57,97,98,99,100,101,102,103,104,105,106,107,108,109,110,111,112,113,114,115,116,117,118,119,120,121,122] }:ByteArray)[r.toNat]'(VE (by omega:r.toNat < 16) (by decide))).toNat:Int)=.int .u8 ((sig (u%16)).toNat:Int):=by
    have e:r.toNat=u%16:=by have:=HR.out;omega
    congr 1;rw[←EO (u%16) (by omega) (VE (by omega:u%16 < 16) (by decide))];simp only[e];rfl
   rw[hv];refine⟨⟨u / 16,k,a / 16,_,sig (u%16)::ds,rfl,rfl,hB.oW k _,by rw[Wg]; exact hL,hC.setCell (p:=⟨w.heap.size,k,none⟩) (.inr (VM _)) _,?_⟩,?_⟩
   ·exact⟨by omega,by omega,by simp;omega,HD.out,HS.out⟩
   ·simp[RowKit.intOf];omega
open Go.RowKit Go.Lib Go.Sort
theorem KE(n:Nat)(hn:n < 65536)(w:World)(hl:dD w):Calls prog 143 #[.int .u64 n,.int .i64 16] w fun e w'=>e=.returned (.string ⟨(ao 16 n).toArray⟩)∧ah [] w w':=by
 go_enter func143,ntmps143
 go_wp2_with (go_at_call 199;refine(vy n hn _ hl).mono ?_;rintro e w2 ⟨rfl,C2⟩)
 go_ret
 exact⟨rfl,C2⟩
theorem zo(n:Nat)(hn:n < 100)(w:World):Calls prog 143 #[.int .u64 n,.int .i64 10] w fun e w'=>e=.returned (.string ⟨(ao 10 n).toArray⟩)∧ah [] w w':=by
 rw[mD];go_enter func143,ntmps143
 go_wp2_with (go_at_call 196;refine(Tryz.internal_strconv_small n hn _).mono ?_;rintro e w2 ⟨rfl,rfl⟩)
 go_ret
 exact⟨rfl,ah.refl _ _⟩
theorem OA(w:World)(o:Obj)(dk:Array UInt8)(k:Nat):ah [] w ((putRow (fun(b:UInt8)=>VJ .u8 (b.toNat:Int)) (w.alloc o) w.heap.size 0 dk).drewN k):=by rw[alloc_eq_grow];obtain⟨os',_,e⟩:=putRow_grow_new (fun(b:UInt8)=>VJ .u8 (b.toNat:Int)) w #[o] w.heap.size 0 dk (VM _);refine ah.drewN ?_ k;rw[e];exact gH ⟨⟨w.drawn,os'⟩,rfl⟩
set_option maxHeartbeats 4000000 in
theorem Lr(u:Nat)(hn:100≤u)(hu64:u < 18446744073709551616)(w:World)(hl:dD w):Calls prog 143 #[.int .u64 u,.int .i64 10] w fun e w'=>e=.returned (.string ⟨(ao 10 u).toArray⟩)∧ah [] w w':=by
 rw[mD];have hnd:Lib.nDigits u≤20:=by have:=Lib.numDigits_eq u (by omega) hu64;split at this<;>omega
 have hal:prog.arrayLen 261=24:=by kernel_rfl
 have hsl:∀W,(VO 261 (.pointer (some ⟨w.heap.size,0,none⟩)) none (some (.int .i64 (Lib.nDigits u:Int))) none).run prog W=.ok (.slice (some ⟨w.heap.size,0,none⟩) (Lib.nDigits u) 24) W:=fun W=>by rw[run_sliceAt_array_h (P:=prog) W 261 ⟨w.heap.size,0,none⟩ (by kernel_rfl) .i64 (Lib.nDigits u:Int) (by omega) (by omega)];go_simp
 have hH0:=Lib.holds_zero0 w 261 (Lib.nDigits u) (by omega);have hfmt:=Tryz.internal_strconv_formatBase10 w.heap.size 0 24 u (Array.replicate (Lib.nDigits u) 0) (w.alloc (.cells Lib.zeros24 261)) hH0 (by rw[VI];exact Lib.lt_pow_nDigits u) hu64 (by rw[VI];omega);rw[VI]at hfmt;have HH:=hid hH0;clear hH0 hal;go_enter func143,ntmps143
 go_wp2_with (first
  | (go_at_call 197;refine(Tryz.internal_strconv_numDigits u (by omega) hu64 _ (Lib.tabIs_alloc hl.TN _)).mono ?_;rintro e w2 ⟨rfl,rfl⟩))
 go_at_call 198
 refine hfmt.mono ?_;rintro e w2 ⟨rfl,k,v',dk,rfl,hF⟩;have hcv:(convert 82 9 (.slice (some ⟨w.heap.size,0,none⟩) (Lib.nDigits u) 24)).run prog ((putRow (fun(b:UInt8)=>VJ .u8 (b.toNat:Int)) (w.alloc (.cells Lib.zeros24 261)) w.heap.size 0 dk).drewN k)=.ok (.string ⟨(Lib.decDigits u).toArray⟩) ((putRow (fun(b:UInt8)=>VJ .u8 (b.toNat:Int)) (w.alloc (.cells Lib.zeros24 261)) w.heap.size 0 dk).drewN k):=by have h:=run_convert_bytes_back (P:=prog) ((putRow (fun(b:UInt8)=>VJ .u8 (b.toNat:Int)) (w.alloc (.cells Lib.zeros24 261)) w.heap.size 0 dk).drewN k) 82 9 5 ⟨w.heap.size,0,none⟩ 24 (Lib.decDigits u) underlying82 underlying5 underlying9 (fun j hj=>by rw[Lib.row_is_numeral hF j hj,Lib.add_plain,World.cell?_drewN];exact cell?_putRow (fun(b:UInt8)=>VJ .u8 (b.toNat:Int)) _ w.heap.size 0 _ dk HH.out (by rw[hF.size,VI]) j (by rw[hF.size];rw[Lib.decDigits_length]at hj;exact hj));rw[Lib.decDigits_length]at h;exact h
 go_wp2
 go_ret
 exact⟨rfl,OA w _ dk k⟩
theorem Tl(b n:Nat)(hb:b=10∨b=16)(hn:n < 65536)(w:World)(hl:dD w):Calls prog 73 #[.int .u64 n,.int .i64 b] w fun e w'=>e=.returned (.string ⟨(ao b n).toArray⟩)∧ah [] w w':=by
 have H:Calls prog 143 #[.int .u64 n,.int .i64 b] w fun e w'=>e=.returned (.string ⟨(ao b n).toArray⟩)∧ah [] w w':=by
  rcases hb with rfl|rfl
  ·by_cases h:n < 100
   ·exact zo n h w
   ·exact Lr n (by omega) (by omega) w hl
  ·exact KE n hn w hl
 go_enter func73,ntmps73
 go_wp2_with (go_at_call 143;refine H.mono ?_;rintro e w2 ⟨rfl,C2⟩)
 go_ret
 exact⟨rfl,C2⟩
open Go.RowKit Go.Lib Go.Sort
def vc(b:Nat)(t:ByteArray)(w:World)(e:Ending)(w':World):Prop:=
 ∃(v:Int) (er:Value),e=.returned (.tuple #[.int .u64 v,er])∧ah [] w w'∧0≤v∧v < 18446744073709551616∧(er=.nilIface∨er=.iface 270 (.int .i64 2)∨er=.iface 270 (.int .i64 1))∧∀n,n < 65536→t.data.toList=ao b n→v=n∧er=.nilIface
theorem qF(w:World)(t:ByteArray):ah [] w (Lib.bytesWorld w 5 t):=
 ⟨rfl,rfl,rfl,by rw[Lib.bytesWorld_size];omega,fun k hk _=>Lib.bytesWorld_at_old w 5 t k hk⟩
theorem mb{b:Nat}{t:ByteArray}{w w':World}(hC:ah [] w w')(v:Int)(er:Value)(h0:0≤v)(h1:v < 18446744073709551616)(he:er=.iface 270 (.int .i64 2)∨er=.iface 270 (.int .i64 1))(hn:∀n,n < 65536→t.data.toList=ao b n→False) :
  vc b t w (.returned (.tuple #[.int .u64 v,er])) w':=⟨v,er,rfl,hC,h0,h1,.inr he,fun n h2 h3=>(hn n h2 h3).elim⟩
theorem Gy:∀d:Fin 16,10≤d.val→bits .or .u8 ((sig d.val).toNat:Int) 32=((sig d.val).toNat:Int):=by decide+kernel
set_option maxHeartbeats 32000000 in
theorem Nk(t:ByteArray)(hne:t.size≠0)(hmax:t.size≤9223372036854775806)(w:World):Calls prog 163 #[.string t,.int .i64 16,.int .i64 64] w (vc 16 t w):=by
 have hemp:t.toList.isEmpty=false:=by rw[←decide_eq_emptyBytes];exact decide_eq_false (fun h=>hne (by rw[h];rfl))
 have hcv:=Lib.run_convert_string_bytes (P:=prog) w 9 82 5 t (u:=.string) underlying9 underlying82 underlying5;have hB:∀j,j < t.size→(Lib.bytesWorld w 5 t).cell? ⟨w.heap.size,j,none⟩=some (.int .u8 (t.data.toList.getD j 0).toNat):=fun j hj=>Lib.bytesWorld_cell w 5 t j hj;have HC:=hid (qF w t);obtain⟨W1,hW1⟩:∃W1,W1=Lib.bytesWorld w 5 t:=⟨_,rfl⟩;rw[←hW1]at hcv hB HC;clear hW1;obtain⟨bs,hL⟩:∃bs,bs=t.data.toList:=⟨_,rfl⟩;have hLn:bs.length=t.size:=by rw[hL,Lib.size_eq]
 rw[←hL]at hB;have HL:=hid hL;clear hL;have hmv:VG.wrap (VG.wrap 18446744073709551616 - 1)=18446744073709551615:=by rw[Wc,Wc];decide
 go_enter func163,ntmps163
 go_wp2
 go_loop [12,13,101] (fun vu vn vi=>∃(k:Nat) (a:Int),vu=.bool false∧vn=.int .u64 a∧vi=.int .i64 k∧k≤t.size∧0≤a∧a < 18446744073709551616∧Hid (∀n,n < 65536→bs=ao 16 n→a=(nE 16 (bs.take k):Nat)))
  (fun _ _ vi=>t.size - (RowKit.intOf vi).toNat)
 case atStart=>exact⟨0,0,rfl,rfl,rfl,by omega,by omega,by omega,fun n _ _=>rfl⟩
 case round=>
  obtain⟨k,a,rfl,rfl,rfl,hk,a0,a1,hh⟩:=hrel;by_cases hkn:k < t.size
  ·have hc:=hB k hkn
   have hget:bs.getD k 0=bs[k]'(by omega):=by simp[List.getD,VF (show k < bs.length by omega)]
   have hgk:bs[k]?=some (bs[k]'(by omega)):=VF (by omega);rw[hget]at hc;generalize bs[k]'(by omega)=c at hc hgk;have HG:=hid hgk;have HN:=hid (Is (b:=16) bs k c hgk);have HT:=hid (fun n (hn:n < 65536) (h:bs=ao 16 n)=>(show nE 16 (bs.take k) < 65536 by
    have:=Ir (b:=16) (by omega) bs k;have e:nE 16 bs=n:=by rw[h];exact iF (by omega) (by omega) n
    omega))
   have HM:=hid (fun n (h:bs=ao 16 n)=>(show ∃d,d < 16∧c=sig d from iW (by omega) n c (by rw[←h];exact VZ hgk)));have hc256:(c.toNat:Int) < 256:=by have:=c.toNat_lt;omega
   have hc0:0≤(c.toNat:Int):=by omega
   obtain⟨ci,hci⟩:∃ci:Int,ci=(c.toNat:Int):=⟨_,rfl⟩;rw[←hci]at hc hc256 hc0;have HCI:=hid hci;clear hB hget hgk hci;have HV:=hh;clear hh;by_cases hdig:48≤ci∧ci≤57
   ·obtain⟨hd0,hd1⟩:=hdig
    by_cases hcut:1152921504606846976≤a
    ·go_wp2
     go_ret2
     refine mb HC.out _ _ (by omega) (by omega) (.inr rfl) fun n hn h=>?_;rw[←HL.out]at h;have h1:=HT.out n hn h;have h2:=HV.out n hn h;omega
    ·have icut:a < 1152921504606846976:=by omega
     clear hcut;go_wp2
     refine⟨⟨k+1,a*16+(ci - 48),rfl,rfl,by go_num,by omega,by omega,by omega,fun n hn h=>?_⟩,by simp[RowKit.intOf]; omega⟩;have h1:=HV.out n hn h;have h2:=HCI.out;rw[HN.out,h1];unfold nB;rw[if_pos (by omega)]
     push_cast
     omega
   ·obtain⟨l,hl⟩:∃l:Int,l=bits .or .u8 ci 32:=⟨_,rfl⟩
    have hl0:0≤l:=by rw[hl];exact bits_lo_u8 .or ci 32
    have hl1:l < 256:=by rw[hl];have:=bits_hi_u8 .or ci 32;omega
    have HLO:Hid (∀W,Calls prog 216 #[.int .u8 ci] W fun e w'=>e=.returned (.int .u8 l)∧w'=W):=hid fun W=>by rw[hl];exact Tryz.internal_strconv_lower ci W
    have HLE:=hid hl;have HLV:=hid (fun d (hd:d < 16) (h:c=sig d) (h10:10≤d)=>(show l=ci∧ci=87+d by have h1:=eZ hd;have h2:=HCI.out;rw[h]at h2;rw[if_neg (by omega)]at h1;have h3:=Gy ⟨d,hd⟩ h10;rw[hl,h2];exact⟨h3,by omega⟩));clear hl;by_cases h95:ci=95
    ·have hl95:l=127:=by rw[HLE.out,h95];decide
     rw[hl95,h95]at HLO;have HCN:=hid (show ∀d,d < 16→c≠sig d from fun d hd h=>by have h1:=eZ hd;have h2:=HCI.out;rw[h]at h2;split at h1<;>omega);clear HLE HLV HCI hl0 hl1 hl95 l;subst h95;go_wp2_with (go_at_call 216;refine(HLO.out _).mono ?_;rintro e w2 ⟨rfl,rfl⟩)
     go_ret2
     refine mb HC.out _ _ (by omega) (by omega) (.inl rfl) fun n hn h=>?_;rw[←HL.out]at h;obtain⟨d,hd,h3⟩:=HM.out n h;exact HCN.out d hd h3
    ·have d95:decide (ci=95)=false:=decide_eq_false h95
     clear HLE;by_cases h97:97≤l∧l≤122
     ·obtain⟨l0,l1⟩:=h97
      by_cases h16:l < 103
      ·by_cases hcut:1152921504606846976≤a
       ·go_wp2_with (go_at_call 216;refine(HLO.out _).mono ?_;rintro e w2 ⟨rfl,rfl⟩)
        all_goals go_ret2
        all_goals refine mb HC.out _ _ (by omega) (by omega) (.inr rfl) fun n hn h=>?_
        all_goals rw[←HL.out]at h
        all_goals have h1:=HT.out n hn h
        all_goals have h2:=HV.out n hn h
        all_goals omega
       ·have icut:a < 1152921504606846976:=by omega
        clear hcut;have HFIN:Hid (Hid (∀n,n < 65536→bs=ao 16 n→a*16+(l - 97+10)=(nE 16 (bs.take (k+1)):Nat))):=hid fun n hn h=>by
         have h1:=HV.out n hn h;obtain⟨d,hd,h3⟩:=HM.out n h;rw[HN.out,h1,h3,pT hd];by_cases h10:d < 10
         ·have h4:=eZ hd
          have h5:=HCI.out;rw[h3]at h5;rw[if_pos h10]at h4;omega
         ·obtain⟨h4,h5⟩:=HLV.out d hd h3 (by omega)
          push_cast
          omega
        go_wp2_with (go_at_call 216;refine(HLO.out _).mono ?_;rintro e w2 ⟨rfl,rfl⟩)
        all_goals exact⟨⟨k+1,a*16+(l - 97+10),rfl,rfl,by go_num,by omega,by omega,by omega,HFIN.out⟩,by simp[RowKit.intOf]; omega⟩
      ·go_wp2_with (go_at_call 216;refine(HLO.out _).mono ?_;rintro e w2 ⟨rfl,rfl⟩)
       all_goals go_ret2
       all_goals refine mb HC.out _ _ (by omega) (by omega) (.inl rfl) fun n hn h=>?_
       all_goals rw[←HL.out]at h
       all_goals obtain⟨d,hd,h3⟩:=HM.out n h
       all_goals by_cases h10:d < 10
       all_goals first | (have h4:=eZ hd;have h5:=HCI.out;rw[h3]at h5;rw[if_pos h10]at h4;omega) | (obtain⟨h4,h5⟩:=HLV.out d hd h3 (by omega);omega)
     ·go_wp2_with (go_at_call 216;refine(HLO.out _).mono ?_;rintro e w2 ⟨rfl,rfl⟩)
      all_goals go_ret2
      all_goals refine mb HC.out _ _ (by omega) (by omega) (.inl rfl) fun n hn h=>?_
      all_goals rw[←HL.out]at h
      all_goals obtain⟨d,hd,h3⟩:=HM.out n h
      all_goals by_cases h10:d < 10
      all_goals first | (have h4:=eZ hd;have h5:=HCI.out;rw[h3]at h5;rw[if_pos h10]at h4;omega) | (obtain⟨h4,h5⟩:=HLV.out d hd h3 (by omega);omega)
  ·have hkk:k=t.size:=by omega
   subst hkk;have HV:=hh;clear hh;go_wp2
   go_ret2
   refine⟨a,.nilIface,rfl,HC.out,a0,a1,.inl rfl,fun n hn h=>⟨?_,rfl⟩⟩;rw[←HL.out]at h;rw[HV.out n hn h,VT (by omega),h,iF (by omega) (by omega)]
open Go.RowKit Go.Lib Go.Sort
theorem po:∀(l:List UInt8) (acc:Nat),(∀c∈l,∃d,d < 10∧c=sig d)→l.foldl (fun a c=>10*a+nB c) acc < 65536→Lib.parseUint10 acc l=.ok (l.foldl (fun a c=>10*a+nB c) acc)
 | [],acc,_,_=>rfl
 |c::l,acc,h,hn=>by obtain⟨d,hd,rfl⟩:=h c (by simp);have h1:=eZ (d:=d) (by omega);rw[if_pos hd]at h1;rw[List.foldl_cons]at hn ⊢;have h2:=yk (b:=10) (by omega) l (10*acc+nB (sig d));have h3:nB (sig d)=d:=pT (by omega);unfold Lib.parseUint10;rw[if_pos (by omega),if_neg (by omega),if_neg (by omega)];rw[show acc*10+((sig d).toNat - 48)=10*acc+nB (sig d)by omega];exact po l _ (fun c hc=>h c (by simp[hc])) hn
theorem mh(n:Nat)(hn:n < 65536):Lib.parseUint10 0 (ao 10 n)=.ok n:=by have hv:(ao 10 n).foldl (fun a c=>10*a+nB c) 0=n:=iF (b:=10) (by omega) (by omega) n;rw[po (ao 10 n) 0 (iW (by omega) n) (by rw[hv];exact hn),hv]
theorem Nl(t:ByteArray)(hne:t.size≠0)(hmax:t.size≤9223372036854775806)(w:World):Calls prog 163 #[.string t,.int .i64 10,.int .i64 64] w (vc 10 t w):=by
 refine(Tryz.internal_strconv_ParseUint_10_b64 t hne hmax w).mono ?_;rintro e w' ⟨rfl,rfl⟩;have hC:=qF w t;rcases h:Lib.parseUint10 0 t.data.toList with u|_|_
 ·refine⟨u,.nilIface,rfl,hC,by omega,by have:=Lib.parseUint10_lt _ 0 u (by omega) h;omega,.inl rfl,fun n hn h2=>⟨?_,rfl⟩⟩
  rw[h2,mh n hn]at h;injection h with h;omega
 ·exact mb hC _ _ (by omega) (by omega) (.inl rfl) fun n hn h2=>by rw[h2,mh n hn]at h;cases h
 ·exact mb hC _ _ (by omega) (by omega) (.inr rfl) fun n hn h2=>by rw[h2,mh n hn]at h;cases h
theorem Qv(b:Nat)(t:ByteArray)(h0:t.size=0)(w:World):Calls prog 163 #[.string t,.int .i64 b,.int .i64 64] w (vc b t w):=by
 have ht:t=⟨#[]⟩:=by
  obtain⟨⟨l⟩⟩:=t;cases l with
  |nil=>rfl
  |cons _ _=>simp[ByteArray.size]at h0
 subst ht;refine(Tryz.internal_strconv_ParseUint_empty b 64 w).mono ?_;rintro e w' ⟨rfl,rfl⟩;exact mb (ah.refl _ _) _ _ (by omega) (by omega) (.inl rfl) fun n hn h2=>js n h2.symm
theorem Um(b:Nat)(hb:b=10∨b=16)(t:ByteArray)(hmax:t.size≤281474976710656)(w:World):Calls prog 163 #[.string t,.int .i64 b,.int .i64 64] w (vc b t w):=by
 by_cases h0:t.size=0
 ·exact Qv b t h0 w
 ·rcases hb with rfl|rfl
  ·exact Nl t h0 (by omega) w
  ·exact Nk t h0 (by omega) w
def Canon(b:Nat)(t:ByteArray)(v:Int)(er:Value):Prop:=∀n,n < 65536→t.data.toList=ao b n→v=n∧er=.nilIface
def RQ(b:Nat)(t:ByteArray)(w:World)(e:Ending)(w':World):Prop:=
 ∃(v:Int) (er:Value),e=.returned (.tuple #[.int .u64 v,er])∧ah [] w w'∧0≤v∧v < 18446744073709551616∧(er=.nilIface∨∃N,er=.iface 272 (.pointer (some ⟨N,0,none⟩)))∧∀n,n < 65536→t.data.toList=ao b n→v=n∧er=.nilIface
set_option maxHeartbeats 4000000 in
theorem Un(b:Nat)(hb:b=10∨b=16)(t:ByteArray)(hmax:t.size≤281474976710656)(w:World)(hl:dD w):Calls prog 106 #[.string t,.int .i64 b,.int .i64 64] w (RQ b t w):=by
 have HP:=hid (Um b hb t hmax w);have HX:=hid hmax;clear hb hmax;go_enter func106,ntmps106
 go_wp2_with (go_at_call 163;refine HP.out.mono ?_)
 rintro e w2 ⟨v,er,rfl,C2,h0,h1,he,hn⟩;have HN:Canon b t v er:=hn;have HL:=hid (hl.cW C2);have HV:=hid (And.intro h0 h1);clear hn HP h0 h1;rcases he with rfl|rfl|rfl
 ·go_wp2
  go_ret2
  exact⟨v,.nilIface,rfl,C2,HV.out.1,HV.out.2,.inl rfl,HN⟩
 ·obtain⟨ev,hev,hk⟩:=HL.out.e1
  have HE:=hid hev;have HK:=hid hk;clear hev hk;go_wp2_with (go_at_call 164;refine(Tryz.strconv_toError_syntax _ _ _ _ ev _ HX.out HE.out HK.out).mono ?_;rintro e w3 ⟨N,rfl,hN,hN2,B3⟩)
  go_ret2
  refine⟨v,_,rfl,C2.trans (ah.df B3),HV.out.1,HV.out.2,.inr ⟨N,rfl⟩,fun n hn h=>?_⟩;have:=(HN n hn h).2;cases this
 ·obtain⟨ev,hev,hk⟩:=HL.out.e2
  have HE:=hid hev;have HK:=hid hk;clear hev hk;go_wp2_with (go_at_call 164;refine(Tryz.strconv_toError_range _ _ _ _ ev _ HX.out HE.out HK.out).mono ?_;rintro e w3 ⟨N,rfl,hN,hN2,B3⟩)
  go_ret2
  refine⟨v,_,rfl,C2.trans (ah.df B3),HV.out.1,HV.out.2,.inr ⟨N,rfl⟩,fun n hn h=>?_⟩;have:=(HN n hn h).2;cases this
def LS(b most:Nat)(t:ByteArray)(w:World)(e:Ending)(w':World):Prop:=
 ∃(v:Int) (ok:Bool),e=.returned (.tuple #[.int .u64 v,.bool ok])∧ah [] w w'∧0≤v∧v < 18446744073709551616∧(ok=true→∃n:Nat,v=n∧n≤most∧t.data.toList=ao b n)∧∀n:Nat,n≤most→t.data.toList=ao b n→v=n∧ok=true
theorem PG{b most:Nat}{t:ByteArray}{w w':World}{v:Int}(hC:ah [] w w')(h0:0≤v)(h1:v < 18446744073709551616)(hn:∀n:Nat,n≤most→t.data.toList=ao b n→False):LS b most t w (.returned (.tuple #[.int .u64 v,.bool false])) w':=
 ⟨v,false,rfl,hC,h0,h1,fun h=>(Bool.false_ne_true h).elim,fun n h2 h3=>(hn n h2 h3).elim⟩
set_option maxHeartbeats 4000000 in
theorem Ev(b most:Nat)(hb:b=10∨b=16)(hm:most < 65536)(t:ByteArray)(hmax:t.size≤281474976710656)(w:World)(hl:dD w):Calls prog 49 #[.string t,.int .i64 b,.int .u64 most] w (LS b most t w):=by
 have HP:=hid (Un b hb t hmax w hl);have HF:=hid (fun(n:Nat) (hn:n < 65536) (W:World) (hW:dD W)=>Tl b n hb hn W hW);clear hb hmax;go_enter func49,ntmps49
 go_wp2_with (go_at_call 106;refine HP.out.mono ?_)
 rintro e w2 ⟨v,er,rfl,C2,h0,h1,he,hn⟩;have HN:Canon b t v er:=hn;have HL:=hid (hl.cW C2);have HV:=hid (And.intro h0 h1);clear hn HP h1;obtain⟨n,rfl⟩:∃n:Nat,v=n:=⟨v.toNat,by omega⟩;clear h0;rcases he with rfl|⟨N,rfl⟩
 ·by_cases hle:n≤most
  ·have HF2:=hid (HF.out n (by omega) w2 HL.out)
   have HLE:=hid hle;have hle':decide ((n:Int)≤(most:Int))=true:=decide_eq_true (by omega);go_wp2_with (go_at_call 73;refine HF2.out.mono ?_;rintro e w3 ⟨rfl,C3⟩)
   go_ret2
   refine⟨n,(ao b n==t.toList),rfl,C2.trans C3,HV.out.1,HV.out.2,fun h=>⟨n,rfl,HLE.out,?_⟩,fun m hm2 h=>?_⟩
   ·rw[beq_iff_eq,ByteArray.toList_eq]at h
    exact h.symm
   ·have h3:=(HN m (by omega) h).1
    have h4:m=n:=by omega
    subst h4;refine⟨rfl,?_⟩;rw[beq_iff_eq,ByteArray.toList_eq];exact h.symm
  ·have hle':decide ((n:Int)≤(most:Int))=false:=decide_eq_false (by omega)
   have HLE:=hid hle;go_wp2
   go_ret2
   refine PG C2 HV.out.1 HV.out.2 fun m hm2 h=>?_;have h3:=(HN m (by omega) h).1;have h4:=HLE.out;omega
 ·go_wp2
  go_ret2
  refine PG C2 HV.out.1 HV.out.2 fun m hm2 h=>?_;have:=(HN m (by omega) h).2;cases this
set_option maxRecDepth 100000
open Go.RowKit Go.Lib Go.Sort _root_.Go.Proofs.Tryz
set_option maxRecDepth 100000
theorem Tryz.PL:(prog.info? 9).map (fun i=>(i.zero,i.size,i.bytes))=some (some (.string ⟨#[]⟩),1,16):=by kernel_rfl
def strs(xs:List (List UInt8)):List Value:=xs.map fun l=>.string ⟨l.toArray⟩
theorem qj(xs:List (List UInt8))(l:List UInt8):strs (xs++[l])=strs xs++[.string ⟨l.toArray⟩]:=by simp[strs]
theorem DS{xs:List (List UInt8)}{j:Nat}{x:ByteArray}(h:(xs.map fun l=>(⟨l.toArray⟩:ByteArray))[j]?=some x):(strs xs)[j]?=some (.string x):=by
 rw[We]at h;unfold strs;rw[We];cases hx:xs[j]? with
 |none=>rw[hx]at h;cases h
 |some y=>rw[hx]at h;injection h with h;rw[←h];rfl
theorem pU(xs:List (List UInt8)):(xs.map fun l=>(⟨l.toArray⟩:ByteArray)).map (·.data.toList)=xs:=by
 rw[List.map_map]
 conv=>rhs;rw[←List.map_id xs]
 rfl
theorem Ar{w0 w:World}{A:Option Go.Addr}{n c:Nat}{xs:List (List UInt8)}(h:Acc w0 w 9 1 (.slice A n c) n (strs xs))(sep:UInt8)(hN:n≤140737488355328)(hlen:(aE sep xs).length≤140737488355328) :
  Calls prog 87 #[.slice A n c,.string ⟨#[sep]⟩] w (Rn w (.string ⟨(aE sep xs).toArray⟩)):=by
 have hl:xs.length=n:=by have:=h.own.len;simpa[strs]using this
 by_cases h0:n=0
 ·subst h0
  have:xs=[]:=List.eq_nil_of_length_eq_zero hl;subst this;exact(Tryz.strings_Join_none A c ⟨#[sep]⟩ w).mono fun e w' ⟨h1,h2⟩=>⟨h1,by rw[h2];exact ah.refl _ _⟩
 ·obtain⟨g,o,c',hv,hnc,_,hg⟩:=h.own.some_ (by omega)
  injection hv with hA _ hc;subst hA hc;have hj:=Tryz.strings_Join g o c (xs.map fun l=>(⟨l.toArray⟩:ByteArray)) ⟨#[sep]⟩ w (fun j x hx=>by have:=h.own.ja j _ (DS hx);rwa [Lib.add_plain]at this) hg (by simpa[hl]using hN) (by simpa[hl]using hnc) (by rw[pU,show(⟨#[sep]⟩:ByteArray).data.toList=[sep]from rfl,mw];exact hlen);rw[pU,show(⟨#[sep]⟩:ByteArray).data.toList=[sep]from rfl,mw,VN,hl]at hj;exact hj.mono fun e w' ⟨h1,h2⟩=>⟨h1,ah.df h2⟩
theorem iB(c:UInt8)(M:Nat):∀xs:List (List UInt8),(∀x∈xs,x.length≤M)→(aE c xs).length≤xs.length*(M+1)
 | [],_=>by simp[aE]
 | [x],h=>by have:=h x (by simp);simp[aE];omega
 |x::y::r,h=>by have h1:=h x (by simp);have h2:=iB c M (y::r) (fun z hz=>h z (by simp at hz ⊢;exact .inr hz));rw[aE,Wd,VQ,VQ,Nat.succ_mul];omega
set_option maxHeartbeats 4000000 in
theorem Ap(l:List Nat)(hl:∀u∈l,u < 65536)(g o c:Nat)(hn:l.length≤8)(w:World)(HL:dD w)(hA:∀j u,l[j]?=some u→w.cell? ⟨g,o+j,none⟩=some (.int .u16 (u:Nat)))(hg:g < w.heap.size) :
  Calls prog 112 #[.slice (some ⟨g,o,none⟩) l.length c] w fun e w'=>e=.returned (.string ⟨(cH l).toArray⟩)∧ah [] w w':=by
 obtain⟨i0,hi,hz0,hz1,hz2⟩:=info_parts Tryz.PL;have HLL:=hid HL;clear HL;have HU:=hid hl;clear hl;have HA:=hid hA;clear hA;have HIN:=hid (Sx.t2 hi hz0 (And.intro hz1 hz2));clear hi hz0 hz1 hz2;obtain⟨n,hln⟩:∃n,n=l.length:=⟨_,rfl⟩;rw[←hln]at hn ⊢;have HLN:=hid hln;clear hln;go_enter func112,ntmps112
 go_wp2
 go_loopw [3,8] (fun sv iv wr=>∃(k:Nat) (Av:Option Go.Addr) (cv:Nat),k≤n∧iv=.int .i64 k∧sv=.slice Av k cv∧Acc w wr 9 1 (.slice Av k cv) k (strs ((l.take k).map (ao 16)))) (fun _ iv _=>n - (RowKit.intOf iv).toNat)
 case atStart=>exact⟨0,none,0,Wi _,rfl,rfl,Acc.nil w 9 1 (ah.refl _ _)⟩
 case round=>
  obtain⟨k,Av,cv,hk,rfl,rfl,hAc⟩:=hrel;by_cases hlt:k < n
  ·have hkl:k < l.length:=by rw[←HLN.out];exact hlt
   obtain⟨u,hu⟩:∃u,l[k]?=some u:=⟨_,VF hkl⟩;have hu16:=HU.out u (VZ hu);have cu:=(hAc.aD.cell (p:=⟨g,o+k,none⟩) hg (by simp)).trans (HA.out k u hu);have HF:=hid (Tl 16 u (.inr rfl) hu16 wr (HLL.out.cW hAc.aD));have HS:=hid (show strs ((l.take (k+1)).map (ao 16))=strs ((l.take k).map (ao 16))++[.string ⟨(ao 16 u).toArray⟩] by rw[List.take_add_one,hu];simp[strs]);have HAc:=hid hAc;clear hu hAc;have hu0:(0:Int)≤(u:Int):=by omega
   go_wp2_with (first | (go_at_call 73;refine HF.out.mono ?_;rintro e w2 ⟨rfl,C2⟩) | ((with_reducible refine eW ?_);(refine dz _ rfl (.tmp 12) (.tmp 16) 70 rfl 9 i0 _ 1 16 underlying70 HIN.out.1 HIN.out.2.1 HIN.out.2.2.1 HIN.out.2.2.2 rfl (by omega) (.slice Av k cv) k (strs ((l.take k).map (ao 16))) rfl ((HAc.out.later C2).alloc _).own ⟨w2.heap.size,0,none⟩ 1 1 [.string ⟨(ao 16 u).toArray⟩] rfl rfl (by simpa using (aq.new w2 9 #[.string ⟨(ao 16 u).toArray⟩]).BA) (by simp[VR]) (by unfold maxLen;omega) (by omega) ?_);intro A' c' w3 hO3 hC3 hb3))
   go_roundw
   case measure=>simp[RowKit.intOf];omega
   case rel=>refine⟨k+1,A',c',by omega,by go_num,rfl,?_⟩;rw[HS.out];exact Acc.append ((HAc.out.later C2).alloc _) hO3 hC3 hb3
  ·have hkn:k=n:=by omega
   subst hkn;have HT:=hid (show l.take k=l from VT (by rw[←HLN.out];exact VM _));rw[HT.out]at hAc;have HJ:=hid (Ar hAc 58 (by omega) (by have:=iB 58 4 (l.map (ao 16)) (fun x hx=>by rw[VU]at hx;obtain⟨u,hu,rfl⟩:=hx;exact iX (HU.out u hu));rw[VN,←HLN.out]at this;omega));have HCC:=hid hAc.aD;clear hAc;go_wp2_with (go_at_call 87;refine HJ.out.mono ?_;rintro e w4 ⟨rfl,C4⟩)
   go_ret
   exact⟨rfl,HCC.out.trans C4⟩
open Go.RowKit Go.Lib Go.Sort
theorem DM(w:World):Calls prog 160 #[] w fun e w'=>e=.returned (.int .i64 2)∧w'=w:=by
 go_enter func160,ntmps160
 go_wp2
 go_loopw [1,2] (fun nv tv wr=>wr=w∧((nv=.int .i64 0∧tv=.int .u64 65535)∨(nv=.int .i64 1∧tv=.int .u64 255)∨(nv=.int .i64 2∧tv=.int .u64 0))) (fun _ tv _=>(RowKit.intOf tv).toNat)
 case atStart=>exact⟨rfl,.inl ⟨rfl,rfl⟩⟩
 case round=>
  obtain⟨rfl,⟨rfl,rfl⟩ | ⟨rfl,rfl⟩ | ⟨rfl,rfl⟩⟩:=hrel
  ·go_wp2
   go_roundw
   case measure=>decide
   case rel=>exact⟨by first|trivial|rfl,.inr (.inl ⟨rfl,rfl⟩)⟩
  ·go_wp2
   go_roundw
   case measure=>decide
   case rel=>exact⟨by first|trivial|rfl,.inr (.inr ⟨rfl,rfl⟩)⟩
  ·go_wp2
   go_ret
   exact⟨rfl,rfl⟩
theorem xM(v x:Nat)(hv:v < 65536)(hx:x < 256):bits .or .u64 ((v:Int)*256) (x:Int)=((v*256+x:Nat):Int):=by
 have h:=u64_or_nat (v*256) x (by omega) (by omega);rw[nat_join 8 (v*256) x (by omega) (by omega)]at h;have e:((v*256:Nat):Int)=(v:Int)*256:=by omega
 rwa [e]at h
set_option maxHeartbeats 4000000 in
theorem Qi(g o c:Nat)(i:Nat)(hi:i < 8)(n:Nat)(w:World)(hb:∀j,j < 16→w.cell? ⟨g,o+j,none⟩=some (.int .u8 (an n j:Nat)))(hc:16≤c) :
  Calls prog 165 #[.slice (some ⟨g,o,none⟩) 16 c,.int .i64 (2*i:Nat)] w fun e w'=>e=.returned (.tuple #[.int .u16 (je n i:Nat),.int .i64 0])∧w'=w:=by
 have h1:=hb (2*i) (by omega);have h2:=hb (2*i+1) (by omega);have l1:=bH n (2*i);have l2:=bH n (2*i+1);obtain⟨x,hx⟩:∃x,x=an n (2*i):=⟨_,rfl⟩;obtain⟨y,hy⟩:∃y,y=an n (2*i+1):=⟨_,rfl⟩;have HG:=hid (show je n i=x*256+y by rw[hx,hy];rfl);rw[←hx]at h1 l1;rw[←hy]at h2 l2;rw[HG.out];obtain⟨k,hk⟩:∃k,k=2*i:=⟨_,rfl⟩;rw[←hk]at h1 h2 ⊢;have hk16:k+2≤16:=by omega
 clear hx hy hk hb hi HG i n;rw[show o+(k+1)=o+k+1 by omega]at h2;have o1:bits .or .u64 0 (x:Int)=(x:Int):=by have:=xM 0 x (by omega) l1;simpa using this
 have o0:=xM 0 x (by omega) l1;have o2:=xM x y (by omega) l2;go_enter func165,ntmps165
 go_wp2_with (go_at_call 160;refine(DM _).mono ?_;rintro e w2 ⟨rfl,rfl⟩)
 go_loopw [7,28] (fun vv jv wr=>wr=w2∧((vv=.int .u64 0∧jv=.int .i64 0)∨(vv=.int .u64 x∧jv=.int .i64 1)∨(vv=.int .u64 ((x*256+y:Nat):Int)∧jv=.int .i64 2))) (fun _ jv _=>2 - (RowKit.intOf jv).toNat)
 case atStart=>exact⟨rfl,.inl ⟨rfl,rfl⟩⟩
 case round=>
  obtain⟨rfl,⟨rfl,rfl⟩ | ⟨rfl,rfl⟩ | ⟨rfl,rfl⟩⟩:=hrel
  ·go_wp2
   go_roundw
   case measure=>decide
   case rel=>exact⟨by first|trivial|rfl,.inr (.inl ⟨rfl,rfl⟩)⟩
  ·go_wp2
   go_roundw
   case measure=>decide
   case rel=>exact⟨by first|trivial|rfl,.inr (.inr ⟨rfl,rfl⟩)⟩
  ·have hs:x*256+y < 65536:=by omega
   go_wp2
   go_ret2
   exact⟨rfl,rfl⟩
def z87:Array Value:=#[.int .u16 0,.int .u16 0,.int .u16 0,.int .u16 0,.int .u16 0,.int .u16 0,.int .u16 0,.int .u16 0]
def g16(f:Nat→Nat):List Value:=(VL 8).map fun j=>.int .u16 (f j:Nat)
theorem eR(f:Nat→Nat):(g16 f).length=8:=by simp[g16]
theorem ux(f:Nat→Nat)(j:Nat)(hj:j < 8):(g16 f)[j]?=some (.int .u16 (f j:Nat)):=by simp[g16,hj]
theorem KD(f:Nat→Nat):(g16 f).toArray.all (·.oneCell')=true:=by simp[g16,VR]
theorem Ce:(prog.info? 172).map (·.size)=some 8:=by kernel_rfl
def xQ(n i j:Nat):Nat:=if j < i then je n j else 0
theorem Ov{f g:Nat→Nat}(h:∀j,j < 8→f j=g j):g16 f=g16 g:=List.map_congr_left fun j hj=>by rw[h j (by simpa using hj)]
theorem Ou(n i:Nat)(hi:i < 8):(g16 (xQ n i)).set i (.int .u16 (je n i:Nat))=g16 (xQ n (i+1)):=by
 apply List.ext_getElem?;intro j;rw[List.getElem?_set,eR];by_cases hj:j < 8
 ·rw[ux _ j hj,ux _ j hj]
  unfold xQ;by_cases h:i=j
  ·subst h;rw[if_pos rfl,if_pos hi,if_pos (by omega)]
  ·rw[if_neg h]
   by_cases h2:j < i
   ·rw[if_pos h2,if_pos (by omega)]
   ·rw[if_neg h2,if_neg (by omega)]
 ·rw[VV (by rw[eR];omega),VV (by rw[eR];omega)]
  split<;>simp_all
theorem QT{ops:Array Oper}{rest:List Oper}{o:Oper}{a:Act}{w:World}{Q:Exit→Act→World→Prop}(hgd:o.guard=none)(x:Operand)(ho:o.op=.load 172 x)
  (g:Nat) (hx:a.eval x=.pointer (some ⟨g,0,none⟩)) (t:TypeId) (f:Nat→Nat) (hb:aq w g t (g16 f))
  (h:wpList prog ops Q rest (a.put o.dst (.agg (g16 f).toArray)) w):wpList prog ops Q (o::rest) a w:=
 wpList_load_row hgd 172 x ho g hx t _ (0,0) _ hb underlying172 rfl (Ce.trans (by simp[eR])) h
theorem Qj{ops:Array Oper}{rest:List Oper}{o:Oper}{a:Act}{w:World}{Q:Exit→Act→World→Prop}(hgd:o.guard=none)(x y:Operand)(ho:o.op=.store 172 x y)
  (g:Nat) (f:Nat→Nat) (hx:a.eval x=.pointer (some ⟨g,0,none⟩)) (hy:a.eval y=.agg (g16 f).toArray) (t:TypeId) (old:List Value) (hb:aq w g t old) (hl:old.length=8)
  (h:wpList prog ops Q rest (a.put o.dst undef) (w.setRow g (g16 f).toArray)):wpList prog ops Q (o::rest) a w:=
 wpList_store_row hgd 172 x y ho g _ hx hy t old.toArray hb (Ce.trans (by simp[eR])) (by simp[eR,hl]) (KD f) h
theorem Uj{fn:Func}{p:Tmp}(h:fn.results=#[.cell p 172])(tmps:Array Value)(w:World)(g:Nat)(f:Nat→Nat)(t:TypeId)
  (hp:tmps.getD p undef=.pointer (some ⟨g,0,none⟩)) (hb:aq w g t (g16 f)):(results fn tmps).run prog w=.ok (.agg (g16 f).toArray) w:=
 results_cell_row h tmps w g t _ (0,0) _ hp hb underlying172 rfl (Ce.trans (by simp[eR]))
theorem aq.Lj{w:World}{g:Nat}{t:TypeId}{v:Bool}{n:Nat}(hb:aq w g t (eA v n)):∀j,j < 16→w.cell? ⟨g,1+j,none⟩=some (.int .u8 (an n j:Nat)):=fun j hj=>hb.cell_of (cR v _ j hj)
set_option maxHeartbeats 4000000 in
theorem Kz(v:Bool)(n:Nat)(w:World):Calls prog 110 #[.agg (eA v n).toArray] w fun e w'=>e=.returned (.agg (g16 (je n)).toArray)∧ah [] w w':=by
 have HA:=hid (show aq (((w.alloc (.cells (eA v n).toArray 24)).alloc (.cells z87 172)).alloc (.cells z87 172)) w.heap.size 24 (eA v n)from((aq.new w 24 (eA v n).toArray).alloc _).alloc _);have HR:=hid (show aq (((w.alloc (.cells (eA v n).toArray 24)).alloc (.cells z87 172)).alloc (.cells z87 172)) (w.heap.size+1) 172 (g16 (xQ n 0))from(aq.eO (w.alloc (.cells (eA v n).toArray 24)) 172 z87 (by simp)).alloc _);have HO:=hid (show aq (((w.alloc (.cells (eA v n).toArray 24)).alloc (.cells z87 172)).alloc (.cells z87 172)) (w.heap.size+2) 172 (g16 (xQ n 0))from aq.eO _ 172 z87 (by simp));have HC:=hid ((((ah.refl [] w).alloc (.cells (eA v n).toArray 24)).alloc (.cells z87 172)).alloc (.cells z87 172));go_enter func110,ntmps110
 go_wp2
 go_loopw [5] (fun iv wr=>∃i:Nat,i≤8∧iv=.int .i64 i∧aq wr w.heap.size 24 (eA v n)∧aq wr (w.heap.size+1) 172 (g16 (xQ n 0))∧aq wr (w.heap.size+2) 172 (g16 (xQ n i))∧ah [] w wr) (fun iv _=>8 - (RowKit.intOf iv).toNat)
 case atStart=>exact⟨0,by omega,rfl,HA.out,HR.out,HO.out,HC.out⟩
 case round=>
  obtain⟨i,hi,rfl,hA,hR,hO,hC⟩:=hrel;by_cases hlt:i < 8
  ·have co:=hO.cell_of (ux _ i hlt)
   have fo:=hO.frozen i;have HT:=hid (Qi w.heap.size 1 16 i hlt n wr hA.Lj (by omega));obtain⟨k,hk⟩:∃k:Nat,k=2*i:=⟨_,rfl⟩;rw[←hk]at HT;have e2:(2:Int)*(i:Int)=(k:Int):=by omega
   have k14:k≤14:=by omega
   clear hk;have HS:=hid (Ou n i hlt);have HA:=hid hA;have HR:=hid hR;have HO:=hid hO;have HC:=hid hC;clear hA hR hO hC;go_wp2_with (go_at_call 165;refine HT.out.mono ?_;rintro e w2 ⟨rfl,rfl⟩)
   go_roundw
   case measure=>simp[RowKit.intOf];omega
   case rel=>refine⟨i+1,by omega,by go_num,HA.out.Mm (by show w.heap.size≠w.heap.size+1+1;omega) _,HR.out.Mm (by show w.heap.size+1≠w.heap.size+1+1;omega) _,?_,HC.out.MQ (by omega) _ _⟩;rw[←HS.out];exact HO.out.oW i _
  ·have hi8:i=8:=by omega
   subst hi8;go_wp2_with (first | (refine QT rfl _ rfl (w.heap.size+2) rfl 172 _ hO ?_) | (refine Qj rfl _ _ rfl (w.heap.size+1) _ rfl rfl 172 _ hR (eR _) ?_))
   refine bodyPost_ret (Uj rfl _ _ (w.heap.size+1) (je n) 172 rfl ?_) rfl ⟨rfl,hC.setRow (.inr (by omega)) _⟩;have hs:=hR.row (g16 (xQ n 8));rwa [Ov (f:=xQ n 8) (g:=je n) (fun j hj=>if_pos hj)]at hs
theorem Sd(n k:Nat)(hk:k < 8):(zs (bD n))[k]?=some (je n k==0):=by
 match k,hk with
 | 0,_=>rfl
 | 1,_=>rfl
 | 2,_=>rfl
 | 3,_=>rfl
 | 4,_=>rfl
 | 5,_=>rfl
 | 6,_=>rfl
 | 7,_=>rfl
theorem Qd(n:Nat):(zs (bD n)).length=8:=rfl
theorem FF(z:List Bool)(k:Nat)(h:z[k]?=some true):lT (z.drop k)=lT (z.drop (k+1))+1:=by obtain⟨h1,h2⟩:=VS.1 h;rw[VK h1,h2];rfl
theorem FE(z:List Bool)(k:Nat)(h:z[k]?≠some true):lT (z.drop k)=0:=by
 by_cases h1:k < z.length
 ·rw[VK h1]
  rw[VF h1]at h;cases h2:z[k]with
  |true=>rw[h2]at h;exact absurd rfl h
  |false=>rfl
 ·rw[List.drop_eq_nil_of_le (by omega)];rfl
set_option maxHeartbeats 4000000 in
theorem Tk(n:Nat)(w:World):Calls prog 111 #[.agg (g16 (je n)).toArray] w fun e w'=>e=.returned (.tuple #[.int .i64 ((fG (zs (bD n))).1:Nat),.int .i64 ((fG (zs (bD n))).2:Nat)])∧ah [] w w':=by
 have HA:=hid (aq.new w 172 (g16 (je n)).toArray);have HC:=hid ((ah.refl [] w).alloc (.cells (g16 (je n)).toArray 172));obtain⟨Z,hZ⟩:∃Z,Z=zs (bD n):=⟨_,rfl⟩;rw[←hZ];have HZ:=hid (fun k (hk:k < 8)=>(show Z[k]?=some (je n k==0)by rw[hZ];exact Sd n k hk));have HZL:=hid (show Z.length=8 by rw[hZ];exact Qd n);clear hZ;obtain⟨G,hG⟩:∃G,G=fG Z:=⟨_,rfl⟩;rw[←hG];have HG:=hid hG;clear hG;go_enter func111,ntmps111
 go_wp2
 obtain⟨wo,hwo⟩:∃wo,wo=w.alloc (.cells (g16 (je n)).toArray 172):=⟨_,rfl⟩;have hA:=HA.out;have hC:=HC.out;rw[←hwo]at hA hC ⊢;clear hwo HA HC;go_loopw [2,3,4] (fun fv tv iv wr=>wr=wo∧∃(u f t i:Nat),fv=.int .i64 f∧tv=.int .i64 t∧iv=.int .i64 i∧f≤t∧t≤8∧i≤8∧u+i≥8∧Hid (G=GP Z u i f t)) (fun _ _ iv _=>9 - (RowKit.intOf iv).toNat)
 case atStart=>exact⟨rfl,8,0,0,0,rfl,rfl,rfl,by omega,by omega,by omega,by omega,HG.out⟩
 case round=>
  obtain⟨rfl,u,f,t,i,rfl,rfl,rfl,hft,ht,hi,hu,hh⟩:=hrel;by_cases hlt:i < 8
  ·obtain⟨u,rfl⟩:∃u',u=u'+1:=⟨u - 1,by omega⟩
   have hr:=hid (show i+lT (Z.drop i)≤8 by have:=Ec (Z.drop i);rw[VH,HZL.out]at this;omega);obtain⟨e,he⟩:∃e,e=i+lT (Z.drop i):=⟨_,rfl⟩;have hh2:=hh.out;rw[GP,if_pos hlt,←he]at hh2;have he8:e≤8:=by rw[he];exact hr.out
   have hie:i≤e:=by omega
   have HE:=hid he;have HH:=hid hh2;clear he hh hh2 hr HG;have d8:decide ((i:Int) < 8)=true:=decide_eq_true (by omega);go_wp2
   obtain⟨wq,hwq⟩:∃wq,wq=wr:=⟨_,rfl⟩;rw[←hwq]at hA hC ⊢;have HWQ:=hid hwq;clear hwq;go_loopw [5] (fun kv wx=>wx=wq∧∃k:Nat,kv=.int .i64 k∧i≤k∧k≤e∧Hid (k+lT (Z.drop k)=e)) (fun kv _=>9 - (RowKit.intOf kv).toNat)
   case atStart=>exact⟨rfl,i,rfl,by omega,hie,HE.out.symm⟩
   case round=>
    obtain⟨rfl,k,rfl,hik,hke,hk⟩:=hrel;by_cases hk8:k < 8
    ·have ck:=hA.cell_of (ux (je n) k hk8)
     have zk:=HZ.out k hk8;by_cases h0:je n k=0
     ·have c0:(je n k:Int)=0:=by omega
      have hst:=FF Z k (by rw[zk,h0];rfl);have HS:=hid (show k+1+lT (Z.drop (k+1))=e by have:=hk.out;omega);have HLE:=hid (show k+1≤e by have:=HS.out;omega);clear hst zk hk;go_wp2
      go_roundw
      case measure=>simp[RowKit.intOf];omega
      case rel=>exact⟨by first|trivial|rfl,k+1,by go_num,by omega,HLE.out,HS.out⟩
     ·have c0:(je n k:Int)≠0:=by omega
      have hst:=FE Z k (by rw[zk];simpa using h0);have hek:e=k:=by have:=hk.out;omega
      subst hek;clear hst zk hk;go_wp2
      all_goals refine⟨⟨HWQ.out,u,?_⟩,by simp[RowKit.intOf];omega⟩
      ·refine⟨i,e,max i (e - 1)+1,rfl,rfl,by congr 1; omega,hie,he8,by omega,by omega,?_⟩
       exact hid (HH.out.trans (if_pos (by omega)))
      ·refine⟨f,t,max i (e - 1)+1,rfl,rfl,by congr 1; omega,hft,ht,by omega,by omega,?_⟩
       exact hid (HH.out.trans (if_neg (by omega)))
    ·have hek:e=k:=by omega
     subst hek;clear hk;go_wp2
     all_goals refine⟨⟨HWQ.out,u,?_⟩,by simp[RowKit.intOf];omega⟩
     ·refine⟨i,e,max i (e - 1)+1,rfl,rfl,by congr 1; omega,hie,he8,by omega,by omega,?_⟩
      exact hid (HH.out.trans (if_pos (by omega)))
     ·refine⟨f,t,max i (e - 1)+1,rfl,rfl,by congr 1; omega,hft,ht,by omega,by omega,?_⟩
      exact hid (HH.out.trans (if_neg (by omega)))
  ·have hi8:i=8:=by omega
   subst hi8;have hh2:=hid (show G=(f,t)by
    rw[hh.out];cases u with
    |zero=>rfl
    |succ u=>rw[GP,if_neg (by omega)])
   go_wp2
   rw[hh2.out];go_ret2
   exact⟨rfl,hC⟩
open Go.RowKit Go.Lib Go.Sort
theorem Ao(l:List Nat)(hl:∀u∈l,u < 65536)(g o c:Nat)(hn:l.length≤8)(w:World)(HL:dD w)(hA:∀j u,l[j]?=some u→w.cell? ⟨g,o+j,none⟩=some (.int .u16 (u:Nat)))(hg:g < w.heap.size)(d:Nat)(os:Array Obj) :
  Calls prog 112 #[.slice (some ⟨g,o,none⟩) l.length c] (grow (redrawn w d) os) fun e w''=>e=.returned (.string ⟨(cH l).toArray⟩)∧∃p:Regrown,w''=grow (redrawn w p.d) p.os:=by
 have hc:ah [] w (grow (redrawn w d) os):=gH ⟨⟨d,os⟩,rfl⟩;exact Calls.regrown_of ((Ap l hl g o c hn _ (HL.cW hc) (fun j u hu=>(hc.cell (p:=⟨g,o+j,none⟩) hg (by simp)).trans (hA j u hu)) (VE hg hc.size)).mono fun _ _ ⟨e1,e2⟩=>⟨e1,e2.below (by simp) (VM _)⟩)
theorem Kn(n:Nat)(hn:n < 65536)(w:World)(hl:dD w):Calls prog 71 #[.int .i64 n] w (Rn w (.string ⟨(ao 10 n).toArray⟩)):=by refine(Tryz.strconv_Itoa n (by omega) (by omega) w hl.TN).mono ?_;rintro e w' ⟨rfl,k,os,rfl⟩;refine⟨by rw[Lib.itoa_nonneg,mD],((ah.refl [] w).drewN k).trans (gH ⟨⟨(w.drewN k).drawn,os⟩,rfl⟩)⟩
def uQ(v:Bool)(n:Nat):List UInt8:=if vr v n then iI v n else []
set_option maxHeartbeats 4000000 in
theorem BB(v:Bool)(n:Nat)(hn:n < 2^128)(h:vr v n=false)(w:World):Calls prog 53 #[.agg (eA v n).toArray] w fun e w'=>e=.returned (.tuple #[.string ⟨#[]⟩,.int .i64 150])∧ah [] w w':=by
 have HA:=hid (aq.new w 24 (eA v n).toArray);have HC:=hid ((ah.refl [] w).alloc (.cells (eA v n).toArray 24));have HK:=hid (mG v n hn);rw[show pR v n=150 by unfold pR;rw[h];rfl]at HK;clear hn;go_enter func53,ntmps53
 go_wp2_with (first | (go_at_call 109;refine(HK.out _).mono ?_;rintro e w2 ⟨rfl,C2⟩) | (refine ib rfl _ rfl w.heap.size rfl 24 v n HA.out ?_))
 go_ret2
 exact⟨rfl,HC.out.trans C2⟩
theorem Qs(n k:Nat):strs ((VL (k+1)).map fun i=>ao 10 (an n i))=strs ((VL k).map fun i=>ao 10 (an n i))++[.string ⟨(ao 10 (an n k)).toArray⟩]:=by rw[List.range_succ,List.map_append];simp[strs]
theorem yV(n:Nat):gk n=aE 46 ((VL 4).map fun i=>ao 10 (an n i)):=rfl
set_option maxHeartbeats 4000000 in
theorem DD(n:Nat)(hn:n < 2^128)(h:vr false n=true)(w:World)(HL:dD w):Calls prog 53 #[.agg (eA false n).toArray] w fun e w'=>e=.returned (.tuple #[.string ⟨(gk n).toArray⟩,.int .i64 0])∧ah [] w w':=by
 obtain⟨i0,hi,hz0,hz1,hz2⟩:=info_parts Tryz.PL;have HIN:=hid (Sx.t2 hi hz0 (And.intro hz1 hz2));clear hi hz0 hz1 hz2;have HA:=hid (aq.new w 24 (eA false n).toArray);have HC:=hid ((ah.refl [] w).alloc (.cells (eA false n).toArray 24));have HK:=hid (mG false n hn);rw[show pR false n=0 by unfold pR;rw[h];rfl]at HK;have HLL:=hid HL;clear hn HL;go_enter func53,ntmps53
 go_wp2_with (first | (go_at_call 109;refine(HK.out _).mono ?_;rintro e w2 ⟨rfl,C2⟩;have cb:=(HA.out.aD C2 (by simp)).cell_of (qH false (an n))) | (refine ib rfl _ rfl w.heap.size rfl 24 false n HA.out ?_))
 obtain⟨w1,hw1⟩:∃w1,w1=w2:=⟨_,rfl⟩;have hA:=HA.out.aD C2 (by simp);have hC:=HC.out.trans C2;rw[←hw1]at hA hC ⊢;clear hw1 HA HC C2 cb;have HL1:=hid (HLL.out.cW hC);go_loopw [8,41] (fun sv iv wr=>∃(k:Nat) (Av:Option Go.Addr) (cv:Nat),k≤4∧iv=.int .i64 k∧sv=.slice Av k cv∧Acc w1 wr 9 1 (.slice Av k cv) k (strs ((VL k).map fun i=>ao 10 (an n i)))) (fun _ iv _=>4 - (RowKit.intOf iv).toNat)
 case atStart=>exact⟨0,none,0,Wi _,rfl,rfl,Acc.nil w1 9 1 (ah.refl _ _)⟩
 case round=>
  obtain⟨k,Av,cv,hk,rfl,rfl,hAc⟩:=hrel;by_cases hlt:k < 4
  ·have cu:=(hAc.aD.cell (p:=⟨w.heap.size,1+k,none⟩) hA.lt (by simp)).trans (hA.Lj k (by omega))
   have hb:=bH n k;have HS:=hid (Qs n k);obtain⟨u,hu⟩:∃u,u=an n k:=⟨_,rfl⟩;rw[←hu]at cu hb HS;have HF:=hid (Kn u (by omega) wr (HL1.out.cW hAc.aD));have HAc:=hid hAc;clear hu hAc;have hu0:(0:Int)≤(u:Int):=by omega
   go_wp2_with (first | (go_at_call 71;refine HF.out.mono ?_;rintro e w2 ⟨rfl,C2⟩) | ((with_reducible refine eW ?_);(refine dz _ rfl (.tmp 45) (.tmp 49) 70 rfl 9 i0 _ 1 16 underlying70 HIN.out.1 HIN.out.2.1 HIN.out.2.2.1 HIN.out.2.2.2 rfl (by omega) (.slice Av k cv) k (strs ((VL k).map fun i=>ao 10 (an n i))) rfl ((HAc.out.later C2).alloc _).own ⟨w2.heap.size,0,none⟩ 1 1 [.string ⟨(ao 10 u).toArray⟩] rfl rfl (by simpa using (aq.new w2 9 #[.string ⟨(ao 10 u).toArray⟩]).BA) (by simp[VR]) (by unfold maxLen;omega) (by omega) ?_);intro A' c' w3 hO3 hC3 hb3))
   go_roundw
   case measure=>simp[RowKit.intOf];omega
   case rel=>refine⟨k+1,A',c',by omega,by go_num,rfl,?_⟩;rw[HS.out];exact Acc.append ((HAc.out.later C2).alloc _) hO3 hC3 hb3
  ·have hkn:k=4:=by omega
   subst hkn;have HJ:=hid (Ar hAc 46 (by omega) (by have:=iB 46 3 ((VL 4).map fun i=>ao 10 (an n i)) (fun x hx=>by rw[VU]at hx;obtain⟨u,hu,rfl⟩:=hx;exact gA (by have:=bH n u;omega));rw[VN,List.length_range]at this;omega));rw[←yV]at HJ;have HCC:=hid (hC.trans hAc.aD);clear hAc;go_wp2_with (go_at_call 87;refine HJ.out.mono ?_;rintro e w4 ⟨rfl,C4⟩)
   go_ret2
   exact⟨rfl,HCC.out.trans C4⟩
open Go.RowKit Go.Lib Go.Sort
theorem pJ(n j:Nat)(hj:j < 8):(bD n)[j]?=some (je n j):=by
 match j,hj with
 | 0,_=>rfl
 | 1,_=>rfl
 | 2,_=>rfl
 | 3,_=>rfl
 | 4,_=>rfl
 | 5,_=>rfl
 | 6,_=>rfl
 | 7,_=>rfl
theorem ej(n:Nat):(bD n).length=8:=rfl
theorem yh{n j u:Nat}(h:(bD n)[j]?=some u):j < 8∧u=je n j:=by
 have hj:j < 8:=by have:=(VS.1 h).1;rwa [ej]at this
 rw[pJ n j hj]at h;exact⟨hj,(Option.some.inj h).symm⟩
theorem ga{n u:Nat}(h:u∈bD n):u < 65536:=by obtain⟨j,hj⟩:=List.getElem?_of_mem h;rw[(yh hj).2];exact Ky n j
theorem aq.je{w:World}{g:Nat}{t:TypeId}{n:Nat}(hb:aq w g t (g16 (je n))){j u:Nat}(h:(bD n)[j]?=some u):w.cell? ⟨g,j,none⟩=some (.int .u16 (u:Nat)):=by obtain⟨h1,rfl⟩:=yh h;exact hb.cell_of (ux _ j h1)
theorem CP(n g:Nat)(w:World)(HL:dD w)(hb:aq w g 172 (g16 (je n))):Calls prog 112 #[.slice (some ⟨g,0,none⟩) 8 8] w (Rn w (.string ⟨(cH (bD n)).toArray⟩)):=
 Ap (bD n) (fun _ hu=>ga hu) g 0 8 (VM _) w HL (fun j u hu=>by rw[Wh];exact hb.je hu) hb.lt
set_option maxHeartbeats 4000000 in
theorem DC(n:Nat)(hn:n < 2^128)(h:vr true n=true)(w:World)(HL:dD w):Calls prog 53 #[.agg (eA true n).toArray] w fun e w'=>e=.returned (.tuple #[.string ⟨(db (bD n)).toArray⟩,.int .i64 0])∧ah [] w w':=by
 have HA:=hid (aq.new w 24 (eA true n).toArray);have HC:=hid ((ah.refl [] w).alloc (.cells (eA true n).toArray 24));have HK:=hid (mG true n hn);rw[show pR true n=0 by unfold pR;rw[h];rfl]at HK;have HLL:=hid HL;have HGR:=hid (Kz true n);obtain⟨f,t,hG⟩:∃f t,fG (zs (bD n))=(f,t):=⟨_,_,rfl⟩;have hfg:=AH (bD n) rfl;have HGP:=hid (Tk n);have HT6:=hid (show db (bD n)=if f=t then cH (bD n)else cH ((bD n).take f)++(58::58::cH ((bD n).drop t))by unfold db;rw[hG]);rw[hG]at HGP hfg;obtain⟨hft,ht8,_⟩:=hfg;simp only at hft ht8;clear hn HL hG;by_cases hq:f=t
 ·subst hq
  have HTE:=hid (show db (bD n)=cH (bD n)from HT6.out.trans (if_pos rfl));rw[HTE.out];go_enter func53,ntmps53
  go_wp2_with (first
   | (go_at_call 109;refine(HK.out _).mono ?_;rintro e w2 ⟨rfl,C2⟩;have cb:=(HA.out.aD C2 (by simp)).cell_of (qH true (an n)))
   | (go_at_call 110;refine(HGR.out _).mono ?_;rintro e w3 ⟨rfl,C3⟩)
   | (go_at_call 111;refine(HGP.out _).mono ?_;rintro e w4 ⟨rfl,C4⟩)
   | (go_at_call 112;refine(CP n w3.heap.size w4 (HLL.out.cW (((((HC.out.trans C2).trans C3).alloc (.cells z87 172)).setRow (.inr (VW (HC.out.trans C2).size C3.size)) (g16 (je n)).toArray).trans C4)) (((aq.new w3 172 z87).row _).aD C4 (by simp))).mono ?_;rintro e w5 ⟨rfl,C5⟩)
   | (refine ib rfl _ rfl w.heap.size rfl 24 true n (HA.out.aD C2 (by simp)) ?_)
   | (refine ib rfl _ rfl w.heap.size rfl 24 true n HA.out ?_)
   | (refine Qj rfl _ _ rfl w3.heap.size (je n) rfl rfl 172 _ (aq.new w3 172 z87) rfl ?_)
   | (refine QT rfl _ rfl w3.heap.size rfl 172 (je n) ((aq.new w3 172 z87).row _) ?_))
  go_ret2
  exact⟨rfl,(((((HC.out.trans C2).trans C3).alloc (.cells z87 172)).setRow (.inr (VW (HC.out.trans C2).size C3.size)) (g16 (je n)).toArray).trans C4).trans C5⟩
 ·have dq:decide ((f:Int)=(t:Int))=false:=decide_eq_false (by omega)
  have HTE:=hid (show db (bD n)=cH ((bD n).take f)++(58::58::cH ((bD n).drop t))from HT6.out.trans (if_neg hq));obtain⟨X,hX⟩:∃X,X=cH ((bD n).take f):=⟨_,rfl⟩;obtain⟨Y,hY⟩:∃Y,Y=cH ((bD n).drop t):=⟨_,rfl⟩;rw[←hX,←hY]at HTE;have HX:=hid hX;have HY:=hid hY;clear hX hY;rw[HTE.out];go_enter func53,ntmps53
  go_wp2_with (first
   | (go_at_call 109;refine(HK.out _).mono ?_;rintro e w2 ⟨rfl,C2⟩;have cb:=(HA.out.aD C2 (by simp)).cell_of (qH true (an n)))
   | (go_at_call 110;refine(HGR.out _).mono ?_;rintro e w3 ⟨rfl,C3⟩)
   | (go_at_call 111;refine(HGP.out _).mono ?_;rintro e w4 ⟨rfl,C4⟩)
   | (refine ib rfl _ rfl w.heap.size rfl 24 true n (HA.out.aD C2 (by simp)) ?_)
   | (refine ib rfl _ rfl w.heap.size rfl 24 true n HA.out ?_)
   | (refine Qj rfl _ _ rfl w3.heap.size (je n) rfl rfl 172 _ (aq.new w3 172 z87) rfl ?_)
   | (refine QT rfl _ rfl w3.heap.size rfl 172 (je n) ((aq.new w3 172 z87).row _) ?_))
  obtain⟨w5,hw5⟩:∃w5,w5=w4:=⟨_,rfl⟩;have hB:aq w4 w3.heap.size 172 (g16 (je n)):=((aq.new w3 172 z87).row _).aD C4 (by simp);have hC:ah [] w w4:=(((((HC.out.trans C2).trans C3).alloc (.cells z87 172)).setRow (.inr (VW (HC.out.trans C2).size C3.size)) (g16 (je n)).toArray).trans C4);obtain⟨g,hg⟩:∃g,g=w3.heap.size:=⟨_,rfl⟩;rw[←hg]at hB ⊢;rw[←hw5]at hB hC ⊢;clear hw5 hg C4 cb C3 C2 HA HC w2 w3 w4;have hL:=HLL.out.cW hC;have hal:prog.arrayLen 172=8:=by kernel_rfl
  have hs1:∀W,(VO 172 (.pointer (some ⟨g,0,none⟩)) none (some (.int .i64 (f:Nat))) none).run prog W=.ok (.slice (some ⟨g,0,none⟩) f 8) W:=fun W=>by rw[run_sliceAt_array_h (P:=prog) W 172 ⟨g,0,none⟩ (by kernel_rfl) .i64 (f:Nat) (by omega) (by omega)];go_simp
  obtain⟨o2,ho2⟩:∃o2,o2=if 8=t then 0 else t:=⟨_,rfl⟩
  have hs2:∀W,(VO 172 (.pointer (some ⟨g,0,none⟩)) (some (.int .i64 (t:Nat))) none none).run prog W=.ok (.slice (some ⟨g,o2,none⟩) (8 - t) (8 - t)) W:=fun W=>by
   rw[run_sliceAt_array_l (P:=prog) W 172 ⟨g,0,none⟩ (by kernel_rfl) .i64 (t:Nat) (by omega) (by omega)];rw[ho2];by_cases h8:8=t
   ·rw[if_pos h8];subst h8;go_simp
   ·rw[if_neg h8];go_simp
  have hj1:=Ao ((bD n).take f) (fun u hu=>ga (VX hu)) g 0 8 (by rw[VP];omega) w5 hL (fun j u hu=>by
   rw[Wh];rw[List.getElem?_take]at hu;split at hu
   ·exact hB.je hu
   ·cases hu) hB.lt
  have hj2:=Ao ((bD n).drop t) (fun u hu=>ga (VY hu)) g o2 (8 - t) (by rw[VH,ej]; omega) w5 hL (fun j u hu=>by rw[List.getElem?_drop]at hu;have h8:=(yh hu).1;rw[ho2,if_neg (by omega)];exact hB.je hu) hB.lt;rw[VP,ej,Nat.min_eq_left (by omega)]at hj1;rw[VH,ej]at hj2;have hlen:∀m:List Nat,(∀u∈m,u < 65536)→m.length≤8→((cH m).length:Int)≤8000:=fun m hm hm8=>by have:=iB 58 4 (m.map (ao 16)) (fun x hx=>by rw[VU]at hx;obtain⟨u,hu,rfl⟩:=hx;exact iX (hm u hu));rw[VN]at this;unfold cH;omega
  have hl1:=hlen ((bD n).take f) (fun u hu=>ga (VX hu)) (by rw[VP];omega);have hl2:=hlen ((bD n).drop t) (fun u hu=>ga (VY hu)) (by rw[VH,ej];omega);rw[←HX.out]at hl1 hj1;rw[←HY.out]at hl2 hj2;have had1:∀W,(Op.stringOp .add ⟨X.toArray⟩ ⟨#[58,58]⟩).run prog W=.ok (.string ⟨(X++[58,58]).toArray⟩) W:=fun W=>run_string_add_lists W X [58,58] (by omega) (by decide);have had2:∀W,(Op.stringOp .add ⟨(X++[58,58]).toArray⟩ ⟨Y.toArray⟩).run prog W=.ok (.string ⟨(X++(58::58::Y)).toArray⟩) W:=fun W=>by have:=run_string_add_lists (P:=prog) W (X++[58,58]) Y (by simp;omega) (by omega);rw[this];simp
  clear hl1 hl2 hlen;have HJ1:=hid hj1;have HJ2:=hid hj2;clear hj1 hj2 hal ho2 hB hL;refine wp_region_quiet_below (by kernel_rfl) (by kernel_rfl) ?_;repeat (first|go_big_quiet_step ((first | (go_at_call 112;with_reducible exact HJ1.out _ _) | (go_at_call 112;with_reducible exact HJ2.out _ _)))|quiet_step ((first | (go_at_call 112;with_reducible exact HJ1.out _ _) | (go_at_call 112;with_reducible exact HJ2.out _ _))))
  refine wpQuiet_nil ?_;intro w6 hw6;have C6:=gH hw6;clear hw6;go_wp2
  go_ret2
  exact⟨rfl,hC.trans C6⟩
theorem oK(v:Bool)(n:Nat)(hn:n < 2^128)(w:World)(HL:dD w):Calls prog 53 #[.agg (eA v n).toArray] w (Rn w (.tuple #[.string ⟨(uQ v n).toArray⟩,.int .i64 (pR v n)])):=by
 cases h:vr v n with
 |false=>rw[show uQ v n=[] by unfold uQ;rw[h];rfl,show pR v n=150 by unfold pR;rw[h];rfl];exact BB v n hn h w
 |true=>
  rw[show uQ v n=iI v n by unfold uQ;rw[h];rfl,show pR v n=0 by unfold pR;rw[h];rfl];cases v
  ·exact DD n hn h w HL
  ·exact DC n hn h w HL
end Go.Proofs.YtnncigmpcdehnaaGreatDoor
