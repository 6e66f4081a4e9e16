import Derived.Test.YtnncigmpcdehnaaGreatDoorQf04
import Derived.Laws.IdiomStrings
import Derived.Lib.AppendIntMem
import Derived.Lib.Strings
import Derived.Lib.ConvBytes
import Derived.Lib.AtoiAllMem
import Derived.Laws.Strings3
namespace Go.Proofs.YtnncigmpcdehnaaGreatDoor
set_option maxRecDepth 100000
open Go.RowKit Go.Lib Go.Sort _root_.Go.Proofs.Tryz
set_option maxRecDepth 100000
structure eb(w:World):Prop where
 m0:∃m,w.cell? ⟨1,0,none⟩=some (.int .i64 m)
 e1:∃ev,w.cell? ⟨3,0,none⟩=some ev∧(ev=.nilIface∨∃te pe,ev=.iface te pe)
 e2:∃ev,w.cell? ⟨4,0,none⟩=some ev∧(ev=.nilIface∨∃te pe,ev=.iface te pe)
 SH:Lib.TabIs prog w "internal/strconv.uint64pow10" .u64 Lib.pow10Tab
 tz:w.cell? ⟨8,15,none⟩=some (.int .u8 4)
 low:9≤w.heap.size
theorem Hp{w w':World}{g:Nat}(hg:prog.globalNamed "internal/strconv.uint64pow10"=some g)(h:Lib.TabIs prog w "internal/strconv.uint64pow10" .u64 Lib.pow10Tab)(hc:w'.heap[g]?=w.heap[g]?):Lib.TabIs prog w' "internal/strconv.uint64pow10" .u64 Lib.pow10Tab:=by
 unfold Lib.TabIs World.var? at*
 rw[hg]at h ⊢
 simp only[Option.bind_some]at h ⊢
 rw[hc]
 exact h
theorem yp:prog.globalNamed "internal/strconv.uint64pow10"=some 2:=by kernel_rfl
theorem eb.GD{w w':World}(h:eb w)(hs:w.heap.size≤w'.heap.size)(hc:∀k,k < 9→w'.heap[k]?=w.heap[k]?):eb w':=by
 have hl:=h.low
 have e:∀k i,k < 9→w'.cell? ⟨k,i,none⟩=w.cell? ⟨k,i,none⟩:=fun k i hk=>World.cell?_of_block (w:=w) (hc k hk)
 exact⟨by rw[e 1 0 (by omega)];exact h.m0,by rw[e 3 0 (by omega)];exact h.e1,by rw[e 4 0 (by omega)];exact h.e2,Hp yp h.SH (hc 2 (by omega)),by rw[e 8 15 (by omega)];exact h.tz,by omega⟩
theorem eb.aG{S:List Nat}{w w':World}(h:eb w)(hc:ai S w w')(hS:∀k∈S,9≤k):eb w':=
 h.GD hc.size fun k hk=>hc.block k (by have:=h.low;omega) (fun hm=>by have:=hS k hm;omega)
theorem eb.df{w w':World}(h:eb w)(hc:ai [] w w'):eb w':=h.aG hc (by simp)
theorem eb.alloc{w:World}(h:eb w)(o:Obj):eb (w.alloc o):=h.df ((ai.refl [] w).alloc o)
theorem SW(w:World)(h:w.cell? ⟨8,15,none⟩=some (.int .u8 4)):Calls prog 247 #[.int .u64 16] w fun e w'=>e=.returned (.int .i64 4)∧w'=w:=by
 have h1:IntKind.u64.wrap (bits BinOp.and IntKind.u64 16 (IntKind.u64.wrap (-16))*285870213051353865) / 288230376151711744=15:=by decide +kernel
 go_enter func247,ntmps247
 go_wp2
 go_ret
 exact⟨rfl,rfl⟩
theorem Q7(w:World)(h:w.cell? ⟨8,15,none⟩=some (.int .u8 4)):Calls prog 237 #[.int .u64 16] w fun e w'=>e=.returned (.int .i64 4)∧w'=w:=by
 go_enter func237,ntmps237
 go_wp2_with (go_at_call 247;refine(SW _ h).mono ?_;rintro e w2 ⟨rfl,rfl⟩)
 go_ret
 exact⟨rfl,rfl⟩
theorem RF(w:World):Calls prog 236 #[.int .i64 16] w fun e w'=>e=.returned (.bool true)∧ai [] w w':=by
 have h1:bits BinOp.and IntKind.i64 16 15=0:=by decide+kernel
 go_enter func236,ntmps236
 go_wp2
 go_ret
 exact⟨rfl,ai.refl [] w⟩
def QW(l:List UInt8):List Value:=l.map fun b=>.int .u8 (b.toNat:Int)
theorem Pr{l:List UInt8}{j:Nat}(hj:j < l.length):(QW l)[j]?=some (.int .u8 (l[j].toNat:Int)):=by simp[QW,hj]
theorem Sy(x:Nat)(hx:x < 65536):bits BinOp.and IntKind.u64 (x:Int) 15=((x%16:Nat):Int):=by
 have h:=u64_and_nat x 15 (by omega) (by omega)
 rw[show(15:Nat)=2^4 - 1 by rfl,Nat.and_two_pow_sub_one_eq_mod]at h
 exact h
def NH:ByteArray:={ data:=#[48,49,50,51,52,53,54,55,56,57,97,98,99,100,101,102,103,104,105,106,107,108,109,110,111,112,113,114,115,116,117,118,119,120,121,122] }
theorem J2:∀d:Fin 16,((NH[d.val]'(by have:=d.2;exact Nat.lt_of_lt_of_le this (by decide))).toNat:Int)=((sig d.val).toNat:Int):=by decide+kernel
theorem EZ(d:Nat)(h:d < 16)(h2:d < NH.size):((NH[d]'h2).toNat:Int)=((sig d).toNat:Int):=J2 ⟨d,h⟩
theorem xy{L:List Value}{i:Nat}{ds:List UInt8}(hi:i < L.length)(hD:L.drop (i+1)=QW ds)(c:UInt8):(L.set i (.int .u8 (c.toNat:Int))).drop i=QW (c::ds):=by
 rw[List.drop_eq_getElem_cons (by simpa using hi),List.getElem_set_self,List.drop_set_of_lt (by omega),hD]
 rfl
theorem Sd{W:World}{g k:Nat}{t:TypeId}{L:List Value}{b:List UInt8}{ds:List UInt8}(hs:b=ds)(hD:L.drop k=QW ds)(hB:au W g t L)(cap:Nat) :
  (convert 82 9 (.slice (some ⟨g,k,none⟩) b.length cap)).run prog W=.ok (.string ⟨b.toArray⟩) W:=by
 subst hs
 exact run_convert_bytes_back W 82 9 5 ⟨g,k,none⟩ cap b underlying82 underlying5 underlying9 fun j hj=>by
  refine hB.Sz k j _ ?_
  rw[hD]
  exact Pr hj
set_option maxHeartbeats 4000000 in
theorem wD(n:Nat)(hn:n < 65536)(w:World)(hl:eb w):Calls prog 199 #[.slice none 0 0,.int .u64 n,.int .i64 16,.bool false,.bool false] w fun e w'=>e=.returned (.tuple #[.slice none 0 0,.string ⟨(aj 16 n).toArray⟩])∧ai [] w w':=by
 have H0:=hid (au.new w 286 zeroCells286)
 have HC:=hid ((ai.refl [] w).alloc (.cells zeroCells286 286))
 have HT:=hid (hl.alloc (.cells zeroCells286 286))
 go_enter func199,ntmps199
 go_wp2_with (first | (go_at_call 236;refine(RF _).mono ?_;rintro e w2 ⟨rfl,C2⟩) | (go_at_call 237;refine(Q7 _ (HT.out.df C2).tz).mono ?_;rintro e w3 ⟨rfl,rfl⟩))
 obtain⟨wo,hwo⟩:∃wo,wo=w3:=⟨_,rfl⟩
 have HB0:=H0.out.aG C2 (by simp)
 have HC0:=HC.out.trans C2
 rw[←hwo]at HB0 HC0 ⊢
 clear hwo C2 H0 HC HT hl w3
 go_loopw [1,13] (fun uv iv wr=>∃(u i:Nat) (a:Int) (L:List Value) (ds:List UInt8),uv=.int .u64 a∧iv=.int .i64 i∧au wr w.heap.size 286 L∧L.length=65∧ai [] w wr∧Hid (a=(u:Int)∧u < 65536∧i+ds.length=65∧L.drop i=QW ds∧aj 16 n=aj 16 u++ds)) (fun uv _ _=>(RowKit.intOf uv).toNat)
 case atStart=>exact⟨n,65,n,_,[],rfl,rfl,HB0,rfl,HC0,rfl,hn,rfl,rfl,by simp⟩
 case round=>
  obtain⟨u,i,a,L,ds,rfl,rfl,hB,hL,hC,hh⟩:=hrel
  obtain⟨ha,hu,hi,hD,hd⟩:=hh.out
  clear hh
  have hlen:=gI hn
  rw[hd,List.length_append]at hlen
  have hpos:0 < (aj 16 u).length:=List.length_pos_iff.2 (ml u)
  obtain⟨k,rfl⟩:∃k,i=k+1:=⟨i - 1,by omega⟩
  have hk:(((k+1:Nat):Int)) - 1=(k:Int):=by omega
  have hk65:k < 65:=by omega
  obtain⟨x,hc⟩:∃x,wr.cell? ⟨w.heap.size,k,none⟩=some x:=⟨_,hB.cell_of (i:=k) (List.getElem?_eq_getElem (by omega:k < L.length))⟩
  have hf:=hB.frozen k
  have a0:0≤a:=by omega
  have a1:a < 65536:=by omega
  by_cases h16:a < 16
  ·have hD':=xy (c:=sig u) (by omega:k < L.length) hD
   have hlD:=congrArg List.length hD'
   rw[List.length_drop,List.length_set,hL]at hlD
   have HD:=hid hD'
   have HH:=hid (show ds.length=64 - k by omega)
   have HS:=hid (show aj 16 n=sig u::ds by rw[hd,aW (by omega)];rfl)
   have HU:=hid (show a=(u:Int)∧u < 16 by omega)
   have hlen2:(aj 16 n).length=65 - k:=by rw[HS.out,List.length_cons,HH.out]; omega
   have hsl:∀W,(Instr.sliceAt 286 (.pointer (some ⟨w.heap.size,0,none⟩)) (some (.int .i64 (k:Int))) none none).run prog W=.ok (.slice (some ⟨w.heap.size,k,none⟩) (aj 16 n).length (65 - k)) W:=fun W=>by
    rw[run_sliceAt_array_l (P:=prog) W 286 ⟨w.heap.size,0,none⟩ (by kernel_rfl) .i64 (k:Int) (by omega) (by have:prog.arrayLen 286=65:=(by kernel_rfl);omega)]
    rw[hlen2]
    go_simp
    omega
   clear hlen2
   clear hd hD hD' hlD hlen hpos ha hi hu
   go_wp2
   obtain⟨ua,u16⟩:=HU.out
   have hv:Value.int IntKind.u8 ((NH[a.toNat]'(Nat.lt_of_lt_of_le (by omega:a.toNat < 16) (by decide))).toNat:Int)=.int .u8 ((sig u).toNat:Int):=by
    have e:a.toNat=u:=by omega
    congr 1
    rw[←EZ u u16 (Nat.lt_of_lt_of_le u16 (by decide))]
    simp only[e]
   have hB2:=hB.pU k (.int .u8 ((sig u).toNat:Int))
   have HW:=Sd HS.out HD.out hB2
   rw[show(Value.int IntKind.u8 ((({ data:=#[48,49,50,51,52,53,54,55,56,57,97,98,99,100,101,102,103,104,105,106,107,108,109,110,111,112,113,114,115,116,117,118,119,120,121,122] }:ByteArray)[a.toNat]'(Nat.lt_of_lt_of_le (by omega:a.toNat < 16) (by decide))).toNat:Int))=.int .u8 ((sig u).toNat:Int)from hv]
   rw[HW (65 - k)]
   have HCC:=hid (hC.setCell (p:=⟨w.heap.size,k,none⟩) (.inr (Nat.le_refl _)) (.int .u8 ((sig u).toNat:Int)))
   go_wp2
   go_ret2
   exact⟨rfl,HCC.out⟩
  ·obtain⟨r,hr⟩:∃r:Int,r=bits BinOp.and IntKind.u64 a 15:=⟨_,rfl⟩
   have hr2:r=((u%16:Nat):Int):=by rw[hr,ha];exact Sy u hu
   have r0:0≤r:=by omega
   have r1:r < 16:=by omega
   have hr':bits BinOp.and IntKind.u64 a 15=r:=hr.symm
   clear hr
   have HR:=hid hr2
   have HD:=hid (xy (c:=sig (u%16)) (by omega:k < L.length) hD)
   have HS:=hid (show aj 16 n=aj 16 (u / 16)++sig (u%16)::ds by rw[hd,dE (by omega) (by omega)]; simp)
   have HU:=hid (show a=(u:Int)∧u < 65536∧k+(ds.length+1)=65 by omega)
   clear hd hD hlen hpos ha hi hu hr2
   go_wp2
   obtain⟨ua,u16,hkd⟩:=HU.out
   have hv:Value.int IntKind.u8 ((({ data:=#[48,49,50,51,52,53,54,55,56,57,97,98,99,100,101,102,103,104,105,106,107,108,109,110,111,112,113,114,115,116,117,118,119,120,121,122] }:ByteArray)[r.toNat]'(Nat.lt_of_lt_of_le (by omega:r.toNat < 16) (by decide))).toNat:Int)=.int .u8 ((sig (u%16)).toNat:Int):=by
    have e:r.toNat=u%16:=by have:=HR.out;omega
    congr 1
    rw[←EZ (u%16) (by omega) (Nat.lt_of_lt_of_le (by omega:u%16 < 16) (by decide))]
    simp only[e]
    rfl
   rw[hv]
   refine⟨⟨u / 16,k,a / 16,_,sig (u%16)::ds,rfl,rfl,hB.pU k _,by rw[List.length_set]; exact hL,hC.setCell (p:=⟨w.heap.size,k,none⟩) (.inr (Nat.le_refl _)) _,?_⟩,?_⟩
   ·exact⟨by omega,by omega,by simp;omega,HD.out,HS.out⟩
   ·simp[RowKit.intOf];omega
open Go.RowKit Go.Lib Go.Sort
theorem Ka(n:Nat)(hn:n < 65536)(w:World)(hl:eb w):Calls prog 143 #[.int .u64 n,.int .i64 16] w fun e w'=>e=.returned (.string ⟨(aj 16 n).toArray⟩)∧ai [] w w':=by
 go_enter func143,ntmps143
 go_wp2_with (go_at_call 199;refine(wD n hn _ hl).mono ?_;rintro e w2 ⟨rfl,C2⟩)
 go_ret
 exact⟨rfl,C2⟩
theorem zQ(n:Nat)(hn:n < 100)(w:World):Calls prog 143 #[.int .u64 n,.int .i64 10] w fun e w'=>e=.returned (.string ⟨(aj 10 n).toArray⟩)∧ai [] w w':=by
 rw[nH]
 go_enter func143,ntmps143
 go_wp2_with (go_at_call 196;refine(Tryz.internal_strconv_small n hn _).mono ?_;rintro e w2 ⟨rfl,rfl⟩)
 go_ret
 exact⟨rfl,ai.refl _ _⟩
theorem NY(w:World)(o:Obj)(dk:Array UInt8)(k:Nat):ai [] w ((putRow (fun(b:UInt8)=>Value.int .u8 (b.toNat:Int)) (w.alloc o) w.heap.size 0 dk).drewN k):=by
 rw[alloc_eq_grow]
 obtain⟨os',_,e⟩:=putRow_grow_new (fun(b:UInt8)=>Value.int .u8 (b.toNat:Int)) w #[o] w.heap.size 0 dk (Nat.le_refl _)
 refine ai.drewN ?_ k
 rw[e]
 exact fw ⟨⟨w.drawn,os'⟩,rfl⟩
set_option maxHeartbeats 4000000 in
theorem KZ(u:Nat)(hn:100≤u)(hu64:u < 18446744073709551616)(w:World)(hl:eb w):Calls prog 143 #[.int .u64 u,.int .i64 10] w fun e w'=>e=.returned (.string ⟨(aj 10 u).toArray⟩)∧ai [] w w':=by
 rw[nH]
 have hnd:Lib.nDigits u≤20:=by have:=Lib.numDigits_eq u (by omega) hu64;split at this<;>omega
 have hal:prog.arrayLen 261=24:=by kernel_rfl
 have hsl:∀W,(Instr.sliceAt 261 (.pointer (some ⟨w.heap.size,0,none⟩)) none (some (.int .i64 (Lib.nDigits u:Int))) none).run prog W=.ok (.slice (some ⟨w.heap.size,0,none⟩) (Lib.nDigits u) 24) W:=fun W=>by
  rw[run_sliceAt_array_h (P:=prog) W 261 ⟨w.heap.size,0,none⟩ (by kernel_rfl) .i64 (Lib.nDigits u:Int) (by omega) (by omega)]
  go_simp
 have hH0:=Lib.holds_zero0 w 261 (Lib.nDigits u) (by omega)
 have hfmt:=Tryz.internal_strconv_formatBase10 w.heap.size 0 24 u (Array.replicate (Lib.nDigits u) 0) (w.alloc (.cells Lib.zeros24 261)) hH0 (by rw[Array.size_replicate];exact Lib.lt_pow_nDigits u) hu64 (by rw[Array.size_replicate];omega)
 rw[Array.size_replicate]at hfmt
 have HH:=hid hH0
 clear hH0 hal
 go_enter func143,ntmps143
 go_wp2_with (first
  | (go_at_call 197;refine(Tryz.internal_strconv_numDigits u (by omega) hu64 _ (Lib.tabIs_alloc hl.SH _)).mono ?_;rintro e w2 ⟨rfl,rfl⟩))
 go_at_call 198
 refine hfmt.mono ?_
 rintro e w2 ⟨rfl,k,v',dk,rfl,hF⟩
 have hcv:(convert 82 9 (.slice (some ⟨w.heap.size,0,none⟩) (Lib.nDigits u) 24)).run prog ((putRow (fun(b:UInt8)=>Value.int .u8 (b.toNat:Int)) (w.alloc (.cells Lib.zeros24 261)) w.heap.size 0 dk).drewN k)=.ok (.string ⟨(Lib.decDigits u).toArray⟩) ((putRow (fun(b:UInt8)=>Value.int .u8 (b.toNat:Int)) (w.alloc (.cells Lib.zeros24 261)) w.heap.size 0 dk).drewN k):=by
  have h:=run_convert_bytes_back (P:=prog) ((putRow (fun(b:UInt8)=>Value.int .u8 (b.toNat:Int)) (w.alloc (.cells Lib.zeros24 261)) w.heap.size 0 dk).drewN k) 82 9 5 ⟨w.heap.size,0,none⟩ 24 (Lib.decDigits u) underlying82 underlying5 underlying9 (fun j hj=>by
   rw[Lib.row_is_numeral hF j hj,Lib.add_plain,World.cell?_drewN]
   exact cell?_putRow (fun(b:UInt8)=>Value.int .u8 (b.toNat:Int)) _ w.heap.size 0 _ dk HH.out (by rw[hF.size,Array.size_replicate]) j (by rw[hF.size];rw[Lib.decDigits_length]at hj;exact hj))
  rw[Lib.decDigits_length]at h
  exact h
 go_wp2
 go_ret
 exact⟨rfl,NY w _ dk k⟩
theorem Sc(b n:Nat)(hb:b=10∨b=16)(hn:n < 65536)(w:World)(hl:eb w):Calls prog 73 #[.int .u64 n,.int .i64 b] w fun e w'=>e=.returned (.string ⟨(aj b n).toArray⟩)∧ai [] w w':=by
 have H:Calls prog 143 #[.int .u64 n,.int .i64 b] w fun e w'=>e=.returned (.string ⟨(aj b n).toArray⟩)∧ai [] w w':=by
  rcases hb with rfl|rfl
  ·by_cases h:n < 100
   ·exact zQ n h w
   ·exact KZ n (by omega) (by omega) w hl
  ·exact Ka n hn w hl
 go_enter func73,ntmps73
 go_wp2_with (go_at_call 143;refine H.mono ?_;rintro e w2 ⟨rfl,C2⟩)
 go_ret
 exact⟨rfl,C2⟩
open Go.RowKit Go.Lib Go.Sort
def vZ(b:Nat)(t:ByteArray)(w:World)(e:Ending)(w':World):Prop:=
 ∃(v:Int) (er:Value),e=.returned (.tuple #[.int .u64 v,er])∧ai [] w w'∧0≤v∧v < 18446744073709551616∧(er=.nilIface∨er=.iface 270 (.int .i64 2)∨er=.iface 270 (.int .i64 1))∧∀n,n < 65536→t.data.toList=aj b n→v=n∧er=.nilIface
theorem rM(w:World)(t:ByteArray):ai [] w (Lib.bytesWorld w 5 t):=
 ⟨rfl,rfl,rfl,by rw[Lib.bytesWorld_size];omega,fun k hk _=>Lib.bytesWorld_at_old w 5 t k hk⟩
theorem ng{b:Nat}{t:ByteArray}{w w':World}(hC:ai [] w w')(v:Int)(er:Value)(h0:0≤v)(h1:v < 18446744073709551616)(he:er=.iface 270 (.int .i64 2)∨er=.iface 270 (.int .i64 1))(hn:∀n,n < 65536→t.data.toList=aj b n→False) :
  vZ b t w (.returned (.tuple #[.int .u64 v,er])) w':=⟨v,er,rfl,hC,h0,h1,.inr he,fun n h2 h3=>(hn n h2 h3).elim⟩
theorem Gw:∀d:Fin 16,10≤d.val→bits .or .u8 ((sig d.val).toNat:Int) 32=((sig d.val).toNat:Int):=by decide+kernel
set_option maxHeartbeats 32000000 in
theorem MP(t:ByteArray)(hne:t.size≠0)(hmax:t.size≤9223372036854775806)(w:World):Calls prog 163 #[.string t,.int .i64 16,.int .i64 64] w (vZ 16 t w):=by
 have hemp:t.toList.isEmpty=false:=by
  rw[←decide_eq_emptyBytes]
  exact decide_eq_false (fun h=>hne (by rw[h];rfl))
 have hcv:=Lib.run_convert_string_bytes (P:=prog) w 9 82 5 t (u:=.string) underlying9 underlying82 underlying5
 have hB:∀j,j < t.size→(Lib.bytesWorld w 5 t).cell? ⟨w.heap.size,j,none⟩=some (.int .u8 (t.data.toList.getD j 0).toNat):=fun j hj=>Lib.bytesWorld_cell w 5 t j hj
 have HC:=hid (rM w t)
 obtain⟨W1,hW1⟩:∃W1,W1=Lib.bytesWorld w 5 t:=⟨_,rfl⟩
 rw[←hW1]at hcv hB HC
 clear hW1
 obtain⟨bs,hL⟩:∃bs,bs=t.data.toList:=⟨_,rfl⟩
 have hLn:bs.length=t.size:=by rw[hL,Lib.size_eq]
 rw[←hL]at hB
 have HL:=hid hL
 clear hL
 have hmv:IntKind.u64.wrap (IntKind.u64.wrap 18446744073709551616 - 1)=18446744073709551615:=by
  rw[IntKind.wrap_u64,IntKind.wrap_u64]
  decide
 go_enter func163,ntmps163
 go_wp2
 go_loop [12,13,101] (fun vu vn vi=>∃(k:Nat) (a:Int),vu=.bool false∧vn=.int .u64 a∧vi=.int .i64 k∧k≤t.size∧0≤a∧a < 18446744073709551616∧Hid (∀n,n < 65536→bs=aj 16 n→a=(oD 16 (bs.take k):Nat)))
  (fun _ _ vi=>t.size - (RowKit.intOf vi).toNat)
 case atStart=>exact⟨0,0,rfl,rfl,rfl,by omega,by omega,by omega,fun n _ _=>rfl⟩
 case round=>
  obtain⟨k,a,rfl,rfl,rfl,hk,a0,a1,hh⟩:=hrel
  by_cases hkn:k < t.size
  ·have hc:=hB k hkn
   have hget:bs.getD k 0=bs[k]'(by omega):=by simp[List.getD,List.getElem?_eq_getElem (show k < bs.length by omega)]
   have hgk:bs[k]?=some (bs[k]'(by omega)):=List.getElem?_eq_getElem (by omega)
   rw[hget]at hc
   generalize bs[k]'(by omega)=c at hc hgk
   have HG:=hid hgk
   have HN:=hid (H3 (b:=16) bs k c hgk)
   have HT:=hid (fun n (hn:n < 65536) (h:bs=aj 16 n)=>(show oD 16 (bs.take k) < 65536 by
    have:=HQ (b:=16) (by omega) bs k
    have e:oD 16 bs=n:=by rw[h];exact jE (by omega) (by omega) n
    omega))
   have HM:=hid (fun n (h:bs=aj 16 n)=>(show ∃d,d < 16∧c=sig d from lz (by omega) n c (by rw[←h];exact List.mem_of_getElem? hgk)))
   have hc256:(c.toNat:Int) < 256:=by have:=c.toNat_lt;omega
   have hc0:0≤(c.toNat:Int):=by omega
   obtain⟨ci,hci⟩:∃ci:Int,ci=(c.toNat:Int):=⟨_,rfl⟩
   rw[←hci]at hc hc256 hc0
   have HCI:=hid hci
   clear hB hget hgk hci
   have HV:=hh
   clear hh
   by_cases hdig:48≤ci∧ci≤57
   ·obtain⟨hd0,hd1⟩:=hdig
    by_cases hcut:1152921504606846976≤a
    ·go_wp2
     go_ret2
     refine ng HC.out _ _ (by omega) (by omega) (.inr rfl) fun n hn h=>?_
     rw[←HL.out]at h
     have h1:=HT.out n hn h
     have h2:=HV.out n hn h
     omega
    ·have icut:a < 1152921504606846976:=by omega
     clear hcut
     go_wp2
     refine⟨⟨k+1,a*16+(ci - 48),rfl,rfl,by go_num,by omega,by omega,by omega,fun n hn h=>?_⟩,by simp[RowKit.intOf]; omega⟩
     have h1:=HV.out n hn h
     have h2:=HCI.out
     rw[HN.out,h1]
     unfold tn
     rw[if_pos (by omega)]
     push_cast
     omega
   ·obtain⟨l,hl⟩:∃l:Int,l=bits .or .u8 ci 32:=⟨_,rfl⟩
    have hl0:0≤l:=by rw[hl];exact bits_lo_u8 .or ci 32
    have hl1:l < 256:=by rw[hl];have:=bits_hi_u8 .or ci 32;omega
    have HLO:Hid (∀W,Calls prog 216 #[.int .u8 ci] W fun e w'=>e=.returned (.int .u8 l)∧w'=W):=hid fun W=>by rw[hl];exact Tryz.internal_strconv_lower ci W
    have HLE:=hid hl
    have HLV:=hid (fun d (hd:d < 16) (h:c=sig d) (h10:10≤d)=>(show l=ci∧ci=87+d by
     have h1:=iM hd
     have h2:=HCI.out
     rw[h]at h2
     rw[if_neg (by omega)]at h1
     have h3:=Gw ⟨d,hd⟩ h10
     rw[hl,h2]
     exact⟨h3,by omega⟩))
    clear hl
    by_cases h95:ci=95
    ·have hl95:l=127:=by rw[HLE.out,h95];decide
     rw[hl95,h95]at HLO
     have HCN:=hid (show ∀d,d < 16→c≠sig d from fun d hd h=>by
      have h1:=iM hd
      have h2:=HCI.out
      rw[h]at h2
      split at h1<;>omega)
     clear HLE HLV HCI hl0 hl1 hl95 l
     subst h95
     go_wp2_with (go_at_call 216;refine(HLO.out _).mono ?_;rintro e w2 ⟨rfl,rfl⟩)
     go_ret2
     refine ng HC.out _ _ (by omega) (by omega) (.inl rfl) fun n hn h=>?_
     rw[←HL.out]at h
     obtain⟨d,hd,h3⟩:=HM.out n h
     exact HCN.out d hd h3
    ·have d95:decide (ci=95)=false:=decide_eq_false h95
     clear HLE
     by_cases h97:97≤l∧l≤122
     ·obtain⟨l0,l1⟩:=h97
      by_cases h16:l < 103
      ·by_cases hcut:1152921504606846976≤a
       ·go_wp2_with (go_at_call 216;refine(HLO.out _).mono ?_;rintro e w2 ⟨rfl,rfl⟩)
        all_goals go_ret2
        all_goals refine ng HC.out _ _ (by omega) (by omega) (.inr rfl) fun n hn h=>?_
        all_goals rw[←HL.out]at h
        all_goals have h1:=HT.out n hn h
        all_goals have h2:=HV.out n hn h
        all_goals omega
       ·have icut:a < 1152921504606846976:=by omega
        clear hcut
        have HFIN:Hid (Hid (∀n,n < 65536→bs=aj 16 n→a*16+(l - 97+10)=(oD 16 (bs.take (k+1)):Nat))):=hid fun n hn h=>by
         have h1:=HV.out n hn h
         obtain⟨d,hd,h3⟩:=HM.out n h
         rw[HN.out,h1,h3,qF hd]
         by_cases h10:d < 10
         ·have h4:=iM hd
          have h5:=HCI.out
          rw[h3]at h5
          rw[if_pos h10]at h4
          omega
         ·obtain⟨h4,h5⟩:=HLV.out d hd h3 (by omega)
          push_cast
          omega
        go_wp2_with (go_at_call 216;refine(HLO.out _).mono ?_;rintro e w2 ⟨rfl,rfl⟩)
        all_goals exact⟨⟨k+1,a*16+(l - 97+10),rfl,rfl,by go_num,by omega,by omega,by omega,HFIN.out⟩,by simp[RowKit.intOf]; omega⟩
      ·go_wp2_with (go_at_call 216;refine(HLO.out _).mono ?_;rintro e w2 ⟨rfl,rfl⟩)
       all_goals go_ret2
       all_goals refine ng HC.out _ _ (by omega) (by omega) (.inl rfl) fun n hn h=>?_
       all_goals rw[←HL.out]at h
       all_goals obtain⟨d,hd,h3⟩:=HM.out n h
       all_goals by_cases h10:d < 10
       all_goals first | (have h4:=iM hd;have h5:=HCI.out;rw[h3]at h5;rw[if_pos h10]at h4;omega) | (obtain⟨h4,h5⟩:=HLV.out d hd h3 (by omega);omega)
     ·go_wp2_with (go_at_call 216;refine(HLO.out _).mono ?_;rintro e w2 ⟨rfl,rfl⟩)
      all_goals go_ret2
      all_goals refine ng HC.out _ _ (by omega) (by omega) (.inl rfl) fun n hn h=>?_
      all_goals rw[←HL.out]at h
      all_goals obtain⟨d,hd,h3⟩:=HM.out n h
      all_goals by_cases h10:d < 10
      all_goals first | (have h4:=iM hd;have h5:=HCI.out;rw[h3]at h5;rw[if_pos h10]at h4;omega) | (obtain⟨h4,h5⟩:=HLV.out d hd h3 (by omega);omega)
  ·have hkk:k=t.size:=by omega
   subst hkk
   have HV:=hh
   clear hh
   go_wp2
   go_ret2
   refine⟨a,.nilIface,rfl,HC.out,a0,a1,.inl rfl,fun n hn h=>⟨?_,rfl⟩⟩
   rw[←HL.out]at h
   rw[HV.out n hn h,List.take_of_length_le (by omega),h,jE (by omega) (by omega)]
open Go.RowKit Go.Lib Go.Sort
theorem qh:∀(l:List UInt8) (acc:Nat),(∀c∈l,∃d,d < 10∧c=sig d)→l.foldl (fun a c=>10*a+tn c) acc < 65536→Lib.parseUint10 acc l=.ok (l.foldl (fun a c=>10*a+tn c) acc)
 | [],acc,_,_=>rfl
 |c::l,acc,h,hn=>by
  obtain⟨d,hd,rfl⟩:=h c (by simp)
  have h1:=iM (d:=d) (by omega)
  rw[if_pos hd]at h1
  rw[List.foldl_cons]at hn ⊢
  have h2:=yT (b:=10) (by omega) l (10*acc+tn (sig d))
  have h3:tn (sig d)=d:=qF (by omega)
  unfold Lib.parseUint10
  rw[if_pos (by omega),if_neg (by omega),if_neg (by omega)]
  rw[show acc*10+((sig d).toNat - 48)=10*acc+tn (sig d)by omega]
  exact qh l _ (fun c hc=>h c (by simp[hc])) hn
theorem np(n:Nat)(hn:n < 65536):Lib.parseUint10 0 (aj 10 n)=.ok n:=by
 have hv:(aj 10 n).foldl (fun a c=>10*a+tn c) 0=n:=jE (b:=10) (by omega) (by omega) n
 rw[qh (aj 10 n) 0 (lz (by omega) n) (by rw[hv];exact hn),hv]
theorem MQ(t:ByteArray)(hne:t.size≠0)(hmax:t.size≤9223372036854775806)(w:World):Calls prog 163 #[.string t,.int .i64 10,.int .i64 64] w (vZ 10 t w):=by
 refine(Tryz.internal_strconv_ParseUint_10_b64 t hne hmax w).mono ?_
 rintro e w' ⟨rfl,rfl⟩
 have hC:=rM w t
 rcases h:Lib.parseUint10 0 t.data.toList with u|_|_
 ·refine⟨u,.nilIface,rfl,hC,by omega,by have:=Lib.parseUint10_lt _ 0 u (by omega) h;omega,.inl rfl,fun n hn h2=>⟨?_,rfl⟩⟩
  rw[h2,np n hn]at h
  injection h with h
  omega
 ·exact ng hC _ _ (by omega) (by omega) (.inl rfl) fun n hn h2=>by rw[h2,np n hn]at h;cases h
 ·exact ng hC _ _ (by omega) (by omega) (.inr rfl) fun n hn h2=>by rw[h2,np n hn]at h;cases h
theorem PU(b:Nat)(t:ByteArray)(h0:t.size=0)(w:World):Calls prog 163 #[.string t,.int .i64 b,.int .i64 64] w (vZ b t w):=by
 have ht:t=⟨#[]⟩:=by
  obtain⟨⟨l⟩⟩:=t
  cases l with
  |nil=>rfl
  |cons _ _=>simp[ByteArray.size]at h0
 subst ht
 refine(Tryz.internal_strconv_ParseUint_empty b 64 w).mono ?_
 rintro e w' ⟨rfl,rfl⟩
 exact ng (ai.refl _ _) _ _ (by omega) (by omega) (.inl rfl) fun n hn h2=>ml n h2.symm
theorem S7(b:Nat)(hb:b=10∨b=16)(t:ByteArray)(hmax:t.size≤281474976710656)(w:World):Calls prog 163 #[.string t,.int .i64 b,.int .i64 64] w (vZ b t w):=by
 by_cases h0:t.size=0
 ·exact PU b t h0 w
 ·rcases hb with rfl|rfl
  ·exact MQ t h0 (by omega) w
  ·exact MP t h0 (by omega) w
def Canon(b:Nat)(t:ByteArray)(v:Int)(er:Value):Prop:=∀n,n < 65536→t.data.toList=aj b n→v=n∧er=.nilIface
def QS(b:Nat)(t:ByteArray)(w:World)(e:Ending)(w':World):Prop:=
 ∃(v:Int) (er:Value),e=.returned (.tuple #[.int .u64 v,er])∧ai [] w w'∧0≤v∧v < 18446744073709551616∧(er=.nilIface∨∃N,er=.iface 272 (.pointer (some ⟨N,0,none⟩)))∧∀n,n < 65536→t.data.toList=aj b n→v=n∧er=.nilIface
set_option maxHeartbeats 4000000 in
theorem S8(b:Nat)(hb:b=10∨b=16)(t:ByteArray)(hmax:t.size≤281474976710656)(w:World)(hl:eb w):Calls prog 106 #[.string t,.int .i64 b,.int .i64 64] w (QS b t w):=by
 have HP:=hid (S7 b hb t hmax w)
 have HX:=hid hmax
 clear hb hmax
 go_enter func106,ntmps106
 go_wp2_with (go_at_call 163;refine HP.out.mono ?_)
 rintro e w2 ⟨v,er,rfl,C2,h0,h1,he,hn⟩
 have HN:Canon b t v er:=hn
 have HL:=hid (hl.df C2)
 have HV:=hid (And.intro h0 h1)
 clear hn HP h0 h1
 rcases he with rfl|rfl|rfl
 ·go_wp2
  go_ret2
  exact⟨v,.nilIface,rfl,C2,HV.out.1,HV.out.2,.inl rfl,HN⟩
 ·obtain⟨ev,hev,hk⟩:=HL.out.e1
  have HE:=hid hev
  have HK:=hid hk
  clear hev hk
  go_wp2_with (go_at_call 164;refine(Tryz.strconv_toError_syntax _ _ _ _ ev _ HX.out HE.out HK.out).mono ?_;rintro e w3 ⟨N,rfl,hN,hN2,B3⟩)
  go_ret2
  refine⟨v,_,rfl,C2.trans (ai.dO B3),HV.out.1,HV.out.2,.inr ⟨N,rfl⟩,fun n hn h=>?_⟩
  have:=(HN n hn h).2
  cases this
 ·obtain⟨ev,hev,hk⟩:=HL.out.e2
  have HE:=hid hev
  have HK:=hid hk
  clear hev hk
  go_wp2_with (go_at_call 164;refine(Tryz.strconv_toError_range _ _ _ _ ev _ HX.out HE.out HK.out).mono ?_;rintro e w3 ⟨N,rfl,hN,hN2,B3⟩)
  go_ret2
  refine⟨v,_,rfl,C2.trans (ai.dO B3),HV.out.1,HV.out.2,.inr ⟨N,rfl⟩,fun n hn h=>?_⟩
  have:=(HN n hn h).2
  cases this
def Lr(b most:Nat)(t:ByteArray)(w:World)(e:Ending)(w':World):Prop:=
 ∃(v:Int) (ok:Bool),e=.returned (.tuple #[.int .u64 v,.bool ok])∧ai [] w w'∧0≤v∧v < 18446744073709551616∧(ok=true→∃n:Nat,v=n∧n≤most∧t.data.toList=aj b n)∧∀n:Nat,n≤most→t.data.toList=aj b n→v=n∧ok=true
theorem OW{b most:Nat}{t:ByteArray}{w w':World}{v:Int}(hC:ai [] w w')(h0:0≤v)(h1:v < 18446744073709551616)(hn:∀n:Nat,n≤most→t.data.toList=aj b n→False):Lr b most t w (.returned (.tuple #[.int .u64 v,.bool false])) w':=
 ⟨v,false,rfl,hC,h0,h1,fun h=>(Bool.false_ne_true h).elim,fun n h2 h3=>(hn n h2 h3).elim⟩
set_option maxHeartbeats 4000000 in
theorem EG(b most:Nat)(hb:b=10∨b=16)(hm:most < 65536)(t:ByteArray)(hmax:t.size≤281474976710656)(w:World)(hl:eb w):Calls prog 49 #[.string t,.int .i64 b,.int .u64 most] w (Lr b most t w):=by
 have HP:=hid (S8 b hb t hmax w hl)
 have HF:=hid (fun(n:Nat) (hn:n < 65536) (W:World) (hW:eb W)=>Sc b n hb hn W hW)
 clear hb hmax
 go_enter func49,ntmps49
 go_wp2_with (go_at_call 106;refine HP.out.mono ?_)
 rintro e w2 ⟨v,er,rfl,C2,h0,h1,he,hn⟩
 have HN:Canon b t v er:=hn
 have HL:=hid (hl.df C2)
 have HV:=hid (And.intro h0 h1)
 clear hn HP h1
 obtain⟨n,rfl⟩:∃n:Nat,v=n:=⟨v.toNat,by omega⟩
 clear h0
 rcases he with rfl|⟨N,rfl⟩
 ·by_cases hle:n≤most
  ·have HF2:=hid (HF.out n (by omega) w2 HL.out)
   have HLE:=hid hle
   have hle':decide ((n:Int)≤(most:Int))=true:=decide_eq_true (by omega)
   go_wp2_with (go_at_call 73;refine HF2.out.mono ?_;rintro e w3 ⟨rfl,C3⟩)
   go_ret2
   refine⟨n,(aj b n==t.toList),rfl,C2.trans C3,HV.out.1,HV.out.2,fun h=>⟨n,rfl,HLE.out,?_⟩,fun m hm2 h=>?_⟩
   ·rw[beq_iff_eq,ByteArray.toList_eq]at h
    exact h.symm
   ·have h3:=(HN m (by omega) h).1
    have h4:m=n:=by omega
    subst h4
    refine⟨rfl,?_⟩
    rw[beq_iff_eq,ByteArray.toList_eq]
    exact h.symm
  ·have hle':decide ((n:Int)≤(most:Int))=false:=decide_eq_false (by omega)
   have HLE:=hid hle
   go_wp2
   go_ret2
   refine OW C2 HV.out.1 HV.out.2 fun m hm2 h=>?_
   have h3:=(HN m (by omega) h).1
   have h4:=HLE.out
   omega
 ·go_wp2
  go_ret2
  refine OW C2 HV.out.1 HV.out.2 fun m hm2 h=>?_
  have:=(HN m (by omega) h).2
  cases this
end Go.Proofs.YtnncigmpcdehnaaGreatDoor
