import Derived.Test.YtnncigmpcdehnaaGreatDoorQf15
namespace Go.Proofs.YtnncigmpcdehnaaGreatDoor
set_option maxRecDepth 100000
open Go.RowKit Go.Lib Go.Sort _root_.Go.Proofs.Tryz
set_option maxRecDepth 100000
def tb(s:Bs):Nat:=match Lib.parseUint10 0 s with
 |.ok u=>u
 |.range=>18446744073709551615
 |_=>0
def um(s:Bs):Bool:=match s with
 | []=>false
 |_=>match Lib.parseUint10 0 s with
  |.ok _=>true
  |_=>false
theorem wX:∀(l:List UInt8) (acc u:Nat),Lib.parseUint10 acc l=.ok u→l.foldl (fun a c=>10*a+tn c) acc=u
 | [],acc,u,h=>by
  unfold Lib.parseUint10 at h
  injection h
 |c::l,acc,u,h=>by
  unfold Lib.parseUint10 at h
  split at h
  ·rename_i hc
   split at h
   ·cases h
   ·split at h
    ·cases h
    ·rw[List.foldl_cons]
     have hd:tn c=c.toNat - 48:=by unfold tn; rw[if_pos (by omega)]
     rw[hd,show 10*acc+(c.toNat - 48)=acc*10+(c.toNat - 48)by omega]
     exact wX l _ u h
  ·cases h
theorem uk{s:Bs}(h:um s=true):gV s=tb s∧gV s < 18446744073709551616:=by
 unfold um at h
 split at h
 ·cases h
 ·split at h
  ·rename_i u hu
   have:=wX _ _ _ hu
   refine⟨?_,?_⟩
   ·unfold gV tb;rw[this,hu]
   ·unfold gV;rw[this];exact Lib.parseUint10_lt _ 0 u (by omega) hu
  ·cases h
theorem uE{most:Nat}(hm:most < 18446744073709551616){s:Bs}(h:cN most s=true):um s=true:=by
 unfold cN at h
 rw[Bool.and_eq_true,decide_eq_true_iff,decide_eq_true_iff]at h
 have hp:=Am (gV s) (by omega)
 rw[h.2]at hp
 unfold um
 split
 ·rename_i h1
  exact absurd h.2 (ml _)
 ·rw[hp]
theorem As{most:Nat}{s:Bs}(h:um s=true):cN most s=(decide (tb s≤most)&&(aj 10 (tb s)==s)):=by
 unfold cN
 rw[(uk h).1]
 congr 1
 by_cases h2:aj 10 (tb s)=s<;>simp[h2]
theorem Jo{most:Nat}(hm:most < 18446744073709551616){s:Bs}(h:um s=false):cN most s=false:=by
 cases hn:cN most s with
 |false=>rfl
 |true=>rw[uE hm hn]at h;cases h
theorem PT(s:Bs):tb s < 18446744073709551616:=by
 unfold tb
 split
 ·rename_i u hu;exact Lib.parseUint10_lt _ 0 u (by omega) hu
 ·omega
 ·omega
def Lq(t:ByteArray)(w:World)(e:Ending)(w':World):Prop:=
 ∃er:Value,e=.returned (.tuple #[.int .u64 (tb t.data.toList:Nat),er])∧ai [] w w'∧((um t.data.toList=true∧er=.nilIface)∨(um t.data.toList=false∧(er=.iface 270 (.int .i64 2)∨er=.iface 270 (.int .i64 1))))
theorem Rx(t:ByteArray)(hmax:t.size≤281474976710656)(w:World):Calls prog 163 #[.string t,.int .i64 10,.int .i64 64] w (Lq t w):=by
 by_cases h0:t.size=0
 ·have ht:t=⟨#[]⟩:=by
   obtain⟨⟨l⟩⟩:=t
   cases l with
   |nil=>rfl
   |cons _ _=>simp[ByteArray.size]at h0
  subst ht
  refine(Tryz.internal_strconv_ParseUint_empty 10 64 w).mono ?_
  rintro e w' ⟨rfl,rfl⟩
  exact⟨_,rfl,ai.refl _ _,.inr ⟨rfl,.inl rfl⟩⟩
 ·refine(Tryz.internal_strconv_ParseUint_10_b64 t h0 (by omega) w).mono ?_
  rintro e w' ⟨rfl,rfl⟩
  have hC:=rM w t
  have hne:∃c l,t.data.toList=c::l:=by
   obtain⟨⟨l⟩⟩:=t
   cases l with
   |nil=>simp[ByteArray.size]at h0
   |cons c l=>exact⟨c,l,rfl⟩
  obtain⟨c,l,hcl⟩:=hne
  unfold Lq tb um
  rw[hcl]
  rcases h:Lib.parseUint10 0 (c::l)with u|_|_
  ·exact⟨.nilIface,rfl,hC,.inl ⟨rfl,rfl⟩⟩
  ·exact⟨_,rfl,hC,.inr ⟨rfl,.inl rfl⟩⟩
  ·exact⟨_,rfl,hC,.inr ⟨rfl,.inr rfl⟩⟩
def QR(t:ByteArray)(w:World)(e:Ending)(w':World):Prop:=
 ∃(v:Nat) (er:Value),e=.returned (.tuple #[.int .u64 v,er])∧v=tb t.data.toList∧ai [] w w'∧((um t.data.toList=true∧er=.nilIface)∨(um t.data.toList=false∧∃N,er=.iface 272 ((pt N 0))))
set_option maxHeartbeats 4000000 in
theorem Ry(t:ByteArray)(hmax:t.size≤281474976710656)(w:World)(hl:eb w):Calls prog 106 #[.string t,.int .i64 10,.int .i64 64] w (QR t w):=by
 have HP:=hid (Rx t hmax w)
 have HX:=hid hmax
 clear hmax
 go_enter func106,ntmps106
 go_wp2_with (go_at_call 163;refine HP.out.mono ?_)
 rintro e w2 ⟨er,rfl,C2,he⟩
 obtain⟨v,hv⟩:∃v,v=tb t.data.toList:=⟨_,rfl⟩
 rw[←hv]
 have HV:=hid hv
 have HL:=hid (hl.df C2)
 clear HP hv
 rcases he with⟨hk,rfl⟩ | ⟨hk,rfl|rfl⟩
 ·have HK:=hid hk
  clear hk
  go_wp2
  go_ret2
  exact⟨v,.nilIface,rfl,HV.out,C2,.inl ⟨HK.out,rfl⟩⟩
 ·have HK:=hid hk
  clear hk
  obtain⟨ev,hev,hk⟩:=HL.out.e1
  have HE:=hid hev
  have HI:=hid hk
  clear hev hk
  go_wp2_with (go_at_call 164;refine(Tryz.strconv_toError_syntax _ _ _ _ ev _ HX.out HE.out HI.out).mono ?_;rintro e w3 ⟨N,rfl,hN,hN2,B3⟩)
  go_ret2
  exact⟨v,_,rfl,HV.out,C2.trans (ai.dO B3),.inr ⟨HK.out,N,rfl⟩⟩
 ·have HK:=hid hk
  clear hk
  obtain⟨ev,hev,hk⟩:=HL.out.e2
  have HE:=hid hev
  have HI:=hid hk
  clear hev hk
  go_wp2_with (go_at_call 164;refine(Tryz.strconv_toError_range _ _ _ _ ev _ HX.out HE.out HI.out).mono ?_;rintro e w3 ⟨N,rfl,hN,hN2,B3⟩)
  go_ret2
  exact⟨v,_,rfl,HV.out,C2.trans (ai.dO B3),.inr ⟨HK.out,N,rfl⟩⟩
set_option maxHeartbeats 4000000 in
theorem CW(most:Nat)(hm:most < 18446744073709551616)(s:Bs)(hmax:s.length≤281474976710656)(w:World)(hl:eb w):Calls prog 232 #[.string ⟨s.toArray⟩,.int .u64 most] w fun e w'=>∃(v:Nat) (ok:Bool),e=.returned (.tuple #[.int .u64 v,.bool ok])∧v=tb s∧ok=cN most s∧ai [] w w':=by
 obtain⟨t,ht⟩:∃t:ByteArray,t=⟨s.toArray⟩:=⟨_,rfl⟩
 have hts:t.data.toList=s:=by rw[ht]
 rw[←ht]
 have HP:=hid (Ry t (by rw[ht];exact hmax) w hl)
 have HF:=hid (fun(n:Nat) (hn:n < 18446744073709551616) (W:World) (hW:eb W)=>Fc n hn W hW)
 have HM:=hid hm
 have HT:=hid hts
 have HL0:=hid hl
 clear hmax hm hts ht hl
 go_enter func232,ntmps232
 go_wp2_with (go_at_call 106;refine HP.out.mono ?_)
 rintro e w2 ⟨v,er,rfl,hv,C2,he⟩
 rw[HT.out]at he hv
 have HV:=hid hv
 have HL:=hid (HL0.out.df C2)
 clear HP hv
 rcases he with⟨hk,rfl⟩ | ⟨hk,N,rfl⟩
 ·have HK:=hid hk
  clear hk
  by_cases hle:v≤most
  ·have HF2:=hid (HF.out v (by rw[HV.out];exact PT s) w2 HL.out)
   have HLE:=hid hle
   have hle':decide ((v:Int)≤(most:Int))=true:=decide_eq_true (by omega)
   clear hle
   go_wp2_with (go_at_call 73;refine HF2.out.mono ?_;rintro e w3 ⟨rfl,C3⟩)
   go_ret2
   refine⟨v,_,rfl,HV.out,?_,C2.trans C3⟩
   rw[As HK.out,←HV.out,decide_eq_true HLE.out,Bool.true_and,←HT.out,ByteArray.toList_eq]
  ·have hle':decide ((v:Int)≤(most:Int))=false:=decide_eq_false (by omega)
   have HLE:=hid hle
   clear hle
   go_wp2
   go_ret2
   refine⟨v,false,rfl,HV.out,?_,C2⟩
   rw[As HK.out,←HV.out,decide_eq_false HLE.out,Bool.false_and]
 ·have HK:=hid hk
  clear hk
  go_wp2
  go_ret2
  exact⟨v,false,rfl,HV.out,(Jo HM.out HK.out).symm,C2⟩
theorem o8(most:Nat)(hm:most < 18446744073709551616)(s:Bs)(hmax:s.length≤281474976710656)(w:World)(hl:eb w):Calls prog 232 #[.string ⟨s.toArray⟩,.int .u64 most] w (Rn w (.tuple #[.int .u64 (tb s:Nat),.bool (cN most s)])):=
 (CW most hm s hmax w hl).mono fun _ _ ⟨_,_,he,hv,ho,hc⟩=>⟨by rw[he,hv,ho],hc⟩
set_option maxRecDepth 100000
open Go.RowKit Go.Lib Go.Sort _root_.Go.Proofs.Tryz
set_option maxHeartbeats 4000000 in
theorem pb(l:List UInt8)(w:World):Calls prog 33 #[.string ⟨l.toArray⟩] w fun e w'=>e=.returned (.bool (aB l))∧ai [] w w':=by
 obtain⟨s,hs⟩:∃s:ByteArray,s=⟨l.toArray⟩:=⟨_,rfl⟩
 have hsz:s.size=l.length:=by rw[hs];rfl
 have HS:=hid hs
 rw[←hs]
 clear hs
 have HZ:=hid hsz
 clear hsz
 go_enter func33,ntmps33
 by_cases h0:s.size=0
 ·have hn:Value.bool false=.bool (aB l):=by have:=HZ.out;unfold aB;rw[decide_eq_false (by omega)];rfl
  have HN:=hid hn
  clear hn
  go_wp2
  go_ret
  exact⟨congrArg _ HN.out,ai.refl _ _⟩
 by_cases h16:16 < s.size
 ·have hn:Value.bool false=.bool (aB l):=by have:=HZ.out;unfold aB;rw[decide_eq_false (show ¬l.length≤16 by omega)];simp
  have HN:=hid hn
  clear hn
  go_wp2
  go_ret
  exact⟨congrArg _ HN.out,ai.refl _ _⟩
 have b0:((s.size:Int)==0)=false:=by rw[beq_eq_false_iff_ne];omega
 have b16:¬((16:Int) < (s.size:Int)):=by omega
 go_wp2
 go_loopw [3] (fun _ wr=>∃pos:Nat,wr.heap[w.heap.size]?=some (.stringIter s pos)∧Below w.heap.size w wr∧∀i c,i < pos→l[i]?=some c→wu i c=true) (fun _ wr=>s.size - wr.iterPos w.heap.size)
 case atStart=>
  refine⟨0,?_,((Below.refl _ w).alloc (Nat.le_refl _) _),fun i c h=>absurd h (Nat.not_lt_zero _)⟩
  have:=World.iter_heap w s 0
  simpa using this
 case round=>
  obtain⟨pos,hit,hbw,hok⟩:=hrel
  have HOK:=hid hok
  clear hok
  by_cases hp:pos < s.size
  ·have hnx:∀ty,(Instr.next (.pointer (some ⟨w.heap.size,0,none⟩)) true ty).run prog wr=_:=fun ty=>Lib.run_next_any_at wr w.heap.size s pos ty hit hp
   have hr:=My s pos hp
   have hg:l[pos]?=some (s[pos]'hp):=by
    have:=HS.out;subst this
    exact List.getElem?_eq_getElem (show pos < l.length from hp)
   have hit2:=Lib.iterAt_heap wr w.heap.size s pos (pos+(Utf8.decode s pos).2) hit
   have hbw2:=Lib.below_iterAt hbw (k:=w.heap.size) (by omega) s (pos+(Utf8.decode s pos).2)
   rcases hr with⟨hlo,hd⟩ | ⟨hhi,hd⟩
   ·rw[hd]at hnx hit2 hbw2
    generalize (s[pos]'hp)=c at*
    obtain⟨x,hx⟩:∃x:Int,x=(c.toNat:Int):=⟨_,rfl⟩
    rw[show((c.toNat:Nat):Int)=x from hx.symm]at hnx
    have x0:0≤x:=by omega
    have HX:=hid hx
    have HG:=hid hg
    have HL2:=hid (show x < 128 by omega)
    clear hx hg hlo hd
    have hup:wu pos c=true→∀i c',i < pos+1→l[i]?=some c'→wu i c'=true:=fun hc i c' hi h=>by
     by_cases he:i=pos
     ·subst he
      rw[HG.out]at h
      injection h with h
      rw[←h];exact hc
     ·exact HOK.out i c' (by omega) h
    have HUP:=hid hup
    clear hup
    by_cases hlet:97≤x∧x≤122
    ·obtain⟨ha,hb⟩:=hlet
     go_wp2
     go_roundw
     case rel=>exact⟨pos+1,hit2,hbw2,HUP.out (EI HX.out ha hb)⟩
     case measure=>
      simp only[World.iterPos,hit2,hit]
      omega
    ·by_cases hpos:pos=0
     ·have hp0:¬((0:Int) < (pos:Int)):=by omega
      rcases(show x < 97∨(97≤x∧122 < x)by omega)with h97|⟨h97,h122⟩
      ·skip
       have h1:¬(97≤x):=by omega
       have hn:Value.bool false=.bool (aB l):=by rw[dP HG.out (jO HX.out (by omega) (by omega))]
       have HN:=hid hn
       clear hn
       go_wp2
       go_ret
       exact⟨congrArg _ HN.out,by simpa[hpos]using ai.dO hbw2⟩
      ·skip
       have h1:¬(x≤122):=by omega
       have hn:Value.bool false=.bool (aB l):=by rw[dP HG.out (jO HX.out (by omega) (by omega))]
       have HN:=hid hn
       clear hn
       go_wp2
       go_ret
       exact⟨congrArg _ HN.out,by simpa[hpos]using ai.dO hbw2⟩
     ·have hp0:(0:Int) < (pos:Int):=by omega
      rcases(show(97≤x∧122 < x)∨(x < 97∧48≤x∧x≤57)∨(x < 97∧x < 48∧x=45)∨(x < 97∧x < 48∧x≠45)∨(x < 97∧48≤x∧57 < x∧x=95)∨(x < 97∧48≤x∧57 < x∧x≠95)by omega)with⟨h97,h122⟩ | ⟨h97,h48,h57⟩ | ⟨h97,h48,hx⟩ | ⟨h97,h48,hx⟩ | ⟨h97,h48,h57,hx⟩ | ⟨h97,h48,h57,hx⟩
      ·skip
       have h1:¬(x≤122):=by omega
       have h48:48≤x:=by omega
       have h2:¬(x≤57):=by omega
       have e45:(x==45)=false:=by rw[beq_eq_false_iff_ne];omega
       have e95:(x==95)=false:=by rw[beq_eq_false_iff_ne];omega
       have hn:Value.bool false=.bool (aB l):=by rw[dP HG.out (jO HX.out (by omega) (by omega))]
       have HN:=hid hn
       clear hn
       go_wp2
       go_ret
       exact⟨congrArg _ HN.out,ai.dO hbw2⟩
      ·skip
       go_wp2
       go_roundw
       case rel=>exact⟨pos+1,hit2,hbw2,HUP.out (oq HX.out (by omega) (by omega))⟩
       case measure=>
        simp only[World.iterPos,hit2,hit]
        omega
      ·skip
       have h1:¬(48≤x):=by omega
       have e45:(x==45)=true:=by rw[beq_iff_eq];omega
       go_wp2
       go_roundw
       case rel=>exact⟨pos+1,hit2,hbw2,HUP.out (oq HX.out (by omega) (by omega))⟩
       case measure=>
        simp only[World.iterPos,hit2,hit]
        omega
      ·skip
       have h1:¬(48≤x):=by omega
       have e45:(x==45)=false:=by rw[beq_eq_false_iff_ne];omega
       have e95:(x==95)=false:=by rw[beq_eq_false_iff_ne];omega
       have hn:Value.bool false=.bool (aB l):=by rw[dP HG.out (jO HX.out (by omega) (by omega))]
       have HN:=hid hn
       clear hn
       go_wp2
       go_ret
       exact⟨congrArg _ HN.out,ai.dO hbw2⟩
      ·skip
       have h1:¬(x≤57):=by omega
       have e45:(x==45)=false:=by rw[beq_eq_false_iff_ne];omega
       have e95:(x==95)=true:=by rw[beq_iff_eq];omega
       go_wp2
       go_roundw
       case rel=>exact⟨pos+1,hit2,hbw2,HUP.out (oq HX.out (by omega) (by omega))⟩
       case measure=>
        simp only[World.iterPos,hit2,hit]
        omega
      ·skip
       have h1:¬(x≤57):=by omega
       have e45:(x==45)=false:=by rw[beq_eq_false_iff_ne];omega
       have e95:(x==95)=false:=by rw[beq_eq_false_iff_ne];omega
       have hn:Value.bool false=.bool (aB l):=by rw[dP HG.out (jO HX.out (by omega) (by omega))]
       have HN:=hid hn
       clear hn
       go_wp2
       go_ret
       exact⟨congrArg _ HN.out,ai.dO hbw2⟩
   ·have HX:=hid (rfl:((s[pos]'hp).toNat:Int)=((s[pos]'hp).toNat:Int))
    have hn:Value.bool false=.bool (aB l):=by rw[dP hg (jO rfl (by omega) (by omega))]
    have HN:=hid hn
    clear hn hg
    obtain⟨x,hx⟩:∃x:Int,x=((Utf8.decode s pos).1:Int):=⟨_,rfl⟩
    rw[←hx]at hnx
    have hx128:128≤x:=by omega
    have h97:97≤x:=by omega
    have h122:122 < x:=by omega
    have h48:48≤x:=by omega
    have h57:57 < x:=by omega
    have e45:(x==45)=false:=by rw[beq_eq_false_iff_ne];omega
    have e95:(x==95)=false:=by rw[beq_eq_false_iff_ne];omega
    clear hhi hd hx
    by_cases hpos:pos=0
    ·have hp0:¬((0:Int) < (pos:Int)):=by omega
     go_wp2
     go_ret
     exact⟨congrArg _ HN.out,by simpa[hpos]using ai.dO hbw2⟩
    ·have hp0:(0:Int) < (pos:Int):=by omega
     go_wp2
     go_ret
     exact⟨congrArg _ HN.out,ai.dO hbw2⟩
  ·have hnx:∀ty,(Instr.next (.pointer (some ⟨w.heap.size,0,none⟩)) true ty).run prog wr=_:=fun ty=>Lib.run_next_end_at wr w.heap.size s pos ty hit hp
   have hn:Value.bool true=.bool (aB l):=by
    rw[xl (by have:=HZ.out;omega) (by have:=HZ.out;omega) (fun i c h=>HOK.out i c (by have:=(List.getElem?_eq_some_iff.1 h).1;have:=HZ.out;omega) h)]
   have HN:=hid hn
   clear hn
   go_wp2
   go_ret
   exact⟨congrArg _ HN.out,ai.dO hbw⟩
set_option maxRecDepth 100000
open Go.RowKit Go.Lib Go.Sort _root_.Go.Proofs.Tryz
def lY(n:Nat):Value:=.int .u64 (n:Int)
theorem lq(most:Nat)(hm:most < 18446744073709551616){w:World}{g:Nat}{A:Option Go.Addr}{n c i:Nat}{ws:List Bs}(h:eJ w g A n c i ws):Calls prog 189 #[(pt g 0),.int .u64 (most:Int)] w (bU g A n c lY (bw most ws i) w):=by
 have e1:bw most ws i=(aV ws i).bind fun x j=>ay (cN most x) 200 (gV x) j:=rfl
 have n1:=fun W (hL:eJ W g A n c i ws)=>ns hL
 have hx:(aV ws i).val.length≤100000000:=uI h.sz
 generalize bw most ws i=T at e1 ⊢
 generalize aV ws i=r at e1 n1 hx
 have c9:=lr [] h h.le (cj e1) n1
 have c11f:=fun(_:r.okB=true∧r.pos≤n) W (hW:ai [g] w W)=>o8 most hm r.val (by omega) W (h.AR hW)
 have c16f:=fun(hp:r.okB=true∧r.pos≤n)=>lr [.bool (cN most r.val),.int .i64 200] h hp.2 (xj (bZ e1 hp.1)) (fun W hL=>iy (cN most r.val) 200 (gV r.val) hL)
 have z2f:=fun(hp:r.okB=true∧r.pos≤n) (hp2:(ay (cN most r.val) 200 (gV r.val) r.pos).okB=true∧(ay (cN most r.val) 200 (gV r.val) r.pos).pos≤n)=>(show zy g A n c lY T (.val (lY (tb r.val))) [(g,154,dJ A n c (ay (cN most r.val) 200 (gV r.val) r.pos).pos)]from by
  have e2:=bZ e1 hp.1
  cases hk:cN most r.val with
  |false=>rw[hk]at hp2;cases hp2.1
  |true=>
   rw[hk]at e2
   exact⟨_,_,e2,hp.2,by rw[(uk (uE hm hk)).1],rfl⟩)
 refine cZ [.int .u64 (most:Int)] h.b9 [(9,.aq (eV 0 g A n c r ab)),(11,.call (.tuple #[lY (tb r.val),.bool (cN most r.val)])),(16,.aq (eV 0 g A n c (ay (cN most r.val) 200 (gV r.val) r.pos) fun _=>.tuple #[]))] [] (by kernel_rfl) func189 rfl (cn rfl) ?_
 exact Eq.mp (by kernel_rfl) (And.intro c9 (fun(hx0:r.okB=true∧r.pos≤n)=>(Sx.t2 (c11f hx0) (c16f hx0) (fun(hx1:(ay (cN most r.val) 200 (gV r.val) r.pos).okB=true∧(ay (cN most r.val) 200 (gV r.val) r.pos).pos≤n)=>(z2f hx0 hx1)))))
set_option maxRecDepth 100000
open Go.RowKit Go.Lib Go.Sort _root_.Go.Proofs.Tryz
set_option maxRecDepth 100000
def qy(n:Nat):Value:=.int .i64 (n:Int)
theorem CX{most:Nat}{ws:List Bs}{i v j:Nat}(h:bw most ws i=.ok v j):v≤most:=by
 unfold bw at h
 cases hr:aV ws i with
 |no c p=>rw[hr]at h;cases h
 |ok x k=>
  rw[hr]at h
  simp only[Out.bind]at h
  cases hk:cN most x with
  |false=>rw[hk]at h;cases h
  |true=>
   rw[hk]at h
   injection h with h _
   unfold cN at hk
   rw[Bool.and_eq_true,decide_eq_true_iff]at hk
   omega
theorem EB{α:Type} [Inhabited α]{r:Out α}{n:Nat}(h:r.okB=true∧r.pos≤n):r=.ok r.val r.pos:=Out.EE h.1
theorem uT{w:World}{g:Nat}{A:Option Go.Addr}{n c i:Nat}{ws:List Bs}(h:eJ w g A n c i ws):Calls prog 186 #[(pt g 0)] w (bU g A n c qy (iZ ws i) w):=by
 have e1:iZ ws i=bw 9223372036854775807 ws i:=rfl
 have n1:=fun W (hL:eJ W g A n c i ws)=>lq 9223372036854775807 (by omega) hL
 have hle:∀v j,bw 9223372036854775807 ws i=.ok v j→v≤9223372036854775807:=fun v j=>CX
 generalize iZ ws i=T at e1 ⊢
 generalize bw 9223372036854775807 ws i=r at e1 n1 hle
 have c4:=lr [.int .u64 ((9223372036854775807:Nat):Int)] h h.le (xj e1) n1
 have c5f:=fun(hp:r.okB=true∧r.pos≤n)=>(show Value.int .i64 (IntKind.i64.wrap (r.val:Int))=.int .i64 (r.val:Int)from iw (sV (by omega) (by have:=hle _ _ (EB hp);omega)))
 have z1f:=fun(hp:r.okB=true∧r.pos≤n)=>(show zy g A n c qy T (.val (qy r.val)) [(g,154,dJ A n c r.pos)]from⟨_,_,by rw[e1];exact EB hp,hp.2,rfl,rfl⟩)
 refine cZ [] h.b9 [(4,.aq (eV 0 g A n c r lY)),(5,.is (qy r.val))] [] (by kernel_rfl) func186 rfl (cn rfl) ?_
 exact Eq.mp (by kernel_rfl) (And.intro c4 (fun(hx0:r.okB=true∧r.pos≤n)=>(And.intro (c5f hx0) (z1f hx0))))
theorem qo{w:World}{g:Nat}{A:Option Go.Addr}{n c i:Nat}{ws:List Bs}(h:eJ w g A n c i ws):Calls prog 188 #[(pt g 0)] w (bU g A n c ab (gu ws i) w):=by
 have e1:gu ws i=(aV ws i).bind fun x j=>ay (aB x) 201 x j:=rfl
 have n1:=fun W (hL:eJ W g A n c i ws)=>ns hL
 generalize gu ws i=T at e1 ⊢
 generalize aV ws i=r at e1 n1
 have c5:=lr [] h h.le (cj e1) n1
 have c8f:=fun(_:r.okB=true∧r.pos≤n) W (_:ai [g] w W)=>pb r.val W
 have c9f:=fun(hp:r.okB=true∧r.pos≤n)=>lr [.bool (aB r.val),.int .i64 201] h hp.2 (xj (bZ e1 hp.1)) (fun W hL=>iy (aB r.val) 201 r.val hL)
 have z2f:=fun(hp:r.okB=true∧r.pos≤n) (hp2:(ay (aB r.val) 201 r.val r.pos).okB=true∧(ay (aB r.val) 201 r.val r.pos).pos≤n)=>(show zy g A n c ab T (.val (ab r.val)) [(g,154,dJ A n c (ay (aB r.val) 201 r.val r.pos).pos)]from by
  have e2:=bZ e1 hp.1
  cases hk:aB r.val with
  |false=>rw[hk]at hp2;cases hp2.1
  |true=>rw[hk]at e2;exact⟨_,_,e2,hp.2,rfl,rfl⟩)
 refine cZ [] h.b9 [(5,.aq (eV 0 g A n c r ab)),(8,.call (.bool (aB r.val))),(9,.aq (eV 0 g A n c (ay (aB r.val) 201 r.val r.pos) fun _=>.tuple #[]))] [] (by kernel_rfl) func188 rfl (cn rfl) ?_
 exact Eq.mp (by kernel_rfl) (And.intro c5 (fun(hx0:r.okB=true∧r.pos≤n)=>(Sx.t2 (c8f hx0) (c9f hx0) (fun(hx1:(ay (aB r.val) 201 r.val r.pos).okB=true∧(ay (aB r.val) 201 r.val r.pos).pos≤n)=>(z2f hx0 hx1)))))
open Go.RowKit Go.Lib Go.Sort
structure RS where
 at_:Nat
 e:Nat
abbrev RA(α:Type):=RS→α×RS
def Es{α β:Type}(q:RA α)(h:α→RA β):RA β:=fun st=>h (q st).1 (q st).2
def Ri{α:Type}(a:α):RA α:=fun st=>(a,st)
def CC(code:Nat)(st:RS):RS:=match Nat.beq st.e 0 with
 |true=>⟨st.at_ - 1,code⟩
 |false=>st
def Rp{α:Type}(ok:Bool)(code:Nat)(a:α):RA α:=fun st=>(a,match ok with
 |true=>st
 |false=>CC code st)
def IH(ws:List Bs):RA Bs:=fun st=>match Nat.beq st.e 0 with
 |true=>match ws[st.at_]? with
  |some x=>(x,⟨st.at_+1,0⟩)
  |none=>([],⟨st.at_,200⟩)
 |false=>([],st)
def PH(ws:List Bs)(s:Bs)(st:RS):Bool:=Nat.beq st.e 0&&decide (ws[st.at_]?=some s)
structure DY{α:Type}(L:Nat)(r:Nat→Out α)(q:RA α):Prop where
 run:∀i,i≤L→match r i with
  |.ok a j=>q ⟨i,0⟩=(a,⟨j,0⟩)∧j≤L
  |.no c p=>c≠0∧(q ⟨i,0⟩).2=⟨p - 1,c⟩
 stay:∀st:RS,st.e≠0→(q st).2=st
theorem DY.bind{α β:Type}{L:Nat}{r:Nat→Out α}{q:RA α}{f:α→Nat→Out β}{h:α→RA β}(H:DY L r q)(H2:∀a,DY L (f a) (h a)):DY L (fun i=>(r i).bind f) (Es q h):=by
 refine⟨fun i hi=>?_,fun st hs=>?_⟩
 ·have h1:=H.run i hi
  cases hr:r i with
  |ok a j=>
   rw[hr]at h1
   have h2:=(H2 a).run j h1.2
   simp only[Out.bind]
   unfold Es
   rw[h1.1]
   exact h2
  |no c p=>
   rw[hr]at h1
   simp only[Out.bind]
   refine⟨h1.1,?_⟩
   unfold Es
   rw[(H2 _).stay _ (by rw[h1.2];exact h1.1),h1.2]
 ·unfold Es
  have:=H.stay st hs
  rw[(H2 _).stay _ (by rw[this];exact hs),this]
theorem zW{code:Nat}{st:RS}(h:st.e≠0):CC code st=st:=by
 unfold CC
 cases hb:Nat.beq st.e 0 with
 |true=>exact absurd (Nat.eq_of_beq_eq_true hb) h
 |false=>rfl
theorem DY.SR{α:Type}{L:Nat}{ok:Bool}{code:Nat}{a a':α}(hc:code≠0)(h:ok=true→a'=a):DY L (ay ok code a) (Rp ok code a'):=by
 refine⟨fun i hi=>?_,fun st hs=>?_⟩
 ·cases ok with
  |true=>exact⟨by simp only[Rp,h rfl],hi⟩
  |false=>exact⟨hc,rfl⟩
 ·cases ok with
  |true=>rfl
  |false=>exact zW hs
theorem DY.pure{α:Type}{L:Nat}(a:α):DY L (fun i=>.ok a i) (Ri a):=⟨fun _ hi=>⟨rfl,hi⟩,fun _ _=>rfl⟩
theorem DY.congr{α:Type}{L:Nat}{r r':Nat→Out α}{q q':RA α}(h:DY L r q)(hr:∀i,r' i=r i)(hq:∀st,q' st=q st):DY L r' q':=by
 have e1:r'=r:=funext hr
 have e2:q'=q:=funext hq
 rw[e1,e2];exact h
theorem IL{ws:List Bs}{s:Bs}{st:RS}(h:st.e≠0):PH ws s st=false:=by
 unfold PH
 cases hb:Nat.beq st.e 0 with
 |true=>exact absurd (Nat.eq_of_beq_eq_true hb) h
 |false=>rfl
theorem DY.Ih{α:Type}{ws:List Bs}{s:Bs}{f:Bool→Nat→Out α}{h h':RA α}(H:DY ws.length (f true) h)(H':DY ws.length (f false) h') :
  DY ws.length (fun i=>(dL ws i s).bind f) (fun st=>match PH ws s st with|true=>h (IH ws st).2|false=>h' st):=by
 refine⟨fun i hl=>?_,fun st hs=>?_⟩
 ·by_cases hi:ws[i]?=some s
  ·have e1:dL ws i s=.ok true (i+1):=by unfold dL;rw[if_pos hi]
   have e2:PH ws s ⟨i,0⟩=true:=by unfold PH;simp[hi]
   have e3:(IH ws ⟨i,0⟩).2=⟨i+1,0⟩:=by unfold IH;simp[hi]
   rw[e1];simp only[e2,e3,Out.bind]
   exact H.run _ (List.getElem?_eq_some_iff.1 hi).1
  ·have e1:dL ws i s=.ok false i:=by unfold dL;rw[if_neg hi]
   have e2:PH ws s ⟨i,0⟩=false:=by unfold PH;simp[hi]
   rw[e1];simp only[e2,Out.bind]
   exact H'.run _ hl
 ·simp only[IL hs];exact H'.stay st hs
open Go.RowKit Go.Lib Go.Sort
def One{α:Type}(ws:List Bs)(r:Nat→Out α):Prop:=∀i a j,r i=.ok a j→j=i+1∧j≤ws.length
theorem Ji(ws:List Bs):One ws (aV ws):=by
 intro i a j h
 unfold aV at h
 split at h
 ·rename_i x hx
  injection h with h1 h2
  have:=(List.getElem?_eq_some_iff.1 hx).1
  omega
 ·cases h
theorem One.SR{α:Type}{ws:List Bs}{f:Bs→Nat→Out α}(h:∀x j a k,f x j=.ok a k→k=j):One ws (fun i=>(aV ws i).bind f):=by
 intro i a j hj
 cases hr:aV ws i with
 |ok x k=>
  simp only[hr,Out.bind]at hj
  have:=Ji ws i x k hr
  rw[h x k a j hj]
  exact this
 |no c p=>simp only[hr,Out.bind]at hj;cases hj
theorem tw{α:Type}{b:Bool}{code:Nat}{a a':α}{i j:Nat}(h:ay b code a i=.ok a' j):j=i:=by
 cases b with
 |true=>injection h with _ h;exact h.symm
 |false=>cases h
theorem CU(most:Nat)(ws:List Bs):One ws (bw most ws):=One.SR fun _ _ _ _ h=>tw h
theorem uw(ws:List Bs):One ws (jj ws):=One.SR fun _ _ _ _ h=>tw h
theorem ux(ws:List Bs):One ws (dV ws):=One.SR fun _ _ _ _ h=>tw h
theorem iA{ws:List Bs}{i:Nat}{s:Bs}:(dL ws i s=.ok true (i+1)∧i+1≤ws.length)∨dL ws i s=.ok false i:=by
 unfold dL
 split
 ·rename_i h
  have:=(List.getElem?_eq_some_iff.1 h).1
  exact .inl ⟨rfl,this⟩
 ·exact .inr rfl
theorem Gi(ws:List Bs):One ws (eB ws):=by
 intro i a j h
 unfold eB at h
 rcases iA (ws:=ws) (i:=i) (s:=pj)with⟨h1,h2⟩ | h1
 ·simp only[h1,Out.bind]at h
  injection h with _ h
  omega
 ·simp only[h1,Out.bind]at h
  rcases iA (ws:=ws) (i:=i) (s:=qu)with⟨h3,h4⟩ | h3
  ·simp only[h3]at h
   injection h with _ h
   omega
  ·simp only[h3]at h
   exact CU 255 ws i a j h
theorem One.map{α β:Type}{ws:List Bs}{r:Nat→Out α}{f:α→β}(h:One ws r):One ws (fun i=>(r i).bind fun a j=>.ok (f a) j):=by
 intro i b j hj
 cases hr:r i with
 |ok x k=>
  simp only[hr,Out.bind]at hj
  injection hj with _ hj
  rw[←hj]
  exact h i x k hr
 |no c p=>simp only[hr,Out.bind]at hj;cases hj
theorem Gh(k:Nat)(m:Mt)(ws:List Bs):One ws (bu k m ws):=by
 unfold bu
 split
 ·exact(uw ws).map
 ·exact(ux ws).map
 ·exact(ux ws).map
 ·exact(Gi ws).map
 ·exact(uw ws).map
 ·exact(uw ws).map
theorem xE{ws:List Bs}{i:Nat}{m m':Mt}{j:Nat}(h:bn ws i m=.ok (true,m') j):j=i+2∧j≤ws.length:=by
 unfold bn at h
 split at h
 ·cases h
 ·rename_i x hx
  split at h
  ·cases h
  ·rename_i k hk
   split at h
   ·cases h
   ·cases hr:bu k { m with asks:=m.asks|||2^k } ws (i+1)with
    |ok a l=>
     simp only[hr,Out.bind]at h
     injection h with h1 h2
     have:=Gh _ _ _ _ _ _ hr
     omega
    |no c p=>simp only[hr,Out.bind]at h;cases h
theorem sg(ws:List Bs):∀(f f' i:Nat) (m:Mt),ws.length+1 - i≤f→ws.length+1 - i≤f'→i≤ws.length→eO ws f i m=eO ws f' i m
 | 0,_,i,m,h,_,hi=>by omega
 |_+1,0,i,m,_,h,hi=>by omega
 |f+1,f'+1,i,m,h1,h2,hi=>by
  unfold eO
  cases hr:bn ws i m with
  |no c p=>rfl
  |ok r j=>
   obtain⟨b,m'⟩:=r
   cases b with
   |false=>rfl
   |true=>
    simp only[Out.bind]
    have:=xE hr
    exact sg ws f f' j m' (by omega) (by omega) this.2
end Go.Proofs.YtnncigmpcdehnaaGreatDoor
