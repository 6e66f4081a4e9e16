import Derived.Test.YtnncigmpcdehnaaGreatDoorQd15
namespace Go.Proofs.YtnncigmpcdehnaaGreatDoor
set_option maxRecDepth 100000
open Go.RowKit Go.Lib Go.Sort
def rm(s:Bs):Nat:=match Lib.parseUint10 0 s with
 |.ok u=>u
 |.range=>18446744073709551615
 |_=>0
def si(s:Bs):Bool:=match s with
 | []=>false
 |_=>match Lib.parseUint10 0 s with
  |.ok _=>true
  |_=>false
theorem uG:∀(l:List UInt8) (acc u:Nat),Lib.parseUint10 acc l=.ok u→l.foldl (fun a c=>10*a+ru c) acc=u
 | [],acc,u,h=>by
  unfold Lib.parseUint10 at h
  injection h
 |c::l,acc,u,h=>by
  unfold Lib.parseUint10 at h
  split at h
  ·rename_i hc
   split at h
   ·cases h
   ·split at h
    ·cases h
    ·rw[List.foldl_cons]
     have hd:ru c=c.toNat - 48:=by unfold ru; rw[if_pos (by omega)]
     rw[hd,show 10*acc+(c.toNat - 48)=acc*10+(c.toNat - 48)by omega]
     exact uG l _ u h
  ·cases h
theorem sh{s:Bs}(h:si s=true):gh s=rm s∧gh s < 18446744073709551616:=by
 unfold si at h
 split at h
 ·cases h
 ·split at h
  ·rename_i u hu
   have:=uG _ _ _ hu
   refine⟨?_,?_⟩
   ·unfold gh rm;rw[this,hu]
   ·unfold gh;rw[this];exact Lib.parseUint10_lt _ 0 u (by omega) hu
  ·cases h
theorem sF{most:Nat}(hm:most < 18446744073709551616){s:Bs}(h:cD most s=true):si s=true:=by
 unfold cD at h
 rw[Bool.and_eq_true,decide_eq_true_iff,decide_eq_true_iff]at h
 have hp:=yg (gh s) (by omega)
 rw[h.2]at hp
 unfold si
 split
 ·rename_i h1
  exact absurd h.2 (lh _)
 ·rw[hp]
theorem ym{most:Nat}{s:Bs}(h:si s=true):cD most s=(decide (rm s≤most)&&(ak 10 (rm s)==s)):=by
 unfold cD
 rw[(sh h).1]
 congr 1
 by_cases h2:ak 10 (rm s)=s<;>simp[h2]
theorem Gs{most:Nat}(hm:most < 18446744073709551616){s:Bs}(h:si s=false):cD most s=false:=by
 cases hn:cD most s with
 |false=>rfl
 |true=>rw[sF hm hn]at h;cases h
theorem Mm(s:Bs):rm s < 18446744073709551616:=by
 unfold rm
 split
 ·rename_i u hu;exact Lib.parseUint10_lt _ 0 u (by omega) hu
 ·omega
 ·omega
def IK(t:ByteArray)(w:World)(e:Ending)(w':World):Prop:=
 ∃er:Value,e=.returned (.tuple #[.int .u64 (rm t.data.toList:Nat),er])∧ag [] w w'∧((si t.data.toList=true∧er=.nilIface)∨(si t.data.toList=false∧(er=.iface 270 (.int .i64 2)∨er=.iface 270 (.int .i64 1))))
theorem NX(t:ByteArray)(hmax:t.size≤281474976710656)(w:World):Calls Tryz.prog 163 #[.string t,.int .i64 10,.int .i64 64] w (IK t w):=by
 by_cases h0:t.size=0
 ·have ht:t=⟨#[]⟩:=by
   obtain⟨⟨l⟩⟩:=t
   cases l with
   |nil=>rfl
   |cons _ _=>simp[ByteArray.size]at h0
  subst ht
  refine(Tryz.internal_strconv_ParseUint_empty 10 64 w).mono ?_
  rintro e w' ⟨rfl,rfl⟩
  exact⟨_,rfl,ag.refl _ _,.inr ⟨rfl,.inl rfl⟩⟩
 ·refine(Tryz.internal_strconv_ParseUint_10_b64 t h0 (by omega) w).mono ?_
  rintro e w' ⟨rfl,rfl⟩
  have hC:=qj w t
  have hne:∃c l,t.data.toList=c::l:=by
   obtain⟨⟨l⟩⟩:=t
   cases l with
   |nil=>simp[ByteArray.size]at h0
   |cons c l=>exact⟨c,l,rfl⟩
  obtain⟨c,l,hcl⟩:=hne
  unfold IK rm si
  rw[hcl]
  rcases h:Lib.parseUint10 0 (c::l)with u|_|_
  ·exact⟨.nilIface,rfl,hC,.inl ⟨rfl,rfl⟩⟩
  ·exact⟨_,rfl,hC,.inr ⟨rfl,.inl rfl⟩⟩
  ·exact⟨_,rfl,hC,.inr ⟨rfl,.inr rfl⟩⟩
def Nk(t:ByteArray)(w:World)(e:Ending)(w':World):Prop:=
 ∃(v:Nat) (er:Value),e=.returned (.tuple #[.int .u64 v,er])∧v=rm t.data.toList∧ag [] w w'∧((si t.data.toList=true∧er=.nilIface)∨(si t.data.toList=false∧∃N,er=.iface 272 (.pointer (some ⟨N,0,none⟩))))
set_option maxHeartbeats 4000000 in
theorem NY(t:ByteArray)(hmax:t.size≤281474976710656)(w:World)(hl:dJ w):Calls Tryz.prog 106 #[.string t,.int .i64 10,.int .i64 64] w (Nk t w):=by
 have HP:=hid (NX t hmax w)
 have HX:=hid hmax
 clear hmax
 go_enter Tryz.func106,Tryz.ntmps106
 go_wp2_with (go_at_call 163;refine HP.out.mono ?_)
 rintro e w2 ⟨er,rfl,C2,he⟩
 obtain⟨v,hv⟩:∃v,v=rm t.data.toList:=⟨_,rfl⟩
 rw[←hv]
 have HV:=hid hv
 have HL:=hid (hl.cS C2)
 clear HP hv
 rcases he with⟨hk,rfl⟩ | ⟨hk,rfl|rfl⟩
 ·have HK:=hid hk
  clear hk
  go_wp2
  go_ret2
  exact⟨v,.nilIface,rfl,HV.out,C2,.inl ⟨HK.out,rfl⟩⟩
 ·have HK:=hid hk
  clear hk
  obtain⟨ev,hev,hk⟩:=HL.out.e1
  have HE:=hid hev
  have HI:=hid hk
  clear hev hk
  go_wp2_with (go_at_call 164;refine(Tryz.strconv_toError_syntax _ _ _ _ ev _ HX.out HE.out HI.out).mono ?_;rintro e w3 ⟨N,rfl,hN,hN2,B3⟩)
  go_ret2
  exact⟨v,_,rfl,HV.out,C2.trans (ag.dv B3),.inr ⟨HK.out,N,rfl⟩⟩
 ·have HK:=hid hk
  clear hk
  obtain⟨ev,hev,hk⟩:=HL.out.e2
  have HE:=hid hev
  have HI:=hid hk
  clear hev hk
  go_wp2_with (go_at_call 164;refine(Tryz.strconv_toError_range _ _ _ _ ev _ HX.out HE.out HI.out).mono ?_;rintro e w3 ⟨N,rfl,hN,hN2,B3⟩)
  go_ret2
  exact⟨v,_,rfl,HV.out,C2.trans (ag.dv B3),.inr ⟨HK.out,N,rfl⟩⟩
set_option maxHeartbeats 4000000 in
theorem AO(most:Nat)(hm:most < 18446744073709551616)(s:Bs)(hmax:s.length≤281474976710656)(w:World)(hl:dJ w):Calls Tryz.prog 232 #[.string ⟨s.toArray⟩,.int .u64 most] w fun e w'=>∃(v:Nat) (ok:Bool),e=.returned (.tuple #[.int .u64 v,.bool ok])∧v=rm s∧ok=cD most s∧ag [] w w':=by
 obtain⟨t,ht⟩:∃t:ByteArray,t=⟨s.toArray⟩:=⟨_,rfl⟩
 have hts:t.data.toList=s:=by rw[ht]
 rw[←ht]
 have HP:=hid (NY t (by rw[ht];exact hmax) w hl)
 have HF:=hid (fun(n:Nat) (hn:n < 18446744073709551616) (W:World) (hW:dJ W)=>CS n hn W hW)
 have HM:=hid hm
 have HT:=hid hts
 have HL0:=hid hl
 clear hmax hm hts ht hl
 go_enter Tryz.func232,Tryz.ntmps232
 go_wp2_with (go_at_call 106;refine HP.out.mono ?_)
 rintro e w2 ⟨v,er,rfl,hv,C2,he⟩
 rw[HT.out]at he hv
 have HV:=hid hv
 have HL:=hid (HL0.out.cS C2)
 clear HP hv
 rcases he with⟨hk,rfl⟩ | ⟨hk,N,rfl⟩
 ·have HK:=hid hk
  clear hk
  by_cases hle:v≤most
  ·have HF2:=hid (HF.out v (by rw[HV.out];exact Mm s) w2 HL.out)
   have HLE:=hid hle
   have hle':decide ((v:Int)≤(most:Int))=true:=decide_eq_true (by omega)
   clear hle
   go_wp2_with (go_at_call 73;refine HF2.out.mono ?_;rintro e w3 ⟨rfl,C3⟩)
   go_ret2
   refine⟨v,_,rfl,HV.out,?_,C2.trans C3⟩
   rw[ym HK.out,←HV.out,decide_eq_true HLE.out,Bool.true_and,←HT.out,ByteArray.toList_eq]
  ·have hle':decide ((v:Int)≤(most:Int))=false:=decide_eq_false (by omega)
   have HLE:=hid hle
   clear hle
   go_wp2
   go_ret2
   refine⟨v,false,rfl,HV.out,?_,C2⟩
   rw[ym HK.out,←HV.out,decide_eq_false HLE.out,Bool.false_and]
 ·have HK:=hid hk
  clear hk
  go_wp2
  go_ret2
  exact⟨v,false,rfl,HV.out,(Gs HM.out HK.out).symm,C2⟩
theorem n9(most:Nat)(hm:most < 18446744073709551616)(s:Bs)(hmax:s.length≤281474976710656)(w:World)(hl:dJ w):Calls Tryz.prog 232 #[.string ⟨s.toArray⟩,.int .u64 most] w fun e w'=>e=.returned (.tuple #[.int .u64 (rm s:Nat),.bool (cD most s)])∧ag [] w w':=
 (AO most hm s hmax w hl).mono fun _ _ ⟨_,_,he,hv,ho,hc⟩=>⟨by rw[he,hv,ho],hc⟩
set_option maxRecDepth 100000
open Go.RowKit Go.Lib Go.Sort
set_option maxHeartbeats 4000000 in
theorem od(l:List UInt8)(w:World):Calls Tryz.prog 33 #[.string ⟨l.toArray⟩] w fun e w'=>e=.returned (.bool (aE l))∧ag [] w w':=by
 obtain⟨s,hs⟩:∃s:ByteArray,s=⟨l.toArray⟩:=⟨_,rfl⟩
 have hsz:s.size=l.length:=by rw[hs];rfl
 have HS:=hid hs
 rw[←hs]
 clear hs
 have HZ:=hid hsz
 clear hsz
 go_enter Tryz.func33,Tryz.ntmps33
 by_cases h0:s.size=0
 ·have hn:Value.bool false=.bool (aE l):=by have:=HZ.out;unfold aE;rw[decide_eq_false (by omega)];rfl
  have HN:=hid hn
  clear hn
  go_wp2
  go_ret
  exact⟨congrArg _ HN.out,ag.refl _ _⟩
 by_cases h16:16 < s.size
 ·have hn:Value.bool false=.bool (aE l):=by have:=HZ.out;unfold aE;rw[decide_eq_false (show ¬l.length≤16 by omega)];simp
  have HN:=hid hn
  clear hn
  go_wp2
  go_ret
  exact⟨congrArg _ HN.out,ag.refl _ _⟩
 have b0:((s.size:Int)==0)=false:=by rw[beq_eq_false_iff_ne];omega
 have b16:¬((16:Int) < (s.size:Int)):=by omega
 go_wp2
 go_loopw [3] (fun _ wr=>∃pos:Nat,wr.heap[w.heap.size]?=some (.stringIter s pos)∧Below w.heap.size w wr∧∀i c,i < pos→l[i]?=some c→Cv i c=true) (fun _ wr=>s.size - wr.iterPos w.heap.size)
 case atStart=>
  refine⟨0,?_,((Below.refl _ w).alloc (Nat.le_refl _) _),fun i c h=>absurd h (Nat.not_lt_zero _)⟩
  have:=World.iter_heap w s 0
  simpa using this
 case round=>
  obtain⟨pos,hit,hbw,hok⟩:=hrel
  have HOK:=hid hok
  clear hok
  by_cases hp:pos < s.size
  ·have hnx:∀ty,(Instr.next (.pointer (some ⟨w.heap.size,0,none⟩)) true ty).run Tryz.prog wr=_:=fun ty=>Lib.run_next_any_at wr w.heap.size s pos ty hit hp
   have hr:=Jv s pos hp
   have hg:l[pos]?=some (s[pos]'hp):=by
    have:=HS.out;subst this
    exact List.getElem?_eq_getElem (show pos < l.length from hp)
   have hit2:=Lib.iterAt_heap wr w.heap.size s pos (pos+(Utf8.decode s pos).2) hit
   have hbw2:=Lib.below_iterAt hbw (k:=w.heap.size) (by omega) s (pos+(Utf8.decode s pos).2)
   rcases hr with⟨hlo,hd⟩ | ⟨hhi,hd⟩
   ·rw[hd]at hnx hit2 hbw2
    generalize (s[pos]'hp)=c at*
    obtain⟨x,hx⟩:∃x:Int,x=(c.toNat:Int):=⟨_,rfl⟩
    rw[show((c.toNat:Nat):Int)=x from hx.symm]at hnx
    have x0:0≤x:=by omega
    have HX:=hid hx
    have HG:=hid hg
    have HL2:=hid (show x < 128 by omega)
    clear hx hg hlo hd
    have hup:Cv pos c=true→∀i c',i < pos+1→l[i]?=some c'→Cv i c'=true:=fun hc i c' hi h=>by
     by_cases he:i=pos
     ·subst he
      rw[HG.out]at h
      injection h with h
      rw[←h];exact hc
     ·exact HOK.out i c' (by omega) h
    have HUP:=hid hup
    clear hup
    by_cases hlet:97≤x∧x≤122
    ·obtain⟨ha,hb⟩:=hlet
     go_wp2
     go_roundw
     case rel=>exact⟨pos+1,hit2,hbw2,HUP.out (J4 HX.out ha hb)⟩
     case measure=>
      simp only[World.iterPos,hit2,hit]
      omega
    ·by_cases hpos:pos=0
     ·have hp0:¬((0:Int) < (pos:Int)):=by omega
      rcases(show x < 97∨(97≤x∧122 < x)by omega)with h97|⟨h97,h122⟩
      ·skip
       have h1:¬(97≤x):=by omega
       have hn:Value.bool false=.bool (aE l):=by rw[j8 HG.out (uN HX.out (by omega) (by omega))]
       have HN:=hid hn
       clear hn
       go_wp2
       go_ret
       exact⟨congrArg _ HN.out,by simpa[hpos]using ag.dv hbw2⟩
      ·skip
       have h1:¬(x≤122):=by omega
       have hn:Value.bool false=.bool (aE l):=by rw[j8 HG.out (uN HX.out (by omega) (by omega))]
       have HN:=hid hn
       clear hn
       go_wp2
       go_ret
       exact⟨congrArg _ HN.out,by simpa[hpos]using ag.dv hbw2⟩
     ·have hp0:(0:Int) < (pos:Int):=by omega
      rcases(show(97≤x∧122 < x)∨(x < 97∧48≤x∧x≤57)∨(x < 97∧x < 48∧x=45)∨(x < 97∧x < 48∧x≠45)∨(x < 97∧48≤x∧57 < x∧x=95)∨(x < 97∧48≤x∧57 < x∧x≠95)by omega)with⟨h97,h122⟩ | ⟨h97,h48,h57⟩ | ⟨h97,h48,hx⟩ | ⟨h97,h48,hx⟩ | ⟨h97,h48,h57,hx⟩ | ⟨h97,h48,h57,hx⟩
      ·skip
       have h1:¬(x≤122):=by omega
       have h48:48≤x:=by omega
       have h2:¬(x≤57):=by omega
       have e45:(x==45)=false:=by rw[beq_eq_false_iff_ne];omega
       have e95:(x==95)=false:=by rw[beq_eq_false_iff_ne];omega
       have hn:Value.bool false=.bool (aE l):=by rw[j8 HG.out (uN HX.out (by omega) (by omega))]
       have HN:=hid hn
       clear hn
       go_wp2
       go_ret
       exact⟨congrArg _ HN.out,ag.dv hbw2⟩
      ·skip
       go_wp2
       go_roundw
       case rel=>exact⟨pos+1,hit2,hbw2,HUP.out (vX HX.out (by omega) (by omega))⟩
       case measure=>
        simp only[World.iterPos,hit2,hit]
        omega
      ·skip
       have h1:¬(48≤x):=by omega
       have e45:(x==45)=true:=by rw[beq_iff_eq];omega
       go_wp2
       go_roundw
       case rel=>exact⟨pos+1,hit2,hbw2,HUP.out (vX HX.out (by omega) (by omega))⟩
       case measure=>
        simp only[World.iterPos,hit2,hit]
        omega
      ·skip
       have h1:¬(48≤x):=by omega
       have e45:(x==45)=false:=by rw[beq_eq_false_iff_ne];omega
       have e95:(x==95)=false:=by rw[beq_eq_false_iff_ne];omega
       have hn:Value.bool false=.bool (aE l):=by rw[j8 HG.out (uN HX.out (by omega) (by omega))]
       have HN:=hid hn
       clear hn
       go_wp2
       go_ret
       exact⟨congrArg _ HN.out,ag.dv hbw2⟩
      ·skip
       have h1:¬(x≤57):=by omega
       have e45:(x==45)=false:=by rw[beq_eq_false_iff_ne];omega
       have e95:(x==95)=true:=by rw[beq_iff_eq];omega
       go_wp2
       go_roundw
       case rel=>exact⟨pos+1,hit2,hbw2,HUP.out (vX HX.out (by omega) (by omega))⟩
       case measure=>
        simp only[World.iterPos,hit2,hit]
        omega
      ·skip
       have h1:¬(x≤57):=by omega
       have e45:(x==45)=false:=by rw[beq_eq_false_iff_ne];omega
       have e95:(x==95)=false:=by rw[beq_eq_false_iff_ne];omega
       have hn:Value.bool false=.bool (aE l):=by rw[j8 HG.out (uN HX.out (by omega) (by omega))]
       have HN:=hid hn
       clear hn
       go_wp2
       go_ret
       exact⟨congrArg _ HN.out,ag.dv hbw2⟩
   ·have HX:=hid (rfl:((s[pos]'hp).toNat:Int)=((s[pos]'hp).toNat:Int))
    have hn:Value.bool false=.bool (aE l):=by rw[j8 hg (uN rfl (by omega) (by omega))]
    have HN:=hid hn
    clear hn hg
    obtain⟨x,hx⟩:∃x:Int,x=((Utf8.decode s pos).1:Int):=⟨_,rfl⟩
    rw[←hx]at hnx
    have hx128:128≤x:=by omega
    have h97:97≤x:=by omega
    have h122:122 < x:=by omega
    have h48:48≤x:=by omega
    have h57:57 < x:=by omega
    have e45:(x==45)=false:=by rw[beq_eq_false_iff_ne];omega
    have e95:(x==95)=false:=by rw[beq_eq_false_iff_ne];omega
    clear hhi hd hx
    by_cases hpos:pos=0
    ·have hp0:¬((0:Int) < (pos:Int)):=by omega
     go_wp2
     go_ret
     exact⟨congrArg _ HN.out,by simpa[hpos]using ag.dv hbw2⟩
    ·have hp0:(0:Int) < (pos:Int):=by omega
     go_wp2
     go_ret
     exact⟨congrArg _ HN.out,ag.dv hbw2⟩
  ·have hnx:∀ty,(Instr.next (.pointer (some ⟨w.heap.size,0,none⟩)) true ty).run Tryz.prog wr=_:=fun ty=>Lib.run_next_end_at wr w.heap.size s pos ty hit hp
   have hn:Value.bool true=.bool (aE l):=by
    rw[DV (by have:=HZ.out;omega) (by have:=HZ.out;omega) (fun i c h=>HOK.out i c (by have:=(List.getElem?_eq_some_iff.1 h).1;have:=HZ.out;omega) h)]
   have HN:=hid hn
   clear hn
   go_wp2
   go_ret
   exact⟨congrArg _ HN.out,ag.dv hbw⟩
end Go.Proofs.YtnncigmpcdehnaaGreatDoor
