import Derived.Test.YtnncigmpcdehnaaGreatDoorQh06
open List renaming getElem?_eq_some_iff→Xy,not_mem_nil→XC,mem_cons→XF,mem_singleton→XN
open And renaming intro→Xz
open Go.Value renaming bool→XA,int→XG,pointer→XR
open Nat renaming eq_of_beq_eq_true→XB,beq→XD,le_refl→XJ,ble→XM
open Bool renaming and_eq_true→XE
open Go.IntKind renaming u16→XH,u8→XL,signed→XO,wrap→XP,bits→XQ
open Eq renaming mp→XI
namespace Go.Proofs.YtnncigmpcdehnaaGreatDoor
set_option maxRecDepth 100000
open Go.RowKit Go.Lib Go.Sort _root_.Go.Proofs.Tryz
set_option maxHeartbeats 4000000 in
theorem tN(l:List UInt8)(w:World):Calls prog 33 #[.string ⟨l.toArray⟩] w fun e w'=>e=.returned (.bool (aK l))∧ai [] w w':=by
 obtain⟨s,hs⟩:∃s:ByteArray,s=⟨l.toArray⟩:=⟨_,rfl⟩;have hsz:s.size=l.length:=by rw[hs];rfl
 have HS:=hid hs;rw[←hs];clear hs;have HZ:=hid hsz;clear hsz;go_enter func33,ntmps33
 by_cases h0:s.size=0
 ·have hn:XA false=.bool (aK l):=by have:=HZ.out;unfold aK;rw[decide_eq_false (by omega)];rfl
  have HN:=hid hn;clear hn;go_wp2
  go_ret
  exact⟨congrArg _ HN.out,ai.refl _ _⟩
 by_cases h16:16 < s.size
 ·have hn:XA false=.bool (aK l):=by have:=HZ.out;unfold aK;rw[decide_eq_false (show ¬l.length≤16 by omega)];simp
  have HN:=hid hn;clear hn;go_wp2
  go_ret
  exact⟨congrArg _ HN.out,ai.refl _ _⟩
 have b0:((s.size:Int)==0)=false:=by rw[beq_eq_false_iff_ne];omega
 have b16:¬((16:Int) < (s.size:Int)):=by omega
 go_wp2
 go_loopw [3] (fun _ wr=>∃pos:Nat,wr.heap[w.heap.size]?=some (.stringIter s pos)∧Below w.heap.size w wr∧∀i c,i < pos→l[i]?=some c→vo i c=true) (fun _ wr=>s.size - wr.iterPos w.heap.size)
 case atStart=>refine⟨0,?_,((Below.refl _ w).alloc (XJ _) _),fun i c h=>absurd h (Nat.not_lt_zero _)⟩;have:=World.iter_heap w s 0;simpa using this
 case round=>
  obtain⟨pos,hit,hbw,hok⟩:=hrel;have HOK:=hid hok;clear hok;by_cases hp:pos < s.size
  ·have hnx:∀ty,(Instr.next (.pointer (some ⟨w.heap.size,0,none⟩)) true ty).run prog wr=_:=fun ty=>Lib.run_next_any_at wr w.heap.size s pos ty hit hp
   have hr:=Pw s pos hp;have hg:l[pos]?=some (s[pos]'hp):=by have:=HS.out;subst this;exact List.getElem?_eq_getElem (show pos < l.length from hp)
   have hit2:=Lib.iterAt_heap wr w.heap.size s pos (pos+(Utf8.decode s pos).2) hit;have hbw2:=Lib.below_iterAt hbw (k:=w.heap.size) (by omega) s (pos+(Utf8.decode s pos).2);rcases hr with⟨hlo,hd⟩ | ⟨hhi,hd⟩
   ·rw[hd]at hnx hit2 hbw2
    generalize (s[pos]'hp)=c at*;obtain⟨x,hx⟩:∃x:Int,x=(c.toNat:Int):=⟨_,rfl⟩;rw[show((c.toNat:Nat):Int)=x from hx.symm]at hnx;have x0:0≤x:=by omega
    have HX:=hid hx;have HG:=hid hg;have HL2:=hid (show x < 128 by omega);clear hx hg hlo hd;have hup:vo pos c=true→∀i c',i < pos+1→l[i]?=some c'→vo i c'=true:=fun hc i c' hi h=>by
     by_cases he:i=pos
     ·subst he
      rw[HG.out]at h;injection h with h;rw[←h];exact hc
     ·exact HOK.out i c' (by omega) h
    have HUP:=hid hup;clear hup;by_cases hlet:97≤x∧x≤122
    ·obtain⟨ha,hb⟩:=hlet
     go_wp2
     go_roundw
     case rel=>exact⟨pos+1,hit2,hbw2,HUP.out (Qo HX.out ha hb)⟩
     case measure=>simp only[World.iterPos,hit2,hit];omega
    ·by_cases hpos:pos=0
     ·have hp0:¬((0:Int) < (pos:Int)):=by omega
      rcases(show x < 97∨(97≤x∧122 < x)by omega)with h97|⟨h97,h122⟩
      ·skip
       have h1:¬(97≤x):=by omega
       have hn:XA false=.bool (aK l):=by rw[kT HG.out (zF HX.out (by omega) (by omega))]
       have HN:=hid hn;clear hn;go_wp2
       go_ret
       exact⟨congrArg _ HN.out,by simpa[hpos]using ai.dZ hbw2⟩
      ·skip
       have h1:¬(x≤122):=by omega
       have hn:XA false=.bool (aK l):=by rw[kT HG.out (zF HX.out (by omega) (by omega))]
       have HN:=hid hn;clear hn;go_wp2
       go_ret
       exact⟨congrArg _ HN.out,by simpa[hpos]using ai.dZ hbw2⟩
     ·have hp0:(0:Int) < (pos:Int):=by omega
      rcases(show(97≤x∧122 < x)∨(x < 97∧48≤x∧x≤57)∨(x < 97∧x < 48∧x=45)∨(x < 97∧x < 48∧x≠45)∨(x < 97∧48≤x∧57 < x∧x=95)∨(x < 97∧48≤x∧57 < x∧x≠95)by omega)with⟨h97,h122⟩ | ⟨h97,h48,h57⟩ | ⟨h97,h48,hx⟩ | ⟨h97,h48,hx⟩ | ⟨h97,h48,h57,hx⟩ | ⟨h97,h48,h57,hx⟩
      ·skip
       have h1:¬(x≤122):=by omega
       have h48:48≤x:=by omega
       have h2:¬(x≤57):=by omega
       have e45:(x==45)=false:=by rw[beq_eq_false_iff_ne];omega
       have e95:(x==95)=false:=by rw[beq_eq_false_iff_ne];omega
       have hn:XA false=.bool (aK l):=by rw[kT HG.out (zF HX.out (by omega) (by omega))]
       have HN:=hid hn;clear hn;go_wp2
       go_ret
       exact⟨congrArg _ HN.out,ai.dZ hbw2⟩
      ·skip
       go_wp2
       go_roundw
       case rel=>exact⟨pos+1,hit2,hbw2,HUP.out (AY HX.out (by omega) (by omega))⟩
       case measure=>simp only[World.iterPos,hit2,hit];omega
      ·skip
       have h1:¬(48≤x):=by omega
       have e45:(x==45)=true:=by rw[beq_iff_eq];omega
       go_wp2
       go_roundw
       case rel=>exact⟨pos+1,hit2,hbw2,HUP.out (AY HX.out (by omega) (by omega))⟩
       case measure=>simp only[World.iterPos,hit2,hit];omega
      ·skip
       have h1:¬(48≤x):=by omega
       have e45:(x==45)=false:=by rw[beq_eq_false_iff_ne];omega
       have e95:(x==95)=false:=by rw[beq_eq_false_iff_ne];omega
       have hn:XA false=.bool (aK l):=by rw[kT HG.out (zF HX.out (by omega) (by omega))]
       have HN:=hid hn;clear hn;go_wp2
       go_ret
       exact⟨congrArg _ HN.out,ai.dZ hbw2⟩
      ·skip
       have h1:¬(x≤57):=by omega
       have e45:(x==45)=false:=by rw[beq_eq_false_iff_ne];omega
       have e95:(x==95)=true:=by rw[beq_iff_eq];omega
       go_wp2
       go_roundw
       case rel=>exact⟨pos+1,hit2,hbw2,HUP.out (AY HX.out (by omega) (by omega))⟩
       case measure=>simp only[World.iterPos,hit2,hit];omega
      ·skip
       have h1:¬(x≤57):=by omega
       have e45:(x==45)=false:=by rw[beq_eq_false_iff_ne];omega
       have e95:(x==95)=false:=by rw[beq_eq_false_iff_ne];omega
       have hn:XA false=.bool (aK l):=by rw[kT HG.out (zF HX.out (by omega) (by omega))]
       have HN:=hid hn;clear hn;go_wp2
       go_ret
       exact⟨congrArg _ HN.out,ai.dZ hbw2⟩
   ·have HX:=hid (rfl:((s[pos]'hp).toNat:Int)=((s[pos]'hp).toNat:Int))
    have hn:XA false=.bool (aK l):=by rw[kT hg (zF rfl (by omega) (by omega))]
    have HN:=hid hn;clear hn hg;obtain⟨x,hx⟩:∃x:Int,x=((Utf8.decode s pos).1:Int):=⟨_,rfl⟩;rw[←hx]at hnx;have hx128:128≤x:=by omega
    have h97:97≤x:=by omega
    have h122:122 < x:=by omega
    have h48:48≤x:=by omega
    have h57:57 < x:=by omega
    have e45:(x==45)=false:=by rw[beq_eq_false_iff_ne];omega
    have e95:(x==95)=false:=by rw[beq_eq_false_iff_ne];omega
    clear hhi hd hx;by_cases hpos:pos=0
    ·have hp0:¬((0:Int) < (pos:Int)):=by omega
     go_wp2
     go_ret
     exact⟨congrArg _ HN.out,by simpa[hpos]using ai.dZ hbw2⟩
    ·have hp0:(0:Int) < (pos:Int):=by omega
     go_wp2
     go_ret
     exact⟨congrArg _ HN.out,ai.dZ hbw2⟩
  ·have hnx:∀ty,(Instr.next (.pointer (some ⟨w.heap.size,0,none⟩)) true ty).run prog wr=_:=fun ty=>Lib.run_next_end_at wr w.heap.size s pos ty hit hp
   have hn:XA true=.bool (aK l):=by rw[zG (by have:=HZ.out;omega) (by have:=HZ.out;omega) (fun i c h=>HOK.out i c (by have:=(Xy.1 h).1;have:=HZ.out;omega) h)]
   have HN:=hid hn;clear hn;go_wp2
   go_ret
   exact⟨congrArg _ HN.out,ai.dZ hbw⟩
set_option maxRecDepth 100000
open Go.RowKit Go.Lib Go.Sort _root_.Go.Proofs.Tryz
def kg(n:Nat):Value:=.int .u64 (n:Int)
theorem mT(most:Nat)(hm:most < 18446744073709551616){w:World}{g:Nat}{A:Option Go.Addr}{n c i:Nat}{ws:List Bs}(h:eY w g A n c i ws):Calls prog 189 #[(pt g 0),.int .u64 (most:Int)] w (cj g A n c kg (bE most ws i) w):=by
 have e1:bE most ws i=(aV ws i).bind fun x j=>aY (aS most x) 200 (cZ x) j:=rfl;have n1:=fun W (hL:eY W g A n c i ws)=>pg hL;have hx:(aV ws i).val.length≤100000000:=w9 h.sz;generalize bE most ws i=T at e1 ⊢;generalize aV ws i=r at e1 n1 hx;have c9:=mV [] h h.le (cU e1) n1;have c11f:=fun(_:r.okB=true∧r.pos≤n) W (hW:ai [g] w W)=>rn most hm r.val (by omega) W (h.Dl hW);have c16f:=fun(hp:r.okB=true∧r.pos≤n)=>mV [.bool (aS most r.val),.int .i64 200] h hp.2 (zD (cL e1 hp.1)) (fun W hL=>oD (aS most r.val) 200 (cZ r.val) hL);have z2f:=fun(hp:r.okB=true∧r.pos≤n) (hp2:(aY (aS most r.val) 200 (cZ r.val) r.pos).okB=true∧(aY (aS most r.val) 200 (cZ r.val) r.pos).pos≤n)=>(show EA g A n c kg T (.val (kg (vl r.val))) [(g,154,ee A n c (aY (aS most r.val) 200 (cZ r.val) r.pos).pos)]from by
  have e2:=cL e1 hp.1;cases hk:aS most r.val with
  |false=>rw[hk]at hp2;cases hp2.1
  |true=>rw[hk]at e2;exact⟨_,_,e2,hp.2,by rw[(wL (wX hm hk)).1],rfl⟩)
 refine gx [.int .u64 (most:Int)] h.cw [(9,.aB (iq 0 g A n c r ae)),(11,.call (.tuple #[kg (vl r.val),.bool (aS most r.val)])),(16,.aB (iq 0 g A n c (aY (aS most r.val) 200 (cZ r.val) r.pos) fun _=>.tuple #[]))] [] (by kernel_rfl) func189 rfl (bN rfl) ?_;exact XI (by kernel_rfl) (Xz c9 (fun(hx0:r.okB=true∧r.pos≤n)=>(Sx.t2 (c11f hx0) (c16f hx0) (fun(hx1:(aY (aS most r.val) 200 (cZ r.val) r.pos).okB=true∧(aY (aS most r.val) 200 (cZ r.val) r.pos).pos≤n)=>(z2f hx0 hx1)))))
set_option maxRecDepth 100000
open Go.RowKit Go.Lib Go.Sort _root_.Go.Proofs.Tryz
set_option maxRecDepth 100000
def lx(n:Nat):Value:=.int .i64 (n:Int)
theorem rp{most:Nat}{ws:List Bs}{i v j:Nat}(h:bE most ws i=.ok v j):v≤most:=by
 unfold bE at h;cases hr:aV ws i with
 |no c p=>rw[hr]at h;cases h
 |ok x k=>
  rw[hr]at h;simp only[Out.bind]at h;cases hk:aS most x with
  |false=>rw[hk]at h;cases h
  |true=>rw[hk]at h;injection h with h _;unfold aS at hk;rw[XE,decide_eq_true_iff]at hk;omega
theorem Hc{α:Type} [Inhabited α]{r:Out α}{n:Nat}(h:r.okB=true∧r.pos≤n):r=.ok r.val r.pos:=Out.Hg h.1
theorem xp{w:World}{g:Nat}{A:Option Go.Addr}{n c i:Nat}{ws:List Bs}(h:eY w g A n c i ws):Calls prog 186 #[(pt g 0)] w (cj g A n c lx (ji ws i) w):=by have e1:ji ws i=bE 9223372036854775807 ws i:=rfl;have n1:=fun W (hL:eY W g A n c i ws)=>mT 9223372036854775807 (by omega) hL;have hle:∀v j,bE 9223372036854775807 ws i=.ok v j→v≤9223372036854775807:=fun v j=>rp;generalize ji ws i=T at e1 ⊢;generalize bE 9223372036854775807 ws i=r at e1 n1 hle;have c4:=mV [.int .u64 ((9223372036854775807:Nat):Int)] h h.le (zD e1) n1;have c5f:=fun(hp:r.okB=true∧r.pos≤n)=>(show XG .i64 (IntKind.i64.wrap (r.val:Int))=.int .i64 (r.val:Int)from iw (kC (by omega) (by have:=hle _ _ (Hc hp);omega)));have z1f:=fun(hp:r.okB=true∧r.pos≤n)=>(show EA g A n c lx T (.val (lx r.val)) [(g,154,ee A n c r.pos)]from⟨_,_,by rw[e1];exact Hc hp,hp.2,rfl,rfl⟩);refine gx [] h.cw [(4,.aB (iq 0 g A n c r kg)),(5,.is (lx r.val))] [] (by kernel_rfl) func186 rfl (bN rfl) ?_;exact XI (by kernel_rfl) (Xz c4 (fun(hx0:r.okB=true∧r.pos≤n)=>(Xz (c5f hx0) (z1f hx0))))
theorem sM{w:World}{g:Nat}{A:Option Go.Addr}{n c i:Nat}{ws:List Bs}(h:eY w g A n c i ws):Calls prog 188 #[(pt g 0)] w (cj g A n c ae (fO ws i) w):=by
 have e1:fO ws i=(aV ws i).bind fun x j=>aY (aK x) 201 x j:=rfl;have n1:=fun W (hL:eY W g A n c i ws)=>pg hL;generalize fO ws i=T at e1 ⊢;generalize aV ws i=r at e1 n1;have c5:=mV [] h h.le (cU e1) n1;have c8f:=fun(_:r.okB=true∧r.pos≤n) W (_:ai [g] w W)=>tN r.val W;have c9f:=fun(hp:r.okB=true∧r.pos≤n)=>mV [.bool (aK r.val),.int .i64 201] h hp.2 (zD (cL e1 hp.1)) (fun W hL=>oD (aK r.val) 201 r.val hL);have z2f:=fun(hp:r.okB=true∧r.pos≤n) (hp2:(aY (aK r.val) 201 r.val r.pos).okB=true∧(aY (aK r.val) 201 r.val r.pos).pos≤n)=>(show EA g A n c ae T (.val (ae r.val)) [(g,154,ee A n c (aY (aK r.val) 201 r.val r.pos).pos)]from by
  have e2:=cL e1 hp.1;cases hk:aK r.val with
  |false=>rw[hk]at hp2;cases hp2.1
  |true=>rw[hk]at e2;exact⟨_,_,e2,hp.2,rfl,rfl⟩)
 refine gx [] h.cw [(5,.aB (iq 0 g A n c r ae)),(8,.call (.bool (aK r.val))),(9,.aB (iq 0 g A n c (aY (aK r.val) 201 r.val r.pos) fun _=>.tuple #[]))] [] (by kernel_rfl) func188 rfl (bN rfl) ?_;exact XI (by kernel_rfl) (Xz c5 (fun(hx0:r.okB=true∧r.pos≤n)=>(Sx.t2 (c8f hx0) (c9f hx0) (fun(hx1:(aY (aK r.val) 201 r.val r.pos).okB=true∧(aY (aK r.val) 201 r.val r.pos).pos≤n)=>(z2f hx0 hx1)))))
open Go.RowKit Go.Lib Go.Sort
structure RS where
 at_:Nat
 e:Nat
abbrev RA(α:Type):=RS→α×RS
def bM{α β:Type}(q:RA α)(h:α→RA β):RA β:=fun st=>h (q st).1 (q st).2
def eM{α:Type}(a:α):RA α:=fun st=>(a,st)
def cz(code:Nat)(st:RS):RS:=match XD st.e 0 with
 |true=>⟨st.at_ - 1,code⟩
 |false=>st
def qF{α:Type}(ok:Bool)(code:Nat)(a:α):RA α:=fun st=>(a,match ok with
 |true=>st
 |false=>cz code st)
def ak(ws:List Bs):RA Bs:=fun st=>match XD st.e 0 with
 |true=>match ws[st.at_]? with
  |some x=>(x,⟨st.at_+1,0⟩)
  |none=>([],⟨st.at_,200⟩)
 |false=>([],st)
def lr(ws:List Bs)(s:Bs)(st:RS):Bool:=XD st.e 0&&decide (ws[st.at_]?=some s)
def fz(most:Nat)(s:Bs):Nat:=match aS most s with
 |true=>cZ s
 |false=>0
def bR(most:Nat)(ws:List Bs):RA Nat:=bM (ak ws) fun x=>qF (aS most x) 200 (fz most x)
def j2(ws:List Bs):RA Bs:=bM (ak ws) fun x=>qF (aK x) 201 x
noncomputable def dC(ws:List Bs):RA Px:=bM (ak ws) fun x=>qF (ou x).isSome 151 ((ou x).getD ov)
def eV(ws:List Bs):RA (Nat×Nat):=bM (ak ws) fun x=>qF (aS 65535 (cP x).1&&aS 65535 (cP x).2) 200 (fz 65535 (cP x).1,fz 65535 (cP x).2)
def fI(ws:List Bs):RA Nat:=fun st=>match lr ws kj st with
 |true=>(6,(ak ws st).2)
 |false=>match lr ws kY st with
  |true=>(17,(ak ws st).2)
  |false=>bR 255 ws st
structure im{α:Type}(L:Nat)(r:Nat→Out α)(q:RA α):Prop where
 run:∀i,i≤L→match r i with
  |.ok a j=>q ⟨i,0⟩=(a,⟨j,0⟩)∧j≤L
  |.no c p=>c≠0∧(q ⟨i,0⟩).2=⟨p - 1,c⟩
 stay:∀st:RS,st.e≠0→(q st).2=st
theorem im.bind{α β:Type}{L:Nat}{r:Nat→Out α}{q:RA α}{f:α→Nat→Out β}{h:α→RA β}(H:im L r q)(H2:∀a,im L (f a) (h a)):im L (fun i=>(r i).bind f) (bM q h):=by
 refine⟨fun i hi=>?_,fun st hs=>?_⟩
 ·have h1:=H.run i hi
  cases hr:r i with
  |ok a j=>rw[hr]at h1;have h2:=(H2 a).run j h1.2;simp only[Out.bind];unfold bM;rw[h1.1];exact h2
  |no c p=>rw[hr]at h1;simp only[Out.bind];refine⟨h1.1,?_⟩;unfold bM;rw[(H2 _).stay _ (by rw[h1.2];exact h1.1),h1.2]
 ·unfold bM
  have:=H.stay st hs;rw[(H2 _).stay _ (by rw[this];exact hs),this]
theorem oM{code:Nat}{st:RS}(h:st.e≠0):cz code st=st:=by
 unfold cz;cases hb:XD st.e 0 with
 |true=>exact absurd (XB hb) h
 |false=>rfl
theorem im.NO{α:Type}{L:Nat}{ok:Bool}{code:Nat}{a a':α}(hc:code≠0)(h:ok=true→a'=a):im L (aY ok code a) (qF ok code a'):=by
 refine⟨fun i hi=>?_,fun st hs=>?_⟩
 ·cases ok with
  |true=>exact⟨by simp only[qF,h rfl],hi⟩
  |false=>exact⟨hc,rfl⟩
 ·cases ok with
  |true=>rfl
  |false=>exact oM hs
theorem im.pure{α:Type}{L:Nat}(a:α):im L (fun i=>.ok a i) (eM a):=⟨fun _ hi=>⟨rfl,hi⟩,fun _ _=>rfl⟩
theorem im.congr{α:Type}{L:Nat}{r r':Nat→Out α}{q q':RA α}(h:im L r q)(hr:∀i,r' i=r i)(hq:∀st,q' st=q st):im L r' q':=by have e1:r'=r:=funext hr;have e2:q'=q:=funext hq;rw[e1,e2];exact h
theorem mC(ws:List Bs):im ws.length (aV ws) (ak ws):=by
 refine⟨fun i hi=>?_,fun st hs=>?_⟩
 ·unfold aV ak
  cases h:ws[i]? with
  |some x=>exact⟨by simp,(Xy.1 h).1⟩
  |none=>exact⟨by decide,by simp⟩
 ·unfold ak
  cases hb:XD st.e 0 with
  |true=>exact absurd (XB hb) hs
  |false=>rfl
theorem we{most:Nat}{s:Bs}(h:aS most s=true):fz most s=cZ s:=by unfold fz;rw[h]
theorem e8(most:Nat)(ws:List Bs):im ws.length (bE most ws) (bR most ws):=
 (mC ws).bind fun x=>im.NO (by decide) fun h=>we h
theorem sg(ws:List Bs):im ws.length (fO ws) (j2 ws):=
 (mC ws).bind fun x=>im.NO (by decide) fun _=>rfl
theorem q8(ws:List Bs):im ws.length (dE ws) (dC ws):=
 (mC ws).bind fun x=>im.NO (by decide) fun _=>rfl
theorem vP(ws:List Bs):im ws.length (jD ws) (eV ws):=
 (mC ws).bind fun x=>im.NO (by decide) fun h=>by rw[XE]at h;rw[we h.1,we h.2]
theorem wj{ws:List Bs}{s:Bs}{st:RS}(h:st.e≠0):lr ws s st=false:=by
 unfold lr;cases hb:XD st.e 0 with
 |true=>exact absurd (XB hb) h
 |false=>rfl
theorem im.B7{α:Type}{ws:List Bs}{s:Bs}{f:Bool→Nat→Out α}{h h':RA α}(H:im ws.length (f true) h)(H':im ws.length (f false) h') :
  im ws.length (fun i=>(dm ws i s).bind f) (fun st=>match lr ws s st with|true=>h (ak ws st).2|false=>h' st):=by
 refine⟨fun i hl=>?_,fun st hs=>?_⟩
 ·by_cases hi:ws[i]?=some s
  ·have e1:dm ws i s=.ok true (i+1):=by unfold dm;rw[if_pos hi]
   have e2:lr ws s ⟨i,0⟩=true:=by unfold lr;simp[hi]
   have e3:(ak ws ⟨i,0⟩).2=⟨i+1,0⟩:=by unfold ak;simp[hi]
   rw[e1];simp only[e2,e3,Out.bind];exact H.run _ (Xy.1 hi).1
  ·have e1:dm ws i s=.ok false i:=by unfold dm;rw[if_neg hi]
   have e2:lr ws s ⟨i,0⟩=false:=by unfold lr;simp[hi]
   rw[e1];simp only[e2,Out.bind];exact H'.run _ hl
 ·simp only[wj hs];exact H'.stay st hs
theorem II(ws:List Bs):im ws.length (eJ ws) (fI ws):=by have h3:=im.B7 (ws:=ws) (s:=kY) (f:=fun b k=>match b with|true=>Out.ok 17 k|false=>bE 255 ws k) (im.pure 17) (e8 255 ws);refine(im.B7 (ws:=ws) (s:=kj) (f:=fun a j=>match a with|true=>Out.ok 6 j|false=>(dm ws j kY).bind fun b k=>match b with|true=>.ok 17 k|false=>bE 255 ws k) (im.pure 6) h3).congr (fun _=>rfl) fun st=>?_;unfold fI eM;cases lr ws kj st<;>rfl
noncomputable def ma(k:Nat)(m:Mt)(ws:List Bs):RA Mt:=match k with
 | 0=>bM (eV ws) fun s=>eM { m with fU:=s }
 | 1=>bM (dC ws) fun s=>eM { m with src:=s }
 | 2=>bM (dC ws) fun s=>eM { m with dst:=s }
 | 3=>bM (fI ws) fun s=>eM { m with bw:=s }
 | 4=>bM (eV ws) fun s=>eM { m with sp:=s }
 |_=>bM (eV ws) fun s=>eM { m with dp:=s }
theorem IH(k:Nat)(m:Mt)(ws:List Bs):im ws.length (cF k m ws) (ma k m ws):=by
 rcases k with _|_|_|_|_|k
 ·exact(vP ws).bind fun _=>im.pure _
 ·exact(q8 ws).bind fun _=>im.pure _
 ·exact(q8 ws).bind fun _=>im.pure _
 ·exact(II ws).bind fun _=>im.pure _
 ·exact(vP ws).bind fun _=>im.pure _
 ·exact(vP ws).bind fun _=>im.pure _
def j3(ws:List Bs)(st:RS):Bool:=XD st.e 0&&match ws[st.at_]? with
 |some x=>(mn x).isSome
 |none=>false
noncomputable def aW(ws:List Bs)(m:Mt):RA (Mt×Bool):=fun st=>match mn (ak ws st).1 with
 |none=>((m,false),cz 200 (ak ws st).2)
 |some k=>match m.asks.testBit k with
  |true=>((m,false),cz 200 (ak ws st).2)
  |false=>(((ma k { m with asks:=m.asks|||2^k } ws (ak ws st).2).1,true),(ma k { m with asks:=m.asks|||2^k } ws (ak ws st).2).2)
noncomputable def du(ws:List Bs):Nat→Mt→RA Mt
 | 0,m=>fun st=>(m,st)
 |f+1,m=>fun st=>match(aW ws m st).1.2 with
  |false=>((aW ws m st).1.1,(aW ws m st).2)
  |true=>match j3 ws (aW ws m st).2 with
   |true=>du ws f (aW ws m st).1.1 (aW ws m st).2
   |false=>((aW ws m st).1.1,(aW ws m st).2)
noncomputable def gY(ws:List Bs):RA Mt:=fun st=>match lr ws iO st with
 |true=>(kU,(ak ws st).2)
 |false=>du ws (ws.length+1 - st.at_) kU st
open Go.RowKit Go.Lib Go.Sort
def One{α:Type}(ws:List Bs)(r:Nat→Out α):Prop:=∀i a j,r i=.ok a j→j=i+1∧j≤ws.length
theorem Mu(ws:List Bs):One ws (aV ws):=by
 intro i a j h;unfold aV at h;split at h
 ·rename_i x hx
  injection h with h1 h2;have:=(Xy.1 hx).1;omega
 ·cases h
theorem One.NO{α:Type}{ws:List Bs}{f:Bs→Nat→Out α}(h:∀x j a k,f x j=.ok a k→k=j):One ws (fun i=>(aV ws i).bind f):=by
 intro i a j hj;cases hr:aV ws i with
 |ok x k=>simp only[hr,Out.bind]at hj;have:=Mu ws i x k hr;rw[h x k a j hj];exact this
 |no c p=>simp only[hr,Out.bind]at hj;cases hj
theorem vG{α:Type}{b:Bool}{code:Nat}{a a':α}{i j:Nat}(h:aY b code a i=.ok a' j):j=i:=by
 cases b with
 |true=>injection h with _ h;exact h.symm
 |false=>cases h
theorem Fl(most:Nat)(ws:List Bs):One ws (bE most ws):=One.NO fun _ _ _ _ h=>vG h
theorem wP(ws:List Bs):One ws (jD ws):=One.NO fun _ _ _ _ h=>vG h
theorem wQ(ws:List Bs):One ws (dE ws):=One.NO fun _ _ _ _ h=>vG h
theorem jd{ws:List Bs}{i:Nat}{s:Bs}:(dm ws i s=.ok true (i+1)∧i+1≤ws.length)∨dm ws i s=.ok false i:=by
 unfold dm;split
 ·rename_i h
  have:=(Xy.1 h).1;exact .inl ⟨rfl,this⟩
 ·exact .inr rfl
theorem Jr(ws:List Bs):One ws (eJ ws):=by
 intro i a j h;unfold eJ at h;rcases jd (ws:=ws) (i:=i) (s:=kj)with⟨h1,h2⟩ | h1
 ·simp only[h1,Out.bind]at h
  injection h with _ h;omega
 ·simp only[h1,Out.bind]at h
  rcases jd (ws:=ws) (i:=i) (s:=kY)with⟨h3,h4⟩ | h3
  ·simp only[h3]at h
   injection h with _ h;omega
  ·simp only[h3]at h
   exact Fl 255 ws i a j h
theorem One.map{α β:Type}{ws:List Bs}{r:Nat→Out α}{f:α→β}(h:One ws r):One ws (fun i=>(r i).bind fun a j=>.ok (f a) j):=by
 intro i b j hj;cases hr:r i with
 |ok x k=>simp only[hr,Out.bind]at hj;injection hj with _ hj;rw[←hj];exact h i x k hr
 |no c p=>simp only[hr,Out.bind]at hj;cases hj
theorem Jq(k:Nat)(m:Mt)(ws:List Bs):One ws (cF k m ws):=by
 unfold cF;split
 ·exact(wP ws).map
 ·exact(wQ ws).map
 ·exact(wQ ws).map
 ·exact(Jr ws).map
 ·exact(wP ws).map
 ·exact(wP ws).map
theorem qu{ws:List Bs}{i:Nat}{m m':Mt}{j:Nat}(h:aQ ws i m=.ok (true,m') j):j=i+2∧j≤ws.length:=by
 unfold aQ at h;split at h
 ·cases h
 ·rename_i x hx
  split at h
  ·cases h
  ·rename_i k hk
   split at h
   ·cases h
   ·cases hr:cF k { m with asks:=m.asks|||2^k } ws (i+1)with
    |ok a l=>simp only[hr,Out.bind]at h;injection h with h1 h2;have:=Jq _ _ _ _ _ _ hr;omega
    |no c p=>simp only[hr,Out.bind]at h;cases h
theorem po(ws:List Bs):∀(f f' i:Nat) (m:Mt),ws.length+1 - i≤f→ws.length+1 - i≤f'→i≤ws.length→ec ws f i m=ec ws f' i m
 | 0,_,i,m,h,_,hi=>by omega
 |_+1,0,i,m,_,h,hi=>by omega
 |f+1,f'+1,i,m,h1,h2,hi=>by
  unfold ec;cases hr:aQ ws i m with
  |no c p=>rfl
  |ok r j=>
   obtain⟨b,m'⟩:=r;cases b with
   |false=>rfl
   |true=>simp only[Out.bind];have:=qu hr;exact po ws f f' j m' (by omega) (by omega) this.2
noncomputable def jk(ws:List Bs)(i:Nat)(m:Mt):Out Mt:=(aQ ws i m).bind fun r k=>match r.1 with
 |true=>ec ws (ws.length+1 - k) k r.2
 |false=>(aV ws k).bind fun _ l=>.no 200 l
theorem oP{ws:List Bs}{m:Mt}{st:RS}(h:mn (ak ws st).1=none):aW ws m st=((m,false),cz 200 (ak ws st).2):=by unfold aW;rw[h]
theorem Ia:mn []=none:=by decide
theorem CW{ws:List Bs}{j:Nat}(hj:j≤ws.length)(m:Mt):ec ws (ws.length+1 - j) j m=(match j3 ws ⟨j,0⟩with|true=>jk ws j m|false=>.ok m j):=by
 obtain⟨f,hf⟩:∃f,ws.length+1 - j=f+1:=⟨ws.length - j,by omega⟩;rw[hf];unfold ec jk j3;cases hx:ws[j]? with
 |none=>
  have:aQ ws j m=.ok (false,m) j:=by unfold aQ;rw[hx]
  simp[this,Out.bind]
 |some x=>
  cases hk:mn x with
  |none=>
   have:aQ ws j m=.ok (false,m) j:=by unfold aQ;rw[hx];simp only[hk]
   simp[this,Out.bind,hk]
  |some k=>
   simp only[hk,Option.isSome_some,Nat.beq_refl,Bool.and_true];cases hr:aQ ws j m with
   |no c p=>rfl
   |ok r l=>
    obtain⟨b,m'⟩:=r;cases b with
    |true=>simp only[Out.bind];have:=qu hr;exact po ws _ _ _ _ (by omega) (XJ _) this.2
    |false=>
     exfalso;unfold aQ at hr;rw[hx]at hr;simp only[hk]at hr;split at hr
     ·cases hr
     ·rename_i ht
      cases hr2:cF k { m with asks:=m.asks|||2^k } ws (j+1)with
      |ok a l=>rw[hr2]at hr;simp only[Out.bind]at hr;cases hr
      |no c p=>rw[hr2]at hr;simp only[Out.bind]at hr;cases hr
theorem Fa{ws:List Bs}{st:RS}(h:st.e≠0):j3 ws st=false:=by
 unfold j3;cases hb:XD st.e 0 with
 |true=>exact absurd (XB hb) h
 |false=>rfl
theorem uo(ws:List Bs):∀(f i:Nat) (m:Mt),i≤ws.length→ws.length+1 - i≤f→(match jk ws i m with
  |.ok a j=>du ws f m ⟨i,0⟩=(a,⟨j,0⟩)∧j≤ws.length
  |.no c p=>c≠0∧(du ws f m ⟨i,0⟩).2=⟨p - 1,c⟩)
 | 0,i,m,h,hf=>by omega
 |f+1,i,m,h,hf=>by
  cases hx:ws[i]? with
  |none=>
   have e1:aQ ws i m=.ok (false,m) i:=by unfold aQ;rw[hx]
   have e2:aV ws i=.no 200 (i+1):=by unfold aV;rw[hx]
   have e3:ak ws ⟨i,0⟩=([],⟨i,200⟩):=by unfold ak;simp[hx]
   have e4:jk ws i m=.no 200 (i+1):=by unfold jk;rw[e1];simp only[Out.bind];rw[e2]
   have e5:aW ws m ⟨i,0⟩=((m,false),⟨i,200⟩):=by rw[oP (by rw[e3];exact Ia),e3];rfl
   rw[e4];unfold du;rw[e5];exact⟨by decide,rfl⟩
  |some x=>
   have e3:ak ws ⟨i,0⟩=(x,⟨i+1,0⟩):=by unfold ak;simp[hx]
   cases hk:mn x with
   |none=>
    have e1:aQ ws i m=.ok (false,m) i:=by unfold aQ;rw[hx];simp only[hk]
    have e2:aV ws i=.ok x (i+1):=by unfold aV;rw[hx]
    have e4:jk ws i m=.no 200 (i+1):=by unfold jk;rw[e1];simp only[Out.bind];rw[e2]
    have e5:aW ws m ⟨i,0⟩=((m,false),⟨i,200⟩):=by rw[oP (by rw[e3];exact hk),e3];rfl
    rw[e4];unfold du;rw[e5];exact⟨by decide,rfl⟩
   |some k=>
    cases ht:m.asks.testBit k with
    |true=>
     have e1:aQ ws i m=.no 200 (i+1):=by unfold aQ;rw[hx];simp only[hk,ht]
     have e4:jk ws i m=.no 200 (i+1):=by unfold jk;rw[e1];rfl
     have e5:aW ws m ⟨i,0⟩=((m,false),⟨i,200⟩):=by unfold aW;rw[e3];simp only[hk,ht];rfl
     rw[e4];unfold du;rw[e5];exact⟨by decide,rfl⟩
    |false=>
     have hsim:=(IH k { m with asks:=m.asks|||2^k } ws).run (i+1) (Xy.1 hx).1;have e5:aW ws m ⟨i,0⟩=(((ma k { m with asks:=m.asks|||2^k } ws ⟨i+1,0⟩).1,true),(ma k { m with asks:=m.asks|||2^k } ws ⟨i+1,0⟩).2):=by unfold aW;rw[e3];simp only[hk,ht]
     cases hr:cF k { m with asks:=m.asks|||2^k } ws (i+1)with
     |no c p=>
      rw[hr]at hsim;have e1:aQ ws i m=.no c p:=by unfold aQ;rw[hx];simp only[hk,ht,hr];rfl
      have e4:jk ws i m=.no c p:=by unfold jk;rw[e1];rfl
      rw[e4];unfold du;rw[e5];simp only[Fa (ws:=ws) (st:=(ma k { m with asks:=m.asks|||2^k } ws ⟨i+1,0⟩).2) (by rw[hsim.2];exact hsim.1)];exact hsim
     |ok m' j=>
      rw[hr]at hsim;have e1:aQ ws i m=.ok (true,m') j:=by unfold aQ;rw[hx];simp only[hk,ht,hr];rfl
      have hj:=qu e1;have e4:jk ws i m=ec ws (ws.length+1 - j) j m':=by unfold jk; rw[e1]; rfl
      have hsim:ma k { m with asks:=m.asks|||2^k } ws ⟨i+1,0⟩=(m',⟨j,0⟩):=hsim.1;rw[e4,CW hj.2];unfold du;rw[e5,hsim];cases hm:j3 ws ⟨j,0⟩with
      |true=>exact uo ws f j m' hj.2 (by omega)
      |false=>exact⟨rfl,hj.2⟩
theorem AJ(ws:List Bs):∀(f:Nat) (m:Mt) (st:RS),st.e≠0→(du ws f m st).2=st
 | 0,_,_,_=>rfl
 |f+1,m,st,hs=>by
  have e3:ak ws st=([],st):=by
   unfold ak;cases hb:XD st.e 0 with
   |true=>exact absurd (XB hb) hs
   |false=>rfl
  have e5:aW ws m st=((m,false),st):=by rw[oP (by rw[e3];exact Ia),e3,oM hs]
  unfold du;rw[e5]
theorem Fb(ws:List Bs)(i:Nat)(hi:i≤ws.length):match eO ws i with
  |.ok a j=>gY ws ⟨i,0⟩=(a,⟨j,0⟩)∧j≤ws.length
  |.no c p=>c≠0∧(gY ws ⟨i,0⟩).2=⟨p - 1,c⟩:=by
 unfold eO gY;by_cases hx:ws[i]?=some iO
 ·have e1:dm ws i iO=.ok true (i+1):=by unfold dm;rw[if_pos hx]
  have e2:lr ws iO ⟨i,0⟩=true:=by unfold lr;simp[hx]
  have e3:(ak ws ⟨i,0⟩).2=⟨i+1,0⟩:=by unfold ak;simp[hx]
  rw[e1];simp only[e2,e3,Out.bind];exact⟨trivial,(Xy.1 hx).1⟩
 ·have e1:dm ws i iO=.ok false i:=by unfold dm;rw[if_neg hx]
  have e2:lr ws iO ⟨i,0⟩=false:=by unfold lr;simp[hx]
  rw[e1];simp only[e2,Out.bind];exact uo ws _ i kU hi (XJ _)
theorem Cy(ws:List Bs)(st:RS)(hs:st.e≠0):(gY ws st).2=st:=by unfold gY;rw[wj hs];exact AJ ws _ _ _ hs
theorem IJ(ws:List Bs):im ws.length (eO ws) (gY ws):=
 ⟨fun i hi=>by have:=Fb ws i hi;revert this;cases eO ws i<;>exact id,Cy ws⟩
set_option maxRecDepth 100000
open Go.RowKit Go.Lib Go.Sort _root_.Go.Proofs.Tryz
set_option maxRecDepth 100000
def mr(p:Px):Value:=.agg p.cells.toArray
def Wq(o:Option Px):Int:=match o with
 |some _=>0
 |none=>151
theorem mL{s:Bs}{p:Px}(h:ou s=some p):tb s p.v p.n p.k:=by
 unfold ou at h;split at h
 ·rename_i hx
  injection h with h;rw[←h];exact hx.choose_spec
 ·cases h
theorem wA{s:Bs}(h:ou s=none):∀v n k,¬tb s v n k:=by
 intro v n k hp;unfold ou at h;split at h
 ·cases h
 ·rename_i hx
  exact hx ⟨⟨v,n,k⟩,hp⟩
theorem PS(s:Bs)(hs:s.length≤100000000)(w:World)(HL:eF w):Calls prog 16 #[ae s] w (Rn w (.tuple #[mr ((ou s).getD ov),.int .i64 (Wq (ou s))])):=by
 cases h:ou s with
 |some p=>exact wu (mL h) hs w HL
 |none=>exact PR (wA h) hs w HL
theorem tP{w:World}{g:Nat}{A:Option Go.Addr}{n c i:Nat}{ws:List Bs}(h:eY w g A n c i ws):Calls prog 187 #[(pt g 0)] w (cj g A n c mr (dE ws i) w):=by
 have e1:dE ws i=(aV ws i).bind fun x j=>aY (ou x).isSome 151 ((ou x).getD ov) j:=rfl;have n1:=fun W (hL:eY W g A n c i ws)=>pg hL;have hx:(aV ws i).val.length≤100000000:=w9 h.sz;generalize dE ws i=T at e1 ⊢;generalize aV ws i=r at e1 n1 hx;have hr8:=fun W (hW:ai [g] w W)=>PS r.val (by omega) W (h.Dl hW);have hpe:XA (Wq (ou r.val)==0)=.bool (ou r.val).isSome:=by cases ou r.val<;>rfl
 have e2:r.okB=true→T=aY (ou r.val).isSome 151 ((ou r.val).getD ov) r.pos:=fun hp=>cL e1 hp;generalize Wq (ou r.val)=er at hr8 hpe;generalize (ou r.val).isSome=ok at e2 hpe;generalize (ou r.val).getD ov=p at hr8 e2;have c7:=nO [⟨29,.an ov.cells⟩] [] h h.le (cU e1) n1;have c8f:=fun(_:r.okB=true∧r.pos≤n)=>hr8;have c13f:=fun(_:r.okB=true∧r.pos≤n)=>hpe;have c14f:=fun(hp:r.okB=true∧r.pos≤n)=>nO [⟨29,.an ov.cells⟩,⟨29,.an p.cells⟩] [.bool ok,.int .i64 151] h hp.2 (zD (e2 hp.1)) (fun W hL=>oD ok 151 p hL);have z2f:=fun(hp:r.okB=true∧r.pos≤n) (hp2:(aY ok 151 p r.pos).okB=true∧(aY ok 151 p r.pos).pos≤n)=>(show EA g A n c mr T (.val (mr p)) [(g,154,ee A n c (aY ok 151 p r.pos).pos)]from by
  have e2:=e2 hp.1;cases ok with
  |false=>cases hp2.1
  |true=>exact⟨_,_,e2,hp.2,rfl,rfl⟩)
 refine gx [] h.cw [(7,.aB (iq 0 g A n c r ae)),(8,.call (.tuple #[mr p,.int .i64 er])),ao 13 ok,(14,.aB (iq 0 g A n c (aY ok 151 p r.pos) fun _=>.tuple #[]))] [] (by kernel_rfl) func187 rfl (bN rfl) ?_;exact XI (by kernel_rfl) (Xz c7 (fun(hx0:r.okB=true∧r.pos≤n)=>(Sx.t2 (c8f hx0) (c13f hx0) (Xz (c14f hx0) (fun(hx1:(aY ok 151 p r.pos).okB=true∧(aY ok 151 p r.pos).pos≤n)=>(z2f hx0 hx1))))))
def UN(two:Bool)(a b:Bs):Bs:=match two with
 |true=>b
 |false=>a
def iA(s:Nat×Nat):Value:=.agg #[.int .u16 (s.1:Int),.int .u16 (s.2:Int)]
theorem Rg(x:Bs)(hs:x.length≤100000000)(w:World)(HL:eF w):Calls prog 48 #[ae x,.string ⟨#[45]⟩] w (Rn w (.tuple #[ae (Lib.cut x [45]).1,ae (Lib.cut x [45]).2.1,.bool (Lib.cut x [45]).2.2])):=NL x [45] (by omega) w HL
theorem Kc(x:Bs):(Lib.cut x [45]).1.length≤x.length∧(Lib.cut x [45]).2.1.length≤x.length:=by
 unfold Lib.cut;split
 ·simp
  omega
 ·simp
theorem UB{v:Nat}(h:v≤65535):XG .u16 (XH.wrap (v:Int))=.int .u16 (v:Int):=by
 have:XH.wrap (v:Int)=v:=by simp[XP,XQ,XO];omega
 rw[this]
theorem wY{most:Nat}{s:Bs}(h:aS most s=true):cZ s≤most:=by unfold aS at h;rw[XE,decide_eq_true_iff]at h;exact h.1
theorem Qv{w:World}{g:Nat}{A:Option Go.Addr}{n c i:Nat}{ws:List Bs}(h:eY w g A n c i ws){T:Out (Nat×Nat)}{r:Out Bs}(a b d:Bs)(two oa ob:Bool)
  (n1:∀W,eY W g A n c i ws→Calls prog 154 #[(pt g 0)] W (cj g A n c ae r W)) (hno:∀code p,r=.no code p→T=.no code p)
  (hc:r.okB=true→∀W,ai [g] w W→Calls prog 48 #[ae r.val,.string ⟨#[45]⟩] W (Rn W (.tuple #[ae a,ae b,.bool two])))
  (hd:d=UN two a b)
  (ha:∀W,ai [g] w W→Calls prog 232 #[ae a,.int .u64 65535] W (Rn W (.tuple #[kg (vl a),.bool oa])))
  (hb:∀W,ai [g] w W→Calls prog 232 #[ae d,.int .u64 65535] W (Rn W (.tuple #[kg (vl d),.bool ob])))
  (va vb:Nat) (hva:(oa&&ob)=true→vl a=va∧va≤65535) (hvb:(oa&&ob)=true→vl d=vb∧vb≤65535)
  (e2:r.okB=true→T=aY (oa&&ob) 200 (va,vb) r.pos) :
  Calls prog 205 #[(pt g 0)] w (cj g A n c iA T w):=by
 have hw37:(oa&&ob)=true→XG .u16 (XH.wrap (vl a:Int))=.int .u16 (va:Int):=fun ho=>by rw[(hva ho).1];exact UB (hva ho).2
 have hw39:(oa&&ob)=true→XG .u16 (XH.wrap (vl d:Int))=.int .u16 (vb:Int):=fun ho=>by rw[(hvb ho).1];exact UB (hvb ho).2
 generalize vl a=pa at ha hva hw37;generalize vl d=pd at hb hvb hw39;have c12:=nO [⟨64,.an [.int .u16 0,.int .u16 0]⟩] [] h h.le hno n1;have c13f:=fun(hp:r.okB=true∧r.pos≤n)=>hc hp.1;have c22f:=fun(_:r.okB=true∧r.pos≤n)=>ha;have c27f:=fun(_:r.okB=true∧r.pos≤n)=>hb;have c35f:=fun(hp:r.okB=true∧r.pos≤n)=>nO [⟨64,.an [.int .u16 0,.int .u16 0]⟩] [.bool (oa&&ob),.int .i64 200] h hp.2 (zD (e2 hp.1)) (fun W hL=>oD (oa&&ob) 200 (va,vb) hL);have c37f:=fun(_:r.okB=true∧r.pos≤n) (hp2:(aY (oa&&ob) 200 (va,vb) r.pos).okB=true∧(aY (oa&&ob) 200 (va,vb) r.pos).pos≤n)=>(show XG .u16 (XH.wrap (pa:Int))=.int .u16 (va:Int)from hw37 (by
  cases ho:(oa&&ob)with
  |true=>rfl
  |false=>rw[ho]at hp2;cases hp2.1))
 have c39f:=fun(_:r.okB=true∧r.pos≤n) (hp2:(aY (oa&&ob) 200 (va,vb) r.pos).okB=true∧(aY (oa&&ob) 200 (va,vb) r.pos).pos≤n)=>(show XG .u16 (XH.wrap (pd:Int))=.int .u16 (vb:Int)from hw39 (by
  cases ho:(oa&&ob)with
  |true=>rfl
  |false=>rw[ho]at hp2;cases hp2.1))
 have zf:=fun(hp:r.okB=true∧r.pos≤n) (hp2:(aY (oa&&ob) 200 (va,vb) r.pos).okB=true∧(aY (oa&&ob) 200 (va,vb) r.pos).pos≤n)=>(show EA g A n c iA T (.val (iA (va,vb))) [(g,154,ee A n c (aY (oa&&ob) 200 (va,vb) r.pos).pos)]from by
  have e2:=e2 hp.1;cases ho:(oa&&ob)with
  |false=>rw[ho]at hp2;cases hp2.1
  |true=>rw[ho]at e2;exact⟨_,_,e2,hp.2,rfl,rfl⟩)
 subst hd;have CH:=Xz c12 (fun(hx0:r.okB=true∧r.pos≤n)=>Sx.t4 (c13f hx0) (c22f hx0) (c27f hx0) (c35f hx0) (fun(hx1:(aY (oa&&ob) 200 (va,vb) r.pos).okB=true∧(aY (oa&&ob) 200 (va,vb) r.pos).pos≤n)=>Sx.t2 (c37f hx0 hx1) (c39f hx0 hx1) (zf hx0 hx1)));refine gx [] h.cw [(12,.aB (iq 0 g A n c r ae)),(13,.call (.tuple #[ae a,ae b,.bool two])),(22,.call (.tuple #[kg pa,.bool oa])),(27,.call (.tuple #[kg pd,.bool ob])),(35,.aB (iq 0 g A n c (aY (oa&&ob) 200 (va,vb) r.pos) fun _=>.tuple #[])),(37,.is (.int .u16 (va:Int))),(39,.is (.int .u16 (vb:Int)))] [] (by kernel_rfl) func205 rfl (bN rfl) ?_;clear c12 c13f c22f c27f c35f c37f c39f zf;cases two<;>cases oa<;>exact XI (by kernel_rfl) CH
theorem IE(x:Bs):(cP x).1.length≤x.length∧(cP x).2.length≤x.length:=by
 have h:=Kc x;unfold cP;split
 ·exact h
 ·exact⟨h.1,h.1⟩
theorem A7{w:World}{g:Nat}{A:Option Go.Addr}{n c i:Nat}{ws:List Bs}(h:eY w g A n c i ws):Calls prog 205 #[(pt g 0)] w (cj g A n c iA (jD ws i) w):=by
 have e1:jD ws i=(aV ws i).bind fun x j=>aY (aS 65535 (cP x).1&&aS 65535 (cP x).2) 200 (cZ (cP x).1,cZ (cP x).2) j:=rfl;have hx:(aV ws i).val.length≤100000000:=w9 h.sz;have hl:=IE (aV ws i).val;have hE:(cP (aV ws i).val).1=(Lib.cut (aV ws i).val [45]).1:=by unfold cP;split<;>rfl
 have key:∀s:Bs,aS 65535 s=true→vl s=cZ s∧cZ s≤65535:=fun s hs=>⟨(wL (wX (by omega) hs)).1.symm,wY hs⟩
 refine Qv h (r:=aV ws i) (cP (aV ws i).val).1 (Lib.cut (aV ws i).val [45]).2.1 (cP (aV ws i).val).2 (Lib.cut (aV ws i).val [45]).2.2 (aS 65535 (cP (aV ws i).val).1) (aS 65535 (cP (aV ws i).val).2)
  (fun W hL=>pg hL) (cU e1) (fun _ W hW=>?_) ?_ (fun W hW=>rn 65535 (by omega) _ (by omega) W (h.Dl hW)) (fun W hW=>rn 65535 (by omega) _ (by omega) W (h.Dl hW)) _ _ ?_ ?_ (fun hp=>cL e1 hp)
 ·rw[hE];exact Rg _ hx W (h.Dl hW)
 ·unfold cP UN;split<;>rename_i hk<;>rw[hk]
 ·intro ho
  rw[XE]at ho;exact key _ ho.1
 ·intro ho
  rw[XE]at ho;exact key _ ho.2
def Iy(n:Nat):Value:=.int .u8 (n:Int)
theorem Xg{v:Nat}(h:v≤255):XG .u8 (XL.wrap (v:Int))=.int .u8 (v:Int):=by
 have:XL.wrap (v:Int)=v:=by simp[XP,XQ,XO];omega
 rw[this]
theorem MQ{w:World}{g:Nat}{A:Option Go.Addr}{n c i:Nat}{ws:List Bs}(h:eY w g A n c i ws):Calls prog 209 #[.pointer (some ⟨g,0,none⟩)] w (cj g A n c Iy (eJ ws i) w):=by
 have hlen:=h.len;rcases jd (ws:=ws) (i:=i) (s:=kj)with⟨h1,h2⟩ | h1
 ·have e1:eJ ws i=.ok 6 (i+1):=by unfold eJ;rw[h1];rfl
  have n1:=fun W (hL:eY W g A n c i ws)=>h1 ▸ lX kj hL;generalize eJ ws i=T at e1 ⊢;have c5:=mV (T:=T) [ae kj] h h.le (fun code p hh=>by cases hh) n1;have z1f:=fun(hp:(Out.ok true (i+1)).okB=true∧(Out.ok true (i+1)).pos≤n)=>(show EA g A n c Iy T (.val (Iy 6)) [(g,154,ee A n c (i+1))]from⟨_,_,e1,hp.2,rfl,rfl⟩);refine gx [] h.cw [(5,.aB (iq 0 g A n c (Out.ok true (i+1)) fun b=>.bool b))] [] (by kernel_rfl) func209 rfl (bN rfl) ?_;exact XI (by kernel_rfl) (Xz c5 (fun(hx0:(Out.ok true (i+1)).okB=true∧(Out.ok true (i+1)).pos≤n)=>(z1f hx0)))
 ·rcases jd (ws:=ws) (i:=i) (s:=kY)with⟨h3,h4⟩ | h3
  ·have e1:eJ ws i=.ok 17 (i+1):=by unfold eJ;rw[h1];simp only[Out.bind,h3]
   have n1:=fun W (hL:eY W g A n c i ws)=>h1 ▸ lX kj hL;have n2:=fun W (hL:eY W g A n c i ws)=>h3 ▸ lX kY hL;generalize eJ ws i=T at e1 ⊢;have c5:=mV (T:=T) [ae kj] h h.le (fun code p hh=>by cases hh) n1;have c8f:=fun(_:(Out.ok false i).okB=true∧(Out.ok false i).pos≤n)=>mV (T:=T) [ae kY] h h.le (fun code p hh=>by cases hh) n2;have z2f:=fun(_:(Out.ok false i).okB=true∧(Out.ok false i).pos≤n) (hp:(Out.ok true (i+1)).okB=true∧(Out.ok true (i+1)).pos≤n)=>(show EA g A n c Iy T (.val (Iy 17)) [(g,154,ee A n c (i+1))]from⟨_,_,e1,hp.2,rfl,rfl⟩);refine gx [] h.cw [(5,.aB (iq 0 g A n c (Out.ok false i) fun b=>.bool b)),(8,.aB (iq 0 g A n c (Out.ok true (i+1)) fun b=>.bool b))] [] (by kernel_rfl) func209 rfl (bN rfl) ?_;exact XI (by kernel_rfl) (Xz c5 (fun(hx0:(Out.ok false i).okB=true∧(Out.ok false i).pos≤n)=>(Xz (c8f hx0) (fun(hx1:(Out.ok true (i+1)).okB=true∧(Out.ok true (i+1)).pos≤n)=>(z2f hx0 hx1)))))
  ·have e1:eJ ws i=bE 255 ws i:=by unfold eJ;rw[h1];simp only[Out.bind,h3]
   have n1:=fun W (hL:eY W g A n c i ws)=>h1 ▸ lX kj hL;have n2:=fun W (hL:eY W g A n c i ws)=>h3 ▸ lX kY hL;have n3:=fun W (hL:eY W g A n c i ws)=>mT 255 (by omega) hL;have hle:∀v j,bE 255 ws i=.ok v j→v≤255:=fun v j=>rp;generalize eJ ws i=T at e1 ⊢;generalize bE 255 ws i=r at e1 n3 hle;have c5:=mV (T:=T) [ae kj] h h.le (fun code p hh=>by cases hh) n1;have c8f:=fun(_:(Out.ok false i).okB=true∧(Out.ok false i).pos≤n)=>mV (T:=T) [ae kY] h h.le (fun code p hh=>by cases hh) n2;have c10f:=fun(_:(Out.ok false i).okB=true∧(Out.ok false i).pos≤n) (_:(Out.ok false i).okB=true∧(Out.ok false i).pos≤n)=>mV [.int .u64 ((255:Nat):Int)] h h.le (zD e1) n3;have c11f:=fun(_:(Out.ok false i).okB=true∧(Out.ok false i).pos≤n) (_:(Out.ok false i).okB=true∧(Out.ok false i).pos≤n) (hp:r.okB=true∧r.pos≤n)=>(show XG .u8 (XL.wrap (r.val:Int))=.int .u8 (r.val:Int)from Xg (hle _ _ (Hc hp)));have z3f:=fun(_:(Out.ok false i).okB=true∧(Out.ok false i).pos≤n) (_:(Out.ok false i).okB=true∧(Out.ok false i).pos≤n) (hp:r.okB=true∧r.pos≤n)=>(show EA g A n c Iy T (.val (Iy r.val)) [(g,154,ee A n c r.pos)]from⟨_,_,by rw[e1];exact Hc hp,hp.2,rfl,rfl⟩);refine gx [] h.cw [(5,.aB (iq 0 g A n c (Out.ok false i) fun b=>.bool b)),(8,.aB (iq 0 g A n c (Out.ok false i) fun b=>.bool b)),(10,.aB (iq 0 g A n c r kg)),(11,.is (.int .u8 (r.val:Int)))] [] (by kernel_rfl) func209 rfl (bN rfl) ?_;exact XI (by kernel_rfl) (Xz c5 (fun(hx0:(Out.ok false i).okB=true∧(Out.ok false i).pos≤n)=>(Xz (c8f hx0) (fun(hx1:(Out.ok false i).okB=true∧(Out.ok false i).pos≤n)=>(Xz (c10f hx0 hx1) (fun(hx2:r.okB=true∧r.pos≤n)=>(Xz (c11f hx0 hx1 hx2) (z3f hx0 hx1 hx2))))))))
def T8(b0 b1 b2 b3:Bool)(p:Nat)(r2:Out Nat):Out (Int×Int):=match b0 with
 |true=>.ok (1,0) p
 |false=>match b1 with
  |true=>.ok (2,0) p
  |false=>match b2 with
   |true=>.ok (4,0) p
   |false=>match b3 with
    |true=>r2.bind fun v k=>.ok (3,(v:Int)) k
    |false=>.no 200 p
def ue(a:Int×Int):Value:=.tuple #[.int .i64 a.1,.int .i64 a.2]
theorem dR(x y:Operand)(s t:List UInt8)(b:Bool)(hb:decide (s=t)=b)(W:World):(do eqGuard .eql 9 x y (.string ⟨s.toArray⟩) (.string ⟨t.toArray⟩);binOp .eql 9 (.string ⟨s.toArray⟩) (.string ⟨t.toArray⟩):Sem Value).run prog W=.ok (.bool b) W:=by
 have e:∀l:List UInt8,(⟨l.toArray⟩:ByteArray).toList=l:=fun l=>by simp
 have h:(do eqGuard .eql 9 x y (.string ⟨s.toArray⟩) (.string ⟨t.toArray⟩);binOp .eql 9 (.string ⟨s.toArray⟩) (.string ⟨t.toArray⟩):Sem Value).run prog W=.ok (.bool ((⟨s.toArray⟩:ByteArray).toList==(⟨t.toArray⟩:ByteArray).toList)) W:=rfl;rw[h,e,e,←hb];by_cases h:s=t<;>simp[h]
theorem JQ{w:World}{g:Nat}{A:Option Go.Addr}{n c i:Nat}{ws:List Bs}(h:eY w g A n c i ws){T:Out (Int×Int)}{r:Out Bs}{r2:Out Nat}(out b0 b1 b2 b3:Bool)
  (n1:∀W,eY W g A n c i ws→Calls prog 154 #[(pt g 0)] W (cj g A n c ae r W)) (hno:∀code p,r=.no code p→T=.no code p)
  (n2:r.okB=true→∀W,eY W g A n c r.pos ws→Calls prog 186 #[(pt g 0)] W (cj g A n c lx r2 W))
  (h0:decide (r.val=bZ)=b0) (h1:decide (r.val=jb)=b1) (h2:decide (r.val=eC)=b2) (h3:decide (r.val=mj)=b3)
  (e2:r.okB=true→T=T8 b0 b1 b2 (b3&&out) r.pos r2) :
  Calls prog 192 #[(pt g 0),.bool out] w (cj g A n c ue T w):=by
 have c8:=mV [] h h.le hno n1;have c11f:=fun(_:r.okB=true∧r.pos≤n) W=>dR (.tmp 10) (.const (ae bZ)) r.val bZ b0 h0 W;have c14f:=fun(_:r.okB=true∧r.pos≤n) W=>dR (.tmp 13) (.const (ae jb)) r.val jb b1 h1 W;have c17f:=fun(_:r.okB=true∧r.pos≤n) W=>dR (.tmp 16) (.const (ae eC)) r.val eC b2 h2 W;have c20f:=fun(_:r.okB=true∧r.pos≤n) W=>dR (.tmp 19) (.const (ae mj)) r.val mj b3 h3 W;have za:=fun(v:Int×Int) (hp:r.okB=true∧r.pos≤n) (hT:T=.ok v r.pos)=>(show EA g A n c ue T (.val (ue v)) [(g,154,ee A n c r.pos)]from⟨_,_,hT,hp.2,rfl,rfl⟩);have c25f:=fun(hp:r.okB=true∧r.pos≤n) (hT:T=r2.bind fun v k=>.ok (3,(v:Int)) k)=>Xz (mV [] h hp.2 (cU hT) (n2 hp.1)) (fun(hp2:r2.okB=true∧r2.pos≤n)=>(show EA g A n c ue T (.val (ue (3,(r2.val:Int)))) [(g,154,ee A n c r2.pos)]from⟨(3,(r2.val:Int)),r2.pos,(show T=.ok (3,(r2.val:Int)) r2.pos from cL hT hp2.1),hp2.2,rfl,rfl⟩));have c31f:=fun(hT:T=.no 200 r.pos)=>Xz (fun W (hW:ai [g] w W) (_:aw W g 154 (ee A n c r.pos))=>mN (b:=⟨w,[g],pW T w⟩) (vs:=[(pt g 0),.int .i64 200,.int .i64 (r.pos:Int)]) (ps:=[(0,0)]) ((tY ((pt g 0)) 200 (r.pos:Int) W).mono fun _ _ ⟨ch,he,hf,hc⟩=>⟨ch,he,(show pW T w _ _ from⟨200,r.pos,hT,hf.up hW.size⟩),hc⟩)) trivial;have CH:=Xz c8 (fun(hp:r.okB=true∧r.pos≤n)=>Xz (c11f hp) (jZ.mk (b:=b0) (fun e=>za (1,0) hp (by rw[e2 hp.1,e];rfl)) (fun f0=>Xz (c14f hp) (jZ.mk (b:=b1) (fun e=>za (2,0) hp (by rw[e2 hp.1,f0,e];rfl)) (fun f1=>Xz (c17f hp) (jZ.mk (b:=b2) (fun e=>za (4,0) hp (by rw[e2 hp.1,f0,f1,e];rfl)) (fun f2=>Xz (c20f hp) (jZ.mk (b:=b3&&out) (fun e=>c25f hp (by rw[e2 hp.1,f0,f1,f2,e];rfl)) (fun f3=>c31f (by rw[e2 hp.1,f0,f1,f2,f3];rfl))))))))));refine gx [.bool out] h.cw [(8,.aB (iq 0 g A n c r ae)),(11,.bin (.bool b0)),(14,.bin (.bool b1)),(17,.bin (.bool b2)),(20,.bin (.bool b3)),(25,.aB (iq 0 g A n c r2 lx)),(31,.sY)] [] (by kernel_rfl) func192 rfl (bN rfl) ?_;clear za c8 c11f c14f c17f c20f c25f c31f;cases b0<;>cases b1<;>cases b2<;>cases b3<;>cases out<;>exact XI (by kernel_rfl) CH
theorem zL(out:Bool){w:World}{g:Nat}{A:Option Go.Addr}{n c i:Nat}{ws:List Bs}(h:eY w g A n c i ws):Calls prog 192 #[.pointer (some ⟨g,0,none⟩),.bool out] w (cj g A n c ue (pS out ws i) w):=by
 have e1:=(rfl:pS out ws i=(aV ws i).bind _);refine JQ h (r:=aV ws i) (r2:=ji ws (aV ws i).pos) out _ _ _ _ (fun W hL=>pg hL) (cU e1) (fun _ W hL=>xp hL) rfl rfl rfl rfl fun hp=>?_;rw[cL e1 hp];by_cases h0:(aV ws i).val=bZ
 ·rw[if_pos h0,decide_eq_true h0];rfl
 rw[if_neg h0,decide_eq_false h0];by_cases h1:(aV ws i).val=jb
 ·rw[if_pos h1,decide_eq_true h1];rfl
 rw[if_neg h1,decide_eq_false h1];by_cases h2:(aV ws i).val=eC
 ·rw[if_pos h2,decide_eq_true h2];rfl
 rw[if_neg h2,decide_eq_false h2];by_cases h3:(aV ws i).val=mj
 ·cases out with
  |true=>rw[if_pos ⟨h3,rfl⟩,decide_eq_true h3];rfl
  |false=>rw[if_neg (by simp),decide_eq_true h3];rfl
 ·rw[if_neg (by simp[h3]),decide_eq_false h3];rfl
open Go.RowKit Go.Lib Go.Sort
structure vB(w:World)(S:List Nat)(g:Nat)(A:Option Go.Addr)(n c i:Nat)(ws:List Bs):Prop where
 cw:aw w g 154 (ee A n c i)
 jq:BO w S A n ws
 le:i≤n
 bd:n≤1100000
 yA:eF w
 s9:∀k∈S,9≤k
 gS:g∈S
 sz:∀x∈ws,x.length≤100000000
section
variable{w W:World}{S:List Nat}{g:Nat}{A:Option Go.Addr}{n c i j:Nat}{ws:List Bs}
theorem vB.Xo(h:vB w S g A n c i ws):eY w g A n c i ws:=
 ⟨h.cw,h.jq.sub fun x hx=>by rw[XN.1 hx];exact h.gS,h.le,h.bd,h.yA,h.s9 g h.gS,h.sz⟩
theorem eY.u4(h:eY w g A n c i ws):vB w [g] g A n c i ws:=
 ⟨h.cw,h.jq,h.le,h.bd,h.yA,fun k hk=>by rw[XN.1 hk];exact h.g9,by simp,h.sz⟩
theorem vB.at(h:vB w S g A n c i ws)(hc:ai S w W)(hj:j≤n)(hb:aw W g 154 (ee A n c j)):vB W S g A n c j ws:=
 ⟨hb,h.jq.aJ hc,hj,h.bd,h.yA.aJ hc h.s9,h.s9,h.gS,h.sz⟩
theorem vB.add{S':List Nat}(h:vB w S g A n c i ws)(hc:ai S w W)(hj:j≤n)(hb:aw W g 154 (ee A n c j))(hs:∀x∈S',x∈S∨w.heap.size≤x)(hg:g∈S'):vB W S' g A n c j ws:=by
 refine⟨hb,⟨h.jq.len,fun h0=>?_⟩,hj,h.bd,h.yA.aJ hc h.s9,fun k hk=>?_,hg,h.sz⟩
 ·obtain⟨b,o,h1,h2,h3,h4⟩:=h.jq.row h0
  refine⟨b,o,h1,fun hb=>?_,Nat.lt_of_lt_of_le h3 hc.size,fun k y hy=>(hc.cell (p:=⟨b,o+k,none⟩) h3 h2).trans (h4 k y hy)⟩;rcases hs b hb with hx|hx
  ·exact h2 hx
  ·omega
 ·rcases hs k hk with hx|hx
  ·exact h.s9 k hx
  ·have:=h.yA.low;omega
theorem kW{α γ:Type} [Inhabited α]{P:Program}{f:FuncId}{V:α→Value}{r:Out α}{T:Out γ}(k:Nat)(mem:List Sx.Row)(rest:List Value)(h0:vB w S g A n c i ws)(hj:j≤n)(hT:∀code p,r=.no code p→T=.no code p)
  (hrow:mem[k]?=some ⟨154,.dG g (ee A n c j)⟩)
  (h:∀W,eY W g A n c j ws→Calls P f (.pointer (some ⟨g,0,none⟩)::rest).toArray W (cj g A n c V r W)) (W:World) (β:Sx.Env) (hS:Sx.fD ⟨w,S,pW T w⟩ β W (Sx.rowAt mem) [k]) :
  Calls P f ((Sx.SV.ptr k 0::rest.map .val).map (Sx.SV.den β)).toArray W (Sx.bK ⟨w,S,pW T w⟩ β W (Sx.rowAt mem) mem.length (iq k g A n c r V)):=
 A8 rest hS (by simp) hrow (fun hB=>h W (h0.at hS.aJ hj hB).Xo) fun code p chain w' hr hf=>⟨code,p,hT code p hr,hf.up hS.aJ.size⟩
end
def oc(g gm b2 b3:Nat)(A:Option Go.Addr)(n c:Nat)(T:Out Mt)(w:World)(e:Ending)(w':World):Prop:=
 (∃m i,T=.ok m i∧i≤n∧e=.returned (.tuple #[])∧aw w' g 154 (ee A n c i)∧aw w' gm 66 m.cells∧aw w' b2 152 [(pt g 0)]∧aw w' b3 217 [(pt gm 0)]∧ai [g,gm,b2,b3] w w')∨
 (∃code p chain,T=.no code p∧e=.panicked chain∧EB code p w chain w'∧ai [g,gm,b2,b3] w w')
def lO(g gm b2 b3:Nat)(A:Option Go.Addr)(n c i:Nat)(cs:List Value):List Sx.Row:=
 [⟨154,.dG g (ee A n c i)⟩,⟨66,.dG gm cs⟩,⟨152,.j5 b2 [.ptr 0 0]⟩,⟨217,.j5 b3 [.ptr 1 0]⟩]
def Ug(g gm b2 b3:Nat)(A:Option Go.Addr)(n c:Nat)(T:Out Mt)(l:List Sx.SV)(mem:List Sx.Row):Prop:=∃m i,T=.ok m i∧i≤n∧l=[]∧mem=lO g gm b2 b3 A n c i m.cells
structure OE(w:World)(g gm b2 b3:Nat)(A:Option Go.Addr)(n c i:Nat)(ws:List Bs)(m:Mt):Prop where
 u4:vB w [g,gm,b2,b3] g A n c i ws
 bm:aw w gm 66 m.cells
 bx:aw w b2 152 [(pt g 0)]
 W9:aw w b3 217 [(pt gm 0)]
 nd:[g,gm,b2,b3].Nodup
theorem qx{P:Program}{w:World}{f:FuncId}{fn:Func}{co:Code}{g gm b2 b3:Nat}{A:Option Go.Addr}{n c i:Nat}{ws:List Bs}{m:Mt}{T:Out Mt}(h:OE w g gm b2 b3 A n c i ws m)(H:List (Nat×Sx.Hint))(L:List Sx.Loop)
  (hm:P.follows .mixedOrders=true) (hf:P.funcs[f]?=some fn) (hbd:fn.body=some co) (hn:2≤fn.ntmps)
  (hx:Sx.lN P fn.ntmps ⟨w,[g,gm,b2,b3],pW T w⟩ co H L ⟨Sx.lR 0 [.ptr 2 0,.ptr 3 0],lO g gm b2 b3 A n c i m.cells⟩ (Sx.fm P fn (Ug g gm b2 b3 A n c T))) :
  Calls P f #[.pointer (some ⟨b2,0,none⟩),.pointer (some ⟨b3,0,none⟩)] w (oc g gm b2 b3 A n c T w):=by
 have hF:=Sx.gI (w:=w) (S:=[g,gm,b2,b3]) (PP:=pW T w) (G:=[.cw g 154 (ee A n c i),.cw gm 66 m.cells,.oy b2 152 [.ptr 0 0],.oy b3 217 [.ptr 1 0]]) (fun q hq=>by
  simp only[XF,XC,or_false]at hq;rcases hq with rfl|rfl|rfl|rfl
  ·exact h.u4.cw
  ·exact h.bm
  ·exact h.bx
  ·exact h.W9) (fun q hq k hk=>by
  simp only[XF,XC,or_false]at hq;rcases hq with rfl|rfl|rfl|rfl<;>cases hk<;>simp) h.nd
 refine(Sx.bO (args:=[.ptr 2 0,.ptr 3 0]) hF H L hm hf hbd hn rfl hx).mono fun e w' hp=>?_;rcases hp with⟨β,l,mem,⟨m',i',h1,h2,rfl,rfl⟩,he,hR⟩ | ⟨chain,he,⟨code,p,h1,hf⟩,hc⟩
 ·have r0:=hR.held 0 _ rfl
  have r1:=hR.held 1 _ rfl;have r2:=hR.held 2 _ rfl;have r3:=hR.held 3 _ rfl;have e0:β 0=g:=r0.1;have e1:β 1=gm:=r1.1;have e2:β 2=b2:=r2.1;have e3:β 3=b3:=r3.1;refine .inl ⟨m',i',h1,h2,he,e0 ▸ r0.2,e1 ▸ r1.2,?_,?_,hR.aJ⟩
  ·have:=r2.2
   rw[e2]at this;have hh:([Sx.SV.ptr 0 0].map (Sx.SV.den β))=[.pointer (some ⟨g,0,none⟩)]:=by show [XR (some ⟨β 0,0,none⟩)]=_;rw[e0]
   rw[hh]at this;exact this
  ·have:=r3.2
   rw[e3]at this;have hh:([Sx.SV.ptr 1 0].map (Sx.SV.den β))=[.pointer (some ⟨gm,0,none⟩)]:=by show [XR (some ⟨β 1,0,none⟩)]=_;rw[e1]
   rw[hh]at this;exact this
 ·exact .inr ⟨code,p,chain,h1,he,hf,hc⟩
def Wa(g gm:Nat)(A:Option Go.Addr)(n c:Nat)(T:Out Mt):Sx.cS:=⟨[0,1,2,3],[(0,⟨154,.dG g (ee A n c T.pos)⟩),(1,⟨66,.dG gm T.val.cells⟩),(2,⟨152,.dK [.ptr 0 0]⟩),(3,⟨217,.dK [.ptr 1 0]⟩)],[],[],.val (.tuple #[]),some (T.okB=true∧T.pos≤n)⟩
def qP(g gm:Nat)(A:Option Go.Addr)(n c i:Nat)(cs:List Value):List Sx.Row:=[⟨154,.dG g (ee A n c i)⟩,⟨66,.dG gm cs⟩,⟨152,.dK [.ptr 0 0]⟩,⟨217,.dK [.ptr 1 0]⟩]
theorem VK{γ:Type}{P:Program}{w:World}{f g gm n c i j:Nat}{A:Option Go.Addr}{ws:List Bs}{m:Mt}{T:Out Mt}{TT:Out γ}(h0:vB w [g,gm] g A n c i ws)(hj:j≤n)(hT:∀code p,T=.no code p→TT=.no code p)
  (h:∀W b2 b3,OE W g gm b2 b3 A n c j ws m→Calls P f #[.pointer (some ⟨b2,0,none⟩),.pointer (some ⟨b3,0,none⟩)] W (oc g gm b2 b3 A n c T W)) (W:World) (β:Sx.Env) (hS:Sx.fD ⟨w,[g,gm],pW TT w⟩ β W (Sx.rowAt (qP g gm A n c j m.cells)) [0,1,2,3]) :
  Calls P f (([.ptr 2 0,.ptr 3 0]:List Sx.SV).map (Sx.SV.den β)).toArray W (Sx.bK ⟨w,[g,gm],pW TT w⟩ β W (Sx.rowAt (qP g gm A n c j m.cells)) 4 (Wa g gm A n c T)):=by
 have r0:=hS.held 0 (by simp) _ rfl;have r1:=hS.held 1 (by simp) _ rfl;have r2:aw W (β 2) 152 [.pointer (some ⟨β 0,0,none⟩)]:=hS.held 2 (by simp) _ rfl;have r3:aw W (β 3) 217 [.pointer (some ⟨β 1,0,none⟩)]:=hS.held 3 (by simp) _ rfl;have e0:β 0=g:=r0.1;have e1:β 1=gm:=r1.1;have r0:aw W g 154 (ee A n c j):=e0 ▸ r0.2;have r1:aw W gm 66 m.cells:=e1 ▸ r1.2;rw[e0]at r2;rw[e1]at r3;have hne:∀{a b:Nat},a∈[0,1,2,3]→b∈[0,1,2,3]→a≠b→β a≠β b:=fun {a b} ha hb hab he=>by
  have bl:∀k∈[0,1,2,3],∃r,Sx.rowAt (qP g gm A n c j m.cells) k=some r∧Sx.az β k r=some (β k):=fun k hk=>by simp only[XF,XC,or_false]at hk;rcases hk with rfl|rfl|rfl|rfl<;>exact⟨_,rfl,rfl⟩
  obtain⟨ra,h1,h2⟩:=bl a ha;obtain⟨rb,h3,h4⟩:=bl b hb;exact hab (hS.inj a ha b hb ra rb (β a) h1 h3 h2 (by rw[h4,he]))
 have h01:=hne (a:=0) (b:=1) (by simp) (by simp) (by decide);have h02:=hne (a:=0) (b:=2) (by simp) (by simp) (by decide);have h03:=hne (a:=0) (b:=3) (by simp) (by simp) (by decide);have h12:=hne (a:=1) (b:=2) (by simp) (by simp) (by decide);have h13:=hne (a:=1) (b:=3) (by simp) (by simp) (by decide);have h23:=hne (a:=2) (b:=3) (by simp) (by simp) (by decide);rw[e0]at h01 h02 h03;rw[e1]at h01 h12 h13;have n2:=hS.new 2 (by simp) _ (β 2) rfl rfl;have n3:=hS.new 3 (by simp) _ (β 3) rfl rfl;have hC:OE W g gm (β 2) (β 3) A n c j ws m:=⟨h0.add hS.aJ hj r0 (fun x hx=>by
  simp only[XF,XC,or_false]at hx;rcases hx with rfl|rfl|rfl|rfl
  ·exact .inl (by simp)
  ·exact .inl (by simp)
  ·exact n2
  ·exact n3) (by simp),r1,r2,r3,by simp[h01,h02,h03,h12,h13,h23]⟩
 have ht:Sx.cS.eG β (Sx.rowAt (qP g gm A n c j m.cells)) (Wa g gm A n c T)=[g,gm,β 2,β 3]:=by show [β 0,β 1,β 2,β 3]=_;rw[e0,e1]
 refine(h W (β 2) (β 3) hC).mono fun e w' hp=>?_;rcases hp with⟨m',i',rfl,hi,he,b0,b1,b2,b3,hc⟩ | ⟨code,p,chain,hT',he,hf,hc⟩
 ·refine .inl ⟨fun p hp=>by cases hp;exact⟨rfl,hi⟩,β,Sx.ep (v:=.tuple #[]) rfl rfl he (fun q hq=>?_) (by rw[ht];exact hc)⟩
  have hq:q=(0,⟨154,.dG g (ee A n c i')⟩)∨q=(1,⟨66,.dG gm m'.cells⟩)∨q=(2,⟨152,.dK [.ptr 0 0]⟩)∨q=(3,⟨217,.dK [.ptr 1 0]⟩):=by have:q∈[(0,(⟨154,.dG g (ee A n c i')⟩:Sx.Row)),(1,⟨66,.dG gm m'.cells⟩),(2,⟨152,.dK [.ptr 0 0]⟩),(3,⟨217,.dK [.ptr 1 0]⟩)]:=hq;simpa using this
  rcases hq with rfl|rfl|rfl|rfl
  ·exact⟨e0,by show aw w' (β 0) _ _;rw[e0];exact b0⟩
  ·exact⟨e1,by show aw w' (β 1) _ _;rw[e1];exact b1⟩
  ·show aw w' (β 2) 152 [.pointer (some ⟨β 0,0,none⟩)]
   rw[e0];exact b2
  ·show aw w' (β 3) 217 [.pointer (some ⟨β 1,0,none⟩)]
   rw[e1];exact b3
 ·exact .inr ⟨rfl,chain,he,⟨code,p,hT code p hT',hf.up hS.aJ.size⟩,by rw[ht];exact hc⟩
def pX(g gm:Nat)(A:Option Go.Addr)(n c:Nat)(T:Out (Bool×Mt))(w:World)(e:Ending)(w':World):Prop:=
 (∃q i,T=.ok q i∧i≤n∧e=.returned (.bool q.1)∧aw w' g 154 (ee A n c i)∧aw w' gm 66 q.2.cells∧ai [g,gm] w w')∨
 (∃code p chain,T=.no code p∧e=.panicked chain∧EB code p w chain w'∧ai [g,gm] w w')
def Wd(g gm:Nat)(A:Option Go.Addr)(n c:Nat)(T:Out (Bool×Mt))(l:List Sx.SV)(mem:List Sx.Row):Prop:=∃b m i ms,T=.ok (b,m) i∧i≤n∧l=[.val (.bool b)]∧mem=⟨154,.dG g (ee A n c i)⟩::⟨66,.dG gm m.cells⟩::ms
theorem Bq{P:Program}{w:World}{f:FuncId}{fn:Func}{co:Code}{g gm:Nat}{A:Option Go.Addr}{n c i:Nat}{ws:List Bs}{m:Mt}{T:Out (Bool×Mt)}(h:vB w [g,gm] g A n c i ws)(hbm:aw w gm 66 m.cells)(hne:g≠gm)(H:List (Nat×Sx.Hint))(L:List Sx.Loop)
  (hm:P.follows .mixedOrders=true) (hf:P.funcs[f]?=some fn) (hbd:fn.body=some co) (hn:2≤fn.ntmps)
  (hx:Sx.lN P fn.ntmps ⟨w,[g,gm],pW T w⟩ co H L ⟨Sx.lR 0 [.ptr 0 0,.ptr 1 0],[⟨154,.dG g (ee A n c i)⟩,⟨66,.dG gm m.cells⟩]⟩ (Sx.fm P fn (Wd g gm A n c T))) :
  Calls P f #[.pointer (some ⟨g,0,none⟩),.pointer (some ⟨gm,0,none⟩)] w (pX g gm A n c T w):=by
 have hF:=Sx.gI (w:=w) (S:=[g,gm]) (PP:=pW T w) (G:=[.cw g 154 (ee A n c i),.cw gm 66 m.cells]) (fun q hq=>by
  simp only[XF,XC,or_false]at hq;rcases hq with rfl|rfl
  ·exact h.cw
  ·exact hbm) (fun q hq k hk=>by
  simp only[XF,XC,or_false]at hq;rcases hq with rfl|rfl<;>cases hk<;>simp) (by simpa[Sx.lu.block]using hne)
 refine(Sx.bO (args:=[.ptr 0 0,.ptr 1 0]) hF H L hm hf hbd hn rfl hx).mono fun e w' hp=>?_;rcases hp with⟨β,l,mem,⟨b,m',i',ms,h1,h2,rfl,rfl⟩,he,hR⟩ | ⟨chain,he,⟨code,p,h1,hf⟩,hc⟩
 ·have r0:=hR.held 0 _ rfl
  have r1:=hR.held 1 _ rfl;have e0:β 0=g:=r0.1;have e1:β 1=gm:=r1.1;exact .inl ⟨(b,m'),i',h1,h2,he,e0 ▸ r0.2,e1 ▸ r1.2,hR.aJ⟩
 ·exact .inr ⟨code,p,chain,h1,he,hf,hc⟩
set_option maxRecDepth 100000
open Go.RowKit Go.Lib Go.Sort _root_.Go.Proofs.Tryz
set_option maxRecDepth 100000
theorem Jc{w:World}{g gm b2 b3:Nat}{A:Option Go.Addr}{n c i:Nat}{ws:List Bs}{m:Mt}(h:OE w g gm b2 b3 A n c i ws m):Calls prog 204 #[(pt b2 0),(pt b3 0)] w (oc g gm b2 b3 A n c (cF 0 m ws i) w):=by have e1:cF 0 m ws i=(jD ws i).bind fun s j=>.ok { m with fU:=s } j:=rfl;have n1:=fun W (hL:eY W g A n c i ws)=>A7 hL;generalize cF 0 m ws i=T at e1 ⊢;generalize jD ws i=r at e1 n1;have c4:=kW 0 (lO g gm b2 b3 A n c i m.cells) [] h.u4 h.u4.le (cU e1) rfl n1;have z1f:=fun(hp:r.okB=true∧r.pos≤n)=>(show Ug g gm b2 b3 A n c T [] (lO g gm b2 b3 A n c r.pos ({ m with fU:=r.val }:Mt).cells)from⟨({ m with fU:=r.val }:Mt),r.pos,cL e1 hp.1,hp.2,rfl,rfl⟩);have z3f:=fun(_:¬(r.okB=true∧r.pos≤n))=>trivial;refine qx h [(4,.aB (iq 0 g A n c r iA))] [] (by kernel_rfl) func204 rfl (bN rfl) ?_;exact XI (by kernel_rfl) (Sx.t2 c4 (fun(hx0:r.okB=true∧r.pos≤n)=>(z1f hx0)) (fun(hx2:¬(r.okB=true∧r.pos≤n))=>(z3f hx2)))
theorem Jb{w:World}{g gm b2 b3:Nat}{A:Option Go.Addr}{n c i:Nat}{ws:List Bs}{m:Mt}(h:OE w g gm b2 b3 A n c i ws m):Calls prog 206 #[(pt b2 0),(pt b3 0)] w (oc g gm b2 b3 A n c (cF 1 m ws i) w):=by have e1:cF 1 m ws i=(dE ws i).bind fun s j=>.ok { m with src:=s } j:=rfl;have n1:=fun W (hL:eY W g A n c i ws)=>tP hL;generalize cF 1 m ws i=T at e1 ⊢;generalize dE ws i=r at e1 n1;have c4:=kW 0 (lO g gm b2 b3 A n c i m.cells) [] h.u4 h.u4.le (cU e1) rfl n1;have z1f:=fun(hp:r.okB=true∧r.pos≤n)=>(show Ug g gm b2 b3 A n c T [] (lO g gm b2 b3 A n c r.pos ({ m with src:=r.val }:Mt).cells)from⟨({ m with src:=r.val }:Mt),r.pos,cL e1 hp.1,hp.2,rfl,rfl⟩);have z3f:=fun(_:¬(r.okB=true∧r.pos≤n))=>trivial;refine qx h [(4,.aB (iq 0 g A n c r mr))] [] (by kernel_rfl) func206 rfl (bN rfl) ?_;exact XI (by kernel_rfl) (Sx.t2 c4 (fun(hx0:r.okB=true∧r.pos≤n)=>(z1f hx0)) (fun(hx2:¬(r.okB=true∧r.pos≤n))=>(z3f hx2)))
theorem Ja{w:World}{g gm b2 b3:Nat}{A:Option Go.Addr}{n c i:Nat}{ws:List Bs}{m:Mt}(h:OE w g gm b2 b3 A n c i ws m):Calls prog 207 #[(pt b2 0),(pt b3 0)] w (oc g gm b2 b3 A n c (cF 2 m ws i) w):=by have e1:cF 2 m ws i=(dE ws i).bind fun s j=>.ok { m with dst:=s } j:=rfl;have n1:=fun W (hL:eY W g A n c i ws)=>tP hL;generalize cF 2 m ws i=T at e1 ⊢;generalize dE ws i=r at e1 n1;have c4:=kW 0 (lO g gm b2 b3 A n c i m.cells) [] h.u4 h.u4.le (cU e1) rfl n1;have z1f:=fun(hp:r.okB=true∧r.pos≤n)=>(show Ug g gm b2 b3 A n c T [] (lO g gm b2 b3 A n c r.pos ({ m with dst:=r.val }:Mt).cells)from⟨({ m with dst:=r.val }:Mt),r.pos,cL e1 hp.1,hp.2,rfl,rfl⟩);have z3f:=fun(_:¬(r.okB=true∧r.pos≤n))=>trivial;refine qx h [(4,.aB (iq 0 g A n c r mr))] [] (by kernel_rfl) func207 rfl (bN rfl) ?_;exact XI (by kernel_rfl) (Sx.t2 c4 (fun(hx0:r.okB=true∧r.pos≤n)=>(z1f hx0)) (fun(hx2:¬(r.okB=true∧r.pos≤n))=>(z3f hx2)))
theorem I9{w:World}{g gm b2 b3:Nat}{A:Option Go.Addr}{n c i:Nat}{ws:List Bs}{m:Mt}(h:OE w g gm b2 b3 A n c i ws m):Calls prog 208 #[(pt b2 0),(pt b3 0)] w (oc g gm b2 b3 A n c (cF 3 m ws i) w):=by have e1:cF 3 m ws i=(eJ ws i).bind fun s j=>.ok { m with bw:=s } j:=rfl;have n1:=fun W (hL:eY W g A n c i ws)=>MQ hL;generalize cF 3 m ws i=T at e1 ⊢;generalize eJ ws i=r at e1 n1;have c4:=kW 0 (lO g gm b2 b3 A n c i m.cells) [] h.u4 h.u4.le (cU e1) rfl n1;have z1f:=fun(hp:r.okB=true∧r.pos≤n)=>(show Ug g gm b2 b3 A n c T [] (lO g gm b2 b3 A n c r.pos ({ m with bw:=r.val }:Mt).cells)from⟨({ m with bw:=r.val }:Mt),r.pos,cL e1 hp.1,hp.2,rfl,rfl⟩);have z3f:=fun(_:¬(r.okB=true∧r.pos≤n))=>trivial;refine qx h [(4,.aB (iq 0 g A n c r Iy))] [] (by kernel_rfl) func208 rfl (bN rfl) ?_;exact XI (by kernel_rfl) (Sx.t2 c4 (fun(hx0:r.okB=true∧r.pos≤n)=>(z1f hx0)) (fun(hx2:¬(r.okB=true∧r.pos≤n))=>(z3f hx2)))
theorem I8{w:World}{g gm b2 b3:Nat}{A:Option Go.Addr}{n c i:Nat}{ws:List Bs}{m:Mt}(h:OE w g gm b2 b3 A n c i ws m):Calls prog 210 #[(pt b2 0),(pt b3 0)] w (oc g gm b2 b3 A n c (cF 4 m ws i) w):=by have e1:cF 4 m ws i=(jD ws i).bind fun s j=>.ok { m with sp:=s } j:=rfl;have n1:=fun W (hL:eY W g A n c i ws)=>A7 hL;generalize cF 4 m ws i=T at e1 ⊢;generalize jD ws i=r at e1 n1;have c4:=kW 0 (lO g gm b2 b3 A n c i m.cells) [] h.u4 h.u4.le (cU e1) rfl n1;have z1f:=fun(hp:r.okB=true∧r.pos≤n)=>(show Ug g gm b2 b3 A n c T [] (lO g gm b2 b3 A n c r.pos ({ m with sp:=r.val }:Mt).cells)from⟨({ m with sp:=r.val }:Mt),r.pos,cL e1 hp.1,hp.2,rfl,rfl⟩);have z3f:=fun(_:¬(r.okB=true∧r.pos≤n))=>trivial;refine qx h [(4,.aB (iq 0 g A n c r iA))] [] (by kernel_rfl) func210 rfl (bN rfl) ?_;exact XI (by kernel_rfl) (Sx.t2 c4 (fun(hx0:r.okB=true∧r.pos≤n)=>(z1f hx0)) (fun(hx2:¬(r.okB=true∧r.pos≤n))=>(z3f hx2)))
theorem I7{w:World}{g gm b2 b3:Nat}{A:Option Go.Addr}{n c i:Nat}{ws:List Bs}{m:Mt}(h:OE w g gm b2 b3 A n c i ws m):Calls prog 211 #[(pt b2 0),(pt b3 0)] w (oc g gm b2 b3 A n c (cF 5 m ws i) w):=by have e1:cF 5 m ws i=(jD ws i).bind fun s j=>.ok { m with dp:=s } j:=rfl;have n1:=fun W (hL:eY W g A n c i ws)=>A7 hL;generalize cF 5 m ws i=T at e1 ⊢;generalize jD ws i=r at e1 n1;have c4:=kW 0 (lO g gm b2 b3 A n c i m.cells) [] h.u4 h.u4.le (cU e1) rfl n1;have z1f:=fun(hp:r.okB=true∧r.pos≤n)=>(show Ug g gm b2 b3 A n c T [] (lO g gm b2 b3 A n c r.pos ({ m with dp:=r.val }:Mt).cells)from⟨({ m with dp:=r.val }:Mt),r.pos,cL e1 hp.1,hp.2,rfl,rfl⟩);have z3f:=fun(_:¬(r.okB=true∧r.pos≤n))=>trivial;refine qx h [(4,.aB (iq 0 g A n c r iA))] [] (by kernel_rfl) func211 rfl (bN rfl) ?_;exact XI (by kernel_rfl) (Sx.t2 c4 (fun(hx0:r.okB=true∧r.pos≤n)=>(z1f hx0)) (fun(hx2:¬(r.okB=true∧r.pos≤n))=>(z3f hx2)))
set_option maxRecDepth 100000
open Go.RowKit Go.Lib Go.Sort _root_.Go.Proofs.Tryz
set_option maxRecDepth 100000
theorem El:∀(a:Fin 64) (k:Fin 6),(bits .and .u8 (a.val:Int) ((2^k.val:Nat):Int)==0)=!a.val.testBit k.val:=by decide+kernel
theorem Fk:∀(a:Fin 64) (k:Fin 6),bits .or .u8 (a.val:Int) ((2^k.val:Nat):Int)=((a.val|||2^k.val:Nat):Int):=by decide+kernel
theorem lT{a:Nat}(ha:a < 64)(k:Nat)(hk:k < 6):(bits .and .u8 (a:Int) ((2^k:Nat):Int)==0)=!a.testBit k:=El ⟨a,ha⟩ ⟨k,hk⟩
theorem rl{a:Nat}(ha:a < 64)(k:Nat)(hk:k < 6):bits .or .u8 (a:Int) ((2^k:Nat):Int)=((a|||2^k:Nat):Int):=Fk ⟨a,ha⟩ ⟨k,hk⟩
theorem J2{w:World}{g gm:Nat}{A:Option Go.Addr}{n c:Nat}{ws:List Bs}{m:Mt}{T:Out (Bool×Mt)}(h:vB w [g,gm] g A n c n ws)(hbm:aw w gm 66 m.cells)(hne:g≠gm)(hT:T=.ok (false,m) n):Calls prog 153 #[.pointer (some ⟨g,0,none⟩),.pointer (some ⟨gm,0,none⟩)] w (pX g gm A n c T w):=by have kq:XA ((n:Int)==(n:Int))=.bool true:=rY (by simp);have z0:Wd g gm A n c T [.val (.bool false)] (qP g gm A n c n m.cells):=⟨false,m,n,_,hT,XJ _,rfl,rfl⟩;refine Bq h hbm hne [ao 16 true] [] (by kernel_rfl) func153 rfl (bN rfl) ?_;exact XI (by kernel_rfl) (Xz kq z0)
theorem FW{w:World}{g gm:Nat}{A:Option Go.Addr}{n c i:Nat}{ws:List Bs}{m:Mt}{T:Out (Bool×Mt)}{x:Bs}(h:vB w [g,gm] g A n c i ws)(hbm:aw w gm 66 m.cells)(hne:g≠gm)(hx:ws[i]?=some x)(hf:x≠yK∧x≠nS∧x≠pv∧x≠gE∧x≠jh∧x≠jV)(hT:T=.ok (false,m) i):Calls prog 153 #[(pt g 0),(pt gm 0)] w (pX g gm A n c T w):=by
 have hi:i < n:=by rw[←h.jq.len];exact(Xy.1 hx).1
 obtain⟨p,hp1,hp2⟩:=h.jq.at (c:=c) hx;have hbd:=h.bd;have kq:XA ((i:Int)==(n:Int))=.bool false:=qQ (by rw[beq_eq_false_iff_ne];omega);have c25:=fun W (_:ai [g,gm] w W)=>hp1 W;have c26:=hp2;have c28:=fun W=>dR (.tmp 26) (.const (ae yK)) x yK false (decide_eq_false hf.1) W;have c31:=fun W=>dR (.tmp 26) (.const (ae nS)) x nS false (decide_eq_false hf.2.1) W;have c34:=fun W=>dR (.tmp 26) (.const (ae pv)) x pv false (decide_eq_false hf.2.2.1) W;have c37:=fun W=>dR (.tmp 26) (.const (ae gE)) x gE false (decide_eq_false hf.2.2.2.1) W;have c40:=fun W=>dR (.tmp 26) (.const (ae jh)) x jh false (decide_eq_false hf.2.2.2.2.1) W;have Ea:=fun W=>dR (.tmp 26) (.const (ae jV)) x jV false (decide_eq_false hf.2.2.2.2.2) W;have z0:Wd g gm A n c T [.val (.bool false)] (qP g gm A n c i m.cells):=⟨false,m,i,_,hT,h.le,rfl,rfl⟩;refine Bq h hbm hne [ao 16 false,(25,.any p),(26,.any (ae x)),(28,.bin (.bool false)),(31,.bin (.bool false)),(34,.bin (.bool false)),(37,.bin (.bool false)),(40,.bin (.bool false)),(43,.bin (.bool false))] [] (by kernel_rfl) func153 rfl (bN rfl) ?_;exact XI (by kernel_rfl) (Sx.t8 kq c25 c26 c28 c31 c34 c37 c40 (Xz Ea z0))
def W7:Nat→FuncId
 | 0=>204
 | 1=>206
 | 2=>207
 | 3=>208
 | 4=>210
 |_=>211
def OO:Nat→Bs
 | 0=>yK
 | 1=>nS
 | 2=>pv
 | 3=>gE
 | 4=>jh
 |_=>jV
theorem Vv:∀k,k < 6→∀j,j < 6→decide (OO k=OO j)=XD k j:=by decide
theorem I6(k:Nat)(hk:k < 6){w:World}{g gm b2 b3:Nat}{A:Option Go.Addr}{n c i:Nat}{ws:List Bs}{m:Mt}(h:OE w g gm b2 b3 A n c i ws m):Calls prog (W7 k) #[(pt b2 0),(pt b3 0)] w (oc g gm b2 b3 A n c (cF k m ws i) w):=by
 match k,hk with
 | 0,_=>exact Jc h
 | 1,_=>exact Jb h
 | 2,_=>exact Ja h
 | 3,_=>exact I9 h
 | 4,_=>exact I8 h
 | 5,_=>exact I7 h
theorem TC:∀k,k < 6→mn (OO k)=some k:=by decide
theorem Nw(k:Nat)(hk6:k < 6){w:World}{g gm:Nat}{A:Option Go.Addr}{n c i:Nat}{ws:List Bs}{m:Mt}{T:Out (Bool×Mt)}(h:vB w [g,gm] g A n c i ws)(hbm:aw w gm 66 m.cells)(hne:g≠gm)(hx:ws[i]?=some (OO k))(ha:m.asks < 64)(hT:T=match m.asks.testBit k with|true=>.no 200 (i+1)|false=>(cF k { m with asks:=m.asks|||2^k } ws (i+1)).bind fun m' j=>.ok (true,m') j):Calls prog 153 #[(pt g 0),(pt gm 0)] w (pX g gm A n c T w):=by
 have hi:i < n:=by rw[←h.jq.len];exact(Xy.1 hx).1
 obtain⟨p,hp1,hp2⟩:=h.jq.at (c:=c) hx;have hbd:=h.bd;have kq:XA ((i:Int)==(n:Int))=.bool false:=qQ (by rw[beq_eq_false_iff_ne];omega);have c25:=fun W (_:ai [g,gm] w W)=>hp1 W;have c26:=hp2;have q:=fun(t j:Nat) (_:t=26) (hj:j < 6) W=>dR (.tmp t) (.const (ae (OO j))) (OO k) (OO j) (XD k j) (Vv k hk6 j hj) W;have c49:=mW (i:=i) (by omega);have c59:XA (bits .and .u8 (m.asks:Int) ((2^k:Nat):Int)==0)=.bool (!m.asks.testBit k):=bz (lT ha k hk6);have hor:XG .u8 (bits .or .u8 (m.asks:Int) ((2^k:Nat):Int))=.int .u8 ((m.asks|||2^k:Nat):Int):=by rw[rl ha k hk6]
 obtain⟨m1,hm1⟩:∃m1:Mt,m1={ m with asks:=m.asks|||2^k }:=⟨_,rfl⟩;have n2:=fun W b2 b3 (hC:OE W g gm b2 b3 A n c (i+1) ws m1)=>I6 k hk6 hC;rw[←hm1]at hT;have eT:m.asks.testBit k=false→T=(cF k m1 ws (i+1)).bind fun m' j=>.ok (true,m') j:=fun hb=>by rw[hT,hb]
 have eN:m.asks.testBit k=true→T=.no 200 (i+1):=fun hb=>by rw[hT,hb]
 generalize cF k m1 ws (i+1)=r at n2 eT;clear hT;have c60:=kW (T:=T) 0 (qP g gm A n c (i+1) m.cells) [.bool (!m.asks.testBit k),.int .i64 200] h (j:=i+1) hi (r:=aY (!m.asks.testBit k) 200 () (i+1)) (fun code p hh=>by
  cases hb:m.asks.testBit k with
  |false=>rw[hb]at hh;cases hh
  |true=>rw[hb]at hh;injection hh with h1 h2;rw[eN hb,h1,h2]) rfl (fun W hL=>oD _ 200 () hL)
 have c66f:=fun(_:(aY (!m.asks.testBit k) 200 () (i+1)).okB=true∧(aY (!m.asks.testBit k) 200 () (i+1)).pos≤n)=>hor;have hbit:(aY (!m.asks.testBit k) 200 () (i+1)).okB=true→m.asks.testBit k=false:=fun hh=>by
  cases hb:m.asks.testBit k with
  |false=>rfl
  |true=>rw[hb]at hh;cases hh
 have hpos:(aY (!m.asks.testBit k) 200 () (i+1)).pos=i+1:=by cases m.asks.testBit k<;>rfl
 generalize aY (!m.asks.testBit k) 200 () (i+1)=r1 at c60 c66f hbit hpos;generalize (!m.asks.testBit k)=nb at c59 c60;have c70f:=fun(hp:r1.okB=true∧r1.pos≤n)=>(show ∀W (β:Sx.Env) (_:Sx.fD ⟨w,[g,gm],pW T w⟩ β W (Sx.rowAt (qP g gm A n c r1.pos m1.cells)) [0,1,2,3]),Calls prog (W7 k) (([.ptr 2 0,.ptr 3 0]:List Sx.SV).map (Sx.SV.den β)).toArray W (Sx.bK ⟨w,[g,gm],pW T w⟩ β W (Sx.rowAt (qP g gm A n c r1.pos m1.cells)) 4 (Wa g gm A n c r))from by rw[hpos];exact VK h hi (cU (eT (hbit hp.1))) n2);have z2f:=fun(hp:r1.okB=true∧r1.pos≤n) (hp2:r.okB=true∧r.pos≤n)=>(show Wd g gm A n c T [.val (.bool true)] (qP g gm A n c r.pos r.val.cells)from⟨true,r.val,r.pos,_,cL (eT (hbit hp.1)) hp2.1,hp2.2,rfl,rfl⟩);have z4f:=fun(_:¬(r1.okB=true∧r1.pos≤n))=>trivial;subst hm1;have CH:=Sx.t4 kq c25 c26 (q 26 0 rfl (by decide)) (bA.mk (b:=XM k 0) (fun _=>q 26 1 rfl (by decide)) (bA.mk (b:=XM k 1) (fun _=>q 26 2 rfl (by decide)) (bA.mk (b:=XM k 2) (fun _=>q 26 3 rfl (by decide)) (bA.mk (b:=XM k 3) (fun _=>q 26 4 rfl (by decide)) (bA.mk (b:=XM k 4) (fun _=>q 26 5 rfl (by decide)) (Sx.t4 c49 c59 c60 (fun(hx0:r1.okB=true∧r1.pos≤n)=>(Sx.t2 (c66f hx0) (c70f hx0) (fun(hx1:r.okB=true∧r.pos≤n)=>(z2f hx0 hx1)))) (fun(hx3:¬(r1.okB=true∧r1.pos≤n))=>(z4f hx3))))))));refine Bq h hbm hne [ao 16 false,(25,.any p),(26,.any (ae (OO k))),(28,.bin (.bool (XD k 0))),(31,.bin (.bool (XD k 1))),(34,.bin (.bool (XD k 2))),(37,.bin (.bool (XD k 3))),(40,.bin (.bool (XD k 4))),(43,.bin (.bool (XD k 5))),cO 49 (i+1),ao 59 nb,(60,.aB (iq 0 g A n c r1 fun _=>.tuple #[])),(66,.is (.int .u8 ((m.asks|||2^k:Nat):Int))),(70,.aB (Wa g gm A n c r))] [] (by kernel_rfl) func153 rfl (bN rfl) ?_;clear q c66f c70f z2f z4f kq c25 c26 c49 c59 c60 hor hbit hpos eT eN n2 hp1 hp2 hx;match k,hk6 with
 | 0,_=>exact XI (by kernel_rfl) CH
 | 1,_=>exact XI (by kernel_rfl) CH
 | 2,_=>exact XI (by kernel_rfl) CH
 | 3,_=>exact XI (by kernel_rfl) CH
 | 4,_=>exact XI (by kernel_rfl) CH
 | 5,_=>exact XI (by kernel_rfl) CH
theorem Ib{w:World}{g gm:Nat}{A:Option Go.Addr}{n c i:Nat}{ws:List Bs}{m:Mt}(h:vB w [g,gm] g A n c i ws)(hbm:aw w gm 66 m.cells)(hne:g≠gm)(ha:m.asks < 64):Calls prog 153 #[(pt g 0),(pt gm 0)] w (pX g gm A n c (aQ ws i m) w):=by
 have hlen:=h.jq.len;cases hx:ws[i]? with
 |none=>
  have hi:i=n:=by have:=List.getElem?_eq_none_iff.1 hx;have:=h.le;omega
  subst hi;exact J2 h hbm hne (by unfold aQ;rw[hx])
 |some x=>
  have hT:aQ ws i m=(match mn x with
   |none=>.ok (false,m) i
   |some k=>match m.asks.testBit k with
    |true=>.no 200 (i+1)
      |false=>(cF k { m with asks:=m.asks|||2^k } ws (i+1)).bind fun m' j=>.ok (true,m') j):=by unfold aQ;rw[hx];rfl
  by_cases hk:∃k,k < 6∧x=OO k
  ·obtain⟨k,hk6,rfl⟩:=hk
   rw[TC k hk6]at hT;exact Nw k hk6 h hbm hne hx ha hT
  have hf:∀k,k < 6→x≠OO k:=fun k h6 e=>hk ⟨k,h6,e⟩;have h0:=hf 0 (by decide);have h1:=hf 1 (by decide);have h2:=hf 2 (by decide);have h3:=hf 3 (by decide);have h4:=hf 4 (by decide);have h5:=hf 5 (by decide);have hf:mn x=none:=by unfold mn;exact(if_neg h0).trans ((if_neg h1).trans ((if_neg h2).trans ((if_neg h3).trans ((if_neg h4).trans (if_neg h5)))))
  rw[hf]at hT;exact FW h hbm hne hx ⟨h0,h1,h2,h3,h4,h5⟩ hT
end Go.Proofs.YtnncigmpcdehnaaGreatDoor
