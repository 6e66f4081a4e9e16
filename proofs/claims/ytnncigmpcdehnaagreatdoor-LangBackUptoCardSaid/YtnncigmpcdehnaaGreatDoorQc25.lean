import Derived.Test.YtnncigmpcdehnaaGreatDoorQc24
import Derived.ScopeJumps
namespace Go.Proofs.YtnncigmpcdehnaaGreatDoor
open Go.RowKit Go.Lib Go.Sort
def yX(x:Bs)(d:Nat):Nat:=if x=aV then d+1 else d
theorem MG{w:World}{g gc gd:Nat}{A:Option Go.Addr}{n c i:Nat}{ws:List Bs}{cf:CF}{d:Nat}{s:eJ}(h:zO w g gc gd A n c i ws cf d s) :
  Calls Tryz.prog 131 #[.pointer (some ⟨g,0,none⟩),.pointer (some ⟨gc,0,none⟩),.pointer (some ⟨gd,0,none⟩)] w (ep g gc gd A n c (oR ws i cf d) (yX (aY ws i).val d) (ns g gc gd s) w):=by
 have E1:=cy (T:=oR ws i cf d) (aY ws i) rfl
 have n12:=fun W (hL:dw W g A n c i ws)=>lY hL
 generalize aY ws i=r at E1 n12
 have no12:=aM E1
 have E2:=fun(hr:r.okB=true)=>cy (fC r.val ws r.pos cf d) (bu E1 hr)
 have key:∀{α:Type} (q:Out α) (f:α→Nat→Out CF),fC r.val ws r.pos cf d=q.bind f→r.okB=true→oR ws i cf d=q.bind fun a j=>(f a j).bind fun c j=>gy ws c j:=fun q f hb hr=>by
  rw[E2 hr,hb];exact Out.bind_assoc _ _ _
 by_cases k0:r.val=bX
 ·have hd:yX r.val d=d:=by unfold yX;rw[k0];rfl
  rw[hd]
  have E3:=fun hr=>cy (ic ws r.pos) (key (ic ws r.pos) _ (by unfold fC;rw[if_pos k0]) hr)
  have n27:=fun(_:r.okB=true) W (hL:dw W g A n c r.pos ws)=>sI hL
  generalize ic ws r.pos=r2 at E3 n27
  cases heb:decide (r2.pos < n)with
  |true=>exact GR h n12 no12 (decide_eq_true k0) n27 (fun hr=>aM (E3 hr)) (fun hr h2=>bu (E3 hr) h2) heb
  |false=>exact GS h n12 no12 (decide_eq_true k0) n27 (fun hr=>aM (E3 hr)) (fun hr h2=>bu (E3 hr) h2) heb
 by_cases k1:r.val=aT
 ·have hd:yX r.val d=d:=by unfold yX;rw[k1];rfl
  rw[hd]
  have E3:=fun hr=>cy (dD ws r.pos) (key (dD ws r.pos) _ (by unfold fC;rw[if_neg k0,if_pos k1]) hr)
  have n35:=fun(_:r.okB=true) W (hL:dw W g A n c r.pos ws)=>pU hL
  generalize dD ws r.pos=r2 at E3 n35
  have E4:=fun hr h2=>cy (ic ws r2.pos) ((bu (E3 hr) h2).trans (Out.bind_assoc (ic ws r2.pos) _ _))
  have n43:=fun(_:r.okB=true) (_:r2.okB=true) W (hL:dw W g A n c r2.pos ws)=>sI hL
  generalize ic ws r2.pos=r3 at E4 n43
  cases heb:decide (r3.pos < n)with
  |true=>exact D6 h n12 no12 (decide_eq_false k0) (decide_eq_true k1) n35 (fun hr=>aM (E3 hr)) n43 (fun hr h2=>aM (E4 hr h2)) (fun hr h2 h3=>bu (E4 hr h2) h3) heb
  |false=>exact D7 h n12 no12 (decide_eq_false k0) (decide_eq_true k1) n35 (fun hr=>aM (E3 hr)) n43 (fun hr h2=>aM (E4 hr h2)) (fun hr h2 h3=>bu (E4 hr h2) h3) heb
 by_cases k2:r.val=aH
 ·have hd:yX r.val d=d:=by unfold yX;rw[k2];rfl
  rw[hd]
  have E3:=fun hr=>cy (ed ws r.pos) (key (ed ws r.pos) _ (by unfold fC;rw[if_neg k0,if_neg k1,if_pos k2]) hr)
  have n52:=fun(_:r.okB=true) W (hL:dw W g A n c r.pos ws)=>mV hL
  generalize ed ws r.pos=r2 at E3 n52
  have E4:=fun hr h2=>cy (bw 18446744073709551615 ws r2.pos) ((bu (E3 hr) h2).trans (Out.bind_assoc (bw 18446744073709551615 ws r2.pos) _ _))
  have m1:=fun(_:r.okB=true) (_:r2.okB=true) W (hL:dw W g A n c r2.pos ws)=>ki 18446744073709551615 (by omega) hL
  generalize bw 18446744073709551615 ws r2.pos=r3 at E4 m1
  have E5:=fun hr h2 h3=>cy (bw 18446744073709551615 ws r3.pos) ((bu (E4 hr h2) h3).trans (Out.bind_assoc (bw 18446744073709551615 ws r3.pos) _ _))
  have m2:=fun(_:r.okB=true) (_:r2.okB=true) (_:r3.okB=true) W (hL:dw W g A n c r3.pos ws)=>ki 18446744073709551615 (by omega) hL
  generalize bw 18446744073709551615 ws r3.pos=r4 at E5 m2
  have E6:=fun hr h2 h3 h4=>cy (bw 18446744073709551615 ws r4.pos) ((bu (E5 hr h2 h3) h4).trans (Out.bind_assoc (bw 18446744073709551615 ws r4.pos) _ _))
  have m3:=fun(_:r.okB=true) (_:r2.okB=true) (_:r3.okB=true) (_:r4.okB=true) W (hL:dw W g A n c r4.pos ws)=>ki 18446744073709551615 (by omega) hL
  generalize bw 18446744073709551615 ws r4.pos=r5 at E6 m3
  cases heb:decide (r5.pos < n)with
  |true=>exact D8 h n12 no12 (decide_eq_false k0) (decide_eq_false k1) (decide_eq_true k2) n52 (fun hr=>aM (E3 hr)) m1 (fun hr h2=>aM (E4 hr h2)) m2 (fun hr h2 h3=>aM (E5 hr h2 h3)) m3 (fun hr h2 h3 h4=>aM (E6 hr h2 h3 h4)) (fun hr h2 h3 h4 h5=>bu (E6 hr h2 h3 h4) h5) heb
  |false=>exact D9 h n12 no12 (decide_eq_false k0) (decide_eq_false k1) (decide_eq_true k2) n52 (fun hr=>aM (E3 hr)) m1 (fun hr h2=>aM (E4 hr h2)) m2 (fun hr h2 h3=>aM (E5 hr h2 h3)) m3 (fun hr h2 h3 h4=>aM (E6 hr h2 h3 h4)) (fun hr h2 h3 h4 h5=>bu (E6 hr h2 h3 h4) h5) heb
 by_cases k3:r.val=ax
 ·have hd:yX r.val d=d:=by unfold yX;rw[k3];rfl
  rw[hd]
  have E3:=fun hr=>cy (ed ws r.pos) (key (ed ws r.pos) _ (by unfold fC;rw[if_neg k0,if_neg k1,if_neg k2,if_pos k3]) hr)
  have n84:=fun(_:r.okB=true) W (hL:dw W g A n c r.pos ws)=>mV hL
  generalize ed ws r.pos=r2 at E3 n84
  have E4:=fun hr h2=>cy (ic ws r2.pos) ((bu (E3 hr) h2).trans (Out.bind_assoc (ic ws r2.pos) _ _))
  have m1:=fun(_:r.okB=true) (_:r2.okB=true) W (hL:dw W g A n c r2.pos ws)=>sI hL
  generalize ic ws r2.pos=r3 at E4 m1
  have E5:=fun hr h2 h3=>cy (ic ws r3.pos) ((bu (E4 hr h2) h3).trans (Out.bind_assoc (ic ws r3.pos) _ _))
  have m2:=fun(_:r.okB=true) (_:r2.okB=true) (_:r3.okB=true) W (hL:dw W g A n c r3.pos ws)=>sI hL
  generalize ic ws r3.pos=r4 at E5 m2
  cases heb:decide (r4.pos < n)with
  |true=>exact AR h n12 no12 (decide_eq_false k0) (decide_eq_false k1) (decide_eq_false k2) (decide_eq_true k3) n84 (fun hr=>aM (E3 hr)) m1 (fun hr h2=>aM (E4 hr h2)) m2 (fun hr h2 h3=>aM (E5 hr h2 h3)) (fun hr h2 h3 h4=>bu (E5 hr h2 h3) h4) heb
  |false=>exact AS h n12 no12 (decide_eq_false k0) (decide_eq_false k1) (decide_eq_false k2) (decide_eq_true k3) n84 (fun hr=>aM (E3 hr)) m1 (fun hr h2=>aM (E4 hr h2)) m2 (fun hr h2 h3=>aM (E5 hr h2 h3)) (fun hr h2 h3 h4=>bu (E5 hr h2 h3) h4) heb
 by_cases k4:r.val=dB
 ·have hd:yX r.val d=d:=by unfold yX;rw[k4];rfl
  rw[hd]
  have E3:=fun hr=>cy (nu ws r.pos) (key (nu ws r.pos) _ (by unfold fC;rw[if_neg k0,if_neg k1,if_neg k2,if_neg k3,if_pos k4]) hr)
  have n110:=fun(_:r.okB=true) W (hL:dw W g A n c r.pos ws)=>J3 hL
  generalize nu ws r.pos=r2 at E3 n110
  cases heb:decide (r2.pos < n)with
  |true=>exact GP h n12 no12 (decide_eq_false k0) (decide_eq_false k1) (decide_eq_false k2) (decide_eq_false k3) (decide_eq_true k4) n110 (fun hr=>aM (E3 hr)) (fun hr h2=>bu (E3 hr) h2) heb
  |false=>exact GQ h n12 no12 (decide_eq_false k0) (decide_eq_false k1) (decide_eq_false k2) (decide_eq_false k3) (decide_eq_true k4) n110 (fun hr=>aM (E3 hr)) (fun hr h2=>bu (E3 hr) h2) heb
 by_cases k5:r.val=aV
 ·have hd:yX r.val d=d+1:=by unfold yX;rw[if_pos k5]
  rw[hd]
  have E3:=fun hr=>cy (ak (decide (d=0)) 200 () r.pos) (key (ak (decide (d=0)) 200 () r.pos) _ (by unfold fC;rw[if_neg k0,if_neg k1,if_neg k2,if_neg k3,if_neg k4,if_pos k5]) hr)
  have hd0:Value.bool (((d+1:Nat):Int)==1)=.bool (decide (d=0)):=by
   congr 1
   by_cases h0:d=0
   ·rw[h0];rfl
   ·rw[decide_eq_false h0,beq_eq_false_iff_ne];omega
  generalize decide (d=0)=d0 at E3 hd0
  have E4:=fun hr h2=>cy (ou false ws (ak d0 200 () r.pos).pos) ((bu (E3 hr) h2).trans (Out.bind_assoc (ou false ws (ak d0 200 () r.pos).pos) _ _))
  have n131:=fun(_:r.okB=true) (_:(ak d0 200 () r.pos).okB=true) W (hL:dw W g A n c (ak d0 200 () r.pos).pos ws)=>uL false hL
  generalize ou false ws (ak d0 200 () r.pos).pos=r2 at E4 n131
  cases heb:decide (r2.pos < n)with
  |true=>exact yB h n12 no12 (decide_eq_false k0) (decide_eq_false k1) (decide_eq_false k2) (decide_eq_false k3) (decide_eq_false k4) (decide_eq_true k5) hd0 (fun hr=>aM (E3 hr)) n131 (fun hr h2=>aM (E4 hr h2)) (fun hr h2 h3=>bu (E4 hr h2) h3) heb
  |false=>exact yC h n12 no12 (decide_eq_false k0) (decide_eq_false k1) (decide_eq_false k2) (decide_eq_false k3) (decide_eq_false k4) (decide_eq_true k5) hd0 (fun hr=>aM (E3 hr)) n131 (fun hr h2=>aM (E4 hr h2)) (fun hr h2 h3=>bu (E4 hr h2) h3) heb
 ·have hd:yX r.val d=d:=by unfold yX;rw[if_neg k5]
  rw[hd]
  refine GU h n12 no12 (decide_eq_false k0) (decide_eq_false k1) (decide_eq_false k2) (decide_eq_false k3) (decide_eq_false k4) (decide_eq_false k5) fun hr=>?_
  rw[E2 hr]
  unfold fC
  rw[if_neg k0,if_neg k1,if_neg k2,if_neg k3,if_neg k4,if_neg k5]
  rfl
open Go.RowKit Go.Lib Go.Sort
def sB(c:UInt8):Bool:=c==32||c==9
def wC(cm:Bool)(c:UInt8):Bool:=!sB c&&!(cm&&c==35)
def runN(p:UInt8→Bool)(s:Bs)(i:Nat):Nat:=i+((s.drop i).takeWhile p).length
theorem cK(p:UInt8→Bool)(s:Bs)(i:Nat):i≤runN p s i:=Nat.le_add_right _ _
theorem Fb(p:UInt8→Bool):∀l:Bs,(l.takeWhile p).length≤l.length
 | []=>by simp
 |c::l=>by
  rw[List.takeWhile_cons]
  split
  ·have:=Fb p l;simp;omega
  ·simp
theorem jx(p:UInt8→Bool)(s:Bs)(i:Nat)(hi:i≤s.length):runN p s i≤s.length:=by
 have:=Fb p (s.drop i)
 rw[List.length_drop]at this
 unfold runN;omega
theorem Ll(p:UInt8→Bool):∀(l:Bs) (j:Nat),j < (l.takeWhile p).length→∃c,l[j]?=some c∧p c=true
 | [],j,h=>by simp at h
 |c::l,j,h=>by
  rw[List.takeWhile_cons]at h
  split at h
  ·rename_i hc
   cases j with
   |zero=>exact⟨c,rfl,hc⟩
   |succ j=>exact Ll p l j (by simpa using h)
  ·simp at h
theorem Fa(p:UInt8→Bool):∀(l:Bs),(l.takeWhile p).length < l.length→∃c,l[(l.takeWhile p).length]?=some c∧p c=false
 | [],h=>by simp at h
 |c::l,h=>by
  rw[List.takeWhile_cons]at h ⊢
  by_cases hc:p c=true
  ·rw[if_pos hc]at h ⊢
   have:=Fa p l (by simpa using h)
   simpa using this
  ·rw[if_neg hc]
   exact⟨c,rfl,by simpa using hc⟩
theorem vC{p:UInt8→Bool}{s:Bs}{i j:Nat}(h1:i≤j)(h2:j < runN p s i):∃c,s[j]?=some c∧p c=true:=by
 obtain⟨c,h,hp⟩:=Ll p (s.drop i) (j - i) (by unfold runN at h2; omega)
 rw[List.getElem?_drop,show i+(j - i)=j by omega]at h
 exact⟨c,h,hp⟩
theorem iZ{p:UInt8→Bool}{s:Bs}{i:Nat}(hi:i≤s.length)(h:runN p s i < s.length):∃c,s[runN p s i]?=some c∧p c=false:=by
 obtain⟨c,h1,hp⟩:=Fa p (s.drop i) (by rw[List.length_drop];unfold runN at h;omega)
 rw[List.getElem?_drop]at h1
 exact⟨c,h1,hp⟩
theorem oE{p:UInt8→Bool}{s:Bs}{i:Nat}{c:UInt8}(h:s[i]?=some c)(hp:p c=true):i < runN p s i:=by
 have hl:=(List.getElem?_eq_some_iff.1 h).1
 have e:s.drop i=c::s.drop (i+1):=by
  obtain⟨h1,rfl⟩:=List.getElem?_eq_some_iff.1 h
  exact List.drop_eq_getElem_cons h1
 unfold runN
 rw[e,List.takeWhile_cons,if_pos hp]
 simp
theorem qc(cm:Bool):∀(l:Bs),bY cm [] l=bY cm [] (l.drop (l.takeWhile sB).length)
 | []=>rfl
 |c::l=>by
  rw[List.takeWhile_cons]
  by_cases hc:sB c=true
  ·rw[if_pos hc,List.length_cons,List.drop_succ_cons,←qc cm l]
   have h1:c=32∨c=9:=by
    unfold sB at hc
    rw[Bool.or_eq_true,beq_iff_eq,beq_iff_eq]at hc
    exact hc
   have h2:c≠35:=by rcases h1 with rfl|rfl<;>decide
   conv=>lhs;unfold bY
   rw[if_neg (by simp[h2]),if_pos h1,if_pos rfl]
  ·rw[if_neg hc];rfl
theorem q9(cm:Bool):∀(l cur:Bs),cur≠[]→bY cm cur l=(cur++l.takeWhile (wC cm))::bY cm [] (l.drop (l.takeWhile (wC cm)).length)
 | [],cur,h=>by simp[bY,h]
 |c::l,cur,h=>by
  rw[List.takeWhile_cons]
  by_cases hc:wC cm c=true
  ·rw[if_pos hc,List.length_cons,List.drop_succ_cons]
   have ih:=q9 cm l (cur++[c]) (by simp)
   rw[List.append_assoc]at ih
   have hcc:=hc
   unfold wC sB at hc
   rw[Bool.and_eq_true,Bool.not_eq_true',Bool.not_eq_true',Bool.or_eq_false_iff,beq_eq_false_iff_ne,beq_eq_false_iff_ne,Bool.and_eq_false_iff,beq_eq_false_iff_ne]at hc
   conv=>lhs;unfold bY
   rw[if_neg (by rcases hc.2 with h|h<;>simp[h]),if_neg (by simp[hc.1.1,hc.1.2])]
   exact ih
  ·rw[if_neg hc]
   simp only[List.append_nil,List.length_nil,List.drop_zero]
   unfold bY
   by_cases h35:cm=true∧c=35
   ·rw[if_pos h35,if_neg h,if_pos h35,if_pos rfl]
   ·rw[if_neg h35,if_neg h35]
    have h1:c=32∨c=9:=by
     have h2:sB c=true:=by
      cases hs:sB c with
      |true=>rfl
      |false=>
       exfalso
       apply hc
       unfold wC
       rw[hs]
       cases cm with
       |false=>rfl
       |true=>
        have:c≠35:=fun h=>h35 ⟨rfl,h⟩
        simp[this]
     unfold sB at h2
     rw[Bool.or_eq_true,beq_iff_eq,beq_iff_eq]at h2
     exact h2
    rw[if_pos h1,if_pos h1,if_neg h,if_pos rfl]
def lk(cm:Bool)(s:Bs)(i:Nat):List Bs:=bY cm [] (s.drop i)
theorem kC(cm:Bool)(s:Bs)(i:Nat):lk cm s i=lk cm s (runN sB s i):=by
 unfold lk runN
 rw[qc,List.drop_drop]
theorem mD(cm:Bool)(s:Bs):lk cm s s.length=[]:=by
 unfold lk
 rw[List.drop_length];rfl
theorem rl(s:Bs)(i:Nat)(h:s[i]?=some 35):lk true s i=[]:=by
 unfold lk
 have e:s.drop i=35::s.drop (i+1):=by
  obtain⟨h1,h2⟩:=List.getElem?_eq_some_iff.1 h
  rw[←h2];exact List.drop_eq_getElem_cons h1
 rw[e]
 unfold bY
 rw[if_pos ⟨rfl,rfl⟩,if_pos rfl]
theorem kB(cm:Bool)(s:Bs)(i:Nat){c:UInt8}(h:s[i]?=some c)(hc:wC cm c=true):lk cm s i=(s.take (runN (wC cm) s i)).drop i::lk cm s (runN (wC cm) s i):=by
 unfold lk
 have e:s.drop i=c::s.drop (i+1):=by
  obtain⟨h1,h2⟩:=List.getElem?_eq_some_iff.1 h
  rw[←h2];exact List.drop_eq_getElem_cons h1
 have e1:bY cm [] (c::s.drop (i+1))=bY cm [c] (s.drop (i+1)):=by
  have hcc:=hc
  unfold wC sB at hcc
  rw[Bool.and_eq_true,Bool.not_eq_true',Bool.not_eq_true',Bool.or_eq_false_iff,beq_eq_false_iff_ne,beq_eq_false_iff_ne,Bool.and_eq_false_iff,beq_eq_false_iff_ne]at hcc
  conv=>lhs;unfold bY
  rw[if_neg (by rcases hcc.2 with h|h<;>simp[h]),if_neg (by simp[hcc.1.1,hcc.1.2])]
  rfl
 have e2:(s.drop i).takeWhile (wC cm)=c::(s.drop (i+1)).takeWhile (wC cm):=by rw[e,List.takeWhile_cons,if_pos hc]
 have e3:(s.take (runN (wC cm) s i)).drop i=(s.drop i).takeWhile (wC cm):=by
  unfold runN
  rw[List.drop_take,show i+((s.drop i).takeWhile (wC cm)).length - i=((s.drop i).takeWhile (wC cm)).length by omega]
  generalize s.drop i=l
  induction l with
  |nil=>rfl
  |cons a l ih=>
   rw[List.takeWhile_cons]
   split
   ·rw[List.length_cons,List.take_succ_cons,ih]
   ·rfl
 rw[e3,e2]
 conv=>lhs;rw[e,e1,q9 cm _ _ (by simp)]
 unfold runN
 rw[e2,List.length_cons,List.drop_drop]
 congr 3
 omega
open Go.RowKit Go.Lib Go.Sort
theorem KF(l:List UInt8)(a b:Nat):(⟨l.toArray⟩:ByteArray).extract a b=⟨((l.take b).drop a).toArray⟩:=by
 apply ByteArray.ext
 simp[List.extract_eq_take_drop,List.drop_take]
def dd(s:List UInt8):Int:=Lib.index s [58,58]
open Go Go.RowKit Go.Lib Go.Sort
theorem oN{p:Nat→Prop}(h:∃m,p m):∃m,p m∧∀m',p m'→m≤m':=by
 obtain⟨m,hm⟩:=h
 induction m using Nat.strongRecOn with
 |_ m ih=>
  by_cases hx:∃m',m' < m∧p m'
  ·obtain⟨m',h1,h2⟩:=hx
   exact ih m' h1 h2
  ·exact⟨m,hm,fun m' h'=>Nat.le_of_not_lt fun hlt=>hx ⟨m',hlt,h'⟩⟩
theorem q8{P:Program}{Q:Exit→Act→World→Prop}{a:Act}{w:World}{c rest:Code}(l:Nat)(J:Nat→Act→World→Prop)(hf:findLabel c l=some rest)
  (first:c.wp P (Exit.jump l (fun a w=>∃m,J m a w) Q) a w)
  (pass:∀m a w,J m a w→rest.wp P (Exit.jump l (fun a' w'=>∃m',m' < m∧J m' a' w') Q) a w):(Code.scope c).wp P Q a w:=by
 classical
 let μ:Act→World→Nat:=fun a w=>if h:∃m,J m a w then(oN h).choose else 0
 have hμ:∀a w m,J m a w→μ a w≤m∧J (μ a w) a w:=fun a w m hm=>by
  have h:∃m,J m a w:=⟨m,hm⟩
  have e:μ a w=(oN h).choose:=dif_pos h
  rw[e]
  exact⟨(oN h).choose_spec.2 m hm,(oN h).choose_spec.1⟩
 refine wp_scope_jumps l (fun a w=>∃m,J m a w) μ hf first fun a w ⟨m,hm⟩=>?_
 refine Code.wp_mono (fun e a' w' hq=>?_) (pass (μ a w) a w (hμ a w m hm).2)
 cases e with
 |goto l'=>
  obtain⟨he,m',hlt,hj⟩:=hq
  exact⟨he,⟨m',hj⟩,Nat.lt_of_le_of_lt (hμ a' w' m' hj).1 hlt⟩
 |normal=>exact hq
 |exit id=>exact hq
 |ret=>exact hq
 |panic ch=>exact hq
 |outgrown=>exact hq
namespace Sx
def yr{κ:Type}(l:Nat)(R:κ→Prop)(fr:κ→List (Nat×SV))(mem:κ→List Row)(M:Prop)(k:κ)(K:Exit→St→Prop):Exit→St→Prop
 |.goto l',st=>match Nat.beq l' l with
  |true=>M∧R k∧zH st (fr k) (mem k)
  |false=>cC st
 |e,st=>K e st
def Kj(c:Code)(l:Nat):Code:=(findLabel c l).getD .skip
def BT:Code→Code
 |.seq _ (.scope c)=>c
 |_=>.skip
def MH:Code→Code
 |.seq a _=>a
 |_=>.skip
section
variable{P:Program}{w0:a7}{ds:List Deferred}{n:Nat}
theorem uM{κ:Type}{l:Nat}{R:κ→Prop}{fr:κ→List (Nat×SV)}{mem:κ→List Row}{M:Prop}{k:κ}{K:Exit→St→Prop}{e:Exit}{a:Act}{w:World}{J:Act→World→Prop}
  (h:lift ds w0 n (yr l R fr mem M k K) e a w) (hJ:∀β,M→R k→Hd ds w0 n β ⟨fr k,mem k⟩ a w→J a w):Exit.jump l J (lift ds w0 n K) e a w:=by
 cases e with
 |goto l'=>
  obtain⟨β,st,hk,h'⟩:=h
  simp only[yr]at hk
  split at hk
  ·rename_i hb
   obtain⟨hm,hr,hs⟩:=hk
   obtain⟨β2,h2⟩:=h'.same hs
   exact⟨Nat.eq_of_beq_eq_true hb,hJ β2 hm hr h2⟩
  ·exact nomatch hk
 |normal=>exact h
 |exit id=>exact h
 |ret=>exact h
 |panic ch=>exact h
 |outgrown=>exact h
theorem Bh{w:World}{f:FuncId}{fn:Func}{a0 c rest:Code}{S:List Nat}{PP:List PanicEntry→World→Prop}{β:Env}{mem:List Row}{args:List SV}{R:List SV→List Row→Prop}(hF:Rows ⟨w,S,PP⟩ β w mem)
  {κ:Type} (l:Nat) (k0:κ) (Rk:κ→Prop) (frk:κ→List (Nat×SV)) (memk:κ→List Row) (next:κ→κ) (μ:κ→Nat)
  (H0 H:List (Nat×Hint)) (L:List Loop) (hm:P.follows .mixedOrders=true) (hf:P.funcs[f]?=some fn) (hb:fn.body=some (.seq a0 (.scope c))) (hl:findLabel c l=some rest) (hn:args.length≤fn.ntmps) (hw:(eb (fun r=>iK mem.length r.cs) mem&&eb (tV mem.length) args)=true)
  (pass:∀k,Rk k→∃H' L',iz P fn.ntmps ⟨w,S,PP⟩ rest H' L' ⟨frk k,memk k⟩ (yr l Rk frk memk (μ (next k) < μ k) (next k) (bN P fn R)))
  (first:iz P fn.ntmps ⟨w,S,PP⟩ a0 H0 [] ⟨lu 0 args,mem⟩ (fun e st=>match e with | .normal=>iz P fn.ntmps ⟨w,S,PP⟩ c H L st (yr l Rk frk memk True k0 (bN P fn R))|_=>False)) :
  Calls P f (args.map (SV.den β)).toArray w (bJ ⟨w,S,PP⟩ R):=by
 rw[Bool.and_eq_true]at hw
 have start:Hd [] ⟨w,S,PP⟩ fn.ntmps β ⟨lu 0 args,mem⟩ { tmps:=(args.map (SV.den β)).toArray++Array.replicate (fn.ntmps - (args.map (SV.den β)).toArray.size) undef,defers:=[] } w:=by
  refine⟨by simp;omega,rfl,fun t sv ht=>?_,hF.held,hF.new,hF.inj,hF.az,fun t sv ht=>?_,fun i r hi=>?_⟩
  ·obtain⟨_,hv⟩:=fM ht
   have hlt:t < args.length:=(List.getElem?_eq_some_iff.1 hv).1
   rw[Array.getElem?_append_left (by simpa using hlt)]
   simp only[Nat.sub_zero]at hv
   simp[hv]
  ·obtain⟨_,hv⟩:=fM ht
   exact kG (aP hw.2 sv (List.mem_of_getElem? hv))
  ·exact gO (aP hw.1 r (List.mem_of_getElem? hi))
 refine calls_of_wp hf hb ?_
 refine wp_seq (Code.wp_mono (fun e a' w' hq=>?_) (fT hm a0 H0 [] _ _ β _ w start first))
 cases e with
 |normal=>
  obtain⟨β',st',hk,h'⟩:=hq
  have main:(Code.scope c).wp P (lift [] ⟨w,S,PP⟩ fn.ntmps (bN P fn R)) a' w':=by
   refine q8 l (fun m a w'=>∃β k,μ k=m∧Rk k∧Hd [] ⟨w,S,PP⟩ fn.ntmps β ⟨frk k,memk k⟩ a w') hl ?_ ?_
   ·exact Code.wp_mono (fun e a2 w2 hq=>uM hq fun β2 _ hr h2=>⟨μ k0,β2,k0,rfl,hr,h2⟩) (fT hm c H L st' _ β' a' w' h' hk)
   ·rintro m a2 w2 ⟨β2,k,rfl,hr,h2⟩
    obtain⟨H',L',hp⟩:=pass k hr
    exact Code.wp_mono (fun e a3 w3 hq=>uM hq fun β3 hlt hr3 h3=>⟨μ (next k),hlt,β3,next k,rfl,hr3,h3⟩) (fT hm rest H' L' _ _ β2 a2 w2 h2 hp)
  exact Code.wp_mono (fun e a w hq=>vh hq) main
 |exit id=>obtain⟨_,_,hk,_⟩:=hq;exact hk.elim
 |goto l=>obtain⟨_,_,hk,_⟩:=hq;exact hk.elim
 |ret=>obtain⟨_,_,hk,_⟩:=hq;exact hk.elim
 |panic ch=>exact⟨hq.1,.inr ⟨ch,rfl,hq.2⟩⟩
 |outgrown=>obtain⟨_,_,hk,_⟩:=hq;exact hk.elim
end
end Sx
end Go.Proofs.YtnncigmpcdehnaaGreatDoor
