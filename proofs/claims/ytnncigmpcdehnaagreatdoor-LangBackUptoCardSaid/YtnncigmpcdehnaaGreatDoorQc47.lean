import Derived.Test.YtnncigmpcdehnaaGreatDoorQc46
namespace Go.Proofs.YtnncigmpcdehnaaGreatDoor
open Go.RowKit Go.Lib Go.Sort
theorem u6{b:Nat}(hb:2≤b):∀(k u:Nat),u < b^(k+1)→(au b u).length≤k+1
 | 0,u,h=>by rw[bT (by simpa using h)];exact Nat.le_refl _
 |k+1,u,h=>by
  by_cases hu:u < b
  ·rw[bT hu];show 1≤_;omega
  ·rw[eB hb hu,List.length_append]
   have h2:u / b < b^(k+1):=by
    rw[Nat.div_lt_iff_lt_mul (by omega),←Nat.pow_succ];exact h
   have:=u6 hb k (u / b) h2
   show _+1≤_
   omega
theorem od{u:Nat}(h:u≤18446744073709551615):(au 10 u).length≤20:=u6 (by omega) 19 u (by omega)
theorem uO{n:Int}(h:nD n):(cn n).length≤21:=by
 unfold nD at h
 unfold cn
 split
 ·have:=od (u:=n.natAbs) (by omega)
  rw[List.length_cons];omega
 ·have:=od (u:=n.toNat) (by omega)
  omega
theorem k6(c:UInt8)(N k:Nat)(xs:List Bs)(hk:xs.length≤k)(h:∀x∈xs,x.length≤N):(aJ c xs).length≤k*(N+1):=
 Nat.le_trans (nX c N xs h) (Nat.mul_le_mul_right _ hk)
theorem pZ{l:List Nat}(hl:l.length≤8)(h:∀x∈l,x < 65536):(cV l).length≤40:=by
 unfold cV
 refine k6 58 4 8 _ (by rw[List.length_map];exact hl) fun x hx=>?_
 obtain⟨y,hy,rfl⟩:=List.mem_map.1 hx
 exact jh (h y hy)
theorem sX(n:Nat):∀x∈bK n,x < 65536:=fun x hx=>by
 simp only[bK,List.mem_cons,List.not_mem_nil,or_false]at hx
 rcases hx with h|h|h|h|h|h|h|h<;>rw[h]<;>exact GZ _ _
theorem zT(v:Bool)(n:Nat):(iW v n).length≤82:=by
 unfold iW
 split
 ·unfold dx
  split
  ·have:=pZ (l:=bK n) (Nat.le_refl 8) (sX n)
   omega
  ·have h1:=pZ (l:=(bK n).take (fO (zs (bK n))).1) (by rw[List.length_take];show min _ 8≤8;omega) fun x hx=>sX n x (List.mem_of_mem_take hx)
   have h2:=pZ (l:=(bK n).drop (fO (zs (bK n))).2) (by rw[List.length_drop]; show 8 - _≤8; omega) fun x hx=>sX n x (List.mem_of_mem_drop hx)
   simp only[List.length_append,List.length_cons];omega
 ·unfold gB
  refine Nat.le_trans (k6 46 3 4 _ (Nat.le_refl 4) fun x hx=>?_) (by decide)
  have d:∀i,(au 10 (ao n i)).length≤3:=fun i=>gM (by have:=bR n i;omega)
  simp only[List.mem_cons,List.not_mem_nil,or_false]at hx
  rcases hx with h|h|h|h<;>rw[h]<;>exact d _
theorem BG(v:Bool):wid v≤128:=by cases v<;>decide
theorem rT(p:Px):(rU p).length≤100:=by
 unfold rU rY
 split
 ·rename_i h
  unfold gr at h
  simp only[Bool.and_eq_true,decide_eq_true_eq]at h
  have:=BG p.v
  have h1:=zT p.v p.n
  have h2:=gM (u:=p.k.toNat) (by omega)
  unfold oz
  simp only[List.length_append,List.length_cons];omega
 ·exact Nat.zero_le _
theorem qp{m:Mt}(h:m.Wf):(fJ m).length≤12∧∀x∈fJ m,x.length≤100:=by
 have f:∀k,(lR m k).length≤2∧∀x∈lR m k,x.length≤100:=fun k=>by
  unfold lR
  split
  ·have hi:=j0 m.fU h.fU.1 h.fU.2
   have hs:=j0 m.sp h.sp.1 h.sp.2
   have hd:=j0 m.dp h.dp.1 h.dp.2
   have hp:=uw m.bS h.pr
   have p1:=rT m.src
   have p2:=rT m.dst
   unfold bF
   have two:∀(a b:Bs),a.length≤100→b.length≤100→([a,b]:List Bs).length≤2∧∀x∈[a,b],x.length≤100:=fun a b ha hb=>⟨Nat.le_refl _,fun x hx=>by
    simp only[List.mem_cons,List.not_mem_nil,or_false]at hx
    rcases hx with h|h<;>rw[h]<;>assumption⟩
   split<;>exact two _ _ (by decide) (by omega)
  ·exact⟨by decide,fun x hx=>by cases hx⟩
 refine⟨?_,fun x hx=>?_⟩
 ·have:=(f 0).1;have:=(f 1).1;have:=(f 2).1;have:=(f 3).1;have:=(f 4).1;have:=(f 5).1
  unfold fJ
  simp only[List.length_append];omega
 ·unfold fJ at hx
  simp only[List.mem_append]at hx
  rcases hx with((((h|h)|h)|h)|h)|h
  ·exact(f 0).2 x h
  ·exact(f 1).2 x h
  ·exact(f 2).2 x h
  ·exact(f 3).2 x h
  ·exact(f 4).2 x h
  ·exact(f 5).2 x h
theorem Cf{m:Mt}(h:m.Wf):(xI m).length≤1212:=by
 unfold xI
 split
 ·unfold eK
  split
  ·decide
  ·exact k6 32 100 12 _ (qp h).1 (qp h).2
 ·exact Nat.zero_le _
theorem mW{ws:List Bs}{M:Nat}(hn:ws.length≤12)(h:∀x∈ws,x.length≤1212+M):(fV ws).length≤12*(1213+M)+1:=by
 have:=k6 32 (1212+M) 12 ws hn h
 unfold fV
 rw[List.length_append,List.length_singleton];omega
theorem sK{B:Nat}:∀l:List (List Bs),(∀ws∈l,(fV ws).length≤B)→(cY l).length≤l.length*B
 | [],_=>Nat.zero_le _
 |ws::l,h=>by
  have h1:=h ws (by simp)
  have h2:=sK l fun x hx=>h x (List.mem_cons_of_mem _ hx)
  show(fV ws++cY l).length≤_
  rw[List.length_append,List.length_cons,Nat.add_mul];omega
structure NA(cf:CF)(M:Nat):Prop where
 m:∀x∈cf.af,x.name.length≤M
 i:∀x∈cf.aa,x.name.length≤M
 r:∀x∈cf.rules,x.name.length≤M∧x.df.length≤M∧x.bZ.length≤M
theorem vl{a o:Int}(h:nD o):(aZ a o).length≤2∧∀x∈aZ a o,x.length≤21:=by
 have hi:=uO h
 unfold aZ
 split
 ·exact⟨by decide,fun x hx=>by rw[List.mem_singleton.1 hx];decide⟩
 split
 ·exact⟨by decide,fun x hx=>by rw[List.mem_singleton.1 hx];decide⟩
 split
 ·refine⟨Nat.le_refl 2,fun x hx=>?_⟩
  simp only[List.mem_cons,List.not_mem_nil,or_false]at hx
  rcases hx with h|h<;>rw[h]
  ·decide
  ·exact hi
 split
 ·exact⟨by decide,fun x hx=>by rw[List.mem_singleton.1 hx];decide⟩
 ·exact⟨by decide,fun x hx=>by cases hx⟩
theorem uD{k s:Bs}{M:Nat}(hk:k.length≤21)(h:s.length≤M):(de k s).length≤2∧∀x∈de k s,x.length≤21+M:=by
 unfold de
 split
 ·exact⟨by simp,fun x hx=>by cases hx⟩
 ·refine⟨Nat.le_refl 2,fun x hx=>?_⟩
  simp only[List.mem_cons,List.not_mem_nil,or_false]at hx
  rcases hx with h|h<;>rw[h]<;>omega
theorem rI{r:Rl}{M:Nat}(h:r.Wf)(hm:r.name.length≤M∧r.df.length≤M∧r.bZ.length≤M):(dJ r).length≤12∧∀x∈dJ r,x.length≤1212+M:=by
 obtain⟨a1,a2⟩:=vl (a:=r.act) h.o
 obtain⟨b1,b2⟩:=uD (k:=aH) (by decide) hm.2.1
 obtain⟨c1,c2⟩:=uD (k:=ax) (by decide) hm.2.2
 have hp:=Cf h.m
 refine⟨?_,fun x hx=>?_⟩
 ·unfold dJ
  simp only[List.length_append,List.length_cons,List.length_nil];omega
 ·unfold dJ at hx
  simp only[List.mem_append,List.mem_cons,List.not_mem_nil,or_false]at hx
  rcases hx with(((h|h|h|h)|h)|h)|h
  ·rw[h];show 4≤_;omega
  ·rw[h];omega
  ·rw[h];omega
  ·rw[h];show 2≤_;omega
  ·have:=a2 x h;omega
  ·have:=b2 x h;omega
  ·have:=c2 x h;omega
theorem Be{cf:CF}{M N:Nat}(hw:dL cf)(hm:NA cf M)(hn:M3 cf≤N):(cJ cf).length≤(N+1)*(12*(1213+M)+1):=by
 have B:∀ws∈jL cf,(fV ws).length≤12*(1213+M)+1:=fun ws hws=>by
  unfold jL at hws
  simp only[List.mem_append,List.mem_map,List.mem_singleton]at hws
  have c2:∀(a b:Bs),a.length≤1212+M→b.length≤1212+M→(fV [a,b]).length≤12*(1213+M)+1:=fun a b h1 h2=>mW (by simp) (by simp[h1,h2])
  have c3:∀(a b c:Bs),a.length≤1212+M→b.length≤1212+M→c.length≤1212+M→(fV [a,b,c]).length≤12*(1213+M)+1:=fun a b c h1 h2 h3=>mW (by simp) (by simp[h1,h2,h3])
  have c4:∀(a b c d:Bs),a.length≤1212+M→b.length≤1212+M→c.length≤1212+M→d.length≤1212+M→(fV [a,b,c,d]).length≤12*(1213+M)+1:=fun a b c d h1 h2 h3 h4=>mW (by simp) (by simp[h1,h2,h3,h4])
  have c5:∀(a b c d e:Bs),a.length≤1212+M→b.length≤1212+M→c.length≤1212+M→d.length≤1212+M→e.length≤1212+M→(fV [a,b,c,d,e]).length≤12*(1213+M)+1:=fun a b c d e h1 h2 h3 h4 h5=>mW (by simp) (by simp[h1,h2,h3,h4,h5])
  have k:∀(x:Bs),x.length≤10→x.length≤1212+M:=fun x h=>by omega
  have it:∀{n:Int},nD n→(cn n).length≤1212+M:=fun h=>by have:=uO h;omega
  have dg:∀{n:Nat},n≤18446744073709551615→(au 10 n).length≤1212+M:=fun h=>by have:=od h;omega
  rcases hws with((((⟨n,h,rfl⟩ | ⟨n,h,rfl⟩)|⟨n,h,rfl⟩)|⟨n,h,rfl⟩)|⟨n,h,rfl⟩)|rfl
  ·exact c2 _ _ (k _ (by decide)) (it (hw.p n h))
  ·exact c3 _ _ _ (k _ (by decide)) (by have:=rT n.pf;omega) (it (hw.r n h).o)
  ·have:=hm.m n h
   exact c5 _ _ _ _ _ (k _ (by decide)) (by omega) (dg (hw.m n h).a) (dg (hw.m n h).b) (dg (hw.m n h).c)
  ·have:=hm.i n h
   exact c4 _ _ _ _ (k _ (by decide)) (by omega) (it (hw.i n h).o) (it (hw.i n h).r)
  ·exact mW (rI (hw.l n h) (hm.r n h)).1 (rI (hw.l n h) (hm.r n h)).2
  ·obtain⟨a1,a2⟩:=vl (a:=cf.a8) (o:=0) (by unfold nD;decide)
   refine mW (by unfold iA;rw[List.length_cons];omega) fun x hx=>?_
   unfold iA at hx
   rcases List.mem_cons.1 hx with h|h
   ·rw[h];exact k _ (by decide)
   ·have:=a2 x h;omega
 have h:=sK (jL cf) B
 refine Nat.le_trans h (Nat.mul_le_mul_right _ ?_)
 unfold jL
 simp only[List.length_append,List.length_map,List.length_singleton]
 unfold M3 at hn
 omega
theorem gL{s:Bs}(h:aG s=true):s.length≤16:=by
 unfold aG at h
 simp only[Bool.and_eq_true,decide_eq_true_eq]at h
 exact h.1.2
theorem oM{s:Bs}(h:jt s=true):s.length≤16:=by
 unfold jt at h
 rw[Bool.or_eq_true]at h
 rcases h with h|h
 ·rw[of_decide_eq_true h];decide
 ·exact gL h
theorem Cl{v:Bool}{n:Nat}{k:Int}(h:gr v n k=true):nD k:=by
 unfold gr at h
 simp only[Bool.and_eq_true,decide_eq_true_eq]at h
 have:=BG v
 unfold nD;omega
theorem Et{m:Mt}(h:zI m)(hc:bj m=true):m.Wf:=by
 unfold bj at hc
 simp only[Bool.and_eq_true,Bool.or_eq_true,decide_eq_true_eq,Bool.not_eq_true']at hc
 have kx:∀{p:Px} {b:Bool},(b=true∨zL p=true)→(b=false∨gr p.v p.n p.k=true) → -9223372036854775808≤p.k∧p.k≤9223372036854775807:=by
  intro p b h1 h2
  cases b with
  |true=>rcases h2 with h2|h2;exact absurd h2 (by decide);exact Cl h2
  |false=>
   rcases h1 with h1|h1
   ·exact absurd h1 (by decide)
   ·have:=(of_decide_eq_true h1).2.2
    omega
 exact⟨by omega,h.sn,kx hc.1.2.2.1 hc.2.2.1.1,h.dn,kx hc.1.2.2.2.1 hc.2.2.1.2.1,⟨h.i1,h.i2⟩,⟨h.s1,h.s2⟩,⟨h.d1,h.d2⟩,h.pr⟩
theorem ov.wf{cf:CF}(h:ov cf):dL cf∧NA cf 16:=by
 have i:∀n:Int,0≤n→n≤9223372036854775807→nD n:=fun n h1 h2=>by unfold nD;omega
 refine⟨⟨fun n hn=>i n (h.ag n hn).1 (h.ag n hn).2,fun r hr=>?_,fun r hr=>?_,fun m hm=>?_,fun m hm=>?_,?_⟩,⟨fun m hm=>gL (h.af m hm).1,fun m hm=>gL (h.aa m hm).1,fun r hr=>?_⟩⟩
 ·obtain⟨a,b,c,d⟩:=h.ae r hr
  exact⟨a,Cl b,i _ c d⟩
 ·obtain⟨a,b,c,d,e,f⟩:=h.rules r hr
  have h1:=gL c;have h2:=oM e;have h3:=oM f
  have ha:=d
  unfold my at ha
  simp only[Bool.and_eq_true,decide_eq_true_eq]at ha
  have:=a.out
  exact⟨by unfold maxLen;omega,Et a.mt b,by unfold nD;omega,by unfold nD;omega,by unfold maxLen;omega,by unfold maxLen;omega⟩
 ·obtain⟨a,b,c,d⟩:=h.af m hm
  have h1:=gL a
  exact⟨by unfold maxLen;omega,b,c,d⟩
 ·obtain⟨a,b,c,d,e⟩:=h.aa m hm
  have h1:=gL a
  exact⟨by unfold maxLen;omega,i _ b c,i _ d e⟩
 ·rcases h.a8 with h|h|h<;>rw[h]<;>(unfold nD;omega)
 ·obtain⟨_,_,c,_,e,f⟩:=h.rules r hr
  exact⟨gL c,oM e,oM f⟩
theorem Aj(hU:EN){cf:CF}(ok:ov cf):(dt cf=([],4)∧ly cf≠0)∨(dt cf=(cJ cf,0)∧gD (cJ cf)=.ok cf):=by
 have he:=(tB ok.in).2 ok
 by_cases hl:(cJ cf).length≤65536
 ·right
  have h:ly cf=0:=by unfold ly;rw[he,decide_eq_true hl];rfl
  refine⟨by unfold dt;rw[if_pos h],?_⟩
  unfold gD
  rw[if_neg (by omega)]
  exact Ik hU ok
 ·left
  have h:ly cf=4:=by unfold ly;rw[he,decide_eq_false hl];rfl
  refine⟨by unfold dt;rw[h,if_neg (by decide)],by rw[h];decide⟩
open Go Go.RowKit Go.Lib Go.Sort
def s0:eJ:=⟨⟨none,0⟩,⟨none,0⟩,⟨none,0⟩,⟨none,0⟩,⟨none,0⟩⟩
abbrev Cp(w:World):Sx.a7:=⟨w,[],fun _ _=>False⟩
open Go Go.RowKit Go.Lib Go.Sort
def Kept(l:List Oper)(a a':Act):Prop:=∀t,(∀o∈l,o.dst≠some t)→a'.tmps[t]?=a.tmps[t]?
theorem j3{a:Act}{d:Option Tmp}{v:Value}{t:Tmp}(h:d≠some t):(a.put d v).tmps[t]?=a.tmps[t]?:=by
 cases d with
 |none=>rfl
 |some d=>
  show(a.tmps.setIfInBounds d v)[t]?=_
  rw[Array.getElem?_setIfInBounds_ne (fun he=>h (by rw[he]))]
variable{P:Program}
theorem DK{o:Oper}{a:Act}{w:World}{next next':Act→World→Prop}{Q Q':Exit→Act→World→Prop}(h:o.wp P a w next Q)(hn:∀a' w',next a' w'→(∀t,o.dst≠some t→a'.tmps[t]?=a.tmps[t]?)→next' a' w')(hq:∀ch w',Q (.panic ch) a w'→Q' (.panic ch) a w')(ho:LetsOut Q→LetsOut Q'):o.wp P a w next' Q':=by
 unfold Oper.wp at h ⊢
 generalize (execOp a.eval o).run P w=r at h
 cases r with
 |ok n w1=>
  cases n with
  |value v=>exact hn _ _ h fun t ht=>j3 ht
  |skip=>exact hn _ _ h fun t ht=>j3 ht
  |defer d=>exact hn _ _ h fun t ht=>(j3 (a:={ a with defers:=d::a.defers }) ht)
  |enter f args=>
   refine Calls.mono h fun e w2 he=>?_
   cases e with
   |returned v=>exact hn _ _ he fun t ht=>j3 ht
   |panicked ch=>exact hq _ _ he
   |outgrown=>exact ho he
  |row r args=>exact Rows.mono h fun v w2 hv=>hn _ _ hv fun t ht=>j3 ht
  |_=>exact h.elim
 |halt s w1=>
  cases s with
  |panic v=>exact hq _ _ h
  |_=>exact h.elim
theorem pW{ops:Array Oper}{Q Q':Exit→Act→World→Prop}(ho:LetsOut Q→LetsOut Q'):∀(l:List Oper) (a:Act) (w:World),wpList P ops Q l a w→(∀a' w',Q .normal a' w'→Kept l a a'→Q' .normal a' w')→(∀ch a' w',Q (.panic ch) a' w'→Kept l a a'→Q' (.panic ch) a' w')→wpList P ops Q' l a w
 | [],a,w,h,hn,hq=>hn a w h fun _ _=>rfl
 |o::l,a,w,h,hn,hq=>by
  unfold wpList at h ⊢
  split at h
  ·rename_i hw
   rw[if_pos hw]
   rcases h with h|⟨h1,h2⟩
   ·refine .inl (DK h (fun a1 w1 h1 hk=>?_) (fun ch w1 h1=>hq ch a w1 h1 fun _ _=>rfl) ho)
    have up:∀a',Kept l a1 a'→Kept (o::l) a a':=fun a' h' t ht=>(h' t fun o' ho'=>ht o' (List.mem_cons_of_mem _ ho')).trans (hk t (ht o (by simp)))
    exact pW ho l a1 w1 h1 (fun a' w' h2 h3=>hn a' w' h2 (up a' h3)) fun ch a' w' h2 h3=>hq ch a' w' h2 (up a' h3)
   ·exact .inr ⟨h1,ho h2⟩
  ·rename_i hw
   rw[if_neg hw]
   have up:∀a',Kept l (a.put o.dst undef) a'→Kept (o::l) a a':=fun a' h' t ht=>(h' t fun o' ho'=>ht o' (List.mem_cons_of_mem _ ho')).trans (j3 (ht o (by simp)))
   exact pW ho l _ w h (fun a' w' h2 h3=>hn a' w' h2 (up a' h3)) fun ch a' w' h2 h3=>hq ch a' w' h2 (up a' h3)
theorem mN{n:Nat}{b:Sx.a7}{β:Sx.Env}{st:Sx.St}{K:Sx.St→Prop}{a:Act}{ds:List Deferred}{w:World}{Q:Exit→Act→World→Prop}{id:Nat}{ops:Array Oper}(H:List (Nat×Sx.Hint))
  (h:Sx.Hd ds b n β st a w) (hx:Sx.mn P H n b ops ops.toList st K) (hn:∀β' st' a' w',K st'→Sx.Hd ds b n β' st' a' w'→Q .normal a' w')
  (hp:∀ch a' w',a'.defers=ds→b.PP ch w'→ah b.S b.w w'→Kept ops.toList a a'→Q (.panic ch) a' w'):(Code.region id ops false).wp P Q a w:=by
 refine wp_region_list ?_
 refine pW (Q:=fun e a' w'=>match e with | .normal=>∃β' st',K st'∧Sx.Hd ds b n β' st' a' w' | .panic ch=>a'.defers=ds∧b.PP ch w'∧ah b.S b.w w' | _=>False) (fun⟨_,_,hf⟩=>hf.elim) _ a w (Sx.ml (fun ch a' w' h1 h2 h3=>⟨h1,h2,h3⟩) _ st K β a w h hx fun β' st' a' w' hk h'=>⟨β',st',hk,h'⟩) (fun a' w' ⟨β',st',hk,h'⟩ _=>hn β' st' a' w' hk h') fun ch a' w' ⟨h1,h2,h3⟩ hk=>hp ch a' w' h1 h2 h3 hk
end Go.Proofs.YtnncigmpcdehnaaGreatDoor
