import Derived.Test.YtnncigmpcdehnaaGreatDoorQc13
namespace Go.Proofs.YtnncigmpcdehnaaGreatDoor
open Go.RowKit Go.Lib Go.Sort
def aO{α:Type}(g:Nat)(A:Option Go.Addr)(n c:Nat)(V:α→Value)(r:Out α)(w:World)(e:Ending)(w':World):Prop:=
 (∃a i,r=.ok a i∧i≤n∧e=.returned (V a)∧aq w' g 154 (cW A n c i)∧ah [g] w w')∨
 (∃code p chain,r=.no code p∧e=.panicked chain∧wZ code p w chain w'∧ah [g] w w')
def jr{α:Type}(r:Out α)(w:World)(chain:List PanicEntry)(w':World):Prop:=∃code p:Nat,r=.no code p∧wZ code p w chain w'
def ud{α:Type}(g:Nat)(A:Option Go.Addr)(n c:Nat)(V:α→Value)(r:Out α)(u:Sx.lz)(gl:List (Nat×TypeId×List Value)):Prop:=∃a i,r=.ok a i∧i≤n∧u=.val (V a)∧gl=[(g,154,cW A n c i)]
theorem aO.sj{α:Type}{g:Nat}{A:Option Go.Addr}{n c:Nat}{V:α→Value}{r:Out α}{w:World}{e:Ending}{w':World}(h:Sx.gk ⟨w,[g],jr r w⟩ (ud g A n c V r) e w'):aO g A n c V r w e w':=by
 rcases h with⟨u,gl,⟨a,i,h1,hi,h2,h3⟩,hp,hb⟩ | ⟨chain,he,⟨code,p,h1,hf⟩,hc⟩
 ·subst h2 h3
  exact .inl ⟨a,i,h1,hi,hp.1,hb (g,154,cW A n c i) (by simp),hp.2⟩
 ·exact .inr ⟨code,p,chain,h1,he,hf,hc⟩
theorem cw{α:Type}{P:Program}{w:World}{f:FuncId}{fn:Func}{co:Code}{g:Nat}{A:Option Go.Addr}{n c i:Nat}{V:α→Value}{r:Out α}(rest:List Value)(hb:aq w g 154 (cW A n c i))(H:List (Nat×Sx.Hint))(L:List Sx.Loop)
  (hm:P.follows .mixedOrders=true) (hf:P.funcs[f]?=some fn) (hbd:fn.body=some co) (hn:(rest.length+1)≤fn.ntmps)
  (hx:Sx.iz P fn.ntmps ⟨w,[g],jr r w⟩ co H L ⟨Sx.lu 0 (.ptr 0 0::rest.map .val),Sx.oF [(g,154,cW A n c i)]⟩ (Sx.wQ P fn (ud g A n c V r))) :
  Calls P f (.pointer (some ⟨g,0,none⟩)::rest).toArray w (aO g A n c V r w):=by
 have h:=Sx.gP (args:=.ptr 0 0::rest.map .val) [(g,154,cW A n c i)] (by simpa using hb) (by simp) (jr r w) H L hm hf hbd (by simpa using hn) (by
  have:∀l:List Value,Sx.eb (Sx.OR 1) (l.map .val)=true:=fun l=>by
   induction l with
   |nil=>rfl
   |cons x l ih=>exact ih
  exact this rest) hx
 have e:(Sx.SV.ptr 0 0::rest.map .val).map (Sx.SV.den (Sx.wF [(g,154,cW A n c i)]))=.pointer (some ⟨g,0,none⟩)::rest:=by
  rw[List.map_cons,List.map_map]
  have:(Sx.SV.den (Sx.wF [(g,154,cW A n c i)]) ∘ Sx.SV.val)=id:=rfl
  rw[this,List.map_id]
  rfl
 rw[e]at h
 exact h.mono fun _ _=>aO.sj
theorem vU{α:Type} [Inhabited α]{P:Program}{b:Sx.a7}{β:Sx.Env}{W:World}{row:Nat→Option Sx.Row}{m k f g n c i:Nat}{A:Option Go.Addr}{V:α→Value}{r:Out α}{fK:List Nat}(rest:List Value)
  (hS:Sx.dz b β W row fK) (hk:k∈fK) (hrow:row k=some ⟨154,.cx g (cW A n c i)⟩)
  (h:aq W g 154 (cW A n c i)→Calls P f (.pointer (some ⟨g,0,none⟩)::rest).toArray W (aO g A n c V r W))
  (hP:∀(code p:Nat) chain w',r=.no code p→wZ code p W chain w'→b.PP chain w') :
  Calls P f ((Sx.SV.ptr k 0::rest.map .val).map (Sx.SV.den β)).toArray W (Sx.aQ b β W row m ⟨fK,[(k,⟨154,.cx g (cW A n c r.pos)⟩)],[],[],.val (V r.val),some (r.okB=true∧r.pos≤n)⟩):=by
 have hh:=hS.held k hk _ hrow
 have hg:β k=g:=hh.1
 have hB:aq W g 154 (cW A n c i):=hg ▸ hh.2
 have e:(Sx.SV.ptr k 0::rest.map .val).map (Sx.SV.den β)=.pointer (some ⟨g,0,none⟩)::rest:=by
  rw[List.map_cons,List.map_map]
  have:(Sx.SV.den β ∘ Sx.SV.val)=id:=rfl
  rw[this,List.map_id]
  show Value.pointer (some ⟨β k,0,none⟩)::rest=_
  rw[hg]
 have ht:([k]:List Nat).filterMap (Sx.ct β row)=[g]:=by
  have:Sx.ct β row k=some g:=by unfold Sx.ct;rw[hrow];exact congrArg some hg
  simp[this]
 rw[e]
 refine(h hB).mono fun e w' hp=>?_
 rcases hp with⟨a,j,rfl,hj,he,hb,hc⟩ | ⟨code,p,chain,rfl,he,hf,hc⟩
 ·refine .inl ⟨fun p hp=>by cases hp;exact⟨rfl,hj⟩,β,Sx.cN (v:=V a) rfl rfl he (fun q hq=>?_) ?_⟩
  ·have:q=(k,⟨154,.cx g (cW A n c j)⟩):=List.mem_singleton.1 hq
   subst this
   exact⟨hg,by show aq w' (β k) 154 _;rw[hg];exact hb⟩
  ·show ah (([k]++[]).filterMap (Sx.ct β row)) W w'
   rw[List.append_nil,ht];exact hc
 ·refine .inr ⟨rfl,chain,he,hP code p chain w' rfl hf,?_⟩
  show ah (([k]++[]).filterMap (Sx.ct β row)) W w'
  rw[List.append_nil,ht];exact hc
structure dw(w:World)(g:Nat)(A:Option Go.Addr)(n c i:Nat)(ws:List Bs):Prop where
 bM:aq w g 154 (cW A n c i)
 kt:zG w [g] A n ws
 le:i≤n
 bd:n≤1000000
 pX:dy w
 g9:9≤g
 sz:∀x∈ws,x.length≤100000000
def ab(x:Bs):Value:=.string ⟨x.toArray⟩
theorem lY{w:World}{g:Nat}{A:Option Go.Addr}{n c i:Nat}{ws:List Bs}(h:dw w g A n c i ws):Calls Tryz.prog 154 #[.pointer (some ⟨g,0,none⟩)] w (aO g A n c ab (aY ws i) w):=by
 have hlen:=h.kt.len
 cases hx:ws[i]? with
 |some x=>
  have hr:aY ws i=.ok x (i+1):=by unfold aY;rw[hx]
  have hi:i < n:=by rw[←hlen];exact(List.getElem?_eq_some_iff.1 hx).1
  refine(Gi g A n c i ws x h.bd w h.bM h.kt hx (jr (aY ws i) w)).mono fun e w' hp=>aO.sj ?_
  rcases hp with⟨u,gl,⟨h1,h2⟩,hp⟩ | hp
  ·exact .inl ⟨u,gl,⟨x,i+1,hr,hi,h1,h2⟩,hp⟩
  ·exact .inr hp
 |none=>
  have hi:i=n:=by have:=List.getElem?_eq_none_iff.1 hx;have:=h.le;omega
  have hr:aY ws i=.no 200 (i+1):=by unfold aY;rw[hx]
  subst hi
  refine(JZ g A i c h.bd w h.bM).mono fun e w' hp=>aO.sj ?_
  rcases hp with⟨_,_,hf,_⟩ | ⟨chain,he,hf,hc⟩
  ·exact hf.elim
  ·exact .inr ⟨chain,he,⟨200,i+1,hr,hf⟩,hc⟩
theorem fw{w:World}{g:Nat}{A:Option Go.Addr}{n c i:Nat}{ws:List Bs}(s:Bs)(h:dw w g A n c i ws):Calls Tryz.prog 152 #[.pointer (some ⟨g,0,none⟩),ab s] w (aO g A n c (fun b=>.bool b) (cH ws i s) w):=by
 have hlen:=h.kt.len
 have up:∀{b:Bool} {j:Nat},cH ws i s=.ok b j→j≤n→∀{e w'},Sx.gk ⟨w,[g],jr (cH ws i s) w⟩ (OY g (.bool b) (cW A n c j)) e w'→aO g A n c (fun b=>.bool b) (cH ws i s) w e w':=by
  intro b j hr hj e w' hp
  refine aO.sj ?_
  rcases hp with⟨u,gl,⟨h1,h2⟩,hp⟩ | hp
  ·exact .inl ⟨u,gl,⟨b,j,hr,hj,h1,h2⟩,hp⟩
  ·exact .inr hp
 cases hx:ws[i]? with
 |some x=>
  have hi:i < n:=by rw[←hlen];exact(List.getElem?_eq_some_iff.1 hx).1
  by_cases hs:x=s
  ·exact(Fe g A n c i ws x s h.bd w h.bM h.kt hx hs _).mono fun e w'=>up (by unfold cH;rw[hx,hs,if_pos rfl]) hi
  ·exact(Jc g A n c i ws x s h.bd w h.bM h.kt hx hs _).mono fun e w'=>up (by unfold cH;rw[hx,if_neg (by simpa using hs)]) h.le
 |none=>
  have hi:i=n:=by have:=List.getElem?_eq_none_iff.1 hx;have:=h.le;omega
  subst hi
  exact(Ff g A i c s w h.bM _).mono fun e w'=>up (by unfold cH;rw[hx,if_neg (by simp)]) (Nat.le_refl _)
theorem dV{α:Type}{w:World}{g:Nat}{A:Option Go.Addr}{n c i:Nat}{ws:List Bs}(b:Bool)(code:Nat)(a:α)(h:dw w g A n c i ws):Calls Tryz.prog 191 #[.pointer (some ⟨g,0,none⟩),.bool b,.int .i64 (code:Int)] w (aO g A n c (fun _=>.tuple #[]) (ak b code a i) w):=by
 cases b with
 |true=>exact(EW _ _ w).mono fun e w' ⟨he,hc⟩=>.inl ⟨a,i,rfl,h.le,he,h.bM.az hc (by simp),hc.mono (by simp)⟩
 |false=>
  refine(I0 g (.slice A n c) i code w h.bM).mono fun e w' hp=>aO.sj ?_
  rcases hp with⟨_,_,hf,_⟩ | ⟨chain,he,hf,hc⟩
  ·exact hf.elim
  ·exact .inr ⟨chain,he,⟨code,i,rfl,hf⟩,hc⟩
theorem dw.at{w W:World}{g:Nat}{A:Option Go.Addr}{n c i j:Nat}{ws:List Bs}(h:dw w g A n c i ws)(hc:ah [g] w W)(hj:j≤n)(hb:aq W g 154 (cW A n c j)):dw W g A n c j ws:=⟨hb,h.kt.az hc,hj,h.bd,h.pX.az hc (by simpa using h.g9),h.g9,h.sz⟩
theorem dw.yp{w W:World}{g:Nat}{A:Option Go.Addr}{n c i:Nat}{ws:List Bs}(h:dw w g A n c i ws)(hc:ah [g] w W):dy W:=h.pX.az hc (by simpa using h.g9)
theorem dw.len{w:World}{g:Nat}{A:Option Go.Addr}{n c i:Nat}{ws:List Bs}(h:dw w g A n c i ws):ws.length=n:=h.kt.len
theorem sA{ws:List Bs}{i:Nat}(h:∀x∈ws,x.length≤100000000):((aY ws i).val).length≤100000000:=by
 unfold aY
 cases hx:ws[i]? with
 |some x=>exact h x (List.mem_of_getElem? hx)
 |none=>exact Nat.zero_le _
theorem aM{α β:Type}{T:Out β}{r:Out α}{f:α→Nat→Out β}(e:T=r.bind f):∀code p,r=.no code p→T=.no code p:=fun code p h=>by rw[e,h];rfl
theorem bu{α β:Type} [Inhabited α]{T:Out β}{r:Out α}{f:α→Nat→Out β}(e:T=r.bind f)(h:r.okB=true):T=f r.val r.pos:=by
 rw[e]
 cases r with
 |ok a i=>rfl
 |no c p=>cases h
theorem uG{α:Type}{T r:Out α}(e:T=r):∀code p,r=.no code p→T=.no code p:=fun code p h=>by rw[e,h]
def cB{α:Type} [Inhabited α](k g:Nat)(A:Option Go.Addr)(n c:Nat)(r:Out α)(V:α→Value):Sx.cj:=⟨[k],[(k,⟨154,.cx g (cW A n c r.pos)⟩)],[],[],.val (V r.val),some (r.okB=true∧r.pos≤n)⟩
theorem kj{α γ:Type} [Inhabited α]{P:Program}{w:World}{f g n c i j:Nat}{A:Option Go.Addr}{V:α→Value}{r:Out α}{T:Out γ}{ws:List Bs}(rest:List Value)(h0:dw w g A n c i ws)(hj:j≤n)(hT:∀code p,r=.no code p→T=.no code p)
  (h:∀W,dw W g A n c j ws→Calls P f (.pointer (some ⟨g,0,none⟩)::rest).toArray W (aO g A n c V r W)) (W:World) (β:Sx.Env) (hS:Sx.dz ⟨w,[g],jr T w⟩ β W (Sx.rowAt (Sx.oF [(g,154,cW A n c j)])) [0]) :
  Calls P f ((Sx.SV.ptr 0 0::rest.map .val).map (Sx.SV.den β)).toArray W (Sx.aQ ⟨w,[g],jr T w⟩ β W (Sx.rowAt (Sx.oF [(g,154,cW A n c j)])) 1 (cB 0 g A n c r V)):=
 vU rest hS (by simp) rfl (fun hB=>h W (h0.at hS.az hj hB)) fun code p chain w' hr hf=>⟨code,p,hT code p hr,hf.up hS.az.size⟩
theorem bh{α γ:Type} [Inhabited α]{P:Program}{w:World}{f g n c i j:Nat}{A:Option Go.Addr}{V:α→Value}{r:Out α}{T:Out γ}{ws:List Bs}(ms:List Sx.Row)(rest:List Value)(h0:dw w g A n c i ws)(hj:j≤n)(hT:∀code p,r=.no code p→T=.no code p)
  (h:∀W,dw W g A n c j ws→Calls P f (.pointer (some ⟨g,0,none⟩)::rest).toArray W (aO g A n c V r W)) (W:World) (β:Sx.Env) (hS:Sx.dz ⟨w,[g],jr T w⟩ β W (Sx.rowAt (⟨154,.cx g (cW A n c j)⟩::ms)) [0]) :
  Calls P f ((Sx.SV.ptr 0 0::rest.map .val).map (Sx.SV.den β)).toArray W (Sx.aQ ⟨w,[g],jr T w⟩ β W (Sx.rowAt (⟨154,.cx g (cW A n c j)⟩::ms)) (ms.length+1) (cB 0 g A n c r V)):=
 vU rest hS (by simp) rfl (fun hB=>h W (h0.at hS.az hj hB)) fun code p chain w' hr hf=>⟨code,p,hT code p hr,hf.up hS.az.size⟩
set_option maxRecDepth 100000
open Go.RowKit Go.Lib Go.Sort
def qU(s:Bs):Nat:=match Lib.parseUint10 0 s with
 |.ok u=>u
 |.range=>18446744073709551615
 |_=>0
def rX(s:Bs):Bool:=match s with
 | []=>false
 |_=>match Lib.parseUint10 0 s with
  |.ok _=>true
  |_=>false
theorem uA:∀(l:List UInt8) (acc u:Nat),Lib.parseUint10 acc l=.ok u→l.foldl (fun a c=>10*a+qZ c) acc=u
 | [],acc,u,h=>by
  unfold Lib.parseUint10 at h
  injection h
 |c::l,acc,u,h=>by
  unfold Lib.parseUint10 at h
  split at h
  ·rename_i hc
   split at h
   ·cases h
   ·split at h
    ·cases h
    ·rw[List.foldl_cons]
     have hd:qZ c=c.toNat - 48:=by unfold qZ; rw[if_pos (by omega)]
     rw[hd,show 10*acc+(c.toNat - 48)=acc*10+(c.toNat - 48)by omega]
     exact uA l _ u h
  ·cases h
theorem rW{s:Bs}(h:rX s=true):gf s=qU s∧gf s < 18446744073709551616:=by
 unfold rX at h
 split at h
 ·cases h
 ·split at h
  ·rename_i u hu
   have:=uA _ _ _ hu
   refine⟨?_,?_⟩
   ·unfold gf qU;rw[this,hu]
   ·unfold gf;rw[this];exact Lib.parseUint10_lt _ 0 u (by omega) hu
  ·cases h
theorem sq{most:Nat}(hm:most < 18446744073709551616){s:Bs}(h:cI most s=true):rX s=true:=by
 unfold cI at h
 rw[Bool.and_eq_true,decide_eq_true_iff,decide_eq_true_iff]at h
 have hp:=xL (gf s) (by omega)
 rw[h.2]at hp
 unfold rX
 split
 ·rename_i h1
  exact absurd h.2 (nc _)
 ·rw[hp]
theorem xR{most:Nat}{s:Bs}(h:rX s=true):cI most s=(decide (qU s≤most)&&(au 10 (qU s)==s)):=by
 unfold cI
 rw[(rW h).1]
 congr 1
 by_cases h2:au 10 (qU s)=s<;>simp[h2]
theorem Gh{most:Nat}(hm:most < 18446744073709551616){s:Bs}(h:rX s=false):cI most s=false:=by
 cases hn:cI most s with
 |false=>rfl
 |true=>rw[sq hm hn]at h;cases h
theorem Ml(s:Bs):qU s < 18446744073709551616:=by
 unfold qU
 split
 ·rename_i u hu;exact Lib.parseUint10_lt _ 0 u (by omega) hu
 ·omega
 ·omega
def IF(t:ByteArray)(w:World)(e:Ending)(w':World):Prop:=
 ∃er:Value,e=.returned (.tuple #[.int .u64 (qU t.data.toList:Nat),er])∧ah [] w w'∧((rX t.data.toList=true∧er=.nilIface)∨(rX t.data.toList=false∧(er=.iface 270 (.int .i64 2)∨er=.iface 270 (.int .i64 1))))
theorem N4(t:ByteArray)(hmax:t.size≤281474976710656)(w:World):Calls Tryz.prog 163 #[.string t,.int .i64 10,.int .i64 64] w (IF t w):=by
 by_cases h0:t.size=0
 ·have ht:t=⟨#[]⟩:=by
   obtain⟨⟨l⟩⟩:=t
   cases l with
   |nil=>rfl
   |cons _ _=>simp[ByteArray.size]at h0
  subst ht
  refine(Tryz.internal_strconv_ParseUint_empty 10 64 w).mono ?_
  rintro e w' ⟨rfl,rfl⟩
  exact⟨_,rfl,ah.refl _ _,.inr ⟨rfl,.inl rfl⟩⟩
 ·refine(Tryz.internal_strconv_ParseUint_10_b64 t h0 (by omega) w).mono ?_
  rintro e w' ⟨rfl,rfl⟩
  have hC:=p8 w t
  have hne:∃c l,t.data.toList=c::l:=by
   obtain⟨⟨l⟩⟩:=t
   cases l with
   |nil=>simp[ByteArray.size]at h0
   |cons c l=>exact⟨c,l,rfl⟩
  obtain⟨c,l,hcl⟩:=hne
  unfold IF qU rX
  rw[hcl]
  rcases h:Lib.parseUint10 0 (c::l)with u|_|_
  ·exact⟨.nilIface,rfl,hC,.inl ⟨rfl,rfl⟩⟩
  ·exact⟨_,rfl,hC,.inr ⟨rfl,.inl rfl⟩⟩
  ·exact⟨_,rfl,hC,.inr ⟨rfl,.inr rfl⟩⟩
def No(t:ByteArray)(w:World)(e:Ending)(w':World):Prop:=
 ∃(v:Nat) (er:Value),e=.returned (.tuple #[.int .u64 v,er])∧v=qU t.data.toList∧ah [] w w'∧((rX t.data.toList=true∧er=.nilIface)∨(rX t.data.toList=false∧∃N,er=.iface 272 (.pointer (some ⟨N,0,none⟩))))
set_option maxHeartbeats 4000000 in
theorem N5(t:ByteArray)(hmax:t.size≤281474976710656)(w:World)(hl:dy w):Calls Tryz.prog 106 #[.string t,.int .i64 10,.int .i64 64] w (No t w):=by
 have HP:=hid (N4 t hmax w)
 have HX:=hid hmax
 clear hmax
 go_enter Tryz.func106,Tryz.ntmps106
 go_wp2_with (go_at_call 163;refine HP.out.mono ?_)
 rintro e w2 ⟨er,rfl,C2,he⟩
 obtain⟨v,hv⟩:∃v,v=qU t.data.toList:=⟨_,rfl⟩
 rw[←hv]
 have HV:=hid hv
 have HL:=hid (hl.cP C2)
 clear HP hv
 rcases he with⟨hk,rfl⟩ | ⟨hk,rfl|rfl⟩
 ·have HK:=hid hk
  clear hk
  go_wp2
  go_ret2
  exact⟨v,.nilIface,rfl,HV.out,C2,.inl ⟨HK.out,rfl⟩⟩
 ·have HK:=hid hk
  clear hk
  obtain⟨ev,hev,hk⟩:=HL.out.e1
  have HE:=hid hev
  have HI:=hid hk
  clear hev hk
  go_wp2_with (go_at_call 164;refine(Tryz.strconv_toError_syntax _ _ _ _ ev _ HX.out HE.out HI.out).mono ?_;rintro e w3 ⟨N,rfl,hN,hN2,B3⟩)
  go_ret2
  exact⟨v,_,rfl,HV.out,C2.trans (ah.dA B3),.inr ⟨HK.out,N,rfl⟩⟩
 ·have HK:=hid hk
  clear hk
  obtain⟨ev,hev,hk⟩:=HL.out.e2
  have HE:=hid hev
  have HI:=hid hk
  clear hev hk
  go_wp2_with (go_at_call 164;refine(Tryz.strconv_toError_range _ _ _ _ ev _ HX.out HE.out HI.out).mono ?_;rintro e w3 ⟨N,rfl,hN,hN2,B3⟩)
  go_ret2
  exact⟨v,_,rfl,HV.out,C2.trans (ah.dA B3),.inr ⟨HK.out,N,rfl⟩⟩
set_option maxHeartbeats 4000000 in
theorem As(most:Nat)(hm:most < 18446744073709551616)(s:Bs)(hmax:s.length≤281474976710656)(w:World)(hl:dy w):Calls Tryz.prog 232 #[.string ⟨s.toArray⟩,.int .u64 most] w fun e w'=>∃(v:Nat) (ok:Bool),e=.returned (.tuple #[.int .u64 v,.bool ok])∧v=qU s∧ok=cI most s∧ah [] w w':=by
 obtain⟨t,ht⟩:∃t:ByteArray,t=⟨s.toArray⟩:=⟨_,rfl⟩
 have hts:t.data.toList=s:=by rw[ht]
 rw[←ht]
 have HP:=hid (N5 t (by rw[ht];exact hmax) w hl)
 have HF:=hid (fun(n:Nat) (hn:n < 18446744073709551616) (W:World) (hW:dy W)=>CL n hn W hW)
 have HM:=hid hm
 have HT:=hid hts
 have HL0:=hid hl
 clear hmax hm hts ht hl
 go_enter Tryz.func232,Tryz.ntmps232
 go_wp2_with (go_at_call 106;refine HP.out.mono ?_)
 rintro e w2 ⟨v,er,rfl,hv,C2,he⟩
 rw[HT.out]at he hv
 have HV:=hid hv
 have HL:=hid (HL0.out.cP C2)
 clear HP hv
 rcases he with⟨hk,rfl⟩ | ⟨hk,N,rfl⟩
 ·have HK:=hid hk
  clear hk
  by_cases hle:v≤most
  ·have HF2:=hid (HF.out v (by rw[HV.out];exact Ml s) w2 HL.out)
   have HLE:=hid hle
   have hle':decide ((v:Int)≤(most:Int))=true:=decide_eq_true (by omega)
   clear hle
   go_wp2_with (go_at_call 73;refine HF2.out.mono ?_;rintro e w3 ⟨rfl,C3⟩)
   go_ret2
   refine⟨v,_,rfl,HV.out,?_,C2.trans C3⟩
   rw[xR HK.out,←HV.out,decide_eq_true HLE.out,Bool.true_and,←HT.out,ByteArray.toList_eq]
  ·have hle':decide ((v:Int)≤(most:Int))=false:=decide_eq_false (by omega)
   have HLE:=hid hle
   clear hle
   go_wp2
   go_ret2
   refine⟨v,false,rfl,HV.out,?_,C2⟩
   rw[xR HK.out,←HV.out,decide_eq_false HLE.out,Bool.false_and]
 ·have HK:=hid hk
  clear hk
  go_wp2
  go_ret2
  exact⟨v,false,rfl,HV.out,(Gh HM.out HK.out).symm,C2⟩
theorem nO(most:Nat)(hm:most < 18446744073709551616)(s:Bs)(hmax:s.length≤281474976710656)(w:World)(hl:dy w):Calls Tryz.prog 232 #[.string ⟨s.toArray⟩,.int .u64 most] w fun e w'=>e=.returned (.tuple #[.int .u64 (qU s:Nat),.bool (cI most s)])∧ah [] w w':=
 (As most hm s hmax w hl).mono fun _ _ ⟨_,_,he,hv,ho,hc⟩=>⟨by rw[he,hv,ho],hc⟩
set_option maxRecDepth 100000
open Go.RowKit Go.Lib Go.Sort
set_option maxHeartbeats 4000000 in
theorem nQ(l:List UInt8)(w:World):Calls Tryz.prog 33 #[.string ⟨l.toArray⟩] w fun e w'=>e=.returned (.bool (aG l))∧ah [] w w':=by
 obtain⟨s,hs⟩:∃s:ByteArray,s=⟨l.toArray⟩:=⟨_,rfl⟩
 have hsz:s.size=l.length:=by rw[hs];rfl
 have HS:=hid hs
 rw[←hs]
 clear hs
 have HZ:=hid hsz
 clear hsz
 go_enter Tryz.func33,Tryz.ntmps33
 by_cases h0:s.size=0
 ·have hn:Value.bool false=.bool (aG l):=by have:=HZ.out;unfold aG;rw[decide_eq_false (by omega)];rfl
  have HN:=hid hn
  clear hn
  go_wp2
  go_ret
  exact⟨congrArg _ HN.out,ah.refl _ _⟩
 by_cases h16:16 < s.size
 ·have hn:Value.bool false=.bool (aG l):=by have:=HZ.out;unfold aG;rw[decide_eq_false (show ¬l.length≤16 by omega)];simp
  have HN:=hid hn
  clear hn
  go_wp2
  go_ret
  exact⟨congrArg _ HN.out,ah.refl _ _⟩
 have b0:((s.size:Int)==0)=false:=by rw[beq_eq_false_iff_ne];omega
 have b16:¬((16:Int) < (s.size:Int)):=by omega
 go_wp2
 go_loopw [3] (fun _ wr=>∃pos:Nat,wr.heap[w.heap.size]?=some (.stringIter s pos)∧Below w.heap.size w wr∧∀i c,i < pos→l[i]?=some c→Cq i c=true) (fun _ wr=>s.size - wr.iterPos w.heap.size)
 case atStart=>
  refine⟨0,?_,((Below.refl _ w).alloc (Nat.le_refl _) _),fun i c h=>absurd h (Nat.not_lt_zero _)⟩
  have:=World.iter_heap w s 0
  simpa using this
 case round=>
  obtain⟨pos,hit,hbw,hok⟩:=hrel
  have HOK:=hid hok
  clear hok
  by_cases hp:pos < s.size
  ·have hnx:∀ty,(Instr.next (.pointer (some ⟨w.heap.size,0,none⟩)) true ty).run Tryz.prog wr=_:=fun ty=>Lib.run_next_any_at wr w.heap.size s pos ty hit hp
   have hr:=Jr s pos hp
   have hg:l[pos]?=some (s[pos]'hp):=by
    have:=HS.out;subst this
    exact List.getElem?_eq_getElem (show pos < l.length from hp)
   have hit2:=Lib.iterAt_heap wr w.heap.size s pos (pos+(Utf8.decode s pos).2) hit
   have hbw2:=Lib.below_iterAt hbw (k:=w.heap.size) (by omega) s (pos+(Utf8.decode s pos).2)
   rcases hr with⟨hlo,hd⟩ | ⟨hhi,hd⟩
   ·rw[hd]at hnx hit2 hbw2
    generalize (s[pos]'hp)=c at*
    obtain⟨x,hx⟩:∃x:Int,x=(c.toNat:Int):=⟨_,rfl⟩
    rw[show((c.toNat:Nat):Int)=x from hx.symm]at hnx
    have x0:0≤x:=by omega
    have HX:=hid hx
    have HG:=hid hg
    have HL2:=hid (show x < 128 by omega)
    clear hx hg hlo hd
    have hup:Cq pos c=true→∀i c',i < pos+1→l[i]?=some c'→Cq i c'=true:=fun hc i c' hi h=>by
     by_cases he:i=pos
     ·subst he
      rw[HG.out]at h
      injection h with h
      rw[←h];exact hc
     ·exact HOK.out i c' (by omega) h
    have HUP:=hid hup
    clear hup
    by_cases hlet:97≤x∧x≤122
    ·obtain⟨ha,hb⟩:=hlet
     go_wp2
     go_roundw
     case rel=>exact⟨pos+1,hit2,hbw2,HUP.out (JX HX.out ha hb)⟩
     case measure=>
      simp only[World.iterPos,hit2,hit]
      omega
    ·by_cases hpos:pos=0
     ·have hp0:¬((0:Int) < (pos:Int)):=by omega
      rcases(show x < 97∨(97≤x∧122 < x)by omega)with h97|⟨h97,h122⟩
      ·skip
       have h1:¬(97≤x):=by omega
       have hn:Value.bool false=.bool (aG l):=by rw[j7 HG.out (uH HX.out (by omega) (by omega))]
       have HN:=hid hn
       clear hn
       go_wp2
       go_ret
       exact⟨congrArg _ HN.out,by simpa[hpos]using ah.dA hbw2⟩
      ·skip
       have h1:¬(x≤122):=by omega
       have hn:Value.bool false=.bool (aG l):=by rw[j7 HG.out (uH HX.out (by omega) (by omega))]
       have HN:=hid hn
       clear hn
       go_wp2
       go_ret
       exact⟨congrArg _ HN.out,by simpa[hpos]using ah.dA hbw2⟩
     ·have hp0:(0:Int) < (pos:Int):=by omega
      rcases(show(97≤x∧122 < x)∨(x < 97∧48≤x∧x≤57)∨(x < 97∧x < 48∧x=45)∨(x < 97∧x < 48∧x≠45)∨(x < 97∧48≤x∧57 < x∧x=95)∨(x < 97∧48≤x∧57 < x∧x≠95)by omega)with⟨h97,h122⟩ | ⟨h97,h48,h57⟩ | ⟨h97,h48,hx⟩ | ⟨h97,h48,hx⟩ | ⟨h97,h48,h57,hx⟩ | ⟨h97,h48,h57,hx⟩
      ·skip
       have h1:¬(x≤122):=by omega
       have h48:48≤x:=by omega
       have h2:¬(x≤57):=by omega
       have e45:(x==45)=false:=by rw[beq_eq_false_iff_ne];omega
       have e95:(x==95)=false:=by rw[beq_eq_false_iff_ne];omega
       have hn:Value.bool false=.bool (aG l):=by rw[j7 HG.out (uH HX.out (by omega) (by omega))]
       have HN:=hid hn
       clear hn
       go_wp2
       go_ret
       exact⟨congrArg _ HN.out,ah.dA hbw2⟩
      ·skip
       go_wp2
       go_roundw
       case rel=>exact⟨pos+1,hit2,hbw2,HUP.out (vO HX.out (by omega) (by omega))⟩
       case measure=>
        simp only[World.iterPos,hit2,hit]
        omega
      ·skip
       have h1:¬(48≤x):=by omega
       have e45:(x==45)=true:=by rw[beq_iff_eq];omega
       go_wp2
       go_roundw
       case rel=>exact⟨pos+1,hit2,hbw2,HUP.out (vO HX.out (by omega) (by omega))⟩
       case measure=>
        simp only[World.iterPos,hit2,hit]
        omega
      ·skip
       have h1:¬(48≤x):=by omega
       have e45:(x==45)=false:=by rw[beq_eq_false_iff_ne];omega
       have e95:(x==95)=false:=by rw[beq_eq_false_iff_ne];omega
       have hn:Value.bool false=.bool (aG l):=by rw[j7 HG.out (uH HX.out (by omega) (by omega))]
       have HN:=hid hn
       clear hn
       go_wp2
       go_ret
       exact⟨congrArg _ HN.out,ah.dA hbw2⟩
      ·skip
       have h1:¬(x≤57):=by omega
       have e45:(x==45)=false:=by rw[beq_eq_false_iff_ne];omega
       have e95:(x==95)=true:=by rw[beq_iff_eq];omega
       go_wp2
       go_roundw
       case rel=>exact⟨pos+1,hit2,hbw2,HUP.out (vO HX.out (by omega) (by omega))⟩
       case measure=>
        simp only[World.iterPos,hit2,hit]
        omega
      ·skip
       have h1:¬(x≤57):=by omega
       have e45:(x==45)=false:=by rw[beq_eq_false_iff_ne];omega
       have e95:(x==95)=false:=by rw[beq_eq_false_iff_ne];omega
       have hn:Value.bool false=.bool (aG l):=by rw[j7 HG.out (uH HX.out (by omega) (by omega))]
       have HN:=hid hn
       clear hn
       go_wp2
       go_ret
       exact⟨congrArg _ HN.out,ah.dA hbw2⟩
   ·have HX:=hid (rfl:((s[pos]'hp).toNat:Int)=((s[pos]'hp).toNat:Int))
    have hn:Value.bool false=.bool (aG l):=by rw[j7 hg (uH rfl (by omega) (by omega))]
    have HN:=hid hn
    clear hn hg
    obtain⟨x,hx⟩:∃x:Int,x=((Utf8.decode s pos).1:Int):=⟨_,rfl⟩
    rw[←hx]at hnx
    have hx128:128≤x:=by omega
    have h97:97≤x:=by omega
    have h122:122 < x:=by omega
    have h48:48≤x:=by omega
    have h57:57 < x:=by omega
    have e45:(x==45)=false:=by rw[beq_eq_false_iff_ne];omega
    have e95:(x==95)=false:=by rw[beq_eq_false_iff_ne];omega
    clear hhi hd hx
    by_cases hpos:pos=0
    ·have hp0:¬((0:Int) < (pos:Int)):=by omega
     go_wp2
     go_ret
     exact⟨congrArg _ HN.out,by simpa[hpos]using ah.dA hbw2⟩
    ·have hp0:(0:Int) < (pos:Int):=by omega
     go_wp2
     go_ret
     exact⟨congrArg _ HN.out,ah.dA hbw2⟩
  ·have hnx:∀ty,(Instr.next (.pointer (some ⟨w.heap.size,0,none⟩)) true ty).run Tryz.prog wr=_:=fun ty=>Lib.run_next_end_at wr w.heap.size s pos ty hit hp
   have hn:Value.bool true=.bool (aG l):=by
    rw[DP (by have:=HZ.out;omega) (by have:=HZ.out;omega) (fun i c h=>HOK.out i c (by have:=(List.getElem?_eq_some_iff.1 h).1;have:=HZ.out;omega) h)]
   have HN:=hid hn
   clear hn
   go_wp2
   go_ret
   exact⟨congrArg _ HN.out,ah.dA hbw⟩
end Go.Proofs.YtnncigmpcdehnaaGreatDoor
