import Derived.Test.YtnncigmpcdehnaaGreatDoorQa13
namespace Go.Proofs.YtnncigmpcdehnaaGreatDoor
open Go.RowKit Go.Lib Go.Sort
def LnPost{α:Type}(g:Nat)(A:Option Go.Addr)(n c:Nat)(V:α→Value)(r:Out α)(w:World)(e:Ending)(w':World):Prop:=
 (∃a i,r=.ok a i∧i≤n∧e=.returned (V a)∧Blk w' g 154 (lnC A n c i)∧Chg [g] w w')∨
 (∃code p chain,r=.no code p∧e=.panicked chain∧Flt code p w chain w'∧Chg [g] w w')
def LnP{α:Type}(r:Out α)(w:World)(chain:List PanicEntry)(w':World):Prop:=∃code p:Nat,r=.no code p∧Flt code p w chain w'
def LnR{α:Type}(g:Nat)(A:Option Go.Addr)(n c:Nat)(V:α→Value)(r:Out α)(u:Sx.Ret)(gl:List (Nat×TypeId×List Value)):Prop:=∃a i,r=.ok a i∧i≤n∧u=.val (V a)∧gl=[(g,154,lnC A n c i)]
theorem LnPost.of_giv{α:Type}{g:Nat}{A:Option Go.Addr}{n c:Nat}{V:α→Value}{r:Out α}{w:World}{e:Ending}{w':World}(h:Sx.givPost ⟨w,[g],LnP r w⟩ (LnR g A n c V r) e w'):LnPost g A n c V r w e w':=by
 rcases h with⟨u,gl,⟨a,i,h1,hi,h2,h3⟩,hp,hb⟩ | ⟨chain,he,⟨code,p,h1,hf⟩,hc⟩
 ·subst h2 h3
  exact .inl ⟨a,i,h1,hi,hp.1,hb (g,154,lnC A n c i) (by simp),hp.2⟩
 ·exact .inr ⟨code,p,chain,h1,he,hf,hc⟩
theorem ln_walk{α:Type}{P:Program}{w:World}{f:FuncId}{fn:Func}{co:Code}{g:Nat}{A:Option Go.Addr}{n c i:Nat}{V:α→Value}{r:Out α}(rest:List Value)(hb:Blk w g 154 (lnC A n c i))(H:List (Nat×Sx.Hint))(L:List Sx.Loop)
  (hm:P.follows .mixedOrders=true) (hf:P.funcs[f]?=some fn) (hbd:fn.body=some co) (hn:(rest.length+1)≤fn.ntmps)
  (hx:Sx.exB P fn.ntmps ⟨w,[g],LnP r w⟩ co H L ⟨Sx.argsG 0 (.ptr 0 0::rest.map .val),Sx.rowsG [(g,154,lnC A n c i)]⟩ (Sx.atEndG P fn (LnR g A n c V r))) :
  Calls P f (.pointer (some ⟨g,0,none⟩)::rest).toArray w (LnPost g A n c V r w):=by
 have h:=Sx.calls_giv (args:=.ptr 0 0::rest.map .val) [(g,154,lnC A n c i)] (by simpa using hb) (by simp) (LnP r w) H L hm hf hbd (by simpa using hn) (by
  have:∀l:List Value,Sx.allB (Sx.argG 1) (l.map .val)=true:=fun l=>by
   induction l with
   |nil=>rfl
   |cons x l ih=>exact ih
  exact this rest) hx
 have e:(Sx.SV.ptr 0 0::rest.map .val).map (Sx.SV.den (Sx.envG [(g,154,lnC A n c i)]))=.pointer (some ⟨g,0,none⟩)::rest:=by
  rw[List.map_cons,List.map_map]
  have:(Sx.SV.den (Sx.envG [(g,154,lnC A n c i)]) ∘ Sx.SV.val)=id:=rfl
  rw[this,List.map_id]
  rfl
 rw[e]at h
 exact h.mono fun _ _=>LnPost.of_giv
theorem ln_call{α:Type} [Inhabited α]{P:Program}{b:Sx.Base}{β:Sx.Env}{W:World}{row:Nat→Option Sx.Row}{m k f g n c i:Nat}{A:Option Go.Addr}{V:α→Value}{r:Out α}{see:List Nat}(rest:List Value)
  (hS:Sx.See b β W row see) (hk:k∈see) (hrow:row k=some ⟨154,.giv g (lnC A n c i)⟩)
  (h:Blk W g 154 (lnC A n c i)→Calls P f (.pointer (some ⟨g,0,none⟩)::rest).toArray W (LnPost g A n c V r W))
  (hP:∀(code p:Nat) chain w',r=.no code p→Flt code p W chain w'→b.PP chain w') :
  Calls P f ((Sx.SV.ptr k 0::rest.map .val).map (Sx.SV.den β)).toArray W (Sx.gPost b β W row m ⟨see,[(k,⟨154,.giv g (lnC A n c r.pos)⟩)],[],[],.val (V r.val),some (r.okB=true∧r.pos≤n)⟩):=by
 have hh:=hS.held k hk _ hrow
 have hg:β k=g:=hh.1
 have hB:Blk W g 154 (lnC A n c i):=hg ▸ hh.2
 have e:(Sx.SV.ptr k 0::rest.map .val).map (Sx.SV.den β)=.pointer (some ⟨g,0,none⟩)::rest:=by
  rw[List.map_cons,List.map_map]
  have:(Sx.SV.den β ∘ Sx.SV.val)=id:=rfl
  rw[this,List.map_id]
  show Value.pointer (some ⟨β k,0,none⟩)::rest=_
  rw[hg]
 have ht:([k]:List Nat).filterMap (Sx.blkOf β row)=[g]:=by
  have:Sx.blkOf β row k=some g:=by unfold Sx.blkOf;rw[hrow];exact congrArg some hg
  simp[this]
 rw[e]
 refine(h hB).mono fun e w' hp=>?_
 rcases hp with⟨a,j,rfl,hj,he,hb,hc⟩ | ⟨code,p,chain,rfl,he,hf,hc⟩
 ·refine .inl ⟨fun p hp=>by cases hp;exact⟨rfl,hj⟩,β,Sx.gret_vals (v:=V a) rfl rfl he (fun q hq=>?_) ?_⟩
  ·have:q=(k,⟨154,.giv g (lnC A n c j)⟩):=List.mem_singleton.1 hq
   subst this
   exact⟨hg,by show Blk w' (β k) 154 _;rw[hg];exact hb⟩
  ·show Chg (([k]++[]).filterMap (Sx.blkOf β row)) W w'
   rw[List.append_nil,ht];exact hc
 ·refine .inr ⟨rfl,chain,he,hP code p chain w' rfl hf,?_⟩
  show Chg (([k]++[]).filterMap (Sx.blkOf β row)) W w'
  rw[List.append_nil,ht];exact hc
structure Lin(w:World)(g:Nat)(A:Option Go.Addr)(n c i:Nat)(ws:List Bs):Prop where
 blk:Blk w g 154 (lnC A n c i)
 wds:Wds w [g] A n ws
 le:i≤n
 bd:n≤1000000
 lan:Lan w
 g9:9≤g
 sz:∀x∈ws,x.length≤100000000
def strV(x:Bs):Value:=.string ⟨x.toArray⟩
theorem next_N{w:World}{g:Nat}{A:Option Go.Addr}{n c i:Nat}{ws:List Bs}(h:Lin w g A n c i ws):Calls Tryz.prog 154 #[.pointer (some ⟨g,0,none⟩)] w (LnPost g A n c strV (nextR ws i) w):=by
 have hlen:=h.wds.len
 cases hx:ws[i]? with
 |some x=>
  have hr:nextR ws i=.ok x (i+1):=by unfold nextR;rw[hx]
  have hi:i < n:=by rw[←hlen];exact(List.getElem?_eq_some_iff.1 hx).1
  refine(next_yes g A n c i ws x h.bd w h.blk h.wds hx (LnP (nextR ws i) w)).mono fun e w' hp=>LnPost.of_giv ?_
  rcases hp with⟨u,gl,⟨h1,h2⟩,hp⟩ | hp
  ·exact .inl ⟨u,gl,⟨x,i+1,hr,hi,h1,h2⟩,hp⟩
  ·exact .inr hp
 |none=>
  have hi:i=n:=by have:=List.getElem?_eq_none_iff.1 hx;have:=h.le;omega
  have hr:nextR ws i=.no 200 (i+1):=by unfold nextR;rw[hx]
  subst hi
  refine(next_no g A i c h.bd w h.blk).mono fun e w' hp=>LnPost.of_giv ?_
  rcases hp with⟨_,_,hf,_⟩ | ⟨chain,he,hf,hc⟩
  ·exact hf.elim
  ·exact .inr ⟨chain,he,⟨200,i+1,hr,hf⟩,hc⟩
theorem took_N{w:World}{g:Nat}{A:Option Go.Addr}{n c i:Nat}{ws:List Bs}(s:Bs)(h:Lin w g A n c i ws):Calls Tryz.prog 152 #[.pointer (some ⟨g,0,none⟩),strV s] w (LnPost g A n c (fun b=>.bool b) (tookR ws i s) w):=by
 have hlen:=h.wds.len
 have up:∀{b:Bool} {j:Nat},tookR ws i s=.ok b j→j≤n→∀{e w'},Sx.givPost ⟨w,[g],LnP (tookR ws i s) w⟩ (GvR g (.bool b) (lnC A n c j)) e w'→LnPost g A n c (fun b=>.bool b) (tookR ws i s) w e w':=by
  intro b j hr hj e w' hp
  refine LnPost.of_giv ?_
  rcases hp with⟨u,gl,⟨h1,h2⟩,hp⟩ | hp
  ·exact .inl ⟨u,gl,⟨b,j,hr,hj,h1,h2⟩,hp⟩
  ·exact .inr hp
 cases hx:ws[i]? with
 |some x=>
  have hi:i < n:=by rw[←hlen];exact(List.getElem?_eq_some_iff.1 hx).1
  by_cases hs:x=s
  ·exact(took_yes g A n c i ws x s h.bd w h.blk h.wds hx hs _).mono fun e w'=>up (by unfold tookR;rw[hx,hs,if_pos rfl]) hi
  ·exact(took_no g A n c i ws x s h.bd w h.blk h.wds hx hs _).mono fun e w'=>up (by unfold tookR;rw[hx,if_neg (by simpa using hs)]) h.le
 |none=>
  have hi:i=n:=by have:=List.getElem?_eq_none_iff.1 hx;have:=h.le;omega
  subst hi
  exact(took_end g A i c s w h.blk _).mono fun e w'=>up (by unfold tookR;rw[hx,if_neg (by simp)]) (Nat.le_refl _)
theorem want_N{α:Type}{w:World}{g:Nat}{A:Option Go.Addr}{n c i:Nat}{ws:List Bs}(b:Bool)(code:Nat)(a:α)(h:Lin w g A n c i ws):Calls Tryz.prog 191 #[.pointer (some ⟨g,0,none⟩),.bool b,.int .i64 (code:Int)] w (LnPost g A n c (fun _=>.tuple #[]) (wantR b code a i) w):=by
 cases b with
 |true=>exact(want_yes _ _ w).mono fun e w' ⟨he,hc⟩=>.inl ⟨a,i,rfl,h.le,he,h.blk.chg hc (by simp),hc.mono (by simp)⟩
 |false=>
  refine(want_no g (.slice A n c) i code w h.blk).mono fun e w' hp=>LnPost.of_giv ?_
  rcases hp with⟨_,_,hf,_⟩ | ⟨chain,he,hf,hc⟩
  ·exact hf.elim
  ·exact .inr ⟨chain,he,⟨code,i,rfl,hf⟩,hc⟩
theorem Lin.at{w W:World}{g:Nat}{A:Option Go.Addr}{n c i j:Nat}{ws:List Bs}(h:Lin w g A n c i ws)(hc:Chg [g] w W)(hj:j≤n)(hb:Blk W g 154 (lnC A n c j)):Lin W g A n c j ws:=⟨hb,h.wds.chg hc,hj,h.bd,h.lan.chg hc (by simpa using h.g9),h.g9,h.sz⟩
theorem Lin.lanAt{w W:World}{g:Nat}{A:Option Go.Addr}{n c i:Nat}{ws:List Bs}(h:Lin w g A n c i ws)(hc:Chg [g] w W):Lan W:=h.lan.chg hc (by simpa using h.g9)
theorem Lin.len{w:World}{g:Nat}{A:Option Go.Addr}{n c i:Nat}{ws:List Bs}(h:Lin w g A n c i ws):ws.length=n:=h.wds.len
theorem next_len{ws:List Bs}{i:Nat}(h:∀x∈ws,x.length≤100000000):((nextR ws i).val).length≤100000000:=by
 unfold nextR
 cases hx:ws[i]? with
 |some x=>exact h x (List.mem_of_getElem? hx)
 |none=>exact Nat.zero_le _
theorem no_of{α β:Type}{T:Out β}{r:Out α}{f:α→Nat→Out β}(e:T=r.bind f):∀code p,r=.no code p→T=.no code p:=fun code p h=>by rw[e,h];rfl
theorem ok_of{α β:Type} [Inhabited α]{T:Out β}{r:Out α}{f:α→Nat→Out β}(e:T=r.bind f)(h:r.okB=true):T=f r.val r.pos:=by
 rw[e]
 cases r with
 |ok a i=>rfl
 |no c p=>cases h
theorem no_eq{α:Type}{T r:Out α}(e:T=r):∀code p,r=.no code p→T=.no code p:=fun code p h=>by rw[e,h]
def lnG{α:Type} [Inhabited α](k g:Nat)(A:Option Go.Addr)(n c:Nat)(r:Out α)(V:α→Value):Sx.GCall:=⟨[k],[(k,⟨154,.giv g (lnC A n c r.pos)⟩)],[],[],.val (V r.val),some (r.okB=true∧r.pos≤n)⟩
theorem ln_st{α γ:Type} [Inhabited α]{P:Program}{w:World}{f g n c i j:Nat}{A:Option Go.Addr}{V:α→Value}{r:Out α}{T:Out γ}{ws:List Bs}(rest:List Value)(h0:Lin w g A n c i ws)(hj:j≤n)(hT:∀code p,r=.no code p→T=.no code p)
  (h:∀W,Lin W g A n c j ws→Calls P f (.pointer (some ⟨g,0,none⟩)::rest).toArray W (LnPost g A n c V r W)) (W:World) (β:Sx.Env) (hS:Sx.See ⟨w,[g],LnP T w⟩ β W (Sx.rowAt (Sx.rowsG [(g,154,lnC A n c j)])) [0]) :
  Calls P f ((Sx.SV.ptr 0 0::rest.map .val).map (Sx.SV.den β)).toArray W (Sx.gPost ⟨w,[g],LnP T w⟩ β W (Sx.rowAt (Sx.rowsG [(g,154,lnC A n c j)])) 1 (lnG 0 g A n c r V)):=
 ln_call rest hS (by simp) rfl (fun hB=>h W (h0.at hS.chg hj hB)) fun code p chain w' hr hf=>⟨code,p,hT code p hr,hf.up hS.chg.size⟩
theorem ln_stm{α γ:Type} [Inhabited α]{P:Program}{w:World}{f g n c i j:Nat}{A:Option Go.Addr}{V:α→Value}{r:Out α}{T:Out γ}{ws:List Bs}(ms:List Sx.Row)(rest:List Value)(h0:Lin w g A n c i ws)(hj:j≤n)(hT:∀code p,r=.no code p→T=.no code p)
  (h:∀W,Lin W g A n c j ws→Calls P f (.pointer (some ⟨g,0,none⟩)::rest).toArray W (LnPost g A n c V r W)) (W:World) (β:Sx.Env) (hS:Sx.See ⟨w,[g],LnP T w⟩ β W (Sx.rowAt (⟨154,.giv g (lnC A n c j)⟩::ms)) [0]) :
  Calls P f ((Sx.SV.ptr 0 0::rest.map .val).map (Sx.SV.den β)).toArray W (Sx.gPost ⟨w,[g],LnP T w⟩ β W (Sx.rowAt (⟨154,.giv g (lnC A n c j)⟩::ms)) (ms.length+1) (lnG 0 g A n c r V)):=
 ln_call rest hS (by simp) rfl (fun hB=>h W (h0.at hS.chg hj hB)) fun code p chain w' hr hf=>⟨code,p,hT code p hr,hf.up hS.chg.size⟩
end Go.Proofs.YtnncigmpcdehnaaGreatDoor
