import Derived.Test.YtnncigmpcdehnaaGreatDoorQd20
namespace Go.Proofs.YtnncigmpcdehnaaGreatDoor
set_option maxRecDepth 100000
open Go.RowKit Go.Lib Go.Sort
def gY(m:Mt):Value:=.agg m.cells.toArray
def LL(g:Nat)(A:Option Go.Addr)(n c:Nat)(T:Out (Bool×Mt)):Sx.cB:=⟨[0,1],[(0,⟨154,.dC g (dr A n c T.pos)⟩),(1,⟨66,.aj T.val.2.cells⟩)],[],[],.val (.bool T.val.1),some (T.okB=true∧T.pos≤n)⟩
def jD(g:Nat)(A:Option Go.Addr)(n c i:Nat)(m:Mt):List Sx.Row:=[⟨154,.dC g (dr A n c i)⟩,⟨66,.aj m.cells⟩]
theorem Hh{γ:Type}{P:Program}{w:World}{f g n c i j:Nat}{A:Option Go.Addr}{ws:List Bs}{m:Mt}{T:Out (Bool×Mt)}{TT:Out γ}(h0:dX w g A n c i ws)(hj:j≤n)(hT:∀code p,T=.no code p→TT=.no code p)
  (h:∀W gm,pN W [g,gm] g A n c j ws→aq W gm 66 m.cells→g≠gm→Calls P f #[.pointer (some ⟨g,0,none⟩),.pointer (some ⟨gm,0,none⟩)] W (gT g gm A n c T W)) (W:World) (β:Sx.Env) (hS:Sx.dP ⟨w,[g],js TT w⟩ β W (Sx.rowAt (jD g A n c j m)) [0,1]) :
  Calls P f (([.ptr 0 0,.ptr 1 0]:List Sx.SV).map (Sx.SV.den β)).toArray W (Sx.aP ⟨w,[g],js TT w⟩ β W (Sx.rowAt (jD g A n c j m)) 2 (LL g A n c T)):=by
 have r0:=hS.held 0 (by simp) _ rfl
 have r1:aq W (β 1) 66 m.cells:=hS.held 1 (by simp) _ rfl
 have e0:β 0=g:=r0.1
 have r0:aq W g 154 (dr A n c j):=e0 ▸ r0.2
 have hne:g≠β 1:=fun he=>by
  have:=hS.inj 0 (by simp) 1 (by simp) _ _ (β 0) rfl rfl rfl (by show some (β 1)=some (β 0);rw[e0,he])
  cases this
 have n1:=hS.new 1 (by simp) _ (β 1) rfl rfl
 have hL:pN W [g,β 1] g A n c j ws:=h0.qX.add hS.aF hj r0 (fun x hx=>by
  simp only[List.mem_cons,List.not_mem_nil,or_false]at hx
  rcases hx with rfl|rfl
  ·exact .inl (by simp)
  ·exact n1) (by simp)
 have ht:Sx.cB.dK β (Sx.rowAt (jD g A n c j m)) (LL g A n c T)=[g,β 1]:=by
  show [β 0,β 1]=_
  rw[e0]
 show Calls P f #[.pointer (some ⟨β 0,0,none⟩),.pointer (some ⟨β 1,0,none⟩)] W _
 rw[e0]
 refine(h W (β 1) hL r1 hne).mono fun e w' hp=>?_
 rcases hp with⟨q,i',rfl,hi,he,b0,b1,hc⟩ | ⟨code,p,chain,hT',he,hf,hc⟩
 ·refine .inl ⟨fun p hp=>by cases hp;exact⟨rfl,hi⟩,β,Sx.dF (v:=.bool q.1) rfl rfl he (fun u hu=>?_) (by rw[ht];exact hc)⟩
  have hu:u=(0,⟨154,.dC g (dr A n c i')⟩)∨u=(1,⟨66,.aj q.2.cells⟩):=by
   have:u∈[(0,(⟨154,.dC g (dr A n c i')⟩:Sx.Row)),(1,⟨66,.aj q.2.cells⟩)]:=hu
   simpa using this
  rcases hu with rfl|rfl
  ·exact⟨e0,by show aq w' (β 0) _ _;rw[e0];exact b0⟩
  ·exact b1
 ·exact .inr ⟨rfl,chain,he,⟨code,p,hT code p hT',hf.up hS.aF.size⟩,by rw[ht];exact hc⟩
theorem AB{k:Nat}{m m':Mt}{ws:List Bs}{i j:Nat}(h:bh k m ws i=.ok m' j):m'.asks=m.asks:=by
 have key:∀{α:Type} {r:Out α} {f:α→Mt},(∀a,(f a).asks=m.asks)→(r.bind fun s j=>.ok (f s) j)=.ok m' j→m'.asks=m.asks:=fun {α r f} hf hh=>by
  cases r with
  |no c p=>cases hh
  |ok a l=>injection hh with h1 _;rw[←h1];exact hf a
 rcases k with _|_|_|_|_|k
 ·exact key (f:=fun s=>{ m with eQ:=s }) (fun _=>rfl) h
 ·exact key (f:=fun s=>{ m with src:=s }) (fun _=>rfl) h
 ·exact key (f:=fun s=>{ m with dst:=s }) (fun _=>rfl) h
 ·exact key (f:=fun s=>{ m with aV:=s }) (fun _=>rfl) h
 ·exact key (f:=fun s=>{ m with sp:=s }) (fun _=>rfl) h
 ·exact key (f:=fun s=>{ m with dp:=s }) (fun _=>rfl) h
theorem Hf{x:Bs}{k:Nat}(h:tr x=some k):k < 6:=by
 unfold tr at h
 repeat' (split at h)
 all_goals first | (injection h with h;omega)|cases h
theorem Cn:∀(a:Fin 64) (k:Fin 6),a.val|||2^k.val < 64:=by decide+kernel
theorem tA{ws:List Bs}{i:Nat}{m m':Mt}{b:Bool}{j:Nat}(h:a7 ws i m=.ok (b,m') j)(ha:m.asks < 64):m'.asks < 64:=by
 unfold a7 at h
 split at h
 ·injection h with h _;injection h with _ h;rw[←h];exact ha
 ·split at h
  ·injection h with h _;injection h with _ h;rw[←h];exact ha
  ·rename_i k hk
   split at h
   ·cases h
   ·cases hr:bh k { m with asks:=m.asks|||2^k } ws (i+1)with
    |no c p=>rw[hr]at h;cases h
    |ok a l=>
     rw[hr]at h
     simp only[Out.bind]at h
     injection h with h _
     injection h with _ h
     rw[←h,AB hr]
     exact Cn ⟨m.asks,ha⟩ ⟨k,Hf hk⟩
theorem zc{ws:List Bs}{i:Nat}{m m':Mt}{j:Nat}(h:a7 ws i m=.ok (false,m') j):m'=m∧j=i:=by
 unfold a7 at h
 split at h
 ·injection h with q q2;injection q with _ q;exact⟨q.symm,q2.symm⟩
 ·split at h
  ·injection h with q q2;injection q with _ q;exact⟨q.symm,q2.symm⟩
  ·split at h
   ·cases h
   ·rename_i k _ _ _
    cases hq:bh k { m with asks:=m.asks|||2^k } ws (i+1)with
    |no c p=>rw[hq]at h;cases h
    |ok a l=>rw[hq]at h;cases h
theorem DY{w:World}{g:Nat}{A:Option Go.Addr}{n c i:Nat}{ws:List Bs}(h:dX w g A n c i ws){T:Out Mt}(h1:dt ws i kZ=.ok true (i+1))(hT:T=.ok lz (i+1)):Calls Tryz.prog 93 #[.pointer (some ⟨g,0,none⟩)] w (bM g A n c gY T w):=by
 have c4:=kU (T:=T) [⟨66,.aj lz.cells⟩] [ab kZ] h h.le (fun code p hh=>by cases hh) (fun W (hL:dX W g A n c i ws)=>h1 ▸ jS kZ hL)
 have z1f:=fun(hp:(Out.ok true (i+1)).okB=true∧(Out.ok true (i+1)).pos≤n)=>(show xu g A n c gY T (.val (gY lz)) [(g,154,dr A n c (i+1))]from⟨lz,_,hT,hp.2,rfl,rfl⟩)
 refine cP [] h.bZ [(4,.an (eo 0 g A n c (Out.ok true (i+1)) fun b=>.bool b))] [] (by kernel_rfl) Tryz.func93 rfl (Nat.le_of_ble_eq_true rfl) ?_
 exact Eq.mp (by kernel_rfl) (And.intro c4 (fun(hx0:(Out.ok true (i+1)).okB=true∧(Out.ok true (i+1)).pos≤n)=>(z1f hx0)))
theorem AU{w:World}{g:Nat}{A:Option Go.Addr}{n c i:Nat}{ws:List Bs}(h:dX w g A n c i ws){T:Out Mt}{r:Out (Bool×Mt)}{m':Mt}{r3:Out Bs}(h1:dt ws i kZ=.ok false i)
  (hn:∀W gm,pN W [g,gm] g A n c i ws→aq W gm 66 lz.cells→g≠gm→Calls Tryz.prog 153 #[.pointer (some ⟨g,0,none⟩),.pointer (some ⟨gm,0,none⟩)] W (gT g gm A n c r W)) (hv:r.val=(false,m'))
  (n3:∀W,dX W g A n c r.pos ws→Calls Tryz.prog 154 #[.pointer (some ⟨g,0,none⟩)] W (bM g A n c ab r3 W))
  (hno:∀code p,r=.no code p→T=.no code p) (e2:r.okB=true→T=r3.bind fun _ l=>.no 200 l):Calls Tryz.prog 93 #[.pointer (some ⟨g,0,none⟩)] w (bM g A n c gY T w):=by
 have hG:LL g A n c r=⟨[0,1],[(0,⟨154,.dC g (dr A n c r.pos)⟩),(1,⟨66,.aj m'.cells⟩)],[],[],.val (.bool false),some (r.okB=true∧r.pos≤n)⟩:=by unfold LL;rw[hv]
 have c4:=kU (T:=T) [⟨66,.aj lz.cells⟩] [ab kZ] h h.le (fun code p hh=>by cases hh) (fun W (hL:dX W g A n c i ws)=>h1 ▸ jS kZ hL)
 have c7f:=fun(_:(Out.ok false i).okB=true∧(Out.ok false i).pos≤n)=>Hh h h.le hno hn
 have c10f:=fun(_:(Out.ok false i).okB=true∧(Out.ok false i).pos≤n) (hp:r.okB=true∧r.pos≤n)=>kU [⟨66,.aj m'.cells⟩] [] h hp.2 (bY (e2 hp.1)) n3
 have c16f:=fun(_:(Out.ok false i).okB=true∧(Out.ok false i).pos≤n) (hp:r.okB=true∧r.pos≤n) (hp3:r3.okB=true∧r3.pos≤n) W (hW:ag [g] w W) (_:aq W g 154 (dr A n c r3.pos))=>je (b:=⟨w,[g],js T w⟩) (vs:=[.pointer (some ⟨g,0,none⟩),.int .i64 200,.int .i64 (r3.pos:Int)]) (ps:=[(0,0)]) ((ow (.pointer (some ⟨g,0,none⟩)) 200 (r3.pos:Int) W).mono fun _ _ ⟨ch,he,hf,hc⟩=>⟨ch,he,(show js T w _ _ from⟨200,r3.pos,bS (e2 hp.1) hp3.1,hf.up hW.size⟩),hc⟩)
 have z3f:=fun(_:(Out.ok false i).okB=true∧(Out.ok false i).pos≤n) (_:r.okB=true∧r.pos≤n) (_:r3.okB=true∧r3.pos≤n)=>trivial
 rw[hG]at c7f
 refine cP [] h.bZ [(4,.an (eo 0 g A n c (Out.ok false i) fun b=>.bool b)),(7,.an ⟨[0,1],[(0,⟨154,.dC g (dr A n c r.pos)⟩),(1,⟨66,.aj m'.cells⟩)],[],[],.val (.bool false),some (r.okB=true∧r.pos≤n)⟩),(10,.an (eo 0 g A n c r3 ab)),(16,.nL)] [] (by kernel_rfl) Tryz.func93 rfl (Nat.le_of_ble_eq_true rfl) ?_
 exact Eq.mp (by kernel_rfl) (And.intro c4 (fun(hx0:(Out.ok false i).okB=true∧(Out.ok false i).pos≤n)=>(And.intro (c7f hx0) (fun(hx1:r.okB=true∧r.pos≤n)=>(And.intro (c10f hx0 hx1) (fun(hx2:r3.okB=true∧r3.pos≤n)=>(And.intro (c16f hx0 hx1 hx2) (z3f hx0 hx1 hx2))))))))
def Of(ws:List Bs)(n:Nat)(T:Out Mt)(k:Mt×Nat):Prop:=k.2≤n∧k.1.asks < 64∧T=ee ws (ws.length+1 - k.2) k.2 k.1
def AR(_:Mt×Nat):List (Nat×Sx.SV):=[(0,.ptr 0 0),(2,.ptr 1 0)]
noncomputable def qW(ws:List Bs)(k:Mt×Nat):Mt×Nat:=((a7 ws k.2 k.1).val.2,(a7 ws k.2 k.1).pos)
def yp(n:Nat)(T:Out Mt)(k:Mt×Nat):Prop:=k.2≤n∧T=.ok k.1 k.2
theorem GC{w:World}{g:Nat}{A:Option Go.Addr}{n c i:Nat}{ws:List Bs}(h:dX w g A n c i ws){T:Out Mt}(k:Mt×Nat)(hk:Of ws n T k) :
  ∃H' L',Sx.jk Tryz.prog Tryz.f93.ntmps ⟨w,[g],js T w⟩ (Sx.bB Tryz.f93 0) H' L' ⟨AR k,jD g A n c k.2 k.1⟩ (Sx.ek (Of ws n T) AR (fun k=>jD g A n c k.2 k.1) (qW ws) (fun k=>n+1 - k.2) (yp n T) (fun _=>[(2,.ptr 1 0)]) (fun k=>jD g A n c k.2 k.1) (qW ws) (Sx.ei (Sx.bB Tryz.f93 0) - 1) (Sx.xj Tryz.prog Tryz.f93 (xu g A n c gY T) .ret) k):=by
 obtain⟨m,j⟩:=k
 obtain⟨hj,ha,hT⟩:=hk
 have hlen:=h.len
 have hj:j≤n:=hj
 have hT:T=ee ws (ws.length+1 - j) j m:=hT
 obtain⟨f,hf⟩:∃f,ws.length+1 - j=f+1:=⟨ws.length - j,by omega⟩
 have e1:T=(a7 ws j m).bind fun r k=>match r.1 with
  |true=>ee ws f k r.2
  |false=>.ok m k:=by rw[hT,hf];rfl
 have hn:=fun W gm (hL:pN W [g,gm] g A n c j ws) (hb:aq W gm 66 m.cells) (hne:g≠gm)=>CT hL hb hne ha
 have hno:=bY e1
 have e2:=bS e1
 have hx:qW ws (m,j)=((a7 ws j m).val.2,(a7 ws j m).pos):=rfl
 have c18:=Hh h hj hno hn
 have ends:∀b,(a7 ws j m).okB=true→(a7 ws j m).val.1=b→(b=true→Of ws n T (qW ws (m,j))∧n+1 - (qW ws (m,j)).2 < n+1 - j)∧(b=false→(a7 ws j m).pos≤n→yp n T (qW ws (m,j))):=by
  intro b hp hb
  have hr:a7 ws j m=.ok ((a7 ws j m).val.1,(a7 ws j m).val.2) (a7 ws j m).pos:=Out.Cr hp
  rw[hb]at hr
  refine⟨fun h1=>?_,fun h1 h2=>?_⟩
  ·rw[h1]at hr hb
   have hps:=vh hr
   have e3:=e2 hp
   rw[hb]at e3
   refine⟨⟨by rw[hx]; omega,by rw[hx]; exact tA hr ha,?_⟩,by rw[hx]; show n+1 - (a7 ws j m).pos < _; omega⟩
   rw[hx]
   exact e3.trans (qD ws _ _ _ _ (by omega) (Nat.le_refl _) hps.2)
  ·rw[h1]at hr hb
   have e3:=e2 hp
   rw[hb]at e3
   refine⟨h2,?_⟩
   have hm:(a7 ws j m).val.2=m:=(zc hr).1
   rw[hx,hm]
   exact e3
 generalize hr:a7 ws j m=r at c18 ends hx
 obtain⟨b,m',hv⟩:∃b m',r.val=(b,m'):=⟨_,_,rfl⟩
 have hG:LL g A n c r=⟨[0,1],[(0,⟨154,.dC g (dr A n c r.pos)⟩),(1,⟨66,.aj m'.cells⟩)],[],[],.val (.bool b),some (r.okB=true∧r.pos≤n)⟩:=by unfold LL;rw[hv]
 rw[hG]at c18
 rw[hv]at hx ends
 refine⟨[(18,.an ⟨[0,1],[(0,⟨154,.dC g (dr A n c r.pos)⟩),(1,⟨66,.aj m'.cells⟩)],[],[],.val (.bool b),some (r.okB=true∧r.pos≤n)⟩)],[],?_⟩
 cases b with
 |true=>
  have h1f:=fun(hp:r.okB=true∧r.pos≤n)=>((ends true hp.1 rfl).1 rfl).1
  have h2f:=fun(hp:r.okB=true∧r.pos≤n)=>((ends true hp.1 rfl).1 rfl).2
  have h3f:=fun(_:r.okB=true∧r.pos≤n)=>(rfl:AR (m,j)=AR (m,j))
  have z4f:=fun(_:r.okB=true∧r.pos≤n)=>(show jD g A n c r.pos m'=jD g A n c (qW ws (m,j)).2 (qW ws (m,j)).1 from by rw[hx])
  exact Eq.mp (by kernel_rfl) (And.intro c18 (fun(hx0:r.okB=true∧r.pos≤n)=>(Sx.t2 (h1f hx0) (h2f hx0) (And.intro (h3f hx0) (z4f hx0)))))
 |false=>
  have h1f:=fun(hp:r.okB=true∧r.pos≤n)=>(ends false hp.1 rfl).2 rfl hp.2
  have h2f:=fun(_:r.okB=true∧r.pos≤n)=>(rfl:([(2,.ptr 1 0)]:List (Nat×Sx.SV))=[(2,.ptr 1 0)])
  have z3f:=fun(_:r.okB=true∧r.pos≤n)=>(show jD g A n c r.pos m'=jD g A n c (qW ws (m,j)).2 (qW ws (m,j)).1 from by rw[hx])
  exact Eq.mp (by kernel_rfl) (And.intro c18 (fun(hx0:r.okB=true∧r.pos≤n)=>(Sx.t2 (h1f hx0) (h2f hx0) (z3f hx0))))
theorem AT{w:World}{g:Nat}{A:Option Go.Addr}{n c i:Nat}{ws:List Bs}(h:dX w g A n c i ws){T:Out Mt}{r:Out (Bool×Mt)}{m':Mt}(h1:dt ws i kZ=.ok false i)
  (hn:∀W gm,pN W [g,gm] g A n c i ws→aq W gm 66 lz.cells→g≠gm→Calls Tryz.prog 153 #[.pointer (some ⟨g,0,none⟩),.pointer (some ⟨gm,0,none⟩)] W (gT g gm A n c r W)) (hv:r.val=(true,m'))
  (hno:∀code p,r=.no code p→T=.no code p) (e2:r.okB=true→r.pos≤n→Of ws n T (m',r.pos)):Calls Tryz.prog 93 #[.pointer (some ⟨g,0,none⟩)] w (bM g A n c gY T w):=by
 have hG:LL g A n c r=⟨[0,1],[(0,⟨154,.dC g (dr A n c r.pos)⟩),(1,⟨66,.aj m'.cells⟩)],[],[],.val (.bool true),some (r.okB=true∧r.pos≤n)⟩:=by unfold LL;rw[hv]
 have c4:=kU (T:=T) [⟨66,.aj lz.cells⟩] [ab kZ] h h.le (fun code p hh=>by cases hh) (fun W (hL:dX W g A n c i ws)=>h1 ▸ jS kZ hL)
 have c7f:=fun(_:(Out.ok false i).okB=true∧(Out.ok false i).pos≤n)=>Hh h h.le hno hn
 have h2f:=fun(_:(Out.ok false i).okB=true∧(Out.ok false i).pos≤n) (hp:r.okB=true∧r.pos≤n)=>e2 hp.1 hp.2
 have e3f:=fun(_:(Out.ok false i).okB=true∧(Out.ok false i).pos≤n) (_:r.okB=true∧r.pos≤n)=>(show AR (m',r.pos)=AR (m',r.pos)∧jD g A n c r.pos m'=jD g A n c r.pos m' from⟨rfl,rfl⟩)
 have rd4f:=fun(_:(Out.ok false i).okB=true∧(Out.ok false i).pos≤n) (_:r.okB=true∧r.pos≤n)=>GC h (T:=T)
 have z7f:=fun(_:(Out.ok false i).okB=true∧(Out.ok false i).pos≤n) (_:r.okB=true∧r.pos≤n) (x:Mt×Nat) (hx:yp n T x)=>(show xu g A n c gY T (.val (gY x.1)) [(g,154,dr A n c x.2)]from⟨x.1,x.2,hx.2,hx.1,rfl,rfl⟩)
 rw[hG]at c7f
 refine cP [] h.bZ [(4,.an (eo 0 g A n c (Out.ok false i) fun b=>.bool b)),(7,.an ⟨[0,1],[(0,⟨154,.dC g (dr A n c r.pos)⟩),(1,⟨66,.aj m'.cells⟩)],[],[],.val (.bool true),some (r.okB=true∧r.pos≤n)⟩)] [.mk (Mt×Nat) (m',r.pos) (Of ws n T) AR (fun k=>jD g A n c k.2 k.1) (qW ws) (fun k=>n+1 - k.2) (Mt×Nat) (yp n T) (fun _=>[(2,.ptr 1 0)]) (fun k=>jD g A n c k.2 k.1) (qW ws)] (by kernel_rfl) Tryz.func93 rfl (Nat.le_of_ble_eq_true rfl) ?_
 exact Eq.mp (by kernel_rfl) (And.intro c4 (fun(hx0:(Out.ok false i).okB=true∧(Out.ok false i).pos≤n)=>(And.intro (c7f hx0) (fun(hx1:r.okB=true∧r.pos≤n)=>(Sx.t2 (h2f hx0 hx1) (e3f hx0 hx1) (And.intro (rd4f hx0 hx1) (fun(x5:Mt×Nat) (hx6:yp n T x5)=>(z7f hx0 hx1 x5 hx6))))))))
theorem GL{w:World}{g:Nat}{A:Option Go.Addr}{n c i:Nat}{ws:List Bs}(h:dX w g A n c i ws):Calls Tryz.prog 93 #[.pointer (some ⟨g,0,none⟩)] w (bM g A n c gY (fu ws i) w):=by
 have hlen:=h.len
 rcases gG (ws:=ws) (i:=i) (s:=kZ)with⟨h1,h2⟩ | h1
 ·exact DY h h1 (by unfold fu;rw[h1];rfl)
 ·have e1:fu ws i=(a7 ws i lz).bind fun r k=>match r.1 with
   |true=>ee ws (ws.length+1 - k) k r.2
   |false=>(aR ws k).bind fun _ l=>.no 200 l:=by unfold fu;rw[h1];rfl
  have hn:=fun W gm (hL:pN W [g,gm] g A n c i ws) (hb:aq W gm 66 lz.cells) (hne:g≠gm)=>CT hL hb hne (by decide)
  cases hb:(a7 ws i lz).val.1 with
  |false=>
   refine AU (m':=(a7 ws i lz).val.2) h h1 hn (by rw[←hb]) (fun W hL=>mb hL) (bY e1) fun hp=>?_
   have:=bS e1 hp
   rw[hb]at this
   exact this
  |true=>
   refine AT (m':=(a7 ws i lz).val.2) h h1 hn (by rw[←hb]) (bY e1) fun hp hle=>⟨hle,?_,?_⟩
   ·exact tA (b:=(a7 ws i lz).val.1) (Out.Cr hp) (by decide)
   ·have:=bS e1 hp
    rw[hb]at this
    exact this
end Go.Proofs.YtnncigmpcdehnaaGreatDoor
