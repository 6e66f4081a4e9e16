import Derived.Test.YtnncigmpcdehnaaGreatDoorQc18
namespace Go.Proofs.YtnncigmpcdehnaaGreatDoor
set_option maxRecDepth 100000
open Go.RowKit Go.Lib Go.Sort
def gv(m:Mt):Value:=.agg m.cells.toArray
def LI(g:Nat)(A:Option Go.Addr)(n c:Nat)(T:Out (Bool×Mt)):Sx.cj:=⟨[0,1],[(0,⟨154,.cx g (cW A n c T.pos)⟩),(1,⟨66,.aj T.val.2.cells⟩)],[],[],.val (.bool T.val.1),some (T.okB=true∧T.pos≤n)⟩
def jB(g:Nat)(A:Option Go.Addr)(n c i:Nat)(m:Mt):List Sx.Row:=[⟨154,.cx g (cW A n c i)⟩,⟨66,.aj m.cells⟩]
theorem G9{γ:Type}{P:Program}{w:World}{f g n c i j:Nat}{A:Option Go.Addr}{ws:List Bs}{m:Mt}{T:Out (Bool×Mt)}{TT:Out γ}(h0:dw w g A n c i ws)(hj:j≤n)(hT:∀code p,T=.no code p→TT=.no code p)
  (h:∀W gm,py W [g,gm] g A n c j ws→aq W gm 66 m.cells→g≠gm→Calls P f #[.pointer (some ⟨g,0,none⟩),.pointer (some ⟨gm,0,none⟩)] W (gQ g gm A n c T W)) (W:World) (β:Sx.Env) (hS:Sx.dz ⟨w,[g],jr TT w⟩ β W (Sx.rowAt (jB g A n c j m)) [0,1]) :
  Calls P f (([.ptr 0 0,.ptr 1 0]:List Sx.SV).map (Sx.SV.den β)).toArray W (Sx.aQ ⟨w,[g],jr TT w⟩ β W (Sx.rowAt (jB g A n c j m)) 2 (LI g A n c T)):=by
 have r0:=hS.held 0 (by simp) _ rfl
 have r1:aq W (β 1) 66 m.cells:=hS.held 1 (by simp) _ rfl
 have e0:β 0=g:=r0.1
 have r0:aq W g 154 (cW A n c j):=e0 ▸ r0.2
 have hne:g≠β 1:=fun he=>by
  have:=hS.inj 0 (by simp) 1 (by simp) _ _ (β 0) rfl rfl rfl (by show some (β 1)=some (β 0);rw[e0,he])
  cases this
 have n1:=hS.new 1 (by simp) _ (β 1) rfl rfl
 have hL:py W [g,β 1] g A n c j ws:=h0.dS.add hS.az hj r0 (fun x hx=>by
  simp only[List.mem_cons,List.not_mem_nil,or_false]at hx
  rcases hx with rfl|rfl
  ·exact .inl (by simp)
  ·exact n1) (by simp)
 have ht:Sx.cj.dI β (Sx.rowAt (jB g A n c j m)) (LI g A n c T)=[g,β 1]:=by
  show [β 0,β 1]=_
  rw[e0]
 show Calls P f #[.pointer (some ⟨β 0,0,none⟩),.pointer (some ⟨β 1,0,none⟩)] W _
 rw[e0]
 refine(h W (β 1) hL r1 hne).mono fun e w' hp=>?_
 rcases hp with⟨q,i',rfl,hi,he,b0,b1,hc⟩ | ⟨code,p,chain,hT',he,hf,hc⟩
 ·refine .inl ⟨fun p hp=>by cases hp;exact⟨rfl,hi⟩,β,Sx.cN (v:=.bool q.1) rfl rfl he (fun u hu=>?_) (by rw[ht];exact hc)⟩
  have hu:u=(0,⟨154,.cx g (cW A n c i')⟩)∨u=(1,⟨66,.aj q.2.cells⟩):=by
   have:u∈[(0,(⟨154,.cx g (cW A n c i')⟩:Sx.Row)),(1,⟨66,.aj q.2.cells⟩)]:=hu
   simpa using this
  rcases hu with rfl|rfl
  ·exact⟨e0,by show aq w' (β 0) _ _;rw[e0];exact b0⟩
  ·exact b1
 ·exact .inr ⟨rfl,chain,he,⟨code,p,hT code p hT',hf.up hS.az.size⟩,by rw[ht];exact hc⟩
theorem Ag{k:Nat}{m m':Mt}{ws:List Bs}{i j:Nat}(h:br k m ws i=.ok m' j):m'.asks=m.asks:=by
 have key:∀{α:Type} {r:Out α} {f:α→Mt},(∀a,(f a).asks=m.asks)→(r.bind fun s j=>.ok (f s) j)=.ok m' j→m'.asks=m.asks:=fun {α r f} hf hh=>by
  cases r with
  |no c p=>cases hh
  |ok a l=>injection hh with h1 _;rw[←h1];exact hf a
 rcases k with _|_|_|_|_|k
 ·exact key (f:=fun s=>{ m with fU:=s }) (fun _=>rfl) h
 ·exact key (f:=fun s=>{ m with src:=s }) (fun _=>rfl) h
 ·exact key (f:=fun s=>{ m with dst:=s }) (fun _=>rfl) h
 ·exact key (f:=fun s=>{ m with bS:=s }) (fun _=>rfl) h
 ·exact key (f:=fun s=>{ m with sp:=s }) (fun _=>rfl) h
 ·exact key (f:=fun s=>{ m with dp:=s }) (fun _=>rfl) h
theorem G7{x:Bs}{k:Nat}(h:tf x=some k):k < 6:=by
 unfold tf at h
 repeat' (split at h)
 all_goals first | (injection h with h;omega)|cases h
theorem Ci:∀(a:Fin 64) (k:Fin 6),a.val|||2^k.val < 64:=by decide+kernel
theorem tp{ws:List Bs}{i:Nat}{m m':Mt}{b:Bool}{j:Nat}(h:bp ws i m=.ok (b,m') j)(ha:m.asks < 64):m'.asks < 64:=by
 unfold bp at h
 split at h
 ·injection h with h _;injection h with _ h;rw[←h];exact ha
 ·split at h
  ·injection h with h _;injection h with _ h;rw[←h];exact ha
  ·rename_i k hk
   split at h
   ·cases h
   ·cases hr:br k { m with asks:=m.asks|||2^k } ws (i+1)with
    |no c p=>rw[hr]at h;cases h
    |ok a l=>
     rw[hr]at h
     simp only[Out.bind]at h
     injection h with h _
     injection h with _ h
     rw[←h,Ag hr]
     exact Ci ⟨m.asks,ha⟩ ⟨k,G7 hk⟩
theorem yP{ws:List Bs}{i:Nat}{m m':Mt}{j:Nat}(h:bp ws i m=.ok (false,m') j):m'=m∧j=i:=by
 unfold bp at h
 split at h
 ·injection h with q q2;injection q with _ q;exact⟨q.symm,q2.symm⟩
 ·split at h
  ·injection h with q q2;injection q with _ q;exact⟨q.symm,q2.symm⟩
  ·split at h
   ·cases h
   ·rename_i k _ _ _
    cases hq:br k { m with asks:=m.asks|||2^k } ws (i+1)with
    |no c p=>rw[hq]at h;cases h
    |ok a l=>rw[hq]at h;cases h
theorem DR{w:World}{g:Nat}{A:Option Go.Addr}{n c i:Nat}{ws:List Bs}(h:dw w g A n c i ws){T:Out Mt}(h1:cH ws i kZ=.ok true (i+1))(hT:T=.ok fL (i+1)):Calls Tryz.prog 93 #[.pointer (some ⟨g,0,none⟩)] w (aO g A n c gv T w):=by
 have c4:=bh (T:=T) [⟨66,.aj fL.cells⟩] [ab kZ] h h.le (fun code p hh=>by cases hh) (fun W (hL:dw W g A n c i ws)=>h1 ▸ fw kZ hL)
 have z1f:=fun(hp:(Out.ok true (i+1)).okB=true∧(Out.ok true (i+1)).pos≤n)=>(show ud g A n c gv T (.val (gv fL)) [(g,154,cW A n c (i+1))]from⟨fL,_,hT,hp.2,rfl,rfl⟩)
 refine cw [] h.bM [(4,.ai (cB 0 g A n c (Out.ok true (i+1)) fun b=>.bool b))] [] (by kernel_rfl) Tryz.func93 rfl (Nat.le_of_ble_eq_true rfl) ?_
 exact Eq.mp (by kernel_rfl) (And.intro c4 (fun(hx0:(Out.ok true (i+1)).okB=true∧(Out.ok true (i+1)).pos≤n)=>(z1f hx0)))
theorem AB{w:World}{g:Nat}{A:Option Go.Addr}{n c i:Nat}{ws:List Bs}(h:dw w g A n c i ws){T:Out Mt}{r:Out (Bool×Mt)}{m':Mt}{r3:Out Bs}(h1:cH ws i kZ=.ok false i)
  (hn:∀W gm,py W [g,gm] g A n c i ws→aq W gm 66 fL.cells→g≠gm→Calls Tryz.prog 153 #[.pointer (some ⟨g,0,none⟩),.pointer (some ⟨gm,0,none⟩)] W (gQ g gm A n c r W)) (hv:r.val=(false,m'))
  (n3:∀W,dw W g A n c r.pos ws→Calls Tryz.prog 154 #[.pointer (some ⟨g,0,none⟩)] W (aO g A n c ab r3 W))
  (hno:∀code p,r=.no code p→T=.no code p) (e2:r.okB=true→T=r3.bind fun _ l=>.no 200 l):Calls Tryz.prog 93 #[.pointer (some ⟨g,0,none⟩)] w (aO g A n c gv T w):=by
 have hG:LI g A n c r=⟨[0,1],[(0,⟨154,.cx g (cW A n c r.pos)⟩),(1,⟨66,.aj m'.cells⟩)],[],[],.val (.bool false),some (r.okB=true∧r.pos≤n)⟩:=by unfold LI;rw[hv]
 have c4:=bh (T:=T) [⟨66,.aj fL.cells⟩] [ab kZ] h h.le (fun code p hh=>by cases hh) (fun W (hL:dw W g A n c i ws)=>h1 ▸ fw kZ hL)
 have c7f:=fun(_:(Out.ok false i).okB=true∧(Out.ok false i).pos≤n)=>G9 h h.le hno hn
 have c10f:=fun(_:(Out.ok false i).okB=true∧(Out.ok false i).pos≤n) (hp:r.okB=true∧r.pos≤n)=>bh [⟨66,.aj m'.cells⟩] [] h hp.2 (aM (e2 hp.1)) n3
 have c16f:=fun(_:(Out.ok false i).okB=true∧(Out.ok false i).pos≤n) (hp:r.okB=true∧r.pos≤n) (hp3:r3.okB=true∧r3.pos≤n) W (hW:ah [g] w W) (_:aq W g 154 (cW A n c r3.pos))=>jb (b:=⟨w,[g],jr T w⟩) (vs:=[.pointer (some ⟨g,0,none⟩),.int .i64 200,.int .i64 (r3.pos:Int)]) (ps:=[(0,0)]) ((mg (.pointer (some ⟨g,0,none⟩)) 200 (r3.pos:Int) W).mono fun _ _ ⟨ch,he,hf,hc⟩=>⟨ch,he,(show jr T w _ _ from⟨200,r3.pos,bu (e2 hp.1) hp3.1,hf.up hW.size⟩),hc⟩)
 have z3f:=fun(_:(Out.ok false i).okB=true∧(Out.ok false i).pos≤n) (_:r.okB=true∧r.pos≤n) (_:r3.okB=true∧r3.pos≤n)=>trivial
 rw[hG]at c7f
 refine cw [] h.bM [(4,.ai (cB 0 g A n c (Out.ok false i) fun b=>.bool b)),(7,.ai ⟨[0,1],[(0,⟨154,.cx g (cW A n c r.pos)⟩),(1,⟨66,.aj m'.cells⟩)],[],[],.val (.bool false),some (r.okB=true∧r.pos≤n)⟩),(10,.ai (cB 0 g A n c r3 ab)),(16,.jk)] [] (by kernel_rfl) Tryz.func93 rfl (Nat.le_of_ble_eq_true rfl) ?_
 exact Eq.mp (by kernel_rfl) (And.intro c4 (fun(hx0:(Out.ok false i).okB=true∧(Out.ok false i).pos≤n)=>(And.intro (c7f hx0) (fun(hx1:r.okB=true∧r.pos≤n)=>(And.intro (c10f hx0 hx1) (fun(hx2:r3.okB=true∧r3.pos≤n)=>(And.intro (c16f hx0 hx1 hx2) (z3f hx0 hx1 hx2))))))))
def Oq(ws:List Bs)(n:Nat)(T:Out Mt)(k:Mt×Nat):Prop:=k.2≤n∧k.1.asks < 64∧T=ei ws (ws.length+1 - k.2) k.2 k.1
def Ay(_:Mt×Nat):List (Nat×Sx.SV):=[(0,.ptr 0 0),(2,.ptr 1 0)]
noncomputable def qK(ws:List Bs)(k:Mt×Nat):Mt×Nat:=((bp ws k.2 k.1).val.2,(bp ws k.2 k.1).pos)
def xU(n:Nat)(T:Out Mt)(k:Mt×Nat):Prop:=k.2≤n∧T=.ok k.1 k.2
theorem Gs{w:World}{g:Nat}{A:Option Go.Addr}{n c i:Nat}{ws:List Bs}(h:dw w g A n c i ws){T:Out Mt}(k:Mt×Nat)(hk:Oq ws n T k) :
  ∃H' L',Sx.iz Tryz.prog Tryz.f93.ntmps ⟨w,[g],jr T w⟩ (Sx.cA Tryz.f93 0) H' L' ⟨Ay k,jB g A n c k.2 k.1⟩ (Sx.gg (Oq ws n T) Ay (fun k=>jB g A n c k.2 k.1) (qK ws) (fun k=>n+1 - k.2) (xU n T) (fun _=>[(2,.ptr 1 0)]) (fun k=>jB g A n c k.2 k.1) (qK ws) (Sx.fq (Sx.cA Tryz.f93 0) - 1) (Sx.wQ Tryz.prog Tryz.f93 (ud g A n c gv T) .ret) k):=by
 obtain⟨m,j⟩:=k
 obtain⟨hj,ha,hT⟩:=hk
 have hlen:=h.len
 have hj:j≤n:=hj
 have hT:T=ei ws (ws.length+1 - j) j m:=hT
 obtain⟨f,hf⟩:∃f,ws.length+1 - j=f+1:=⟨ws.length - j,by omega⟩
 have e1:T=(bp ws j m).bind fun r k=>match r.1 with
  |true=>ei ws f k r.2
  |false=>.ok m k:=by rw[hT,hf];rfl
 have hn:=fun W gm (hL:py W [g,gm] g A n c j ws) (hb:aq W gm 66 m.cells) (hne:g≠gm)=>CN hL hb hne ha
 have hno:=aM e1
 have e2:=bu e1
 have hx:qK ws (m,j)=((bp ws j m).val.2,(bp ws j m).pos):=rfl
 have c18:=G9 h hj hno hn
 have ends:∀b,(bp ws j m).okB=true→(bp ws j m).val.1=b→(b=true→Oq ws n T (qK ws (m,j))∧n+1 - (qK ws (m,j)).2 < n+1 - j)∧(b=false→(bp ws j m).pos≤n→xU n T (qK ws (m,j))):=by
  intro b hp hb
  have hr:bp ws j m=.ok ((bp ws j m).val.1,(bp ws j m).val.2) (bp ws j m).pos:=Out.xP hp
  rw[hb]at hr
  refine⟨fun h1=>?_,fun h1 h2=>?_⟩
  ·rw[h1]at hr hb
   have hps:=u2 hr
   have e3:=e2 hp
   rw[hb]at e3
   refine⟨⟨by rw[hx]; omega,by rw[hx]; exact tp hr ha,?_⟩,by rw[hx]; show n+1 - (bp ws j m).pos < _; omega⟩
   rw[hx]
   exact e3.trans (qt ws _ _ _ _ (by omega) (Nat.le_refl _) hps.2)
  ·rw[h1]at hr hb
   have e3:=e2 hp
   rw[hb]at e3
   refine⟨h2,?_⟩
   have hm:(bp ws j m).val.2=m:=(yP hr).1
   rw[hx,hm]
   exact e3
 generalize hr:bp ws j m=r at c18 ends hx
 obtain⟨b,m',hv⟩:∃b m',r.val=(b,m'):=⟨_,_,rfl⟩
 have hG:LI g A n c r=⟨[0,1],[(0,⟨154,.cx g (cW A n c r.pos)⟩),(1,⟨66,.aj m'.cells⟩)],[],[],.val (.bool b),some (r.okB=true∧r.pos≤n)⟩:=by unfold LI;rw[hv]
 rw[hG]at c18
 rw[hv]at hx ends
 refine⟨[(18,.ai ⟨[0,1],[(0,⟨154,.cx g (cW A n c r.pos)⟩),(1,⟨66,.aj m'.cells⟩)],[],[],.val (.bool b),some (r.okB=true∧r.pos≤n)⟩)],[],?_⟩
 cases b with
 |true=>
  have h1f:=fun(hp:r.okB=true∧r.pos≤n)=>((ends true hp.1 rfl).1 rfl).1
  have h2f:=fun(hp:r.okB=true∧r.pos≤n)=>((ends true hp.1 rfl).1 rfl).2
  have h3f:=fun(_:r.okB=true∧r.pos≤n)=>(rfl:Ay (m,j)=Ay (m,j))
  have z4f:=fun(_:r.okB=true∧r.pos≤n)=>(show jB g A n c r.pos m'=jB g A n c (qK ws (m,j)).2 (qK ws (m,j)).1 from by rw[hx])
  exact Eq.mp (by kernel_rfl) (And.intro c18 (fun(hx0:r.okB=true∧r.pos≤n)=>(Sx.t2 (h1f hx0) (h2f hx0) (And.intro (h3f hx0) (z4f hx0)))))
 |false=>
  have h1f:=fun(hp:r.okB=true∧r.pos≤n)=>(ends false hp.1 rfl).2 rfl hp.2
  have h2f:=fun(_:r.okB=true∧r.pos≤n)=>(rfl:([(2,.ptr 1 0)]:List (Nat×Sx.SV))=[(2,.ptr 1 0)])
  have z3f:=fun(_:r.okB=true∧r.pos≤n)=>(show jB g A n c r.pos m'=jB g A n c (qK ws (m,j)).2 (qK ws (m,j)).1 from by rw[hx])
  exact Eq.mp (by kernel_rfl) (And.intro c18 (fun(hx0:r.okB=true∧r.pos≤n)=>(Sx.t2 (h1f hx0) (h2f hx0) (z3f hx0))))
theorem AA{w:World}{g:Nat}{A:Option Go.Addr}{n c i:Nat}{ws:List Bs}(h:dw w g A n c i ws){T:Out Mt}{r:Out (Bool×Mt)}{m':Mt}(h1:cH ws i kZ=.ok false i)
  (hn:∀W gm,py W [g,gm] g A n c i ws→aq W gm 66 fL.cells→g≠gm→Calls Tryz.prog 153 #[.pointer (some ⟨g,0,none⟩),.pointer (some ⟨gm,0,none⟩)] W (gQ g gm A n c r W)) (hv:r.val=(true,m'))
  (hno:∀code p,r=.no code p→T=.no code p) (e2:r.okB=true→r.pos≤n→Oq ws n T (m',r.pos)):Calls Tryz.prog 93 #[.pointer (some ⟨g,0,none⟩)] w (aO g A n c gv T w):=by
 have hG:LI g A n c r=⟨[0,1],[(0,⟨154,.cx g (cW A n c r.pos)⟩),(1,⟨66,.aj m'.cells⟩)],[],[],.val (.bool true),some (r.okB=true∧r.pos≤n)⟩:=by unfold LI;rw[hv]
 have c4:=bh (T:=T) [⟨66,.aj fL.cells⟩] [ab kZ] h h.le (fun code p hh=>by cases hh) (fun W (hL:dw W g A n c i ws)=>h1 ▸ fw kZ hL)
 have c7f:=fun(_:(Out.ok false i).okB=true∧(Out.ok false i).pos≤n)=>G9 h h.le hno hn
 have h2f:=fun(_:(Out.ok false i).okB=true∧(Out.ok false i).pos≤n) (hp:r.okB=true∧r.pos≤n)=>e2 hp.1 hp.2
 have e3f:=fun(_:(Out.ok false i).okB=true∧(Out.ok false i).pos≤n) (_:r.okB=true∧r.pos≤n)=>(show Ay (m',r.pos)=Ay (m',r.pos)∧jB g A n c r.pos m'=jB g A n c r.pos m' from⟨rfl,rfl⟩)
 have rd4f:=fun(_:(Out.ok false i).okB=true∧(Out.ok false i).pos≤n) (_:r.okB=true∧r.pos≤n)=>Gs h (T:=T)
 have z7f:=fun(_:(Out.ok false i).okB=true∧(Out.ok false i).pos≤n) (_:r.okB=true∧r.pos≤n) (x:Mt×Nat) (hx:xU n T x)=>(show ud g A n c gv T (.val (gv x.1)) [(g,154,cW A n c x.2)]from⟨x.1,x.2,hx.2,hx.1,rfl,rfl⟩)
 rw[hG]at c7f
 refine cw [] h.bM [(4,.ai (cB 0 g A n c (Out.ok false i) fun b=>.bool b)),(7,.ai ⟨[0,1],[(0,⟨154,.cx g (cW A n c r.pos)⟩),(1,⟨66,.aj m'.cells⟩)],[],[],.val (.bool true),some (r.okB=true∧r.pos≤n)⟩)] [.mk (Mt×Nat) (m',r.pos) (Oq ws n T) Ay (fun k=>jB g A n c k.2 k.1) (qK ws) (fun k=>n+1 - k.2) (Mt×Nat) (xU n T) (fun _=>[(2,.ptr 1 0)]) (fun k=>jB g A n c k.2 k.1) (qK ws)] (by kernel_rfl) Tryz.func93 rfl (Nat.le_of_ble_eq_true rfl) ?_
 exact Eq.mp (by kernel_rfl) (And.intro c4 (fun(hx0:(Out.ok false i).okB=true∧(Out.ok false i).pos≤n)=>(And.intro (c7f hx0) (fun(hx1:r.okB=true∧r.pos≤n)=>(Sx.t2 (h2f hx0 hx1) (e3f hx0 hx1) (And.intro (rd4f hx0 hx1) (fun(x5:Mt×Nat) (hx6:xU n T x5)=>(z7f hx0 hx1 x5 hx6))))))))
theorem ye{w:World}{g:Nat}{A:Option Go.Addr}{n c i:Nat}{ws:List Bs}(h:dw w g A n c i ws):Calls Tryz.prog 93 #[.pointer (some ⟨g,0,none⟩)] w (aO g A n c gv (dR ws i) w):=by
 have hlen:=h.len
 rcases eY (ws:=ws) (i:=i) (s:=kZ)with⟨h1,h2⟩ | h1
 ·exact DR h h1 (by unfold dR;rw[h1];rfl)
 ·have e1:dR ws i=(bp ws i fL).bind fun r k=>match r.1 with
   |true=>ei ws (ws.length+1 - k) k r.2
   |false=>(aY ws k).bind fun _ l=>.no 200 l:=by unfold dR;rw[h1];rfl
  have hn:=fun W gm (hL:py W [g,gm] g A n c i ws) (hb:aq W gm 66 fL.cells) (hne:g≠gm)=>CN hL hb hne (by decide)
  cases hb:(bp ws i fL).val.1 with
  |false=>
   refine AB (m':=(bp ws i fL).val.2) h h1 hn (by rw[←hb]) (fun W hL=>lY hL) (aM e1) fun hp=>?_
   have:=bu e1 hp
   rw[hb]at this
   exact this
  |true=>
   refine AA (m':=(bp ws i fL).val.2) h h1 hn (by rw[←hb]) (aM e1) fun hp hle=>⟨hle,?_,?_⟩
   ·exact tp (b:=(bp ws i fL).val.1) (Out.xP hp) (by decide)
   ·have:=bu e1 hp
    rw[hb]at this
    exact this
end Go.Proofs.YtnncigmpcdehnaaGreatDoor
