import Derived.Test.YtnncigmpcdehnaaGreatDoorQb18
namespace Go.Proofs.YtnncigmpcdehnaaGreatDoor
set_option maxRecDepth 100000
open Go.RowKit Go.Lib Go.Sort
def kA(m:Mt):Value:=.agg m.cells.toArray
def KK(g:Nat)(A:Option Go.Addr)(n c:Nat)(T:Out (Bool×Mt)):Sx.cH:=⟨[0,1],[(0,⟨154,.cY g (df A n c T.pos)⟩),(1,⟨66,.ag T.val.2.cells⟩)],[],[],.val (.bool T.val.1),some (T.okB=true∧T.pos≤n)⟩
def jG(g:Nat)(A:Option Go.Addr)(n c i:Nat)(m:Mt):List Sx.Row:=[⟨154,.cY g (df A n c i)⟩,⟨66,.ag m.cells⟩]
theorem GL{γ:Type}{P:Program}{w:World}{f g n c i j:Nat}{A:Option Go.Addr}{ws:List Bs}{m:Mt}{T:Out (Bool×Mt)}{TT:Out γ}(h0:dF w g A n c i ws)(hj:j≤n)(hT:∀code p,T=.no code p→TT=.no code p)
  (h:∀W gm,pG W [g,gm] g A n c j ws→aB W gm 66 m.cells→g≠gm→Calls P f #[.pointer (some ⟨g,0,none⟩),.pointer (some ⟨gm,0,none⟩)] W (gX g gm A n c T W)) (W:World) (β:Sx.Env) (hS:Sx.cw ⟨w,[g],jz TT w⟩ β W (Sx.rowAt (jG g A n c j m)) [0,1]) :
  Calls P f (([.ptr 0 0,.ptr 1 0]:List Sx.SV).map (Sx.SV.den β)).toArray W (Sx.a7 ⟨w,[g],jz TT w⟩ β W (Sx.rowAt (jG g A n c j m)) 2 (KK g A n c T)):=by
 have r0:=hS.held 0 (by simp) _ rfl
 have r1:aB W (β 1) 66 m.cells:=hS.held 1 (by simp) _ rfl
 have e0:β 0=g:=r0.1
 have r0:aB W g 154 (df A n c j):=e0 ▸ r0.2
 have hne:g≠β 1:=fun he=>by
  have:=hS.inj 0 (by simp) 1 (by simp) _ _ (β 0) rfl rfl rfl (by show some (β 1)=some (β 0);rw[e0,he])
  cases this
 have n1:=hS.new 1 (by simp) _ (β 1) rfl rfl
 have hL:pG W [g,β 1] g A n c j ws:=h0.ec.add hS.aP hj r0 (fun x hx=>by
  simp only[List.mem_cons,List.not_mem_nil,or_false]at hx
  rcases hx with rfl|rfl
  ·exact .inl (by simp)
  ·exact n1) (by simp)
 have ht:Sx.cH.dZ β (Sx.rowAt (jG g A n c j m)) (KK g A n c T)=[g,β 1]:=by
  show [β 0,β 1]=_
  rw[e0]
 show Calls P f #[.pointer (some ⟨β 0,0,none⟩),.pointer (some ⟨β 1,0,none⟩)] W _
 rw[e0]
 refine(h W (β 1) hL r1 hne).mono fun e w' hp=>?_
 rcases hp with⟨q,i',rfl,hi,he,b0,b1,hc⟩ | ⟨code,p,chain,hT',he,hf,hc⟩
 ·refine .inl ⟨fun p hp=>by cases hp;exact⟨rfl,hi⟩,β,Sx.dH (v:=.bool q.1) rfl rfl he (fun u hu=>?_) (by rw[ht];exact hc)⟩
  have hu:u=(0,⟨154,.cY g (df A n c i')⟩)∨u=(1,⟨66,.ag q.2.cells⟩):=by
   have:u∈[(0,(⟨154,.cY g (df A n c i')⟩:Sx.Row)),(1,⟨66,.ag q.2.cells⟩)]:=hu
   simpa using this
  rcases hu with rfl|rfl
  ·exact⟨e0,by show aB w' (β 0) _ _;rw[e0];exact b0⟩
  ·exact b1
 ·exact .inr ⟨rfl,chain,he,⟨code,p,hT code p hT',hf.up hS.aP.size⟩,by rw[ht];exact hc⟩
theorem zV{k:Nat}{m m':Mt}{ws:List Bs}{i j:Nat}(h:bA k m ws i=.ok m' j):m'.asks=m.asks:=by
 have key:∀{α:Type} {r:Out α} {f:α→Mt},(∀a,(f a).asks=m.asks)→(r.bind fun s j=>.ok (f s) j)=.ok m' j→m'.asks=m.asks:=fun {α r f} hf hh=>by
  cases r with
  |no c p=>cases hh
  |ok a l=>injection hh with h1 _;rw[←h1];exact hf a
 rcases k with _|_|_|_|_|k
 ·exact key (f:=fun s=>{ m with gf:=s }) (fun _=>rfl) h
 ·exact key (f:=fun s=>{ m with src:=s }) (fun _=>rfl) h
 ·exact key (f:=fun s=>{ m with dst:=s }) (fun _=>rfl) h
 ·exact key (f:=fun s=>{ m with bV:=s }) (fun _=>rfl) h
 ·exact key (f:=fun s=>{ m with sp:=s }) (fun _=>rfl) h
 ·exact key (f:=fun s=>{ m with dp:=s }) (fun _=>rfl) h
theorem GJ{x:Bs}{k:Nat}(h:s6 x=some k):k < 6:=by
 unfold s6 at h
 repeat' (split at h)
 all_goals first | (injection h with h;omega)|cases h
theorem BL:∀(a:Fin 64) (k:Fin 6),a.val|||2^k.val < 64:=by decide+kernel
theorem tj{ws:List Bs}{i:Nat}{m m':Mt}{b:Bool}{j:Nat}(h:bB ws i m=.ok (b,m') j)(ha:m.asks < 64):m'.asks < 64:=by
 unfold bB at h
 split at h
 ·injection h with h _;injection h with _ h;rw[←h];exact ha
 ·split at h
  ·injection h with h _;injection h with _ h;rw[←h];exact ha
  ·rename_i k hk
   split at h
   ·cases h
   ·cases hr:bA k { m with asks:=m.asks|||2^k } ws (i+1)with
    |no c p=>rw[hr]at h;cases h
    |ok a l=>
     rw[hr]at h
     simp only[Out.bind]at h
     injection h with h _
     injection h with _ h
     rw[←h,zV hr]
     exact BL ⟨m.asks,ha⟩ ⟨k,GJ hk⟩
theorem yP{ws:List Bs}{i:Nat}{m m':Mt}{j:Nat}(h:bB ws i m=.ok (false,m') j):m'=m∧j=i:=by
 unfold bB at h
 split at h
 ·injection h with q q2;injection q with _ q;exact⟨q.symm,q2.symm⟩
 ·split at h
  ·injection h with q q2;injection q with _ q;exact⟨q.symm,q2.symm⟩
  ·split at h
   ·cases h
   ·rename_i k _ _ _
    cases hq:bA k { m with asks:=m.asks|||2^k } ws (i+1)with
    |no c p=>rw[hq]at h;cases h
    |ok a l=>rw[hq]at h;cases h
theorem Dp{w:World}{g:Nat}{A:Option Go.Addr}{n c i:Nat}{ws:List Bs}(h:dF w g A n c i ws){T:Out Mt}(h1:cM ws i k8=.ok true (i+1))(hT:T=.ok kZ (i+1)):Calls Tryz.prog 93 #[.pointer (some ⟨g,0,none⟩)] w (aY g A n c kA T w):=by
 have c4:=bu (T:=T) [⟨66,.ag kZ.cells⟩] [af k8] h h.le (fun code p hh=>by cases hh) (fun W (hL:dF W g A n c i ws)=>h1 ▸ fE k8 hL)
 have z1f:=fun(hp:(Out.ok true (i+1)).okB=true∧(Out.ok true (i+1)).pos≤n)=>(show uh g A n c kA T (.val (kA kZ)) [(g,154,df A n c (i+1))]from⟨kZ,_,hT,hp.2,rfl,rfl⟩)
 refine cA [] h.bY [(4,.al (cE 0 g A n c (Out.ok true (i+1)) fun b=>.bool b))] [] (by kernel_rfl) Tryz.func93 rfl (Nat.le_of_ble_eq_true rfl) ?_
 exact Eq.mp (by kernel_rfl) (And.intro c4 (fun(hx0:(Out.ok true (i+1)).okB=true∧(Out.ok true (i+1)).pos≤n)=>(z1f hx0)))
theorem Ak{w:World}{g:Nat}{A:Option Go.Addr}{n c i:Nat}{ws:List Bs}(h:dF w g A n c i ws){T:Out Mt}{r:Out (Bool×Mt)}{m':Mt}{r3:Out Bs}(h1:cM ws i k8=.ok false i)
  (hn:∀W gm,pG W [g,gm] g A n c i ws→aB W gm 66 kZ.cells→g≠gm→Calls Tryz.prog 153 #[.pointer (some ⟨g,0,none⟩),.pointer (some ⟨gm,0,none⟩)] W (gX g gm A n c r W)) (hv:r.val=(false,m'))
  (n3:∀W,dF W g A n c r.pos ws→Calls Tryz.prog 154 #[.pointer (some ⟨g,0,none⟩)] W (aY g A n c af r3 W))
  (hno:∀code p,r=.no code p→T=.no code p) (e2:r.okB=true→T=r3.bind fun _ l=>.no 200 l):Calls Tryz.prog 93 #[.pointer (some ⟨g,0,none⟩)] w (aY g A n c kA T w):=by
 have hG:KK g A n c r=⟨[0,1],[(0,⟨154,.cY g (df A n c r.pos)⟩),(1,⟨66,.ag m'.cells⟩)],[],[],.val (.bool false),some (r.okB=true∧r.pos≤n)⟩:=by unfold KK;rw[hv]
 have c4:=bu (T:=T) [⟨66,.ag kZ.cells⟩] [af k8] h h.le (fun code p hh=>by cases hh) (fun W (hL:dF W g A n c i ws)=>h1 ▸ fE k8 hL)
 have c7f:=fun(_:(Out.ok false i).okB=true∧(Out.ok false i).pos≤n)=>GL h h.le hno hn
 have c10f:=fun(_:(Out.ok false i).okB=true∧(Out.ok false i).pos≤n) (hp:r.okB=true∧r.pos≤n)=>bu [⟨66,.ag m'.cells⟩] [] h hp.2 (aX (e2 hp.1)) n3
 have c16f:=fun(_:(Out.ok false i).okB=true∧(Out.ok false i).pos≤n) (hp:r.okB=true∧r.pos≤n) (hp3:r3.okB=true∧r3.pos≤n) W (hW:aw [g] w W) (_:aB W g 154 (df A n c r3.pos))=>jg (b:=⟨w,[g],jz T w⟩) (vs:=[.pointer (some ⟨g,0,none⟩),.int .i64 200,.int .i64 (r3.pos:Int)]) (ps:=[(0,0)]) ((oh (.pointer (some ⟨g,0,none⟩)) 200 (r3.pos:Int) W).mono fun _ _ ⟨ch,he,hf,hc⟩=>⟨ch,he,(show jz T w _ _ from⟨200,r3.pos,bH (e2 hp.1) hp3.1,hf.up hW.size⟩),hc⟩)
 have z3f:=fun(_:(Out.ok false i).okB=true∧(Out.ok false i).pos≤n) (_:r.okB=true∧r.pos≤n) (_:r3.okB=true∧r3.pos≤n)=>trivial
 rw[hG]at c7f
 refine cA [] h.bY [(4,.al (cE 0 g A n c (Out.ok false i) fun b=>.bool b)),(7,.al ⟨[0,1],[(0,⟨154,.cY g (df A n c r.pos)⟩),(1,⟨66,.ag m'.cells⟩)],[],[],.val (.bool false),some (r.okB=true∧r.pos≤n)⟩),(10,.al (cE 0 g A n c r3 af)),(16,.jt)] [] (by kernel_rfl) Tryz.func93 rfl (Nat.le_of_ble_eq_true rfl) ?_
 exact Eq.mp (by kernel_rfl) (And.intro c4 (fun(hx0:(Out.ok false i).okB=true∧(Out.ok false i).pos≤n)=>(And.intro (c7f hx0) (fun(hx1:r.okB=true∧r.pos≤n)=>(And.intro (c10f hx0 hx1) (fun(hx2:r3.okB=true∧r3.pos≤n)=>(And.intro (c16f hx0 hx1 hx2) (z3f hx0 hx1 hx2))))))))
def Na(ws:List Bs)(n:Nat)(T:Out Mt)(k:Mt×Nat):Prop:=k.2≤n∧k.1.asks < 64∧T=ey ws (ws.length+1 - k.2) k.2 k.1
def Ah(_:Mt×Nat):List (Nat×Sx.SV):=[(0,.ptr 0 0),(2,.ptr 1 0)]
noncomputable def qS(ws:List Bs)(k:Mt×Nat):Mt×Nat:=((bB ws k.2 k.1).val.2,(bB ws k.2 k.1).pos)
def xW(n:Nat)(T:Out Mt)(k:Mt×Nat):Prop:=k.2≤n∧T=.ok k.1 k.2
theorem F4{w:World}{g:Nat}{A:Option Go.Addr}{n c i:Nat}{ws:List Bs}(h:dF w g A n c i ws){T:Out Mt}(k:Mt×Nat)(hk:Na ws n T k) :
  ∃H' L',Sx.jn Tryz.prog Tryz.f93.ntmps ⟨w,[g],jz T w⟩ (Sx.cR Tryz.f93 0) H' L' ⟨Ah k,jG g A n c k.2 k.1⟩ (Sx.gI (Na ws n T) Ah (fun k=>jG g A n c k.2 k.1) (qS ws) (fun k=>n+1 - k.2) (xW n T) (fun _=>[(2,.ptr 1 0)]) (fun k=>jG g A n c k.2 k.1) (qS ws) (Sx.fK (Sx.cR Tryz.f93 0) - 1) (Sx.wX Tryz.prog Tryz.f93 (uh g A n c kA T) .ret) k):=by
 obtain⟨m,j⟩:=k
 obtain⟨hj,ha,hT⟩:=hk
 have hlen:=h.len
 have hj:j≤n:=hj
 have hT:T=ey ws (ws.length+1 - j) j m:=hT
 obtain⟨f,hf⟩:∃f,ws.length+1 - j=f+1:=⟨ws.length - j,by omega⟩
 have e1:T=(bB ws j m).bind fun r k=>match r.1 with
  |true=>ey ws f k r.2
  |false=>.ok m k:=by rw[hT,hf];rfl
 have hn:=fun W gm (hL:pG W [g,gm] g A n c j ws) (hb:aB W gm 66 m.cells) (hne:g≠gm)=>Cj hL hb hne ha
 have hno:=aX e1
 have e2:=bH e1
 have hx:qS ws (m,j)=((bB ws j m).val.2,(bB ws j m).pos):=rfl
 have c18:=GL h hj hno hn
 have ends:∀b,(bB ws j m).okB=true→(bB ws j m).val.1=b→(b=true→Na ws n T (qS ws (m,j))∧n+1 - (qS ws (m,j)).2 < n+1 - j)∧(b=false→(bB ws j m).pos≤n→xW n T (qS ws (m,j))):=by
  intro b hp hb
  have hr:bB ws j m=.ok ((bB ws j m).val.1,(bB ws j m).val.2) (bB ws j m).pos:=Out.BP hp
  rw[hb]at hr
  refine⟨fun h1=>?_,fun h1 h2=>?_⟩
  ·rw[h1]at hr hb
   have hps:=vf hr
   have e3:=e2 hp
   rw[hb]at e3
   refine⟨⟨by rw[hx]; omega,by rw[hx]; exact tj hr ha,?_⟩,by rw[hx]; show n+1 - (bB ws j m).pos < _; omega⟩
   rw[hx]
   exact e3.trans (qz ws _ _ _ _ (by omega) (Nat.le_refl _) hps.2)
  ·rw[h1]at hr hb
   have e3:=e2 hp
   rw[hb]at e3
   refine⟨h2,?_⟩
   have hm:(bB ws j m).val.2=m:=(yP hr).1
   rw[hx,hm]
   exact e3
 generalize hr:bB ws j m=r at c18 ends hx
 obtain⟨b,m',hv⟩:∃b m',r.val=(b,m'):=⟨_,_,rfl⟩
 have hG:KK g A n c r=⟨[0,1],[(0,⟨154,.cY g (df A n c r.pos)⟩),(1,⟨66,.ag m'.cells⟩)],[],[],.val (.bool b),some (r.okB=true∧r.pos≤n)⟩:=by unfold KK;rw[hv]
 rw[hG]at c18
 rw[hv]at hx ends
 refine⟨[(18,.al ⟨[0,1],[(0,⟨154,.cY g (df A n c r.pos)⟩),(1,⟨66,.ag m'.cells⟩)],[],[],.val (.bool b),some (r.okB=true∧r.pos≤n)⟩)],[],?_⟩
 cases b with
 |true=>
  have h1f:=fun(hp:r.okB=true∧r.pos≤n)=>((ends true hp.1 rfl).1 rfl).1
  have h2f:=fun(hp:r.okB=true∧r.pos≤n)=>((ends true hp.1 rfl).1 rfl).2
  have h3f:=fun(_:r.okB=true∧r.pos≤n)=>(rfl:Ah (m,j)=Ah (m,j))
  have z4f:=fun(_:r.okB=true∧r.pos≤n)=>(show jG g A n c r.pos m'=jG g A n c (qS ws (m,j)).2 (qS ws (m,j)).1 from by rw[hx])
  exact Eq.mp (by kernel_rfl) (And.intro c18 (fun(hx0:r.okB=true∧r.pos≤n)=>(Sx.t2 (h1f hx0) (h2f hx0) (And.intro (h3f hx0) (z4f hx0)))))
 |false=>
  have h1f:=fun(hp:r.okB=true∧r.pos≤n)=>(ends false hp.1 rfl).2 rfl hp.2
  have h2f:=fun(_:r.okB=true∧r.pos≤n)=>(rfl:([(2,.ptr 1 0)]:List (Nat×Sx.SV))=[(2,.ptr 1 0)])
  have z3f:=fun(_:r.okB=true∧r.pos≤n)=>(show jG g A n c r.pos m'=jG g A n c (qS ws (m,j)).2 (qS ws (m,j)).1 from by rw[hx])
  exact Eq.mp (by kernel_rfl) (And.intro c18 (fun(hx0:r.okB=true∧r.pos≤n)=>(Sx.t2 (h1f hx0) (h2f hx0) (z3f hx0))))
theorem Aj{w:World}{g:Nat}{A:Option Go.Addr}{n c i:Nat}{ws:List Bs}(h:dF w g A n c i ws){T:Out Mt}{r:Out (Bool×Mt)}{m':Mt}(h1:cM ws i k8=.ok false i)
  (hn:∀W gm,pG W [g,gm] g A n c i ws→aB W gm 66 kZ.cells→g≠gm→Calls Tryz.prog 153 #[.pointer (some ⟨g,0,none⟩),.pointer (some ⟨gm,0,none⟩)] W (gX g gm A n c r W)) (hv:r.val=(true,m'))
  (hno:∀code p,r=.no code p→T=.no code p) (e2:r.okB=true→r.pos≤n→Na ws n T (m',r.pos)):Calls Tryz.prog 93 #[.pointer (some ⟨g,0,none⟩)] w (aY g A n c kA T w):=by
 have hG:KK g A n c r=⟨[0,1],[(0,⟨154,.cY g (df A n c r.pos)⟩),(1,⟨66,.ag m'.cells⟩)],[],[],.val (.bool true),some (r.okB=true∧r.pos≤n)⟩:=by unfold KK;rw[hv]
 have c4:=bu (T:=T) [⟨66,.ag kZ.cells⟩] [af k8] h h.le (fun code p hh=>by cases hh) (fun W (hL:dF W g A n c i ws)=>h1 ▸ fE k8 hL)
 have c7f:=fun(_:(Out.ok false i).okB=true∧(Out.ok false i).pos≤n)=>GL h h.le hno hn
 have h2f:=fun(_:(Out.ok false i).okB=true∧(Out.ok false i).pos≤n) (hp:r.okB=true∧r.pos≤n)=>e2 hp.1 hp.2
 have e3f:=fun(_:(Out.ok false i).okB=true∧(Out.ok false i).pos≤n) (_:r.okB=true∧r.pos≤n)=>(show Ah (m',r.pos)=Ah (m',r.pos)∧jG g A n c r.pos m'=jG g A n c r.pos m' from⟨rfl,rfl⟩)
 have rd4f:=fun(_:(Out.ok false i).okB=true∧(Out.ok false i).pos≤n) (_:r.okB=true∧r.pos≤n)=>F4 h (T:=T)
 have z7f:=fun(_:(Out.ok false i).okB=true∧(Out.ok false i).pos≤n) (_:r.okB=true∧r.pos≤n) (x:Mt×Nat) (hx:xW n T x)=>(show uh g A n c kA T (.val (kA x.1)) [(g,154,df A n c x.2)]from⟨x.1,x.2,hx.2,hx.1,rfl,rfl⟩)
 rw[hG]at c7f
 refine cA [] h.bY [(4,.al (cE 0 g A n c (Out.ok false i) fun b=>.bool b)),(7,.al ⟨[0,1],[(0,⟨154,.cY g (df A n c r.pos)⟩),(1,⟨66,.ag m'.cells⟩)],[],[],.val (.bool true),some (r.okB=true∧r.pos≤n)⟩)] [.mk (Mt×Nat) (m',r.pos) (Na ws n T) Ah (fun k=>jG g A n c k.2 k.1) (qS ws) (fun k=>n+1 - k.2) (Mt×Nat) (xW n T) (fun _=>[(2,.ptr 1 0)]) (fun k=>jG g A n c k.2 k.1) (qS ws)] (by kernel_rfl) Tryz.func93 rfl (Nat.le_of_ble_eq_true rfl) ?_
 exact Eq.mp (by kernel_rfl) (And.intro c4 (fun(hx0:(Out.ok false i).okB=true∧(Out.ok false i).pos≤n)=>(And.intro (c7f hx0) (fun(hx1:r.okB=true∧r.pos≤n)=>(Sx.t2 (h2f hx0 hx1) (e3f hx0 hx1) (And.intro (rd4f hx0 hx1) (fun(x5:Mt×Nat) (hx6:xW n T x5)=>(z7f hx0 hx1 x5 hx6))))))))
theorem Ga{w:World}{g:Nat}{A:Option Go.Addr}{n c i:Nat}{ws:List Bs}(h:dF w g A n c i ws):Calls Tryz.prog 93 #[.pointer (some ⟨g,0,none⟩)] w (aY g A n c kA (fF ws i) w):=by
 have hlen:=h.len
 rcases fe (ws:=ws) (i:=i) (s:=k8)with⟨h1,h2⟩ | h1
 ·exact Dp h h1 (by unfold fF;rw[h1];rfl)
 ·have e1:fF ws i=(bB ws i kZ).bind fun r k=>match r.1 with
   |true=>ey ws (ws.length+1 - k) k r.2
   |false=>(bj ws k).bind fun _ l=>.no 200 l:=by unfold fF;rw[h1];rfl
  have hn:=fun W gm (hL:pG W [g,gm] g A n c i ws) (hb:aB W gm 66 kZ.cells) (hne:g≠gm)=>Cj hL hb hne (by decide)
  cases hb:(bB ws i kZ).val.1 with
  |false=>
   refine Ak (m':=(bB ws i kZ).val.2) h h1 hn (by rw[←hb]) (fun W hL=>lX hL) (aX e1) fun hp=>?_
   have:=bH e1 hp
   rw[hb]at this
   exact this
  |true=>
   refine Aj (m':=(bB ws i kZ).val.2) h h1 hn (by rw[←hb]) (aX e1) fun hp hle=>⟨hle,?_,?_⟩
   ·exact tj (b:=(bB ws i kZ).val.1) (Out.BP hp) (by decide)
   ·have:=bH e1 hp
    rw[hb]at this
    exact this
end Go.Proofs.YtnncigmpcdehnaaGreatDoor
