import Derived.Test.YtnncigmpcdehnaaGreatDoorQf19
namespace Go.Proofs.YtnncigmpcdehnaaGreatDoor
set_option maxRecDepth 100000
open Go.RowKit Go.Lib Go.Sort _root_.Go.Proofs.Tryz
set_option maxRecDepth 100000
def j5(m:Mt):Value:=.agg m.cells.toArray
def O3(g:Nat)(A:Option Go.Addr)(n c:Nat)(T:Out (Bool×Mt)):Sx.cC:=⟨[0,1],[(0,⟨154,.dF g (dJ A n c T.pos)⟩),(1,⟨66,.ak T.val.2.cells⟩)],[],[],.val (.bool T.val.1),some (T.okB=true∧T.pos≤n)⟩
def ko(g:Nat)(A:Option Go.Addr)(n c i:Nat)(m:Mt):List Sx.Row:=[⟨154,.dF g (dJ A n c i)⟩,⟨66,.ak m.cells⟩]
theorem Kf{γ:Type}{P:Program}{w:World}{f g n c i j:Nat}{A:Option Go.Addr}{ws:List Bs}{m:Mt}{T:Out (Bool×Mt)}{TT:Out γ}(h0:eJ w g A n c i ws)(hj:j≤n)(hT:∀code p,T=.no code p→TT=.no code p)
  (h:∀W gm,qQ W [g,gm] g A n c j ws→au W gm 66 m.cells→g≠gm→Calls P f #[.pointer (some ⟨g,0,none⟩),.pointer (some ⟨gm,0,none⟩)] W (iL g gm A n c T W)) (W:World) (β:Sx.Env) (hS:Sx.eF ⟨w,[g],j2 TT w⟩ β W (Sx.rowAt (ko g A n c j m)) [0,1]) :
  Calls P f (([.ptr 0 0,.ptr 1 0]:List Sx.SV).map (Sx.SV.den β)).toArray W (Sx.aY ⟨w,[g],j2 TT w⟩ β W (Sx.rowAt (ko g A n c j m)) 2 (O3 g A n c T)):=by
 have r0:=hS.held 0 (by simp) _ rfl
 have r1:au W (β 1) 66 m.cells:=hS.held 1 (by simp) _ rfl
 have e0:β 0=g:=r0.1
 have r0:au W g 154 (dJ A n c j):=e0 ▸ r0.2
 have hne:g≠β 1:=fun he=>by
  have:=hS.inj 0 (by simp) 1 (by simp) _ _ (β 0) rfl rfl rfl (by show some (β 1)=some (β 0);rw[e0,he])
  cases this
 have n1:=hS.new 1 (by simp) _ (β 1) rfl rfl
 have hL:qQ W [g,β 1] g A n c j ws:=h0.sM.add hS.aG hj r0 (fun x hx=>by
  simp only[List.mem_cons,List.not_mem_nil,or_false]at hx
  rcases hx with rfl|rfl
  ·exact .inl (by simp)
  ·exact n1) (by simp)
 have ht:Sx.cC.ec β (Sx.rowAt (ko g A n c j m)) (O3 g A n c T)=[g,β 1]:=by
  show [β 0,β 1]=_
  rw[e0]
 show Calls P f #[.pointer (some ⟨β 0,0,none⟩),.pointer (some ⟨β 1,0,none⟩)] W _
 rw[e0]
 refine(h W (β 1) hL r1 hne).mono fun e w' hp=>?_
 rcases hp with⟨q,i',rfl,hi,he,b0,b1,hc⟩ | ⟨code,p,chain,hT',he,hf,hc⟩
 ·refine .inl ⟨fun p hp=>by cases hp;exact⟨rfl,hi⟩,β,Sx.du (v:=.bool q.1) rfl rfl he (fun u hu=>?_) (by rw[ht];exact hc)⟩
  have hu:u=(0,⟨154,.dF g (dJ A n c i')⟩)∨u=(1,⟨66,.ak q.2.cells⟩):=by
   have:u∈[(0,(⟨154,.dF g (dJ A n c i')⟩:Sx.Row)),(1,⟨66,.ak q.2.cells⟩)]:=hu
   simpa using this
  rcases hu with rfl|rfl
  ·exact⟨e0,by show au w' (β 0) _ _;rw[e0];exact b0⟩
  ·exact b1
 ·exact .inr ⟨rfl,chain,he,⟨code,p,hT code p hT',hf.up hS.aG.size⟩,by rw[ht];exact hc⟩
theorem CK{k:Nat}{m m':Mt}{ws:List Bs}{i j:Nat}(h:bu k m ws i=.ok m' j):m'.asks=m.asks:=by
 have key:∀{α:Type} {r:Out α} {f:α→Mt},(∀a,(f a).asks=m.asks)→(r.bind fun s j=>.ok (f s) j)=.ok m' j→m'.asks=m.asks:=fun {α r f} hf hh=>by
  cases r with
  |no c p=>cases hh
  |ok a l=>injection hh with h1 _;rw[←h1];exact hf a
 rcases k with _|_|_|_|_|k
 ·exact key (f:=fun s=>{ m with ff:=s }) (fun _=>rfl) h
 ·exact key (f:=fun s=>{ m with src:=s }) (fun _=>rfl) h
 ·exact key (f:=fun s=>{ m with dst:=s }) (fun _=>rfl) h
 ·exact key (f:=fun s=>{ m with bb:=s }) (fun _=>rfl) h
 ·exact key (f:=fun s=>{ m with sp:=s }) (fun _=>rfl) h
 ·exact key (f:=fun s=>{ m with dp:=s }) (fun _=>rfl) h
theorem Kb{x:Bs}{k:Nat}(h:vz x=some k):k < 6:=by
 unfold vz at h
 repeat' (split at h)
 all_goals first | (injection h with h;omega)|cases h
theorem EA:∀(a:Fin 64) (k:Fin 6),a.val|||2^k.val < 64:=by decide+kernel
theorem vE{ws:List Bs}{i:Nat}{m m':Mt}{b:Bool}{j:Nat}(h:bn ws i m=.ok (b,m') j)(ha:m.asks < 64):m'.asks < 64:=by
 unfold bn at h
 split at h
 ·injection h with h _;injection h with _ h;rw[←h];exact ha
 ·split at h
  ·injection h with h _;injection h with _ h;rw[←h];exact ha
  ·rename_i k hk
   split at h
   ·cases h
   ·cases hr:bu k { m with asks:=m.asks|||2^k } ws (i+1)with
    |no c p=>rw[hr]at h;cases h
    |ok a l=>
     rw[hr]at h
     simp only[Out.bind]at h
     injection h with h _
     injection h with _ h
     rw[←h,CK hr]
     exact EA ⟨m.asks,ha⟩ ⟨k,Kb hk⟩
theorem Bl{ws:List Bs}{i:Nat}{m m':Mt}{j:Nat}(h:bn ws i m=.ok (false,m') j):m'=m∧j=i:=by
 unfold bn at h
 split at h
 ·injection h with q q2;injection q with _ q;exact⟨q.symm,q2.symm⟩
 ·split at h
  ·injection h with q q2;injection q with _ q;exact⟨q.symm,q2.symm⟩
  ·split at h
   ·cases h
   ·rename_i k _ _ _
    cases hq:bu k { m with asks:=m.asks|||2^k } ws (i+1)with
    |no c p=>rw[hq]at h;cases h
    |ok a l=>rw[hq]at h;cases h
theorem Gs{w:World}{g:Nat}{A:Option Go.Addr}{n c i:Nat}{ws:List Bs}(h:eJ w g A n c i ws){T:Out Mt}(h1:dL ws i mf=.ok true (i+1))(hT:T=.ok mF (i+1)):Calls prog 93 #[(pt g 0)] w (bU g A n c j5 T w):=by
 have c4:=l9 (T:=T) [⟨66,.ak mF.cells⟩] [ab mf] h h.le (fun code p hh=>by cases hh) (fun W (hL:eJ W g A n c i ws)=>h1 ▸ kJ mf hL)
 have z1f:=fun(hp:(Out.ok true (i+1)).okB=true∧(Out.ok true (i+1)).pos≤n)=>(show zy g A n c j5 T (.val (j5 mF)) [(g,154,dJ A n c (i+1))]from⟨mF,_,hT,hp.2,rfl,rfl⟩)
 refine cZ [] h.b9 [(4,.aq (eV 0 g A n c (Out.ok true (i+1)) fun b=>.bool b))] [] (by kernel_rfl) func93 rfl (cn rfl) ?_
 exact Eq.mp (by kernel_rfl) (And.intro c4 (fun(hx0:(Out.ok true (i+1)).okB=true∧(Out.ok true (i+1)).pos≤n)=>(z1f hx0)))
theorem Da{w:World}{g:Nat}{A:Option Go.Addr}{n c i:Nat}{ws:List Bs}(h:eJ w g A n c i ws){T:Out Mt}{r:Out (Bool×Mt)}{m':Mt}{r3:Out Bs}(h1:dL ws i mf=.ok false i)
  (hn:∀W gm,qQ W [g,gm] g A n c i ws→au W gm 66 mF.cells→g≠gm→Calls prog 153 #[(pt g 0),(pt gm 0)] W (iL g gm A n c r W)) (hv:r.val=(false,m'))
  (n3:∀W,eJ W g A n c r.pos ws→Calls prog 154 #[(pt g 0)] W (bU g A n c ab r3 W))
  (hno:∀code p,r=.no code p→T=.no code p) (e2:r.okB=true→T=r3.bind fun _ l=>.no 200 l):Calls prog 93 #[(pt g 0)] w (bU g A n c j5 T w):=by
 have hG:O3 g A n c r=⟨[0,1],[(0,⟨154,.dF g (dJ A n c r.pos)⟩),(1,⟨66,.ak m'.cells⟩)],[],[],.val (.bool false),some (r.okB=true∧r.pos≤n)⟩:=by unfold O3;rw[hv]
 have c4:=l9 (T:=T) [⟨66,.ak mF.cells⟩] [ab mf] h h.le (fun code p hh=>by cases hh) (fun W (hL:eJ W g A n c i ws)=>h1 ▸ kJ mf hL)
 have c7f:=fun(_:(Out.ok false i).okB=true∧(Out.ok false i).pos≤n)=>Kf h h.le hno hn
 have c10f:=fun(_:(Out.ok false i).okB=true∧(Out.ok false i).pos≤n) (hp:r.okB=true∧r.pos≤n)=>l9 [⟨66,.ak m'.cells⟩] [] h hp.2 (cj (e2 hp.1)) n3
 have c16f:=fun(_:(Out.ok false i).okB=true∧(Out.ok false i).pos≤n) (hp:r.okB=true∧r.pos≤n) (hp3:r3.okB=true∧r3.pos≤n) W (hW:ai [g] w W) (_:au W g 154 (dJ A n c r3.pos))=>jN (b:=⟨w,[g],j2 T w⟩) (vs:=[(pt g 0),.int .i64 200,.int .i64 (r3.pos:Int)]) (ps:=[(0,0)]) ((pw ((pt g 0)) 200 (r3.pos:Int) W).mono fun _ _ ⟨ch,he,hf,hc⟩=>⟨ch,he,(show j2 T w _ _ from⟨200,r3.pos,bZ (e2 hp.1) hp3.1,hf.up hW.size⟩),hc⟩)
 have z3f:=fun(_:(Out.ok false i).okB=true∧(Out.ok false i).pos≤n) (_:r.okB=true∧r.pos≤n) (_:r3.okB=true∧r3.pos≤n)=>trivial
 rw[hG]at c7f
 refine cZ [] h.b9 [(4,.aq (eV 0 g A n c (Out.ok false i) fun b=>.bool b)),(7,.aq ⟨[0,1],[(0,⟨154,.dF g (dJ A n c r.pos)⟩),(1,⟨66,.ak m'.cells⟩)],[],[],.val (.bool false),some (r.okB=true∧r.pos≤n)⟩),(10,.aq (eV 0 g A n c r3 ab)),(16,.oP)] [] (by kernel_rfl) func93 rfl (cn rfl) ?_
 exact Eq.mp (by kernel_rfl) (And.intro c4 (fun(hx0:(Out.ok false i).okB=true∧(Out.ok false i).pos≤n)=>(And.intro (c7f hx0) (fun(hx1:r.okB=true∧r.pos≤n)=>(And.intro (c10f hx0 hx1) (fun(hx2:r3.okB=true∧r3.pos≤n)=>(And.intro (c16f hx0 hx1 hx2) (z3f hx0 hx1 hx2))))))))
def RY(ws:List Bs)(n:Nat)(T:Out Mt)(k:Mt×Nat):Prop:=k.2≤n∧k.1.asks < 64∧T=eO ws (ws.length+1 - k.2) k.2 k.1
def C0(_:Mt×Nat):List (Nat×Sx.SV):=[(0,.ptr 0 0),(2,.ptr 1 0)]
noncomputable def sK(ws:List Bs)(k:Mt×Nat):Mt×Nat:=((bn ws k.2 k.1).val.2,(bn ws k.2 k.1).pos)
def Aw(n:Nat)(T:Out Mt)(k:Mt×Nat):Prop:=k.2≤n∧T=.ok k.1 k.2
theorem Jy{w:World}{g:Nat}{A:Option Go.Addr}{n c i:Nat}{ws:List Bs}(h:eJ w g A n c i ws){T:Out Mt}(k:Mt×Nat)(hk:RY ws n T k) :
  ∃H' L',Sx.jU prog f93.ntmps ⟨w,[g],j2 T w⟩ (Sx.aQ f93 0) H' L' ⟨C0 k,ko g A n c k.2 k.1⟩ (Sx.dR (RY ws n T) C0 (fun k=>ko g A n c k.2 k.1) (sK ws) (fun k=>n+1 - k.2) (Aw n T) (fun _=>[(2,.ptr 1 0)]) (fun k=>ko g A n c k.2 k.1) (sK ws) (Sx.dM (Sx.aQ f93 0) - 1) (Sx.zj prog f93 (zy g A n c j5 T) .ret) k):=by
 obtain⟨m,j⟩:=k
 obtain⟨hj,ha,hT⟩:=hk
 have hlen:=h.len
 have hj:j≤n:=hj
 have hT:T=eO ws (ws.length+1 - j) j m:=hT
 obtain⟨f,hf⟩:∃f,ws.length+1 - j=f+1:=⟨ws.length - j,by omega⟩
 have e1:T=(bn ws j m).bind fun r k=>match r.1 with
  |true=>eO ws f k r.2
  |false=>.ok m k:=by rw[hT,hf];rfl
 have hn:=fun W gm (hL:qQ W [g,gm] g A n c j ws) (hb:au W gm 66 m.cells) (hne:g≠gm)=>Ff hL hb hne ha
 have hno:=cj e1
 have e2:=bZ e1
 have hx:sK ws (m,j)=((bn ws j m).val.2,(bn ws j m).pos):=rfl
 have c18:=Kf h hj hno hn
 have ends:∀b,(bn ws j m).okB=true→(bn ws j m).val.1=b→(b=true→RY ws n T (sK ws (m,j))∧n+1 - (sK ws (m,j)).2 < n+1 - j)∧(b=false→(bn ws j m).pos≤n→Aw n T (sK ws (m,j))):=by
  intro b hp hb
  have hr:bn ws j m=.ok ((bn ws j m).val.1,(bn ws j m).val.2) (bn ws j m).pos:=Out.EE hp
  rw[hb]at hr
  refine⟨fun h1=>?_,fun h1 h2=>?_⟩
  ·rw[h1]at hr hb
   have hps:=xE hr
   have e3:=e2 hp
   rw[hb]at e3
   refine⟨⟨by rw[hx]; omega,by rw[hx]; exact vE hr ha,?_⟩,by rw[hx]; show n+1 - (bn ws j m).pos < _; omega⟩
   rw[hx]
   exact e3.trans (sg ws _ _ _ _ (by omega) (Nat.le_refl _) hps.2)
  ·rw[h1]at hr hb
   have e3:=e2 hp
   rw[hb]at e3
   refine⟨h2,?_⟩
   have hm:(bn ws j m).val.2=m:=(Bl hr).1
   rw[hx,hm]
   exact e3
 generalize hr:bn ws j m=r at c18 ends hx
 obtain⟨b,m',hv⟩:∃b m',r.val=(b,m'):=⟨_,_,rfl⟩
 have hG:O3 g A n c r=⟨[0,1],[(0,⟨154,.dF g (dJ A n c r.pos)⟩),(1,⟨66,.ak m'.cells⟩)],[],[],.val (.bool b),some (r.okB=true∧r.pos≤n)⟩:=by unfold O3;rw[hv]
 rw[hG]at c18
 rw[hv]at hx ends
 refine⟨[(18,.aq ⟨[0,1],[(0,⟨154,.dF g (dJ A n c r.pos)⟩),(1,⟨66,.ak m'.cells⟩)],[],[],.val (.bool b),some (r.okB=true∧r.pos≤n)⟩)],[],?_⟩
 cases b with
 |true=>
  have h1f:=fun(hp:r.okB=true∧r.pos≤n)=>((ends true hp.1 rfl).1 rfl).1
  have h2f:=fun(hp:r.okB=true∧r.pos≤n)=>((ends true hp.1 rfl).1 rfl).2
  have h3f:=fun(_:r.okB=true∧r.pos≤n)=>(rfl:C0 (m,j)=C0 (m,j))
  have z4f:=fun(_:r.okB=true∧r.pos≤n)=>(show ko g A n c r.pos m'=ko g A n c (sK ws (m,j)).2 (sK ws (m,j)).1 from by rw[hx])
  exact Eq.mp (by kernel_rfl) (And.intro c18 (fun(hx0:r.okB=true∧r.pos≤n)=>(Sx.t2 (h1f hx0) (h2f hx0) (And.intro (h3f hx0) (z4f hx0)))))
 |false=>
  have h1f:=fun(hp:r.okB=true∧r.pos≤n)=>(ends false hp.1 rfl).2 rfl hp.2
  have h2f:=fun(_:r.okB=true∧r.pos≤n)=>(rfl:([(2,.ptr 1 0)]:List (Nat×Sx.SV))=[(2,.ptr 1 0)])
  have z3f:=fun(_:r.okB=true∧r.pos≤n)=>(show ko g A n c r.pos m'=ko g A n c (sK ws (m,j)).2 (sK ws (m,j)).1 from by rw[hx])
  exact Eq.mp (by kernel_rfl) (And.intro c18 (fun(hx0:r.okB=true∧r.pos≤n)=>(Sx.t2 (h1f hx0) (h2f hx0) (z3f hx0))))
theorem C9{w:World}{g:Nat}{A:Option Go.Addr}{n c i:Nat}{ws:List Bs}(h:eJ w g A n c i ws){T:Out Mt}{r:Out (Bool×Mt)}{m':Mt}(h1:dL ws i mf=.ok false i)
  (hn:∀W gm,qQ W [g,gm] g A n c i ws→au W gm 66 mF.cells→g≠gm→Calls prog 153 #[(pt g 0),(pt gm 0)] W (iL g gm A n c r W)) (hv:r.val=(true,m'))
  (hno:∀code p,r=.no code p→T=.no code p) (e2:r.okB=true→r.pos≤n→RY ws n T (m',r.pos)):Calls prog 93 #[(pt g 0)] w (bU g A n c j5 T w):=by
 have hG:O3 g A n c r=⟨[0,1],[(0,⟨154,.dF g (dJ A n c r.pos)⟩),(1,⟨66,.ak m'.cells⟩)],[],[],.val (.bool true),some (r.okB=true∧r.pos≤n)⟩:=by unfold O3;rw[hv]
 have c4:=l9 (T:=T) [⟨66,.ak mF.cells⟩] [ab mf] h h.le (fun code p hh=>by cases hh) (fun W (hL:eJ W g A n c i ws)=>h1 ▸ kJ mf hL)
 have c7f:=fun(_:(Out.ok false i).okB=true∧(Out.ok false i).pos≤n)=>Kf h h.le hno hn
 have h2f:=fun(_:(Out.ok false i).okB=true∧(Out.ok false i).pos≤n) (hp:r.okB=true∧r.pos≤n)=>e2 hp.1 hp.2
 have e3f:=fun(_:(Out.ok false i).okB=true∧(Out.ok false i).pos≤n) (_:r.okB=true∧r.pos≤n)=>(show C0 (m',r.pos)=C0 (m',r.pos)∧ko g A n c r.pos m'=ko g A n c r.pos m' from⟨rfl,rfl⟩)
 have rd4f:=fun(_:(Out.ok false i).okB=true∧(Out.ok false i).pos≤n) (_:r.okB=true∧r.pos≤n)=>Jy h (T:=T)
 have z7f:=fun(_:(Out.ok false i).okB=true∧(Out.ok false i).pos≤n) (_:r.okB=true∧r.pos≤n) (x:Mt×Nat) (hx:Aw n T x)=>(show zy g A n c j5 T (.val (j5 x.1)) [(g,154,dJ A n c x.2)]from⟨x.1,x.2,hx.2,hx.1,rfl,rfl⟩)
 rw[hG]at c7f
 refine cZ [] h.b9 [(4,.aq (eV 0 g A n c (Out.ok false i) fun b=>.bool b)),(7,.aq ⟨[0,1],[(0,⟨154,.dF g (dJ A n c r.pos)⟩),(1,⟨66,.ak m'.cells⟩)],[],[],.val (.bool true),some (r.okB=true∧r.pos≤n)⟩)] [.mk (Mt×Nat) (m',r.pos) (RY ws n T) C0 (fun k=>ko g A n c k.2 k.1) (sK ws) (fun k=>n+1 - k.2) (Mt×Nat) (Aw n T) (fun _=>[(2,.ptr 1 0)]) (fun k=>ko g A n c k.2 k.1) (sK ws)] (by kernel_rfl) func93 rfl (cn rfl) ?_
 exact Eq.mp (by kernel_rfl) (And.intro c4 (fun(hx0:(Out.ok false i).okB=true∧(Out.ok false i).pos≤n)=>(And.intro (c7f hx0) (fun(hx1:r.okB=true∧r.pos≤n)=>(Sx.t2 (h2f hx0 hx1) (e3f hx0 hx1) (And.intro (rd4f hx0 hx1) (fun(x5:Mt×Nat) (hx6:Aw n T x5)=>(z7f hx0 hx1 x5 hx6))))))))
theorem JG{w:World}{g:Nat}{A:Option Go.Addr}{n c i:Nat}{ws:List Bs}(h:eJ w g A n c i ws):Calls prog 93 #[(pt g 0)] w (bU g A n c j5 (gi ws i) w):=by
 have hlen:=h.len
 rcases iA (ws:=ws) (i:=i) (s:=mf)with⟨h1,h2⟩ | h1
 ·exact Gs h h1 (by unfold gi;rw[h1];rfl)
 ·have e1:gi ws i=(bn ws i mF).bind fun r k=>match r.1 with
   |true=>eO ws (ws.length+1 - k) k r.2
   |false=>(aV ws k).bind fun _ l=>.no 200 l:=by unfold gi;rw[h1];rfl
  have hn:=fun W gm (hL:qQ W [g,gm] g A n c i ws) (hb:au W gm 66 mF.cells) (hne:g≠gm)=>Ff hL hb hne (by decide)
  cases hb:(bn ws i mF).val.1 with
  |false=>
   refine Da (m':=(bn ws i mF).val.2) h h1 hn (by rw[←hb]) (fun W hL=>ns hL) (cj e1) fun hp=>?_
   have:=bZ e1 hp
   rw[hb]at this
   exact this
  |true=>
   refine C9 (m':=(bn ws i mF).val.2) h h1 hn (by rw[←hb]) (cj e1) fun hp hle=>⟨hle,?_,?_⟩
   ·exact vE (b:=(bn ws i mF).val.1) (Out.EE hp) (by decide)
   ·have:=bZ e1 hp
    rw[hb]at this
    exact this
end Go.Proofs.YtnncigmpcdehnaaGreatDoor
