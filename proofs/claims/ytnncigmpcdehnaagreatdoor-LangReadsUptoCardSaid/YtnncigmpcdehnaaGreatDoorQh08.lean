import Derived.Test.YtnncigmpcdehnaaGreatDoorQh07
open And renaming intro→Xy
open Go.Value renaming int→Xz,bool→XA,tuple→X0,formed→Yt
open List renaming getElem?_eq_some_iff→XB,drop_eq_getElem_cons→XD,getElem?_eq_getElem→XE,takeWhile_cons→XG,length_drop→XJ,not_mem_nil→XQ,length_cons→XR,drop_of_length_le→XS,mem_filterMap→XU,mem_cons→XV,getElem?_drop→XW,append_assoc→XX,length_take→XZ,nodup_cons→X1,getElem?_append_right→X4,getD_eq_getElem?_getD→X5,replicate→X6,getElem?_append_left→X7,getElem?_cons_zero→Ya,mem_map→Yb,getElem?_eq_none→Yc,mem_of_getElem?→Ye,mem_cons_of_mem→Yf,drop_succ_cons→Yi,mem_singleton→Yj,mem_append→Yo,drop_zero→Yq,drop_take→Yr,drop_drop→Ys
open Int renaming ofNat→XC,toNat_natCast→XO,tmod_eq_emod_of_nonneg→X8,tdiv_eq_ediv_of_nonneg→X9
open Go.IntKind renaming i64→XF,u8→X2
open Eq renaming mp→XH
open Nat renaming zero_le→XI,zero_add→XY,mul_one→X3,pow_le_pow_right→Yh,lt_trichotomy→Yn
open Bool renaming and_eq_true→XL,not_eq_true'→XN,eq_iff_iff→XT,and_eq_false_iff→Yd,or_eq_false_iff→Yg,eq_false_iff→Ym,or_eq_true→Yp,false_or→Yu,true_or→Yw
open Option renaming some→XM
open Go.Instr renaming sliceAt→XP,sliceBounds→Yk,sliceBound→Yl,slice→Yv
namespace Go.Proofs.YtnncigmpcdehnaaGreatDoor
set_option maxRecDepth 100000
open Go.RowKit Go.Lib Go.Sort _root_.Go.Proofs.Tryz
set_option maxRecDepth 100000
def jU(m:Mt):Value:=.agg m.cells.toArray
def Sg(g:Nat)(A:Option Go.Addr)(n c:Nat)(T:Out (Bool×Mt)):Sx.cS:=⟨[0,1],[(0,⟨154,.dG g (ee A n c T.pos)⟩),(1,⟨66,.an T.val.2.cells⟩)],[],[],.val (.bool T.val.1),some (T.okB=true∧T.pos≤n)⟩
def lH(g:Nat)(A:Option Go.Addr)(n c i:Nat)(m:Mt):List Sx.Row:=[⟨154,.dG g (ee A n c i)⟩,⟨66,.an m.cells⟩]
theorem Nu{γ:Type}{P:Program}{w:World}{f g n c i j:Nat}{A:Option Go.Addr}{ws:List Bs}{m:Mt}{T:Out (Bool×Mt)}{TT:Out γ}(h0:eY w g A n c i ws)(hj:j≤n)(hT:∀code p,T=.no code p→TT=.no code p)
  (h:∀W gm,vB W [g,gm] g A n c j ws→aw W gm 66 m.cells→g≠gm→Calls P f #[.pointer (some ⟨g,0,none⟩),.pointer (some ⟨gm,0,none⟩)] W (pX g gm A n c T W)) (W:World) (β:Sx.Env) (hS:Sx.fD ⟨w,[g],pW TT w⟩ β W (Sx.rowAt (lH g A n c j m)) [0,1]) :
  Calls P f (([.ptr 0 0,.ptr 1 0]:List Sx.SV).map (Sx.SV.den β)).toArray W (Sx.bK ⟨w,[g],pW TT w⟩ β W (Sx.rowAt (lH g A n c j m)) 2 (Sg g A n c T)):=by
 have r0:=hS.held 0 (by simp) _ rfl;have r1:aw W (β 1) 66 m.cells:=hS.held 1 (by simp) _ rfl;have e0:β 0=g:=r0.1;have r0:aw W g 154 (ee A n c j):=e0 ▸ r0.2;have hne:g≠β 1:=fun he=>by have:=hS.inj 0 (by simp) 1 (by simp) _ _ (β 0) rfl rfl rfl (by show some (β 1)=some (β 0);rw[e0,he]);cases this
 have n1:=hS.new 1 (by simp) _ (β 1) rfl rfl;have hL:vB W [g,β 1] g A n c j ws:=h0.u4.add hS.aJ hj r0 (fun x hx=>by
  simp only[XV,XQ,or_false]at hx;rcases hx with rfl|rfl
  ·exact .inl (by simp)
  ·exact n1) (by simp)
 have ht:Sx.cS.eG β (Sx.rowAt (lH g A n c j m)) (Sg g A n c T)=[g,β 1]:=by show [β 0,β 1]=_;rw[e0]
 show Calls P f #[.pointer (some ⟨β 0,0,none⟩),.pointer (some ⟨β 1,0,none⟩)] W _;rw[e0];refine(h W (β 1) hL r1 hne).mono fun e w' hp=>?_;rcases hp with⟨q,i',rfl,hi,he,b0,b1,hc⟩ | ⟨code,p,chain,hT',he,hf,hc⟩
 ·refine .inl ⟨fun p hp=>by cases hp;exact⟨rfl,hi⟩,β,Sx.ep (v:=.bool q.1) rfl rfl he (fun u hu=>?_) (by rw[ht];exact hc)⟩
  have hu:u=(0,⟨154,.dG g (ee A n c i')⟩)∨u=(1,⟨66,.an q.2.cells⟩):=by have:u∈[(0,(⟨154,.dG g (ee A n c i')⟩:Sx.Row)),(1,⟨66,.an q.2.cells⟩)]:=hu;simpa using this
  rcases hu with rfl|rfl
  ·exact⟨e0,by show aw w' (β 0) _ _;rw[e0];exact b0⟩
  ·exact b1
 ·exact .inr ⟨rfl,chain,he,⟨code,p,hT code p hT',hf.up hS.aJ.size⟩,by rw[ht];exact hc⟩
theorem Fg{k:Nat}{m m':Mt}{ws:List Bs}{i j:Nat}(h:cF k m ws i=.ok m' j):m'.asks=m.asks:=by
 have key:∀{α:Type} {r:Out α} {f:α→Mt},(∀a,(f a).asks=m.asks)→(r.bind fun s j=>.ok (f s) j)=.ok m' j→m'.asks=m.asks:=fun {α r f} hf hh=>by
  cases r with
  |no c p=>cases hh
  |ok a l=>injection hh with h1 _;rw[←h1];exact hf a
 rcases k with _|_|_|_|_|k
 ·exact key (f:=fun s=>{ m with fU:=s }) (fun _=>rfl) h
 ·exact key (f:=fun s=>{ m with src:=s }) (fun _=>rfl) h
 ·exact key (f:=fun s=>{ m with dst:=s }) (fun _=>rfl) h
 ·exact key (f:=fun s=>{ m with bw:=s }) (fun _=>rfl) h
 ·exact key (f:=fun s=>{ m with sp:=s }) (fun _=>rfl) h
 ·exact key (f:=fun s=>{ m with dp:=s }) (fun _=>rfl) h
theorem xN{x:Bs}{k:Nat}(h:mn x=some k):k < 6:=by
 unfold mn at h;repeat' (split at h)
 all_goals first | (injection h with h;omega)|cases h
theorem Hb:∀(a:Fin 64) (k:Fin 6),a.val|||2^k.val < 64:=by decide+kernel
theorem xV{ws:List Bs}{i:Nat}{m m':Mt}{b:Bool}{j:Nat}(h:aQ ws i m=.ok (b,m') j)(ha:m.asks < 64):m'.asks < 64:=by
 unfold aQ at h;split at h
 ·injection h with h _;injection h with _ h;rw[←h];exact ha
 ·split at h
  ·injection h with h _;injection h with _ h;rw[←h];exact ha
  ·rename_i k hk
   split at h
   ·cases h
   ·cases hr:cF k { m with asks:=m.asks|||2^k } ws (i+1)with
    |no c p=>rw[hr]at h;cases h
    |ok a l=>rw[hr]at h;simp only[Out.bind]at h;injection h with h _;injection h with _ h;rw[←h,Fg hr];exact Hb ⟨m.asks,ha⟩ ⟨k,xN hk⟩
theorem DJ{ws:List Bs}{i:Nat}{m m':Mt}{j:Nat}(h:aQ ws i m=.ok (false,m') j):m'=m∧j=i:=by
 unfold aQ at h;split at h
 ·injection h with q q2;injection q with _ q;exact⟨q.symm,q2.symm⟩
 ·split at h
  ·injection h with q q2;injection q with _ q;exact⟨q.symm,q2.symm⟩
  ·split at h
   ·cases h
   ·rename_i k _ _ _
    cases hq:cF k { m with asks:=m.asks|||2^k } ws (i+1)with
    |no c p=>rw[hq]at h;cases h
    |ok a l=>rw[hq]at h;cases h
theorem JH{w:World}{g:Nat}{A:Option Go.Addr}{n c i:Nat}{ws:List Bs}(h:eY w g A n c i ws){T:Out Mt}(h1:dm ws i iO=.ok true (i+1))(hT:T=.ok kU (i+1)):Calls prog 93 #[(pt g 0)] w (cj g A n c jU T w):=by have c4:=nO (T:=T) [⟨66,.an kU.cells⟩] [ae iO] h h.le (fun code p hh=>by cases hh) (fun W (hL:eY W g A n c i ws)=>h1 ▸ lX iO hL);have z1f:=fun(hp:(Out.ok true (i+1)).okB=true∧(Out.ok true (i+1)).pos≤n)=>(show EA g A n c jU T (.val (jU kU)) [(g,154,ee A n c (i+1))]from⟨kU,_,hT,hp.2,rfl,rfl⟩);refine gx [] h.cw [(4,.aB (iq 0 g A n c (Out.ok true (i+1)) fun b=>.bool b))] [] (by kernel_rfl) func93 rfl (bN rfl) ?_;exact XH (by kernel_rfl) (Xy c4 (fun(hx0:(Out.ok true (i+1)).okB=true∧(Out.ok true (i+1)).pos≤n)=>(z1f hx0)))
theorem FA{w:World}{g:Nat}{A:Option Go.Addr}{n c i:Nat}{ws:List Bs}(h:eY w g A n c i ws){T:Out Mt}{r:Out (Bool×Mt)}{m':Mt}{r3:Out Bs}(h1:dm ws i iO=.ok false i)
  (hn:∀W gm,vB W [g,gm] g A n c i ws→aw W gm 66 kU.cells→g≠gm→Calls prog 153 #[(pt g 0),(pt gm 0)] W (pX g gm A n c r W)) (hv:r.val=(false,m'))
  (n3:∀W,eY W g A n c r.pos ws→Calls prog 154 #[(pt g 0)] W (cj g A n c ae r3 W))
  (hno:∀code p,r=.no code p→T=.no code p) (e2:r.okB=true→T=r3.bind fun _ l=>.no 200 l):Calls prog 93 #[(pt g 0)] w (cj g A n c jU T w):=by
 have hG:Sg g A n c r=⟨[0,1],[(0,⟨154,.dG g (ee A n c r.pos)⟩),(1,⟨66,.an m'.cells⟩)],[],[],.val (.bool false),some (r.okB=true∧r.pos≤n)⟩:=by unfold Sg;rw[hv]
 have c4:=nO (T:=T) [⟨66,.an kU.cells⟩] [ae iO] h h.le (fun code p hh=>by cases hh) (fun W (hL:eY W g A n c i ws)=>h1 ▸ lX iO hL);have c7f:=fun(_:(Out.ok false i).okB=true∧(Out.ok false i).pos≤n)=>Nu h h.le hno hn;have c10f:=fun(_:(Out.ok false i).okB=true∧(Out.ok false i).pos≤n) (hp:r.okB=true∧r.pos≤n)=>nO [⟨66,.an m'.cells⟩] [] h hp.2 (cU (e2 hp.1)) n3;have c16f:=fun(_:(Out.ok false i).okB=true∧(Out.ok false i).pos≤n) (hp:r.okB=true∧r.pos≤n) (hp3:r3.okB=true∧r3.pos≤n) W (hW:ai [g] w W) (_:aw W g 154 (ee A n c r3.pos))=>mN (b:=⟨w,[g],pW T w⟩) (vs:=[(pt g 0),.int .i64 200,.int .i64 (r3.pos:Int)]) (ps:=[(0,0)]) ((tY ((pt g 0)) 200 (r3.pos:Int) W).mono fun _ _ ⟨ch,he,hf,hc⟩=>⟨ch,he,(show pW T w _ _ from⟨200,r3.pos,cL (e2 hp.1) hp3.1,hf.up hW.size⟩),hc⟩);have z3f:=fun(_:(Out.ok false i).okB=true∧(Out.ok false i).pos≤n) (_:r.okB=true∧r.pos≤n) (_:r3.okB=true∧r3.pos≤n)=>trivial;rw[hG]at c7f;refine gx [] h.cw [(4,.aB (iq 0 g A n c (Out.ok false i) fun b=>.bool b)),(7,.aB ⟨[0,1],[(0,⟨154,.dG g (ee A n c r.pos)⟩),(1,⟨66,.an m'.cells⟩)],[],[],.val (.bool false),some (r.okB=true∧r.pos≤n)⟩),(10,.aB (iq 0 g A n c r3 ae)),(16,.sY)] [] (by kernel_rfl) func93 rfl (bN rfl) ?_;exact XH (by kernel_rfl) (Xy c4 (fun(hx0:(Out.ok false i).okB=true∧(Out.ok false i).pos≤n)=>(Xy (c7f hx0) (fun(hx1:r.okB=true∧r.pos≤n)=>(Xy (c10f hx0 hx1) (fun(hx2:r3.okB=true∧r3.pos≤n)=>(Xy (c16f hx0 hx1 hx2) (z3f hx0 hx1 hx2))))))))
def Vo(ws:List Bs)(n:Nat)(T:Out Mt)(k:Mt×Nat):Prop:=k.2≤n∧k.1.asks < 64∧T=ec ws (ws.length+1 - k.2) k.2 k.1
def Fw(_:Mt×Nat):List (Nat×Sx.SV):=[(0,.ptr 0 0),(2,.ptr 1 0)]
noncomputable def uZ(ws:List Bs)(k:Mt×Nat):Mt×Nat:=((aQ ws k.2 k.1).val.2,(aQ ws k.2 k.1).pos)
def CS(n:Nat)(T:Out Mt)(k:Mt×Nat):Prop:=k.2≤n∧T=.ok k.1 k.2
theorem MK{w:World}{g:Nat}{A:Option Go.Addr}{n c i:Nat}{ws:List Bs}(h:eY w g A n c i ws){T:Out Mt}(k:Mt×Nat)(hk:Vo ws n T k) :
  ∃H' L',Sx.lN prog f93.ntmps ⟨w,[g],pW T w⟩ (Sx.a7 f93 0) H' L' ⟨Fw k,lH g A n c k.2 k.1⟩ (Sx.dP (Vo ws n T) Fw (fun k=>lH g A n c k.2 k.1) (uZ ws) (fun k=>n+1 - k.2) (CS n T) (fun _=>[(2,.ptr 1 0)]) (fun k=>lH g A n c k.2 k.1) (uZ ws) (Sx.ej (Sx.a7 f93 0) - 1) (Sx.rS prog f93 (EA g A n c jU T) .ret) k):=by
 obtain⟨m,j⟩:=k;obtain⟨hj,ha,hT⟩:=hk;have hlen:=h.len;have hj:j≤n:=hj;have hT:T=ec ws (ws.length+1 - j) j m:=hT;obtain⟨f,hf⟩:∃f,ws.length+1 - j=f+1:=⟨ws.length - j,by omega⟩;have e1:T=(aQ ws j m).bind fun r k=>match r.1 with
  |true=>ec ws f k r.2
  |false=>.ok m k:=by rw[hT,hf];rfl
 have hn:=fun W gm (hL:vB W [g,gm] g A n c j ws) (hb:aw W gm 66 m.cells) (hne:g≠gm)=>Ib hL hb hne ha;have hno:=cU e1;have e2:=cL e1;have hx:uZ ws (m,j)=((aQ ws j m).val.2,(aQ ws j m).pos):=rfl;have c18:=Nu h hj hno hn;have ends:∀b,(aQ ws j m).okB=true→(aQ ws j m).val.1=b→(b=true→Vo ws n T (uZ ws (m,j))∧n+1 - (uZ ws (m,j)).2 < n+1 - j)∧(b=false→(aQ ws j m).pos≤n→CS n T (uZ ws (m,j))):=by
  intro b hp hb;have hr:aQ ws j m=.ok ((aQ ws j m).val.1,(aQ ws j m).val.2) (aQ ws j m).pos:=Out.Hg hp;rw[hb]at hr;refine⟨fun h1=>?_,fun h1 h2=>?_⟩
  ·rw[h1]at hr hb
   have hps:=qu hr;have e3:=e2 hp;rw[hb]at e3;refine⟨⟨by rw[hx]; omega,by rw[hx]; exact xV hr ha,?_⟩,by rw[hx]; show n+1 - (aQ ws j m).pos < _; omega⟩;rw[hx];exact e3.trans (po ws _ _ _ _ (by omega) (Nat.le_refl _) hps.2)
  ·rw[h1]at hr hb
   have e3:=e2 hp;rw[hb]at e3;refine⟨h2,?_⟩;have hm:(aQ ws j m).val.2=m:=(DJ hr).1;rw[hx,hm];exact e3
 generalize hr:aQ ws j m=r at c18 ends hx;obtain⟨b,m',hv⟩:∃b m',r.val=(b,m'):=⟨_,_,rfl⟩;have hG:Sg g A n c r=⟨[0,1],[(0,⟨154,.dG g (ee A n c r.pos)⟩),(1,⟨66,.an m'.cells⟩)],[],[],.val (.bool b),some (r.okB=true∧r.pos≤n)⟩:=by unfold Sg;rw[hv]
 rw[hG]at c18;rw[hv]at hx ends;refine⟨[(18,.aB ⟨[0,1],[(0,⟨154,.dG g (ee A n c r.pos)⟩),(1,⟨66,.an m'.cells⟩)],[],[],.val (.bool b),some (r.okB=true∧r.pos≤n)⟩)],[],?_⟩;cases b with
 |true=>have h1f:=fun(hp:r.okB=true∧r.pos≤n)=>((ends true hp.1 rfl).1 rfl).1;have h2f:=fun(hp:r.okB=true∧r.pos≤n)=>((ends true hp.1 rfl).1 rfl).2;have h3f:=fun(_:r.okB=true∧r.pos≤n)=>(rfl:Fw (m,j)=Fw (m,j));have z4f:=fun(_:r.okB=true∧r.pos≤n)=>(show lH g A n c r.pos m'=lH g A n c (uZ ws (m,j)).2 (uZ ws (m,j)).1 from by rw[hx]);exact XH (by kernel_rfl) (Xy c18 (fun(hx0:r.okB=true∧r.pos≤n)=>(Sx.t2 (h1f hx0) (h2f hx0) (Xy (h3f hx0) (z4f hx0)))))
 |false=>have h1f:=fun(hp:r.okB=true∧r.pos≤n)=>(ends false hp.1 rfl).2 rfl hp.2;have h2f:=fun(_:r.okB=true∧r.pos≤n)=>(rfl:([(2,.ptr 1 0)]:List (Nat×Sx.SV))=[(2,.ptr 1 0)]);have z3f:=fun(_:r.okB=true∧r.pos≤n)=>(show lH g A n c r.pos m'=lH g A n c (uZ ws (m,j)).2 (uZ ws (m,j)).1 from by rw[hx]);exact XH (by kernel_rfl) (Xy c18 (fun(hx0:r.okB=true∧r.pos≤n)=>(Sx.t2 (h1f hx0) (h2f hx0) (z3f hx0))))
theorem Fz{w:World}{g:Nat}{A:Option Go.Addr}{n c i:Nat}{ws:List Bs}(h:eY w g A n c i ws){T:Out Mt}{r:Out (Bool×Mt)}{m':Mt}(h1:dm ws i iO=.ok false i)
  (hn:∀W gm,vB W [g,gm] g A n c i ws→aw W gm 66 kU.cells→g≠gm→Calls prog 153 #[(pt g 0),(pt gm 0)] W (pX g gm A n c r W)) (hv:r.val=(true,m'))
  (hno:∀code p,r=.no code p→T=.no code p) (e2:r.okB=true→r.pos≤n→Vo ws n T (m',r.pos)):Calls prog 93 #[(pt g 0)] w (cj g A n c jU T w):=by
 have hG:Sg g A n c r=⟨[0,1],[(0,⟨154,.dG g (ee A n c r.pos)⟩),(1,⟨66,.an m'.cells⟩)],[],[],.val (.bool true),some (r.okB=true∧r.pos≤n)⟩:=by unfold Sg;rw[hv]
 have c4:=nO (T:=T) [⟨66,.an kU.cells⟩] [ae iO] h h.le (fun code p hh=>by cases hh) (fun W (hL:eY W g A n c i ws)=>h1 ▸ lX iO hL);have c7f:=fun(_:(Out.ok false i).okB=true∧(Out.ok false i).pos≤n)=>Nu h h.le hno hn;have h2f:=fun(_:(Out.ok false i).okB=true∧(Out.ok false i).pos≤n) (hp:r.okB=true∧r.pos≤n)=>e2 hp.1 hp.2;have e3f:=fun(_:(Out.ok false i).okB=true∧(Out.ok false i).pos≤n) (_:r.okB=true∧r.pos≤n)=>(show Fw (m',r.pos)=Fw (m',r.pos)∧lH g A n c r.pos m'=lH g A n c r.pos m' from⟨rfl,rfl⟩);have rd4f:=fun(_:(Out.ok false i).okB=true∧(Out.ok false i).pos≤n) (_:r.okB=true∧r.pos≤n)=>MK h (T:=T);have z7f:=fun(_:(Out.ok false i).okB=true∧(Out.ok false i).pos≤n) (_:r.okB=true∧r.pos≤n) (x:Mt×Nat) (hx:CS n T x)=>(show EA g A n c jU T (.val (jU x.1)) [(g,154,ee A n c x.2)]from⟨x.1,x.2,hx.2,hx.1,rfl,rfl⟩);rw[hG]at c7f;refine gx [] h.cw [(4,.aB (iq 0 g A n c (Out.ok false i) fun b=>.bool b)),(7,.aB ⟨[0,1],[(0,⟨154,.dG g (ee A n c r.pos)⟩),(1,⟨66,.an m'.cells⟩)],[],[],.val (.bool true),some (r.okB=true∧r.pos≤n)⟩)] [.mk (Mt×Nat) (m',r.pos) (Vo ws n T) Fw (fun k=>lH g A n c k.2 k.1) (uZ ws) (fun k=>n+1 - k.2) (Mt×Nat) (CS n T) (fun _=>[(2,.ptr 1 0)]) (fun k=>lH g A n c k.2 k.1) (uZ ws)] (by kernel_rfl) func93 rfl (bN rfl) ?_;exact XH (by kernel_rfl) (Xy c4 (fun(hx0:(Out.ok false i).okB=true∧(Out.ok false i).pos≤n)=>(Xy (c7f hx0) (fun(hx1:r.okB=true∧r.pos≤n)=>(Sx.t2 (h2f hx0 hx1) (e3f hx0 hx1) (Xy (rd4f hx0 hx1) (fun(x5:Mt×Nat) (hx6:CS n T x5)=>(z7f hx0 hx1 x5 hx6))))))))
theorem MR{w:World}{g:Nat}{A:Option Go.Addr}{n c i:Nat}{ws:List Bs}(h:eY w g A n c i ws):Calls prog 93 #[(pt g 0)] w (cj g A n c jU (eO ws i) w):=by
 have hlen:=h.len;rcases jd (ws:=ws) (i:=i) (s:=iO)with⟨h1,h2⟩ | h1
 ·exact JH h h1 (by unfold eO;rw[h1];rfl)
 ·have e1:eO ws i=(aQ ws i kU).bind fun r k=>match r.1 with
   |true=>ec ws (ws.length+1 - k) k r.2
   |false=>(aV ws k).bind fun _ l=>.no 200 l:=by unfold eO;rw[h1];rfl
  have hn:=fun W gm (hL:vB W [g,gm] g A n c i ws) (hb:aw W gm 66 kU.cells) (hne:g≠gm)=>Ib hL hb hne (by decide);cases hb:(aQ ws i kU).val.1 with
  |false=>refine FA (m':=(aQ ws i kU).val.2) h h1 hn (by rw[←hb]) (fun W hL=>pg hL) (cU e1) fun hp=>?_;have:=cL e1 hp;rw[hb]at this;exact this
  |true=>
   refine Fz (m':=(aQ ws i kU).val.2) h h1 hn (by rw[←hb]) (cU e1) fun hp hle=>⟨hle,?_,?_⟩
   ·exact xV (b:=(aQ ws i kU).val.1) (Out.Hg hp) (by decide)
   ·have:=cL e1 hp
    rw[hb]at this;exact this
set_option maxRecDepth 100000
open Go.RowKit Go.Lib Go.Sort _root_.Go.Proofs.Tryz
set_option maxRecDepth 100000
structure Mt.Wf(m:Mt):Prop where
 asks:m.asks < 256
 sn:m.src.n < 2^128
 sk : -9223372036854775808≤m.src.k∧m.src.k≤9223372036854775807
 dn:m.dst.n < 2^128
 dk : -9223372036854775808≤m.dst.k∧m.dst.k≤9223372036854775807
 fU:m.fU.1≤65535∧m.fU.2≤65535
 sp:m.sp.1≤65535∧m.sp.2≤65535
 dp:m.dp.1≤65535∧m.dp.2≤65535
 pr:m.bw≤255
theorem Od:∀a:Fin 256,(bits .and .u8 (a.val:Int) 2 !=0)=a.val.testBit 1:=by decide+kernel
theorem Oc:∀a:Fin 256,(bits .and .u8 (a.val:Int) 4 !=0)=a.val.testBit 2:=by decide+kernel
theorem Ks:∀a:Fin 256,(bits .and .u8 (a.val:Int) 48 !=0)=(a.val.testBit 4||a.val.testBit 5):=by decide+kernel
theorem Mm:∀a:Fin 256,(bits .andNot .u8 (a.val:Int) 63 !=0)=decide (¬a.val < 64):=by decide+kernel
theorem Gf(m:Mt)(what:Int)(b:Bool)(hb:(bits .and .u8 (m.asks:Int) what !=0)=b)(w:World):Calls prog 144 #[jU m,.int .u8 what] w (Rn w (.bool b)):=by have c9:XA (bits .and .u8 (m.asks:Int) what !=0)=.bool b:=bz hb;have z0:XA b=.bool b:=rfl;refine Sx.av (args:=[jU m,.int .u8 what]) [ao 9 b] [] (by kernel_rfl) func144 rfl (bN rfl) ?_;exact XH (by kernel_rfl) (Xy c9 z0)
theorem BF:prog.cellsOf 64=2:=by kernel_rfl
theorem Rp:prog.cellsOf 62=1:=by kernel_rfl
theorem Sb(d x:Nat)(hx:x≤65535):prog.keyLits (d+1) 62 [.int .u16 (x:Int)]=some [.int .u16 (x:Int)]:=by
 have hw:(Lit.int .u16 (x:Int)).wf=true:=by simp[Lit.wf,IntKind.min,IntKind.max,IntKind.signed,IntKind.bits];omega
 simp[Program.keyLits,underlying62,hw]
theorem MT(d:Nat)(s:Nat×Nat)(h1:s.1≤65535)(h2:s.2≤65535):prog.keyLits (d+2) 64 [.int .u16 (s.1:Int),.int .u16 (s.2:Int)]=some [.int .u16 (s.1:Int),.int .u16 (s.2:Int)]:=by have e1:=Sb d s.1 h1;have e2:=Sb d s.2 h2;have e3:(([.int .u16 (s.1:Int),.int .u16 (s.2:Int)]:List Value).drop 0).take 1=[.int .u16 (s.1:Int)]:=rfl;have e4:(([.int .u16 (s.1:Int),.int .u16 (s.2:Int)]:List Value).drop 1).take 1=[.int .u16 (s.2:Int)]:=rfl;unfold Program.keyLits;rw[underlying64];simp only;rw[if_pos ⟨by rw[BF];rfl,by simp⟩];simp only[List.mapM_cons,List.mapM_nil,Rp,e3,e4,e1,e2];rfl
theorem WM(s r:Nat×Nat)(hs:s.1≤65535∧s.2≤65535)(hr:r.1≤65535∧r.2≤65535)(W:World):(Op.equalIn 10000 64 (iA s) (iA r)).run prog W=.ok (decide (s=r)) W:=by
 obtain⟨q,h1,h2⟩:=run_equalIn_deep (P:=prog) 9995 5 64 (by kernel_rfl) W 5 5 (iA s) (iA r) _ _ (by simp[iA,Yt,underlying64,BF]) (by simp[iA,Yt,underlying64,BF]) (MT 3 s hs.1 hs.2) (MT 3 r hr.1 hr.2);simp only[Nat.reduceAdd]at h1;have e:q=decide (s=r):=by
  rw[XT,h2,decide_eq_true_eq];constructor
  ·intro h
   injection h with h3 h4;injection h3 with _ h3;injection h4 with h4 _;injection h4 with _ h4;exact Prod.ext (by omega) (by omega)
  ·rintro rfl;rfl
 rw[h1,e]
theorem QR(op:BinOp)(x y:Operand)(a b:Array Value)(W:World):(eqGuard op 64 x y (.agg a) (.agg b)).run prog W=.ok () W:=by cases op<;>kernel_rfl
theorem tt(x y:Operand)(s:Nat×Nat)(hs:s.1≤65535∧s.2≤65535)(W:World):(do eqGuard .neq 64 x y (iA s) (iA (0,0));binOp .neq 64 (iA s) (iA (0,0)):Sem Value).run prog W=.ok (.bool (!iG s)) W:=by have h:=WM s (0,0) hs (by decide) W;rw[Sem.run_bind,show(eqGuard .neq 64 x y (iA s) (iA (0,0))).run prog W=_ from QR .neq x y _ _ W,Result.andThen_ok];show(do pure (.bool (!(←Op.equal 64 (iA s) (iA (0,0))))):Sem Value).run prog W=_;rw[Sem.run_bind,show(Op.equal 64 (iA s) (iA (0,0))).run prog W=_ from h];rfl
theorem AP(x y:Operand)(p:Px)(hn:p.n < 2^128)(hk : -9223372036854775808≤p.k∧p.k≤9223372036854775807)(W:World):(do eqGuard .neq 29 x y (mr p) (mr ov); binOp .neq 29 (mr p) (mr ov):Sem Value).run prog W=.ok (.bool (!Ex p)) W:=VQ x y p.v false p.n 0 p.k 0 hn (by omega) hk (by omega) W
def OT(n0:Bool):Int:=bif n0 then 1 else 0
def OS(n0 n1:Bool):Int:=bif n1 then OT n0+2 else OT n0
def OR(n0 n1 n2:Bool):Int:=bif n2 then OS n0 n1+4 else OS n0 n1
def OQ(n0 n1 n2 n3:Bool):Int:=bif n3 then OR n0 n1 n2+8 else OR n0 n1 n2
def OP(n0 n1 n2 n3 n4:Bool):Int:=bif n4 then OQ n0 n1 n2 n3+16 else OQ n0 n1 n2 n3
def Ng(n0 n1 n2 n3 n4 n5:Bool):Int:=bif n5 then OP n0 n1 n2 n3 n4+32 else OP n0 n1 n2 n3 n4
def VM(o1 hs g1 g2 g3 g4 s x1 d x2 ne pt q6 q17:Bool):Int:=
 bif o1||hs then 190 else bif g1||(g2||(g3||g4))then 190 else bif (s&&x1)||(d&&x2)then 190 else bif s&&d&&ne then 190 else bif pt&&q6&&q17 then 190 else 0
def Kh(v:Int):List (Nat×Sx.SV):=[(1,.ptr 0 0),(2,.val (.int .i64 0)),(3,.val (.int .u8 v))]
def uR(m:Mt):List Sx.Row:=[⟨66,.an m.cells⟩]
theorem Ri(m:Mt)(w:World)(n0 n1 n2 n3 n4 n5 o1 hs g1 g2 g3 g4 s x1 d x2 ne pt q6 q17:Bool)(v7 e1 e2:Int)
  (c8:∀W,(do eqGuard .neq 64 (.tmp 6) (.tmp 7) (iA m.fU) (iA (0,0));binOp .neq 64 (iA m.fU) (iA (0,0)):Sem Value).run prog W=.ok (.bool n0) W)
  (c14:∀W,(do eqGuard .neq 29 (.tmp 12) (.tmp 13) (mr m.src) (mr ov);binOp .neq 29 (mr m.src) (mr ov):Sem Value).run prog W=.ok (.bool n1) W)
  (c20:∀W,(do eqGuard .neq 29 (.tmp 18) (.tmp 19) (mr m.dst) (mr ov);binOp .neq 29 (mr m.dst) (mr ov):Sem Value).run prog W=.ok (.bool n2) W)
  (c25:XA ((m.bw:Int) !=0)=.bool n3)
  (c31:∀W,(do eqGuard .neq 64 (.tmp 29) (.tmp 30) (iA m.sp) (iA (0,0));binOp .neq 64 (iA m.sp) (iA (0,0)):Sem Value).run prog W=.ok (.bool n4) W)
  (c37:∀W,(do eqGuard .neq 64 (.tmp 35) (.tmp 36) (iA m.dp) (iA (0,0));binOp .neq 64 (iA m.dp) (iA (0,0)):Sem Value).run prog W=.ok (.bool n5) W)
  (Ea:Xz .u8 (bits .andNot .u8 (Ng n0 n1 n2 n3 n4 n5) (m.asks:Int))=.int .u8 v7)
  (c45:∀W,ai [] w W→Calls prog 144 #[jU m,.int .u8 48] W (Rn W (.bool pt)))
  (c50:XA (bits .andNot .u8 (m.asks:Int) 63 !=0)=.bool o1)
  (c53:XA (v7 !=0)=.bool hs)
  (c62:XA (decide ((m.fU.2:Int) < (m.fU.1:Int)))=.bool g1) (c67:XA (decide (255 < (m.fU.2:Int)))=.bool g2)
  (c76:XA (decide ((m.sp.2:Int) < (m.sp.1:Int)))=.bool g3) (c85:XA (decide ((m.dp.2:Int) < (m.dp.1:Int)))=.bool g4)
  (c89:∀W,ai [] w W→Calls prog 144 #[jU m,.int .u8 2] W (Rn W (.bool s)))
  (c98:∀W,ai [] w W→Calls prog 144 #[jU m,.int .u8 4] W (Rn W (.bool d)))
  (c93:∀W,ai [] w W→Calls prog 50 #[mr m.src] W (Rn W (.int .i64 e1)))
  (c102:∀W,ai [] w W→Calls prog 50 #[mr m.dst] W (Rn W (.int .i64 e2)))
  (c94:XA (e1 !=0)=.bool x1) (c103:XA (e2 !=0)=.bool x2)
  (c122:XA (m.src.v !=m.dst.v)=.bool ne) (c129:XA ((m.bw:Int) !=6)=.bool q6) (c134:XA ((m.bw:Int) !=17)=.bool q17) :
  Calls prog 83 #[jU m] w (Rn w (.int .i64 (VM o1 hs g1 g2 g3 g4 s x1 d x2 ne pt q6 q17))):=by
 have c10f:=fun(hb:n0=true)=>(show Xz .u8 (bits .or .u8 0 1)=.int .u8 (OT n0)from by subst hb;rfl);have c16f:=fun(hb:n1=true)=>(show Xz .u8 (bits .or .u8 (OT n0) 2)=.int .u8 (OS n0 n1)from by subst hb;cases n0<;>rfl);have c22f:=fun(hb:n2=true)=>(show Xz .u8 (bits .or .u8 (OS n0 n1) 4)=.int .u8 (OR n0 n1 n2)from by subst hb;cases n0<;>cases n1<;>rfl);have c27f:=fun(hb:n3=true)=>(show Xz .u8 (bits .or .u8 (OR n0 n1 n2) 8)=.int .u8 (OQ n0 n1 n2 n3)from by subst hb;cases n0<;>cases n1<;>cases n2<;>rfl);have c33f:=fun(hb:n4=true)=>(show Xz .u8 (bits .or .u8 (OQ n0 n1 n2 n3) 16)=.int .u8 (OP n0 n1 n2 n3 n4)from by subst hb;cases n0<;>cases n1<;>cases n2<;>cases n3<;>rfl);have c39f:=fun(hb:n5=true)=>(show Xz .u8 (bits .or .u8 (OP n0 n1 n2 n3 n4) 32)=.int .u8 (Ng n0 n1 n2 n3 n4 n5)from by subst hb;cases n0<;>cases n1<;>cases n2<;>cases n3<;>cases n4<;>rfl);have zmem:=(rfl:uR m=uR m);have c108:=c89;have c111:=c98;refine Sx.av (args:=[jU m]) [(8,.bin (.bool n0)),(14,.bin (.bool n1)),(20,.bin (.bool n2)),ao 25 n3,(31,.bin (.bool n4)),(37,.bin (.bool n5)),
  (10,.is (.int .u8 (OT n0))),(16,.is (.int .u8 (OS n0 n1))),(22,.is (.int .u8 (OR n0 n1 n2))),(27,.is (.int .u8 (OQ n0 n1 n2 n3))),(33,.is (.int .u8 (OP n0 n1 n2 n3 n4))),(39,.is (.int .u8 (Ng n0 n1 n2 n3 n4 n5))),
  (500008,.join (Kh (OT n0)) (uR m)),(500014,.join (Kh (OS n0 n1)) (uR m)),(500020,.join (Kh (OR n0 n1 n2)) (uR m)),(500025,.join (Kh (OQ n0 n1 n2 n3)) (uR m)),(500031,.join (Kh (OP n0 n1 n2 n3 n4)) (uR m)),(500037,.join (Kh (Ng n0 n1 n2 n3 n4 n5)) (uR m)),
  (43,.is (.int .u8 v7)),(45,.call (.bool pt)),ao 50 o1,ao 53 hs,ao 62 g1,ao 67 g2,ao 76 g3,ao 85 g4,
  (89,.call (.bool s)),(98,.call (.bool d)),(93,.call (.int .i64 e1)),(102,.call (.int .i64 e2)),ao 94 x1,ao 103 x2,(108,.call (.bool s)),(111,.call (.bool d)),ao 122 ne,ao 129 q6,ao 134 q17] [] (by kernel_rfl) func83 rfl (bN rfl) ?_
 have GG:∀ n:Nat,XC n=(VM o1 hs g1 g2 g3 g4 s x1 d x2 ne pt q6 q17)→Xz .i64 (XC n)=Xz .i64 (VM o1 hs g1 g2 g3 g4 s x1 d x2 ne pt q6 q17):=fun n h=>by rw[h]
 exact XH (by kernel_rfl) (Sx.t8 c8 (Sx.aI (b:=n0) (fun hb0=>(Sx.t2 (c10f hb0) (show [(1,Sx.SV.ptr 0 0),(2,Sx.SV.val (Xz .i64 (XC 0))),(3,Sx.SV.val (Xz .u8 (OT n0)))]=[(1,Sx.SV.ptr 0 0),(2,Sx.SV.val (Xz .i64 (XC 0))),(3,Sx.SV.val (Xz .u8 (OT n0)))]from by cases hb0<;>rfl) zmem)) (fun hb0=>(Xy (show [(1,Sx.SV.ptr 0 0),(2,Sx.SV.val (Xz .i64 (XC 0))),(3,Sx.SV.val (Xz .u8 (XC 0)))]=[(1,Sx.SV.ptr 0 0),(2,Sx.SV.val (Xz .i64 (XC 0))),(3,Sx.SV.val (Xz .u8 (OT n0)))]from by cases hb0<;>rfl) zmem))) c14 (Sx.aI (b:=n1) (fun hb5=>(Sx.t2 (c16f hb5) (show [(1,Sx.SV.ptr 0 0),(2,Sx.SV.val (Xz .i64 (XC 0))),(3,Sx.SV.val (Xz .u8 (OS n0 n1)))]=[(1,Sx.SV.ptr 0 0),(2,Sx.SV.val (Xz .i64 (XC 0))),(3,Sx.SV.val (Xz .u8 (OS n0 n1)))]from by cases hb5<;>rfl) zmem)) (fun hb5=>(Xy (show [(1,Sx.SV.ptr 0 0),(2,Sx.SV.val (Xz .i64 (XC 0))),(3,Sx.SV.val (Xz .u8 (OT n0)))]=[(1,Sx.SV.ptr 0 0),(2,Sx.SV.val (Xz .i64 (XC 0))),(3,Sx.SV.val (Xz .u8 (OS n0 n1)))]from by cases hb5<;>rfl) zmem))) c20 (Sx.aI (b:=n2) (fun hb10=>(Sx.t2 (c22f hb10) (show [(1,Sx.SV.ptr 0 0),(2,Sx.SV.val (Xz .i64 (XC 0))),(3,Sx.SV.val (Xz .u8 (OR n0 n1 n2)))]=[(1,Sx.SV.ptr 0 0),(2,Sx.SV.val (Xz .i64 (XC 0))),(3,Sx.SV.val (Xz .u8 (OR n0 n1 n2)))]from by cases hb10<;>rfl) zmem)) (fun hb10=>(Xy (show [(1,Sx.SV.ptr 0 0),(2,Sx.SV.val (Xz .i64 (XC 0))),(3,Sx.SV.val (Xz .u8 (OS n0 n1)))]=[(1,Sx.SV.ptr 0 0),(2,Sx.SV.val (Xz .i64 (XC 0))),(3,Sx.SV.val (Xz .u8 (OR n0 n1 n2)))]from by cases hb10<;>rfl) zmem))) c25 (Sx.aI (b:=n3) (fun hb15=>(Sx.t2 (c27f hb15) (show [(1,Sx.SV.ptr 0 0),(2,Sx.SV.val (Xz .i64 (XC 0))),(3,Sx.SV.val (Xz .u8 (OQ n0 n1 n2 n3)))]=[(1,Sx.SV.ptr 0 0),(2,Sx.SV.val (Xz .i64 (XC 0))),(3,Sx.SV.val (Xz .u8 (OQ n0 n1 n2 n3)))]from by cases hb15<;>rfl) zmem)) (fun hb15=>(Xy (show [(1,Sx.SV.ptr 0 0),(2,Sx.SV.val (Xz .i64 (XC 0))),(3,Sx.SV.val (Xz .u8 (OR n0 n1 n2)))]=[(1,Sx.SV.ptr 0 0),(2,Sx.SV.val (Xz .i64 (XC 0))),(3,Sx.SV.val (Xz .u8 (OQ n0 n1 n2 n3)))]from by cases hb15<;>rfl) zmem))) (Sx.t4 c31 (Sx.aI (b:=n4) (fun hb20=>(Sx.t2 (c33f hb20) (show [(1,Sx.SV.ptr 0 0),(2,Sx.SV.val (Xz .i64 (XC 0))),(3,Sx.SV.val (Xz .u8 (OP n0 n1 n2 n3 n4)))]=[(1,Sx.SV.ptr 0 0),(2,Sx.SV.val (Xz .i64 (XC 0))),(3,Sx.SV.val (Xz .u8 (OP n0 n1 n2 n3 n4)))]from by cases hb20<;>rfl) zmem)) (fun hb20=>(Xy (show [(1,Sx.SV.ptr 0 0),(2,Sx.SV.val (Xz .i64 (XC 0))),(3,Sx.SV.val (Xz .u8 (OQ n0 n1 n2 n3)))]=[(1,Sx.SV.ptr 0 0),(2,Sx.SV.val (Xz .i64 (XC 0))),(3,Sx.SV.val (Xz .u8 (OP n0 n1 n2 n3 n4)))]from by cases hb20<;>rfl) zmem))) c37 (Sx.aI (b:=n5) (fun hb25=>(Sx.t2 (c39f hb25) (show [(1,Sx.SV.ptr 0 0),(2,Sx.SV.val (Xz .i64 (XC 0))),(3,Sx.SV.val (Xz .u8 (Ng n0 n1 n2 n3 n4 n5)))]=[(1,Sx.SV.ptr 0 0),(2,Sx.SV.val (Xz .i64 (XC 0))),(3,Sx.SV.val (Xz .u8 (Ng n0 n1 n2 n3 n4 n5)))]from by cases hb25<;>rfl) zmem)) (fun hb25=>(Xy (show [(1,Sx.SV.ptr 0 0),(2,Sx.SV.val (Xz .i64 (XC 0))),(3,Sx.SV.val (Xz .u8 (OP n0 n1 n2 n3 n4)))]=[(1,Sx.SV.ptr 0 0),(2,Sx.SV.val (Xz .i64 (XC 0))),(3,Sx.SV.val (Xz .u8 (Ng n0 n1 n2 n3 n4 n5)))]from by cases hb25<;>rfl) zmem))) (Sx.t2 Ea c45 (Xy c50 (Sx.aI (b:=o1) (fun hb30=>(show Xz .i64 (XC 190)=Xz .i64 (VM o1 hs g1 g2 g3 g4 s x1 d x2 ne pt q6 q17)from by cases hb30<;>rfl)) (fun hb30=>(Xy c53 (Sx.aI (b:=hs) (fun hb32=>(GG 190 (by subst_vars;trivial))) (fun hb32=>(Xy c62 (Sx.aI (b:=g1) (fun hb34=>(GG 190 (by subst_vars;trivial))) (fun hb34=>(Xy c67 (Sx.aI (b:=g2) (fun hb36=>(GG 190 (by subst_vars;trivial))) (fun hb36=>(Xy c76 (Sx.aI (b:=g3) (fun hb38=>(GG 190 (by subst_vars;trivial))) (fun hb38=>(Xy c85 (Sx.aI (b:=g4) (fun hb40=>(GG 190 (by subst_vars;trivial))) (fun hb40=>(Xy c89 (Sx.aI (b:=s) (fun hb42=>(Sx.t2 c93 c94 (Sx.aI (b:=x1) (fun hb43=>(GG 190 (by subst_vars;trivial))) (fun hb43=>(Xy c98 (Sx.aI (b:=d) (fun hb45=>(Sx.t2 c102 c103 (Sx.aI (b:=x2) (fun hb46=>(GG 190 (by subst_vars;trivial))) (fun hb46=>(Xy c108 (Sx.aI (b:=s) (fun hb48=>(Xy c111 (Sx.aI (b:=d) (fun hb49=>(Xy c122 (Sx.aI (b:=ne) (fun hb50=>(GG 190 (by subst_vars;trivial))) (fun hb50=>(Sx.aI (b:=pt) (fun hb52=>(Xy c129 (Sx.aI (b:=q6) (fun hb53=>(Xy c134 (Sx.aI (b:=q17) (fun hb54=>(GG 190 (by subst_vars;trivial))) (fun hb54=>(GG 0 (by subst_vars;trivial)))))) (fun hb53=>(GG 0 (by subst_vars;trivial)))))) (fun hb52=>(GG 0 (by subst_vars;trivial)))))))) (fun hb49=>(Sx.aI (b:=pt) (fun hb59=>(Xy c129 (Sx.aI (b:=q6) (fun hb60=>(Xy c134 (Sx.aI (b:=q17) (fun hb61=>(GG 190 (by subst_vars;trivial))) (fun hb61=>(GG 0 (by subst_vars;trivial)))))) (fun hb60=>(GG 0 (by subst_vars;trivial)))))) (fun hb59=>(GG 0 (by subst_vars;trivial)))))))) (fun hb48=>(Sx.aI (b:=pt) (fun hb66=>(Xy c129 (Sx.aI (b:=q6) (fun hb67=>(Xy c134 (Sx.aI (b:=q17) (fun hb68=>(GG 190 (by subst_vars;trivial))) (fun hb68=>(GG 0 (by subst_vars;trivial)))))) (fun hb67=>(GG 0 (by subst_vars;trivial)))))) (fun hb66=>(GG 0 (by subst_vars;trivial))))))))))) (fun hb45=>(Xy c108 (Sx.aI (b:=s) (fun hb73=>(Xy c111 (Sx.aI (b:=d) (fun hb74=>(Xy c122 (Sx.aI (b:=ne) (fun hb75=>(GG 190 (by subst_vars;trivial))) (fun hb75=>(Sx.aI (b:=pt) (fun hb77=>(Xy c129 (Sx.aI (b:=q6) (fun hb78=>(Xy c134 (Sx.aI (b:=q17) (fun hb79=>(GG 190 (by subst_vars;trivial))) (fun hb79=>(GG 0 (by subst_vars;trivial)))))) (fun hb78=>(GG 0 (by subst_vars;trivial)))))) (fun hb77=>(GG 0 (by subst_vars;trivial)))))))) (fun hb74=>(Sx.aI (b:=pt) (fun hb84=>(Xy c129 (Sx.aI (b:=q6) (fun hb85=>(Xy c134 (Sx.aI (b:=q17) (fun hb86=>(GG 190 (by subst_vars;trivial))) (fun hb86=>(GG 0 (by subst_vars;trivial)))))) (fun hb85=>(GG 0 (by subst_vars;trivial)))))) (fun hb84=>(GG 0 (by subst_vars;trivial)))))))) (fun hb73=>(Sx.aI (b:=pt) (fun hb91=>(Xy c129 (Sx.aI (b:=q6) (fun hb92=>(Xy c134 (Sx.aI (b:=q17) (fun hb93=>(GG 190 (by subst_vars;trivial))) (fun hb93=>(GG 0 (by subst_vars;trivial)))))) (fun hb92=>(GG 0 (by subst_vars;trivial)))))) (fun hb91=>(GG 0 (by subst_vars;trivial)))))))))))))) (fun hb42=>(Xy c98 (Sx.aI (b:=d) (fun hb98=>(Sx.t2 c102 c103 (Sx.aI (b:=x2) (fun hb99=>(GG 190 (by subst_vars;trivial))) (fun hb99=>(Xy c108 (Sx.aI (b:=s) (fun hb101=>(Xy c111 (Sx.aI (b:=d) (fun hb102=>(Xy c122 (Sx.aI (b:=ne) (fun hb103=>(GG 190 (by subst_vars;trivial))) (fun hb103=>(Sx.aI (b:=pt) (fun hb105=>(Xy c129 (Sx.aI (b:=q6) (fun hb106=>(Xy c134 (Sx.aI (b:=q17) (fun hb107=>(GG 190 (by subst_vars;trivial))) (fun hb107=>(GG 0 (by subst_vars;trivial)))))) (fun hb106=>(GG 0 (by subst_vars;trivial)))))) (fun hb105=>(GG 0 (by subst_vars;trivial)))))))) (fun hb102=>(Sx.aI (b:=pt) (fun hb112=>(Xy c129 (Sx.aI (b:=q6) (fun hb113=>(Xy c134 (Sx.aI (b:=q17) (fun hb114=>(GG 190 (by subst_vars;trivial))) (fun hb114=>(GG 0 (by subst_vars;trivial)))))) (fun hb113=>(GG 0 (by subst_vars;trivial)))))) (fun hb112=>(GG 0 (by subst_vars;trivial)))))))) (fun hb101=>(Sx.aI (b:=pt) (fun hb119=>(Xy c129 (Sx.aI (b:=q6) (fun hb120=>(Xy c134 (Sx.aI (b:=q17) (fun hb121=>(GG 190 (by subst_vars;trivial))) (fun hb121=>(GG 0 (by subst_vars;trivial)))))) (fun hb120=>(GG 0 (by subst_vars;trivial)))))) (fun hb119=>(GG 0 (by subst_vars;trivial))))))))))) (fun hb98=>(Xy c108 (Sx.aI (b:=s) (fun hb126=>(Xy c111 (Sx.aI (b:=d) (fun hb127=>(Xy c122 (Sx.aI (b:=ne) (fun hb128=>(GG 190 (by subst_vars;trivial))) (fun hb128=>(Sx.aI (b:=pt) (fun hb130=>(Xy c129 (Sx.aI (b:=q6) (fun hb131=>(Xy c134 (Sx.aI (b:=q17) (fun hb132=>(GG 190 (by subst_vars;trivial))) (fun hb132=>(GG 0 (by subst_vars;trivial)))))) (fun hb131=>(GG 0 (by subst_vars;trivial)))))) (fun hb130=>(GG 0 (by subst_vars;trivial)))))))) (fun hb127=>(Sx.aI (b:=pt) (fun hb137=>(Xy c129 (Sx.aI (b:=q6) (fun hb138=>(Xy c134 (Sx.aI (b:=q17) (fun hb139=>(GG 190 (by subst_vars;trivial))) (fun hb139=>(GG 0 (by subst_vars;trivial)))))) (fun hb138=>(GG 0 (by subst_vars;trivial)))))) (fun hb137=>(GG 0 (by subst_vars;trivial)))))))) (fun hb126=>(Sx.aI (b:=pt) (fun hb144=>(Xy c129 (Sx.aI (b:=q6) (fun hb145=>(Xy c134 (Sx.aI (b:=q17) (fun hb146=>(GG 190 (by subst_vars;trivial))) (fun hb146=>(GG 0 (by subst_vars;trivial)))))) (fun hb145=>(GG 0 (by subst_vars;trivial)))))) (fun hb144=>(GG 0 (by subst_vars;trivial))))))))))))))))))))))))))))))))))
open Go.RowKit Go.Lib Go.Sort _root_.Go.Proofs.Tryz
theorem QQ:∀(a:Fin 256) (n0 n1 n2 n3 n4 n5:Bool),(bits .andNot .u8 (Ng n0 n1 n2 n3 n4 n5) (a.val:Int) !=0)=
  ((n0&&!a.val.testBit 0)||((n1&&!a.val.testBit 1)||((n2&&!a.val.testBit 2)||((n3&&!a.val.testBit 3)||((n4&&!a.val.testBit 4)||(n5&&!a.val.testBit 5)))))):=by decide+kernel
theorem TA(l b0 b1 b2 b3 b4 b5 z0 z1 z2 z3 z4 z5:Bool):(l&&((b0||z0)&&((b1||z1)&&((b2||z2)&&((b3||z3)&&((b4||z4)&&(b5||z5)))))))=
  !(!l||((!z0&&!b0)||((!z1&&!b1)||((!z2&&!b2)||((!z3&&!b3)||((!z4&&!b4)||(!z5&&!b5))))))):=by
 simp[Bool.not_or,Bool.or_comm]
theorem Ba(a b:Nat):decide (a≤b)=!decide ((b:Int) < (a:Int)):=by
 by_cases h:a≤b
 ·rw[decide_eq_true h,decide_eq_false (by omega)];rfl
 ·rw[decide_eq_false h,decide_eq_true (by omega)];rfl
theorem Rh:∀(o1 hs g1 g2 g3 g4 s x1 d x2 ne pt q6 q17:Bool),VM o1 hs g1 g2 g3 g4 s x1 d x2 ne pt q6 q17=
  if(!(o1||hs)&&((!g1&&(!g2&&(!g3&&!g4)))&&(((!s||!x1)&&((!d||!x2)&&(!(s&&d)||!ne)))&&(!pt||(!q6||!q17)))))=true then 0 else 190:=by decide+kernel
theorem sJ(m:Mt)(hw:m.Wf)(w:World):Calls prog 83 #[jU m] w (Rn w (.int .i64 (if bq m=true then 0 else 190))):=by
 have ha:=hw.asks
 have key:=Ri m w (!iG m.fU) (!Ex m.src) (!Ex m.dst) ((m.bw:Int) !=0) (!iG m.sp) (!iG m.dp) (bits .andNot .u8 (m.asks:Int) 63 !=0)
  (bits .andNot .u8 (Ng (!iG m.fU) (!Ex m.src) (!Ex m.dst) ((m.bw:Int) !=0) (!iG m.sp) (!iG m.dp)) (m.asks:Int) !=0)
  (decide ((m.fU.2:Int) < (m.fU.1:Int))) (decide (255 < (m.fU.2:Int))) (decide ((m.sp.2:Int) < (m.sp.1:Int))) (decide ((m.dp.2:Int) < (m.dp.1:Int)))
  (m.asks.testBit 1) (dh m.src.v m.src.n m.src.k !=0) (m.asks.testBit 2) (dh m.dst.v m.dst.n m.dst.k !=0) (m.src.v !=m.dst.v) (m.asks.testBit 4||m.asks.testBit 5) ((m.bw:Int) !=6) ((m.bw:Int) !=17)
  _ (dh m.src.v m.src.n m.src.k) (dh m.dst.v m.dst.n m.dst.k)
  (tt _ _ m.fU hw.fU) (AP _ _ m.src hw.sn hw.sk) (AP _ _ m.dst hw.dn hw.dk) rfl (tt _ _ m.sp hw.sp) (tt _ _ m.dp hw.dp) rfl
  (fun W _=>Gf m 48 _ (Ks ⟨m.asks,ha⟩) W) rfl rfl rfl rfl rfl rfl
  (fun W _=>Gf m 2 _ (Od ⟨m.asks,ha⟩) W) (fun W _=>Gf m 4 _ (Oc ⟨m.asks,ha⟩) W)
  (fun W _=>vx _ _ _ hw.sn W) (fun W _=>vx _ _ _ hw.dn W) rfl rfl rfl rfl rfl
 rw[Rh]at key;have ho:=Mm ⟨m.asks,ha⟩;have hh:=QQ ⟨m.asks,ha⟩ (!iG m.fU) (!Ex m.src) (!Ex m.dst) ((m.bw:Int) !=0) (!iG m.sp) (!iG m.dp);have hx:∀p:Px,(dh p.v p.n p.k !=0)=!gy p.v p.n p.k:=fun p=>by unfold dh;cases gy p.v p.n p.k<;>rfl
 have hp0:((m.bw:Int) !=0)=!decide (m.bw=0):=by by_cases h:m.bw=0<;>simp[h]
 have hp6:((m.bw:Int) !=6)=!decide (m.bw=6):=by
  by_cases h:m.bw=6
  ·rw[h];rfl
  ·rw[decide_eq_false h];simp;omega
 have hp17:((m.bw:Int) !=17)=!decide (m.bw=17):=by
  by_cases h:m.bw=17
  ·rw[h];rfl
  ·rw[decide_eq_false h];simp;omega
 have hne:(m.src.v !=m.dst.v)=!decide (m.src.v=m.dst.v):=by cases m.src.v<;>cases m.dst.v<;>rfl
 have e:bq m=(!((bits .andNot .u8 (m.asks:Int) 63 !=0)||(bits .andNot .u8 (Ng (!iG m.fU) (!Ex m.src) (!Ex m.dst) ((m.bw:Int) !=0) (!iG m.sp) (!iG m.dp)) (m.asks:Int) !=0))&&
   ((!decide ((m.fU.2:Int) < (m.fU.1:Int))&&(!decide (255 < (m.fU.2:Int))&&(!decide ((m.sp.2:Int) < (m.sp.1:Int))&&!decide ((m.dp.2:Int) < (m.dp.1:Int)))))&&
   (((!m.asks.testBit 1||!(dh m.src.v m.src.n m.src.k !=0))&&((!m.asks.testBit 2||!(dh m.dst.v m.dst.n m.dst.k !=0))&&(!(m.asks.testBit 1&&m.asks.testBit 2)||!(m.src.v !=m.dst.v))))&&
   (!(m.asks.testBit 4||m.asks.testBit 5)||(!((m.bw:Int) !=6)||!((m.bw:Int) !=17)))))):=by
  rw[show(bits .andNot .u8 (m.asks:Int) 63 !=0)=decide (¬m.asks < 64)from ho];rw[show(bits .andNot .u8 (Ng (!iG m.fU) (!Ex m.src) (!Ex m.dst) ((m.bw:Int) !=0) (!iG m.sp) (!iG m.dp)) (m.asks:Int) !=0)=_ from hh];rw[hx,hx,hp6,hp17,hp0,hne];simp only[Bool.not_not];have h255:decide (m.fU.2≤255)=!decide (255 < (m.fU.2:Int)):=Ba m.fU.2 255;unfold bq;rw[TA,Ba,h255,Ba,Ba];have:decide (¬m.asks < 64)=!decide (m.asks < 64):=decide_not;rw[this]
 rw[←e]at key;exact key
set_option maxRecDepth 100000
open Go.RowKit Go.Lib Go.Sort _root_.Go.Proofs.Tryz
def RZ(r:Rl):Value:=.agg r.cells.toArray
def UY(r:Rl):Sx.Row:=⟨81,.an r.cells⟩
abbrev RP{α:Type}(r:Out α)(n:Nat):Prop:=r.okB=true∧r.pos≤n
abbrev Xc(f g:Nat)(A:Option Go.Addr)(n c i:Nat)(ws:List Bs){α:Type}(V:α→Value)(r:Out α):Prop:=∀W,eY W g A n c i ws→Calls prog f ((pt g 0)::[]).toArray W (cj g A n c V r W)
abbrev Xb{α β:Type}(r:Out α)(T:Out β):Prop:=∀code p,r=.no code p→T=.no code p
theorem Out.bind_assoc{α β γ:Type}(r:Out α)(g:α→Nat→Out β)(f:β→Nat→Out γ):(r.bind g).bind f=r.bind fun a i=>(g a i).bind f:=by cases r<;>rfl
theorem cX{α β:Type}{T:Out β}(r:Out α){f:α→Nat→Out β}(h:T=r.bind f):T=r.bind f:=h
theorem wv(s:Bs):((ou s).getD ov).n < 2^128 ∧ -9223372036854775808≤((ou s).getD ov).k∧((ou s).getD ov).k≤9223372036854775807:=by
 cases h:ou s with
 |none=>exact⟨by decide,by decide,by decide⟩
 |some p=>obtain⟨h1,h2,_⟩:=mL h;unfold gy at h2;rw[XL,XL,decide_eq_true_iff,decide_eq_true_iff]at h2;have:=fG p.v;exact⟨h1,by show _≤p.k;omega,by show p.k≤_;omega⟩
theorem Out.aH{α β:Type}{r:Out α}{f:α→Nat→Out β}{b:β}{j:Nat}(h:r.bind f=.ok b j):∃a i,r=.ok a i∧f a i=.ok b j:=by
 cases r with
 |ok a i=>exact⟨a,i,rfl,h⟩
 |no c p=>cases h
theorem oC{α:Type}{b:Bool}{code:Nat}{a a':α}{i j:Nat}(h:aY b code a i=.ok a' j):b=true∧a'=a:=by
 cases b with
 |true=>injection h with h _;exact⟨rfl,h.symm⟩
 |false=>cases h
theorem At{ws:List Bs}{i j:Nat}{s:Nat×Nat}(h:jD ws i=.ok s j):s.1≤65535∧s.2≤65535:=by obtain⟨x,k,_,hx⟩:=Out.aH h;obtain⟨hb,rfl⟩:=oC hx;rw[XL]at hb;exact⟨wY hb.1,wY hb.2⟩
theorem qg{ws:List Bs}{i j:Nat}{p:Px}(h:dE ws i=.ok p j):p.n < 2^128 ∧ -9223372036854775808≤p.k∧p.k≤9223372036854775807:=by obtain⟨x,k,_,hx⟩:=Out.aH h;obtain⟨_,rfl⟩:=oC hx;exact wv x
theorem Mg{ws:List Bs}{i j v:Nat}(h:eJ ws i=.ok v j):v≤255:=by
 unfold eJ at h;obtain⟨b,k,_,h⟩:=Out.aH h;cases b with
 |true=>injection h with h _;omega
 |false=>
  obtain⟨b,k,_,h⟩:=Out.aH h;cases b with
  |true=>injection h with h _;omega
  |false=>exact rp h
def Mt.Good(m:Mt):Prop:=m.Wf∧m.asks < 64
theorem mP:kU.Good:=⟨⟨by decide,by decide,by decide,by decide,by decide,by decide,by decide,by decide,by decide⟩,by decide⟩
theorem Ff{k:Nat}{m m':Mt}{ws:List Bs}{i j:Nat}(h:cF k m ws i=.ok m' j)(hm:m.Good):m'.Good:=by
 obtain⟨hw,ha⟩:=hm;rcases k with _|_|_|_|_|k
 ·obtain⟨s,l,hs,h⟩:=Out.aH h
  injection h with h _;subst h;exact⟨{ hw with fU:=At hs },ha⟩
 ·obtain⟨s,l,hs,h⟩:=Out.aH h
  injection h with h _;subst h;exact⟨{ hw with sn:=(qg hs).1,sk:=(qg hs).2 },ha⟩
 ·obtain⟨s,l,hs,h⟩:=Out.aH h
  injection h with h _;subst h;exact⟨{ hw with dn:=(qg hs).1,dk:=(qg hs).2 },ha⟩
 ·obtain⟨s,l,hs,h⟩:=Out.aH h
  injection h with h _;subst h;exact⟨{ hw with pr:=Mg hs },ha⟩
 ·obtain⟨s,l,hs,h⟩:=Out.aH h
  injection h with h _;subst h;exact⟨{ hw with sp:=At hs },ha⟩
 ·obtain⟨s,l,hs,h⟩:=Out.aH h
  injection h with h _;subst h;exact⟨{ hw with dp:=At hs },ha⟩
theorem xU{ws:List Bs}{i:Nat}{m m':Mt}{b:Bool}{j:Nat}(h:aQ ws i m=.ok (b,m') j)(hm:m.Good):m'.Good:=by
 unfold aQ at h;split at h
 ·injection h with h _;injection h with _ h;rw[←h];exact hm
 ·split at h
  ·injection h with h _;injection h with _ h;rw[←h];exact hm
  ·rename_i k hk
   split at h
   ·cases h
   ·obtain⟨a,l,hr,h⟩:=Out.aH h
    injection h with h _;injection h with _ h;subst h;have h64:=Hb ⟨m.asks,hm.2⟩ ⟨k,xN hk⟩;exact Ff hr ⟨{ hm.1 with asks:=by show m.asks|||2^k < 256;exact Nat.lt_trans h64 (by decide) },h64⟩
theorem uE{ws:List Bs}:∀{f i:Nat} {m m':Mt} {j:Nat},ec ws f i m=.ok m' j→m.Good→m'.Good
 | 0,_,_,_,_,h,hm=>by injection h with h _;rw[←h];exact hm
 |f+1,_,_,_,_,h,hm=>by
  obtain⟨⟨b,a⟩,l,hr,h⟩:=Out.aH h;have hg:=xU hr hm;cases b with
  |true=>exact uE h hg
  |false=>injection h with h _;rw[←h];exact hm
theorem xj{ws:List Bs}{i:Nat}{m:Mt}{j:Nat}(h:eO ws i=.ok m j):m.Good:=by
 obtain⟨b,l,_,h⟩:=Out.aH h;cases b with
 |true=>injection h with h _;rw[←h];exact mP
 |false=>
  obtain⟨⟨b,a⟩,l,hr,h⟩:=Out.aH h;have hg:=xU hr mP;cases b with
  |true=>exact uE h hg
  |false=>obtain⟨_,_,_,h⟩:=Out.aH h;cases h
theorem Qw{w:World}{g:Nat}{A:Option Go.Addr}{n c i:Nat}{ws:List Bs}(h:eY w g A n c i ws):Calls prog 190 #[(pt g 0)] w (cj g A n c RZ (od ws i) w):=by
 obtain⟨T,hT⟩:∃T,T=od ws i:=⟨_,rfl⟩;have E1:=cX (fO ws i) hT;rw[←hT];clear hT;have n4:=fun W (hL:eY W g A n c i ws)=>sM hL;generalize fO ws i=r1 at E1 n4;have E2:=fun(h1:r1.okB=true)=>cX (eO ws r1.pos) (cL E1 h1);have n7:=fun W (hL:eY W g A n c r1.pos ws)=>MR hL;have hg:(eO ws r1.pos).okB=true→(eO ws r1.pos).val.Good:=fun hh=>xj (Out.Hg hh);generalize eO ws r1.pos=r2 at E2 n7 hg;have E3:=fun h1 (h2:r2.okB=true)=>cX (aV ws r2.pos) ((cL (E2 h1) h2).trans (Out.bind_assoc (aV ws r2.pos) _ _));have n11:=fun W (hL:eY W g A n c r2.pos ws)=>pg hL;generalize aV ws r2.pos=r3 at E3 n11;have n17:=fun(h2:r2.okB=true) W (_:ai [g] w W)=>sJ r2.val (hg h2).1 W;have hck:XA ((if bq r2.val=true then(0:Int)else 190)==0)=.bool (bq r2.val):=by cases bq r2.val<;>rfl
 obtain⟨ar,har⟩:∃ar,decide (r3.val=oz)=ar:=⟨_,rfl⟩;have E4:=fun h1 h2 (h3:r3.okB=true)=>cX (aY ar 200 () r3.pos) ((cL (E3 h1 h2) h3).trans (by rw[har];exact Out.bind_assoc (aY ar 200 () r3.pos) _ _));have n13:=fun W (hL:eY W g A n c r3.pos ws)=>oD ar 200 () hL;generalize aY ar 200 () r3.pos=r4 at E4 n13;have E5:=fun h1 h2 h3 (h4:r4.okB=true)=>cX (aY (bq r2.val) 190 () r4.pos) (cL (E4 h1 h2 h3) h4);generalize (if bq r2.val=true then(0:Int)else 190)=ck at n17 hck;generalize bq r2.val=cb at hck E5;have n19:=fun W (hL:eY W g A n c r4.pos ws)=>oD cb 190 () hL;generalize aY cb 190 () r4.pos=r5 at E5 n19;have E6:=fun h1 h2 h3 h4 (h5:r5.okB=true)=>cX (pS true ws r5.pos) (cL (E5 h1 h2 h3 h4) h5);have n22:=fun W (hL:eY W g A n c r5.pos ws)=>zL true hL;generalize pS true ws r5.pos=r6 at E6 n22;have E7:=fun h1 h2 h3 h4 h5 (h6:r6.okB=true)=>cX (o5 bc ws r6.pos) (cL (E6 h1 h2 h3 h4 h5) h6);have opt:∀(k:Bs) (j:Nat),∃b p,dm ws j k=.ok b p∧(b=true→o5 k ws j=fO ws p)∧(b=false→o5 k ws j=.ok [] p):=fun k j=>by
  rcases jd (ws:=ws) (i:=j) (s:=k)with⟨t,_⟩ | t
  ·exact⟨true,j+1,t,fun _=>by unfold o5;rw[t];rfl,fun h=>by cases h⟩
  ·exact⟨false,j,t,fun h=>(by cases h),fun _=>by unfold o5;rw[t];rfl⟩
 obtain⟨bm,p7,t7,u7,v7⟩:=opt bc r6.pos;generalize o5 bc ws r6.pos=r8 at E7 u7 v7;have n30:bm=true→Xc 188 g A n c p7 ws ae r8:=fun e W hL=>by rw[u7 e];exact sM hL
 have E9:=fun h1 h2 h3 h4 h5 h6 (h8:r8.okB=true)=>cX (o5 aT ws r8.pos) (cL (E7 h1 h2 h3 h4 h5 h6) h8);obtain⟨bi,p9,t9,u9,v9⟩:=opt aT r8.pos;generalize o5 aT ws r8.pos=r10 at E9 u9 v9;have n35:bi=true→Xc 188 g A n c p9 ws ae r10:=fun e W hL=>by rw[u9 e];exact sM hL
 have q:∀(u:Rl) {j:Nat} {α:Type} [Inhabited α] {f:Nat} {V:α→Value} {r:Out α} (rest:List Value),j≤n→Xb r T→(∀W,eY W g A n c j ws→Calls prog f ((pt g 0)::rest).toArray W (cj g A n c V r W))→_:=fun u j α _ f V r rest hj hno hn=>nO (T:=T) [UY u] rest h hj hno hn
 have CH:=Xy (q W0 [] h.le (cU E1) n4) fun(x1:RP r1 n)=>Xy (q ⟨r1.val,kU,0,0,[],[]⟩ [] x1.2 (cU (E2 x1.1)) n7) fun(x2:RP r2 n)=>Xy (q ⟨r1.val,r2.val,0,0,[],[]⟩ [] x2.2 (cU (E3 x1.1 x2.1)) n11) fun(x3:RP r3 n)=>Xy (fun W=>dR (.tmp 11) (.const (ae oz)) r3.val oz ar har W)
  (Xy (q ⟨r1.val,r2.val,0,0,[],[]⟩ [.bool ar,.int .i64 200] x3.2 (cU (E4 x1.1 x2.1 x3.1)) n13) fun(x4:RP r4 n)=>Xy (n17 x2.1) (Xy hck (Xy (q ⟨r1.val,r2.val,0,0,[],[]⟩ [.bool cb,.int .i64 190] x4.2 (cU (E5 x1.1 x2.1 x3.1 x4.1)) n19) fun(x5:RP r5 n)=>Xy (q ⟨r1.val,r2.val,0,0,[],[]⟩ [.bool true] x5.2 (cU (E6 x1.1 x2.1 x3.1 x4.1 x5.1)) n22) fun(x6:RP r6 n)=>
   Xy (q ⟨r1.val,r2.val,r6.val.1,r6.val.2,[],[]⟩ [ae bc] (V:=fun b:Bool=>.bool b) (r:=Out.ok bm p7) x6.2 (fun _ _ hh=>by cases hh) (fun W hL=>t7 ▸ lX bc hL)) fun(x7:RP (Out.ok bm p7) n)=>
    have K8:=fun(x8:RP r8 n)=>Xy (q ⟨r1.val,r2.val,r6.val.1,r6.val.2,r8.val,[]⟩ [ae aT] (V:=fun b:Bool=>.bool b) (r:=Out.ok bi p9) x8.2 (fun _ _ hh=>by cases hh) (fun W hL=>t9 ▸ lX aT hL)) fun(x9:RP (Out.ok bi p9) n)=>
     have K10:=fun(x10:RP r10 n)=>(show EA g A n c RZ T (.val (RZ ⟨r1.val,r2.val,r6.val.1,r6.val.2,r8.val,r10.val⟩)) [(g,154,ee A n c r10.pos)]from⟨⟨r1.val,r2.val,r6.val.1,r6.val.2,r8.val,r10.val⟩,r10.pos,cL (E9 x1.1 x2.1 x3.1 x4.1 x5.1 x6.1 x8.1) x10.1,x10.2,rfl,rfl⟩)
     jZ.mk (b:=bi) (fun e=>Xy (q ⟨r1.val,r2.val,r6.val.1,r6.val.2,r8.val,[]⟩ [] x9.2 (cU (E9 x1.1 x2.1 x3.1 x4.1 x5.1 x6.1 x8.1)) (n35 e)) K10) fun e=>K10 (by rw[v9 e];exact x9)
    jZ.mk (b:=bm) (fun e=>Xy (q ⟨r1.val,r2.val,r6.val.1,r6.val.2,[],[]⟩ [] x7.2 (cU (E7 x1.1 x2.1 x3.1 x4.1 x5.1 x6.1)) (n30 e)) K8) fun e=>K8 (by rw[v7 e];exact x7))))
 refine gx [] h.cw [(4,.aB (iq 0 g A n c r1 ae)),(7,.aB (iq 0 g A n c r2 jU)),(11,.aB (iq 0 g A n c r3 ae)),(12,.bin (.bool ar)),(13,.aB (iq 0 g A n c r4 (fun _=>.tuple #[]))),(17,.call (.int .i64 ck)),ao 18 cb,(19,.aB (iq 0 g A n c r5 (fun _=>.tuple #[]))),(22,.aB (iq 0 g A n c r6 ue)),(28,.aB (iq 0 g A n c (Out.ok bm p7) (fun b=>.bool b))),(30,.aB (iq 0 g A n c r8 ae)),(33,.aB (iq 0 g A n c (Out.ok bi p9) (fun b=>.bool b))),(35,.aB (iq 0 g A n c r10 ae))] [] (by kernel_rfl) func190 rfl (bN rfl) ?_;cases bm with
 |true=>
  cases bi with
  |true=>exact XH (by kernel_rfl) CH
  |false=>obtain rfl:=v9 rfl;exact XH (by kernel_rfl) CH
 |false=>
  obtain rfl:=v7 rfl;cases bi with
  |true=>exact XH (by kernel_rfl) CH
  |false=>obtain rfl:=v9 rfl;exact XH (by kernel_rfl) CH
open Go.RowKit Go.Lib Go.Sort
structure Sl where
 A:Option Go.Addr
 c:Nat
structure gU where
 p:Sl
 r:Sl
 l:Sl
 m:Sl
 i:Sl
def CF.cp(cf:CF):List Value:=cf.aj.map (.int .i64 ·)
def CF.cr(cf:CF):List Value:=cf.af.flatMap Rt.cells
def CF.cl(cf:CF):List Value:=cf.rules.flatMap Rl.cells
def CF.cm(cf:CF):List Value:=cf.ag.flatMap Me.cells
def CF.ci(cf:CF):List Value:=cf.ab.flatMap Mi.cells
def Xp(g gc gd:Nat)(s:gU):List (Option Nat):=[some g,some gc,some gd,s.p.A.map (·.block),s.r.A.map (·.block),s.l.A.map (·.block),s.m.A.map (·.block),s.i.A.map (·.block)]
def Dw(g gc gd:Nat)(s:gU):List Nat:=(Xp g gc gd s).filterMap id
structure qI(w:World)(gc:Nat)(cf:CF)(s:gU):Prop where
 cw:aw w gc 46 [.slice s.p.A cf.aj.length s.p.c,.slice s.r.A cf.af.length s.r.c,.slice s.l.A cf.rules.length s.l.c,.slice s.m.A cf.ag.length s.m.c,.slice s.i.A cf.ab.length s.i.c,.int .i64 cf.aZ]
 p:Own w 3 1 (.slice s.p.A cf.aj.length s.p.c) cf.aj.length cf.cp
 r:Own w 118 19 (.slice s.r.A cf.af.length s.r.c) cf.af.length cf.cr
 l:Own w 81 49 (.slice s.l.A cf.rules.length s.l.c) cf.rules.length cf.cl
 m:Own w 122 4 (.slice s.m.A cf.ag.length s.m.c) cf.ag.length cf.cm
 i:Own w 124 3 (.slice s.i.A cf.ab.length s.i.c) cf.ab.length cf.ci
structure Wc(w:World)(g gc gd:Nat)(A:Option Go.Addr)(n c i:Nat)(ws:List Bs)(cf:CF)(d:Nat)(s:gU):Prop where
 u4:vB w (Dw g gc gd s) g A n c i ws
 at_:qI w gc cf s
 bd:aw w gd 3 [.int .i64 (d:Int)]
 nd:(Dw g gc gd s).Nodup
 nc:cf.aj.length≤1100000∧cf.af.length≤1100000∧cf.rules.length≤1100000∧cf.ag.length≤1100000∧cf.ab.length≤1100000
 V8:d≤1100000
def Vx(g gc gd:Nat)(A:Option Go.Addr)(n c i:Nat)(cf:CF)(d:Nat):List Sx.Row:=
 [⟨154,.dG g (ee A n c i)⟩,⟨46,.j5 gc [.own 3,.own 4,.own 5,.own 6,.own 7,.val (.int .i64 cf.aZ)]⟩,⟨3,.dG gd [.int .i64 (d:Int)]⟩,
  ⟨3,.own 1 cf.aj.length cf.cp⟩,⟨118,.own 19 cf.af.length cf.cr⟩,⟨81,.own 49 cf.rules.length cf.cl⟩,⟨122,.own 4 cf.ag.length cf.cm⟩,⟨124,.own 3 cf.ab.length cf.ci⟩]
def Su(g gc gd:Nat)(A:Option Go.Addr)(n c:Nat)(T:Out CF)(d:Nat)(l:List Sx.SV)(mem:List Sx.Row):Prop:=
 ∃(cf:CF) (i k0 k1 k2 k3 k4:Nat),T=.ok cf i∧i≤n∧l=[]∧mem[0]?=some ⟨154,.dG g (ee A n c i)⟩∧mem[1]?=some ⟨46,.j5 gc [.own k0,.own k1,.own k2,.own k3,.own k4,.val (.int .i64 cf.aZ)]⟩∧mem[2]?=some ⟨3,.dG gd [.int .i64 (d:Int)]⟩∧
 mem[k0]?=some ⟨3,.own 1 cf.aj.length cf.cp⟩∧mem[k1]?=some ⟨118,.own 19 cf.af.length cf.cr⟩∧mem[k2]?=some ⟨81,.own 49 cf.rules.length cf.cl⟩∧mem[k3]?=some ⟨122,.own 4 cf.ag.length cf.cm⟩∧mem[k4]?=some ⟨124,.own 3 cf.ab.length cf.ci⟩
def uf(g gc gd:Nat)(A:Option Go.Addr)(n c:Nat)(T:Out CF)(d:Nat)(S:List Nat)(w:World)(e:Ending)(w':World):Prop:=
 (∃cf i s,T=.ok cf i∧i≤n∧e=.returned (.tuple #[])∧aw w' g 154 (ee A n c i)∧qI w' gc cf s∧aw w' gd 3 [.int .i64 (d:Int)]∧(Dw g gc gd s).Nodup∧(∀k∈Dw g gc gd s,k∈S∨w.heap.size≤k)∧ai S w w')∨
 (∃code p chain,T=.no code p∧e=.panicked chain∧EB code p w chain w'∧ai S w w')
theorem w7{mem:List Sx.Row}{β:Sx.Env}(inj:∀(i j:Nat) (r r':Sx.Row) (k:Nat),mem[i]?=some r→mem[j]?=some r'→Sx.az β i r=some k→Sx.az β j r'=some k→i=j) :
  ∀(l:List (Nat×Option Nat)),(l.map (·.1)).Nodup→(∀x∈l,∀k,x.2=some k→∃r,mem[x.1]?=some r∧Sx.az β x.1 r=some k)→((l.map (·.2)).filterMap id).Nodup
 | [],_,_=>by simp
 |x::l,hn,hr=>by
  rw[List.map_cons,X1]at hn;have ih:=w7 inj l hn.2 fun y hy=>hr y (Yf _ hy);cases hx:x.2 with
  |none=>simpa[hx]using ih
  |some k=>
   have e:((x::l).map (·.2)).filterMap id=k::(l.map (·.2)).filterMap id:=by simp[hx]
   rw[e,X1];refine⟨fun hk=>?_,ih⟩;obtain⟨o,ho,hok⟩:=XU.1 hk;obtain⟨y,hy,rfl⟩:=Yb.1 ho;obtain⟨r,h1,h2⟩:=hr x (by simp) k hx;obtain⟨r',h3,h4⟩:=hr y (Yf _ hy) k hok;have:=inj _ _ _ _ _ h1 h3 h2 h4;exact hn.1 (Yb.2 ⟨y,hy,this.symm⟩)
theorem uf.iL{g gc gd:Nat}{A:Option Go.Addr}{n c:Nat}{T:Out CF}{d:Nat}{S:List Nat}{w:World}{e:Ending}{w':World}(h:Sx.cN ⟨w,S,pW T w⟩ (Su g gc gd A n c T d) e w'):uf g gc gd A n c T d S w e w':=by
 rcases h with⟨β,l,mem,⟨cf,i,k0,k1,k2,k3,k4,h1,h2,rfl,m0,m1,m2,q0,q1,q2,q3,q4⟩,he,hR⟩ | ⟨chain,he,⟨code,p,h1,hf⟩,hc⟩
 ·have r0:=hR.held 0 _ m0
  have r1:=hR.held 1 _ m1;have r2:=hR.held 2 _ m2;have o0:=hR.held k0 _ q0;have o1:=hR.held k1 _ q1;have o2:=hR.held k2 _ q2;have o3:=hR.held k3 _ q3;have o4:=hR.held k4 _ q4;have e0:β 0=g:=r0.1;have e1:β 1=gc:=r1.1;have e2:β 2=gd:=r2.1;have o0:β.n k0=cf.aj.length∧Own w' 3 1 (.slice (β.a k0) cf.aj.length (β.c k0)) cf.aj.length cf.cp:=o0;have o1:β.n k1=cf.af.length∧Own w' 118 19 (.slice (β.a k1) cf.af.length (β.c k1)) cf.af.length cf.cr:=o1;have o2:β.n k2=cf.rules.length∧Own w' 81 49 (.slice (β.a k2) cf.rules.length (β.c k2)) cf.rules.length cf.cl:=o2;have o3:β.n k3=cf.ag.length∧Own w' 122 4 (.slice (β.a k3) cf.ag.length (β.c k3)) cf.ag.length cf.cm:=o3;have o4:β.n k4=cf.ab.length∧Own w' 124 3 (.slice (β.a k4) cf.ab.length (β.c k4)) cf.ab.length cf.ci:=o4;have b1:aw w' gc 46 [.slice (β.a k0) cf.aj.length (β.c k0),.slice (β.a k1) cf.af.length (β.c k1),.slice (β.a k2) cf.rules.length (β.c k2),.slice (β.a k3) cf.ag.length (β.c k3),.slice (β.a k4) cf.ab.length (β.c k4),.int .i64 cf.aZ]:=by have:=r1.2;rw[e1]at this;have hh:([Sx.SV.own k0,.own k1,.own k2,.own k3,.own k4,.val (.int .i64 cf.aZ)].map (Sx.SV.den β))=[β.sl k0,β.sl k1,β.sl k2,β.sl k3,β.sl k4,.int .i64 cf.aZ]:=rfl;rw[hh]at this;unfold Sx.Env.sl at this;rw[o0.1,o1.1,o2.1,o3.1,o4.1]at this;exact this
  have rows:∀x∈[(0,some g),(1,some gc),(2,some gd),(k0,(β.a k0).map (·.block)),(k1,(β.a k1).map (·.block)),(k2,(β.a k2).map (·.block)),(k3,(β.a k3).map (·.block)),(k4,(β.a k4).map (·.block))],∀k,x.2=some k→∃r,mem[x.1]?=some r∧Sx.az β x.1 r=some k:=by
   intro x hx k hk;simp only[XV,XQ,or_false]at hx;rcases hx with rfl|rfl|rfl|rfl|rfl|rfl|rfl|rfl
   ·exact⟨_,m0,by show some (β 0)=_;rw[e0];exact hk⟩
   ·exact⟨_,m1,by show some (β 1)=_;rw[e1];exact hk⟩
   ·exact⟨_,m2,by show some (β 2)=_;rw[e2];exact hk⟩
   ·exact⟨_,q0,hk⟩
   ·exact⟨_,q1,hk⟩
   ·exact⟨_,q2,hk⟩
   ·exact⟨_,q3,hk⟩
   ·exact⟨_,q4,hk⟩
  have d:∀{a b:Nat} {r r':Sx.Row},mem[a]?=some r→mem[b]?=some r'→r≠r'→a≠b:=fun {a b r r'} ha hb hne he=>by subst he;rw[ha]at hb;exact hne (XM.inj hb)
  have nd:[0,1,2,k0,k1,k2,k3,k4].Nodup:=by simp only[X1,XV,XQ,or_false,not_or,not_false_eq_true,List.nodup_nil,and_true];exact⟨⟨(d m0 m1 (fun h=>by cases h)),(d m0 m2 (fun h=>by cases h)),(d m0 q0 (fun h=>by cases h)),(d m0 q1 (fun h=>by cases h)),(d m0 q2 (fun h=>by cases h)),(d m0 q3 (fun h=>by cases h)),(d m0 q4 (fun h=>by cases h))⟩,⟨(d m1 m2 (fun h=>by cases h)),(d m1 q0 (fun h=>by cases h)),(d m1 q1 (fun h=>by cases h)),(d m1 q2 (fun h=>by cases h)),(d m1 q3 (fun h=>by cases h)),(d m1 q4 (fun h=>by cases h))⟩,⟨(d m2 q0 (fun h=>by cases h)),(d m2 q1 (fun h=>by cases h)),(d m2 q2 (fun h=>by cases h)),(d m2 q3 (fun h=>by cases h)),(d m2 q4 (fun h=>by cases h))⟩,⟨(d q0 q1 (fun h=>by cases h)),(d q0 q2 (fun h=>by cases h)),(d q0 q3 (fun h=>by cases h)),(d q0 q4 (fun h=>by cases h))⟩,⟨(d q1 q2 (fun h=>by cases h)),(d q1 q3 (fun h=>by cases h)),(d q1 q4 (fun h=>by cases h))⟩,⟨(d q2 q3 (fun h=>by cases h)),(d q2 q4 (fun h=>by cases h))⟩,(d q3 q4 (fun h=>by cases h))⟩
  refine .inl ⟨cf,i,⟨⟨β.a k0,β.c k0⟩,⟨β.a k1,β.c k1⟩,⟨β.a k2,β.c k2⟩,⟨β.a k3,β.c k3⟩,⟨β.a k4,β.c k4⟩⟩,h1,h2,he,e0 ▸ r0.2,⟨b1,o0.2,o1.2,o2.2,o3.2,o4.2⟩,e2 ▸ r2.2,?_,fun k hk=>?_,hR.aJ⟩
  ·exact w7 hR.inj [(0,some g),(1,some gc),(2,some gd),(k0,(β.a k0).map (·.block)),(k1,(β.a k1).map (·.block)),(k2,(β.a k2).map (·.block)),(k3,(β.a k3).map (·.block)),(k4,(β.a k4).map (·.block))] nd rows
  ·obtain⟨o,ho,hok⟩:=XU.1 hk
   have hm:o∈([(0,some g),(1,some gc),(2,some gd),(k0,(β.a k0).map (·.block)),(k1,(β.a k1).map (·.block)),(k2,(β.a k2).map (·.block)),(k3,(β.a k3).map (·.block)),(k4,(β.a k4).map (·.block))]:List (Nat×Option Nat)).map (·.2):=ho;obtain⟨x,hx,rfl⟩:=Yb.1 hm;obtain⟨r,hr,hb⟩:=rows x hx k hok;exact hR.new x.1 r k hr hb
 ·exact .inr ⟨code,p,chain,h1,he,hf,hc⟩
def WH(g gc gd:Nat)(A:Option Go.Addr)(n c i:Nat)(cf:CF)(d:Nat)(s:gU):List Sx.lu:=
 [.cw g 154 (ee A n c i),.oy gc 46 [.own 3,.own 4,.own 5,.own 6,.own 7,.val (.int .i64 cf.aZ)],.cw gd 3 [.int .i64 (d:Int)],
  .own 3 1 s.p.A cf.aj.length s.p.c cf.cp,.own 118 19 s.r.A cf.af.length s.r.c cf.cr,.own 81 49 s.l.A cf.rules.length s.l.c cf.cl,.own 122 4 s.m.A cf.ag.length s.m.c cf.cm,.own 124 3 s.i.A cf.ab.length s.i.c cf.ci]
theorem nU{P:Program}{w:World}{f:FuncId}{fn:Func}{co:Code}{g gc gd:Nat}{A:Option Go.Addr}{n c i:Nat}{ws:List Bs}{cf:CF}{d d':Nat}{s:gU}{T:Out CF}(h:Wc w g gc gd A n c i ws cf d s)(H:List (Nat×Sx.Hint))(L:List Sx.Loop)
  (hm:P.follows .mixedOrders=true) (hf:P.funcs[f]?=some fn) (hbd:fn.body=some co) (hn:3≤fn.ntmps)
  (hx:Sx.lN P fn.ntmps ⟨w,Dw g gc gd s,pW T w⟩ co H L ⟨Sx.lR 0 [.ptr 0 0,.ptr 1 0,.ptr 2 0],Vx g gc gd A n c i cf d⟩ (Sx.fm P fn (Su g gc gd A n c T d'))) :
  Calls P f #[.pointer (some ⟨g,0,none⟩),.pointer (some ⟨gc,0,none⟩),.pointer (some ⟨gd,0,none⟩)] w (uf g gc gd A n c T d' (Dw g gc gd s) w):=by
 have hF:=Sx.gI (w:=w) (S:=Dw g gc gd s) (PP:=pW T w) (G:=WH g gc gd A n c i cf d s) (fun q hq=>by
  simp only[WH,XV,XQ,or_false]at hq;rcases hq with rfl|rfl|rfl|rfl|rfl|rfl|rfl|rfl
  ·exact h.u4.cw
  ·exact h.at_.cw
  ·exact h.bd
  ·exact h.at_.p
  ·exact h.at_.r
  ·exact h.at_.l
  ·exact h.at_.m
  ·exact h.at_.i) (fun q hq k hk=>by
  have:Dw g gc gd s=(WH g gc gd A n c i cf d s).filterMap Sx.lu.block:=rfl;rw[this];exact XU.2 ⟨q,hq,hk⟩) h.nd
 exact(Sx.bO (args:=[.ptr 0 0,.ptr 1 0,.ptr 2 0]) hF H L hm hf hbd hn rfl hx).mono fun _ _=>uf.iL
set_option maxRecDepth 100000
open Go.RowKit Go.Lib Go.Sort _root_.Go.Proofs.Tryz
noncomputable def bytesOf(t:Nat):Nat:=((prog.types[t]?).map (·.bytes)).getD 0
theorem gM:bytesOf 3≤1000∧bytesOf 118≤1000∧bytesOf 81≤1000∧bytesOf 122≤1000∧bytesOf 124≤1000:=by decide+kernel
theorem jX{cells:List Value}{size len B:Nat}(hl:cells.length=1*size)(ha:cells.all (fun u=>u.oneCell')=true)(hn:len≤1100000)(hb:B≤1000) :
  True∧cells.length=1*size∧(∀u:Value,u∈cells→u.oneCell'=true)∧len+1≤maxLen∧(len+1)*B≤140737488355328:=
 ⟨trivial,hl,fun u hu=>List.all_eq_true.1 ha u hu,by unfold maxLen;omega,Nat.le_trans (Nat.mul_le_mul (show len+1≤1100001 by omega) hb) (by decide)⟩
def bX(cf:CF):List Sx.Row:=[⟨3,.own 1 cf.aj.length cf.cp⟩,⟨118,.own 19 cf.af.length cf.cr⟩,⟨81,.own 49 cf.rules.length cf.cl⟩,⟨122,.own 4 cf.ag.length cf.cm⟩,⟨124,.own 3 cf.ab.length cf.ci⟩]
theorem NB{ws:List Bs}{α:Type}{a:α}{i n:Nat}(hl:ws.length=n)(h:decide (i < n)=true):qG ws a i=.no 200 (i+1):=by unfold qG;rw[hl,h]
theorem Rc{ws:List Bs}{α:Type}{a:α}{i n:Nat}(hl:ws.length=n)(h:decide (i < n)=false):qG ws a i=.ok a i:=by unfold qG;rw[hl,h]
abbrev V7(g gc gd:Nat)(A:Option Go.Addr)(n c:Nat)(cf:CF)(d i:Nat)(R:List Sx.Row):List Sx.Row:=⟨154,.dG g (ee A n c i)⟩::⟨46,.j5 gc [.own 3,.own 4,.own 5,.own 6,.own 7,.val (.int .i64 cf.aZ)]⟩::⟨3,.dG gd [.int .i64 (d:Int)]⟩::R
abbrev Xq(g gc gd:Nat):Array Value:=#[(pt g 0),(pt gc 0),(pt gd 0)]
theorem yz{a n:Nat}{b:Bool}(h:decide (a < n)=b):XA (decide ((a:Int) < (n:Int)))=.bool b:=bz (by rw[←h];congr 1;exact propext (by omega))
theorem Vw(w:World)(g:Nat)(S:List Nat)(A:Option Go.Addr)(n c:Nat){T:Out CF}(p:Nat)(fin:T=.no 200 (p+1))(W:World)(hW:ai S w W)(_:aw W g 154 (ee A n c p)):Calls prog 94 #[(pt g 0),.int .i64 200,.int .i64 ((p:Int)+1)] W (Sx.qJ ⟨w,S,pW T w⟩ W [(pt g 0),.int .i64 200,.int .i64 ((p:Int)+1)] (.G9 [(0,0)])):=mN (b:=⟨w,S,pW T w⟩) (vs:=[(pt g 0),.int .i64 200,.int .i64 ((p:Int)+1)]) (ps:=[(0,0)]) ((tY ((pt g 0)) 200 ((p:Int)+1) W).mono fun _ _ ⟨ch,he,hf,hc⟩=>⟨ch,he,(show pW T w _ _ from⟨200,p+1,fin,hf.up hW.size⟩),hc⟩)
def Tw(a b c d e f:Bool):List (Nat×Sx.Hint):=[(20,.bin (.bool a)),(33,.bin (.bool b)),(50,.bin (.bool c)),(82,.bin (.bool d)),(103,.bin (.bool e)),(116,.bin (.bool f))]
def JV(p:Nat)(b:Bool):List (Nat×Sx.Hint):=[ao 145 b,(151,.is (.int .i64 ((p:Int)+1))),(152,.sY)]
abbrev zM(g gc gd:Nat)(A:Option Go.Addr)(n c p d k0 k1 k2 k3 k4:Nat)(x:Int)(R:List Sx.Row):List Sx.Row:=⟨154,.dG g (ee A n c p)⟩::⟨46,.j5 gc [.own k0,.own k1,.own k2,.own k3,.own k4,.val (.int .i64 x)]⟩::⟨3,.dG gd [.int .i64 (d:Int)]⟩::R
def DU(x:Bs)(d:Nat):Nat:=if x=aO then d+1 else d
abbrev px(p:Nat):Value:=.int .i64 ((p:Int)+1)
theorem Up{w:World}{g gc gd:Nat}{A:Option Go.Addr}{n c i:Nat}{ws:List Bs}{cf cf':CF}{d p:Nat}{s:gU}{T:Out CF}{b:Bool}{Z:Prop}(h:Wc w g gc gd A n c i ws cf d s)(hb:decide (p < n)=b)(hp:p≤n)(fin:T=qG ws cf' p)(hz:T=.ok cf' p→Z) :
  XA (decide ((p:Int) < (n:Int)))=.bool b∧jZ b (Xz .i64 (XF.wrap ((p:Int)+1))=px p∧(∀W,ai (Dw g gc gd s) w W→aw W g 154 (ee A n c p)→Calls prog 94 #[(pt g 0),.int .i64 200,px p] W (Sx.qJ ⟨w,Dw g gc gd s,pW T w⟩ W [(pt g 0),.int .i64 200,px p] (.G9 [(0,0)])))∧True) Z:=
 ⟨yz hb,jZ.mk (fun e=>⟨iw (kC (by omega) (by have:=h.u4.bd;omega)),Vw w g (Dw g gc gd s) A n c p (fin.trans (NB h.u4.jq.len (hb.trans e))),trivial⟩) fun e=>hz (fin.trans (Rc h.u4.jq.len (hb.trans e)))⟩
def V6(x:Bs)(a b c:Nat):List Sx.Row:=[⟨122,.an (Me.cells ⟨x,a,b,c⟩)⟩,⟨253,.dK [.ptr 8 1,.ptr 8 2,.ptr 8 3]⟩]
abbrev Wz:Value:=.int .u64 ((18446744073709551615:Nat):Int)
theorem Tv{w:World}{g gc gd:Nat}{A:Option Go.Addr}{n c i:Nat}{ws:List Bs}{cf:CF}{d:Nat}{s:gU}(h:Wc w g gc gd A n c i ws cf d s) :
  Calls prog 131 (Xq g gc gd) w (uf g gc gd A n c (pz ws i cf d) (DU (aV ws i).val d) (Dw g gc gd s) w):=by
 have E1:=cX (T:=pz ws i cf d) (aV ws i) rfl;have n12:=fun W (hL:eY W g A n c i ws)=>pg hL;generalize aV ws i=r at E1 n12;have E2:=fun(hr:r.okB=true)=>cX (fC r.val ws r.pos cf d) (cL E1 hr);obtain⟨T,hT⟩:∃T,T=pz ws i cf d:=⟨_,rfl⟩;have key:∀{α:Type} (q:Out α) (f:α→Nat→Out CF),fC r.val ws r.pos cf d=q.bind f→r.okB=true→T=q.bind fun a j=>(f a j).bind fun c j=>qG ws c j:=fun q f hb hr=>by rw[hT,E2 hr,hb];exact Out.bind_assoc _ _ _
 rw[←hT]at E1 E2 ⊢;clear hT;have c12:=kW (T:=T) 0 (V7 g gc gd A n c cf d i (bX cf++[])) [] h.u4 h.u4.le (cU E1) rfl n12;have q:∀{j:Nat} {R:List Sx.Row} {α:Type} [Inhabited α] {f:Nat} {V:α→Value} {u:Out α} (rest:List Value),j≤n→Xb u T→(∀W,eY W g A n c j ws→Calls prog f (.pointer (some ⟨g,0,none⟩)::rest).toArray W (cj g A n c V u W))→_:=fun {j R α _ f V u} rest hj hno hn=>kW (T:=T) 0 (V7 g gc gd A n c cf d j (bX cf++R)) rest h.u4 hj hno rfl hn;have sk:∀(k:Bs) {b:Bool},decide (r.val=k)=b→_:=fun k b hb W=>dR (.tmp 12) (.const (ae k)) r.val k b hb W;by_cases k0:r.val=gD
 ·rw[show DU r.val d=d by unfold DU;rw[k0];rfl]
  have E3:=fun hr=>cX (ji ws r.pos) (key (ji ws r.pos) _ (by unfold fC;rw[if_pos k0]) hr);have n27:=fun W (hL:eY W g A n c r.pos ws)=>xp hL;generalize ji ws r.pos=r2 at E3 n27;obtain⟨b,hb⟩:∃b,decide (r2.pos < n)=b:=⟨_,rfl⟩
  have CH:=Xy c12 fun(x:RP r n)=>Xy (sk gD (decide_eq_true k0)) (Xy (q (R:=[]) [] x.2 (cU (E3 x.1)) n27) (Xy (fun(y:RP r2 n)=>Xy (jX (cells:=[lx r2.val]) (size:=1) (B:=bytesOf 3) (by kernel_rfl) (by kernel_rfl) h.nc.1 gM.1)
   (Up h hb y.2 (cL (E3 x.1) y.1) fun e=>(show Su g gc gd A n c T d [] (zM g gc gd A n c r2.pos d 9 4 5 6 7 cf.aZ ((bX cf).set 0 Sx.au++[⟨3,.an [lx r2.val]⟩,⟨3,.own 1 (cf.aj.length+1) (cf.cp++[lx r2.val])⟩]))from
    ⟨_,_,9,4,5,6,7,e,y.2,rfl,rfl,rfl,rfl,congrArg some (by simp[CF.cp,lx]),rfl,rfl,rfl,rfl⟩))) fun(_:¬RP r2 n)=>trivial))
  refine nU h ((12,.aB (iq 0 g A n c r ae))::(27,.aB (iq 0 g A n c r2 lx))::(Tw true false false false false false++JV r2.pos b)) [] (by kernel_rfl) func131 rfl (bN rfl) ?_;cases b<;>exact XH (by kernel_rfl) CH
 have f0:=decide_eq_false k0;by_cases k1:r.val=bZ
 ·rw[show DU r.val d=d by unfold DU;rw[k1];rfl]
  have E3:=fun hr=>cX (dE ws r.pos) (key (dE ws r.pos) _ (by unfold fC;rw[if_neg k0,if_pos k1]) hr);have n35:=fun W (hL:eY W g A n c r.pos ws)=>tP hL;generalize dE ws r.pos=r2 at E3 n35;have E4:=fun hr h2=>cX (ji ws r2.pos) ((cL (E3 hr) h2).trans (Out.bind_assoc (ji ws r2.pos) _ _));have n43:=fun W (hL:eY W g A n c r2.pos ws)=>xp hL;generalize ji ws r2.pos=r3 at E4 n43;obtain⟨b,hb⟩:∃b,decide (r3.pos < n)=b:=⟨_,rfl⟩;obtain⟨u,hu⟩:∃u:Rt,u=⟨r2.val,(r3.val:Int)⟩:=⟨_,rfl⟩
  have CH:=Xy c12 fun(x:RP r n)=>Xy (sk gD f0) (Xy (sk bZ (decide_eq_true k1)) (Xy (q (R:=[]) [] x.2 (cU (E3 x.1)) n35) fun(y:RP r2 n)=>Xy (q (R:=[⟨29,.an r2.val.cells⟩]) [] y.2 (cU (E4 x.1 y.1)) n43) (Xy (fun(z:RP r3 n)=>Xy (jX (cells:=Rt.cells ⟨r2.val,(r3.val:Int)⟩) (size:=19) (B:=bytesOf 118) (by kernel_rfl) (by kernel_rfl) h.nc.2.1 gM.2.1)
   (Up h hb z.2 (cL (E4 x.1 y.1) z.1) fun e=>(show Su g gc gd A n c T d [] (zM g gc gd A n c r3.pos d 3 10 5 6 7 cf.aZ ((bX cf).set 1 Sx.au++[⟨29,.an r2.val.cells⟩,⟨118,.an (Rt.cells ⟨r2.val,(r3.val:Int)⟩)⟩,⟨118,.own 19 (cf.af.length+1) (cf.cr++Rt.cells ⟨r2.val,(r3.val:Int)⟩)⟩]))from
    ⟨_,_,3,10,5,6,7,e,z.2,rfl,rfl,rfl,rfl,rfl,congrArg some (by simp[CF.cr]),rfl,rfl,rfl⟩))) fun(_:¬RP r3 n)=>trivial)))
  refine nU h ((12,.aB (iq 0 g A n c r ae))::(35,.aB (iq 0 g A n c r2 mr))::(43,.aB (iq 0 g A n c r3 lx))::(Tw false true false false false false++JV r3.pos b)) [] (by kernel_rfl) func131 rfl (bN rfl) ?_;cases b<;>exact XH (by kernel_rfl) CH
 have f1:=decide_eq_false k1;by_cases k2:r.val=bc
 ·rw[show DU r.val d=d by unfold DU;rw[k2];rfl]
  have E3:=fun hr=>cX (fO ws r.pos) (key (fO ws r.pos) _ (by unfold fC;rw[if_neg k0,if_neg k1,if_pos k2]) hr);have n52:=fun W (hL:eY W g A n c r.pos ws)=>sM hL;generalize fO ws r.pos=r2 at E3 n52;have E4:=fun hr h2=>cX (bE 18446744073709551615 ws r2.pos) ((cL (E3 hr) h2).trans (Out.bind_assoc (bE 18446744073709551615 ws r2.pos) _ _));have m1:=fun W (hL:eY W g A n c r2.pos ws)=>mT 18446744073709551615 (by omega) hL;generalize bE 18446744073709551615 ws r2.pos=r3 at E4 m1;have E5:=fun hr h2 h3=>cX (bE 18446744073709551615 ws r3.pos) ((cL (E4 hr h2) h3).trans (Out.bind_assoc (bE 18446744073709551615 ws r3.pos) _ _));have m2:=fun W (hL:eY W g A n c r3.pos ws)=>mT 18446744073709551615 (by omega) hL;generalize bE 18446744073709551615 ws r3.pos=r4 at E5 m2;have E6:=fun hr h2 h3 h4=>cX (bE 18446744073709551615 ws r4.pos) ((cL (E5 hr h2 h3) h4).trans (Out.bind_assoc (bE 18446744073709551615 ws r4.pos) _ _));have m3:=fun W (hL:eY W g A n c r4.pos ws)=>mT 18446744073709551615 (by omega) hL;generalize bE 18446744073709551615 ws r4.pos=r5 at E6 m3;obtain⟨b,hb⟩:∃b,decide (r5.pos < n)=b:=⟨_,rfl⟩;have CH:=Xy c12 fun(x:RP r n)=>Xy (sk gD f0) (Xy (sk bZ f1) (Xy (sk bc (decide_eq_true k2)) (Xy (q (R:=[]) [] x.2 (cU (E3 x.1)) n52) fun(y:RP r2 n)=>Xy (q (R:=V6 r2.val 0 0 0) [Wz] y.2 (cU (E4 x.1 y.1)) m1) fun(z:RP r3 n)=>Xy (q (R:=V6 r2.val r3.val 0 0) [Wz] z.2 (cU (E5 x.1 y.1 z.1)) m2) fun(u:RP r4 n)=>Xy (q (R:=V6 r2.val r3.val r4.val 0) [Wz] u.2 (cU (E6 x.1 y.1 z.1 u.1)) m3) fun(v:RP r5 n)=>
   Xy (jX (cells:=Me.cells ⟨r2.val,r3.val,r4.val,r5.val⟩) (size:=4) (B:=bytesOf 122) (by kernel_rfl) (by kernel_rfl) h.nc.2.2.2.1 gM.2.2.2.1)
   (Up h hb v.2 (cL (E6 x.1 y.1 z.1 u.1) v.1) fun e=>(show Su g gc gd A n c T d [] (zM g gc gd A n c r5.pos d 3 4 5 11 7 cf.aZ ((bX cf).set 3 Sx.au++(V6 r2.val r3.val r4.val r5.val++[⟨122,.an (Me.cells ⟨r2.val,r3.val,r4.val,r5.val⟩)⟩,⟨122,.own 4 (cf.ag.length+1) (cf.cm++Me.cells ⟨r2.val,r3.val,r4.val,r5.val⟩)⟩])))from
    ⟨_,_,3,4,5,11,7,e,v.2,rfl,rfl,rfl,rfl,rfl,rfl,rfl,congrArg some (by simp[CF.cm]),rfl⟩)))))
  refine nU h ((12,.aB (iq 0 g A n c r ae))::(52,.aB (iq 0 g A n c r2 ae))::(Tw false false true false false false++JV r5.pos b)) [.times [[(68,.aB (iq 0 g A n c r3 kg))],[(68,.aB (iq 0 g A n c r4 kg))],[(68,.aB (iq 0 g A n c r5 kg))],[]]] (by kernel_rfl) func131 rfl (bN rfl) ?_;cases b<;>exact XH (by kernel_rfl) CH
 have f2:=decide_eq_false k2;by_cases k3:r.val=aT
 ·rw[show DU r.val d=d by unfold DU;rw[k3];rfl]
  have E3:=fun hr=>cX (fO ws r.pos) (key (fO ws r.pos) _ (by unfold fC;rw[if_neg k0,if_neg k1,if_neg k2,if_pos k3]) hr);have n84:=fun W (hL:eY W g A n c r.pos ws)=>sM hL;generalize fO ws r.pos=r2 at E3 n84;have E4:=fun hr h2=>cX (ji ws r2.pos) ((cL (E3 hr) h2).trans (Out.bind_assoc (ji ws r2.pos) _ _));have m1:=fun W (hL:eY W g A n c r2.pos ws)=>xp hL;generalize ji ws r2.pos=r3 at E4 m1;have E5:=fun hr h2 h3=>cX (ji ws r3.pos) ((cL (E4 hr h2) h3).trans (Out.bind_assoc (ji ws r3.pos) _ _));have m2:=fun W (hL:eY W g A n c r3.pos ws)=>xp hL;generalize ji ws r3.pos=r4 at E5 m2;obtain⟨b,hb⟩:∃b,decide (r4.pos < n)=b:=⟨_,rfl⟩;have CH:=Xy c12 fun(x:RP r n)=>Xy (sk gD f0) (Xy (sk bZ f1) (Xy (sk bc f2) (Xy (sk aT (decide_eq_true k3)) (Xy (q (R:=[]) [] x.2 (cU (E3 x.1)) n84) fun(y:RP r2 n)=>Xy (q (R:=[⟨124,.an (Mi.cells ⟨r2.val,0,0⟩)⟩]) [] y.2 (cU (E4 x.1 y.1)) m1) fun(z:RP r3 n)=>Xy (q (R:=[⟨124,.an (Mi.cells ⟨r2.val,(r3.val:Int),0⟩)⟩]) [] z.2 (cU (E5 x.1 y.1 z.1)) m2) fun(u:RP r4 n)=>
   Xy (jX (cells:=Mi.cells ⟨r2.val,(r3.val:Int),(r4.val:Int)⟩) (size:=3) (B:=bytesOf 124) (by kernel_rfl) (by kernel_rfl) h.nc.2.2.2.2 gM.2.2.2.2)
   (Up h hb u.2 (cL (E5 x.1 y.1 z.1) u.1) fun e=>(show Su g gc gd A n c T d [] (zM g gc gd A n c r4.pos d 3 4 5 6 10 cf.aZ ((bX cf).set 4 Sx.au++[⟨124,.an (Mi.cells ⟨r2.val,(r3.val:Int),(r4.val:Int)⟩)⟩,⟨124,.an (Mi.cells ⟨r2.val,(r3.val:Int),(r4.val:Int)⟩)⟩,⟨124,.own 3 (cf.ab.length+1) (cf.ci++Mi.cells ⟨r2.val,(r3.val:Int),(r4.val:Int)⟩)⟩]))from
    ⟨_,_,3,4,5,6,10,e,u.2,rfl,rfl,rfl,rfl,rfl,rfl,rfl,rfl,congrArg some (by simp[CF.ci])⟩))))))
  refine nU h ((12,.aB (iq 0 g A n c r ae))::(84,.aB (iq 0 g A n c r2 ae))::(87,.aB (iq 0 g A n c r3 lx))::(90,.aB (iq 0 g A n c r4 lx))::(Tw false false false true false false++JV r4.pos b)) [] (by kernel_rfl) func131 rfl (bN rfl) ?_;cases b<;>exact XH (by kernel_rfl) CH
 have f3:=decide_eq_false k3;by_cases k4:r.val=fT
 ·rw[show DU r.val d=d by unfold DU;rw[k4];rfl]
  have E3:=fun hr=>cX (od ws r.pos) (key (od ws r.pos) _ (by unfold fC;rw[if_neg k0,if_neg k1,if_neg k2,if_neg k3,if_pos k4]) hr);have n110:=fun W (hL:eY W g A n c r.pos ws)=>Qw hL;generalize od ws r.pos=r2 at E3 n110;obtain⟨b,hb⟩:∃b,decide (r2.pos < n)=b:=⟨_,rfl⟩;have CH:=Xy c12 fun(x:RP r n)=>Xy (sk gD f0) (Xy (sk bZ f1) (Xy (sk bc f2) (Xy (sk aT f3) (Xy (sk fT (decide_eq_true k4)) (Xy (q (R:=[]) [] x.2 (cU (E3 x.1)) n110) (Xy (fun(y:RP r2 n)=>
   Xy (jX (cells:=r2.val.cells) (size:=49) (B:=bytesOf 81) (by kernel_rfl) (by kernel_rfl) h.nc.2.2.1 gM.2.2.1)
   (Up h hb y.2 (cL (E3 x.1) y.1) fun e=>(show Su g gc gd A n c T d [] (zM g gc gd A n c r2.pos d 3 4 9 6 7 cf.aZ ((bX cf).set 2 Sx.au++[⟨81,.an r2.val.cells⟩,⟨81,.own 49 (cf.rules.length+1) (cf.cl++r2.val.cells)⟩]))from
    ⟨_,_,3,4,9,6,7,e,y.2,rfl,rfl,rfl,rfl,rfl,rfl,congrArg some (by simp[CF.cl]),rfl,rfl⟩))) fun(_:¬RP r2 n)=>trivial))))))
  refine nU h ((12,.aB (iq 0 g A n c r ae))::(110,.aB (iq 0 g A n c r2 RZ))::(Tw false false false false true false++JV r2.pos b)) [] (by kernel_rfl) func131 rfl (bN rfl) ?_;cases b<;>exact XH (by kernel_rfl) CH
 have f4:=decide_eq_false k4;by_cases k5:r.val=aO
 ·rw[show DU r.val d=d+1 by unfold DU;rw[if_pos k5]]
  have hdle:=h.V8;have E3:=fun hr=>cX (aY (decide (d=0)) 200 () r.pos) (key (aY (decide (d=0)) 200 () r.pos) _ (by unfold fC;rw[if_neg k0,if_neg k1,if_neg k2,if_neg k3,if_neg k4,if_pos k5]) hr);have hd0:XA (((d+1:Nat):Int)==1)=.bool (decide (d=0)):=by
   congr 1;by_cases h0:d=0
   ·rw[h0];rfl
   ·rw[decide_eq_false h0,beq_eq_false_iff_ne];omega
  generalize decide (d=0)=d0 at E3 hd0;have n127:=fun W (hL:eY W g A n c r.pos ws)=>oD d0 200 () hL;generalize aY d0 200 () r.pos=r1 at E3 n127;have E4:=fun hr h2=>cX (pS false ws r1.pos) ((cL (E3 hr) h2).trans (Out.bind_assoc (pS false ws r1.pos) _ _));have n131:=fun W (hL:eY W g A n c r1.pos ws)=>zL false hL;generalize pS false ws r1.pos=r2 at E4 n131;obtain⟨b,hb⟩:∃b,decide (r2.pos < n)=b:=⟨_,rfl⟩
  have CH:=Xy c12 fun(x:RP r n)=>Xy (sk gD f0) (Xy (sk bZ f1) (Xy (sk bc f2) (Xy (sk aT f3) (Xy (sk fT f4) (Xy (sk aO (decide_eq_true k5)) (Xy (show Xz .i64 (XF.wrap ((d:Int)+1))=.int .i64 ((d+1:Nat):Int)from iw (by rw[kC (by omega) (by omega)];rfl)) (Xy hd0
   (Xy (kW (T:=T) 0 (V7 g gc gd A n c cf (d+1) r.pos (bX cf++[])) [.bool d0,.int .i64 200] h.u4 x.2 (cU (E3 x.1)) rfl n127) fun(y:RP r1 n)=>Xy (kW (T:=T) 0 (V7 g gc gd A n c cf (d+1) r1.pos (bX cf++[])) [.bool false] h.u4 y.2 (cU (E4 x.1 y.1)) rfl n131) fun(z:RP r2 n)=>
   (Up h hb z.2 (cL (E4 x.1 y.1) z.1) fun e=>(show Su g gc gd A n c T (d+1) [] (zM g gc gd A n c r2.pos (d+1) 3 4 5 6 7 r2.val.1 (bX cf++[]))from⟨_,_,3,4,5,6,7,e,z.2,rfl,rfl,rfl,rfl,rfl,rfl,rfl,rfl,rfl⟩))))))))))
  refine nU h ((12,.aB (iq 0 g A n c r ae))::(120,.is (.int .i64 ((d+1:Nat):Int)))::(126,.is (.bool d0))::(127,.aB (iq 0 g A n c r1 (fun _=>.tuple #[])))::(131,.aB (iq 0 g A n c r2 ue))::(Tw false false false false false true++JV r2.pos b)) [] (by kernel_rfl) func131 rfl (bN rfl) ?_;cases b<;>exact XH (by kernel_rfl) CH
 ·rw[show DU r.val d=d by unfold DU;rw[if_neg k5]]
  have fin:r.okB=true→T=.no 200 r.pos:=fun hr=>by rw[E2 hr];unfold fC;rw[if_neg k0,if_neg k1,if_neg k2,if_neg k3,if_neg k4,if_neg k5];rfl
  have CH:=Xy c12 fun(x:RP r n)=>Sx.t4 (sk gD f0) (sk bZ f1) (sk bc f2) (sk aT f3) (Sx.t2 (sk fT f4) (sk aO (decide_eq_false k5)) (Xy (fun W (hW:ai (Dw g gc gd s) w W) (_:aw W g 154 (ee A n c r.pos))=>mN (b:=⟨w,Dw g gc gd s,pW T w⟩) (vs:=[.pointer (some ⟨g,0,none⟩),.int .i64 200,.int .i64 (r.pos:Int)]) (ps:=[(0,0)]) ((tY (.pointer (some ⟨g,0,none⟩)) 200 (r.pos:Int) W).mono fun _ _ ⟨ch,he,hf,hc⟩=>⟨ch,he,(show pW T w _ _ from⟨200,r.pos,fin x.1,hf.up hW.size⟩),hc⟩)) trivial));refine nU h ((12,.aB (iq 0 g A n c r ae))::(18,.sY)::Tw false false false false false false) [] (by kernel_rfl) func131 rfl (bN rfl) ?_;exact XH (by kernel_rfl) CH
open Go.RowKit Go.Lib Go.Sort
def sB(c:UInt8):Bool:=c==32||c==9
def wC(cm:Bool)(c:UInt8):Bool:=!sB c&&!(cm&&c==35)
def runN(p:UInt8→Bool)(s:Bs)(i:Nat):Nat:=i+((s.drop i).takeWhile p).length
theorem nH(p:UInt8→Bool)(s:Bs)(i:Nat):i≤runN p s i:=Nat.le_add_right _ _
theorem KZ(p:UInt8→Bool):∀l:Bs,(l.takeWhile p).length≤l.length
 | []=>by simp
 |c::l=>by
  rw[XG];split
  ·have:=KZ p l;simp;omega
  ·simp
theorem nG(p:UInt8→Bool)(s:Bs)(i:Nat)(hi:i≤s.length):runN p s i≤s.length:=by have:=KZ p (s.drop i);rw[XJ]at this;unfold runN;omega
theorem RT(p:UInt8→Bool):∀(l:Bs) (j:Nat),j < (l.takeWhile p).length→∃c,l[j]?=some c∧p c=true
 | [],j,h=>by simp at h
 |c::l,j,h=>by
  rw[XG]at h;split at h
  ·rename_i hc
   cases j with
   |zero=>exact⟨c,rfl,hc⟩
   |succ j=>exact RT p l j (by simpa using h)
  ·simp at h
theorem KY(p:UInt8→Bool):∀(l:Bs),(l.takeWhile p).length < l.length→∃c,l[(l.takeWhile p).length]?=some c∧p c=false
 | [],h=>by simp at h
 |c::l,h=>by
  rw[XG]at h ⊢;by_cases hc:p c=true
  ·rw[if_pos hc]at h ⊢
   have:=KY p l (by simpa using h);simpa using this
  ·rw[if_neg hc]
   exact⟨c,rfl,by simpa using hc⟩
theorem PA{p:UInt8→Bool}{s:Bs}{i j:Nat}(h1:i≤j)(h2:j < runN p s i):∃c,s[j]?=some c∧p c=true:=by obtain⟨c,h,hp⟩:=RT p (s.drop i) (j - i) (by unfold runN at h2; omega);rw[XW,show i+(j - i)=j by omega]at h;exact⟨c,h,hp⟩
theorem Cr{p:UInt8→Bool}{s:Bs}{i:Nat}(hi:i≤s.length)(h:runN p s i < s.length):∃c,s[runN p s i]?=some c∧p c=false:=by obtain⟨c,h1,hp⟩:=KY p (s.drop i) (by rw[XJ];unfold runN at h;omega);rw[XW]at h1;exact⟨c,h1,hp⟩
theorem Lw{p:UInt8→Bool}{s:Bs}{i:Nat}{c:UInt8}(h:s[i]?=some c)(hp:p c=true):i < runN p s i:=by
 have hl:=(XB.1 h).1;have e:s.drop i=c::s.drop (i+1):=by obtain⟨h1,rfl⟩:=XB.1 h;exact XD h1
 unfold runN;rw[e,XG,if_pos hp];simp
theorem uh(cm:Bool):∀(l:Bs),bB cm [] l=bB cm [] (l.drop (l.takeWhile sB).length)
 | []=>rfl
 |c::l=>by
  rw[XG];by_cases hc:sB c=true
  ·rw[if_pos hc,XR,Yi,←uh cm l]
   have h1:c=32∨c=9:=by unfold sB at hc;rw[Yp,beq_iff_eq,beq_iff_eq]at hc;exact hc
   have h2:c≠35:=by rcases h1 with rfl|rfl<;>decide
   conv=>lhs;unfold bB
   rw[if_neg (by simp[h2]),if_pos h1,if_pos rfl]
  ·rw[if_neg hc];rfl
theorem vF(cm:Bool):∀(l cur:Bs),cur≠[]→bB cm cur l=(cur++l.takeWhile (wC cm))::bB cm [] (l.drop (l.takeWhile (wC cm)).length)
 | [],cur,h=>by simp[bB,h]
 |c::l,cur,h=>by
  rw[XG];by_cases hc:wC cm c=true
  ·rw[if_pos hc,XR,Yi]
   have ih:=vF cm l (cur++[c]) (by simp);rw[XX]at ih;have hcc:=hc;unfold wC sB at hc;rw[XL,XN,XN,Yg,beq_eq_false_iff_ne,beq_eq_false_iff_ne,Yd,beq_eq_false_iff_ne]at hc
   conv=>lhs;unfold bB
   rw[if_neg (by rcases hc.2 with h|h<;>simp[h]),if_neg (by simp[hc.1.1,hc.1.2])];exact ih
  ·rw[if_neg hc]
   simp only[List.append_nil,List.length_nil,Yq];unfold bB;by_cases h35:cm=true∧c=35
   ·rw[if_pos h35,if_neg h,if_pos h35,if_pos rfl]
   ·rw[if_neg h35,if_neg h35]
    have h1:c=32∨c=9:=by
     have h2:sB c=true:=by
      cases hs:sB c with
      |true=>rfl
      |false=>
       exfalso;apply hc;unfold wC;rw[hs];cases cm with
       |false=>rfl
       |true=>have:c≠35:=fun h=>h35 ⟨rfl,h⟩;simp[this]
     unfold sB at h2;rw[Yp,beq_iff_eq,beq_iff_eq]at h2;exact h2
    rw[if_pos h1,if_pos h1,if_neg h,if_pos rfl]
def my(cm:Bool)(s:Bs)(i:Nat):List Bs:=bB cm [] (s.drop i)
theorem EF(cm:Bool)(s:Bs)(i:Nat):my cm s i=my cm s (runN sB s i):=by unfold my runN;rw[uh,Ys]
theorem Ix(cm:Bool)(s:Bs):my cm s s.length=[]:=by unfold my;rw[List.drop_length];rfl
theorem EG(s:Bs)(i:Nat)(h:s[i]?=some 35):my true s i=[]:=by
 unfold my;have e:s.drop i=35::s.drop (i+1):=by obtain⟨h1,h2⟩:=XB.1 h;rw[←h2];exact XD h1
 rw[e];unfold bB;rw[if_pos ⟨rfl,rfl⟩,if_pos rfl]
theorem EE(cm:Bool)(s:Bs)(i:Nat){c:UInt8}(h:s[i]?=some c)(hc:wC cm c=true):my cm s i=(s.take (runN (wC cm) s i)).drop i::my cm s (runN (wC cm) s i):=by
 unfold my;have e:s.drop i=c::s.drop (i+1):=by obtain⟨h1,h2⟩:=XB.1 h;rw[←h2];exact XD h1
 have e1:bB cm [] (c::s.drop (i+1))=bB cm [c] (s.drop (i+1)):=by
  have hcc:=hc;unfold wC sB at hcc;rw[XL,XN,XN,Yg,beq_eq_false_iff_ne,beq_eq_false_iff_ne,Yd,beq_eq_false_iff_ne]at hcc
  conv=>lhs;unfold bB
  rw[if_neg (by rcases hcc.2 with h|h<;>simp[h]),if_neg (by simp[hcc.1.1,hcc.1.2])];rfl
 have e2:(s.drop i).takeWhile (wC cm)=c::(s.drop (i+1)).takeWhile (wC cm):=by rw[e,XG,if_pos hc]
 have e3:(s.take (runN (wC cm) s i)).drop i=(s.drop i).takeWhile (wC cm):=by
  unfold runN;rw[Yr,show i+((s.drop i).takeWhile (wC cm)).length - i=((s.drop i).takeWhile (wC cm)).length by omega];generalize s.drop i=l;induction l with
  |nil=>rfl
  |cons a l ih=>
   rw[XG];split
   ·rw[XR,List.take_succ_cons,ih]
   ·rfl
 rw[e3,e2]
 conv=>lhs;rw[e,e1,vF cm _ _ (by simp)]
 unfold runN;rw[e2,XR,Ys];congr 3;omega
def oq(f:Nat→Nat)(k u:Nat):Nat→Nat:=dW (dW f (2*k) (u / 256)) (2*k+1) (u%256)
def iN(f:Nat→Nat):Nat→List Nat→(Nat→Nat)
 |_,[]=>f
 |k,u::l=>iN (oq f k u) (k+1) l
theorem vr:∀(l:List Nat) (f:Nat→Nat) (k j:Nat),iN f k l j=match l[j / 2 - k]? with
  |some u=>if k≤j / 2 then(if j%2=0 then u / 256 else u%256)else f j
  |none=>f j
 | [],f,k,j=>by simp[iN]
 |u::l,f,k,j=>by
  rw[iN,vr l];have hs:oq f k u j=if j / 2=k then(if j%2=0 then u / 256 else u%256)else f j:=by
   unfold oq dW;by_cases h1:j=2*k+1
   ·rw[if_pos h1,if_pos (by omega),if_neg (by omega)]
   ·rw[if_neg h1]
    by_cases h2:j=2*k
    ·rw[if_pos h2,if_pos (by omega),if_pos (by omega)]
    ·rw[if_neg h2,if_neg (by omega)]
  rw[hs];rcases Yn (j / 2) k with h|h|h
  ·rw[show j / 2 - (k+1)=0 by omega,show j / 2 - k=0 by omega]
   rw[if_neg (by omega:¬j / 2=k)];simp only[Ya];rw[if_neg (by omega:¬k≤j / 2)];split
   ·rw[if_neg (by omega)]
   ·rfl
  ·rw[if_pos h,show j / 2 - (k+1)=0 by omega,show j / 2 - k=0 by omega]
   simp only[Ya];rw[if_pos (by omega:k≤j / 2)];split
   ·rw[if_neg (by omega)]
   ·rfl
  ·rw[if_neg (by omega:¬j / 2=k),show j / 2 - k=(j / 2 - (k+1))+1 by omega,List.getElem?_cons_succ]
   split
   ·rw[if_pos (show k+1≤j / 2 by omega),if_pos (show k≤j / 2 by omega)]
   ·rfl
def vO(a b:List Nat):Nat→Nat:=iN (iN (fun _=>0) 0 a) (8 - b.length) b
def tu(l r:List UInt8)(fnd:Bool):(Nat→Nat)×Bool:=match ja l,ja r with
 |some a,some b=>if(fnd=false∧a.length≠8)∨8 < a.length+b.length then(fun _=>0,false)else(vO a b,true)
 |_,_=>(fun _=>0,false)
def qC(s:List UInt8):(Nat→Nat)×Bool:=tu (Lib.cut s [58,58]).1 (Lib.cut s [58,58]).2.1 (Lib.cut s [58,58]).2.2
theorem Pj(a b:List Nat)(h:a.length+b.length≤8)(j u:Nat)(hu:(a++X6 (8 - a.length - b.length) 0++b)[j / 2]?=some u):vO a b j=if j%2=0 then u / 256 else u%256:=by
 unfold vO;rw[vr,vr];by_cases h1:j / 2 < a.length
 ·rw[XX,X7 h1]at hu
  rw[Nat.sub_zero,hu];simp only[XI,if_true];split
  ·rw[if_neg (by omega)]
  ·rfl
 ·have ha:a[j / 2 - 0]?=none:=Yc (by omega)
  rw[ha];simp only;by_cases h2:j / 2 < 8 - b.length
  ·rw[XX,X4 (by omega),X7 (by simp;omega),List.getElem?_replicate]at hu
   split at hu
   ·cases hu
    split
    ·rw[if_neg (by omega)];simp
    ·simp
   ·cases hu
  ·rw[X4 (by simp;omega)]at hu
   have e:j / 2 - (a++X6 (8 - a.length - b.length) 0).length=j / 2 - (8 - b.length):=by simp; omega
   rw[e]at hu;rw[hu];simp only;rw[if_pos (by omega)]
theorem AV:∀(s:List UInt8) (n m:Nat) (out l:List Nat),ow s n m out=some l→n < 16^m→(∀u∈out,u < 65536)→(∀u∈l,u < 65536)∧l.length≤8∨8 < out.length
 | [],n,m,out,l,h,hn,ho=>by
  rw[ow]at h;split at h
  ·cases h
  ·rename_i hc
   cases h;by_cases h8:8 < out.length
   ·exact .inr h8
   ·have:(16:Nat)^m≤16^4:=Yh (by omega) (by omega)
    refine .inl ⟨fun u hu=>?_,by simp;omega⟩;rcases Yo.1 hu with hu|hu
    ·exact ho u hu
    ·rw[Yj.1 hu];omega
 |c::s,n,m,out,l,h,hn,ho=>by
  rw[ow]at h;split at h
  ·split at h
   ·cases h
   ·rename_i hc
    by_cases h8:8 < out.length
    ·exact .inr h8
    ·have:(16:Nat)^m≤16^4:=Yh (by omega) (by omega)
     rcases AV s 0 0 (out++[n]) l h (by decide) (fun u hu=>by
      rcases Yo.1 hu with hu|hu
      ·exact ho u hu
      ·rw[Yj.1 hu];omega)with h' | h'
     ·exact .inl h'
     ·simp at h';omega
  ·split at h
   ·cases h
   ·refine AV s _ _ out l h ?_ ho
    have:gJ c < 16:=by
     have:=c.toNat_lt;unfold gJ;split
     ·omega
     ·split<;>omega
    rw[Nat.pow_succ];omega
theorem pc{s:List UInt8}{l:List Nat}(h:ja s=some l):(∀u∈l,u < 65536)∧l.length≤8:=by
 unfold ja at h;split at h
 ·cases h;simp
 ·rcases AV s 0 0 [] l h (by decide) (by simp)with h|h
  ·exact h
  ·simp at h
theorem ql:ja []=some []:=rfl
theorem Lj(n:Nat):(qC (cK (aP n))).2=true∧∀j,j < 16→(qC (cK (aP n))).1 j=ah n j:=by
 have hl:=eQ n;obtain⟨h1,h2,h3⟩:=xS (aP n) hl;have main:∀(a b:List Nat),a++X6 (8 - a.length - b.length) 0++b=aP n→a.length+b.length≤8→∀j,j < 16→vO a b j=ah n j:=by
  intro a b hab hlen j hj;have hg:=pC n (j / 2) (by omega);rw[←hab]at hg;rw[Pj a b hlen j _ hg];have hb:=ba n (2*(j / 2)+1);split
  ·rename_i he
   rw[show eE n (j / 2) / 256=ah n (2*(j / 2))by unfold eE; omega,show 2*(j / 2)=j by omega]
  ·rename_i he
   rw[show eE n (j / 2)%256=ah n (2*(j / 2)+1)by unfold eE; omega,show 2*(j / 2)+1=j by omega]
 have hb:∀u∈aP n,u < 65536:=fun u hu=>gT hu;unfold qC;rw[Af];by_cases hg:(fK (zs (aP n))).1=(fK (zs (aP n))).2
 ·rw[if_pos hg]
  unfold tu;simp only[rm (aP n) hb (by rw[hl];omega),ql];rw[if_neg (by rw[hl];simp)];exact⟨rfl,main _ _ (by rw[hl];simp) (by rw[hl];simp)⟩
 ·rw[if_neg hg]
  unfold tu;simp only[rm ((aP n).take (fK (zs (aP n))).1) (fun u hu=>hb u (List.mem_of_mem_take hu)) (by rw[XZ,hl];omega),rm ((aP n).drop (fK (zs (aP n))).2) (fun u hu=>hb u (List.mem_of_mem_drop hu)) (by rw[XJ,hl];omega)];have hlen:((aP n).take (fK (zs (aP n))).1).length+((aP n).drop (fK (zs (aP n))).2).length≤8:=by rw[XZ,XJ,hl];omega
  rw[if_neg (by simp only[Bool.true_eq_false,false_and,false_or];omega)];exact⟨rfl,main _ _ h3 hlen⟩
set_option maxRecDepth 100000
open Go.RowKit Go.Lib Go.Sort _root_.Go.Proofs.Tryz
set_option maxRecDepth 100000
structure yv where
 i:Nat
 k:Nat
 n:Nat
 b:Bool
 f:Nat→Nat
def eS(s:List UInt8)(q:yv):yv:=match s[q.i]? with
 |none=>⟨q.i+1,q.k+1,0,false,dW q.f q.k q.n⟩
 |some c=>if c=46 then⟨q.i+1,q.k+1,0,false,dW q.f q.k q.n⟩else⟨q.i+1,q.k,10*q.n+(c.toNat - 48),true,q.f⟩
def zV(s:List UInt8)(T:(Nat→Nat)×Bool)(q:yv):Prop:=q.n≤2567∧q.k≤4∧((q.i≤s.length∧dV (s.drop q.i) q.k q.n q.b q.f=T)∨(q.i=s.length+1∧T=(q.f,decide (q.k=4))))
def nV(s:List UInt8)(q:yv):List (Nat×Sx.SV):=[(0,.val (.string ⟨s.toArray⟩)),(2,.ptr 0 0),(4,.ptr 1 0),(5,.val (.int .i64 (q.k:Int))),(6,.val (.int .i64 (q.n:Int))),(7,.val (.bool q.b)),(8,.val (.int .i64 (q.i:Int)))]
def OY:List Value:=ax false fun _=>0
def kn(q:yv):List Sx.Row:=[⟨24,.an OY⟩,⟨24,.an (ax false q.f)⟩]
def uL(T:(Nat→Nat)×Bool):Value:=.tuple #[.agg (ax false T.1).toArray,.bool T.2]
def FV(x:(Nat→Nat)×Nat):List (Nat×Sx.SV):=[(2,.ptr 0 0),(4,.ptr 1 0),(5,.val (.int .i64 (x.2:Int)))]
def FU(x:(Nat→Nat)×Nat):List Sx.Row:=[⟨24,.an OY⟩,⟨24,.an (ax false x.1)⟩]
theorem ER(L:List Value)(off:Nat)(v:Value)(h:off < L.length):L.take off++([v]++L.drop (off+1))=L.set off v:=by rw[List.set_eq_take_append_cons_drop,if_pos h];rfl
theorem En(v:Bool)(f:Nat→Nat)(k n:Nat)(hk:k < 16):(ax v f).take (1+k)++([.int .u8 (n:Int)]++(ax v f).drop (1+k+1))=ax v (dW f k n):=by rw[ER _ _ _ (by rw[aE];omega)];exact s6 v f (dW f k n) k n (by simp[dW]) (fun j _ h=>by simp[dW,h])
theorem J1(s:List UInt8)(i k n:Nat)(b:Bool)(f:Nat→Nat)(hi:i≤s.length):∃c:UInt8,(decide (i=s.length)=false→s[i]?=some c)∧
  dV (s.drop i) k n b f=(match decide (i=s.length)||decide (c=46)with
   |true=>match !b||(decide (255 < n)||decide (3 < k))with
    |true=>(f,false)
    |false=>match decide (i=s.length)with
     |true=>(dW f k n,decide (k+1=4))
     |false=>dV (s.drop (i+1)) (k+1) 0 false (dW f k n)
   |false=>match decide (c.toNat < 48)||(decide (57 < c.toNat)||decide (255 < n))with
    |true=>(f,false)
    |false=>dV (s.drop (i+1)) k (10*n+(c.toNat - 48)) true f) ∧
  eS s ⟨i,k,n,b,f⟩=(match decide (i=s.length)||decide (c=46)with
   |true=>⟨i+1,k+1,0,false,dW f k n⟩
   |false=>⟨i+1,k,10*n+(c.toNat - 48),true,f⟩):=by
 have b1:(!b||(decide (255 < n)||decide (3 < k)))=decide (b=false∨255 < n∨3 < k):=by cases b<;>by_cases h1:255 < n<;>by_cases h2:3 < k<;>simp[h1,h2]
 rcases Nat.lt_or_eq_of_le hi with hlt|he
 ·have hc:=XE hlt
  refine⟨s[i],fun _=>hc,?_,?_⟩
  ·rw[XD hlt,dV,decide_eq_false (by omega),Yu,b1]
   by_cases h46:s[i]=46
   ·rw[if_pos h46,decide_eq_true h46]
    by_cases h:b=false∨255 < n∨3 < k
    ·rw[if_pos h,decide_eq_true h]
    ·rw[if_neg h,decide_eq_false h]
   ·rw[if_neg h46,decide_eq_false h46]
    by_cases h:s[i].toNat < 48∨57 < s[i].toNat∨255 < n
    ·rw[if_pos h,show(decide (s[i].toNat < 48)||(decide (57 < s[i].toNat)||decide (255 < n)))=true by simpa using h]
    ·rw[if_neg h,show(decide (s[i].toNat < 48)||(decide (57 < s[i].toNat)||decide (255 < n)))=false by simpa using h]
  ·unfold eS
   dsimp only;rw[hc,decide_eq_false (by omega),Yu];by_cases h46:s[i]=46
   ·rw[decide_eq_true h46];exact if_pos h46
   ·rw[decide_eq_false h46];exact if_neg h46
 ·refine⟨0,fun h=>absurd he (of_decide_eq_false h),?_,?_⟩
  ·rw[XS (by omega),dV,decide_eq_true he,Yw,b1]
   by_cases h:b=false∨255 < n∨3 < k
   ·rw[if_pos h,decide_eq_true h]
   ·rw[if_neg h,decide_eq_false h]
  ·unfold eS
   dsimp only;rw[Yc (by omega),decide_eq_true he,Yw]
theorem FT(s:List UInt8)(T:(Nat→Nat)×Bool)(w:World)(hs:s.length≤100000000)(q:yv)(hq:zV s T q):∃H' L',Sx.ex prog 69 w (Sx.a7 f45 0) H' L' ⟨nV s q,kn q⟩
  (Sx.dP (zV s T) (nV s) kn (eS s) (fun q=>s.length+2 - q.i) (fun(x:(Nat→Nat)×Nat)=>T=(x.1,decide (x.2=4))) FV FU (fun q=>(q.f,q.k)) (Sx.ej (Sx.a7 f45 0) - 1) (Sx.atEnd prog f45 (fun u=>u=uL T) .ret) q):=by
 obtain⟨i,k,n,b,f⟩:=q;obtain⟨hn,hk4,hk⟩:=hq;dsimp only at hn hk4 hk;have iB:=gz s;by_cases hi:i≤s.length
 ·have hk:dV (s.drop i) k n b f=T:=by
   rcases hk with hk|hk
   ·exact hk.2
   ·omega
  have c12:=bT ((i:Int)≤(s.length:Int)) (by omega);have c14:=mW (i:=i) (by omega);obtain⟨c,hc,hT,hnx⟩:=J1 s i k n b f hi;rw[hk]at hT;have c22:=fun h=>kE s i c (hc h);have hc255:=KU c;have lb:∀(p q:Prop) [Decidable p] [Decidable q],(p↔q)→XA (decide p)=.bool (decide q):=fun p q _ _ h=>by rw[decide_eq_decide.2 h]
  have c18:XA ((i:Int)==(s.length:Int))=.bool (decide (i=s.length)):=by congr 1;rw[XT,beq_iff_eq,decide_eq_true_iff];omega
  have c23:XA ((c.toNat:Int)==46)=.bool (decide (c=46)):=by congr 1;rw[XT,beq_iff_eq,decide_eq_true_iff,←UInt8.toNat_inj];show _↔c.toNat=46;omega
  have qz:=lb ((n:Int) > 255) (255 < n) (by omega);have c33:=lb ((k:Int) > 3) (3 < k) (by omega);have c46:=lb ((c.toNat:Int) < 48) (c.toNat < 48) (by omega);have c51:=lb ((c.toNat:Int) > 57) (57 < c.toNat) (by omega);have qy:=mW (i:=k) (by omega);have c59:Xz .i64 (XF.wrap (10*(n:Int)))=.int .i64 ((10*n:Nat):Int):=iw (by rw[kC (by omega) (by omega)];omega);have c40:decide (255 < n)=true∨decide (3 < k)=true∨(Xz .u8 (X2.wrap (n:Int))=.int .u8 (n:Int)∧((0:Int)≤(k:Int)∧(k:Int) < 16)∧(0+1+((k:Int).toNat*1)+1≤(ax false f).length∧(ax false f).take (0+1+((k:Int).toNat*1))++([.int .u8 (n:Int)]++(ax false f).drop (0+1+((k:Int).toNat*1)+1))=ax false (dW f k n))):=by
   by_cases h1:255 < n
   ·exact .inl (decide_eq_true h1)
   by_cases h2:3 < k
   ·exact .inr (.inl (decide_eq_true h2))
   refine .inr (.inr ⟨iu (Ui (by omega) (by omega)),by omega,?_⟩);rw[XO,X3,XY];exact⟨by rw[aE];omega,En false f k n (by omega)⟩
  have c63:decide (c.toNat < 48)=true∨decide (57 < c.toNat)=true∨decide (255 < n)=true∨(Xz .u8 (X2.wrap ((c.toNat:Int) - 48))=.int .u8 ((c.toNat - 48:Nat):Int)∧Xz .i64 (XF.wrap ((c.toNat - 48:Nat):Int))=.int .i64 ((c.toNat - 48:Nat):Int)∧Xz .i64 (XF.wrap (((10*n:Nat):Int)+((c.toNat - 48:Nat):Int)))=.int .i64 ((10*n+(c.toNat - 48):Nat):Int)∧10*n+(c.toNat - 48)≤2567):=by
   by_cases h1:c.toNat < 48
   ·exact .inl (decide_eq_true h1)
   by_cases h2:57 < c.toNat
   ·exact .inr (.inl (decide_eq_true h2))
   by_cases h3:255 < n
   ·exact .inr (.inr (.inl (decide_eq_true h3)))
   exact .inr (.inr (.inr ⟨iu (by rw[Ui (by omega) (by omega)];omega),iw (kC (by omega) (by omega)),iw (by rw[kC (by omega) (by omega)];omega),by omega⟩))
  have hk3:decide (3 < k)=true∨k+1≤4:=by
   by_cases h2:3 < k
   ·exact .inl (decide_eq_true h2)
   ·exact .inr (by omega)
  have him:s.length+2 - (i+1) < s.length+2 - i:=by omega
  have hie:decide (i=s.length)=false→i+1≤s.length:=fun h=>by have:=of_decide_eq_false h;omega
  have hie2:decide (i=s.length)=true→i+1=s.length+1:=fun h=>by have:=of_decide_eq_true h;omega
  generalize decide (i=s.length)=z at*;generalize decide (c=46)=b46 at*;generalize decide (255 < n)=n2 at*;generalize decide (3 < k)=k3 at*;generalize decide (c.toNat < 48)=l1 at*;generalize decide (57 < c.toNat)=l2 at*;have bad:T=(f,false)→X0 #[.agg (ax false f).toArray,.bool false]=uL T:=fun h=>by rw[h];rfl
  have c22':(z||b46)=false→z=false:=fun h=>by cases z;rfl;cases h
  have nA:(z||b46)=true→(!b||(n2||k3))=false→zV s T (eS s ⟨i,k,n,b,f⟩)∧s.length+2 - (eS s ⟨i,k,n,b,f⟩).i < s.length+2 - i∧nV s ⟨i+1,k+1,0,false,dW f k n⟩=nV s (eS s ⟨i,k,n,b,f⟩)∧kn ⟨i+1,k+1,0,false,dW f k n⟩=kn (eS s ⟨i,k,n,b,f⟩):=fun h1 h2=>by
   rw[h1,h2]at hT;rw[h1]at hnx;rw[hnx];have h3:k+1≤4:=hk3.resolve_left (by intro h;rw[h]at h2;cases b<;>cases n2<;>cases h2);refine⟨⟨XI _,h3,?_⟩,him,rfl,rfl⟩;cases z with
   |true=>exact .inr ⟨hie2 rfl,hT⟩
   |false=>exact .inl ⟨hie rfl,hT.symm⟩
  have nB:(z||b46)=false→(l1||(l2||n2))=false→zV s T (eS s ⟨i,k,n,b,f⟩)∧s.length+2 - (eS s ⟨i,k,n,b,f⟩).i < s.length+2 - i∧nV s ⟨i+1,k,10*n+(c.toNat - 48),true,f⟩=nV s (eS s ⟨i,k,n,b,f⟩)∧kn ⟨i+1,k,10*n+(c.toNat - 48),true,f⟩=kn (eS s ⟨i,k,n,b,f⟩):=fun h1 h2=>by
   rw[h1,h2]at hT;rw[h1]at hnx;rw[hnx];refine⟨⟨?_,hk4,.inl ⟨hie (c22' h1),hT.symm⟩⟩,him,rfl,rfl⟩;rcases c63 with h|h|h|h
   ·rw[h]at h2;cases h2
   ·rw[h]at h2;cases l1<;>cases h2
   ·rw[h]at h2;cases l1<;>cases l2<;>cases h2
   ·exact h.2.2.2
  have gA:=fun(h:(!b||(n2||k3))=false)=>(c40.resolve_left (by intro e;rw[e]at h;cases b<;>cases h)).resolve_left (by intro e;rw[e]at h;cases b<;>cases n2<;>cases h);have gB:=fun(h:(l1||(l2||n2))=false)=>((c63.resolve_left (by intro e;rw[e]at h;cases h)).resolve_left (by intro e;rw[e]at h;cases l1<;>cases h)).resolve_left (by intro e;rw[e]at h;cases l1<;>cases l2<;>cases h)
  have CH:=Sx.t4 iB c12 iB c18 (bA.mk (b:=z) c22 (bA.mk (b:=z) (fun _=>c23) (jZ.mk (b:=z||b46) (fun h=>bA.mk (b:=!b) (fun _=>qz) (bA.mk (b:=!b||n2) (fun _=>c33) (jZ.mk (b:=!b||(n2||k3)) (fun e=>bad (by rw[h,e]at hT;exact hT)) (fun e=>Xy (gA e).1 (Xy (gA e).2.1 (Xy (gA e).2.2 (Sx.t2 qy c14 (nA h e))))))))
   (fun h=>Sx.t2 (c22 (c22' h)) c46 (bA.mk (b:=l1) (fun _=>c22 (c22' h)) (bA.mk (b:=l1) (fun _=>c51) (bA.mk (b:=l1||l2) (fun _=>qz) (jZ.mk (b:=l1||(l2||n2)) (fun e=>bad (by rw[h,e]at hT;exact hT)) (fun e=>Xy c59 (Xy (c22 (c22' h)) (Xy (gB e).1 (Xy (gB e).2.1 (Xy (gB e).2.2.1 (Xy c14 (nB h e)))))))))))))))
  refine⟨[(11,.is (.int .i64 (s.length:Int))),ao 12 true,(17,.is (.int .i64 (s.length:Int))),ao 18 z,(22,.bin (u8 c)),ao 23 b46,ao 29 n2,ao 33 k3,(38,.is (.int .u8 (n:Int))),(40,.ix),(100040,.st (ax false (dW f k n))),cO 42 (k+1),cO 14 (i+1),(45,.bin (u8 c)),ao 46 l1,(50,.bin (u8 c)),ao 51 l2,ao 55 n2,cO 59 (10*n),(62,.bin (u8 c)),(63,.is (.int .u8 ((c.toNat - 48:Nat):Int))),cO 64 (c.toNat - 48),(65,.is (.int .i64 ((10*n+(c.toNat - 48):Nat):Int)))],[],?_⟩;clear nA nB gA gB bad c40 c63 hT hnx c22 c22' c23 qz c33 c46 c51 hk3 hie hie2 hc;cases z<;>cases b46<;>cases b<;>cases n2<;>cases k3<;>cases l1<;>cases l2<;>exact XH (by kernel_rfl) CH
 ·have c12:=bF ((i:Int)≤(s.length:Int)) (by omega)
  have h0:T=(f,decide (k=4)):=by
   rcases hk with hk|hk
   ·exact absurd hk.1 hi
   ·exact hk.2
  refine⟨[(11,.is (.int .i64 (s.length:Int))),ao 12 false],[],?_⟩;exact XH (by kernel_rfl) (Sx.t4 iB c12 h0 (@rfl _ (FV (f,k))) (@rfl _ (FU (f,k))))
theorem Bp(s:List UInt8)(hs:s.length≤100000000)(w:World):Calls prog 45 #[.string ⟨s.toArray⟩] w (Rn w (uL (dV s 0 0 false fun _=>0))):=by
 have hT:dV (s.drop 0) 0 0 false (fun _=>0)=dV s 0 0 false (fun _=>0):=rfl;generalize dV s 0 0 false (fun _=>0)=T at*;have h0:zV s T ⟨0,0,0,false,fun _=>0⟩:=⟨XI _,XI _,.inl ⟨XI _,hT⟩⟩;have e1:nV s ⟨0,0,0,false,fun _=>0⟩=nV s ⟨0,0,0,false,fun _=>0⟩∧kn ⟨0,0,0,false,fun _=>0⟩=kn ⟨0,0,0,false,fun _=>0⟩:=⟨rfl,rfl⟩;have iZ:=FT s T w hs;have c68:∀x:(Nat→Nat)×Nat,XA ((x.2:Int)==4)=.bool (decide (x.2=4)):=fun x=>bz (by rw[XT];simp;omega);have z5:∀x:(Nat→Nat)×Nat,T=(x.1,decide (x.2=4))→X0 #[.agg (ax false x.1).toArray,.bool ((x.2:Int)==4)]=uL T:=fun x hx=>by have:=c68 x;injection this with this;rw[hx,this];rfl
 refine Sx.av (args:=[.string ⟨s.toArray⟩]) [] [.mk yv ⟨0,0,0,false,fun _=>0⟩ (zV s T) (nV s) kn (eS s) (fun q=>s.length+2 - q.i) ((Nat→Nat)×Nat) (fun(x:(Nat→Nat)×Nat)=>T=(x.1,decide (x.2=4))) FV FU (fun q=>(q.f,q.k))] (by kernel_rfl) func45 rfl (bN rfl) ?_;exact XH (by kernel_rfl) (Sx.t2 h0 e1 (Xy iZ (fun(x:(Nat→Nat)×Nat) (hx4:T=(x.1,decide (x.2=4)))=>z5 x hx4)))
set_option maxRecDepth 100000
open Go.RowKit Go.Lib Go.Sort _root_.Go.Proofs.Tryz
set_option maxRecDepth 100000
theorem Bu(l:List UInt8)(a b:Nat):(⟨l.toArray⟩:ByteArray).extract a b=⟨((l.take b).drop a).toArray⟩:=by apply ByteArray.ext;simp[List.extract_eq_take_drop,Yr]
theorem vN(s:List UInt8)(hi:Nat)(h2:hi≤s.length)(W:World):(XP 9 (.string ⟨s.toArray⟩) none (some (.int .i64 hi)) none).run prog W=.ok (.string ⟨(s.take hi).toArray⟩) W:=by
 have hs:(⟨s.toArray⟩:ByteArray).size=s.length:=by simp[ByteArray.size]
 have:=Bu s 0 hi;simp only[Yq]at this;rw[←this];simp[XP,run_underlying underlying9,Yv,Yk,Yl,asIntOf,hs,h2]
theorem q7(s:List UInt8)(lo:Nat)(h2:lo≤s.length)(W:World):(XP 9 (.string ⟨s.toArray⟩) (some (.int .i64 lo)) none none).run prog W=.ok (.string ⟨(s.drop lo).toArray⟩) W:=by
 have hs:(⟨s.toArray⟩:ByteArray).size=s.length:=by simp[ByteArray.size]
 have:=Bu s lo s.length;rw[List.take_length]at this;rw[←this];simp[XP,run_underlying underlying9,Yv,Yk,Yl,asIntOf,hs,h2]
theorem qk(s:List UInt8)(j:Nat):Lib.occAt s [58,58] j=true↔s[j]?=some 58∧s[j+1]?=some 58:=by
 unfold Lib.occAt;rw[List.isPrefixOf_iff_prefix];constructor
 ·rintro⟨t,ht⟩
  have h0:(s.drop j)[0]?=some 58:=by rw[←ht];rfl
  have h1:(s.drop j)[1]?=some 58:=by rw[←ht];rfl
  rw[XW]at h0 h1;exact⟨h0,h1⟩
 ·rintro⟨h0,h1⟩
  obtain⟨l0,e0⟩:=XB.1 h0;obtain⟨l1,e1⟩:=XB.1 h1;exact⟨s.drop (j+2),by rw[XD l0,e0,XD l1,e1];rfl⟩
def dd(s:List UInt8):Int:=Lib.index s [58,58]
theorem Re(s:List UInt8)(h:∀j,j+1 < s.length→Lib.occAt s [58,58] j=false):dd s = -1:=by
 rcases Lib.index_spec s [58,58]with⟨h1,_⟩ | ⟨i,h1,_,h3,_⟩
 ·exact h1
 ·have h4:=(qk s i).1 h3
  have:=(XB.1 h4.2).1;rw[h i this]at h3;cases h3
theorem Rd(s:List UInt8)(i:Nat)(h:∀j,j < i→Lib.occAt s [58,58] j=false)(h2:Lib.occAt s [58,58] i=true):dd s=i:=by
 rcases Lib.index_spec s [58,58]with⟨_,h1⟩ | ⟨k,h1,_,h3,h4⟩
 ·have h5:=(qk s i).1 h2
  have:=(XB.1 h5.2).1;rw[h1 i (by omega)]at h2;cases h2
 ·unfold dd
  rw[h1];rcases Yn k i with hk|hk|hk
  ·rw[h k hk]at h3;cases h3
  ·rw[hk]
  ·rw[h4 i hk]at h2;cases h2
def VT(v:Bool)(f:Nat→Nat):Sx.Row:=⟨24,.an (ax v f)⟩
def TI(s:List UInt8)(k:Nat×Int):Prop:=k.1≤s.length∧((k.2 = -1∧∀j,j < k.1→Lib.occAt s [58,58] j=false)∨(k.2=dd s∧0≤dd s))
def pH(s:List UInt8)(k:Nat×Int):Nat×Int:=if s[k.1]?=some 58∧s[k.1+1]?=some 58 then(k.1+1,(k.1:Int))else(k.1+1,k.2)
def yd(s:List UInt8)(k:Nat×Int):List (Nat×Sx.SV):=[(0,.val (.string ⟨s.toArray⟩)),(2,.ptr 0 0),(4,.ptr 1 0),(5,.val (.int .i64 k.2)),(6,.val (.int .i64 (k.1:Int)))]
def jM:List Sx.Row:=[⟨24,.an OY⟩,VT true fun _=>0]
def DT(s:List UInt8):List (Nat×Sx.SV):=[(0,.val (.string ⟨s.toArray⟩)),(2,.ptr 0 0),(4,.ptr 1 0),(5,.val (.int .i64 (dd s)))]
def yD(T:(Nat→Nat)×Bool):Value:=.tuple #[.agg (ax true T.1).toArray,.bool T.2]
theorem Ph(s:List UInt8)(T:Value)(w:World)(hs:s.length≤100000000)(k:Nat×Int)(hk:TI s k):∃H' L',Sx.ex prog 144 w (Sx.a7 f46 0) H' L' ⟨yd s k,jM⟩
  (Sx.dP (TI s) (yd s) (fun _=>jM) (pH s) (fun q=>s.length+2 - q.1) (fun(_:Unit)=>True) (fun _=>DT s) (fun _=>jM) (fun _=>()) (Sx.ej (Sx.a7 f46 0) - 1) (Sx.atEnd prog f46 (fun u=>u=T) .ret) k):=by
 obtain⟨i,t⟩:=k;obtain⟨hi,hk⟩:=hk;simp only at hi hk;have c18:=mW (i:=i) (by omega);have c20:=gz s;have c27:=c18;have vz:=c18;have out:t=dd s→DT s=DT s:=fun _=>rfl;have h0:True:=trivial;by_cases h1:i+1 < s.length
 ·have c21:=bT (((i+1:Nat):Int) < (s.length:Int)) (by omega)
  rcases hk with⟨rfl,hno⟩ | ⟨rfl,hpos⟩
  ·obtain⟨c,hc⟩:∃c,s[i]?=some c:=⟨_,XE (by omega)⟩
   obtain⟨d,hd⟩:∃d,s[i+1]?=some d:=⟨_,XE h1⟩;have c30:=kE s i c hc;have yO:=kE s (i+1) d hd;have hlt:s.length+2 - (i+1) < s.length+2 - i:=by omega
   by_cases hc58:c=58
   ·have c31:XA ((c.toNat:Int)==58)=.bool true:=rY (by rw[hc58];rfl)
    by_cases hd58:d=58
    ·have c37:XA ((d.toNat:Int)==58)=.bool true:=rY (by rw[hd58];rfl)
     have hnx:pH s (i, -1)=(i+1,(i:Int)):=by unfold pH; rw[if_pos ⟨by rw[←hc58]; exact hc,by rw[←hd58]; exact hd⟩]
     have hdd:dd s=i:=Rd s i hno ((qk s i).2 ⟨by rw[←hc58];exact hc,by rw[←hd58];exact hd⟩);have h0:TI s (i+1,(i:Int)):=⟨by show i+1≤_;omega,.inr ⟨hdd.symm,by omega⟩⟩;have h1:=hlt;have h2:yd s (i+1,(i:Int))=yd s (i+1,(i:Int)):=rfl;have z3:jM=jM:=rfl;refine⟨[cO 18 (i+1),(20,.is (.int .i64 (s.length:Int))),ao 21 true,(30,.bin (u8 c)),ao 31 true,cO 35 (i+1),(36,.bin (u8 d)),ao 37 true,cO 27 (i+1)],[],?_⟩;rw[ik hnx];exact XH (by kernel_rfl) (Sx.t8 c18 c20 c21 c30 c31 vz yO c37 (Sx.t4 c27 h0 h1 h2 z3))
    ·have c37:XA ((d.toNat:Int)==58)=.bool false:=qQ (by
      have:d.toNat≠58:=fun h=>hd58 (UInt8.toNat_inj.1 (by rw[h];rfl));simp;omega)
     have hnx:pH s (i, -1)=(i+1, -1):=by unfold pH; rw[if_neg (by rintro⟨_,h⟩; simp only at h; rw[hd]at h; exact hd58 (XM.inj h))]
     have h0:TI s (i+1, -1):=⟨by show i+1≤_; omega,.inl ⟨rfl,fun j hj=>by
      by_cases hji:j=i
      ·rw[hji,Ym];intro h;have:=((qk s i).1 h).2;rw[hd]at this;exact hd58 (XM.inj this)
      ·exact hno j (by simp only at hj;omega)⟩⟩
     have h1:=hlt;have h2:yd s (i+1, -1)=yd s (i+1, -1):=rfl;have z3:jM=jM:=rfl;refine⟨[cO 18 (i+1),(20,.is (.int .i64 (s.length:Int))),ao 21 true,(30,.bin (u8 c)),ao 31 true,cO 35 (i+1),(36,.bin (u8 d)),ao 37 false,cO 27 (i+1)],[],?_⟩;rw[ik hnx];exact XH (by kernel_rfl) (Sx.t8 c18 c20 c21 c30 c31 vz yO c37 (Sx.t4 c27 h0 h1 h2 z3))
   ·have c31:XA ((c.toNat:Int)==58)=.bool false:=qQ (by
     have:c.toNat≠58:=fun h=>hc58 (UInt8.toNat_inj.1 (by rw[h];rfl));simp;omega)
    have hnx:pH s (i, -1)=(i+1, -1):=by unfold pH; rw[if_neg (by rintro⟨h,_⟩; simp only at h; rw[hc]at h; exact hc58 (XM.inj h))]
    have h0:TI s (i+1, -1):=⟨by show i+1≤_; omega,.inl ⟨rfl,fun j hj=>by
     by_cases hji:j=i
     ·rw[hji,Ym];intro h;have:=((qk s i).1 h).1;rw[hc]at this;exact hc58 (XM.inj this)
     ·exact hno j (by simp only at hj;omega)⟩⟩
    have h1:=hlt;have h2:yd s (i+1, -1)=yd s (i+1, -1):=rfl;have z3:jM=jM:=rfl;refine⟨[cO 18 (i+1),(20,.is (.int .i64 (s.length:Int))),ao 21 true,(30,.bin (u8 c)),ao 31 false,cO 27 (i+1)],[],?_⟩;rw[ik hnx];exact XH (by kernel_rfl) (Sx.t8 c18 c20 c21 c30 c31 c27 h0 h1 (Xy h2 z3))
  ·have c24:=bF (dd s < 0) (by omega)
   have h1:DT s=DT s:=rfl;have z2:jM=jM:=rfl;refine⟨[cO 18 (i+1),(20,.is (.int .i64 (s.length:Int))),ao 21 true,ao 24 false],[],?_⟩;exact XH (by kernel_rfl) (Sx.t4 c18 c20 c21 c24 (Sx.t2 h0 h1 z2))
 ·have c21:=bF (((i+1:Nat):Int) < (s.length:Int)) (by omega)
  have ht:t=dd s:=by
   rcases hk with⟨rfl,hno⟩ | ⟨rfl,_⟩
   ·exact(Re s fun j hj=>hno j (by omega)).symm
   ·rfl
  subst ht;have h1:DT s=DT s:=rfl;have z2:jM=jM:=rfl;refine⟨[cO 18 (i+1),(20,.is (.int .i64 (s.length:Int))),ao 21 false],[],?_⟩;exact XH (by kernel_rfl) (Sx.t4 c18 c20 c21 h0 (Xy h1 z2))
def yG(F:Nat→Nat)(p:Nat)(l:List Nat)(k:Nat×(Nat→Nat)):Prop:=k.1≤l.length∧iN k.2 (p+k.1) (l.drop k.1)=F
def lI(p:Nat)(l:List Nat)(k:Nat×(Nat→Nat)):Nat×(Nat→Nat):=(k.1+1,oq k.2 (p+k.1) (l.getD k.1 0))
def nQ(k:Nat×(Nat→Nat)):List (Nat×Sx.SV):=[(2,.ptr 0 0),(4,.ptr 1 0),(9,.own 2),(11,.own 3),(13,.val (.int .i64 (k.1:Int)))]
def nP(k:Nat×(Nat→Nat)):List (Nat×Sx.SV):=[(2,.ptr 0 0),(4,.ptr 1 0),(11,.own 3),(14,.val (.int .i64 (k.1:Int)))]
def dz(a b:List Nat)(f:Nat→Nat):List Sx.Row:=[⟨24,.an OY⟩,VT true f,⟨3,.own 1 a.length (ints a)⟩,⟨3,.own 1 b.length (ints b)⟩]
def Bf:List (Nat×Sx.SV):=[(2,.ptr 0 0),(4,.ptr 1 0),(11,.own 3)]
def Be:List (Nat×Sx.SV):=[(2,.ptr 0 0),(4,.ptr 1 0)]
theorem ints_at{l:List Nat}{i u:Nat}(h:l[i]?=some u):(ints l)[i]?=some (.int .i64 (u:Int)):=by unfold ints;rw[List.getElem?_map,h];rfl
theorem GH(v:Bool)(f:Nat→Nat)(k n:Nat)(hk:k < 16):0+1+((k:Int).toNat*1)+1≤(ax v f).length∧(ax v f).take (0+1+((k:Int).toNat*1))++([.int .u8 (n:Int)]++(ax v f).drop (0+1+((k:Int).toNat*1)+1))=ax v (dW f k n):=by rw[XO,X3,XY];exact⟨by rw[aE];omega,En v f k n hk⟩
theorem GL(a b:List Nat)(hla:a.length+b.length≤8)(hb:∀u∈a,u < 65536)(F:Nat→Nat)(T:Value)(w:World)(k:Nat×(Nat→Nat))(hk:yG F (0) a k):∃H' L',Sx.ex prog 144 w (Sx.a7 f46 1) H' L' ⟨nQ k,dz a b k.2⟩
  (Sx.dP (yG F (0) a) nQ (fun k=>dz a b k.2) (lI (0) a) (fun q=>a.length+2 - q.1) (fun(_:Unit)=>True) (fun _=>Bf) (fun _=>dz a b F) (fun _=>()) (Sx.ej (Sx.a7 f46 1) - 1) (Sx.atEnd prog f46 (fun u=>u=T) .ret) k):=by
 obtain⟨i,f⟩:=k;obtain⟨hi,hk⟩:=hk;simp only at hi hk;by_cases h:i < a.length
 ·obtain⟨u,hu⟩:∃u,a[i]?=some u:=⟨_,XE h⟩
  have hu65:=hb u (Ye hu);have hdrop:a.drop i=u::a.drop (i+1):=by rw[XD h];have:=XE h;rw[hu]at this;rw[XM.inj this]
  rw[hdrop,iN]at hk;have hgd:a.getD i 0=u:=by rw[X5,hu];rfl
  have hnx:lI (0) a (i,f)=(i+1,oq f (0+i) u):=by unfold lI;rw[hgd]
  have cwr:∀x:Nat,x≤255→Xz .u8 (X2.wrap (x:Int))=.int .u8 (x:Int):=fun x hx=>iu (Ui (by omega) (by omega));have cix:(0:Int)≤(i:Int)∧(i:Int) < (a.length:Nat):=by omega
  have cld:(ints a)[(i:Int).toNat*1]?=some (.int .i64 (u:Int)):=by rw[XO,X3];exact ints_at hu
  have h1:a.length+2 - (i+1) < a.length+2 - i:=by omega
  have cq:Xz .i64 (XF.wrap ((u:Int).tdiv 256))=.int .i64 ((u / 256:Nat):Int):=iw (by rw[show((u:Int).tdiv 256)=((u / 256:Nat):Int)by rw[X9 (by omega)]; rfl,kC (by omega) (by omega)]);have cm:Xz .i64 ((u:Int).tmod 256)=.int .i64 ((u%256:Nat):Int):=iw (by rw[X8 (by omega)];rfl);have cd:=cwr (u / 256) (by omega);have ce:=cwr (u%256) (by omega);have cn:=mW (i:=i) (by omega);rw[XY]at hk hnx;have c87:=bT ((i:Int) < (a.length:Int)) (by omega);have c91:Xz .i64 (XF.wrap (2*(i:Int)))=.int .i64 ((2*i:Nat):Int):=iw (by rw[kC (by omega) (by omega)];omega);have c94:=cix;have c95:=cld;have c96:=cq;have c97:=cd;have c99:(0:Int)≤((2*i:Nat):Int)∧((2*i:Nat):Int) < 16:=by omega
  have c100099:=GH true f (2*i) (u / 256) (by omega);have c101:=c91;have c102:Xz .i64 (XF.wrap (((2*i:Nat):Int)+1))=.int .i64 ((2*i+1:Nat):Int):=iw (kC (by omega) (by omega));have c105:=cix;have c106:=cld;have c107:=cm;have c108:=ce;have c110:(0:Int)≤((2*i+1:Nat):Int)∧((2*i+1:Nat):Int) < 16:=by omega
  have c100110:=GH true (dW f (2*i) (u / 256)) (2*i+1) (u%256) (by omega);have c89:=cn;have h0:yG F 0 a (i+1,oq f i u):=⟨h,by show iN _ (0+(i+1)) _=F;rw[XY];exact hk⟩;have h2:nQ (i+1,oq f i u)=nQ (i+1,oq f i u):=rfl;have z3:dz a b (oq f i u)=dz a b (oq f i u):=rfl;refine⟨[ao 87 true,cO 91 (2*i),(94,.ix),(95,.ld (.int .i64 (u:Int))),cO 96 (u / 256),(97,.is (.int .u8 ((u / 256:Nat):Int))),(99,.ix),(100099,.st (ax true (dW f (2*i) (u / 256)))),cO 101 (2*i),cO 102 (2*i+1),(105,.ix),(106,.ld (.int .i64 (u:Int))),cO 107 (u%256),(108,.is (.int .u8 ((u%256:Nat):Int))),(110,.ix),(100110,.st (ax true (oq f i u))),cO 89 (i+1)],[],?_⟩;rw[ik hnx];exact XH (by kernel_rfl) (Sx.t8 c87 c91 c94 c95 c96 c97 c99 c100099 (Sx.t8 c101 c102 c105 c106 c107 c108 c110 c100110 (Sx.t4 c89 h0 h1 h2 z3)))
 ·have c87:=bF ((i:Int) < (a.length:Int)) (by omega)
  rw[XS (by omega),iN]at hk;have h0:True:=trivial;have h1:Bf=Bf:=rfl;have z2:dz a b f=dz a b F:=by rw[hk]
  refine⟨[ao 87 false],[],?_⟩;exact XH (by kernel_rfl) (Sx.t2 c87 h0 (Xy h1 z2))
theorem GK(a b:List Nat)(hla:a.length+b.length≤8)(hb:∀u∈b,u < 65536)(F:Nat→Nat)(T:Value)(w:World)(k:Nat×(Nat→Nat))(hk:yG F (8 - b.length) b k):∃H' L',Sx.ex prog 144 w (Sx.a7 f46 2) H' L' ⟨nP k,dz a b k.2⟩
  (Sx.dP (yG F (8 - b.length) b) nP (fun k=>dz a b k.2) (lI (8 - b.length) b) (fun q=>b.length+2 - q.1) (fun(_:Unit)=>True) (fun _=>Be) (fun _=>dz a b F) (fun _=>()) (Sx.ej (Sx.a7 f46 2) - 1) (Sx.atEnd prog f46 (fun u=>u=T) .ret) k):=by
 obtain⟨i,f⟩:=k;obtain⟨hi,hk⟩:=hk;simp only at hi hk;by_cases h:i < b.length
 ·obtain⟨u,hu⟩:∃u,b[i]?=some u:=⟨_,XE h⟩
  have hu65:=hb u (Ye hu);have hdrop:b.drop i=u::b.drop (i+1):=by rw[XD h];have:=XE h;rw[hu]at this;rw[XM.inj this]
  rw[hdrop,iN]at hk;have hgd:b.getD i 0=u:=by rw[X5,hu];rfl
  have hnx:lI (8 - b.length) b (i,f)=(i+1,oq f (8 - b.length+i) u):=by unfold lI; rw[hgd]
  have cwr:∀x:Nat,x≤255→Xz .u8 (X2.wrap (x:Int))=.int .u8 (x:Int):=fun x hx=>iu (Ui (by omega) (by omega));have cix:(0:Int)≤(i:Int)∧(i:Int) < (b.length:Nat):=by omega
  have cld:(ints b)[(i:Int).toNat*1]?=some (.int .i64 (u:Int)):=by rw[XO,X3];exact ints_at hu
  have h1:b.length+2 - (i+1) < b.length+2 - i:=by omega
  have cq:Xz .i64 (XF.wrap ((u:Int).tdiv 256))=.int .i64 ((u / 256:Nat):Int):=iw (by rw[show((u:Int).tdiv 256)=((u / 256:Nat):Int)by rw[X9 (by omega)]; rfl,kC (by omega) (by omega)]);have cm:Xz .i64 ((u:Int).tmod 256)=.int .i64 ((u%256:Nat):Int):=iw (by rw[X8 (by omega)];rfl);have cd:=cwr (u / 256) (by omega);have ce:=cwr (u%256) (by omega);have cn:=mW (i:=i) (by omega);have c114:=bT ((i:Int) < (b.length:Int)) (by omega);have c119:Xz .i64 (XF.wrap (8 - (b.length:Int)))=.int .i64 ((8 - b.length:Nat):Int):=iw (by rw[kC (by omega) (by omega)]; omega);generalize hp:8 - b.length=p at *;have c121:Xz .i64 (XF.wrap ((p:Int)+(i:Int)))=.int .i64 ((p+i:Nat):Int):=iw (by rw[kC (by omega) (by omega)];omega);generalize hq:p+i=q at*;have hq8:q < 8:=by omega
  have c123:Xz .i64 (XF.wrap (2*(q:Int)))=.int .i64 ((2*q:Nat):Int):=iw (by rw[kC (by omega) (by omega)];omega);have c126:=cix;have c127:=cld;have c128:=cq;have c129:=cd;have c131:(0:Int)≤((2*q:Nat):Int)∧((2*q:Nat):Int) < 16:=by omega
  have c100131:=GH true f (2*q) (u / 256) (by omega);have c133:=c123;have c134:Xz .i64 (XF.wrap (((2*q:Nat):Int)+1))=.int .i64 ((2*q+1:Nat):Int):=iw (kC (by omega) (by omega));have c137:=cix;have c138:=cld;have c139:=cm;have c140:=ce;have c142:(0:Int)≤((2*q+1:Nat):Int)∧((2*q+1:Nat):Int) < 16:=by omega
  have c100142:=GH true (dW f (2*q) (u / 256)) (2*q+1) (u%256) (by omega);have c116:=cn;have h0:yG F p b (i+1,oq f q u):=⟨h,by show iN _ (p+(i+1)) _=F;rw[←Nat.add_assoc,hq];exact hk⟩;have h2:nP (i+1,oq f q u)=nP (i+1,oq f q u):=rfl;have z3:dz a b (oq f q u)=dz a b (oq f q u):=rfl;refine⟨[ao 114 true,(119,.is (.int .i64 (p:Int))),(121,.is (.int .i64 (q:Int))),cO 123 (2*q),(126,.ix),(127,.ld (.int .i64 (u:Int))),cO 128 (u / 256),(129,.is (.int .u8 ((u / 256:Nat):Int))),(131,.ix),(100131,.st (ax true (dW f (2*q) (u / 256)))),cO 133 (2*q),cO 134 (2*q+1),(137,.ix),(138,.ld (.int .i64 (u:Int))),cO 139 (u%256),(140,.is (.int .u8 ((u%256:Nat):Int))),(142,.ix),(100142,.st (ax true (oq f q u))),cO 116 (i+1)],[],?_⟩;rw[ik hnx];exact XH (by kernel_rfl) (Sx.t8 c114 c119 c121 c123 c126 c127 c128 c129 (Sx.t8 c131 c100131 c133 c134 c137 c138 c139 c140 (Sx.t4 c142 c100142 c116 h0 (Sx.t2 h1 h2 z3))))
 ·have c114:=bF ((i:Int) < (b.length:Int)) (by omega)
  rw[XS (by omega),iN]at hk;have h0:True:=trivial;have h1:Be=Be:=rfl;have z2:dz a b f=dz a b F:=by rw[hk]
  refine⟨[ao 114 false],[],?_⟩;exact XH (by kernel_rfl) (Sx.t2 c114 h0 (Xy h1 z2))
theorem iM{s:List UInt8}{l:List Nat}(h:ja s=some l)(hs:s.length≤100000000)(w:World):Calls prog 100 #[.string ⟨s.toArray⟩] w (Sx.eh w (.oo [] 3 1 l.length (ints l) [.bool true])):=by have:=zA s hs w;rwa [h]at this
theorem j9{s:List UInt8}(h:ja s=none)(hs:s.length≤100000000)(w:World):Calls prog 100 #[.string ⟨s.toArray⟩] w (Sx.eh w (.val (.tuple #[.slice none 0 0,.bool false]))):=by have:=zA s hs w;rwa [h]at this
def N8:Sx.gV:=.val (.tuple #[.slice none 0 0,.bool false])
def jE(s:List UInt8)(a b:List Nat):List Sx.Loop:=
 [.mk (Nat×Int) (0, -1) (TI s) (yd s) (fun _=>jM) (pH s) (fun q=>s.length+2 - q.1) Unit (fun _=>True) (fun _=>DT s) (fun _=>jM) (fun _=>()),
  .mk (Nat×(Nat→Nat)) (0,fun _=>0) (yG (iN (fun _=>0) 0 a) 0 a) nQ (fun k=>dz a b k.2) (lI 0 a) (fun q=>a.length+2 - q.1) Unit (fun _=>True) (fun _=>Bf) (fun _=>dz a b (iN (fun _=>0) 0 a)) (fun _=>()),
  .mk (Nat×(Nat→Nat)) (0,iN (fun _=>0) 0 a) (yG (vO a b) (8 - b.length) b) nP (fun k=>dz a b k.2) (lI (8 - b.length) b) (fun q=>b.length+2 - q.1) Unit (fun _=>True) (fun _=>Be) (fun _=>dz a b (vO a b)) (fun _=>())]
theorem RW(s:List UInt8)(hs:s.length≤100000000)(w:World):Calls prog 46 #[.string ⟨s.toArray⟩] w (Rn w (yD (qC s))):=by
 have h0:TI s (0, -1):=⟨XI _,.inl ⟨rfl,fun j hj=>by simp at hj⟩⟩;have e1:yd s (0, -1)=yd s (0, -1)∧jM=jM:=⟨rfl,rfl⟩;have iZ:=Ph s (yD (qC s)) w hs;have bad:∀{l r:List UInt8} {fnd:Bool},Lib.cut s [58,58]=(l,r,fnd)→tu l r fnd=(fun _=>0,false)→X0 #[.agg (ax true fun _=>0).toArray,.bool false]=yD (qC s):=fun h1 h2=>by unfold qC;rw[h1,h2];rfl
 have xG:∀{l r:List UInt8} {fnd:Bool} {a b:List Nat},Lib.cut s [58,58]=(l,r,fnd)→tu l r fnd=(vO a b,true)→X0 #[.agg (ax true (vO a b)).toArray,.bool true]=yD (qC s):=fun h1 h2=>by unfold qC;rw[h1,h2];rfl
 have l2:∀a b:List Nat,yG (iN (fun _=>0) 0 a) 0 a (0,fun _=>0):=fun a b=>⟨XI _,rfl⟩;have l3:∀a b:List Nat,yG (vO a b) (8 - b.length) b (0,iN (fun _=>0) 0 a):=fun a b=>⟨XI _,rfl⟩;by_cases hd:dd s < 0
 ·have hcut:Lib.cut s [58,58]=(s,[],false):=by unfold Lib.cut;rw[if_neg (by unfold dd at hd;omega)]
  have qy:=bF (dd s≥0) (by omega);have c68:=bT (dd s < 0) (by omega);have c57:=fun W (_:ai [] w W)=>iM ql (by simp) W;cases ha:ja s with
  |none=>have c52:=fun W (_:ai [] w W)=>j9 ha hs W;have z5:=bad hcut (by unfold tu;rw[ha]);refine Sx.av (args:=[.string ⟨s.toArray⟩]) [ao 42 false,(52,.ct N8),(57,.ct (.oo [] 3 1 0 [] [.bool true]))] (jE s [] []) (by kernel_rfl) func46 rfl (bN rfl) ?_;exact XH (by kernel_rfl) (Sx.t2 h0 e1 (Xy iZ (fun(x:Unit) (hx4:True)=>(Sx.t2 qy c52 (Xy c57 z5)))))
  |some a=>
   obtain⟨ha65,ha8⟩:=pc ha;have c52:=fun W (_:ai [] w W)=>iM ha hs W;by_cases h8:a.length=8
   ·have c72:XA ((a.length:Int) !=8)=.bool false:=qQ (by simp;omega)
    have c80:Xz .i64 (XF.wrap ((a.length:Int)+0))=.int .i64 (a.length:Int):=iw (by rw[kC (by omega) (by omega)];omega);have c81:=bF ((a.length:Int) > 8) (by omega);have z15:=xG hcut (a:=a) (b:=[]) (by unfold tu;rw[ha,ql];simp only;rw[if_neg (by simp;omega)]);have h5:=l2 a [];have h10:=l3 a [];have rd7:=GL a [] (by simp;omega) (ha65) (iN (fun _=>0) 0 a) (yD (qC s)) w;have rd12:=GK a [] (by simp;omega) (by simp) (vO a []) (yD (qC s)) w;have e6:nQ (0,fun _=>0)=nQ (0,fun _=>0)∧dz a [] (fun _=>0)=dz a [] (fun _=>0):=⟨rfl,rfl⟩;have e11:nP (0,iN (fun _=>0) 0 a)=nP (0,iN (fun _=>0) 0 a)∧dz a [] (iN (fun _=>0) 0 a)=dz a [] (iN (fun _=>0) 0 a):=⟨rfl,rfl⟩;refine Sx.av (args:=[.string ⟨s.toArray⟩]) [ao 42 false,(52,.ct (.oo [] 3 1 a.length (ints a) [.bool true])),(57,.ct (.oo [] 3 1 0 [] [.bool true])),ao 68 true,ao 72 false,(80,.is (.int .i64 (a.length:Int))),ao 81 false] (jE s a []) (by kernel_rfl) func46 rfl (bN rfl) ?_;exact XH (by kernel_rfl) (Sx.t2 h0 e1 (Xy iZ (fun(x:Unit) (hx4:True)=>(Sx.t8 qy c52 c57 c68 c72 c80 c81 h5 (Sx.t2 e6 rd7 (fun(x:Unit) (hx9:True)=>(Sx.t2 h10 e11 (Xy rd12 (fun(x:Unit) (hx14:True)=>z15)))))))))
   ·have c72:XA ((a.length:Int) !=8)=.bool true:=rY (by simp;omega)
    have z5:=bad hcut (by unfold tu;rw[ha,ql];simp only;rw[if_pos (.inl ⟨trivial,h8⟩)]);refine Sx.av (args:=[.string ⟨s.toArray⟩]) [ao 42 false,(52,.ct (.oo [] 3 1 a.length (ints a) [.bool true])),(57,.ct (.oo [] 3 1 0 [] [.bool true])),ao 68 true,ao 72 true] (jE s a []) (by kernel_rfl) func46 rfl (bN rfl) ?_;exact XH (by kernel_rfl) (Sx.t2 h0 e1 (Xy iZ (fun(x:Unit) (hx4:True)=>(Sx.t4 qy c52 c57 c68 (Xy c72 z5)))))
 ·obtain⟨p,hp⟩:∃p:Nat,dd s=p:=⟨(dd s).toNat,by omega⟩
  have hp2:p+2≤s.length:=by
   rcases Lib.index_spec s [58,58]with⟨h1,_⟩ | ⟨i,h1,_,h3,_⟩
   ·unfold dd at hd;omega
   ·have h4:=(qk s i).1 h3
    have:=(XB.1 h4.2).1;unfold dd at hp;omega
  have hcut:Lib.cut s [58,58]=(s.take p,s.drop (p+2),true):=by unfold dd at hp;unfold Lib.cut;rw[if_pos (by omega),hp];rfl
  have qy:=bT (dd s≥0) (by omega);have c68:=bF (dd s < 0) (by omega);have c45:∀W,(XP 9 (.string ⟨s.toArray⟩) none (some (.int .i64 (dd s))) none).run prog W=.ok (.string ⟨(s.take p).toArray⟩) W:=fun W=>by rw[hp];exact vN s p (by omega) W
  have c48:Xz .i64 (XF.wrap (dd s+2))=.int .i64 ((p+2:Nat):Int):=iw (by rw[hp,kC (by omega) (by omega)];rfl);have c49:=q7 s (p+2) hp2;have hsl:(s.take p).length≤100000000:=by rw[XZ];omega
  have hsr:(s.drop (p+2)).length≤100000000:=by rw[XJ];omega
  cases ha:ja (s.take p)with
  |none=>
   have c52:=fun W (_:ai [] w W)=>j9 ha hsl W;have z5:=bad hcut (by unfold tu;rw[ha]);cases hb:ja (s.drop (p+2))with
   |none=>have c57:=fun W (_:ai [] w W)=>j9 hb hsr W;refine Sx.av (args:=[.string ⟨s.toArray⟩]) [ao 42 true,(45,.bin (.string ⟨(s.take p).toArray⟩)),cO 48 (p+2),(49,.bin (.string ⟨(s.drop (p+2)).toArray⟩)),(52,.ct N8),(57,.ct N8)] (jE s [] []) (by kernel_rfl) func46 rfl (bN rfl) ?_;exact XH (by kernel_rfl) (Sx.t2 h0 e1 (Xy iZ (fun(x:Unit) (hx4:True)=>(Sx.t4 qy c45 c48 c49 (Sx.t2 c52 c57 z5)))))
   |some b=>have c57:=fun W (_:ai [] w W)=>iM hb hsr W;refine Sx.av (args:=[.string ⟨s.toArray⟩]) [ao 42 true,(45,.bin (.string ⟨(s.take p).toArray⟩)),cO 48 (p+2),(49,.bin (.string ⟨(s.drop (p+2)).toArray⟩)),(52,.ct N8),(57,.ct (.oo [] 3 1 b.length (ints b) [.bool true]))] (jE s [] []) (by kernel_rfl) func46 rfl (bN rfl) ?_;exact XH (by kernel_rfl) (Sx.t2 h0 e1 (Xy iZ (fun(x:Unit) (hx4:True)=>(Sx.t4 qy c45 c48 c49 (Sx.t2 c52 c57 z5)))))
  |some a=>
   obtain⟨ha65,ha8⟩:=pc ha;have c52:=fun W (_:ai [] w W)=>iM ha hsl W;cases hb:ja (s.drop (p+2))with
   |none=>have z5:=bad hcut (by unfold tu;rw[ha,hb]);have c57:=fun W (_:ai [] w W)=>j9 hb hsr W;refine Sx.av (args:=[.string ⟨s.toArray⟩]) [ao 42 true,(45,.bin (.string ⟨(s.take p).toArray⟩)),cO 48 (p+2),(49,.bin (.string ⟨(s.drop (p+2)).toArray⟩)),(52,.ct (.oo [] 3 1 a.length (ints a) [.bool true])),(57,.ct N8)] (jE s [] []) (by kernel_rfl) func46 rfl (bN rfl) ?_;exact XH (by kernel_rfl) (Sx.t2 h0 e1 (Xy iZ (fun(x:Unit) (hx4:True)=>(Sx.t4 qy c45 c48 c49 (Sx.t2 c52 c57 z5)))))
   |some b=>
    obtain⟨hb65,hb8⟩:=pc hb;have c57:=fun W (_:ai [] w W)=>iM hb hsr W;have c80:Xz .i64 (XF.wrap ((a.length:Int)+(b.length:Int)))=.int .i64 ((a.length+b.length:Nat):Int):=iw (by rw[kC (by omega) (by omega)];rfl);by_cases h8:8 < a.length+b.length
    ·have c81:=bT (((a.length+b.length:Nat):Int) > 8) (by omega)
     have z5:=bad hcut (by unfold tu;rw[ha,hb];simp only;rw[if_pos (.inr h8)]);refine Sx.av (args:=[.string ⟨s.toArray⟩]) [ao 42 true,(45,.bin (.string ⟨(s.take p).toArray⟩)),cO 48 (p+2),(49,.bin (.string ⟨(s.drop (p+2)).toArray⟩)),(52,.ct (.oo [] 3 1 a.length (ints a) [.bool true])),(57,.ct (.oo [] 3 1 b.length (ints b) [.bool true])),ao 68 false,cO 80 (a.length+b.length),ao 81 true] (jE s [] []) (by kernel_rfl) func46 rfl (bN rfl) ?_;exact XH (by kernel_rfl) (Sx.t2 h0 e1 (Xy iZ (fun(x:Unit) (hx4:True)=>(Sx.t8 qy c45 c48 c49 c52 c57 c68 c80 (Xy c81 z5)))))
    ·have c81:=bF (((a.length+b.length:Nat):Int) > 8) (by omega)
     have z15:=xG hcut (a:=a) (b:=b) (by unfold tu;rw[ha,hb];simp only;rw[if_neg (by simp;omega)]);have h5:=l2 a b;have h10:=l3 a b;have rd7:=GL a b (by omega) (ha65) (iN (fun _=>0) 0 a) (yD (qC s)) w;have rd12:=GK a b (by omega) (hb65) (vO a b) (yD (qC s)) w;have e6:nQ (0,fun _=>0)=nQ (0,fun _=>0)∧dz a b (fun _=>0)=dz a b (fun _=>0):=⟨rfl,rfl⟩;have e11:nP (0,iN (fun _=>0) 0 a)=nP (0,iN (fun _=>0) 0 a)∧dz a b (iN (fun _=>0) 0 a)=dz a b (iN (fun _=>0) 0 a):=⟨rfl,rfl⟩;refine Sx.av (args:=[.string ⟨s.toArray⟩]) [ao 42 true,(45,.bin (.string ⟨(s.take p).toArray⟩)),cO 48 (p+2),(49,.bin (.string ⟨(s.drop (p+2)).toArray⟩)),(52,.ct (.oo [] 3 1 a.length (ints a) [.bool true])),(57,.ct (.oo [] 3 1 b.length (ints b) [.bool true])),ao 68 false,cO 80 (a.length+b.length),ao 81 false] (jE s a b) (by kernel_rfl) func46 rfl (bN rfl) ?_;exact XH (by kernel_rfl) (Sx.t2 h0 e1 (Xy iZ (fun(x:Unit) (hx4:True)=>(Sx.t8 qy c45 c48 c49 c52 c57 c68 c80 (Sx.t4 c81 h5 e6 rd7 (fun(x:Unit) (hx9:True)=>(Sx.t2 h10 e11 (Xy rd12 (fun(x:Unit) (hx14:True)=>z15)))))))))
end Go.Proofs.YtnncigmpcdehnaaGreatDoor
