import Derived.Test.YtnncigmpcdehnaaGreatDoorQa19
namespace Go.Proofs.YtnncigmpcdehnaaGreatDoor
set_option maxRecDepth 100000
open Go.RowKit Go.Lib Go.Sort
def mtV(m:Mt):Value:=.agg m.cells.toArray
def flG(g:Nat)(A:Option Go.Addr)(n c:Nat)(T:Out (Bool×Mt)):Sx.GCall:=⟨[0,1],[(0,⟨154,.giv g (lnC A n c T.pos)⟩),(1,⟨66,.vals T.val.2.cells⟩)],[],[],.val (.bool T.val.1),some (T.okB=true∧T.pos≤n)⟩
def mtMem(g:Nat)(A:Option Go.Addr)(n c i:Nat)(m:Mt):List Sx.Row:=[⟨154,.giv g (lnC A n c i)⟩,⟨66,.vals m.cells⟩]
theorem fl_st{γ:Type}{P:Program}{w:World}{f g n c i j:Nat}{A:Option Go.Addr}{ws:List Bs}{m:Mt}{T:Out (Bool×Mt)}{TT:Out γ}(h0:Lin w g A n c i ws)(hj:j≤n)(hT:∀code p,T=.no code p→TT=.no code p)
  (h:∀W gm,Lns W [g,gm] g A n c j ws→Blk W gm 66 m.cells→g≠gm→Calls P f #[.pointer (some ⟨g,0,none⟩),.pointer (some ⟨gm,0,none⟩)] W (FlPost g gm A n c T W)) (W:World) (β:Sx.Env) (hS:Sx.See ⟨w,[g],LnP TT w⟩ β W (Sx.rowAt (mtMem g A n c j m)) [0,1]) :
  Calls P f (([.ptr 0 0,.ptr 1 0]:List Sx.SV).map (Sx.SV.den β)).toArray W (Sx.gPost ⟨w,[g],LnP TT w⟩ β W (Sx.rowAt (mtMem g A n c j m)) 2 (flG g A n c T)):=by
 have r0:=hS.held 0 (by simp) _ rfl
 have r1:Blk W (β 1) 66 m.cells:=hS.held 1 (by simp) _ rfl
 have e0:β 0=g:=r0.1
 have r0:Blk W g 154 (lnC A n c j):=e0 ▸ r0.2
 have hne:g≠β 1:=fun he=>by
  have:=hS.inj 0 (by simp) 1 (by simp) _ _ (β 0) rfl rfl rfl (by show some (β 1)=some (β 0);rw[e0,he])
  cases this
 have n1:=hS.new 1 (by simp) _ (β 1) rfl rfl
 have hL:Lns W [g,β 1] g A n c j ws:=h0.lns.add hS.chg hj r0 (fun x hx=>by
  simp only[List.mem_cons,List.not_mem_nil,or_false]at hx
  rcases hx with rfl|rfl
  ·exact .inl (by simp)
  ·exact n1) (by simp)
 have ht:Sx.GCall.turned β (Sx.rowAt (mtMem g A n c j m)) (flG g A n c T)=[g,β 1]:=by
  show [β 0,β 1]=_
  rw[e0]
 show Calls P f #[.pointer (some ⟨β 0,0,none⟩),.pointer (some ⟨β 1,0,none⟩)] W _
 rw[e0]
 refine(h W (β 1) hL r1 hne).mono fun e w' hp=>?_
 rcases hp with⟨q,i',rfl,hi,he,b0,b1,hc⟩ | ⟨code,p,chain,hT',he,hf,hc⟩
 ·refine .inl ⟨fun p hp=>by cases hp;exact⟨rfl,hi⟩,β,Sx.gret_vals (v:=.bool q.1) rfl rfl he (fun u hu=>?_) (by rw[ht];exact hc)⟩
  have hu:u=(0,⟨154,.giv g (lnC A n c i')⟩)∨u=(1,⟨66,.vals q.2.cells⟩):=by
   have:u∈[(0,(⟨154,.giv g (lnC A n c i')⟩:Sx.Row)),(1,⟨66,.vals q.2.cells⟩)]:=hu
   simpa using this
  rcases hu with rfl|rfl
  ·exact⟨e0,by show Blk w' (β 0) _ _;rw[e0];exact b0⟩
  ·exact b1
 ·exact .inr ⟨rfl,chain,he,⟨code,p,hT code p hT',hf.up hS.chg.size⟩,by rw[ht];exact hc⟩
theorem readF_asks{k:Nat}{m m':Mt}{ws:List Bs}{i j:Nat}(h:readF k m ws i=.ok m' j):m'.asks=m.asks:=by
 have key:∀{α:Type} {r:Out α} {f:α→Mt},(∀a,(f a).asks=m.asks)→(r.bind fun s j=>.ok (f s) j)=.ok m' j→m'.asks=m.asks:=fun {α r f} hf hh=>by
  cases r with
  |no c p=>cases hh
  |ok a l=>injection hh with h1 _;rw[←h1];exact hf a
 rcases k with _|_|_|_|_|k
 ·exact key (f:=fun s=>{ m with inn:=s }) (fun _=>rfl) h
 ·exact key (f:=fun s=>{ m with src:=s }) (fun _=>rfl) h
 ·exact key (f:=fun s=>{ m with dst:=s }) (fun _=>rfl) h
 ·exact key (f:=fun s=>{ m with proto:=s }) (fun _=>rfl) h
 ·exact key (f:=fun s=>{ m with sp:=s }) (fun _=>rfl) h
 ·exact key (f:=fun s=>{ m with dp:=s }) (fun _=>rfl) h
theorem fld_lt{x:Bs}{k:Nat}(h:fld x=some k):k < 6:=by
 unfold fld at h
 repeat' (split at h)
 all_goals first | (injection h with h;omega)|cases h
theorem or_lt64:∀(a:Fin 64) (k:Fin 6),a.val|||2^k.val < 64:=by decide+kernel
theorem field_asks{ws:List Bs}{i:Nat}{m m':Mt}{b:Bool}{j:Nat}(h:fieldR ws i m=.ok (b,m') j)(ha:m.asks < 64):m'.asks < 64:=by
 unfold fieldR at h
 split at h
 ·injection h with h _;injection h with _ h;rw[←h];exact ha
 ·split at h
  ·injection h with h _;injection h with _ h;rw[←h];exact ha
  ·rename_i k hk
   split at h
   ·cases h
   ·cases hr:readF k { m with asks:=m.asks|||2^k } ws (i+1)with
    |no c p=>rw[hr]at h;cases h
    |ok a l=>
     rw[hr]at h
     simp only[Out.bind]at h
     injection h with h _
     injection h with _ h
     rw[←h,readF_asks hr]
     exact or_lt64 ⟨m.asks,ha⟩ ⟨k,fld_lt hk⟩
theorem field_false{ws:List Bs}{i:Nat}{m m':Mt}{j:Nat}(h:fieldR ws i m=.ok (false,m') j):m'=m∧j=i:=by
 unfold fieldR at h
 split at h
 ·injection h with q q2;injection q with _ q;exact⟨q.symm,q2.symm⟩
 ·split at h
  ·injection h with q q2;injection q with _ q;exact⟨q.symm,q2.symm⟩
  ·split at h
   ·cases h
   ·rename_i k _ _ _
    cases hq:readF k { m with asks:=m.asks|||2^k } ws (i+1)with
    |no c p=>rw[hq]at h;cases h
    |ok a l=>rw[hq]at h;cases h
theorem match_any{w:World}{g:Nat}{A:Option Go.Addr}{n c i:Nat}{ws:List Bs}(h:Lin w g A n c i ws){T:Out Mt}(h1:tookR ws i kAny=.ok true (i+1))(hT:T=.ok mt0 (i+1)):Calls Tryz.prog 93 #[.pointer (some ⟨g,0,none⟩)] w (LnPost g A n c mtV T w):=by
 have c4:=ln_stm (T:=T) [⟨66,.vals mt0.cells⟩] [strV kAny] h h.le (fun code p hh=>by cases hh) (fun W (hL:Lin W g A n c i ws)=>h1 ▸ took_N kAny hL)
 have z1f:=fun(hp:(Out.ok true (i+1)).okB=true∧(Out.ok true (i+1)).pos≤n)=>(show LnR g A n c mtV T (.val (mtV mt0)) [(g,154,lnC A n c (i+1))]from⟨mt0,_,hT,hp.2,rfl,rfl⟩)
 refine ln_walk [] h.blk [(4,.callG (lnG 0 g A n c (Out.ok true (i+1)) fun b=>.bool b))] [] (by kernel_rfl) Tryz.func93 rfl (Nat.le_of_ble_eq_true rfl) ?_
 exact Eq.mp (by kernel_rfl) (And.intro c4 (fun(hx0:(Out.ok true (i+1)).okB=true∧(Out.ok true (i+1)).pos≤n)=>(z1f hx0)))
theorem match_none{w:World}{g:Nat}{A:Option Go.Addr}{n c i:Nat}{ws:List Bs}(h:Lin w g A n c i ws){T:Out Mt}{r:Out (Bool×Mt)}{m':Mt}{r3:Out Bs}(h1:tookR ws i kAny=.ok false i)
  (hn:∀W gm,Lns W [g,gm] g A n c i ws→Blk W gm 66 mt0.cells→g≠gm→Calls Tryz.prog 153 #[.pointer (some ⟨g,0,none⟩),.pointer (some ⟨gm,0,none⟩)] W (FlPost g gm A n c r W)) (hv:r.val=(false,m'))
  (n3:∀W,Lin W g A n c r.pos ws→Calls Tryz.prog 154 #[.pointer (some ⟨g,0,none⟩)] W (LnPost g A n c strV r3 W))
  (hno:∀code p,r=.no code p→T=.no code p) (e2:r.okB=true→T=r3.bind fun _ l=>.no 200 l):Calls Tryz.prog 93 #[.pointer (some ⟨g,0,none⟩)] w (LnPost g A n c mtV T w):=by
 have hG:flG g A n c r=⟨[0,1],[(0,⟨154,.giv g (lnC A n c r.pos)⟩),(1,⟨66,.vals m'.cells⟩)],[],[],.val (.bool false),some (r.okB=true∧r.pos≤n)⟩:=by unfold flG;rw[hv]
 have c4:=ln_stm (T:=T) [⟨66,.vals mt0.cells⟩] [strV kAny] h h.le (fun code p hh=>by cases hh) (fun W (hL:Lin W g A n c i ws)=>h1 ▸ took_N kAny hL)
 have c7f:=fun(_:(Out.ok false i).okB=true∧(Out.ok false i).pos≤n)=>fl_st h h.le hno hn
 have c10f:=fun(_:(Out.ok false i).okB=true∧(Out.ok false i).pos≤n) (hp:r.okB=true∧r.pos≤n)=>ln_stm [⟨66,.vals m'.cells⟩] [] h hp.2 (no_of (e2 hp.1)) n3
 have c16f:=fun(_:(Out.ok false i).okB=true∧(Out.ok false i).pos≤n) (hp:r.okB=true∧r.pos≤n) (hp3:r3.okB=true∧r3.pos≤n) W (hW:Chg [g] w W) (_:Blk W g 154 (lnC A n c r3.pos))=>pan_none (b:=⟨w,[g],LnP T w⟩) (vs:=[.pointer (some ⟨g,0,none⟩),.int .i64 200,.int .i64 (r3.pos:Int)]) (ps:=[(0,0)]) ((fail_N (.pointer (some ⟨g,0,none⟩)) 200 (r3.pos:Int) W).mono fun _ _ ⟨ch,he,hf,hc⟩=>⟨ch,he,(show LnP T w _ _ from⟨200,r3.pos,ok_of (e2 hp.1) hp3.1,hf.up hW.size⟩),hc⟩)
 have z3f:=fun(_:(Out.ok false i).okB=true∧(Out.ok false i).pos≤n) (_:r.okB=true∧r.pos≤n) (_:r3.okB=true∧r3.pos≤n)=>trivial
 rw[hG]at c7f
 refine ln_walk [] h.blk [(4,.callG (lnG 0 g A n c (Out.ok false i) fun b=>.bool b)),(7,.callG ⟨[0,1],[(0,⟨154,.giv g (lnC A n c r.pos)⟩),(1,⟨66,.vals m'.cells⟩)],[],[],.val (.bool false),some (r.okB=true∧r.pos≤n)⟩),(10,.callG (lnG 0 g A n c r3 strV)),(16,.callP)] [] (by kernel_rfl) Tryz.func93 rfl (Nat.le_of_ble_eq_true rfl) ?_
 exact Eq.mp (by kernel_rfl) (And.intro c4 (fun(hx0:(Out.ok false i).okB=true∧(Out.ok false i).pos≤n)=>(And.intro (c7f hx0) (fun(hx1:r.okB=true∧r.pos≤n)=>(And.intro (c10f hx0 hx1) (fun(hx2:r3.okB=true∧r3.pos≤n)=>(And.intro (c16f hx0 hx1 hx2) (z3f hx0 hx1 hx2))))))))
def mlR(ws:List Bs)(n:Nat)(T:Out Mt)(k:Mt×Nat):Prop:=k.2≤n∧k.1.asks < 64∧T=matchL ws (ws.length+1 - k.2) k.2 k.1
def mlFr(_:Mt×Nat):List (Nat×Sx.SV):=[(0,.ptr 0 0),(2,.ptr 1 0)]
noncomputable def mlNx(ws:List Bs)(k:Mt×Nat):Mt×Nat:=((fieldR ws k.2 k.1).val.2,(fieldR ws k.2 k.1).pos)
def mlOut(n:Nat)(T:Out Mt)(k:Mt×Nat):Prop:=k.2≤n∧T=.ok k.1 k.2
theorem match_rd{w:World}{g:Nat}{A:Option Go.Addr}{n c i:Nat}{ws:List Bs}(h:Lin w g A n c i ws){T:Out Mt}(k:Mt×Nat)(hk:mlR ws n T k) :
  ∃H' L',Sx.exB Tryz.prog Tryz.f93.ntmps ⟨w,[g],LnP T w⟩ (Sx.bodyOf Tryz.f93 0) H' L' ⟨mlFr k,mtMem g A n c k.2 k.1⟩ (Sx.loopK (mlR ws n T) mlFr (fun k=>mtMem g A n c k.2 k.1) (mlNx ws) (fun k=>n+1 - k.2) (mlOut n T) (fun _=>[(2,.ptr 1 0)]) (fun k=>mtMem g A n c k.2 k.1) (mlNx ws) (Sx.outId (Sx.bodyOf Tryz.f93 0) - 1) (Sx.atEndG Tryz.prog Tryz.f93 (LnR g A n c mtV T) .ret) k):=by
 obtain⟨m,j⟩:=k
 obtain⟨hj,ha,hT⟩:=hk
 have hlen:=h.len
 have hj:j≤n:=hj
 have hT:T=matchL ws (ws.length+1 - j) j m:=hT
 obtain⟨f,hf⟩:∃f,ws.length+1 - j=f+1:=⟨ws.length - j,by omega⟩
 have e1:T=(fieldR ws j m).bind fun r k=>match r.1 with
  |true=>matchL ws f k r.2
  |false=>.ok m k:=by rw[hT,hf];rfl
 have hn:=fun W gm (hL:Lns W [g,gm] g A n c j ws) (hb:Blk W gm 66 m.cells) (hne:g≠gm)=>field_N hL hb hne ha
 have hno:=no_of e1
 have e2:=ok_of e1
 have hx:mlNx ws (m,j)=((fieldR ws j m).val.2,(fieldR ws j m).pos):=rfl
 have c18:=fl_st h hj hno hn
 have ends:∀b,(fieldR ws j m).okB=true→(fieldR ws j m).val.1=b→(b=true→mlR ws n T (mlNx ws (m,j))∧n+1 - (mlNx ws (m,j)).2 < n+1 - j)∧(b=false→(fieldR ws j m).pos≤n→mlOut n T (mlNx ws (m,j))):=by
  intro b hp hb
  have hr:fieldR ws j m=.ok ((fieldR ws j m).val.1,(fieldR ws j m).val.2) (fieldR ws j m).pos:=Out.of_ok hp
  rw[hb]at hr
  refine⟨fun h1=>?_,fun h1 h2=>?_⟩
  ·rw[h1]at hr hb
   have hps:=field_pos hr
   have e3:=e2 hp
   rw[hb]at e3
   refine⟨⟨by rw[hx]; omega,by rw[hx]; exact field_asks hr ha,?_⟩,by rw[hx]; show n+1 - (fieldR ws j m).pos < _; omega⟩
   rw[hx]
   exact e3.trans (matchL_fuel ws _ _ _ _ (by omega) (Nat.le_refl _) hps.2)
  ·rw[h1]at hr hb
   have e3:=e2 hp
   rw[hb]at e3
   refine⟨h2,?_⟩
   have hm:(fieldR ws j m).val.2=m:=(field_false hr).1
   rw[hx,hm]
   exact e3
 generalize hr:fieldR ws j m=r at c18 ends hx
 obtain⟨b,m',hv⟩:∃b m',r.val=(b,m'):=⟨_,_,rfl⟩
 have hG:flG g A n c r=⟨[0,1],[(0,⟨154,.giv g (lnC A n c r.pos)⟩),(1,⟨66,.vals m'.cells⟩)],[],[],.val (.bool b),some (r.okB=true∧r.pos≤n)⟩:=by unfold flG;rw[hv]
 rw[hG]at c18
 rw[hv]at hx ends
 refine⟨[(18,.callG ⟨[0,1],[(0,⟨154,.giv g (lnC A n c r.pos)⟩),(1,⟨66,.vals m'.cells⟩)],[],[],.val (.bool b),some (r.okB=true∧r.pos≤n)⟩)],[],?_⟩
 cases b with
 |true=>
  have h1f:=fun(hp:r.okB=true∧r.pos≤n)=>((ends true hp.1 rfl).1 rfl).1
  have h2f:=fun(hp:r.okB=true∧r.pos≤n)=>((ends true hp.1 rfl).1 rfl).2
  have h3f:=fun(_:r.okB=true∧r.pos≤n)=>(rfl:mlFr (m,j)=mlFr (m,j))
  have z4f:=fun(_:r.okB=true∧r.pos≤n)=>(show mtMem g A n c r.pos m'=mtMem g A n c (mlNx ws (m,j)).2 (mlNx ws (m,j)).1 from by rw[hx])
  exact Eq.mp (by kernel_rfl) (And.intro c18 (fun(hx0:r.okB=true∧r.pos≤n)=>(Sx.t2 (h1f hx0) (h2f hx0) (And.intro (h3f hx0) (z4f hx0)))))
 |false=>
  have h1f:=fun(hp:r.okB=true∧r.pos≤n)=>(ends false hp.1 rfl).2 rfl hp.2
  have h2f:=fun(_:r.okB=true∧r.pos≤n)=>(rfl:([(2,.ptr 1 0)]:List (Nat×Sx.SV))=[(2,.ptr 1 0)])
  have z3f:=fun(_:r.okB=true∧r.pos≤n)=>(show mtMem g A n c r.pos m'=mtMem g A n c (mlNx ws (m,j)).2 (mlNx ws (m,j)).1 from by rw[hx])
  exact Eq.mp (by kernel_rfl) (And.intro c18 (fun(hx0:r.okB=true∧r.pos≤n)=>(Sx.t2 (h1f hx0) (h2f hx0) (z3f hx0))))
theorem match_some{w:World}{g:Nat}{A:Option Go.Addr}{n c i:Nat}{ws:List Bs}(h:Lin w g A n c i ws){T:Out Mt}{r:Out (Bool×Mt)}{m':Mt}(h1:tookR ws i kAny=.ok false i)
  (hn:∀W gm,Lns W [g,gm] g A n c i ws→Blk W gm 66 mt0.cells→g≠gm→Calls Tryz.prog 153 #[.pointer (some ⟨g,0,none⟩),.pointer (some ⟨gm,0,none⟩)] W (FlPost g gm A n c r W)) (hv:r.val=(true,m'))
  (hno:∀code p,r=.no code p→T=.no code p) (e2:r.okB=true→r.pos≤n→mlR ws n T (m',r.pos)):Calls Tryz.prog 93 #[.pointer (some ⟨g,0,none⟩)] w (LnPost g A n c mtV T w):=by
 have hG:flG g A n c r=⟨[0,1],[(0,⟨154,.giv g (lnC A n c r.pos)⟩),(1,⟨66,.vals m'.cells⟩)],[],[],.val (.bool true),some (r.okB=true∧r.pos≤n)⟩:=by unfold flG;rw[hv]
 have c4:=ln_stm (T:=T) [⟨66,.vals mt0.cells⟩] [strV kAny] h h.le (fun code p hh=>by cases hh) (fun W (hL:Lin W g A n c i ws)=>h1 ▸ took_N kAny hL)
 have c7f:=fun(_:(Out.ok false i).okB=true∧(Out.ok false i).pos≤n)=>fl_st h h.le hno hn
 have h2f:=fun(_:(Out.ok false i).okB=true∧(Out.ok false i).pos≤n) (hp:r.okB=true∧r.pos≤n)=>e2 hp.1 hp.2
 have e3f:=fun(_:(Out.ok false i).okB=true∧(Out.ok false i).pos≤n) (_:r.okB=true∧r.pos≤n)=>(show mlFr (m',r.pos)=mlFr (m',r.pos)∧mtMem g A n c r.pos m'=mtMem g A n c r.pos m' from⟨rfl,rfl⟩)
 have rd4f:=fun(_:(Out.ok false i).okB=true∧(Out.ok false i).pos≤n) (_:r.okB=true∧r.pos≤n)=>match_rd h (T:=T)
 have z7f:=fun(_:(Out.ok false i).okB=true∧(Out.ok false i).pos≤n) (_:r.okB=true∧r.pos≤n) (x:Mt×Nat) (hx:mlOut n T x)=>(show LnR g A n c mtV T (.val (mtV x.1)) [(g,154,lnC A n c x.2)]from⟨x.1,x.2,hx.2,hx.1,rfl,rfl⟩)
 rw[hG]at c7f
 refine ln_walk [] h.blk [(4,.callG (lnG 0 g A n c (Out.ok false i) fun b=>.bool b)),(7,.callG ⟨[0,1],[(0,⟨154,.giv g (lnC A n c r.pos)⟩),(1,⟨66,.vals m'.cells⟩)],[],[],.val (.bool true),some (r.okB=true∧r.pos≤n)⟩)] [.mk (Mt×Nat) (m',r.pos) (mlR ws n T) mlFr (fun k=>mtMem g A n c k.2 k.1) (mlNx ws) (fun k=>n+1 - k.2) (Mt×Nat) (mlOut n T) (fun _=>[(2,.ptr 1 0)]) (fun k=>mtMem g A n c k.2 k.1) (mlNx ws)] (by kernel_rfl) Tryz.func93 rfl (Nat.le_of_ble_eq_true rfl) ?_
 exact Eq.mp (by kernel_rfl) (And.intro c4 (fun(hx0:(Out.ok false i).okB=true∧(Out.ok false i).pos≤n)=>(And.intro (c7f hx0) (fun(hx1:r.okB=true∧r.pos≤n)=>(Sx.t2 (h2f hx0 hx1) (e3f hx0 hx1) (And.intro (rd4f hx0 hx1) (fun(x5:Mt×Nat) (hx6:mlOut n T x5)=>(z7f hx0 hx1 x5 hx6))))))))
theorem lmatch_N{w:World}{g:Nat}{A:Option Go.Addr}{n c i:Nat}{ws:List Bs}(h:Lin w g A n c i ws):Calls Tryz.prog 93 #[.pointer (some ⟨g,0,none⟩)] w (LnPost g A n c mtV (matchR ws i) w):=by
 have hlen:=h.len
 rcases took_cases (ws:=ws) (i:=i) (s:=kAny)with⟨h1,h2⟩ | h1
 ·exact match_any h h1 (by unfold matchR;rw[h1];rfl)
 ·have e1:matchR ws i=(fieldR ws i mt0).bind fun r k=>match r.1 with
   |true=>matchL ws (ws.length+1 - k) k r.2
   |false=>(nextR ws k).bind fun _ l=>.no 200 l:=by unfold matchR;rw[h1];rfl
  have hn:=fun W gm (hL:Lns W [g,gm] g A n c i ws) (hb:Blk W gm 66 mt0.cells) (hne:g≠gm)=>field_N hL hb hne (by decide)
  cases hb:(fieldR ws i mt0).val.1 with
  |false=>
   refine match_none (m':=(fieldR ws i mt0).val.2) h h1 hn (by rw[←hb]) (fun W hL=>next_N hL) (no_of e1) fun hp=>?_
   have:=ok_of e1 hp
   rw[hb]at this
   exact this
  |true=>
   refine match_some (m':=(fieldR ws i mt0).val.2) h h1 hn (by rw[←hb]) (no_of e1) fun hp hle=>⟨hle,?_,?_⟩
   ·exact field_asks (b:=(fieldR ws i mt0).val.1) (Out.of_ok hp) (by decide)
   ·have:=ok_of e1 hp
    rw[hb]at this
    exact this
end Go.Proofs.YtnncigmpcdehnaaGreatDoor
