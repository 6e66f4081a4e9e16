import Derived.Test.YtnncigmpcdehnaaGreatDoorQc14
namespace Go.Proofs.YtnncigmpcdehnaaGreatDoor
set_option maxRecDepth 100000
open Go.RowKit Go.Lib Go.Sort
def gu(n:Nat):Value:=.int .u64 (n:Int)
theorem ki(most:Nat)(hm:most < 18446744073709551616){w:World}{g:Nat}{A:Option Go.Addr}{n c i:Nat}{ws:List Bs}(h:dw w g A n c i ws):Calls Tryz.prog 189 #[.pointer (some ⟨g,0,none⟩),.int .u64 (most:Int)] w (aO g A n c gu (bw most ws i) w):=by
 have e1:bw most ws i=(aY ws i).bind fun x j=>ak (cI most x) 200 (gf x) j:=rfl
 have n1:=fun W (hL:dw W g A n c i ws)=>lY hL
 have hx:(aY ws i).val.length≤100000000:=sA h.sz
 generalize bw most ws i=T at e1 ⊢
 generalize aY ws i=r at e1 n1 hx
 have c9:=kj [] h h.le (aM e1) n1
 have c11f:=fun(_:r.okB=true∧r.pos≤n) W (hW:ah [g] w W)=>nO most hm r.val (by omega) W (h.yp hW)
 have c16f:=fun(hp:r.okB=true∧r.pos≤n)=>kj [.bool (cI most r.val),.int .i64 200] h hp.2 (uG (bu e1 hp.1)) (fun W hL=>dV (cI most r.val) 200 (gf r.val) hL)
 have z2f:=fun(hp:r.okB=true∧r.pos≤n) (hp2:(ak (cI most r.val) 200 (gf r.val) r.pos).okB=true∧(ak (cI most r.val) 200 (gf r.val) r.pos).pos≤n)=>(show ud g A n c gu T (.val (gu (qU r.val))) [(g,154,cW A n c (ak (cI most r.val) 200 (gf r.val) r.pos).pos)]from by
  have e2:=bu e1 hp.1
  cases hk:cI most r.val with
  |false=>rw[hk]at hp2;cases hp2.1
  |true=>
   rw[hk]at e2
   exact⟨_,_,e2,hp.2,by rw[(rW (sq hm hk)).1],rfl⟩)
 refine cw [.int .u64 (most:Int)] h.bM [(9,.ai (cB 0 g A n c r ab)),(11,.call (.tuple #[gu (qU r.val),.bool (cI most r.val)])),(16,.ai (cB 0 g A n c (ak (cI most r.val) 200 (gf r.val) r.pos) fun _=>.tuple #[]))] [] (by kernel_rfl) Tryz.func189 rfl (Nat.le_of_ble_eq_true rfl) ?_
 exact Eq.mp (by kernel_rfl) (And.intro c9 (fun(hx0:r.okB=true∧r.pos≤n)=>(Sx.t2 (c11f hx0) (c16f hx0) (fun(hx1:(ak (cI most r.val) 200 (gf r.val) r.pos).okB=true∧(ak (cI most r.val) 200 (gf r.val) r.pos).pos≤n)=>(z2f hx0 hx1)))))
set_option maxRecDepth 100000
open Go.RowKit Go.Lib Go.Sort
def gx(n:Nat):Value:=.int .i64 (n:Int)
theorem At{most:Nat}{ws:List Bs}{i v j:Nat}(h:bw most ws i=.ok v j):v≤most:=by
 unfold bw at h
 cases hr:aY ws i with
 |no c p=>rw[hr]at h;cases h
 |ok x k=>
  rw[hr]at h
  simp only[Out.bind]at h
  cases hk:cI most x with
  |false=>rw[hk]at h;cases h
  |true=>
   rw[hk]at h
   injection h with h _
   unfold cI at hk
   rw[Bool.and_eq_true,decide_eq_true_iff]at hk
   omega
theorem Cj{α:Type} [Inhabited α]{r:Out α}{n:Nat}(h:r.okB=true∧r.pos≤n):r=.ok r.val r.pos:=Out.xP h.1
theorem sI{w:World}{g:Nat}{A:Option Go.Addr}{n c i:Nat}{ws:List Bs}(h:dw w g A n c i ws):Calls Tryz.prog 186 #[.pointer (some ⟨g,0,none⟩)] w (aO g A n c gx (ic ws i) w):=by
 have e1:ic ws i=bw 9223372036854775807 ws i:=rfl
 have n1:=fun W (hL:dw W g A n c i ws)=>ki 9223372036854775807 (by omega) hL
 have hle:∀v j,bw 9223372036854775807 ws i=.ok v j→v≤9223372036854775807:=fun v j=>At
 generalize ic ws i=T at e1 ⊢
 generalize bw 9223372036854775807 ws i=r at e1 n1 hle
 have c4:=kj [.int .u64 ((9223372036854775807:Nat):Int)] h h.le (uG e1) n1
 have c5f:=fun(hp:r.okB=true∧r.pos≤n)=>(show Value.int .i64 (IntKind.i64.wrap (r.val:Int))=.int .i64 (r.val:Int)from iw (jR (by omega) (by have:=hle _ _ (Cj hp);omega)))
 have z1f:=fun(hp:r.okB=true∧r.pos≤n)=>(show ud g A n c gx T (.val (gx r.val)) [(g,154,cW A n c r.pos)]from⟨_,_,by rw[e1];exact Cj hp,hp.2,rfl,rfl⟩)
 refine cw [] h.bM [(4,.ai (cB 0 g A n c r gu)),(5,.is (gx r.val))] [] (by kernel_rfl) Tryz.func186 rfl (Nat.le_of_ble_eq_true rfl) ?_
 exact Eq.mp (by kernel_rfl) (And.intro c4 (fun(hx0:r.okB=true∧r.pos≤n)=>(And.intro (c5f hx0) (z1f hx0))))
theorem mV{w:World}{g:Nat}{A:Option Go.Addr}{n c i:Nat}{ws:List Bs}(h:dw w g A n c i ws):Calls Tryz.prog 188 #[.pointer (some ⟨g,0,none⟩)] w (aO g A n c ab (ed ws i) w):=by
 have e1:ed ws i=(aY ws i).bind fun x j=>ak (aG x) 201 x j:=rfl
 have n1:=fun W (hL:dw W g A n c i ws)=>lY hL
 generalize ed ws i=T at e1 ⊢
 generalize aY ws i=r at e1 n1
 have c5:=kj [] h h.le (aM e1) n1
 have c8f:=fun(_:r.okB=true∧r.pos≤n) W (_:ah [g] w W)=>nQ r.val W
 have c9f:=fun(hp:r.okB=true∧r.pos≤n)=>kj [.bool (aG r.val),.int .i64 201] h hp.2 (uG (bu e1 hp.1)) (fun W hL=>dV (aG r.val) 201 r.val hL)
 have z2f:=fun(hp:r.okB=true∧r.pos≤n) (hp2:(ak (aG r.val) 201 r.val r.pos).okB=true∧(ak (aG r.val) 201 r.val r.pos).pos≤n)=>(show ud g A n c ab T (.val (ab r.val)) [(g,154,cW A n c (ak (aG r.val) 201 r.val r.pos).pos)]from by
  have e2:=bu e1 hp.1
  cases hk:aG r.val with
  |false=>rw[hk]at hp2;cases hp2.1
  |true=>rw[hk]at e2;exact⟨_,_,e2,hp.2,rfl,rfl⟩)
 refine cw [] h.bM [(5,.ai (cB 0 g A n c r ab)),(8,.call (.bool (aG r.val))),(9,.ai (cB 0 g A n c (ak (aG r.val) 201 r.val r.pos) fun _=>.tuple #[]))] [] (by kernel_rfl) Tryz.func188 rfl (Nat.le_of_ble_eq_true rfl) ?_
 exact Eq.mp (by kernel_rfl) (And.intro c5 (fun(hx0:r.okB=true∧r.pos≤n)=>(Sx.t2 (c8f hx0) (c9f hx0) (fun(hx1:(ak (aG r.val) 201 r.val r.pos).okB=true∧(ak (aG r.val) 201 r.val r.pos).pos≤n)=>(z2f hx0 hx1)))))
open Go.RowKit Go.Lib Go.Sort
structure RS where
 at_:Nat
 e:Nat
abbrev RA(α:Type):=RS→α×RS
def B9{α β:Type}(q:RA α)(h:α→RA β):RA β:=fun st=>h (q st).1 (q st).2
def NR{α:Type}(a:α):RA α:=fun st=>(a,st)
def Ab(code:Nat)(st:RS):RS:=match Nat.beq st.e 0 with
 |true=>⟨st.at_ - 1,code⟩
 |false=>st
def NZ{α:Type}(ok:Bool)(code:Nat)(a:α):RA α:=fun st=>(a,match ok with
 |true=>st
 |false=>Ab code st)
def FD(ws:List Bs):RA Bs:=fun st=>match Nat.beq st.e 0 with
 |true=>match ws[st.at_]? with
  |some x=>(x,⟨st.at_+1,0⟩)
  |none=>([],⟨st.at_,200⟩)
 |false=>([],st)
def Mf(ws:List Bs)(s:Bs)(st:RS):Bool:=Nat.beq st.e 0&&decide (ws[st.at_]?=some s)
structure By{α:Type}(L:Nat)(r:Nat→Out α)(q:RA α):Prop where
 run:∀i,i≤L→match r i with
  |.ok a j=>q ⟨i,0⟩=(a,⟨j,0⟩)∧j≤L
  |.no c p=>c≠0∧(q ⟨i,0⟩).2=⟨p - 1,c⟩
 stay:∀st:RS,st.e≠0→(q st).2=st
theorem By.bind{α β:Type}{L:Nat}{r:Nat→Out α}{q:RA α}{f:α→Nat→Out β}{h:α→RA β}(H:By L r q)(H2:∀a,By L (f a) (h a)):By L (fun i=>(r i).bind f) (B9 q h):=by
 refine⟨fun i hi=>?_,fun st hs=>?_⟩
 ·have h1:=H.run i hi
  cases hr:r i with
  |ok a j=>
   rw[hr]at h1
   have h2:=(H2 a).run j h1.2
   simp only[Out.bind]
   unfold B9
   rw[h1.1]
   exact h2
  |no c p=>
   rw[hr]at h1
   simp only[Out.bind]
   refine⟨h1.1,?_⟩
   unfold B9
   rw[(H2 _).stay _ (by rw[h1.2];exact h1.1),h1.2]
 ·unfold B9
  have:=H.stay st hs
  rw[(H2 _).stay _ (by rw[this];exact hs),this]
theorem xz{code:Nat}{st:RS}(h:st.e≠0):Ab code st=st:=by
 unfold Ab
 cases hb:Nat.beq st.e 0 with
 |true=>exact absurd (Nat.eq_of_beq_eq_true hb) h
 |false=>rfl
theorem By.O6{α:Type}{L:Nat}{ok:Bool}{code:Nat}{a a':α}(hc:code≠0)(h:ok=true→a'=a):By L (ak ok code a) (NZ ok code a'):=by
 refine⟨fun i hi=>?_,fun st hs=>?_⟩
 ·cases ok with
  |true=>exact⟨by simp only[NZ,h rfl],hi⟩
  |false=>exact⟨hc,rfl⟩
 ·cases ok with
  |true=>rfl
  |false=>exact xz hs
theorem By.pure{α:Type}{L:Nat}(a:α):By L (fun i=>.ok a i) (NR a):=⟨fun _ hi=>⟨rfl,hi⟩,fun _ _=>rfl⟩
theorem By.congr{α:Type}{L:Nat}{r r':Nat→Out α}{q q':RA α}(h:By L r q)(hr:∀i,r' i=r i)(hq:∀st,q' st=q st):By L r' q':=by
 have e1:r'=r:=funext hr
 have e2:q'=q:=funext hq
 rw[e1,e2];exact h
theorem FI{ws:List Bs}{s:Bs}{st:RS}(h:st.e≠0):Mf ws s st=false:=by
 unfold Mf
 cases hb:Nat.beq st.e 0 with
 |true=>exact absurd (Nat.eq_of_beq_eq_true hb) h
 |false=>rfl
theorem By.Fg{α:Type}{ws:List Bs}{s:Bs}{f:Bool→Nat→Out α}{h h':RA α}(H:By ws.length (f true) h)(H':By ws.length (f false) h') :
  By ws.length (fun i=>(cH ws i s).bind f) (fun st=>match Mf ws s st with|true=>h (FD ws st).2|false=>h' st):=by
 refine⟨fun i hl=>?_,fun st hs=>?_⟩
 ·by_cases hi:ws[i]?=some s
  ·have e1:cH ws i s=.ok true (i+1):=by unfold cH;rw[if_pos hi]
   have e2:Mf ws s ⟨i,0⟩=true:=by unfold Mf;simp[hi]
   have e3:(FD ws ⟨i,0⟩).2=⟨i+1,0⟩:=by unfold FD;simp[hi]
   rw[e1];simp only[e2,e3,Out.bind]
   exact H.run _ (List.getElem?_eq_some_iff.1 hi).1
  ·have e1:cH ws i s=.ok false i:=by unfold cH;rw[if_neg hi]
   have e2:Mf ws s ⟨i,0⟩=false:=by unfold Mf;simp[hi]
   rw[e1];simp only[e2,Out.bind]
   exact H'.run _ hl
 ·simp only[FI hs];exact H'.stay st hs
open Go.RowKit Go.Lib Go.Sort
def One{α:Type}(ws:List Bs)(r:Nat→Out α):Prop:=∀i a j,r i=.ok a j→j=i+1∧j≤ws.length
theorem Gb(ws:List Bs):One ws (aY ws):=by
 intro i a j h
 unfold aY at h
 split at h
 ·rename_i x hx
  injection h with h1 h2
  have:=(List.getElem?_eq_some_iff.1 hx).1
  omega
 ·cases h
theorem One.O6{α:Type}{ws:List Bs}{f:Bs→Nat→Out α}(h:∀x j a k,f x j=.ok a k→k=j):One ws (fun i=>(aY ws i).bind f):=by
 intro i a j hj
 cases hr:aY ws i with
 |ok x k=>
  simp only[hr,Out.bind]at hj
  have:=Gb ws i x k hr
  rw[h x k a j hj]
  exact this
 |no c p=>simp only[hr,Out.bind]at hj;cases hj
theorem rh{α:Type}{b:Bool}{code:Nat}{a a':α}{i j:Nat}(h:ak b code a i=.ok a' j):j=i:=by
 cases b with
 |true=>injection h with _ h;exact h.symm
 |false=>cases h
theorem Aq(most:Nat)(ws:List Bs):One ws (bw most ws):=One.O6 fun _ _ _ _ h=>rh h
theorem sa(ws:List Bs):One ws (iC ws):=One.O6 fun _ _ _ _ h=>rh h
theorem sb(ws:List Bs):One ws (dD ws):=One.O6 fun _ _ _ _ h=>rh h
theorem eY{ws:List Bs}{i:Nat}{s:Bs}:(cH ws i s=.ok true (i+1)∧i+1≤ws.length)∨cH ws i s=.ok false i:=by
 unfold cH
 split
 ·rename_i h
  have:=(List.getElem?_eq_some_iff.1 h).1
  exact .inl ⟨rfl,this⟩
 ·exact .inr rfl
theorem DM(ws:List Bs):One ws (dX ws):=by
 intro i a j h
 unfold dX at h
 rcases eY (ws:=ws) (i:=i) (s:=oQ)with⟨h1,h2⟩ | h1
 ·simp only[h1,Out.bind]at h
  injection h with _ h
  omega
 ·simp only[h1,Out.bind]at h
  rcases eY (ws:=ws) (i:=i) (s:=pY)with⟨h3,h4⟩ | h3
  ·simp only[h3]at h
   injection h with _ h
   omega
  ·simp only[h3]at h
   exact Aq 255 ws i a j h
theorem One.map{α β:Type}{ws:List Bs}{r:Nat→Out α}{f:α→β}(h:One ws r):One ws (fun i=>(r i).bind fun a j=>.ok (f a) j):=by
 intro i b j hj
 cases hr:r i with
 |ok x k=>
  simp only[hr,Out.bind]at hj
  injection hj with _ hj
  rw[←hj]
  exact h i x k hr
 |no c p=>simp only[hr,Out.bind]at hj;cases hj
theorem DL(k:Nat)(m:Mt)(ws:List Bs):One ws (br k m ws):=by
 unfold br
 split
 ·exact(sa ws).map
 ·exact(sb ws).map
 ·exact(sb ws).map
 ·exact(DM ws).map
 ·exact(sa ws).map
 ·exact(sa ws).map
theorem u2{ws:List Bs}{i:Nat}{m m':Mt}{j:Nat}(h:bp ws i m=.ok (true,m') j):j=i+2∧j≤ws.length:=by
 unfold bp at h
 split at h
 ·cases h
 ·rename_i x hx
  split at h
  ·cases h
  ·rename_i k hk
   split at h
   ·cases h
   ·cases hr:br k { m with asks:=m.asks|||2^k } ws (i+1)with
    |ok a l=>
     simp only[hr,Out.bind]at h
     injection h with h1 h2
     have:=DL _ _ _ _ _ _ hr
     omega
    |no c p=>simp only[hr,Out.bind]at h;cases h
theorem qt(ws:List Bs):∀(f f' i:Nat) (m:Mt),ws.length+1 - i≤f→ws.length+1 - i≤f'→i≤ws.length→ei ws f i m=ei ws f' i m
 | 0,_,i,m,h,_,hi=>by omega
 |_+1,0,i,m,_,h,hi=>by omega
 |f+1,f'+1,i,m,h1,h2,hi=>by
  unfold ei
  cases hr:bp ws i m with
  |no c p=>rfl
  |ok r j=>
   obtain⟨b,m'⟩:=r
   cases b with
   |false=>rfl
   |true=>
    simp only[Out.bind]
    have:=u2 hr
    exact qt ws f f' j m' (by omega) (by omega) this.2
end Go.Proofs.YtnncigmpcdehnaaGreatDoor
