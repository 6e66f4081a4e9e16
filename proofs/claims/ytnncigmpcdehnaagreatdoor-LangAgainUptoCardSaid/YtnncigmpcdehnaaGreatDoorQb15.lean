import Derived.Test.YtnncigmpcdehnaaGreatDoorQb14
namespace Go.Proofs.YtnncigmpcdehnaaGreatDoor
set_option maxRecDepth 100000
open Go.RowKit Go.Lib Go.Sort
def gA(n:Nat):Value:=.int .u64 (n:Int)
theorem km(most:Nat)(hm:most < 18446744073709551616){w:World}{g:Nat}{A:Option Go.Addr}{n c i:Nat}{ws:List Bs}(h:dF w g A n c i ws):Calls Tryz.prog 189 #[.pointer (some ⟨g,0,none⟩),.int .u64 (most:Int)] w (aY g A n c gA (bF most ws i) w):=by
 have e1:bF most ws i=(bj ws i).bind fun x j=>ax (cP most x) 200 (gp x) j:=rfl
 have n1:=fun W (hL:dF W g A n c i ws)=>lX hL
 have hx:(bj ws i).val.length≤100000000:=sA h.sz
 generalize bF most ws i=T at e1 ⊢
 generalize bj ws i=r at e1 n1 hx
 have c9:=kn [] h h.le (aX e1) n1
 have c11f:=fun(_:r.okB=true∧r.pos≤n) W (hW:aw [g] w W)=>nS most hm r.val (by omega) W (h.yq hW)
 have c16f:=fun(hp:r.okB=true∧r.pos≤n)=>kn [.bool (cP most r.val),.int .i64 200] h hp.2 (uP (bH e1 hp.1)) (fun W hL=>ee (cP most r.val) 200 (gp r.val) hL)
 have z2f:=fun(hp:r.okB=true∧r.pos≤n) (hp2:(ax (cP most r.val) 200 (gp r.val) r.pos).okB=true∧(ax (cP most r.val) 200 (gp r.val) r.pos).pos≤n)=>(show uh g A n c gA T (.val (gA (re r.val))) [(g,154,df A n c (ax (cP most r.val) 200 (gp r.val) r.pos).pos)]from by
  have e2:=bH e1 hp.1
  cases hk:cP most r.val with
  |false=>rw[hk]at hp2;cases hp2.1
  |true=>
   rw[hk]at e2
   exact⟨_,_,e2,hp.2,by rw[(rY (ss hm hk)).1],rfl⟩)
 refine cA [.int .u64 (most:Int)] h.bY [(9,.al (cE 0 g A n c r af)),(11,.call (.tuple #[gA (re r.val),.bool (cP most r.val)])),(16,.al (cE 0 g A n c (ax (cP most r.val) 200 (gp r.val) r.pos) fun _=>.tuple #[]))] [] (by kernel_rfl) Tryz.func189 rfl (Nat.le_of_ble_eq_true rfl) ?_
 exact Eq.mp (by kernel_rfl) (And.intro c9 (fun(hx0:r.okB=true∧r.pos≤n)=>(Sx.t2 (c11f hx0) (c16f hx0) (fun(hx1:(ax (cP most r.val) 200 (gp r.val) r.pos).okB=true∧(ax (cP most r.val) 200 (gp r.val) r.pos).pos≤n)=>(z2f hx0 hx1)))))
set_option maxRecDepth 100000
open Go.RowKit Go.Lib Go.Sort
def gC(n:Nat):Value:=.int .i64 (n:Int)
theorem nT{most:Nat}{ws:List Bs}{i v j:Nat}(h:bF most ws i=.ok v j):v≤most:=by
 unfold bF at h
 cases hr:bj ws i with
 |no c p=>rw[hr]at h;cases h
 |ok x k=>
  rw[hr]at h
  simp only[Out.bind]at h
  cases hk:cP most x with
  |false=>rw[hk]at h;cases h
  |true=>
   rw[hk]at h
   injection h with h _
   unfold cP at hk
   rw[Bool.and_eq_true,decide_eq_true_iff]at hk
   omega
theorem BM{α:Type} [Inhabited α]{r:Out α}{n:Nat}(h:r.okB=true∧r.pos≤n):r=.ok r.val r.pos:=Out.BP h.1
theorem sH{w:World}{g:Nat}{A:Option Go.Addr}{n c i:Nat}{ws:List Bs}(h:dF w g A n c i ws):Calls Tryz.prog 186 #[.pointer (some ⟨g,0,none⟩)] w (aY g A n c gC (gQ ws i) w):=by
 have e1:gQ ws i=bF 9223372036854775807 ws i:=rfl
 have n1:=fun W (hL:dF W g A n c i ws)=>km 9223372036854775807 (by omega) hL
 have hle:∀v j,bF 9223372036854775807 ws i=.ok v j→v≤9223372036854775807:=fun v j=>nT
 generalize gQ ws i=T at e1 ⊢
 generalize bF 9223372036854775807 ws i=r at e1 n1 hle
 have c4:=kn [.int .u64 ((9223372036854775807:Nat):Int)] h h.le (uP e1) n1
 have c5f:=fun(hp:r.okB=true∧r.pos≤n)=>(show Value.int .i64 (IntKind.i64.wrap (r.val:Int))=.int .i64 (r.val:Int)from iw (j5 (by omega) (by have:=hle _ _ (BM hp);omega)))
 have z1f:=fun(hp:r.okB=true∧r.pos≤n)=>(show uh g A n c gC T (.val (gC r.val)) [(g,154,df A n c r.pos)]from⟨_,_,by rw[e1];exact BM hp,hp.2,rfl,rfl⟩)
 refine cA [] h.bY [(4,.al (cE 0 g A n c r gA)),(5,.is (gC r.val))] [] (by kernel_rfl) Tryz.func186 rfl (Nat.le_of_ble_eq_true rfl) ?_
 exact Eq.mp (by kernel_rfl) (And.intro c4 (fun(hx0:r.okB=true∧r.pos≤n)=>(And.intro (c5f hx0) (z1f hx0))))
theorem mP{w:World}{g:Nat}{A:Option Go.Addr}{n c i:Nat}{ws:List Bs}(h:dF w g A n c i ws):Calls Tryz.prog 188 #[.pointer (some ⟨g,0,none⟩)] w (aY g A n c af (eh ws i) w):=by
 have e1:eh ws i=(bj ws i).bind fun x j=>ax (aM x) 201 x j:=rfl
 have n1:=fun W (hL:dF W g A n c i ws)=>lX hL
 generalize eh ws i=T at e1 ⊢
 generalize bj ws i=r at e1 n1
 have c5:=kn [] h h.le (aX e1) n1
 have c8f:=fun(_:r.okB=true∧r.pos≤n) W (_:aw [g] w W)=>nV r.val W
 have c9f:=fun(hp:r.okB=true∧r.pos≤n)=>kn [.bool (aM r.val),.int .i64 201] h hp.2 (uP (bH e1 hp.1)) (fun W hL=>ee (aM r.val) 201 r.val hL)
 have z2f:=fun(hp:r.okB=true∧r.pos≤n) (hp2:(ax (aM r.val) 201 r.val r.pos).okB=true∧(ax (aM r.val) 201 r.val r.pos).pos≤n)=>(show uh g A n c af T (.val (af r.val)) [(g,154,df A n c (ax (aM r.val) 201 r.val r.pos).pos)]from by
  have e2:=bH e1 hp.1
  cases hk:aM r.val with
  |false=>rw[hk]at hp2;cases hp2.1
  |true=>rw[hk]at e2;exact⟨_,_,e2,hp.2,rfl,rfl⟩)
 refine cA [] h.bY [(5,.al (cE 0 g A n c r af)),(8,.call (.bool (aM r.val))),(9,.al (cE 0 g A n c (ax (aM r.val) 201 r.val r.pos) fun _=>.tuple #[]))] [] (by kernel_rfl) Tryz.func188 rfl (Nat.le_of_ble_eq_true rfl) ?_
 exact Eq.mp (by kernel_rfl) (And.intro c5 (fun(hx0:r.okB=true∧r.pos≤n)=>(Sx.t2 (c8f hx0) (c9f hx0) (fun(hx1:(ax (aM r.val) 201 r.val r.pos).okB=true∧(ax (aM r.val) 201 r.val r.pos).pos≤n)=>(z2f hx0 hx1)))))
open Go.RowKit Go.Lib Go.Sort
structure RS where
 at_:Nat
 e:Nat
abbrev RA(α:Type):=RS→α×RS
def BE{α β:Type}(q:RA α)(h:α→RA β):RA β:=fun st=>h (q st).1 (q st).2
def MW{α:Type}(a:α):RA α:=fun st=>(a,st)
def zR(code:Nat)(st:RS):RS:=match Nat.beq st.e 0 with
 |true=>⟨st.at_ - 1,code⟩
 |false=>st
def MY{α:Type}(ok:Bool)(code:Nat)(a:α):RA α:=fun st=>(a,match ok with
 |true=>st
 |false=>zR code st)
def Fe(ws:List Bs):RA Bs:=fun st=>match Nat.beq st.e 0 with
 |true=>match ws[st.at_]? with
  |some x=>(x,⟨st.at_+1,0⟩)
  |none=>([],⟨st.at_,200⟩)
 |false=>([],st)
def Lu(ws:List Bs)(s:Bs)(st:RS):Bool:=Nat.beq st.e 0&&decide (ws[st.at_]?=some s)
structure Bf{α:Type}(L:Nat)(r:Nat→Out α)(q:RA α):Prop where
 run:∀i,i≤L→match r i with
  |.ok a j=>q ⟨i,0⟩=(a,⟨j,0⟩)∧j≤L
  |.no c p=>c≠0∧(q ⟨i,0⟩).2=⟨p - 1,c⟩
 stay:∀st:RS,st.e≠0→(q st).2=st
theorem Bf.bind{α β:Type}{L:Nat}{r:Nat→Out α}{q:RA α}{f:α→Nat→Out β}{h:α→RA β}(H:Bf L r q)(H2:∀a,Bf L (f a) (h a)):Bf L (fun i=>(r i).bind f) (BE q h):=by
 refine⟨fun i hi=>?_,fun st hs=>?_⟩
 ·have h1:=H.run i hi
  cases hr:r i with
  |ok a j=>
   rw[hr]at h1
   have h2:=(H2 a).run j h1.2
   simp only[Out.bind]
   unfold BE
   rw[h1.1]
   exact h2
  |no c p=>
   rw[hr]at h1
   simp only[Out.bind]
   refine⟨h1.1,?_⟩
   unfold BE
   rw[(H2 _).stay _ (by rw[h1.2];exact h1.1),h1.2]
 ·unfold BE
  have:=H.stay st hs
  rw[(H2 _).stay _ (by rw[this];exact hs),this]
theorem xD{code:Nat}{st:RS}(h:st.e≠0):zR code st=st:=by
 unfold zR
 cases hb:Nat.beq st.e 0 with
 |true=>exact absurd (Nat.eq_of_beq_eq_true hb) h
 |false=>rfl
theorem Bf.NO{α:Type}{L:Nat}{ok:Bool}{code:Nat}{a a':α}(hc:code≠0)(h:ok=true→a'=a):Bf L (ax ok code a) (MY ok code a'):=by
 refine⟨fun i hi=>?_,fun st hs=>?_⟩
 ·cases ok with
  |true=>exact⟨by simp only[MY,h rfl],hi⟩
  |false=>exact⟨hc,rfl⟩
 ·cases ok with
  |true=>rfl
  |false=>exact xD hs
theorem Bf.pure{α:Type}{L:Nat}(a:α):Bf L (fun i=>.ok a i) (MW a):=⟨fun _ hi=>⟨rfl,hi⟩,fun _ _=>rfl⟩
theorem Bf.congr{α:Type}{L:Nat}{r r':Nat→Out α}{q q':RA α}(h:Bf L r q)(hr:∀i,r' i=r i)(hq:∀st,q' st=q st):Bf L r' q':=by
 have e1:r'=r:=funext hr
 have e2:q'=q:=funext hq
 rw[e1,e2];exact h
theorem Fg{ws:List Bs}{s:Bs}{st:RS}(h:st.e≠0):Lu ws s st=false:=by
 unfold Lu
 cases hb:Nat.beq st.e 0 with
 |true=>exact absurd (Nat.eq_of_beq_eq_true hb) h
 |false=>rfl
theorem Bf.EH{α:Type}{ws:List Bs}{s:Bs}{f:Bool→Nat→Out α}{h h':RA α}(H:Bf ws.length (f true) h)(H':Bf ws.length (f false) h') :
  Bf ws.length (fun i=>(cM ws i s).bind f) (fun st=>match Lu ws s st with|true=>h (Fe ws st).2|false=>h' st):=by
 refine⟨fun i hl=>?_,fun st hs=>?_⟩
 ·by_cases hi:ws[i]?=some s
  ·have e1:cM ws i s=.ok true (i+1):=by unfold cM;rw[if_pos hi]
   have e2:Lu ws s ⟨i,0⟩=true:=by unfold Lu;simp[hi]
   have e3:(Fe ws ⟨i,0⟩).2=⟨i+1,0⟩:=by unfold Fe;simp[hi]
   rw[e1];simp only[e2,e3,Out.bind]
   exact H.run _ (List.getElem?_eq_some_iff.1 hi).1
  ·have e1:cM ws i s=.ok false i:=by unfold cM;rw[if_neg hi]
   have e2:Lu ws s ⟨i,0⟩=false:=by unfold Lu;simp[hi]
   rw[e1];simp only[e2,Out.bind]
   exact H'.run _ hl
 ·simp only[Fg hs];exact H'.stay st hs
open Go.RowKit Go.Lib Go.Sort
def One{α:Type}(ws:List Bs)(r:Nat→Out α):Prop:=∀i a j,r i=.ok a j→j=i+1∧j≤ws.length
theorem FN(ws:List Bs):One ws (bj ws):=by
 intro i a j h
 unfold bj at h
 split at h
 ·rename_i x hx
  injection h with h1 h2
  have:=(List.getElem?_eq_some_iff.1 hx).1
  omega
 ·cases h
theorem One.NO{α:Type}{ws:List Bs}{f:Bs→Nat→Out α}(h:∀x j a k,f x j=.ok a k→k=j):One ws (fun i=>(bj ws i).bind f):=by
 intro i a j hj
 cases hr:bj ws i with
 |ok x k=>
  simp only[hr,Out.bind]at hj
  have:=FN ws i x k hr
  rw[h x k a j hj]
  exact this
 |no c p=>simp only[hr,Out.bind]at hj;cases hj
theorem ry{α:Type}{b:Bool}{code:Nat}{a a':α}{i j:Nat}(h:ax b code a i=.ok a' j):j=i:=by
 cases b with
 |true=>injection h with _ h;exact h.symm
 |false=>cases h
theorem Ac(most:Nat)(ws:List Bs):One ws (bF most ws):=One.NO fun _ _ _ _ h=>ry h
theorem sd(ws:List Bs):One ws (iH ws):=One.NO fun _ _ _ _ h=>ry h
theorem sf(ws:List Bs):One ws (dA ws):=One.NO fun _ _ _ _ h=>ry h
theorem fe{ws:List Bs}{i:Nat}{s:Bs}:(cM ws i s=.ok true (i+1)∧i+1≤ws.length)∨cM ws i s=.ok false i:=by
 unfold cM
 split
 ·rename_i h
  have:=(List.getElem?_eq_some_iff.1 h).1
  exact .inl ⟨rfl,this⟩
 ·exact .inr rfl
theorem Di(ws:List Bs):One ws (eg ws):=by
 intro i a j h
 unfold eg at h
 rcases fe (ws:=ws) (i:=i) (s:=oZ)with⟨h1,h2⟩ | h1
 ·simp only[h1,Out.bind]at h
  injection h with _ h
  omega
 ·simp only[h1,Out.bind]at h
  rcases fe (ws:=ws) (i:=i) (s:=p9)with⟨h3,h4⟩ | h3
  ·simp only[h3]at h
   injection h with _ h
   omega
  ·simp only[h3]at h
   exact Ac 255 ws i a j h
theorem One.map{α β:Type}{ws:List Bs}{r:Nat→Out α}{f:α→β}(h:One ws r):One ws (fun i=>(r i).bind fun a j=>.ok (f a) j):=by
 intro i b j hj
 cases hr:r i with
 |ok x k=>
  simp only[hr,Out.bind]at hj
  injection hj with _ hj
  rw[←hj]
  exact h i x k hr
 |no c p=>simp only[hr,Out.bind]at hj;cases hj
theorem Dh(k:Nat)(m:Mt)(ws:List Bs):One ws (bA k m ws):=by
 unfold bA
 split
 ·exact(sd ws).map
 ·exact(sf ws).map
 ·exact(sf ws).map
 ·exact(Di ws).map
 ·exact(sd ws).map
 ·exact(sd ws).map
theorem vf{ws:List Bs}{i:Nat}{m m':Mt}{j:Nat}(h:bB ws i m=.ok (true,m') j):j=i+2∧j≤ws.length:=by
 unfold bB at h
 split at h
 ·cases h
 ·rename_i x hx
  split at h
  ·cases h
  ·rename_i k hk
   split at h
   ·cases h
   ·cases hr:bA k { m with asks:=m.asks|||2^k } ws (i+1)with
    |ok a l=>
     simp only[hr,Out.bind]at h
     injection h with h1 h2
     have:=Dh _ _ _ _ _ _ hr
     omega
    |no c p=>simp only[hr,Out.bind]at h;cases h
theorem qz(ws:List Bs):∀(f f' i:Nat) (m:Mt),ws.length+1 - i≤f→ws.length+1 - i≤f'→i≤ws.length→ey ws f i m=ey ws f' i m
 | 0,_,i,m,h,_,hi=>by omega
 |_+1,0,i,m,_,h,hi=>by omega
 |f+1,f'+1,i,m,h1,h2,hi=>by
  unfold ey
  cases hr:bB ws i m with
  |no c p=>rfl
  |ok r j=>
   obtain⟨b,m'⟩:=r
   cases b with
   |false=>rfl
   |true=>
    simp only[Out.bind]
    have:=vf hr
    exact qz ws f f' j m' (by omega) (by omega) this.2
end Go.Proofs.YtnncigmpcdehnaaGreatDoor
