import Derived.Test.YtnncigmpcdehnaaGreatDoorQd16
namespace Go.Proofs.YtnncigmpcdehnaaGreatDoor
set_option maxRecDepth 100000
open Go.RowKit Go.Lib Go.Sort
def kS(n:Nat):Value:=.int .u64 (n:Int)
theorem ki(most:Nat)(hm:most < 18446744073709551616){w:World}{g:Nat}{A:Option Go.Addr}{n c i:Nat}{ws:List Bs}(h:dX w g A n c i ws):Calls Tryz.prog 189 #[.pointer (some ⟨g,0,none⟩),.int .u64 (most:Int)] w (bM g A n c kS (bn most ws i) w):=by
 have e1:bn most ws i=(aR ws i).bind fun x j=>ax (cD most x) 200 (gh x) j:=rfl
 have n1:=fun W (hL:dX W g A n c i ws)=>mb hL
 have hx:(aR ws i).val.length≤100000000:=sJ h.sz
 generalize bn most ws i=T at e1 ⊢
 generalize aR ws i=r at e1 n1 hx
 have c9:=kj [] h h.le (bY e1) n1
 have c11f:=fun(_:r.okB=true∧r.pos≤n) W (hW:ag [g] w W)=>n9 most hm r.val (by omega) W (h.yK hW)
 have c16f:=fun(hp:r.okB=true∧r.pos≤n)=>kj [.bool (cD most r.val),.int .i64 200] h hp.2 (uL (bS e1 hp.1)) (fun W hL=>gD (cD most r.val) 200 (gh r.val) hL)
 have z2f:=fun(hp:r.okB=true∧r.pos≤n) (hp2:(ax (cD most r.val) 200 (gh r.val) r.pos).okB=true∧(ax (cD most r.val) 200 (gh r.val) r.pos).pos≤n)=>(show xu g A n c kS T (.val (kS (rm r.val))) [(g,154,dr A n c (ax (cD most r.val) 200 (gh r.val) r.pos).pos)]from by
  have e2:=bS e1 hp.1
  cases hk:cD most r.val with
  |false=>rw[hk]at hp2;cases hp2.1
  |true=>
   rw[hk]at e2
   exact⟨_,_,e2,hp.2,by rw[(sh (sF hm hk)).1],rfl⟩)
 refine cP [.int .u64 (most:Int)] h.bZ [(9,.an (eo 0 g A n c r ab)),(11,.call (.tuple #[kS (rm r.val),.bool (cD most r.val)])),(16,.an (eo 0 g A n c (ax (cD most r.val) 200 (gh r.val) r.pos) fun _=>.tuple #[]))] [] (by kernel_rfl) Tryz.func189 rfl (Nat.le_of_ble_eq_true rfl) ?_
 exact Eq.mp (by kernel_rfl) (And.intro c9 (fun(hx0:r.okB=true∧r.pos≤n)=>(Sx.t2 (c11f hx0) (c16f hx0) (fun(hx1:(ax (cD most r.val) 200 (gh r.val) r.pos).okB=true∧(ax (cD most r.val) 200 (gh r.val) r.pos).pos≤n)=>(z2f hx0 hx1)))))
set_option maxRecDepth 100000
open Go.RowKit Go.Lib Go.Sort
def pn(n:Nat):Value:=.int .i64 (n:Int)
theorem AP{most:Nat}{ws:List Bs}{i v j:Nat}(h:bn most ws i=.ok v j):v≤most:=by
 unfold bn at h
 cases hr:aR ws i with
 |no c p=>rw[hr]at h;cases h
 |ok x k=>
  rw[hr]at h
  simp only[Out.bind]at h
  cases hk:cD most x with
  |false=>rw[hk]at h;cases h
  |true=>
   rw[hk]at h
   injection h with h _
   unfold cD at hk
   rw[Bool.and_eq_true,decide_eq_true_iff]at hk
   omega
theorem Co{α:Type} [Inhabited α]{r:Out α}{n:Nat}(h:r.okB=true∧r.pos≤n):r=.ok r.val r.pos:=Out.Cr h.1
theorem sS{w:World}{g:Nat}{A:Option Go.Addr}{n c i:Nat}{ws:List Bs}(h:dX w g A n c i ws):Calls Tryz.prog 186 #[.pointer (some ⟨g,0,none⟩)] w (bM g A n c pn (il ws i) w):=by
 have e1:il ws i=bn 9223372036854775807 ws i:=rfl
 have n1:=fun W (hL:dX W g A n c i ws)=>ki 9223372036854775807 (by omega) hL
 have hle:∀v j,bn 9223372036854775807 ws i=.ok v j→v≤9223372036854775807:=fun v j=>AP
 generalize il ws i=T at e1 ⊢
 generalize bn 9223372036854775807 ws i=r at e1 n1 hle
 have c4:=kj [.int .u64 ((9223372036854775807:Nat):Int)] h h.le (uL e1) n1
 have c5f:=fun(hp:r.okB=true∧r.pos≤n)=>(show Value.int .i64 (IntKind.i64.wrap (r.val:Int))=.int .i64 (r.val:Int)from iw (gE (by omega) (by have:=hle _ _ (Co hp);omega)))
 have z1f:=fun(hp:r.okB=true∧r.pos≤n)=>(show xu g A n c pn T (.val (pn r.val)) [(g,154,dr A n c r.pos)]from⟨_,_,by rw[e1];exact Co hp,hp.2,rfl,rfl⟩)
 refine cP [] h.bZ [(4,.an (eo 0 g A n c r kS)),(5,.is (pn r.val))] [] (by kernel_rfl) Tryz.func186 rfl (Nat.le_of_ble_eq_true rfl) ?_
 exact Eq.mp (by kernel_rfl) (And.intro c4 (fun(hx0:r.okB=true∧r.pos≤n)=>(And.intro (c5f hx0) (z1f hx0))))
theorem pb{w:World}{g:Nat}{A:Option Go.Addr}{n c i:Nat}{ws:List Bs}(h:dX w g A n c i ws):Calls Tryz.prog 188 #[.pointer (some ⟨g,0,none⟩)] w (bM g A n c ab (fG ws i) w):=by
 have e1:fG ws i=(aR ws i).bind fun x j=>ax (aE x) 201 x j:=rfl
 have n1:=fun W (hL:dX W g A n c i ws)=>mb hL
 generalize fG ws i=T at e1 ⊢
 generalize aR ws i=r at e1 n1
 have c5:=kj [] h h.le (bY e1) n1
 have c8f:=fun(_:r.okB=true∧r.pos≤n) W (_:ag [g] w W)=>od r.val W
 have c9f:=fun(hp:r.okB=true∧r.pos≤n)=>kj [.bool (aE r.val),.int .i64 201] h hp.2 (uL (bS e1 hp.1)) (fun W hL=>gD (aE r.val) 201 r.val hL)
 have z2f:=fun(hp:r.okB=true∧r.pos≤n) (hp2:(ax (aE r.val) 201 r.val r.pos).okB=true∧(ax (aE r.val) 201 r.val r.pos).pos≤n)=>(show xu g A n c ab T (.val (ab r.val)) [(g,154,dr A n c (ax (aE r.val) 201 r.val r.pos).pos)]from by
  have e2:=bS e1 hp.1
  cases hk:aE r.val with
  |false=>rw[hk]at hp2;cases hp2.1
  |true=>rw[hk]at e2;exact⟨_,_,e2,hp.2,rfl,rfl⟩)
 refine cP [] h.bZ [(5,.an (eo 0 g A n c r ab)),(8,.call (.bool (aE r.val))),(9,.an (eo 0 g A n c (ax (aE r.val) 201 r.val r.pos) fun _=>.tuple #[]))] [] (by kernel_rfl) Tryz.func188 rfl (Nat.le_of_ble_eq_true rfl) ?_
 exact Eq.mp (by kernel_rfl) (And.intro c5 (fun(hx0:r.okB=true∧r.pos≤n)=>(Sx.t2 (c8f hx0) (c9f hx0) (fun(hx1:(ax (aE r.val) 201 r.val r.pos).okB=true∧(ax (aE r.val) 201 r.val r.pos).pos≤n)=>(z2f hx0 hx1)))))
open Go.RowKit Go.Lib Go.Sort
structure RS where
 at_:Nat
 e:Nat
abbrev RA(α:Type):=RS→α×RS
def Ce{α β:Type}(q:RA α)(h:α→RA β):RA β:=fun st=>h (q st).1 (q st).2
def NM{α:Type}(a:α):RA α:=fun st=>(a,st)
def Aw(code:Nat)(st:RS):RS:=match Nat.beq st.e 0 with
 |true=>⟨st.at_ - 1,code⟩
 |false=>st
def NQ{α:Type}(ok:Bool)(code:Nat)(a:α):RA α:=fun st=>(a,match ok with
 |true=>st
 |false=>Aw code st)
def FO(ws:List Bs):RA Bs:=fun st=>match Nat.beq st.e 0 with
 |true=>match ws[st.at_]? with
  |some x=>(x,⟨st.at_+1,0⟩)
  |none=>([],⟨st.at_,200⟩)
 |false=>([],st)
def Mc(ws:List Bs)(s:Bs)(st:RS):Bool:=Nat.beq st.e 0&&decide (ws[st.at_]?=some s)
structure BI{α:Type}(L:Nat)(r:Nat→Out α)(q:RA α):Prop where
 run:∀i,i≤L→match r i with
  |.ok a j=>q ⟨i,0⟩=(a,⟨j,0⟩)∧j≤L
  |.no c p=>c≠0∧(q ⟨i,0⟩).2=⟨p - 1,c⟩
 stay:∀st:RS,st.e≠0→(q st).2=st
theorem BI.bind{α β:Type}{L:Nat}{r:Nat→Out α}{q:RA α}{f:α→Nat→Out β}{h:α→RA β}(H:BI L r q)(H2:∀a,BI L (f a) (h a)):BI L (fun i=>(r i).bind f) (Ce q h):=by
 refine⟨fun i hi=>?_,fun st hs=>?_⟩
 ·have h1:=H.run i hi
  cases hr:r i with
  |ok a j=>
   rw[hr]at h1
   have h2:=(H2 a).run j h1.2
   simp only[Out.bind]
   unfold Ce
   rw[h1.1]
   exact h2
  |no c p=>
   rw[hr]at h1
   simp only[Out.bind]
   refine⟨h1.1,?_⟩
   unfold Ce
   rw[(H2 _).stay _ (by rw[h1.2];exact h1.1),h1.2]
 ·unfold Ce
  have:=H.stay st hs
  rw[(H2 _).stay _ (by rw[this];exact hs),this]
theorem xQ{code:Nat}{st:RS}(h:st.e≠0):Aw code st=st:=by
 unfold Aw
 cases hb:Nat.beq st.e 0 with
 |true=>exact absurd (Nat.eq_of_beq_eq_true hb) h
 |false=>rfl
theorem BI.O5{α:Type}{L:Nat}{ok:Bool}{code:Nat}{a a':α}(hc:code≠0)(h:ok=true→a'=a):BI L (ax ok code a) (NQ ok code a'):=by
 refine⟨fun i hi=>?_,fun st hs=>?_⟩
 ·cases ok with
  |true=>exact⟨by simp only[NQ,h rfl],hi⟩
  |false=>exact⟨hc,rfl⟩
 ·cases ok with
  |true=>rfl
  |false=>exact xQ hs
theorem BI.pure{α:Type}{L:Nat}(a:α):BI L (fun i=>.ok a i) (NM a):=⟨fun _ hi=>⟨rfl,hi⟩,fun _ _=>rfl⟩
theorem BI.congr{α:Type}{L:Nat}{r r':Nat→Out α}{q q':RA α}(h:BI L r q)(hr:∀i,r' i=r i)(hq:∀st,q' st=q st):BI L r' q':=by
 have e1:r'=r:=funext hr
 have e2:q'=q:=funext hq
 rw[e1,e2];exact h
theorem FR{ws:List Bs}{s:Bs}{st:RS}(h:st.e≠0):Mc ws s st=false:=by
 unfold Mc
 cases hb:Nat.beq st.e 0 with
 |true=>exact absurd (Nat.eq_of_beq_eq_true hb) h
 |false=>rfl
theorem BI.Ft{α:Type}{ws:List Bs}{s:Bs}{f:Bool→Nat→Out α}{h h':RA α}(H:BI ws.length (f true) h)(H':BI ws.length (f false) h') :
  BI ws.length (fun i=>(dt ws i s).bind f) (fun st=>match Mc ws s st with|true=>h (FO ws st).2|false=>h' st):=by
 refine⟨fun i hl=>?_,fun st hs=>?_⟩
 ·by_cases hi:ws[i]?=some s
  ·have e1:dt ws i s=.ok true (i+1):=by unfold dt;rw[if_pos hi]
   have e2:Mc ws s ⟨i,0⟩=true:=by unfold Mc;simp[hi]
   have e3:(FO ws ⟨i,0⟩).2=⟨i+1,0⟩:=by unfold FO;simp[hi]
   rw[e1];simp only[e2,e3,Out.bind]
   exact H.run _ (List.getElem?_eq_some_iff.1 hi).1
  ·have e1:dt ws i s=.ok false i:=by unfold dt;rw[if_neg hi]
   have e2:Mc ws s ⟨i,0⟩=false:=by unfold Mc;simp[hi]
   rw[e1];simp only[e2,Out.bind]
   exact H'.run _ hl
 ·simp only[FR hs];exact H'.stay st hs
open Go.RowKit Go.Lib Go.Sort
def One{α:Type}(ws:List Bs)(r:Nat→Out α):Prop:=∀i a j,r i=.ok a j→j=i+1∧j≤ws.length
theorem Gm(ws:List Bs):One ws (aR ws):=by
 intro i a j h
 unfold aR at h
 split at h
 ·rename_i x hx
  injection h with h1 h2
  have:=(List.getElem?_eq_some_iff.1 hx).1
  omega
 ·cases h
theorem One.O5{α:Type}{ws:List Bs}{f:Bs→Nat→Out α}(h:∀x j a k,f x j=.ok a k→k=j):One ws (fun i=>(aR ws i).bind f):=by
 intro i a j hj
 cases hr:aR ws i with
 |ok x k=>
  simp only[hr,Out.bind]at hj
  have:=Gm ws i x k hr
  rw[h x k a j hj]
  exact this
 |no c p=>simp only[hr,Out.bind]at hj;cases hj
theorem rI{α:Type}{b:Bool}{code:Nat}{a a':α}{i j:Nat}(h:ax b code a i=.ok a' j):j=i:=by
 cases b with
 |true=>injection h with _ h;exact h.symm
 |false=>cases h
theorem AM(most:Nat)(ws:List Bs):One ws (bn most ws):=One.O5 fun _ _ _ _ h=>rI h
theorem sq(ws:List Bs):One ws (iF ws):=One.O5 fun _ _ _ _ h=>rI h
theorem sr(ws:List Bs):One ws (dB ws):=One.O5 fun _ _ _ _ h=>rI h
theorem gG{ws:List Bs}{i:Nat}{s:Bs}:(dt ws i s=.ok true (i+1)∧i+1≤ws.length)∨dt ws i s=.ok false i:=by
 unfold dt
 split
 ·rename_i h
  have:=(List.getElem?_eq_some_iff.1 h).1
  exact .inl ⟨rfl,this⟩
 ·exact .inr rfl
theorem DO(ws:List Bs):One ws (dR ws):=by
 intro i a j h
 unfold dR at h
 rcases gG (ws:=ws) (i:=i) (s:=oo)with⟨h1,h2⟩ | h1
 ·simp only[h1,Out.bind]at h
  injection h with _ h
  omega
 ·simp only[h1,Out.bind]at h
  rcases gG (ws:=ws) (i:=i) (s:=ph)with⟨h3,h4⟩ | h3
  ·simp only[h3]at h
   injection h with _ h
   omega
  ·simp only[h3]at h
   exact AM 255 ws i a j h
theorem One.map{α β:Type}{ws:List Bs}{r:Nat→Out α}{f:α→β}(h:One ws r):One ws (fun i=>(r i).bind fun a j=>.ok (f a) j):=by
 intro i b j hj
 cases hr:r i with
 |ok x k=>
  simp only[hr,Out.bind]at hj
  injection hj with _ hj
  rw[←hj]
  exact h i x k hr
 |no c p=>simp only[hr,Out.bind]at hj;cases hj
theorem DN(k:Nat)(m:Mt)(ws:List Bs):One ws (bh k m ws):=by
 unfold bh
 split
 ·exact(sq ws).map
 ·exact(sr ws).map
 ·exact(sr ws).map
 ·exact(DO ws).map
 ·exact(sq ws).map
 ·exact(sq ws).map
theorem vh{ws:List Bs}{i:Nat}{m m':Mt}{j:Nat}(h:a7 ws i m=.ok (true,m') j):j=i+2∧j≤ws.length:=by
 unfold a7 at h
 split at h
 ·cases h
 ·rename_i x hx
  split at h
  ·cases h
  ·rename_i k hk
   split at h
   ·cases h
   ·cases hr:bh k { m with asks:=m.asks|||2^k } ws (i+1)with
    |ok a l=>
     simp only[hr,Out.bind]at h
     injection h with h1 h2
     have:=DN _ _ _ _ _ _ hr
     omega
    |no c p=>simp only[hr,Out.bind]at h;cases h
theorem qD(ws:List Bs):∀(f f' i:Nat) (m:Mt),ws.length+1 - i≤f→ws.length+1 - i≤f'→i≤ws.length→ee ws f i m=ee ws f' i m
 | 0,_,i,m,h,_,hi=>by omega
 |_+1,0,i,m,_,h,hi=>by omega
 |f+1,f'+1,i,m,h1,h2,hi=>by
  unfold ee
  cases hr:a7 ws i m with
  |no c p=>rfl
  |ok r j=>
   obtain⟨b,m'⟩:=r
   cases b with
   |false=>rfl
   |true=>
    simp only[Out.bind]
    have:=vh hr
    exact qD ws f f' j m' (by omega) (by omega) this.2
end Go.Proofs.YtnncigmpcdehnaaGreatDoor
