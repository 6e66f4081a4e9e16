import Derived.Test.YtnncigmpcdehnaaGreatDoorQa14
import Derived.Test.YtnncigmpcdehnaaGreatDoorQa15
namespace Go.Proofs.YtnncigmpcdehnaaGreatDoor
set_option maxRecDepth 100000
open Go.RowKit Go.Lib Go.Sort
def natV(n:Nat):Value:=.int .u64 (n:Int)
theorem lnumber_N(most:Nat)(hm:most < 18446744073709551616){w:World}{g:Nat}{A:Option Go.Addr}{n c i:Nat}{ws:List Bs}(h:Lin w g A n c i ws):Calls Tryz.prog 189 #[.pointer (some ⟨g,0,none⟩),.int .u64 (most:Int)] w (LnPost g A n c natV (numberR most ws i) w):=by
 have e1:numberR most ws i=(nextR ws i).bind fun x j=>wantR (numOk most x) 200 (numV x) j:=rfl
 have n1:=fun W (hL:Lin W g A n c i ws)=>next_N hL
 have hx:(nextR ws i).val.length≤100000000:=next_len h.sz
 generalize numberR most ws i=T at e1 ⊢
 generalize nextR ws i=r at e1 n1 hx
 have c9:=ln_st [] h h.le (no_of e1) n1
 have c11f:=fun(_:r.okB=true∧r.pos≤n) W (hW:Chg [g] w W)=>number64_N most hm r.val (by omega) W (h.lanAt hW)
 have c16f:=fun(hp:r.okB=true∧r.pos≤n)=>ln_st [.bool (numOk most r.val),.int .i64 200] h hp.2 (no_eq (ok_of e1 hp.1)) (fun W hL=>want_N (numOk most r.val) 200 (numV r.val) hL)
 have z2f:=fun(hp:r.okB=true∧r.pos≤n) (hp2:(wantR (numOk most r.val) 200 (numV r.val) r.pos).okB=true∧(wantR (numOk most r.val) 200 (numV r.val) r.pos).pos≤n)=>(show LnR g A n c natV T (.val (natV (puV r.val))) [(g,154,lnC A n c (wantR (numOk most r.val) 200 (numV r.val) r.pos).pos)]from by
  have e2:=ok_of e1 hp.1
  cases hk:numOk most r.val with
  |false=>rw[hk]at hp2;cases hp2.1
  |true=>
   rw[hk]at e2
   exact⟨_,_,e2,hp.2,by rw[(puOk_num (numOk_pu hm hk)).1],rfl⟩)
 refine ln_walk [.int .u64 (most:Int)] h.blk [(9,.callG (lnG 0 g A n c r strV)),(11,.call (.tuple #[natV (puV r.val),.bool (numOk most r.val)])),(16,.callG (lnG 0 g A n c (wantR (numOk most r.val) 200 (numV r.val) r.pos) fun _=>.tuple #[]))] [] (by kernel_rfl) Tryz.func189 rfl (Nat.le_of_ble_eq_true rfl) ?_
 exact Eq.mp (by kernel_rfl) (And.intro c9 (fun(hx0:r.okB=true∧r.pos≤n)=>(Sx.t2 (c11f hx0) (c16f hx0) (fun(hx1:(wantR (numOk most r.val) 200 (numV r.val) r.pos).okB=true∧(wantR (numOk most r.val) 200 (numV r.val) r.pos).pos≤n)=>(z2f hx0 hx1)))))
set_option maxRecDepth 100000
open Go.RowKit Go.Lib Go.Sort
def intV(n:Nat):Value:=.int .i64 (n:Int)
theorem num_le{most:Nat}{ws:List Bs}{i v j:Nat}(h:numberR most ws i=.ok v j):v≤most:=by
 unfold numberR at h
 cases hr:nextR ws i with
 |no c p=>rw[hr]at h;cases h
 |ok x k=>
  rw[hr]at h
  simp only[Out.bind]at h
  cases hk:numOk most x with
  |false=>rw[hk]at h;cases h
  |true=>
   rw[hk]at h
   injection h with h _
   unfold numOk at hk
   rw[Bool.and_eq_true,decide_eq_true_iff]at hk
   omega
theorem ok_is{α:Type} [Inhabited α]{r:Out α}{n:Nat}(h:r.okB=true∧r.pos≤n):r=.ok r.val r.pos:=Out.of_ok h.1
theorem lint_N{w:World}{g:Nat}{A:Option Go.Addr}{n c i:Nat}{ws:List Bs}(h:Lin w g A n c i ws):Calls Tryz.prog 186 #[.pointer (some ⟨g,0,none⟩)] w (LnPost g A n c intV (intR ws i) w):=by
 have e1:intR ws i=numberR 9223372036854775807 ws i:=rfl
 have n1:=fun W (hL:Lin W g A n c i ws)=>lnumber_N 9223372036854775807 (by omega) hL
 have hle:∀v j,numberR 9223372036854775807 ws i=.ok v j→v≤9223372036854775807:=fun v j=>num_le
 generalize intR ws i=T at e1 ⊢
 generalize numberR 9223372036854775807 ws i=r at e1 n1 hle
 have c4:=ln_st [.int .u64 ((9223372036854775807:Nat):Int)] h h.le (no_eq e1) n1
 have c5f:=fun(hp:r.okB=true∧r.pos≤n)=>(show Value.int .i64 (IntKind.i64.wrap (r.val:Int))=.int .i64 (r.val:Int)from iw (w64 (by omega) (by have:=hle _ _ (ok_is hp);omega)))
 have z1f:=fun(hp:r.okB=true∧r.pos≤n)=>(show LnR g A n c intV T (.val (intV r.val)) [(g,154,lnC A n c r.pos)]from⟨_,_,by rw[e1];exact ok_is hp,hp.2,rfl,rfl⟩)
 refine ln_walk [] h.blk [(4,.callG (lnG 0 g A n c r natV)),(5,.is (intV r.val))] [] (by kernel_rfl) Tryz.func186 rfl (Nat.le_of_ble_eq_true rfl) ?_
 exact Eq.mp (by kernel_rfl) (And.intro c4 (fun(hx0:r.okB=true∧r.pos≤n)=>(And.intro (c5f hx0) (z1f hx0))))
theorem lname_N{w:World}{g:Nat}{A:Option Go.Addr}{n c i:Nat}{ws:List Bs}(h:Lin w g A n c i ws):Calls Tryz.prog 188 #[.pointer (some ⟨g,0,none⟩)] w (LnPost g A n c strV (nameR ws i) w):=by
 have e1:nameR ws i=(nextR ws i).bind fun x j=>wantR (nameB x) 201 x j:=rfl
 have n1:=fun W (hL:Lin W g A n c i ws)=>next_N hL
 generalize nameR ws i=T at e1 ⊢
 generalize nextR ws i=r at e1 n1
 have c5:=ln_st [] h h.le (no_of e1) n1
 have c8f:=fun(_:r.okB=true∧r.pos≤n) W (_:Chg [g] w W)=>name_N r.val W
 have c9f:=fun(hp:r.okB=true∧r.pos≤n)=>ln_st [.bool (nameB r.val),.int .i64 201] h hp.2 (no_eq (ok_of e1 hp.1)) (fun W hL=>want_N (nameB r.val) 201 r.val hL)
 have z2f:=fun(hp:r.okB=true∧r.pos≤n) (hp2:(wantR (nameB r.val) 201 r.val r.pos).okB=true∧(wantR (nameB r.val) 201 r.val r.pos).pos≤n)=>(show LnR g A n c strV T (.val (strV r.val)) [(g,154,lnC A n c (wantR (nameB r.val) 201 r.val r.pos).pos)]from by
  have e2:=ok_of e1 hp.1
  cases hk:nameB r.val with
  |false=>rw[hk]at hp2;cases hp2.1
  |true=>rw[hk]at e2;exact⟨_,_,e2,hp.2,rfl,rfl⟩)
 refine ln_walk [] h.blk [(5,.callG (lnG 0 g A n c r strV)),(8,.call (.bool (nameB r.val))),(9,.callG (lnG 0 g A n c (wantR (nameB r.val) 201 r.val r.pos) fun _=>.tuple #[]))] [] (by kernel_rfl) Tryz.func188 rfl (Nat.le_of_ble_eq_true rfl) ?_
 exact Eq.mp (by kernel_rfl) (And.intro c5 (fun(hx0:r.okB=true∧r.pos≤n)=>(Sx.t2 (c8f hx0) (c9f hx0) (fun(hx1:(wantR (nameB r.val) 201 r.val r.pos).okB=true∧(wantR (nameB r.val) 201 r.val r.pos).pos≤n)=>(z2f hx0 hx1)))))
open Go.RowKit Go.Lib Go.Sort
structure RS where
 at_:Nat
 e:Nat
abbrev RA(α:Type):=RS→α×RS
def rbind{α β:Type}(q:RA α)(h:α→RA β):RA β:=fun st=>h (q st).1 (q st).2
def rpure{α:Type}(a:α):RA α:=fun st=>(a,st)
def rwrong(code:Nat)(st:RS):RS:=match Nat.beq st.e 0 with
 |true=>⟨st.at_ - 1,code⟩
 |false=>st
def rchk{α:Type}(ok:Bool)(code:Nat)(a:α):RA α:=fun st=>(a,match ok with
 |true=>st
 |false=>rwrong code st)
structure Sim{α:Type}(L:Nat)(r:Nat→Out α)(q:RA α):Prop where
 run:∀i,i≤L→match r i with
  |.ok a j=>q ⟨i,0⟩=(a,⟨j,0⟩)∧j≤L
  |.no c p=>c≠0∧(q ⟨i,0⟩).2=⟨p - 1,c⟩
 stay:∀st:RS,st.e≠0→(q st).2=st
theorem Sim.bind{α β:Type}{L:Nat}{r:Nat→Out α}{q:RA α}{f:α→Nat→Out β}{h:α→RA β}(H:Sim L r q)(H2:∀a,Sim L (f a) (h a)):Sim L (fun i=>(r i).bind f) (rbind q h):=by
 refine⟨fun i hi=>?_,fun st hs=>?_⟩
 ·have h1:=H.run i hi
  cases hr:r i with
  |ok a j=>
   rw[hr]at h1
   have h2:=(H2 a).run j h1.2
   simp only[Out.bind]
   unfold rbind
   rw[h1.1]
   exact h2
  |no c p=>
   rw[hr]at h1
   simp only[Out.bind]
   refine⟨h1.1,?_⟩
   unfold rbind
   rw[(H2 _).stay _ (by rw[h1.2];exact h1.1),h1.2]
 ·unfold rbind
  have:=H.stay st hs
  rw[(H2 _).stay _ (by rw[this];exact hs),this]
theorem rwrong_stay{code:Nat}{st:RS}(h:st.e≠0):rwrong code st=st:=by
 unfold rwrong
 cases hb:Nat.beq st.e 0 with
 |true=>exact absurd (Nat.eq_of_beq_eq_true hb) h
 |false=>rfl
theorem Sim.chk{α:Type}{L:Nat}{ok:Bool}{code:Nat}{a a':α}(hc:code≠0)(h:ok=true→a'=a):Sim L (wantR ok code a) (rchk ok code a'):=by
 refine⟨fun i hi=>?_,fun st hs=>?_⟩
 ·cases ok with
  |true=>exact⟨by simp only[rchk,h rfl],hi⟩
  |false=>exact⟨hc,rfl⟩
 ·cases ok with
  |true=>rfl
  |false=>exact rwrong_stay hs
theorem Sim.pure{α:Type}{L:Nat}(a:α):Sim L (fun i=>.ok a i) (rpure a):=⟨fun _ hi=>⟨rfl,hi⟩,fun _ _=>rfl⟩
theorem Sim.congr{α:Type}{L:Nat}{r r':Nat→Out α}{q q':RA α}(h:Sim L r q)(hr:∀i,r' i=r i)(hq:∀st,q' st=q st):Sim L r' q':=by
 have e1:r'=r:=funext hr
 have e2:q'=q:=funext hq
 rw[e1,e2];exact h
open Go.RowKit Go.Lib Go.Sort
def One{α:Type}(ws:List Bs)(r:Nat→Out α):Prop:=∀i a j,r i=.ok a j→j=i+1∧j≤ws.length
theorem one_next(ws:List Bs):One ws (nextR ws):=by
 intro i a j h
 unfold nextR at h
 split at h
 ·rename_i x hx
  injection h with h1 h2
  have:=(List.getElem?_eq_some_iff.1 hx).1
  omega
 ·cases h
theorem One.chk{α:Type}{ws:List Bs}{f:Bs→Nat→Out α}(h:∀x j a k,f x j=.ok a k→k=j):One ws (fun i=>(nextR ws i).bind f):=by
 intro i a j hj
 cases hr:nextR ws i with
 |ok x k=>
  simp only[hr,Out.bind]at hj
  have:=one_next ws i x k hr
  rw[h x k a j hj]
  exact this
 |no c p=>simp only[hr,Out.bind]at hj;cases hj
theorem want_pos{α:Type}{b:Bool}{code:Nat}{a a':α}{i j:Nat}(h:wantR b code a i=.ok a' j):j=i:=by
 cases b with
 |true=>injection h with _ h;exact h.symm
 |false=>cases h
theorem one_number(most:Nat)(ws:List Bs):One ws (numberR most ws):=One.chk fun _ _ _ _ h=>want_pos h
theorem one_span(ws:List Bs):One ws (spanR ws):=One.chk fun _ _ _ _ h=>want_pos h
theorem one_prefix(ws:List Bs):One ws (prefixR ws):=One.chk fun _ _ _ _ h=>want_pos h
theorem took_cases{ws:List Bs}{i:Nat}{s:Bs}:(tookR ws i s=.ok true (i+1)∧i+1≤ws.length)∨tookR ws i s=.ok false i:=by
 unfold tookR
 split
 ·rename_i h
  have:=(List.getElem?_eq_some_iff.1 h).1
  exact .inl ⟨rfl,this⟩
 ·exact .inr rfl
theorem one_proto(ws:List Bs):One ws (protoR ws):=by
 intro i a j h
 unfold protoR at h
 rcases took_cases (ws:=ws) (i:=i) (s:=kTcp)with⟨h1,h2⟩ | h1
 ·simp only[h1,Out.bind]at h
  injection h with _ h
  omega
 ·simp only[h1,Out.bind]at h
  rcases took_cases (ws:=ws) (i:=i) (s:=kUdp)with⟨h3,h4⟩ | h3
  ·simp only[h3]at h
   injection h with _ h
   omega
  ·simp only[h3]at h
   exact one_number 255 ws i a j h
theorem One.map{α β:Type}{ws:List Bs}{r:Nat→Out α}{f:α→β}(h:One ws r):One ws (fun i=>(r i).bind fun a j=>.ok (f a) j):=by
 intro i b j hj
 cases hr:r i with
 |ok x k=>
  simp only[hr,Out.bind]at hj
  injection hj with _ hj
  rw[←hj]
  exact h i x k hr
 |no c p=>simp only[hr,Out.bind]at hj;cases hj
theorem one_readF(k:Nat)(m:Mt)(ws:List Bs):One ws (readF k m ws):=by
 unfold readF
 split
 ·exact(one_span ws).map
 ·exact(one_prefix ws).map
 ·exact(one_prefix ws).map
 ·exact(one_proto ws).map
 ·exact(one_span ws).map
 ·exact(one_span ws).map
theorem field_pos{ws:List Bs}{i:Nat}{m m':Mt}{j:Nat}(h:fieldR ws i m=.ok (true,m') j):j=i+2∧j≤ws.length:=by
 unfold fieldR at h
 split at h
 ·cases h
 ·rename_i x hx
  split at h
  ·cases h
  ·rename_i k hk
   split at h
   ·cases h
   ·cases hr:readF k { m with asks:=m.asks|||2^k } ws (i+1)with
    |ok a l=>
     simp only[hr,Out.bind]at h
     injection h with h1 h2
     have:=one_readF _ _ _ _ _ _ hr
     omega
    |no c p=>simp only[hr,Out.bind]at h;cases h
theorem matchL_fuel(ws:List Bs):∀(f f' i:Nat) (m:Mt),ws.length+1 - i≤f→ws.length+1 - i≤f'→i≤ws.length→matchL ws f i m=matchL ws f' i m
 | 0,_,i,m,h,_,hi=>by omega
 |_+1,0,i,m,_,h,hi=>by omega
 |f+1,f'+1,i,m,h1,h2,hi=>by
  unfold matchL
  cases hr:fieldR ws i m with
  |no c p=>rfl
  |ok r j=>
   obtain⟨b,m'⟩:=r
   cases b with
   |false=>rfl
   |true=>
    simp only[Out.bind]
    have:=field_pos hr
    exact matchL_fuel ws f f' j m' (by omega) (by omega) this.2
end Go.Proofs.YtnncigmpcdehnaaGreatDoor
