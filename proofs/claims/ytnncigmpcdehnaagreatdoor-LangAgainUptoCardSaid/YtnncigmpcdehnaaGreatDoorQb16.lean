import Derived.Test.YtnncigmpcdehnaaGreatDoorQb15
namespace Go.Proofs.YtnncigmpcdehnaaGreatDoor
set_option maxRecDepth 100000
open Go.RowKit Go.Lib Go.Sort
def pS(p:Px):Value:=.agg p.cells.toArray
def NX(o:Option Px):Int:=match o with
 |some _=>0
 |none=>151
theorem lQ{s:Bs}{p:Px}(h:pI s=some p):zC s p.v p.n p.k:=by
 unfold pI at h
 split at h
 ·rename_i hx
  injection h with h
  rw[←h];exact hx.choose_spec
 ·cases h
theorem xL{s:Bs}(h:pI s=none):∀v n k,¬zC s v n k:=by
 intro v n k hp
 unfold pI at h
 split at h
 ·cases h
 ·rename_i hx
  exact hx ⟨⟨v,n,k⟩,hp⟩
theorem IW(s:Bs)(hs:s.length≤100000000)(w:World)(HL:dG w):Calls Tryz.prog 16 #[af s] w fun e w'=>e=.returned (.tuple #[pS ((pI s).getD oB),.int .i64 (NX (pI s))])∧aw [] w w':=by
 cases h:pI s with
 |some p=>exact rT (lQ h) hs w HL
 |none=>exact IV (xL h) hs w HL
theorem p6{w:World}{g:Nat}{A:Option Go.Addr}{n c i:Nat}{ws:List Bs}(h:dF w g A n c i ws):Calls Tryz.prog 187 #[.pointer (some ⟨g,0,none⟩)] w (aY g A n c pS (dA ws i) w):=by
 have e1:dA ws i=(bj ws i).bind fun x j=>ax (pI x).isSome 151 ((pI x).getD oB) j:=rfl
 have n1:=fun W (hL:dF W g A n c i ws)=>lX hL
 have hx:(bj ws i).val.length≤100000000:=sA h.sz
 generalize dA ws i=T at e1 ⊢
 generalize bj ws i=r at e1 n1 hx
 have hr8:=fun W (hW:aw [g] w W)=>IW r.val (by omega) W (h.yq hW)
 have hpe:Value.bool (NX (pI r.val)==0)=.bool (pI r.val).isSome:=by cases pI r.val<;>rfl
 have e2:r.okB=true→T=ax (pI r.val).isSome 151 ((pI r.val).getD oB) r.pos:=fun hp=>bH e1 hp
 generalize NX (pI r.val)=er at hr8 hpe
 generalize (pI r.val).isSome=ok at e2 hpe
 generalize (pI r.val).getD oB=p at hr8 e2
 have c7:=bu [⟨29,.ag oB.cells⟩] [] h h.le (aX e1) n1
 have c8f:=fun(_:r.okB=true∧r.pos≤n)=>hr8
 have c13f:=fun(_:r.okB=true∧r.pos≤n)=>hpe
 have c14f:=fun(hp:r.okB=true∧r.pos≤n)=>bu [⟨29,.ag oB.cells⟩,⟨29,.ag p.cells⟩] [.bool ok,.int .i64 151] h hp.2 (uP (e2 hp.1)) (fun W hL=>ee ok 151 p hL)
 have z2f:=fun(hp:r.okB=true∧r.pos≤n) (hp2:(ax ok 151 p r.pos).okB=true∧(ax ok 151 p r.pos).pos≤n)=>(show uh g A n c pS T (.val (pS p)) [(g,154,df A n c (ax ok 151 p r.pos).pos)]from by
  have e2:=e2 hp.1
  cases ok with
  |false=>cases hp2.1
  |true=>exact⟨_,_,e2,hp.2,rfl,rfl⟩)
 refine cA [] h.bY [(7,.al (cE 0 g A n c r af)),(8,.call (.tuple #[pS p,.int .i64 er])),(13,.is (.bool ok)),(14,.al (cE 0 g A n c (ax ok 151 p r.pos) fun _=>.tuple #[]))] [] (by kernel_rfl) Tryz.func187 rfl (Nat.le_of_ble_eq_true rfl) ?_
 exact Eq.mp (by kernel_rfl) (And.intro c7 (fun(hx0:r.okB=true∧r.pos≤n)=>(Sx.t2 (c8f hx0) (c13f hx0) (And.intro (c14f hx0) (fun(hx1:(ax ok 151 p r.pos).okB=true∧(ax ok 151 p r.pos).pos≤n)=>(z2f hx0 hx1))))))
def MR(two:Bool)(a b:Bs):Bs:=match two with
 |true=>b
 |false=>a
def lq(s:Nat×Nat):Value:=.agg #[.int .u16 (s.1:Int),.int .u16 (s.2:Int)]
theorem J2(x:Bs)(hs:x.length≤100000000)(w:World)(HL:dG w):Calls Tryz.prog 48 #[af x,.string ⟨#[45]⟩] w fun e w'=>e=.returned (.tuple #[af (Lib.cut x [45]).1,af (Lib.cut x [45]).2.1,.bool (Lib.cut x [45]).2.2])∧aw [] w w':=G2 x [45] (by omega) w HL
theorem DV(x:Bs):(Lib.cut x [45]).1.length≤x.length∧(Lib.cut x [45]).2.1.length≤x.length:=by
 unfold Lib.cut
 split
 ·simp
  omega
 ·simp
theorem MI{v:Nat}(h:v≤65535):Value.int .u16 (IntKind.u16.wrap (v:Int))=.int .u16 (v:Int):=by
 have:IntKind.u16.wrap (v:Int)=v:=by simp[IntKind.wrap,IntKind.bits,IntKind.signed];omega
 rw[this]
theorem su{most:Nat}{s:Bs}(h:cP most s=true):gp s≤most:=by
 unfold cP at h
 rw[Bool.and_eq_true,decide_eq_true_iff]at h
 exact h.1
theorem Jl{w:World}{g:Nat}{A:Option Go.Addr}{n c i:Nat}{ws:List Bs}(h:dF w g A n c i ws){T:Out (Nat×Nat)}{r:Out Bs}(a b d:Bs)(two oa ob:Bool)
  (n1:∀W,dF W g A n c i ws→Calls Tryz.prog 154 #[.pointer (some ⟨g,0,none⟩)] W (aY g A n c af r W)) (hno:∀code p,r=.no code p→T=.no code p)
  (hc:r.okB=true→∀W,aw [g] w W→Calls Tryz.prog 48 #[af r.val,.string ⟨#[45]⟩] W fun e w'=>e=.returned (.tuple #[af a,af b,.bool two])∧aw [] W w')
  (hd:d=MR two a b)
  (ha:∀W,aw [g] w W→Calls Tryz.prog 232 #[af a,.int .u64 65535] W fun e w'=>e=.returned (.tuple #[gA (re a),.bool oa])∧aw [] W w')
  (hb:∀W,aw [g] w W→Calls Tryz.prog 232 #[af d,.int .u64 65535] W fun e w'=>e=.returned (.tuple #[gA (re d),.bool ob])∧aw [] W w')
  (va vb:Nat) (hva:(oa&&ob)=true→re a=va∧va≤65535) (hvb:(oa&&ob)=true→re d=vb∧vb≤65535)
  (e2:r.okB=true→T=ax (oa&&ob) 200 (va,vb) r.pos) :
  Calls Tryz.prog 205 #[.pointer (some ⟨g,0,none⟩)] w (aY g A n c lq T w):=by
 have hw37:(oa&&ob)=true→Value.int .u16 (IntKind.u16.wrap (re a:Int))=.int .u16 (va:Int):=fun ho=>by rw[(hva ho).1];exact MI (hva ho).2
 have hw39:(oa&&ob)=true→Value.int .u16 (IntKind.u16.wrap (re d:Int))=.int .u16 (vb:Int):=fun ho=>by rw[(hvb ho).1];exact MI (hvb ho).2
 generalize re a=pa at ha hva hw37
 generalize re d=pd at hb hvb hw39
 have c12:=bu [⟨64,.ag [.int .u16 0,.int .u16 0]⟩] [] h h.le hno n1
 have c13f:=fun(hp:r.okB=true∧r.pos≤n)=>hc hp.1
 have c22f:=fun(_:r.okB=true∧r.pos≤n)=>ha
 have c27f:=fun(_:r.okB=true∧r.pos≤n)=>hb
 have c35f:=fun(hp:r.okB=true∧r.pos≤n)=>bu [⟨64,.ag [.int .u16 0,.int .u16 0]⟩] [.bool (oa&&ob),.int .i64 200] h hp.2 (uP (e2 hp.1)) (fun W hL=>ee (oa&&ob) 200 (va,vb) hL)
 have c37f:=fun(_:r.okB=true∧r.pos≤n) (hp2:(ax (oa&&ob) 200 (va,vb) r.pos).okB=true∧(ax (oa&&ob) 200 (va,vb) r.pos).pos≤n)=>(show Value.int .u16 (IntKind.u16.wrap (pa:Int))=.int .u16 (va:Int)from hw37 (by
  cases ho:(oa&&ob)with
  |true=>rfl
  |false=>rw[ho]at hp2;cases hp2.1))
 have c39f:=fun(_:r.okB=true∧r.pos≤n) (hp2:(ax (oa&&ob) 200 (va,vb) r.pos).okB=true∧(ax (oa&&ob) 200 (va,vb) r.pos).pos≤n)=>(show Value.int .u16 (IntKind.u16.wrap (pd:Int))=.int .u16 (vb:Int)from hw39 (by
  cases ho:(oa&&ob)with
  |true=>rfl
  |false=>rw[ho]at hp2;cases hp2.1))
 have zf:=fun(hp:r.okB=true∧r.pos≤n) (hp2:(ax (oa&&ob) 200 (va,vb) r.pos).okB=true∧(ax (oa&&ob) 200 (va,vb) r.pos).pos≤n)=>(show uh g A n c lq T (.val (lq (va,vb))) [(g,154,df A n c (ax (oa&&ob) 200 (va,vb) r.pos).pos)]from by
  have e2:=e2 hp.1
  cases ho:(oa&&ob)with
  |false=>rw[ho]at hp2;cases hp2.1
  |true=>rw[ho]at e2;exact⟨_,_,e2,hp.2,rfl,rfl⟩)
 have z2f:=zf
 cases two with
 |false=>
  have hd:d=a:=hd
  subst hd
  cases oa with
  |false=>
   refine cA [] h.bY [(12,.al (cE 0 g A n c r af)),(13,.call (.tuple #[af d,af b,.bool false])),(22,.call (.tuple #[gA pa,.bool false])),(27,.call (.tuple #[gA pd,.bool ob])),(35,.al (cE 0 g A n c (ax (false&&ob) 200 (va,vb) r.pos) fun _=>.tuple #[])),(37,.is (.int .u16 (va:Int))),(39,.is (.int .u16 (vb:Int)))] [] (by kernel_rfl) Tryz.func205 rfl (Nat.le_of_ble_eq_true rfl) ?_
   exact Eq.mp (by kernel_rfl) (And.intro c12 (fun(hx0:r.okB=true∧r.pos≤n)=>(Sx.t4 (c13f hx0) (c22f hx0) (c27f hx0) (c35f hx0) (fun(hx1:(ax (false&&ob) 200 (va,vb) r.pos).okB=true∧(ax (false&&ob) 200 (va,vb) r.pos).pos≤n)=>(Sx.t2 (c37f hx0 hx1) (c39f hx0 hx1) (z2f hx0 hx1))))))
  |true=>
   refine cA [] h.bY [(12,.al (cE 0 g A n c r af)),(13,.call (.tuple #[af d,af b,.bool false])),(22,.call (.tuple #[gA pa,.bool true])),(27,.call (.tuple #[gA pd,.bool ob])),(35,.al (cE 0 g A n c (ax (true&&ob) 200 (va,vb) r.pos) fun _=>.tuple #[])),(37,.is (.int .u16 (va:Int))),(39,.is (.int .u16 (vb:Int)))] [] (by kernel_rfl) Tryz.func205 rfl (Nat.le_of_ble_eq_true rfl) ?_
   exact Eq.mp (by kernel_rfl) (And.intro c12 (fun(hx0:r.okB=true∧r.pos≤n)=>(Sx.t4 (c13f hx0) (c22f hx0) (c27f hx0) (c35f hx0) (fun(hx1:(ax (true&&ob) 200 (va,vb) r.pos).okB=true∧(ax (true&&ob) 200 (va,vb) r.pos).pos≤n)=>(Sx.t2 (c37f hx0 hx1) (c39f hx0 hx1) (z2f hx0 hx1))))))
 |true=>
  have hd:d=b:=hd
  subst hd
  cases oa with
  |false=>
   refine cA [] h.bY [(12,.al (cE 0 g A n c r af)),(13,.call (.tuple #[af a,af d,.bool true])),(22,.call (.tuple #[gA pa,.bool false])),(27,.call (.tuple #[gA pd,.bool ob])),(35,.al (cE 0 g A n c (ax (false&&ob) 200 (va,vb) r.pos) fun _=>.tuple #[])),(37,.is (.int .u16 (va:Int))),(39,.is (.int .u16 (vb:Int)))] [] (by kernel_rfl) Tryz.func205 rfl (Nat.le_of_ble_eq_true rfl) ?_
   exact Eq.mp (by kernel_rfl) (And.intro c12 (fun(hx0:r.okB=true∧r.pos≤n)=>(Sx.t4 (c13f hx0) (c22f hx0) (c27f hx0) (c35f hx0) (fun(hx1:(ax (false&&ob) 200 (va,vb) r.pos).okB=true∧(ax (false&&ob) 200 (va,vb) r.pos).pos≤n)=>(Sx.t2 (c37f hx0 hx1) (c39f hx0 hx1) (z2f hx0 hx1))))))
  |true=>
   refine cA [] h.bY [(12,.al (cE 0 g A n c r af)),(13,.call (.tuple #[af a,af d,.bool true])),(22,.call (.tuple #[gA pa,.bool true])),(27,.call (.tuple #[gA pd,.bool ob])),(35,.al (cE 0 g A n c (ax (true&&ob) 200 (va,vb) r.pos) fun _=>.tuple #[])),(37,.is (.int .u16 (va:Int))),(39,.is (.int .u16 (vb:Int)))] [] (by kernel_rfl) Tryz.func205 rfl (Nat.le_of_ble_eq_true rfl) ?_
   exact Eq.mp (by kernel_rfl) (And.intro c12 (fun(hx0:r.okB=true∧r.pos≤n)=>(Sx.t4 (c13f hx0) (c22f hx0) (c27f hx0) (c35f hx0) (fun(hx1:(ax (true&&ob) 200 (va,vb) r.pos).okB=true∧(ax (true&&ob) 200 (va,vb) r.pos).pos≤n)=>(Sx.t2 (c37f hx0 hx1) (c39f hx0 hx1) (z2f hx0 hx1))))))
theorem CI(x:Bs):(eV x).1.length≤x.length∧(eV x).2.length≤x.length:=by
 have h:=DV x
 unfold eV
 split
 ·exact h
 ·exact⟨h.1,h.1⟩
theorem v8{w:World}{g:Nat}{A:Option Go.Addr}{n c i:Nat}{ws:List Bs}(h:dF w g A n c i ws):Calls Tryz.prog 205 #[.pointer (some ⟨g,0,none⟩)] w (aY g A n c lq (iH ws i) w):=by
 have e1:iH ws i=(bj ws i).bind fun x j=>ax (cP 65535 (eV x).1&&cP 65535 (eV x).2) 200 (gp (eV x).1,gp (eV x).2) j:=rfl
 have hx:(bj ws i).val.length≤100000000:=sA h.sz
 have hl:=CI (bj ws i).val
 have hE:(eV (bj ws i).val).1=(Lib.cut (bj ws i).val [45]).1:=by unfold eV;split<;>rfl
 have key:∀s:Bs,cP 65535 s=true→re s=gp s∧gp s≤65535:=fun s hs=>⟨(rY (ss (by omega) hs)).1.symm,su hs⟩
 refine Jl h (r:=bj ws i) (eV (bj ws i).val).1 (Lib.cut (bj ws i).val [45]).2.1 (eV (bj ws i).val).2 (Lib.cut (bj ws i).val [45]).2.2 (cP 65535 (eV (bj ws i).val).1) (cP 65535 (eV (bj ws i).val).2)
  (fun W hL=>lX hL) (aX e1) (fun _ W hW=>?_) ?_ (fun W hW=>nS 65535 (by omega) _ (by omega) W (h.yq hW)) (fun W hW=>nS 65535 (by omega) _ (by omega) W (h.yq hW)) _ _ ?_ ?_ (fun hp=>bH e1 hp)
 ·rw[hE];exact J2 _ hx W (h.yq hW)
 ·unfold eV MR;split<;>rename_i hk<;>rw[hk]
 ·intro ho
  rw[Bool.and_eq_true]at ho
  exact key _ ho.1
 ·intro ho
  rw[Bool.and_eq_true]at ho
  exact key _ ho.2
def Kt(n:Nat):Value:=.int .u8 (n:Int)
theorem Ov{v:Nat}(h:v≤255):Value.int .u8 (IntKind.u8.wrap (v:Int))=.int .u8 (v:Int):=by
 have:IntKind.u8.wrap (v:Int)=v:=by simp[IntKind.wrap,IntKind.bits,IntKind.signed];omega
 rw[this]
theorem F9{w:World}{g:Nat}{A:Option Go.Addr}{n c i:Nat}{ws:List Bs}(h:dF w g A n c i ws):Calls Tryz.prog 209 #[.pointer (some ⟨g,0,none⟩)] w (aY g A n c Kt (eg ws i) w):=by
 have hlen:=h.len
 rcases fe (ws:=ws) (i:=i) (s:=oZ)with⟨h1,h2⟩ | h1
 ·have e1:eg ws i=.ok 6 (i+1):=by unfold eg;rw[h1];rfl
  have n1:=fun W (hL:dF W g A n c i ws)=>h1 ▸ fE oZ hL
  generalize eg ws i=T at e1 ⊢
  have c5:=kn (T:=T) [af oZ] h h.le (fun code p hh=>by cases hh) n1
  have z1f:=fun(hp:(Out.ok true (i+1)).okB=true∧(Out.ok true (i+1)).pos≤n)=>(show uh g A n c Kt T (.val (Kt 6)) [(g,154,df A n c (i+1))]from⟨_,_,e1,hp.2,rfl,rfl⟩)
  refine cA [] h.bY [(5,.al (cE 0 g A n c (Out.ok true (i+1)) fun b=>.bool b))] [] (by kernel_rfl) Tryz.func209 rfl (Nat.le_of_ble_eq_true rfl) ?_
  exact Eq.mp (by kernel_rfl) (And.intro c5 (fun(hx0:(Out.ok true (i+1)).okB=true∧(Out.ok true (i+1)).pos≤n)=>(z1f hx0)))
 ·rcases fe (ws:=ws) (i:=i) (s:=p9)with⟨h3,h4⟩ | h3
  ·have e1:eg ws i=.ok 17 (i+1):=by unfold eg;rw[h1];simp only[Out.bind,h3]
   have n1:=fun W (hL:dF W g A n c i ws)=>h1 ▸ fE oZ hL
   have n2:=fun W (hL:dF W g A n c i ws)=>h3 ▸ fE p9 hL
   generalize eg ws i=T at e1 ⊢
   have c5:=kn (T:=T) [af oZ] h h.le (fun code p hh=>by cases hh) n1
   have c8f:=fun(_:(Out.ok false i).okB=true∧(Out.ok false i).pos≤n)=>kn (T:=T) [af p9] h h.le (fun code p hh=>by cases hh) n2
   have z2f:=fun(_:(Out.ok false i).okB=true∧(Out.ok false i).pos≤n) (hp:(Out.ok true (i+1)).okB=true∧(Out.ok true (i+1)).pos≤n)=>(show uh g A n c Kt T (.val (Kt 17)) [(g,154,df A n c (i+1))]from⟨_,_,e1,hp.2,rfl,rfl⟩)
   refine cA [] h.bY [(5,.al (cE 0 g A n c (Out.ok false i) fun b=>.bool b)),(8,.al (cE 0 g A n c (Out.ok true (i+1)) fun b=>.bool b))] [] (by kernel_rfl) Tryz.func209 rfl (Nat.le_of_ble_eq_true rfl) ?_
   exact Eq.mp (by kernel_rfl) (And.intro c5 (fun(hx0:(Out.ok false i).okB=true∧(Out.ok false i).pos≤n)=>(And.intro (c8f hx0) (fun(hx1:(Out.ok true (i+1)).okB=true∧(Out.ok true (i+1)).pos≤n)=>(z2f hx0 hx1)))))
  ·have e1:eg ws i=bF 255 ws i:=by unfold eg;rw[h1];simp only[Out.bind,h3]
   have n1:=fun W (hL:dF W g A n c i ws)=>h1 ▸ fE oZ hL
   have n2:=fun W (hL:dF W g A n c i ws)=>h3 ▸ fE p9 hL
   have n3:=fun W (hL:dF W g A n c i ws)=>km 255 (by omega) hL
   have hle:∀v j,bF 255 ws i=.ok v j→v≤255:=fun v j=>nT
   generalize eg ws i=T at e1 ⊢
   generalize bF 255 ws i=r at e1 n3 hle
   have c5:=kn (T:=T) [af oZ] h h.le (fun code p hh=>by cases hh) n1
   have c8f:=fun(_:(Out.ok false i).okB=true∧(Out.ok false i).pos≤n)=>kn (T:=T) [af p9] h h.le (fun code p hh=>by cases hh) n2
   have c10f:=fun(_:(Out.ok false i).okB=true∧(Out.ok false i).pos≤n) (_:(Out.ok false i).okB=true∧(Out.ok false i).pos≤n)=>kn [.int .u64 ((255:Nat):Int)] h h.le (uP e1) n3
   have c11f:=fun(_:(Out.ok false i).okB=true∧(Out.ok false i).pos≤n) (_:(Out.ok false i).okB=true∧(Out.ok false i).pos≤n) (hp:r.okB=true∧r.pos≤n)=>(show Value.int .u8 (IntKind.u8.wrap (r.val:Int))=.int .u8 (r.val:Int)from Ov (hle _ _ (BM hp)))
   have z3f:=fun(_:(Out.ok false i).okB=true∧(Out.ok false i).pos≤n) (_:(Out.ok false i).okB=true∧(Out.ok false i).pos≤n) (hp:r.okB=true∧r.pos≤n)=>(show uh g A n c Kt T (.val (Kt r.val)) [(g,154,df A n c r.pos)]from⟨_,_,by rw[e1];exact BM hp,hp.2,rfl,rfl⟩)
   refine cA [] h.bY [(5,.al (cE 0 g A n c (Out.ok false i) fun b=>.bool b)),(8,.al (cE 0 g A n c (Out.ok false i) fun b=>.bool b)),(10,.al (cE 0 g A n c r gA)),(11,.is (.int .u8 (r.val:Int)))] [] (by kernel_rfl) Tryz.func209 rfl (Nat.le_of_ble_eq_true rfl) ?_
   exact Eq.mp (by kernel_rfl) (And.intro c5 (fun(hx0:(Out.ok false i).okB=true∧(Out.ok false i).pos≤n)=>(And.intro (c8f hx0) (fun(hx1:(Out.ok false i).okB=true∧(Out.ok false i).pos≤n)=>(And.intro (c10f hx0 hx1) (fun(hx2:r.okB=true∧r.pos≤n)=>(And.intro (c11f hx0 hx1 hx2) (z3f hx0 hx1 hx2))))))))
def Mr(b0 b1 b2 b3:Bool)(p:Nat)(r2:Out Nat):Out (Int×Int):=match b0 with
 |true=>.ok (1,0) p
 |false=>match b1 with
  |true=>.ok (2,0) p
  |false=>match b2 with
   |true=>.ok (4,0) p
   |false=>match b3 with
    |true=>r2.bind fun v k=>.ok (3,(v:Int)) k
    |false=>.no 200 p
def jA(a:Int×Int):Value:=.tuple #[.int .i64 a.1,.int .i64 a.2]
theorem aD(x y:Operand)(s t:List UInt8)(b:Bool)(hb:decide (s=t)=b)(W:World):(do eqGuard .eql 9 x y (.string ⟨s.toArray⟩) (.string ⟨t.toArray⟩);binOp .eql 9 (.string ⟨s.toArray⟩) (.string ⟨t.toArray⟩):Sem Value).run Tryz.prog W=.ok (.bool b) W:=by
 have e:∀l:List UInt8,(⟨l.toArray⟩:ByteArray).toList=l:=fun l=>by simp
 have h:(do eqGuard .eql 9 x y (.string ⟨s.toArray⟩) (.string ⟨t.toArray⟩);binOp .eql 9 (.string ⟨s.toArray⟩) (.string ⟨t.toArray⟩):Sem Value).run Tryz.prog W=.ok (.bool ((⟨s.toArray⟩:ByteArray).toList==(⟨t.toArray⟩:ByteArray).toList)) W:=rfl
 rw[h,e,e,←hb]
 by_cases h:s=t<;>simp[h]
theorem Dx{w:World}{g:Nat}{A:Option Go.Addr}{n c i:Nat}{ws:List Bs}(h:dF w g A n c i ws){T:Out (Int×Int)}{r:Out Bs}{r2:Out Nat}(out b0 b1 b2 b3:Bool)
  (n1:∀W,dF W g A n c i ws→Calls Tryz.prog 154 #[.pointer (some ⟨g,0,none⟩)] W (aY g A n c af r W)) (hno:∀code p,r=.no code p→T=.no code p)
  (n2:r.okB=true→∀W,dF W g A n c r.pos ws→Calls Tryz.prog 186 #[.pointer (some ⟨g,0,none⟩)] W (aY g A n c gC r2 W))
  (h0:decide (r.val=aJ)=b0) (h1:decide (r.val=cW)=b1) (h2:decide (r.val=bn)=b2) (h3:decide (r.val=ek)=b3)
  (e2:r.okB=true→T=Mr b0 b1 b2 (b3&&out) r.pos r2) :
  Calls Tryz.prog 192 #[.pointer (some ⟨g,0,none⟩),.bool out] w (aY g A n c jA T w):=by
 have c8:=kn [] h h.le hno n1
 have c11f:=fun(_:r.okB=true∧r.pos≤n) W=>aD (.tmp 10) (.const (af aJ)) r.val aJ b0 h0 W
 have c14f:=fun(_:r.okB=true∧r.pos≤n) W=>aD (.tmp 13) (.const (af cW)) r.val cW b1 h1 W
 have c17f:=fun(_:r.okB=true∧r.pos≤n) W=>aD (.tmp 16) (.const (af bn)) r.val bn b2 h2 W
 have c20f:=fun(_:r.okB=true∧r.pos≤n) W=>aD (.tmp 19) (.const (af ek)) r.val ek b3 h3 W
 cases b0 with
 |true=>
  have z1f:=fun(hp:r.okB=true∧r.pos≤n)=>(show uh g A n c jA T (.val (jA (1,0))) [(g,154,df A n c r.pos)]from⟨_,_,e2 hp.1,hp.2,rfl,rfl⟩)
  refine cA [.bool out] h.bY [(8,.al (cE 0 g A n c r af)),(11,.bin (.bool true))] [] (by kernel_rfl) Tryz.func192 rfl (Nat.le_of_ble_eq_true rfl) ?_
  exact Eq.mp (by kernel_rfl) (And.intro c8 (fun(hx0:r.okB=true∧r.pos≤n)=>(And.intro (c11f hx0) (z1f hx0))))
 |false=>
  cases b1 with
  |true=>
   have z1f:=fun(hp:r.okB=true∧r.pos≤n)=>(show uh g A n c jA T (.val (jA (2,0))) [(g,154,df A n c r.pos)]from⟨_,_,e2 hp.1,hp.2,rfl,rfl⟩)
   refine cA [.bool out] h.bY [(8,.al (cE 0 g A n c r af)),(11,.bin (.bool false)),(14,.bin (.bool true))] [] (by kernel_rfl) Tryz.func192 rfl (Nat.le_of_ble_eq_true rfl) ?_
   exact Eq.mp (by kernel_rfl) (And.intro c8 (fun(hx0:r.okB=true∧r.pos≤n)=>(Sx.t2 (c11f hx0) (c14f hx0) (z1f hx0))))
  |false=>
   cases b2 with
   |true=>
    have z1f:=fun(hp:r.okB=true∧r.pos≤n)=>(show uh g A n c jA T (.val (jA (4,0))) [(g,154,df A n c r.pos)]from⟨_,_,e2 hp.1,hp.2,rfl,rfl⟩)
    refine cA [.bool out] h.bY [(8,.al (cE 0 g A n c r af)),(11,.bin (.bool false)),(14,.bin (.bool false)),(17,.bin (.bool true))] [] (by kernel_rfl) Tryz.func192 rfl (Nat.le_of_ble_eq_true rfl) ?_
    exact Eq.mp (by kernel_rfl) (And.intro c8 (fun(hx0:r.okB=true∧r.pos≤n)=>(Sx.t2 (c11f hx0) (c14f hx0) (And.intro (c17f hx0) (z1f hx0)))))
   |false=>
    cases b3 with
    |true=>
     cases out with
     |true=>
      have c25f:=fun(hp:r.okB=true∧r.pos≤n)=>kn [] h hp.2 (aX (show T=r2.bind fun v k=>.ok (3,(v:Int)) k from e2 hp.1)) (n2 hp.1)
      have z2f:=fun(hp:r.okB=true∧r.pos≤n) (hp2:r2.okB=true∧r2.pos≤n)=>(show uh g A n c jA T (.val (jA (3,(r2.val:Int)))) [(g,154,df A n c r2.pos)]from⟨(3,(r2.val:Int)),r2.pos,(show T=.ok (3,(r2.val:Int)) r2.pos from bH (show T=r2.bind fun v k=>.ok (3,(v:Int)) k from e2 hp.1) hp2.1),hp2.2,rfl,rfl⟩)
      refine cA [.bool true] h.bY [(8,.al (cE 0 g A n c r af)),(11,.bin (.bool false)),(14,.bin (.bool false)),(17,.bin (.bool false)),(20,.bin (.bool true)),(25,.al (cE 0 g A n c r2 gC))] [] (by kernel_rfl) Tryz.func192 rfl (Nat.le_of_ble_eq_true rfl) ?_
      exact Eq.mp (by kernel_rfl) (And.intro c8 (fun(hx0:r.okB=true∧r.pos≤n)=>(Sx.t4 (c11f hx0) (c14f hx0) (c17f hx0) (c20f hx0) (And.intro (c25f hx0) (fun(hx1:r2.okB=true∧r2.pos≤n)=>(z2f hx0 hx1))))))
     |false=>
      have c31f:=fun(hp:r.okB=true∧r.pos≤n) W (hW:aw [g] w W) (_:aB W g 154 (df A n c r.pos))=>jg (b:=⟨w,[g],jz T w⟩) (vs:=[.pointer (some ⟨g,0,none⟩),.int .i64 200,.int .i64 (r.pos:Int)]) (ps:=[(0,0)]) ((oh (.pointer (some ⟨g,0,none⟩)) 200 (r.pos:Int) W).mono fun _ _ ⟨ch,he,hf,hc⟩=>⟨ch,he,(show jz T w _ _ from⟨200,r.pos,e2 hp.1,hf.up hW.size⟩),hc⟩)
      have z1f:=fun(_:r.okB=true∧r.pos≤n)=>trivial
      refine cA [.bool false] h.bY [(8,.al (cE 0 g A n c r af)),(11,.bin (.bool false)),(14,.bin (.bool false)),(17,.bin (.bool false)),(20,.bin (.bool true)),(31,.jt)] [] (by kernel_rfl) Tryz.func192 rfl (Nat.le_of_ble_eq_true rfl) ?_
      exact Eq.mp (by kernel_rfl) (And.intro c8 (fun(hx0:r.okB=true∧r.pos≤n)=>(Sx.t4 (c11f hx0) (c14f hx0) (c17f hx0) (c20f hx0) (And.intro (c31f hx0) (z1f hx0)))))
    |false=>
     have c31f:=fun(hp:r.okB=true∧r.pos≤n) W (hW:aw [g] w W) (_:aB W g 154 (df A n c r.pos))=>jg (b:=⟨w,[g],jz T w⟩) (vs:=[.pointer (some ⟨g,0,none⟩),.int .i64 200,.int .i64 (r.pos:Int)]) (ps:=[(0,0)]) ((oh (.pointer (some ⟨g,0,none⟩)) 200 (r.pos:Int) W).mono fun _ _ ⟨ch,he,hf,hc⟩=>⟨ch,he,(show jz T w _ _ from⟨200,r.pos,e2 hp.1,hf.up hW.size⟩),hc⟩)
     have z1f:=fun(_:r.okB=true∧r.pos≤n)=>trivial
     refine cA [.bool out] h.bY [(8,.al (cE 0 g A n c r af)),(11,.bin (.bool false)),(14,.bin (.bool false)),(17,.bin (.bool false)),(20,.bin (.bool false)),(31,.jt)] [] (by kernel_rfl) Tryz.func192 rfl (Nat.le_of_ble_eq_true rfl) ?_
     exact Eq.mp (by kernel_rfl) (And.intro c8 (fun(hx0:r.okB=true∧r.pos≤n)=>(Sx.t4 (c11f hx0) (c14f hx0) (c17f hx0) (c20f hx0) (And.intro (c31f hx0) (z1f hx0)))))
theorem uV(out:Bool){w:World}{g:Nat}{A:Option Go.Addr}{n c i:Nat}{ws:List Bs}(h:dF w g A n c i ws):Calls Tryz.prog 192 #[.pointer (some ⟨g,0,none⟩),.bool out] w (aY g A n c jA (np out ws i) w):=by
 have e1:=(rfl:np out ws i=(bj ws i).bind _)
 refine Dx h (r:=bj ws i) (r2:=gQ ws (bj ws i).pos) out _ _ _ _ (fun W hL=>lX hL) (aX e1) (fun _ W hL=>sH hL) rfl rfl rfl rfl fun hp=>?_
 rw[bH e1 hp]
 by_cases h0:(bj ws i).val=aJ
 ·rw[if_pos h0,decide_eq_true h0];rfl
 rw[if_neg h0,decide_eq_false h0]
 by_cases h1:(bj ws i).val=cW
 ·rw[if_pos h1,decide_eq_true h1];rfl
 rw[if_neg h1,decide_eq_false h1]
 by_cases h2:(bj ws i).val=bn
 ·rw[if_pos h2,decide_eq_true h2];rfl
 rw[if_neg h2,decide_eq_false h2]
 by_cases h3:(bj ws i).val=ek
 ·cases out with
  |true=>rw[if_pos ⟨h3,rfl⟩,decide_eq_true h3];rfl
  |false=>rw[if_neg (by simp),decide_eq_true h3];rfl
 ·rw[if_neg (by simp[h3]),decide_eq_false h3];rfl
end Go.Proofs.YtnncigmpcdehnaaGreatDoor
