import Derived.Test.YtnncigmpcdehnaaGreatDoorQf16
namespace Go.Proofs.YtnncigmpcdehnaaGreatDoor
set_option maxRecDepth 100000
open Go.RowKit Go.Lib Go.Sort _root_.Go.Proofs.Tryz
set_option maxRecDepth 100000
def n9(p:Px):Value:=.agg p.cells.toArray
def S6(o:Option Px):Int:=match o with
 |some _=>0
 |none=>151
theorem ud{s:Bs}{p:Px}(h:rf s=some p):Cl s p.v p.n p.k:=by
 unfold rf at h
 split at h
 ·rename_i hx
  injection h with h
  rw[←h];exact hx.choose_spec
 ·cases h
theorem Ad{s:Bs}(h:rf s=none):∀v n k,¬Cl s v n k:=by
 intro v n k hp
 unfold rf at h
 split at h
 ·cases h
 ·rename_i hx
  exact hx ⟨⟨v,n,k⟩,hp⟩
theorem ME(s:Bs)(hs:s.length≤100000000)(w:World)(HL:eb w):Calls prog 16 #[ab s] w (Rn w (.tuple #[n9 ((rf s).getD oc),.int .i64 (S6 (rf s))])):=by
 cases h:rf s with
 |some p=>exact uc (ud h) hs w HL
 |none=>exact MD (Ad h) hs w HL
theorem ry{w:World}{g:Nat}{A:Option Go.Addr}{n c i:Nat}{ws:List Bs}(h:eJ w g A n c i ws):Calls prog 187 #[(pt g 0)] w (bU g A n c n9 (dV ws i) w):=by
 have e1:dV ws i=(aV ws i).bind fun x j=>ay (rf x).isSome 151 ((rf x).getD oc) j:=rfl
 have n1:=fun W (hL:eJ W g A n c i ws)=>ns hL
 have hx:(aV ws i).val.length≤100000000:=uI h.sz
 generalize dV ws i=T at e1 ⊢
 generalize aV ws i=r at e1 n1 hx
 have hr8:=fun W (hW:ai [g] w W)=>ME r.val (by omega) W (h.AR hW)
 have hpe:Value.bool (S6 (rf r.val)==0)=.bool (rf r.val).isSome:=by cases rf r.val<;>rfl
 have e2:r.okB=true→T=ay (rf r.val).isSome 151 ((rf r.val).getD oc) r.pos:=fun hp=>bZ e1 hp
 generalize S6 (rf r.val)=er at hr8 hpe
 generalize (rf r.val).isSome=ok at e2 hpe
 generalize (rf r.val).getD oc=p at hr8 e2
 have c7:=l9 [⟨29,.ak oc.cells⟩] [] h h.le (cj e1) n1
 have c8f:=fun(_:r.okB=true∧r.pos≤n)=>hr8
 have c13f:=fun(_:r.okB=true∧r.pos≤n)=>hpe
 have c14f:=fun(hp:r.okB=true∧r.pos≤n)=>l9 [⟨29,.ak oc.cells⟩,⟨29,.ak p.cells⟩] [.bool ok,.int .i64 151] h hp.2 (xj (e2 hp.1)) (fun W hL=>iy ok 151 p hL)
 have z2f:=fun(hp:r.okB=true∧r.pos≤n) (hp2:(ay ok 151 p r.pos).okB=true∧(ay ok 151 p r.pos).pos≤n)=>(show zy g A n c n9 T (.val (n9 p)) [(g,154,dJ A n c (ay ok 151 p r.pos).pos)]from by
  have e2:=e2 hp.1
  cases ok with
  |false=>cases hp2.1
  |true=>exact⟨_,_,e2,hp.2,rfl,rfl⟩)
 refine cZ [] h.b9 [(7,.aq (eV 0 g A n c r ab)),(8,.call (.tuple #[n9 p,.int .i64 er])),(13,.is (.bool ok)),(14,.aq (eV 0 g A n c (ay ok 151 p r.pos) fun _=>.tuple #[]))] [] (by kernel_rfl) func187 rfl (cn rfl) ?_
 exact Eq.mp (by kernel_rfl) (And.intro c7 (fun(hx0:r.okB=true∧r.pos≤n)=>(Sx.t2 (c8f hx0) (c13f hx0) (And.intro (c14f hx0) (fun(hx1:(ay ok 151 p r.pos).okB=true∧(ay ok 151 p r.pos).pos≤n)=>(z2f hx0 hx1))))))
def Rf(two:Bool)(a b:Bs):Bs:=match two with
 |true=>b
 |false=>a
def iV(s:Nat×Nat):Value:=.agg #[.int .u16 (s.1:Int),.int .u16 (s.2:Int)]
theorem N8(x:Bs)(hs:x.length≤100000000)(w:World)(HL:eb w):Calls prog 48 #[ab x,.string ⟨#[45]⟩] w (Rn w (.tuple #[ab (Lib.cut x [45]).1,ab (Lib.cut x [45]).2.1,.bool (Lib.cut x [45]).2.2])):=KA x [45] (by omega) w HL
theorem G1(x:Bs):(Lib.cut x [45]).1.length≤x.length∧(Lib.cut x [45]).2.1.length≤x.length:=by
 unfold Lib.cut
 split
 ·simp
  omega
 ·simp
theorem Q6{v:Nat}(h:v≤65535):Value.int .u16 (IntKind.u16.wrap (v:Int))=.int .u16 (v:Int):=by
 have:IntKind.u16.wrap (v:Int)=v:=by simp[IntKind.wrap,IntKind.bits,IntKind.signed];omega
 rw[this]
theorem uF{most:Nat}{s:Bs}(h:cN most s=true):gV s≤most:=by
 unfold cN at h
 rw[Bool.and_eq_true,decide_eq_true_iff]at h
 exact h.1
theorem Np{w:World}{g:Nat}{A:Option Go.Addr}{n c i:Nat}{ws:List Bs}(h:eJ w g A n c i ws){T:Out (Nat×Nat)}{r:Out Bs}(a b d:Bs)(two oa ob:Bool)
  (n1:∀W,eJ W g A n c i ws→Calls prog 154 #[(pt g 0)] W (bU g A n c ab r W)) (hno:∀code p,r=.no code p→T=.no code p)
  (hc:r.okB=true→∀W,ai [g] w W→Calls prog 48 #[ab r.val,.string ⟨#[45]⟩] W (Rn W (.tuple #[ab a,ab b,.bool two])))
  (hd:d=Rf two a b)
  (ha:∀W,ai [g] w W→Calls prog 232 #[ab a,.int .u64 65535] W (Rn W (.tuple #[lY (tb a),.bool oa])))
  (hb:∀W,ai [g] w W→Calls prog 232 #[ab d,.int .u64 65535] W (Rn W (.tuple #[lY (tb d),.bool ob])))
  (va vb:Nat) (hva:(oa&&ob)=true→tb a=va∧va≤65535) (hvb:(oa&&ob)=true→tb d=vb∧vb≤65535)
  (e2:r.okB=true→T=ay (oa&&ob) 200 (va,vb) r.pos) :
  Calls prog 205 #[(pt g 0)] w (bU g A n c iV T w):=by
 have hw37:(oa&&ob)=true→Value.int .u16 (IntKind.u16.wrap (tb a:Int))=.int .u16 (va:Int):=fun ho=>by rw[(hva ho).1];exact Q6 (hva ho).2
 have hw39:(oa&&ob)=true→Value.int .u16 (IntKind.u16.wrap (tb d:Int))=.int .u16 (vb:Int):=fun ho=>by rw[(hvb ho).1];exact Q6 (hvb ho).2
 generalize tb a=pa at ha hva hw37
 generalize tb d=pd at hb hvb hw39
 have c12:=l9 [⟨64,.ak [.int .u16 0,.int .u16 0]⟩] [] h h.le hno n1
 have c13f:=fun(hp:r.okB=true∧r.pos≤n)=>hc hp.1
 have c22f:=fun(_:r.okB=true∧r.pos≤n)=>ha
 have c27f:=fun(_:r.okB=true∧r.pos≤n)=>hb
 have c35f:=fun(hp:r.okB=true∧r.pos≤n)=>l9 [⟨64,.ak [.int .u16 0,.int .u16 0]⟩] [.bool (oa&&ob),.int .i64 200] h hp.2 (xj (e2 hp.1)) (fun W hL=>iy (oa&&ob) 200 (va,vb) hL)
 have c37f:=fun(_:r.okB=true∧r.pos≤n) (hp2:(ay (oa&&ob) 200 (va,vb) r.pos).okB=true∧(ay (oa&&ob) 200 (va,vb) r.pos).pos≤n)=>(show Value.int .u16 (IntKind.u16.wrap (pa:Int))=.int .u16 (va:Int)from hw37 (by
  cases ho:(oa&&ob)with
  |true=>rfl
  |false=>rw[ho]at hp2;cases hp2.1))
 have c39f:=fun(_:r.okB=true∧r.pos≤n) (hp2:(ay (oa&&ob) 200 (va,vb) r.pos).okB=true∧(ay (oa&&ob) 200 (va,vb) r.pos).pos≤n)=>(show Value.int .u16 (IntKind.u16.wrap (pd:Int))=.int .u16 (vb:Int)from hw39 (by
  cases ho:(oa&&ob)with
  |true=>rfl
  |false=>rw[ho]at hp2;cases hp2.1))
 have zf:=fun(hp:r.okB=true∧r.pos≤n) (hp2:(ay (oa&&ob) 200 (va,vb) r.pos).okB=true∧(ay (oa&&ob) 200 (va,vb) r.pos).pos≤n)=>(show zy g A n c iV T (.val (iV (va,vb))) [(g,154,dJ A n c (ay (oa&&ob) 200 (va,vb) r.pos).pos)]from by
  have e2:=e2 hp.1
  cases ho:(oa&&ob)with
  |false=>rw[ho]at hp2;cases hp2.1
  |true=>rw[ho]at e2;exact⟨_,_,e2,hp.2,rfl,rfl⟩)
 have z2f:=zf
 cases two with
 |false=>
  have hd:d=a:=hd
  subst hd
  cases oa with
  |false=>
   refine cZ [] h.b9 [(12,.aq (eV 0 g A n c r ab)),(13,.call (.tuple #[ab d,ab b,.bool false])),(22,.call (.tuple #[lY pa,.bool false])),(27,.call (.tuple #[lY pd,.bool ob])),(35,.aq (eV 0 g A n c (ay (false&&ob) 200 (va,vb) r.pos) fun _=>.tuple #[])),(37,.is (.int .u16 (va:Int))),(39,.is (.int .u16 (vb:Int)))] [] (by kernel_rfl) func205 rfl (cn rfl) ?_
   exact Eq.mp (by kernel_rfl) (And.intro c12 (fun(hx0:r.okB=true∧r.pos≤n)=>(Sx.t4 (c13f hx0) (c22f hx0) (c27f hx0) (c35f hx0) (fun(hx1:(ay (false&&ob) 200 (va,vb) r.pos).okB=true∧(ay (false&&ob) 200 (va,vb) r.pos).pos≤n)=>(Sx.t2 (c37f hx0 hx1) (c39f hx0 hx1) (z2f hx0 hx1))))))
  |true=>
   refine cZ [] h.b9 [(12,.aq (eV 0 g A n c r ab)),(13,.call (.tuple #[ab d,ab b,.bool false])),(22,.call (.tuple #[lY pa,.bool true])),(27,.call (.tuple #[lY pd,.bool ob])),(35,.aq (eV 0 g A n c (ay (true&&ob) 200 (va,vb) r.pos) fun _=>.tuple #[])),(37,.is (.int .u16 (va:Int))),(39,.is (.int .u16 (vb:Int)))] [] (by kernel_rfl) func205 rfl (cn rfl) ?_
   exact Eq.mp (by kernel_rfl) (And.intro c12 (fun(hx0:r.okB=true∧r.pos≤n)=>(Sx.t4 (c13f hx0) (c22f hx0) (c27f hx0) (c35f hx0) (fun(hx1:(ay (true&&ob) 200 (va,vb) r.pos).okB=true∧(ay (true&&ob) 200 (va,vb) r.pos).pos≤n)=>(Sx.t2 (c37f hx0 hx1) (c39f hx0 hx1) (z2f hx0 hx1))))))
 |true=>
  have hd:d=b:=hd
  subst hd
  cases oa with
  |false=>
   refine cZ [] h.b9 [(12,.aq (eV 0 g A n c r ab)),(13,.call (.tuple #[ab a,ab d,.bool true])),(22,.call (.tuple #[lY pa,.bool false])),(27,.call (.tuple #[lY pd,.bool ob])),(35,.aq (eV 0 g A n c (ay (false&&ob) 200 (va,vb) r.pos) fun _=>.tuple #[])),(37,.is (.int .u16 (va:Int))),(39,.is (.int .u16 (vb:Int)))] [] (by kernel_rfl) func205 rfl (cn rfl) ?_
   exact Eq.mp (by kernel_rfl) (And.intro c12 (fun(hx0:r.okB=true∧r.pos≤n)=>(Sx.t4 (c13f hx0) (c22f hx0) (c27f hx0) (c35f hx0) (fun(hx1:(ay (false&&ob) 200 (va,vb) r.pos).okB=true∧(ay (false&&ob) 200 (va,vb) r.pos).pos≤n)=>(Sx.t2 (c37f hx0 hx1) (c39f hx0 hx1) (z2f hx0 hx1))))))
  |true=>
   refine cZ [] h.b9 [(12,.aq (eV 0 g A n c r ab)),(13,.call (.tuple #[ab a,ab d,.bool true])),(22,.call (.tuple #[lY pa,.bool true])),(27,.call (.tuple #[lY pd,.bool ob])),(35,.aq (eV 0 g A n c (ay (true&&ob) 200 (va,vb) r.pos) fun _=>.tuple #[])),(37,.is (.int .u16 (va:Int))),(39,.is (.int .u16 (vb:Int)))] [] (by kernel_rfl) func205 rfl (cn rfl) ?_
   exact Eq.mp (by kernel_rfl) (And.intro c12 (fun(hx0:r.okB=true∧r.pos≤n)=>(Sx.t4 (c13f hx0) (c22f hx0) (c27f hx0) (c35f hx0) (fun(hx1:(ay (true&&ob) 200 (va,vb) r.pos).okB=true∧(ay (true&&ob) 200 (va,vb) r.pos).pos≤n)=>(Sx.t2 (c37f hx0 hx1) (c39f hx0 hx1) (z2f hx0 hx1))))))
theorem FM(x:Bs):(fk x).1.length≤x.length∧(fk x).2.length≤x.length:=by
 have h:=G1 x
 unfold fk
 split
 ·exact h
 ·exact⟨h.1,h.1⟩
theorem yD{w:World}{g:Nat}{A:Option Go.Addr}{n c i:Nat}{ws:List Bs}(h:eJ w g A n c i ws):Calls prog 205 #[(pt g 0)] w (bU g A n c iV (jj ws i) w):=by
 have e1:jj ws i=(aV ws i).bind fun x j=>ay (cN 65535 (fk x).1&&cN 65535 (fk x).2) 200 (gV (fk x).1,gV (fk x).2) j:=rfl
 have hx:(aV ws i).val.length≤100000000:=uI h.sz
 have hl:=FM (aV ws i).val
 have hE:(fk (aV ws i).val).1=(Lib.cut (aV ws i).val [45]).1:=by unfold fk;split<;>rfl
 have key:∀s:Bs,cN 65535 s=true→tb s=gV s∧gV s≤65535:=fun s hs=>⟨(uk (uE (by omega) hs)).1.symm,uF hs⟩
 refine Np h (r:=aV ws i) (fk (aV ws i).val).1 (Lib.cut (aV ws i).val [45]).2.1 (fk (aV ws i).val).2 (Lib.cut (aV ws i).val [45]).2.2 (cN 65535 (fk (aV ws i).val).1) (cN 65535 (fk (aV ws i).val).2)
  (fun W hL=>ns hL) (cj e1) (fun _ W hW=>?_) ?_ (fun W hW=>o8 65535 (by omega) _ (by omega) W (h.AR hW)) (fun W hW=>o8 65535 (by omega) _ (by omega) W (h.AR hW)) _ _ ?_ ?_ (fun hp=>bZ e1 hp)
 ·rw[hE];exact N8 _ hx W (h.AR hW)
 ·unfold fk Rf;split<;>rename_i hk<;>rw[hk]
 ·intro ho
  rw[Bool.and_eq_true]at ho
  exact key _ ho.1
 ·intro ho
  rw[Bool.and_eq_true]at ho
  exact key _ ho.2
def OH(n:Nat):Value:=.int .u8 (n:Int)
theorem TR{v:Nat}(h:v≤255):Value.int .u8 (IntKind.u8.wrap (v:Int))=.int .u8 (v:Int):=by
 have:IntKind.u8.wrap (v:Int)=v:=by simp[IntKind.wrap,IntKind.bits,IntKind.signed];omega
 rw[this]
theorem JF{w:World}{g:Nat}{A:Option Go.Addr}{n c i:Nat}{ws:List Bs}(h:eJ w g A n c i ws):Calls prog 209 #[.pointer (some ⟨g,0,none⟩)] w (bU g A n c OH (eB ws i) w):=by
 have hlen:=h.len
 rcases iA (ws:=ws) (i:=i) (s:=pj)with⟨h1,h2⟩ | h1
 ·have e1:eB ws i=.ok 6 (i+1):=by unfold eB;rw[h1];rfl
  have n1:=fun W (hL:eJ W g A n c i ws)=>h1 ▸ kJ pj hL
  generalize eB ws i=T at e1 ⊢
  have c5:=lr (T:=T) [ab pj] h h.le (fun code p hh=>by cases hh) n1
  have z1f:=fun(hp:(Out.ok true (i+1)).okB=true∧(Out.ok true (i+1)).pos≤n)=>(show zy g A n c OH T (.val (OH 6)) [(g,154,dJ A n c (i+1))]from⟨_,_,e1,hp.2,rfl,rfl⟩)
  refine cZ [] h.b9 [(5,.aq (eV 0 g A n c (Out.ok true (i+1)) fun b=>.bool b))] [] (by kernel_rfl) func209 rfl (cn rfl) ?_
  exact Eq.mp (by kernel_rfl) (And.intro c5 (fun(hx0:(Out.ok true (i+1)).okB=true∧(Out.ok true (i+1)).pos≤n)=>(z1f hx0)))
 ·rcases iA (ws:=ws) (i:=i) (s:=qu)with⟨h3,h4⟩ | h3
  ·have e1:eB ws i=.ok 17 (i+1):=by unfold eB;rw[h1];simp only[Out.bind,h3]
   have n1:=fun W (hL:eJ W g A n c i ws)=>h1 ▸ kJ pj hL
   have n2:=fun W (hL:eJ W g A n c i ws)=>h3 ▸ kJ qu hL
   generalize eB ws i=T at e1 ⊢
   have c5:=lr (T:=T) [ab pj] h h.le (fun code p hh=>by cases hh) n1
   have c8f:=fun(_:(Out.ok false i).okB=true∧(Out.ok false i).pos≤n)=>lr (T:=T) [ab qu] h h.le (fun code p hh=>by cases hh) n2
   have z2f:=fun(_:(Out.ok false i).okB=true∧(Out.ok false i).pos≤n) (hp:(Out.ok true (i+1)).okB=true∧(Out.ok true (i+1)).pos≤n)=>(show zy g A n c OH T (.val (OH 17)) [(g,154,dJ A n c (i+1))]from⟨_,_,e1,hp.2,rfl,rfl⟩)
   refine cZ [] h.b9 [(5,.aq (eV 0 g A n c (Out.ok false i) fun b=>.bool b)),(8,.aq (eV 0 g A n c (Out.ok true (i+1)) fun b=>.bool b))] [] (by kernel_rfl) func209 rfl (cn rfl) ?_
   exact Eq.mp (by kernel_rfl) (And.intro c5 (fun(hx0:(Out.ok false i).okB=true∧(Out.ok false i).pos≤n)=>(And.intro (c8f hx0) (fun(hx1:(Out.ok true (i+1)).okB=true∧(Out.ok true (i+1)).pos≤n)=>(z2f hx0 hx1)))))
  ·have e1:eB ws i=bw 255 ws i:=by unfold eB;rw[h1];simp only[Out.bind,h3]
   have n1:=fun W (hL:eJ W g A n c i ws)=>h1 ▸ kJ pj hL
   have n2:=fun W (hL:eJ W g A n c i ws)=>h3 ▸ kJ qu hL
   have n3:=fun W (hL:eJ W g A n c i ws)=>lq 255 (by omega) hL
   have hle:∀v j,bw 255 ws i=.ok v j→v≤255:=fun v j=>CX
   generalize eB ws i=T at e1 ⊢
   generalize bw 255 ws i=r at e1 n3 hle
   have c5:=lr (T:=T) [ab pj] h h.le (fun code p hh=>by cases hh) n1
   have c8f:=fun(_:(Out.ok false i).okB=true∧(Out.ok false i).pos≤n)=>lr (T:=T) [ab qu] h h.le (fun code p hh=>by cases hh) n2
   have c10f:=fun(_:(Out.ok false i).okB=true∧(Out.ok false i).pos≤n) (_:(Out.ok false i).okB=true∧(Out.ok false i).pos≤n)=>lr [.int .u64 ((255:Nat):Int)] h h.le (xj e1) n3
   have c11f:=fun(_:(Out.ok false i).okB=true∧(Out.ok false i).pos≤n) (_:(Out.ok false i).okB=true∧(Out.ok false i).pos≤n) (hp:r.okB=true∧r.pos≤n)=>(show Value.int .u8 (IntKind.u8.wrap (r.val:Int))=.int .u8 (r.val:Int)from TR (hle _ _ (EB hp)))
   have z3f:=fun(_:(Out.ok false i).okB=true∧(Out.ok false i).pos≤n) (_:(Out.ok false i).okB=true∧(Out.ok false i).pos≤n) (hp:r.okB=true∧r.pos≤n)=>(show zy g A n c OH T (.val (OH r.val)) [(g,154,dJ A n c r.pos)]from⟨_,_,by rw[e1];exact EB hp,hp.2,rfl,rfl⟩)
   refine cZ [] h.b9 [(5,.aq (eV 0 g A n c (Out.ok false i) fun b=>.bool b)),(8,.aq (eV 0 g A n c (Out.ok false i) fun b=>.bool b)),(10,.aq (eV 0 g A n c r lY)),(11,.is (.int .u8 (r.val:Int)))] [] (by kernel_rfl) func209 rfl (cn rfl) ?_
   exact Eq.mp (by kernel_rfl) (And.intro c5 (fun(hx0:(Out.ok false i).okB=true∧(Out.ok false i).pos≤n)=>(And.intro (c8f hx0) (fun(hx1:(Out.ok false i).okB=true∧(Out.ok false i).pos≤n)=>(And.intro (c10f hx0 hx1) (fun(hx2:r.okB=true∧r.pos≤n)=>(And.intro (c11f hx0 hx1 hx2) (z3f hx0 hx1 hx2))))))))
def QN(b0 b1 b2 b3:Bool)(p:Nat)(r2:Out Nat):Out (Int×Int):=match b0 with
 |true=>.ok (1,0) p
 |false=>match b1 with
  |true=>.ok (2,0) p
  |false=>match b2 with
   |true=>.ok (4,0) p
   |false=>match b3 with
    |true=>r2.bind fun v k=>.ok (3,(v:Int)) k
    |false=>.no 200 p
def sQ(a:Int×Int):Value:=.tuple #[.int .i64 a.1,.int .i64 a.2]
theorem bJ(x y:Operand)(s t:List UInt8)(b:Bool)(hb:decide (s=t)=b)(W:World):(do eqGuard .eql 9 x y (.string ⟨s.toArray⟩) (.string ⟨t.toArray⟩);binOp .eql 9 (.string ⟨s.toArray⟩) (.string ⟨t.toArray⟩):Sem Value).run prog W=.ok (.bool b) W:=by
 have e:∀l:List UInt8,(⟨l.toArray⟩:ByteArray).toList=l:=fun l=>by simp
 have h:(do eqGuard .eql 9 x y (.string ⟨s.toArray⟩) (.string ⟨t.toArray⟩);binOp .eql 9 (.string ⟨s.toArray⟩) (.string ⟨t.toArray⟩):Sem Value).run prog W=.ok (.bool ((⟨s.toArray⟩:ByteArray).toList==(⟨t.toArray⟩:ByteArray).toList)) W:=rfl
 rw[h,e,e,←hb]
 by_cases h:s=t<;>simp[h]
theorem GB{w:World}{g:Nat}{A:Option Go.Addr}{n c i:Nat}{ws:List Bs}(h:eJ w g A n c i ws){T:Out (Int×Int)}{r:Out Bs}{r2:Out Nat}(out b0 b1 b2 b3:Bool)
  (n1:∀W,eJ W g A n c i ws→Calls prog 154 #[(pt g 0)] W (bU g A n c ab r W)) (hno:∀code p,r=.no code p→T=.no code p)
  (n2:r.okB=true→∀W,eJ W g A n c r.pos ws→Calls prog 186 #[(pt g 0)] W (bU g A n c qy r2 W))
  (h0:decide (r.val=de)=b0) (h1:decide (r.val=kq)=b1) (h2:decide (r.val=ga)=b2) (h3:decide (r.val=nC)=b3)
  (e2:r.okB=true→T=QN b0 b1 b2 (b3&&out) r.pos r2) :
  Calls prog 192 #[(pt g 0),.bool out] w (bU g A n c sQ T w):=by
 have c8:=lr [] h h.le hno n1
 have c11f:=fun(_:r.okB=true∧r.pos≤n) W=>bJ (.tmp 10) (.const (ab de)) r.val de b0 h0 W
 have c14f:=fun(_:r.okB=true∧r.pos≤n) W=>bJ (.tmp 13) (.const (ab kq)) r.val kq b1 h1 W
 have c17f:=fun(_:r.okB=true∧r.pos≤n) W=>bJ (.tmp 16) (.const (ab ga)) r.val ga b2 h2 W
 have c20f:=fun(_:r.okB=true∧r.pos≤n) W=>bJ (.tmp 19) (.const (ab nC)) r.val nC b3 h3 W
 cases b0 with
 |true=>
  have z1f:=fun(hp:r.okB=true∧r.pos≤n)=>(show zy g A n c sQ T (.val (sQ (1,0))) [(g,154,dJ A n c r.pos)]from⟨_,_,e2 hp.1,hp.2,rfl,rfl⟩)
  refine cZ [.bool out] h.b9 [(8,.aq (eV 0 g A n c r ab)),(11,.bin (.bool true))] [] (by kernel_rfl) func192 rfl (cn rfl) ?_
  exact Eq.mp (by kernel_rfl) (And.intro c8 (fun(hx0:r.okB=true∧r.pos≤n)=>(And.intro (c11f hx0) (z1f hx0))))
 |false=>
  cases b1 with
  |true=>
   have z1f:=fun(hp:r.okB=true∧r.pos≤n)=>(show zy g A n c sQ T (.val (sQ (2,0))) [(g,154,dJ A n c r.pos)]from⟨_,_,e2 hp.1,hp.2,rfl,rfl⟩)
   refine cZ [.bool out] h.b9 [(8,.aq (eV 0 g A n c r ab)),(11,.bin (.bool false)),(14,.bin (.bool true))] [] (by kernel_rfl) func192 rfl (cn rfl) ?_
   exact Eq.mp (by kernel_rfl) (And.intro c8 (fun(hx0:r.okB=true∧r.pos≤n)=>(Sx.t2 (c11f hx0) (c14f hx0) (z1f hx0))))
  |false=>
   cases b2 with
   |true=>
    have z1f:=fun(hp:r.okB=true∧r.pos≤n)=>(show zy g A n c sQ T (.val (sQ (4,0))) [(g,154,dJ A n c r.pos)]from⟨_,_,e2 hp.1,hp.2,rfl,rfl⟩)
    refine cZ [.bool out] h.b9 [(8,.aq (eV 0 g A n c r ab)),(11,.bin (.bool false)),(14,.bin (.bool false)),(17,.bin (.bool true))] [] (by kernel_rfl) func192 rfl (cn rfl) ?_
    exact Eq.mp (by kernel_rfl) (And.intro c8 (fun(hx0:r.okB=true∧r.pos≤n)=>(Sx.t2 (c11f hx0) (c14f hx0) (And.intro (c17f hx0) (z1f hx0)))))
   |false=>
    cases b3 with
    |true=>
     cases out with
     |true=>
      have c25f:=fun(hp:r.okB=true∧r.pos≤n)=>lr [] h hp.2 (cj (show T=r2.bind fun v k=>.ok (3,(v:Int)) k from e2 hp.1)) (n2 hp.1)
      have z2f:=fun(hp:r.okB=true∧r.pos≤n) (hp2:r2.okB=true∧r2.pos≤n)=>(show zy g A n c sQ T (.val (sQ (3,(r2.val:Int)))) [(g,154,dJ A n c r2.pos)]from⟨(3,(r2.val:Int)),r2.pos,(show T=.ok (3,(r2.val:Int)) r2.pos from bZ (show T=r2.bind fun v k=>.ok (3,(v:Int)) k from e2 hp.1) hp2.1),hp2.2,rfl,rfl⟩)
      refine cZ [.bool true] h.b9 [(8,.aq (eV 0 g A n c r ab)),(11,.bin (.bool false)),(14,.bin (.bool false)),(17,.bin (.bool false)),(20,.bin (.bool true)),(25,.aq (eV 0 g A n c r2 qy))] [] (by kernel_rfl) func192 rfl (cn rfl) ?_
      exact Eq.mp (by kernel_rfl) (And.intro c8 (fun(hx0:r.okB=true∧r.pos≤n)=>(Sx.t4 (c11f hx0) (c14f hx0) (c17f hx0) (c20f hx0) (And.intro (c25f hx0) (fun(hx1:r2.okB=true∧r2.pos≤n)=>(z2f hx0 hx1))))))
     |false=>
      have c31f:=fun(hp:r.okB=true∧r.pos≤n) W (hW:ai [g] w W) (_:au W g 154 (dJ A n c r.pos))=>jN (b:=⟨w,[g],j2 T w⟩) (vs:=[(pt g 0),.int .i64 200,.int .i64 (r.pos:Int)]) (ps:=[(0,0)]) ((pw ((pt g 0)) 200 (r.pos:Int) W).mono fun _ _ ⟨ch,he,hf,hc⟩=>⟨ch,he,(show j2 T w _ _ from⟨200,r.pos,e2 hp.1,hf.up hW.size⟩),hc⟩)
      have z1f:=fun(_:r.okB=true∧r.pos≤n)=>trivial
      refine cZ [.bool false] h.b9 [(8,.aq (eV 0 g A n c r ab)),(11,.bin (.bool false)),(14,.bin (.bool false)),(17,.bin (.bool false)),(20,.bin (.bool true)),(31,.oP)] [] (by kernel_rfl) func192 rfl (cn rfl) ?_
      exact Eq.mp (by kernel_rfl) (And.intro c8 (fun(hx0:r.okB=true∧r.pos≤n)=>(Sx.t4 (c11f hx0) (c14f hx0) (c17f hx0) (c20f hx0) (And.intro (c31f hx0) (z1f hx0)))))
    |false=>
     have c31f:=fun(hp:r.okB=true∧r.pos≤n) W (hW:ai [g] w W) (_:au W g 154 (dJ A n c r.pos))=>jN (b:=⟨w,[g],j2 T w⟩) (vs:=[(pt g 0),.int .i64 200,.int .i64 (r.pos:Int)]) (ps:=[(0,0)]) ((pw ((pt g 0)) 200 (r.pos:Int) W).mono fun _ _ ⟨ch,he,hf,hc⟩=>⟨ch,he,(show j2 T w _ _ from⟨200,r.pos,e2 hp.1,hf.up hW.size⟩),hc⟩)
     have z1f:=fun(_:r.okB=true∧r.pos≤n)=>trivial
     refine cZ [.bool out] h.b9 [(8,.aq (eV 0 g A n c r ab)),(11,.bin (.bool false)),(14,.bin (.bool false)),(17,.bin (.bool false)),(20,.bin (.bool false)),(31,.oP)] [] (by kernel_rfl) func192 rfl (cn rfl) ?_
     exact Eq.mp (by kernel_rfl) (And.intro c8 (fun(hx0:r.okB=true∧r.pos≤n)=>(Sx.t4 (c11f hx0) (c14f hx0) (c17f hx0) (c20f hx0) (And.intro (c31f hx0) (z1f hx0)))))
theorem xq(out:Bool){w:World}{g:Nat}{A:Option Go.Addr}{n c i:Nat}{ws:List Bs}(h:eJ w g A n c i ws):Calls prog 192 #[.pointer (some ⟨g,0,none⟩),.bool out] w (bU g A n c sQ (pI out ws i) w):=by
 have e1:=(rfl:pI out ws i=(aV ws i).bind _)
 refine GB h (r:=aV ws i) (r2:=iZ ws (aV ws i).pos) out _ _ _ _ (fun W hL=>ns hL) (cj e1) (fun _ W hL=>uT hL) rfl rfl rfl rfl fun hp=>?_
 rw[bZ e1 hp]
 by_cases h0:(aV ws i).val=de
 ·rw[if_pos h0,decide_eq_true h0];rfl
 rw[if_neg h0,decide_eq_false h0]
 by_cases h1:(aV ws i).val=kq
 ·rw[if_pos h1,decide_eq_true h1];rfl
 rw[if_neg h1,decide_eq_false h1]
 by_cases h2:(aV ws i).val=ga
 ·rw[if_pos h2,decide_eq_true h2];rfl
 rw[if_neg h2,decide_eq_false h2]
 by_cases h3:(aV ws i).val=nC
 ·cases out with
  |true=>rw[if_pos ⟨h3,rfl⟩,decide_eq_true h3];rfl
  |false=>rw[if_neg (by simp),decide_eq_true h3];rfl
 ·rw[if_neg (by simp[h3]),decide_eq_false h3];rfl
end Go.Proofs.YtnncigmpcdehnaaGreatDoor
