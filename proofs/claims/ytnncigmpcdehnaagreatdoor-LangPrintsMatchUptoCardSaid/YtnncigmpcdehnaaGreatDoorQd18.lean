import Derived.Test.YtnncigmpcdehnaaGreatDoorQd17
namespace Go.Proofs.YtnncigmpcdehnaaGreatDoor
set_option maxRecDepth 100000
open Go.RowKit Go.Lib Go.Sort
def mV(p:Px):Value:=.agg p.cells.toArray
def Pg(o:Option Px):Int:=match o with
 |some _=>0
 |none=>151
theorem sa{s:Bs}{p:Px}(h:pZ s=some p):Af s p.v p.n p.k:=by
 unfold pZ at h
 split at h
 ·rename_i hx
  injection h with h
  rw[←h];exact hx.choose_spec
 ·cases h
theorem xY{s:Bs}(h:pZ s=none):∀v n k,¬Af s v n k:=by
 intro v n k hp
 unfold pZ at h
 split at h
 ·cases h
 ·rename_i hx
  exact hx ⟨⟨v,n,k⟩,hp⟩
theorem JC(s:Bs)(hs:s.length≤100000000)(w:World)(HL:dJ w):Calls Tryz.prog 16 #[ab s] w fun e w'=>e=.returned (.tuple #[mV ((pZ s).getD nz),.int .i64 (Pg (pZ s))])∧ag [] w w':=by
 cases h:pZ s with
 |some p=>exact r9 (sa h) hs w HL
 |none=>exact JB (xY h) hs w HL
theorem qf{w:World}{g:Nat}{A:Option Go.Addr}{n c i:Nat}{ws:List Bs}(h:dX w g A n c i ws):Calls Tryz.prog 187 #[.pointer (some ⟨g,0,none⟩)] w (bM g A n c mV (dB ws i) w):=by
 have e1:dB ws i=(aR ws i).bind fun x j=>ax (pZ x).isSome 151 ((pZ x).getD nz) j:=rfl
 have n1:=fun W (hL:dX W g A n c i ws)=>mb hL
 have hx:(aR ws i).val.length≤100000000:=sJ h.sz
 generalize dB ws i=T at e1 ⊢
 generalize aR ws i=r at e1 n1 hx
 have hr8:=fun W (hW:ag [g] w W)=>JC r.val (by omega) W (h.yK hW)
 have hpe:Value.bool (Pg (pZ r.val)==0)=.bool (pZ r.val).isSome:=by cases pZ r.val<;>rfl
 have e2:r.okB=true→T=ax (pZ r.val).isSome 151 ((pZ r.val).getD nz) r.pos:=fun hp=>bS e1 hp
 generalize Pg (pZ r.val)=er at hr8 hpe
 generalize (pZ r.val).isSome=ok at e2 hpe
 generalize (pZ r.val).getD nz=p at hr8 e2
 have c7:=kU [⟨29,.aj nz.cells⟩] [] h h.le (bY e1) n1
 have c8f:=fun(_:r.okB=true∧r.pos≤n)=>hr8
 have c13f:=fun(_:r.okB=true∧r.pos≤n)=>hpe
 have c14f:=fun(hp:r.okB=true∧r.pos≤n)=>kU [⟨29,.aj nz.cells⟩,⟨29,.aj p.cells⟩] [.bool ok,.int .i64 151] h hp.2 (uL (e2 hp.1)) (fun W hL=>gD ok 151 p hL)
 have z2f:=fun(hp:r.okB=true∧r.pos≤n) (hp2:(ax ok 151 p r.pos).okB=true∧(ax ok 151 p r.pos).pos≤n)=>(show xu g A n c mV T (.val (mV p)) [(g,154,dr A n c (ax ok 151 p r.pos).pos)]from by
  have e2:=e2 hp.1
  cases ok with
  |false=>cases hp2.1
  |true=>exact⟨_,_,e2,hp.2,rfl,rfl⟩)
 refine cP [] h.bZ [(7,.an (eo 0 g A n c r ab)),(8,.call (.tuple #[mV p,.int .i64 er])),(13,.is (.bool ok)),(14,.an (eo 0 g A n c (ax ok 151 p r.pos) fun _=>.tuple #[]))] [] (by kernel_rfl) Tryz.func187 rfl (Nat.le_of_ble_eq_true rfl) ?_
 exact Eq.mp (by kernel_rfl) (And.intro c7 (fun(hx0:r.okB=true∧r.pos≤n)=>(Sx.t2 (c8f hx0) (c13f hx0) (And.intro (c14f hx0) (fun(hx1:(ax ok 151 p r.pos).okB=true∧(ax ok 151 p r.pos).pos≤n)=>(z2f hx0 hx1))))))
def NK(two:Bool)(a b:Bs):Bs:=match two with
 |true=>b
 |false=>a
def ie(s:Nat×Nat):Value:=.agg #[.int .u16 (s.1:Int),.int .u16 (s.2:Int)]
theorem KR(x:Bs)(hs:x.length≤100000000)(w:World)(HL:dJ w):Calls Tryz.prog 48 #[ab x,.string ⟨#[45]⟩] w fun e w'=>e=.returned (.tuple #[ab (Lib.cut x [45]).1,ab (Lib.cut x [45]).2.1,.bool (Lib.cut x [45]).2.2])∧ag [] w w':=H3 x [45] (by omega) w HL
theorem Et(x:Bs):(Lib.cut x [45]).1.length≤x.length∧(Lib.cut x [45]).2.1.length≤x.length:=by
 unfold Lib.cut
 split
 ·simp
  omega
 ·simp
theorem NA{v:Nat}(h:v≤65535):Value.int .u16 (IntKind.u16.wrap (v:Int))=.int .u16 (v:Int):=by
 have:IntKind.u16.wrap (v:Int)=v:=by simp[IntKind.wrap,IntKind.bits,IntKind.signed];omega
 rw[this]
theorem sG{most:Nat}{s:Bs}(h:cD most s=true):gh s≤most:=by
 unfold cD at h
 rw[Bool.and_eq_true,decide_eq_true_iff]at h
 exact h.1
theorem J9{w:World}{g:Nat}{A:Option Go.Addr}{n c i:Nat}{ws:List Bs}(h:dX w g A n c i ws){T:Out (Nat×Nat)}{r:Out Bs}(a b d:Bs)(two oa ob:Bool)
  (n1:∀W,dX W g A n c i ws→Calls Tryz.prog 154 #[.pointer (some ⟨g,0,none⟩)] W (bM g A n c ab r W)) (hno:∀code p,r=.no code p→T=.no code p)
  (hc:r.okB=true→∀W,ag [g] w W→Calls Tryz.prog 48 #[ab r.val,.string ⟨#[45]⟩] W fun e w'=>e=.returned (.tuple #[ab a,ab b,.bool two])∧ag [] W w')
  (hd:d=NK two a b)
  (ha:∀W,ag [g] w W→Calls Tryz.prog 232 #[ab a,.int .u64 65535] W fun e w'=>e=.returned (.tuple #[kS (rm a),.bool oa])∧ag [] W w')
  (hb:∀W,ag [g] w W→Calls Tryz.prog 232 #[ab d,.int .u64 65535] W fun e w'=>e=.returned (.tuple #[kS (rm d),.bool ob])∧ag [] W w')
  (va vb:Nat) (hva:(oa&&ob)=true→rm a=va∧va≤65535) (hvb:(oa&&ob)=true→rm d=vb∧vb≤65535)
  (e2:r.okB=true→T=ax (oa&&ob) 200 (va,vb) r.pos) :
  Calls Tryz.prog 205 #[.pointer (some ⟨g,0,none⟩)] w (bM g A n c ie T w):=by
 have hw37:(oa&&ob)=true→Value.int .u16 (IntKind.u16.wrap (rm a:Int))=.int .u16 (va:Int):=fun ho=>by rw[(hva ho).1];exact NA (hva ho).2
 have hw39:(oa&&ob)=true→Value.int .u16 (IntKind.u16.wrap (rm d:Int))=.int .u16 (vb:Int):=fun ho=>by rw[(hvb ho).1];exact NA (hvb ho).2
 generalize rm a=pa at ha hva hw37
 generalize rm d=pd at hb hvb hw39
 have c12:=kU [⟨64,.aj [.int .u16 0,.int .u16 0]⟩] [] h h.le hno n1
 have c13f:=fun(hp:r.okB=true∧r.pos≤n)=>hc hp.1
 have c22f:=fun(_:r.okB=true∧r.pos≤n)=>ha
 have c27f:=fun(_:r.okB=true∧r.pos≤n)=>hb
 have c35f:=fun(hp:r.okB=true∧r.pos≤n)=>kU [⟨64,.aj [.int .u16 0,.int .u16 0]⟩] [.bool (oa&&ob),.int .i64 200] h hp.2 (uL (e2 hp.1)) (fun W hL=>gD (oa&&ob) 200 (va,vb) hL)
 have c37f:=fun(_:r.okB=true∧r.pos≤n) (hp2:(ax (oa&&ob) 200 (va,vb) r.pos).okB=true∧(ax (oa&&ob) 200 (va,vb) r.pos).pos≤n)=>(show Value.int .u16 (IntKind.u16.wrap (pa:Int))=.int .u16 (va:Int)from hw37 (by
  cases ho:(oa&&ob)with
  |true=>rfl
  |false=>rw[ho]at hp2;cases hp2.1))
 have c39f:=fun(_:r.okB=true∧r.pos≤n) (hp2:(ax (oa&&ob) 200 (va,vb) r.pos).okB=true∧(ax (oa&&ob) 200 (va,vb) r.pos).pos≤n)=>(show Value.int .u16 (IntKind.u16.wrap (pd:Int))=.int .u16 (vb:Int)from hw39 (by
  cases ho:(oa&&ob)with
  |true=>rfl
  |false=>rw[ho]at hp2;cases hp2.1))
 have zf:=fun(hp:r.okB=true∧r.pos≤n) (hp2:(ax (oa&&ob) 200 (va,vb) r.pos).okB=true∧(ax (oa&&ob) 200 (va,vb) r.pos).pos≤n)=>(show xu g A n c ie T (.val (ie (va,vb))) [(g,154,dr A n c (ax (oa&&ob) 200 (va,vb) r.pos).pos)]from by
  have e2:=e2 hp.1
  cases ho:(oa&&ob)with
  |false=>rw[ho]at hp2;cases hp2.1
  |true=>rw[ho]at e2;exact⟨_,_,e2,hp.2,rfl,rfl⟩)
 have z2f:=zf
 cases two with
 |false=>
  have hd:d=a:=hd
  subst hd
  cases oa with
  |false=>
   refine cP [] h.bZ [(12,.an (eo 0 g A n c r ab)),(13,.call (.tuple #[ab d,ab b,.bool false])),(22,.call (.tuple #[kS pa,.bool false])),(27,.call (.tuple #[kS pd,.bool ob])),(35,.an (eo 0 g A n c (ax (false&&ob) 200 (va,vb) r.pos) fun _=>.tuple #[])),(37,.is (.int .u16 (va:Int))),(39,.is (.int .u16 (vb:Int)))] [] (by kernel_rfl) Tryz.func205 rfl (Nat.le_of_ble_eq_true rfl) ?_
   exact Eq.mp (by kernel_rfl) (And.intro c12 (fun(hx0:r.okB=true∧r.pos≤n)=>(Sx.t4 (c13f hx0) (c22f hx0) (c27f hx0) (c35f hx0) (fun(hx1:(ax (false&&ob) 200 (va,vb) r.pos).okB=true∧(ax (false&&ob) 200 (va,vb) r.pos).pos≤n)=>(Sx.t2 (c37f hx0 hx1) (c39f hx0 hx1) (z2f hx0 hx1))))))
  |true=>
   refine cP [] h.bZ [(12,.an (eo 0 g A n c r ab)),(13,.call (.tuple #[ab d,ab b,.bool false])),(22,.call (.tuple #[kS pa,.bool true])),(27,.call (.tuple #[kS pd,.bool ob])),(35,.an (eo 0 g A n c (ax (true&&ob) 200 (va,vb) r.pos) fun _=>.tuple #[])),(37,.is (.int .u16 (va:Int))),(39,.is (.int .u16 (vb:Int)))] [] (by kernel_rfl) Tryz.func205 rfl (Nat.le_of_ble_eq_true rfl) ?_
   exact Eq.mp (by kernel_rfl) (And.intro c12 (fun(hx0:r.okB=true∧r.pos≤n)=>(Sx.t4 (c13f hx0) (c22f hx0) (c27f hx0) (c35f hx0) (fun(hx1:(ax (true&&ob) 200 (va,vb) r.pos).okB=true∧(ax (true&&ob) 200 (va,vb) r.pos).pos≤n)=>(Sx.t2 (c37f hx0 hx1) (c39f hx0 hx1) (z2f hx0 hx1))))))
 |true=>
  have hd:d=b:=hd
  subst hd
  cases oa with
  |false=>
   refine cP [] h.bZ [(12,.an (eo 0 g A n c r ab)),(13,.call (.tuple #[ab a,ab d,.bool true])),(22,.call (.tuple #[kS pa,.bool false])),(27,.call (.tuple #[kS pd,.bool ob])),(35,.an (eo 0 g A n c (ax (false&&ob) 200 (va,vb) r.pos) fun _=>.tuple #[])),(37,.is (.int .u16 (va:Int))),(39,.is (.int .u16 (vb:Int)))] [] (by kernel_rfl) Tryz.func205 rfl (Nat.le_of_ble_eq_true rfl) ?_
   exact Eq.mp (by kernel_rfl) (And.intro c12 (fun(hx0:r.okB=true∧r.pos≤n)=>(Sx.t4 (c13f hx0) (c22f hx0) (c27f hx0) (c35f hx0) (fun(hx1:(ax (false&&ob) 200 (va,vb) r.pos).okB=true∧(ax (false&&ob) 200 (va,vb) r.pos).pos≤n)=>(Sx.t2 (c37f hx0 hx1) (c39f hx0 hx1) (z2f hx0 hx1))))))
  |true=>
   refine cP [] h.bZ [(12,.an (eo 0 g A n c r ab)),(13,.call (.tuple #[ab a,ab d,.bool true])),(22,.call (.tuple #[kS pa,.bool true])),(27,.call (.tuple #[kS pd,.bool ob])),(35,.an (eo 0 g A n c (ax (true&&ob) 200 (va,vb) r.pos) fun _=>.tuple #[])),(37,.is (.int .u16 (va:Int))),(39,.is (.int .u16 (vb:Int)))] [] (by kernel_rfl) Tryz.func205 rfl (Nat.le_of_ble_eq_true rfl) ?_
   exact Eq.mp (by kernel_rfl) (And.intro c12 (fun(hx0:r.okB=true∧r.pos≤n)=>(Sx.t4 (c13f hx0) (c22f hx0) (c27f hx0) (c35f hx0) (fun(hx1:(ax (true&&ob) 200 (va,vb) r.pos).okB=true∧(ax (true&&ob) 200 (va,vb) r.pos).pos≤n)=>(Sx.t2 (c37f hx0 hx1) (c39f hx0 hx1) (z2f hx0 hx1))))))
theorem Dn(x:Bs):(eF x).1.length≤x.length∧(eF x).2.length≤x.length:=by
 have h:=Et x
 unfold eF
 split
 ·exact h
 ·exact⟨h.1,h.1⟩
theorem wi{w:World}{g:Nat}{A:Option Go.Addr}{n c i:Nat}{ws:List Bs}(h:dX w g A n c i ws):Calls Tryz.prog 205 #[.pointer (some ⟨g,0,none⟩)] w (bM g A n c ie (iF ws i) w):=by
 have e1:iF ws i=(aR ws i).bind fun x j=>ax (cD 65535 (eF x).1&&cD 65535 (eF x).2) 200 (gh (eF x).1,gh (eF x).2) j:=rfl
 have hx:(aR ws i).val.length≤100000000:=sJ h.sz
 have hl:=Dn (aR ws i).val
 have hE:(eF (aR ws i).val).1=(Lib.cut (aR ws i).val [45]).1:=by unfold eF;split<;>rfl
 have key:∀s:Bs,cD 65535 s=true→rm s=gh s∧gh s≤65535:=fun s hs=>⟨(sh (sF (by omega) hs)).1.symm,sG hs⟩
 refine J9 h (r:=aR ws i) (eF (aR ws i).val).1 (Lib.cut (aR ws i).val [45]).2.1 (eF (aR ws i).val).2 (Lib.cut (aR ws i).val [45]).2.2 (cD 65535 (eF (aR ws i).val).1) (cD 65535 (eF (aR ws i).val).2)
  (fun W hL=>mb hL) (bY e1) (fun _ W hW=>?_) ?_ (fun W hW=>n9 65535 (by omega) _ (by omega) W (h.yK hW)) (fun W hW=>n9 65535 (by omega) _ (by omega) W (h.yK hW)) _ _ ?_ ?_ (fun hp=>bS e1 hp)
 ·rw[hE];exact KR _ hx W (h.yK hW)
 ·unfold eF NK;split<;>rename_i hk<;>rw[hk]
 ·intro ho
  rw[Bool.and_eq_true]at ho
  exact key _ ho.1
 ·intro ho
  rw[Bool.and_eq_true]at ho
  exact key _ ho.2
def Lm(n:Nat):Value:=.int .u8 (n:Int)
theorem PZ{v:Nat}(h:v≤255):Value.int .u8 (IntKind.u8.wrap (v:Int))=.int .u8 (v:Int):=by
 have:IntKind.u8.wrap (v:Int)=v:=by simp[IntKind.wrap,IntKind.bits,IntKind.signed];omega
 rw[this]
theorem GK{w:World}{g:Nat}{A:Option Go.Addr}{n c i:Nat}{ws:List Bs}(h:dX w g A n c i ws):Calls Tryz.prog 209 #[.pointer (some ⟨g,0,none⟩)] w (bM g A n c Lm (dR ws i) w):=by
 have hlen:=h.len
 rcases gG (ws:=ws) (i:=i) (s:=oo)with⟨h1,h2⟩ | h1
 ·have e1:dR ws i=.ok 6 (i+1):=by unfold dR;rw[h1];rfl
  have n1:=fun W (hL:dX W g A n c i ws)=>h1 ▸ jS oo hL
  generalize dR ws i=T at e1 ⊢
  have c5:=kj (T:=T) [ab oo] h h.le (fun code p hh=>by cases hh) n1
  have z1f:=fun(hp:(Out.ok true (i+1)).okB=true∧(Out.ok true (i+1)).pos≤n)=>(show xu g A n c Lm T (.val (Lm 6)) [(g,154,dr A n c (i+1))]from⟨_,_,e1,hp.2,rfl,rfl⟩)
  refine cP [] h.bZ [(5,.an (eo 0 g A n c (Out.ok true (i+1)) fun b=>.bool b))] [] (by kernel_rfl) Tryz.func209 rfl (Nat.le_of_ble_eq_true rfl) ?_
  exact Eq.mp (by kernel_rfl) (And.intro c5 (fun(hx0:(Out.ok true (i+1)).okB=true∧(Out.ok true (i+1)).pos≤n)=>(z1f hx0)))
 ·rcases gG (ws:=ws) (i:=i) (s:=ph)with⟨h3,h4⟩ | h3
  ·have e1:dR ws i=.ok 17 (i+1):=by unfold dR;rw[h1];simp only[Out.bind,h3]
   have n1:=fun W (hL:dX W g A n c i ws)=>h1 ▸ jS oo hL
   have n2:=fun W (hL:dX W g A n c i ws)=>h3 ▸ jS ph hL
   generalize dR ws i=T at e1 ⊢
   have c5:=kj (T:=T) [ab oo] h h.le (fun code p hh=>by cases hh) n1
   have c8f:=fun(_:(Out.ok false i).okB=true∧(Out.ok false i).pos≤n)=>kj (T:=T) [ab ph] h h.le (fun code p hh=>by cases hh) n2
   have z2f:=fun(_:(Out.ok false i).okB=true∧(Out.ok false i).pos≤n) (hp:(Out.ok true (i+1)).okB=true∧(Out.ok true (i+1)).pos≤n)=>(show xu g A n c Lm T (.val (Lm 17)) [(g,154,dr A n c (i+1))]from⟨_,_,e1,hp.2,rfl,rfl⟩)
   refine cP [] h.bZ [(5,.an (eo 0 g A n c (Out.ok false i) fun b=>.bool b)),(8,.an (eo 0 g A n c (Out.ok true (i+1)) fun b=>.bool b))] [] (by kernel_rfl) Tryz.func209 rfl (Nat.le_of_ble_eq_true rfl) ?_
   exact Eq.mp (by kernel_rfl) (And.intro c5 (fun(hx0:(Out.ok false i).okB=true∧(Out.ok false i).pos≤n)=>(And.intro (c8f hx0) (fun(hx1:(Out.ok true (i+1)).okB=true∧(Out.ok true (i+1)).pos≤n)=>(z2f hx0 hx1)))))
  ·have e1:dR ws i=bn 255 ws i:=by unfold dR;rw[h1];simp only[Out.bind,h3]
   have n1:=fun W (hL:dX W g A n c i ws)=>h1 ▸ jS oo hL
   have n2:=fun W (hL:dX W g A n c i ws)=>h3 ▸ jS ph hL
   have n3:=fun W (hL:dX W g A n c i ws)=>ki 255 (by omega) hL
   have hle:∀v j,bn 255 ws i=.ok v j→v≤255:=fun v j=>AP
   generalize dR ws i=T at e1 ⊢
   generalize bn 255 ws i=r at e1 n3 hle
   have c5:=kj (T:=T) [ab oo] h h.le (fun code p hh=>by cases hh) n1
   have c8f:=fun(_:(Out.ok false i).okB=true∧(Out.ok false i).pos≤n)=>kj (T:=T) [ab ph] h h.le (fun code p hh=>by cases hh) n2
   have c10f:=fun(_:(Out.ok false i).okB=true∧(Out.ok false i).pos≤n) (_:(Out.ok false i).okB=true∧(Out.ok false i).pos≤n)=>kj [.int .u64 ((255:Nat):Int)] h h.le (uL e1) n3
   have c11f:=fun(_:(Out.ok false i).okB=true∧(Out.ok false i).pos≤n) (_:(Out.ok false i).okB=true∧(Out.ok false i).pos≤n) (hp:r.okB=true∧r.pos≤n)=>(show Value.int .u8 (IntKind.u8.wrap (r.val:Int))=.int .u8 (r.val:Int)from PZ (hle _ _ (Co hp)))
   have z3f:=fun(_:(Out.ok false i).okB=true∧(Out.ok false i).pos≤n) (_:(Out.ok false i).okB=true∧(Out.ok false i).pos≤n) (hp:r.okB=true∧r.pos≤n)=>(show xu g A n c Lm T (.val (Lm r.val)) [(g,154,dr A n c r.pos)]from⟨_,_,by rw[e1];exact Co hp,hp.2,rfl,rfl⟩)
   refine cP [] h.bZ [(5,.an (eo 0 g A n c (Out.ok false i) fun b=>.bool b)),(8,.an (eo 0 g A n c (Out.ok false i) fun b=>.bool b)),(10,.an (eo 0 g A n c r kS)),(11,.is (.int .u8 (r.val:Int)))] [] (by kernel_rfl) Tryz.func209 rfl (Nat.le_of_ble_eq_true rfl) ?_
   exact Eq.mp (by kernel_rfl) (And.intro c5 (fun(hx0:(Out.ok false i).okB=true∧(Out.ok false i).pos≤n)=>(And.intro (c8f hx0) (fun(hx1:(Out.ok false i).okB=true∧(Out.ok false i).pos≤n)=>(And.intro (c10f hx0 hx1) (fun(hx2:r.okB=true∧r.pos≤n)=>(And.intro (c11f hx0 hx1 hx2) (z3f hx0 hx1 hx2))))))))
def Ng(b0 b1 b2 b3:Bool)(p:Nat)(r2:Out Nat):Out (Int×Int):=match b0 with
 |true=>.ok (1,0) p
 |false=>match b1 with
  |true=>.ok (2,0) p
  |false=>match b2 with
   |true=>.ok (4,0) p
   |false=>match b3 with
    |true=>r2.bind fun v k=>.ok (3,(v:Int)) k
    |false=>.no 200 p
def q5(a:Int×Int):Value:=.tuple #[.int .i64 a.1,.int .i64 a.2]
theorem bC(x y:Operand)(s t:List UInt8)(b:Bool)(hb:decide (s=t)=b)(W:World):(do eqGuard .eql 9 x y (.string ⟨s.toArray⟩) (.string ⟨t.toArray⟩);binOp .eql 9 (.string ⟨s.toArray⟩) (.string ⟨t.toArray⟩):Sem Value).run Tryz.prog W=.ok (.bool b) W:=by
 have e:∀l:List UInt8,(⟨l.toArray⟩:ByteArray).toList=l:=fun l=>by simp
 have h:(do eqGuard .eql 9 x y (.string ⟨s.toArray⟩) (.string ⟨t.toArray⟩);binOp .eql 9 (.string ⟨s.toArray⟩) (.string ⟨t.toArray⟩):Sem Value).run Tryz.prog W=.ok (.bool ((⟨s.toArray⟩:ByteArray).toList==(⟨t.toArray⟩:ByteArray).toList)) W:=rfl
 rw[h,e,e,←hb]
 by_cases h:s=t<;>simp[h]
theorem D7{w:World}{g:Nat}{A:Option Go.Addr}{n c i:Nat}{ws:List Bs}(h:dX w g A n c i ws){T:Out (Int×Int)}{r:Out Bs}{r2:Out Nat}(out b0 b1 b2 b3:Bool)
  (n1:∀W,dX W g A n c i ws→Calls Tryz.prog 154 #[.pointer (some ⟨g,0,none⟩)] W (bM g A n c ab r W)) (hno:∀code p,r=.no code p→T=.no code p)
  (n2:r.okB=true→∀W,dX W g A n c r.pos ws→Calls Tryz.prog 186 #[.pointer (some ⟨g,0,none⟩)] W (bM g A n c pn r2 W))
  (h0:decide (r.val=dx)=b0) (h1:decide (r.val=lA)=b1) (h2:decide (r.val=gj)=b2) (h3:decide (r.val=oq)=b3)
  (e2:r.okB=true→T=Ng b0 b1 b2 (b3&&out) r.pos r2) :
  Calls Tryz.prog 192 #[.pointer (some ⟨g,0,none⟩),.bool out] w (bM g A n c q5 T w):=by
 have c8:=kj [] h h.le hno n1
 have c11f:=fun(_:r.okB=true∧r.pos≤n) W=>bC (.tmp 10) (.const (ab dx)) r.val dx b0 h0 W
 have c14f:=fun(_:r.okB=true∧r.pos≤n) W=>bC (.tmp 13) (.const (ab lA)) r.val lA b1 h1 W
 have c17f:=fun(_:r.okB=true∧r.pos≤n) W=>bC (.tmp 16) (.const (ab gj)) r.val gj b2 h2 W
 have c20f:=fun(_:r.okB=true∧r.pos≤n) W=>bC (.tmp 19) (.const (ab oq)) r.val oq b3 h3 W
 cases b0 with
 |true=>
  have z1f:=fun(hp:r.okB=true∧r.pos≤n)=>(show xu g A n c q5 T (.val (q5 (1,0))) [(g,154,dr A n c r.pos)]from⟨_,_,e2 hp.1,hp.2,rfl,rfl⟩)
  refine cP [.bool out] h.bZ [(8,.an (eo 0 g A n c r ab)),(11,.bin (.bool true))] [] (by kernel_rfl) Tryz.func192 rfl (Nat.le_of_ble_eq_true rfl) ?_
  exact Eq.mp (by kernel_rfl) (And.intro c8 (fun(hx0:r.okB=true∧r.pos≤n)=>(And.intro (c11f hx0) (z1f hx0))))
 |false=>
  cases b1 with
  |true=>
   have z1f:=fun(hp:r.okB=true∧r.pos≤n)=>(show xu g A n c q5 T (.val (q5 (2,0))) [(g,154,dr A n c r.pos)]from⟨_,_,e2 hp.1,hp.2,rfl,rfl⟩)
   refine cP [.bool out] h.bZ [(8,.an (eo 0 g A n c r ab)),(11,.bin (.bool false)),(14,.bin (.bool true))] [] (by kernel_rfl) Tryz.func192 rfl (Nat.le_of_ble_eq_true rfl) ?_
   exact Eq.mp (by kernel_rfl) (And.intro c8 (fun(hx0:r.okB=true∧r.pos≤n)=>(Sx.t2 (c11f hx0) (c14f hx0) (z1f hx0))))
  |false=>
   cases b2 with
   |true=>
    have z1f:=fun(hp:r.okB=true∧r.pos≤n)=>(show xu g A n c q5 T (.val (q5 (4,0))) [(g,154,dr A n c r.pos)]from⟨_,_,e2 hp.1,hp.2,rfl,rfl⟩)
    refine cP [.bool out] h.bZ [(8,.an (eo 0 g A n c r ab)),(11,.bin (.bool false)),(14,.bin (.bool false)),(17,.bin (.bool true))] [] (by kernel_rfl) Tryz.func192 rfl (Nat.le_of_ble_eq_true rfl) ?_
    exact Eq.mp (by kernel_rfl) (And.intro c8 (fun(hx0:r.okB=true∧r.pos≤n)=>(Sx.t2 (c11f hx0) (c14f hx0) (And.intro (c17f hx0) (z1f hx0)))))
   |false=>
    cases b3 with
    |true=>
     cases out with
     |true=>
      have c25f:=fun(hp:r.okB=true∧r.pos≤n)=>kj [] h hp.2 (bY (show T=r2.bind fun v k=>.ok (3,(v:Int)) k from e2 hp.1)) (n2 hp.1)
      have z2f:=fun(hp:r.okB=true∧r.pos≤n) (hp2:r2.okB=true∧r2.pos≤n)=>(show xu g A n c q5 T (.val (q5 (3,(r2.val:Int)))) [(g,154,dr A n c r2.pos)]from⟨(3,(r2.val:Int)),r2.pos,(show T=.ok (3,(r2.val:Int)) r2.pos from bS (show T=r2.bind fun v k=>.ok (3,(v:Int)) k from e2 hp.1) hp2.1),hp2.2,rfl,rfl⟩)
      refine cP [.bool true] h.bZ [(8,.an (eo 0 g A n c r ab)),(11,.bin (.bool false)),(14,.bin (.bool false)),(17,.bin (.bool false)),(20,.bin (.bool true)),(25,.an (eo 0 g A n c r2 pn))] [] (by kernel_rfl) Tryz.func192 rfl (Nat.le_of_ble_eq_true rfl) ?_
      exact Eq.mp (by kernel_rfl) (And.intro c8 (fun(hx0:r.okB=true∧r.pos≤n)=>(Sx.t4 (c11f hx0) (c14f hx0) (c17f hx0) (c20f hx0) (And.intro (c25f hx0) (fun(hx1:r2.okB=true∧r2.pos≤n)=>(z2f hx0 hx1))))))
     |false=>
      have c31f:=fun(hp:r.okB=true∧r.pos≤n) W (hW:ag [g] w W) (_:aq W g 154 (dr A n c r.pos))=>je (b:=⟨w,[g],js T w⟩) (vs:=[.pointer (some ⟨g,0,none⟩),.int .i64 200,.int .i64 (r.pos:Int)]) (ps:=[(0,0)]) ((ow (.pointer (some ⟨g,0,none⟩)) 200 (r.pos:Int) W).mono fun _ _ ⟨ch,he,hf,hc⟩=>⟨ch,he,(show js T w _ _ from⟨200,r.pos,e2 hp.1,hf.up hW.size⟩),hc⟩)
      have z1f:=fun(_:r.okB=true∧r.pos≤n)=>trivial
      refine cP [.bool false] h.bZ [(8,.an (eo 0 g A n c r ab)),(11,.bin (.bool false)),(14,.bin (.bool false)),(17,.bin (.bool false)),(20,.bin (.bool true)),(31,.nL)] [] (by kernel_rfl) Tryz.func192 rfl (Nat.le_of_ble_eq_true rfl) ?_
      exact Eq.mp (by kernel_rfl) (And.intro c8 (fun(hx0:r.okB=true∧r.pos≤n)=>(Sx.t4 (c11f hx0) (c14f hx0) (c17f hx0) (c20f hx0) (And.intro (c31f hx0) (z1f hx0)))))
    |false=>
     have c31f:=fun(hp:r.okB=true∧r.pos≤n) W (hW:ag [g] w W) (_:aq W g 154 (dr A n c r.pos))=>je (b:=⟨w,[g],js T w⟩) (vs:=[.pointer (some ⟨g,0,none⟩),.int .i64 200,.int .i64 (r.pos:Int)]) (ps:=[(0,0)]) ((ow (.pointer (some ⟨g,0,none⟩)) 200 (r.pos:Int) W).mono fun _ _ ⟨ch,he,hf,hc⟩=>⟨ch,he,(show js T w _ _ from⟨200,r.pos,e2 hp.1,hf.up hW.size⟩),hc⟩)
     have z1f:=fun(_:r.okB=true∧r.pos≤n)=>trivial
     refine cP [.bool out] h.bZ [(8,.an (eo 0 g A n c r ab)),(11,.bin (.bool false)),(14,.bin (.bool false)),(17,.bin (.bool false)),(20,.bin (.bool false)),(31,.nL)] [] (by kernel_rfl) Tryz.func192 rfl (Nat.le_of_ble_eq_true rfl) ?_
     exact Eq.mp (by kernel_rfl) (And.intro c8 (fun(hx0:r.okB=true∧r.pos≤n)=>(Sx.t4 (c11f hx0) (c14f hx0) (c17f hx0) (c20f hx0) (And.intro (c31f hx0) (z1f hx0)))))
theorem uT(out:Bool){w:World}{g:Nat}{A:Option Go.Addr}{n c i:Nat}{ws:List Bs}(h:dX w g A n c i ws):Calls Tryz.prog 192 #[.pointer (some ⟨g,0,none⟩),.bool out] w (bM g A n c q5 (oE out ws i) w):=by
 have e1:=(rfl:oE out ws i=(aR ws i).bind _)
 refine D7 h (r:=aR ws i) (r2:=il ws (aR ws i).pos) out _ _ _ _ (fun W hL=>mb hL) (bY e1) (fun _ W hL=>sS hL) rfl rfl rfl rfl fun hp=>?_
 rw[bS e1 hp]
 by_cases h0:(aR ws i).val=dx
 ·rw[if_pos h0,decide_eq_true h0];rfl
 rw[if_neg h0,decide_eq_false h0]
 by_cases h1:(aR ws i).val=lA
 ·rw[if_pos h1,decide_eq_true h1];rfl
 rw[if_neg h1,decide_eq_false h1]
 by_cases h2:(aR ws i).val=gj
 ·rw[if_pos h2,decide_eq_true h2];rfl
 rw[if_neg h2,decide_eq_false h2]
 by_cases h3:(aR ws i).val=oq
 ·cases out with
  |true=>rw[if_pos ⟨h3,rfl⟩,decide_eq_true h3];rfl
  |false=>rw[if_neg (by simp),decide_eq_true h3];rfl
 ·rw[if_neg (by simp[h3]),decide_eq_false h3];rfl
end Go.Proofs.YtnncigmpcdehnaaGreatDoor
