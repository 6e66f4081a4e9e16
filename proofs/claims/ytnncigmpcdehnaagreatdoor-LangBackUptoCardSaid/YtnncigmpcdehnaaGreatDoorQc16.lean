import Derived.Test.YtnncigmpcdehnaaGreatDoorQc15
namespace Go.Proofs.YtnncigmpcdehnaaGreatDoor
set_option maxRecDepth 100000
open Go.RowKit Go.Lib Go.Sort
def pH(p:Px):Value:=.agg p.cells.toArray
def Pf(o:Option Px):Int:=match o with
 |some _=>0
 |none=>151
theorem rR{s:Bs}{p:Px}(h:pG s=some p):zN s p.v p.n p.k:=by
 unfold pG at h
 split at h
 ·rename_i hx
  injection h with h
  rw[←h];exact hx.choose_spec
 ·cases h
theorem xH{s:Bs}(h:pG s=none):∀v n k,¬zN s v n k:=by
 intro v n k hp
 unfold pG at h
 split at h
 ·cases h
 ·rename_i hx
  exact hx ⟨⟨v,n,k⟩,hp⟩
theorem JB(s:Bs)(hs:s.length≤100000000)(w:World)(HL:dy w):Calls Tryz.prog 16 #[ab s] w fun e w'=>e=.returned (.tuple #[pH ((pG s).getD ow),.int .i64 (Pf (pG s))])∧ah [] w w':=by
 cases h:pG s with
 |some p=>exact rQ (rR h) hs w HL
 |none=>exact JA (xH h) hs w HL
theorem pU{w:World}{g:Nat}{A:Option Go.Addr}{n c i:Nat}{ws:List Bs}(h:dw w g A n c i ws):Calls Tryz.prog 187 #[.pointer (some ⟨g,0,none⟩)] w (aO g A n c pH (dD ws i) w):=by
 have e1:dD ws i=(aY ws i).bind fun x j=>ak (pG x).isSome 151 ((pG x).getD ow) j:=rfl
 have n1:=fun W (hL:dw W g A n c i ws)=>lY hL
 have hx:(aY ws i).val.length≤100000000:=sA h.sz
 generalize dD ws i=T at e1 ⊢
 generalize aY ws i=r at e1 n1 hx
 have hr8:=fun W (hW:ah [g] w W)=>JB r.val (by omega) W (h.yp hW)
 have hpe:Value.bool (Pf (pG r.val)==0)=.bool (pG r.val).isSome:=by cases pG r.val<;>rfl
 have e2:r.okB=true→T=ak (pG r.val).isSome 151 ((pG r.val).getD ow) r.pos:=fun hp=>bu e1 hp
 generalize Pf (pG r.val)=er at hr8 hpe
 generalize (pG r.val).isSome=ok at e2 hpe
 generalize (pG r.val).getD ow=p at hr8 e2
 have c7:=bh [⟨29,.aj ow.cells⟩] [] h h.le (aM e1) n1
 have c8f:=fun(_:r.okB=true∧r.pos≤n)=>hr8
 have c13f:=fun(_:r.okB=true∧r.pos≤n)=>hpe
 have c14f:=fun(hp:r.okB=true∧r.pos≤n)=>bh [⟨29,.aj ow.cells⟩,⟨29,.aj p.cells⟩] [.bool ok,.int .i64 151] h hp.2 (uG (e2 hp.1)) (fun W hL=>dV ok 151 p hL)
 have z2f:=fun(hp:r.okB=true∧r.pos≤n) (hp2:(ak ok 151 p r.pos).okB=true∧(ak ok 151 p r.pos).pos≤n)=>(show ud g A n c pH T (.val (pH p)) [(g,154,cW A n c (ak ok 151 p r.pos).pos)]from by
  have e2:=e2 hp.1
  cases ok with
  |false=>cases hp2.1
  |true=>exact⟨_,_,e2,hp.2,rfl,rfl⟩)
 refine cw [] h.bM [(7,.ai (cB 0 g A n c r ab)),(8,.call (.tuple #[pH p,.int .i64 er])),(13,.is (.bool ok)),(14,.ai (cB 0 g A n c (ak ok 151 p r.pos) fun _=>.tuple #[]))] [] (by kernel_rfl) Tryz.func187 rfl (Nat.le_of_ble_eq_true rfl) ?_
 exact Eq.mp (by kernel_rfl) (And.intro c7 (fun(hx0:r.okB=true∧r.pos≤n)=>(Sx.t2 (c8f hx0) (c13f hx0) (And.intro (c14f hx0) (fun(hx1:(ak ok 151 p r.pos).okB=true∧(ak ok 151 p r.pos).pos≤n)=>(z2f hx0 hx1))))))
def NN(two:Bool)(a b:Bs):Bs:=match two with
 |true=>b
 |false=>a
def ll(s:Nat×Nat):Value:=.agg #[.int .u16 (s.1:Int),.int .u16 (s.2:Int)]
theorem KM(x:Bs)(hs:x.length≤100000000)(w:World)(HL:dy w):Calls Tryz.prog 48 #[ab x,.string ⟨#[45]⟩] w fun e w'=>e=.returned (.tuple #[ab (Lib.cut x [45]).1,ab (Lib.cut x [45]).2.1,.bool (Lib.cut x [45]).2.2])∧ah [] w w':=Hs x [45] (by omega) w HL
theorem En(x:Bs):(Lib.cut x [45]).1.length≤x.length∧(Lib.cut x [45]).2.1.length≤x.length:=by
 unfold Lib.cut
 split
 ·simp
  omega
 ·simp
theorem ND{v:Nat}(h:v≤65535):Value.int .u16 (IntKind.u16.wrap (v:Int))=.int .u16 (v:Int):=by
 have:IntKind.u16.wrap (v:Int)=v:=by simp[IntKind.wrap,IntKind.bits,IntKind.signed];omega
 rw[this]
theorem sr{most:Nat}{s:Bs}(h:cI most s=true):gf s≤most:=by
 unfold cI at h
 rw[Bool.and_eq_true,decide_eq_true_iff]at h
 exact h.1
theorem J2{w:World}{g:Nat}{A:Option Go.Addr}{n c i:Nat}{ws:List Bs}(h:dw w g A n c i ws){T:Out (Nat×Nat)}{r:Out Bs}(a b d:Bs)(two oa ob:Bool)
  (n1:∀W,dw W g A n c i ws→Calls Tryz.prog 154 #[.pointer (some ⟨g,0,none⟩)] W (aO g A n c ab r W)) (hno:∀code p,r=.no code p→T=.no code p)
  (hc:r.okB=true→∀W,ah [g] w W→Calls Tryz.prog 48 #[ab r.val,.string ⟨#[45]⟩] W fun e w'=>e=.returned (.tuple #[ab a,ab b,.bool two])∧ah [] W w')
  (hd:d=NN two a b)
  (ha:∀W,ah [g] w W→Calls Tryz.prog 232 #[ab a,.int .u64 65535] W fun e w'=>e=.returned (.tuple #[gu (qU a),.bool oa])∧ah [] W w')
  (hb:∀W,ah [g] w W→Calls Tryz.prog 232 #[ab d,.int .u64 65535] W fun e w'=>e=.returned (.tuple #[gu (qU d),.bool ob])∧ah [] W w')
  (va vb:Nat) (hva:(oa&&ob)=true→qU a=va∧va≤65535) (hvb:(oa&&ob)=true→qU d=vb∧vb≤65535)
  (e2:r.okB=true→T=ak (oa&&ob) 200 (va,vb) r.pos) :
  Calls Tryz.prog 205 #[.pointer (some ⟨g,0,none⟩)] w (aO g A n c ll T w):=by
 have hw37:(oa&&ob)=true→Value.int .u16 (IntKind.u16.wrap (qU a:Int))=.int .u16 (va:Int):=fun ho=>by rw[(hva ho).1];exact ND (hva ho).2
 have hw39:(oa&&ob)=true→Value.int .u16 (IntKind.u16.wrap (qU d:Int))=.int .u16 (vb:Int):=fun ho=>by rw[(hvb ho).1];exact ND (hvb ho).2
 generalize qU a=pa at ha hva hw37
 generalize qU d=pd at hb hvb hw39
 have c12:=bh [⟨64,.aj [.int .u16 0,.int .u16 0]⟩] [] h h.le hno n1
 have c13f:=fun(hp:r.okB=true∧r.pos≤n)=>hc hp.1
 have c22f:=fun(_:r.okB=true∧r.pos≤n)=>ha
 have c27f:=fun(_:r.okB=true∧r.pos≤n)=>hb
 have c35f:=fun(hp:r.okB=true∧r.pos≤n)=>bh [⟨64,.aj [.int .u16 0,.int .u16 0]⟩] [.bool (oa&&ob),.int .i64 200] h hp.2 (uG (e2 hp.1)) (fun W hL=>dV (oa&&ob) 200 (va,vb) hL)
 have c37f:=fun(_:r.okB=true∧r.pos≤n) (hp2:(ak (oa&&ob) 200 (va,vb) r.pos).okB=true∧(ak (oa&&ob) 200 (va,vb) r.pos).pos≤n)=>(show Value.int .u16 (IntKind.u16.wrap (pa:Int))=.int .u16 (va:Int)from hw37 (by
  cases ho:(oa&&ob)with
  |true=>rfl
  |false=>rw[ho]at hp2;cases hp2.1))
 have c39f:=fun(_:r.okB=true∧r.pos≤n) (hp2:(ak (oa&&ob) 200 (va,vb) r.pos).okB=true∧(ak (oa&&ob) 200 (va,vb) r.pos).pos≤n)=>(show Value.int .u16 (IntKind.u16.wrap (pd:Int))=.int .u16 (vb:Int)from hw39 (by
  cases ho:(oa&&ob)with
  |true=>rfl
  |false=>rw[ho]at hp2;cases hp2.1))
 have zf:=fun(hp:r.okB=true∧r.pos≤n) (hp2:(ak (oa&&ob) 200 (va,vb) r.pos).okB=true∧(ak (oa&&ob) 200 (va,vb) r.pos).pos≤n)=>(show ud g A n c ll T (.val (ll (va,vb))) [(g,154,cW A n c (ak (oa&&ob) 200 (va,vb) r.pos).pos)]from by
  have e2:=e2 hp.1
  cases ho:(oa&&ob)with
  |false=>rw[ho]at hp2;cases hp2.1
  |true=>rw[ho]at e2;exact⟨_,_,e2,hp.2,rfl,rfl⟩)
 have z2f:=zf
 cases two with
 |false=>
  have hd:d=a:=hd
  subst hd
  cases oa with
  |false=>
   refine cw [] h.bM [(12,.ai (cB 0 g A n c r ab)),(13,.call (.tuple #[ab d,ab b,.bool false])),(22,.call (.tuple #[gu pa,.bool false])),(27,.call (.tuple #[gu pd,.bool ob])),(35,.ai (cB 0 g A n c (ak (false&&ob) 200 (va,vb) r.pos) fun _=>.tuple #[])),(37,.is (.int .u16 (va:Int))),(39,.is (.int .u16 (vb:Int)))] [] (by kernel_rfl) Tryz.func205 rfl (Nat.le_of_ble_eq_true rfl) ?_
   exact Eq.mp (by kernel_rfl) (And.intro c12 (fun(hx0:r.okB=true∧r.pos≤n)=>(Sx.t4 (c13f hx0) (c22f hx0) (c27f hx0) (c35f hx0) (fun(hx1:(ak (false&&ob) 200 (va,vb) r.pos).okB=true∧(ak (false&&ob) 200 (va,vb) r.pos).pos≤n)=>(Sx.t2 (c37f hx0 hx1) (c39f hx0 hx1) (z2f hx0 hx1))))))
  |true=>
   refine cw [] h.bM [(12,.ai (cB 0 g A n c r ab)),(13,.call (.tuple #[ab d,ab b,.bool false])),(22,.call (.tuple #[gu pa,.bool true])),(27,.call (.tuple #[gu pd,.bool ob])),(35,.ai (cB 0 g A n c (ak (true&&ob) 200 (va,vb) r.pos) fun _=>.tuple #[])),(37,.is (.int .u16 (va:Int))),(39,.is (.int .u16 (vb:Int)))] [] (by kernel_rfl) Tryz.func205 rfl (Nat.le_of_ble_eq_true rfl) ?_
   exact Eq.mp (by kernel_rfl) (And.intro c12 (fun(hx0:r.okB=true∧r.pos≤n)=>(Sx.t4 (c13f hx0) (c22f hx0) (c27f hx0) (c35f hx0) (fun(hx1:(ak (true&&ob) 200 (va,vb) r.pos).okB=true∧(ak (true&&ob) 200 (va,vb) r.pos).pos≤n)=>(Sx.t2 (c37f hx0 hx1) (c39f hx0 hx1) (z2f hx0 hx1))))))
 |true=>
  have hd:d=b:=hd
  subst hd
  cases oa with
  |false=>
   refine cw [] h.bM [(12,.ai (cB 0 g A n c r ab)),(13,.call (.tuple #[ab a,ab d,.bool true])),(22,.call (.tuple #[gu pa,.bool false])),(27,.call (.tuple #[gu pd,.bool ob])),(35,.ai (cB 0 g A n c (ak (false&&ob) 200 (va,vb) r.pos) fun _=>.tuple #[])),(37,.is (.int .u16 (va:Int))),(39,.is (.int .u16 (vb:Int)))] [] (by kernel_rfl) Tryz.func205 rfl (Nat.le_of_ble_eq_true rfl) ?_
   exact Eq.mp (by kernel_rfl) (And.intro c12 (fun(hx0:r.okB=true∧r.pos≤n)=>(Sx.t4 (c13f hx0) (c22f hx0) (c27f hx0) (c35f hx0) (fun(hx1:(ak (false&&ob) 200 (va,vb) r.pos).okB=true∧(ak (false&&ob) 200 (va,vb) r.pos).pos≤n)=>(Sx.t2 (c37f hx0 hx1) (c39f hx0 hx1) (z2f hx0 hx1))))))
  |true=>
   refine cw [] h.bM [(12,.ai (cB 0 g A n c r ab)),(13,.call (.tuple #[ab a,ab d,.bool true])),(22,.call (.tuple #[gu pa,.bool true])),(27,.call (.tuple #[gu pd,.bool ob])),(35,.ai (cB 0 g A n c (ak (true&&ob) 200 (va,vb) r.pos) fun _=>.tuple #[])),(37,.is (.int .u16 (va:Int))),(39,.is (.int .u16 (vb:Int)))] [] (by kernel_rfl) Tryz.func205 rfl (Nat.le_of_ble_eq_true rfl) ?_
   exact Eq.mp (by kernel_rfl) (And.intro c12 (fun(hx0:r.okB=true∧r.pos≤n)=>(Sx.t4 (c13f hx0) (c22f hx0) (c27f hx0) (c35f hx0) (fun(hx1:(ak (true&&ob) 200 (va,vb) r.pos).okB=true∧(ak (true&&ob) 200 (va,vb) r.pos).pos≤n)=>(Sx.t2 (c37f hx0 hx1) (c39f hx0 hx1) (z2f hx0 hx1))))))
theorem Dn(x:Bs):(eO x).1.length≤x.length∧(eO x).2.length≤x.length:=by
 have h:=En x
 unfold eO
 split
 ·exact h
 ·exact⟨h.1,h.1⟩
theorem vT{w:World}{g:Nat}{A:Option Go.Addr}{n c i:Nat}{ws:List Bs}(h:dw w g A n c i ws):Calls Tryz.prog 205 #[.pointer (some ⟨g,0,none⟩)] w (aO g A n c ll (iC ws i) w):=by
 have e1:iC ws i=(aY ws i).bind fun x j=>ak (cI 65535 (eO x).1&&cI 65535 (eO x).2) 200 (gf (eO x).1,gf (eO x).2) j:=rfl
 have hx:(aY ws i).val.length≤100000000:=sA h.sz
 have hl:=Dn (aY ws i).val
 have hE:(eO (aY ws i).val).1=(Lib.cut (aY ws i).val [45]).1:=by unfold eO;split<;>rfl
 have key:∀s:Bs,cI 65535 s=true→qU s=gf s∧gf s≤65535:=fun s hs=>⟨(rW (sq (by omega) hs)).1.symm,sr hs⟩
 refine J2 h (r:=aY ws i) (eO (aY ws i).val).1 (Lib.cut (aY ws i).val [45]).2.1 (eO (aY ws i).val).2 (Lib.cut (aY ws i).val [45]).2.2 (cI 65535 (eO (aY ws i).val).1) (cI 65535 (eO (aY ws i).val).2)
  (fun W hL=>lY hL) (aM e1) (fun _ W hW=>?_) ?_ (fun W hW=>nO 65535 (by omega) _ (by omega) W (h.yp hW)) (fun W hW=>nO 65535 (by omega) _ (by omega) W (h.yp hW)) _ _ ?_ ?_ (fun hp=>bu e1 hp)
 ·rw[hE];exact KM _ hx W (h.yp hW)
 ·unfold eO NN;split<;>rename_i hk<;>rw[hk]
 ·intro ho
  rw[Bool.and_eq_true]at ho
  exact key _ ho.1
 ·intro ho
  rw[Bool.and_eq_true]at ho
  exact key _ ho.2
def Lj(n:Nat):Value:=.int .u8 (n:Int)
theorem P6{v:Nat}(h:v≤255):Value.int .u8 (IntKind.u8.wrap (v:Int))=.int .u8 (v:Int):=by
 have:IntKind.u8.wrap (v:Int)=v:=by simp[IntKind.wrap,IntKind.bits,IntKind.signed];omega
 rw[this]
theorem Gx{w:World}{g:Nat}{A:Option Go.Addr}{n c i:Nat}{ws:List Bs}(h:dw w g A n c i ws):Calls Tryz.prog 209 #[.pointer (some ⟨g,0,none⟩)] w (aO g A n c Lj (dX ws i) w):=by
 have hlen:=h.len
 rcases eY (ws:=ws) (i:=i) (s:=oQ)with⟨h1,h2⟩ | h1
 ·have e1:dX ws i=.ok 6 (i+1):=by unfold dX;rw[h1];rfl
  have n1:=fun W (hL:dw W g A n c i ws)=>h1 ▸ fw oQ hL
  generalize dX ws i=T at e1 ⊢
  have c5:=kj (T:=T) [ab oQ] h h.le (fun code p hh=>by cases hh) n1
  have z1f:=fun(hp:(Out.ok true (i+1)).okB=true∧(Out.ok true (i+1)).pos≤n)=>(show ud g A n c Lj T (.val (Lj 6)) [(g,154,cW A n c (i+1))]from⟨_,_,e1,hp.2,rfl,rfl⟩)
  refine cw [] h.bM [(5,.ai (cB 0 g A n c (Out.ok true (i+1)) fun b=>.bool b))] [] (by kernel_rfl) Tryz.func209 rfl (Nat.le_of_ble_eq_true rfl) ?_
  exact Eq.mp (by kernel_rfl) (And.intro c5 (fun(hx0:(Out.ok true (i+1)).okB=true∧(Out.ok true (i+1)).pos≤n)=>(z1f hx0)))
 ·rcases eY (ws:=ws) (i:=i) (s:=pY)with⟨h3,h4⟩ | h3
  ·have e1:dX ws i=.ok 17 (i+1):=by unfold dX;rw[h1];simp only[Out.bind,h3]
   have n1:=fun W (hL:dw W g A n c i ws)=>h1 ▸ fw oQ hL
   have n2:=fun W (hL:dw W g A n c i ws)=>h3 ▸ fw pY hL
   generalize dX ws i=T at e1 ⊢
   have c5:=kj (T:=T) [ab oQ] h h.le (fun code p hh=>by cases hh) n1
   have c8f:=fun(_:(Out.ok false i).okB=true∧(Out.ok false i).pos≤n)=>kj (T:=T) [ab pY] h h.le (fun code p hh=>by cases hh) n2
   have z2f:=fun(_:(Out.ok false i).okB=true∧(Out.ok false i).pos≤n) (hp:(Out.ok true (i+1)).okB=true∧(Out.ok true (i+1)).pos≤n)=>(show ud g A n c Lj T (.val (Lj 17)) [(g,154,cW A n c (i+1))]from⟨_,_,e1,hp.2,rfl,rfl⟩)
   refine cw [] h.bM [(5,.ai (cB 0 g A n c (Out.ok false i) fun b=>.bool b)),(8,.ai (cB 0 g A n c (Out.ok true (i+1)) fun b=>.bool b))] [] (by kernel_rfl) Tryz.func209 rfl (Nat.le_of_ble_eq_true rfl) ?_
   exact Eq.mp (by kernel_rfl) (And.intro c5 (fun(hx0:(Out.ok false i).okB=true∧(Out.ok false i).pos≤n)=>(And.intro (c8f hx0) (fun(hx1:(Out.ok true (i+1)).okB=true∧(Out.ok true (i+1)).pos≤n)=>(z2f hx0 hx1)))))
  ·have e1:dX ws i=bw 255 ws i:=by unfold dX;rw[h1];simp only[Out.bind,h3]
   have n1:=fun W (hL:dw W g A n c i ws)=>h1 ▸ fw oQ hL
   have n2:=fun W (hL:dw W g A n c i ws)=>h3 ▸ fw pY hL
   have n3:=fun W (hL:dw W g A n c i ws)=>ki 255 (by omega) hL
   have hle:∀v j,bw 255 ws i=.ok v j→v≤255:=fun v j=>At
   generalize dX ws i=T at e1 ⊢
   generalize bw 255 ws i=r at e1 n3 hle
   have c5:=kj (T:=T) [ab oQ] h h.le (fun code p hh=>by cases hh) n1
   have c8f:=fun(_:(Out.ok false i).okB=true∧(Out.ok false i).pos≤n)=>kj (T:=T) [ab pY] h h.le (fun code p hh=>by cases hh) n2
   have c10f:=fun(_:(Out.ok false i).okB=true∧(Out.ok false i).pos≤n) (_:(Out.ok false i).okB=true∧(Out.ok false i).pos≤n)=>kj [.int .u64 ((255:Nat):Int)] h h.le (uG e1) n3
   have c11f:=fun(_:(Out.ok false i).okB=true∧(Out.ok false i).pos≤n) (_:(Out.ok false i).okB=true∧(Out.ok false i).pos≤n) (hp:r.okB=true∧r.pos≤n)=>(show Value.int .u8 (IntKind.u8.wrap (r.val:Int))=.int .u8 (r.val:Int)from P6 (hle _ _ (Cj hp)))
   have z3f:=fun(_:(Out.ok false i).okB=true∧(Out.ok false i).pos≤n) (_:(Out.ok false i).okB=true∧(Out.ok false i).pos≤n) (hp:r.okB=true∧r.pos≤n)=>(show ud g A n c Lj T (.val (Lj r.val)) [(g,154,cW A n c r.pos)]from⟨_,_,by rw[e1];exact Cj hp,hp.2,rfl,rfl⟩)
   refine cw [] h.bM [(5,.ai (cB 0 g A n c (Out.ok false i) fun b=>.bool b)),(8,.ai (cB 0 g A n c (Out.ok false i) fun b=>.bool b)),(10,.ai (cB 0 g A n c r gu)),(11,.is (.int .u8 (r.val:Int)))] [] (by kernel_rfl) Tryz.func209 rfl (Nat.le_of_ble_eq_true rfl) ?_
   exact Eq.mp (by kernel_rfl) (And.intro c5 (fun(hx0:(Out.ok false i).okB=true∧(Out.ok false i).pos≤n)=>(And.intro (c8f hx0) (fun(hx1:(Out.ok false i).okB=true∧(Out.ok false i).pos≤n)=>(And.intro (c10f hx0 hx1) (fun(hx2:r.okB=true∧r.pos≤n)=>(And.intro (c11f hx0 hx1 hx2) (z3f hx0 hx1 hx2))))))))
def Nj(b0 b1 b2 b3:Bool)(p:Nat)(r2:Out Nat):Out (Int×Int):=match b0 with
 |true=>.ok (1,0) p
 |false=>match b1 with
  |true=>.ok (2,0) p
  |false=>match b2 with
   |true=>.ok (4,0) p
   |false=>match b3 with
    |true=>r2.bind fun v k=>.ok (3,(v:Int)) k
    |false=>.no 200 p
def ju(a:Int×Int):Value:=.tuple #[.int .i64 a.1,.int .i64 a.2]
theorem av(x y:Operand)(s t:List UInt8)(b:Bool)(hb:decide (s=t)=b)(W:World):(do eqGuard .eql 9 x y (.string ⟨s.toArray⟩) (.string ⟨t.toArray⟩);binOp .eql 9 (.string ⟨s.toArray⟩) (.string ⟨t.toArray⟩):Sem Value).run Tryz.prog W=.ok (.bool b) W:=by
 have e:∀l:List UInt8,(⟨l.toArray⟩:ByteArray).toList=l:=fun l=>by simp
 have h:(do eqGuard .eql 9 x y (.string ⟨s.toArray⟩) (.string ⟨t.toArray⟩);binOp .eql 9 (.string ⟨s.toArray⟩) (.string ⟨t.toArray⟩):Sem Value).run Tryz.prog W=.ok (.bool ((⟨s.toArray⟩:ByteArray).toList==(⟨t.toArray⟩:ByteArray).toList)) W:=rfl
 rw[h,e,e,←hb]
 by_cases h:s=t<;>simp[h]
theorem DZ{w:World}{g:Nat}{A:Option Go.Addr}{n c i:Nat}{ws:List Bs}(h:dw w g A n c i ws){T:Out (Int×Int)}{r:Out Bs}{r2:Out Nat}(out b0 b1 b2 b3:Bool)
  (n1:∀W,dw W g A n c i ws→Calls Tryz.prog 154 #[.pointer (some ⟨g,0,none⟩)] W (aO g A n c ab r W)) (hno:∀code p,r=.no code p→T=.no code p)
  (n2:r.okB=true→∀W,dw W g A n c r.pos ws→Calls Tryz.prog 186 #[.pointer (some ⟨g,0,none⟩)] W (aO g A n c gx r2 W))
  (h0:decide (r.val=aT)=b0) (h1:decide (r.val=lr)=b1) (h2:decide (r.val=gh)=b2) (h3:decide (r.val=nV)=b3)
  (e2:r.okB=true→T=Nj b0 b1 b2 (b3&&out) r.pos r2) :
  Calls Tryz.prog 192 #[.pointer (some ⟨g,0,none⟩),.bool out] w (aO g A n c ju T w):=by
 have c8:=kj [] h h.le hno n1
 have c11f:=fun(_:r.okB=true∧r.pos≤n) W=>av (.tmp 10) (.const (ab aT)) r.val aT b0 h0 W
 have c14f:=fun(_:r.okB=true∧r.pos≤n) W=>av (.tmp 13) (.const (ab lr)) r.val lr b1 h1 W
 have c17f:=fun(_:r.okB=true∧r.pos≤n) W=>av (.tmp 16) (.const (ab gh)) r.val gh b2 h2 W
 have c20f:=fun(_:r.okB=true∧r.pos≤n) W=>av (.tmp 19) (.const (ab nV)) r.val nV b3 h3 W
 cases b0 with
 |true=>
  have z1f:=fun(hp:r.okB=true∧r.pos≤n)=>(show ud g A n c ju T (.val (ju (1,0))) [(g,154,cW A n c r.pos)]from⟨_,_,e2 hp.1,hp.2,rfl,rfl⟩)
  refine cw [.bool out] h.bM [(8,.ai (cB 0 g A n c r ab)),(11,.bin (.bool true))] [] (by kernel_rfl) Tryz.func192 rfl (Nat.le_of_ble_eq_true rfl) ?_
  exact Eq.mp (by kernel_rfl) (And.intro c8 (fun(hx0:r.okB=true∧r.pos≤n)=>(And.intro (c11f hx0) (z1f hx0))))
 |false=>
  cases b1 with
  |true=>
   have z1f:=fun(hp:r.okB=true∧r.pos≤n)=>(show ud g A n c ju T (.val (ju (2,0))) [(g,154,cW A n c r.pos)]from⟨_,_,e2 hp.1,hp.2,rfl,rfl⟩)
   refine cw [.bool out] h.bM [(8,.ai (cB 0 g A n c r ab)),(11,.bin (.bool false)),(14,.bin (.bool true))] [] (by kernel_rfl) Tryz.func192 rfl (Nat.le_of_ble_eq_true rfl) ?_
   exact Eq.mp (by kernel_rfl) (And.intro c8 (fun(hx0:r.okB=true∧r.pos≤n)=>(Sx.t2 (c11f hx0) (c14f hx0) (z1f hx0))))
  |false=>
   cases b2 with
   |true=>
    have z1f:=fun(hp:r.okB=true∧r.pos≤n)=>(show ud g A n c ju T (.val (ju (4,0))) [(g,154,cW A n c r.pos)]from⟨_,_,e2 hp.1,hp.2,rfl,rfl⟩)
    refine cw [.bool out] h.bM [(8,.ai (cB 0 g A n c r ab)),(11,.bin (.bool false)),(14,.bin (.bool false)),(17,.bin (.bool true))] [] (by kernel_rfl) Tryz.func192 rfl (Nat.le_of_ble_eq_true rfl) ?_
    exact Eq.mp (by kernel_rfl) (And.intro c8 (fun(hx0:r.okB=true∧r.pos≤n)=>(Sx.t2 (c11f hx0) (c14f hx0) (And.intro (c17f hx0) (z1f hx0)))))
   |false=>
    cases b3 with
    |true=>
     cases out with
     |true=>
      have c25f:=fun(hp:r.okB=true∧r.pos≤n)=>kj [] h hp.2 (aM (show T=r2.bind fun v k=>.ok (3,(v:Int)) k from e2 hp.1)) (n2 hp.1)
      have z2f:=fun(hp:r.okB=true∧r.pos≤n) (hp2:r2.okB=true∧r2.pos≤n)=>(show ud g A n c ju T (.val (ju (3,(r2.val:Int)))) [(g,154,cW A n c r2.pos)]from⟨(3,(r2.val:Int)),r2.pos,(show T=.ok (3,(r2.val:Int)) r2.pos from bu (show T=r2.bind fun v k=>.ok (3,(v:Int)) k from e2 hp.1) hp2.1),hp2.2,rfl,rfl⟩)
      refine cw [.bool true] h.bM [(8,.ai (cB 0 g A n c r ab)),(11,.bin (.bool false)),(14,.bin (.bool false)),(17,.bin (.bool false)),(20,.bin (.bool true)),(25,.ai (cB 0 g A n c r2 gx))] [] (by kernel_rfl) Tryz.func192 rfl (Nat.le_of_ble_eq_true rfl) ?_
      exact Eq.mp (by kernel_rfl) (And.intro c8 (fun(hx0:r.okB=true∧r.pos≤n)=>(Sx.t4 (c11f hx0) (c14f hx0) (c17f hx0) (c20f hx0) (And.intro (c25f hx0) (fun(hx1:r2.okB=true∧r2.pos≤n)=>(z2f hx0 hx1))))))
     |false=>
      have c31f:=fun(hp:r.okB=true∧r.pos≤n) W (hW:ah [g] w W) (_:aq W g 154 (cW A n c r.pos))=>jb (b:=⟨w,[g],jr T w⟩) (vs:=[.pointer (some ⟨g,0,none⟩),.int .i64 200,.int .i64 (r.pos:Int)]) (ps:=[(0,0)]) ((mg (.pointer (some ⟨g,0,none⟩)) 200 (r.pos:Int) W).mono fun _ _ ⟨ch,he,hf,hc⟩=>⟨ch,he,(show jr T w _ _ from⟨200,r.pos,e2 hp.1,hf.up hW.size⟩),hc⟩)
      have z1f:=fun(_:r.okB=true∧r.pos≤n)=>trivial
      refine cw [.bool false] h.bM [(8,.ai (cB 0 g A n c r ab)),(11,.bin (.bool false)),(14,.bin (.bool false)),(17,.bin (.bool false)),(20,.bin (.bool true)),(31,.jk)] [] (by kernel_rfl) Tryz.func192 rfl (Nat.le_of_ble_eq_true rfl) ?_
      exact Eq.mp (by kernel_rfl) (And.intro c8 (fun(hx0:r.okB=true∧r.pos≤n)=>(Sx.t4 (c11f hx0) (c14f hx0) (c17f hx0) (c20f hx0) (And.intro (c31f hx0) (z1f hx0)))))
    |false=>
     have c31f:=fun(hp:r.okB=true∧r.pos≤n) W (hW:ah [g] w W) (_:aq W g 154 (cW A n c r.pos))=>jb (b:=⟨w,[g],jr T w⟩) (vs:=[.pointer (some ⟨g,0,none⟩),.int .i64 200,.int .i64 (r.pos:Int)]) (ps:=[(0,0)]) ((mg (.pointer (some ⟨g,0,none⟩)) 200 (r.pos:Int) W).mono fun _ _ ⟨ch,he,hf,hc⟩=>⟨ch,he,(show jr T w _ _ from⟨200,r.pos,e2 hp.1,hf.up hW.size⟩),hc⟩)
     have z1f:=fun(_:r.okB=true∧r.pos≤n)=>trivial
     refine cw [.bool out] h.bM [(8,.ai (cB 0 g A n c r ab)),(11,.bin (.bool false)),(14,.bin (.bool false)),(17,.bin (.bool false)),(20,.bin (.bool false)),(31,.jk)] [] (by kernel_rfl) Tryz.func192 rfl (Nat.le_of_ble_eq_true rfl) ?_
     exact Eq.mp (by kernel_rfl) (And.intro c8 (fun(hx0:r.okB=true∧r.pos≤n)=>(Sx.t4 (c11f hx0) (c14f hx0) (c17f hx0) (c20f hx0) (And.intro (c31f hx0) (z1f hx0)))))
theorem uL(out:Bool){w:World}{g:Nat}{A:Option Go.Addr}{n c i:Nat}{ws:List Bs}(h:dw w g A n c i ws):Calls Tryz.prog 192 #[.pointer (some ⟨g,0,none⟩),.bool out] w (aO g A n c ju (ou out ws i) w):=by
 have e1:=(rfl:ou out ws i=(aY ws i).bind _)
 refine DZ h (r:=aY ws i) (r2:=ic ws (aY ws i).pos) out _ _ _ _ (fun W hL=>lY hL) (aM e1) (fun _ W hL=>sI hL) rfl rfl rfl rfl fun hp=>?_
 rw[bu e1 hp]
 by_cases h0:(aY ws i).val=aT
 ·rw[if_pos h0,decide_eq_true h0];rfl
 rw[if_neg h0,decide_eq_false h0]
 by_cases h1:(aY ws i).val=lr
 ·rw[if_pos h1,decide_eq_true h1];rfl
 rw[if_neg h1,decide_eq_false h1]
 by_cases h2:(aY ws i).val=gh
 ·rw[if_pos h2,decide_eq_true h2];rfl
 rw[if_neg h2,decide_eq_false h2]
 by_cases h3:(aY ws i).val=nV
 ·cases out with
  |true=>rw[if_pos ⟨h3,rfl⟩,decide_eq_true h3];rfl
  |false=>rw[if_neg (by simp),decide_eq_true h3];rfl
 ·rw[if_neg (by simp[h3]),decide_eq_false h3];rfl
end Go.Proofs.YtnncigmpcdehnaaGreatDoor
