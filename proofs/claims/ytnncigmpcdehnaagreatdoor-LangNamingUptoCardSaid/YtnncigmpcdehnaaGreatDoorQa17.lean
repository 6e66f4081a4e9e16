import Derived.Test.YtnncigmpcdehnaaGreatDoorQa16
namespace Go.Proofs.YtnncigmpcdehnaaGreatDoor
set_option maxRecDepth 100000
open Go.RowKit Go.Lib Go.Sort
def pxV(p:Px):Value:=.agg p.cells.toArray
def pxE(o:Option Px):Int:=match o with
 |some _=>0
 |none=>151
theorem rdP_some{s:Bs}{p:Px}(h:rdP s=some p):IsP s p.v p.n p.k:=by
 unfold rdP at h
 split at h
 ·rename_i hx
  injection h with h
  rw[←h];exact hx.choose_spec
 ·cases h
theorem rdP_none{s:Bs}(h:rdP s=none):∀v n k,¬IsP s v n k:=by
 intro v n k hp
 unfold rdP at h
 split at h
 ·cases h
 ·rename_i hx
  exact hx ⟨⟨v,n,k⟩,hp⟩
theorem readP_N(s:Bs)(hs:s.length≤100000000)(w:World)(HL:Lan w):Calls Tryz.prog 16 #[strV s] w fun e w'=>e=.returned (.tuple #[pxV ((rdP s).getD px0),.int .i64 (pxE (rdP s))])∧Chg [] w w':=by
 cases h:rdP s with
 |some p=>exact read_is' (rdP_some h) hs w HL
 |none=>exact read_no (rdP_none h) hs w HL
theorem lprefix_N{w:World}{g:Nat}{A:Option Go.Addr}{n c i:Nat}{ws:List Bs}(h:Lin w g A n c i ws):Calls Tryz.prog 187 #[.pointer (some ⟨g,0,none⟩)] w (LnPost g A n c pxV (prefixR ws i) w):=by
 have e1:prefixR ws i=(nextR ws i).bind fun x j=>wantR (rdP x).isSome 151 ((rdP x).getD px0) j:=rfl
 have n1:=fun W (hL:Lin W g A n c i ws)=>next_N hL
 have hx:(nextR ws i).val.length≤100000000:=next_len h.sz
 generalize prefixR ws i=T at e1 ⊢
 generalize nextR ws i=r at e1 n1 hx
 have hr8:=fun W (hW:Chg [g] w W)=>readP_N r.val (by omega) W (h.lanAt hW)
 have hpe:Value.bool (pxE (rdP r.val)==0)=.bool (rdP r.val).isSome:=by cases rdP r.val<;>rfl
 have e2:r.okB=true→T=wantR (rdP r.val).isSome 151 ((rdP r.val).getD px0) r.pos:=fun hp=>ok_of e1 hp
 generalize pxE (rdP r.val)=er at hr8 hpe
 generalize (rdP r.val).isSome=ok at e2 hpe
 generalize (rdP r.val).getD px0=p at hr8 e2
 have c7:=ln_stm [⟨29,.vals px0.cells⟩] [] h h.le (no_of e1) n1
 have c8f:=fun(_:r.okB=true∧r.pos≤n)=>hr8
 have c13f:=fun(_:r.okB=true∧r.pos≤n)=>hpe
 have c14f:=fun(hp:r.okB=true∧r.pos≤n)=>ln_stm [⟨29,.vals px0.cells⟩,⟨29,.vals p.cells⟩] [.bool ok,.int .i64 151] h hp.2 (no_eq (e2 hp.1)) (fun W hL=>want_N ok 151 p hL)
 have z2f:=fun(hp:r.okB=true∧r.pos≤n) (hp2:(wantR ok 151 p r.pos).okB=true∧(wantR ok 151 p r.pos).pos≤n)=>(show LnR g A n c pxV T (.val (pxV p)) [(g,154,lnC A n c (wantR ok 151 p r.pos).pos)]from by
  have e2:=e2 hp.1
  cases ok with
  |false=>cases hp2.1
  |true=>exact⟨_,_,e2,hp.2,rfl,rfl⟩)
 refine ln_walk [] h.blk [(7,.callG (lnG 0 g A n c r strV)),(8,.call (.tuple #[pxV p,.int .i64 er])),(13,.is (.bool ok)),(14,.callG (lnG 0 g A n c (wantR ok 151 p r.pos) fun _=>.tuple #[]))] [] (by kernel_rfl) Tryz.func187 rfl (Nat.le_of_ble_eq_true rfl) ?_
 exact Eq.mp (by kernel_rfl) (And.intro c7 (fun(hx0:r.okB=true∧r.pos≤n)=>(Sx.t2 (c8f hx0) (c13f hx0) (And.intro (c14f hx0) (fun(hx1:(wantR ok 151 p r.pos).okB=true∧(wantR ok 151 p r.pos).pos≤n)=>(z2f hx0 hx1))))))
def selD(two:Bool)(a b:Bs):Bs:=match two with
 |true=>b
 |false=>a
def spV(s:Nat×Nat):Value:=.agg #[.int .u16 (s.1:Int),.int .u16 (s.2:Int)]
theorem cut45_N(x:Bs)(hs:x.length≤100000000)(w:World)(HL:Lan w):Calls Tryz.prog 48 #[strV x,.string ⟨#[45]⟩] w fun e w'=>e=.returned (.tuple #[strV (Lib.cut x [45]).1,strV (Lib.cut x [45]).2.1,.bool (Lib.cut x [45]).2.2])∧Chg [] w w':=cut_N x [45] (by omega) w HL
theorem cut_len45(x:Bs):(Lib.cut x [45]).1.length≤x.length∧(Lib.cut x [45]).2.1.length≤x.length:=by
 unfold Lib.cut
 split
 ·simp
  omega
 ·simp
theorem u16w{v:Nat}(h:v≤65535):Value.int .u16 (IntKind.u16.wrap (v:Int))=.int .u16 (v:Int):=by
 have:IntKind.u16.wrap (v:Int)=v:=by simp[IntKind.wrap,IntKind.bits,IntKind.signed];omega
 rw[this]
theorem numOk_le{most:Nat}{s:Bs}(h:numOk most s=true):numV s≤most:=by
 unfold numOk at h
 rw[Bool.and_eq_true,decide_eq_true_iff]at h
 exact h.1
theorem lspan_w{w:World}{g:Nat}{A:Option Go.Addr}{n c i:Nat}{ws:List Bs}(h:Lin w g A n c i ws){T:Out (Nat×Nat)}{r:Out Bs}(a b d:Bs)(two oa ob:Bool)
  (n1:∀W,Lin W g A n c i ws→Calls Tryz.prog 154 #[.pointer (some ⟨g,0,none⟩)] W (LnPost g A n c strV r W)) (hno:∀code p,r=.no code p→T=.no code p)
  (hc:r.okB=true→∀W,Chg [g] w W→Calls Tryz.prog 48 #[strV r.val,.string ⟨#[45]⟩] W fun e w'=>e=.returned (.tuple #[strV a,strV b,.bool two])∧Chg [] W w')
  (hd:d=selD two a b)
  (ha:∀W,Chg [g] w W→Calls Tryz.prog 232 #[strV a,.int .u64 65535] W fun e w'=>e=.returned (.tuple #[natV (puV a),.bool oa])∧Chg [] W w')
  (hb:∀W,Chg [g] w W→Calls Tryz.prog 232 #[strV d,.int .u64 65535] W fun e w'=>e=.returned (.tuple #[natV (puV d),.bool ob])∧Chg [] W w')
  (va vb:Nat) (hva:(oa&&ob)=true→puV a=va∧va≤65535) (hvb:(oa&&ob)=true→puV d=vb∧vb≤65535)
  (e2:r.okB=true→T=wantR (oa&&ob) 200 (va,vb) r.pos) :
  Calls Tryz.prog 205 #[.pointer (some ⟨g,0,none⟩)] w (LnPost g A n c spV T w):=by
 have hw37:(oa&&ob)=true→Value.int .u16 (IntKind.u16.wrap (puV a:Int))=.int .u16 (va:Int):=fun ho=>by rw[(hva ho).1];exact u16w (hva ho).2
 have hw39:(oa&&ob)=true→Value.int .u16 (IntKind.u16.wrap (puV d:Int))=.int .u16 (vb:Int):=fun ho=>by rw[(hvb ho).1];exact u16w (hvb ho).2
 generalize puV a=pa at ha hva hw37
 generalize puV d=pd at hb hvb hw39
 have c12:=ln_stm [⟨64,.vals [.int .u16 0,.int .u16 0]⟩] [] h h.le hno n1
 have c13f:=fun(hp:r.okB=true∧r.pos≤n)=>hc hp.1
 have c22f:=fun(_:r.okB=true∧r.pos≤n)=>ha
 have c27f:=fun(_:r.okB=true∧r.pos≤n)=>hb
 have c35f:=fun(hp:r.okB=true∧r.pos≤n)=>ln_stm [⟨64,.vals [.int .u16 0,.int .u16 0]⟩] [.bool (oa&&ob),.int .i64 200] h hp.2 (no_eq (e2 hp.1)) (fun W hL=>want_N (oa&&ob) 200 (va,vb) hL)
 have c37f:=fun(_:r.okB=true∧r.pos≤n) (hp2:(wantR (oa&&ob) 200 (va,vb) r.pos).okB=true∧(wantR (oa&&ob) 200 (va,vb) r.pos).pos≤n)=>(show Value.int .u16 (IntKind.u16.wrap (pa:Int))=.int .u16 (va:Int)from hw37 (by
  cases ho:(oa&&ob)with
  |true=>rfl
  |false=>rw[ho]at hp2;cases hp2.1))
 have c39f:=fun(_:r.okB=true∧r.pos≤n) (hp2:(wantR (oa&&ob) 200 (va,vb) r.pos).okB=true∧(wantR (oa&&ob) 200 (va,vb) r.pos).pos≤n)=>(show Value.int .u16 (IntKind.u16.wrap (pd:Int))=.int .u16 (vb:Int)from hw39 (by
  cases ho:(oa&&ob)with
  |true=>rfl
  |false=>rw[ho]at hp2;cases hp2.1))
 have zf:=fun(hp:r.okB=true∧r.pos≤n) (hp2:(wantR (oa&&ob) 200 (va,vb) r.pos).okB=true∧(wantR (oa&&ob) 200 (va,vb) r.pos).pos≤n)=>(show LnR g A n c spV T (.val (spV (va,vb))) [(g,154,lnC A n c (wantR (oa&&ob) 200 (va,vb) r.pos).pos)]from by
  have e2:=e2 hp.1
  cases ho:(oa&&ob)with
  |false=>rw[ho]at hp2;cases hp2.1
  |true=>rw[ho]at e2;exact⟨_,_,e2,hp.2,rfl,rfl⟩)
 have z2f:=zf
 cases two with
 |false=>
  have hd:d=a:=hd
  subst hd
  cases oa with
  |false=>
   refine ln_walk [] h.blk [(12,.callG (lnG 0 g A n c r strV)),(13,.call (.tuple #[strV d,strV b,.bool false])),(22,.call (.tuple #[natV pa,.bool false])),(27,.call (.tuple #[natV pd,.bool ob])),(35,.callG (lnG 0 g A n c (wantR (false&&ob) 200 (va,vb) r.pos) fun _=>.tuple #[])),(37,.is (.int .u16 (va:Int))),(39,.is (.int .u16 (vb:Int)))] [] (by kernel_rfl) Tryz.func205 rfl (Nat.le_of_ble_eq_true rfl) ?_
   exact Eq.mp (by kernel_rfl) (And.intro c12 (fun(hx0:r.okB=true∧r.pos≤n)=>(Sx.t4 (c13f hx0) (c22f hx0) (c27f hx0) (c35f hx0) (fun(hx1:(wantR (false&&ob) 200 (va,vb) r.pos).okB=true∧(wantR (false&&ob) 200 (va,vb) r.pos).pos≤n)=>(Sx.t2 (c37f hx0 hx1) (c39f hx0 hx1) (z2f hx0 hx1))))))
  |true=>
   refine ln_walk [] h.blk [(12,.callG (lnG 0 g A n c r strV)),(13,.call (.tuple #[strV d,strV b,.bool false])),(22,.call (.tuple #[natV pa,.bool true])),(27,.call (.tuple #[natV pd,.bool ob])),(35,.callG (lnG 0 g A n c (wantR (true&&ob) 200 (va,vb) r.pos) fun _=>.tuple #[])),(37,.is (.int .u16 (va:Int))),(39,.is (.int .u16 (vb:Int)))] [] (by kernel_rfl) Tryz.func205 rfl (Nat.le_of_ble_eq_true rfl) ?_
   exact Eq.mp (by kernel_rfl) (And.intro c12 (fun(hx0:r.okB=true∧r.pos≤n)=>(Sx.t4 (c13f hx0) (c22f hx0) (c27f hx0) (c35f hx0) (fun(hx1:(wantR (true&&ob) 200 (va,vb) r.pos).okB=true∧(wantR (true&&ob) 200 (va,vb) r.pos).pos≤n)=>(Sx.t2 (c37f hx0 hx1) (c39f hx0 hx1) (z2f hx0 hx1))))))
 |true=>
  have hd:d=b:=hd
  subst hd
  cases oa with
  |false=>
   refine ln_walk [] h.blk [(12,.callG (lnG 0 g A n c r strV)),(13,.call (.tuple #[strV a,strV d,.bool true])),(22,.call (.tuple #[natV pa,.bool false])),(27,.call (.tuple #[natV pd,.bool ob])),(35,.callG (lnG 0 g A n c (wantR (false&&ob) 200 (va,vb) r.pos) fun _=>.tuple #[])),(37,.is (.int .u16 (va:Int))),(39,.is (.int .u16 (vb:Int)))] [] (by kernel_rfl) Tryz.func205 rfl (Nat.le_of_ble_eq_true rfl) ?_
   exact Eq.mp (by kernel_rfl) (And.intro c12 (fun(hx0:r.okB=true∧r.pos≤n)=>(Sx.t4 (c13f hx0) (c22f hx0) (c27f hx0) (c35f hx0) (fun(hx1:(wantR (false&&ob) 200 (va,vb) r.pos).okB=true∧(wantR (false&&ob) 200 (va,vb) r.pos).pos≤n)=>(Sx.t2 (c37f hx0 hx1) (c39f hx0 hx1) (z2f hx0 hx1))))))
  |true=>
   refine ln_walk [] h.blk [(12,.callG (lnG 0 g A n c r strV)),(13,.call (.tuple #[strV a,strV d,.bool true])),(22,.call (.tuple #[natV pa,.bool true])),(27,.call (.tuple #[natV pd,.bool ob])),(35,.callG (lnG 0 g A n c (wantR (true&&ob) 200 (va,vb) r.pos) fun _=>.tuple #[])),(37,.is (.int .u16 (va:Int))),(39,.is (.int .u16 (vb:Int)))] [] (by kernel_rfl) Tryz.func205 rfl (Nat.le_of_ble_eq_true rfl) ?_
   exact Eq.mp (by kernel_rfl) (And.intro c12 (fun(hx0:r.okB=true∧r.pos≤n)=>(Sx.t4 (c13f hx0) (c22f hx0) (c27f hx0) (c35f hx0) (fun(hx1:(wantR (true&&ob) 200 (va,vb) r.pos).okB=true∧(wantR (true&&ob) 200 (va,vb) r.pos).pos≤n)=>(Sx.t2 (c37f hx0 hx1) (c39f hx0 hx1) (z2f hx0 hx1))))))
theorem spanE_len(x:Bs):(spanE x).1.length≤x.length∧(spanE x).2.length≤x.length:=by
 have h:=cut_len45 x
 unfold spanE
 split
 ·exact h
 ·exact⟨h.1,h.1⟩
theorem lspan_N{w:World}{g:Nat}{A:Option Go.Addr}{n c i:Nat}{ws:List Bs}(h:Lin w g A n c i ws):Calls Tryz.prog 205 #[.pointer (some ⟨g,0,none⟩)] w (LnPost g A n c spV (spanR ws i) w):=by
 have e1:spanR ws i=(nextR ws i).bind fun x j=>wantR (numOk 65535 (spanE x).1&&numOk 65535 (spanE x).2) 200 (numV (spanE x).1,numV (spanE x).2) j:=rfl
 have hx:(nextR ws i).val.length≤100000000:=next_len h.sz
 have hl:=spanE_len (nextR ws i).val
 have hE:(spanE (nextR ws i).val).1=(Lib.cut (nextR ws i).val [45]).1:=by unfold spanE;split<;>rfl
 have key:∀s:Bs,numOk 65535 s=true→puV s=numV s∧numV s≤65535:=fun s hs=>⟨(puOk_num (numOk_pu (by omega) hs)).1.symm,numOk_le hs⟩
 refine lspan_w h (r:=nextR ws i) (spanE (nextR ws i).val).1 (Lib.cut (nextR ws i).val [45]).2.1 (spanE (nextR ws i).val).2 (Lib.cut (nextR ws i).val [45]).2.2 (numOk 65535 (spanE (nextR ws i).val).1) (numOk 65535 (spanE (nextR ws i).val).2)
  (fun W hL=>next_N hL) (no_of e1) (fun _ W hW=>?_) ?_ (fun W hW=>number64_N 65535 (by omega) _ (by omega) W (h.lanAt hW)) (fun W hW=>number64_N 65535 (by omega) _ (by omega) W (h.lanAt hW)) _ _ ?_ ?_ (fun hp=>ok_of e1 hp)
 ·rw[hE];exact cut45_N _ hx W (h.lanAt hW)
 ·unfold spanE selD;split<;>rename_i hk<;>rw[hk]
 ·intro ho
  rw[Bool.and_eq_true]at ho
  exact key _ ho.1
 ·intro ho
  rw[Bool.and_eq_true]at ho
  exact key _ ho.2
def u8V(n:Nat):Value:=.int .u8 (n:Int)
theorem u8W{v:Nat}(h:v≤255):Value.int .u8 (IntKind.u8.wrap (v:Int))=.int .u8 (v:Int):=by
 have:IntKind.u8.wrap (v:Int)=v:=by simp[IntKind.wrap,IntKind.bits,IntKind.signed];omega
 rw[this]
theorem lproto_N{w:World}{g:Nat}{A:Option Go.Addr}{n c i:Nat}{ws:List Bs}(h:Lin w g A n c i ws):Calls Tryz.prog 209 #[.pointer (some ⟨g,0,none⟩)] w (LnPost g A n c u8V (protoR ws i) w):=by
 have hlen:=h.len
 rcases took_cases (ws:=ws) (i:=i) (s:=kTcp)with⟨h1,h2⟩ | h1
 ·have e1:protoR ws i=.ok 6 (i+1):=by unfold protoR;rw[h1];rfl
  have n1:=fun W (hL:Lin W g A n c i ws)=>h1 ▸ took_N kTcp hL
  generalize protoR ws i=T at e1 ⊢
  have c5:=ln_st (T:=T) [strV kTcp] h h.le (fun code p hh=>by cases hh) n1
  have z1f:=fun(hp:(Out.ok true (i+1)).okB=true∧(Out.ok true (i+1)).pos≤n)=>(show LnR g A n c u8V T (.val (u8V 6)) [(g,154,lnC A n c (i+1))]from⟨_,_,e1,hp.2,rfl,rfl⟩)
  refine ln_walk [] h.blk [(5,.callG (lnG 0 g A n c (Out.ok true (i+1)) fun b=>.bool b))] [] (by kernel_rfl) Tryz.func209 rfl (Nat.le_of_ble_eq_true rfl) ?_
  exact Eq.mp (by kernel_rfl) (And.intro c5 (fun(hx0:(Out.ok true (i+1)).okB=true∧(Out.ok true (i+1)).pos≤n)=>(z1f hx0)))
 ·rcases took_cases (ws:=ws) (i:=i) (s:=kUdp)with⟨h3,h4⟩ | h3
  ·have e1:protoR ws i=.ok 17 (i+1):=by unfold protoR;rw[h1];simp only[Out.bind,h3]
   have n1:=fun W (hL:Lin W g A n c i ws)=>h1 ▸ took_N kTcp hL
   have n2:=fun W (hL:Lin W g A n c i ws)=>h3 ▸ took_N kUdp hL
   generalize protoR ws i=T at e1 ⊢
   have c5:=ln_st (T:=T) [strV kTcp] h h.le (fun code p hh=>by cases hh) n1
   have c8f:=fun(_:(Out.ok false i).okB=true∧(Out.ok false i).pos≤n)=>ln_st (T:=T) [strV kUdp] h h.le (fun code p hh=>by cases hh) n2
   have z2f:=fun(_:(Out.ok false i).okB=true∧(Out.ok false i).pos≤n) (hp:(Out.ok true (i+1)).okB=true∧(Out.ok true (i+1)).pos≤n)=>(show LnR g A n c u8V T (.val (u8V 17)) [(g,154,lnC A n c (i+1))]from⟨_,_,e1,hp.2,rfl,rfl⟩)
   refine ln_walk [] h.blk [(5,.callG (lnG 0 g A n c (Out.ok false i) fun b=>.bool b)),(8,.callG (lnG 0 g A n c (Out.ok true (i+1)) fun b=>.bool b))] [] (by kernel_rfl) Tryz.func209 rfl (Nat.le_of_ble_eq_true rfl) ?_
   exact Eq.mp (by kernel_rfl) (And.intro c5 (fun(hx0:(Out.ok false i).okB=true∧(Out.ok false i).pos≤n)=>(And.intro (c8f hx0) (fun(hx1:(Out.ok true (i+1)).okB=true∧(Out.ok true (i+1)).pos≤n)=>(z2f hx0 hx1)))))
  ·have e1:protoR ws i=numberR 255 ws i:=by unfold protoR;rw[h1];simp only[Out.bind,h3]
   have n1:=fun W (hL:Lin W g A n c i ws)=>h1 ▸ took_N kTcp hL
   have n2:=fun W (hL:Lin W g A n c i ws)=>h3 ▸ took_N kUdp hL
   have n3:=fun W (hL:Lin W g A n c i ws)=>lnumber_N 255 (by omega) hL
   have hle:∀v j,numberR 255 ws i=.ok v j→v≤255:=fun v j=>num_le
   generalize protoR ws i=T at e1 ⊢
   generalize numberR 255 ws i=r at e1 n3 hle
   have c5:=ln_st (T:=T) [strV kTcp] h h.le (fun code p hh=>by cases hh) n1
   have c8f:=fun(_:(Out.ok false i).okB=true∧(Out.ok false i).pos≤n)=>ln_st (T:=T) [strV kUdp] h h.le (fun code p hh=>by cases hh) n2
   have c10f:=fun(_:(Out.ok false i).okB=true∧(Out.ok false i).pos≤n) (_:(Out.ok false i).okB=true∧(Out.ok false i).pos≤n)=>ln_st [.int .u64 ((255:Nat):Int)] h h.le (no_eq e1) n3
   have c11f:=fun(_:(Out.ok false i).okB=true∧(Out.ok false i).pos≤n) (_:(Out.ok false i).okB=true∧(Out.ok false i).pos≤n) (hp:r.okB=true∧r.pos≤n)=>(show Value.int .u8 (IntKind.u8.wrap (r.val:Int))=.int .u8 (r.val:Int)from u8W (hle _ _ (ok_is hp)))
   have z3f:=fun(_:(Out.ok false i).okB=true∧(Out.ok false i).pos≤n) (_:(Out.ok false i).okB=true∧(Out.ok false i).pos≤n) (hp:r.okB=true∧r.pos≤n)=>(show LnR g A n c u8V T (.val (u8V r.val)) [(g,154,lnC A n c r.pos)]from⟨_,_,by rw[e1];exact ok_is hp,hp.2,rfl,rfl⟩)
   refine ln_walk [] h.blk [(5,.callG (lnG 0 g A n c (Out.ok false i) fun b=>.bool b)),(8,.callG (lnG 0 g A n c (Out.ok false i) fun b=>.bool b)),(10,.callG (lnG 0 g A n c r natV)),(11,.is (.int .u8 (r.val:Int)))] [] (by kernel_rfl) Tryz.func209 rfl (Nat.le_of_ble_eq_true rfl) ?_
   exact Eq.mp (by kernel_rfl) (And.intro c5 (fun(hx0:(Out.ok false i).okB=true∧(Out.ok false i).pos≤n)=>(And.intro (c8f hx0) (fun(hx1:(Out.ok false i).okB=true∧(Out.ok false i).pos≤n)=>(And.intro (c10f hx0 hx1) (fun(hx2:r.okB=true∧r.pos≤n)=>(And.intro (c11f hx0 hx1 hx2) (z3f hx0 hx1 hx2))))))))
def actSel(b0 b1 b2 b3:Bool)(p:Nat)(r2:Out Nat):Out (Int×Int):=match b0 with
 |true=>.ok (1,0) p
 |false=>match b1 with
  |true=>.ok (2,0) p
  |false=>match b2 with
   |true=>.ok (4,0) p
   |false=>match b3 with
    |true=>r2.bind fun v k=>.ok (3,(v:Int)) k
    |false=>.no 200 p
def actV(a:Int×Int):Value:=.tuple #[.int .i64 a.1,.int .i64 a.2]
theorem str_eq(x y:Operand)(s t:List UInt8)(b:Bool)(hb:decide (s=t)=b)(W:World):(do eqGuard .eql 9 x y (.string ⟨s.toArray⟩) (.string ⟨t.toArray⟩);binOp .eql 9 (.string ⟨s.toArray⟩) (.string ⟨t.toArray⟩):Sem Value).run Tryz.prog W=.ok (.bool b) W:=by
 have e:∀l:List UInt8,(⟨l.toArray⟩:ByteArray).toList=l:=fun l=>by simp
 have h:(do eqGuard .eql 9 x y (.string ⟨s.toArray⟩) (.string ⟨t.toArray⟩);binOp .eql 9 (.string ⟨s.toArray⟩) (.string ⟨t.toArray⟩):Sem Value).run Tryz.prog W=.ok (.bool ((⟨s.toArray⟩:ByteArray).toList==(⟨t.toArray⟩:ByteArray).toList)) W:=rfl
 rw[h,e,e,←hb]
 by_cases h:s=t<;>simp[h]
theorem laction_w{w:World}{g:Nat}{A:Option Go.Addr}{n c i:Nat}{ws:List Bs}(h:Lin w g A n c i ws){T:Out (Int×Int)}{r:Out Bs}{r2:Out Nat}(out b0 b1 b2 b3:Bool)
  (n1:∀W,Lin W g A n c i ws→Calls Tryz.prog 154 #[.pointer (some ⟨g,0,none⟩)] W (LnPost g A n c strV r W)) (hno:∀code p,r=.no code p→T=.no code p)
  (n2:r.okB=true→∀W,Lin W g A n c r.pos ws→Calls Tryz.prog 186 #[.pointer (some ⟨g,0,none⟩)] W (LnPost g A n c intV r2 W))
  (h0:decide (r.val=kRoute)=b0) (h1:decide (r.val=kDrop)=b1) (h2:decide (r.val=kReject)=b2) (h3:decide (r.val=kOut)=b3)
  (e2:r.okB=true→T=actSel b0 b1 b2 (b3&&out) r.pos r2) :
  Calls Tryz.prog 192 #[.pointer (some ⟨g,0,none⟩),.bool out] w (LnPost g A n c actV T w):=by
 have c8:=ln_st [] h h.le hno n1
 have c11f:=fun(_:r.okB=true∧r.pos≤n) W=>str_eq (.tmp 10) (.const (strV kRoute)) r.val kRoute b0 h0 W
 have c14f:=fun(_:r.okB=true∧r.pos≤n) W=>str_eq (.tmp 13) (.const (strV kDrop)) r.val kDrop b1 h1 W
 have c17f:=fun(_:r.okB=true∧r.pos≤n) W=>str_eq (.tmp 16) (.const (strV kReject)) r.val kReject b2 h2 W
 have c20f:=fun(_:r.okB=true∧r.pos≤n) W=>str_eq (.tmp 19) (.const (strV kOut)) r.val kOut b3 h3 W
 cases b0 with
 |true=>
  have z1f:=fun(hp:r.okB=true∧r.pos≤n)=>(show LnR g A n c actV T (.val (actV (1,0))) [(g,154,lnC A n c r.pos)]from⟨_,_,e2 hp.1,hp.2,rfl,rfl⟩)
  refine ln_walk [.bool out] h.blk [(8,.callG (lnG 0 g A n c r strV)),(11,.bin (.bool true))] [] (by kernel_rfl) Tryz.func192 rfl (Nat.le_of_ble_eq_true rfl) ?_
  exact Eq.mp (by kernel_rfl) (And.intro c8 (fun(hx0:r.okB=true∧r.pos≤n)=>(And.intro (c11f hx0) (z1f hx0))))
 |false=>
  cases b1 with
  |true=>
   have z1f:=fun(hp:r.okB=true∧r.pos≤n)=>(show LnR g A n c actV T (.val (actV (2,0))) [(g,154,lnC A n c r.pos)]from⟨_,_,e2 hp.1,hp.2,rfl,rfl⟩)
   refine ln_walk [.bool out] h.blk [(8,.callG (lnG 0 g A n c r strV)),(11,.bin (.bool false)),(14,.bin (.bool true))] [] (by kernel_rfl) Tryz.func192 rfl (Nat.le_of_ble_eq_true rfl) ?_
   exact Eq.mp (by kernel_rfl) (And.intro c8 (fun(hx0:r.okB=true∧r.pos≤n)=>(Sx.t2 (c11f hx0) (c14f hx0) (z1f hx0))))
  |false=>
   cases b2 with
   |true=>
    have z1f:=fun(hp:r.okB=true∧r.pos≤n)=>(show LnR g A n c actV T (.val (actV (4,0))) [(g,154,lnC A n c r.pos)]from⟨_,_,e2 hp.1,hp.2,rfl,rfl⟩)
    refine ln_walk [.bool out] h.blk [(8,.callG (lnG 0 g A n c r strV)),(11,.bin (.bool false)),(14,.bin (.bool false)),(17,.bin (.bool true))] [] (by kernel_rfl) Tryz.func192 rfl (Nat.le_of_ble_eq_true rfl) ?_
    exact Eq.mp (by kernel_rfl) (And.intro c8 (fun(hx0:r.okB=true∧r.pos≤n)=>(Sx.t2 (c11f hx0) (c14f hx0) (And.intro (c17f hx0) (z1f hx0)))))
   |false=>
    cases b3 with
    |true=>
     cases out with
     |true=>
      have c25f:=fun(hp:r.okB=true∧r.pos≤n)=>ln_st [] h hp.2 (no_of (show T=r2.bind fun v k=>.ok (3,(v:Int)) k from e2 hp.1)) (n2 hp.1)
      have z2f:=fun(hp:r.okB=true∧r.pos≤n) (hp2:r2.okB=true∧r2.pos≤n)=>(show LnR g A n c actV T (.val (actV (3,(r2.val:Int)))) [(g,154,lnC A n c r2.pos)]from⟨(3,(r2.val:Int)),r2.pos,(show T=.ok (3,(r2.val:Int)) r2.pos from ok_of (show T=r2.bind fun v k=>.ok (3,(v:Int)) k from e2 hp.1) hp2.1),hp2.2,rfl,rfl⟩)
      refine ln_walk [.bool true] h.blk [(8,.callG (lnG 0 g A n c r strV)),(11,.bin (.bool false)),(14,.bin (.bool false)),(17,.bin (.bool false)),(20,.bin (.bool true)),(25,.callG (lnG 0 g A n c r2 intV))] [] (by kernel_rfl) Tryz.func192 rfl (Nat.le_of_ble_eq_true rfl) ?_
      exact Eq.mp (by kernel_rfl) (And.intro c8 (fun(hx0:r.okB=true∧r.pos≤n)=>(Sx.t4 (c11f hx0) (c14f hx0) (c17f hx0) (c20f hx0) (And.intro (c25f hx0) (fun(hx1:r2.okB=true∧r2.pos≤n)=>(z2f hx0 hx1))))))
     |false=>
      have c31f:=fun(hp:r.okB=true∧r.pos≤n) W (hW:Chg [g] w W) (_:Blk W g 154 (lnC A n c r.pos))=>pan_none (b:=⟨w,[g],LnP T w⟩) (vs:=[.pointer (some ⟨g,0,none⟩),.int .i64 200,.int .i64 (r.pos:Int)]) (ps:=[(0,0)]) ((fail_N (.pointer (some ⟨g,0,none⟩)) 200 (r.pos:Int) W).mono fun _ _ ⟨ch,he,hf,hc⟩=>⟨ch,he,(show LnP T w _ _ from⟨200,r.pos,e2 hp.1,hf.up hW.size⟩),hc⟩)
      have z1f:=fun(_:r.okB=true∧r.pos≤n)=>trivial
      refine ln_walk [.bool false] h.blk [(8,.callG (lnG 0 g A n c r strV)),(11,.bin (.bool false)),(14,.bin (.bool false)),(17,.bin (.bool false)),(20,.bin (.bool true)),(31,.callP)] [] (by kernel_rfl) Tryz.func192 rfl (Nat.le_of_ble_eq_true rfl) ?_
      exact Eq.mp (by kernel_rfl) (And.intro c8 (fun(hx0:r.okB=true∧r.pos≤n)=>(Sx.t4 (c11f hx0) (c14f hx0) (c17f hx0) (c20f hx0) (And.intro (c31f hx0) (z1f hx0)))))
    |false=>
     have c31f:=fun(hp:r.okB=true∧r.pos≤n) W (hW:Chg [g] w W) (_:Blk W g 154 (lnC A n c r.pos))=>pan_none (b:=⟨w,[g],LnP T w⟩) (vs:=[.pointer (some ⟨g,0,none⟩),.int .i64 200,.int .i64 (r.pos:Int)]) (ps:=[(0,0)]) ((fail_N (.pointer (some ⟨g,0,none⟩)) 200 (r.pos:Int) W).mono fun _ _ ⟨ch,he,hf,hc⟩=>⟨ch,he,(show LnP T w _ _ from⟨200,r.pos,e2 hp.1,hf.up hW.size⟩),hc⟩)
     have z1f:=fun(_:r.okB=true∧r.pos≤n)=>trivial
     refine ln_walk [.bool out] h.blk [(8,.callG (lnG 0 g A n c r strV)),(11,.bin (.bool false)),(14,.bin (.bool false)),(17,.bin (.bool false)),(20,.bin (.bool false)),(31,.callP)] [] (by kernel_rfl) Tryz.func192 rfl (Nat.le_of_ble_eq_true rfl) ?_
     exact Eq.mp (by kernel_rfl) (And.intro c8 (fun(hx0:r.okB=true∧r.pos≤n)=>(Sx.t4 (c11f hx0) (c14f hx0) (c17f hx0) (c20f hx0) (And.intro (c31f hx0) (z1f hx0)))))
theorem laction_N(out:Bool){w:World}{g:Nat}{A:Option Go.Addr}{n c i:Nat}{ws:List Bs}(h:Lin w g A n c i ws):Calls Tryz.prog 192 #[.pointer (some ⟨g,0,none⟩),.bool out] w (LnPost g A n c actV (actR out ws i) w):=by
 have e1:=(rfl:actR out ws i=(nextR ws i).bind _)
 refine laction_w h (r:=nextR ws i) (r2:=intR ws (nextR ws i).pos) out _ _ _ _ (fun W hL=>next_N hL) (no_of e1) (fun _ W hL=>lint_N hL) rfl rfl rfl rfl fun hp=>?_
 rw[ok_of e1 hp]
 by_cases h0:(nextR ws i).val=kRoute
 ·rw[if_pos h0,decide_eq_true h0];rfl
 rw[if_neg h0,decide_eq_false h0]
 by_cases h1:(nextR ws i).val=kDrop
 ·rw[if_pos h1,decide_eq_true h1];rfl
 rw[if_neg h1,decide_eq_false h1]
 by_cases h2:(nextR ws i).val=kReject
 ·rw[if_pos h2,decide_eq_true h2];rfl
 rw[if_neg h2,decide_eq_false h2]
 by_cases h3:(nextR ws i).val=kOut
 ·cases out with
  |true=>rw[if_pos ⟨h3,rfl⟩,decide_eq_true h3];rfl
  |false=>rw[if_neg (by simp),decide_eq_true h3];rfl
 ·rw[if_neg (by simp[h3]),decide_eq_false h3];rfl
end Go.Proofs.YtnncigmpcdehnaaGreatDoor
