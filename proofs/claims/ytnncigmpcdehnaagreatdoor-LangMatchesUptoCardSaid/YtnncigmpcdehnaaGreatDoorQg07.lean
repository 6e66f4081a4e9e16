import Derived.Test.YtnncigmpcdehnaaGreatDoorQg06
open And renaming intro→WN
open Go.Value renaming int→WO,bool→WQ,pointer→Xz,formed→XB,tuple→XD
open Int renaming ofNat→WR,toNat_natCast→Xu
open List renaming not_mem_nil→WS,takeWhile_cons→WT,getElem?_eq_some_iff→WU,mem_cons→WX,drop_eq_getElem_cons→WY,mem_singleton→WZ,length_drop→W4,length_cons→W5,mem_filterMap→W8,append_assoc→Xa,nodup_cons→Xd,getElem?_append_right→Xe,replicate→Xf,getElem?_append_left→Xg,getElem?_eq_getElem→Xh,getElem?_cons_zero→Xj,mem_map→Xk,getElem?_eq_none→Xl,mem_cons_of_mem→Xn,drop_succ_cons→Xq,getElem?_drop→Xs,length_take→Xt,mem_append→Xv,drop_drop→XA
open Eq renaming mp→WV
open Bool renaming and_eq_true→WW,not_eq_true'→W2,true_eq_false→W9,and_eq_false_iff→Xm,or_eq_false_iff→Xo,or_eq_true→Xx,eq_iff_iff→Xy
open Go.IntKind renaming u16→W0,u8→W6,i64→W7,signed→Xc,bits→Xi,wrap→Xw
open Nat renaming zero_le→W3,beq→Xb,pow_le_pow_right→Xp,ble→Xr,zero_add→XF,mul_one→XG,le_refl→XH
namespace Go.Proofs.YtnncigmpcdehnaaGreatDoor
set_option maxRecDepth 100000
open Go.RowKit Go.Lib Go.Sort _root_.Go.Proofs.Tryz
set_option maxRecDepth 100000
def lL(p:Px):Value:=.agg p.cells.toArray
def Vw(o:Option Px):Int:=match o with
 |some _=>0
 |none=>151
theorem ri{s:Bs}{p:Px}(h:nE s=some p):r7 s p.v p.n p.k:=by
 unfold nE at h;split at h
 ·rename_i hx
  injection h with h;rw[←h];exact hx.choose_spec
 ·cases h
theorem vw{s:Bs}(h:nE s=none):∀v n k,¬r7 s v n k:=by
 intro v n k hp;unfold nE at h;split at h
 ·cases h
 ·rename_i hx
  exact hx ⟨⟨v,n,k⟩,hp⟩
theorem OI(s:Bs)(hs:s.length≤100000000)(w:World)(HL:dO w):Calls prog 16 #[ae s] w (Rn w (.tuple #[lL ((nE s).getD nz),.int .i64 (Vw (nE s))])):=by
 cases h:nE s with
 |some p=>exact vr (ri h) hs w HL
 |none=>exact OH (vw h) hs w HL
theorem sO{w:World}{g:Nat}{A:Option Go.Addr}{n c i:Nat}{ws:List Bs}(h:eC w g A n c i ws):Calls prog 187 #[(pt g 0)] w (bM g A n c lL (dr ws i) w):=by
 have e1:dr ws i=(aO ws i).bind fun x j=>aR (nE x).isSome 151 ((nE x).getD nz) j:=rfl;have n1:=fun W (hL:eC W g A n c i ws)=>ou hL;have hx:(aO ws i).val.length≤100000000:=vT h.sz;generalize dr ws i=T at e1 ⊢;generalize aO ws i=r at e1 n1 hx;have hr8:=fun W (hW:ai [g] w W)=>OI r.val (by omega) W (h.Cp hW);have hpe:WQ (Vw (nE r.val)==0)=.bool (nE r.val).isSome:=by cases nE r.val<;>rfl
 have e2:r.okB=true→T=aR (nE r.val).isSome 151 ((nE r.val).getD nz) r.pos:=fun hp=>cw e1 hp;generalize Vw (nE r.val)=er at hr8 hpe;generalize (nE r.val).isSome=ok at e2 hpe;generalize (nE r.val).getD nz=p at hr8 e2;have c7:=mQ [⟨29,.aj nz.cells⟩] [] h h.le (cD e1) n1;have c8f:=fun(_:r.okB=true∧r.pos≤n)=>hr8;have c13f:=fun(_:r.okB=true∧r.pos≤n)=>hpe;have c14f:=fun(hp:r.okB=true∧r.pos≤n)=>mQ [⟨29,.aj nz.cells⟩,⟨29,.aj p.cells⟩] [.bool ok,.int .i64 151] h hp.2 (yx (e2 hp.1)) (fun W hL=>nH ok 151 p hL);have z2f:=fun(hp:r.okB=true∧r.pos≤n) (hp2:(aR ok 151 p r.pos).okB=true∧(aR ok 151 p r.pos).pos≤n)=>(show DM g A n c lL T (.val (lL p)) [(g,154,dH A n c (aR ok 151 p r.pos).pos)]from by
  have e2:=e2 hp.1;cases ok with
  |false=>cases hp2.1
  |true=>exact⟨_,_,e2,hp.2,rfl,rfl⟩)
 refine fP [] h.bO [(7,.ay (gC 0 g A n c r ae)),(8,.call (.tuple #[lL p,.int .i64 er])),(13,.is (.bool ok)),(14,.ay (gC 0 g A n c (aR ok 151 p r.pos) fun _=>.tuple #[]))] [] (by kernel_rfl) func187 rfl (bU rfl) ?_;exact WV (by kernel_rfl) (WN c7 (fun(hx0:r.okB=true∧r.pos≤n)=>(Sx.t2 (c8f hx0) (c13f hx0) (WN (c14f hx0) (fun(hx1:(aR ok 151 p r.pos).okB=true∧(aR ok 151 p r.pos).pos≤n)=>(z2f hx0 hx1))))))
def TC(two:Bool)(a b:Bs):Bs:=match two with
 |true=>b
 |false=>a
def gF(s:Nat×Nat):Value:=.agg #[.int .u16 (s.1:Int),.int .u16 (s.2:Int)]
theorem P5(x:Bs)(hs:x.length≤100000000)(w:World)(HL:dO w):Calls prog 48 #[ae x,.string ⟨#[45]⟩] w (Rn w (.tuple #[ae (Lib.cut x [45]).1,ae (Lib.cut x [45]).2.1,.bool (Lib.cut x [45]).2.2])):=MD x [45] (by omega) w HL
theorem Jj(x:Bs):(Lib.cut x [45]).1.length≤x.length∧(Lib.cut x [45]).2.1.length≤x.length:=by
 unfold Lib.cut;split
 ·simp
  omega
 ·simp
theorem Tp{v:Nat}(h:v≤65535):WO .u16 (W0.wrap (v:Int))=.int .u16 (v:Int):=by
 have:W0.wrap (v:Int)=v:=by simp[Xw,Xi,Xc];omega
 rw[this]
theorem vP{most:Nat}{s:Bs}(h:aM most s=true):cK s≤most:=by unfold aM at h;rw[WW,decide_eq_true_iff]at h;exact h.1
theorem Pg{w:World}{g:Nat}{A:Option Go.Addr}{n c i:Nat}{ws:List Bs}(h:eC w g A n c i ws){T:Out (Nat×Nat)}{r:Out Bs}(a b d:Bs)(two oa ob:Bool)
  (n1:∀W,eC W g A n c i ws→Calls prog 154 #[(pt g 0)] W (bM g A n c ae r W)) (hno:∀code p,r=.no code p→T=.no code p)
  (hc:r.okB=true→∀W,ai [g] w W→Calls prog 48 #[ae r.val,.string ⟨#[45]⟩] W (Rn W (.tuple #[ae a,ae b,.bool two])))
  (hd:d=TC two a b)
  (ha:∀W,ai [g] w W→Calls prog 232 #[ae a,.int .u64 65535] W (Rn W (.tuple #[pR (uw a),.bool oa])))
  (hb:∀W,ai [g] w W→Calls prog 232 #[ae d,.int .u64 65535] W (Rn W (.tuple #[pR (uw d),.bool ob])))
  (va vb:Nat) (hva:(oa&&ob)=true→uw a=va∧va≤65535) (hvb:(oa&&ob)=true→uw d=vb∧vb≤65535)
  (e2:r.okB=true→T=aR (oa&&ob) 200 (va,vb) r.pos) :
  Calls prog 205 #[(pt g 0)] w (bM g A n c gF T w):=by
 have hw37:(oa&&ob)=true→WO .u16 (W0.wrap (uw a:Int))=.int .u16 (va:Int):=fun ho=>by rw[(hva ho).1];exact Tp (hva ho).2
 have hw39:(oa&&ob)=true→WO .u16 (W0.wrap (uw d:Int))=.int .u16 (vb:Int):=fun ho=>by rw[(hvb ho).1];exact Tp (hvb ho).2
 generalize uw a=pa at ha hva hw37;generalize uw d=pd at hb hvb hw39;have c12:=mQ [⟨64,.aj [.int .u16 0,.int .u16 0]⟩] [] h h.le hno n1;have c13f:=fun(hp:r.okB=true∧r.pos≤n)=>hc hp.1;have c22f:=fun(_:r.okB=true∧r.pos≤n)=>ha;have c27f:=fun(_:r.okB=true∧r.pos≤n)=>hb;have c35f:=fun(hp:r.okB=true∧r.pos≤n)=>mQ [⟨64,.aj [.int .u16 0,.int .u16 0]⟩] [.bool (oa&&ob),.int .i64 200] h hp.2 (yx (e2 hp.1)) (fun W hL=>nH (oa&&ob) 200 (va,vb) hL);have c37f:=fun(_:r.okB=true∧r.pos≤n) (hp2:(aR (oa&&ob) 200 (va,vb) r.pos).okB=true∧(aR (oa&&ob) 200 (va,vb) r.pos).pos≤n)=>(show WO .u16 (W0.wrap (pa:Int))=.int .u16 (va:Int)from hw37 (by
  cases ho:(oa&&ob)with
  |true=>rfl
  |false=>rw[ho]at hp2;cases hp2.1))
 have c39f:=fun(_:r.okB=true∧r.pos≤n) (hp2:(aR (oa&&ob) 200 (va,vb) r.pos).okB=true∧(aR (oa&&ob) 200 (va,vb) r.pos).pos≤n)=>(show WO .u16 (W0.wrap (pd:Int))=.int .u16 (vb:Int)from hw39 (by
  cases ho:(oa&&ob)with
  |true=>rfl
  |false=>rw[ho]at hp2;cases hp2.1))
 have zf:=fun(hp:r.okB=true∧r.pos≤n) (hp2:(aR (oa&&ob) 200 (va,vb) r.pos).okB=true∧(aR (oa&&ob) 200 (va,vb) r.pos).pos≤n)=>(show DM g A n c gF T (.val (gF (va,vb))) [(g,154,dH A n c (aR (oa&&ob) 200 (va,vb) r.pos).pos)]from by
  have e2:=e2 hp.1;cases ho:(oa&&ob)with
  |false=>rw[ho]at hp2;cases hp2.1
  |true=>rw[ho]at e2;exact⟨_,_,e2,hp.2,rfl,rfl⟩)
 subst hd;have CH:=WN c12 (fun(hx0:r.okB=true∧r.pos≤n)=>Sx.t4 (c13f hx0) (c22f hx0) (c27f hx0) (c35f hx0) (fun(hx1:(aR (oa&&ob) 200 (va,vb) r.pos).okB=true∧(aR (oa&&ob) 200 (va,vb) r.pos).pos≤n)=>Sx.t2 (c37f hx0 hx1) (c39f hx0 hx1) (zf hx0 hx1)));refine fP [] h.bO [(12,.ay (gC 0 g A n c r ae)),(13,.call (.tuple #[ae a,ae b,.bool two])),(22,.call (.tuple #[pR pa,.bool oa])),(27,.call (.tuple #[pR pd,.bool ob])),(35,.ay (gC 0 g A n c (aR (oa&&ob) 200 (va,vb) r.pos) fun _=>.tuple #[])),(37,.is (.int .u16 (va:Int))),(39,.is (.int .u16 (vb:Int)))] [] (by kernel_rfl) func205 rfl (bU rfl) ?_;clear c12 c13f c22f c27f c35f c37f c39f zf;cases two<;>cases oa<;>exact WV (by kernel_rfl) CH
theorem Hj(x:Bs):(cC x).1.length≤x.length∧(cC x).2.length≤x.length:=by
 have h:=Jj x;unfold cC;split
 ·exact h
 ·exact⟨h.1,h.1⟩
theorem Af{w:World}{g:Nat}{A:Option Go.Addr}{n c i:Nat}{ws:List Bs}(h:eC w g A n c i ws):Calls prog 205 #[(pt g 0)] w (bM g A n c gF (ig ws i) w):=by
 have e1:ig ws i=(aO ws i).bind fun x j=>aR (aM 65535 (cC x).1&&aM 65535 (cC x).2) 200 (cK (cC x).1,cK (cC x).2) j:=rfl;have hx:(aO ws i).val.length≤100000000:=vT h.sz;have hl:=Hj (aO ws i).val;have hE:(cC (aO ws i).val).1=(Lib.cut (aO ws i).val [45]).1:=by unfold cC;split<;>rfl
 have key:∀s:Bs,aM 65535 s=true→uw s=cK s∧cK s≤65535:=fun s hs=>⟨(vC (vO (by omega) hs)).1.symm,vP hs⟩
 refine Pg h (r:=aO ws i) (cC (aO ws i).val).1 (Lib.cut (aO ws i).val [45]).2.1 (cC (aO ws i).val).2 (Lib.cut (aO ws i).val [45]).2.2 (aM 65535 (cC (aO ws i).val).1) (aM 65535 (cC (aO ws i).val).2)
  (fun W hL=>ou hL) (cD e1) (fun _ W hW=>?_) ?_ (fun W hW=>qq 65535 (by omega) _ (by omega) W (h.Cp hW)) (fun W hW=>qq 65535 (by omega) _ (by omega) W (h.Cp hW)) _ _ ?_ ?_ (fun hp=>cw e1 hp)
 ·rw[hE];exact P5 _ hx W (h.Cp hW)
 ·unfold cC TC;split<;>rename_i hk<;>rw[hk]
 ·intro ho
  rw[WW]at ho;exact key _ ho.1
 ·intro ho
  rw[WW]at ho;exact key _ ho.2
def Hb(n:Nat):Value:=.int .u8 (n:Int)
theorem Wr{v:Nat}(h:v≤255):WO .u8 (W6.wrap (v:Int))=.int .u8 (v:Int):=by
 have:W6.wrap (v:Int)=v:=by simp[Xw,Xi,Xc];omega
 rw[this]
theorem LK{w:World}{g:Nat}{A:Option Go.Addr}{n c i:Nat}{ws:List Bs}(h:eC w g A n c i ws):Calls prog 209 #[.pointer (some ⟨g,0,none⟩)] w (bM g A n c Hb (dS ws i) w):=by
 have hlen:=h.len;rcases gp (ws:=ws) (i:=i) (s:=js)with⟨h1,h2⟩ | h1
 ·have e1:dS ws i=.ok 6 (i+1):=by unfold dS;rw[h1];rfl
  have n1:=fun W (hL:eC W g A n c i ws)=>h1 ▸ kY js hL;generalize dS ws i=T at e1 ⊢;have c5:=lW (T:=T) [ae js] h h.le (fun code p hh=>by cases hh) n1;have z1f:=fun(hp:(Out.ok true (i+1)).okB=true∧(Out.ok true (i+1)).pos≤n)=>(show DM g A n c Hb T (.val (Hb 6)) [(g,154,dH A n c (i+1))]from⟨_,_,e1,hp.2,rfl,rfl⟩);refine fP [] h.bO [(5,.ay (gC 0 g A n c (Out.ok true (i+1)) fun b=>.bool b))] [] (by kernel_rfl) func209 rfl (bU rfl) ?_;exact WV (by kernel_rfl) (WN c5 (fun(hx0:(Out.ok true (i+1)).okB=true∧(Out.ok true (i+1)).pos≤n)=>(z1f hx0)))
 ·rcases gp (ws:=ws) (i:=i) (s:=jH)with⟨h3,h4⟩ | h3
  ·have e1:dS ws i=.ok 17 (i+1):=by unfold dS;rw[h1];simp only[Out.bind,h3]
   have n1:=fun W (hL:eC W g A n c i ws)=>h1 ▸ kY js hL;have n2:=fun W (hL:eC W g A n c i ws)=>h3 ▸ kY jH hL;generalize dS ws i=T at e1 ⊢;have c5:=lW (T:=T) [ae js] h h.le (fun code p hh=>by cases hh) n1;have c8f:=fun(_:(Out.ok false i).okB=true∧(Out.ok false i).pos≤n)=>lW (T:=T) [ae jH] h h.le (fun code p hh=>by cases hh) n2;have z2f:=fun(_:(Out.ok false i).okB=true∧(Out.ok false i).pos≤n) (hp:(Out.ok true (i+1)).okB=true∧(Out.ok true (i+1)).pos≤n)=>(show DM g A n c Hb T (.val (Hb 17)) [(g,154,dH A n c (i+1))]from⟨_,_,e1,hp.2,rfl,rfl⟩);refine fP [] h.bO [(5,.ay (gC 0 g A n c (Out.ok false i) fun b=>.bool b)),(8,.ay (gC 0 g A n c (Out.ok true (i+1)) fun b=>.bool b))] [] (by kernel_rfl) func209 rfl (bU rfl) ?_;exact WV (by kernel_rfl) (WN c5 (fun(hx0:(Out.ok false i).okB=true∧(Out.ok false i).pos≤n)=>(WN (c8f hx0) (fun(hx1:(Out.ok true (i+1)).okB=true∧(Out.ok true (i+1)).pos≤n)=>(z2f hx0 hx1)))))
  ·have e1:dS ws i=a6 255 ws i:=by unfold dS;rw[h1];simp only[Out.bind,h3]
   have n1:=fun W (hL:eC W g A n c i ws)=>h1 ▸ kY js hL;have n2:=fun W (hL:eC W g A n c i ws)=>h3 ▸ kY jH hL;have n3:=fun W (hL:eC W g A n c i ws)=>lV 255 (by omega) hL;have hle:∀v j,a6 255 ws i=.ok v j→v≤255:=fun v j=>Et;generalize dS ws i=T at e1 ⊢;generalize a6 255 ws i=r at e1 n3 hle;have c5:=lW (T:=T) [ae js] h h.le (fun code p hh=>by cases hh) n1;have c8f:=fun(_:(Out.ok false i).okB=true∧(Out.ok false i).pos≤n)=>lW (T:=T) [ae jH] h h.le (fun code p hh=>by cases hh) n2;have c10f:=fun(_:(Out.ok false i).okB=true∧(Out.ok false i).pos≤n) (_:(Out.ok false i).okB=true∧(Out.ok false i).pos≤n)=>lW [.int .u64 ((255:Nat):Int)] h h.le (yx e1) n3;have c11f:=fun(_:(Out.ok false i).okB=true∧(Out.ok false i).pos≤n) (_:(Out.ok false i).okB=true∧(Out.ok false i).pos≤n) (hp:r.okB=true∧r.pos≤n)=>(show WO .u8 (W6.wrap (r.val:Int))=.int .u8 (r.val:Int)from Wr (hle _ _ (Gk hp)));have z3f:=fun(_:(Out.ok false i).okB=true∧(Out.ok false i).pos≤n) (_:(Out.ok false i).okB=true∧(Out.ok false i).pos≤n) (hp:r.okB=true∧r.pos≤n)=>(show DM g A n c Hb T (.val (Hb r.val)) [(g,154,dH A n c r.pos)]from⟨_,_,by rw[e1];exact Gk hp,hp.2,rfl,rfl⟩);refine fP [] h.bO [(5,.ay (gC 0 g A n c (Out.ok false i) fun b=>.bool b)),(8,.ay (gC 0 g A n c (Out.ok false i) fun b=>.bool b)),(10,.ay (gC 0 g A n c r pR)),(11,.is (.int .u8 (r.val:Int)))] [] (by kernel_rfl) func209 rfl (bU rfl) ?_;exact WV (by kernel_rfl) (WN c5 (fun(hx0:(Out.ok false i).okB=true∧(Out.ok false i).pos≤n)=>(WN (c8f hx0) (fun(hx1:(Out.ok false i).okB=true∧(Out.ok false i).pos≤n)=>(WN (c10f hx0 hx1) (fun(hx2:r.okB=true∧r.pos≤n)=>(WN (c11f hx0 hx1 hx2) (z3f hx0 hx1 hx2))))))))
def SS(b0 b1 b2 b3:Bool)(p:Nat)(r2:Out Nat):Out (Int×Int):=match b0 with
 |true=>.ok (1,0) p
 |false=>match b1 with
  |true=>.ok (2,0) p
  |false=>match b2 with
   |true=>.ok (4,0) p
   |false=>match b3 with
    |true=>r2.bind fun v k=>.ok (3,(v:Int)) k
    |false=>.no 200 p
def DG(a:Int×Int):Value:=.tuple #[.int .i64 a.1,.int .i64 a.2]
theorem eX(x y:Operand)(s t:List UInt8)(b:Bool)(hb:decide (s=t)=b)(W:World):(do eqGuard .eql 9 x y (.string ⟨s.toArray⟩) (.string ⟨t.toArray⟩);binOp .eql 9 (.string ⟨s.toArray⟩) (.string ⟨t.toArray⟩):Sem Value).run prog W=.ok (.bool b) W:=by
 have e:∀l:List UInt8,(⟨l.toArray⟩:ByteArray).toList=l:=fun l=>by simp
 have h:(do eqGuard .eql 9 x y (.string ⟨s.toArray⟩) (.string ⟨t.toArray⟩);binOp .eql 9 (.string ⟨s.toArray⟩) (.string ⟨t.toArray⟩):Sem Value).run prog W=.ok (.bool ((⟨s.toArray⟩:ByteArray).toList==(⟨t.toArray⟩:ByteArray).toList)) W:=rfl;rw[h,e,e,←hb];by_cases h:s=t<;>simp[h]
theorem IY{w:World}{g:Nat}{A:Option Go.Addr}{n c i:Nat}{ws:List Bs}(h:eC w g A n c i ws){T:Out (Int×Int)}{r:Out Bs}{r2:Out Nat}(out b0 b1 b2 b3:Bool)
  (n1:∀W,eC W g A n c i ws→Calls prog 154 #[(pt g 0)] W (bM g A n c ae r W)) (hno:∀code p,r=.no code p→T=.no code p)
  (n2:r.okB=true→∀W,eC W g A n c r.pos ws→Calls prog 186 #[(pt g 0)] W (bM g A n c rK r2 W))
  (h0:decide (r.val=dI)=b0) (h1:decide (r.val=nq)=b1) (h2:decide (r.val=gW)=b2) (h3:decide (r.val=qz)=b3)
  (e2:r.okB=true→T=SS b0 b1 b2 (b3&&out) r.pos r2) :
  Calls prog 192 #[(pt g 0),.bool out] w (bM g A n c DG T w):=by
 have c8:=lW [] h h.le hno n1;have c11f:=fun(_:r.okB=true∧r.pos≤n) W=>eX (.tmp 10) (.const (ae dI)) r.val dI b0 h0 W;have c14f:=fun(_:r.okB=true∧r.pos≤n) W=>eX (.tmp 13) (.const (ae nq)) r.val nq b1 h1 W;have c17f:=fun(_:r.okB=true∧r.pos≤n) W=>eX (.tmp 16) (.const (ae gW)) r.val gW b2 h2 W;have c20f:=fun(_:r.okB=true∧r.pos≤n) W=>eX (.tmp 19) (.const (ae qz)) r.val qz b3 h3 W;have za:=fun(v:Int×Int) (hp:r.okB=true∧r.pos≤n) (hT:T=.ok v r.pos)=>(show DM g A n c DG T (.val (DG v)) [(g,154,dH A n c r.pos)]from⟨_,_,hT,hp.2,rfl,rfl⟩);have c25f:=fun(hp:r.okB=true∧r.pos≤n) (hT:T=r2.bind fun v k=>.ok (3,(v:Int)) k)=>WN (lW [] h hp.2 (cD hT) (n2 hp.1)) (fun(hp2:r2.okB=true∧r2.pos≤n)=>(show DM g A n c DG T (.val (DG (3,(r2.val:Int)))) [(g,154,dH A n c r2.pos)]from⟨(3,(r2.val:Int)),r2.pos,(show T=.ok (3,(r2.val:Int)) r2.pos from cw hT hp2.1),hp2.2,rfl,rfl⟩));have c31f:=fun(hT:T=.no 200 r.pos)=>WN (fun W (hW:ai [g] w W) (_:aq W g 154 (dH A n c r.pos))=>lO (b:=⟨w,[g],oU T w⟩) (vs:=[(pt g 0),.int .i64 200,.int .i64 (r.pos:Int)]) (ps:=[(0,0)]) ((qE ((pt g 0)) 200 (r.pos:Int) W).mono fun _ _ ⟨ch,he,hf,hc⟩=>⟨ch,he,(show oU T w _ _ from⟨200,r.pos,hT,hf.up hW.size⟩),hc⟩)) trivial;have CH:=WN c8 (fun(hp:r.okB=true∧r.pos≤n)=>WN (c11f hp) (kz.mk (b:=b0) (fun e=>za (1,0) hp (by rw[e2 hp.1,e];rfl)) (fun f0=>WN (c14f hp) (kz.mk (b:=b1) (fun e=>za (2,0) hp (by rw[e2 hp.1,f0,e];rfl)) (fun f1=>WN (c17f hp) (kz.mk (b:=b2) (fun e=>za (4,0) hp (by rw[e2 hp.1,f0,f1,e];rfl)) (fun f2=>WN (c20f hp) (kz.mk (b:=b3&&out) (fun e=>c25f hp (by rw[e2 hp.1,f0,f1,f2,e];rfl)) (fun f3=>c31f (by rw[e2 hp.1,f0,f1,f2,f3];rfl))))))))));refine fP [.bool out] h.bO [(8,.ay (gC 0 g A n c r ae)),(11,.bin (.bool b0)),(14,.bin (.bool b1)),(17,.bin (.bool b2)),(20,.bin (.bool b3)),(25,.ay (gC 0 g A n c r2 rK)),(31,.rT)] [] (by kernel_rfl) func192 rfl (bU rfl) ?_;clear za c8 c11f c14f c17f c20f c25f c31f;cases b0<;>cases b1<;>cases b2<;>cases b3<;>cases out<;>exact WV (by kernel_rfl) CH
theorem yE(out:Bool){w:World}{g:Nat}{A:Option Go.Addr}{n c i:Nat}{ws:List Bs}(h:eC w g A n c i ws):Calls prog 192 #[.pointer (some ⟨g,0,none⟩),.bool out] w (bM g A n c DG (qQ out ws i) w):=by
 have e1:=(rfl:qQ out ws i=(aO ws i).bind _);refine IY h (r:=aO ws i) (r2:=ja ws (aO ws i).pos) out _ _ _ _ (fun W hL=>ou hL) (cD e1) (fun _ W hL=>we hL) rfl rfl rfl rfl fun hp=>?_;rw[cw e1 hp];by_cases h0:(aO ws i).val=dI
 ·rw[if_pos h0,decide_eq_true h0];rfl
 rw[if_neg h0,decide_eq_false h0];by_cases h1:(aO ws i).val=nq
 ·rw[if_pos h1,decide_eq_true h1];rfl
 rw[if_neg h1,decide_eq_false h1];by_cases h2:(aO ws i).val=gW
 ·rw[if_pos h2,decide_eq_true h2];rfl
 rw[if_neg h2,decide_eq_false h2];by_cases h3:(aO ws i).val=qz
 ·cases out with
  |true=>rw[if_pos ⟨h3,rfl⟩,decide_eq_true h3];rfl
  |false=>rw[if_neg (by simp),decide_eq_true h3];rfl
 ·rw[if_neg (by simp[h3]),decide_eq_false h3];rfl
open Go.RowKit Go.Lib Go.Sort
structure uI(w:World)(S:List Nat)(g:Nat)(A:Option Go.Addr)(n c i:Nat)(ws:List Bs):Prop where
 bO:aq w g 154 (dH A n c i)
 jw:A8 w S A n ws
 le:i≤n
 bd:n≤1100000
 uB:dO w
 s9:∀k∈S,9≤k
 gS:g∈S
 sz:∀x∈ws,x.length≤100000000
section
variable{w W:World}{S:List Nat}{g:Nat}{A:Option Go.Addr}{n c i j:Nat}{ws:List Bs}
theorem uI.Wy(h:uI w S g A n c i ws):eC w g A n c i ws:=
 ⟨h.bO,h.jw.sub fun x hx=>by rw[WZ.1 hx];exact h.gS,h.le,h.bd,h.uB,h.s9 g h.gS,h.sz⟩
theorem eC.uc(h:eC w g A n c i ws):uI w [g] g A n c i ws:=
 ⟨h.bO,h.jw,h.le,h.bd,h.uB,fun k hk=>by rw[WZ.1 hk];exact h.g9,by simp,h.sz⟩
theorem uI.at(h:uI w S g A n c i ws)(hc:ai S w W)(hj:j≤n)(hb:aq W g 154 (dH A n c j)):uI W S g A n c j ws:=
 ⟨hb,h.jw.aF hc,hj,h.bd,h.uB.aF hc h.s9,h.s9,h.gS,h.sz⟩
theorem uI.add{S':List Nat}(h:uI w S g A n c i ws)(hc:ai S w W)(hj:j≤n)(hb:aq W g 154 (dH A n c j))(hs:∀x∈S',x∈S∨w.heap.size≤x)(hg:g∈S'):uI W S' g A n c j ws:=by
 refine⟨hb,⟨h.jw.len,fun h0=>?_⟩,hj,h.bd,h.uB.aF hc h.s9,fun k hk=>?_,hg,h.sz⟩
 ·obtain⟨b,o,h1,h2,h3,h4⟩:=h.jw.row h0
  refine⟨b,o,h1,fun hb=>?_,Nat.lt_of_lt_of_le h3 hc.size,fun k y hy=>(hc.cell (p:=⟨b,o+k,none⟩) h3 h2).trans (h4 k y hy)⟩;rcases hs b hb with hx|hx
  ·exact h2 hx
  ·omega
 ·rcases hs k hk with hx|hx
  ·exact h.s9 k hx
  ·have:=h.uB.low;omega
theorem j9{α γ:Type} [Inhabited α]{P:Program}{f:FuncId}{V:α→Value}{r:Out α}{T:Out γ}(k:Nat)(mem:List Sx.Row)(rest:List Value)(h0:uI w S g A n c i ws)(hj:j≤n)(hT:∀code p,r=.no code p→T=.no code p)
  (hrow:mem[k]?=some ⟨154,.cR g (dH A n c j)⟩)
  (h:∀W,eC W g A n c j ws→Calls P f (.pointer (some ⟨g,0,none⟩)::rest).toArray W (bM g A n c V r W)) (W:World) (β:Sx.Env) (hS:Sx.eM ⟨w,S,oU T w⟩ β W (Sx.rowAt mem) [k]) :
  Calls P f ((Sx.SV.ptr k 0::rest.map .val).map (Sx.SV.den β)).toArray W (Sx.br ⟨w,S,oU T w⟩ β W (Sx.rowAt mem) mem.length (gC k g A n c r V)):=
 Ag rest hS (by simp) hrow (fun hB=>h W (h0.at hS.aF hj hB).Wy) fun code p chain w' hr hf=>⟨code,p,hT code p hr,hf.up hS.aF.size⟩
end
def ni(g gm b2 b3:Nat)(A:Option Go.Addr)(n c:Nat)(T:Out Mt)(w:World)(e:Ending)(w':World):Prop:=
 (∃m i,T=.ok m i∧i≤n∧e=.returned (.tuple #[])∧aq w' g 154 (dH A n c i)∧aq w' gm 66 m.cells∧aq w' b2 152 [(pt g 0)]∧aq w' b3 217 [(pt gm 0)]∧ai [g,gm,b2,b3] w w')∨
 (∃code p chain,T=.no code p∧e=.panicked chain∧A9 code p w chain w'∧ai [g,gm,b2,b3] w w')
def kQ(g gm b2 b3:Nat)(A:Option Go.Addr)(n c i:Nat)(cs:List Value):List Sx.Row:=
 [⟨154,.cR g (dH A n c i)⟩,⟨66,.cR gm cs⟩,⟨152,.ji b2 [.ptr 0 0]⟩,⟨217,.ji b3 [.ptr 1 0]⟩]
def S5(g gm b2 b3:Nat)(A:Option Go.Addr)(n c:Nat)(T:Out Mt)(l:List Sx.SV)(mem:List Sx.Row):Prop:=∃m i,T=.ok m i∧i≤n∧l=[]∧mem=kQ g gm b2 b3 A n c i m.cells
structure Nv(w:World)(g gm b2 b3:Nat)(A:Option Go.Addr)(n c i:Nat)(ws:List Bs)(m:Mt):Prop where
 uc:uI w [g,gm,b2,b3] g A n c i ws
 bm:aq w gm 66 m.cells
 bx:aq w b2 152 [(pt g 0)]
 Wk:aq w b3 217 [(pt gm 0)]
 nd:[g,gm,b2,b3].Nodup
theorem pF{P:Program}{w:World}{f:FuncId}{fn:Func}{co:Code}{g gm b2 b3:Nat}{A:Option Go.Addr}{n c i:Nat}{ws:List Bs}{m:Mt}{T:Out Mt}(h:Nv w g gm b2 b3 A n c i ws m)(H:List (Nat×Sx.Hint))(L:List Sx.Loop)
  (hm:P.follows .mixedOrders=true) (hf:P.funcs[f]?=some fn) (hbd:fn.body=some co) (hn:2≤fn.ntmps)
  (hx:Sx.ky P fn.ntmps ⟨w,[g,gm,b2,b3],oU T w⟩ co H L ⟨Sx.mf 0 [.ptr 2 0,.ptr 3 0],kQ g gm b2 b3 A n c i m.cells⟩ (Sx.fM P fn (S5 g gm b2 b3 A n c T))) :
  Calls P f #[.pointer (some ⟨b2,0,none⟩),.pointer (some ⟨b3,0,none⟩)] w (ni g gm b2 b3 A n c T w):=by
 have hF:=Sx.gM (w:=w) (S:=[g,gm,b2,b3]) (PP:=oU T w) (G:=[.bO g 154 (dH A n c i),.bO gm 66 m.cells,.oN b2 152 [.ptr 0 0],.oN b3 217 [.ptr 1 0]]) (fun q hq=>by
  simp only[WX,WS,or_false]at hq;rcases hq with rfl|rfl|rfl|rfl
  ·exact h.uc.bO
  ·exact h.bm
  ·exact h.bx
  ·exact h.Wk) (fun q hq k hk=>by
  simp only[WX,WS,or_false]at hq;rcases hq with rfl|rfl|rfl|rfl<;>cases hk<;>simp) h.nd
 refine(Sx.b6 (args:=[.ptr 2 0,.ptr 3 0]) hF H L hm hf hbd hn rfl hx).mono fun e w' hp=>?_;rcases hp with⟨β,l,mem,⟨m',i',h1,h2,rfl,rfl⟩,he,hR⟩ | ⟨chain,he,⟨code,p,h1,hf⟩,hc⟩
 ·have r0:=hR.held 0 _ rfl
  have r1:=hR.held 1 _ rfl;have r2:=hR.held 2 _ rfl;have r3:=hR.held 3 _ rfl;have e0:β 0=g:=r0.1;have e1:β 1=gm:=r1.1;have e2:β 2=b2:=r2.1;have e3:β 3=b3:=r3.1;refine .inl ⟨m',i',h1,h2,he,e0 ▸ r0.2,e1 ▸ r1.2,?_,?_,hR.aF⟩
  ·have:=r2.2
   rw[e2]at this;have hh:([Sx.SV.ptr 0 0].map (Sx.SV.den β))=[.pointer (some ⟨g,0,none⟩)]:=by show [Xz (some ⟨β 0,0,none⟩)]=_;rw[e0]
   rw[hh]at this;exact this
  ·have:=r3.2
   rw[e3]at this;have hh:([Sx.SV.ptr 1 0].map (Sx.SV.den β))=[.pointer (some ⟨gm,0,none⟩)]:=by show [Xz (some ⟨β 1,0,none⟩)]=_;rw[e1]
   rw[hh]at this;exact this
 ·exact .inr ⟨code,p,chain,h1,he,hf,hc⟩
def Vk(g gm:Nat)(A:Option Go.Addr)(n c:Nat)(T:Out Mt):Sx.ct:=⟨[0,1,2,3],[(0,⟨154,.cR g (dH A n c T.pos)⟩),(1,⟨66,.cR gm T.val.cells⟩),(2,⟨152,.dC [.ptr 0 0]⟩),(3,⟨217,.dC [.ptr 1 0]⟩)],[],[],.val (.tuple #[]),some (T.okB=true∧T.pos≤n)⟩
def p8(g gm:Nat)(A:Option Go.Addr)(n c i:Nat)(cs:List Value):List Sx.Row:=[⟨154,.cR g (dH A n c i)⟩,⟨66,.cR gm cs⟩,⟨152,.dC [.ptr 0 0]⟩,⟨217,.dC [.ptr 1 0]⟩]
theorem UP{γ:Type}{P:Program}{w:World}{f g gm n c i j:Nat}{A:Option Go.Addr}{ws:List Bs}{m:Mt}{T:Out Mt}{TT:Out γ}(h0:uI w [g,gm] g A n c i ws)(hj:j≤n)(hT:∀code p,T=.no code p→TT=.no code p)
  (h:∀W b2 b3,Nv W g gm b2 b3 A n c j ws m→Calls P f #[.pointer (some ⟨b2,0,none⟩),.pointer (some ⟨b3,0,none⟩)] W (ni g gm b2 b3 A n c T W)) (W:World) (β:Sx.Env) (hS:Sx.eM ⟨w,[g,gm],oU TT w⟩ β W (Sx.rowAt (p8 g gm A n c j m.cells)) [0,1,2,3]) :
  Calls P f (([.ptr 2 0,.ptr 3 0]:List Sx.SV).map (Sx.SV.den β)).toArray W (Sx.br ⟨w,[g,gm],oU TT w⟩ β W (Sx.rowAt (p8 g gm A n c j m.cells)) 4 (Vk g gm A n c T)):=by
 have r0:=hS.held 0 (by simp) _ rfl;have r1:=hS.held 1 (by simp) _ rfl;have r2:aq W (β 2) 152 [.pointer (some ⟨β 0,0,none⟩)]:=hS.held 2 (by simp) _ rfl;have r3:aq W (β 3) 217 [.pointer (some ⟨β 1,0,none⟩)]:=hS.held 3 (by simp) _ rfl;have e0:β 0=g:=r0.1;have e1:β 1=gm:=r1.1;have r0:aq W g 154 (dH A n c j):=e0 ▸ r0.2;have r1:aq W gm 66 m.cells:=e1 ▸ r1.2;rw[e0]at r2;rw[e1]at r3;have hne:∀{a b:Nat},a∈[0,1,2,3]→b∈[0,1,2,3]→a≠b→β a≠β b:=fun {a b} ha hb hab he=>by
  have bl:∀k∈[0,1,2,3],∃r,Sx.rowAt (p8 g gm A n c j m.cells) k=some r∧Sx.aB β k r=some (β k):=fun k hk=>by simp only[WX,WS,or_false]at hk;rcases hk with rfl|rfl|rfl|rfl<;>exact⟨_,rfl,rfl⟩
  obtain⟨ra,h1,h2⟩:=bl a ha;obtain⟨rb,h3,h4⟩:=bl b hb;exact hab (hS.inj a ha b hb ra rb (β a) h1 h3 h2 (by rw[h4,he]))
 have h01:=hne (a:=0) (b:=1) (by simp) (by simp) (by decide);have h02:=hne (a:=0) (b:=2) (by simp) (by simp) (by decide);have h03:=hne (a:=0) (b:=3) (by simp) (by simp) (by decide);have h12:=hne (a:=1) (b:=2) (by simp) (by simp) (by decide);have h13:=hne (a:=1) (b:=3) (by simp) (by simp) (by decide);have h23:=hne (a:=2) (b:=3) (by simp) (by simp) (by decide);rw[e0]at h01 h02 h03;rw[e1]at h01 h12 h13;have n2:=hS.new 2 (by simp) _ (β 2) rfl rfl;have n3:=hS.new 3 (by simp) _ (β 3) rfl rfl;have hC:Nv W g gm (β 2) (β 3) A n c j ws m:=⟨h0.add hS.aF hj r0 (fun x hx=>by
  simp only[WX,WS,or_false]at hx;rcases hx with rfl|rfl|rfl|rfl
  ·exact .inl (by simp)
  ·exact .inl (by simp)
  ·exact n2
  ·exact n3) (by simp),r1,r2,r3,by simp[h01,h02,h03,h12,h13,h23]⟩
 have ht:Sx.ct.dQ β (Sx.rowAt (p8 g gm A n c j m.cells)) (Vk g gm A n c T)=[g,gm,β 2,β 3]:=by show [β 0,β 1,β 2,β 3]=_;rw[e0,e1]
 refine(h W (β 2) (β 3) hC).mono fun e w' hp=>?_;rcases hp with⟨m',i',rfl,hi,he,b0,b1,b2,b3,hc⟩ | ⟨code,p,chain,hT',he,hf,hc⟩
 ·refine .inl ⟨fun p hp=>by cases hp;exact⟨rfl,hi⟩,β,Sx.dt (v:=.tuple #[]) rfl rfl he (fun q hq=>?_) (by rw[ht];exact hc)⟩
  have hq:q=(0,⟨154,.cR g (dH A n c i')⟩)∨q=(1,⟨66,.cR gm m'.cells⟩)∨q=(2,⟨152,.dC [.ptr 0 0]⟩)∨q=(3,⟨217,.dC [.ptr 1 0]⟩):=by have:q∈[(0,(⟨154,.cR g (dH A n c i')⟩:Sx.Row)),(1,⟨66,.cR gm m'.cells⟩),(2,⟨152,.dC [.ptr 0 0]⟩),(3,⟨217,.dC [.ptr 1 0]⟩)]:=hq;simpa using this
  rcases hq with rfl|rfl|rfl|rfl
  ·exact⟨e0,by show aq w' (β 0) _ _;rw[e0];exact b0⟩
  ·exact⟨e1,by show aq w' (β 1) _ _;rw[e1];exact b1⟩
  ·show aq w' (β 2) 152 [.pointer (some ⟨β 0,0,none⟩)]
   rw[e0];exact b2
  ·show aq w' (β 3) 217 [.pointer (some ⟨β 1,0,none⟩)]
   rw[e1];exact b3
 ·exact .inr ⟨rfl,chain,he,⟨code,p,hT code p hT',hf.up hS.aF.size⟩,by rw[ht];exact hc⟩
def oV(g gm:Nat)(A:Option Go.Addr)(n c:Nat)(T:Out (Bool×Mt))(w:World)(e:Ending)(w':World):Prop:=
 (∃q i,T=.ok q i∧i≤n∧e=.returned (.bool q.1)∧aq w' g 154 (dH A n c i)∧aq w' gm 66 q.2.cells∧ai [g,gm] w w')∨
 (∃code p chain,T=.no code p∧e=.panicked chain∧A9 code p w chain w'∧ai [g,gm] w w')
def Vn(g gm:Nat)(A:Option Go.Addr)(n c:Nat)(T:Out (Bool×Mt))(l:List Sx.SV)(mem:List Sx.Row):Prop:=∃b m i ms,T=.ok (b,m) i∧i≤n∧l=[.val (.bool b)]∧mem=⟨154,.cR g (dH A n c i)⟩::⟨66,.cR gm m.cells⟩::ms
theorem AF{P:Program}{w:World}{f:FuncId}{fn:Func}{co:Code}{g gm:Nat}{A:Option Go.Addr}{n c i:Nat}{ws:List Bs}{m:Mt}{T:Out (Bool×Mt)}(h:uI w [g,gm] g A n c i ws)(hbm:aq w gm 66 m.cells)(hne:g≠gm)(H:List (Nat×Sx.Hint))(L:List Sx.Loop)
  (hm:P.follows .mixedOrders=true) (hf:P.funcs[f]?=some fn) (hbd:fn.body=some co) (hn:2≤fn.ntmps)
  (hx:Sx.ky P fn.ntmps ⟨w,[g,gm],oU T w⟩ co H L ⟨Sx.mf 0 [.ptr 0 0,.ptr 1 0],[⟨154,.cR g (dH A n c i)⟩,⟨66,.cR gm m.cells⟩]⟩ (Sx.fM P fn (Vn g gm A n c T))) :
  Calls P f #[.pointer (some ⟨g,0,none⟩),.pointer (some ⟨gm,0,none⟩)] w (oV g gm A n c T w):=by
 have hF:=Sx.gM (w:=w) (S:=[g,gm]) (PP:=oU T w) (G:=[.bO g 154 (dH A n c i),.bO gm 66 m.cells]) (fun q hq=>by
  simp only[WX,WS,or_false]at hq;rcases hq with rfl|rfl
  ·exact h.bO
  ·exact hbm) (fun q hq k hk=>by
  simp only[WX,WS,or_false]at hq;rcases hq with rfl|rfl<;>cases hk<;>simp) (by simpa[Sx.kV.block]using hne)
 refine(Sx.b6 (args:=[.ptr 0 0,.ptr 1 0]) hF H L hm hf hbd hn rfl hx).mono fun e w' hp=>?_;rcases hp with⟨β,l,mem,⟨b,m',i',ms,h1,h2,rfl,rfl⟩,he,hR⟩ | ⟨chain,he,⟨code,p,h1,hf⟩,hc⟩
 ·have r0:=hR.held 0 _ rfl
  have r1:=hR.held 1 _ rfl;have e0:β 0=g:=r0.1;have e1:β 1=gm:=r1.1;exact .inl ⟨(b,m'),i',h1,h2,he,e0 ▸ r0.2,e1 ▸ r1.2,hR.aF⟩
 ·exact .inr ⟨code,p,chain,h1,he,hf,hc⟩
set_option maxRecDepth 100000
open Go.RowKit Go.Lib Go.Sort _root_.Go.Proofs.Tryz
set_option maxRecDepth 100000
theorem Ik{w:World}{g gm b2 b3:Nat}{A:Option Go.Addr}{n c i:Nat}{ws:List Bs}{m:Mt}(h:Nv w g gm b2 b3 A n c i ws m):Calls prog 204 #[(pt b2 0),(pt b3 0)] w (ni g gm b2 b3 A n c (bV 0 m ws i) w):=by have e1:bV 0 m ws i=(ig ws i).bind fun s j=>.ok { m with fE:=s } j:=rfl;have n1:=fun W (hL:eC W g A n c i ws)=>Af hL;generalize bV 0 m ws i=T at e1 ⊢;generalize ig ws i=r at e1 n1;have c4:=j9 0 (kQ g gm b2 b3 A n c i m.cells) [] h.uc h.uc.le (cD e1) rfl n1;have z1f:=fun(hp:r.okB=true∧r.pos≤n)=>(show S5 g gm b2 b3 A n c T [] (kQ g gm b2 b3 A n c r.pos ({ m with fE:=r.val }:Mt).cells)from⟨({ m with fE:=r.val }:Mt),r.pos,cw e1 hp.1,hp.2,rfl,rfl⟩);have z3f:=fun(_:¬(r.okB=true∧r.pos≤n))=>trivial;refine pF h [(4,.ay (gC 0 g A n c r gF))] [] (by kernel_rfl) func204 rfl (bU rfl) ?_;exact WV (by kernel_rfl) (Sx.t2 c4 (fun(hx0:r.okB=true∧r.pos≤n)=>(z1f hx0)) (fun(hx2:¬(r.okB=true∧r.pos≤n))=>(z3f hx2)))
theorem Ij{w:World}{g gm b2 b3:Nat}{A:Option Go.Addr}{n c i:Nat}{ws:List Bs}{m:Mt}(h:Nv w g gm b2 b3 A n c i ws m):Calls prog 206 #[(pt b2 0),(pt b3 0)] w (ni g gm b2 b3 A n c (bV 1 m ws i) w):=by have e1:bV 1 m ws i=(dr ws i).bind fun s j=>.ok { m with src:=s } j:=rfl;have n1:=fun W (hL:eC W g A n c i ws)=>sO hL;generalize bV 1 m ws i=T at e1 ⊢;generalize dr ws i=r at e1 n1;have c4:=j9 0 (kQ g gm b2 b3 A n c i m.cells) [] h.uc h.uc.le (cD e1) rfl n1;have z1f:=fun(hp:r.okB=true∧r.pos≤n)=>(show S5 g gm b2 b3 A n c T [] (kQ g gm b2 b3 A n c r.pos ({ m with src:=r.val }:Mt).cells)from⟨({ m with src:=r.val }:Mt),r.pos,cw e1 hp.1,hp.2,rfl,rfl⟩);have z3f:=fun(_:¬(r.okB=true∧r.pos≤n))=>trivial;refine pF h [(4,.ay (gC 0 g A n c r lL))] [] (by kernel_rfl) func206 rfl (bU rfl) ?_;exact WV (by kernel_rfl) (Sx.t2 c4 (fun(hx0:r.okB=true∧r.pos≤n)=>(z1f hx0)) (fun(hx2:¬(r.okB=true∧r.pos≤n))=>(z3f hx2)))
theorem Ii{w:World}{g gm b2 b3:Nat}{A:Option Go.Addr}{n c i:Nat}{ws:List Bs}{m:Mt}(h:Nv w g gm b2 b3 A n c i ws m):Calls prog 207 #[(pt b2 0),(pt b3 0)] w (ni g gm b2 b3 A n c (bV 2 m ws i) w):=by have e1:bV 2 m ws i=(dr ws i).bind fun s j=>.ok { m with dst:=s } j:=rfl;have n1:=fun W (hL:eC W g A n c i ws)=>sO hL;generalize bV 2 m ws i=T at e1 ⊢;generalize dr ws i=r at e1 n1;have c4:=j9 0 (kQ g gm b2 b3 A n c i m.cells) [] h.uc h.uc.le (cD e1) rfl n1;have z1f:=fun(hp:r.okB=true∧r.pos≤n)=>(show S5 g gm b2 b3 A n c T [] (kQ g gm b2 b3 A n c r.pos ({ m with dst:=r.val }:Mt).cells)from⟨({ m with dst:=r.val }:Mt),r.pos,cw e1 hp.1,hp.2,rfl,rfl⟩);have z3f:=fun(_:¬(r.okB=true∧r.pos≤n))=>trivial;refine pF h [(4,.ay (gC 0 g A n c r lL))] [] (by kernel_rfl) func207 rfl (bU rfl) ?_;exact WV (by kernel_rfl) (Sx.t2 c4 (fun(hx0:r.okB=true∧r.pos≤n)=>(z1f hx0)) (fun(hx2:¬(r.okB=true∧r.pos≤n))=>(z3f hx2)))
theorem Ih{w:World}{g gm b2 b3:Nat}{A:Option Go.Addr}{n c i:Nat}{ws:List Bs}{m:Mt}(h:Nv w g gm b2 b3 A n c i ws m):Calls prog 208 #[(pt b2 0),(pt b3 0)] w (ni g gm b2 b3 A n c (bV 3 m ws i) w):=by have e1:bV 3 m ws i=(dS ws i).bind fun s j=>.ok { m with bc:=s } j:=rfl;have n1:=fun W (hL:eC W g A n c i ws)=>LK hL;generalize bV 3 m ws i=T at e1 ⊢;generalize dS ws i=r at e1 n1;have c4:=j9 0 (kQ g gm b2 b3 A n c i m.cells) [] h.uc h.uc.le (cD e1) rfl n1;have z1f:=fun(hp:r.okB=true∧r.pos≤n)=>(show S5 g gm b2 b3 A n c T [] (kQ g gm b2 b3 A n c r.pos ({ m with bc:=r.val }:Mt).cells)from⟨({ m with bc:=r.val }:Mt),r.pos,cw e1 hp.1,hp.2,rfl,rfl⟩);have z3f:=fun(_:¬(r.okB=true∧r.pos≤n))=>trivial;refine pF h [(4,.ay (gC 0 g A n c r Hb))] [] (by kernel_rfl) func208 rfl (bU rfl) ?_;exact WV (by kernel_rfl) (Sx.t2 c4 (fun(hx0:r.okB=true∧r.pos≤n)=>(z1f hx0)) (fun(hx2:¬(r.okB=true∧r.pos≤n))=>(z3f hx2)))
theorem Ig{w:World}{g gm b2 b3:Nat}{A:Option Go.Addr}{n c i:Nat}{ws:List Bs}{m:Mt}(h:Nv w g gm b2 b3 A n c i ws m):Calls prog 210 #[(pt b2 0),(pt b3 0)] w (ni g gm b2 b3 A n c (bV 4 m ws i) w):=by have e1:bV 4 m ws i=(ig ws i).bind fun s j=>.ok { m with sp:=s } j:=rfl;have n1:=fun W (hL:eC W g A n c i ws)=>Af hL;generalize bV 4 m ws i=T at e1 ⊢;generalize ig ws i=r at e1 n1;have c4:=j9 0 (kQ g gm b2 b3 A n c i m.cells) [] h.uc h.uc.le (cD e1) rfl n1;have z1f:=fun(hp:r.okB=true∧r.pos≤n)=>(show S5 g gm b2 b3 A n c T [] (kQ g gm b2 b3 A n c r.pos ({ m with sp:=r.val }:Mt).cells)from⟨({ m with sp:=r.val }:Mt),r.pos,cw e1 hp.1,hp.2,rfl,rfl⟩);have z3f:=fun(_:¬(r.okB=true∧r.pos≤n))=>trivial;refine pF h [(4,.ay (gC 0 g A n c r gF))] [] (by kernel_rfl) func210 rfl (bU rfl) ?_;exact WV (by kernel_rfl) (Sx.t2 c4 (fun(hx0:r.okB=true∧r.pos≤n)=>(z1f hx0)) (fun(hx2:¬(r.okB=true∧r.pos≤n))=>(z3f hx2)))
theorem Ie{w:World}{g gm b2 b3:Nat}{A:Option Go.Addr}{n c i:Nat}{ws:List Bs}{m:Mt}(h:Nv w g gm b2 b3 A n c i ws m):Calls prog 211 #[(pt b2 0),(pt b3 0)] w (ni g gm b2 b3 A n c (bV 5 m ws i) w):=by have e1:bV 5 m ws i=(ig ws i).bind fun s j=>.ok { m with dp:=s } j:=rfl;have n1:=fun W (hL:eC W g A n c i ws)=>Af hL;generalize bV 5 m ws i=T at e1 ⊢;generalize ig ws i=r at e1 n1;have c4:=j9 0 (kQ g gm b2 b3 A n c i m.cells) [] h.uc h.uc.le (cD e1) rfl n1;have z1f:=fun(hp:r.okB=true∧r.pos≤n)=>(show S5 g gm b2 b3 A n c T [] (kQ g gm b2 b3 A n c r.pos ({ m with dp:=r.val }:Mt).cells)from⟨({ m with dp:=r.val }:Mt),r.pos,cw e1 hp.1,hp.2,rfl,rfl⟩);have z3f:=fun(_:¬(r.okB=true∧r.pos≤n))=>trivial;refine pF h [(4,.ay (gC 0 g A n c r gF))] [] (by kernel_rfl) func211 rfl (bU rfl) ?_;exact WV (by kernel_rfl) (Sx.t2 c4 (fun(hx0:r.okB=true∧r.pos≤n)=>(z1f hx0)) (fun(hx2:¬(r.okB=true∧r.pos≤n))=>(z3f hx2)))
set_option maxRecDepth 100000
open Go.RowKit Go.Lib Go.Sort _root_.Go.Proofs.Tryz
set_option maxRecDepth 100000
theorem Dz:∀(a:Fin 64) (k:Fin 6),(bits .and .u8 (a.val:Int) ((2^k.val:Nat):Int)==0)=!a.val.testBit k.val:=by decide+kernel
theorem Eo:∀(a:Fin 64) (k:Fin 6),bits .or .u8 (a.val:Int) ((2^k.val:Nat):Int)=((a.val|||2^k.val:Nat):Int):=by decide+kernel
theorem kU{a:Nat}(ha:a < 64)(k:Nat)(hk:k < 6):(bits .and .u8 (a:Int) ((2^k:Nat):Int)==0)=!a.testBit k:=Dz ⟨a,ha⟩ ⟨k,hk⟩
theorem qn{a:Nat}(ha:a < 64)(k:Nat)(hk:k < 6):bits .or .u8 (a:Int) ((2^k:Nat):Int)=((a|||2^k:Nat):Int):=Eo ⟨a,ha⟩ ⟨k,hk⟩
theorem Ja{w:World}{g gm:Nat}{A:Option Go.Addr}{n c:Nat}{ws:List Bs}{m:Mt}{T:Out (Bool×Mt)}(h:uI w [g,gm] g A n c n ws)(hbm:aq w gm 66 m.cells)(hne:g≠gm)(hT:T=.ok (false,m) n):Calls prog 153 #[.pointer (some ⟨g,0,none⟩),.pointer (some ⟨gm,0,none⟩)] w (oV g gm A n c T w):=by have jM:WQ ((n:Int)==(n:Int))=.bool true:=qI (by simp);have z0:Vn g gm A n c T [.val (.bool false)] (p8 g gm A n c n m.cells):=⟨false,m,n,_,hT,XH _,rfl,rfl⟩;refine AF h hbm hne [(16,.is (.bool true))] [] (by kernel_rfl) func153 rfl (bU rfl) ?_;exact WV (by kernel_rfl) (WN jM z0)
theorem EY{w:World}{g gm:Nat}{A:Option Go.Addr}{n c i:Nat}{ws:List Bs}{m:Mt}{T:Out (Bool×Mt)}{x:Bs}(h:uI w [g,gm] g A n c i ws)(hbm:aq w gm 66 m.cells)(hne:g≠gm)(hx:ws[i]?=some x)(hf:x≠xN∧x≠mW∧x≠oz∧x≠fS∧x≠iA∧x≠jt)(hT:T=.ok (false,m) i):Calls prog 153 #[(pt g 0),(pt gm 0)] w (oV g gm A n c T w):=by
 have hi:i < n:=by rw[←h.jw.len];exact(WU.1 hx).1
 obtain⟨p,hp1,hp2⟩:=h.jw.at (c:=c) hx;have hbd:=h.bd;have jM:WQ ((i:Int)==(n:Int))=.bool false:=qa (by rw[beq_eq_false_iff_ne];omega);have c25:=fun W (_:ai [g,gm] w W)=>hp1 W;have c26:=hp2;have c28:=fun W=>eX (.tmp 26) (.const (ae xN)) x xN false (decide_eq_false hf.1) W;have c31:=fun W=>eX (.tmp 26) (.const (ae mW)) x mW false (decide_eq_false hf.2.1) W;have c34:=fun W=>eX (.tmp 26) (.const (ae oz)) x oz false (decide_eq_false hf.2.2.1) W;have c37:=fun W=>eX (.tmp 26) (.const (ae fS)) x fS false (decide_eq_false hf.2.2.2.1) W;have c40:=fun W=>eX (.tmp 26) (.const (ae iA)) x iA false (decide_eq_false hf.2.2.2.2.1) W;have Fm:=fun W=>eX (.tmp 26) (.const (ae jt)) x jt false (decide_eq_false hf.2.2.2.2.2) W;have z0:Vn g gm A n c T [.val (.bool false)] (p8 g gm A n c i m.cells):=⟨false,m,i,_,hT,h.le,rfl,rfl⟩;refine AF h hbm hne [(16,.is (.bool false)),(25,.any p),(26,.any (ae x)),(28,.bin (.bool false)),(31,.bin (.bool false)),(34,.bin (.bool false)),(37,.bin (.bool false)),(40,.bin (.bool false)),(43,.bin (.bool false))] [] (by kernel_rfl) func153 rfl (bU rfl) ?_;exact WV (by kernel_rfl) (Sx.t8 jM c25 c26 c28 c31 c34 c37 c40 (WN Fm z0))
def Wi:Nat→FuncId
 | 0=>204
 | 1=>206
 | 2=>207
 | 3=>208
 | 4=>210
 |_=>211
def NH:Nat→Bs
 | 0=>xN
 | 1=>mW
 | 2=>oz
 | 3=>fS
 | 4=>iA
 |_=>jt
theorem UA:∀k,k < 6→∀j,j < 6→decide (NH k=NH j)=Xb k j:=by decide
theorem Ic(k:Nat)(hk:k < 6){w:World}{g gm b2 b3:Nat}{A:Option Go.Addr}{n c i:Nat}{ws:List Bs}{m:Mt}(h:Nv w g gm b2 b3 A n c i ws m):Calls prog (Wi k) #[(pt b2 0),(pt b3 0)] w (ni g gm b2 b3 A n c (bV k m ws i) w):=by
 match k,hk with
 | 0,_=>exact Ik h
 | 1,_=>exact Ij h
 | 2,_=>exact Ii h
 | 3,_=>exact Ih h
 | 4,_=>exact Ig h
 | 5,_=>exact Ie h
theorem Sp:∀k,k < 6→lq (NH k)=some k:=by decide
theorem Mq(k:Nat)(hk6:k < 6){w:World}{g gm:Nat}{A:Option Go.Addr}{n c i:Nat}{ws:List Bs}{m:Mt}{T:Out (Bool×Mt)}(h:uI w [g,gm] g A n c i ws)(hbm:aq w gm 66 m.cells)(hne:g≠gm)(hx:ws[i]?=some (NH k))(ha:m.asks < 64)(hT:T=match m.asks.testBit k with|true=>.no 200 (i+1)|false=>(bV k { m with asks:=m.asks|||2^k } ws (i+1)).bind fun m' j=>.ok (true,m') j):Calls prog 153 #[(pt g 0),(pt gm 0)] w (oV g gm A n c T w):=by
 have hi:i < n:=by rw[←h.jw.len];exact(WU.1 hx).1
 obtain⟨p,hp1,hp2⟩:=h.jw.at (c:=c) hx;have hbd:=h.bd;have jM:WQ ((i:Int)==(n:Int))=.bool false:=qa (by rw[beq_eq_false_iff_ne];omega);have c25:=fun W (_:ai [g,gm] w W)=>hp1 W;have c26:=hp2;have q:=fun(t j:Nat) (_:t=26) (hj:j < 6) W=>eX (.tmp t) (.const (ae (NH j))) (NH k) (NH j) (Xb k j) (UA k hk6 j hj) W;have c49:=mY (i:=i) (by omega);have c59:WQ (bits .and .u8 (m.asks:Int) ((2^k:Nat):Int)==0)=.bool (!m.asks.testBit k):=bz (kU ha k hk6);have hor:WO .u8 (bits .or .u8 (m.asks:Int) ((2^k:Nat):Int))=.int .u8 ((m.asks|||2^k:Nat):Int):=by rw[qn ha k hk6]
 obtain⟨m1,hm1⟩:∃m1:Mt,m1={ m with asks:=m.asks|||2^k }:=⟨_,rfl⟩;have n2:=fun W b2 b3 (hC:Nv W g gm b2 b3 A n c (i+1) ws m1)=>Ic k hk6 hC;rw[←hm1]at hT;have eT:m.asks.testBit k=false→T=(bV k m1 ws (i+1)).bind fun m' j=>.ok (true,m') j:=fun hb=>by rw[hT,hb]
 have eN:m.asks.testBit k=true→T=.no 200 (i+1):=fun hb=>by rw[hT,hb]
 generalize bV k m1 ws (i+1)=r at n2 eT;clear hT;have c60:=j9 (T:=T) 0 (p8 g gm A n c (i+1) m.cells) [.bool (!m.asks.testBit k),.int .i64 200] h (j:=i+1) hi (r:=aR (!m.asks.testBit k) 200 () (i+1)) (fun code p hh=>by
  cases hb:m.asks.testBit k with
  |false=>rw[hb]at hh;cases hh
  |true=>rw[hb]at hh;injection hh with h1 h2;rw[eN hb,h1,h2]) rfl (fun W hL=>nH _ 200 () hL)
 have c66f:=fun(_:(aR (!m.asks.testBit k) 200 () (i+1)).okB=true∧(aR (!m.asks.testBit k) 200 () (i+1)).pos≤n)=>hor;have hbit:(aR (!m.asks.testBit k) 200 () (i+1)).okB=true→m.asks.testBit k=false:=fun hh=>by
  cases hb:m.asks.testBit k with
  |false=>rfl
  |true=>rw[hb]at hh;cases hh
 have hpos:(aR (!m.asks.testBit k) 200 () (i+1)).pos=i+1:=by cases m.asks.testBit k<;>rfl
 generalize aR (!m.asks.testBit k) 200 () (i+1)=r1 at c60 c66f hbit hpos;generalize (!m.asks.testBit k)=nb at c59 c60;have c70f:=fun(hp:r1.okB=true∧r1.pos≤n)=>(show ∀W (β:Sx.Env) (_:Sx.eM ⟨w,[g,gm],oU T w⟩ β W (Sx.rowAt (p8 g gm A n c r1.pos m1.cells)) [0,1,2,3]),Calls prog (Wi k) (([.ptr 2 0,.ptr 3 0]:List Sx.SV).map (Sx.SV.den β)).toArray W (Sx.br ⟨w,[g,gm],oU T w⟩ β W (Sx.rowAt (p8 g gm A n c r1.pos m1.cells)) 4 (Vk g gm A n c r))from by rw[hpos];exact UP h hi (cD (eT (hbit hp.1))) n2);have z2f:=fun(hp:r1.okB=true∧r1.pos≤n) (hp2:r.okB=true∧r.pos≤n)=>(show Vn g gm A n c T [.val (.bool true)] (p8 g gm A n c r.pos r.val.cells)from⟨true,r.val,r.pos,_,cw (eT (hbit hp.1)) hp2.1,hp2.2,rfl,rfl⟩);have z4f:=fun(_:¬(r1.okB=true∧r1.pos≤n))=>trivial;subst hm1;have CH:=Sx.t4 jM c25 c26 (q 26 0 rfl (by decide)) (cy.mk (b:=Xr k 0) (fun _=>q 26 1 rfl (by decide)) (cy.mk (b:=Xr k 1) (fun _=>q 26 2 rfl (by decide)) (cy.mk (b:=Xr k 2) (fun _=>q 26 3 rfl (by decide)) (cy.mk (b:=Xr k 3) (fun _=>q 26 4 rfl (by decide)) (cy.mk (b:=Xr k 4) (fun _=>q 26 5 rfl (by decide)) (Sx.t4 c49 c59 c60 (fun(hx0:r1.okB=true∧r1.pos≤n)=>(Sx.t2 (c66f hx0) (c70f hx0) (fun(hx1:r.okB=true∧r.pos≤n)=>(z2f hx0 hx1)))) (fun(hx3:¬(r1.okB=true∧r1.pos≤n))=>(z4f hx3))))))));refine AF h hbm hne [(16,.is (.bool false)),(25,.any p),(26,.any (ae (NH k))),(28,.bin (.bool (Xb k 0))),(31,.bin (.bool (Xb k 1))),(34,.bin (.bool (Xb k 2))),(37,.bin (.bool (Xb k 3))),(40,.bin (.bool (Xb k 4))),(43,.bin (.bool (Xb k 5))),(49,.is (.int .i64 ((i+1:Nat):Int))),(59,.is (.bool nb)),(60,.ay (gC 0 g A n c r1 fun _=>.tuple #[])),(66,.is (.int .u8 ((m.asks|||2^k:Nat):Int))),(70,.ay (Vk g gm A n c r))] [] (by kernel_rfl) func153 rfl (bU rfl) ?_;clear q c66f c70f z2f z4f jM c25 c26 c49 c59 c60 hor hbit hpos eT eN n2 hp1 hp2 hx;match k,hk6 with
 | 0,_=>exact WV (by kernel_rfl) CH
 | 1,_=>exact WV (by kernel_rfl) CH
 | 2,_=>exact WV (by kernel_rfl) CH
 | 3,_=>exact WV (by kernel_rfl) CH
 | 4,_=>exact WV (by kernel_rfl) CH
 | 5,_=>exact WV (by kernel_rfl) CH
theorem GR{w:World}{g gm:Nat}{A:Option Go.Addr}{n c i:Nat}{ws:List Bs}{m:Mt}(h:uI w [g,gm] g A n c i ws)(hbm:aq w gm 66 m.cells)(hne:g≠gm)(ha:m.asks < 64):Calls prog 153 #[(pt g 0),(pt gm 0)] w (oV g gm A n c (aI ws i m) w):=by
 have hlen:=h.jw.len;cases hx:ws[i]? with
 |none=>
  have hi:i=n:=by have:=List.getElem?_eq_none_iff.1 hx;have:=h.le;omega
  subst hi;exact Ja h hbm hne (by unfold aI;rw[hx])
 |some x=>
  have hT:aI ws i m=(match lq x with
   |none=>.ok (false,m) i
   |some k=>match m.asks.testBit k with
    |true=>.no 200 (i+1)
      |false=>(bV k { m with asks:=m.asks|||2^k } ws (i+1)).bind fun m' j=>.ok (true,m') j):=by unfold aI;rw[hx];rfl
  by_cases hk:∃k,k < 6∧x=NH k
  ·obtain⟨k,hk6,rfl⟩:=hk
   rw[Sp k hk6]at hT;exact Mq k hk6 h hbm hne hx ha hT
  have hf:∀k,k < 6→x≠NH k:=fun k h6 e=>hk ⟨k,h6,e⟩;have h0:=hf 0 (by decide);have h1:=hf 1 (by decide);have h2:=hf 2 (by decide);have h3:=hf 3 (by decide);have h4:=hf 4 (by decide);have h5:=hf 5 (by decide);have hf:lq x=none:=by unfold lq;exact(if_neg h0).trans ((if_neg h1).trans ((if_neg h2).trans ((if_neg h3).trans ((if_neg h4).trans (if_neg h5)))))
  rw[hf]at hT;exact EY h hbm hne hx ⟨h0,h1,h2,h3,h4,h5⟩ hT
set_option maxRecDepth 100000
open Go.RowKit Go.Lib Go.Sort _root_.Go.Proofs.Tryz
set_option maxRecDepth 100000
def fQ(m:Mt):Value:=.agg m.cells.toArray
def QW(g:Nat)(A:Option Go.Addr)(n c:Nat)(T:Out (Bool×Mt)):Sx.ct:=⟨[0,1],[(0,⟨154,.cR g (dH A n c T.pos)⟩),(1,⟨66,.aj T.val.2.cells⟩)],[],[],.val (.bool T.val.1),some (T.okB=true∧T.pos≤n)⟩
def kF(g:Nat)(A:Option Go.Addr)(n c i:Nat)(m:Mt):List Sx.Row:=[⟨154,.cR g (dH A n c i)⟩,⟨66,.aj m.cells⟩]
theorem Mn{γ:Type}{P:Program}{w:World}{f g n c i j:Nat}{A:Option Go.Addr}{ws:List Bs}{m:Mt}{T:Out (Bool×Mt)}{TT:Out γ}(h0:eC w g A n c i ws)(hj:j≤n)(hT:∀code p,T=.no code p→TT=.no code p)
  (h:∀W gm,uI W [g,gm] g A n c j ws→aq W gm 66 m.cells→g≠gm→Calls P f #[.pointer (some ⟨g,0,none⟩),.pointer (some ⟨gm,0,none⟩)] W (oV g gm A n c T W)) (W:World) (β:Sx.Env) (hS:Sx.eM ⟨w,[g],oU TT w⟩ β W (Sx.rowAt (kF g A n c j m)) [0,1]) :
  Calls P f (([.ptr 0 0,.ptr 1 0]:List Sx.SV).map (Sx.SV.den β)).toArray W (Sx.br ⟨w,[g],oU TT w⟩ β W (Sx.rowAt (kF g A n c j m)) 2 (QW g A n c T)):=by
 have r0:=hS.held 0 (by simp) _ rfl;have r1:aq W (β 1) 66 m.cells:=hS.held 1 (by simp) _ rfl;have e0:β 0=g:=r0.1;have r0:aq W g 154 (dH A n c j):=e0 ▸ r0.2;have hne:g≠β 1:=fun he=>by have:=hS.inj 0 (by simp) 1 (by simp) _ _ (β 0) rfl rfl rfl (by show some (β 1)=some (β 0);rw[e0,he]);cases this
 have n1:=hS.new 1 (by simp) _ (β 1) rfl rfl;have hL:uI W [g,β 1] g A n c j ws:=h0.uc.add hS.aF hj r0 (fun x hx=>by
  simp only[WX,WS,or_false]at hx;rcases hx with rfl|rfl
  ·exact .inl (by simp)
  ·exact n1) (by simp)
 have ht:Sx.ct.dQ β (Sx.rowAt (kF g A n c j m)) (QW g A n c T)=[g,β 1]:=by show [β 0,β 1]=_;rw[e0]
 show Calls P f #[.pointer (some ⟨β 0,0,none⟩),.pointer (some ⟨β 1,0,none⟩)] W _;rw[e0];refine(h W (β 1) hL r1 hne).mono fun e w' hp=>?_;rcases hp with⟨q,i',rfl,hi,he,b0,b1,hc⟩ | ⟨code,p,chain,hT',he,hf,hc⟩
 ·refine .inl ⟨fun p hp=>by cases hp;exact⟨rfl,hi⟩,β,Sx.dt (v:=.bool q.1) rfl rfl he (fun u hu=>?_) (by rw[ht];exact hc)⟩
  have hu:u=(0,⟨154,.cR g (dH A n c i')⟩)∨u=(1,⟨66,.aj q.2.cells⟩):=by have:u∈[(0,(⟨154,.cR g (dH A n c i')⟩:Sx.Row)),(1,⟨66,.aj q.2.cells⟩)]:=hu;simpa using this
  rcases hu with rfl|rfl
  ·exact⟨e0,by show aq w' (β 0) _ _;rw[e0];exact b0⟩
  ·exact b1
 ·exact .inr ⟨rfl,chain,he,⟨code,p,hT code p hT',hf.up hS.aF.size⟩,by rw[ht];exact hc⟩
theorem Ej{k:Nat}{m m':Mt}{ws:List Bs}{i j:Nat}(h:bV k m ws i=.ok m' j):m'.asks=m.asks:=by
 have key:∀{α:Type} {r:Out α} {f:α→Mt},(∀a,(f a).asks=m.asks)→(r.bind fun s j=>.ok (f s) j)=.ok m' j→m'.asks=m.asks:=fun {α r f} hf hh=>by
  cases r with
  |no c p=>cases hh
  |ok a l=>injection hh with h1 _;rw[←h1];exact hf a
 rcases k with _|_|_|_|_|k
 ·exact key (f:=fun s=>{ m with fE:=s }) (fun _=>rfl) h
 ·exact key (f:=fun s=>{ m with src:=s }) (fun _=>rfl) h
 ·exact key (f:=fun s=>{ m with dst:=s }) (fun _=>rfl) h
 ·exact key (f:=fun s=>{ m with bc:=s }) (fun _=>rfl) h
 ·exact key (f:=fun s=>{ m with sp:=s }) (fun _=>rfl) h
 ·exact key (f:=fun s=>{ m with dp:=s }) (fun _=>rfl) h
theorem wM{x:Bs}{k:Nat}(h:lq x=some k):k < 6:=by
 unfold lq at h;repeat' (split at h)
 all_goals first | (injection h with h;omega)|cases h
theorem Gj:∀(a:Fin 64) (k:Fin 6),a.val|||2^k.val < 64:=by decide+kernel
theorem wT{ws:List Bs}{i:Nat}{m m':Mt}{b:Bool}{j:Nat}(h:aI ws i m=.ok (b,m') j)(ha:m.asks < 64):m'.asks < 64:=by
 unfold aI at h;split at h
 ·injection h with h _;injection h with _ h;rw[←h];exact ha
 ·split at h
  ·injection h with h _;injection h with _ h;rw[←h];exact ha
  ·rename_i k hk
   split at h
   ·cases h
   ·cases hr:bV k { m with asks:=m.asks|||2^k } ws (i+1)with
    |no c p=>rw[hr]at h;cases h
    |ok a l=>rw[hr]at h;simp only[Out.bind]at h;injection h with h _;injection h with _ h;rw[←h,Ej hr];exact Gj ⟨m.asks,ha⟩ ⟨k,wM hk⟩
theorem CP{ws:List Bs}{i:Nat}{m m':Mt}{j:Nat}(h:aI ws i m=.ok (false,m') j):m'=m∧j=i:=by
 unfold aI at h;split at h
 ·injection h with q q2;injection q with _ q;exact⟨q.symm,q2.symm⟩
 ·split at h
  ·injection h with q q2;injection q with _ q;exact⟨q.symm,q2.symm⟩
  ·split at h
   ·cases h
   ·rename_i k _ _ _
    cases hq:bV k { m with asks:=m.asks|||2^k } ws (i+1)with
    |no c p=>rw[hq]at h;cases h
    |ok a l=>rw[hq]at h;cases h
theorem IQ{w:World}{g:Nat}{A:Option Go.Addr}{n c i:Nat}{ws:List Bs}(h:eC w g A n c i ws){T:Out Mt}(h1:cN ws i gD=.ok true (i+1))(hT:T=.ok ei (i+1)):Calls prog 93 #[(pt g 0)] w (bM g A n c fQ T w):=by have c4:=mQ (T:=T) [⟨66,.aj ei.cells⟩] [ae gD] h h.le (fun code p hh=>by cases hh) (fun W (hL:eC W g A n c i ws)=>h1 ▸ kY gD hL);have z1f:=fun(hp:(Out.ok true (i+1)).okB=true∧(Out.ok true (i+1)).pos≤n)=>(show DM g A n c fQ T (.val (fQ ei)) [(g,154,dH A n c (i+1))]from⟨ei,_,hT,hp.2,rfl,rfl⟩);refine fP [] h.bO [(4,.ay (gC 0 g A n c (Out.ok true (i+1)) fun b=>.bool b))] [] (by kernel_rfl) func93 rfl (bU rfl) ?_;exact WV (by kernel_rfl) (WN c4 (fun(hx0:(Out.ok true (i+1)).okB=true∧(Out.ok true (i+1)).pos≤n)=>(z1f hx0)))
theorem ED{w:World}{g:Nat}{A:Option Go.Addr}{n c i:Nat}{ws:List Bs}(h:eC w g A n c i ws){T:Out Mt}{r:Out (Bool×Mt)}{m':Mt}{r3:Out Bs}(h1:cN ws i gD=.ok false i)
  (hn:∀W gm,uI W [g,gm] g A n c i ws→aq W gm 66 ei.cells→g≠gm→Calls prog 153 #[(pt g 0),(pt gm 0)] W (oV g gm A n c r W)) (hv:r.val=(false,m'))
  (n3:∀W,eC W g A n c r.pos ws→Calls prog 154 #[(pt g 0)] W (bM g A n c ae r3 W))
  (hno:∀code p,r=.no code p→T=.no code p) (e2:r.okB=true→T=r3.bind fun _ l=>.no 200 l):Calls prog 93 #[(pt g 0)] w (bM g A n c fQ T w):=by
 have hG:QW g A n c r=⟨[0,1],[(0,⟨154,.cR g (dH A n c r.pos)⟩),(1,⟨66,.aj m'.cells⟩)],[],[],.val (.bool false),some (r.okB=true∧r.pos≤n)⟩:=by unfold QW;rw[hv]
 have c4:=mQ (T:=T) [⟨66,.aj ei.cells⟩] [ae gD] h h.le (fun code p hh=>by cases hh) (fun W (hL:eC W g A n c i ws)=>h1 ▸ kY gD hL);have c7f:=fun(_:(Out.ok false i).okB=true∧(Out.ok false i).pos≤n)=>Mn h h.le hno hn;have c10f:=fun(_:(Out.ok false i).okB=true∧(Out.ok false i).pos≤n) (hp:r.okB=true∧r.pos≤n)=>mQ [⟨66,.aj m'.cells⟩] [] h hp.2 (cD (e2 hp.1)) n3;have c16f:=fun(_:(Out.ok false i).okB=true∧(Out.ok false i).pos≤n) (hp:r.okB=true∧r.pos≤n) (hp3:r3.okB=true∧r3.pos≤n) W (hW:ai [g] w W) (_:aq W g 154 (dH A n c r3.pos))=>lO (b:=⟨w,[g],oU T w⟩) (vs:=[(pt g 0),.int .i64 200,.int .i64 (r3.pos:Int)]) (ps:=[(0,0)]) ((qE ((pt g 0)) 200 (r3.pos:Int) W).mono fun _ _ ⟨ch,he,hf,hc⟩=>⟨ch,he,(show oU T w _ _ from⟨200,r3.pos,cw (e2 hp.1) hp3.1,hf.up hW.size⟩),hc⟩);have z3f:=fun(_:(Out.ok false i).okB=true∧(Out.ok false i).pos≤n) (_:r.okB=true∧r.pos≤n) (_:r3.okB=true∧r3.pos≤n)=>trivial;rw[hG]at c7f;refine fP [] h.bO [(4,.ay (gC 0 g A n c (Out.ok false i) fun b=>.bool b)),(7,.ay ⟨[0,1],[(0,⟨154,.cR g (dH A n c r.pos)⟩),(1,⟨66,.aj m'.cells⟩)],[],[],.val (.bool false),some (r.okB=true∧r.pos≤n)⟩),(10,.ay (gC 0 g A n c r3 ae)),(16,.rT)] [] (by kernel_rfl) func93 rfl (bU rfl) ?_;exact WV (by kernel_rfl) (WN c4 (fun(hx0:(Out.ok false i).okB=true∧(Out.ok false i).pos≤n)=>(WN (c7f hx0) (fun(hx1:r.okB=true∧r.pos≤n)=>(WN (c10f hx0 hx1) (fun(hx2:r3.okB=true∧r3.pos≤n)=>(WN (c16f hx0 hx1 hx2) (z3f hx0 hx1 hx2))))))))
def Uu(ws:List Bs)(n:Nat)(T:Out Mt)(k:Mt×Nat):Prop:=k.2≤n∧k.1.asks < 64∧T=dy ws (ws.length+1 - k.2) k.2 k.1
def EA(_:Mt×Nat):List (Nat×Sx.SV):=[(0,.ptr 0 0),(2,.ptr 1 0)]
noncomputable def ub(ws:List Bs)(k:Mt×Nat):Mt×Nat:=((aI ws k.2 k.1).val.2,(aI ws k.2 k.1).pos)
def BY(n:Nat)(T:Out Mt)(k:Mt×Nat):Prop:=k.2≤n∧T=.ok k.1 k.2
theorem LC{w:World}{g:Nat}{A:Option Go.Addr}{n c i:Nat}{ws:List Bs}(h:eC w g A n c i ws){T:Out Mt}(k:Mt×Nat)(hk:Uu ws n T k) :
  ∃H' L',Sx.ky prog f93.ntmps ⟨w,[g],oU T w⟩ (Sx.bq f93 0) H' L' ⟨EA k,kF g A n c k.2 k.1⟩ (Sx.dP (Uu ws n T) EA (fun k=>kF g A n c k.2 k.1) (ub ws) (fun k=>n+1 - k.2) (BY n T) (fun _=>[(2,.ptr 1 0)]) (fun k=>kF g A n c k.2 k.1) (ub ws) (Sx.eo (Sx.bq f93 0) - 1) (Sx.qJ prog f93 (DM g A n c fQ T) .ret) k):=by
 obtain⟨m,j⟩:=k;obtain⟨hj,ha,hT⟩:=hk;have hlen:=h.len;have hj:j≤n:=hj;have hT:T=dy ws (ws.length+1 - j) j m:=hT;obtain⟨f,hf⟩:∃f,ws.length+1 - j=f+1:=⟨ws.length - j,by omega⟩;have e1:T=(aI ws j m).bind fun r k=>match r.1 with
  |true=>dy ws f k r.2
  |false=>.ok m k:=by rw[hT,hf];rfl
 have hn:=fun W gm (hL:uI W [g,gm] g A n c j ws) (hb:aq W gm 66 m.cells) (hne:g≠gm)=>GR hL hb hne ha;have hno:=cD e1;have e2:=cw e1;have hx:ub ws (m,j)=((aI ws j m).val.2,(aI ws j m).pos):=rfl;have c18:=Mn h hj hno hn;have ends:∀b,(aI ws j m).okB=true→(aI ws j m).val.1=b→(b=true→Uu ws n T (ub ws (m,j))∧n+1 - (ub ws (m,j)).2 < n+1 - j)∧(b=false→(aI ws j m).pos≤n→BY n T (ub ws (m,j))):=by
  intro b hp hb;have hr:aI ws j m=.ok ((aI ws j m).val.1,(aI ws j m).val.2) (aI ws j m).pos:=Out.BS hp;rw[hb]at hr;refine⟨fun h1=>?_,fun h1 h2=>?_⟩
  ·rw[h1]at hr hb
   have hps:=pA hr;have e3:=e2 hp;rw[hb]at e3;refine⟨⟨by rw[hx]; omega,by rw[hx]; exact wT hr ha,?_⟩,by rw[hx]; show n+1 - (aI ws j m).pos < _; omega⟩;rw[hx];exact e3.trans (ow ws _ _ _ _ (by omega) (XH _) hps.2)
  ·rw[h1]at hr hb
   have e3:=e2 hp;rw[hb]at e3;refine⟨h2,?_⟩;have hm:(aI ws j m).val.2=m:=(CP hr).1;rw[hx,hm];exact e3
 generalize hr:aI ws j m=r at c18 ends hx;obtain⟨b,m',hv⟩:∃b m',r.val=(b,m'):=⟨_,_,rfl⟩;have hG:QW g A n c r=⟨[0,1],[(0,⟨154,.cR g (dH A n c r.pos)⟩),(1,⟨66,.aj m'.cells⟩)],[],[],.val (.bool b),some (r.okB=true∧r.pos≤n)⟩:=by unfold QW;rw[hv]
 rw[hG]at c18;rw[hv]at hx ends;refine⟨[(18,.ay ⟨[0,1],[(0,⟨154,.cR g (dH A n c r.pos)⟩),(1,⟨66,.aj m'.cells⟩)],[],[],.val (.bool b),some (r.okB=true∧r.pos≤n)⟩)],[],?_⟩;cases b with
 |true=>have h1f:=fun(hp:r.okB=true∧r.pos≤n)=>((ends true hp.1 rfl).1 rfl).1;have h2f:=fun(hp:r.okB=true∧r.pos≤n)=>((ends true hp.1 rfl).1 rfl).2;have h3f:=fun(_:r.okB=true∧r.pos≤n)=>(rfl:EA (m,j)=EA (m,j));have z4f:=fun(_:r.okB=true∧r.pos≤n)=>(show kF g A n c r.pos m'=kF g A n c (ub ws (m,j)).2 (ub ws (m,j)).1 from by rw[hx]);exact WV (by kernel_rfl) (WN c18 (fun(hx0:r.okB=true∧r.pos≤n)=>(Sx.t2 (h1f hx0) (h2f hx0) (WN (h3f hx0) (z4f hx0)))))
 |false=>have h1f:=fun(hp:r.okB=true∧r.pos≤n)=>(ends false hp.1 rfl).2 rfl hp.2;have h2f:=fun(_:r.okB=true∧r.pos≤n)=>(rfl:([(2,.ptr 1 0)]:List (Nat×Sx.SV))=[(2,.ptr 1 0)]);have z3f:=fun(_:r.okB=true∧r.pos≤n)=>(show kF g A n c r.pos m'=kF g A n c (ub ws (m,j)).2 (ub ws (m,j)).1 from by rw[hx]);exact WV (by kernel_rfl) (WN c18 (fun(hx0:r.okB=true∧r.pos≤n)=>(Sx.t2 (h1f hx0) (h2f hx0) (z3f hx0))))
theorem EC{w:World}{g:Nat}{A:Option Go.Addr}{n c i:Nat}{ws:List Bs}(h:eC w g A n c i ws){T:Out Mt}{r:Out (Bool×Mt)}{m':Mt}(h1:cN ws i gD=.ok false i)
  (hn:∀W gm,uI W [g,gm] g A n c i ws→aq W gm 66 ei.cells→g≠gm→Calls prog 153 #[(pt g 0),(pt gm 0)] W (oV g gm A n c r W)) (hv:r.val=(true,m'))
  (hno:∀code p,r=.no code p→T=.no code p) (e2:r.okB=true→r.pos≤n→Uu ws n T (m',r.pos)):Calls prog 93 #[(pt g 0)] w (bM g A n c fQ T w):=by
 have hG:QW g A n c r=⟨[0,1],[(0,⟨154,.cR g (dH A n c r.pos)⟩),(1,⟨66,.aj m'.cells⟩)],[],[],.val (.bool true),some (r.okB=true∧r.pos≤n)⟩:=by unfold QW;rw[hv]
 have c4:=mQ (T:=T) [⟨66,.aj ei.cells⟩] [ae gD] h h.le (fun code p hh=>by cases hh) (fun W (hL:eC W g A n c i ws)=>h1 ▸ kY gD hL);have c7f:=fun(_:(Out.ok false i).okB=true∧(Out.ok false i).pos≤n)=>Mn h h.le hno hn;have h2f:=fun(_:(Out.ok false i).okB=true∧(Out.ok false i).pos≤n) (hp:r.okB=true∧r.pos≤n)=>e2 hp.1 hp.2;have e3f:=fun(_:(Out.ok false i).okB=true∧(Out.ok false i).pos≤n) (_:r.okB=true∧r.pos≤n)=>(show EA (m',r.pos)=EA (m',r.pos)∧kF g A n c r.pos m'=kF g A n c r.pos m' from⟨rfl,rfl⟩);have rd4f:=fun(_:(Out.ok false i).okB=true∧(Out.ok false i).pos≤n) (_:r.okB=true∧r.pos≤n)=>LC h (T:=T);have z7f:=fun(_:(Out.ok false i).okB=true∧(Out.ok false i).pos≤n) (_:r.okB=true∧r.pos≤n) (x:Mt×Nat) (hx:BY n T x)=>(show DM g A n c fQ T (.val (fQ x.1)) [(g,154,dH A n c x.2)]from⟨x.1,x.2,hx.2,hx.1,rfl,rfl⟩);rw[hG]at c7f;refine fP [] h.bO [(4,.ay (gC 0 g A n c (Out.ok false i) fun b=>.bool b)),(7,.ay ⟨[0,1],[(0,⟨154,.cR g (dH A n c r.pos)⟩),(1,⟨66,.aj m'.cells⟩)],[],[],.val (.bool true),some (r.okB=true∧r.pos≤n)⟩)] [.mk (Mt×Nat) (m',r.pos) (Uu ws n T) EA (fun k=>kF g A n c k.2 k.1) (ub ws) (fun k=>n+1 - k.2) (Mt×Nat) (BY n T) (fun _=>[(2,.ptr 1 0)]) (fun k=>kF g A n c k.2 k.1) (ub ws)] (by kernel_rfl) func93 rfl (bU rfl) ?_;exact WV (by kernel_rfl) (WN c4 (fun(hx0:(Out.ok false i).okB=true∧(Out.ok false i).pos≤n)=>(WN (c7f hx0) (fun(hx1:r.okB=true∧r.pos≤n)=>(Sx.t2 (h2f hx0 hx1) (e3f hx0 hx1) (WN (rd4f hx0 hx1) (fun(x5:Mt×Nat) (hx6:BY n T x5)=>(z7f hx0 hx1 x5 hx6))))))))
theorem Ce{w:World}{g:Nat}{A:Option Go.Addr}{n c i:Nat}{ws:List Bs}(h:eC w g A n c i ws):Calls prog 93 #[(pt g 0)] w (bM g A n c fQ (cS ws i) w):=by
 have hlen:=h.len;rcases gp (ws:=ws) (i:=i) (s:=gD)with⟨h1,h2⟩ | h1
 ·exact IQ h h1 (by unfold cS;rw[h1];rfl)
 ·have e1:cS ws i=(aI ws i ei).bind fun r k=>match r.1 with
   |true=>dy ws (ws.length+1 - k) k r.2
   |false=>(aO ws k).bind fun _ l=>.no 200 l:=by unfold cS;rw[h1];rfl
  have hn:=fun W gm (hL:uI W [g,gm] g A n c i ws) (hb:aq W gm 66 ei.cells) (hne:g≠gm)=>GR hL hb hne (by decide);cases hb:(aI ws i ei).val.1 with
  |false=>refine ED (m':=(aI ws i ei).val.2) h h1 hn (by rw[←hb]) (fun W hL=>ou hL) (cD e1) fun hp=>?_;have:=cw e1 hp;rw[hb]at this;exact this
  |true=>
   refine EC (m':=(aI ws i ei).val.2) h h1 hn (by rw[←hb]) (cD e1) fun hp hle=>⟨hle,?_,?_⟩
   ·exact wT (b:=(aI ws i ei).val.1) (Out.BS hp) (by decide)
   ·have:=cw e1 hp
    rw[hb]at this;exact this
set_option maxRecDepth 100000
open Go.RowKit Go.Lib Go.Sort _root_.Go.Proofs.Tryz
set_option maxRecDepth 100000
structure Mt.Wf(m:Mt):Prop where
 asks:m.asks < 256
 sn:m.src.n < 2^128
 sk : -9223372036854775808≤m.src.k∧m.src.k≤9223372036854775807
 dn:m.dst.n < 2^128
 dk : -9223372036854775808≤m.dst.k∧m.dst.k≤9223372036854775807
 fE:m.fE.1≤65535∧m.fE.2≤65535
 sp:m.sp.1≤65535∧m.sp.2≤65535
 dp:m.dp.1≤65535∧m.dp.2≤65535
 pr:m.bc≤255
theorem M5:∀a:Fin 256,(bits .and .u8 (a.val:Int) 2 !=0)=a.val.testBit 1:=by decide+kernel
theorem M4:∀a:Fin 256,(bits .and .u8 (a.val:Int) 4 !=0)=a.val.testBit 2:=by decide+kernel
theorem Jx:∀a:Fin 256,(bits .and .u8 (a.val:Int) 48 !=0)=(a.val.testBit 4||a.val.testBit 5):=by decide+kernel
theorem Lg:∀a:Fin 256,(bits .andNot .u8 (a.val:Int) 63 !=0)=decide (¬a.val < 64):=by decide+kernel
theorem Ft(m:Mt)(what:Int)(b:Bool)(hb:(bits .and .u8 (m.asks:Int) what !=0)=b)(w:World):Calls prog 144 #[fQ m,.int .u8 what] w (Rn w (.bool b)):=by have c9:WQ (bits .and .u8 (m.asks:Int) what !=0)=.bool b:=bz hb;have z0:WQ b=.bool b:=rfl;refine Sx.ao (args:=[fQ m,.int .u8 what]) [(9,.is (.bool b))] [] (by kernel_rfl) func144 rfl (bU rfl) ?_;exact WV (by kernel_rfl) (WN c9 z0)
theorem AQ:prog.cellsOf 64=2:=by kernel_rfl
theorem Qa:prog.cellsOf 62=1:=by kernel_rfl
theorem QR(d x:Nat)(hx:x≤65535):prog.keyLits (d+1) 62 [.int .u16 (x:Int)]=some [.int .u16 (x:Int)]:=by
 have hw:(Lit.int .u16 (x:Int)).wf=true:=by simp[Lit.wf,IntKind.min,IntKind.max,Xc,Xi];omega
 simp[Program.keyLits,underlying62,hw]
theorem LL(d:Nat)(s:Nat×Nat)(h1:s.1≤65535)(h2:s.2≤65535):prog.keyLits (d+2) 64 [.int .u16 (s.1:Int),.int .u16 (s.2:Int)]=some [.int .u16 (s.1:Int),.int .u16 (s.2:Int)]:=by have e1:=QR d s.1 h1;have e2:=QR d s.2 h2;have e3:(([.int .u16 (s.1:Int),.int .u16 (s.2:Int)]:List Value).drop 0).take 1=[.int .u16 (s.1:Int)]:=rfl;have e4:(([.int .u16 (s.1:Int),.int .u16 (s.2:Int)]:List Value).drop 1).take 1=[.int .u16 (s.2:Int)]:=rfl;unfold Program.keyLits;rw[underlying64];simp only;rw[if_pos ⟨by rw[AQ];rfl,by simp⟩];simp only[List.mapM_cons,List.mapM_nil,Qa,e3,e4,e1,e2];rfl
theorem VR(s r:Nat×Nat)(hs:s.1≤65535∧s.2≤65535)(hr:r.1≤65535∧r.2≤65535)(W:World):(Op.equalIn 10000 64 (gF s) (gF r)).run prog W=.ok (decide (s=r)) W:=by
 obtain⟨q,h1,h2⟩:=run_equalIn_deep (P:=prog) 9995 5 64 (by kernel_rfl) W 5 5 (gF s) (gF r) _ _ (by simp[gF,XB,underlying64,AQ]) (by simp[gF,XB,underlying64,AQ]) (LL 3 s hs.1 hs.2) (LL 3 r hr.1 hr.2);simp only[Nat.reduceAdd]at h1;have e:q=decide (s=r):=by
  rw[Xy,h2,decide_eq_true_eq];constructor
  ·intro h
   injection h with h3 h4;injection h3 with _ h3;injection h4 with h4 _;injection h4 with _ h4;exact Prod.ext (by omega) (by omega)
  ·rintro rfl;rfl
 rw[h1,e]
theorem PF(op:BinOp)(x y:Operand)(a b:Array Value)(W:World):(eqGuard op 64 x y (.agg a) (.agg b)).run prog W=.ok () W:=by cases op<;>kernel_rfl
theorem sq(x y:Operand)(s:Nat×Nat)(hs:s.1≤65535∧s.2≤65535)(W:World):(do eqGuard .neq 64 x y (gF s) (gF (0,0));binOp .neq 64 (gF s) (gF (0,0)):Sem Value).run prog W=.ok (.bool (!gL s)) W:=by have h:=VR s (0,0) hs (by decide) W;rw[Sem.run_bind,show(eqGuard .neq 64 x y (gF s) (gF (0,0))).run prog W=_ from PF .neq x y _ _ W,Result.andThen_ok];show(do pure (.bool (!(←Op.equal 64 (gF s) (gF (0,0))))):Sem Value).run prog W=_;rw[Sem.run_bind,show(Op.equal 64 (gF s) (gF (0,0))).run prog W=_ from h];rfl
theorem zQ(x y:Operand)(p:Px)(hn:p.n < 2^128)(hk : -9223372036854775808≤p.k∧p.k≤9223372036854775807)(W:World):(do eqGuard .neq 29 x y (lL p) (lL nz); binOp .neq 29 (lL p) (lL nz):Sem Value).run prog W=.ok (.bool (!DK p)) W:=UU x y p.v false p.n 0 p.k 0 hn (by omega) hk (by omega) W
def NN(n0:Bool):Int:=bif n0 then 1 else 0
def NM(n0 n1:Bool):Int:=bif n1 then NN n0+2 else NN n0
def NL(n0 n1 n2:Bool):Int:=bif n2 then NM n0 n1+4 else NM n0 n1
def NK(n0 n1 n2 n3:Bool):Int:=bif n3 then NL n0 n1 n2+8 else NL n0 n1 n2
def NJ(n0 n1 n2 n3 n4:Bool):Int:=bif n4 then NK n0 n1 n2 n3+16 else NK n0 n1 n2 n3
def L6(n0 n1 n2 n3 n4 n5:Bool):Int:=bif n5 then NJ n0 n1 n2 n3 n4+32 else NJ n0 n1 n2 n3 n4
def UR(o1 hs g1 g2 g3 g4 s x1 d x2 ne pt q6 q17:Bool):Int:=
 bif o1||hs then 190 else bif g1||(g2||(g3||g4))then 190 else bif (s&&x1)||(d&&x2)then 190 else bif s&&d&&ne then 190 else bif pt&&q6&&q17 then 190 else 0
def Jn(v:Int):List (Nat×Sx.SV):=[(1,.ptr 0 0),(2,.val (.int .i64 0)),(3,.val (.int .u8 v))]
def tV(m:Mt):List Sx.Row:=[⟨66,.aj m.cells⟩]
theorem P7(m:Mt)(w:World)(n0 n1 n2 n3 n4 n5 o1 hs g1 g2 g3 g4 s x1 d x2 ne pt q6 q17:Bool)(v7 e1 e2:Int)
  (c8:∀W,(do eqGuard .neq 64 (.tmp 6) (.tmp 7) (gF m.fE) (gF (0,0));binOp .neq 64 (gF m.fE) (gF (0,0)):Sem Value).run prog W=.ok (.bool n0) W)
  (c14:∀W,(do eqGuard .neq 29 (.tmp 12) (.tmp 13) (lL m.src) (lL nz);binOp .neq 29 (lL m.src) (lL nz):Sem Value).run prog W=.ok (.bool n1) W)
  (c20:∀W,(do eqGuard .neq 29 (.tmp 18) (.tmp 19) (lL m.dst) (lL nz);binOp .neq 29 (lL m.dst) (lL nz):Sem Value).run prog W=.ok (.bool n2) W)
  (c25:WQ ((m.bc:Int) !=0)=.bool n3)
  (c31:∀W,(do eqGuard .neq 64 (.tmp 29) (.tmp 30) (gF m.sp) (gF (0,0));binOp .neq 64 (gF m.sp) (gF (0,0)):Sem Value).run prog W=.ok (.bool n4) W)
  (c37:∀W,(do eqGuard .neq 64 (.tmp 35) (.tmp 36) (gF m.dp) (gF (0,0));binOp .neq 64 (gF m.dp) (gF (0,0)):Sem Value).run prog W=.ok (.bool n5) W)
  (Fm:WO .u8 (bits .andNot .u8 (L6 n0 n1 n2 n3 n4 n5) (m.asks:Int))=.int .u8 v7)
  (c45:∀W,ai [] w W→Calls prog 144 #[fQ m,.int .u8 48] W (Rn W (.bool pt)))
  (c50:WQ (bits .andNot .u8 (m.asks:Int) 63 !=0)=.bool o1)
  (c53:WQ (v7 !=0)=.bool hs)
  (c62:WQ (decide ((m.fE.2:Int) < (m.fE.1:Int)))=.bool g1) (c67:WQ (decide (255 < (m.fE.2:Int)))=.bool g2)
  (c76:WQ (decide ((m.sp.2:Int) < (m.sp.1:Int)))=.bool g3) (c85:WQ (decide ((m.dp.2:Int) < (m.dp.1:Int)))=.bool g4)
  (c89:∀W,ai [] w W→Calls prog 144 #[fQ m,.int .u8 2] W (Rn W (.bool s)))
  (c98:∀W,ai [] w W→Calls prog 144 #[fQ m,.int .u8 4] W (Rn W (.bool d)))
  (c93:∀W,ai [] w W→Calls prog 50 #[lL m.src] W (Rn W (.int .i64 e1)))
  (c102:∀W,ai [] w W→Calls prog 50 #[lL m.dst] W (Rn W (.int .i64 e2)))
  (c94:WQ (e1 !=0)=.bool x1) (c103:WQ (e2 !=0)=.bool x2)
  (c122:WQ (m.src.v !=m.dst.v)=.bool ne) (c129:WQ ((m.bc:Int) !=6)=.bool q6) (c134:WQ ((m.bc:Int) !=17)=.bool q17) :
  Calls prog 83 #[fQ m] w (Rn w (.int .i64 (UR o1 hs g1 g2 g3 g4 s x1 d x2 ne pt q6 q17))):=by
 have c10f:=fun(hb:n0=true)=>(show WO .u8 (bits .or .u8 0 1)=.int .u8 (NN n0)from by subst hb;rfl);have c16f:=fun(hb:n1=true)=>(show WO .u8 (bits .or .u8 (NN n0) 2)=.int .u8 (NM n0 n1)from by subst hb;cases n0<;>rfl);have c22f:=fun(hb:n2=true)=>(show WO .u8 (bits .or .u8 (NM n0 n1) 4)=.int .u8 (NL n0 n1 n2)from by subst hb;cases n0<;>cases n1<;>rfl);have c27f:=fun(hb:n3=true)=>(show WO .u8 (bits .or .u8 (NL n0 n1 n2) 8)=.int .u8 (NK n0 n1 n2 n3)from by subst hb;cases n0<;>cases n1<;>cases n2<;>rfl);have c33f:=fun(hb:n4=true)=>(show WO .u8 (bits .or .u8 (NK n0 n1 n2 n3) 16)=.int .u8 (NJ n0 n1 n2 n3 n4)from by subst hb;cases n0<;>cases n1<;>cases n2<;>cases n3<;>rfl);have c39f:=fun(hb:n5=true)=>(show WO .u8 (bits .or .u8 (NJ n0 n1 n2 n3 n4) 32)=.int .u8 (L6 n0 n1 n2 n3 n4 n5)from by subst hb;cases n0<;>cases n1<;>cases n2<;>cases n3<;>cases n4<;>rfl);have zmem:=(rfl:tV m=tV m);have c108:=c89;have c111:=c98;refine Sx.ao (args:=[fQ m]) [(8,.bin (.bool n0)),(14,.bin (.bool n1)),(20,.bin (.bool n2)),(25,.is (.bool n3)),(31,.bin (.bool n4)),(37,.bin (.bool n5)),
  (10,.is (.int .u8 (NN n0))),(16,.is (.int .u8 (NM n0 n1))),(22,.is (.int .u8 (NL n0 n1 n2))),(27,.is (.int .u8 (NK n0 n1 n2 n3))),(33,.is (.int .u8 (NJ n0 n1 n2 n3 n4))),(39,.is (.int .u8 (L6 n0 n1 n2 n3 n4 n5))),
  (500008,.join (Jn (NN n0)) (tV m)),(500014,.join (Jn (NM n0 n1)) (tV m)),(500020,.join (Jn (NL n0 n1 n2)) (tV m)),(500025,.join (Jn (NK n0 n1 n2 n3)) (tV m)),(500031,.join (Jn (NJ n0 n1 n2 n3 n4)) (tV m)),(500037,.join (Jn (L6 n0 n1 n2 n3 n4 n5)) (tV m)),
  (43,.is (.int .u8 v7)),(45,.call (.bool pt)),(50,.is (.bool o1)),(53,.is (.bool hs)),(62,.is (.bool g1)),(67,.is (.bool g2)),(76,.is (.bool g3)),(85,.is (.bool g4)),
  (89,.call (.bool s)),(98,.call (.bool d)),(93,.call (.int .i64 e1)),(102,.call (.int .i64 e2)),(94,.is (.bool x1)),(103,.is (.bool x2)),(108,.call (.bool s)),(111,.call (.bool d)),(122,.is (.bool ne)),(129,.is (.bool q6)),(134,.is (.bool q17))] [] (by kernel_rfl) func83 rfl (bU rfl) ?_
 have GG:∀ n:Nat,WR n=(UR o1 hs g1 g2 g3 g4 s x1 d x2 ne pt q6 q17)→WO .i64 (WR n)=WO .i64 (UR o1 hs g1 g2 g3 g4 s x1 d x2 ne pt q6 q17):=fun n h=>by rw[h]
 exact WV (by kernel_rfl) (Sx.t8 c8 (Sx.aG (b:=n0) (fun hb0=>(Sx.t2 (c10f hb0) (show [(1,Sx.SV.ptr 0 0),(2,Sx.SV.val (WO .i64 (WR 0))),(3,Sx.SV.val (WO .u8 (NN n0)))]=[(1,Sx.SV.ptr 0 0),(2,Sx.SV.val (WO .i64 (WR 0))),(3,Sx.SV.val (WO .u8 (NN n0)))]from by cases hb0<;>rfl) zmem)) (fun hb0=>(WN (show [(1,Sx.SV.ptr 0 0),(2,Sx.SV.val (WO .i64 (WR 0))),(3,Sx.SV.val (WO .u8 (WR 0)))]=[(1,Sx.SV.ptr 0 0),(2,Sx.SV.val (WO .i64 (WR 0))),(3,Sx.SV.val (WO .u8 (NN n0)))]from by cases hb0<;>rfl) zmem))) c14 (Sx.aG (b:=n1) (fun hb5=>(Sx.t2 (c16f hb5) (show [(1,Sx.SV.ptr 0 0),(2,Sx.SV.val (WO .i64 (WR 0))),(3,Sx.SV.val (WO .u8 (NM n0 n1)))]=[(1,Sx.SV.ptr 0 0),(2,Sx.SV.val (WO .i64 (WR 0))),(3,Sx.SV.val (WO .u8 (NM n0 n1)))]from by cases hb5<;>rfl) zmem)) (fun hb5=>(WN (show [(1,Sx.SV.ptr 0 0),(2,Sx.SV.val (WO .i64 (WR 0))),(3,Sx.SV.val (WO .u8 (NN n0)))]=[(1,Sx.SV.ptr 0 0),(2,Sx.SV.val (WO .i64 (WR 0))),(3,Sx.SV.val (WO .u8 (NM n0 n1)))]from by cases hb5<;>rfl) zmem))) c20 (Sx.aG (b:=n2) (fun hb10=>(Sx.t2 (c22f hb10) (show [(1,Sx.SV.ptr 0 0),(2,Sx.SV.val (WO .i64 (WR 0))),(3,Sx.SV.val (WO .u8 (NL n0 n1 n2)))]=[(1,Sx.SV.ptr 0 0),(2,Sx.SV.val (WO .i64 (WR 0))),(3,Sx.SV.val (WO .u8 (NL n0 n1 n2)))]from by cases hb10<;>rfl) zmem)) (fun hb10=>(WN (show [(1,Sx.SV.ptr 0 0),(2,Sx.SV.val (WO .i64 (WR 0))),(3,Sx.SV.val (WO .u8 (NM n0 n1)))]=[(1,Sx.SV.ptr 0 0),(2,Sx.SV.val (WO .i64 (WR 0))),(3,Sx.SV.val (WO .u8 (NL n0 n1 n2)))]from by cases hb10<;>rfl) zmem))) c25 (Sx.aG (b:=n3) (fun hb15=>(Sx.t2 (c27f hb15) (show [(1,Sx.SV.ptr 0 0),(2,Sx.SV.val (WO .i64 (WR 0))),(3,Sx.SV.val (WO .u8 (NK n0 n1 n2 n3)))]=[(1,Sx.SV.ptr 0 0),(2,Sx.SV.val (WO .i64 (WR 0))),(3,Sx.SV.val (WO .u8 (NK n0 n1 n2 n3)))]from by cases hb15<;>rfl) zmem)) (fun hb15=>(WN (show [(1,Sx.SV.ptr 0 0),(2,Sx.SV.val (WO .i64 (WR 0))),(3,Sx.SV.val (WO .u8 (NL n0 n1 n2)))]=[(1,Sx.SV.ptr 0 0),(2,Sx.SV.val (WO .i64 (WR 0))),(3,Sx.SV.val (WO .u8 (NK n0 n1 n2 n3)))]from by cases hb15<;>rfl) zmem))) (Sx.t4 c31 (Sx.aG (b:=n4) (fun hb20=>(Sx.t2 (c33f hb20) (show [(1,Sx.SV.ptr 0 0),(2,Sx.SV.val (WO .i64 (WR 0))),(3,Sx.SV.val (WO .u8 (NJ n0 n1 n2 n3 n4)))]=[(1,Sx.SV.ptr 0 0),(2,Sx.SV.val (WO .i64 (WR 0))),(3,Sx.SV.val (WO .u8 (NJ n0 n1 n2 n3 n4)))]from by cases hb20<;>rfl) zmem)) (fun hb20=>(WN (show [(1,Sx.SV.ptr 0 0),(2,Sx.SV.val (WO .i64 (WR 0))),(3,Sx.SV.val (WO .u8 (NK n0 n1 n2 n3)))]=[(1,Sx.SV.ptr 0 0),(2,Sx.SV.val (WO .i64 (WR 0))),(3,Sx.SV.val (WO .u8 (NJ n0 n1 n2 n3 n4)))]from by cases hb20<;>rfl) zmem))) c37 (Sx.aG (b:=n5) (fun hb25=>(Sx.t2 (c39f hb25) (show [(1,Sx.SV.ptr 0 0),(2,Sx.SV.val (WO .i64 (WR 0))),(3,Sx.SV.val (WO .u8 (L6 n0 n1 n2 n3 n4 n5)))]=[(1,Sx.SV.ptr 0 0),(2,Sx.SV.val (WO .i64 (WR 0))),(3,Sx.SV.val (WO .u8 (L6 n0 n1 n2 n3 n4 n5)))]from by cases hb25<;>rfl) zmem)) (fun hb25=>(WN (show [(1,Sx.SV.ptr 0 0),(2,Sx.SV.val (WO .i64 (WR 0))),(3,Sx.SV.val (WO .u8 (NJ n0 n1 n2 n3 n4)))]=[(1,Sx.SV.ptr 0 0),(2,Sx.SV.val (WO .i64 (WR 0))),(3,Sx.SV.val (WO .u8 (L6 n0 n1 n2 n3 n4 n5)))]from by cases hb25<;>rfl) zmem))) (Sx.t2 Fm c45 (WN c50 (Sx.aG (b:=o1) (fun hb30=>(show WO .i64 (WR 190)=WO .i64 (UR o1 hs g1 g2 g3 g4 s x1 d x2 ne pt q6 q17)from by cases hb30<;>rfl)) (fun hb30=>(WN c53 (Sx.aG (b:=hs) (fun hb32=>(GG 190 (by subst_vars;trivial))) (fun hb32=>(WN c62 (Sx.aG (b:=g1) (fun hb34=>(GG 190 (by subst_vars;trivial))) (fun hb34=>(WN c67 (Sx.aG (b:=g2) (fun hb36=>(GG 190 (by subst_vars;trivial))) (fun hb36=>(WN c76 (Sx.aG (b:=g3) (fun hb38=>(GG 190 (by subst_vars;trivial))) (fun hb38=>(WN c85 (Sx.aG (b:=g4) (fun hb40=>(GG 190 (by subst_vars;trivial))) (fun hb40=>(WN c89 (Sx.aG (b:=s) (fun hb42=>(Sx.t2 c93 c94 (Sx.aG (b:=x1) (fun hb43=>(GG 190 (by subst_vars;trivial))) (fun hb43=>(WN c98 (Sx.aG (b:=d) (fun hb45=>(Sx.t2 c102 c103 (Sx.aG (b:=x2) (fun hb46=>(GG 190 (by subst_vars;trivial))) (fun hb46=>(WN c108 (Sx.aG (b:=s) (fun hb48=>(WN c111 (Sx.aG (b:=d) (fun hb49=>(WN c122 (Sx.aG (b:=ne) (fun hb50=>(GG 190 (by subst_vars;trivial))) (fun hb50=>(Sx.aG (b:=pt) (fun hb52=>(WN c129 (Sx.aG (b:=q6) (fun hb53=>(WN c134 (Sx.aG (b:=q17) (fun hb54=>(GG 190 (by subst_vars;trivial))) (fun hb54=>(GG 0 (by subst_vars;trivial)))))) (fun hb53=>(GG 0 (by subst_vars;trivial)))))) (fun hb52=>(GG 0 (by subst_vars;trivial)))))))) (fun hb49=>(Sx.aG (b:=pt) (fun hb59=>(WN c129 (Sx.aG (b:=q6) (fun hb60=>(WN c134 (Sx.aG (b:=q17) (fun hb61=>(GG 190 (by subst_vars;trivial))) (fun hb61=>(GG 0 (by subst_vars;trivial)))))) (fun hb60=>(GG 0 (by subst_vars;trivial)))))) (fun hb59=>(GG 0 (by subst_vars;trivial)))))))) (fun hb48=>(Sx.aG (b:=pt) (fun hb66=>(WN c129 (Sx.aG (b:=q6) (fun hb67=>(WN c134 (Sx.aG (b:=q17) (fun hb68=>(GG 190 (by subst_vars;trivial))) (fun hb68=>(GG 0 (by subst_vars;trivial)))))) (fun hb67=>(GG 0 (by subst_vars;trivial)))))) (fun hb66=>(GG 0 (by subst_vars;trivial))))))))))) (fun hb45=>(WN c108 (Sx.aG (b:=s) (fun hb73=>(WN c111 (Sx.aG (b:=d) (fun hb74=>(WN c122 (Sx.aG (b:=ne) (fun hb75=>(GG 190 (by subst_vars;trivial))) (fun hb75=>(Sx.aG (b:=pt) (fun hb77=>(WN c129 (Sx.aG (b:=q6) (fun hb78=>(WN c134 (Sx.aG (b:=q17) (fun hb79=>(GG 190 (by subst_vars;trivial))) (fun hb79=>(GG 0 (by subst_vars;trivial)))))) (fun hb78=>(GG 0 (by subst_vars;trivial)))))) (fun hb77=>(GG 0 (by subst_vars;trivial)))))))) (fun hb74=>(Sx.aG (b:=pt) (fun hb84=>(WN c129 (Sx.aG (b:=q6) (fun hb85=>(WN c134 (Sx.aG (b:=q17) (fun hb86=>(GG 190 (by subst_vars;trivial))) (fun hb86=>(GG 0 (by subst_vars;trivial)))))) (fun hb85=>(GG 0 (by subst_vars;trivial)))))) (fun hb84=>(GG 0 (by subst_vars;trivial)))))))) (fun hb73=>(Sx.aG (b:=pt) (fun hb91=>(WN c129 (Sx.aG (b:=q6) (fun hb92=>(WN c134 (Sx.aG (b:=q17) (fun hb93=>(GG 190 (by subst_vars;trivial))) (fun hb93=>(GG 0 (by subst_vars;trivial)))))) (fun hb92=>(GG 0 (by subst_vars;trivial)))))) (fun hb91=>(GG 0 (by subst_vars;trivial)))))))))))))) (fun hb42=>(WN c98 (Sx.aG (b:=d) (fun hb98=>(Sx.t2 c102 c103 (Sx.aG (b:=x2) (fun hb99=>(GG 190 (by subst_vars;trivial))) (fun hb99=>(WN c108 (Sx.aG (b:=s) (fun hb101=>(WN c111 (Sx.aG (b:=d) (fun hb102=>(WN c122 (Sx.aG (b:=ne) (fun hb103=>(GG 190 (by subst_vars;trivial))) (fun hb103=>(Sx.aG (b:=pt) (fun hb105=>(WN c129 (Sx.aG (b:=q6) (fun hb106=>(WN c134 (Sx.aG (b:=q17) (fun hb107=>(GG 190 (by subst_vars;trivial))) (fun hb107=>(GG 0 (by subst_vars;trivial)))))) (fun hb106=>(GG 0 (by subst_vars;trivial)))))) (fun hb105=>(GG 0 (by subst_vars;trivial)))))))) (fun hb102=>(Sx.aG (b:=pt) (fun hb112=>(WN c129 (Sx.aG (b:=q6) (fun hb113=>(WN c134 (Sx.aG (b:=q17) (fun hb114=>(GG 190 (by subst_vars;trivial))) (fun hb114=>(GG 0 (by subst_vars;trivial)))))) (fun hb113=>(GG 0 (by subst_vars;trivial)))))) (fun hb112=>(GG 0 (by subst_vars;trivial)))))))) (fun hb101=>(Sx.aG (b:=pt) (fun hb119=>(WN c129 (Sx.aG (b:=q6) (fun hb120=>(WN c134 (Sx.aG (b:=q17) (fun hb121=>(GG 190 (by subst_vars;trivial))) (fun hb121=>(GG 0 (by subst_vars;trivial)))))) (fun hb120=>(GG 0 (by subst_vars;trivial)))))) (fun hb119=>(GG 0 (by subst_vars;trivial))))))))))) (fun hb98=>(WN c108 (Sx.aG (b:=s) (fun hb126=>(WN c111 (Sx.aG (b:=d) (fun hb127=>(WN c122 (Sx.aG (b:=ne) (fun hb128=>(GG 190 (by subst_vars;trivial))) (fun hb128=>(Sx.aG (b:=pt) (fun hb130=>(WN c129 (Sx.aG (b:=q6) (fun hb131=>(WN c134 (Sx.aG (b:=q17) (fun hb132=>(GG 190 (by subst_vars;trivial))) (fun hb132=>(GG 0 (by subst_vars;trivial)))))) (fun hb131=>(GG 0 (by subst_vars;trivial)))))) (fun hb130=>(GG 0 (by subst_vars;trivial)))))))) (fun hb127=>(Sx.aG (b:=pt) (fun hb137=>(WN c129 (Sx.aG (b:=q6) (fun hb138=>(WN c134 (Sx.aG (b:=q17) (fun hb139=>(GG 190 (by subst_vars;trivial))) (fun hb139=>(GG 0 (by subst_vars;trivial)))))) (fun hb138=>(GG 0 (by subst_vars;trivial)))))) (fun hb137=>(GG 0 (by subst_vars;trivial)))))))) (fun hb126=>(Sx.aG (b:=pt) (fun hb144=>(WN c129 (Sx.aG (b:=q6) (fun hb145=>(WN c134 (Sx.aG (b:=q17) (fun hb146=>(GG 190 (by subst_vars;trivial))) (fun hb146=>(GG 0 (by subst_vars;trivial)))))) (fun hb145=>(GG 0 (by subst_vars;trivial)))))) (fun hb144=>(GG 0 (by subst_vars;trivial))))))))))))))))))))))))))))))))))
open Go.RowKit Go.Lib Go.Sort _root_.Go.Proofs.Tryz
theorem PE:∀(a:Fin 256) (n0 n1 n2 n3 n4 n5:Bool),(bits .andNot .u8 (L6 n0 n1 n2 n3 n4 n5) (a.val:Int) !=0)=
  ((n0&&!a.val.testBit 0)||((n1&&!a.val.testBit 1)||((n2&&!a.val.testBit 2)||((n3&&!a.val.testBit 3)||((n4&&!a.val.testBit 4)||(n5&&!a.val.testBit 5)))))):=by decide+kernel
theorem Sn(l b0 b1 b2 b3 b4 b5 z0 z1 z2 z3 z4 z5:Bool):(l&&((b0||z0)&&((b1||z1)&&((b2||z2)&&((b3||z3)&&((b4||z4)&&(b5||z5)))))))=
  !(!l||((!z0&&!b0)||((!z1&&!b1)||((!z2&&!b2)||((!z3&&!b3)||((!z4&&!b4)||(!z5&&!b5))))))):=by
 simp[Bool.not_or,Bool.or_comm]
theorem Ai(a b:Nat):decide (a≤b)=!decide ((b:Int) < (a:Int)):=by
 by_cases h:a≤b
 ·rw[decide_eq_true h,decide_eq_false (by omega)];rfl
 ·rw[decide_eq_false h,decide_eq_true (by omega)];rfl
theorem P6:∀(o1 hs g1 g2 g3 g4 s x1 d x2 ne pt q6 q17:Bool),UR o1 hs g1 g2 g3 g4 s x1 d x2 ne pt q6 q17=
  if(!(o1||hs)&&((!g1&&(!g2&&(!g3&&!g4)))&&(((!s||!x1)&&((!d||!x2)&&(!(s&&d)||!ne)))&&(!pt||(!q6||!q17)))))=true then 0 else 190:=by decide+kernel
theorem lS(m:Mt)(hw:m.Wf)(w:World):Calls prog 83 #[fQ m] w (Rn w (.int .i64 (if aY m=true then 0 else 190))):=by
 have ha:=hw.asks
 have key:=P7 m w (!gL m.fE) (!DK m.src) (!DK m.dst) ((m.bc:Int) !=0) (!gL m.sp) (!gL m.dp) (bits .andNot .u8 (m.asks:Int) 63 !=0)
  (bits .andNot .u8 (L6 (!gL m.fE) (!DK m.src) (!DK m.dst) ((m.bc:Int) !=0) (!gL m.sp) (!gL m.dp)) (m.asks:Int) !=0)
  (decide ((m.fE.2:Int) < (m.fE.1:Int))) (decide (255 < (m.fE.2:Int))) (decide ((m.sp.2:Int) < (m.sp.1:Int))) (decide ((m.dp.2:Int) < (m.dp.1:Int)))
  (m.asks.testBit 1) (cU m.src.v m.src.n m.src.k !=0) (m.asks.testBit 2) (cU m.dst.v m.dst.n m.dst.k !=0) (m.src.v !=m.dst.v) (m.asks.testBit 4||m.asks.testBit 5) ((m.bc:Int) !=6) ((m.bc:Int) !=17)
  _ (cU m.src.v m.src.n m.src.k) (cU m.dst.v m.dst.n m.dst.k)
  (sq _ _ m.fE hw.fE) (zQ _ _ m.src hw.sn hw.sk) (zQ _ _ m.dst hw.dn hw.dk) rfl (sq _ _ m.sp hw.sp) (sq _ _ m.dp hw.dp) rfl
  (fun W _=>Ft m 48 _ (Jx ⟨m.asks,ha⟩) W) rfl rfl rfl rfl rfl rfl
  (fun W _=>Ft m 2 _ (M5 ⟨m.asks,ha⟩) W) (fun W _=>Ft m 4 _ (M4 ⟨m.asks,ha⟩) W)
  (fun W _=>uE _ _ _ hw.sn W) (fun W _=>uE _ _ _ hw.dn W) rfl rfl rfl rfl rfl
 rw[P6]at key;have ho:=Lg ⟨m.asks,ha⟩;have hh:=PE ⟨m.asks,ha⟩ (!gL m.fE) (!DK m.src) (!DK m.dst) ((m.bc:Int) !=0) (!gL m.sp) (!gL m.dp);have hx:∀p:Px,(cU p.v p.n p.k !=0)=!fW p.v p.n p.k:=fun p=>by unfold cU;cases fW p.v p.n p.k<;>rfl
 have hp0:((m.bc:Int) !=0)=!decide (m.bc=0):=by by_cases h:m.bc=0<;>simp[h]
 have hp6:((m.bc:Int) !=6)=!decide (m.bc=6):=by
  by_cases h:m.bc=6
  ·rw[h];rfl
  ·rw[decide_eq_false h];simp;omega
 have hp17:((m.bc:Int) !=17)=!decide (m.bc=17):=by
  by_cases h:m.bc=17
  ·rw[h];rfl
  ·rw[decide_eq_false h];simp;omega
 have hne:(m.src.v !=m.dst.v)=!decide (m.src.v=m.dst.v):=by cases m.src.v<;>cases m.dst.v<;>rfl
 have e:aY m=(!((bits .andNot .u8 (m.asks:Int) 63 !=0)||(bits .andNot .u8 (L6 (!gL m.fE) (!DK m.src) (!DK m.dst) ((m.bc:Int) !=0) (!gL m.sp) (!gL m.dp)) (m.asks:Int) !=0))&&
   ((!decide ((m.fE.2:Int) < (m.fE.1:Int))&&(!decide (255 < (m.fE.2:Int))&&(!decide ((m.sp.2:Int) < (m.sp.1:Int))&&!decide ((m.dp.2:Int) < (m.dp.1:Int)))))&&
   (((!m.asks.testBit 1||!(cU m.src.v m.src.n m.src.k !=0))&&((!m.asks.testBit 2||!(cU m.dst.v m.dst.n m.dst.k !=0))&&(!(m.asks.testBit 1&&m.asks.testBit 2)||!(m.src.v !=m.dst.v))))&&
   (!(m.asks.testBit 4||m.asks.testBit 5)||(!((m.bc:Int) !=6)||!((m.bc:Int) !=17)))))):=by
  rw[show(bits .andNot .u8 (m.asks:Int) 63 !=0)=decide (¬m.asks < 64)from ho];rw[show(bits .andNot .u8 (L6 (!gL m.fE) (!DK m.src) (!DK m.dst) ((m.bc:Int) !=0) (!gL m.sp) (!gL m.dp)) (m.asks:Int) !=0)=_ from hh];rw[hx,hx,hp6,hp17,hp0,hne];simp only[Bool.not_not];have h255:decide (m.fE.2≤255)=!decide (255 < (m.fE.2:Int)):=Ai m.fE.2 255;unfold aY;rw[Sn,Ai,h255,Ai,Ai];have:decide (¬m.asks < 64)=!decide (m.asks < 64):=decide_not;rw[this]
 rw[←e]at key;exact key
set_option maxRecDepth 100000
open Go.RowKit Go.Lib Go.Sort _root_.Go.Proofs.Tryz
def Vd(r:Rl):Value:=.agg r.cells.toArray
def TW(r:Rl):Sx.Row:=⟨81,.aj r.cells⟩
abbrev RP{α:Type}(r:Out α)(n:Nat):Prop:=r.okB=true∧r.pos≤n
abbrev Wo(f g:Nat)(A:Option Go.Addr)(n c i:Nat)(ws:List Bs){α:Type}(V:α→Value)(r:Out α):Prop:=∀W,eC W g A n c i ws→Calls prog f ((pt g 0)::[]).toArray W (bM g A n c V r W)
abbrev Wn{α β:Type}(r:Out α)(T:Out β):Prop:=∀code p,r=.no code p→T=.no code p
theorem Out.bind_assoc{α β γ:Type}(r:Out α)(g:α→Nat→Out β)(f:β→Nat→Out γ):(r.bind g).bind f=r.bind fun a i=>(g a i).bind f:=by cases r<;>rfl
theorem cI{α β:Type}{T:Out β}(r:Out α){f:α→Nat→Out β}(h:T=r.bind f):T=r.bind f:=h
theorem vt(s:Bs):((nE s).getD nz).n < 2^128 ∧ -9223372036854775808≤((nE s).getD nz).k∧((nE s).getD nz).k≤9223372036854775807:=by
 cases h:nE s with
 |none=>exact⟨by decide,by decide,by decide⟩
 |some p=>obtain⟨h1,h2,_⟩:=ri h;unfold fW at h2;rw[WW,WW,decide_eq_true_iff,decide_eq_true_iff]at h2;have:=eW p.v;exact⟨h1,by show _≤p.k;omega,by show p.k≤_;omega⟩
theorem Out.cA{α β:Type}{r:Out α}{f:α→Nat→Out β}{b:β}{j:Nat}(h:r.bind f=.ok b j):∃a i,r=.ok a i∧f a i=.ok b j:=by
 cases r with
 |ok a i=>exact⟨a,i,rfl,h⟩
 |no c p=>cases h
theorem Bb{α:Type}{b:Bool}{code:Nat}{a a':α}{i j:Nat}(h:aR b code a i=.ok a' j):b=true∧a'=a:=by
 cases b with
 |true=>injection h with h _;exact⟨rfl,h.symm⟩
 |false=>cases h
theorem zp{ws:List Bs}{i j:Nat}{s:Nat×Nat}(h:ig ws i=.ok s j):s.1≤65535∧s.2≤65535:=by obtain⟨x,k,_,hx⟩:=Out.cA h;obtain⟨hb,rfl⟩:=Bb hx;rw[WW]at hb;exact⟨vP hb.1,vP hb.2⟩
theorem pb{ws:List Bs}{i j:Nat}{p:Px}(h:dr ws i=.ok p j):p.n < 2^128 ∧ -9223372036854775808≤p.k∧p.k≤9223372036854775807:=by obtain⟨x,k,_,hx⟩:=Out.cA h;obtain⟨_,rfl⟩:=Bb hx;exact vt x
theorem La{ws:List Bs}{i j v:Nat}(h:dS ws i=.ok v j):v≤255:=by
 unfold dS at h;obtain⟨b,k,_,h⟩:=Out.cA h;cases b with
 |true=>injection h with h _;omega
 |false=>
  obtain⟨b,k,_,h⟩:=Out.cA h;cases b with
  |true=>injection h with h _;omega
  |false=>exact Et h
def Mt.Good(m:Mt):Prop:=m.Wf∧m.asks < 64
theorem j8:ei.Good:=⟨⟨by decide,by decide,by decide,by decide,by decide,by decide,by decide,by decide,by decide⟩,by decide⟩
theorem Ei{k:Nat}{m m':Mt}{ws:List Bs}{i j:Nat}(h:bV k m ws i=.ok m' j)(hm:m.Good):m'.Good:=by
 obtain⟨hw,ha⟩:=hm;rcases k with _|_|_|_|_|k
 ·obtain⟨s,l,hs,h⟩:=Out.cA h
  injection h with h _;subst h;exact⟨{ hw with fE:=zp hs },ha⟩
 ·obtain⟨s,l,hs,h⟩:=Out.cA h
  injection h with h _;subst h;exact⟨{ hw with sn:=(pb hs).1,sk:=(pb hs).2 },ha⟩
 ·obtain⟨s,l,hs,h⟩:=Out.cA h
  injection h with h _;subst h;exact⟨{ hw with dn:=(pb hs).1,dk:=(pb hs).2 },ha⟩
 ·obtain⟨s,l,hs,h⟩:=Out.cA h
  injection h with h _;subst h;exact⟨{ hw with pr:=La hs },ha⟩
 ·obtain⟨s,l,hs,h⟩:=Out.cA h
  injection h with h _;subst h;exact⟨{ hw with sp:=zp hs },ha⟩
 ·obtain⟨s,l,hs,h⟩:=Out.cA h
  injection h with h _;subst h;exact⟨{ hw with dp:=zp hs },ha⟩
theorem wS{ws:List Bs}{i:Nat}{m m':Mt}{b:Bool}{j:Nat}(h:aI ws i m=.ok (b,m') j)(hm:m.Good):m'.Good:=by
 unfold aI at h;split at h
 ·injection h with h _;injection h with _ h;rw[←h];exact hm
 ·split at h
  ·injection h with h _;injection h with _ h;rw[←h];exact hm
  ·rename_i k hk
   split at h
   ·cases h
   ·obtain⟨a,l,hr,h⟩:=Out.cA h
    injection h with h _;injection h with _ h;subst h;have h64:=Gj ⟨m.asks,hm.2⟩ ⟨k,wM hk⟩;exact Ei hr ⟨{ hm.1 with asks:=by show m.asks|||2^k < 256;exact Nat.lt_trans h64 (by decide) },h64⟩
theorem tG{ws:List Bs}:∀{f i:Nat} {m m':Mt} {j:Nat},dy ws f i m=.ok m' j→m.Good→m'.Good
 | 0,_,_,_,_,h,hm=>by injection h with h _;rw[←h];exact hm
 |f+1,_,_,_,_,h,hm=>by
  obtain⟨⟨b,a⟩,l,hr,h⟩:=Out.cA h;have hg:=wS hr hm;cases b with
  |true=>exact tG h hg
  |false=>injection h with h _;rw[←h];exact hm
theorem vV{ws:List Bs}{i:Nat}{m:Mt}{j:Nat}(h:cS ws i=.ok m j):m.Good:=by
 obtain⟨b,l,_,h⟩:=Out.cA h;cases b with
 |true=>injection h with h _;rw[←h];exact j8
 |false=>
  obtain⟨⟨b,a⟩,l,hr,h⟩:=Out.cA h;have hg:=wS hr j8;cases b with
  |true=>exact tG h hg
  |false=>obtain⟨_,_,_,h⟩:=Out.cA h;cases h
theorem Ph{w:World}{g:Nat}{A:Option Go.Addr}{n c i:Nat}{ws:List Bs}(h:eC w g A n c i ws):Calls prog 190 #[(pt g 0)] w (bM g A n c Vd (pU ws i) w):=by
 obtain⟨T,hT⟩:∃T,T=pU ws i:=⟨_,rfl⟩;have E1:=cI (fX ws i) hT;rw[←hT];clear hT;have n4:=fun W (hL:eC W g A n c i ws)=>rC hL;generalize fX ws i=r1 at E1 n4;have E2:=fun(h1:r1.okB=true)=>cI (cS ws r1.pos) (cw E1 h1);have n7:=fun W (hL:eC W g A n c r1.pos ws)=>Ce hL;have hg:(cS ws r1.pos).okB=true→(cS ws r1.pos).val.Good:=fun hh=>vV (Out.BS hh);generalize cS ws r1.pos=r2 at E2 n7 hg;have E3:=fun h1 (h2:r2.okB=true)=>cI (aO ws r2.pos) ((cw (E2 h1) h2).trans (Out.bind_assoc (aO ws r2.pos) _ _));have n11:=fun W (hL:eC W g A n c r2.pos ws)=>ou hL;generalize aO ws r2.pos=r3 at E3 n11;have n17:=fun(h2:r2.okB=true) W (_:ai [g] w W)=>lS r2.val (hg h2).1 W;have hck:WQ ((if aY r2.val=true then(0:Int)else 190)==0)=.bool (aY r2.val):=by cases aY r2.val<;>rfl
 obtain⟨ar,har⟩:∃ar,decide (r3.val=yF)=ar:=⟨_,rfl⟩;have E4:=fun h1 h2 (h3:r3.okB=true)=>cI (aR ar 200 () r3.pos) ((cw (E3 h1 h2) h3).trans (by rw[har];exact Out.bind_assoc (aR ar 200 () r3.pos) _ _));have n13:=fun W (hL:eC W g A n c r3.pos ws)=>nH ar 200 () hL;generalize aR ar 200 () r3.pos=r4 at E4 n13;have E5:=fun h1 h2 h3 (h4:r4.okB=true)=>cI (aR (aY r2.val) 190 () r4.pos) (cw (E4 h1 h2 h3) h4);generalize (if aY r2.val=true then(0:Int)else 190)=ck at n17 hck;generalize aY r2.val=cb at hck E5;have n19:=fun W (hL:eC W g A n c r4.pos ws)=>nH cb 190 () hL;generalize aR cb 190 () r4.pos=r5 at E5 n19;have E6:=fun h1 h2 h3 h4 (h5:r5.okB=true)=>cI (qQ true ws r5.pos) (cw (E5 h1 h2 h3 h4) h5);have n22:=fun W (hL:eC W g A n c r5.pos ws)=>yE true hL;generalize qQ true ws r5.pos=r6 at E6 n22;have E7:=fun h1 h2 h3 h4 h5 (h6:r6.okB=true)=>cI (qo bY ws r6.pos) (cw (E6 h1 h2 h3 h4 h5) h6);have opt:∀(k:Bs) (j:Nat),∃b p,cN ws j k=.ok b p∧(b=true→qo k ws j=fX ws p)∧(b=false→qo k ws j=.ok [] p):=fun k j=>by
  rcases gp (ws:=ws) (i:=j) (s:=k)with⟨t,_⟩ | t
  ·exact⟨true,j+1,t,fun _=>by unfold qo;rw[t];rfl,fun h=>by cases h⟩
  ·exact⟨false,j,t,fun h=>(by cases h),fun _=>by unfold qo;rw[t];rfl⟩
 obtain⟨bm,p7,t7,u7,v7⟩:=opt bY r6.pos;generalize qo bY ws r6.pos=r8 at E7 u7 v7;have n30:bm=true→Wo 188 g A n c p7 ws ae r8:=fun e W hL=>by rw[u7 e];exact rC hL
 have E9:=fun h1 h2 h3 h4 h5 h6 (h8:r8.okB=true)=>cI (qo bu ws r8.pos) (cw (E7 h1 h2 h3 h4 h5 h6) h8);obtain⟨bi,p9,t9,u9,v9⟩:=opt bu r8.pos;generalize qo bu ws r8.pos=r10 at E9 u9 v9;have n35:bi=true→Wo 188 g A n c p9 ws ae r10:=fun e W hL=>by rw[u9 e];exact rC hL
 have q:∀(u:Rl) {j:Nat} {α:Type} [Inhabited α] {f:Nat} {V:α→Value} {r:Out α} (rest:List Value),j≤n→Wn r T→(∀W,eC W g A n c j ws→Calls prog f ((pt g 0)::rest).toArray W (bM g A n c V r W))→_:=fun u j α _ f V r rest hj hno hn=>mQ (T:=T) [TW u] rest h hj hno hn
 have CH:=WN (q V8 [] h.le (cD E1) n4) fun(x1:RP r1 n)=>WN (q ⟨r1.val,ei,0,0,[],[]⟩ [] x1.2 (cD (E2 x1.1)) n7) fun(x2:RP r2 n)=>WN (q ⟨r1.val,r2.val,0,0,[],[]⟩ [] x2.2 (cD (E3 x1.1 x2.1)) n11) fun(x3:RP r3 n)=>WN (fun W=>eX (.tmp 11) (.const (ae yF)) r3.val yF ar har W)
  (WN (q ⟨r1.val,r2.val,0,0,[],[]⟩ [.bool ar,.int .i64 200] x3.2 (cD (E4 x1.1 x2.1 x3.1)) n13) fun(x4:RP r4 n)=>WN (n17 x2.1) (WN hck (WN (q ⟨r1.val,r2.val,0,0,[],[]⟩ [.bool cb,.int .i64 190] x4.2 (cD (E5 x1.1 x2.1 x3.1 x4.1)) n19) fun(x5:RP r5 n)=>WN (q ⟨r1.val,r2.val,0,0,[],[]⟩ [.bool true] x5.2 (cD (E6 x1.1 x2.1 x3.1 x4.1 x5.1)) n22) fun(x6:RP r6 n)=>
   WN (q ⟨r1.val,r2.val,r6.val.1,r6.val.2,[],[]⟩ [ae bY] (V:=fun b:Bool=>.bool b) (r:=Out.ok bm p7) x6.2 (fun _ _ hh=>by cases hh) (fun W hL=>t7 ▸ kY bY hL)) fun(x7:RP (Out.ok bm p7) n)=>
    have K8:=fun(x8:RP r8 n)=>WN (q ⟨r1.val,r2.val,r6.val.1,r6.val.2,r8.val,[]⟩ [ae bu] (V:=fun b:Bool=>.bool b) (r:=Out.ok bi p9) x8.2 (fun _ _ hh=>by cases hh) (fun W hL=>t9 ▸ kY bu hL)) fun(x9:RP (Out.ok bi p9) n)=>
     have K10:=fun(x10:RP r10 n)=>(show DM g A n c Vd T (.val (Vd ⟨r1.val,r2.val,r6.val.1,r6.val.2,r8.val,r10.val⟩)) [(g,154,dH A n c r10.pos)]from⟨⟨r1.val,r2.val,r6.val.1,r6.val.2,r8.val,r10.val⟩,r10.pos,cw (E9 x1.1 x2.1 x3.1 x4.1 x5.1 x6.1 x8.1) x10.1,x10.2,rfl,rfl⟩)
     kz.mk (b:=bi) (fun e=>WN (q ⟨r1.val,r2.val,r6.val.1,r6.val.2,r8.val,[]⟩ [] x9.2 (cD (E9 x1.1 x2.1 x3.1 x4.1 x5.1 x6.1 x8.1)) (n35 e)) K10) fun e=>K10 (by rw[v9 e];exact x9)
    kz.mk (b:=bm) (fun e=>WN (q ⟨r1.val,r2.val,r6.val.1,r6.val.2,[],[]⟩ [] x7.2 (cD (E7 x1.1 x2.1 x3.1 x4.1 x5.1 x6.1)) (n30 e)) K8) fun e=>K8 (by rw[v7 e];exact x7))))
 refine fP [] h.bO [(4,.ay (gC 0 g A n c r1 ae)),(7,.ay (gC 0 g A n c r2 fQ)),(11,.ay (gC 0 g A n c r3 ae)),(12,.bin (.bool ar)),(13,.ay (gC 0 g A n c r4 (fun _=>.tuple #[]))),(17,.call (.int .i64 ck)),(18,.is (.bool cb)),(19,.ay (gC 0 g A n c r5 (fun _=>.tuple #[]))),(22,.ay (gC 0 g A n c r6 DG)),(28,.ay (gC 0 g A n c (Out.ok bm p7) (fun b=>.bool b))),(30,.ay (gC 0 g A n c r8 ae)),(33,.ay (gC 0 g A n c (Out.ok bi p9) (fun b=>.bool b))),(35,.ay (gC 0 g A n c r10 ae))] [] (by kernel_rfl) func190 rfl (bU rfl) ?_;cases bm with
 |true=>
  cases bi with
  |true=>exact WV (by kernel_rfl) CH
  |false=>obtain rfl:=v9 rfl;exact WV (by kernel_rfl) CH
 |false=>
  obtain rfl:=v7 rfl;cases bi with
  |true=>exact WV (by kernel_rfl) CH
  |false=>obtain rfl:=v9 rfl;exact WV (by kernel_rfl) CH
open Go.RowKit Go.Lib Go.Sort
structure Sl where
 A:Option Go.Addr
 c:Nat
structure gG where
 p:Sl
 r:Sl
 l:Sl
 m:Sl
 i:Sl
def CF.cp(cf:CF):List Value:=cf.ak.map (.int .i64 ·)
def CF.cr(cf:CF):List Value:=cf.af.flatMap Rt.cells
def CF.cl(cf:CF):List Value:=cf.rules.flatMap Rl.cells
def CF.cm(cf:CF):List Value:=cf.ag.flatMap Me.cells
def CF.ci(cf:CF):List Value:=cf.ab.flatMap Mi.cells
def Wz(g gc gd:Nat)(s:gG):List (Option Nat):=[some g,some gc,some gd,s.p.A.map (·.block),s.r.A.map (·.block),s.l.A.map (·.block),s.m.A.map (·.block),s.i.A.map (·.block)]
def Cz(g gc gd:Nat)(s:gG):List Nat:=(Wz g gc gd s).filterMap id
structure qR(w:World)(gc:Nat)(cf:CF)(s:gG):Prop where
 bO:aq w gc 46 [.slice s.p.A cf.ak.length s.p.c,.slice s.r.A cf.af.length s.r.c,.slice s.l.A cf.rules.length s.l.c,.slice s.m.A cf.ag.length s.m.c,.slice s.i.A cf.ab.length s.i.c,.int .i64 cf.bA]
 p:Own w 3 1 (.slice s.p.A cf.ak.length s.p.c) cf.ak.length cf.cp
 r:Own w 118 19 (.slice s.r.A cf.af.length s.r.c) cf.af.length cf.cr
 l:Own w 81 49 (.slice s.l.A cf.rules.length s.l.c) cf.rules.length cf.cl
 m:Own w 122 4 (.slice s.m.A cf.ag.length s.m.c) cf.ag.length cf.cm
 i:Own w 124 3 (.slice s.i.A cf.ab.length s.i.c) cf.ab.length cf.ci
structure Vm(w:World)(g gc gd:Nat)(A:Option Go.Addr)(n c i:Nat)(ws:List Bs)(cf:CF)(d:Nat)(s:gG):Prop where
 uc:uI w (Cz g gc gd s) g A n c i ws
 at_:qR w gc cf s
 bd:aq w gd 3 [.int .i64 (d:Int)]
 nd:(Cz g gc gd s).Nodup
 qT:cf.ak.length≤1100000∧cf.af.length≤1100000∧cf.rules.length≤1100000∧cf.ag.length≤1100000∧cf.ab.length≤1100000
 Vi:d≤1100000
def UC(g gc gd:Nat)(A:Option Go.Addr)(n c i:Nat)(cf:CF)(d:Nat):List Sx.Row:=
 [⟨154,.cR g (dH A n c i)⟩,⟨46,.ji gc [.own 3,.own 4,.own 5,.own 6,.own 7,.val (.int .i64 cf.bA)]⟩,⟨3,.cR gd [.int .i64 (d:Int)]⟩,
  ⟨3,.own 1 cf.ak.length cf.cp⟩,⟨118,.own 19 cf.af.length cf.cr⟩,⟨81,.own 49 cf.rules.length cf.cl⟩,⟨122,.own 4 cf.ag.length cf.cm⟩,⟨124,.own 3 cf.ab.length cf.ci⟩]
def Q8(g gc gd:Nat)(A:Option Go.Addr)(n c:Nat)(T:Out CF)(d:Nat)(l:List Sx.SV)(mem:List Sx.Row):Prop:=
 ∃(cf:CF) (i k0 k1 k2 k3 k4:Nat),T=.ok cf i∧i≤n∧l=[]∧mem[0]?=some ⟨154,.cR g (dH A n c i)⟩∧mem[1]?=some ⟨46,.ji gc [.own k0,.own k1,.own k2,.own k3,.own k4,.val (.int .i64 cf.bA)]⟩∧mem[2]?=some ⟨3,.cR gd [.int .i64 (d:Int)]⟩∧
 mem[k0]?=some ⟨3,.own 1 cf.ak.length cf.cp⟩∧mem[k1]?=some ⟨118,.own 19 cf.af.length cf.cr⟩∧mem[k2]?=some ⟨81,.own 49 cf.rules.length cf.cl⟩∧mem[k3]?=some ⟨122,.own 4 cf.ag.length cf.cm⟩∧mem[k4]?=some ⟨124,.own 3 cf.ab.length cf.ci⟩
def s5(g gc gd:Nat)(A:Option Go.Addr)(n c:Nat)(T:Out CF)(d:Nat)(S:List Nat)(w:World)(e:Ending)(w':World):Prop:=
 (∃cf i s,T=.ok cf i∧i≤n∧e=.returned (.tuple #[])∧aq w' g 154 (dH A n c i)∧qR w' gc cf s∧aq w' gd 3 [.int .i64 (d:Int)]∧(Cz g gc gd s).Nodup∧(∀k∈Cz g gc gd s,k∈S∨w.heap.size≤k)∧ai S w w')∨
 (∃code p chain,T=.no code p∧e=.panicked chain∧A9 code p w chain w'∧ai S w w')
theorem vR{mem:List Sx.Row}{β:Sx.Env}(inj:∀(i j:Nat) (r r':Sx.Row) (k:Nat),mem[i]?=some r→mem[j]?=some r'→Sx.aB β i r=some k→Sx.aB β j r'=some k→i=j) :
  ∀(l:List (Nat×Option Nat)),(l.map (·.1)).Nodup→(∀x∈l,∀k,x.2=some k→∃r,mem[x.1]?=some r∧Sx.aB β x.1 r=some k)→((l.map (·.2)).filterMap id).Nodup
 | [],_,_=>by simp
 |x::l,hn,hr=>by
  rw[List.map_cons,Xd]at hn;have ih:=vR inj l hn.2 fun y hy=>hr y (Xn _ hy);cases hx:x.2 with
  |none=>simpa[hx]using ih
  |some k=>
   have e:((x::l).map (·.2)).filterMap id=k::(l.map (·.2)).filterMap id:=by simp[hx]
   rw[e,Xd];refine⟨fun hk=>?_,ih⟩;obtain⟨o,ho,hok⟩:=W8.1 hk;obtain⟨y,hy,rfl⟩:=Xk.1 ho;obtain⟨r,h1,h2⟩:=hr x (by simp) k hx;obtain⟨r',h3,h4⟩:=hr y (Xn _ hy) k hok;have:=inj _ _ _ _ _ h1 h3 h2 h4;exact hn.1 (Xk.2 ⟨y,hy,this.symm⟩)
theorem s5.iy{g gc gd:Nat}{A:Option Go.Addr}{n c:Nat}{T:Out CF}{d:Nat}{S:List Nat}{w:World}{e:Ending}{w':World}(h:Sx.dc ⟨w,S,oU T w⟩ (Q8 g gc gd A n c T d) e w'):s5 g gc gd A n c T d S w e w':=by
 rcases h with⟨β,l,mem,⟨cf,i,k0,k1,k2,k3,k4,h1,h2,rfl,m0,m1,m2,q0,q1,q2,q3,q4⟩,he,hR⟩ | ⟨chain,he,⟨code,p,h1,hf⟩,hc⟩
 ·have r0:=hR.held 0 _ m0
  have r1:=hR.held 1 _ m1;have r2:=hR.held 2 _ m2;have o0:=hR.held k0 _ q0;have o1:=hR.held k1 _ q1;have o2:=hR.held k2 _ q2;have o3:=hR.held k3 _ q3;have o4:=hR.held k4 _ q4;have e0:β 0=g:=r0.1;have e1:β 1=gc:=r1.1;have e2:β 2=gd:=r2.1;have o0:β.n k0=cf.ak.length∧Own w' 3 1 (.slice (β.a k0) cf.ak.length (β.c k0)) cf.ak.length cf.cp:=o0;have o1:β.n k1=cf.af.length∧Own w' 118 19 (.slice (β.a k1) cf.af.length (β.c k1)) cf.af.length cf.cr:=o1;have o2:β.n k2=cf.rules.length∧Own w' 81 49 (.slice (β.a k2) cf.rules.length (β.c k2)) cf.rules.length cf.cl:=o2;have o3:β.n k3=cf.ag.length∧Own w' 122 4 (.slice (β.a k3) cf.ag.length (β.c k3)) cf.ag.length cf.cm:=o3;have o4:β.n k4=cf.ab.length∧Own w' 124 3 (.slice (β.a k4) cf.ab.length (β.c k4)) cf.ab.length cf.ci:=o4;have b1:aq w' gc 46 [.slice (β.a k0) cf.ak.length (β.c k0),.slice (β.a k1) cf.af.length (β.c k1),.slice (β.a k2) cf.rules.length (β.c k2),.slice (β.a k3) cf.ag.length (β.c k3),.slice (β.a k4) cf.ab.length (β.c k4),.int .i64 cf.bA]:=by have:=r1.2;rw[e1]at this;have hh:([Sx.SV.own k0,.own k1,.own k2,.own k3,.own k4,.val (.int .i64 cf.bA)].map (Sx.SV.den β))=[β.sl k0,β.sl k1,β.sl k2,β.sl k3,β.sl k4,.int .i64 cf.bA]:=rfl;rw[hh]at this;unfold Sx.Env.sl at this;rw[o0.1,o1.1,o2.1,o3.1,o4.1]at this;exact this
  have rows:∀x∈[(0,some g),(1,some gc),(2,some gd),(k0,(β.a k0).map (·.block)),(k1,(β.a k1).map (·.block)),(k2,(β.a k2).map (·.block)),(k3,(β.a k3).map (·.block)),(k4,(β.a k4).map (·.block))],∀k,x.2=some k→∃r,mem[x.1]?=some r∧Sx.aB β x.1 r=some k:=by
   intro x hx k hk;simp only[WX,WS,or_false]at hx;rcases hx with rfl|rfl|rfl|rfl|rfl|rfl|rfl|rfl
   ·exact⟨_,m0,by show some (β 0)=_;rw[e0];exact hk⟩
   ·exact⟨_,m1,by show some (β 1)=_;rw[e1];exact hk⟩
   ·exact⟨_,m2,by show some (β 2)=_;rw[e2];exact hk⟩
   ·exact⟨_,q0,hk⟩
   ·exact⟨_,q1,hk⟩
   ·exact⟨_,q2,hk⟩
   ·exact⟨_,q3,hk⟩
   ·exact⟨_,q4,hk⟩
  have d:∀{a b:Nat} {r r':Sx.Row},mem[a]?=some r→mem[b]?=some r'→r≠r'→a≠b:=fun {a b r r'} ha hb hne he=>by subst he;rw[ha]at hb;exact hne (Option.some.inj hb)
  have nd:[0,1,2,k0,k1,k2,k3,k4].Nodup:=by simp only[Xd,WX,WS,or_false,not_or,not_false_eq_true,List.nodup_nil,and_true];exact⟨⟨(d m0 m1 (fun h=>by cases h)),(d m0 m2 (fun h=>by cases h)),(d m0 q0 (fun h=>by cases h)),(d m0 q1 (fun h=>by cases h)),(d m0 q2 (fun h=>by cases h)),(d m0 q3 (fun h=>by cases h)),(d m0 q4 (fun h=>by cases h))⟩,⟨(d m1 m2 (fun h=>by cases h)),(d m1 q0 (fun h=>by cases h)),(d m1 q1 (fun h=>by cases h)),(d m1 q2 (fun h=>by cases h)),(d m1 q3 (fun h=>by cases h)),(d m1 q4 (fun h=>by cases h))⟩,⟨(d m2 q0 (fun h=>by cases h)),(d m2 q1 (fun h=>by cases h)),(d m2 q2 (fun h=>by cases h)),(d m2 q3 (fun h=>by cases h)),(d m2 q4 (fun h=>by cases h))⟩,⟨(d q0 q1 (fun h=>by cases h)),(d q0 q2 (fun h=>by cases h)),(d q0 q3 (fun h=>by cases h)),(d q0 q4 (fun h=>by cases h))⟩,⟨(d q1 q2 (fun h=>by cases h)),(d q1 q3 (fun h=>by cases h)),(d q1 q4 (fun h=>by cases h))⟩,⟨(d q2 q3 (fun h=>by cases h)),(d q2 q4 (fun h=>by cases h))⟩,(d q3 q4 (fun h=>by cases h))⟩
  refine .inl ⟨cf,i,⟨⟨β.a k0,β.c k0⟩,⟨β.a k1,β.c k1⟩,⟨β.a k2,β.c k2⟩,⟨β.a k3,β.c k3⟩,⟨β.a k4,β.c k4⟩⟩,h1,h2,he,e0 ▸ r0.2,⟨b1,o0.2,o1.2,o2.2,o3.2,o4.2⟩,e2 ▸ r2.2,?_,fun k hk=>?_,hR.aF⟩
  ·exact vR hR.inj [(0,some g),(1,some gc),(2,some gd),(k0,(β.a k0).map (·.block)),(k1,(β.a k1).map (·.block)),(k2,(β.a k2).map (·.block)),(k3,(β.a k3).map (·.block)),(k4,(β.a k4).map (·.block))] nd rows
  ·obtain⟨o,ho,hok⟩:=W8.1 hk
   have hm:o∈([(0,some g),(1,some gc),(2,some gd),(k0,(β.a k0).map (·.block)),(k1,(β.a k1).map (·.block)),(k2,(β.a k2).map (·.block)),(k3,(β.a k3).map (·.block)),(k4,(β.a k4).map (·.block))]:List (Nat×Option Nat)).map (·.2):=ho;obtain⟨x,hx,rfl⟩:=Xk.1 hm;obtain⟨r,hr,hb⟩:=rows x hx k hok;exact hR.new x.1 r k hr hb
 ·exact .inr ⟨code,p,chain,h1,he,hf,hc⟩
def VM(g gc gd:Nat)(A:Option Go.Addr)(n c i:Nat)(cf:CF)(d:Nat)(s:gG):List Sx.kV:=
 [.bO g 154 (dH A n c i),.oN gc 46 [.own 3,.own 4,.own 5,.own 6,.own 7,.val (.int .i64 cf.bA)],.bO gd 3 [.int .i64 (d:Int)],
  .own 3 1 s.p.A cf.ak.length s.p.c cf.cp,.own 118 19 s.r.A cf.af.length s.r.c cf.cr,.own 81 49 s.l.A cf.rules.length s.l.c cf.cl,.own 122 4 s.m.A cf.ag.length s.m.c cf.cm,.own 124 3 s.i.A cf.ab.length s.i.c cf.ci]
theorem mZ{P:Program}{w:World}{f:FuncId}{fn:Func}{co:Code}{g gc gd:Nat}{A:Option Go.Addr}{n c i:Nat}{ws:List Bs}{cf:CF}{d d':Nat}{s:gG}{T:Out CF}(h:Vm w g gc gd A n c i ws cf d s)(H:List (Nat×Sx.Hint))(L:List Sx.Loop)
  (hm:P.follows .mixedOrders=true) (hf:P.funcs[f]?=some fn) (hbd:fn.body=some co) (hn:3≤fn.ntmps)
  (hx:Sx.ky P fn.ntmps ⟨w,Cz g gc gd s,oU T w⟩ co H L ⟨Sx.mf 0 [.ptr 0 0,.ptr 1 0,.ptr 2 0],UC g gc gd A n c i cf d⟩ (Sx.fM P fn (Q8 g gc gd A n c T d'))) :
  Calls P f #[.pointer (some ⟨g,0,none⟩),.pointer (some ⟨gc,0,none⟩),.pointer (some ⟨gd,0,none⟩)] w (s5 g gc gd A n c T d' (Cz g gc gd s) w):=by
 have hF:=Sx.gM (w:=w) (S:=Cz g gc gd s) (PP:=oU T w) (G:=VM g gc gd A n c i cf d s) (fun q hq=>by
  simp only[VM,WX,WS,or_false]at hq;rcases hq with rfl|rfl|rfl|rfl|rfl|rfl|rfl|rfl
  ·exact h.uc.bO
  ·exact h.at_.bO
  ·exact h.bd
  ·exact h.at_.p
  ·exact h.at_.r
  ·exact h.at_.l
  ·exact h.at_.m
  ·exact h.at_.i) (fun q hq k hk=>by
  have:Cz g gc gd s=(VM g gc gd A n c i cf d s).filterMap Sx.kV.block:=rfl;rw[this];exact W8.2 ⟨q,hq,hk⟩) h.nd
 exact(Sx.b6 (args:=[.ptr 0 0,.ptr 1 0,.ptr 2 0]) hF H L hm hf hbd hn rfl hx).mono fun _ _=>s5.iy
set_option maxRecDepth 100000
open Go.RowKit Go.Lib Go.Sort _root_.Go.Proofs.Tryz
noncomputable def bytesOf(t:Nat):Nat:=((prog.types[t]?).map (·.bytes)).getD 0
theorem oK:bytesOf 3≤1000∧bytesOf 118≤1000∧bytesOf 81≤1000∧bytesOf 122≤1000∧bytesOf 124≤1000:=by decide+kernel
theorem qL{cells:List Value}{size len B:Nat}(hl:cells.length=1*size)(ha:cells.all (fun u=>u.oneCell')=true)(hn:len≤1100000)(hb:B≤1000) :
  True∧cells.length=1*size∧(∀u:Value,u∈cells→u.oneCell'=true)∧len+1≤maxLen∧(len+1)*B≤140737488355328:=
 ⟨trivial,hl,fun u hu=>List.all_eq_true.1 ha u hu,by unfold maxLen;omega,Nat.le_trans (Nat.mul_le_mul (show len+1≤1100001 by omega) hb) (by decide)⟩
def dD(cf:CF):List Sx.Row:=[⟨3,.own 1 cf.ak.length cf.cp⟩,⟨118,.own 19 cf.af.length cf.cr⟩,⟨81,.own 49 cf.rules.length cf.cl⟩,⟨122,.own 4 cf.ag.length cf.cm⟩,⟨124,.own 3 cf.ab.length cf.ci⟩]
theorem CW{ws:List Bs}{α:Type}{a:α}{i n:Nat}(hl:ws.length=n)(h:decide (i < n)=true):pS ws a i=.no 200 (i+1):=by unfold pS;rw[hl,h]
theorem GY{ws:List Bs}{α:Type}{a:α}{i n:Nat}(hl:ws.length=n)(h:decide (i < n)=false):pS ws a i=.ok a i:=by unfold pS;rw[hl,h]
abbrev Vh(g gc gd:Nat)(A:Option Go.Addr)(n c:Nat)(cf:CF)(d i:Nat)(R:List Sx.Row):List Sx.Row:=⟨154,.cR g (dH A n c i)⟩::⟨46,.ji gc [.own 3,.own 4,.own 5,.own 6,.own 7,.val (.int .i64 cf.bA)]⟩::⟨3,.cR gd [.int .i64 (d:Int)]⟩::R
abbrev WA(g gc gd:Nat):Array Value:=#[(pt g 0),(pt gc 0),(pt gd 0)]
theorem uz{a n:Nat}{b:Bool}(h:decide (a < n)=b):WQ (decide ((a:Int) < (n:Int)))=.bool b:=bz (by rw[←h];congr 1;exact propext (by omega))
theorem UB(w:World)(g:Nat)(S:List Nat)(A:Option Go.Addr)(n c:Nat){T:Out CF}(p:Nat)(fin:T=.no 200 (p+1))(W:World)(hW:ai S w W)(_:aq W g 154 (dH A n c p)):Calls prog 94 #[(pt g 0),.int .i64 200,.int .i64 ((p:Int)+1)] W (Sx.qV ⟨w,S,oU T w⟩ W [(pt g 0),.int .i64 200,.int .i64 ((p:Int)+1)] (.Gh [(0,0)])):=lO (b:=⟨w,S,oU T w⟩) (vs:=[(pt g 0),.int .i64 200,.int .i64 ((p:Int)+1)]) (ps:=[(0,0)]) ((qE ((pt g 0)) 200 ((p:Int)+1) W).mono fun _ _ ⟨ch,he,hf,hc⟩=>⟨ch,he,(show oU T w _ _ from⟨200,p+1,fin,hf.up hW.size⟩),hc⟩)
def Si(a b c d e f:Bool):List (Nat×Sx.Hint):=[(20,.bin (.bool a)),(33,.bin (.bool b)),(50,.bin (.bool c)),(82,.bin (.bool d)),(103,.bin (.bool e)),(116,.bin (.bool f))]
def I3(p:Nat)(b:Bool):List (Nat×Sx.Hint):=[(145,.is (.bool b)),(151,.is (.int .i64 ((p:Int)+1))),(152,.rT)]
abbrev zM(g gc gd:Nat)(A:Option Go.Addr)(n c p d k0 k1 k2 k3 k4:Nat)(x:Int)(R:List Sx.Row):List Sx.Row:=⟨154,.cR g (dH A n c p)⟩::⟨46,.ji gc [.own k0,.own k1,.own k2,.own k3,.own k4,.val (.int .i64 x)]⟩::⟨3,.cR gd [.int .i64 (d:Int)]⟩::R
def C0(x:Bs)(d:Nat):Nat:=if x=bD then d+1 else d
abbrev px(p:Nat):Value:=.int .i64 ((p:Int)+1)
theorem Td{w:World}{g gc gd:Nat}{A:Option Go.Addr}{n c i:Nat}{ws:List Bs}{cf cf':CF}{d p:Nat}{s:gG}{T:Out CF}{b:Bool}{Z:Prop}(h:Vm w g gc gd A n c i ws cf d s)(hb:decide (p < n)=b)(hp:p≤n)(fin:T=pS ws cf' p)(hz:T=.ok cf' p→Z) :
  WQ (decide ((p:Int) < (n:Int)))=.bool b∧kz b (WO .i64 (W7.wrap ((p:Int)+1))=px p∧(∀W,ai (Cz g gc gd s) w W→aq W g 154 (dH A n c p)→Calls prog 94 #[(pt g 0),.int .i64 200,px p] W (Sx.qV ⟨w,Cz g gc gd s,oU T w⟩ W [(pt g 0),.int .i64 200,px p] (.Gh [(0,0)])))∧True) Z:=
 ⟨uz hb,kz.mk (fun e=>⟨iw (jC (by omega) (by have:=h.uc.bd;omega)),UB w g (Cz g gc gd s) A n c p (fin.trans (CW h.uc.jw.len (hb.trans e))),trivial⟩) fun e=>hz (fin.trans (GY h.uc.jw.len (hb.trans e)))⟩
def Vg(x:Bs)(a b c:Nat):List Sx.Row:=[⟨122,.aj (Me.cells ⟨x,a,b,c⟩)⟩,⟨253,.dC [.ptr 8 1,.ptr 8 2,.ptr 8 3]⟩]
abbrev VF:Value:=.int .u64 ((18446744073709551615:Nat):Int)
theorem Sh{w:World}{g gc gd:Nat}{A:Option Go.Addr}{n c i:Nat}{ws:List Bs}{cf:CF}{d:Nat}{s:gG}(h:Vm w g gc gd A n c i ws cf d s) :
  Calls prog 131 (WA g gc gd) w (s5 g gc gd A n c (rJ ws i cf d) (C0 (aO ws i).val d) (Cz g gc gd s) w):=by
 have E1:=cI (T:=rJ ws i cf d) (aO ws i) rfl;have n12:=fun W (hL:eC W g A n c i ws)=>ou hL;generalize aO ws i=r at E1 n12;have E2:=fun(hr:r.okB=true)=>cI (gf r.val ws r.pos cf d) (cw E1 hr);obtain⟨T,hT⟩:∃T,T=rJ ws i cf d:=⟨_,rfl⟩;have key:∀{α:Type} (q:Out α) (f:α→Nat→Out CF),gf r.val ws r.pos cf d=q.bind f→r.okB=true→T=q.bind fun a j=>(f a j).bind fun c j=>pS ws c j:=fun q f hb hr=>by rw[hT,E2 hr,hb];exact Out.bind_assoc _ _ _
 rw[←hT]at E1 E2 ⊢;clear hT;have c12:=j9 (T:=T) 0 (Vh g gc gd A n c cf d i (dD cf++[])) [] h.uc h.uc.le (cD E1) rfl n12;have q:∀{j:Nat} {R:List Sx.Row} {α:Type} [Inhabited α] {f:Nat} {V:α→Value} {u:Out α} (rest:List Value),j≤n→Wn u T→(∀W,eC W g A n c j ws→Calls prog f (.pointer (some ⟨g,0,none⟩)::rest).toArray W (bM g A n c V u W))→_:=fun {j R α _ f V u} rest hj hno hn=>j9 (T:=T) 0 (Vh g gc gd A n c cf d j (dD cf++R)) rest h.uc hj hno rfl hn;have sk:∀(k:Bs) {b:Bool},decide (r.val=k)=b→_:=fun k b hb W=>eX (.tmp 12) (.const (ae k)) r.val k b hb W;by_cases k0:r.val=lX
 ·rw[show C0 r.val d=d by unfold C0;rw[k0];rfl]
  have E3:=fun hr=>cI (ja ws r.pos) (key (ja ws r.pos) _ (by unfold gf;rw[if_pos k0]) hr);have n27:=fun W (hL:eC W g A n c r.pos ws)=>we hL;generalize ja ws r.pos=r2 at E3 n27;obtain⟨b,hb⟩:∃b,decide (r2.pos < n)=b:=⟨_,rfl⟩
  have CH:=WN c12 fun(x:RP r n)=>WN (sk lX (decide_eq_true k0)) (WN (q (R:=[]) [] x.2 (cD (E3 x.1)) n27) (WN (fun(y:RP r2 n)=>WN (qL (cells:=[rK r2.val]) (size:=1) (B:=bytesOf 3) (by kernel_rfl) (by kernel_rfl) h.qT.1 oK.1)
   (Td h hb y.2 (cw (E3 x.1) y.1) fun e=>(show Q8 g gc gd A n c T d [] (zM g gc gd A n c r2.pos d 9 4 5 6 7 cf.bA ((dD cf).set 0 Sx.au++[⟨3,.aj [rK r2.val]⟩,⟨3,.own 1 (cf.ak.length+1) (cf.cp++[rK r2.val])⟩]))from
    ⟨_,_,9,4,5,6,7,e,y.2,rfl,rfl,rfl,rfl,congrArg some (by simp[CF.cp,rK]),rfl,rfl,rfl,rfl⟩))) fun(_:¬RP r2 n)=>trivial))
  refine mZ h ((12,.ay (gC 0 g A n c r ae))::(27,.ay (gC 0 g A n c r2 rK))::(Si true false false false false false++I3 r2.pos b)) [] (by kernel_rfl) func131 rfl (bU rfl) ?_;cases b<;>exact WV (by kernel_rfl) CH
 have f0:=decide_eq_false k0;by_cases k1:r.val=dI
 ·rw[show C0 r.val d=d by unfold C0;rw[k1];rfl]
  have E3:=fun hr=>cI (dr ws r.pos) (key (dr ws r.pos) _ (by unfold gf;rw[if_neg k0,if_pos k1]) hr);have n35:=fun W (hL:eC W g A n c r.pos ws)=>sO hL;generalize dr ws r.pos=r2 at E3 n35;have E4:=fun hr h2=>cI (ja ws r2.pos) ((cw (E3 hr) h2).trans (Out.bind_assoc (ja ws r2.pos) _ _));have n43:=fun W (hL:eC W g A n c r2.pos ws)=>we hL;generalize ja ws r2.pos=r3 at E4 n43;obtain⟨b,hb⟩:∃b,decide (r3.pos < n)=b:=⟨_,rfl⟩;obtain⟨u,hu⟩:∃u:Rt,u=⟨r2.val,(r3.val:Int)⟩:=⟨_,rfl⟩
  have CH:=WN c12 fun(x:RP r n)=>WN (sk lX f0) (WN (sk dI (decide_eq_true k1)) (WN (q (R:=[]) [] x.2 (cD (E3 x.1)) n35) fun(y:RP r2 n)=>WN (q (R:=[⟨29,.aj r2.val.cells⟩]) [] y.2 (cD (E4 x.1 y.1)) n43) (WN (fun(z:RP r3 n)=>WN (qL (cells:=Rt.cells ⟨r2.val,(r3.val:Int)⟩) (size:=19) (B:=bytesOf 118) (by kernel_rfl) (by kernel_rfl) h.qT.2.1 oK.2.1)
   (Td h hb z.2 (cw (E4 x.1 y.1) z.1) fun e=>(show Q8 g gc gd A n c T d [] (zM g gc gd A n c r3.pos d 3 10 5 6 7 cf.bA ((dD cf).set 1 Sx.au++[⟨29,.aj r2.val.cells⟩,⟨118,.aj (Rt.cells ⟨r2.val,(r3.val:Int)⟩)⟩,⟨118,.own 19 (cf.af.length+1) (cf.cr++Rt.cells ⟨r2.val,(r3.val:Int)⟩)⟩]))from
    ⟨_,_,3,10,5,6,7,e,z.2,rfl,rfl,rfl,rfl,rfl,congrArg some (by simp[CF.cr]),rfl,rfl,rfl⟩))) fun(_:¬RP r3 n)=>trivial)))
  refine mZ h ((12,.ay (gC 0 g A n c r ae))::(35,.ay (gC 0 g A n c r2 lL))::(43,.ay (gC 0 g A n c r3 rK))::(Si false true false false false false++I3 r3.pos b)) [] (by kernel_rfl) func131 rfl (bU rfl) ?_;cases b<;>exact WV (by kernel_rfl) CH
 have f1:=decide_eq_false k1;by_cases k2:r.val=bY
 ·rw[show C0 r.val d=d by unfold C0;rw[k2];rfl]
  have E3:=fun hr=>cI (fX ws r.pos) (key (fX ws r.pos) _ (by unfold gf;rw[if_neg k0,if_neg k1,if_pos k2]) hr);have n52:=fun W (hL:eC W g A n c r.pos ws)=>rC hL;generalize fX ws r.pos=r2 at E3 n52;have E4:=fun hr h2=>cI (a6 18446744073709551615 ws r2.pos) ((cw (E3 hr) h2).trans (Out.bind_assoc (a6 18446744073709551615 ws r2.pos) _ _));have m1:=fun W (hL:eC W g A n c r2.pos ws)=>lV 18446744073709551615 (by omega) hL;generalize a6 18446744073709551615 ws r2.pos=r3 at E4 m1;have E5:=fun hr h2 h3=>cI (a6 18446744073709551615 ws r3.pos) ((cw (E4 hr h2) h3).trans (Out.bind_assoc (a6 18446744073709551615 ws r3.pos) _ _));have m2:=fun W (hL:eC W g A n c r3.pos ws)=>lV 18446744073709551615 (by omega) hL;generalize a6 18446744073709551615 ws r3.pos=r4 at E5 m2;have E6:=fun hr h2 h3 h4=>cI (a6 18446744073709551615 ws r4.pos) ((cw (E5 hr h2 h3) h4).trans (Out.bind_assoc (a6 18446744073709551615 ws r4.pos) _ _));have m3:=fun W (hL:eC W g A n c r4.pos ws)=>lV 18446744073709551615 (by omega) hL;generalize a6 18446744073709551615 ws r4.pos=r5 at E6 m3;obtain⟨b,hb⟩:∃b,decide (r5.pos < n)=b:=⟨_,rfl⟩;have CH:=WN c12 fun(x:RP r n)=>WN (sk lX f0) (WN (sk dI f1) (WN (sk bY (decide_eq_true k2)) (WN (q (R:=[]) [] x.2 (cD (E3 x.1)) n52) fun(y:RP r2 n)=>WN (q (R:=Vg r2.val 0 0 0) [VF] y.2 (cD (E4 x.1 y.1)) m1) fun(z:RP r3 n)=>WN (q (R:=Vg r2.val r3.val 0 0) [VF] z.2 (cD (E5 x.1 y.1 z.1)) m2) fun(u:RP r4 n)=>WN (q (R:=Vg r2.val r3.val r4.val 0) [VF] u.2 (cD (E6 x.1 y.1 z.1 u.1)) m3) fun(v:RP r5 n)=>
   WN (qL (cells:=Me.cells ⟨r2.val,r3.val,r4.val,r5.val⟩) (size:=4) (B:=bytesOf 122) (by kernel_rfl) (by kernel_rfl) h.qT.2.2.2.1 oK.2.2.2.1)
   (Td h hb v.2 (cw (E6 x.1 y.1 z.1 u.1) v.1) fun e=>(show Q8 g gc gd A n c T d [] (zM g gc gd A n c r5.pos d 3 4 5 11 7 cf.bA ((dD cf).set 3 Sx.au++(Vg r2.val r3.val r4.val r5.val++[⟨122,.aj (Me.cells ⟨r2.val,r3.val,r4.val,r5.val⟩)⟩,⟨122,.own 4 (cf.ag.length+1) (cf.cm++Me.cells ⟨r2.val,r3.val,r4.val,r5.val⟩)⟩])))from
    ⟨_,_,3,4,5,11,7,e,v.2,rfl,rfl,rfl,rfl,rfl,rfl,rfl,congrArg some (by simp[CF.cm]),rfl⟩)))))
  refine mZ h ((12,.ay (gC 0 g A n c r ae))::(52,.ay (gC 0 g A n c r2 ae))::(Si false false true false false false++I3 r5.pos b)) [.times [[(68,.ay (gC 0 g A n c r3 pR))],[(68,.ay (gC 0 g A n c r4 pR))],[(68,.ay (gC 0 g A n c r5 pR))],[]]] (by kernel_rfl) func131 rfl (bU rfl) ?_;cases b<;>exact WV (by kernel_rfl) CH
 have f2:=decide_eq_false k2;by_cases k3:r.val=bu
 ·rw[show C0 r.val d=d by unfold C0;rw[k3];rfl]
  have E3:=fun hr=>cI (fX ws r.pos) (key (fX ws r.pos) _ (by unfold gf;rw[if_neg k0,if_neg k1,if_neg k2,if_pos k3]) hr);have n84:=fun W (hL:eC W g A n c r.pos ws)=>rC hL;generalize fX ws r.pos=r2 at E3 n84;have E4:=fun hr h2=>cI (ja ws r2.pos) ((cw (E3 hr) h2).trans (Out.bind_assoc (ja ws r2.pos) _ _));have m1:=fun W (hL:eC W g A n c r2.pos ws)=>we hL;generalize ja ws r2.pos=r3 at E4 m1;have E5:=fun hr h2 h3=>cI (ja ws r3.pos) ((cw (E4 hr h2) h3).trans (Out.bind_assoc (ja ws r3.pos) _ _));have m2:=fun W (hL:eC W g A n c r3.pos ws)=>we hL;generalize ja ws r3.pos=r4 at E5 m2;obtain⟨b,hb⟩:∃b,decide (r4.pos < n)=b:=⟨_,rfl⟩;have CH:=WN c12 fun(x:RP r n)=>WN (sk lX f0) (WN (sk dI f1) (WN (sk bY f2) (WN (sk bu (decide_eq_true k3)) (WN (q (R:=[]) [] x.2 (cD (E3 x.1)) n84) fun(y:RP r2 n)=>WN (q (R:=[⟨124,.aj (Mi.cells ⟨r2.val,0,0⟩)⟩]) [] y.2 (cD (E4 x.1 y.1)) m1) fun(z:RP r3 n)=>WN (q (R:=[⟨124,.aj (Mi.cells ⟨r2.val,(r3.val:Int),0⟩)⟩]) [] z.2 (cD (E5 x.1 y.1 z.1)) m2) fun(u:RP r4 n)=>
   WN (qL (cells:=Mi.cells ⟨r2.val,(r3.val:Int),(r4.val:Int)⟩) (size:=3) (B:=bytesOf 124) (by kernel_rfl) (by kernel_rfl) h.qT.2.2.2.2 oK.2.2.2.2)
   (Td h hb u.2 (cw (E5 x.1 y.1 z.1) u.1) fun e=>(show Q8 g gc gd A n c T d [] (zM g gc gd A n c r4.pos d 3 4 5 6 10 cf.bA ((dD cf).set 4 Sx.au++[⟨124,.aj (Mi.cells ⟨r2.val,(r3.val:Int),(r4.val:Int)⟩)⟩,⟨124,.aj (Mi.cells ⟨r2.val,(r3.val:Int),(r4.val:Int)⟩)⟩,⟨124,.own 3 (cf.ab.length+1) (cf.ci++Mi.cells ⟨r2.val,(r3.val:Int),(r4.val:Int)⟩)⟩]))from
    ⟨_,_,3,4,5,6,10,e,u.2,rfl,rfl,rfl,rfl,rfl,rfl,rfl,rfl,congrArg some (by simp[CF.ci])⟩))))))
  refine mZ h ((12,.ay (gC 0 g A n c r ae))::(84,.ay (gC 0 g A n c r2 ae))::(87,.ay (gC 0 g A n c r3 rK))::(90,.ay (gC 0 g A n c r4 rK))::(Si false false false true false false++I3 r4.pos b)) [] (by kernel_rfl) func131 rfl (bU rfl) ?_;cases b<;>exact WV (by kernel_rfl) CH
 have f3:=decide_eq_false k3;by_cases k4:r.val=gV
 ·rw[show C0 r.val d=d by unfold C0;rw[k4];rfl]
  have E3:=fun hr=>cI (pU ws r.pos) (key (pU ws r.pos) _ (by unfold gf;rw[if_neg k0,if_neg k1,if_neg k2,if_neg k3,if_pos k4]) hr);have n110:=fun W (hL:eC W g A n c r.pos ws)=>Ph hL;generalize pU ws r.pos=r2 at E3 n110;obtain⟨b,hb⟩:∃b,decide (r2.pos < n)=b:=⟨_,rfl⟩;have CH:=WN c12 fun(x:RP r n)=>WN (sk lX f0) (WN (sk dI f1) (WN (sk bY f2) (WN (sk bu f3) (WN (sk gV (decide_eq_true k4)) (WN (q (R:=[]) [] x.2 (cD (E3 x.1)) n110) (WN (fun(y:RP r2 n)=>
   WN (qL (cells:=r2.val.cells) (size:=49) (B:=bytesOf 81) (by kernel_rfl) (by kernel_rfl) h.qT.2.2.1 oK.2.2.1)
   (Td h hb y.2 (cw (E3 x.1) y.1) fun e=>(show Q8 g gc gd A n c T d [] (zM g gc gd A n c r2.pos d 3 4 9 6 7 cf.bA ((dD cf).set 2 Sx.au++[⟨81,.aj r2.val.cells⟩,⟨81,.own 49 (cf.rules.length+1) (cf.cl++r2.val.cells)⟩]))from
    ⟨_,_,3,4,9,6,7,e,y.2,rfl,rfl,rfl,rfl,rfl,rfl,congrArg some (by simp[CF.cl]),rfl,rfl⟩))) fun(_:¬RP r2 n)=>trivial))))))
  refine mZ h ((12,.ay (gC 0 g A n c r ae))::(110,.ay (gC 0 g A n c r2 Vd))::(Si false false false false true false++I3 r2.pos b)) [] (by kernel_rfl) func131 rfl (bU rfl) ?_;cases b<;>exact WV (by kernel_rfl) CH
 have f4:=decide_eq_false k4;by_cases k5:r.val=bD
 ·rw[show C0 r.val d=d+1 by unfold C0;rw[if_pos k5]]
  have hdle:=h.Vi;have E3:=fun hr=>cI (aR (decide (d=0)) 200 () r.pos) (key (aR (decide (d=0)) 200 () r.pos) _ (by unfold gf;rw[if_neg k0,if_neg k1,if_neg k2,if_neg k3,if_neg k4,if_pos k5]) hr);have hd0:WQ (((d+1:Nat):Int)==1)=.bool (decide (d=0)):=by
   congr 1;by_cases h0:d=0
   ·rw[h0];rfl
   ·rw[decide_eq_false h0,beq_eq_false_iff_ne];omega
  generalize decide (d=0)=d0 at E3 hd0;have n127:=fun W (hL:eC W g A n c r.pos ws)=>nH d0 200 () hL;generalize aR d0 200 () r.pos=r1 at E3 n127;have E4:=fun hr h2=>cI (qQ false ws r1.pos) ((cw (E3 hr) h2).trans (Out.bind_assoc (qQ false ws r1.pos) _ _));have n131:=fun W (hL:eC W g A n c r1.pos ws)=>yE false hL;generalize qQ false ws r1.pos=r2 at E4 n131;obtain⟨b,hb⟩:∃b,decide (r2.pos < n)=b:=⟨_,rfl⟩
  have CH:=WN c12 fun(x:RP r n)=>WN (sk lX f0) (WN (sk dI f1) (WN (sk bY f2) (WN (sk bu f3) (WN (sk gV f4) (WN (sk bD (decide_eq_true k5)) (WN (show WO .i64 (W7.wrap ((d:Int)+1))=.int .i64 ((d+1:Nat):Int)from iw (by rw[jC (by omega) (by omega)];rfl)) (WN hd0
   (WN (j9 (T:=T) 0 (Vh g gc gd A n c cf (d+1) r.pos (dD cf++[])) [.bool d0,.int .i64 200] h.uc x.2 (cD (E3 x.1)) rfl n127) fun(y:RP r1 n)=>WN (j9 (T:=T) 0 (Vh g gc gd A n c cf (d+1) r1.pos (dD cf++[])) [.bool false] h.uc y.2 (cD (E4 x.1 y.1)) rfl n131) fun(z:RP r2 n)=>
   (Td h hb z.2 (cw (E4 x.1 y.1) z.1) fun e=>(show Q8 g gc gd A n c T (d+1) [] (zM g gc gd A n c r2.pos (d+1) 3 4 5 6 7 r2.val.1 (dD cf++[]))from⟨_,_,3,4,5,6,7,e,z.2,rfl,rfl,rfl,rfl,rfl,rfl,rfl,rfl,rfl⟩))))))))))
  refine mZ h ((12,.ay (gC 0 g A n c r ae))::(120,.is (.int .i64 ((d+1:Nat):Int)))::(126,.is (.bool d0))::(127,.ay (gC 0 g A n c r1 (fun _=>.tuple #[])))::(131,.ay (gC 0 g A n c r2 DG))::(Si false false false false false true++I3 r2.pos b)) [] (by kernel_rfl) func131 rfl (bU rfl) ?_;cases b<;>exact WV (by kernel_rfl) CH
 ·rw[show C0 r.val d=d by unfold C0;rw[if_neg k5]]
  have fin:r.okB=true→T=.no 200 r.pos:=fun hr=>by rw[E2 hr];unfold gf;rw[if_neg k0,if_neg k1,if_neg k2,if_neg k3,if_neg k4,if_neg k5];rfl
  have CH:=WN c12 fun(x:RP r n)=>Sx.t4 (sk lX f0) (sk dI f1) (sk bY f2) (sk bu f3) (Sx.t2 (sk gV f4) (sk bD (decide_eq_false k5)) (WN (fun W (hW:ai (Cz g gc gd s) w W) (_:aq W g 154 (dH A n c r.pos))=>lO (b:=⟨w,Cz g gc gd s,oU T w⟩) (vs:=[.pointer (some ⟨g,0,none⟩),.int .i64 200,.int .i64 (r.pos:Int)]) (ps:=[(0,0)]) ((qE (.pointer (some ⟨g,0,none⟩)) 200 (r.pos:Int) W).mono fun _ _ ⟨ch,he,hf,hc⟩=>⟨ch,he,(show oU T w _ _ from⟨200,r.pos,fin x.1,hf.up hW.size⟩),hc⟩)) trivial));refine mZ h ((12,.ay (gC 0 g A n c r ae))::(18,.rT)::Si false false false false false false) [] (by kernel_rfl) func131 rfl (bU rfl) ?_;exact WV (by kernel_rfl) CH
open Go.RowKit Go.Lib Go.Sort
def sB(c:UInt8):Bool:=c==32||c==9
def wC(cm:Bool)(c:UInt8):Bool:=!sB c&&!(cm&&c==35)
def runN(p:UInt8→Bool)(s:Bs)(i:Nat):Nat:=i+((s.drop i).takeWhile p).length
theorem mJ(p:UInt8→Bool)(s:Bs)(i:Nat):i≤runN p s i:=Nat.le_add_right _ _
theorem J3(p:UInt8→Bool):∀l:Bs,(l.takeWhile p).length≤l.length
 | []=>by simp
 |c::l=>by
  rw[WT];split
  ·have:=J3 p l;simp;omega
  ·simp
theorem mG(p:UInt8→Bool)(s:Bs)(i:Nat)(hi:i≤s.length):runN p s i≤s.length:=by have:=J3 p (s.drop i);rw[W4]at this;unfold runN;omega
theorem QB(p:UInt8→Bool):∀(l:Bs) (j:Nat),j < (l.takeWhile p).length→∃c,l[j]?=some c∧p c=true
 | [],j,h=>by simp at h
 |c::l,j,h=>by
  rw[WT]at h;split at h
  ·rename_i hc
   cases j with
   |zero=>exact⟨c,rfl,hc⟩
   |succ j=>exact QB p l j (by simpa using h)
  ·simp at h
theorem J2(p:UInt8→Bool):∀(l:Bs),(l.takeWhile p).length < l.length→∃c,l[(l.takeWhile p).length]?=some c∧p c=false
 | [],h=>by simp at h
 |c::l,h=>by
  rw[WT]at h ⊢;by_cases hc:p c=true
  ·rw[if_pos hc]at h ⊢
   have:=J2 p l (by simpa using h);simpa using this
  ·rw[if_neg hc]
   exact⟨c,rfl,by simpa using hc⟩
theorem Ot{p:UInt8→Bool}{s:Bs}{i j:Nat}(h1:i≤j)(h2:j < runN p s i):∃c,s[j]?=some c∧p c=true:=by obtain⟨c,h,hp⟩:=QB p (s.drop i) (j - i) (by unfold runN at h2; omega);rw[Xs,show i+(j - i)=j by omega]at h;exact⟨c,h,hp⟩
theorem Bz{p:UInt8→Bool}{s:Bs}{i:Nat}(hi:i≤s.length)(h:runN p s i < s.length):∃c,s[runN p s i]?=some c∧p c=false:=by obtain⟨c,h1,hp⟩:=J2 p (s.drop i) (by rw[W4];unfold runN at h;omega);rw[Xs]at h1;exact⟨c,h1,hp⟩
theorem Kt{p:UInt8→Bool}{s:Bs}{i:Nat}{c:UInt8}(h:s[i]?=some c)(hp:p c=true):i < runN p s i:=by
 have hl:=(WU.1 h).1;have e:s.drop i=c::s.drop (i+1):=by obtain⟨h1,rfl⟩:=WU.1 h;exact WY h1
 unfold runN;rw[e,WT,if_pos hp];simp
theorem s8(cm:Bool):∀(l:Bs),a7 cm [] l=a7 cm [] (l.drop (l.takeWhile sB).length)
 | []=>rfl
 |c::l=>by
  rw[WT];by_cases hc:sB c=true
  ·rw[if_pos hc,W5,Xq,←s8 cm l]
   have h1:c=32∨c=9:=by unfold sB at hc;rw[Xx,beq_iff_eq,beq_iff_eq]at hc;exact hc
   have h2:c≠35:=by rcases h1 with rfl|rfl<;>decide
   conv=>lhs;unfold a7
   rw[if_neg (by simp[h2]),if_pos h1,if_pos rfl]
  ·rw[if_neg hc];rfl
theorem uL(cm:Bool):∀(l cur:Bs),cur≠[]→a7 cm cur l=(cur++l.takeWhile (wC cm))::a7 cm [] (l.drop (l.takeWhile (wC cm)).length)
 | [],cur,h=>by simp[a7,h]
 |c::l,cur,h=>by
  rw[WT];by_cases hc:wC cm c=true
  ·rw[if_pos hc,W5,Xq]
   have ih:=uL cm l (cur++[c]) (by simp);rw[Xa]at ih;have hcc:=hc;unfold wC sB at hc;rw[WW,W2,W2,Xo,beq_eq_false_iff_ne,beq_eq_false_iff_ne,Xm,beq_eq_false_iff_ne]at hc
   conv=>lhs;unfold a7
   rw[if_neg (by rcases hc.2 with h|h<;>simp[h]),if_neg (by simp[hc.1.1,hc.1.2])];exact ih
  ·rw[if_neg hc]
   simp only[List.append_nil,List.length_nil,List.drop_zero];unfold a7;by_cases h35:cm=true∧c=35
   ·rw[if_pos h35,if_neg h,if_pos h35,if_pos rfl]
   ·rw[if_neg h35,if_neg h35]
    have h1:c=32∨c=9:=by
     have h2:sB c=true:=by
      cases hs:sB c with
      |true=>rfl
      |false=>
       exfalso;apply hc;unfold wC;rw[hs];cases cm with
       |false=>rfl
       |true=>have:c≠35:=fun h=>h35 ⟨rfl,h⟩;simp[this]
     unfold sB at h2;rw[Xx,beq_iff_eq,beq_iff_eq]at h2;exact h2
    rw[if_pos h1,if_pos h1,if_neg h,if_pos rfl]
def lC(cm:Bool)(s:Bs)(i:Nat):List Bs:=a7 cm [] (s.drop i)
theorem DQ(cm:Bool)(s:Bs)(i:Nat):lC cm s i=lC cm s (runN sB s i):=by unfold lC runN;rw[s8,XA]
theorem Ha(cm:Bool)(s:Bs):lC cm s s.length=[]:=by unfold lC;rw[List.drop_length];rfl
theorem DR(s:Bs)(i:Nat)(h:s[i]?=some 35):lC true s i=[]:=by
 unfold lC;have e:s.drop i=35::s.drop (i+1):=by obtain⟨h1,h2⟩:=WU.1 h;rw[←h2];exact WY h1
 rw[e];unfold a7;rw[if_pos ⟨rfl,rfl⟩,if_pos rfl]
theorem DP(cm:Bool)(s:Bs)(i:Nat){c:UInt8}(h:s[i]?=some c)(hc:wC cm c=true):lC cm s i=(s.take (runN (wC cm) s i)).drop i::lC cm s (runN (wC cm) s i):=by
 unfold lC;have e:s.drop i=c::s.drop (i+1):=by obtain⟨h1,h2⟩:=WU.1 h;rw[←h2];exact WY h1
 have e1:a7 cm [] (c::s.drop (i+1))=a7 cm [c] (s.drop (i+1)):=by
  have hcc:=hc;unfold wC sB at hcc;rw[WW,W2,W2,Xo,beq_eq_false_iff_ne,beq_eq_false_iff_ne,Xm,beq_eq_false_iff_ne]at hcc
  conv=>lhs;unfold a7
  rw[if_neg (by rcases hcc.2 with h|h<;>simp[h]),if_neg (by simp[hcc.1.1,hcc.1.2])];rfl
 have e2:(s.drop i).takeWhile (wC cm)=c::(s.drop (i+1)).takeWhile (wC cm):=by rw[e,WT,if_pos hc]
 have e3:(s.take (runN (wC cm) s i)).drop i=(s.drop i).takeWhile (wC cm):=by
  unfold runN;rw[List.drop_take,show i+((s.drop i).takeWhile (wC cm)).length - i=((s.drop i).takeWhile (wC cm)).length by omega];generalize s.drop i=l;induction l with
  |nil=>rfl
  |cons a l ih=>
   rw[WT];split
   ·rw[W5,List.take_succ_cons,ih]
   ·rfl
 rw[e3,e2]
 conv=>lhs;rw[e,e1,uL cm _ _ (by simp)]
 unfold runN;rw[e2,W5,XA];congr 3;omega
def ny(f:Nat→Nat)(k u:Nat):Nat→Nat:=de (de f (2*k) (u / 256)) (2*k+1) (u%256)
def gU(f:Nat→Nat):Nat→List Nat→(Nat→Nat)
 |_,[]=>f
 |k,u::l=>gU (ny f k u) (k+1) l
theorem uA:∀(l:List Nat) (f:Nat→Nat) (k j:Nat),gU f k l j=match l[j / 2 - k]? with
  |some u=>if k≤j / 2 then(if j%2=0 then u / 256 else u%256)else f j
  |none=>f j
 | [],f,k,j=>by simp[gU]
 |u::l,f,k,j=>by
  rw[gU,uA l];have hs:ny f k u j=if j / 2=k then(if j%2=0 then u / 256 else u%256)else f j:=by
   unfold ny de;by_cases h1:j=2*k+1
   ·rw[if_pos h1,if_pos (by omega),if_neg (by omega)]
   ·rw[if_neg h1]
    by_cases h2:j=2*k
    ·rw[if_pos h2,if_pos (by omega),if_pos (by omega)]
    ·rw[if_neg h2,if_neg (by omega)]
  rw[hs];rcases Nat.lt_trichotomy (j / 2) k with h|h|h
  ·rw[show j / 2 - (k+1)=0 by omega,show j / 2 - k=0 by omega]
   rw[if_neg (by omega:¬j / 2=k)];simp only[Xj];rw[if_neg (by omega:¬k≤j / 2)];split
   ·rw[if_neg (by omega)]
   ·rfl
  ·rw[if_pos h,show j / 2 - (k+1)=0 by omega,show j / 2 - k=0 by omega]
   simp only[Xj];rw[if_pos (by omega:k≤j / 2)];split
   ·rw[if_neg (by omega)]
   ·rfl
  ·rw[if_neg (by omega:¬j / 2=k),show j / 2 - k=(j / 2 - (k+1))+1 by omega,List.getElem?_cons_succ]
   split
   ·rw[if_pos (show k+1≤j / 2 by omega),if_pos (show k≤j / 2 by omega)]
   ·rfl
def uX(a b:List Nat):Nat→Nat:=gU (gU (fun _=>0) 0 a) (8 - b.length) b
def ss(l r:List UInt8)(fnd:Bool):(Nat→Nat)×Bool:=match ik l,ik r with
 |some a,some b=>if(fnd=false∧a.length≠8)∨8 < a.length+b.length then(fun _=>0,false)else(uX a b,true)
 |_,_=>(fun _=>0,false)
def pK(s:List UInt8):(Nat→Nat)×Bool:=ss (Lib.cut s [58,58]).1 (Lib.cut s [58,58]).2.1 (Lib.cut s [58,58]).2.2
theorem Od(a b:List Nat)(h:a.length+b.length≤8)(j u:Nat)(hu:(a++Xf (8 - a.length - b.length) 0++b)[j / 2]?=some u):uX a b j=if j%2=0 then u / 256 else u%256:=by
 unfold uX;rw[uA,uA];by_cases h1:j / 2 < a.length
 ·rw[Xa,Xg h1]at hu
  rw[Nat.sub_zero,hu];simp only[W3,if_true];split
  ·rw[if_neg (by omega)]
  ·rfl
 ·have ha:a[j / 2 - 0]?=none:=Xl (by omega)
  rw[ha];simp only;by_cases h2:j / 2 < 8 - b.length
  ·rw[Xa,Xe (by omega),Xg (by simp;omega),List.getElem?_replicate]at hu
   split at hu
   ·cases hu
    split
    ·rw[if_neg (by omega)];simp
    ·simp
   ·cases hu
  ·rw[Xe (by simp;omega)]at hu
   have e:j / 2 - (a++Xf (8 - a.length - b.length) 0).length=j / 2 - (8 - b.length):=by simp; omega
   rw[e]at hu;rw[hu];simp only;rw[if_pos (by omega)]
theorem zW:∀(s:List UInt8) (n m:Nat) (out l:List Nat),nB s n m out=some l→n < 16^m→(∀u∈out,u < 65536)→(∀u∈l,u < 65536)∧l.length≤8∨8 < out.length
 | [],n,m,out,l,h,hn,ho=>by
  rw[nB]at h;split at h
  ·cases h
  ·rename_i hc
   cases h;by_cases h8:8 < out.length
   ·exact .inr h8
   ·have:(16:Nat)^m≤16^4:=Xp (by omega) (by omega)
    refine .inl ⟨fun u hu=>?_,by simp;omega⟩;rcases Xv.1 hu with hu|hu
    ·exact ho u hu
    ·rw[WZ.1 hu];omega
 |c::s,n,m,out,l,h,hn,ho=>by
  rw[nB]at h;split at h
  ·split at h
   ·cases h
   ·rename_i hc
    by_cases h8:8 < out.length
    ·exact .inr h8
    ·have:(16:Nat)^m≤16^4:=Xp (by omega) (by omega)
     rcases zW s 0 0 (out++[n]) l h (by decide) (fun u hu=>by
      rcases Xv.1 hu with hu|hu
      ·exact ho u hu
      ·rw[WZ.1 hu];omega)with h' | h'
     ·exact .inl h'
     ·simp at h';omega
  ·split at h
   ·cases h
   ·refine zW s _ _ out l h ?_ ho
    have:fY c < 16:=by
     have:=c.toNat_lt;unfold fY;split
     ·omega
     ·split<;>omega
    rw[Nat.pow_succ];omega
theorem oq{s:List UInt8}{l:List Nat}(h:ik s=some l):(∀u∈l,u < 65536)∧l.length≤8:=by
 unfold ik at h;split at h
 ·cases h;simp
 ·rcases zW s 0 0 [] l h (by decide) (by simp)with h|h
  ·exact h
  ·simp at h
theorem po:ik []=some []:=rfl
theorem Kk(n:Nat):(pK (cB (aK n))).2=true∧∀j,j < 16→(pK (cB (aK n))).1 j=ah n j:=by
 have hl:=ew n;obtain⟨h1,h2,h3⟩:=wR (aK n) hl;have main:∀(a b:List Nat),a++Xf (8 - a.length - b.length) 0++b=aK n→a.length+b.length≤8→∀j,j < 16→uX a b j=ah n j:=by
  intro a b hab hlen j hj;have hg:=oC n (j / 2) (by omega);rw[←hab]at hg;rw[Od a b hlen j _ hg];have hb:=aX n (2*(j / 2)+1);split
  ·rename_i he
   rw[show dZ n (j / 2) / 256=ah n (2*(j / 2))by unfold dZ; omega,show 2*(j / 2)=j by omega]
  ·rename_i he
   rw[show dZ n (j / 2)%256=ah n (2*(j / 2)+1)by unfold dZ; omega,show 2*(j / 2)+1=j by omega]
 have hb:∀u∈aK n,u < 65536:=fun u hu=>gn hu;unfold pK;rw[yX];by_cases hg:(fF (zs (aK n))).1=(fF (zs (aK n))).2
 ·rw[if_pos hg]
  unfold ss;simp only[qp (aK n) hb (by rw[hl];omega),po];rw[if_neg (by rw[hl];simp)];exact⟨rfl,main _ _ (by rw[hl];simp) (by rw[hl];simp)⟩
 ·rw[if_neg hg]
  unfold ss;simp only[qp ((aK n).take (fF (zs (aK n))).1) (fun u hu=>hb u (List.mem_of_mem_take hu)) (by rw[Xt,hl];omega),qp ((aK n).drop (fF (zs (aK n))).2) (fun u hu=>hb u (List.mem_of_mem_drop hu)) (by rw[W4,hl];omega)];have hlen:((aK n).take (fF (zs (aK n))).1).length+((aK n).drop (fF (zs (aK n))).2).length≤8:=by rw[Xt,W4,hl];omega
  rw[if_neg (by simp only[W9,false_and,false_or];omega)];exact⟨rfl,main _ _ h3 hlen⟩
set_option maxRecDepth 100000
open Go.RowKit Go.Lib Go.Sort _root_.Go.Proofs.Tryz
set_option maxRecDepth 100000
structure gB where
 i:Nat
 k:Nat
 n:Nat
 b:Bool
 f:Nat→Nat
def jd(s:List UInt8)(q:gB):gB:=match s[q.i]? with
 |none=>⟨q.i+1,q.k+1,0,false,de q.f q.k q.n⟩
 |some c=>if c=46 then⟨q.i+1,q.k+1,0,false,de q.f q.k q.n⟩else⟨q.i+1,q.k,10*q.n+(c.toNat - 48),true,q.f⟩
def wG(s:List UInt8)(T:(Nat→Nat)×Bool)(q:gB):Prop:=q.n≤2567∧q.k≤4∧((q.i≤s.length∧eg (s.drop q.i) q.k q.n q.b q.f=T)∨(q.i=s.length+1∧T=(q.f,decide (q.k=4))))
def ki(s:List UInt8)(q:gB):List (Nat×Sx.SV):=[(0,.val (.string ⟨s.toArray⟩)),(2,.ptr 0 0),(4,.ptr 1 0),(5,.val (.int .i64 (q.k:Int))),(6,.val (.int .i64 (q.n:Int))),(7,.val (.bool q.b)),(8,.val (.int .i64 (q.i:Int)))]
def NS:List Value:=aw false fun _=>0
def gY(q:gB):List Sx.Row:=[⟨24,.aj NS⟩,⟨24,.aj (aw false q.f)⟩]
def tP(T:(Nat→Nat)×Bool):Value:=.tuple #[.agg (aw false T.1).toArray,.bool T.2]
def AE(x:(Nat→Nat)×Nat):List (Nat×Sx.SV):=[(2,.ptr 0 0),(4,.ptr 1 0),(5,.val (.int .i64 (x.2:Int)))]
def AD(x:(Nat→Nat)×Nat):List Sx.Row:=[⟨24,.aj NS⟩,⟨24,.aj (aw false x.1)⟩]
theorem D3(L:List Value)(off:Nat)(v:Value)(h:off < L.length):L.take off++([v]++L.drop (off+1))=L.set off v:=by rw[List.set_eq_take_append_cons_drop,if_pos h];rfl
theorem xx(v:Bool)(f:Nat→Nat)(k n:Nat)(hk:k < 16):(aw v f).take (1+k)++([.int .u8 (n:Int)]++(aw v f).drop (1+k+1))=aw v (de f k n):=by rw[D3 _ _ _ (by rw[az];omega)];exact rX v f (de f k n) k n (by simp[de]) (fun j _ h=>by simp[de,h])
theorem EX(s:List UInt8)(T:(Nat→Nat)×Bool)(w:World)(hs:s.length≤100000000)(q:gB)(hq:wG s T q):∃H' L',Sx.ex prog 69 w (Sx.bq f45 0) H' L' ⟨ki s q,gY q⟩
  (Sx.dP (wG s T) (ki s) gY (jd s) (fun q=>s.length+2 - q.i) (fun(x:(Nat→Nat)×Nat)=>T=(x.1,decide (x.2=4))) AE AD (fun q=>(q.f,q.k)) (Sx.eo (Sx.bq f45 0) - 1) (Sx.atEnd prog f45 (fun u=>u=tP T) .ret) q):=by
 obtain⟨i,k,n,b,f⟩:=q;obtain⟨hn,hk4,hk⟩:=hq;simp only at hn hk4 hk;have gb:=iY s;have c17:=iY s;rcases hk with⟨hi,hk⟩ | ⟨hi,hk⟩
 ·have c12:=bT ((i:Int)≤(s.length:Int)) (by omega)
  have c14:=mY (i:=i) (by omega);have bad:∀{g:Nat→Nat},T=(g,false)→XD #[.agg (aw false g).toArray,.bool false]=tP T:=fun h=>by rw[h];rfl
  rcases Nat.lt_or_eq_of_le hi with hlt|he
  ·obtain⟨c,hc⟩:∃c,s[i]?=some c:=⟨_,Xh hlt⟩
   have hdrop:s.drop i=c::s.drop (i+1):=by rw[WY hlt];have:=Xh hlt;rw[hc]at this;rw[Option.some.inj this]
   rw[hdrop,eg]at hk;have c18:WQ ((i:Int)==(s.length:Int))=.bool false:=qa (by simp;omega);have c22:=lF s i c hc;by_cases h46:c=46
   ·rw[if_pos h46]at hk
    have c23:WQ ((c.toNat:Int)==46)=.bool true:=qI (by rw[h46];rfl);have hnx:jd s ⟨i,k,n,b,f⟩=⟨i+1,k+1,0,false,de f k n⟩:=by simp only[jd,hc,if_pos h46]
    cases b with
    |false=>have z0:=bad (g:=f) (by rw[if_pos (.inl rfl)]at hk;exact hk.symm);refine⟨[(11,.is (.int .i64 (s.length:Int))),(12,.is (.bool true)),(17,.is (.int .i64 (s.length:Int))),(18,.is (.bool false)),(22,.bin (u8 c)),(23,.is (.bool true))],[],?_⟩;exact WV (by kernel_rfl) (Sx.t4 gb c12 c17 c18 (Sx.t2 c22 c23 z0))
    |true=>
     by_cases h255:255 < n
     ·have z0:=bad (g:=f) (by rw[if_pos (.inr (.inl h255))]at hk;exact hk.symm)
      have nr:=bT ((n:Int) > 255) (by omega);refine⟨[(11,.is (.int .i64 (s.length:Int))),(12,.is (.bool true)),(17,.is (.int .i64 (s.length:Int))),(18,.is (.bool false)),(22,.bin (u8 c)),(23,.is (.bool true)),(29,.is (.bool true))],[],?_⟩;exact WV (by kernel_rfl) (Sx.t4 gb c12 c17 c18 (Sx.t2 c22 c23 (WN nr z0)))
     ·have nr:=bF ((n:Int) > 255) (by omega)
      by_cases h3:3 < k
      ·have z0:=bad (g:=f) (by rw[if_pos (.inr (.inr h3))]at hk;exact hk.symm)
       have c33:=bT ((k:Int) > 3) (by omega);refine⟨[(11,.is (.int .i64 (s.length:Int))),(12,.is (.bool true)),(17,.is (.int .i64 (s.length:Int))),(18,.is (.bool false)),(22,.bin (u8 c)),(23,.is (.bool true)),(29,.is (.bool false)),(33,.is (.bool true))],[],?_⟩;exact WV (by kernel_rfl) (Sx.t8 gb c12 c17 c18 c22 c23 nr c33 z0)
      ·have c33:=bF ((k:Int) > 3) (by omega)
       rw[if_neg (by simp only[W9,false_or];omega)]at hk;have c38:WO .u8 (W6.wrap (n:Int))=.int .u8 (n:Int):=iu (Rb (by omega) (by omega));have c40:(0:Int)≤(k:Int)∧(k:Int) < 16:=by omega
       have c100040:0+1+((k:Int).toNat*1)+1≤(aw false f).length∧(aw false f).take (0+1+((k:Int).toNat*1))++([.int .u8 (n:Int)]++(aw false f).drop (0+1+((k:Int).toNat*1)+1))=aw false (de f k n):=by rw[Xu,XG,XF];exact⟨by rw[az];omega,xx false f k n (by omega)⟩
       have uh:=mY (i:=k) (by omega);have h0:wG s T (⟨i+1,k+1,0,false,de f k n⟩:gB):=⟨W3 _,by show k+1≤4;omega,.inl ⟨hlt,hk⟩⟩;have h1:s.length+2 - (⟨i+1,k+1,0,false,de f k n⟩:gB).i < s.length+2 - i:=by show s.length+2 - (i+1) < _; omega
       have h2:ki s (⟨i+1,k+1,0,false,de f k n⟩:gB)=ki s (⟨i+1,k+1,0,false,de f k n⟩:gB):=rfl;have z3:gY (⟨i+1,k+1,0,false,de f k n⟩:gB)=gY (⟨i+1,k+1,0,false,de f k n⟩:gB):=rfl;refine⟨[(11,.is (.int .i64 (s.length:Int))),(12,.is (.bool true)),(17,.is (.int .i64 (s.length:Int))),(18,.is (.bool false)),(22,.bin (u8 c)),(23,.is (.bool true)),(29,.is (.bool false)),(33,.is (.bool false)),(38,.is (.int .u8 (n:Int))),(40,.ix),(100040,.st (aw false (de f k n))),(42,.is (.int .i64 ((k+1:Nat):Int))),(14,.is (.int .i64 ((i+1:Nat):Int)))],[],?_⟩;rw[eu hnx];exact WV (by kernel_rfl) (Sx.t8 gb c12 c17 c18 c22 c23 nr c33 (Sx.t8 c38 c40 c100040 uh c14 h0 h1 h2 z3))
   ·rw[if_neg h46]at hk
    have c23:WQ ((c.toNat:Int)==46)=.bool false:=qa (by have:c.toNat≠46:=fun h=>h46 (UInt8.toNat_inj.1 (by rw[h];rfl));simp;omega);have hnx:jd s ⟨i,k,n,b,f⟩=⟨i+1,k,10*n+(c.toNat - 48),true,f⟩:=by simp only[jd,hc,if_neg h46]
    have c45:=c22;have c50:=c22;have c62:=c22;have hc255:=JY c;by_cases h48:c.toNat < 48
    ·have z0:=bad (g:=f) (by rw[if_pos (.inl h48)]at hk;exact hk.symm)
     have c46:=bT ((c.toNat:Int) < 48) (by omega);refine⟨[(11,.is (.int .i64 (s.length:Int))),(12,.is (.bool true)),(17,.is (.int .i64 (s.length:Int))),(18,.is (.bool false)),(22,.bin (u8 c)),(23,.is (.bool false)),(45,.bin (u8 c)),(46,.is (.bool true))],[],?_⟩;exact WV (by kernel_rfl) (Sx.t8 gb c12 c17 c18 c22 c23 c45 c46 z0)
    ·have c46:=bF ((c.toNat:Int) < 48) (by omega)
     by_cases h57:57 < c.toNat
     ·have z0:=bad (g:=f) (by rw[if_pos (.inr (.inl h57))]at hk;exact hk.symm)
      have c51:=bT ((c.toNat:Int) > 57) (by omega);refine⟨[(11,.is (.int .i64 (s.length:Int))),(12,.is (.bool true)),(17,.is (.int .i64 (s.length:Int))),(18,.is (.bool false)),(22,.bin (u8 c)),(23,.is (.bool false)),(45,.bin (u8 c)),(46,.is (.bool false)),(50,.bin (u8 c)),(51,.is (.bool true))],[],?_⟩;exact WV (by kernel_rfl) (Sx.t8 gb c12 c17 c18 c22 c23 c45 c46 (Sx.t2 c50 c51 z0))
     ·have c51:=bF ((c.toNat:Int) > 57) (by omega)
      by_cases h255:255 < n
      ·have z0:=bad (g:=f) (by rw[if_pos (.inr (.inr h255))]at hk;exact hk.symm)
       have c55:=bT ((n:Int) > 255) (by omega);refine⟨[(11,.is (.int .i64 (s.length:Int))),(12,.is (.bool true)),(17,.is (.int .i64 (s.length:Int))),(18,.is (.bool false)),(22,.bin (u8 c)),(23,.is (.bool false)),(45,.bin (u8 c)),(46,.is (.bool false)),(50,.bin (u8 c)),(51,.is (.bool false)),(55,.is (.bool true))],[],?_⟩;exact WV (by kernel_rfl) (Sx.t8 gb c12 c17 c18 c22 c23 c45 c46 (Sx.t2 c50 c51 (WN c55 z0)))
      ·have c55:=bF ((n:Int) > 255) (by omega)
       rw[if_neg (by omega)]at hk;have c59:WO .i64 (W7.wrap (10*(n:Int)))=.int .i64 ((10*n:Nat):Int):=iw (by rw[jC (by omega) (by omega)];omega);have c63:WO .u8 (W6.wrap ((c.toNat:Int) - 48))=.int .u8 ((c.toNat - 48:Nat):Int):=iu (by rw[Rb (by omega) (by omega)]; omega);have c64:WO .i64 (W7.wrap ((c.toNat - 48:Nat):Int))=.int .i64 ((c.toNat - 48:Nat):Int):=iw (jC (by omega) (by omega));have c65:WO .i64 (W7.wrap (((10*n:Nat):Int)+((c.toNat - 48:Nat):Int)))=.int .i64 ((10*n+(c.toNat - 48):Nat):Int):=iw (by rw[jC (by omega) (by omega)]; omega);generalize hd:c.toNat - 48=d at *;have h0:wG s T ⟨i+1,k,10*n+d,true,f⟩:=⟨by show 10*n+d≤2567;omega,hk4,.inl ⟨hlt,hk⟩⟩;have h1:s.length+2 - (⟨i+1,k,10*n+d,true,f⟩:gB).i < s.length+2 - i:=by show s.length+2 - (i+1) < _; omega
       have h2:ki s ⟨i+1,k,10*n+d,true,f⟩=ki s ⟨i+1,k,10*n+d,true,f⟩:=rfl;have z3:gY ⟨i+1,k,10*n+d,true,f⟩=gY ⟨i+1,k,10*n+d,true,f⟩:=rfl;refine⟨[(11,.is (.int .i64 (s.length:Int))),(12,.is (.bool true)),(17,.is (.int .i64 (s.length:Int))),(18,.is (.bool false)),(22,.bin (u8 c)),(23,.is (.bool false)),(45,.bin (u8 c)),(46,.is (.bool false)),(50,.bin (u8 c)),(51,.is (.bool false)),(55,.is (.bool false)),(59,.is (.int .i64 ((10*n:Nat):Int))),(62,.bin (u8 c)),(63,.is (.int .u8 (d:Int))),(64,.is (.int .i64 (d:Int))),(65,.is (.int .i64 ((10*n+d:Nat):Int))),(14,.is (.int .i64 ((i+1:Nat):Int)))],[],?_⟩;rw[eu hnx];exact WV (by kernel_rfl) (Sx.t8 gb c12 c17 c18 c22 c23 c45 c46 (Sx.t8 c50 c51 c55 c59 c62 c63 c64 c65 (Sx.t4 c14 h0 h1 h2 z3)))
  ·have c18:WQ ((i:Int)==(s.length:Int))=.bool true:=qI (by simp;omega)
   have hdrop:s.drop i=[]:=List.drop_of_length_le (by omega);rw[hdrop,eg]at hk;have hnone:s[i]?=none:=Xl (by omega);have hnx:jd s ⟨i,k,n,b,f⟩=⟨i+1,k+1,0,false,de f k n⟩:=by simp only[jd,hnone]
   cases b with
   |false=>have z0:=bad (g:=f) (by rw[if_pos (.inl rfl)]at hk;exact hk.symm);refine⟨[(11,.is (.int .i64 (s.length:Int))),(12,.is (.bool true)),(17,.is (.int .i64 (s.length:Int))),(18,.is (.bool true))],[],?_⟩;exact WV (by kernel_rfl) (Sx.t4 gb c12 c17 c18 z0)
   |true=>
    by_cases h255:255 < n
    ·have z0:=bad (g:=f) (by rw[if_pos (.inr (.inl h255))]at hk;exact hk.symm)
     have nr:=bT ((n:Int) > 255) (by omega);refine⟨[(11,.is (.int .i64 (s.length:Int))),(12,.is (.bool true)),(17,.is (.int .i64 (s.length:Int))),(18,.is (.bool true)),(29,.is (.bool true))],[],?_⟩;exact WV (by kernel_rfl) (Sx.t4 gb c12 c17 c18 (WN nr z0))
    ·have nr:=bF ((n:Int) > 255) (by omega)
     by_cases h3:3 < k
     ·have z0:=bad (g:=f) (by rw[if_pos (.inr (.inr h3))]at hk;exact hk.symm)
      have c33:=bT ((k:Int) > 3) (by omega);refine⟨[(11,.is (.int .i64 (s.length:Int))),(12,.is (.bool true)),(17,.is (.int .i64 (s.length:Int))),(18,.is (.bool true)),(29,.is (.bool false)),(33,.is (.bool true))],[],?_⟩;exact WV (by kernel_rfl) (Sx.t4 gb c12 c17 c18 (Sx.t2 nr c33 z0))
     ·have c33:=bF ((k:Int) > 3) (by omega)
      rw[if_neg (by simp only[W9,false_or];omega)]at hk;have c38:WO .u8 (W6.wrap (n:Int))=.int .u8 (n:Int):=iu (Rb (by omega) (by omega));have c40:(0:Int)≤(k:Int)∧(k:Int) < 16:=by omega
      have c100040:0+1+((k:Int).toNat*1)+1≤(aw false f).length∧(aw false f).take (0+1+((k:Int).toNat*1))++([.int .u8 (n:Int)]++(aw false f).drop (0+1+((k:Int).toNat*1)+1))=aw false (de f k n):=by rw[Xu,XG,XF];exact⟨by rw[az];omega,xx false f k n (by omega)⟩
      have uh:=mY (i:=k) (by omega);have h0:wG s T (⟨i+1,k+1,0,false,de f k n⟩:gB):=⟨W3 _,by show k+1≤4;omega,.inr ⟨by show i+1=s.length+1;omega,hk.symm⟩⟩;have h1:s.length+2 - (⟨i+1,k+1,0,false,de f k n⟩:gB).i < s.length+2 - i:=by show s.length+2 - (i+1) < _; omega
      have h2:ki s (⟨i+1,k+1,0,false,de f k n⟩:gB)=ki s (⟨i+1,k+1,0,false,de f k n⟩:gB):=rfl;have z3:gY (⟨i+1,k+1,0,false,de f k n⟩:gB)=gY (⟨i+1,k+1,0,false,de f k n⟩:gB):=rfl;refine⟨[(11,.is (.int .i64 (s.length:Int))),(12,.is (.bool true)),(17,.is (.int .i64 (s.length:Int))),(18,.is (.bool true)),(29,.is (.bool false)),(33,.is (.bool false)),(38,.is (.int .u8 (n:Int))),(40,.ix),(100040,.st (aw false (de f k n))),(42,.is (.int .i64 ((k+1:Nat):Int))),(14,.is (.int .i64 ((i+1:Nat):Int)))],[],?_⟩;rw[eu hnx];exact WV (by kernel_rfl) (Sx.t8 gb c12 c17 c18 nr c33 c38 c40 (Sx.t4 c100040 uh c14 h0 (Sx.t2 h1 h2 z3)))
 ·have c12:=bF ((i:Int)≤(s.length:Int)) (by omega)
  have h0:T=(f,decide (k=4)):=hk;have h1:AE (f,k)=AE (f,k):=rfl;have z2:AD (f,k)=AD (f,k):=rfl;refine⟨[(11,.is (.int .i64 (s.length:Int))),(12,.is (.bool false))],[],?_⟩;exact WV (by kernel_rfl) (Sx.t4 gb c12 h0 h1 z2)
theorem AB(s:List UInt8)(hs:s.length≤100000000)(w:World):Calls prog 45 #[.string ⟨s.toArray⟩] w (Rn w (tP (eg s 0 0 false fun _=>0))):=by
 have hT:eg (s.drop 0) 0 0 false (fun _=>0)=eg s 0 0 false (fun _=>0):=rfl;generalize eg s 0 0 false (fun _=>0)=T at*;have h0:wG s T ⟨0,0,0,false,fun _=>0⟩:=⟨W3 _,W3 _,.inl ⟨W3 _,hT⟩⟩;have e1:ki s ⟨0,0,0,false,fun _=>0⟩=ki s ⟨0,0,0,false,fun _=>0⟩∧gY ⟨0,0,0,false,fun _=>0⟩=gY ⟨0,0,0,false,fun _=>0⟩:=⟨rfl,rfl⟩;have jz:=EX s T w hs;have c68:∀x:(Nat→Nat)×Nat,WQ ((x.2:Int)==4)=.bool (decide (x.2=4)):=fun x=>bz (by rw[Xy];simp;omega);have z5:∀x:(Nat→Nat)×Nat,T=(x.1,decide (x.2=4))→XD #[.agg (aw false x.1).toArray,.bool ((x.2:Int)==4)]=tP T:=fun x hx=>by have:=c68 x;injection this with this;rw[hx,this];rfl
 refine Sx.ao (args:=[.string ⟨s.toArray⟩]) [] [.mk gB ⟨0,0,0,false,fun _=>0⟩ (wG s T) (ki s) gY (jd s) (fun q=>s.length+2 - q.i) ((Nat→Nat)×Nat) (fun(x:(Nat→Nat)×Nat)=>T=(x.1,decide (x.2=4))) AE AD (fun q=>(q.f,q.k))] (by kernel_rfl) func45 rfl (bU rfl) ?_;exact WV (by kernel_rfl) (Sx.t2 h0 e1 (WN jz (fun(x:(Nat→Nat)×Nat) (hx4:T=(x.1,decide (x.2=4)))=>z5 x hx4)))
end Go.Proofs.YtnncigmpcdehnaaGreatDoor
