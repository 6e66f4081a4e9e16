import Derived.Test.YtnncigmpcdehnaaGreatDoorQi06
open And renaming intro→VE
open Go.Value renaming int→VF,bool→VH,pointer→VV,formed→VW
open Int renaming ofNat→VG
open List renaming not_mem_nil→VI,mem_cons→VJ,getElem?_eq_some_iff→VP,mem_singleton→VT
open Eq renaming mp→VK
open Go.IntKind renaming u16→VL,signed→VO,bits→VQ,u8→VR,wrap→VU
open Nat renaming beq→VM,ble→VS,le_refl→VY
open Bool renaming and_eq_true→VN
namespace Go.Proofs.YtnncigmpcdehnaaGreatDoor
set_option maxRecDepth 100000
open Go.RowKit Go.Lib Go.Sort _root_.Go.Proofs.Tryz
set_option maxRecDepth 100000
def rT(p:Px):Value:=.agg p.cells.toArray
def Ul(o:Option Px):Int:=match o with
 |some _=>0
 |none=>151
theorem lZ{s:Bs}{p:Px}(h:oM s=some p):BL s p.v p.n p.k:=by
 unfold oM at h;split at h
 ·rename_i hx
  injection h with h;rw[←h];exact hx.choose_spec
 ·cases h
theorem zJ{s:Bs}(h:oM s=none):∀v n k,¬BL s v n k:=by
 intro v n k hp;unfold oM at h;split at h
 ·cases h
 ·rename_i hx
  exact hx ⟨⟨v,n,k⟩,hp⟩
theorem Nh(s:Bs)(hs:s.length≤100000000)(w:World)(HL:dD w):Calls prog 16 #[ab s] w (Rn w (.tuple #[rT ((oM s).getD oN),.int .i64 (Ul (oM s))])):=by
 cases h:oM s with
 |some p=>exact sW (lZ h) hs w HL
 |none=>exact Nf (zJ h) hs w HL
theorem qx{w:World}{g:Nat}{A:Option Go.Addr}{n c i:Nat}{ws:List Bs}(h:dU w g A n c i ws):Calls prog 187 #[(pt g 0)] w (bC g A n c rT (cZ ws i) w):=by
 have e1:cZ ws i=(aP ws i).bind fun x j=>aK (oM x).isSome 151 ((oM x).getD oN) j:=rfl;have n1:=fun W (hL:dU W g A n c i ws)=>mn hL;have hx:(aP ws i).val.length≤100000000:=tN h.sz;generalize cZ ws i=T at e1 ⊢;generalize aP ws i=r at e1 n1 hx;have hr8:=fun W (hW:ah [g] w W)=>Nh r.val (by omega) W (h.Al hW);have hpe:VH (Ul (oM r.val)==0)=.bool (oM r.val).isSome:=by cases oM r.val<;>rfl
 have e2:r.okB=true→T=aK (oM r.val).isSome 151 ((oM r.val).getD oN) r.pos:=fun hp=>cd e1 hp;generalize Ul (oM r.val)=er at hr8 hpe;generalize (oM r.val).isSome=ok at e2 hpe;generalize (oM r.val).getD oN=p at hr8 e2;have c7:=kX [⟨29,.ai oN.cells⟩] [] h h.le (cq e1) n1;have c8f:=fun(_:r.okB=true∧r.pos≤n)=>hr8;have c13f:=fun(_:r.okB=true∧r.pos≤n)=>hpe;have c14f:=fun(hp:r.okB=true∧r.pos≤n)=>kX [⟨29,.ai oN.cells⟩,⟨29,.ai p.cells⟩] [.bool ok,.int .i64 151] h hp.2 (wh (e2 hp.1)) (fun W hL=>lJ ok 151 p hL);have z2f:=fun(hp:r.okB=true∧r.pos≤n) (hp2:(aK ok 151 p r.pos).okB=true∧(aK ok 151 p r.pos).pos≤n)=>(show BK g A n c rT T (.val (rT p)) [(g,154,dh A n c (aK ok 151 p r.pos).pos)]from by
  have e2:=e2 hp.1;cases ok with
  |false=>cases hp2.1
  |true=>exact⟨_,_,e2,hp.2,rfl,rfl⟩)
 refine fg [] h.bY [(7,.au (fK 0 g A n c r ab)),(8,.call (.tuple #[rT p,.int .i64 er])),bq 13 ok,(14,.au (fK 0 g A n c (aK ok 151 p r.pos) fun _=>.tuple #[]))] [] (by kernel_rfl) func187 rfl (dR rfl) ?_;exact VK (by kernel_rfl) (VE c7 (fun(hx0:r.okB=true∧r.pos≤n)=>(Sx.t2 (c8f hx0) (c13f hx0) (VE (c14f hx0) (fun(hx1:(aK ok 151 p r.pos).okB=true∧(aK ok 151 p r.pos).pos≤n)=>(z2f hx0 hx1))))))
def Sz(two:Bool)(a b:Bs):Bs:=match two with
 |true=>b
 |false=>a
def ly(s:Nat×Nat):Value:=.agg #[.int .u16 (s.1:Int),.int .u16 (s.2:Int)]
theorem OJ(x:Bs)(hs:x.length≤100000000)(w:World)(HL:dD w):Calls prog 48 #[ab x,.string ⟨#[45]⟩] w (Rn w (.tuple #[ab (Lib.cut x [45]).1,ab (Lib.cut x [45]).2.1,.bool (Lib.cut x [45]).2.2])):=KW x [45] (by omega) w HL
theorem Hc(x:Bs):(Lib.cut x [45]).1.length≤x.length∧(Lib.cut x [45]).2.1.length≤x.length:=by
 unfold Lib.cut;split
 ·simp
  omega
 ·simp
theorem Sj{v:Nat}(h:v≤65535):VF .u16 (VL.wrap (v:Int))=.int .u16 (v:Int):=by
 have:VL.wrap (v:Int)=v:=by simp[VU,VQ,VO];omega
 rw[this]
theorem tJ{most:Nat}{s:Bs}(h:bR most s=true):dM s≤most:=by unfold bR at h;rw[VN,decide_eq_true_iff]at h;exact h.1
theorem NM{w:World}{g:Nat}{A:Option Go.Addr}{n c i:Nat}{ws:List Bs}(h:dU w g A n c i ws){T:Out (Nat×Nat)}{r:Out Bs}(a b d:Bs)(two oa ob:Bool)
  (n1:∀W,dU W g A n c i ws→Calls prog 154 #[(pt g 0)] W (bC g A n c ab r W)) (hno:∀code p,r=.no code p→T=.no code p)
  (hc:r.okB=true→∀W,ah [g] w W→Calls prog 48 #[ab r.val,.string ⟨#[45]⟩] W (Rn W (.tuple #[ab a,ab b,.bool two])))
  (hd:d=Sz two a b)
  (ha:∀W,ah [g] w W→Calls prog 232 #[ab a,.int .u64 65535] W (Rn W (.tuple #[qu (rV a),.bool oa])))
  (hb:∀W,ah [g] w W→Calls prog 232 #[ab d,.int .u64 65535] W (Rn W (.tuple #[qu (rV d),.bool ob])))
  (va vb:Nat) (hva:(oa&&ob)=true→rV a=va∧va≤65535) (hvb:(oa&&ob)=true→rV d=vb∧vb≤65535)
  (e2:r.okB=true→T=aK (oa&&ob) 200 (va,vb) r.pos) :
  Calls prog 205 #[(pt g 0)] w (bC g A n c ly T w):=by
 have hw37:(oa&&ob)=true→VF .u16 (VL.wrap (rV a:Int))=.int .u16 (va:Int):=fun ho=>by rw[(hva ho).1];exact Sj (hva ho).2
 have hw39:(oa&&ob)=true→VF .u16 (VL.wrap (rV d:Int))=.int .u16 (vb:Int):=fun ho=>by rw[(hvb ho).1];exact Sj (hvb ho).2
 generalize rV a=pa at ha hva hw37;generalize rV d=pd at hb hvb hw39;have c12:=kX [⟨64,.ai [.int .u16 0,.int .u16 0]⟩] [] h h.le hno n1;have c13f:=fun(hp:r.okB=true∧r.pos≤n)=>hc hp.1;have c22f:=fun(_:r.okB=true∧r.pos≤n)=>ha;have c27f:=fun(_:r.okB=true∧r.pos≤n)=>hb;have c35f:=fun(hp:r.okB=true∧r.pos≤n)=>kX [⟨64,.ai [.int .u16 0,.int .u16 0]⟩] [.bool (oa&&ob),.int .i64 200] h hp.2 (wh (e2 hp.1)) (fun W hL=>lJ (oa&&ob) 200 (va,vb) hL);have c37f:=fun(_:r.okB=true∧r.pos≤n) (hp2:(aK (oa&&ob) 200 (va,vb) r.pos).okB=true∧(aK (oa&&ob) 200 (va,vb) r.pos).pos≤n)=>(show VF .u16 (VL.wrap (pa:Int))=.int .u16 (va:Int)from hw37 (by
  cases ho:(oa&&ob)with
  |true=>rfl
  |false=>rw[ho]at hp2;cases hp2.1))
 have c39f:=fun(_:r.okB=true∧r.pos≤n) (hp2:(aK (oa&&ob) 200 (va,vb) r.pos).okB=true∧(aK (oa&&ob) 200 (va,vb) r.pos).pos≤n)=>(show VF .u16 (VL.wrap (pd:Int))=.int .u16 (vb:Int)from hw39 (by
  cases ho:(oa&&ob)with
  |true=>rfl
  |false=>rw[ho]at hp2;cases hp2.1))
 have zf:=fun(hp:r.okB=true∧r.pos≤n) (hp2:(aK (oa&&ob) 200 (va,vb) r.pos).okB=true∧(aK (oa&&ob) 200 (va,vb) r.pos).pos≤n)=>(show BK g A n c ly T (.val (ly (va,vb))) [(g,154,dh A n c (aK (oa&&ob) 200 (va,vb) r.pos).pos)]from by
  have e2:=e2 hp.1;cases ho:(oa&&ob)with
  |false=>rw[ho]at hp2;cases hp2.1
  |true=>rw[ho]at e2;exact⟨_,_,e2,hp.2,rfl,rfl⟩)
 subst hd;have CH:=VE c12 (fun(hx0:r.okB=true∧r.pos≤n)=>Sx.t4 (c13f hx0) (c22f hx0) (c27f hx0) (c35f hx0) (fun(hx1:(aK (oa&&ob) 200 (va,vb) r.pos).okB=true∧(aK (oa&&ob) 200 (va,vb) r.pos).pos≤n)=>Sx.t2 (c37f hx0 hx1) (c39f hx0 hx1) (zf hx0 hx1)));refine fg [] h.bY [(12,.au (fK 0 g A n c r ab)),(13,.call (.tuple #[ab a,ab b,.bool two])),(22,.call (.tuple #[qu pa,.bool oa])),(27,.call (.tuple #[qu pd,.bool ob])),(35,.au (fK 0 g A n c (aK (oa&&ob) 200 (va,vb) r.pos) fun _=>.tuple #[])),(37,.is (.int .u16 (va:Int))),(39,.is (.int .u16 (vb:Int)))] [] (by kernel_rfl) func205 rfl (dR rfl) ?_;clear c12 c13f c22f c27f c35f c37f c39f zf;cases two<;>cases oa<;>exact VK (by kernel_rfl) CH
theorem Fy(x:Bs):(dI x).1.length≤x.length∧(dI x).2.length≤x.length:=by
 have h:=Hc x;unfold dI;split
 ·exact h
 ·exact⟨h.1,h.1⟩
theorem xV{w:World}{g:Nat}{A:Option Go.Addr}{n c i:Nat}{ws:List Bs}(h:dU w g A n c i ws):Calls prog 205 #[(pt g 0)] w (bC g A n c ly (gZ ws i) w):=by
 have e1:gZ ws i=(aP ws i).bind fun x j=>aK (bR 65535 (dI x).1&&bR 65535 (dI x).2) 200 (dM (dI x).1,dM (dI x).2) j:=rfl;have hx:(aP ws i).val.length≤100000000:=tN h.sz;have hl:=Fy (aP ws i).val;have hE:(dI (aP ws i).val).1=(Lib.cut (aP ws i).val [45]).1:=by unfold dI;split<;>rfl
 have key:∀s:Bs,bR 65535 s=true→rV s=dM s∧dM s≤65535:=fun s hs=>⟨(tj (tH (by omega) hs)).1.symm,tJ hs⟩
 refine NM h (r:=aP ws i) (dI (aP ws i).val).1 (Lib.cut (aP ws i).val [45]).2.1 (dI (aP ws i).val).2 (Lib.cut (aP ws i).val [45]).2.2 (bR 65535 (dI (aP ws i).val).1) (bR 65535 (dI (aP ws i).val).2)
  (fun W hL=>mn hL) (cq e1) (fun _ W hW=>?_) ?_ (fun W hW=>oq 65535 (by omega) _ (by omega) W (h.Al hW)) (fun W hW=>oq 65535 (by omega) _ (by omega) W (h.Al hW)) _ _ ?_ ?_ (fun hp=>cd e1 hp)
 ·rw[hE];exact OJ _ hx W (h.Al hW)
 ·unfold dI Sz;split<;>rename_i hk<;>rw[hk]
 ·intro ho
  rw[VN]at ho;exact key _ ho.1
 ·intro ho
  rw[VN]at ho;exact key _ ho.2
def Pr(n:Nat):Value:=.int .u8 (n:Int)
theorem Vk{v:Nat}(h:v≤255):VF .u8 (VR.wrap (v:Int))=.int .u8 (v:Int):=by
 have:VR.wrap (v:Int)=v:=by simp[VU,VQ,VO];omega
 rw[this]
theorem JZ{w:World}{g:Nat}{A:Option Go.Addr}{n c i:Nat}{ws:List Bs}(h:dU w g A n c i ws):Calls prog 209 #[.pointer (some ⟨g,0,none⟩)] w (bC g A n c Pr (dL ws i) w):=by
 have hlen:=h.len;rcases gq (ws:=ws) (i:=i) (s:=lC)with⟨h1,h2⟩ | h1
 ·have e1:dL ws i=.ok 6 (i+1):=by unfold dL;rw[h1];rfl
  have n1:=fun W (hL:dU W g A n c i ws)=>h1 ▸ jE lC hL;generalize dL ws i=T at e1 ⊢;have c5:=ko (T:=T) [ab lC] h h.le (fun code p hh=>by cases hh) n1;have z1f:=fun(hp:(Out.ok true (i+1)).okB=true∧(Out.ok true (i+1)).pos≤n)=>(show BK g A n c Pr T (.val (Pr 6)) [(g,154,dh A n c (i+1))]from⟨_,_,e1,hp.2,rfl,rfl⟩);refine fg [] h.bY [(5,.au (fK 0 g A n c (Out.ok true (i+1)) fun b=>.bool b))] [] (by kernel_rfl) func209 rfl (dR rfl) ?_;exact VK (by kernel_rfl) (VE c5 (fun(hx0:(Out.ok true (i+1)).okB=true∧(Out.ok true (i+1)).pos≤n)=>(z1f hx0)))
 ·rcases gq (ws:=ws) (i:=i) (s:=mv)with⟨h3,h4⟩ | h3
  ·have e1:dL ws i=.ok 17 (i+1):=by unfold dL;rw[h1];simp only[Out.bind,h3]
   have n1:=fun W (hL:dU W g A n c i ws)=>h1 ▸ jE lC hL;have n2:=fun W (hL:dU W g A n c i ws)=>h3 ▸ jE mv hL;generalize dL ws i=T at e1 ⊢;have c5:=ko (T:=T) [ab lC] h h.le (fun code p hh=>by cases hh) n1;have c8f:=fun(_:(Out.ok false i).okB=true∧(Out.ok false i).pos≤n)=>ko (T:=T) [ab mv] h h.le (fun code p hh=>by cases hh) n2;have z2f:=fun(_:(Out.ok false i).okB=true∧(Out.ok false i).pos≤n) (hp:(Out.ok true (i+1)).okB=true∧(Out.ok true (i+1)).pos≤n)=>(show BK g A n c Pr T (.val (Pr 17)) [(g,154,dh A n c (i+1))]from⟨_,_,e1,hp.2,rfl,rfl⟩);refine fg [] h.bY [(5,.au (fK 0 g A n c (Out.ok false i) fun b=>.bool b)),(8,.au (fK 0 g A n c (Out.ok true (i+1)) fun b=>.bool b))] [] (by kernel_rfl) func209 rfl (dR rfl) ?_;exact VK (by kernel_rfl) (VE c5 (fun(hx0:(Out.ok false i).okB=true∧(Out.ok false i).pos≤n)=>(VE (c8f hx0) (fun(hx1:(Out.ok true (i+1)).okB=true∧(Out.ok true (i+1)).pos≤n)=>(z2f hx0 hx1)))))
  ·have e1:dL ws i=bc 255 ws i:=by unfold dL;rw[h1];simp only[Out.bind,h3]
   have n1:=fun W (hL:dU W g A n c i ws)=>h1 ▸ jE lC hL;have n2:=fun W (hL:dU W g A n c i ws)=>h3 ▸ jE mv hL;have n3:=fun W (hL:dU W g A n c i ws)=>kn 255 (by omega) hL;have hle:∀v j,bc 255 ws i=.ok v j→v≤255:=fun v j=>ot;generalize dL ws i=T at e1 ⊢;generalize bc 255 ws i=r at e1 n3 hle;have c5:=ko (T:=T) [ab lC] h h.le (fun code p hh=>by cases hh) n1;have c8f:=fun(_:(Out.ok false i).okB=true∧(Out.ok false i).pos≤n)=>ko (T:=T) [ab mv] h h.le (fun code p hh=>by cases hh) n2;have c10f:=fun(_:(Out.ok false i).okB=true∧(Out.ok false i).pos≤n) (_:(Out.ok false i).okB=true∧(Out.ok false i).pos≤n)=>ko [.int .u64 ((255:Nat):Int)] h h.le (wh e1) n3;have c11f:=fun(_:(Out.ok false i).okB=true∧(Out.ok false i).pos≤n) (_:(Out.ok false i).okB=true∧(Out.ok false i).pos≤n) (hp:r.okB=true∧r.pos≤n)=>(show VF .u8 (VR.wrap (r.val:Int))=.int .u8 (r.val:Int)from Vk (hle _ _ (Ep hp)));have z3f:=fun(_:(Out.ok false i).okB=true∧(Out.ok false i).pos≤n) (_:(Out.ok false i).okB=true∧(Out.ok false i).pos≤n) (hp:r.okB=true∧r.pos≤n)=>(show BK g A n c Pr T (.val (Pr r.val)) [(g,154,dh A n c r.pos)]from⟨_,_,by rw[e1];exact Ep hp,hp.2,rfl,rfl⟩);refine fg [] h.bY [(5,.au (fK 0 g A n c (Out.ok false i) fun b=>.bool b)),(8,.au (fK 0 g A n c (Out.ok false i) fun b=>.bool b)),(10,.au (fK 0 g A n c r qu)),(11,.is (.int .u8 (r.val:Int)))] [] (by kernel_rfl) func209 rfl (dR rfl) ?_;exact VK (by kernel_rfl) (VE c5 (fun(hx0:(Out.ok false i).okB=true∧(Out.ok false i).pos≤n)=>(VE (c8f hx0) (fun(hx1:(Out.ok false i).okB=true∧(Out.ok false i).pos≤n)=>(VE (c10f hx0 hx1) (fun(hx2:r.okB=true∧r.pos≤n)=>(VE (c11f hx0 hx1 hx2) (z3f hx0 hx1 hx2))))))))
def RI(b0 b1 b2 b3:Bool)(p:Nat)(r2:Out Nat):Out (Int×Int):=match b0 with
 |true=>.ok (1,0) p
 |false=>match b1 with
  |true=>.ok (2,0) p
  |false=>match b2 with
   |true=>.ok (4,0) p
   |false=>match b3 with
    |true=>r2.bind fun v k=>.ok (3,(v:Int)) k
    |false=>.no 200 p
def BF(a:Int×Int):Value:=.tuple #[.int .i64 a.1,.int .i64 a.2]
theorem fP(x y:Operand)(s t:List UInt8)(b:Bool)(hb:decide (s=t)=b)(W:World):(do eqGuard .eql 9 x y (.string ⟨s.toArray⟩) (.string ⟨t.toArray⟩);binOp .eql 9 (.string ⟨s.toArray⟩) (.string ⟨t.toArray⟩):Sem Value).run prog W=.ok (.bool b) W:=by
 have e:∀l:List UInt8,(⟨l.toArray⟩:ByteArray).toList=l:=fun l=>by simp
 have h:(do eqGuard .eql 9 x y (.string ⟨s.toArray⟩) (.string ⟨t.toArray⟩);binOp .eql 9 (.string ⟨s.toArray⟩) (.string ⟨t.toArray⟩):Sem Value).run prog W=.ok (.bool ((⟨s.toArray⟩:ByteArray).toList==(⟨t.toArray⟩:ByteArray).toList)) W:=rfl;rw[h,e,e,←hb];by_cases h:s=t<;>simp[h]
theorem GD{w:World}{g:Nat}{A:Option Go.Addr}{n c i:Nat}{ws:List Bs}(h:dU w g A n c i ws){T:Out (Int×Int)}{r:Out Bs}{r2:Out Nat}(out b0 b1 b2 b3:Bool)
  (n1:∀W,dU W g A n c i ws→Calls prog 154 #[(pt g 0)] W (bC g A n c ab r W)) (hno:∀code p,r=.no code p→T=.no code p)
  (n2:r.okB=true→∀W,dU W g A n c r.pos ws→Calls prog 186 #[(pt g 0)] W (bC g A n c pH r2 W))
  (h0:decide (r.val=di)=b0) (h1:decide (r.val=lA)=b1) (h2:decide (r.val=fZ)=b2) (h3:decide (r.val=oy)=b3)
  (e2:r.okB=true→T=RI b0 b1 b2 (b3&&out) r.pos r2) :
  Calls prog 192 #[(pt g 0),.bool out] w (bC g A n c BF T w):=by
 have c8:=ko [] h h.le hno n1;have c11f:=fun(_:r.okB=true∧r.pos≤n) W=>fP (.tmp 10) (.const (ab di)) r.val di b0 h0 W;have c14f:=fun(_:r.okB=true∧r.pos≤n) W=>fP (.tmp 13) (.const (ab lA)) r.val lA b1 h1 W;have c17f:=fun(_:r.okB=true∧r.pos≤n) W=>fP (.tmp 16) (.const (ab fZ)) r.val fZ b2 h2 W;have c20f:=fun(_:r.okB=true∧r.pos≤n) W=>fP (.tmp 19) (.const (ab oy)) r.val oy b3 h3 W;have za:=fun(v:Int×Int) (hp:r.okB=true∧r.pos≤n) (hT:T=.ok v r.pos)=>(show BK g A n c BF T (.val (BF v)) [(g,154,dh A n c r.pos)]from⟨_,_,hT,hp.2,rfl,rfl⟩);have c25f:=fun(hp:r.okB=true∧r.pos≤n) (hT:T=r2.bind fun v k=>.ok (3,(v:Int)) k)=>VE (ko [] h hp.2 (cq hT) (n2 hp.1)) (fun(hp2:r2.okB=true∧r2.pos≤n)=>(show BK g A n c BF T (.val (BF (3,(r2.val:Int)))) [(g,154,dh A n c r2.pos)]from⟨(3,(r2.val:Int)),r2.pos,(show T=.ok (3,(r2.val:Int)) r2.pos from cd hT hp2.1),hp2.2,rfl,rfl⟩));have c31f:=fun(hT:T=.no 200 r.pos)=>VE (fun W (hW:ah [g] w W) (_:aq W g 154 (dh A n c r.pos))=>jZ (b:=⟨w,[g],mS T w⟩) (vs:=[(pt g 0),.int .i64 200,.int .i64 (r.pos:Int)]) (ps:=[(0,0)]) ((qD ((pt g 0)) 200 (r.pos:Int) W).mono fun _ _ ⟨ch,he,hf,hc⟩=>⟨ch,he,(show mS T w _ _ from⟨200,r.pos,hT,hf.up hW.size⟩),hc⟩)) trivial;have CH:=VE c8 (fun(hp:r.okB=true∧r.pos≤n)=>VE (c11f hp) (ir.mk (b:=b0) (fun e=>za (1,0) hp (by rw[e2 hp.1,e];rfl)) (fun f0=>VE (c14f hp) (ir.mk (b:=b1) (fun e=>za (2,0) hp (by rw[e2 hp.1,f0,e];rfl)) (fun f1=>VE (c17f hp) (ir.mk (b:=b2) (fun e=>za (4,0) hp (by rw[e2 hp.1,f0,f1,e];rfl)) (fun f2=>VE (c20f hp) (ir.mk (b:=b3&&out) (fun e=>c25f hp (by rw[e2 hp.1,f0,f1,f2,e];rfl)) (fun f3=>c31f (by rw[e2 hp.1,f0,f1,f2,f3];rfl))))))))));refine fg [.bool out] h.bY [(8,.au (fK 0 g A n c r ab)),(11,.bin (.bool b0)),(14,.bin (.bool b1)),(17,.bin (.bool b2)),(20,.bin (.bool b3)),(25,.au (fK 0 g A n c r2 pH)),(31,.pW)] [] (by kernel_rfl) func192 rfl (dR rfl) ?_;clear za c8 c11f c14f c17f c20f c25f c31f;cases b0<;>cases b1<;>cases b2<;>cases b3<;>cases out<;>exact VK (by kernel_rfl) CH
theorem wA(out:Bool){w:World}{g:Nat}{A:Option Go.Addr}{n c i:Nat}{ws:List Bs}(h:dU w g A n c i ws):Calls prog 192 #[.pointer (some ⟨g,0,none⟩),.bool out] w (bC g A n c BF (nL out ws i) w):=by
 have e1:=(rfl:nL out ws i=(aP ws i).bind _);refine GD h (r:=aP ws i) (r2:=gz ws (aP ws i).pos) out _ _ _ _ (fun W hL=>mn hL) (cq e1) (fun _ W hL=>tV hL) rfl rfl rfl rfl fun hp=>?_;rw[cd e1 hp];by_cases h0:(aP ws i).val=di
 ·rw[if_pos h0,decide_eq_true h0];rfl
 rw[if_neg h0,decide_eq_false h0];by_cases h1:(aP ws i).val=lA
 ·rw[if_pos h1,decide_eq_true h1];rfl
 rw[if_neg h1,decide_eq_false h1];by_cases h2:(aP ws i).val=fZ
 ·rw[if_pos h2,decide_eq_true h2];rfl
 rw[if_neg h2,decide_eq_false h2];by_cases h3:(aP ws i).val=oy
 ·cases out with
  |true=>rw[if_pos ⟨h3,rfl⟩,decide_eq_true h3];rfl
  |false=>rw[if_neg (by simp),decide_eq_true h3];rfl
 ·rw[if_neg (by simp[h3]),decide_eq_false h3];rfl
open Go.RowKit Go.Lib Go.Sort
structure sf(w:World)(S:List Nat)(g:Nat)(A:Option Go.Addr)(n c i:Nat)(ws:List Bs):Prop where
 bY:aq w g 154 (dh A n c i)
 rM:yP w S A n ws
 le:i≤n
 bd:n≤1100000
 vk:dD w
 s9:∀k∈S,9≤k
 gS:g∈S
 sz:∀x∈ws,x.length≤100000000
section
variable{w W:World}{S:List Nat}{g:Nat}{A:Option Go.Addr}{n c i j:Nat}{ws:List Bs}
theorem sf.Vs(h:sf w S g A n c i ws):dU w g A n c i ws:=
 ⟨h.bY,h.rM.sub fun x hx=>by rw[VT.1 hx];exact h.gS,h.le,h.bd,h.vk,h.s9 g h.gS,h.sz⟩
theorem dU.rI(h:dU w g A n c i ws):sf w [g] g A n c i ws:=
 ⟨h.bY,h.rM,h.le,h.bd,h.vk,fun k hk=>by rw[VT.1 hk];exact h.g9,by simp,h.sz⟩
theorem sf.at(h:sf w S g A n c i ws)(hc:ah S w W)(hj:j≤n)(hb:aq W g 154 (dh A n c j)):sf W S g A n c j ws:=
 ⟨hb,h.rM.aD hc,hj,h.bd,h.vk.aD hc h.s9,h.s9,h.gS,h.sz⟩
theorem sf.add{S':List Nat}(h:sf w S g A n c i ws)(hc:ah S w W)(hj:j≤n)(hb:aq W g 154 (dh A n c j))(hs:∀x∈S',x∈S∨w.heap.size≤x)(hg:g∈S'):sf W S' g A n c j ws:=by
 refine⟨hb,⟨h.rM.len,fun h0=>?_⟩,hj,h.bd,h.vk.aD hc h.s9,fun k hk=>?_,hg,h.sz⟩
 ·obtain⟨b,o,h1,h2,h3,h4⟩:=h.rM.row h0
  refine⟨b,o,h1,fun hb=>?_,Nat.lt_of_lt_of_le h3 hc.size,fun k y hy=>(hc.cell (p:=⟨b,o+k,none⟩) h3 h2).trans (h4 k y hy)⟩;rcases hs b hb with hx|hx
  ·exact h2 hx
  ·omega
 ·rcases hs k hk with hx|hx
  ·exact h.s9 k hx
  ·have:=h.vk.low;omega
theorem iQ{α γ:Type} [Inhabited α]{P:Program}{f:FuncId}{V:α→Value}{r:Out α}{T:Out γ}(k:Nat)(mem:List Sx.Row)(rest:List Value)(h0:sf w S g A n c i ws)(hj:j≤n)(hT:∀code p,r=.no code p→T=.no code p)
  (hrow:mem[k]?=some ⟨154,.dj g (dh A n c j)⟩)
  (h:∀W,dU W g A n c j ws→Calls P f (.pointer (some ⟨g,0,none⟩)::rest).toArray W (bC g A n c V r W)) (W:World) (β:Sx.Env) (hS:Sx.dS ⟨w,S,mS T w⟩ β W (Sx.rowAt mem) [k]) :
  Calls P f ((Sx.SV.ptr k 0::rest.map .val).map (Sx.SV.den β)).toArray W (Sx.br ⟨w,S,mS T w⟩ β W (Sx.rowAt mem) mem.length (fK k g A n c r V)):=
 xW rest hS (by simp) hrow (fun hB=>h W (h0.at hS.aD hj hB).Vs) fun code p chain w' hr hf=>⟨code,p,hT code p hr,hf.up hS.aD.size⟩
end
def lx(g gm b2 b3:Nat)(A:Option Go.Addr)(n c:Nat)(T:Out Mt)(w:World)(e:Ending)(w':World):Prop:=
 (∃m i,T=.ok m i∧i≤n∧e=.returned (.tuple #[])∧aq w' g 154 (dh A n c i)∧aq w' gm 66 m.cells∧aq w' b2 152 [(pt g 0)]∧aq w' b3 217 [(pt gm 0)]∧ah [g,gm,b2,b3] w w')∨
 (∃code p chain,T=.no code p∧e=.panicked chain∧BM code p w chain w'∧ah [g,gm,b2,b3] w w')
def jt(g gm b2 b3:Nat)(A:Option Go.Addr)(n c i:Nat)(cs:List Value):List Sx.Row:=
 [⟨154,.dj g (dh A n c i)⟩,⟨66,.dj gm cs⟩,⟨152,.iC b2 [.ptr 0 0]⟩,⟨217,.iC b3 [.ptr 1 0]⟩]
def RU(g gm b2 b3:Nat)(A:Option Go.Addr)(n c:Nat)(T:Out Mt)(l:List Sx.SV)(mem:List Sx.Row):Prop:=∃m i,T=.ok m i∧i≤n∧l=[]∧mem=jt g gm b2 b3 A n c i m.cells
structure LW(w:World)(g gm b2 b3:Nat)(A:Option Go.Addr)(n c i:Nat)(ws:List Bs)(m:Mt):Prop where
 rI:sf w [g,gm,b2,b3] g A n c i ws
 bm:aq w gm 66 m.cells
 bx:aq w b2 152 [(pt g 0)]
 Vd:aq w b3 217 [(pt gm 0)]
 nd:[g,gm,b2,b3].Nodup
theorem nC{P:Program}{w:World}{f:FuncId}{fn:Func}{co:Code}{g gm b2 b3:Nat}{A:Option Go.Addr}{n c i:Nat}{ws:List Bs}{m:Mt}{T:Out Mt}(h:LW w g gm b2 b3 A n c i ws m)(H:List (Nat×Sx.Hint))(L:List Sx.Loop)
  (hm:P.follows .mixedOrders=true) (hf:P.funcs[f]?=some fn) (hbd:fn.body=some co) (hn:2≤fn.ntmps)
  (hx:Sx.lj P fn.ntmps ⟨w,[g,gm,b2,b3],mS T w⟩ co H L ⟨Sx.lB 0 [.ptr 2 0,.ptr 3 0],jt g gm b2 b3 A n c i m.cells⟩ (Sx.eX P fn (RU g gm b2 b3 A n c T))) :
  Calls P f #[.pointer (some ⟨b2,0,none⟩),.pointer (some ⟨b3,0,none⟩)] w (lx g gm b2 b3 A n c T w):=by
 have hF:=Sx.fT (w:=w) (S:=[g,gm,b2,b3]) (PP:=mS T w) (G:=[.bY g 154 (dh A n c i),.bY gm 66 m.cells,.mL b2 152 [.ptr 0 0],.mL b3 217 [.ptr 1 0]]) (fun q hq=>by
  simp only[VJ,VI,or_false]at hq;rcases hq with rfl|rfl|rfl|rfl
  ·exact h.rI.bY
  ·exact h.bm
  ·exact h.bx
  ·exact h.Vd) (fun q hq k hk=>by
  simp only[VJ,VI,or_false]at hq;rcases hq with rfl|rfl|rfl|rfl<;>cases hk<;>simp) h.nd
 refine(Sx.bO (args:=[.ptr 2 0,.ptr 3 0]) hF H L hm hf hbd hn rfl hx).mono fun e w' hp=>?_;rcases hp with⟨β,l,mem,⟨m',i',h1,h2,rfl,rfl⟩,he,hR⟩ | ⟨chain,he,⟨code,p,h1,hf⟩,hc⟩
 ·have r0:=hR.held 0 _ rfl
  have r1:=hR.held 1 _ rfl;have r2:=hR.held 2 _ rfl;have r3:=hR.held 3 _ rfl;have e0:β 0=g:=r0.1;have e1:β 1=gm:=r1.1;have e2:β 2=b2:=r2.1;have e3:β 3=b3:=r3.1;refine .inl ⟨m',i',h1,h2,he,e0 ▸ r0.2,e1 ▸ r1.2,?_,?_,hR.aD⟩
  ·have:=r2.2
   rw[e2]at this;have hh:([Sx.SV.ptr 0 0].map (Sx.SV.den β))=[.pointer (some ⟨g,0,none⟩)]:=by show [VV (some ⟨β 0,0,none⟩)]=_;rw[e0]
   rw[hh]at this;exact this
  ·have:=r3.2
   rw[e3]at this;have hh:([Sx.SV.ptr 1 0].map (Sx.SV.den β))=[.pointer (some ⟨gm,0,none⟩)]:=by show [VV (some ⟨β 1,0,none⟩)]=_;rw[e1]
   rw[hh]at this;exact this
 ·exact .inr ⟨code,p,chain,h1,he,hf,hc⟩
def TW(g gm:Nat)(A:Option Go.Addr)(n c:Nat)(T:Out Mt):Sx.cn:=⟨[0,1,2,3],[(0,⟨154,.dj g (dh A n c T.pos)⟩),(1,⟨66,.dj gm T.val.cells⟩),(2,⟨152,.cU [.ptr 0 0]⟩),(3,⟨217,.cU [.ptr 1 0]⟩)],[],[],.val (.tuple #[]),some (T.okB=true∧T.pos≤n)⟩
def nP(g gm:Nat)(A:Option Go.Addr)(n c i:Nat)(cs:List Value):List Sx.Row:=[⟨154,.dj g (dh A n c i)⟩,⟨66,.dj gm cs⟩,⟨152,.cU [.ptr 0 0]⟩,⟨217,.cU [.ptr 1 0]⟩]
theorem Tu{γ:Type}{P:Program}{w:World}{f g gm n c i j:Nat}{A:Option Go.Addr}{ws:List Bs}{m:Mt}{T:Out Mt}{TT:Out γ}(h0:sf w [g,gm] g A n c i ws)(hj:j≤n)(hT:∀code p,T=.no code p→TT=.no code p)
  (h:∀W b2 b3,LW W g gm b2 b3 A n c j ws m→Calls P f #[.pointer (some ⟨b2,0,none⟩),.pointer (some ⟨b3,0,none⟩)] W (lx g gm b2 b3 A n c T W)) (W:World) (β:Sx.Env) (hS:Sx.dS ⟨w,[g,gm],mS TT w⟩ β W (Sx.rowAt (nP g gm A n c j m.cells)) [0,1,2,3]) :
  Calls P f (([.ptr 2 0,.ptr 3 0]:List Sx.SV).map (Sx.SV.den β)).toArray W (Sx.br ⟨w,[g,gm],mS TT w⟩ β W (Sx.rowAt (nP g gm A n c j m.cells)) 4 (TW g gm A n c T)):=by
 have r0:=hS.held 0 (by simp) _ rfl;have r1:=hS.held 1 (by simp) _ rfl;have r2:aq W (β 2) 152 [.pointer (some ⟨β 0,0,none⟩)]:=hS.held 2 (by simp) _ rfl;have r3:aq W (β 3) 217 [.pointer (some ⟨β 1,0,none⟩)]:=hS.held 3 (by simp) _ rfl;have e0:β 0=g:=r0.1;have e1:β 1=gm:=r1.1;have r0:aq W g 154 (dh A n c j):=e0 ▸ r0.2;have r1:aq W gm 66 m.cells:=e1 ▸ r1.2;rw[e0]at r2;rw[e1]at r3;have hne:∀{a b:Nat},a∈[0,1,2,3]→b∈[0,1,2,3]→a≠b→β a≠β b:=fun {a b} ha hb hab he=>by
  have bl:∀k∈[0,1,2,3],∃r,Sx.rowAt (nP g gm A n c j m.cells) k=some r∧Sx.av β k r=some (β k):=fun k hk=>by simp only[VJ,VI,or_false]at hk;rcases hk with rfl|rfl|rfl|rfl<;>exact⟨_,rfl,rfl⟩
  obtain⟨ra,h1,h2⟩:=bl a ha;obtain⟨rb,h3,h4⟩:=bl b hb;exact hab (hS.inj a ha b hb ra rb (β a) h1 h3 h2 (by rw[h4,he]))
 have h01:=hne (a:=0) (b:=1) (by simp) (by simp) (by decide);have h02:=hne (a:=0) (b:=2) (by simp) (by simp) (by decide);have h03:=hne (a:=0) (b:=3) (by simp) (by simp) (by decide);have h12:=hne (a:=1) (b:=2) (by simp) (by simp) (by decide);have h13:=hne (a:=1) (b:=3) (by simp) (by simp) (by decide);have h23:=hne (a:=2) (b:=3) (by simp) (by simp) (by decide);rw[e0]at h01 h02 h03;rw[e1]at h01 h12 h13;have n2:=hS.new 2 (by simp) _ (β 2) rfl rfl;have n3:=hS.new 3 (by simp) _ (β 3) rfl rfl;have hC:LW W g gm (β 2) (β 3) A n c j ws m:=⟨h0.add hS.aD hj r0 (fun x hx=>by
  simp only[VJ,VI,or_false]at hx;rcases hx with rfl|rfl|rfl|rfl
  ·exact .inl (by simp)
  ·exact .inl (by simp)
  ·exact n2
  ·exact n3) (by simp),r1,r2,r3,by simp[h01,h02,h03,h12,h13,h23]⟩
 have ht:Sx.cn.dE β (Sx.rowAt (nP g gm A n c j m.cells)) (TW g gm A n c T)=[g,gm,β 2,β 3]:=by show [β 0,β 1,β 2,β 3]=_;rw[e0,e1]
 refine(h W (β 2) (β 3) hC).mono fun e w' hp=>?_;rcases hp with⟨m',i',rfl,hi,he,b0,b1,b2,b3,hc⟩ | ⟨code,p,chain,hT',he,hf,hc⟩
 ·refine .inl ⟨fun p hp=>by cases hp;exact⟨rfl,hi⟩,β,Sx.dx (v:=.tuple #[]) rfl rfl he (fun q hq=>?_) (by rw[ht];exact hc)⟩
  have hq:q=(0,⟨154,.dj g (dh A n c i')⟩)∨q=(1,⟨66,.dj gm m'.cells⟩)∨q=(2,⟨152,.cU [.ptr 0 0]⟩)∨q=(3,⟨217,.cU [.ptr 1 0]⟩):=by have:q∈[(0,(⟨154,.dj g (dh A n c i')⟩:Sx.Row)),(1,⟨66,.dj gm m'.cells⟩),(2,⟨152,.cU [.ptr 0 0]⟩),(3,⟨217,.cU [.ptr 1 0]⟩)]:=hq;simpa using this
  rcases hq with rfl|rfl|rfl|rfl
  ·exact⟨e0,by show aq w' (β 0) _ _;rw[e0];exact b0⟩
  ·exact⟨e1,by show aq w' (β 1) _ _;rw[e1];exact b1⟩
  ·show aq w' (β 2) 152 [.pointer (some ⟨β 0,0,none⟩)]
   rw[e0];exact b2
  ·show aq w' (β 3) 217 [.pointer (some ⟨β 1,0,none⟩)]
   rw[e1];exact b3
 ·exact .inr ⟨rfl,chain,he,⟨code,p,hT code p hT',hf.up hS.aD.size⟩,by rw[ht];exact hc⟩
def mT(g gm:Nat)(A:Option Go.Addr)(n c:Nat)(T:Out (Bool×Mt))(w:World)(e:Ending)(w':World):Prop:=
 (∃q i,T=.ok q i∧i≤n∧e=.returned (.bool q.1)∧aq w' g 154 (dh A n c i)∧aq w' gm 66 q.2.cells∧ah [g,gm] w w')∨
 (∃code p chain,T=.no code p∧e=.panicked chain∧BM code p w chain w'∧ah [g,gm] w w')
def Ua(g gm:Nat)(A:Option Go.Addr)(n c:Nat)(T:Out (Bool×Mt))(l:List Sx.SV)(mem:List Sx.Row):Prop:=∃b m i ms,T=.ok (b,m) i∧i≤n∧l=[.val (.bool b)]∧mem=⟨154,.dj g (dh A n c i)⟩::⟨66,.dj gm m.cells⟩::ms
theorem yl{P:Program}{w:World}{f:FuncId}{fn:Func}{co:Code}{g gm:Nat}{A:Option Go.Addr}{n c i:Nat}{ws:List Bs}{m:Mt}{T:Out (Bool×Mt)}(h:sf w [g,gm] g A n c i ws)(hbm:aq w gm 66 m.cells)(hne:g≠gm)(H:List (Nat×Sx.Hint))(L:List Sx.Loop)
  (hm:P.follows .mixedOrders=true) (hf:P.funcs[f]?=some fn) (hbd:fn.body=some co) (hn:2≤fn.ntmps)
  (hx:Sx.lj P fn.ntmps ⟨w,[g,gm],mS T w⟩ co H L ⟨Sx.lB 0 [.ptr 0 0,.ptr 1 0],[⟨154,.dj g (dh A n c i)⟩,⟨66,.dj gm m.cells⟩]⟩ (Sx.eX P fn (Ua g gm A n c T))) :
  Calls P f #[.pointer (some ⟨g,0,none⟩),.pointer (some ⟨gm,0,none⟩)] w (mT g gm A n c T w):=by
 have hF:=Sx.fT (w:=w) (S:=[g,gm]) (PP:=mS T w) (G:=[.bY g 154 (dh A n c i),.bY gm 66 m.cells]) (fun q hq=>by
  simp only[VJ,VI,or_false]at hq;rcases hq with rfl|rfl
  ·exact h.bY
  ·exact hbm) (fun q hq k hk=>by
  simp only[VJ,VI,or_false]at hq;rcases hq with rfl|rfl<;>cases hk<;>simp) (by simpa[Sx.jz.block]using hne)
 refine(Sx.bO (args:=[.ptr 0 0,.ptr 1 0]) hF H L hm hf hbd hn rfl hx).mono fun e w' hp=>?_;rcases hp with⟨β,l,mem,⟨b,m',i',ms,h1,h2,rfl,rfl⟩,he,hR⟩ | ⟨chain,he,⟨code,p,h1,hf⟩,hc⟩
 ·have r0:=hR.held 0 _ rfl
  have r1:=hR.held 1 _ rfl;have e0:β 0=g:=r0.1;have e1:β 1=gm:=r1.1;exact .inl ⟨(b,m'),i',h1,h2,he,e0 ▸ r0.2,e1 ▸ r1.2,hR.aD⟩
 ·exact .inr ⟨code,p,chain,h1,he,hf,hc⟩
set_option maxRecDepth 100000
open Go.RowKit Go.Lib Go.Sort _root_.Go.Proofs.Tryz
set_option maxRecDepth 100000
theorem FX{w:World}{g gm b2 b3:Nat}{A:Option Go.Addr}{n c i:Nat}{ws:List Bs}{m:Mt}(h:LW w g gm b2 b3 A n c i ws m):Calls prog 204 #[(pt b2 0),(pt b3 0)] w (lx g gm b2 b3 A n c (bZ 0 m ws i) w):=by have e1:bZ 0 m ws i=(gZ ws i).bind fun s j=>.ok { m with fE:=s } j:=rfl;have n1:=fun W (hL:dU W g A n c i ws)=>xV hL;generalize bZ 0 m ws i=T at e1 ⊢;generalize gZ ws i=r at e1 n1;have c4:=iQ 0 (jt g gm b2 b3 A n c i m.cells) [] h.rI h.rI.le (cq e1) rfl n1;have z1f:=fun(hp:r.okB=true∧r.pos≤n)=>(show RU g gm b2 b3 A n c T [] (jt g gm b2 b3 A n c r.pos ({ m with fE:=r.val }:Mt).cells)from⟨({ m with fE:=r.val }:Mt),r.pos,cd e1 hp.1,hp.2,rfl,rfl⟩);have z3f:=fun(_:¬(r.okB=true∧r.pos≤n))=>trivial;refine nC h [(4,.au (fK 0 g A n c r ly))] [] (by kernel_rfl) func204 rfl (dR rfl) ?_;exact VK (by kernel_rfl) (Sx.t2 c4 (fun(hx0:r.okB=true∧r.pos≤n)=>(z1f hx0)) (fun(hx2:¬(r.okB=true∧r.pos≤n))=>(z3f hx2)))
theorem FW{w:World}{g gm b2 b3:Nat}{A:Option Go.Addr}{n c i:Nat}{ws:List Bs}{m:Mt}(h:LW w g gm b2 b3 A n c i ws m):Calls prog 206 #[(pt b2 0),(pt b3 0)] w (lx g gm b2 b3 A n c (bZ 1 m ws i) w):=by have e1:bZ 1 m ws i=(cZ ws i).bind fun s j=>.ok { m with src:=s } j:=rfl;have n1:=fun W (hL:dU W g A n c i ws)=>qx hL;generalize bZ 1 m ws i=T at e1 ⊢;generalize cZ ws i=r at e1 n1;have c4:=iQ 0 (jt g gm b2 b3 A n c i m.cells) [] h.rI h.rI.le (cq e1) rfl n1;have z1f:=fun(hp:r.okB=true∧r.pos≤n)=>(show RU g gm b2 b3 A n c T [] (jt g gm b2 b3 A n c r.pos ({ m with src:=r.val }:Mt).cells)from⟨({ m with src:=r.val }:Mt),r.pos,cd e1 hp.1,hp.2,rfl,rfl⟩);have z3f:=fun(_:¬(r.okB=true∧r.pos≤n))=>trivial;refine nC h [(4,.au (fK 0 g A n c r rT))] [] (by kernel_rfl) func206 rfl (dR rfl) ?_;exact VK (by kernel_rfl) (Sx.t2 c4 (fun(hx0:r.okB=true∧r.pos≤n)=>(z1f hx0)) (fun(hx2:¬(r.okB=true∧r.pos≤n))=>(z3f hx2)))
theorem FV{w:World}{g gm b2 b3:Nat}{A:Option Go.Addr}{n c i:Nat}{ws:List Bs}{m:Mt}(h:LW w g gm b2 b3 A n c i ws m):Calls prog 207 #[(pt b2 0),(pt b3 0)] w (lx g gm b2 b3 A n c (bZ 2 m ws i) w):=by have e1:bZ 2 m ws i=(cZ ws i).bind fun s j=>.ok { m with dst:=s } j:=rfl;have n1:=fun W (hL:dU W g A n c i ws)=>qx hL;generalize bZ 2 m ws i=T at e1 ⊢;generalize cZ ws i=r at e1 n1;have c4:=iQ 0 (jt g gm b2 b3 A n c i m.cells) [] h.rI h.rI.le (cq e1) rfl n1;have z1f:=fun(hp:r.okB=true∧r.pos≤n)=>(show RU g gm b2 b3 A n c T [] (jt g gm b2 b3 A n c r.pos ({ m with dst:=r.val }:Mt).cells)from⟨({ m with dst:=r.val }:Mt),r.pos,cd e1 hp.1,hp.2,rfl,rfl⟩);have z3f:=fun(_:¬(r.okB=true∧r.pos≤n))=>trivial;refine nC h [(4,.au (fK 0 g A n c r rT))] [] (by kernel_rfl) func207 rfl (dR rfl) ?_;exact VK (by kernel_rfl) (Sx.t2 c4 (fun(hx0:r.okB=true∧r.pos≤n)=>(z1f hx0)) (fun(hx2:¬(r.okB=true∧r.pos≤n))=>(z3f hx2)))
theorem FU{w:World}{g gm b2 b3:Nat}{A:Option Go.Addr}{n c i:Nat}{ws:List Bs}{m:Mt}(h:LW w g gm b2 b3 A n c i ws m):Calls prog 208 #[(pt b2 0),(pt b3 0)] w (lx g gm b2 b3 A n c (bZ 3 m ws i) w):=by have e1:bZ 3 m ws i=(dL ws i).bind fun s j=>.ok { m with bE:=s } j:=rfl;have n1:=fun W (hL:dU W g A n c i ws)=>JZ hL;generalize bZ 3 m ws i=T at e1 ⊢;generalize dL ws i=r at e1 n1;have c4:=iQ 0 (jt g gm b2 b3 A n c i m.cells) [] h.rI h.rI.le (cq e1) rfl n1;have z1f:=fun(hp:r.okB=true∧r.pos≤n)=>(show RU g gm b2 b3 A n c T [] (jt g gm b2 b3 A n c r.pos ({ m with bE:=r.val }:Mt).cells)from⟨({ m with bE:=r.val }:Mt),r.pos,cd e1 hp.1,hp.2,rfl,rfl⟩);have z3f:=fun(_:¬(r.okB=true∧r.pos≤n))=>trivial;refine nC h [(4,.au (fK 0 g A n c r Pr))] [] (by kernel_rfl) func208 rfl (dR rfl) ?_;exact VK (by kernel_rfl) (Sx.t2 c4 (fun(hx0:r.okB=true∧r.pos≤n)=>(z1f hx0)) (fun(hx2:¬(r.okB=true∧r.pos≤n))=>(z3f hx2)))
theorem FT{w:World}{g gm b2 b3:Nat}{A:Option Go.Addr}{n c i:Nat}{ws:List Bs}{m:Mt}(h:LW w g gm b2 b3 A n c i ws m):Calls prog 210 #[(pt b2 0),(pt b3 0)] w (lx g gm b2 b3 A n c (bZ 4 m ws i) w):=by have e1:bZ 4 m ws i=(gZ ws i).bind fun s j=>.ok { m with sp:=s } j:=rfl;have n1:=fun W (hL:dU W g A n c i ws)=>xV hL;generalize bZ 4 m ws i=T at e1 ⊢;generalize gZ ws i=r at e1 n1;have c4:=iQ 0 (jt g gm b2 b3 A n c i m.cells) [] h.rI h.rI.le (cq e1) rfl n1;have z1f:=fun(hp:r.okB=true∧r.pos≤n)=>(show RU g gm b2 b3 A n c T [] (jt g gm b2 b3 A n c r.pos ({ m with sp:=r.val }:Mt).cells)from⟨({ m with sp:=r.val }:Mt),r.pos,cd e1 hp.1,hp.2,rfl,rfl⟩);have z3f:=fun(_:¬(r.okB=true∧r.pos≤n))=>trivial;refine nC h [(4,.au (fK 0 g A n c r ly))] [] (by kernel_rfl) func210 rfl (dR rfl) ?_;exact VK (by kernel_rfl) (Sx.t2 c4 (fun(hx0:r.okB=true∧r.pos≤n)=>(z1f hx0)) (fun(hx2:¬(r.okB=true∧r.pos≤n))=>(z3f hx2)))
theorem FR{w:World}{g gm b2 b3:Nat}{A:Option Go.Addr}{n c i:Nat}{ws:List Bs}{m:Mt}(h:LW w g gm b2 b3 A n c i ws m):Calls prog 211 #[(pt b2 0),(pt b3 0)] w (lx g gm b2 b3 A n c (bZ 5 m ws i) w):=by have e1:bZ 5 m ws i=(gZ ws i).bind fun s j=>.ok { m with dp:=s } j:=rfl;have n1:=fun W (hL:dU W g A n c i ws)=>xV hL;generalize bZ 5 m ws i=T at e1 ⊢;generalize gZ ws i=r at e1 n1;have c4:=iQ 0 (jt g gm b2 b3 A n c i m.cells) [] h.rI h.rI.le (cq e1) rfl n1;have z1f:=fun(hp:r.okB=true∧r.pos≤n)=>(show RU g gm b2 b3 A n c T [] (jt g gm b2 b3 A n c r.pos ({ m with dp:=r.val }:Mt).cells)from⟨({ m with dp:=r.val }:Mt),r.pos,cd e1 hp.1,hp.2,rfl,rfl⟩);have z3f:=fun(_:¬(r.okB=true∧r.pos≤n))=>trivial;refine nC h [(4,.au (fK 0 g A n c r ly))] [] (by kernel_rfl) func211 rfl (dR rfl) ?_;exact VK (by kernel_rfl) (Sx.t2 c4 (fun(hx0:r.okB=true∧r.pos≤n)=>(z1f hx0)) (fun(hx2:¬(r.okB=true∧r.pos≤n))=>(z3f hx2)))
set_option maxRecDepth 100000
open Go.RowKit Go.Lib Go.Sort _root_.Go.Proofs.Tryz
set_option maxRecDepth 100000
theorem By:∀(a:Fin 64) (k:Fin 6),(bits .and .u8 (a.val:Int) ((2^k.val:Nat):Int)==0)=!a.val.testBit k.val:=by decide+kernel
theorem Cr:∀(a:Fin 64) (k:Fin 6),bits .or .u8 (a.val:Int) ((2^k.val:Nat):Int)=((a.val|||2^k.val:Nat):Int):=by decide+kernel
theorem Pe{a:Nat}(ha:a < 64)(k:Nat)(hk:k < 6):(bits .and .u8 (a:Int) ((2^k:Nat):Int)==0)=!a.testBit k:=By ⟨a,ha⟩ ⟨k,hk⟩
theorem QF{a:Nat}(ha:a < 64)(k:Nat)(hk:k < 6):bits .or .u8 (a:Int) ((2^k:Nat):Int)=((a|||2^k:Nat):Int):=Cr ⟨a,ha⟩ ⟨k,hk⟩
theorem GQ{w:World}{g gm:Nat}{A:Option Go.Addr}{n c:Nat}{ws:List Bs}{m:Mt}{T:Out (Bool×Mt)}(h:sf w [g,gm] g A n c n ws)(hbm:aq w gm 66 m.cells)(hne:g≠gm)(hT:T=.ok (false,m) n):Calls prog 153 #[.pointer (some ⟨g,0,none⟩),.pointer (some ⟨gm,0,none⟩)] w (mT g gm A n c T w):=by have Bj:VH ((n:Int)==(n:Int))=.bool true:=Bk (by simp);have z0:Ua g gm A n c T [.val (.bool false)] (nP g gm A n c n m.cells):=⟨false,m,n,_,hT,VY _,rfl,rfl⟩;refine yl h hbm hne [bq 16 true] [] (by kernel_rfl) func153 rfl (dR rfl) ?_;exact VK (by kernel_rfl) (VE Bj z0)
theorem CV{w:World}{g gm:Nat}{A:Option Go.Addr}{n c i:Nat}{ws:List Bs}{m:Mt}{T:Out (Bool×Mt)}{x:Bs}(h:sf w [g,gm] g A n c i ws)(hbm:aq w gm 66 m.cells)(hne:g≠gm)(hx:ws[i]?=some x)(hf:x≠wD∧x≠lD∧x≠nJ∧x≠fD∧x≠gV∧x≠iT)(hT:T=.ok (false,m) i):Calls prog 153 #[(pt g 0),(pt gm 0)] w (mT g gm A n c T w):=by
 have hi:i < n:=by rw[←h.rM.len];exact(VP.1 hx).1
 obtain⟨p,hp1,hp2⟩:=h.rM.at (c:=c) hx;have hbd:=h.bd;have Bj:VH ((i:Int)==(n:Int))=.bool false:=xl (by rw[beq_eq_false_iff_ne];omega);have c25:=fun W (_:ah [g,gm] w W)=>hp1 W;have c26:=hp2;have c28:=fun W=>fP (.tmp 26) (.const (ab wD)) x wD false (decide_eq_false hf.1) W;have c31:=fun W=>fP (.tmp 26) (.const (ab lD)) x lD false (decide_eq_false hf.2.1) W;have c34:=fun W=>fP (.tmp 26) (.const (ab nJ)) x nJ false (decide_eq_false hf.2.2.1) W;have c37:=fun W=>fP (.tmp 26) (.const (ab fD)) x fD false (decide_eq_false hf.2.2.2.1) W;have c40:=fun W=>fP (.tmp 26) (.const (ab gV)) x gV false (decide_eq_false hf.2.2.2.2.1) W;have c43:=fun W=>fP (.tmp 26) (.const (ab iT)) x iT false (decide_eq_false hf.2.2.2.2.2) W;have z0:Ua g gm A n c T [.val (.bool false)] (nP g gm A n c i m.cells):=⟨false,m,i,_,hT,h.le,rfl,rfl⟩;refine yl h hbm hne [bq 16 false,(25,.any p),(26,.any (ab x)),(28,.bin (.bool false)),(31,.bin (.bool false)),(34,.bin (.bool false)),(37,.bin (.bool false)),(40,.bin (.bool false)),(43,.bin (.bool false))] [] (by kernel_rfl) func153 rfl (dR rfl) ?_;exact VK (by kernel_rfl) (Sx.t8 Bj c25 c26 c28 c31 c34 c37 c40 (VE c43 z0))
def Vb:Nat→FuncId
 | 0=>204
 | 1=>206
 | 2=>207
 | 3=>208
 | 4=>210
 |_=>211
def Mf:Nat→Bs
 | 0=>wD
 | 1=>lD
 | 2=>nJ
 | 3=>fD
 | 4=>gV
 |_=>iT
theorem Tf:∀k,k < 6→∀j,j < 6→decide (Mf k=Mf j)=VM k j:=by decide
theorem FQ(k:Nat)(hk:k < 6){w:World}{g gm b2 b3:Nat}{A:Option Go.Addr}{n c i:Nat}{ws:List Bs}{m:Mt}(h:LW w g gm b2 b3 A n c i ws m):Calls prog (Vb k) #[(pt b2 0),(pt b3 0)] w (lx g gm b2 b3 A n c (bZ k m ws i) w):=by
 match k,hk with
 | 0,_=>exact FX h
 | 1,_=>exact FW h
 | 2,_=>exact FV h
 | 3,_=>exact FU h
 | 4,_=>exact FT h
 | 5,_=>exact FR h
theorem Rd:∀k,k < 6→AE (Mf k)=some k:=by decide
theorem KI(k:Nat)(hk6:k < 6){w:World}{g gm:Nat}{A:Option Go.Addr}{n c i:Nat}{ws:List Bs}{m:Mt}{T:Out (Bool×Mt)}(h:sf w [g,gm] g A n c i ws)(hbm:aq w gm 66 m.cells)(hne:g≠gm)(hx:ws[i]?=some (Mf k))(ha:m.asks < 64)(hT:T=match m.asks.testBit k with|true=>.no 200 (i+1)|false=>(bZ k { m with asks:=m.asks|||2^k } ws (i+1)).bind fun m' j=>.ok (true,m') j):Calls prog 153 #[(pt g 0),(pt gm 0)] w (mT g gm A n c T w):=by
 have hi:i < n:=by rw[←h.rM.len];exact(VP.1 hx).1
 obtain⟨p,hp1,hp2⟩:=h.rM.at (c:=c) hx;have hbd:=h.bd;have Bj:VH ((i:Int)==(n:Int))=.bool false:=xl (by rw[beq_eq_false_iff_ne];omega);have c25:=fun W (_:ah [g,gm] w W)=>hp1 W;have c26:=hp2;have q:=fun(t j:Nat) (_:t=26) (hj:j < 6) W=>fP (.tmp t) (.const (ab (Mf j))) (Mf k) (Mf j) (VM k j) (Tf k hk6 j hj) W;have c49:=uh (i:=i) (by omega);have c59:VH (bits .and .u8 (m.asks:Int) ((2^k:Nat):Int)==0)=.bool (!m.asks.testBit k):=bz (Pe ha k hk6);have hor:VF .u8 (bits .or .u8 (m.asks:Int) ((2^k:Nat):Int))=.int .u8 ((m.asks|||2^k:Nat):Int):=by rw[QF ha k hk6]
 obtain⟨m1,hm1⟩:∃m1:Mt,m1={ m with asks:=m.asks|||2^k }:=⟨_,rfl⟩;have n2:=fun W b2 b3 (hC:LW W g gm b2 b3 A n c (i+1) ws m1)=>FQ k hk6 hC;rw[←hm1]at hT;have eT:m.asks.testBit k=false→T=(bZ k m1 ws (i+1)).bind fun m' j=>.ok (true,m') j:=fun hb=>by rw[hT,hb]
 have eN:m.asks.testBit k=true→T=.no 200 (i+1):=fun hb=>by rw[hT,hb]
 generalize bZ k m1 ws (i+1)=r at n2 eT;clear hT;have c60:=iQ (T:=T) 0 (nP g gm A n c (i+1) m.cells) [.bool (!m.asks.testBit k),.int .i64 200] h (j:=i+1) hi (r:=aK (!m.asks.testBit k) 200 () (i+1)) (fun code p hh=>by
  cases hb:m.asks.testBit k with
  |false=>rw[hb]at hh;cases hh
  |true=>rw[hb]at hh;injection hh with h1 h2;rw[eN hb,h1,h2]) rfl (fun W hL=>lJ _ 200 () hL)
 have c66f:=fun(_:(aK (!m.asks.testBit k) 200 () (i+1)).okB=true∧(aK (!m.asks.testBit k) 200 () (i+1)).pos≤n)=>hor;have hbit:(aK (!m.asks.testBit k) 200 () (i+1)).okB=true→m.asks.testBit k=false:=fun hh=>by
  cases hb:m.asks.testBit k with
  |false=>rfl
  |true=>rw[hb]at hh;cases hh
 have hpos:(aK (!m.asks.testBit k) 200 () (i+1)).pos=i+1:=by cases m.asks.testBit k<;>rfl
 generalize aK (!m.asks.testBit k) 200 () (i+1)=r1 at c60 c66f hbit hpos;generalize (!m.asks.testBit k)=nb at c59 c60;have c70f:=fun(hp:r1.okB=true∧r1.pos≤n)=>(show ∀W (β:Sx.Env) (_:Sx.dS ⟨w,[g,gm],mS T w⟩ β W (Sx.rowAt (nP g gm A n c r1.pos m1.cells)) [0,1,2,3]),Calls prog (Vb k) (([.ptr 2 0,.ptr 3 0]:List Sx.SV).map (Sx.SV.den β)).toArray W (Sx.br ⟨w,[g,gm],mS T w⟩ β W (Sx.rowAt (nP g gm A n c r1.pos m1.cells)) 4 (TW g gm A n c r))from by rw[hpos];exact Tu h hi (cq (eT (hbit hp.1))) n2);have z2f:=fun(hp:r1.okB=true∧r1.pos≤n) (hp2:r.okB=true∧r.pos≤n)=>(show Ua g gm A n c T [.val (.bool true)] (nP g gm A n c r.pos r.val.cells)from⟨true,r.val,r.pos,_,cd (eT (hbit hp.1)) hp2.1,hp2.2,rfl,rfl⟩);have z4f:=fun(_:¬(r1.okB=true∧r1.pos≤n))=>trivial;subst hm1;have CH:=Sx.t4 Bj c25 c26 (q 26 0 rfl (by decide)) (dt.mk (b:=VS k 0) (fun _=>q 26 1 rfl (by decide)) (dt.mk (b:=VS k 1) (fun _=>q 26 2 rfl (by decide)) (dt.mk (b:=VS k 2) (fun _=>q 26 3 rfl (by decide)) (dt.mk (b:=VS k 3) (fun _=>q 26 4 rfl (by decide)) (dt.mk (b:=VS k 4) (fun _=>q 26 5 rfl (by decide)) (Sx.t4 c49 c59 c60 (fun(hx0:r1.okB=true∧r1.pos≤n)=>(Sx.t2 (c66f hx0) (c70f hx0) (fun(hx1:r.okB=true∧r.pos≤n)=>(z2f hx0 hx1)))) (fun(hx3:¬(r1.okB=true∧r1.pos≤n))=>(z4f hx3))))))));refine yl h hbm hne [bq 16 false,(25,.any p),(26,.any (ab (Mf k))),(28,.bin (.bool (VM k 0))),(31,.bin (.bool (VM k 1))),(34,.bin (.bool (VM k 2))),(37,.bin (.bool (VM k 3))),(40,.bin (.bool (VM k 4))),(43,.bin (.bool (VM k 5))),oP 49 (i+1),bq 59 nb,(60,.au (fK 0 g A n c r1 fun _=>.tuple #[])),(66,.is (.int .u8 ((m.asks|||2^k:Nat):Int))),(70,.au (TW g gm A n c r))] [] (by kernel_rfl) func153 rfl (dR rfl) ?_;clear q c66f c70f z2f z4f Bj c25 c26 c49 c59 c60 hor hbit hpos eT eN n2 hp1 hp2 hx;match k,hk6 with
 | 0,_=>exact VK (by kernel_rfl) CH
 | 1,_=>exact VK (by kernel_rfl) CH
 | 2,_=>exact VK (by kernel_rfl) CH
 | 3,_=>exact VK (by kernel_rfl) CH
 | 4,_=>exact VK (by kernel_rfl) CH
 | 5,_=>exact VK (by kernel_rfl) CH
theorem EV{w:World}{g gm:Nat}{A:Option Go.Addr}{n c i:Nat}{ws:List Bs}{m:Mt}(h:sf w [g,gm] g A n c i ws)(hbm:aq w gm 66 m.cells)(hne:g≠gm)(ha:m.asks < 64):Calls prog 153 #[(pt g 0),(pt gm 0)] w (mT g gm A n c (aZ ws i m) w):=by
 have hlen:=h.rM.len;cases hx:ws[i]? with
 |none=>
  have hi:i=n:=by have:=List.getElem?_eq_none_iff.1 hx;have:=h.le;omega
  subst hi;exact GQ h hbm hne (by unfold aZ;rw[hx])
 |some x=>
  have hT:aZ ws i m=(match AE x with
   |none=>.ok (false,m) i
   |some k=>match m.asks.testBit k with
    |true=>.no 200 (i+1)
      |false=>(bZ k { m with asks:=m.asks|||2^k } ws (i+1)).bind fun m' j=>.ok (true,m') j):=by unfold aZ;rw[hx];rfl
  by_cases hk:∃k,k < 6∧x=Mf k
  ·obtain⟨k,hk6,rfl⟩:=hk
   rw[Rd k hk6]at hT;exact KI k hk6 h hbm hne hx ha hT
  have hf:∀k,k < 6→x≠Mf k:=fun k h6 e=>hk ⟨k,h6,e⟩;have h0:=hf 0 (by decide);have h1:=hf 1 (by decide);have h2:=hf 2 (by decide);have h3:=hf 3 (by decide);have h4:=hf 4 (by decide);have h5:=hf 5 (by decide);have hf:AE x=none:=by unfold AE;exact(if_neg h0).trans ((if_neg h1).trans ((if_neg h2).trans ((if_neg h3).trans ((if_neg h4).trans (if_neg h5)))))
  rw[hf]at hT;exact CV h hbm hne hx ⟨h0,h1,h2,h3,h4,h5⟩ hT
set_option maxRecDepth 100000
open Go.RowKit Go.Lib Go.Sort _root_.Go.Proofs.Tryz
set_option maxRecDepth 100000
def oO(m:Mt):Value:=.agg m.cells.toArray
def PN(g:Nat)(A:Option Go.Addr)(n c:Nat)(T:Out (Bool×Mt)):Sx.cn:=⟨[0,1],[(0,⟨154,.dj g (dh A n c T.pos)⟩),(1,⟨66,.ai T.val.2.cells⟩)],[],[],.val (.bool T.val.1),some (T.okB=true∧T.pos≤n)⟩
def jm(g:Nat)(A:Option Go.Addr)(n c i:Nat)(m:Mt):List Sx.Row:=[⟨154,.dj g (dh A n c i)⟩,⟨66,.ai m.cells⟩]
theorem KG{γ:Type}{P:Program}{w:World}{f g n c i j:Nat}{A:Option Go.Addr}{ws:List Bs}{m:Mt}{T:Out (Bool×Mt)}{TT:Out γ}(h0:dU w g A n c i ws)(hj:j≤n)(hT:∀code p,T=.no code p→TT=.no code p)
  (h:∀W gm,sf W [g,gm] g A n c j ws→aq W gm 66 m.cells→g≠gm→Calls P f #[.pointer (some ⟨g,0,none⟩),.pointer (some ⟨gm,0,none⟩)] W (mT g gm A n c T W)) (W:World) (β:Sx.Env) (hS:Sx.dS ⟨w,[g],mS TT w⟩ β W (Sx.rowAt (jm g A n c j m)) [0,1]) :
  Calls P f (([.ptr 0 0,.ptr 1 0]:List Sx.SV).map (Sx.SV.den β)).toArray W (Sx.br ⟨w,[g],mS TT w⟩ β W (Sx.rowAt (jm g A n c j m)) 2 (PN g A n c T)):=by
 have r0:=hS.held 0 (by simp) _ rfl;have r1:aq W (β 1) 66 m.cells:=hS.held 1 (by simp) _ rfl;have e0:β 0=g:=r0.1;have r0:aq W g 154 (dh A n c j):=e0 ▸ r0.2;have hne:g≠β 1:=fun he=>by have:=hS.inj 0 (by simp) 1 (by simp) _ _ (β 0) rfl rfl rfl (by show some (β 1)=some (β 0);rw[e0,he]);cases this
 have n1:=hS.new 1 (by simp) _ (β 1) rfl rfl;have hL:sf W [g,β 1] g A n c j ws:=h0.rI.add hS.aD hj r0 (fun x hx=>by
  simp only[VJ,VI,or_false]at hx;rcases hx with rfl|rfl
  ·exact .inl (by simp)
  ·exact n1) (by simp)
 have ht:Sx.cn.dE β (Sx.rowAt (jm g A n c j m)) (PN g A n c T)=[g,β 1]:=by show [β 0,β 1]=_;rw[e0]
 show Calls P f #[.pointer (some ⟨β 0,0,none⟩),.pointer (some ⟨β 1,0,none⟩)] W _;rw[e0];refine(h W (β 1) hL r1 hne).mono fun e w' hp=>?_;rcases hp with⟨q,i',rfl,hi,he,b0,b1,hc⟩ | ⟨code,p,chain,hT',he,hf,hc⟩
 ·refine .inl ⟨fun p hp=>by cases hp;exact⟨rfl,hi⟩,β,Sx.dx (v:=.bool q.1) rfl rfl he (fun u hu=>?_) (by rw[ht];exact hc)⟩
  have hu:u=(0,⟨154,.dj g (dh A n c i')⟩)∨u=(1,⟨66,.ai q.2.cells⟩):=by have:u∈[(0,(⟨154,.dj g (dh A n c i')⟩:Sx.Row)),(1,⟨66,.ai q.2.cells⟩)]:=hu;simpa using this
  rcases hu with rfl|rfl
  ·exact⟨e0,by show aq w' (β 0) _ _;rw[e0];exact b0⟩
  ·exact b1
 ·exact .inr ⟨rfl,chain,he,⟨code,p,hT code p hT',hf.up hS.aD.size⟩,by rw[ht];exact hc⟩
theorem Cm{k:Nat}{m m':Mt}{ws:List Bs}{i j:Nat}(h:bZ k m ws i=.ok m' j):m'.asks=m.asks:=by
 have key:∀{α:Type} {r:Out α} {f:α→Mt},(∀a,(f a).asks=m.asks)→(r.bind fun s j=>.ok (f s) j)=.ok m' j→m'.asks=m.asks:=fun {α r f} hf hh=>by
  cases r with
  |no c p=>cases hh
  |ok a l=>injection hh with h1 _;rw[←h1];exact hf a
 rcases k with _|_|_|_|_|k
 ·exact key (f:=fun s=>{ m with fE:=s }) (fun _=>rfl) h
 ·exact key (f:=fun s=>{ m with src:=s }) (fun _=>rfl) h
 ·exact key (f:=fun s=>{ m with dst:=s }) (fun _=>rfl) h
 ·exact key (f:=fun s=>{ m with bE:=s }) (fun _=>rfl) h
 ·exact key (f:=fun s=>{ m with sp:=s }) (fun _=>rfl) h
 ·exact key (f:=fun s=>{ m with dp:=s }) (fun _=>rfl) h
theorem CU{x:Bs}{k:Nat}(h:AE x=some k):k < 6:=by
 unfold AE at h;repeat' (split at h)
 all_goals first | (injection h with h;omega)|cases h
theorem Eo:∀(a:Fin 64) (k:Fin 6),a.val|||2^k.val < 64:=by decide+kernel
theorem uG{ws:List Bs}{i:Nat}{m m':Mt}{b:Bool}{j:Nat}(h:aZ ws i m=.ok (b,m') j)(ha:m.asks < 64):m'.asks < 64:=by
 unfold aZ at h;split at h
 ·injection h with h _;injection h with _ h;rw[←h];exact ha
 ·split at h
  ·injection h with h _;injection h with _ h;rw[←h];exact ha
  ·rename_i k hk
   split at h
   ·cases h
   ·cases hr:bZ k { m with asks:=m.asks|||2^k } ws (i+1)with
    |no c p=>rw[hr]at h;cases h
    |ok a l=>rw[hr]at h;simp only[Out.bind]at h;injection h with h _;injection h with _ h;rw[←h,Cm hr];exact Eo ⟨m.asks,ha⟩ ⟨k,CU hk⟩
theorem AL{ws:List Bs}{i:Nat}{m m':Mt}{j:Nat}(h:aZ ws i m=.ok (false,m') j):m'=m∧j=i:=by
 unfold aZ at h;split at h
 ·injection h with q q2;injection q with _ q;exact⟨q.symm,q2.symm⟩
 ·split at h
  ·injection h with q q2;injection q with _ q;exact⟨q.symm,q2.symm⟩
  ·split at h
   ·cases h
   ·rename_i k _ _ _
    cases hq:bZ k { m with asks:=m.asks|||2^k } ws (i+1)with
    |no c p=>rw[hq]at h;cases h
    |ok a l=>rw[hq]at h;cases h
theorem Gu{w:World}{g:Nat}{A:Option Go.Addr}{n c i:Nat}{ws:List Bs}(h:dU w g A n c i ws){T:Out Mt}(h1:dd ws i kZ=.ok true (i+1))(hT:T=.ok lG (i+1)):Calls prog 93 #[(pt g 0)] w (bC g A n c oO T w):=by have c4:=kX (T:=T) [⟨66,.ai lG.cells⟩] [ab kZ] h h.le (fun code p hh=>by cases hh) (fun W (hL:dU W g A n c i ws)=>h1 ▸ jE kZ hL);have z1f:=fun(hp:(Out.ok true (i+1)).okB=true∧(Out.ok true (i+1)).pos≤n)=>(show BK g A n c oO T (.val (oO lG)) [(g,154,dh A n c (i+1))]from⟨lG,_,hT,hp.2,rfl,rfl⟩);refine fg [] h.bY [(4,.au (fK 0 g A n c (Out.ok true (i+1)) fun b=>.bool b))] [] (by kernel_rfl) func93 rfl (dR rfl) ?_;exact VK (by kernel_rfl) (VE c4 (fun(hx0:(Out.ok true (i+1)).okB=true∧(Out.ok true (i+1)).pos≤n)=>(z1f hx0)))
theorem CA{w:World}{g:Nat}{A:Option Go.Addr}{n c i:Nat}{ws:List Bs}(h:dU w g A n c i ws){T:Out Mt}{r:Out (Bool×Mt)}{m':Mt}{r3:Out Bs}(h1:dd ws i kZ=.ok false i)
  (hn:∀W gm,sf W [g,gm] g A n c i ws→aq W gm 66 lG.cells→g≠gm→Calls prog 153 #[(pt g 0),(pt gm 0)] W (mT g gm A n c r W)) (hv:r.val=(false,m'))
  (n3:∀W,dU W g A n c r.pos ws→Calls prog 154 #[(pt g 0)] W (bC g A n c ab r3 W))
  (hno:∀code p,r=.no code p→T=.no code p) (e2:r.okB=true→T=r3.bind fun _ l=>.no 200 l):Calls prog 93 #[(pt g 0)] w (bC g A n c oO T w):=by
 have hG:PN g A n c r=⟨[0,1],[(0,⟨154,.dj g (dh A n c r.pos)⟩),(1,⟨66,.ai m'.cells⟩)],[],[],.val (.bool false),some (r.okB=true∧r.pos≤n)⟩:=by unfold PN;rw[hv]
 have c4:=kX (T:=T) [⟨66,.ai lG.cells⟩] [ab kZ] h h.le (fun code p hh=>by cases hh) (fun W (hL:dU W g A n c i ws)=>h1 ▸ jE kZ hL);have c7f:=fun(_:(Out.ok false i).okB=true∧(Out.ok false i).pos≤n)=>KG h h.le hno hn;have c10f:=fun(_:(Out.ok false i).okB=true∧(Out.ok false i).pos≤n) (hp:r.okB=true∧r.pos≤n)=>kX [⟨66,.ai m'.cells⟩] [] h hp.2 (cq (e2 hp.1)) n3;have c16f:=fun(_:(Out.ok false i).okB=true∧(Out.ok false i).pos≤n) (hp:r.okB=true∧r.pos≤n) (hp3:r3.okB=true∧r3.pos≤n) W (hW:ah [g] w W) (_:aq W g 154 (dh A n c r3.pos))=>jZ (b:=⟨w,[g],mS T w⟩) (vs:=[(pt g 0),.int .i64 200,.int .i64 (r3.pos:Int)]) (ps:=[(0,0)]) ((qD ((pt g 0)) 200 (r3.pos:Int) W).mono fun _ _ ⟨ch,he,hf,hc⟩=>⟨ch,he,(show mS T w _ _ from⟨200,r3.pos,cd (e2 hp.1) hp3.1,hf.up hW.size⟩),hc⟩);have z3f:=fun(_:(Out.ok false i).okB=true∧(Out.ok false i).pos≤n) (_:r.okB=true∧r.pos≤n) (_:r3.okB=true∧r3.pos≤n)=>trivial;rw[hG]at c7f;refine fg [] h.bY [(4,.au (fK 0 g A n c (Out.ok false i) fun b=>.bool b)),(7,.au ⟨[0,1],[(0,⟨154,.dj g (dh A n c r.pos)⟩),(1,⟨66,.ai m'.cells⟩)],[],[],.val (.bool false),some (r.okB=true∧r.pos≤n)⟩),(10,.au (fK 0 g A n c r3 ab)),(16,.pW)] [] (by kernel_rfl) func93 rfl (dR rfl) ?_;exact VK (by kernel_rfl) (VE c4 (fun(hx0:(Out.ok false i).okB=true∧(Out.ok false i).pos≤n)=>(VE (c7f hx0) (fun(hx1:r.okB=true∧r.pos≤n)=>(VE (c10f hx0 hx1) (fun(hx2:r3.okB=true∧r3.pos≤n)=>(VE (c16f hx0 hx1 hx2) (z3f hx0 hx1 hx2))))))))
def SX(ws:List Bs)(n:Nat)(T:Out Mt)(k:Mt×Nat):Prop:=k.2≤n∧k.1.asks < 64∧T=dY ws (ws.length+1 - k.2) k.2 k.1
def Cx(_:Mt×Nat):List (Nat×Sx.SV):=[(0,.ptr 0 0),(2,.ptr 1 0)]
noncomputable def rH(ws:List Bs)(k:Mt×Nat):Mt×Nat:=((aZ ws k.2 k.1).val.2,(aZ ws k.2 k.1).pos)
def zS(n:Nat)(T:Out Mt)(k:Mt×Nat):Prop:=k.2≤n∧T=.ok k.1 k.2
theorem JU{w:World}{g:Nat}{A:Option Go.Addr}{n c i:Nat}{ws:List Bs}(h:dU w g A n c i ws){T:Out Mt}(k:Mt×Nat)(hk:SX ws n T k) :
  ∃H' L',Sx.lj prog f93.ntmps ⟨w,[g],mS T w⟩ (Sx.dr f93 0) H' L' ⟨Cx k,jm g A n c k.2 k.1⟩ (Sx.ia (SX ws n T) Cx (fun k=>jm g A n c k.2 k.1) (rH ws) (fun k=>n+1 - k.2) (zS n T) (fun _=>[(2,.ptr 1 0)]) (fun k=>jm g A n c k.2 k.1) (rH ws) (Sx.fX (Sx.dr f93 0) - 1) (Sx.uR prog f93 (BK g A n c oO T) .ret) k):=by
 obtain⟨m,j⟩:=k;obtain⟨hj,ha,hT⟩:=hk;have hlen:=h.len;have hj:j≤n:=hj;have hT:T=dY ws (ws.length+1 - j) j m:=hT;obtain⟨f,hf⟩:∃f,ws.length+1 - j=f+1:=⟨ws.length - j,by omega⟩;have e1:T=(aZ ws j m).bind fun r k=>match r.1 with
  |true=>dY ws f k r.2
  |false=>.ok m k:=by rw[hT,hf];rfl
 have hn:=fun W gm (hL:sf W [g,gm] g A n c j ws) (hb:aq W gm 66 m.cells) (hne:g≠gm)=>EV hL hb hne ha;have hno:=cq e1;have e2:=cd e1;have hx:rH ws (m,j)=((aZ ws j m).val.2,(aZ ws j m).pos):=rfl;have c18:=KG h hj hno hn;have ends:∀b,(aZ ws j m).okB=true→(aZ ws j m).val.1=b→(b=true→SX ws n T (rH ws (m,j))∧n+1 - (rH ws (m,j)).2 < n+1 - j)∧(b=false→(aZ ws j m).pos≤n→zS n T (rH ws (m,j))):=by
  intro b hp hb;have hr:aZ ws j m=.ok ((aZ ws j m).val.1,(aZ ws j m).val.2) (aZ ws j m).pos:=Out.Et hp;rw[hb]at hr;refine⟨fun h1=>?_,fun h1 h2=>?_⟩
  ·rw[h1]at hr hb
   have hps:=wR hr;have e3:=e2 hp;rw[hb]at e3;refine⟨⟨by rw[hx]; omega,by rw[hx]; exact uG hr ha,?_⟩,by rw[hx]; show n+1 - (aZ ws j m).pos < _; omega⟩;rw[hx];exact e3.trans (qY ws _ _ _ _ (by omega) (VY _) hps.2)
  ·rw[h1]at hr hb
   have e3:=e2 hp;rw[hb]at e3;refine⟨h2,?_⟩;have hm:(aZ ws j m).val.2=m:=(AL hr).1;rw[hx,hm];exact e3
 generalize hr:aZ ws j m=r at c18 ends hx;obtain⟨b,m',hv⟩:∃b m',r.val=(b,m'):=⟨_,_,rfl⟩;have hG:PN g A n c r=⟨[0,1],[(0,⟨154,.dj g (dh A n c r.pos)⟩),(1,⟨66,.ai m'.cells⟩)],[],[],.val (.bool b),some (r.okB=true∧r.pos≤n)⟩:=by unfold PN;rw[hv]
 rw[hG]at c18;rw[hv]at hx ends;refine⟨[(18,.au ⟨[0,1],[(0,⟨154,.dj g (dh A n c r.pos)⟩),(1,⟨66,.ai m'.cells⟩)],[],[],.val (.bool b),some (r.okB=true∧r.pos≤n)⟩)],[],?_⟩;cases b with
 |true=>have h1f:=fun(hp:r.okB=true∧r.pos≤n)=>((ends true hp.1 rfl).1 rfl).1;have h2f:=fun(hp:r.okB=true∧r.pos≤n)=>((ends true hp.1 rfl).1 rfl).2;have h3f:=fun(_:r.okB=true∧r.pos≤n)=>(rfl:Cx (m,j)=Cx (m,j));have z4f:=fun(_:r.okB=true∧r.pos≤n)=>(show jm g A n c r.pos m'=jm g A n c (rH ws (m,j)).2 (rH ws (m,j)).1 from by rw[hx]);exact VK (by kernel_rfl) (VE c18 (fun(hx0:r.okB=true∧r.pos≤n)=>(Sx.t2 (h1f hx0) (h2f hx0) (VE (h3f hx0) (z4f hx0)))))
 |false=>have h1f:=fun(hp:r.okB=true∧r.pos≤n)=>(ends false hp.1 rfl).2 rfl hp.2;have h2f:=fun(_:r.okB=true∧r.pos≤n)=>(rfl:([(2,.ptr 1 0)]:List (Nat×Sx.SV))=[(2,.ptr 1 0)]);have z3f:=fun(_:r.okB=true∧r.pos≤n)=>(show jm g A n c r.pos m'=jm g A n c (rH ws (m,j)).2 (rH ws (m,j)).1 from by rw[hx]);exact VK (by kernel_rfl) (VE c18 (fun(hx0:r.okB=true∧r.pos≤n)=>(Sx.t2 (h1f hx0) (h2f hx0) (z3f hx0))))
theorem Cz{w:World}{g:Nat}{A:Option Go.Addr}{n c i:Nat}{ws:List Bs}(h:dU w g A n c i ws){T:Out Mt}{r:Out (Bool×Mt)}{m':Mt}(h1:dd ws i kZ=.ok false i)
  (hn:∀W gm,sf W [g,gm] g A n c i ws→aq W gm 66 lG.cells→g≠gm→Calls prog 153 #[(pt g 0),(pt gm 0)] W (mT g gm A n c r W)) (hv:r.val=(true,m'))
  (hno:∀code p,r=.no code p→T=.no code p) (e2:r.okB=true→r.pos≤n→SX ws n T (m',r.pos)):Calls prog 93 #[(pt g 0)] w (bC g A n c oO T w):=by
 have hG:PN g A n c r=⟨[0,1],[(0,⟨154,.dj g (dh A n c r.pos)⟩),(1,⟨66,.ai m'.cells⟩)],[],[],.val (.bool true),some (r.okB=true∧r.pos≤n)⟩:=by unfold PN;rw[hv]
 have c4:=kX (T:=T) [⟨66,.ai lG.cells⟩] [ab kZ] h h.le (fun code p hh=>by cases hh) (fun W (hL:dU W g A n c i ws)=>h1 ▸ jE kZ hL);have c7f:=fun(_:(Out.ok false i).okB=true∧(Out.ok false i).pos≤n)=>KG h h.le hno hn;have h2f:=fun(_:(Out.ok false i).okB=true∧(Out.ok false i).pos≤n) (hp:r.okB=true∧r.pos≤n)=>e2 hp.1 hp.2;have e3f:=fun(_:(Out.ok false i).okB=true∧(Out.ok false i).pos≤n) (_:r.okB=true∧r.pos≤n)=>(show Cx (m',r.pos)=Cx (m',r.pos)∧jm g A n c r.pos m'=jm g A n c r.pos m' from⟨rfl,rfl⟩);have rd4f:=fun(_:(Out.ok false i).okB=true∧(Out.ok false i).pos≤n) (_:r.okB=true∧r.pos≤n)=>JU h (T:=T);have z7f:=fun(_:(Out.ok false i).okB=true∧(Out.ok false i).pos≤n) (_:r.okB=true∧r.pos≤n) (x:Mt×Nat) (hx:zS n T x)=>(show BK g A n c oO T (.val (oO x.1)) [(g,154,dh A n c x.2)]from⟨x.1,x.2,hx.2,hx.1,rfl,rfl⟩);rw[hG]at c7f;refine fg [] h.bY [(4,.au (fK 0 g A n c (Out.ok false i) fun b=>.bool b)),(7,.au ⟨[0,1],[(0,⟨154,.dj g (dh A n c r.pos)⟩),(1,⟨66,.ai m'.cells⟩)],[],[],.val (.bool true),some (r.okB=true∧r.pos≤n)⟩)] [.mk (Mt×Nat) (m',r.pos) (SX ws n T) Cx (fun k=>jm g A n c k.2 k.1) (rH ws) (fun k=>n+1 - k.2) (Mt×Nat) (zS n T) (fun _=>[(2,.ptr 1 0)]) (fun k=>jm g A n c k.2 k.1) (rH ws)] (by kernel_rfl) func93 rfl (dR rfl) ?_;exact VK (by kernel_rfl) (VE c4 (fun(hx0:(Out.ok false i).okB=true∧(Out.ok false i).pos≤n)=>(VE (c7f hx0) (fun(hx1:r.okB=true∧r.pos≤n)=>(Sx.t2 (h2f hx0 hx1) (e3f hx0 hx1) (VE (rd4f hx0 hx1) (fun(x5:Mt×Nat) (hx6:zS n T x5)=>(z7f hx0 hx1 x5 hx6))))))))
theorem Ka{w:World}{g:Nat}{A:Option Go.Addr}{n c i:Nat}{ws:List Bs}(h:dU w g A n c i ws):Calls prog 93 #[(pt g 0)] w (bC g A n c oO (fk ws i) w):=by
 have hlen:=h.len;rcases gq (ws:=ws) (i:=i) (s:=kZ)with⟨h1,h2⟩ | h1
 ·exact Gu h h1 (by unfold fk;rw[h1];rfl)
 ·have e1:fk ws i=(aZ ws i lG).bind fun r k=>match r.1 with
   |true=>dY ws (ws.length+1 - k) k r.2
   |false=>(aP ws k).bind fun _ l=>.no 200 l:=by unfold fk;rw[h1];rfl
  have hn:=fun W gm (hL:sf W [g,gm] g A n c i ws) (hb:aq W gm 66 lG.cells) (hne:g≠gm)=>EV hL hb hne (by decide);cases hb:(aZ ws i lG).val.1 with
  |false=>refine CA (m':=(aZ ws i lG).val.2) h h1 hn (by rw[←hb]) (fun W hL=>mn hL) (cq e1) fun hp=>?_;have:=cd e1 hp;rw[hb]at this;exact this
  |true=>
   refine Cz (m':=(aZ ws i lG).val.2) h h1 hn (by rw[←hb]) (cq e1) fun hp hle=>⟨hle,?_,?_⟩
   ·exact uG (b:=(aZ ws i lG).val.1) (Out.Et hp) (by decide)
   ·have:=cd e1 hp
    rw[hb]at this;exact this
set_option maxRecDepth 100000
open Go.RowKit Go.Lib Go.Sort _root_.Go.Proofs.Tryz
set_option maxRecDepth 100000
structure Mt.Wf(m:Mt):Prop where
 asks:m.asks < 256
 sn:m.src.n < 2^128
 sk : -9223372036854775808≤m.src.k∧m.src.k≤9223372036854775807
 dn:m.dst.n < 2^128
 dk : -9223372036854775808≤m.dst.k∧m.dst.k≤9223372036854775807
 fE:m.fE.1≤65535∧m.fE.2≤65535
 sp:m.sp.1≤65535∧m.sp.2≤65535
 dp:m.dp.1≤65535∧m.dp.2≤65535
 pr:m.bE≤255
theorem Lv:∀a:Fin 256,(bits .and .u8 (a.val:Int) 2 !=0)=a.val.testBit 1:=by decide+kernel
theorem Lu:∀a:Fin 256,(bits .and .u8 (a.val:Int) 4 !=0)=a.val.testBit 2:=by decide+kernel
theorem Ht:∀a:Fin 256,(bits .and .u8 (a.val:Int) 48 !=0)=(a.val.testBit 4||a.val.testBit 5):=by decide+kernel
theorem Jx:∀a:Fin 256,(bits .andNot .u8 (a.val:Int) 63 !=0)=decide (¬a.val < 64):=by decide+kernel
theorem Dv(m:Mt)(what:Int)(b:Bool)(hb:(bits .and .u8 (m.asks:Int) what !=0)=b)(w:World):Calls prog 144 #[oO m,.int .u8 what] w (Rn w (.bool b)):=by have c9:VH (bits .and .u8 (m.asks:Int) what !=0)=.bool b:=bz hb;have z0:VH b=.bool b:=rfl;refine Sx.bX (args:=[oO m,.int .u8 what]) [bq 9 b] [] (by kernel_rfl) func144 rfl (dR rfl) ?_;exact VK (by kernel_rfl) (VE c9 z0)
theorem yz:prog.cellsOf 64=2:=by kernel_rfl
theorem OQ:prog.cellsOf 62=1:=by kernel_rfl
theorem PI(d x:Nat)(hx:x≤65535):prog.keyLits (d+1) 62 [.int .u16 (x:Int)]=some [.int .u16 (x:Int)]:=by
 have hw:(Lit.int .u16 (x:Int)).wf=true:=by simp[Lit.wf,IntKind.min,IntKind.max,VO,VQ];omega
 simp[Program.keyLits,underlying62,hw]
theorem Kb(d:Nat)(s:Nat×Nat)(h1:s.1≤65535)(h2:s.2≤65535):prog.keyLits (d+2) 64 [.int .u16 (s.1:Int),.int .u16 (s.2:Int)]=some [.int .u16 (s.1:Int),.int .u16 (s.2:Int)]:=by have e1:=PI d s.1 h1;have e2:=PI d s.2 h2;have e3:(([.int .u16 (s.1:Int),.int .u16 (s.2:Int)]:List Value).drop 0).take 1=[.int .u16 (s.1:Int)]:=rfl;have e4:(([.int .u16 (s.1:Int),.int .u16 (s.2:Int)]:List Value).drop 1).take 1=[.int .u16 (s.2:Int)]:=rfl;unfold Program.keyLits;rw[underlying64];simp only;rw[if_pos ⟨by rw[yz];rfl,by simp⟩];simp only[List.mapM_cons,List.mapM_nil,OQ,e3,e4,e1,e2];rfl
theorem UG(s r:Nat×Nat)(hs:s.1≤65535∧s.2≤65535)(hr:r.1≤65535∧r.2≤65535)(W:World):(Op.equalIn 10000 64 (ly s) (ly r)).run prog W=.ok (decide (s=r)) W:=by
 obtain⟨q,h1,h2⟩:=run_equalIn_deep (P:=prog) 9995 5 64 (by kernel_rfl) W 5 5 (ly s) (ly r) _ _ (by simp[ly,VW,underlying64,yz]) (by simp[ly,VW,underlying64,yz]) (Kb 3 s hs.1 hs.2) (Kb 3 r hr.1 hr.2);simp only[Nat.reduceAdd]at h1;have e:q=decide (s=r):=by
  rw[Bool.eq_iff_iff,h2,decide_eq_true_eq];constructor
  ·intro h
   injection h with h3 h4;injection h3 with _ h3;injection h4 with h4 _;injection h4 with _ h4;exact Prod.ext (by omega) (by omega)
  ·rintro rfl;rfl
 rw[h1,e]
theorem Oi(op:BinOp)(x y:Operand)(a b:Array Value)(W:World):(eqGuard op 64 x y (.agg a) (.agg b)).run prog W=.ok () W:=by cases op<;>kernel_rfl
theorem Ca(x y:Operand)(s:Nat×Nat)(hs:s.1≤65535∧s.2≤65535)(W:World):(do eqGuard .neq 64 x y (ly s) (ly (0,0));binOp .neq 64 (ly s) (ly (0,0)):Sem Value).run prog W=.ok (.bool (!fR s)) W:=by have h:=UG s (0,0) hs (by decide) W;rw[Sem.run_bind,show(eqGuard .neq 64 x y (ly s) (ly (0,0))).run prog W=_ from Oi .neq x y _ _ W,Result.andThen_ok];show(do pure (.bool (!(←Op.equal 64 (ly s) (ly (0,0))))):Sem Value).run prog W=_;rw[Sem.run_bind,show(Op.equal 64 (ly s) (ly (0,0))).run prog W=_ from h];rfl
theorem Jm(x y:Operand)(p:Px)(hn:p.n < 2^128)(hk : -9223372036854775808≤p.k∧p.k≤9223372036854775807)(W:World):(do eqGuard .neq 29 x y (rT p) (rT oN); binOp .neq 29 (rT p) (rT oN):Sem Value).run prog W=.ok (.bool (!BI p)) W:=TB x y p.v false p.n 0 p.k 0 hn (by omega) hk (by omega) W
def Ml(n0:Bool):Int:=bif n0 then 1 else 0
def Mk(n0 n1:Bool):Int:=bif n1 then Ml n0+2 else Ml n0
def Mj(n0 n1 n2:Bool):Int:=bif n2 then Mk n0 n1+4 else Mk n0 n1
def Mh(n0 n1 n2 n3:Bool):Int:=bif n3 then Mj n0 n1 n2+8 else Mj n0 n1 n2
def Mg(n0 n1 n2 n3 n4:Bool):Int:=bif n4 then Mh n0 n1 n2 n3+16 else Mh n0 n1 n2 n3
def Kv(n0 n1 n2 n3 n4 n5:Bool):Int:=bif n5 then Mg n0 n1 n2 n3 n4+32 else Mg n0 n1 n2 n3 n4
def Tw(o1 hs g1 g2 g3 g4 s x1 d x2 ne pt q6 q17:Bool):Int:=
 bif o1||hs then 190 else bif g1||(g2||(g3||g4))then 190 else bif (s&&x1)||(d&&x2)then 190 else bif s&&d&&ne then 190 else bif pt&&q6&&q17 then 190 else 0
def Hi(v:Int):List (Nat×Sx.SV):=[(1,.ptr 0 0),(2,.val (.int .i64 0)),(3,.val (.int .u8 v))]
def rv(m:Mt):List Sx.Row:=[⟨66,.ai m.cells⟩]
theorem OM(m:Mt)(w:World)(n0 n1 n2 n3 n4 n5 o1 hs g1 g2 g3 g4 s x1 d x2 ne pt q6 q17:Bool)(v7 e1 e2:Int)
  (c8:∀W,(do eqGuard .neq 64 (.tmp 6) (.tmp 7) (ly m.fE) (ly (0,0));binOp .neq 64 (ly m.fE) (ly (0,0)):Sem Value).run prog W=.ok (.bool n0) W)
  (c14:∀W,(do eqGuard .neq 29 (.tmp 12) (.tmp 13) (rT m.src) (rT oN);binOp .neq 29 (rT m.src) (rT oN):Sem Value).run prog W=.ok (.bool n1) W)
  (c20:∀W,(do eqGuard .neq 29 (.tmp 18) (.tmp 19) (rT m.dst) (rT oN);binOp .neq 29 (rT m.dst) (rT oN):Sem Value).run prog W=.ok (.bool n2) W)
  (c25:VH ((m.bE:Int) !=0)=.bool n3)
  (c31:∀W,(do eqGuard .neq 64 (.tmp 29) (.tmp 30) (ly m.sp) (ly (0,0));binOp .neq 64 (ly m.sp) (ly (0,0)):Sem Value).run prog W=.ok (.bool n4) W)
  (c37:∀W,(do eqGuard .neq 64 (.tmp 35) (.tmp 36) (ly m.dp) (ly (0,0));binOp .neq 64 (ly m.dp) (ly (0,0)):Sem Value).run prog W=.ok (.bool n5) W)
  (c43:VF .u8 (bits .andNot .u8 (Kv n0 n1 n2 n3 n4 n5) (m.asks:Int))=.int .u8 v7)
  (c45:∀W,ah [] w W→Calls prog 144 #[oO m,.int .u8 48] W (Rn W (.bool pt)))
  (c50:VH (bits .andNot .u8 (m.asks:Int) 63 !=0)=.bool o1)
  (c53:VH (v7 !=0)=.bool hs)
  (c62:VH (decide ((m.fE.2:Int) < (m.fE.1:Int)))=.bool g1) (c67:VH (decide (255 < (m.fE.2:Int)))=.bool g2)
  (c76:VH (decide ((m.sp.2:Int) < (m.sp.1:Int)))=.bool g3) (c85:VH (decide ((m.dp.2:Int) < (m.dp.1:Int)))=.bool g4)
  (c89:∀W,ah [] w W→Calls prog 144 #[oO m,.int .u8 2] W (Rn W (.bool s)))
  (c98:∀W,ah [] w W→Calls prog 144 #[oO m,.int .u8 4] W (Rn W (.bool d)))
  (c93:∀W,ah [] w W→Calls prog 50 #[rT m.src] W (Rn W (.int .i64 e1)))
  (c102:∀W,ah [] w W→Calls prog 50 #[rT m.dst] W (Rn W (.int .i64 e2)))
  (c94:VH (e1 !=0)=.bool x1) (c103:VH (e2 !=0)=.bool x2)
  (c122:VH (m.src.v !=m.dst.v)=.bool ne) (c129:VH ((m.bE:Int) !=6)=.bool q6) (c134:VH ((m.bE:Int) !=17)=.bool q17) :
  Calls prog 83 #[oO m] w (Rn w (.int .i64 (Tw o1 hs g1 g2 g3 g4 s x1 d x2 ne pt q6 q17))):=by
 have c10f:=fun(hb:n0=true)=>(show VF .u8 (bits .or .u8 0 1)=.int .u8 (Ml n0)from by subst hb;rfl);have c16f:=fun(hb:n1=true)=>(show VF .u8 (bits .or .u8 (Ml n0) 2)=.int .u8 (Mk n0 n1)from by subst hb;cases n0<;>rfl);have c22f:=fun(hb:n2=true)=>(show VF .u8 (bits .or .u8 (Mk n0 n1) 4)=.int .u8 (Mj n0 n1 n2)from by subst hb;cases n0<;>cases n1<;>rfl);have c27f:=fun(hb:n3=true)=>(show VF .u8 (bits .or .u8 (Mj n0 n1 n2) 8)=.int .u8 (Mh n0 n1 n2 n3)from by subst hb;cases n0<;>cases n1<;>cases n2<;>rfl);have c33f:=fun(hb:n4=true)=>(show VF .u8 (bits .or .u8 (Mh n0 n1 n2 n3) 16)=.int .u8 (Mg n0 n1 n2 n3 n4)from by subst hb;cases n0<;>cases n1<;>cases n2<;>cases n3<;>rfl);have c39f:=fun(hb:n5=true)=>(show VF .u8 (bits .or .u8 (Mg n0 n1 n2 n3 n4) 32)=.int .u8 (Kv n0 n1 n2 n3 n4 n5)from by subst hb;cases n0<;>cases n1<;>cases n2<;>cases n3<;>cases n4<;>rfl);have zmem:=(rfl:rv m=rv m);have c108:=c89;have c111:=c98;refine Sx.bX (args:=[oO m]) [(8,.bin (.bool n0)),(14,.bin (.bool n1)),(20,.bin (.bool n2)),bq 25 n3,(31,.bin (.bool n4)),(37,.bin (.bool n5)),
  (10,.is (.int .u8 (Ml n0))),(16,.is (.int .u8 (Mk n0 n1))),(22,.is (.int .u8 (Mj n0 n1 n2))),(27,.is (.int .u8 (Mh n0 n1 n2 n3))),(33,.is (.int .u8 (Mg n0 n1 n2 n3 n4))),(39,.is (.int .u8 (Kv n0 n1 n2 n3 n4 n5))),
  (500008,.join (Hi (Ml n0)) (rv m)),(500014,.join (Hi (Mk n0 n1)) (rv m)),(500020,.join (Hi (Mj n0 n1 n2)) (rv m)),(500025,.join (Hi (Mh n0 n1 n2 n3)) (rv m)),(500031,.join (Hi (Mg n0 n1 n2 n3 n4)) (rv m)),(500037,.join (Hi (Kv n0 n1 n2 n3 n4 n5)) (rv m)),
  (43,.is (.int .u8 v7)),(45,.call (.bool pt)),bq 50 o1,bq 53 hs,bq 62 g1,bq 67 g2,bq 76 g3,bq 85 g4,
  (89,.call (.bool s)),(98,.call (.bool d)),(93,.call (.int .i64 e1)),(102,.call (.int .i64 e2)),bq 94 x1,bq 103 x2,(108,.call (.bool s)),(111,.call (.bool d)),bq 122 ne,bq 129 q6,bq 134 q17] [] (by kernel_rfl) func83 rfl (dR rfl) ?_
 have GG:∀ n:Nat,VG n=(Tw o1 hs g1 g2 g3 g4 s x1 d x2 ne pt q6 q17)→VF .i64 (VG n)=VF .i64 (Tw o1 hs g1 g2 g3 g4 s x1 d x2 ne pt q6 q17):=fun n h=>by rw[h]
 exact VK (by kernel_rfl) (Sx.t8 c8 (Sx.aL (b:=n0) (fun hb0=>(Sx.t2 (c10f hb0) (show [(1,Sx.SV.ptr 0 0),(2,Sx.SV.val (VF .i64 (VG 0))),(3,Sx.SV.val (VF .u8 (Ml n0)))]=[(1,Sx.SV.ptr 0 0),(2,Sx.SV.val (VF .i64 (VG 0))),(3,Sx.SV.val (VF .u8 (Ml n0)))]from by cases hb0<;>rfl) zmem)) (fun hb0=>(VE (show [(1,Sx.SV.ptr 0 0),(2,Sx.SV.val (VF .i64 (VG 0))),(3,Sx.SV.val (VF .u8 (VG 0)))]=[(1,Sx.SV.ptr 0 0),(2,Sx.SV.val (VF .i64 (VG 0))),(3,Sx.SV.val (VF .u8 (Ml n0)))]from by cases hb0<;>rfl) zmem))) c14 (Sx.aL (b:=n1) (fun hb5=>(Sx.t2 (c16f hb5) (show [(1,Sx.SV.ptr 0 0),(2,Sx.SV.val (VF .i64 (VG 0))),(3,Sx.SV.val (VF .u8 (Mk n0 n1)))]=[(1,Sx.SV.ptr 0 0),(2,Sx.SV.val (VF .i64 (VG 0))),(3,Sx.SV.val (VF .u8 (Mk n0 n1)))]from by cases hb5<;>rfl) zmem)) (fun hb5=>(VE (show [(1,Sx.SV.ptr 0 0),(2,Sx.SV.val (VF .i64 (VG 0))),(3,Sx.SV.val (VF .u8 (Ml n0)))]=[(1,Sx.SV.ptr 0 0),(2,Sx.SV.val (VF .i64 (VG 0))),(3,Sx.SV.val (VF .u8 (Mk n0 n1)))]from by cases hb5<;>rfl) zmem))) c20 (Sx.aL (b:=n2) (fun hb10=>(Sx.t2 (c22f hb10) (show [(1,Sx.SV.ptr 0 0),(2,Sx.SV.val (VF .i64 (VG 0))),(3,Sx.SV.val (VF .u8 (Mj n0 n1 n2)))]=[(1,Sx.SV.ptr 0 0),(2,Sx.SV.val (VF .i64 (VG 0))),(3,Sx.SV.val (VF .u8 (Mj n0 n1 n2)))]from by cases hb10<;>rfl) zmem)) (fun hb10=>(VE (show [(1,Sx.SV.ptr 0 0),(2,Sx.SV.val (VF .i64 (VG 0))),(3,Sx.SV.val (VF .u8 (Mk n0 n1)))]=[(1,Sx.SV.ptr 0 0),(2,Sx.SV.val (VF .i64 (VG 0))),(3,Sx.SV.val (VF .u8 (Mj n0 n1 n2)))]from by cases hb10<;>rfl) zmem))) c25 (Sx.aL (b:=n3) (fun hb15=>(Sx.t2 (c27f hb15) (show [(1,Sx.SV.ptr 0 0),(2,Sx.SV.val (VF .i64 (VG 0))),(3,Sx.SV.val (VF .u8 (Mh n0 n1 n2 n3)))]=[(1,Sx.SV.ptr 0 0),(2,Sx.SV.val (VF .i64 (VG 0))),(3,Sx.SV.val (VF .u8 (Mh n0 n1 n2 n3)))]from by cases hb15<;>rfl) zmem)) (fun hb15=>(VE (show [(1,Sx.SV.ptr 0 0),(2,Sx.SV.val (VF .i64 (VG 0))),(3,Sx.SV.val (VF .u8 (Mj n0 n1 n2)))]=[(1,Sx.SV.ptr 0 0),(2,Sx.SV.val (VF .i64 (VG 0))),(3,Sx.SV.val (VF .u8 (Mh n0 n1 n2 n3)))]from by cases hb15<;>rfl) zmem))) (Sx.t4 c31 (Sx.aL (b:=n4) (fun hb20=>(Sx.t2 (c33f hb20) (show [(1,Sx.SV.ptr 0 0),(2,Sx.SV.val (VF .i64 (VG 0))),(3,Sx.SV.val (VF .u8 (Mg n0 n1 n2 n3 n4)))]=[(1,Sx.SV.ptr 0 0),(2,Sx.SV.val (VF .i64 (VG 0))),(3,Sx.SV.val (VF .u8 (Mg n0 n1 n2 n3 n4)))]from by cases hb20<;>rfl) zmem)) (fun hb20=>(VE (show [(1,Sx.SV.ptr 0 0),(2,Sx.SV.val (VF .i64 (VG 0))),(3,Sx.SV.val (VF .u8 (Mh n0 n1 n2 n3)))]=[(1,Sx.SV.ptr 0 0),(2,Sx.SV.val (VF .i64 (VG 0))),(3,Sx.SV.val (VF .u8 (Mg n0 n1 n2 n3 n4)))]from by cases hb20<;>rfl) zmem))) c37 (Sx.aL (b:=n5) (fun hb25=>(Sx.t2 (c39f hb25) (show [(1,Sx.SV.ptr 0 0),(2,Sx.SV.val (VF .i64 (VG 0))),(3,Sx.SV.val (VF .u8 (Kv n0 n1 n2 n3 n4 n5)))]=[(1,Sx.SV.ptr 0 0),(2,Sx.SV.val (VF .i64 (VG 0))),(3,Sx.SV.val (VF .u8 (Kv n0 n1 n2 n3 n4 n5)))]from by cases hb25<;>rfl) zmem)) (fun hb25=>(VE (show [(1,Sx.SV.ptr 0 0),(2,Sx.SV.val (VF .i64 (VG 0))),(3,Sx.SV.val (VF .u8 (Mg n0 n1 n2 n3 n4)))]=[(1,Sx.SV.ptr 0 0),(2,Sx.SV.val (VF .i64 (VG 0))),(3,Sx.SV.val (VF .u8 (Kv n0 n1 n2 n3 n4 n5)))]from by cases hb25<;>rfl) zmem))) (Sx.t2 c43 c45 (VE c50 (Sx.aL (b:=o1) (fun hb30=>(show VF .i64 (VG 190)=VF .i64 (Tw o1 hs g1 g2 g3 g4 s x1 d x2 ne pt q6 q17)from by cases hb30<;>rfl)) (fun hb30=>(VE c53 (Sx.aL (b:=hs) (fun hb32=>(GG 190 (by subst_vars;trivial))) (fun hb32=>(VE c62 (Sx.aL (b:=g1) (fun hb34=>(GG 190 (by subst_vars;trivial))) (fun hb34=>(VE c67 (Sx.aL (b:=g2) (fun hb36=>(GG 190 (by subst_vars;trivial))) (fun hb36=>(VE c76 (Sx.aL (b:=g3) (fun hb38=>(GG 190 (by subst_vars;trivial))) (fun hb38=>(VE c85 (Sx.aL (b:=g4) (fun hb40=>(GG 190 (by subst_vars;trivial))) (fun hb40=>(VE c89 (Sx.aL (b:=s) (fun hb42=>(Sx.t2 c93 c94 (Sx.aL (b:=x1) (fun hb43=>(GG 190 (by subst_vars;trivial))) (fun hb43=>(VE c98 (Sx.aL (b:=d) (fun hb45=>(Sx.t2 c102 c103 (Sx.aL (b:=x2) (fun hb46=>(GG 190 (by subst_vars;trivial))) (fun hb46=>(VE c108 (Sx.aL (b:=s) (fun hb48=>(VE c111 (Sx.aL (b:=d) (fun hb49=>(VE c122 (Sx.aL (b:=ne) (fun hb50=>(GG 190 (by subst_vars;trivial))) (fun hb50=>(Sx.aL (b:=pt) (fun hb52=>(VE c129 (Sx.aL (b:=q6) (fun hb53=>(VE c134 (Sx.aL (b:=q17) (fun hb54=>(GG 190 (by subst_vars;trivial))) (fun hb54=>(GG 0 (by subst_vars;trivial)))))) (fun hb53=>(GG 0 (by subst_vars;trivial)))))) (fun hb52=>(GG 0 (by subst_vars;trivial)))))))) (fun hb49=>(Sx.aL (b:=pt) (fun hb59=>(VE c129 (Sx.aL (b:=q6) (fun hb60=>(VE c134 (Sx.aL (b:=q17) (fun hb61=>(GG 190 (by subst_vars;trivial))) (fun hb61=>(GG 0 (by subst_vars;trivial)))))) (fun hb60=>(GG 0 (by subst_vars;trivial)))))) (fun hb59=>(GG 0 (by subst_vars;trivial)))))))) (fun hb48=>(Sx.aL (b:=pt) (fun hb66=>(VE c129 (Sx.aL (b:=q6) (fun hb67=>(VE c134 (Sx.aL (b:=q17) (fun hb68=>(GG 190 (by subst_vars;trivial))) (fun hb68=>(GG 0 (by subst_vars;trivial)))))) (fun hb67=>(GG 0 (by subst_vars;trivial)))))) (fun hb66=>(GG 0 (by subst_vars;trivial))))))))))) (fun hb45=>(VE c108 (Sx.aL (b:=s) (fun hb73=>(VE c111 (Sx.aL (b:=d) (fun hb74=>(VE c122 (Sx.aL (b:=ne) (fun hb75=>(GG 190 (by subst_vars;trivial))) (fun hb75=>(Sx.aL (b:=pt) (fun hb77=>(VE c129 (Sx.aL (b:=q6) (fun hb78=>(VE c134 (Sx.aL (b:=q17) (fun hb79=>(GG 190 (by subst_vars;trivial))) (fun hb79=>(GG 0 (by subst_vars;trivial)))))) (fun hb78=>(GG 0 (by subst_vars;trivial)))))) (fun hb77=>(GG 0 (by subst_vars;trivial)))))))) (fun hb74=>(Sx.aL (b:=pt) (fun hb84=>(VE c129 (Sx.aL (b:=q6) (fun hb85=>(VE c134 (Sx.aL (b:=q17) (fun hb86=>(GG 190 (by subst_vars;trivial))) (fun hb86=>(GG 0 (by subst_vars;trivial)))))) (fun hb85=>(GG 0 (by subst_vars;trivial)))))) (fun hb84=>(GG 0 (by subst_vars;trivial)))))))) (fun hb73=>(Sx.aL (b:=pt) (fun hb91=>(VE c129 (Sx.aL (b:=q6) (fun hb92=>(VE c134 (Sx.aL (b:=q17) (fun hb93=>(GG 190 (by subst_vars;trivial))) (fun hb93=>(GG 0 (by subst_vars;trivial)))))) (fun hb92=>(GG 0 (by subst_vars;trivial)))))) (fun hb91=>(GG 0 (by subst_vars;trivial)))))))))))))) (fun hb42=>(VE c98 (Sx.aL (b:=d) (fun hb98=>(Sx.t2 c102 c103 (Sx.aL (b:=x2) (fun hb99=>(GG 190 (by subst_vars;trivial))) (fun hb99=>(VE c108 (Sx.aL (b:=s) (fun hb101=>(VE c111 (Sx.aL (b:=d) (fun hb102=>(VE c122 (Sx.aL (b:=ne) (fun hb103=>(GG 190 (by subst_vars;trivial))) (fun hb103=>(Sx.aL (b:=pt) (fun hb105=>(VE c129 (Sx.aL (b:=q6) (fun hb106=>(VE c134 (Sx.aL (b:=q17) (fun hb107=>(GG 190 (by subst_vars;trivial))) (fun hb107=>(GG 0 (by subst_vars;trivial)))))) (fun hb106=>(GG 0 (by subst_vars;trivial)))))) (fun hb105=>(GG 0 (by subst_vars;trivial)))))))) (fun hb102=>(Sx.aL (b:=pt) (fun hb112=>(VE c129 (Sx.aL (b:=q6) (fun hb113=>(VE c134 (Sx.aL (b:=q17) (fun hb114=>(GG 190 (by subst_vars;trivial))) (fun hb114=>(GG 0 (by subst_vars;trivial)))))) (fun hb113=>(GG 0 (by subst_vars;trivial)))))) (fun hb112=>(GG 0 (by subst_vars;trivial)))))))) (fun hb101=>(Sx.aL (b:=pt) (fun hb119=>(VE c129 (Sx.aL (b:=q6) (fun hb120=>(VE c134 (Sx.aL (b:=q17) (fun hb121=>(GG 190 (by subst_vars;trivial))) (fun hb121=>(GG 0 (by subst_vars;trivial)))))) (fun hb120=>(GG 0 (by subst_vars;trivial)))))) (fun hb119=>(GG 0 (by subst_vars;trivial))))))))))) (fun hb98=>(VE c108 (Sx.aL (b:=s) (fun hb126=>(VE c111 (Sx.aL (b:=d) (fun hb127=>(VE c122 (Sx.aL (b:=ne) (fun hb128=>(GG 190 (by subst_vars;trivial))) (fun hb128=>(Sx.aL (b:=pt) (fun hb130=>(VE c129 (Sx.aL (b:=q6) (fun hb131=>(VE c134 (Sx.aL (b:=q17) (fun hb132=>(GG 190 (by subst_vars;trivial))) (fun hb132=>(GG 0 (by subst_vars;trivial)))))) (fun hb131=>(GG 0 (by subst_vars;trivial)))))) (fun hb130=>(GG 0 (by subst_vars;trivial)))))))) (fun hb127=>(Sx.aL (b:=pt) (fun hb137=>(VE c129 (Sx.aL (b:=q6) (fun hb138=>(VE c134 (Sx.aL (b:=q17) (fun hb139=>(GG 190 (by subst_vars;trivial))) (fun hb139=>(GG 0 (by subst_vars;trivial)))))) (fun hb138=>(GG 0 (by subst_vars;trivial)))))) (fun hb137=>(GG 0 (by subst_vars;trivial)))))))) (fun hb126=>(Sx.aL (b:=pt) (fun hb144=>(VE c129 (Sx.aL (b:=q6) (fun hb145=>(VE c134 (Sx.aL (b:=q17) (fun hb146=>(GG 190 (by subst_vars;trivial))) (fun hb146=>(GG 0 (by subst_vars;trivial)))))) (fun hb145=>(GG 0 (by subst_vars;trivial)))))) (fun hb144=>(GG 0 (by subst_vars;trivial))))))))))))))))))))))))))))))))))
end Go.Proofs.YtnncigmpcdehnaaGreatDoor
