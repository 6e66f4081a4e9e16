import Derived.Test.YtnncigmpcdehnaaGreatDoorQb17
namespace Go.Proofs.YtnncigmpcdehnaaGreatDoor
set_option maxRecDepth 100000
open Go.RowKit Go.Lib Go.Sort
theorem zq:∀(a:Fin 64) (k:Fin 6),(bits .and .u8 (a.val:Int) ((2^k.val:Nat):Int)==0)=!a.val.testBit k.val:=by decide+kernel
theorem Ab:∀(a:Fin 64) (k:Fin 6),bits .or .u8 (a.val:Int) ((2^k.val:Nat):Int)=((a.val|||2^k.val:Nat):Int):=by decide+kernel
theorem nc{a:Nat}(ha:a < 64)(k:Nat)(hk:k < 6):(bits .and .u8 (a:Int) ((2^k:Nat):Int)==0)=!a.testBit k:=zq ⟨a,ha⟩ ⟨k,hk⟩
theorem pU{a:Nat}(ha:a < 64)(k:Nat)(hk:k < 6):bits .or .u8 (a:Int) ((2^k:Nat):Int)=((a|||2^k:Nat):Int):=Ab ⟨a,ha⟩ ⟨k,hk⟩
theorem DM{w:World}{g gm:Nat}{A:Option Go.Addr}{n c:Nat}{ws:List Bs}{m:Mt}{T:Out (Bool×Mt)}(h:pG w [g,gm] g A n c n ws)(hbm:aB w gm 66 m.cells)(hne:g≠gm)(hT:T=.ok (false,m) n):Calls Tryz.prog 153 #[.pointer (some ⟨g,0,none⟩),.pointer (some ⟨gm,0,none⟩)] w (gX g gm A n c T w):=by
 have cx:Value.bool ((n:Int)==(n:Int))=.bool true:=dQ (by simp)
 have z0:Kp g gm A n c T [.val (.bool false)] (dO g gm A n c n m.cells):=⟨false,m,n,_,hT,Nat.le_refl _,rfl,rfl⟩
 refine jM h hbm hne [(16,.is (.bool true))] [] (by kernel_rfl) Tryz.func153 rfl (Nat.le_of_ble_eq_true rfl) ?_
 exact Eq.mp (by kernel_rfl) (And.intro cx z0)
theorem AF{w:World}{g gm:Nat}{A:Option Go.Addr}{n c i:Nat}{ws:List Bs}{m:Mt}{T:Out (Bool×Mt)}{x:Bs}(h:pG w [g,gm] g A n c i ws)(hbm:aB w gm 66 m.cells)(hne:g≠gm)(hx:ws[i]?=some x)(hf:x≠lr∧x≠fG∧x≠gB∧x≠dC∧x≠eQ∧x≠gr)(hT:T=.ok (false,m) i):Calls Tryz.prog 153 #[.pointer (some ⟨g,0,none⟩),.pointer (some ⟨gm,0,none⟩)] w (gX g gm A n c T w):=by
 have hi:i < n:=by rw[←h.kz.len];exact(List.getElem?_eq_some_iff.1 hx).1
 obtain⟨p,hp1,hp2⟩:=h.kz.at (c:=c) hx
 have hbd:=h.bd
 have cx:Value.bool ((i:Int)==(n:Int))=.bool false:=dY (by rw[beq_eq_false_iff_ne];omega)
 have c25:=fun W (_:aw [g,gm] w W)=>hp1 W
 have c26:=hp2
 have c28:=fun W=>aD (.tmp 26) (.const (af lr)) x lr false (decide_eq_false hf.1) W
 have c31:=fun W=>aD (.tmp 26) (.const (af fG)) x fG false (decide_eq_false hf.2.1) W
 have c34:=fun W=>aD (.tmp 26) (.const (af gB)) x gB false (decide_eq_false hf.2.2.1) W
 have c37:=fun W=>aD (.tmp 26) (.const (af dC)) x dC false (decide_eq_false hf.2.2.2.1) W
 have c40:=fun W=>aD (.tmp 26) (.const (af eQ)) x eQ false (decide_eq_false hf.2.2.2.2.1) W
 have c43:=fun W=>aD (.tmp 26) (.const (af gr)) x gr false (decide_eq_false hf.2.2.2.2.2) W
 have z0:Kp g gm A n c T [.val (.bool false)] (dO g gm A n c i m.cells):=⟨false,m,i,_,hT,h.le,rfl,rfl⟩
 refine jM h hbm hne [(16,.is (.bool false)),(25,.any p),(26,.any (af x)),(28,.bin (.bool false)),(31,.bin (.bool false)),(34,.bin (.bool false)),(37,.bin (.bool false)),(40,.bin (.bool false)),(43,.bin (.bool false))] [] (by kernel_rfl) Tryz.func153 rfl (Nat.le_of_ble_eq_true rfl) ?_
 exact Eq.mp (by kernel_rfl) (Sx.t8 cx c25 c26 c28 c31 c34 c37 c40 (And.intro c43 z0))
theorem GS{w:World}{g gm:Nat}{A:Option Go.Addr}{n c i:Nat}{ws:List Bs}{m:Mt}{T:Out (Bool×Mt)}{x:Bs}(h:pG w [g,gm] g A n c i ws)(hbm:aB w gm 66 m.cells)(hne:g≠gm)(hx:ws[i]?=some x)(ha:m.asks < 64)(hk:x=lr)(hT:T=match m.asks.testBit 0 with|true=>.no 200 (i+1)|false=>(bA 0 { m with asks:=m.asks|||2^0 } ws (i+1)).bind fun m' j=>.ok (true,m') j):Calls Tryz.prog 153 #[.pointer (some ⟨g,0,none⟩),.pointer (some ⟨gm,0,none⟩)] w (gX g gm A n c T w):=by
 have hi:i < n:=by rw[←h.kz.len];exact(List.getElem?_eq_some_iff.1 hx).1
 obtain⟨p,hp1,hp2⟩:=h.kz.at (c:=c) hx
 have hbd:=h.bd
 have cx:Value.bool ((i:Int)==(n:Int))=.bool false:=dY (by rw[beq_eq_false_iff_ne];omega)
 have c25:=fun W (_:aw [g,gm] w W)=>hp1 W
 have c26:=hp2
 have c28:=fun W=>aD (.tmp 26) (.const (af lr)) x lr true (decide_eq_true hk) W
 have c49:Value.int .i64 (IntKind.i64.wrap ((i:Int)+1))=.int .i64 ((i+1:Nat):Int):=iw (by rw[j5 (by omega) (by omega)];rfl)
 have c59:Value.bool (bits .and .u8 (m.asks:Int) ((2^0:Nat):Int)==0)=.bool (!m.asks.testBit 0):=bz (nc ha 0 (by omega))
 have hor:Value.int .u8 (bits .or .u8 (m.asks:Int) ((2^0:Nat):Int))=.int .u8 ((m.asks|||2^0:Nat):Int):=by rw[pU ha 0 (by omega)]
 obtain⟨m1,hm1⟩:∃m1:Mt,m1={ m with asks:=m.asks|||2^0 }:=⟨_,rfl⟩
 have n2:=fun W b2 b3 (hC:Bj W g gm b2 b3 A n c (i+1) ws m1)=>CX hC
 rw[←hm1]at hT
 have eT:m.asks.testBit 0=false→T=(bA 0 m1 ws (i+1)).bind fun m' j=>.ok (true,m') j:=fun hb=>by rw[hT,hb]
 have eN:m.asks.testBit 0=true→T=.no 200 (i+1):=fun hb=>by rw[hT,hb]
 generalize bA 0 m1 ws (i+1)=r at n2 eT
 clear hT
 have c60:=a6 (T:=T) 0 (dO g gm A n c (i+1) m.cells) [.bool (!m.asks.testBit 0),.int .i64 200] h (j:=i+1) hi (r:=ax (!m.asks.testBit 0) 200 () (i+1)) (fun code p hh=>by
  cases hb:m.asks.testBit 0 with
  |false=>rw[hb]at hh;cases hh
  |true=>rw[hb]at hh;injection hh with h1 h2;rw[eN hb,h1,h2]) rfl (fun W hL=>ee _ 200 () hL)
 have c66f:=fun(_:(ax (!m.asks.testBit 0) 200 () (i+1)).okB=true∧(ax (!m.asks.testBit 0) 200 () (i+1)).pos≤n)=>hor
 have hbit:(ax (!m.asks.testBit 0) 200 () (i+1)).okB=true→m.asks.testBit 0=false:=fun hh=>by
  cases hb:m.asks.testBit 0 with
  |false=>rfl
  |true=>rw[hb]at hh;cases hh
 have hpos:(ax (!m.asks.testBit 0) 200 () (i+1)).pos=i+1:=by cases m.asks.testBit 0<;>rfl
 generalize ax (!m.asks.testBit 0) 200 () (i+1)=r1 at c60 c66f hbit hpos
 generalize (!m.asks.testBit 0)=nb at c59 c60
 have c70f:=fun(hp:r1.okB=true∧r1.pos≤n)=>(show ∀W (β:Sx.Env) (_:Sx.cw ⟨w,[g,gm],jz T w⟩ β W (Sx.rowAt (dO g gm A n c r1.pos m1.cells)) [0,1,2,3]),Calls Tryz.prog 204 (([.ptr 2 0,.ptr 3 0]:List Sx.SV).map (Sx.SV.den β)).toArray W (Sx.a7 ⟨w,[g,gm],jz T w⟩ β W (Sx.rowAt (dO g gm A n c r1.pos m1.cells)) 4 (Cs g gm A n c r))from by
  rw[hpos];exact vp h hi (aX (eT (hbit hp.1))) n2)
 have z2f:=fun(hp:r1.okB=true∧r1.pos≤n) (hp2:r.okB=true∧r.pos≤n)=>(show Kp g gm A n c T [.val (.bool true)] (dO g gm A n c r.pos r.val.cells)from⟨true,r.val,r.pos,_,bH (eT (hbit hp.1)) hp2.1,hp2.2,rfl,rfl⟩)
 have z4f:=fun(_:¬(r1.okB=true∧r1.pos≤n))=>trivial
 subst hm1
 refine jM h hbm hne [(16,.is (.bool false)),(25,.any p),(26,.any (af x)),(28,.bin (.bool true)),(49,.is (.int .i64 ((i+1:Nat):Int))),(59,.is (.bool nb)),(60,.al (cE 0 g A n c r1 fun _=>.tuple #[])),(66,.is (.int .u8 ((m.asks|||2^0:Nat):Int))),(70,.al (Cs g gm A n c r))] [] (by kernel_rfl) Tryz.func153 rfl (Nat.le_of_ble_eq_true rfl) ?_
 exact Eq.mp (by kernel_rfl) (Sx.t8 cx c25 c26 c28 c49 c59 c60 (fun(hx0:r1.okB=true∧r1.pos≤n)=>(Sx.t2 (c66f hx0) (c70f hx0) (fun(hx1:r.okB=true∧r.pos≤n)=>(z2f hx0 hx1)))) (fun(hx3:¬(r1.okB=true∧r1.pos≤n))=>(z4f hx3)))
theorem GR{w:World}{g gm:Nat}{A:Option Go.Addr}{n c i:Nat}{ws:List Bs}{m:Mt}{T:Out (Bool×Mt)}{x:Bs}(h:pG w [g,gm] g A n c i ws)(hbm:aB w gm 66 m.cells)(hne:g≠gm)(hx:ws[i]?=some x)(ha:m.asks < 64)(h0:x≠lr)(hk:x=fG)(hT:T=match m.asks.testBit 1 with|true=>.no 200 (i+1)|false=>(bA 1 { m with asks:=m.asks|||2^1 } ws (i+1)).bind fun m' j=>.ok (true,m') j):Calls Tryz.prog 153 #[.pointer (some ⟨g,0,none⟩),.pointer (some ⟨gm,0,none⟩)] w (gX g gm A n c T w):=by
 have hi:i < n:=by rw[←h.kz.len];exact(List.getElem?_eq_some_iff.1 hx).1
 obtain⟨p,hp1,hp2⟩:=h.kz.at (c:=c) hx
 have hbd:=h.bd
 have cx:Value.bool ((i:Int)==(n:Int))=.bool false:=dY (by rw[beq_eq_false_iff_ne];omega)
 have c25:=fun W (_:aw [g,gm] w W)=>hp1 W
 have c26:=hp2
 have c28:=fun W=>aD (.tmp 26) (.const (af lr)) x lr false (decide_eq_false h0) W
 have c31:=fun W=>aD (.tmp 26) (.const (af fG)) x fG true (decide_eq_true hk) W
 have c49:Value.int .i64 (IntKind.i64.wrap ((i:Int)+1))=.int .i64 ((i+1:Nat):Int):=iw (by rw[j5 (by omega) (by omega)];rfl)
 have c59:Value.bool (bits .and .u8 (m.asks:Int) ((2^1:Nat):Int)==0)=.bool (!m.asks.testBit 1):=bz (nc ha 1 (by omega))
 have hor:Value.int .u8 (bits .or .u8 (m.asks:Int) ((2^1:Nat):Int))=.int .u8 ((m.asks|||2^1:Nat):Int):=by rw[pU ha 1 (by omega)]
 obtain⟨m1,hm1⟩:∃m1:Mt,m1={ m with asks:=m.asks|||2^1 }:=⟨_,rfl⟩
 have n2:=fun W b2 b3 (hC:Bj W g gm b2 b3 A n c (i+1) ws m1)=>CW hC
 rw[←hm1]at hT
 have eT:m.asks.testBit 1=false→T=(bA 1 m1 ws (i+1)).bind fun m' j=>.ok (true,m') j:=fun hb=>by rw[hT,hb]
 have eN:m.asks.testBit 1=true→T=.no 200 (i+1):=fun hb=>by rw[hT,hb]
 generalize bA 1 m1 ws (i+1)=r at n2 eT
 clear hT
 have c60:=a6 (T:=T) 0 (dO g gm A n c (i+1) m.cells) [.bool (!m.asks.testBit 1),.int .i64 200] h (j:=i+1) hi (r:=ax (!m.asks.testBit 1) 200 () (i+1)) (fun code p hh=>by
  cases hb:m.asks.testBit 1 with
  |false=>rw[hb]at hh;cases hh
  |true=>rw[hb]at hh;injection hh with h1 h2;rw[eN hb,h1,h2]) rfl (fun W hL=>ee _ 200 () hL)
 have c66f:=fun(_:(ax (!m.asks.testBit 1) 200 () (i+1)).okB=true∧(ax (!m.asks.testBit 1) 200 () (i+1)).pos≤n)=>hor
 have hbit:(ax (!m.asks.testBit 1) 200 () (i+1)).okB=true→m.asks.testBit 1=false:=fun hh=>by
  cases hb:m.asks.testBit 1 with
  |false=>rfl
  |true=>rw[hb]at hh;cases hh
 have hpos:(ax (!m.asks.testBit 1) 200 () (i+1)).pos=i+1:=by cases m.asks.testBit 1<;>rfl
 generalize ax (!m.asks.testBit 1) 200 () (i+1)=r1 at c60 c66f hbit hpos
 generalize (!m.asks.testBit 1)=nb at c59 c60
 have c70f:=fun(hp:r1.okB=true∧r1.pos≤n)=>(show ∀W (β:Sx.Env) (_:Sx.cw ⟨w,[g,gm],jz T w⟩ β W (Sx.rowAt (dO g gm A n c r1.pos m1.cells)) [0,1,2,3]),Calls Tryz.prog 206 (([.ptr 2 0,.ptr 3 0]:List Sx.SV).map (Sx.SV.den β)).toArray W (Sx.a7 ⟨w,[g,gm],jz T w⟩ β W (Sx.rowAt (dO g gm A n c r1.pos m1.cells)) 4 (Cs g gm A n c r))from by
  rw[hpos];exact vp h hi (aX (eT (hbit hp.1))) n2)
 have z2f:=fun(hp:r1.okB=true∧r1.pos≤n) (hp2:r.okB=true∧r.pos≤n)=>(show Kp g gm A n c T [.val (.bool true)] (dO g gm A n c r.pos r.val.cells)from⟨true,r.val,r.pos,_,bH (eT (hbit hp.1)) hp2.1,hp2.2,rfl,rfl⟩)
 have z4f:=fun(_:¬(r1.okB=true∧r1.pos≤n))=>trivial
 subst hm1
 refine jM h hbm hne [(16,.is (.bool false)),(25,.any p),(26,.any (af x)),(28,.bin (.bool false)),(31,.bin (.bool true)),(49,.is (.int .i64 ((i+1:Nat):Int))),(59,.is (.bool nb)),(60,.al (cE 0 g A n c r1 fun _=>.tuple #[])),(66,.is (.int .u8 ((m.asks|||2^1:Nat):Int))),(70,.al (Cs g gm A n c r))] [] (by kernel_rfl) Tryz.func153 rfl (Nat.le_of_ble_eq_true rfl) ?_
 exact Eq.mp (by kernel_rfl) (Sx.t8 cx c25 c26 c28 c31 c49 c59 c60 (And.intro (fun(hx0:r1.okB=true∧r1.pos≤n)=>(Sx.t2 (c66f hx0) (c70f hx0) (fun(hx1:r.okB=true∧r.pos≤n)=>(z2f hx0 hx1)))) (fun(hx3:¬(r1.okB=true∧r1.pos≤n))=>(z4f hx3))))
theorem GQ{w:World}{g gm:Nat}{A:Option Go.Addr}{n c i:Nat}{ws:List Bs}{m:Mt}{T:Out (Bool×Mt)}{x:Bs}(h:pG w [g,gm] g A n c i ws)(hbm:aB w gm 66 m.cells)(hne:g≠gm)(hx:ws[i]?=some x)(ha:m.asks < 64)(h0:x≠lr)(h1:x≠fG)(hk:x=gB)(hT:T=match m.asks.testBit 2 with|true=>.no 200 (i+1)|false=>(bA 2 { m with asks:=m.asks|||2^2 } ws (i+1)).bind fun m' j=>.ok (true,m') j):Calls Tryz.prog 153 #[.pointer (some ⟨g,0,none⟩),.pointer (some ⟨gm,0,none⟩)] w (gX g gm A n c T w):=by
 have hi:i < n:=by rw[←h.kz.len];exact(List.getElem?_eq_some_iff.1 hx).1
 obtain⟨p,hp1,hp2⟩:=h.kz.at (c:=c) hx
 have hbd:=h.bd
 have cx:Value.bool ((i:Int)==(n:Int))=.bool false:=dY (by rw[beq_eq_false_iff_ne];omega)
 have c25:=fun W (_:aw [g,gm] w W)=>hp1 W
 have c26:=hp2
 have c28:=fun W=>aD (.tmp 26) (.const (af lr)) x lr false (decide_eq_false h0) W
 have c31:=fun W=>aD (.tmp 26) (.const (af fG)) x fG false (decide_eq_false h1) W
 have c34:=fun W=>aD (.tmp 26) (.const (af gB)) x gB true (decide_eq_true hk) W
 have c49:Value.int .i64 (IntKind.i64.wrap ((i:Int)+1))=.int .i64 ((i+1:Nat):Int):=iw (by rw[j5 (by omega) (by omega)];rfl)
 have c59:Value.bool (bits .and .u8 (m.asks:Int) ((2^2:Nat):Int)==0)=.bool (!m.asks.testBit 2):=bz (nc ha 2 (by omega))
 have hor:Value.int .u8 (bits .or .u8 (m.asks:Int) ((2^2:Nat):Int))=.int .u8 ((m.asks|||2^2:Nat):Int):=by rw[pU ha 2 (by omega)]
 obtain⟨m1,hm1⟩:∃m1:Mt,m1={ m with asks:=m.asks|||2^2 }:=⟨_,rfl⟩
 have n2:=fun W b2 b3 (hC:Bj W g gm b2 b3 A n c (i+1) ws m1)=>CV hC
 rw[←hm1]at hT
 have eT:m.asks.testBit 2=false→T=(bA 2 m1 ws (i+1)).bind fun m' j=>.ok (true,m') j:=fun hb=>by rw[hT,hb]
 have eN:m.asks.testBit 2=true→T=.no 200 (i+1):=fun hb=>by rw[hT,hb]
 generalize bA 2 m1 ws (i+1)=r at n2 eT
 clear hT
 have c60:=a6 (T:=T) 0 (dO g gm A n c (i+1) m.cells) [.bool (!m.asks.testBit 2),.int .i64 200] h (j:=i+1) hi (r:=ax (!m.asks.testBit 2) 200 () (i+1)) (fun code p hh=>by
  cases hb:m.asks.testBit 2 with
  |false=>rw[hb]at hh;cases hh
  |true=>rw[hb]at hh;injection hh with h1 h2;rw[eN hb,h1,h2]) rfl (fun W hL=>ee _ 200 () hL)
 have c66f:=fun(_:(ax (!m.asks.testBit 2) 200 () (i+1)).okB=true∧(ax (!m.asks.testBit 2) 200 () (i+1)).pos≤n)=>hor
 have hbit:(ax (!m.asks.testBit 2) 200 () (i+1)).okB=true→m.asks.testBit 2=false:=fun hh=>by
  cases hb:m.asks.testBit 2 with
  |false=>rfl
  |true=>rw[hb]at hh;cases hh
 have hpos:(ax (!m.asks.testBit 2) 200 () (i+1)).pos=i+1:=by cases m.asks.testBit 2<;>rfl
 generalize ax (!m.asks.testBit 2) 200 () (i+1)=r1 at c60 c66f hbit hpos
 generalize (!m.asks.testBit 2)=nb at c59 c60
 have c70f:=fun(hp:r1.okB=true∧r1.pos≤n)=>(show ∀W (β:Sx.Env) (_:Sx.cw ⟨w,[g,gm],jz T w⟩ β W (Sx.rowAt (dO g gm A n c r1.pos m1.cells)) [0,1,2,3]),Calls Tryz.prog 207 (([.ptr 2 0,.ptr 3 0]:List Sx.SV).map (Sx.SV.den β)).toArray W (Sx.a7 ⟨w,[g,gm],jz T w⟩ β W (Sx.rowAt (dO g gm A n c r1.pos m1.cells)) 4 (Cs g gm A n c r))from by
  rw[hpos];exact vp h hi (aX (eT (hbit hp.1))) n2)
 have z2f:=fun(hp:r1.okB=true∧r1.pos≤n) (hp2:r.okB=true∧r.pos≤n)=>(show Kp g gm A n c T [.val (.bool true)] (dO g gm A n c r.pos r.val.cells)from⟨true,r.val,r.pos,_,bH (eT (hbit hp.1)) hp2.1,hp2.2,rfl,rfl⟩)
 have z4f:=fun(_:¬(r1.okB=true∧r1.pos≤n))=>trivial
 subst hm1
 refine jM h hbm hne [(16,.is (.bool false)),(25,.any p),(26,.any (af x)),(28,.bin (.bool false)),(31,.bin (.bool false)),(34,.bin (.bool true)),(49,.is (.int .i64 ((i+1:Nat):Int))),(59,.is (.bool nb)),(60,.al (cE 0 g A n c r1 fun _=>.tuple #[])),(66,.is (.int .u8 ((m.asks|||2^2:Nat):Int))),(70,.al (Cs g gm A n c r))] [] (by kernel_rfl) Tryz.func153 rfl (Nat.le_of_ble_eq_true rfl) ?_
 exact Eq.mp (by kernel_rfl) (Sx.t8 cx c25 c26 c28 c31 c34 c49 c59 (Sx.t2 c60 (fun(hx0:r1.okB=true∧r1.pos≤n)=>(Sx.t2 (c66f hx0) (c70f hx0) (fun(hx1:r.okB=true∧r.pos≤n)=>(z2f hx0 hx1)))) (fun(hx3:¬(r1.okB=true∧r1.pos≤n))=>(z4f hx3))))
theorem GP{w:World}{g gm:Nat}{A:Option Go.Addr}{n c i:Nat}{ws:List Bs}{m:Mt}{T:Out (Bool×Mt)}{x:Bs}(h:pG w [g,gm] g A n c i ws)(hbm:aB w gm 66 m.cells)(hne:g≠gm)(hx:ws[i]?=some x)(ha:m.asks < 64)(h0:x≠lr)(h1:x≠fG)(h2:x≠gB)(hk:x=dC)(hT:T=match m.asks.testBit 3 with|true=>.no 200 (i+1)|false=>(bA 3 { m with asks:=m.asks|||2^3 } ws (i+1)).bind fun m' j=>.ok (true,m') j):Calls Tryz.prog 153 #[.pointer (some ⟨g,0,none⟩),.pointer (some ⟨gm,0,none⟩)] w (gX g gm A n c T w):=by
 have hi:i < n:=by rw[←h.kz.len];exact(List.getElem?_eq_some_iff.1 hx).1
 obtain⟨p,hp1,hp2⟩:=h.kz.at (c:=c) hx
 have hbd:=h.bd
 have cx:Value.bool ((i:Int)==(n:Int))=.bool false:=dY (by rw[beq_eq_false_iff_ne];omega)
 have c25:=fun W (_:aw [g,gm] w W)=>hp1 W
 have c26:=hp2
 have c28:=fun W=>aD (.tmp 26) (.const (af lr)) x lr false (decide_eq_false h0) W
 have c31:=fun W=>aD (.tmp 26) (.const (af fG)) x fG false (decide_eq_false h1) W
 have c34:=fun W=>aD (.tmp 26) (.const (af gB)) x gB false (decide_eq_false h2) W
 have c37:=fun W=>aD (.tmp 26) (.const (af dC)) x dC true (decide_eq_true hk) W
 have c49:Value.int .i64 (IntKind.i64.wrap ((i:Int)+1))=.int .i64 ((i+1:Nat):Int):=iw (by rw[j5 (by omega) (by omega)];rfl)
 have c59:Value.bool (bits .and .u8 (m.asks:Int) ((2^3:Nat):Int)==0)=.bool (!m.asks.testBit 3):=bz (nc ha 3 (by omega))
 have hor:Value.int .u8 (bits .or .u8 (m.asks:Int) ((2^3:Nat):Int))=.int .u8 ((m.asks|||2^3:Nat):Int):=by rw[pU ha 3 (by omega)]
 obtain⟨m1,hm1⟩:∃m1:Mt,m1={ m with asks:=m.asks|||2^3 }:=⟨_,rfl⟩
 have n2:=fun W b2 b3 (hC:Bj W g gm b2 b3 A n c (i+1) ws m1)=>CU hC
 rw[←hm1]at hT
 have eT:m.asks.testBit 3=false→T=(bA 3 m1 ws (i+1)).bind fun m' j=>.ok (true,m') j:=fun hb=>by rw[hT,hb]
 have eN:m.asks.testBit 3=true→T=.no 200 (i+1):=fun hb=>by rw[hT,hb]
 generalize bA 3 m1 ws (i+1)=r at n2 eT
 clear hT
 have c60:=a6 (T:=T) 0 (dO g gm A n c (i+1) m.cells) [.bool (!m.asks.testBit 3),.int .i64 200] h (j:=i+1) hi (r:=ax (!m.asks.testBit 3) 200 () (i+1)) (fun code p hh=>by
  cases hb:m.asks.testBit 3 with
  |false=>rw[hb]at hh;cases hh
  |true=>rw[hb]at hh;injection hh with h1 h2;rw[eN hb,h1,h2]) rfl (fun W hL=>ee _ 200 () hL)
 have c66f:=fun(_:(ax (!m.asks.testBit 3) 200 () (i+1)).okB=true∧(ax (!m.asks.testBit 3) 200 () (i+1)).pos≤n)=>hor
 have hbit:(ax (!m.asks.testBit 3) 200 () (i+1)).okB=true→m.asks.testBit 3=false:=fun hh=>by
  cases hb:m.asks.testBit 3 with
  |false=>rfl
  |true=>rw[hb]at hh;cases hh
 have hpos:(ax (!m.asks.testBit 3) 200 () (i+1)).pos=i+1:=by cases m.asks.testBit 3<;>rfl
 generalize ax (!m.asks.testBit 3) 200 () (i+1)=r1 at c60 c66f hbit hpos
 generalize (!m.asks.testBit 3)=nb at c59 c60
 have c70f:=fun(hp:r1.okB=true∧r1.pos≤n)=>(show ∀W (β:Sx.Env) (_:Sx.cw ⟨w,[g,gm],jz T w⟩ β W (Sx.rowAt (dO g gm A n c r1.pos m1.cells)) [0,1,2,3]),Calls Tryz.prog 208 (([.ptr 2 0,.ptr 3 0]:List Sx.SV).map (Sx.SV.den β)).toArray W (Sx.a7 ⟨w,[g,gm],jz T w⟩ β W (Sx.rowAt (dO g gm A n c r1.pos m1.cells)) 4 (Cs g gm A n c r))from by
  rw[hpos];exact vp h hi (aX (eT (hbit hp.1))) n2)
 have z2f:=fun(hp:r1.okB=true∧r1.pos≤n) (hp2:r.okB=true∧r.pos≤n)=>(show Kp g gm A n c T [.val (.bool true)] (dO g gm A n c r.pos r.val.cells)from⟨true,r.val,r.pos,_,bH (eT (hbit hp.1)) hp2.1,hp2.2,rfl,rfl⟩)
 have z4f:=fun(_:¬(r1.okB=true∧r1.pos≤n))=>trivial
 subst hm1
 refine jM h hbm hne [(16,.is (.bool false)),(25,.any p),(26,.any (af x)),(28,.bin (.bool false)),(31,.bin (.bool false)),(34,.bin (.bool false)),(37,.bin (.bool true)),(49,.is (.int .i64 ((i+1:Nat):Int))),(59,.is (.bool nb)),(60,.al (cE 0 g A n c r1 fun _=>.tuple #[])),(66,.is (.int .u8 ((m.asks|||2^3:Nat):Int))),(70,.al (Cs g gm A n c r))] [] (by kernel_rfl) Tryz.func153 rfl (Nat.le_of_ble_eq_true rfl) ?_
 exact Eq.mp (by kernel_rfl) (Sx.t8 cx c25 c26 c28 c31 c34 c37 c49 (Sx.t2 c59 c60 (And.intro (fun(hx0:r1.okB=true∧r1.pos≤n)=>(Sx.t2 (c66f hx0) (c70f hx0) (fun(hx1:r.okB=true∧r.pos≤n)=>(z2f hx0 hx1)))) (fun(hx3:¬(r1.okB=true∧r1.pos≤n))=>(z4f hx3)))))
theorem GO{w:World}{g gm:Nat}{A:Option Go.Addr}{n c i:Nat}{ws:List Bs}{m:Mt}{T:Out (Bool×Mt)}{x:Bs}(h:pG w [g,gm] g A n c i ws)(hbm:aB w gm 66 m.cells)(hne:g≠gm)(hx:ws[i]?=some x)(ha:m.asks < 64)(h0:x≠lr)(h1:x≠fG)(h2:x≠gB)(h3:x≠dC)(hk:x=eQ)(hT:T=match m.asks.testBit 4 with|true=>.no 200 (i+1)|false=>(bA 4 { m with asks:=m.asks|||2^4 } ws (i+1)).bind fun m' j=>.ok (true,m') j):Calls Tryz.prog 153 #[.pointer (some ⟨g,0,none⟩),.pointer (some ⟨gm,0,none⟩)] w (gX g gm A n c T w):=by
 have hi:i < n:=by rw[←h.kz.len];exact(List.getElem?_eq_some_iff.1 hx).1
 obtain⟨p,hp1,hp2⟩:=h.kz.at (c:=c) hx
 have hbd:=h.bd
 have cx:Value.bool ((i:Int)==(n:Int))=.bool false:=dY (by rw[beq_eq_false_iff_ne];omega)
 have c25:=fun W (_:aw [g,gm] w W)=>hp1 W
 have c26:=hp2
 have c28:=fun W=>aD (.tmp 26) (.const (af lr)) x lr false (decide_eq_false h0) W
 have c31:=fun W=>aD (.tmp 26) (.const (af fG)) x fG false (decide_eq_false h1) W
 have c34:=fun W=>aD (.tmp 26) (.const (af gB)) x gB false (decide_eq_false h2) W
 have c37:=fun W=>aD (.tmp 26) (.const (af dC)) x dC false (decide_eq_false h3) W
 have c40:=fun W=>aD (.tmp 26) (.const (af eQ)) x eQ true (decide_eq_true hk) W
 have c49:Value.int .i64 (IntKind.i64.wrap ((i:Int)+1))=.int .i64 ((i+1:Nat):Int):=iw (by rw[j5 (by omega) (by omega)];rfl)
 have c59:Value.bool (bits .and .u8 (m.asks:Int) ((2^4:Nat):Int)==0)=.bool (!m.asks.testBit 4):=bz (nc ha 4 (by omega))
 have hor:Value.int .u8 (bits .or .u8 (m.asks:Int) ((2^4:Nat):Int))=.int .u8 ((m.asks|||2^4:Nat):Int):=by rw[pU ha 4 (by omega)]
 obtain⟨m1,hm1⟩:∃m1:Mt,m1={ m with asks:=m.asks|||2^4 }:=⟨_,rfl⟩
 have n2:=fun W b2 b3 (hC:Bj W g gm b2 b3 A n c (i+1) ws m1)=>CT hC
 rw[←hm1]at hT
 have eT:m.asks.testBit 4=false→T=(bA 4 m1 ws (i+1)).bind fun m' j=>.ok (true,m') j:=fun hb=>by rw[hT,hb]
 have eN:m.asks.testBit 4=true→T=.no 200 (i+1):=fun hb=>by rw[hT,hb]
 generalize bA 4 m1 ws (i+1)=r at n2 eT
 clear hT
 have c60:=a6 (T:=T) 0 (dO g gm A n c (i+1) m.cells) [.bool (!m.asks.testBit 4),.int .i64 200] h (j:=i+1) hi (r:=ax (!m.asks.testBit 4) 200 () (i+1)) (fun code p hh=>by
  cases hb:m.asks.testBit 4 with
  |false=>rw[hb]at hh;cases hh
  |true=>rw[hb]at hh;injection hh with h1 h2;rw[eN hb,h1,h2]) rfl (fun W hL=>ee _ 200 () hL)
 have c66f:=fun(_:(ax (!m.asks.testBit 4) 200 () (i+1)).okB=true∧(ax (!m.asks.testBit 4) 200 () (i+1)).pos≤n)=>hor
 have hbit:(ax (!m.asks.testBit 4) 200 () (i+1)).okB=true→m.asks.testBit 4=false:=fun hh=>by
  cases hb:m.asks.testBit 4 with
  |false=>rfl
  |true=>rw[hb]at hh;cases hh
 have hpos:(ax (!m.asks.testBit 4) 200 () (i+1)).pos=i+1:=by cases m.asks.testBit 4<;>rfl
 generalize ax (!m.asks.testBit 4) 200 () (i+1)=r1 at c60 c66f hbit hpos
 generalize (!m.asks.testBit 4)=nb at c59 c60
 have c70f:=fun(hp:r1.okB=true∧r1.pos≤n)=>(show ∀W (β:Sx.Env) (_:Sx.cw ⟨w,[g,gm],jz T w⟩ β W (Sx.rowAt (dO g gm A n c r1.pos m1.cells)) [0,1,2,3]),Calls Tryz.prog 210 (([.ptr 2 0,.ptr 3 0]:List Sx.SV).map (Sx.SV.den β)).toArray W (Sx.a7 ⟨w,[g,gm],jz T w⟩ β W (Sx.rowAt (dO g gm A n c r1.pos m1.cells)) 4 (Cs g gm A n c r))from by
  rw[hpos];exact vp h hi (aX (eT (hbit hp.1))) n2)
 have z2f:=fun(hp:r1.okB=true∧r1.pos≤n) (hp2:r.okB=true∧r.pos≤n)=>(show Kp g gm A n c T [.val (.bool true)] (dO g gm A n c r.pos r.val.cells)from⟨true,r.val,r.pos,_,bH (eT (hbit hp.1)) hp2.1,hp2.2,rfl,rfl⟩)
 have z4f:=fun(_:¬(r1.okB=true∧r1.pos≤n))=>trivial
 subst hm1
 refine jM h hbm hne [(16,.is (.bool false)),(25,.any p),(26,.any (af x)),(28,.bin (.bool false)),(31,.bin (.bool false)),(34,.bin (.bool false)),(37,.bin (.bool false)),(40,.bin (.bool true)),(49,.is (.int .i64 ((i+1:Nat):Int))),(59,.is (.bool nb)),(60,.al (cE 0 g A n c r1 fun _=>.tuple #[])),(66,.is (.int .u8 ((m.asks|||2^4:Nat):Int))),(70,.al (Cs g gm A n c r))] [] (by kernel_rfl) Tryz.func153 rfl (Nat.le_of_ble_eq_true rfl) ?_
 exact Eq.mp (by kernel_rfl) (Sx.t8 cx c25 c26 c28 c31 c34 c37 c40 (Sx.t4 c49 c59 c60 (fun(hx0:r1.okB=true∧r1.pos≤n)=>(Sx.t2 (c66f hx0) (c70f hx0) (fun(hx1:r.okB=true∧r.pos≤n)=>(z2f hx0 hx1)))) (fun(hx3:¬(r1.okB=true∧r1.pos≤n))=>(z4f hx3))))
theorem GN{w:World}{g gm:Nat}{A:Option Go.Addr}{n c i:Nat}{ws:List Bs}{m:Mt}{T:Out (Bool×Mt)}{x:Bs}(h:pG w [g,gm] g A n c i ws)(hbm:aB w gm 66 m.cells)(hne:g≠gm)(hx:ws[i]?=some x)(ha:m.asks < 64)(h0:x≠lr)(h1:x≠fG)(h2:x≠gB)(h3:x≠dC)(h4:x≠eQ)(hk:x=gr)(hT:T=match m.asks.testBit 5 with|true=>.no 200 (i+1)|false=>(bA 5 { m with asks:=m.asks|||2^5 } ws (i+1)).bind fun m' j=>.ok (true,m') j):Calls Tryz.prog 153 #[.pointer (some ⟨g,0,none⟩),.pointer (some ⟨gm,0,none⟩)] w (gX g gm A n c T w):=by
 have hi:i < n:=by rw[←h.kz.len];exact(List.getElem?_eq_some_iff.1 hx).1
 obtain⟨p,hp1,hp2⟩:=h.kz.at (c:=c) hx
 have hbd:=h.bd
 have cx:Value.bool ((i:Int)==(n:Int))=.bool false:=dY (by rw[beq_eq_false_iff_ne];omega)
 have c25:=fun W (_:aw [g,gm] w W)=>hp1 W
 have c26:=hp2
 have c28:=fun W=>aD (.tmp 26) (.const (af lr)) x lr false (decide_eq_false h0) W
 have c31:=fun W=>aD (.tmp 26) (.const (af fG)) x fG false (decide_eq_false h1) W
 have c34:=fun W=>aD (.tmp 26) (.const (af gB)) x gB false (decide_eq_false h2) W
 have c37:=fun W=>aD (.tmp 26) (.const (af dC)) x dC false (decide_eq_false h3) W
 have c40:=fun W=>aD (.tmp 26) (.const (af eQ)) x eQ false (decide_eq_false h4) W
 have c43:=fun W=>aD (.tmp 26) (.const (af gr)) x gr true (decide_eq_true hk) W
 have c49:Value.int .i64 (IntKind.i64.wrap ((i:Int)+1))=.int .i64 ((i+1:Nat):Int):=iw (by rw[j5 (by omega) (by omega)];rfl)
 have c59:Value.bool (bits .and .u8 (m.asks:Int) ((2^5:Nat):Int)==0)=.bool (!m.asks.testBit 5):=bz (nc ha 5 (by omega))
 have hor:Value.int .u8 (bits .or .u8 (m.asks:Int) ((2^5:Nat):Int))=.int .u8 ((m.asks|||2^5:Nat):Int):=by rw[pU ha 5 (by omega)]
 obtain⟨m1,hm1⟩:∃m1:Mt,m1={ m with asks:=m.asks|||2^5 }:=⟨_,rfl⟩
 have n2:=fun W b2 b3 (hC:Bj W g gm b2 b3 A n c (i+1) ws m1)=>CS hC
 rw[←hm1]at hT
 have eT:m.asks.testBit 5=false→T=(bA 5 m1 ws (i+1)).bind fun m' j=>.ok (true,m') j:=fun hb=>by rw[hT,hb]
 have eN:m.asks.testBit 5=true→T=.no 200 (i+1):=fun hb=>by rw[hT,hb]
 generalize bA 5 m1 ws (i+1)=r at n2 eT
 clear hT
 have c60:=a6 (T:=T) 0 (dO g gm A n c (i+1) m.cells) [.bool (!m.asks.testBit 5),.int .i64 200] h (j:=i+1) hi (r:=ax (!m.asks.testBit 5) 200 () (i+1)) (fun code p hh=>by
  cases hb:m.asks.testBit 5 with
  |false=>rw[hb]at hh;cases hh
  |true=>rw[hb]at hh;injection hh with h1 h2;rw[eN hb,h1,h2]) rfl (fun W hL=>ee _ 200 () hL)
 have c66f:=fun(_:(ax (!m.asks.testBit 5) 200 () (i+1)).okB=true∧(ax (!m.asks.testBit 5) 200 () (i+1)).pos≤n)=>hor
 have hbit:(ax (!m.asks.testBit 5) 200 () (i+1)).okB=true→m.asks.testBit 5=false:=fun hh=>by
  cases hb:m.asks.testBit 5 with
  |false=>rfl
  |true=>rw[hb]at hh;cases hh
 have hpos:(ax (!m.asks.testBit 5) 200 () (i+1)).pos=i+1:=by cases m.asks.testBit 5<;>rfl
 generalize ax (!m.asks.testBit 5) 200 () (i+1)=r1 at c60 c66f hbit hpos
 generalize (!m.asks.testBit 5)=nb at c59 c60
 have c70f:=fun(hp:r1.okB=true∧r1.pos≤n)=>(show ∀W (β:Sx.Env) (_:Sx.cw ⟨w,[g,gm],jz T w⟩ β W (Sx.rowAt (dO g gm A n c r1.pos m1.cells)) [0,1,2,3]),Calls Tryz.prog 211 (([.ptr 2 0,.ptr 3 0]:List Sx.SV).map (Sx.SV.den β)).toArray W (Sx.a7 ⟨w,[g,gm],jz T w⟩ β W (Sx.rowAt (dO g gm A n c r1.pos m1.cells)) 4 (Cs g gm A n c r))from by
  rw[hpos];exact vp h hi (aX (eT (hbit hp.1))) n2)
 have z2f:=fun(hp:r1.okB=true∧r1.pos≤n) (hp2:r.okB=true∧r.pos≤n)=>(show Kp g gm A n c T [.val (.bool true)] (dO g gm A n c r.pos r.val.cells)from⟨true,r.val,r.pos,_,bH (eT (hbit hp.1)) hp2.1,hp2.2,rfl,rfl⟩)
 have z4f:=fun(_:¬(r1.okB=true∧r1.pos≤n))=>trivial
 subst hm1
 refine jM h hbm hne [(16,.is (.bool false)),(25,.any p),(26,.any (af x)),(28,.bin (.bool false)),(31,.bin (.bool false)),(34,.bin (.bool false)),(37,.bin (.bool false)),(40,.bin (.bool false)),(43,.bin (.bool true)),(49,.is (.int .i64 ((i+1:Nat):Int))),(59,.is (.bool nb)),(60,.al (cE 0 g A n c r1 fun _=>.tuple #[])),(66,.is (.int .u8 ((m.asks|||2^5:Nat):Int))),(70,.al (Cs g gm A n c r))] [] (by kernel_rfl) Tryz.func153 rfl (Nat.le_of_ble_eq_true rfl) ?_
 exact Eq.mp (by kernel_rfl) (Sx.t8 cx c25 c26 c28 c31 c34 c37 c40 (Sx.t4 c43 c49 c59 c60 (And.intro (fun(hx0:r1.okB=true∧r1.pos≤n)=>(Sx.t2 (c66f hx0) (c70f hx0) (fun(hx1:r.okB=true∧r.pos≤n)=>(z2f hx0 hx1)))) (fun(hx3:¬(r1.okB=true∧r1.pos≤n))=>(z4f hx3)))))
theorem Cj{w:World}{g gm:Nat}{A:Option Go.Addr}{n c i:Nat}{ws:List Bs}{m:Mt}(h:pG w [g,gm] g A n c i ws)(hbm:aB w gm 66 m.cells)(hne:g≠gm)(ha:m.asks < 64):Calls Tryz.prog 153 #[.pointer (some ⟨g,0,none⟩),.pointer (some ⟨gm,0,none⟩)] w (gX g gm A n c (bB ws i m) w):=by
 have hlen:=h.kz.len
 cases hx:ws[i]? with
 |none=>
  have hi:i=n:=by have:=List.getElem?_eq_none_iff.1 hx;have:=h.le;omega
  subst hi
  exact DM h hbm hne (by unfold bB;rw[hx])
 |some x=>
  have hT:bB ws i m=(match s6 x with
   |none=>.ok (false,m) i
   |some k=>match m.asks.testBit k with
    |true=>.no 200 (i+1)
      |false=>(bA k { m with asks:=m.asks|||2^k } ws (i+1)).bind fun m' j=>.ok (true,m') j):=by unfold bB;rw[hx];rfl
  by_cases h0:x=lr
  ·have hf:s6 x=some 0:=by unfold s6;rw[if_pos h0]
   rw[hf]at hT
   exact GS h hbm hne hx ha h0 hT
  by_cases h1:x=fG
  ·have hf:s6 x=some 1:=by unfold s6;rw[if_neg h0,if_pos h1]
   rw[hf]at hT
   exact GR h hbm hne hx ha h0 h1 hT
  by_cases h2:x=gB
  ·have hf:s6 x=some 2:=by unfold s6;rw[if_neg h0,if_neg h1,if_pos h2]
   rw[hf]at hT
   exact GQ h hbm hne hx ha h0 h1 h2 hT
  by_cases h3:x=dC
  ·have hf:s6 x=some 3:=by unfold s6;rw[if_neg h0,if_neg h1,if_neg h2,if_pos h3]
   rw[hf]at hT
   exact GP h hbm hne hx ha h0 h1 h2 h3 hT
  by_cases h4:x=eQ
  ·have hf:s6 x=some 4:=by unfold s6;rw[if_neg h0,if_neg h1,if_neg h2,if_neg h3,if_pos h4]
   rw[hf]at hT
   exact GO h hbm hne hx ha h0 h1 h2 h3 h4 hT
  by_cases h5:x=gr
  ·have hf:s6 x=some 5:=by unfold s6;rw[if_neg h0,if_neg h1,if_neg h2,if_neg h3,if_neg h4,if_pos h5]
   rw[hf]at hT
   exact GN h hbm hne hx ha h0 h1 h2 h3 h4 h5 hT
  have hf:s6 x=none:=by unfold s6;rw[if_neg h0,if_neg h1,if_neg h2,if_neg h3,if_neg h4,if_neg h5]
  rw[hf]at hT
  exact AF h hbm hne hx ⟨h0,h1,h2,h3,h4,h5⟩ hT
end Go.Proofs.YtnncigmpcdehnaaGreatDoor
