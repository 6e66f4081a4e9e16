import Derived.Test.YtnncigmpcdehnaaGreatDoorQc17
namespace Go.Proofs.YtnncigmpcdehnaaGreatDoor
set_option maxRecDepth 100000
open Go.RowKit Go.Lib Go.Sort
theorem zz:∀(a:Fin 64) (k:Fin 6),(bits .and .u8 (a.val:Int) ((2^k.val:Nat):Int)==0)=!a.val.testBit k.val:=by decide+kernel
theorem Ap:∀(a:Fin 64) (k:Fin 6),bits .or .u8 (a.val:Int) ((2^k.val:Nat):Int)=((a.val|||2^k.val:Nat):Int):=by decide+kernel
theorem nh{a:Nat}(ha:a < 64)(k:Nat)(hk:k < 6):(bits .and .u8 (a:Int) ((2^k:Nat):Int)==0)=!a.testBit k:=zz ⟨a,ha⟩ ⟨k,hk⟩
theorem pJ{a:Nat}(ha:a < 64)(k:Nat)(hk:k < 6):bits .or .u8 (a:Int) ((2^k:Nat):Int)=((a|||2^k:Nat):Int):=Ap ⟨a,ha⟩ ⟨k,hk⟩
theorem Ef{w:World}{g gm:Nat}{A:Option Go.Addr}{n c:Nat}{ws:List Bs}{m:Mt}{T:Out (Bool×Mt)}(h:py w [g,gm] g A n c n ws)(hbm:aq w gm 66 m.cells)(hne:g≠gm)(hT:T=.ok (false,m) n):Calls Tryz.prog 153 #[.pointer (some ⟨g,0,none⟩),.pointer (some ⟨gm,0,none⟩)] w (gQ g gm A n c T w):=by
 have k9:Value.bool ((n:Int)==(n:Int))=.bool true:=gF (by simp)
 have z0:Le g gm A n c T [.val (.bool false)] (dG g gm A n c n m.cells):=⟨false,m,n,_,hT,Nat.le_refl _,rfl,rfl⟩
 refine jH h hbm hne [(16,.is (.bool true))] [] (by kernel_rfl) Tryz.func153 rfl (Nat.le_of_ble_eq_true rfl) ?_
 exact Eq.mp (by kernel_rfl) (And.intro k9 z0)
theorem AV{w:World}{g gm:Nat}{A:Option Go.Addr}{n c i:Nat}{ws:List Bs}{m:Mt}{T:Out (Bool×Mt)}{x:Bs}(h:py w [g,gm] g A n c i ws)(hbm:aq w gm 66 m.cells)(hne:g≠gm)(hx:ws[i]?=some x)(hf:x≠lq∧x≠fx∧x≠gw∧x≠dv∧x≠eM∧x≠gi)(hT:T=.ok (false,m) i):Calls Tryz.prog 153 #[.pointer (some ⟨g,0,none⟩),.pointer (some ⟨gm,0,none⟩)] w (gQ g gm A n c T w):=by
 have hi:i < n:=by rw[←h.kt.len];exact(List.getElem?_eq_some_iff.1 hx).1
 obtain⟨p,hp1,hp2⟩:=h.kt.at (c:=c) hx
 have hbd:=h.bd
 have k9:Value.bool ((i:Int)==(n:Int))=.bool false:=iB (by rw[beq_eq_false_iff_ne];omega)
 have c25:=fun W (_:ah [g,gm] w W)=>hp1 W
 have c26:=hp2
 have c28:=fun W=>av (.tmp 26) (.const (ab lq)) x lq false (decide_eq_false hf.1) W
 have c31:=fun W=>av (.tmp 26) (.const (ab fx)) x fx false (decide_eq_false hf.2.1) W
 have c34:=fun W=>av (.tmp 26) (.const (ab gw)) x gw false (decide_eq_false hf.2.2.1) W
 have c37:=fun W=>av (.tmp 26) (.const (ab dv)) x dv false (decide_eq_false hf.2.2.2.1) W
 have c40:=fun W=>av (.tmp 26) (.const (ab eM)) x eM false (decide_eq_false hf.2.2.2.2.1) W
 have c43:=fun W=>av (.tmp 26) (.const (ab gi)) x gi false (decide_eq_false hf.2.2.2.2.2) W
 have z0:Le g gm A n c T [.val (.bool false)] (dG g gm A n c i m.cells):=⟨false,m,i,_,hT,h.le,rfl,rfl⟩
 refine jH h hbm hne [(16,.is (.bool false)),(25,.any p),(26,.any (ab x)),(28,.bin (.bool false)),(31,.bin (.bool false)),(34,.bin (.bool false)),(37,.bin (.bool false)),(40,.bin (.bool false)),(43,.bin (.bool false))] [] (by kernel_rfl) Tryz.func153 rfl (Nat.le_of_ble_eq_true rfl) ?_
 exact Eq.mp (by kernel_rfl) (Sx.t8 k9 c25 c26 c28 c31 c34 c37 c40 (And.intro c43 z0))
theorem Hh{w:World}{g gm:Nat}{A:Option Go.Addr}{n c i:Nat}{ws:List Bs}{m:Mt}{T:Out (Bool×Mt)}{x:Bs}(h:py w [g,gm] g A n c i ws)(hbm:aq w gm 66 m.cells)(hne:g≠gm)(hx:ws[i]?=some x)(ha:m.asks < 64)(hk:x=lq)(hT:T=match m.asks.testBit 0 with|true=>.no 200 (i+1)|false=>(br 0 { m with asks:=m.asks|||2^0 } ws (i+1)).bind fun m' j=>.ok (true,m') j):Calls Tryz.prog 153 #[.pointer (some ⟨g,0,none⟩),.pointer (some ⟨gm,0,none⟩)] w (gQ g gm A n c T w):=by
 have hi:i < n:=by rw[←h.kt.len];exact(List.getElem?_eq_some_iff.1 hx).1
 obtain⟨p,hp1,hp2⟩:=h.kt.at (c:=c) hx
 have hbd:=h.bd
 have k9:Value.bool ((i:Int)==(n:Int))=.bool false:=iB (by rw[beq_eq_false_iff_ne];omega)
 have c25:=fun W (_:ah [g,gm] w W)=>hp1 W
 have c26:=hp2
 have c28:=fun W=>av (.tmp 26) (.const (ab lq)) x lq true (decide_eq_true hk) W
 have c49:Value.int .i64 (IntKind.i64.wrap ((i:Int)+1))=.int .i64 ((i+1:Nat):Int):=iw (by rw[jR (by omega) (by omega)];rfl)
 have c59:Value.bool (bits .and .u8 (m.asks:Int) ((2^0:Nat):Int)==0)=.bool (!m.asks.testBit 0):=bz (nh ha 0 (by omega))
 have hor:Value.int .u8 (bits .or .u8 (m.asks:Int) ((2^0:Nat):Int))=.int .u8 ((m.asks|||2^0:Nat):Int):=by rw[pJ ha 0 (by omega)]
 obtain⟨m1,hm1⟩:∃m1:Mt,m1={ m with asks:=m.asks|||2^0 }:=⟨_,rfl⟩
 have n2:=fun W b2 b3 (hC:BB W g gm b2 b3 A n c (i+1) ws m1)=>DF hC
 rw[←hm1]at hT
 have eT:m.asks.testBit 0=false→T=(br 0 m1 ws (i+1)).bind fun m' j=>.ok (true,m') j:=fun hb=>by rw[hT,hb]
 have eN:m.asks.testBit 0=true→T=.no 200 (i+1):=fun hb=>by rw[hT,hb]
 generalize br 0 m1 ws (i+1)=r at n2 eT
 clear hT
 have c60:=aS (T:=T) 0 (dG g gm A n c (i+1) m.cells) [.bool (!m.asks.testBit 0),.int .i64 200] h (j:=i+1) hi (r:=ak (!m.asks.testBit 0) 200 () (i+1)) (fun code p hh=>by
  cases hb:m.asks.testBit 0 with
  |false=>rw[hb]at hh;cases hh
  |true=>rw[hb]at hh;injection hh with h1 h2;rw[eN hb,h1,h2]) rfl (fun W hL=>dV _ 200 () hL)
 have c66f:=fun(_:(ak (!m.asks.testBit 0) 200 () (i+1)).okB=true∧(ak (!m.asks.testBit 0) 200 () (i+1)).pos≤n)=>hor
 have hbit:(ak (!m.asks.testBit 0) 200 () (i+1)).okB=true→m.asks.testBit 0=false:=fun hh=>by
  cases hb:m.asks.testBit 0 with
  |false=>rfl
  |true=>rw[hb]at hh;cases hh
 have hpos:(ak (!m.asks.testBit 0) 200 () (i+1)).pos=i+1:=by cases m.asks.testBit 0<;>rfl
 generalize ak (!m.asks.testBit 0) 200 () (i+1)=r1 at c60 c66f hbit hpos
 generalize (!m.asks.testBit 0)=nb at c59 c60
 have c70f:=fun(hp:r1.okB=true∧r1.pos≤n)=>(show ∀W (β:Sx.Env) (_:Sx.dz ⟨w,[g,gm],jr T w⟩ β W (Sx.rowAt (dG g gm A n c r1.pos m1.cells)) [0,1,2,3]),Calls Tryz.prog 204 (([.ptr 2 0,.ptr 3 0]:List Sx.SV).map (Sx.SV.den β)).toArray W (Sx.aQ ⟨w,[g,gm],jr T w⟩ β W (Sx.rowAt (dG g gm A n c r1.pos m1.cells)) 4 (CV g gm A n c r))from by
  rw[hpos];exact vd h hi (aM (eT (hbit hp.1))) n2)
 have z2f:=fun(hp:r1.okB=true∧r1.pos≤n) (hp2:r.okB=true∧r.pos≤n)=>(show Le g gm A n c T [.val (.bool true)] (dG g gm A n c r.pos r.val.cells)from⟨true,r.val,r.pos,_,bu (eT (hbit hp.1)) hp2.1,hp2.2,rfl,rfl⟩)
 have z4f:=fun(_:¬(r1.okB=true∧r1.pos≤n))=>trivial
 subst hm1
 refine jH h hbm hne [(16,.is (.bool false)),(25,.any p),(26,.any (ab x)),(28,.bin (.bool true)),(49,.is (.int .i64 ((i+1:Nat):Int))),(59,.is (.bool nb)),(60,.ai (cB 0 g A n c r1 fun _=>.tuple #[])),(66,.is (.int .u8 ((m.asks|||2^0:Nat):Int))),(70,.ai (CV g gm A n c r))] [] (by kernel_rfl) Tryz.func153 rfl (Nat.le_of_ble_eq_true rfl) ?_
 exact Eq.mp (by kernel_rfl) (Sx.t8 k9 c25 c26 c28 c49 c59 c60 (fun(hx0:r1.okB=true∧r1.pos≤n)=>(Sx.t2 (c66f hx0) (c70f hx0) (fun(hx1:r.okB=true∧r.pos≤n)=>(z2f hx0 hx1)))) (fun(hx3:¬(r1.okB=true∧r1.pos≤n))=>(z4f hx3)))
theorem Hg{w:World}{g gm:Nat}{A:Option Go.Addr}{n c i:Nat}{ws:List Bs}{m:Mt}{T:Out (Bool×Mt)}{x:Bs}(h:py w [g,gm] g A n c i ws)(hbm:aq w gm 66 m.cells)(hne:g≠gm)(hx:ws[i]?=some x)(ha:m.asks < 64)(h0:x≠lq)(hk:x=fx)(hT:T=match m.asks.testBit 1 with|true=>.no 200 (i+1)|false=>(br 1 { m with asks:=m.asks|||2^1 } ws (i+1)).bind fun m' j=>.ok (true,m') j):Calls Tryz.prog 153 #[.pointer (some ⟨g,0,none⟩),.pointer (some ⟨gm,0,none⟩)] w (gQ g gm A n c T w):=by
 have hi:i < n:=by rw[←h.kt.len];exact(List.getElem?_eq_some_iff.1 hx).1
 obtain⟨p,hp1,hp2⟩:=h.kt.at (c:=c) hx
 have hbd:=h.bd
 have k9:Value.bool ((i:Int)==(n:Int))=.bool false:=iB (by rw[beq_eq_false_iff_ne];omega)
 have c25:=fun W (_:ah [g,gm] w W)=>hp1 W
 have c26:=hp2
 have c28:=fun W=>av (.tmp 26) (.const (ab lq)) x lq false (decide_eq_false h0) W
 have c31:=fun W=>av (.tmp 26) (.const (ab fx)) x fx true (decide_eq_true hk) W
 have c49:Value.int .i64 (IntKind.i64.wrap ((i:Int)+1))=.int .i64 ((i+1:Nat):Int):=iw (by rw[jR (by omega) (by omega)];rfl)
 have c59:Value.bool (bits .and .u8 (m.asks:Int) ((2^1:Nat):Int)==0)=.bool (!m.asks.testBit 1):=bz (nh ha 1 (by omega))
 have hor:Value.int .u8 (bits .or .u8 (m.asks:Int) ((2^1:Nat):Int))=.int .u8 ((m.asks|||2^1:Nat):Int):=by rw[pJ ha 1 (by omega)]
 obtain⟨m1,hm1⟩:∃m1:Mt,m1={ m with asks:=m.asks|||2^1 }:=⟨_,rfl⟩
 have n2:=fun W b2 b3 (hC:BB W g gm b2 b3 A n c (i+1) ws m1)=>DE hC
 rw[←hm1]at hT
 have eT:m.asks.testBit 1=false→T=(br 1 m1 ws (i+1)).bind fun m' j=>.ok (true,m') j:=fun hb=>by rw[hT,hb]
 have eN:m.asks.testBit 1=true→T=.no 200 (i+1):=fun hb=>by rw[hT,hb]
 generalize br 1 m1 ws (i+1)=r at n2 eT
 clear hT
 have c60:=aS (T:=T) 0 (dG g gm A n c (i+1) m.cells) [.bool (!m.asks.testBit 1),.int .i64 200] h (j:=i+1) hi (r:=ak (!m.asks.testBit 1) 200 () (i+1)) (fun code p hh=>by
  cases hb:m.asks.testBit 1 with
  |false=>rw[hb]at hh;cases hh
  |true=>rw[hb]at hh;injection hh with h1 h2;rw[eN hb,h1,h2]) rfl (fun W hL=>dV _ 200 () hL)
 have c66f:=fun(_:(ak (!m.asks.testBit 1) 200 () (i+1)).okB=true∧(ak (!m.asks.testBit 1) 200 () (i+1)).pos≤n)=>hor
 have hbit:(ak (!m.asks.testBit 1) 200 () (i+1)).okB=true→m.asks.testBit 1=false:=fun hh=>by
  cases hb:m.asks.testBit 1 with
  |false=>rfl
  |true=>rw[hb]at hh;cases hh
 have hpos:(ak (!m.asks.testBit 1) 200 () (i+1)).pos=i+1:=by cases m.asks.testBit 1<;>rfl
 generalize ak (!m.asks.testBit 1) 200 () (i+1)=r1 at c60 c66f hbit hpos
 generalize (!m.asks.testBit 1)=nb at c59 c60
 have c70f:=fun(hp:r1.okB=true∧r1.pos≤n)=>(show ∀W (β:Sx.Env) (_:Sx.dz ⟨w,[g,gm],jr T w⟩ β W (Sx.rowAt (dG g gm A n c r1.pos m1.cells)) [0,1,2,3]),Calls Tryz.prog 206 (([.ptr 2 0,.ptr 3 0]:List Sx.SV).map (Sx.SV.den β)).toArray W (Sx.aQ ⟨w,[g,gm],jr T w⟩ β W (Sx.rowAt (dG g gm A n c r1.pos m1.cells)) 4 (CV g gm A n c r))from by
  rw[hpos];exact vd h hi (aM (eT (hbit hp.1))) n2)
 have z2f:=fun(hp:r1.okB=true∧r1.pos≤n) (hp2:r.okB=true∧r.pos≤n)=>(show Le g gm A n c T [.val (.bool true)] (dG g gm A n c r.pos r.val.cells)from⟨true,r.val,r.pos,_,bu (eT (hbit hp.1)) hp2.1,hp2.2,rfl,rfl⟩)
 have z4f:=fun(_:¬(r1.okB=true∧r1.pos≤n))=>trivial
 subst hm1
 refine jH h hbm hne [(16,.is (.bool false)),(25,.any p),(26,.any (ab x)),(28,.bin (.bool false)),(31,.bin (.bool true)),(49,.is (.int .i64 ((i+1:Nat):Int))),(59,.is (.bool nb)),(60,.ai (cB 0 g A n c r1 fun _=>.tuple #[])),(66,.is (.int .u8 ((m.asks|||2^1:Nat):Int))),(70,.ai (CV g gm A n c r))] [] (by kernel_rfl) Tryz.func153 rfl (Nat.le_of_ble_eq_true rfl) ?_
 exact Eq.mp (by kernel_rfl) (Sx.t8 k9 c25 c26 c28 c31 c49 c59 c60 (And.intro (fun(hx0:r1.okB=true∧r1.pos≤n)=>(Sx.t2 (c66f hx0) (c70f hx0) (fun(hx1:r.okB=true∧r.pos≤n)=>(z2f hx0 hx1)))) (fun(hx3:¬(r1.okB=true∧r1.pos≤n))=>(z4f hx3))))
theorem Hf{w:World}{g gm:Nat}{A:Option Go.Addr}{n c i:Nat}{ws:List Bs}{m:Mt}{T:Out (Bool×Mt)}{x:Bs}(h:py w [g,gm] g A n c i ws)(hbm:aq w gm 66 m.cells)(hne:g≠gm)(hx:ws[i]?=some x)(ha:m.asks < 64)(h0:x≠lq)(h1:x≠fx)(hk:x=gw)(hT:T=match m.asks.testBit 2 with|true=>.no 200 (i+1)|false=>(br 2 { m with asks:=m.asks|||2^2 } ws (i+1)).bind fun m' j=>.ok (true,m') j):Calls Tryz.prog 153 #[.pointer (some ⟨g,0,none⟩),.pointer (some ⟨gm,0,none⟩)] w (gQ g gm A n c T w):=by
 have hi:i < n:=by rw[←h.kt.len];exact(List.getElem?_eq_some_iff.1 hx).1
 obtain⟨p,hp1,hp2⟩:=h.kt.at (c:=c) hx
 have hbd:=h.bd
 have k9:Value.bool ((i:Int)==(n:Int))=.bool false:=iB (by rw[beq_eq_false_iff_ne];omega)
 have c25:=fun W (_:ah [g,gm] w W)=>hp1 W
 have c26:=hp2
 have c28:=fun W=>av (.tmp 26) (.const (ab lq)) x lq false (decide_eq_false h0) W
 have c31:=fun W=>av (.tmp 26) (.const (ab fx)) x fx false (decide_eq_false h1) W
 have c34:=fun W=>av (.tmp 26) (.const (ab gw)) x gw true (decide_eq_true hk) W
 have c49:Value.int .i64 (IntKind.i64.wrap ((i:Int)+1))=.int .i64 ((i+1:Nat):Int):=iw (by rw[jR (by omega) (by omega)];rfl)
 have c59:Value.bool (bits .and .u8 (m.asks:Int) ((2^2:Nat):Int)==0)=.bool (!m.asks.testBit 2):=bz (nh ha 2 (by omega))
 have hor:Value.int .u8 (bits .or .u8 (m.asks:Int) ((2^2:Nat):Int))=.int .u8 ((m.asks|||2^2:Nat):Int):=by rw[pJ ha 2 (by omega)]
 obtain⟨m1,hm1⟩:∃m1:Mt,m1={ m with asks:=m.asks|||2^2 }:=⟨_,rfl⟩
 have n2:=fun W b2 b3 (hC:BB W g gm b2 b3 A n c (i+1) ws m1)=>DD hC
 rw[←hm1]at hT
 have eT:m.asks.testBit 2=false→T=(br 2 m1 ws (i+1)).bind fun m' j=>.ok (true,m') j:=fun hb=>by rw[hT,hb]
 have eN:m.asks.testBit 2=true→T=.no 200 (i+1):=fun hb=>by rw[hT,hb]
 generalize br 2 m1 ws (i+1)=r at n2 eT
 clear hT
 have c60:=aS (T:=T) 0 (dG g gm A n c (i+1) m.cells) [.bool (!m.asks.testBit 2),.int .i64 200] h (j:=i+1) hi (r:=ak (!m.asks.testBit 2) 200 () (i+1)) (fun code p hh=>by
  cases hb:m.asks.testBit 2 with
  |false=>rw[hb]at hh;cases hh
  |true=>rw[hb]at hh;injection hh with h1 h2;rw[eN hb,h1,h2]) rfl (fun W hL=>dV _ 200 () hL)
 have c66f:=fun(_:(ak (!m.asks.testBit 2) 200 () (i+1)).okB=true∧(ak (!m.asks.testBit 2) 200 () (i+1)).pos≤n)=>hor
 have hbit:(ak (!m.asks.testBit 2) 200 () (i+1)).okB=true→m.asks.testBit 2=false:=fun hh=>by
  cases hb:m.asks.testBit 2 with
  |false=>rfl
  |true=>rw[hb]at hh;cases hh
 have hpos:(ak (!m.asks.testBit 2) 200 () (i+1)).pos=i+1:=by cases m.asks.testBit 2<;>rfl
 generalize ak (!m.asks.testBit 2) 200 () (i+1)=r1 at c60 c66f hbit hpos
 generalize (!m.asks.testBit 2)=nb at c59 c60
 have c70f:=fun(hp:r1.okB=true∧r1.pos≤n)=>(show ∀W (β:Sx.Env) (_:Sx.dz ⟨w,[g,gm],jr T w⟩ β W (Sx.rowAt (dG g gm A n c r1.pos m1.cells)) [0,1,2,3]),Calls Tryz.prog 207 (([.ptr 2 0,.ptr 3 0]:List Sx.SV).map (Sx.SV.den β)).toArray W (Sx.aQ ⟨w,[g,gm],jr T w⟩ β W (Sx.rowAt (dG g gm A n c r1.pos m1.cells)) 4 (CV g gm A n c r))from by
  rw[hpos];exact vd h hi (aM (eT (hbit hp.1))) n2)
 have z2f:=fun(hp:r1.okB=true∧r1.pos≤n) (hp2:r.okB=true∧r.pos≤n)=>(show Le g gm A n c T [.val (.bool true)] (dG g gm A n c r.pos r.val.cells)from⟨true,r.val,r.pos,_,bu (eT (hbit hp.1)) hp2.1,hp2.2,rfl,rfl⟩)
 have z4f:=fun(_:¬(r1.okB=true∧r1.pos≤n))=>trivial
 subst hm1
 refine jH h hbm hne [(16,.is (.bool false)),(25,.any p),(26,.any (ab x)),(28,.bin (.bool false)),(31,.bin (.bool false)),(34,.bin (.bool true)),(49,.is (.int .i64 ((i+1:Nat):Int))),(59,.is (.bool nb)),(60,.ai (cB 0 g A n c r1 fun _=>.tuple #[])),(66,.is (.int .u8 ((m.asks|||2^2:Nat):Int))),(70,.ai (CV g gm A n c r))] [] (by kernel_rfl) Tryz.func153 rfl (Nat.le_of_ble_eq_true rfl) ?_
 exact Eq.mp (by kernel_rfl) (Sx.t8 k9 c25 c26 c28 c31 c34 c49 c59 (Sx.t2 c60 (fun(hx0:r1.okB=true∧r1.pos≤n)=>(Sx.t2 (c66f hx0) (c70f hx0) (fun(hx1:r.okB=true∧r.pos≤n)=>(z2f hx0 hx1)))) (fun(hx3:¬(r1.okB=true∧r1.pos≤n))=>(z4f hx3))))
theorem He{w:World}{g gm:Nat}{A:Option Go.Addr}{n c i:Nat}{ws:List Bs}{m:Mt}{T:Out (Bool×Mt)}{x:Bs}(h:py w [g,gm] g A n c i ws)(hbm:aq w gm 66 m.cells)(hne:g≠gm)(hx:ws[i]?=some x)(ha:m.asks < 64)(h0:x≠lq)(h1:x≠fx)(h2:x≠gw)(hk:x=dv)(hT:T=match m.asks.testBit 3 with|true=>.no 200 (i+1)|false=>(br 3 { m with asks:=m.asks|||2^3 } ws (i+1)).bind fun m' j=>.ok (true,m') j):Calls Tryz.prog 153 #[.pointer (some ⟨g,0,none⟩),.pointer (some ⟨gm,0,none⟩)] w (gQ g gm A n c T w):=by
 have hi:i < n:=by rw[←h.kt.len];exact(List.getElem?_eq_some_iff.1 hx).1
 obtain⟨p,hp1,hp2⟩:=h.kt.at (c:=c) hx
 have hbd:=h.bd
 have k9:Value.bool ((i:Int)==(n:Int))=.bool false:=iB (by rw[beq_eq_false_iff_ne];omega)
 have c25:=fun W (_:ah [g,gm] w W)=>hp1 W
 have c26:=hp2
 have c28:=fun W=>av (.tmp 26) (.const (ab lq)) x lq false (decide_eq_false h0) W
 have c31:=fun W=>av (.tmp 26) (.const (ab fx)) x fx false (decide_eq_false h1) W
 have c34:=fun W=>av (.tmp 26) (.const (ab gw)) x gw false (decide_eq_false h2) W
 have c37:=fun W=>av (.tmp 26) (.const (ab dv)) x dv true (decide_eq_true hk) W
 have c49:Value.int .i64 (IntKind.i64.wrap ((i:Int)+1))=.int .i64 ((i+1:Nat):Int):=iw (by rw[jR (by omega) (by omega)];rfl)
 have c59:Value.bool (bits .and .u8 (m.asks:Int) ((2^3:Nat):Int)==0)=.bool (!m.asks.testBit 3):=bz (nh ha 3 (by omega))
 have hor:Value.int .u8 (bits .or .u8 (m.asks:Int) ((2^3:Nat):Int))=.int .u8 ((m.asks|||2^3:Nat):Int):=by rw[pJ ha 3 (by omega)]
 obtain⟨m1,hm1⟩:∃m1:Mt,m1={ m with asks:=m.asks|||2^3 }:=⟨_,rfl⟩
 have n2:=fun W b2 b3 (hC:BB W g gm b2 b3 A n c (i+1) ws m1)=>DC hC
 rw[←hm1]at hT
 have eT:m.asks.testBit 3=false→T=(br 3 m1 ws (i+1)).bind fun m' j=>.ok (true,m') j:=fun hb=>by rw[hT,hb]
 have eN:m.asks.testBit 3=true→T=.no 200 (i+1):=fun hb=>by rw[hT,hb]
 generalize br 3 m1 ws (i+1)=r at n2 eT
 clear hT
 have c60:=aS (T:=T) 0 (dG g gm A n c (i+1) m.cells) [.bool (!m.asks.testBit 3),.int .i64 200] h (j:=i+1) hi (r:=ak (!m.asks.testBit 3) 200 () (i+1)) (fun code p hh=>by
  cases hb:m.asks.testBit 3 with
  |false=>rw[hb]at hh;cases hh
  |true=>rw[hb]at hh;injection hh with h1 h2;rw[eN hb,h1,h2]) rfl (fun W hL=>dV _ 200 () hL)
 have c66f:=fun(_:(ak (!m.asks.testBit 3) 200 () (i+1)).okB=true∧(ak (!m.asks.testBit 3) 200 () (i+1)).pos≤n)=>hor
 have hbit:(ak (!m.asks.testBit 3) 200 () (i+1)).okB=true→m.asks.testBit 3=false:=fun hh=>by
  cases hb:m.asks.testBit 3 with
  |false=>rfl
  |true=>rw[hb]at hh;cases hh
 have hpos:(ak (!m.asks.testBit 3) 200 () (i+1)).pos=i+1:=by cases m.asks.testBit 3<;>rfl
 generalize ak (!m.asks.testBit 3) 200 () (i+1)=r1 at c60 c66f hbit hpos
 generalize (!m.asks.testBit 3)=nb at c59 c60
 have c70f:=fun(hp:r1.okB=true∧r1.pos≤n)=>(show ∀W (β:Sx.Env) (_:Sx.dz ⟨w,[g,gm],jr T w⟩ β W (Sx.rowAt (dG g gm A n c r1.pos m1.cells)) [0,1,2,3]),Calls Tryz.prog 208 (([.ptr 2 0,.ptr 3 0]:List Sx.SV).map (Sx.SV.den β)).toArray W (Sx.aQ ⟨w,[g,gm],jr T w⟩ β W (Sx.rowAt (dG g gm A n c r1.pos m1.cells)) 4 (CV g gm A n c r))from by
  rw[hpos];exact vd h hi (aM (eT (hbit hp.1))) n2)
 have z2f:=fun(hp:r1.okB=true∧r1.pos≤n) (hp2:r.okB=true∧r.pos≤n)=>(show Le g gm A n c T [.val (.bool true)] (dG g gm A n c r.pos r.val.cells)from⟨true,r.val,r.pos,_,bu (eT (hbit hp.1)) hp2.1,hp2.2,rfl,rfl⟩)
 have z4f:=fun(_:¬(r1.okB=true∧r1.pos≤n))=>trivial
 subst hm1
 refine jH h hbm hne [(16,.is (.bool false)),(25,.any p),(26,.any (ab x)),(28,.bin (.bool false)),(31,.bin (.bool false)),(34,.bin (.bool false)),(37,.bin (.bool true)),(49,.is (.int .i64 ((i+1:Nat):Int))),(59,.is (.bool nb)),(60,.ai (cB 0 g A n c r1 fun _=>.tuple #[])),(66,.is (.int .u8 ((m.asks|||2^3:Nat):Int))),(70,.ai (CV g gm A n c r))] [] (by kernel_rfl) Tryz.func153 rfl (Nat.le_of_ble_eq_true rfl) ?_
 exact Eq.mp (by kernel_rfl) (Sx.t8 k9 c25 c26 c28 c31 c34 c37 c49 (Sx.t2 c59 c60 (And.intro (fun(hx0:r1.okB=true∧r1.pos≤n)=>(Sx.t2 (c66f hx0) (c70f hx0) (fun(hx1:r.okB=true∧r.pos≤n)=>(z2f hx0 hx1)))) (fun(hx3:¬(r1.okB=true∧r1.pos≤n))=>(z4f hx3)))))
theorem Hc{w:World}{g gm:Nat}{A:Option Go.Addr}{n c i:Nat}{ws:List Bs}{m:Mt}{T:Out (Bool×Mt)}{x:Bs}(h:py w [g,gm] g A n c i ws)(hbm:aq w gm 66 m.cells)(hne:g≠gm)(hx:ws[i]?=some x)(ha:m.asks < 64)(h0:x≠lq)(h1:x≠fx)(h2:x≠gw)(h3:x≠dv)(hk:x=eM)(hT:T=match m.asks.testBit 4 with|true=>.no 200 (i+1)|false=>(br 4 { m with asks:=m.asks|||2^4 } ws (i+1)).bind fun m' j=>.ok (true,m') j):Calls Tryz.prog 153 #[.pointer (some ⟨g,0,none⟩),.pointer (some ⟨gm,0,none⟩)] w (gQ g gm A n c T w):=by
 have hi:i < n:=by rw[←h.kt.len];exact(List.getElem?_eq_some_iff.1 hx).1
 obtain⟨p,hp1,hp2⟩:=h.kt.at (c:=c) hx
 have hbd:=h.bd
 have k9:Value.bool ((i:Int)==(n:Int))=.bool false:=iB (by rw[beq_eq_false_iff_ne];omega)
 have c25:=fun W (_:ah [g,gm] w W)=>hp1 W
 have c26:=hp2
 have c28:=fun W=>av (.tmp 26) (.const (ab lq)) x lq false (decide_eq_false h0) W
 have c31:=fun W=>av (.tmp 26) (.const (ab fx)) x fx false (decide_eq_false h1) W
 have c34:=fun W=>av (.tmp 26) (.const (ab gw)) x gw false (decide_eq_false h2) W
 have c37:=fun W=>av (.tmp 26) (.const (ab dv)) x dv false (decide_eq_false h3) W
 have c40:=fun W=>av (.tmp 26) (.const (ab eM)) x eM true (decide_eq_true hk) W
 have c49:Value.int .i64 (IntKind.i64.wrap ((i:Int)+1))=.int .i64 ((i+1:Nat):Int):=iw (by rw[jR (by omega) (by omega)];rfl)
 have c59:Value.bool (bits .and .u8 (m.asks:Int) ((2^4:Nat):Int)==0)=.bool (!m.asks.testBit 4):=bz (nh ha 4 (by omega))
 have hor:Value.int .u8 (bits .or .u8 (m.asks:Int) ((2^4:Nat):Int))=.int .u8 ((m.asks|||2^4:Nat):Int):=by rw[pJ ha 4 (by omega)]
 obtain⟨m1,hm1⟩:∃m1:Mt,m1={ m with asks:=m.asks|||2^4 }:=⟨_,rfl⟩
 have n2:=fun W b2 b3 (hC:BB W g gm b2 b3 A n c (i+1) ws m1)=>DB hC
 rw[←hm1]at hT
 have eT:m.asks.testBit 4=false→T=(br 4 m1 ws (i+1)).bind fun m' j=>.ok (true,m') j:=fun hb=>by rw[hT,hb]
 have eN:m.asks.testBit 4=true→T=.no 200 (i+1):=fun hb=>by rw[hT,hb]
 generalize br 4 m1 ws (i+1)=r at n2 eT
 clear hT
 have c60:=aS (T:=T) 0 (dG g gm A n c (i+1) m.cells) [.bool (!m.asks.testBit 4),.int .i64 200] h (j:=i+1) hi (r:=ak (!m.asks.testBit 4) 200 () (i+1)) (fun code p hh=>by
  cases hb:m.asks.testBit 4 with
  |false=>rw[hb]at hh;cases hh
  |true=>rw[hb]at hh;injection hh with h1 h2;rw[eN hb,h1,h2]) rfl (fun W hL=>dV _ 200 () hL)
 have c66f:=fun(_:(ak (!m.asks.testBit 4) 200 () (i+1)).okB=true∧(ak (!m.asks.testBit 4) 200 () (i+1)).pos≤n)=>hor
 have hbit:(ak (!m.asks.testBit 4) 200 () (i+1)).okB=true→m.asks.testBit 4=false:=fun hh=>by
  cases hb:m.asks.testBit 4 with
  |false=>rfl
  |true=>rw[hb]at hh;cases hh
 have hpos:(ak (!m.asks.testBit 4) 200 () (i+1)).pos=i+1:=by cases m.asks.testBit 4<;>rfl
 generalize ak (!m.asks.testBit 4) 200 () (i+1)=r1 at c60 c66f hbit hpos
 generalize (!m.asks.testBit 4)=nb at c59 c60
 have c70f:=fun(hp:r1.okB=true∧r1.pos≤n)=>(show ∀W (β:Sx.Env) (_:Sx.dz ⟨w,[g,gm],jr T w⟩ β W (Sx.rowAt (dG g gm A n c r1.pos m1.cells)) [0,1,2,3]),Calls Tryz.prog 210 (([.ptr 2 0,.ptr 3 0]:List Sx.SV).map (Sx.SV.den β)).toArray W (Sx.aQ ⟨w,[g,gm],jr T w⟩ β W (Sx.rowAt (dG g gm A n c r1.pos m1.cells)) 4 (CV g gm A n c r))from by
  rw[hpos];exact vd h hi (aM (eT (hbit hp.1))) n2)
 have z2f:=fun(hp:r1.okB=true∧r1.pos≤n) (hp2:r.okB=true∧r.pos≤n)=>(show Le g gm A n c T [.val (.bool true)] (dG g gm A n c r.pos r.val.cells)from⟨true,r.val,r.pos,_,bu (eT (hbit hp.1)) hp2.1,hp2.2,rfl,rfl⟩)
 have z4f:=fun(_:¬(r1.okB=true∧r1.pos≤n))=>trivial
 subst hm1
 refine jH h hbm hne [(16,.is (.bool false)),(25,.any p),(26,.any (ab x)),(28,.bin (.bool false)),(31,.bin (.bool false)),(34,.bin (.bool false)),(37,.bin (.bool false)),(40,.bin (.bool true)),(49,.is (.int .i64 ((i+1:Nat):Int))),(59,.is (.bool nb)),(60,.ai (cB 0 g A n c r1 fun _=>.tuple #[])),(66,.is (.int .u8 ((m.asks|||2^4:Nat):Int))),(70,.ai (CV g gm A n c r))] [] (by kernel_rfl) Tryz.func153 rfl (Nat.le_of_ble_eq_true rfl) ?_
 exact Eq.mp (by kernel_rfl) (Sx.t8 k9 c25 c26 c28 c31 c34 c37 c40 (Sx.t4 c49 c59 c60 (fun(hx0:r1.okB=true∧r1.pos≤n)=>(Sx.t2 (c66f hx0) (c70f hx0) (fun(hx1:r.okB=true∧r.pos≤n)=>(z2f hx0 hx1)))) (fun(hx3:¬(r1.okB=true∧r1.pos≤n))=>(z4f hx3))))
theorem Hb{w:World}{g gm:Nat}{A:Option Go.Addr}{n c i:Nat}{ws:List Bs}{m:Mt}{T:Out (Bool×Mt)}{x:Bs}(h:py w [g,gm] g A n c i ws)(hbm:aq w gm 66 m.cells)(hne:g≠gm)(hx:ws[i]?=some x)(ha:m.asks < 64)(h0:x≠lq)(h1:x≠fx)(h2:x≠gw)(h3:x≠dv)(h4:x≠eM)(hk:x=gi)(hT:T=match m.asks.testBit 5 with|true=>.no 200 (i+1)|false=>(br 5 { m with asks:=m.asks|||2^5 } ws (i+1)).bind fun m' j=>.ok (true,m') j):Calls Tryz.prog 153 #[.pointer (some ⟨g,0,none⟩),.pointer (some ⟨gm,0,none⟩)] w (gQ g gm A n c T w):=by
 have hi:i < n:=by rw[←h.kt.len];exact(List.getElem?_eq_some_iff.1 hx).1
 obtain⟨p,hp1,hp2⟩:=h.kt.at (c:=c) hx
 have hbd:=h.bd
 have k9:Value.bool ((i:Int)==(n:Int))=.bool false:=iB (by rw[beq_eq_false_iff_ne];omega)
 have c25:=fun W (_:ah [g,gm] w W)=>hp1 W
 have c26:=hp2
 have c28:=fun W=>av (.tmp 26) (.const (ab lq)) x lq false (decide_eq_false h0) W
 have c31:=fun W=>av (.tmp 26) (.const (ab fx)) x fx false (decide_eq_false h1) W
 have c34:=fun W=>av (.tmp 26) (.const (ab gw)) x gw false (decide_eq_false h2) W
 have c37:=fun W=>av (.tmp 26) (.const (ab dv)) x dv false (decide_eq_false h3) W
 have c40:=fun W=>av (.tmp 26) (.const (ab eM)) x eM false (decide_eq_false h4) W
 have c43:=fun W=>av (.tmp 26) (.const (ab gi)) x gi true (decide_eq_true hk) W
 have c49:Value.int .i64 (IntKind.i64.wrap ((i:Int)+1))=.int .i64 ((i+1:Nat):Int):=iw (by rw[jR (by omega) (by omega)];rfl)
 have c59:Value.bool (bits .and .u8 (m.asks:Int) ((2^5:Nat):Int)==0)=.bool (!m.asks.testBit 5):=bz (nh ha 5 (by omega))
 have hor:Value.int .u8 (bits .or .u8 (m.asks:Int) ((2^5:Nat):Int))=.int .u8 ((m.asks|||2^5:Nat):Int):=by rw[pJ ha 5 (by omega)]
 obtain⟨m1,hm1⟩:∃m1:Mt,m1={ m with asks:=m.asks|||2^5 }:=⟨_,rfl⟩
 have n2:=fun W b2 b3 (hC:BB W g gm b2 b3 A n c (i+1) ws m1)=>DA hC
 rw[←hm1]at hT
 have eT:m.asks.testBit 5=false→T=(br 5 m1 ws (i+1)).bind fun m' j=>.ok (true,m') j:=fun hb=>by rw[hT,hb]
 have eN:m.asks.testBit 5=true→T=.no 200 (i+1):=fun hb=>by rw[hT,hb]
 generalize br 5 m1 ws (i+1)=r at n2 eT
 clear hT
 have c60:=aS (T:=T) 0 (dG g gm A n c (i+1) m.cells) [.bool (!m.asks.testBit 5),.int .i64 200] h (j:=i+1) hi (r:=ak (!m.asks.testBit 5) 200 () (i+1)) (fun code p hh=>by
  cases hb:m.asks.testBit 5 with
  |false=>rw[hb]at hh;cases hh
  |true=>rw[hb]at hh;injection hh with h1 h2;rw[eN hb,h1,h2]) rfl (fun W hL=>dV _ 200 () hL)
 have c66f:=fun(_:(ak (!m.asks.testBit 5) 200 () (i+1)).okB=true∧(ak (!m.asks.testBit 5) 200 () (i+1)).pos≤n)=>hor
 have hbit:(ak (!m.asks.testBit 5) 200 () (i+1)).okB=true→m.asks.testBit 5=false:=fun hh=>by
  cases hb:m.asks.testBit 5 with
  |false=>rfl
  |true=>rw[hb]at hh;cases hh
 have hpos:(ak (!m.asks.testBit 5) 200 () (i+1)).pos=i+1:=by cases m.asks.testBit 5<;>rfl
 generalize ak (!m.asks.testBit 5) 200 () (i+1)=r1 at c60 c66f hbit hpos
 generalize (!m.asks.testBit 5)=nb at c59 c60
 have c70f:=fun(hp:r1.okB=true∧r1.pos≤n)=>(show ∀W (β:Sx.Env) (_:Sx.dz ⟨w,[g,gm],jr T w⟩ β W (Sx.rowAt (dG g gm A n c r1.pos m1.cells)) [0,1,2,3]),Calls Tryz.prog 211 (([.ptr 2 0,.ptr 3 0]:List Sx.SV).map (Sx.SV.den β)).toArray W (Sx.aQ ⟨w,[g,gm],jr T w⟩ β W (Sx.rowAt (dG g gm A n c r1.pos m1.cells)) 4 (CV g gm A n c r))from by
  rw[hpos];exact vd h hi (aM (eT (hbit hp.1))) n2)
 have z2f:=fun(hp:r1.okB=true∧r1.pos≤n) (hp2:r.okB=true∧r.pos≤n)=>(show Le g gm A n c T [.val (.bool true)] (dG g gm A n c r.pos r.val.cells)from⟨true,r.val,r.pos,_,bu (eT (hbit hp.1)) hp2.1,hp2.2,rfl,rfl⟩)
 have z4f:=fun(_:¬(r1.okB=true∧r1.pos≤n))=>trivial
 subst hm1
 refine jH h hbm hne [(16,.is (.bool false)),(25,.any p),(26,.any (ab x)),(28,.bin (.bool false)),(31,.bin (.bool false)),(34,.bin (.bool false)),(37,.bin (.bool false)),(40,.bin (.bool false)),(43,.bin (.bool true)),(49,.is (.int .i64 ((i+1:Nat):Int))),(59,.is (.bool nb)),(60,.ai (cB 0 g A n c r1 fun _=>.tuple #[])),(66,.is (.int .u8 ((m.asks|||2^5:Nat):Int))),(70,.ai (CV g gm A n c r))] [] (by kernel_rfl) Tryz.func153 rfl (Nat.le_of_ble_eq_true rfl) ?_
 exact Eq.mp (by kernel_rfl) (Sx.t8 k9 c25 c26 c28 c31 c34 c37 c40 (Sx.t4 c43 c49 c59 c60 (And.intro (fun(hx0:r1.okB=true∧r1.pos≤n)=>(Sx.t2 (c66f hx0) (c70f hx0) (fun(hx1:r.okB=true∧r.pos≤n)=>(z2f hx0 hx1)))) (fun(hx3:¬(r1.okB=true∧r1.pos≤n))=>(z4f hx3)))))
theorem CN{w:World}{g gm:Nat}{A:Option Go.Addr}{n c i:Nat}{ws:List Bs}{m:Mt}(h:py w [g,gm] g A n c i ws)(hbm:aq w gm 66 m.cells)(hne:g≠gm)(ha:m.asks < 64):Calls Tryz.prog 153 #[.pointer (some ⟨g,0,none⟩),.pointer (some ⟨gm,0,none⟩)] w (gQ g gm A n c (bp ws i m) w):=by
 have hlen:=h.kt.len
 cases hx:ws[i]? with
 |none=>
  have hi:i=n:=by have:=List.getElem?_eq_none_iff.1 hx;have:=h.le;omega
  subst hi
  exact Ef h hbm hne (by unfold bp;rw[hx])
 |some x=>
  have hT:bp ws i m=(match tf x with
   |none=>.ok (false,m) i
   |some k=>match m.asks.testBit k with
    |true=>.no 200 (i+1)
      |false=>(br k { m with asks:=m.asks|||2^k } ws (i+1)).bind fun m' j=>.ok (true,m') j):=by unfold bp;rw[hx];rfl
  by_cases h0:x=lq
  ·have hf:tf x=some 0:=by unfold tf;rw[if_pos h0]
   rw[hf]at hT
   exact Hh h hbm hne hx ha h0 hT
  by_cases h1:x=fx
  ·have hf:tf x=some 1:=by unfold tf;rw[if_neg h0,if_pos h1]
   rw[hf]at hT
   exact Hg h hbm hne hx ha h0 h1 hT
  by_cases h2:x=gw
  ·have hf:tf x=some 2:=by unfold tf;rw[if_neg h0,if_neg h1,if_pos h2]
   rw[hf]at hT
   exact Hf h hbm hne hx ha h0 h1 h2 hT
  by_cases h3:x=dv
  ·have hf:tf x=some 3:=by unfold tf;rw[if_neg h0,if_neg h1,if_neg h2,if_pos h3]
   rw[hf]at hT
   exact He h hbm hne hx ha h0 h1 h2 h3 hT
  by_cases h4:x=eM
  ·have hf:tf x=some 4:=by unfold tf;rw[if_neg h0,if_neg h1,if_neg h2,if_neg h3,if_pos h4]
   rw[hf]at hT
   exact Hc h hbm hne hx ha h0 h1 h2 h3 h4 hT
  by_cases h5:x=gi
  ·have hf:tf x=some 5:=by unfold tf;rw[if_neg h0,if_neg h1,if_neg h2,if_neg h3,if_neg h4,if_pos h5]
   rw[hf]at hT
   exact Hb h hbm hne hx ha h0 h1 h2 h3 h4 h5 hT
  have hf:tf x=none:=by unfold tf;rw[if_neg h0,if_neg h1,if_neg h2,if_neg h3,if_neg h4,if_neg h5]
  rw[hf]at hT
  exact AV h hbm hne hx ⟨h0,h1,h2,h3,h4,h5⟩ hT
end Go.Proofs.YtnncigmpcdehnaaGreatDoor
