import Derived.Test.YtnncigmpcdehnaaGreatDoorQf18
namespace Go.Proofs.YtnncigmpcdehnaaGreatDoor
set_option maxRecDepth 100000
open Go.RowKit Go.Lib Go.Sort _root_.Go.Proofs.Tryz
set_option maxRecDepth 100000
theorem B6:∀(a:Fin 64) (k:Fin 6),(bits .and .u8 (a.val:Int) ((2^k.val:Nat):Int)==0)=!a.val.testBit k.val:=by decide+kernel
theorem CT:∀(a:Fin 64) (k:Fin 6),bits .or .u8 (a.val:Int) ((2^k.val:Nat):Int)=((a.val|||2^k.val:Nat):Int):=by decide+kernel
theorem oC{a:Nat}(ha:a < 64)(k:Nat)(hk:k < 6):(bits .and .u8 (a:Int) ((2^k:Nat):Int)==0)=!a.testBit k:=B6 ⟨a,ha⟩ ⟨k,hk⟩
theorem rm{a:Nat}(ha:a < 64)(k:Nat)(hk:k < 6):bits .or .u8 (a:Int) ((2^k:Nat):Int)=((a|||2^k:Nat):Int):=CT ⟨a,ha⟩ ⟨k,hk⟩
theorem GP{w:World}{g gm:Nat}{A:Option Go.Addr}{n c:Nat}{ws:List Bs}{m:Mt}{T:Out (Bool×Mt)}(h:qQ w [g,gm] g A n c n ws)(hbm:au w gm 66 m.cells)(hne:g≠gm)(hT:T=.ok (false,m) n):Calls prog 153 #[.pointer (some ⟨g,0,none⟩),.pointer (some ⟨gm,0,none⟩)] w (iL g gm A n c T w):=by
 have ir:Value.bool ((n:Int)==(n:Int))=.bool true:=j4 (by simp)
 have z0:OC g gm A n c T [.val (.bool false)] (dW g gm A n c n m.cells):=⟨false,m,n,_,hT,Nat.le_refl _,rfl,rfl⟩
 refine ky h hbm hne [(16,.is (.bool true))] [] (by kernel_rfl) func153 rfl (cn rfl) ?_
 exact Eq.mp (by kernel_rfl) (And.intro ir z0)
theorem Dt{w:World}{g gm:Nat}{A:Option Go.Addr}{n c i:Nat}{ws:List Bs}{m:Mt}{T:Out (Bool×Mt)}{x:Bs}(h:qQ w [g,gm] g A n c i ws)(hbm:au w gm 66 m.cells)(hne:g≠gm)(hx:ws[i]?=some x)(hf:x≠mb∧x≠fZ∧x≠gX∧x≠dB∧x≠eQ∧x≠gF)(hT:T=.ok (false,m) i):Calls prog 153 #[(pt g 0),(pt gm 0)] w (iL g gm A n c T w):=by
 have hi:i < n:=by rw[←h.pJ.len];exact(List.getElem?_eq_some_iff.1 hx).1
 obtain⟨p,hp1,hp2⟩:=h.pJ.at (c:=c) hx
 have hbd:=h.bd
 have ir:Value.bool ((i:Int)==(n:Int))=.bool false:=ib (by rw[beq_eq_false_iff_ne];omega)
 have c25:=fun W (_:ai [g,gm] w W)=>hp1 W
 have c26:=hp2
 have c28:=fun W=>bJ (.tmp 26) (.const (ab mb)) x mb false (decide_eq_false hf.1) W
 have c31:=fun W=>bJ (.tmp 26) (.const (ab fZ)) x fZ false (decide_eq_false hf.2.1) W
 have c34:=fun W=>bJ (.tmp 26) (.const (ab gX)) x gX false (decide_eq_false hf.2.2.1) W
 have c37:=fun W=>bJ (.tmp 26) (.const (ab dB)) x dB false (decide_eq_false hf.2.2.2.1) W
 have c40:=fun W=>bJ (.tmp 26) (.const (ab eQ)) x eQ false (decide_eq_false hf.2.2.2.2.1) W
 have c43:=fun W=>bJ (.tmp 26) (.const (ab gF)) x gF false (decide_eq_false hf.2.2.2.2.2) W
 have z0:OC g gm A n c T [.val (.bool false)] (dW g gm A n c i m.cells):=⟨false,m,i,_,hT,h.le,rfl,rfl⟩
 refine ky h hbm hne [(16,.is (.bool false)),(25,.any p),(26,.any (ab x)),(28,.bin (.bool false)),(31,.bin (.bool false)),(34,.bin (.bool false)),(37,.bin (.bool false)),(40,.bin (.bool false)),(43,.bin (.bool false))] [] (by kernel_rfl) func153 rfl (cn rfl) ?_
 exact Eq.mp (by kernel_rfl) (Sx.t8 ir c25 c26 c28 c31 c34 c37 c40 (And.intro c43 z0))
theorem Km{w:World}{g gm:Nat}{A:Option Go.Addr}{n c i:Nat}{ws:List Bs}{m:Mt}{T:Out (Bool×Mt)}{x:Bs}(h:qQ w [g,gm] g A n c i ws)(hbm:au w gm 66 m.cells)(hne:g≠gm)(hx:ws[i]?=some x)(ha:m.asks < 64)(hk:x=mb)(hT:T=match m.asks.testBit 0 with|true=>.no 200 (i+1)|false=>(bu 0 { m with asks:=m.asks|||2^0 } ws (i+1)).bind fun m' j=>.ok (true,m') j):Calls prog 153 #[(pt g 0),(pt gm 0)] w (iL g gm A n c T w):=by
 have hi:i < n:=by rw[←h.pJ.len];exact(List.getElem?_eq_some_iff.1 hx).1
 obtain⟨p,hp1,hp2⟩:=h.pJ.at (c:=c) hx
 have hbd:=h.bd
 have ir:Value.bool ((i:Int)==(n:Int))=.bool false:=ib (by rw[beq_eq_false_iff_ne];omega)
 have c25:=fun W (_:ai [g,gm] w W)=>hp1 W
 have c26:=hp2
 have c28:=fun W=>bJ (.tmp 26) (.const (ab mb)) x mb true (decide_eq_true hk) W
 have c49:=my (i:=i) (by omega)
 have c59:Value.bool (bits .and .u8 (m.asks:Int) ((2^0:Nat):Int)==0)=.bool (!m.asks.testBit 0):=bz (oC ha 0 (by omega))
 have hor:Value.int .u8 (bits .or .u8 (m.asks:Int) ((2^0:Nat):Int))=.int .u8 ((m.asks|||2^0:Nat):Int):=by rw[rm ha 0 (by omega)]
 obtain⟨m1,hm1⟩:∃m1:Mt,m1={ m with asks:=m.asks|||2^0 }:=⟨_,rfl⟩
 have n2:=fun W b2 b3 (hC:D3 W g gm b2 b3 A n c (i+1) ws m1)=>Ga hC
 rw[←hm1]at hT
 have eT:m.asks.testBit 0=false→T=(bu 0 m1 ws (i+1)).bind fun m' j=>.ok (true,m') j:=fun hb=>by rw[hT,hb]
 have eN:m.asks.testBit 0=true→T=.no 200 (i+1):=fun hb=>by rw[hT,hb]
 generalize bu 0 m1 ws (i+1)=r at n2 eT
 clear hT
 have c60:=gj (T:=T) 0 (dW g gm A n c (i+1) m.cells) [.bool (!m.asks.testBit 0),.int .i64 200] h (j:=i+1) hi (r:=ay (!m.asks.testBit 0) 200 () (i+1)) (fun code p hh=>by
  cases hb:m.asks.testBit 0 with
  |false=>rw[hb]at hh;cases hh
  |true=>rw[hb]at hh;injection hh with h1 h2;rw[eN hb,h1,h2]) rfl (fun W hL=>iy _ 200 () hL)
 have c66f:=fun(_:(ay (!m.asks.testBit 0) 200 () (i+1)).okB=true∧(ay (!m.asks.testBit 0) 200 () (i+1)).pos≤n)=>hor
 have hbit:(ay (!m.asks.testBit 0) 200 () (i+1)).okB=true→m.asks.testBit 0=false:=fun hh=>by
  cases hb:m.asks.testBit 0 with
  |false=>rfl
  |true=>rw[hb]at hh;cases hh
 have hpos:(ay (!m.asks.testBit 0) 200 () (i+1)).pos=i+1:=by cases m.asks.testBit 0<;>rfl
 generalize ay (!m.asks.testBit 0) 200 () (i+1)=r1 at c60 c66f hbit hpos
 generalize (!m.asks.testBit 0)=nb at c59 c60
 have c70f:=fun(hp:r1.okB=true∧r1.pos≤n)=>(show ∀W (β:Sx.Env) (_:Sx.eF ⟨w,[g,gm],j2 T w⟩ β W (Sx.rowAt (dW g gm A n c r1.pos m1.cells)) [0,1,2,3]),Calls prog 204 (([.ptr 2 0,.ptr 3 0]:List Sx.SV).map (Sx.SV.den β)).toArray W (Sx.aY ⟨w,[g,gm],j2 T w⟩ β W (Sx.rowAt (dW g gm A n c r1.pos m1.cells)) 4 (Fo g gm A n c r))from by
  rw[hpos];exact xM h hi (cj (eT (hbit hp.1))) n2)
 have z2f:=fun(hp:r1.okB=true∧r1.pos≤n) (hp2:r.okB=true∧r.pos≤n)=>(show OC g gm A n c T [.val (.bool true)] (dW g gm A n c r.pos r.val.cells)from⟨true,r.val,r.pos,_,bZ (eT (hbit hp.1)) hp2.1,hp2.2,rfl,rfl⟩)
 have z4f:=fun(_:¬(r1.okB=true∧r1.pos≤n))=>trivial
 subst hm1
 refine ky h hbm hne [(16,.is (.bool false)),(25,.any p),(26,.any (ab x)),(28,.bin (.bool true)),(49,.is (.int .i64 ((i+1:Nat):Int))),(59,.is (.bool nb)),(60,.aq (eV 0 g A n c r1 fun _=>.tuple #[])),(66,.is (.int .u8 ((m.asks|||2^0:Nat):Int))),(70,.aq (Fo g gm A n c r))] [] (by kernel_rfl) func153 rfl (cn rfl) ?_
 exact Eq.mp (by kernel_rfl) (Sx.t8 ir c25 c26 c28 c49 c59 c60 (fun(hx0:r1.okB=true∧r1.pos≤n)=>(Sx.t2 (c66f hx0) (c70f hx0) (fun(hx1:r.okB=true∧r.pos≤n)=>(z2f hx0 hx1)))) (fun(hx3:¬(r1.okB=true∧r1.pos≤n))=>(z4f hx3)))
theorem Kl{w:World}{g gm:Nat}{A:Option Go.Addr}{n c i:Nat}{ws:List Bs}{m:Mt}{T:Out (Bool×Mt)}{x:Bs}(h:qQ w [g,gm] g A n c i ws)(hbm:au w gm 66 m.cells)(hne:g≠gm)(hx:ws[i]?=some x)(ha:m.asks < 64)(h0:x≠mb)(hk:x=fZ)(hT:T=match m.asks.testBit 1 with|true=>.no 200 (i+1)|false=>(bu 1 { m with asks:=m.asks|||2^1 } ws (i+1)).bind fun m' j=>.ok (true,m') j):Calls prog 153 #[(pt g 0),(pt gm 0)] w (iL g gm A n c T w):=by
 have hi:i < n:=by rw[←h.pJ.len];exact(List.getElem?_eq_some_iff.1 hx).1
 obtain⟨p,hp1,hp2⟩:=h.pJ.at (c:=c) hx
 have hbd:=h.bd
 have ir:Value.bool ((i:Int)==(n:Int))=.bool false:=ib (by rw[beq_eq_false_iff_ne];omega)
 have c25:=fun W (_:ai [g,gm] w W)=>hp1 W
 have c26:=hp2
 have c28:=fun W=>bJ (.tmp 26) (.const (ab mb)) x mb false (decide_eq_false h0) W
 have c31:=fun W=>bJ (.tmp 26) (.const (ab fZ)) x fZ true (decide_eq_true hk) W
 have c49:=my (i:=i) (by omega)
 have c59:Value.bool (bits .and .u8 (m.asks:Int) ((2^1:Nat):Int)==0)=.bool (!m.asks.testBit 1):=bz (oC ha 1 (by omega))
 have hor:Value.int .u8 (bits .or .u8 (m.asks:Int) ((2^1:Nat):Int))=.int .u8 ((m.asks|||2^1:Nat):Int):=by rw[rm ha 1 (by omega)]
 obtain⟨m1,hm1⟩:∃m1:Mt,m1={ m with asks:=m.asks|||2^1 }:=⟨_,rfl⟩
 have n2:=fun W b2 b3 (hC:D3 W g gm b2 b3 A n c (i+1) ws m1)=>F9 hC
 rw[←hm1]at hT
 have eT:m.asks.testBit 1=false→T=(bu 1 m1 ws (i+1)).bind fun m' j=>.ok (true,m') j:=fun hb=>by rw[hT,hb]
 have eN:m.asks.testBit 1=true→T=.no 200 (i+1):=fun hb=>by rw[hT,hb]
 generalize bu 1 m1 ws (i+1)=r at n2 eT
 clear hT
 have c60:=gj (T:=T) 0 (dW g gm A n c (i+1) m.cells) [.bool (!m.asks.testBit 1),.int .i64 200] h (j:=i+1) hi (r:=ay (!m.asks.testBit 1) 200 () (i+1)) (fun code p hh=>by
  cases hb:m.asks.testBit 1 with
  |false=>rw[hb]at hh;cases hh
  |true=>rw[hb]at hh;injection hh with h1 h2;rw[eN hb,h1,h2]) rfl (fun W hL=>iy _ 200 () hL)
 have c66f:=fun(_:(ay (!m.asks.testBit 1) 200 () (i+1)).okB=true∧(ay (!m.asks.testBit 1) 200 () (i+1)).pos≤n)=>hor
 have hbit:(ay (!m.asks.testBit 1) 200 () (i+1)).okB=true→m.asks.testBit 1=false:=fun hh=>by
  cases hb:m.asks.testBit 1 with
  |false=>rfl
  |true=>rw[hb]at hh;cases hh
 have hpos:(ay (!m.asks.testBit 1) 200 () (i+1)).pos=i+1:=by cases m.asks.testBit 1<;>rfl
 generalize ay (!m.asks.testBit 1) 200 () (i+1)=r1 at c60 c66f hbit hpos
 generalize (!m.asks.testBit 1)=nb at c59 c60
 have c70f:=fun(hp:r1.okB=true∧r1.pos≤n)=>(show ∀W (β:Sx.Env) (_:Sx.eF ⟨w,[g,gm],j2 T w⟩ β W (Sx.rowAt (dW g gm A n c r1.pos m1.cells)) [0,1,2,3]),Calls prog 206 (([.ptr 2 0,.ptr 3 0]:List Sx.SV).map (Sx.SV.den β)).toArray W (Sx.aY ⟨w,[g,gm],j2 T w⟩ β W (Sx.rowAt (dW g gm A n c r1.pos m1.cells)) 4 (Fo g gm A n c r))from by
  rw[hpos];exact xM h hi (cj (eT (hbit hp.1))) n2)
 have z2f:=fun(hp:r1.okB=true∧r1.pos≤n) (hp2:r.okB=true∧r.pos≤n)=>(show OC g gm A n c T [.val (.bool true)] (dW g gm A n c r.pos r.val.cells)from⟨true,r.val,r.pos,_,bZ (eT (hbit hp.1)) hp2.1,hp2.2,rfl,rfl⟩)
 have z4f:=fun(_:¬(r1.okB=true∧r1.pos≤n))=>trivial
 subst hm1
 refine ky h hbm hne [(16,.is (.bool false)),(25,.any p),(26,.any (ab x)),(28,.bin (.bool false)),(31,.bin (.bool true)),(49,.is (.int .i64 ((i+1:Nat):Int))),(59,.is (.bool nb)),(60,.aq (eV 0 g A n c r1 fun _=>.tuple #[])),(66,.is (.int .u8 ((m.asks|||2^1:Nat):Int))),(70,.aq (Fo g gm A n c r))] [] (by kernel_rfl) func153 rfl (cn rfl) ?_
 exact Eq.mp (by kernel_rfl) (Sx.t8 ir c25 c26 c28 c31 c49 c59 c60 (And.intro (fun(hx0:r1.okB=true∧r1.pos≤n)=>(Sx.t2 (c66f hx0) (c70f hx0) (fun(hx1:r.okB=true∧r.pos≤n)=>(z2f hx0 hx1)))) (fun(hx3:¬(r1.okB=true∧r1.pos≤n))=>(z4f hx3))))
theorem Kk{w:World}{g gm:Nat}{A:Option Go.Addr}{n c i:Nat}{ws:List Bs}{m:Mt}{T:Out (Bool×Mt)}{x:Bs}(h:qQ w [g,gm] g A n c i ws)(hbm:au w gm 66 m.cells)(hne:g≠gm)(hx:ws[i]?=some x)(ha:m.asks < 64)(h0:x≠mb)(h1:x≠fZ)(hk:x=gX)(hT:T=match m.asks.testBit 2 with|true=>.no 200 (i+1)|false=>(bu 2 { m with asks:=m.asks|||2^2 } ws (i+1)).bind fun m' j=>.ok (true,m') j):Calls prog 153 #[(pt g 0),(pt gm 0)] w (iL g gm A n c T w):=by
 have hi:i < n:=by rw[←h.pJ.len];exact(List.getElem?_eq_some_iff.1 hx).1
 obtain⟨p,hp1,hp2⟩:=h.pJ.at (c:=c) hx
 have hbd:=h.bd
 have ir:Value.bool ((i:Int)==(n:Int))=.bool false:=ib (by rw[beq_eq_false_iff_ne];omega)
 have c25:=fun W (_:ai [g,gm] w W)=>hp1 W
 have c26:=hp2
 have c28:=fun W=>bJ (.tmp 26) (.const (ab mb)) x mb false (decide_eq_false h0) W
 have c31:=fun W=>bJ (.tmp 26) (.const (ab fZ)) x fZ false (decide_eq_false h1) W
 have c34:=fun W=>bJ (.tmp 26) (.const (ab gX)) x gX true (decide_eq_true hk) W
 have c49:=my (i:=i) (by omega)
 have c59:Value.bool (bits .and .u8 (m.asks:Int) ((2^2:Nat):Int)==0)=.bool (!m.asks.testBit 2):=bz (oC ha 2 (by omega))
 have hor:Value.int .u8 (bits .or .u8 (m.asks:Int) ((2^2:Nat):Int))=.int .u8 ((m.asks|||2^2:Nat):Int):=by rw[rm ha 2 (by omega)]
 obtain⟨m1,hm1⟩:∃m1:Mt,m1={ m with asks:=m.asks|||2^2 }:=⟨_,rfl⟩
 have n2:=fun W b2 b3 (hC:D3 W g gm b2 b3 A n c (i+1) ws m1)=>F8 hC
 rw[←hm1]at hT
 have eT:m.asks.testBit 2=false→T=(bu 2 m1 ws (i+1)).bind fun m' j=>.ok (true,m') j:=fun hb=>by rw[hT,hb]
 have eN:m.asks.testBit 2=true→T=.no 200 (i+1):=fun hb=>by rw[hT,hb]
 generalize bu 2 m1 ws (i+1)=r at n2 eT
 clear hT
 have c60:=gj (T:=T) 0 (dW g gm A n c (i+1) m.cells) [.bool (!m.asks.testBit 2),.int .i64 200] h (j:=i+1) hi (r:=ay (!m.asks.testBit 2) 200 () (i+1)) (fun code p hh=>by
  cases hb:m.asks.testBit 2 with
  |false=>rw[hb]at hh;cases hh
  |true=>rw[hb]at hh;injection hh with h1 h2;rw[eN hb,h1,h2]) rfl (fun W hL=>iy _ 200 () hL)
 have c66f:=fun(_:(ay (!m.asks.testBit 2) 200 () (i+1)).okB=true∧(ay (!m.asks.testBit 2) 200 () (i+1)).pos≤n)=>hor
 have hbit:(ay (!m.asks.testBit 2) 200 () (i+1)).okB=true→m.asks.testBit 2=false:=fun hh=>by
  cases hb:m.asks.testBit 2 with
  |false=>rfl
  |true=>rw[hb]at hh;cases hh
 have hpos:(ay (!m.asks.testBit 2) 200 () (i+1)).pos=i+1:=by cases m.asks.testBit 2<;>rfl
 generalize ay (!m.asks.testBit 2) 200 () (i+1)=r1 at c60 c66f hbit hpos
 generalize (!m.asks.testBit 2)=nb at c59 c60
 have c70f:=fun(hp:r1.okB=true∧r1.pos≤n)=>(show ∀W (β:Sx.Env) (_:Sx.eF ⟨w,[g,gm],j2 T w⟩ β W (Sx.rowAt (dW g gm A n c r1.pos m1.cells)) [0,1,2,3]),Calls prog 207 (([.ptr 2 0,.ptr 3 0]:List Sx.SV).map (Sx.SV.den β)).toArray W (Sx.aY ⟨w,[g,gm],j2 T w⟩ β W (Sx.rowAt (dW g gm A n c r1.pos m1.cells)) 4 (Fo g gm A n c r))from by
  rw[hpos];exact xM h hi (cj (eT (hbit hp.1))) n2)
 have z2f:=fun(hp:r1.okB=true∧r1.pos≤n) (hp2:r.okB=true∧r.pos≤n)=>(show OC g gm A n c T [.val (.bool true)] (dW g gm A n c r.pos r.val.cells)from⟨true,r.val,r.pos,_,bZ (eT (hbit hp.1)) hp2.1,hp2.2,rfl,rfl⟩)
 have z4f:=fun(_:¬(r1.okB=true∧r1.pos≤n))=>trivial
 subst hm1
 refine ky h hbm hne [(16,.is (.bool false)),(25,.any p),(26,.any (ab x)),(28,.bin (.bool false)),(31,.bin (.bool false)),(34,.bin (.bool true)),(49,.is (.int .i64 ((i+1:Nat):Int))),(59,.is (.bool nb)),(60,.aq (eV 0 g A n c r1 fun _=>.tuple #[])),(66,.is (.int .u8 ((m.asks|||2^2:Nat):Int))),(70,.aq (Fo g gm A n c r))] [] (by kernel_rfl) func153 rfl (cn rfl) ?_
 exact Eq.mp (by kernel_rfl) (Sx.t8 ir c25 c26 c28 c31 c34 c49 c59 (Sx.t2 c60 (fun(hx0:r1.okB=true∧r1.pos≤n)=>(Sx.t2 (c66f hx0) (c70f hx0) (fun(hx1:r.okB=true∧r.pos≤n)=>(z2f hx0 hx1)))) (fun(hx3:¬(r1.okB=true∧r1.pos≤n))=>(z4f hx3))))
theorem Kj{w:World}{g gm:Nat}{A:Option Go.Addr}{n c i:Nat}{ws:List Bs}{m:Mt}{T:Out (Bool×Mt)}{x:Bs}(h:qQ w [g,gm] g A n c i ws)(hbm:au w gm 66 m.cells)(hne:g≠gm)(hx:ws[i]?=some x)(ha:m.asks < 64)(h0:x≠mb)(h1:x≠fZ)(h2:x≠gX)(hk:x=dB)(hT:T=match m.asks.testBit 3 with|true=>.no 200 (i+1)|false=>(bu 3 { m with asks:=m.asks|||2^3 } ws (i+1)).bind fun m' j=>.ok (true,m') j):Calls prog 153 #[(pt g 0),(pt gm 0)] w (iL g gm A n c T w):=by
 have hi:i < n:=by rw[←h.pJ.len];exact(List.getElem?_eq_some_iff.1 hx).1
 obtain⟨p,hp1,hp2⟩:=h.pJ.at (c:=c) hx
 have hbd:=h.bd
 have ir:Value.bool ((i:Int)==(n:Int))=.bool false:=ib (by rw[beq_eq_false_iff_ne];omega)
 have c25:=fun W (_:ai [g,gm] w W)=>hp1 W
 have c26:=hp2
 have c28:=fun W=>bJ (.tmp 26) (.const (ab mb)) x mb false (decide_eq_false h0) W
 have c31:=fun W=>bJ (.tmp 26) (.const (ab fZ)) x fZ false (decide_eq_false h1) W
 have c34:=fun W=>bJ (.tmp 26) (.const (ab gX)) x gX false (decide_eq_false h2) W
 have c37:=fun W=>bJ (.tmp 26) (.const (ab dB)) x dB true (decide_eq_true hk) W
 have c49:=my (i:=i) (by omega)
 have c59:Value.bool (bits .and .u8 (m.asks:Int) ((2^3:Nat):Int)==0)=.bool (!m.asks.testBit 3):=bz (oC ha 3 (by omega))
 have hor:Value.int .u8 (bits .or .u8 (m.asks:Int) ((2^3:Nat):Int))=.int .u8 ((m.asks|||2^3:Nat):Int):=by rw[rm ha 3 (by omega)]
 obtain⟨m1,hm1⟩:∃m1:Mt,m1={ m with asks:=m.asks|||2^3 }:=⟨_,rfl⟩
 have n2:=fun W b2 b3 (hC:D3 W g gm b2 b3 A n c (i+1) ws m1)=>F7 hC
 rw[←hm1]at hT
 have eT:m.asks.testBit 3=false→T=(bu 3 m1 ws (i+1)).bind fun m' j=>.ok (true,m') j:=fun hb=>by rw[hT,hb]
 have eN:m.asks.testBit 3=true→T=.no 200 (i+1):=fun hb=>by rw[hT,hb]
 generalize bu 3 m1 ws (i+1)=r at n2 eT
 clear hT
 have c60:=gj (T:=T) 0 (dW g gm A n c (i+1) m.cells) [.bool (!m.asks.testBit 3),.int .i64 200] h (j:=i+1) hi (r:=ay (!m.asks.testBit 3) 200 () (i+1)) (fun code p hh=>by
  cases hb:m.asks.testBit 3 with
  |false=>rw[hb]at hh;cases hh
  |true=>rw[hb]at hh;injection hh with h1 h2;rw[eN hb,h1,h2]) rfl (fun W hL=>iy _ 200 () hL)
 have c66f:=fun(_:(ay (!m.asks.testBit 3) 200 () (i+1)).okB=true∧(ay (!m.asks.testBit 3) 200 () (i+1)).pos≤n)=>hor
 have hbit:(ay (!m.asks.testBit 3) 200 () (i+1)).okB=true→m.asks.testBit 3=false:=fun hh=>by
  cases hb:m.asks.testBit 3 with
  |false=>rfl
  |true=>rw[hb]at hh;cases hh
 have hpos:(ay (!m.asks.testBit 3) 200 () (i+1)).pos=i+1:=by cases m.asks.testBit 3<;>rfl
 generalize ay (!m.asks.testBit 3) 200 () (i+1)=r1 at c60 c66f hbit hpos
 generalize (!m.asks.testBit 3)=nb at c59 c60
 have c70f:=fun(hp:r1.okB=true∧r1.pos≤n)=>(show ∀W (β:Sx.Env) (_:Sx.eF ⟨w,[g,gm],j2 T w⟩ β W (Sx.rowAt (dW g gm A n c r1.pos m1.cells)) [0,1,2,3]),Calls prog 208 (([.ptr 2 0,.ptr 3 0]:List Sx.SV).map (Sx.SV.den β)).toArray W (Sx.aY ⟨w,[g,gm],j2 T w⟩ β W (Sx.rowAt (dW g gm A n c r1.pos m1.cells)) 4 (Fo g gm A n c r))from by
  rw[hpos];exact xM h hi (cj (eT (hbit hp.1))) n2)
 have z2f:=fun(hp:r1.okB=true∧r1.pos≤n) (hp2:r.okB=true∧r.pos≤n)=>(show OC g gm A n c T [.val (.bool true)] (dW g gm A n c r.pos r.val.cells)from⟨true,r.val,r.pos,_,bZ (eT (hbit hp.1)) hp2.1,hp2.2,rfl,rfl⟩)
 have z4f:=fun(_:¬(r1.okB=true∧r1.pos≤n))=>trivial
 subst hm1
 refine ky h hbm hne [(16,.is (.bool false)),(25,.any p),(26,.any (ab x)),(28,.bin (.bool false)),(31,.bin (.bool false)),(34,.bin (.bool false)),(37,.bin (.bool true)),(49,.is (.int .i64 ((i+1:Nat):Int))),(59,.is (.bool nb)),(60,.aq (eV 0 g A n c r1 fun _=>.tuple #[])),(66,.is (.int .u8 ((m.asks|||2^3:Nat):Int))),(70,.aq (Fo g gm A n c r))] [] (by kernel_rfl) func153 rfl (cn rfl) ?_
 exact Eq.mp (by kernel_rfl) (Sx.t8 ir c25 c26 c28 c31 c34 c37 c49 (Sx.t2 c59 c60 (And.intro (fun(hx0:r1.okB=true∧r1.pos≤n)=>(Sx.t2 (c66f hx0) (c70f hx0) (fun(hx1:r.okB=true∧r.pos≤n)=>(z2f hx0 hx1)))) (fun(hx3:¬(r1.okB=true∧r1.pos≤n))=>(z4f hx3)))))
theorem Ki{w:World}{g gm:Nat}{A:Option Go.Addr}{n c i:Nat}{ws:List Bs}{m:Mt}{T:Out (Bool×Mt)}{x:Bs}(h:qQ w [g,gm] g A n c i ws)(hbm:au w gm 66 m.cells)(hne:g≠gm)(hx:ws[i]?=some x)(ha:m.asks < 64)(h0:x≠mb)(h1:x≠fZ)(h2:x≠gX)(h3:x≠dB)(hk:x=eQ)(hT:T=match m.asks.testBit 4 with|true=>.no 200 (i+1)|false=>(bu 4 { m with asks:=m.asks|||2^4 } ws (i+1)).bind fun m' j=>.ok (true,m') j):Calls prog 153 #[(pt g 0),(pt gm 0)] w (iL g gm A n c T w):=by
 have hi:i < n:=by rw[←h.pJ.len];exact(List.getElem?_eq_some_iff.1 hx).1
 obtain⟨p,hp1,hp2⟩:=h.pJ.at (c:=c) hx
 have hbd:=h.bd
 have ir:Value.bool ((i:Int)==(n:Int))=.bool false:=ib (by rw[beq_eq_false_iff_ne];omega)
 have c25:=fun W (_:ai [g,gm] w W)=>hp1 W
 have c26:=hp2
 have c28:=fun W=>bJ (.tmp 26) (.const (ab mb)) x mb false (decide_eq_false h0) W
 have c31:=fun W=>bJ (.tmp 26) (.const (ab fZ)) x fZ false (decide_eq_false h1) W
 have c34:=fun W=>bJ (.tmp 26) (.const (ab gX)) x gX false (decide_eq_false h2) W
 have c37:=fun W=>bJ (.tmp 26) (.const (ab dB)) x dB false (decide_eq_false h3) W
 have c40:=fun W=>bJ (.tmp 26) (.const (ab eQ)) x eQ true (decide_eq_true hk) W
 have c49:=my (i:=i) (by omega)
 have c59:Value.bool (bits .and .u8 (m.asks:Int) ((2^4:Nat):Int)==0)=.bool (!m.asks.testBit 4):=bz (oC ha 4 (by omega))
 have hor:Value.int .u8 (bits .or .u8 (m.asks:Int) ((2^4:Nat):Int))=.int .u8 ((m.asks|||2^4:Nat):Int):=by rw[rm ha 4 (by omega)]
 obtain⟨m1,hm1⟩:∃m1:Mt,m1={ m with asks:=m.asks|||2^4 }:=⟨_,rfl⟩
 have n2:=fun W b2 b3 (hC:D3 W g gm b2 b3 A n c (i+1) ws m1)=>F6 hC
 rw[←hm1]at hT
 have eT:m.asks.testBit 4=false→T=(bu 4 m1 ws (i+1)).bind fun m' j=>.ok (true,m') j:=fun hb=>by rw[hT,hb]
 have eN:m.asks.testBit 4=true→T=.no 200 (i+1):=fun hb=>by rw[hT,hb]
 generalize bu 4 m1 ws (i+1)=r at n2 eT
 clear hT
 have c60:=gj (T:=T) 0 (dW g gm A n c (i+1) m.cells) [.bool (!m.asks.testBit 4),.int .i64 200] h (j:=i+1) hi (r:=ay (!m.asks.testBit 4) 200 () (i+1)) (fun code p hh=>by
  cases hb:m.asks.testBit 4 with
  |false=>rw[hb]at hh;cases hh
  |true=>rw[hb]at hh;injection hh with h1 h2;rw[eN hb,h1,h2]) rfl (fun W hL=>iy _ 200 () hL)
 have c66f:=fun(_:(ay (!m.asks.testBit 4) 200 () (i+1)).okB=true∧(ay (!m.asks.testBit 4) 200 () (i+1)).pos≤n)=>hor
 have hbit:(ay (!m.asks.testBit 4) 200 () (i+1)).okB=true→m.asks.testBit 4=false:=fun hh=>by
  cases hb:m.asks.testBit 4 with
  |false=>rfl
  |true=>rw[hb]at hh;cases hh
 have hpos:(ay (!m.asks.testBit 4) 200 () (i+1)).pos=i+1:=by cases m.asks.testBit 4<;>rfl
 generalize ay (!m.asks.testBit 4) 200 () (i+1)=r1 at c60 c66f hbit hpos
 generalize (!m.asks.testBit 4)=nb at c59 c60
 have c70f:=fun(hp:r1.okB=true∧r1.pos≤n)=>(show ∀W (β:Sx.Env) (_:Sx.eF ⟨w,[g,gm],j2 T w⟩ β W (Sx.rowAt (dW g gm A n c r1.pos m1.cells)) [0,1,2,3]),Calls prog 210 (([.ptr 2 0,.ptr 3 0]:List Sx.SV).map (Sx.SV.den β)).toArray W (Sx.aY ⟨w,[g,gm],j2 T w⟩ β W (Sx.rowAt (dW g gm A n c r1.pos m1.cells)) 4 (Fo g gm A n c r))from by
  rw[hpos];exact xM h hi (cj (eT (hbit hp.1))) n2)
 have z2f:=fun(hp:r1.okB=true∧r1.pos≤n) (hp2:r.okB=true∧r.pos≤n)=>(show OC g gm A n c T [.val (.bool true)] (dW g gm A n c r.pos r.val.cells)from⟨true,r.val,r.pos,_,bZ (eT (hbit hp.1)) hp2.1,hp2.2,rfl,rfl⟩)
 have z4f:=fun(_:¬(r1.okB=true∧r1.pos≤n))=>trivial
 subst hm1
 refine ky h hbm hne [(16,.is (.bool false)),(25,.any p),(26,.any (ab x)),(28,.bin (.bool false)),(31,.bin (.bool false)),(34,.bin (.bool false)),(37,.bin (.bool false)),(40,.bin (.bool true)),(49,.is (.int .i64 ((i+1:Nat):Int))),(59,.is (.bool nb)),(60,.aq (eV 0 g A n c r1 fun _=>.tuple #[])),(66,.is (.int .u8 ((m.asks|||2^4:Nat):Int))),(70,.aq (Fo g gm A n c r))] [] (by kernel_rfl) func153 rfl (cn rfl) ?_
 exact Eq.mp (by kernel_rfl) (Sx.t8 ir c25 c26 c28 c31 c34 c37 c40 (Sx.t4 c49 c59 c60 (fun(hx0:r1.okB=true∧r1.pos≤n)=>(Sx.t2 (c66f hx0) (c70f hx0) (fun(hx1:r.okB=true∧r.pos≤n)=>(z2f hx0 hx1)))) (fun(hx3:¬(r1.okB=true∧r1.pos≤n))=>(z4f hx3))))
theorem Kh{w:World}{g gm:Nat}{A:Option Go.Addr}{n c i:Nat}{ws:List Bs}{m:Mt}{T:Out (Bool×Mt)}{x:Bs}(h:qQ w [g,gm] g A n c i ws)(hbm:au w gm 66 m.cells)(hne:g≠gm)(hx:ws[i]?=some x)(ha:m.asks < 64)(h0:x≠mb)(h1:x≠fZ)(h2:x≠gX)(h3:x≠dB)(h4:x≠eQ)(hk:x=gF)(hT:T=match m.asks.testBit 5 with|true=>.no 200 (i+1)|false=>(bu 5 { m with asks:=m.asks|||2^5 } ws (i+1)).bind fun m' j=>.ok (true,m') j):Calls prog 153 #[(pt g 0),(pt gm 0)] w (iL g gm A n c T w):=by
 have hi:i < n:=by rw[←h.pJ.len];exact(List.getElem?_eq_some_iff.1 hx).1
 obtain⟨p,hp1,hp2⟩:=h.pJ.at (c:=c) hx
 have hbd:=h.bd
 have ir:Value.bool ((i:Int)==(n:Int))=.bool false:=ib (by rw[beq_eq_false_iff_ne];omega)
 have c25:=fun W (_:ai [g,gm] w W)=>hp1 W
 have c26:=hp2
 have c28:=fun W=>bJ (.tmp 26) (.const (ab mb)) x mb false (decide_eq_false h0) W
 have c31:=fun W=>bJ (.tmp 26) (.const (ab fZ)) x fZ false (decide_eq_false h1) W
 have c34:=fun W=>bJ (.tmp 26) (.const (ab gX)) x gX false (decide_eq_false h2) W
 have c37:=fun W=>bJ (.tmp 26) (.const (ab dB)) x dB false (decide_eq_false h3) W
 have c40:=fun W=>bJ (.tmp 26) (.const (ab eQ)) x eQ false (decide_eq_false h4) W
 have c43:=fun W=>bJ (.tmp 26) (.const (ab gF)) x gF true (decide_eq_true hk) W
 have c49:=my (i:=i) (by omega)
 have c59:Value.bool (bits .and .u8 (m.asks:Int) ((2^5:Nat):Int)==0)=.bool (!m.asks.testBit 5):=bz (oC ha 5 (by omega))
 have hor:Value.int .u8 (bits .or .u8 (m.asks:Int) ((2^5:Nat):Int))=.int .u8 ((m.asks|||2^5:Nat):Int):=by rw[rm ha 5 (by omega)]
 obtain⟨m1,hm1⟩:∃m1:Mt,m1={ m with asks:=m.asks|||2^5 }:=⟨_,rfl⟩
 have n2:=fun W b2 b3 (hC:D3 W g gm b2 b3 A n c (i+1) ws m1)=>F5 hC
 rw[←hm1]at hT
 have eT:m.asks.testBit 5=false→T=(bu 5 m1 ws (i+1)).bind fun m' j=>.ok (true,m') j:=fun hb=>by rw[hT,hb]
 have eN:m.asks.testBit 5=true→T=.no 200 (i+1):=fun hb=>by rw[hT,hb]
 generalize bu 5 m1 ws (i+1)=r at n2 eT
 clear hT
 have c60:=gj (T:=T) 0 (dW g gm A n c (i+1) m.cells) [.bool (!m.asks.testBit 5),.int .i64 200] h (j:=i+1) hi (r:=ay (!m.asks.testBit 5) 200 () (i+1)) (fun code p hh=>by
  cases hb:m.asks.testBit 5 with
  |false=>rw[hb]at hh;cases hh
  |true=>rw[hb]at hh;injection hh with h1 h2;rw[eN hb,h1,h2]) rfl (fun W hL=>iy _ 200 () hL)
 have c66f:=fun(_:(ay (!m.asks.testBit 5) 200 () (i+1)).okB=true∧(ay (!m.asks.testBit 5) 200 () (i+1)).pos≤n)=>hor
 have hbit:(ay (!m.asks.testBit 5) 200 () (i+1)).okB=true→m.asks.testBit 5=false:=fun hh=>by
  cases hb:m.asks.testBit 5 with
  |false=>rfl
  |true=>rw[hb]at hh;cases hh
 have hpos:(ay (!m.asks.testBit 5) 200 () (i+1)).pos=i+1:=by cases m.asks.testBit 5<;>rfl
 generalize ay (!m.asks.testBit 5) 200 () (i+1)=r1 at c60 c66f hbit hpos
 generalize (!m.asks.testBit 5)=nb at c59 c60
 have c70f:=fun(hp:r1.okB=true∧r1.pos≤n)=>(show ∀W (β:Sx.Env) (_:Sx.eF ⟨w,[g,gm],j2 T w⟩ β W (Sx.rowAt (dW g gm A n c r1.pos m1.cells)) [0,1,2,3]),Calls prog 211 (([.ptr 2 0,.ptr 3 0]:List Sx.SV).map (Sx.SV.den β)).toArray W (Sx.aY ⟨w,[g,gm],j2 T w⟩ β W (Sx.rowAt (dW g gm A n c r1.pos m1.cells)) 4 (Fo g gm A n c r))from by
  rw[hpos];exact xM h hi (cj (eT (hbit hp.1))) n2)
 have z2f:=fun(hp:r1.okB=true∧r1.pos≤n) (hp2:r.okB=true∧r.pos≤n)=>(show OC g gm A n c T [.val (.bool true)] (dW g gm A n c r.pos r.val.cells)from⟨true,r.val,r.pos,_,bZ (eT (hbit hp.1)) hp2.1,hp2.2,rfl,rfl⟩)
 have z4f:=fun(_:¬(r1.okB=true∧r1.pos≤n))=>trivial
 subst hm1
 refine ky h hbm hne [(16,.is (.bool false)),(25,.any p),(26,.any (ab x)),(28,.bin (.bool false)),(31,.bin (.bool false)),(34,.bin (.bool false)),(37,.bin (.bool false)),(40,.bin (.bool false)),(43,.bin (.bool true)),(49,.is (.int .i64 ((i+1:Nat):Int))),(59,.is (.bool nb)),(60,.aq (eV 0 g A n c r1 fun _=>.tuple #[])),(66,.is (.int .u8 ((m.asks|||2^5:Nat):Int))),(70,.aq (Fo g gm A n c r))] [] (by kernel_rfl) func153 rfl (cn rfl) ?_
 exact Eq.mp (by kernel_rfl) (Sx.t8 ir c25 c26 c28 c31 c34 c37 c40 (Sx.t4 c43 c49 c59 c60 (And.intro (fun(hx0:r1.okB=true∧r1.pos≤n)=>(Sx.t2 (c66f hx0) (c70f hx0) (fun(hx1:r.okB=true∧r.pos≤n)=>(z2f hx0 hx1)))) (fun(hx3:¬(r1.okB=true∧r1.pos≤n))=>(z4f hx3)))))
theorem Ff{w:World}{g gm:Nat}{A:Option Go.Addr}{n c i:Nat}{ws:List Bs}{m:Mt}(h:qQ w [g,gm] g A n c i ws)(hbm:au w gm 66 m.cells)(hne:g≠gm)(ha:m.asks < 64):Calls prog 153 #[(pt g 0),(pt gm 0)] w (iL g gm A n c (bn ws i m) w):=by
 have hlen:=h.pJ.len
 cases hx:ws[i]? with
 |none=>
  have hi:i=n:=by have:=List.getElem?_eq_none_iff.1 hx;have:=h.le;omega
  subst hi
  exact GP h hbm hne (by unfold bn;rw[hx])
 |some x=>
  have hT:bn ws i m=(match vz x with
   |none=>.ok (false,m) i
   |some k=>match m.asks.testBit k with
    |true=>.no 200 (i+1)
      |false=>(bu k { m with asks:=m.asks|||2^k } ws (i+1)).bind fun m' j=>.ok (true,m') j):=by unfold bn;rw[hx];rfl
  by_cases h0:x=mb
  ·have hf:vz x=some 0:=by unfold vz;rw[if_pos h0]
   rw[hf]at hT
   exact Km h hbm hne hx ha h0 hT
  by_cases h1:x=fZ
  ·have hf:vz x=some 1:=by unfold vz;rw[if_neg h0,if_pos h1]
   rw[hf]at hT
   exact Kl h hbm hne hx ha h0 h1 hT
  by_cases h2:x=gX
  ·have hf:vz x=some 2:=by unfold vz;rw[if_neg h0,if_neg h1,if_pos h2]
   rw[hf]at hT
   exact Kk h hbm hne hx ha h0 h1 h2 hT
  by_cases h3:x=dB
  ·have hf:vz x=some 3:=by unfold vz;rw[if_neg h0,if_neg h1,if_neg h2,if_pos h3]
   rw[hf]at hT
   exact Kj h hbm hne hx ha h0 h1 h2 h3 hT
  by_cases h4:x=eQ
  ·have hf:vz x=some 4:=by unfold vz;rw[if_neg h0,if_neg h1,if_neg h2,if_neg h3,if_pos h4]
   rw[hf]at hT
   exact Ki h hbm hne hx ha h0 h1 h2 h3 h4 hT
  by_cases h5:x=gF
  ·have hf:vz x=some 5:=by unfold vz;rw[if_neg h0,if_neg h1,if_neg h2,if_neg h3,if_neg h4,if_pos h5]
   rw[hf]at hT
   exact Kh h hbm hne hx ha h0 h1 h2 h3 h4 h5 hT
  have hf:vz x=none:=by unfold vz;rw[if_neg h0,if_neg h1,if_neg h2,if_neg h3,if_neg h4,if_neg h5]
  rw[hf]at hT
  exact Dt h hbm hne hx ⟨h0,h1,h2,h3,h4,h5⟩ hT
end Go.Proofs.YtnncigmpcdehnaaGreatDoor
