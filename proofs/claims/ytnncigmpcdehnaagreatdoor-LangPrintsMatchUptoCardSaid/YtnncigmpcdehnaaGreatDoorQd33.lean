import Derived.Test.YtnncigmpcdehnaaGreatDoorQd32
namespace Go.Proofs.YtnncigmpcdehnaaGreatDoor
set_option maxRecDepth 100000
open Go Go.RowKit Go.Lib Go.Sort
theorem JR:∀(a:Fin 256) (k:Fin 6),(bits .and .u8 (a.val:Int) ((2^k.val:Nat):Int) !=0)=a.val.testBit k.val:=by decide+kernel
theorem uD(m:Mt)(hm:m.Wf)(k:Nat)(hk:k < 6):(bits .and .u8 (m.asks:Int) ((2^k:Nat):Int) !=0)=m.asks.testBit k:=JR ⟨m.asks,hm.asks⟩ ⟨k,hk⟩
theorem j4(s:Nat×Nat)(h1:s.1≤65535)(h2:s.2≤65535):(cX s).length≤11:=by
 have la:=fe s.1 (by omega)
 have lb:=fe s.2 (by omega)
 unfold cX
 split
 ·omega
 ·simp only[List.length_append,List.length_cons];omega
theorem uB(n:Nat)(h:n≤255):(cQ n).length≤5:=by
 have la:=fe n (by omega)
 unfold cQ
 split
 ·decide
 split
 ·decide
 ·omega
theorem mW(p:Px):(qV p).length≤100000000:=by
 unfold qV nY
 split
 ·rename_i h
  exact Dj (by unfold fA at h;simp only[Bool.and_eq_true,decide_eq_true_eq]at h;exact h.1.2)
 ·exact Nat.zero_le _
theorem sX(c:UInt8)(N:Nat):∀xs:List Bs,(∀x∈xs,x.length≤N)→(ao c xs).length≤xs.length*(N+1)
 | [],_=>Nat.zero_le _
 | [x],h=>by
  have:=h x (by simp)
  show x.length≤1*(N+1);omega
 |x::y::r,h=>by
  have:=h x (by simp)
  have ih:=sX c N (y::r) fun z hz=>h z (List.mem_cons_of_mem _ hz)
  show(x++c::ao c (y::r)).length≤_
  simp only[List.length_append,List.length_cons,Nat.add_mul,Nat.one_mul]at ih ⊢
  omega
theorem Gw(_n:Nat)(y:List Bs)(hy:y.length≤12)(hx:∀x∈y,x.length≤100000000)(w W:World)(_:ag [] w W)(s:Value)(ho:Own W 9 1 s y.length (strs y)):Calls Tryz.prog 87 #[s,.string ⟨#[32]⟩] W (Sx.fj W (.val (ab (ao 32 y)))):=by
 obtain⟨A,c,rfl,_,_⟩:=ho.form
 have  :=sX 32 100000000 y hx
 have h2:y.length*(100000000+1)≤12*(100000000+1):=Nat.mul_le_mul_right _ hy
 exact yP ho 32 (by omega) (by omega)
theorem Ms(m:Mt)(hm:m.Wf)(hc:ba m=false)(w:World):Calls Tryz.prog 31 #[gY m] w fun e w'=>e=.returned (.tuple #[ab [],.int .i64 190])∧ag [] w w':=by
 have c12:=fun W (_:ag [] w W)=>(show Calls Tryz.prog 83 #[gY m] W fun e w'=>e=.returned (.int .i64 190)∧ag [] W w' from by
  have:=o8 m hm W
  rw[hc]at this
  exact this)
 have z0:Value.tuple #[.string ⟨#[]⟩,.int .i64 190]=.tuple #[ab [],.int .i64 190]:=rfl
 refine Sx.aG (args:=[gY m]) [(12,.call (.int .i64 190))] [] (by kernel_rfl) Tryz.func31 rfl (Nat.le_of_ble_eq_true rfl) ?_
 exact Eq.mp (by kernel_rfl) (And.intro c12 z0)
theorem Mu(m:Mt)(hm:m.Wf)(hc:ba m=true)(ha:m.asks=0)(w:World):Calls Tryz.prog 31 #[gY m] w fun e w'=>e=.returned (.tuple #[ab kZ,.int .i64 0])∧ag [] w w':=by
 have c12:=fun W (_:ag [] w W)=>(show Calls Tryz.prog 83 #[gY m] W fun e w'=>e=.returned (.int .i64 0)∧ag [] W w' from by
  have:=o8 m hm W
  rw[hc]at this
  exact this)
 have c18:Value.bool ((m.asks:Int)==0)=.bool true:=gv (by rw[ha];rfl)
 have z0:Value.tuple #[.string ⟨#[97,110,121]⟩,.int .i64 0]=.tuple #[ab kZ,.int .i64 0]:=rfl
 refine Sx.aG (args:=[gY m]) [(12,.call (.int .i64 0)),(18,.is (.bool true))] [] (by kernel_rfl) Tryz.func31 rfl (Nat.le_of_ble_eq_true rfl) ?_
 exact Eq.mp (by kernel_rfl) (Sx.t2 c12 c18 z0)
theorem N5(m:Mt)(hm:m.Wf)(hc:ba m=true)(ha:m.asks≠0)(w:World)(hl:dJ w):Calls Tryz.prog 31 #[gY m] w fun e w'=>e=.returned (.tuple #[ab (ao 32 (iK m)),.int .i64 0])∧ag [] w w':=by
 have c12:=fun W (_:ag [] w W)=>(show Calls Tryz.prog 83 #[gY m] W fun e w'=>e=.returned (.int .i64 0)∧ag [] W w' from by
  have:=o8 m hm W
  rw[hc]at this
  exact this)
 have c18:Value.bool ((m.asks:Int)==0)=.bool false:=gZ (by rw[beq_eq_false_iff_ne];omega)
 have c23:=fun W (hW:ag [] w W)=>Ak m.src.v m.src.n m.src.k hm.sn W (hl.cS hW)
 have c29:=fun W (hW:ag [] w W)=>Ak m.dst.v m.dst.n m.dst.k hm.dn W (hl.cS hW)
 have c35:=fun W (hW:ag [] w W)=>Ar m.eQ hm.eQ.1 hm.eQ.2 W (hl.cS hW)
 have c49:=fun W (hW:ag [] w W)=>JO m.aV hm.pr W (hl.cS hW)
 have c55:=fun W (hW:ag [] w W)=>Ar m.sp hm.sp.1 hm.sp.2 W (hl.cS hW)
 have c61:=fun W (hW:ag [] w W)=>Ar m.dp hm.dp.1 hm.dp.2 W (hl.cS hW)
 have hb0:=uD m hm 0 (by omega)
 have hb1:=uD m hm 1 (by omega)
 have hb2:=uD m hm 2 (by omega)
 have hb3:=uD m hm 3 (by omega)
 have hb4:=uD m hm 4 (by omega)
 have hb5:=uD m hm 5 (by omega)
 obtain⟨t0,ht0⟩:∃t:Bs,t=cX m.eQ:=⟨_,rfl⟩
 obtain⟨t1,ht1⟩:∃t:Bs,t=qV m.src:=⟨_,rfl⟩
 obtain⟨t2,ht2⟩:∃t:Bs,t=qV m.dst:=⟨_,rfl⟩
 obtain⟨t3,ht3⟩:∃t:Bs,t=cQ m.aV:=⟨_,rfl⟩
 obtain⟨t4,ht4⟩:∃t:Bs,t=cX m.sp:=⟨_,rfl⟩
 obtain⟨t5,ht5⟩:∃t:Bs,t=cX m.dp:=⟨_,rfl⟩
 have l0:t0.length≤100000000:=by rw[ht0];exact Nat.le_trans (j4 _ hm.eQ.1 hm.eQ.2) (by omega)
 have l1:t1.length≤100000000:=by rw[ht1];exact mW _
 have l2:t2.length≤100000000:=by rw[ht2];exact mW _
 have l3:t3.length≤100000000:=by rw[ht3];exact Nat.le_trans (uB _ hm.pr) (by omega)
 have l4:t4.length≤100000000:=by rw[ht4];exact Nat.le_trans (j4 _ hm.sp.1 hm.sp.2) (by omega)
 have l5:t5.length≤100000000:=by rw[ht5];exact Nat.le_trans (j4 _ hm.dp.1 hm.dp.2) (by omega)
 obtain⟨y0,hy0⟩:∃y,y=([]:List Bs)++sg (m.asks.testBit 0) [kY,t0]:=⟨_,rfl⟩
 obtain⟨y1,hy1⟩:∃y,y=y0++sg (m.asks.testBit 1) [fp,t1]:=⟨_,rfl⟩
 obtain⟨y2,hy2⟩:∃y,y=y1++sg (m.asks.testBit 2) [gk,t2]:=⟨_,rfl⟩
 obtain⟨y3,hy3⟩:∃y,y=y2++sg (m.asks.testBit 3) [dc,t3]:=⟨_,rfl⟩
 obtain⟨y4,hy4⟩:∃y,y=y3++sg (m.asks.testBit 4) [eg,t4]:=⟨_,rfl⟩
 obtain⟨y5,hy5⟩:∃y,y=y4++sg (m.asks.testBit 5) [fR,t5]:=⟨_,rfl⟩
 have hy:y5=iK m:=by rw[hy5,hy4,hy3,hy2,hy1,hy0,ht0,ht1,ht2,ht3,ht4,ht5];rfl
 have bd:∀(x:List Bs) (b:Bool) (p q:Bs) (n:Nat),x.length≤n→(x++sg b [p,q]).length≤n+2:=fun x b p q n h=>by
  rw[List.length_append]
  cases b
  ·show x.length+0≤_;omega
  ·show x.length+2≤_;omega
 have bx:∀(x:List Bs) (b:Bool) (p q:Bs),(∀z∈x,z.length≤100000000)→p.length≤100000000→q.length≤100000000→∀z∈x++sg b [p,q],z.length≤100000000:=fun x b p q h hp hq z hz=>by
  rcases List.mem_append.1 hz with hz|hz
  ·exact h z hz
  ·cases b with
   |true=>
    have hz:z∈[p,q]:=hz
    rcases List.mem_cons.1 hz with rfl|hz
    ·exact hp
    ·rw[List.mem_singleton.1 hz];exact hq
   |false=>cases hz
 have n0:y0.length≤2:=by rw[hy0];exact bd _ _ _ _ 0 (Nat.le_refl 0)
 have x0:∀z∈y0,z.length≤100000000:=by rw[hy0];exact bx _ _ _ _ (by simp) (by decide) l0
 have n1:y1.length≤4:=by rw[hy1];exact bd _ _ _ _ 2 n0
 have x1:∀z∈y1,z.length≤100000000:=by rw[hy1];exact bx _ _ _ _ x0 (by decide) l1
 have n2:y2.length≤6:=by rw[hy2];exact bd _ _ _ _ 4 n1
 have x2:∀z∈y2,z.length≤100000000:=by rw[hy2];exact bx _ _ _ _ x1 (by decide) l2
 have n3:y3.length≤8:=by rw[hy3];exact bd _ _ _ _ 6 n2
 have x3:∀z∈y3,z.length≤100000000:=by rw[hy3];exact bx _ _ _ _ x2 (by decide) l3
 have n4:y4.length≤10:=by rw[hy4];exact bd _ _ _ _ 8 n3
 have x4:∀z∈y4,z.length≤100000000:=by rw[hy4];exact bx _ _ _ _ x3 (by decide) l4
 have n5:y5.length≤12:=by rw[hy5];exact bd _ _ _ _ 10 n4
 have x5:∀z∈y5,z.length≤100000000:=by rw[hy5];exact bx _ _ _ _ x4 (by decide) l5
 rw[←hy]
 have c37:=fun W β (hS:Sx.dP ⟨w,[],fun _ _=>False⟩ β W (Sx.rowAt [⟨66,.aj m.cells⟩,⟨70,.dA [.own 2]⟩,⟨9,.own 1 ([]:List Bs).length (strs ([]:List Bs))⟩,⟨9,.aj [ab kY,ab t0]⟩]) [0,1,2,3])=>(show Calls Tryz.prog 84 (([.val (.int .u8 ((2^0:Nat):Int)),.mP 3 0 2 2,.ptr 0 0,.ptr 1 0]:List Sx.SV).map (Sx.SV.den β)).toArray W (Sx.aP ⟨w,[],fun _ _=>False⟩ β W (Sx.rowAt [⟨66,.aj m.cells⟩,⟨70,.dA [.own 2]⟩,⟨9,.own 1 ([]:List Bs).length (strs ([]:List Bs))⟩,⟨9,.aj [ab kY,ab t0]⟩]) 4 (oV 2 3 4 m.cells y0))from by rw[hy0];exact j6 kY t0 (2^0) (m.asks.testBit 0) rfl rfl rfl rfl (by omega) (by omega) (by omega) hb0 (Nat.zero_le _) W β hS)
 have c41:=fun W β (hS:Sx.dP ⟨w,[],fun _ _=>False⟩ β W (Sx.rowAt [⟨66,.aj m.cells⟩,⟨70,.dA [.own 4]⟩,Sx.al,⟨9,.aj [ab kY,ab t0]⟩,⟨9,.own 1 y0.length (strs y0)⟩,⟨9,.aj [ab fp,ab t1]⟩]) [0,1,4,5])=>(show Calls Tryz.prog 84 (([.val (.int .u8 ((2^1:Nat):Int)),.mP 5 0 2 2,.ptr 0 0,.ptr 1 0]:List Sx.SV).map (Sx.SV.den β)).toArray W (Sx.aP ⟨w,[],fun _ _=>False⟩ β W (Sx.rowAt [⟨66,.aj m.cells⟩,⟨70,.dA [.own 4]⟩,Sx.al,⟨9,.aj [ab kY,ab t0]⟩,⟨9,.own 1 y0.length (strs y0)⟩,⟨9,.aj [ab fp,ab t1]⟩]) 6 (oV 4 5 6 m.cells y1))from by rw[hy1];exact j6 fp t1 (2^1) (m.asks.testBit 1) rfl rfl rfl rfl (by omega) (by omega) (by omega) hb1 (Nat.le_trans n0 (by omega)) W β hS)
 have c45:=fun W β (hS:Sx.dP ⟨w,[],fun _ _=>False⟩ β W (Sx.rowAt [⟨66,.aj m.cells⟩,⟨70,.dA [.own 6]⟩,Sx.al,⟨9,.aj [ab kY,ab t0]⟩,Sx.al,⟨9,.aj [ab fp,ab t1]⟩,⟨9,.own 1 y1.length (strs y1)⟩,⟨9,.aj [ab gk,ab t2]⟩]) [0,1,6,7])=>(show Calls Tryz.prog 84 (([.val (.int .u8 ((2^2:Nat):Int)),.mP 7 0 2 2,.ptr 0 0,.ptr 1 0]:List Sx.SV).map (Sx.SV.den β)).toArray W (Sx.aP ⟨w,[],fun _ _=>False⟩ β W (Sx.rowAt [⟨66,.aj m.cells⟩,⟨70,.dA [.own 6]⟩,Sx.al,⟨9,.aj [ab kY,ab t0]⟩,Sx.al,⟨9,.aj [ab fp,ab t1]⟩,⟨9,.own 1 y1.length (strs y1)⟩,⟨9,.aj [ab gk,ab t2]⟩]) 8 (oV 6 7 8 m.cells y2))from by rw[hy2];exact j6 gk t2 (2^2) (m.asks.testBit 2) rfl rfl rfl rfl (by omega) (by omega) (by omega) hb2 (Nat.le_trans n1 (by omega)) W β hS)
 have c51:=fun W β (hS:Sx.dP ⟨w,[],fun _ _=>False⟩ β W (Sx.rowAt [⟨66,.aj m.cells⟩,⟨70,.dA [.own 8]⟩,Sx.al,⟨9,.aj [ab kY,ab t0]⟩,Sx.al,⟨9,.aj [ab fp,ab t1]⟩,Sx.al,⟨9,.aj [ab gk,ab t2]⟩,⟨9,.own 1 y2.length (strs y2)⟩,⟨9,.aj [ab dc,ab t3]⟩]) [0,1,8,9])=>(show Calls Tryz.prog 84 (([.val (.int .u8 ((2^3:Nat):Int)),.mP 9 0 2 2,.ptr 0 0,.ptr 1 0]:List Sx.SV).map (Sx.SV.den β)).toArray W (Sx.aP ⟨w,[],fun _ _=>False⟩ β W (Sx.rowAt [⟨66,.aj m.cells⟩,⟨70,.dA [.own 8]⟩,Sx.al,⟨9,.aj [ab kY,ab t0]⟩,Sx.al,⟨9,.aj [ab fp,ab t1]⟩,Sx.al,⟨9,.aj [ab gk,ab t2]⟩,⟨9,.own 1 y2.length (strs y2)⟩,⟨9,.aj [ab dc,ab t3]⟩]) 10 (oV 8 9 10 m.cells y3))from by rw[hy3];exact j6 dc t3 (2^3) (m.asks.testBit 3) rfl rfl rfl rfl (by omega) (by omega) (by omega) hb3 (Nat.le_trans n2 (by omega)) W β hS)
 have c57:=fun W β (hS:Sx.dP ⟨w,[],fun _ _=>False⟩ β W (Sx.rowAt [⟨66,.aj m.cells⟩,⟨70,.dA [.own 10]⟩,Sx.al,⟨9,.aj [ab kY,ab t0]⟩,Sx.al,⟨9,.aj [ab fp,ab t1]⟩,Sx.al,⟨9,.aj [ab gk,ab t2]⟩,Sx.al,⟨9,.aj [ab dc,ab t3]⟩,⟨9,.own 1 y3.length (strs y3)⟩,⟨9,.aj [ab eg,ab t4]⟩]) [0,1,10,11])=>(show Calls Tryz.prog 84 (([.val (.int .u8 ((2^4:Nat):Int)),.mP 11 0 2 2,.ptr 0 0,.ptr 1 0]:List Sx.SV).map (Sx.SV.den β)).toArray W (Sx.aP ⟨w,[],fun _ _=>False⟩ β W (Sx.rowAt [⟨66,.aj m.cells⟩,⟨70,.dA [.own 10]⟩,Sx.al,⟨9,.aj [ab kY,ab t0]⟩,Sx.al,⟨9,.aj [ab fp,ab t1]⟩,Sx.al,⟨9,.aj [ab gk,ab t2]⟩,Sx.al,⟨9,.aj [ab dc,ab t3]⟩,⟨9,.own 1 y3.length (strs y3)⟩,⟨9,.aj [ab eg,ab t4]⟩]) 12 (oV 10 11 12 m.cells y4))from by rw[hy4];exact j6 eg t4 (2^4) (m.asks.testBit 4) rfl rfl rfl rfl (by omega) (by omega) (by omega) hb4 (Nat.le_trans n3 (by omega)) W β hS)
 have c63:=fun W β (hS:Sx.dP ⟨w,[],fun _ _=>False⟩ β W (Sx.rowAt [⟨66,.aj m.cells⟩,⟨70,.dA [.own 12]⟩,Sx.al,⟨9,.aj [ab kY,ab t0]⟩,Sx.al,⟨9,.aj [ab fp,ab t1]⟩,Sx.al,⟨9,.aj [ab gk,ab t2]⟩,Sx.al,⟨9,.aj [ab dc,ab t3]⟩,Sx.al,⟨9,.aj [ab eg,ab t4]⟩,⟨9,.own 1 y4.length (strs y4)⟩,⟨9,.aj [ab fR,ab t5]⟩]) [0,1,12,13])=>(show Calls Tryz.prog 84 (([.val (.int .u8 ((2^5:Nat):Int)),.mP 13 0 2 2,.ptr 0 0,.ptr 1 0]:List Sx.SV).map (Sx.SV.den β)).toArray W (Sx.aP ⟨w,[],fun _ _=>False⟩ β W (Sx.rowAt [⟨66,.aj m.cells⟩,⟨70,.dA [.own 12]⟩,Sx.al,⟨9,.aj [ab kY,ab t0]⟩,Sx.al,⟨9,.aj [ab fp,ab t1]⟩,Sx.al,⟨9,.aj [ab gk,ab t2]⟩,Sx.al,⟨9,.aj [ab dc,ab t3]⟩,Sx.al,⟨9,.aj [ab eg,ab t4]⟩,⟨9,.own 1 y4.length (strs y4)⟩,⟨9,.aj [ab fR,ab t5]⟩]) 14 (oV 12 13 14 m.cells y5))from by rw[hy5];exact j6 fR t5 (2^5) (m.asks.testBit 5) rfl rfl rfl rfl (by omega) (by omega) (by omega) hb5 (Nat.le_trans n4 (by omega)) W β hS)
 have c65:=fun W hW s ho=>Gw 0 y5 n5 x5 w W hW s ho
 have z0:Value.tuple #[ab (ao 32 y5),.int .i64 0]=.tuple #[ab (ao 32 y5),.int .i64 0]:=rfl
 rw[←ht0]at c35
 have c23:∀W,ag [] w W→Calls Tryz.prog 72 #[mV m.src] W fun e w'=>e=.returned (.tuple #[ab t1,.int .i64 (df m.src.v m.src.n m.src.k)])∧ag [] W w':=by rw[ht1];exact c23
 have c29:∀W,ag [] w W→Calls Tryz.prog 72 #[mV m.dst] W fun e w'=>e=.returned (.tuple #[ab t2,.int .i64 (df m.dst.v m.dst.n m.dst.k)])∧ag [] W w':=by rw[ht2];exact c29
 rw[←ht3]at c49
 rw[←ht4]at c55
 rw[←ht5]at c61
 clear hy ht0 ht1 ht2 ht3 ht4 ht5 hy0 hy1 hy2 hy3 hy4 hy5
 refine Sx.aG (args:=[gY m]) [(12,.call (.int .i64 0)),(18,.is (.bool false)),(5,.sI [(0,9,1)]),(23,.call (.tuple #[ab t1,.int .i64 (df m.src.v m.src.n m.src.k)])),(29,.call (.tuple #[ab t2,.int .i64 (df m.dst.v m.dst.n m.dst.k)])),(35,.call (ab t0)),(49,.call (ab t3)),(55,.call (ab t4)),(61,.call (ab t5)),(37,.an (oV 2 3 4 m.cells y0)),(41,.an (oV 4 5 6 m.cells y1)),(45,.an (oV 6 7 8 m.cells y2)),(51,.an (oV 8 9 10 m.cells y3)),(57,.an (oV 10 11 12 m.cells y4)),(63,.an (oV 12 13 14 m.cells y5)),(65,.dz (.val (ab (ao 32 y5))))] [] (by kernel_rfl) Tryz.func31 rfl (Nat.le_of_ble_eq_true rfl) ?_
 exact Eq.mp (by kernel_rfl) (Sx.t8 c12 c18 c23 c29 c35 c37 c41 c45 (Sx.t4 c49 c51 c55 c57 (Sx.t2 c61 c63 (And.intro c65 z0))))
theorem oW(m:Mt)(hm:m.Wf)(w:World)(hl:dJ w):Calls Tryz.prog 31 #[gY m] w fun e w'=>e=.returned (.tuple #[ab (yd m),.int .i64 (if ba m=true then 0 else 190)])∧ag [] w w':=by
 unfold yd
 cases hc:ba m with
 |false=>exact Ms m hm hc w
 |true=>
  show Calls Tryz.prog 31 #[gY m] w fun e w'=>e=.returned (.tuple #[ab (dw m),.int .i64 0])∧ag [] w w'
  by_cases ha:m.asks=0
  ·rw[show dw m=kZ by unfold dw;rw[if_pos ha]]
   exact Mu m hm hc ha w
  ·rw[show dw m=ao 32 (iK m)by unfold dw;rw[if_neg ha]]
   exact N5 m hm hc ha w hl
end Go.Proofs.YtnncigmpcdehnaaGreatDoor
