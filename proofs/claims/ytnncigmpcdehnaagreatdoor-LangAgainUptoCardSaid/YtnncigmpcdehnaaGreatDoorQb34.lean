import Derived.Test.YtnncigmpcdehnaaGreatDoorQb33
namespace Go.Proofs.YtnncigmpcdehnaaGreatDoor
set_option maxRecDepth 100000
open Go Go.RowKit Go.Lib Go.Sort
theorem I4:∀(a:Fin 256) (k:Fin 6),(bits .and .u8 (a.val:Int) ((2^k.val:Nat):Int) !=0)=a.val.testBit k.val:=by decide+kernel
theorem uG(m:Mt)(hm:m.Wf)(k:Nat)(hk:k < 6):(bits .and .u8 (m.asks:Int) ((2^k:Nat):Int) !=0)=m.asks.testBit k:=I4 ⟨m.asks,hm.asks⟩ ⟨k,hk⟩
theorem j7(s:Nat×Nat)(h1:s.1≤65535)(h2:s.2≤65535):(eE s).length≤11:=by
 have la:=iy s.1 (by omega)
 have lb:=iy s.2 (by omega)
 unfold eE
 split
 ·omega
 ·simp only[List.length_append,List.length_cons];omega
theorem uE(n:Nat)(h:n≤255):(dS n).length≤5:=by
 have la:=iy n (by omega)
 unfold dS
 split
 ·decide
 split
 ·decide
 ·omega
theorem q9(p:Px):(rW p).length≤100000000:=by
 unfold rW r7
 split
 ·rename_i h
  exact CD (by unfold gg at h;simp only[Bool.and_eq_true,decide_eq_true_eq]at h;exact h.1.2)
 ·exact Nat.zero_le _
theorem n9(c:UInt8)(N:Nat):∀xs:List Bs,(∀x∈xs,x.length≤N)→(aQ c xs).length≤xs.length*(N+1)
 | [],_=>Nat.zero_le _
 | [x],h=>by
  have:=h x (by simp)
  show x.length≤1*(N+1);omega
 |x::y::r,h=>by
  have:=h x (by simp)
  have ih:=n9 c N (y::r) fun z hz=>h z (List.mem_cons_of_mem _ hz)
  show(x++c::aQ c (y::r)).length≤_
  simp only[List.length_append,List.length_cons,Nat.add_mul,Nat.one_mul]at ih ⊢
  omega
theorem FX(_n:Nat)(y:List Bs)(hy:y.length≤12)(hx:∀x∈y,x.length≤100000000)(w W:World)(_:aw [] w W)(s:Value)(ho:Own W 9 1 s y.length (strs y)):Calls Tryz.prog 87 #[s,.string ⟨#[32]⟩] W (Sx.gn W (.val (af (aQ 32 y)))):=by
 obtain⟨A,c,rfl,_,_⟩:=ho.form
 have  :=n9 32 100000000 y hx
 have h2:y.length*(100000000+1)≤12*(100000000+1):=Nat.mul_le_mul_right _ hy
 exact yx ho 32 (by omega) (by omega)
theorem LD(m:Mt)(hm:m.Wf)(hc:bL m=false)(w:World):Calls Tryz.prog 31 #[kA m] w fun e w'=>e=.returned (.tuple #[af [],.int .i64 190])∧aw [] w w':=by
 have c12:=fun W (_:aw [] w W)=>(show Calls Tryz.prog 83 #[kA m] W fun e w'=>e=.returned (.int .i64 190)∧aw [] W w' from by
  have:=oV m hm W
  rw[hc]at this
  exact this)
 have z0:Value.tuple #[.string ⟨#[]⟩,.int .i64 190]=.tuple #[af [],.int .i64 190]:=rfl
 refine Sx.dJ (args:=[kA m]) [(12,.call (.int .i64 190))] [] (by kernel_rfl) Tryz.func31 rfl (Nat.le_of_ble_eq_true rfl) ?_
 exact Eq.mp (by kernel_rfl) (And.intro c12 z0)
theorem LF(m:Mt)(hm:m.Wf)(hc:bL m=true)(ha:m.asks=0)(w:World):Calls Tryz.prog 31 #[kA m] w fun e w'=>e=.returned (.tuple #[af k8,.int .i64 0])∧aw [] w w':=by
 have c12:=fun W (_:aw [] w W)=>(show Calls Tryz.prog 83 #[kA m] W fun e w'=>e=.returned (.int .i64 0)∧aw [] W w' from by
  have:=oV m hm W
  rw[hc]at this
  exact this)
 have c18:Value.bool ((m.asks:Int)==0)=.bool true:=dQ (by rw[ha];rfl)
 have z0:Value.tuple #[.string ⟨#[97,110,121]⟩,.int .i64 0]=.tuple #[af k8,.int .i64 0]:=rfl
 refine Sx.dJ (args:=[kA m]) [(12,.call (.int .i64 0)),(18,.is (.bool true))] [] (by kernel_rfl) Tryz.func31 rfl (Nat.le_of_ble_eq_true rfl) ?_
 exact Eq.mp (by kernel_rfl) (Sx.t2 c12 c18 z0)
theorem M3(m:Mt)(hm:m.Wf)(hc:bL m=true)(ha:m.asks≠0)(w:World)(hl:dG w):Calls Tryz.prog 31 #[kA m] w fun e w'=>e=.returned (.tuple #[af (aQ 32 (fR m)),.int .i64 0])∧aw [] w w':=by
 have c12:=fun W (_:aw [] w W)=>(show Calls Tryz.prog 83 #[kA m] W fun e w'=>e=.returned (.int .i64 0)∧aw [] W w' from by
  have:=oV m hm W
  rw[hc]at this
  exact this)
 have c18:Value.bool ((m.asks:Int)==0)=.bool false:=dY (by rw[beq_eq_false_iff_ne];omega)
 have c23:=fun W (hW:aw [] w W)=>zH m.src.v m.src.n m.src.k hm.sn W (hl.cy hW)
 have c29:=fun W (hW:aw [] w W)=>zH m.dst.v m.dst.n m.dst.k hm.dn W (hl.cy hW)
 have c35:=fun W (hW:aw [] w W)=>zM m.gf hm.gf.1 hm.gf.2 W (hl.cy hW)
 have c49:=fun W (hW:aw [] w W)=>I3 m.bV hm.pr W (hl.cy hW)
 have c55:=fun W (hW:aw [] w W)=>zM m.sp hm.sp.1 hm.sp.2 W (hl.cy hW)
 have c61:=fun W (hW:aw [] w W)=>zM m.dp hm.dp.1 hm.dp.2 W (hl.cy hW)
 have hb0:=uG m hm 0 (by omega)
 have hb1:=uG m hm 1 (by omega)
 have hb2:=uG m hm 2 (by omega)
 have hb3:=uG m hm 3 (by omega)
 have hb4:=uG m hm 4 (by omega)
 have hb5:=uG m hm 5 (by omega)
 obtain⟨t0,ht0⟩:∃t:Bs,t=eE m.gf:=⟨_,rfl⟩
 obtain⟨t1,ht1⟩:∃t:Bs,t=rW m.src:=⟨_,rfl⟩
 obtain⟨t2,ht2⟩:∃t:Bs,t=rW m.dst:=⟨_,rfl⟩
 obtain⟨t3,ht3⟩:∃t:Bs,t=dS m.bV:=⟨_,rfl⟩
 obtain⟨t4,ht4⟩:∃t:Bs,t=eE m.sp:=⟨_,rfl⟩
 obtain⟨t5,ht5⟩:∃t:Bs,t=eE m.dp:=⟨_,rfl⟩
 have l0:t0.length≤100000000:=by rw[ht0];exact Nat.le_trans (j7 _ hm.gf.1 hm.gf.2) (by omega)
 have l1:t1.length≤100000000:=by rw[ht1];exact q9 _
 have l2:t2.length≤100000000:=by rw[ht2];exact q9 _
 have l3:t3.length≤100000000:=by rw[ht3];exact Nat.le_trans (uE _ hm.pr) (by omega)
 have l4:t4.length≤100000000:=by rw[ht4];exact Nat.le_trans (j7 _ hm.sp.1 hm.sp.2) (by omega)
 have l5:t5.length≤100000000:=by rw[ht5];exact Nat.le_trans (j7 _ hm.dp.1 hm.dp.2) (by omega)
 obtain⟨y0,hy0⟩:∃y,y=([]:List Bs)++rX (m.asks.testBit 0) [lr,t0]:=⟨_,rfl⟩
 obtain⟨y1,hy1⟩:∃y,y=y0++rX (m.asks.testBit 1) [fG,t1]:=⟨_,rfl⟩
 obtain⟨y2,hy2⟩:∃y,y=y1++rX (m.asks.testBit 2) [gB,t2]:=⟨_,rfl⟩
 obtain⟨y3,hy3⟩:∃y,y=y2++rX (m.asks.testBit 3) [dC,t3]:=⟨_,rfl⟩
 obtain⟨y4,hy4⟩:∃y,y=y3++rX (m.asks.testBit 4) [eQ,t4]:=⟨_,rfl⟩
 obtain⟨y5,hy5⟩:∃y,y=y4++rX (m.asks.testBit 5) [gr,t5]:=⟨_,rfl⟩
 have hy:y5=fR m:=by rw[hy5,hy4,hy3,hy2,hy1,hy0,ht0,ht1,ht2,ht3,ht4,ht5];rfl
 have bd:∀(x:List Bs) (b:Bool) (p q:Bs) (n:Nat),x.length≤n→(x++rX b [p,q]).length≤n+2:=fun x b p q n h=>by
  rw[List.length_append]
  cases b
  ·show x.length+0≤_;omega
  ·show x.length+2≤_;omega
 have bx:∀(x:List Bs) (b:Bool) (p q:Bs),(∀z∈x,z.length≤100000000)→p.length≤100000000→q.length≤100000000→∀z∈x++rX b [p,q],z.length≤100000000:=fun x b p q h hp hq z hz=>by
  rcases List.mem_append.1 hz with hz|hz
  ·exact h z hz
  ·cases b with
   |true=>
    have hz:z∈[p,q]:=hz
    rcases List.mem_cons.1 hz with rfl|hz
    ·exact hp
    ·rw[List.mem_singleton.1 hz];exact hq
   |false=>cases hz
 have n0:y0.length≤2:=by rw[hy0];exact bd _ _ _ _ 0 (Nat.le_refl 0)
 have x0:∀z∈y0,z.length≤100000000:=by rw[hy0];exact bx _ _ _ _ (by simp) (by decide) l0
 have n1:y1.length≤4:=by rw[hy1];exact bd _ _ _ _ 2 n0
 have x1:∀z∈y1,z.length≤100000000:=by rw[hy1];exact bx _ _ _ _ x0 (by decide) l1
 have n2:y2.length≤6:=by rw[hy2];exact bd _ _ _ _ 4 n1
 have x2:∀z∈y2,z.length≤100000000:=by rw[hy2];exact bx _ _ _ _ x1 (by decide) l2
 have n3:y3.length≤8:=by rw[hy3];exact bd _ _ _ _ 6 n2
 have x3:∀z∈y3,z.length≤100000000:=by rw[hy3];exact bx _ _ _ _ x2 (by decide) l3
 have n4:y4.length≤10:=by rw[hy4];exact bd _ _ _ _ 8 n3
 have x4:∀z∈y4,z.length≤100000000:=by rw[hy4];exact bx _ _ _ _ x3 (by decide) l4
 have n5:y5.length≤12:=by rw[hy5];exact bd _ _ _ _ 10 n4
 have x5:∀z∈y5,z.length≤100000000:=by rw[hy5];exact bx _ _ _ _ x4 (by decide) l5
 rw[←hy]
 have c37:=fun W β (hS:Sx.cw ⟨w,[],fun _ _=>False⟩ β W (Sx.rowAt [⟨66,.ag m.cells⟩,⟨70,.dm [.own 2]⟩,⟨9,.own 1 ([]:List Bs).length (strs ([]:List Bs))⟩,⟨9,.ag [af lr,af t0]⟩]) [0,1,2,3])=>(show Calls Tryz.prog 84 (([.val (.int .u8 ((2^0:Nat):Int)),.mF 3 0 2 2,.ptr 0 0,.ptr 1 0]:List Sx.SV).map (Sx.SV.den β)).toArray W (Sx.a7 ⟨w,[],fun _ _=>False⟩ β W (Sx.rowAt [⟨66,.ag m.cells⟩,⟨70,.dm [.own 2]⟩,⟨9,.own 1 ([]:List Bs).length (strs ([]:List Bs))⟩,⟨9,.ag [af lr,af t0]⟩]) 4 (oP 2 3 4 m.cells y0))from by rw[hy0];exact j9 lr t0 (2^0) (m.asks.testBit 0) rfl rfl rfl rfl (by omega) (by omega) (by omega) hb0 (Nat.zero_le _) W β hS)
 have c41:=fun W β (hS:Sx.cw ⟨w,[],fun _ _=>False⟩ β W (Sx.rowAt [⟨66,.ag m.cells⟩,⟨70,.dm [.own 4]⟩,Sx.aa,⟨9,.ag [af lr,af t0]⟩,⟨9,.own 1 y0.length (strs y0)⟩,⟨9,.ag [af fG,af t1]⟩]) [0,1,4,5])=>(show Calls Tryz.prog 84 (([.val (.int .u8 ((2^1:Nat):Int)),.mF 5 0 2 2,.ptr 0 0,.ptr 1 0]:List Sx.SV).map (Sx.SV.den β)).toArray W (Sx.a7 ⟨w,[],fun _ _=>False⟩ β W (Sx.rowAt [⟨66,.ag m.cells⟩,⟨70,.dm [.own 4]⟩,Sx.aa,⟨9,.ag [af lr,af t0]⟩,⟨9,.own 1 y0.length (strs y0)⟩,⟨9,.ag [af fG,af t1]⟩]) 6 (oP 4 5 6 m.cells y1))from by rw[hy1];exact j9 fG t1 (2^1) (m.asks.testBit 1) rfl rfl rfl rfl (by omega) (by omega) (by omega) hb1 (Nat.le_trans n0 (by omega)) W β hS)
 have c45:=fun W β (hS:Sx.cw ⟨w,[],fun _ _=>False⟩ β W (Sx.rowAt [⟨66,.ag m.cells⟩,⟨70,.dm [.own 6]⟩,Sx.aa,⟨9,.ag [af lr,af t0]⟩,Sx.aa,⟨9,.ag [af fG,af t1]⟩,⟨9,.own 1 y1.length (strs y1)⟩,⟨9,.ag [af gB,af t2]⟩]) [0,1,6,7])=>(show Calls Tryz.prog 84 (([.val (.int .u8 ((2^2:Nat):Int)),.mF 7 0 2 2,.ptr 0 0,.ptr 1 0]:List Sx.SV).map (Sx.SV.den β)).toArray W (Sx.a7 ⟨w,[],fun _ _=>False⟩ β W (Sx.rowAt [⟨66,.ag m.cells⟩,⟨70,.dm [.own 6]⟩,Sx.aa,⟨9,.ag [af lr,af t0]⟩,Sx.aa,⟨9,.ag [af fG,af t1]⟩,⟨9,.own 1 y1.length (strs y1)⟩,⟨9,.ag [af gB,af t2]⟩]) 8 (oP 6 7 8 m.cells y2))from by rw[hy2];exact j9 gB t2 (2^2) (m.asks.testBit 2) rfl rfl rfl rfl (by omega) (by omega) (by omega) hb2 (Nat.le_trans n1 (by omega)) W β hS)
 have c51:=fun W β (hS:Sx.cw ⟨w,[],fun _ _=>False⟩ β W (Sx.rowAt [⟨66,.ag m.cells⟩,⟨70,.dm [.own 8]⟩,Sx.aa,⟨9,.ag [af lr,af t0]⟩,Sx.aa,⟨9,.ag [af fG,af t1]⟩,Sx.aa,⟨9,.ag [af gB,af t2]⟩,⟨9,.own 1 y2.length (strs y2)⟩,⟨9,.ag [af dC,af t3]⟩]) [0,1,8,9])=>(show Calls Tryz.prog 84 (([.val (.int .u8 ((2^3:Nat):Int)),.mF 9 0 2 2,.ptr 0 0,.ptr 1 0]:List Sx.SV).map (Sx.SV.den β)).toArray W (Sx.a7 ⟨w,[],fun _ _=>False⟩ β W (Sx.rowAt [⟨66,.ag m.cells⟩,⟨70,.dm [.own 8]⟩,Sx.aa,⟨9,.ag [af lr,af t0]⟩,Sx.aa,⟨9,.ag [af fG,af t1]⟩,Sx.aa,⟨9,.ag [af gB,af t2]⟩,⟨9,.own 1 y2.length (strs y2)⟩,⟨9,.ag [af dC,af t3]⟩]) 10 (oP 8 9 10 m.cells y3))from by rw[hy3];exact j9 dC t3 (2^3) (m.asks.testBit 3) rfl rfl rfl rfl (by omega) (by omega) (by omega) hb3 (Nat.le_trans n2 (by omega)) W β hS)
 have c57:=fun W β (hS:Sx.cw ⟨w,[],fun _ _=>False⟩ β W (Sx.rowAt [⟨66,.ag m.cells⟩,⟨70,.dm [.own 10]⟩,Sx.aa,⟨9,.ag [af lr,af t0]⟩,Sx.aa,⟨9,.ag [af fG,af t1]⟩,Sx.aa,⟨9,.ag [af gB,af t2]⟩,Sx.aa,⟨9,.ag [af dC,af t3]⟩,⟨9,.own 1 y3.length (strs y3)⟩,⟨9,.ag [af eQ,af t4]⟩]) [0,1,10,11])=>(show Calls Tryz.prog 84 (([.val (.int .u8 ((2^4:Nat):Int)),.mF 11 0 2 2,.ptr 0 0,.ptr 1 0]:List Sx.SV).map (Sx.SV.den β)).toArray W (Sx.a7 ⟨w,[],fun _ _=>False⟩ β W (Sx.rowAt [⟨66,.ag m.cells⟩,⟨70,.dm [.own 10]⟩,Sx.aa,⟨9,.ag [af lr,af t0]⟩,Sx.aa,⟨9,.ag [af fG,af t1]⟩,Sx.aa,⟨9,.ag [af gB,af t2]⟩,Sx.aa,⟨9,.ag [af dC,af t3]⟩,⟨9,.own 1 y3.length (strs y3)⟩,⟨9,.ag [af eQ,af t4]⟩]) 12 (oP 10 11 12 m.cells y4))from by rw[hy4];exact j9 eQ t4 (2^4) (m.asks.testBit 4) rfl rfl rfl rfl (by omega) (by omega) (by omega) hb4 (Nat.le_trans n3 (by omega)) W β hS)
 have c63:=fun W β (hS:Sx.cw ⟨w,[],fun _ _=>False⟩ β W (Sx.rowAt [⟨66,.ag m.cells⟩,⟨70,.dm [.own 12]⟩,Sx.aa,⟨9,.ag [af lr,af t0]⟩,Sx.aa,⟨9,.ag [af fG,af t1]⟩,Sx.aa,⟨9,.ag [af gB,af t2]⟩,Sx.aa,⟨9,.ag [af dC,af t3]⟩,Sx.aa,⟨9,.ag [af eQ,af t4]⟩,⟨9,.own 1 y4.length (strs y4)⟩,⟨9,.ag [af gr,af t5]⟩]) [0,1,12,13])=>(show Calls Tryz.prog 84 (([.val (.int .u8 ((2^5:Nat):Int)),.mF 13 0 2 2,.ptr 0 0,.ptr 1 0]:List Sx.SV).map (Sx.SV.den β)).toArray W (Sx.a7 ⟨w,[],fun _ _=>False⟩ β W (Sx.rowAt [⟨66,.ag m.cells⟩,⟨70,.dm [.own 12]⟩,Sx.aa,⟨9,.ag [af lr,af t0]⟩,Sx.aa,⟨9,.ag [af fG,af t1]⟩,Sx.aa,⟨9,.ag [af gB,af t2]⟩,Sx.aa,⟨9,.ag [af dC,af t3]⟩,Sx.aa,⟨9,.ag [af eQ,af t4]⟩,⟨9,.own 1 y4.length (strs y4)⟩,⟨9,.ag [af gr,af t5]⟩]) 14 (oP 12 13 14 m.cells y5))from by rw[hy5];exact j9 gr t5 (2^5) (m.asks.testBit 5) rfl rfl rfl rfl (by omega) (by omega) (by omega) hb5 (Nat.le_trans n4 (by omega)) W β hS)
 have c65:=fun W hW s ho=>FX 0 y5 n5 x5 w W hW s ho
 have z0:Value.tuple #[af (aQ 32 y5),.int .i64 0]=.tuple #[af (aQ 32 y5),.int .i64 0]:=rfl
 rw[←ht0]at c35
 have c23:∀W,aw [] w W→Calls Tryz.prog 72 #[pS m.src] W fun e w'=>e=.returned (.tuple #[af t1,.int .i64 (fW m.src.v m.src.n m.src.k)])∧aw [] W w':=by rw[ht1];exact c23
 have c29:∀W,aw [] w W→Calls Tryz.prog 72 #[pS m.dst] W fun e w'=>e=.returned (.tuple #[af t2,.int .i64 (fW m.dst.v m.dst.n m.dst.k)])∧aw [] W w':=by rw[ht2];exact c29
 rw[←ht3]at c49
 rw[←ht4]at c55
 rw[←ht5]at c61
 clear hy ht0 ht1 ht2 ht3 ht4 ht5 hy0 hy1 hy2 hy3 hy4 hy5
 refine Sx.dJ (args:=[kA m]) [(12,.call (.int .i64 0)),(18,.is (.bool false)),(5,.gq [(0,9,1)]),(23,.call (.tuple #[af t1,.int .i64 (fW m.src.v m.src.n m.src.k)])),(29,.call (.tuple #[af t2,.int .i64 (fW m.dst.v m.dst.n m.dst.k)])),(35,.call (af t0)),(49,.call (af t3)),(55,.call (af t4)),(61,.call (af t5)),(37,.al (oP 2 3 4 m.cells y0)),(41,.al (oP 4 5 6 m.cells y1)),(45,.al (oP 6 7 8 m.cells y2)),(51,.al (oP 8 9 10 m.cells y3)),(57,.al (oP 10 11 12 m.cells y4)),(63,.al (oP 12 13 14 m.cells y5)),(65,.dP (.val (af (aQ 32 y5))))] [] (by kernel_rfl) Tryz.func31 rfl (Nat.le_of_ble_eq_true rfl) ?_
 exact Eq.mp (by kernel_rfl) (Sx.t8 c12 c18 c23 c29 c35 c37 c41 c45 (Sx.t4 c49 c51 c55 c57 (Sx.t2 c61 c63 (And.intro c65 z0))))
theorem vO(m:Mt)(hm:m.Wf)(w:World)(hl:dG w):Calls Tryz.prog 31 #[kA m] w fun e w'=>e=.returned (.tuple #[af (Er m),.int .i64 (if bL m=true then 0 else 190)])∧aw [] w w':=by
 unfold Er
 cases hc:bL m with
 |false=>exact LD m hm hc w
 |true=>
  show Calls Tryz.prog 31 #[kA m] w fun e w'=>e=.returned (.tuple #[af (ji m),.int .i64 0])∧aw [] w w'
  by_cases ha:m.asks=0
  ·rw[show ji m=k8 by unfold ji;rw[if_pos ha]]
   exact LF m hm hc ha w
  ·rw[show ji m=aQ 32 (fR m)by unfold ji;rw[if_neg ha]]
   exact M3 m hm hc ha w hl
end Go.Proofs.YtnncigmpcdehnaaGreatDoor
