import Derived.Test.YtnncigmpcdehnaaGreatDoorQa34
namespace Go.Proofs.YtnncigmpcdehnaaGreatDoor
set_option maxRecDepth 100000
open Go Go.RowKit Go.Lib Go.Sort
theorem pos_all:∀(a:Fin 256) (k:Fin 6),(bits .and .u8 (a.val:Int) ((2^k.val:Nat):Int) !=0)=a.val.testBit k.val:=by decide+kernel
theorem pos_N(m:Mt)(hm:m.Wf)(k:Nat)(hk:k < 6):(bits .and .u8 (m.asks:Int) ((2^k:Nat):Int) !=0)=m.asks.testBit k:=pos_all ⟨m.asks,hm.asks⟩ ⟨k,hk⟩
theorem span_len(s:Nat×Nat)(h1:s.1≤65535)(h2:s.2≤65535):(spanT s).length≤11:=by
 have la:=digs10_len5 s.1 (by omega)
 have lb:=digs10_len5 s.2 (by omega)
 unfold spanT
 split
 ·omega
 ·simp only[List.length_append,List.length_cons];omega
theorem proto_len(n:Nat)(h:n≤255):(protoT n).length≤5:=by
 have la:=digs10_len5 n (by omega)
 unfold protoT
 split
 ·decide
 split
 ·decide
 ·omega
theorem pxT_len(p:Px):(pxT p).length≤100000000:=by
 unfold pxT ptxt
 split
 ·rename_i h
  exact textP_len (by unfold okP at h;simp only[Bool.and_eq_true,decide_eq_true_eq]at h;exact h.1.2)
 ·exact Nat.zero_le _
theorem joinC_len2(c:UInt8)(N:Nat):∀xs:List Bs,(∀x∈xs,x.length≤N)→(joinC c xs).length≤xs.length*(N+1)
 | [],_=>Nat.zero_le _
 | [x],h=>by
  have:=h x (by simp)
  show x.length≤1*(N+1);omega
 |x::y::r,h=>by
  have:=h x (by simp)
  have ih:=joinC_len2 c N (y::r) fun z hz=>h z (List.mem_cons_of_mem _ hz)
  show(x++c::joinC c (y::r)).length≤_
  simp only[List.length_append,List.length_cons,Nat.add_mul,Nat.one_mul]at ih ⊢
  omega
theorem mpC_call(_n:Nat)(y:List Bs)(hy:y.length≤12)(hx:∀x∈y,x.length≤100000000)(w W:World)(_:Chg [] w W)(s:Value)(ho:Own W 9 1 s y.length (strs y)):Calls Tryz.prog 87 #[s,.string ⟨#[32]⟩] W (Sx.retPost W (.val (strV (joinC 32 y)))):=by
 obtain⟨A,c,rfl,_,_⟩:=ho.form
 have  :=joinC_len2 32 100000000 y hx
 have h2:y.length*(100000000+1)≤12*(100000000+1):=Nat.mul_le_mul_right _ hy
 exact join_own ho 32 (by omega) (by omega)
theorem pm_bad(m:Mt)(hm:m.Wf)(hc:checkM m=false)(w:World):Calls Tryz.prog 31 #[mtV m] w fun e w'=>e=.returned (.tuple #[strV [],.int .i64 190])∧Chg [] w w':=by
 have c12:=fun W (_:Chg [] w W)=>(show Calls Tryz.prog 83 #[mtV m] W fun e w'=>e=.returned (.int .i64 190)∧Chg [] W w' from by
  have:=mcheck_N m hm W
  rw[hc]at this
  exact this)
 have z0:Value.tuple #[.string ⟨#[]⟩,.int .i64 190]=.tuple #[strV [],.int .i64 190]:=rfl
 refine Sx.calls_is (args:=[mtV m]) [(12,.call (.int .i64 190))] [] (by kernel_rfl) Tryz.func31 rfl (Nat.le_of_ble_eq_true rfl) ?_
 exact Eq.mp (by kernel_rfl) (And.intro c12 z0)
theorem pm_any(m:Mt)(hm:m.Wf)(hc:checkM m=true)(ha:m.asks=0)(w:World):Calls Tryz.prog 31 #[mtV m] w fun e w'=>e=.returned (.tuple #[strV kAny,.int .i64 0])∧Chg [] w w':=by
 have c12:=fun W (_:Chg [] w W)=>(show Calls Tryz.prog 83 #[mtV m] W fun e w'=>e=.returned (.int .i64 0)∧Chg [] W w' from by
  have:=mcheck_N m hm W
  rw[hc]at this
  exact this)
 have c18:Value.bool ((m.asks:Int)==0)=.bool true:=bzt (by rw[ha];rfl)
 have z0:Value.tuple #[.string ⟨#[97,110,121]⟩,.int .i64 0]=.tuple #[strV kAny,.int .i64 0]:=rfl
 refine Sx.calls_is (args:=[mtV m]) [(12,.call (.int .i64 0)),(18,.is (.bool true))] [] (by kernel_rfl) Tryz.func31 rfl (Nat.le_of_ble_eq_true rfl) ?_
 exact Eq.mp (by kernel_rfl) (Sx.t2 c12 c18 z0)
theorem pm_go(m:Mt)(hm:m.Wf)(hc:checkM m=true)(ha:m.asks≠0)(w:World)(hl:Lan w):Calls Tryz.prog 31 #[mtV m] w fun e w'=>e=.returned (.tuple #[strV (joinC 32 (matchWs m)),.int .i64 0])∧Chg [] w w':=by
 have c12:=fun W (_:Chg [] w W)=>(show Calls Tryz.prog 83 #[mtV m] W fun e w'=>e=.returned (.int .i64 0)∧Chg [] W w' from by
  have:=mcheck_N m hm W
  rw[hc]at this
  exact this)
 have c18:Value.bool ((m.asks:Int)==0)=.bool false:=bzf (by rw[beq_eq_false_iff_ne];omega)
 have c23:=fun W (hW:Chg [] w W)=>text_N m.src.v m.src.n m.src.k hm.sn W (hl.chg0 hW)
 have c29:=fun W (hW:Chg [] w W)=>text_N m.dst.v m.dst.n m.dst.k hm.dn W (hl.chg0 hW)
 have c35:=fun W (hW:Chg [] w W)=>span_N m.inn hm.inn.1 hm.inn.2 W (hl.chg0 hW)
 have c49:=fun W (hW:Chg [] w W)=>proto_N m.proto hm.pr W (hl.chg0 hW)
 have c55:=fun W (hW:Chg [] w W)=>span_N m.sp hm.sp.1 hm.sp.2 W (hl.chg0 hW)
 have c61:=fun W (hW:Chg [] w W)=>span_N m.dp hm.dp.1 hm.dp.2 W (hl.chg0 hW)
 have hb0:=pos_N m hm 0 (by omega)
 have hb1:=pos_N m hm 1 (by omega)
 have hb2:=pos_N m hm 2 (by omega)
 have hb3:=pos_N m hm 3 (by omega)
 have hb4:=pos_N m hm 4 (by omega)
 have hb5:=pos_N m hm 5 (by omega)
 obtain⟨t0,ht0⟩:∃t:Bs,t=spanT m.inn:=⟨_,rfl⟩
 obtain⟨t1,ht1⟩:∃t:Bs,t=pxT m.src:=⟨_,rfl⟩
 obtain⟨t2,ht2⟩:∃t:Bs,t=pxT m.dst:=⟨_,rfl⟩
 obtain⟨t3,ht3⟩:∃t:Bs,t=protoT m.proto:=⟨_,rfl⟩
 obtain⟨t4,ht4⟩:∃t:Bs,t=spanT m.sp:=⟨_,rfl⟩
 obtain⟨t5,ht5⟩:∃t:Bs,t=spanT m.dp:=⟨_,rfl⟩
 have l0:t0.length≤100000000:=by rw[ht0];exact Nat.le_trans (span_len _ hm.inn.1 hm.inn.2) (by omega)
 have l1:t1.length≤100000000:=by rw[ht1];exact pxT_len _
 have l2:t2.length≤100000000:=by rw[ht2];exact pxT_len _
 have l3:t3.length≤100000000:=by rw[ht3];exact Nat.le_trans (proto_len _ hm.pr) (by omega)
 have l4:t4.length≤100000000:=by rw[ht4];exact Nat.le_trans (span_len _ hm.sp.1 hm.sp.2) (by omega)
 have l5:t5.length≤100000000:=by rw[ht5];exact Nat.le_trans (span_len _ hm.dp.1 hm.dp.2) (by omega)
 obtain⟨y0,hy0⟩:∃y,y=([]:List Bs)++putB (m.asks.testBit 0) [kIn,t0]:=⟨_,rfl⟩
 obtain⟨y1,hy1⟩:∃y,y=y0++putB (m.asks.testBit 1) [kSrc,t1]:=⟨_,rfl⟩
 obtain⟨y2,hy2⟩:∃y,y=y1++putB (m.asks.testBit 2) [kDst,t2]:=⟨_,rfl⟩
 obtain⟨y3,hy3⟩:∃y,y=y2++putB (m.asks.testBit 3) [kProto,t3]:=⟨_,rfl⟩
 obtain⟨y4,hy4⟩:∃y,y=y3++putB (m.asks.testBit 4) [kSport,t4]:=⟨_,rfl⟩
 obtain⟨y5,hy5⟩:∃y,y=y4++putB (m.asks.testBit 5) [kDport,t5]:=⟨_,rfl⟩
 have hy:y5=matchWs m:=by rw[hy5,hy4,hy3,hy2,hy1,hy0,ht0,ht1,ht2,ht3,ht4,ht5];rfl
 have bd:∀(x:List Bs) (b:Bool) (p q:Bs) (n:Nat),x.length≤n→(x++putB b [p,q]).length≤n+2:=fun x b p q n h=>by
  rw[List.length_append]
  cases b
  ·show x.length+0≤_;omega
  ·show x.length+2≤_;omega
 have bx:∀(x:List Bs) (b:Bool) (p q:Bs),(∀z∈x,z.length≤100000000)→p.length≤100000000→q.length≤100000000→∀z∈x++putB b [p,q],z.length≤100000000:=fun x b p q h hp hq z hz=>by
  rcases List.mem_append.1 hz with hz|hz
  ·exact h z hz
  ·cases b with
   |true=>
    have hz:z∈[p,q]:=hz
    rcases List.mem_cons.1 hz with rfl|hz
    ·exact hp
    ·rw[List.mem_singleton.1 hz];exact hq
   |false=>cases hz
 have n0:y0.length≤2:=by rw[hy0];exact bd _ _ _ _ 0 (Nat.le_refl 0)
 have x0:∀z∈y0,z.length≤100000000:=by rw[hy0];exact bx _ _ _ _ (by simp) (by decide) l0
 have n1:y1.length≤4:=by rw[hy1];exact bd _ _ _ _ 2 n0
 have x1:∀z∈y1,z.length≤100000000:=by rw[hy1];exact bx _ _ _ _ x0 (by decide) l1
 have n2:y2.length≤6:=by rw[hy2];exact bd _ _ _ _ 4 n1
 have x2:∀z∈y2,z.length≤100000000:=by rw[hy2];exact bx _ _ _ _ x1 (by decide) l2
 have n3:y3.length≤8:=by rw[hy3];exact bd _ _ _ _ 6 n2
 have x3:∀z∈y3,z.length≤100000000:=by rw[hy3];exact bx _ _ _ _ x2 (by decide) l3
 have n4:y4.length≤10:=by rw[hy4];exact bd _ _ _ _ 8 n3
 have x4:∀z∈y4,z.length≤100000000:=by rw[hy4];exact bx _ _ _ _ x3 (by decide) l4
 have n5:y5.length≤12:=by rw[hy5];exact bd _ _ _ _ 10 n4
 have x5:∀z∈y5,z.length≤100000000:=by rw[hy5];exact bx _ _ _ _ x4 (by decide) l5
 rw[←hy]
 have c37:=fun W β (hS:Sx.See ⟨w,[],fun _ _=>False⟩ β W (Sx.rowAt [⟨66,.vals m.cells⟩,⟨70,.svs [.own 2]⟩,⟨9,.own 1 ([]:List Bs).length (strs ([]:List Bs))⟩,⟨9,.vals [strV kIn,strV t0]⟩]) [0,1,2,3])=>(show Calls Tryz.prog 84 (([.val (.int .u8 ((2^0:Nat):Int)),.slc 3 0 2 2,.ptr 0 0,.ptr 1 0]:List Sx.SV).map (Sx.SV.den β)).toArray W (Sx.gPost ⟨w,[],fun _ _=>False⟩ β W (Sx.rowAt [⟨66,.vals m.cells⟩,⟨70,.svs [.own 2]⟩,⟨9,.own 1 ([]:List Bs).length (strs ([]:List Bs))⟩,⟨9,.vals [strV kIn,strV t0]⟩]) 4 (putG 2 3 4 m.cells y0))from by rw[hy0];exact put_call kIn t0 (2^0) (m.asks.testBit 0) rfl rfl rfl rfl (by omega) (by omega) (by omega) hb0 (Nat.zero_le _) W β hS)
 have c41:=fun W β (hS:Sx.See ⟨w,[],fun _ _=>False⟩ β W (Sx.rowAt [⟨66,.vals m.cells⟩,⟨70,.svs [.own 4]⟩,Sx.deadRow,⟨9,.vals [strV kIn,strV t0]⟩,⟨9,.own 1 y0.length (strs y0)⟩,⟨9,.vals [strV kSrc,strV t1]⟩]) [0,1,4,5])=>(show Calls Tryz.prog 84 (([.val (.int .u8 ((2^1:Nat):Int)),.slc 5 0 2 2,.ptr 0 0,.ptr 1 0]:List Sx.SV).map (Sx.SV.den β)).toArray W (Sx.gPost ⟨w,[],fun _ _=>False⟩ β W (Sx.rowAt [⟨66,.vals m.cells⟩,⟨70,.svs [.own 4]⟩,Sx.deadRow,⟨9,.vals [strV kIn,strV t0]⟩,⟨9,.own 1 y0.length (strs y0)⟩,⟨9,.vals [strV kSrc,strV t1]⟩]) 6 (putG 4 5 6 m.cells y1))from by rw[hy1];exact put_call kSrc t1 (2^1) (m.asks.testBit 1) rfl rfl rfl rfl (by omega) (by omega) (by omega) hb1 (Nat.le_trans n0 (by omega)) W β hS)
 have c45:=fun W β (hS:Sx.See ⟨w,[],fun _ _=>False⟩ β W (Sx.rowAt [⟨66,.vals m.cells⟩,⟨70,.svs [.own 6]⟩,Sx.deadRow,⟨9,.vals [strV kIn,strV t0]⟩,Sx.deadRow,⟨9,.vals [strV kSrc,strV t1]⟩,⟨9,.own 1 y1.length (strs y1)⟩,⟨9,.vals [strV kDst,strV t2]⟩]) [0,1,6,7])=>(show Calls Tryz.prog 84 (([.val (.int .u8 ((2^2:Nat):Int)),.slc 7 0 2 2,.ptr 0 0,.ptr 1 0]:List Sx.SV).map (Sx.SV.den β)).toArray W (Sx.gPost ⟨w,[],fun _ _=>False⟩ β W (Sx.rowAt [⟨66,.vals m.cells⟩,⟨70,.svs [.own 6]⟩,Sx.deadRow,⟨9,.vals [strV kIn,strV t0]⟩,Sx.deadRow,⟨9,.vals [strV kSrc,strV t1]⟩,⟨9,.own 1 y1.length (strs y1)⟩,⟨9,.vals [strV kDst,strV t2]⟩]) 8 (putG 6 7 8 m.cells y2))from by rw[hy2];exact put_call kDst t2 (2^2) (m.asks.testBit 2) rfl rfl rfl rfl (by omega) (by omega) (by omega) hb2 (Nat.le_trans n1 (by omega)) W β hS)
 have c51:=fun W β (hS:Sx.See ⟨w,[],fun _ _=>False⟩ β W (Sx.rowAt [⟨66,.vals m.cells⟩,⟨70,.svs [.own 8]⟩,Sx.deadRow,⟨9,.vals [strV kIn,strV t0]⟩,Sx.deadRow,⟨9,.vals [strV kSrc,strV t1]⟩,Sx.deadRow,⟨9,.vals [strV kDst,strV t2]⟩,⟨9,.own 1 y2.length (strs y2)⟩,⟨9,.vals [strV kProto,strV t3]⟩]) [0,1,8,9])=>(show Calls Tryz.prog 84 (([.val (.int .u8 ((2^3:Nat):Int)),.slc 9 0 2 2,.ptr 0 0,.ptr 1 0]:List Sx.SV).map (Sx.SV.den β)).toArray W (Sx.gPost ⟨w,[],fun _ _=>False⟩ β W (Sx.rowAt [⟨66,.vals m.cells⟩,⟨70,.svs [.own 8]⟩,Sx.deadRow,⟨9,.vals [strV kIn,strV t0]⟩,Sx.deadRow,⟨9,.vals [strV kSrc,strV t1]⟩,Sx.deadRow,⟨9,.vals [strV kDst,strV t2]⟩,⟨9,.own 1 y2.length (strs y2)⟩,⟨9,.vals [strV kProto,strV t3]⟩]) 10 (putG 8 9 10 m.cells y3))from by rw[hy3];exact put_call kProto t3 (2^3) (m.asks.testBit 3) rfl rfl rfl rfl (by omega) (by omega) (by omega) hb3 (Nat.le_trans n2 (by omega)) W β hS)
 have c57:=fun W β (hS:Sx.See ⟨w,[],fun _ _=>False⟩ β W (Sx.rowAt [⟨66,.vals m.cells⟩,⟨70,.svs [.own 10]⟩,Sx.deadRow,⟨9,.vals [strV kIn,strV t0]⟩,Sx.deadRow,⟨9,.vals [strV kSrc,strV t1]⟩,Sx.deadRow,⟨9,.vals [strV kDst,strV t2]⟩,Sx.deadRow,⟨9,.vals [strV kProto,strV t3]⟩,⟨9,.own 1 y3.length (strs y3)⟩,⟨9,.vals [strV kSport,strV t4]⟩]) [0,1,10,11])=>(show Calls Tryz.prog 84 (([.val (.int .u8 ((2^4:Nat):Int)),.slc 11 0 2 2,.ptr 0 0,.ptr 1 0]:List Sx.SV).map (Sx.SV.den β)).toArray W (Sx.gPost ⟨w,[],fun _ _=>False⟩ β W (Sx.rowAt [⟨66,.vals m.cells⟩,⟨70,.svs [.own 10]⟩,Sx.deadRow,⟨9,.vals [strV kIn,strV t0]⟩,Sx.deadRow,⟨9,.vals [strV kSrc,strV t1]⟩,Sx.deadRow,⟨9,.vals [strV kDst,strV t2]⟩,Sx.deadRow,⟨9,.vals [strV kProto,strV t3]⟩,⟨9,.own 1 y3.length (strs y3)⟩,⟨9,.vals [strV kSport,strV t4]⟩]) 12 (putG 10 11 12 m.cells y4))from by rw[hy4];exact put_call kSport t4 (2^4) (m.asks.testBit 4) rfl rfl rfl rfl (by omega) (by omega) (by omega) hb4 (Nat.le_trans n3 (by omega)) W β hS)
 have c63:=fun W β (hS:Sx.See ⟨w,[],fun _ _=>False⟩ β W (Sx.rowAt [⟨66,.vals m.cells⟩,⟨70,.svs [.own 12]⟩,Sx.deadRow,⟨9,.vals [strV kIn,strV t0]⟩,Sx.deadRow,⟨9,.vals [strV kSrc,strV t1]⟩,Sx.deadRow,⟨9,.vals [strV kDst,strV t2]⟩,Sx.deadRow,⟨9,.vals [strV kProto,strV t3]⟩,Sx.deadRow,⟨9,.vals [strV kSport,strV t4]⟩,⟨9,.own 1 y4.length (strs y4)⟩,⟨9,.vals [strV kDport,strV t5]⟩]) [0,1,12,13])=>(show Calls Tryz.prog 84 (([.val (.int .u8 ((2^5:Nat):Int)),.slc 13 0 2 2,.ptr 0 0,.ptr 1 0]:List Sx.SV).map (Sx.SV.den β)).toArray W (Sx.gPost ⟨w,[],fun _ _=>False⟩ β W (Sx.rowAt [⟨66,.vals m.cells⟩,⟨70,.svs [.own 12]⟩,Sx.deadRow,⟨9,.vals [strV kIn,strV t0]⟩,Sx.deadRow,⟨9,.vals [strV kSrc,strV t1]⟩,Sx.deadRow,⟨9,.vals [strV kDst,strV t2]⟩,Sx.deadRow,⟨9,.vals [strV kProto,strV t3]⟩,Sx.deadRow,⟨9,.vals [strV kSport,strV t4]⟩,⟨9,.own 1 y4.length (strs y4)⟩,⟨9,.vals [strV kDport,strV t5]⟩]) 14 (putG 12 13 14 m.cells y5))from by rw[hy5];exact put_call kDport t5 (2^5) (m.asks.testBit 5) rfl rfl rfl rfl (by omega) (by omega) (by omega) hb5 (Nat.le_trans n4 (by omega)) W β hS)
 have c65:=fun W hW s ho=>mpC_call 0 y5 n5 x5 w W hW s ho
 have z0:Value.tuple #[strV (joinC 32 y5),.int .i64 0]=.tuple #[strV (joinC 32 y5),.int .i64 0]:=rfl
 rw[←ht0]at c35
 have c23:∀W,Chg [] w W→Calls Tryz.prog 72 #[pxV m.src] W fun e w'=>e=.returned (.tuple #[strV t1,.int .i64 (errP m.src.v m.src.n m.src.k)])∧Chg [] W w':=by rw[ht1];exact c23
 have c29:∀W,Chg [] w W→Calls Tryz.prog 72 #[pxV m.dst] W fun e w'=>e=.returned (.tuple #[strV t2,.int .i64 (errP m.dst.v m.dst.n m.dst.k)])∧Chg [] W w':=by rw[ht2];exact c29
 rw[←ht3]at c49
 rw[←ht4]at c55
 rw[←ht5]at c61
 clear hy ht0 ht1 ht2 ht3 ht4 ht5 hy0 hy1 hy2 hy3 hy4 hy5
 refine Sx.calls_is (args:=[mtV m]) [(12,.call (.int .i64 0)),(18,.is (.bool false)),(5,.nilsAt [(0,9,1)]),(23,.call (.tuple #[strV t1,.int .i64 (errP m.src.v m.src.n m.src.k)])),(29,.call (.tuple #[strV t2,.int .i64 (errP m.dst.v m.dst.n m.dst.k)])),(35,.call (strV t0)),(49,.call (strV t3)),(55,.call (strV t4)),(61,.call (strV t5)),(37,.callG (putG 2 3 4 m.cells y0)),(41,.callG (putG 4 5 6 m.cells y1)),(45,.callG (putG 6 7 8 m.cells y2)),(51,.callG (putG 8 9 10 m.cells y3)),(57,.callG (putG 10 11 12 m.cells y4)),(63,.callG (putG 12 13 14 m.cells y5)),(65,.callO (.val (strV (joinC 32 y5))))] [] (by kernel_rfl) Tryz.func31 rfl (Nat.le_of_ble_eq_true rfl) ?_
 exact Eq.mp (by kernel_rfl) (Sx.t8 c12 c18 c23 c29 c35 c37 c41 c45 (Sx.t4 c49 c51 c55 c57 (Sx.t2 c61 c63 (And.intro c65 z0))))
theorem printMatch_N(m:Mt)(hm:m.Wf)(w:World)(hl:Lan w):Calls Tryz.prog 31 #[mtV m] w fun e w'=>e=.returned (.tuple #[strV (pmT m),.int .i64 (if checkM m=true then 0 else 190)])∧Chg [] w w':=by
 unfold pmT
 cases hc:checkM m with
 |false=>exact pm_bad m hm hc w
 |true=>
  show Calls Tryz.prog 31 #[mtV m] w fun e w'=>e=.returned (.tuple #[strV (matchT m),.int .i64 0])∧Chg [] w w'
  by_cases ha:m.asks=0
  ·rw[show matchT m=kAny by unfold matchT;rw[if_pos ha]]
   exact pm_any m hm hc ha w
  ·rw[show matchT m=joinC 32 (matchWs m)by unfold matchT;rw[if_neg ha]]
   exact pm_go m hm hc ha w hl
end Go.Proofs.YtnncigmpcdehnaaGreatDoor
