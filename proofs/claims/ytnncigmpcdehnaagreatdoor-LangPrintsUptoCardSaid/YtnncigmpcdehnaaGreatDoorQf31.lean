import Derived.Test.YtnncigmpcdehnaaGreatDoorQf30
namespace Go.Proofs.YtnncigmpcdehnaaGreatDoor
set_option maxRecDepth 100000
open Go Go.RowKit Go.Lib Go.Sort _root_.Go.Proofs.Tryz
set_option maxRecDepth 100000
theorem MZ:∀(a:Fin 256) (k:Fin 6),(bits .and .u8 (a.val:Int) ((2^k.val:Nat):Int) !=0)=a.val.testBit k.val:=by decide+kernel
theorem wT(m:Mt)(hm:m.Wf)(k:Nat)(hk:k < 6):(bits .and .u8 (m.asks:Int) ((2^k:Nat):Int) !=0)=m.asks.testBit k:=MZ ⟨m.asks,hm.asks⟩ ⟨k,hk⟩
theorem gN(s:Nat×Nat)(h1:s.1≤65535)(h2:s.2≤65535):(dt s).length≤11:=by
 have la:=fN s.1 (by omega)
 have lb:=fN s.2 (by omega)
 unfold dt
 split
 ·omega
 ·simp only[List.length_append,List.length_cons];omega
theorem rh(n:Nat)(h:n≤255):(dc n).length≤5:=by
 have la:=fN n (by omega)
 unfold dc
 split
 ·decide
 split
 ·decide
 ·omega
theorem ki(p:Px):(pK p).length≤100000000:=by
 unfold pK nh
 split
 ·rename_i h
  exact FI (by unfold gh at h;simp only[Bool.and_eq_true,decide_eq_true_eq]at h;exact h.1.2)
 ·exact Nat.zero_le _
theorem pn(c:UInt8)(N:Nat):∀xs:List Bs,(∀x∈xs,x.length≤N)→(ao c xs).length≤xs.length*(N+1)
 | [],_=>Nat.zero_le _
 | [x],h=>by
  have:=h x (by simp)
  show x.length≤1*(N+1);omega
 |x::y::r,h=>by
  have:=h x (by simp)
  have ih:=pn c N (y::r) fun z hz=>h z (List.mem_cons_of_mem _ hz)
  show(x++c::ao c (y::r)).length≤_
  simp only[List.length_append,List.length_cons,Nat.add_mul,Nat.one_mul]at ih ⊢
  omega
theorem Js(_n:Nat)(y:List Bs)(hy:y.length≤12)(hx:∀x∈y,x.length≤100000000)(w W:World)(_:ai [] w W)(s:Value)(ho:Own W 9 1 s y.length (strs y)):Calls prog 87 #[s,.string ⟨#[32]⟩] W (Sx.fU W (.val (ab (ao 32 y)))):=by
 obtain⟨A,c,rfl,_,_⟩:=ho.form
 have  :=pn 32 100000000 y hx
 have h2:y.length*(100000000+1)≤12*(100000000+1):=Nat.mul_le_mul_right _ hy
 exact AX ho 32 (by omega) (by omega)
theorem P0(m:Mt)(hm:m.Wf)(hc:bp m=false)(w:World):Calls prog 31 #[j5 m] w (Rn w (.tuple #[ab [],.int .i64 190])):=by
 have c12:=fun W (_:ai [] w W)=>(show Calls prog 83 #[j5 m] W (Rn W (.int .i64 190))from by
  have:=qm m hm W
  rw[hc]at this
  exact this)
 have z0:Value.tuple #[.string ⟨#[]⟩,.int .i64 190]=.tuple #[ab [],.int .i64 190]:=rfl
 refine Sx.aF (args:=[j5 m]) [(12,.call (.int .i64 190))] [] (by kernel_rfl) func31 rfl (cn rfl) ?_
 exact Eq.mp (by kernel_rfl) (And.intro c12 z0)
theorem P1(m:Mt)(hm:m.Wf)(hc:bp m=true)(ha:m.asks=0)(w:World):Calls prog 31 #[j5 m] w (Rn w (.tuple #[ab mf,.int .i64 0])):=by
 have c12:=fun W (_:ai [] w W)=>(show Calls prog 83 #[j5 m] W (Rn W (.int .i64 0))from by
  have:=qm m hm W
  rw[hc]at this
  exact this)
 have c18:Value.bool ((m.asks:Int)==0)=.bool true:=j4 (by rw[ha];rfl)
 have z0:Value.tuple #[.string ⟨#[97,110,121]⟩,.int .i64 0]=.tuple #[ab mf,.int .i64 0]:=rfl
 refine Sx.aF (args:=[j5 m]) [(12,.call (.int .i64 0)),(18,.is (.bool true))] [] (by kernel_rfl) func31 rfl (cn rfl) ?_
 exact Eq.mp (by kernel_rfl) (Sx.t2 c12 c18 z0)
theorem RG(m:Mt)(hm:m.Wf)(hc:bp m=true)(ha:m.asks≠0)(w:World)(hl:eb w):Calls prog 31 #[j5 m] w (Rn w (.tuple #[ab (ao 32 (fY m)),.int .i64 0])):=by
 have c12:=fun W (_:ai [] w W)=>(show Calls prog 83 #[j5 m] W (Rn W (.int .i64 0))from by
  have:=qm m hm W
  rw[hc]at this
  exact this)
 have c18:Value.bool ((m.asks:Int)==0)=.bool false:=ib (by rw[beq_eq_false_iff_ne];omega)
 have c23:=fun W (hW:ai [] w W)=>Cq m.src.v m.src.n m.src.k hm.sn W (hl.df hW)
 have c29:=fun W (hW:ai [] w W)=>Cq m.dst.v m.dst.n m.dst.k hm.dn W (hl.df hW)
 have c35:=fun W (hW:ai [] w W)=>Cy m.ff hm.ff.1 hm.ff.2 W (hl.df hW)
 have c49:=fun W (hW:ai [] w W)=>MX m.bb hm.pr W (hl.df hW)
 have c55:=fun W (hW:ai [] w W)=>Cy m.sp hm.sp.1 hm.sp.2 W (hl.df hW)
 have c61:=fun W (hW:ai [] w W)=>Cy m.dp hm.dp.1 hm.dp.2 W (hl.df hW)
 have hb0:=wT m hm 0 (by omega)
 have hb1:=wT m hm 1 (by omega)
 have hb2:=wT m hm 2 (by omega)
 have hb3:=wT m hm 3 (by omega)
 have hb4:=wT m hm 4 (by omega)
 have hb5:=wT m hm 5 (by omega)
 obtain⟨t0,ht0⟩:∃t:Bs,t=dt m.ff:=⟨_,rfl⟩
 obtain⟨t1,ht1⟩:∃t:Bs,t=pK m.src:=⟨_,rfl⟩
 obtain⟨t2,ht2⟩:∃t:Bs,t=pK m.dst:=⟨_,rfl⟩
 obtain⟨t3,ht3⟩:∃t:Bs,t=dc m.bb:=⟨_,rfl⟩
 obtain⟨t4,ht4⟩:∃t:Bs,t=dt m.sp:=⟨_,rfl⟩
 obtain⟨t5,ht5⟩:∃t:Bs,t=dt m.dp:=⟨_,rfl⟩
 have l0:t0.length≤100000000:=by rw[ht0];exact Nat.le_trans (gN _ hm.ff.1 hm.ff.2) (by omega)
 have l1:t1.length≤100000000:=by rw[ht1];exact ki _
 have l2:t2.length≤100000000:=by rw[ht2];exact ki _
 have l3:t3.length≤100000000:=by rw[ht3];exact Nat.le_trans (rh _ hm.pr) (by omega)
 have l4:t4.length≤100000000:=by rw[ht4];exact Nat.le_trans (gN _ hm.sp.1 hm.sp.2) (by omega)
 have l5:t5.length≤100000000:=by rw[ht5];exact Nat.le_trans (gN _ hm.dp.1 hm.dp.2) (by omega)
 obtain⟨y0,hy0⟩:∃y,y=([]:List Bs)++uj (m.asks.testBit 0) [mb,t0]:=⟨_,rfl⟩
 obtain⟨y1,hy1⟩:∃y,y=y0++uj (m.asks.testBit 1) [fZ,t1]:=⟨_,rfl⟩
 obtain⟨y2,hy2⟩:∃y,y=y1++uj (m.asks.testBit 2) [gX,t2]:=⟨_,rfl⟩
 obtain⟨y3,hy3⟩:∃y,y=y2++uj (m.asks.testBit 3) [dB,t3]:=⟨_,rfl⟩
 obtain⟨y4,hy4⟩:∃y,y=y3++uj (m.asks.testBit 4) [eQ,t4]:=⟨_,rfl⟩
 obtain⟨y5,hy5⟩:∃y,y=y4++uj (m.asks.testBit 5) [gF,t5]:=⟨_,rfl⟩
 have hy:y5=fY m:=by rw[hy5,hy4,hy3,hy2,hy1,hy0,ht0,ht1,ht2,ht3,ht4,ht5];rfl
 have bd:∀(x:List Bs) (b:Bool) (p q:Bs) (n:Nat),x.length≤n→(x++uj b [p,q]).length≤n+2:=fun x b p q n h=>by
  rw[List.length_append]
  cases b
  ·show x.length+0≤_;omega
  ·show x.length+2≤_;omega
 have bx:∀(x:List Bs) (b:Bool) (p q:Bs),(∀z∈x,z.length≤100000000)→p.length≤100000000→q.length≤100000000→∀z∈x++uj b [p,q],z.length≤100000000:=fun x b p q h hp hq z hz=>by
  rcases List.mem_append.1 hz with hz|hz
  ·exact h z hz
  ·cases b with
   |true=>
    have hz:z∈[p,q]:=hz
    rcases List.mem_cons.1 hz with rfl|hz
    ·exact hp
    ·rw[List.mem_singleton.1 hz];exact hq
   |false=>cases hz
 have n0:y0.length≤2:=by rw[hy0];exact bd _ _ _ _ 0 (Nat.le_refl 0)
 have x0:∀z∈y0,z.length≤100000000:=by rw[hy0];exact bx _ _ _ _ (by simp) (by decide) l0
 have n1:y1.length≤4:=by rw[hy1];exact bd _ _ _ _ 2 n0
 have x1:∀z∈y1,z.length≤100000000:=by rw[hy1];exact bx _ _ _ _ x0 (by decide) l1
 have n2:y2.length≤6:=by rw[hy2];exact bd _ _ _ _ 4 n1
 have x2:∀z∈y2,z.length≤100000000:=by rw[hy2];exact bx _ _ _ _ x1 (by decide) l2
 have n3:y3.length≤8:=by rw[hy3];exact bd _ _ _ _ 6 n2
 have x3:∀z∈y3,z.length≤100000000:=by rw[hy3];exact bx _ _ _ _ x2 (by decide) l3
 have n4:y4.length≤10:=by rw[hy4];exact bd _ _ _ _ 8 n3
 have x4:∀z∈y4,z.length≤100000000:=by rw[hy4];exact bx _ _ _ _ x3 (by decide) l4
 have n5:y5.length≤12:=by rw[hy5];exact bd _ _ _ _ 10 n4
 have x5:∀z∈y5,z.length≤100000000:=by rw[hy5];exact bx _ _ _ _ x4 (by decide) l5
 rw[←hy]
 have c37:=fun W β (hS:Sx.eF ⟨w,[],fun _ _=>False⟩ β W (Sx.rowAt [⟨66,.ak m.cells⟩,⟨70,.dK [.own 2]⟩,⟨9,.own 1 ([]:List Bs).length (strs ([]:List Bs))⟩,⟨9,.ak [ab mb,ab t0]⟩]) [0,1,2,3])=>(show Calls prog 84 (([.val (.int .u8 ((2^0:Nat):Int)),.mP 3 0 2 2,.ptr 0 0,.ptr 1 0]:List Sx.SV).map (Sx.SV.den β)).toArray W (Sx.aY ⟨w,[],fun _ _=>False⟩ β W (Sx.rowAt [⟨66,.ak m.cells⟩,⟨70,.dK [.own 2]⟩,⟨9,.own 1 ([]:List Bs).length (strs ([]:List Bs))⟩,⟨9,.ak [ab mb,ab t0]⟩]) 4 (qe 2 3 4 m.cells y0))from by rw[hy0];exact lf mb t0 (2^0) (m.asks.testBit 0) rfl rfl rfl rfl (by omega) (by omega) (by omega) hb0 (Nat.zero_le _) W β hS)
 have c41:=fun W β (hS:Sx.eF ⟨w,[],fun _ _=>False⟩ β W (Sx.rowAt [⟨66,.ak m.cells⟩,⟨70,.dK [.own 4]⟩,Sx.an,⟨9,.ak [ab mb,ab t0]⟩,⟨9,.own 1 y0.length (strs y0)⟩,⟨9,.ak [ab fZ,ab t1]⟩]) [0,1,4,5])=>(show Calls prog 84 (([.val (.int .u8 ((2^1:Nat):Int)),.mP 5 0 2 2,.ptr 0 0,.ptr 1 0]:List Sx.SV).map (Sx.SV.den β)).toArray W (Sx.aY ⟨w,[],fun _ _=>False⟩ β W (Sx.rowAt [⟨66,.ak m.cells⟩,⟨70,.dK [.own 4]⟩,Sx.an,⟨9,.ak [ab mb,ab t0]⟩,⟨9,.own 1 y0.length (strs y0)⟩,⟨9,.ak [ab fZ,ab t1]⟩]) 6 (qe 4 5 6 m.cells y1))from by rw[hy1];exact lf fZ t1 (2^1) (m.asks.testBit 1) rfl rfl rfl rfl (by omega) (by omega) (by omega) hb1 (Nat.le_trans n0 (by omega)) W β hS)
 have c45:=fun W β (hS:Sx.eF ⟨w,[],fun _ _=>False⟩ β W (Sx.rowAt [⟨66,.ak m.cells⟩,⟨70,.dK [.own 6]⟩,Sx.an,⟨9,.ak [ab mb,ab t0]⟩,Sx.an,⟨9,.ak [ab fZ,ab t1]⟩,⟨9,.own 1 y1.length (strs y1)⟩,⟨9,.ak [ab gX,ab t2]⟩]) [0,1,6,7])=>(show Calls prog 84 (([.val (.int .u8 ((2^2:Nat):Int)),.mP 7 0 2 2,.ptr 0 0,.ptr 1 0]:List Sx.SV).map (Sx.SV.den β)).toArray W (Sx.aY ⟨w,[],fun _ _=>False⟩ β W (Sx.rowAt [⟨66,.ak m.cells⟩,⟨70,.dK [.own 6]⟩,Sx.an,⟨9,.ak [ab mb,ab t0]⟩,Sx.an,⟨9,.ak [ab fZ,ab t1]⟩,⟨9,.own 1 y1.length (strs y1)⟩,⟨9,.ak [ab gX,ab t2]⟩]) 8 (qe 6 7 8 m.cells y2))from by rw[hy2];exact lf gX t2 (2^2) (m.asks.testBit 2) rfl rfl rfl rfl (by omega) (by omega) (by omega) hb2 (Nat.le_trans n1 (by omega)) W β hS)
 have c51:=fun W β (hS:Sx.eF ⟨w,[],fun _ _=>False⟩ β W (Sx.rowAt [⟨66,.ak m.cells⟩,⟨70,.dK [.own 8]⟩,Sx.an,⟨9,.ak [ab mb,ab t0]⟩,Sx.an,⟨9,.ak [ab fZ,ab t1]⟩,Sx.an,⟨9,.ak [ab gX,ab t2]⟩,⟨9,.own 1 y2.length (strs y2)⟩,⟨9,.ak [ab dB,ab t3]⟩]) [0,1,8,9])=>(show Calls prog 84 (([.val (.int .u8 ((2^3:Nat):Int)),.mP 9 0 2 2,.ptr 0 0,.ptr 1 0]:List Sx.SV).map (Sx.SV.den β)).toArray W (Sx.aY ⟨w,[],fun _ _=>False⟩ β W (Sx.rowAt [⟨66,.ak m.cells⟩,⟨70,.dK [.own 8]⟩,Sx.an,⟨9,.ak [ab mb,ab t0]⟩,Sx.an,⟨9,.ak [ab fZ,ab t1]⟩,Sx.an,⟨9,.ak [ab gX,ab t2]⟩,⟨9,.own 1 y2.length (strs y2)⟩,⟨9,.ak [ab dB,ab t3]⟩]) 10 (qe 8 9 10 m.cells y3))from by rw[hy3];exact lf dB t3 (2^3) (m.asks.testBit 3) rfl rfl rfl rfl (by omega) (by omega) (by omega) hb3 (Nat.le_trans n2 (by omega)) W β hS)
 have c57:=fun W β (hS:Sx.eF ⟨w,[],fun _ _=>False⟩ β W (Sx.rowAt [⟨66,.ak m.cells⟩,⟨70,.dK [.own 10]⟩,Sx.an,⟨9,.ak [ab mb,ab t0]⟩,Sx.an,⟨9,.ak [ab fZ,ab t1]⟩,Sx.an,⟨9,.ak [ab gX,ab t2]⟩,Sx.an,⟨9,.ak [ab dB,ab t3]⟩,⟨9,.own 1 y3.length (strs y3)⟩,⟨9,.ak [ab eQ,ab t4]⟩]) [0,1,10,11])=>(show Calls prog 84 (([.val (.int .u8 ((2^4:Nat):Int)),.mP 11 0 2 2,.ptr 0 0,.ptr 1 0]:List Sx.SV).map (Sx.SV.den β)).toArray W (Sx.aY ⟨w,[],fun _ _=>False⟩ β W (Sx.rowAt [⟨66,.ak m.cells⟩,⟨70,.dK [.own 10]⟩,Sx.an,⟨9,.ak [ab mb,ab t0]⟩,Sx.an,⟨9,.ak [ab fZ,ab t1]⟩,Sx.an,⟨9,.ak [ab gX,ab t2]⟩,Sx.an,⟨9,.ak [ab dB,ab t3]⟩,⟨9,.own 1 y3.length (strs y3)⟩,⟨9,.ak [ab eQ,ab t4]⟩]) 12 (qe 10 11 12 m.cells y4))from by rw[hy4];exact lf eQ t4 (2^4) (m.asks.testBit 4) rfl rfl rfl rfl (by omega) (by omega) (by omega) hb4 (Nat.le_trans n3 (by omega)) W β hS)
 have c63:=fun W β (hS:Sx.eF ⟨w,[],fun _ _=>False⟩ β W (Sx.rowAt [⟨66,.ak m.cells⟩,⟨70,.dK [.own 12]⟩,Sx.an,⟨9,.ak [ab mb,ab t0]⟩,Sx.an,⟨9,.ak [ab fZ,ab t1]⟩,Sx.an,⟨9,.ak [ab gX,ab t2]⟩,Sx.an,⟨9,.ak [ab dB,ab t3]⟩,Sx.an,⟨9,.ak [ab eQ,ab t4]⟩,⟨9,.own 1 y4.length (strs y4)⟩,⟨9,.ak [ab gF,ab t5]⟩]) [0,1,12,13])=>(show Calls prog 84 (([.val (.int .u8 ((2^5:Nat):Int)),.mP 13 0 2 2,.ptr 0 0,.ptr 1 0]:List Sx.SV).map (Sx.SV.den β)).toArray W (Sx.aY ⟨w,[],fun _ _=>False⟩ β W (Sx.rowAt [⟨66,.ak m.cells⟩,⟨70,.dK [.own 12]⟩,Sx.an,⟨9,.ak [ab mb,ab t0]⟩,Sx.an,⟨9,.ak [ab fZ,ab t1]⟩,Sx.an,⟨9,.ak [ab gX,ab t2]⟩,Sx.an,⟨9,.ak [ab dB,ab t3]⟩,Sx.an,⟨9,.ak [ab eQ,ab t4]⟩,⟨9,.own 1 y4.length (strs y4)⟩,⟨9,.ak [ab gF,ab t5]⟩]) 14 (qe 12 13 14 m.cells y5))from by rw[hy5];exact lf gF t5 (2^5) (m.asks.testBit 5) rfl rfl rfl rfl (by omega) (by omega) (by omega) hb5 (Nat.le_trans n4 (by omega)) W β hS)
 have c65:=fun W hW s ho=>Js 0 y5 n5 x5 w W hW s ho
 have z0:Value.tuple #[ab (ao 32 y5),.int .i64 0]=.tuple #[ab (ao 32 y5),.int .i64 0]:=rfl
 rw[←ht0]at c35
 have c23:∀W,ai [] w W→Calls prog 72 #[n9 m.src] W (Rn W (.tuple #[ab t1,.int .i64 (dC m.src.v m.src.n m.src.k)])):=by rw[ht1];exact c23
 have c29:∀W,ai [] w W→Calls prog 72 #[n9 m.dst] W (Rn W (.tuple #[ab t2,.int .i64 (dC m.dst.v m.dst.n m.dst.k)])):=by rw[ht2];exact c29
 rw[←ht3]at c49
 rw[←ht4]at c55
 rw[←ht5]at c61
 clear hy ht0 ht1 ht2 ht3 ht4 ht5 hy0 hy1 hy2 hy3 hy4 hy5
 refine Sx.aF (args:=[j5 m]) [(12,.call (.int .i64 0)),(18,.is (.bool false)),(5,.uH [(0,9,1)]),(23,.call (.tuple #[ab t1,.int .i64 (dC m.src.v m.src.n m.src.k)])),(29,.call (.tuple #[ab t2,.int .i64 (dC m.dst.v m.dst.n m.dst.k)])),(35,.call (ab t0)),(49,.call (ab t3)),(55,.call (ab t4)),(61,.call (ab t5)),(37,.aq (qe 2 3 4 m.cells y0)),(41,.aq (qe 4 5 6 m.cells y1)),(45,.aq (qe 6 7 8 m.cells y2)),(51,.aq (qe 8 9 10 m.cells y3)),(57,.aq (qe 10 11 12 m.cells y4)),(63,.aq (qe 12 13 14 m.cells y5)),(65,.dS (.val (ab (ao 32 y5))))] [] (by kernel_rfl) func31 rfl (cn rfl) ?_
 exact Eq.mp (by kernel_rfl) (Sx.t8 c12 c18 c23 c29 c35 c37 c41 c45 (Sx.t4 c49 c51 c55 c57 (Sx.t2 c61 c63 (And.intro c65 z0))))
theorem yo(m:Mt)(hm:m.Wf)(w:World)(hl:eb w):Calls prog 31 #[j5 m] w (Rn w (.tuple #[ab (Ak m),.int .i64 (if bp m=true then 0 else 190)])):=by
 unfold Ak
 cases hc:bp m with
 |false=>exact P0 m hm hc w
 |true=>
  show Calls prog 31 #[j5 m] w (Rn w (.tuple #[ab (dQ m),.int .i64 0]))
  by_cases ha:m.asks=0
  ·rw[show dQ m=mf by unfold dQ;rw[if_pos ha]]
   exact P1 m hm hc ha w
  ·rw[show dQ m=ao 32 (fY m)by unfold dQ;rw[if_neg ha]]
   exact RG m hm hc ha w hl
end Go.Proofs.YtnncigmpcdehnaaGreatDoor
