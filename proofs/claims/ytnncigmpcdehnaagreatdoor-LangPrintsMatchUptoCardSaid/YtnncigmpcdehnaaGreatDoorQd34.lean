import Derived.Test.YtnncigmpcdehnaaGreatDoorQd33
namespace Go.Proofs.YtnncigmpcdehnaaGreatDoor
set_option maxRecDepth 100000
open Go Go.RowKit Go.Lib Go.Sort
def DW(m:Mt):List Bs:=[cX m.eQ,qV m.src,qV m.dst,cQ m.aV,cX m.sp,cX m.dp]
def sK(m:Mt):Nat→List Bs
 | 0=>[]
 |i+1=>sK m i++ig m i
theorem Mz(m:Mt):sK m 6=iK m:=by
 show []++ig m 0++_++_++_++_++_=_
 rw[List.nil_append];rfl
theorem tq(k:Bs)(h:k∈wN):k.length≤5∧k≠[]:=by
 revert k
 decide
theorem tp(m:Mt):∀i < 6,∃k t,wN[i]?=some k∧(DW m)[i]?=some t∧bG m i=[k,t]
 | 0,_=>⟨_,_,rfl,rfl,rfl⟩
 | 1,_=>⟨_,_,rfl,rfl,rfl⟩
 | 2,_=>⟨_,_,rfl,rfl,rfl⟩
 | 3,_=>⟨_,_,rfl,rfl,rfl⟩
 | 4,_=>⟨_,_,rfl,rfl,rfl⟩
 | 5,_=>⟨_,_,rfl,rfl,rfl⟩
theorem Fj(m:Mt)(hm:m.Wf)(t:Bs)(h:t∈DW m):t.length≤100000000:=by
 unfold DW at h
 simp only[List.mem_cons,List.not_mem_nil,or_false]at h
 rcases h with rfl|rfl|rfl|rfl|rfl|rfl
 ·exact Nat.le_trans (j4 _ hm.eQ.1 hm.eQ.2) (by omega)
 ·exact mW _
 ·exact mW _
 ·exact Nat.le_trans (uB _ hm.pr) (by omega)
 ·exact Nat.le_trans (j4 _ hm.sp.1 hm.sp.2) (by omega)
 ·exact Nat.le_trans (j4 _ hm.dp.1 hm.dp.2) (by omega)
def CM(s:Bs):Bs:=if s=[] then [] else s++[32]
theorem uX(ws:List Bs)(k t:Bs)(hw:ws≠[]):ao 32 (ws++[k,t])=ao 32 ws++[32]++k++[32]++t:=by
 induction ws with
 |nil=>exact absurd rfl hw
 |cons x r ih=>
  cases r with
  |nil=>simp[ao]
  |cons y r=>
   show x++32::ao 32 (y::r++[k,t])=(x++32::ao 32 (y::r))++[32]++k++[32]++t
   rw[ih (by simp)]
   simp
def jt(m:Mt)(i:Nat):Bs:=ao 32 (sK m i)
theorem vZ(m:Mt):∀i≤6,jt m i=[]→sK m i=[]
 | 0,_,_=>rfl
 |i+1,hi,h=>by
  obtain⟨k,t,hk,_,hf⟩:=tp m i (by omega)
  have hkn:=(tq k (List.mem_of_getElem? hk)).2
  show sK m i++ig m i=[]
  have h:ao 32 (sK m i++ig m i)=[]:=h
  unfold ig at h ⊢
  cases hb:m.asks.testBit i with
  |false=>
   rw[hb]at h
   simp only[List.append_nil]at h ⊢
   exact vZ m i (by omega) h
  |true=>
   rw[hb]at h
   simp only[hf]at h
   exfalso
   by_cases hw:sK m i=[]
   ·rw[hw]at h
    have h:k++32::t=[]:=h
    simp at h
   ·rw[uX _ _ _ hw]at h
    simp at h
theorem yo(m:Mt)(i:Nat)(hi:i < 6)(k t:Bs)(hk:wN[i]?=some k)(ht:(DW m)[i]?=some t):jt m (i+1)=if m.asks.testBit i=true then CM (jt m i)++k++[32]++t else jt m i:=by
 obtain⟨k',t',hk',ht',hf⟩:=tp m i hi
 rw[hk]at hk';rw[ht]at ht'
 injection hk' with hk';injection ht' with ht'
 subst hk';subst ht'
 show ao 32 (sK m i++ig m i)=_
 unfold ig
 cases hb:m.asks.testBit i with
 |false=>simp[jt]
 |true=>
  simp only[hf,if_true]
  unfold CM
  by_cases hw:sK m i=[]
  ·rw[show jt m i=[] by unfold jt;rw[hw];rfl,hw,if_pos rfl]
   simp[ao]
  ·rw[uX _ _ _ hw,if_neg (fun h=>hw (vZ m i (by omega) h))]
   rfl
theorem Cy(m:Mt)(hm:m.Wf):∀i≤6,(jt m i).length≤i*200000000
 | 0,_=>Nat.le_refl _
 |i+1,hi=>by
  obtain⟨k,t,hk,ht,_⟩:=tp m i (by omega)
  have h1:=Cy m hm i (by omega)
  have h2:=(tq k (List.mem_of_getElem? hk)).1
  have h3:=Fj m hm t (List.mem_of_getElem? ht)
  rw[yo m i (by omega) k t hk ht,Nat.succ_mul]
  have hj:(CM (jt m i)).length≤(jt m i).length+1:=by
   unfold CM
   split
   ·exact Nat.zero_le _
   ·rw[List.length_append];exact Nat.le_refl _
  generalize i*200000000=N at h1 ⊢
  split
  ·simp only[List.length_append,List.length_cons,List.length_nil];omega
  ·omega
theorem FG(x y:Operand)(a i:Nat)(hi:i≤8)(W:World):(do eqGuard .shr 5 x y (.int .u8 (a:Int)) (.int .i64 (i:Int)); binOp .shr 5 (.int .u8 (a:Int)) (.int .i64 (i:Int)):Sem Value).run Tryz.prog W=.ok (.int .u8 ((a / 2^i:Nat):Int)) W:=by
 show(Op.shift .shr .u8 (a:Int) .i64 (i:Int)).run Tryz.prog W=_
 unfold Op.shift
 rw[if_neg (by omega)]
 have h:min (i:Int).toNat IntKind.u8.bits=i:=by
  show min i 8=i
  omega
 show Result.ok (Value.int .u8 ((a:Int).fdiv (2^(min (i:Int).toNat IntKind.u8.bits)))) W=_
 rw[h,Int.fdiv_eq_ediv_of_nonneg _ (Int.pow_nonneg (by omega))]
 simp
theorem Db(a i:Nat)(b:Bool)(hb:a.testBit i=b):Value.bool ((((a / 2^i:Nat):Int).tmod 2)==0)=.bool (!b):=by
 rw[←hb,Nat.testBit_eq_decide_div_mod_eq,show(((a / 2^i:Nat):Int).tmod 2)=((a / 2^i%2:Nat):Int)from rfl]
 congr 1
 rw[Bool.eq_iff_iff]
 simp only[beq_iff_eq,Bool.not_eq_true',decide_eq_false_iff_not]
 omega
theorem Fw{xs:List Bs}{i:Nat}{x:Bs}(h:xs[i]?=some x):(strs xs)[i]?=some (ab x):=by unfold strs;rw[List.getElem?_map,h];rfl
def Ax(m:Mt)(i:Nat):List (Nat×Sx.SV):=[(1,.ptr 0 0),(7,.own 1),(8,.own 2),(9,.val (ab (jt m i))),(10,.val (.int .i64 (i:Int)))]
def rW(m:Mt):List Sx.Row:=[⟨66,.aj m.cells⟩,⟨9,.own 1 6 (strs (DW m))⟩,⟨9,.own 1 6 (strs wN)⟩]
theorem Oe(m:Mt)(hm:m.Wf)(w:World)(i:Nat)(hi:i≤6):∃H' L',Sx.ex Tryz.prog 69 w (Sx.bB Tryz.f89 0) H' L' ⟨Ax m i,rW m⟩
  (Sx.ek (fun i=>i≤6) (Ax m) (fun _=>rW m) (fun i=>i+1) (fun i=>8 - i) (fun(_:Unit)=>True) (fun _=>[((9:Nat),Sx.SV.val (ab (jt m 6)))]) (fun _=>[]) (fun _=>()) (Sx.ei (Sx.bB Tryz.f89 0) - 1) (Sx.atEnd Tryz.prog Tryz.f89 (fun v=>v=ab (jt m 6)) .ret) i):=by
 by_cases h6:i < 6
 ·obtain⟨k,t,hk,ht,_⟩:=tp m i h6
  have hn:=yo m i h6 k t hk ht
  have hl:=Cy m hm i hi
  have lk:=(tq k (List.mem_of_getElem? hk)).1
  have lt:=Fj m hm t (List.mem_of_getElem? ht)
  have c43:Value.bool (decide ((i:Int) < 6))=.bool true:=gv (decide_eq_true (by omega))
  have c49:=fun W=>FG (.tmp 47) (.tmp 48) m.asks i (by omega) W
  have c45:Value.int .i64 (IntKind.i64.wrap ((i:Int)+1))=.int .i64 ((i+1:Nat):Int):=iw (gE (by omega) (by omega))
  have h0:i+1≤6:=h6
  have h1:8 - (i+1) < 8 - i:=by omega
  have z3:rW m=rW m:=rfl
  cases hb:m.asks.testBit i with
  |false=>
   have c51:=Db _ _ _ hb
   have hn:jt m (i+1)=jt m i:=by rw[hn,hb];rfl
   have h2:∀s,s=jt m (i+1)→([(1,.ptr 0 0),(7,.own 1),(8,.own 2),(9,.val (ab s)),(10,.val (.int .i64 ((i+1:Nat):Int)))]:List (Nat×Sx.SV))=Ax m (i+1):=fun s h=>by rw[h];rfl
   have h2:=h2 _ hn.symm
   refine⟨[(43,.is (.bool true)),(49,.bin (.int .u8 ((m.asks / 2^i:Nat):Int))),(51,.is (.bool true)),(45,.is (.int .i64 ((i+1:Nat):Int)))],[],?_⟩
   exact Eq.mp (by kernel_rfl) (Sx.t4 c43 c49 c51 c45 (Sx.t2 h0 h1 (And.intro h2 z3)))
  |true=>
   have c51:=Db _ _ _ hb
   have hn:jt m (i+1)=CM (jt m i)++k++[32]++t:=by rw[hn,hb];rfl
   have hj:(CM (jt m i)).length≤(jt m i).length+1:=by
    unfold CM
    split
    ·exact Nat.zero_le _
    ·rw[List.length_append];exact Nat.le_refl _
   have h2:∀s,s=jt m (i+1)→([(1,.ptr 0 0),(7,.own 1),(8,.own 2),(9,.val (ab s)),(10,.val (.int .i64 ((i+1:Nat):Int)))]:List (Nat×Sx.SV))=Ax m (i+1):=fun s h=>by rw[h];rfl
   have h2:=h2 _ hn.symm
   have hl2:(jt m i).length≤1200000000:=Nat.le_trans hl (by omega)
   have c55:=fun W=>bN (.tmp 54) (.const (.string ⟨#[32]⟩)) (jt m i) [32] (by show _+1≤_;omega) W
   have c59:(0:Int)≤(i:Int)∧(i:Int) < ((6:Nat):Int):=⟨by omega,by omega⟩
   have c65:=c59
   have c60:(strs wN)[(i:Int).toNat*1]?=some (ab k):=by rw[Nat.mul_one];exact Fw hk
   have c66:(strs (DW m))[(i:Int).toNat*1]?=some (ab t):=by rw[Nat.mul_one];exact Fw ht
   have c61:=fun W=>bN (.tmp 56) (.tmp 60) (CM (jt m i)) k (by omega) W
   have c62:=fun W=>bN (.tmp 61) (.const (.string ⟨#[32]⟩)) (CM (jt m i)++k) [32] (by simp only[List.length_append,List.length_cons,List.length_nil];omega) W
   have c67:=fun W=>bN (.tmp 62) (.tmp 66) (CM (jt m i)++k++[32]) t (by simp only[List.length_append,List.length_cons,List.length_nil];omega) W
   by_cases hz:jt m i=[]
   ·have c53:=fun W=>(oM (.tmp 52) (.const (ab [])) (jt m i) [] W).trans (by rw[decide_eq_false (fun h=>h hz)])
    have ej:CM (jt m i)=jt m i:=by unfold CM;rw[if_pos hz,hz]
    rw[ej]at c61 c62 c67 h2
    refine⟨[(43,.is (.bool true)),(49,.bin (.int .u8 ((m.asks / 2^i:Nat):Int))),(51,.is (.bool false)),(53,.bin (.bool false)),(59,.ix),(60,.ld (ab k)),(61,.bin (ab (jt m i++k))),(62,.bin (ab (jt m i++k++[32]))),(65,.ix),(66,.ld (ab t)),(67,.bin (ab (jt m i++k++[32]++t))),(45,.is (.int .i64 ((i+1:Nat):Int)))],[],?_⟩
    exact Eq.mp (by kernel_rfl) (Sx.t8 c43 c49 c51 c53 c59 c60 c61 c62 (Sx.t4 c65 c66 c67 c45 (Sx.t2 h0 h1 (And.intro h2 z3))))
   ·have c53:=fun W=>(oM (.tmp 52) (.const (ab [])) (jt m i) [] W).trans (by rw[decide_eq_true hz])
    have ej:CM (jt m i)=jt m i++[32]:=by unfold CM;rw[if_neg hz]
    rw[ej]at c61 c62 c67 h2
    refine⟨[(43,.is (.bool true)),(49,.bin (.int .u8 ((m.asks / 2^i:Nat):Int))),(51,.is (.bool false)),(53,.bin (.bool true)),(55,.bin (ab (jt m i++[32]))),(59,.ix),(60,.ld (ab k)),(61,.bin (ab (jt m i++[32]++k))),(62,.bin (ab (jt m i++[32]++k++[32]))),(65,.ix),(66,.ld (ab t)),(67,.bin (ab (jt m i++[32]++k++[32]++t))),(45,.is (.int .i64 ((i+1:Nat):Int)))],[],?_⟩
    exact Eq.mp (by kernel_rfl) (Sx.t8 c43 c49 c51 c53 c55 c59 c60 c61 (Sx.t8 c62 c65 c66 c67 c45 h0 h1 h2 z3))
 ·have c43:Value.bool (decide ((i:Int) < 6))=.bool false:=gZ (decide_eq_false (by omega))
  obtain rfl:i=6:=by omega
  have h0:True:=trivial
  have h1:[((9:Nat),Sx.SV.val (ab (jt m 6)))]=[((9:Nat),Sx.SV.val (ab (jt m 6)))]:=rfl
  have z2:([]:List Sx.Row)=[]:=rfl
  refine⟨[(43,.is (.bool false))],[],?_⟩
  exact Eq.mp (by kernel_rfl) (Sx.t2 c43 h0 (And.intro h1 z2))
theorem qe(m:Mt)(ha:m.asks≠0):dw m=jt m 6:=by unfold dw jt;rw[if_neg ha,Mz]
theorem FP(m:Mt)(hm:m.Wf)(w:World):Calls Tryz.prog 89 #[gY m] w fun e w'=>e=.returned (ab (dw m))∧ag [] w w':=by
 by_cases ha:m.asks=0
 ·have c13:Value.bool ((m.asks:Int)==0)=.bool true:=gv (by rw[ha];rfl)
  have z0:Value.string ⟨#[97,110,121]⟩=ab (dw m):=by unfold dw;rw[if_pos ha];rfl
  refine Sx.aG (args:=[gY m]) [(13,.is (.bool true))] [] (by kernel_rfl) Tryz.func89 rfl (Nat.le_of_ble_eq_true rfl) ?_
  exact Eq.mp (by kernel_rfl) (And.intro c13 z0)
 ·have c13:Value.bool ((m.asks:Int)==0)=.bool false:=gZ (by rw[beq_eq_false_iff_ne];omega)
  have c17:=fun W (_:ag [] w W)=>Ca m.src.v m.src.n m.src.k hm.sn W
  have c23:=fun W (_:ag [] w W)=>Ca m.dst.v m.dst.n m.dst.k hm.dn W
  have c28:=fun W (_:ag [] w W)=>vL m.eQ hm.eQ.1 hm.eQ.2 W
  have c33:=fun W (_:ag [] w W)=>FK m.aV hm.pr W
  have c36:=fun W (_:ag [] w W)=>vL m.sp hm.sp.1 hm.sp.2 W
  have c39:=fun W (_:ag [] w W)=>vL m.dp hm.dp.1 hm.dp.2 W
  have c41:=fun W (_:ag [] w W)=>DB W
  have z0:Value.string ⟨(jt m 6).toArray⟩=ab (dw m):=by rw[qe m ha];rfl
  have z5:=z0
  rw[qe m ha]at z5 ⊢
  have h0:(0:Nat)≤6:=Nat.zero_le _
  have e1:Ax m 0=Ax m 0∧rW m=rW m:=⟨rfl,rfl⟩
  have jA:=Oe m hm w
  refine Sx.aG (args:=[gY m]) [(13,.is (.bool false)),(17,.call (.tuple #[ab (qV m.src),.int .i64 (df m.src.v m.src.n m.src.k)])),(23,.call (.tuple #[ab (qV m.dst),.int .i64 (df m.dst.v m.dst.n m.dst.k)])),(28,.call (ab (cX m.eQ))),(33,.call (ab (cQ m.aV))),(36,.call (ab (cX m.sp))),(39,.call (ab (cX m.dp))),(40,.gL 9 1),(41,.dz (.sl 9 1 6 (strs wN)))] [.mk Nat 0 (fun i=>i≤6) (Ax m) (fun _=>rW m) (fun i=>i+1) (fun i=>8 - i) Unit (fun _=>True) (fun _=>[((9:Nat),Sx.SV.val (ab (jt m 6)))]) (fun _=>[]) (fun _=>())] (by kernel_rfl) Tryz.func89 rfl (Nat.le_of_ble_eq_true rfl) ?_
  exact Eq.mp (by kernel_rfl) (Sx.t8 c13 c17 c23 c28 c33 c36 c39 c41 (Sx.t2 h0 e1 (And.intro jA (fun(x3:Unit) (hx4:True)=>z5))))
set_option maxRecDepth 100000
open Go Go.RowKit Go.Lib Go.Sort
def qZ(n i:Nat):Nat:=if kq n i=true then 1 else 0
theorem IA:∀x:Fin 256,bits .and .u8 (x.val:Int) 1=((x.val%2:Nat):Int):=by decide+kernel
theorem F6(v:Bool)(n i:Nat)(hi:i < 128)(w:World):Calls Tryz.prog 203 #[.agg (cx v n).toArray,.int .i64 (i:Int)] w fun e w'=>e=.returned (.int .u8 (qZ n i:Int))∧ag [] w w':=by
 obtain⟨x,hx⟩:∃x,ah n (i / 8)=x:=⟨_,rfl⟩
 have hx2:x < 256:=by rw[←hx];exact aZ n _
 have c6:Value.int .i64 (IntKind.i64.wrap ((i:Int).tdiv 8))=.int .i64 ((i / 8:Nat):Int):=iw (by rw[show(i:Int).tdiv 8=((i / 8:Nat):Int)from rfl,gE (by omega) (by omega)])
 have c8:(0:Int)≤((i / 8:Nat):Int)∧((i / 8:Nat):Int) < 16:=⟨by omega,by omega⟩
 have c9:(cx v n)[0+1+((i / 8:Nat):Int).toNat*1]?=some (.int .u8 (x:Int)):=by
  rw[←hx,Nat.mul_one]
  exact w8 v n (i / 8) (by omega)
 have nM:Value.int .i64 ((i:Int).tmod 8)=.int .i64 ((i%8:Nat):Int):=rfl
 have c12:Value.int .i64 (IntKind.i64.wrap (7 - ((i%8:Nat):Int)))=.int .i64 ((7 - i%8:Nat):Int):=iw (by rw[gE (by omega) (by omega)]; omega)
 have c13:=fun W=>FG (.tmp 9) (.tmp 12) x (7 - i%8) (by omega) W
 have c14:Value.int .u8 (bits .and .u8 ((x / 2^(7 - i%8):Nat):Int) 1)=.int .u8 (qZ n i:Int):=by
  have h:x / 2^(7 - i%8) < 256:=Nat.lt_of_le_of_lt (Nat.div_le_self _ _) hx2
  rw[IA ⟨x / 2^(7 - i%8),h⟩]
  congr 2
  have:=zI n i hi
  rw[hx]at this
  unfold qZ
  rw[←this]
  by_cases hb:x / 2^(7 - i%8)%2=1
  ·rw[decide_eq_true hb,if_pos rfl];exact hb
  ·rw[decide_eq_false hb,if_neg (by decide)]; show x / 2^(7 - i%8)%2=0; omega
 have z0:Value.int .u8 (qZ n i:Int)=.int .u8 (qZ n i:Int):=rfl
 refine Sx.aG (args:=[.agg (cx v n).toArray,.int .i64 (i:Int)]) [(6,.is (.int .i64 ((i / 8:Nat):Int))),(8,.ix),(9,.ld (.int .u8 (x:Int))),(11,.is (.int .i64 ((i%8:Nat):Int))),(12,.is (.int .i64 ((7 - i%8:Nat):Int))),(13,.bin (.int .u8 ((x / 2^(7 - i%8):Nat):Int))),(14,.is (.int .u8 (qZ n i:Int)))] [] (by kernel_rfl) Tryz.func203 rfl (Nat.le_of_ble_eq_true rfl) ?_
 exact Eq.mp (by kernel_rfl) (Sx.t4 c6 c8 c9 nM (Sx.t2 c12 c13 (And.intro c14 z0)))
def noBits(n a b:Nat):Prop:=∀j,a≤j→j < b→kq n j=false
theorem uM{n a i:Nat}(h:noBits n a i)(hb:kq n i=false):noBits n a (i+1):=fun j h1 h2=>by
 by_cases hj:j=i
 ·rw[hj];exact hb
 ·exact h j h1 (by omega)
theorem fW{n k:Nat}(hk:k≤128):noBits n k 128↔cK n k=n:=by
 rw[nf]
 constructor
 ·intro h j hj
  have:=h (127 - j) (by omega) (by omega)
  unfold kq at this
  rwa [show 127 - (127 - j)=j by omega]at this
 ·intro h j h1 h2
  exact h (127 - j) (by omega)
def oU(i:Nat):List (Nat×Sx.SV):=[(1,.ptr 0 0),(3,.val (.int .i64 (i:Int)))]
def sf(v:Bool)(n:Nat):List Sx.Row:=[⟨24,.aj (cx v n)⟩]
def NW(v:Bool)(n i:Nat):Prop:=(32≤i∧i≤128)∧(v=true→i=32)∧noBits n 32 i
theorem NV(v:Bool)(n:Nat)(w:World)(T:Value)(hT:T=.bool (iG v n))(i:Nat)(hi:NW v n i):∃H' L',Sx.ex Tryz.prog 17 w (Sx.bB Tryz.f201 0) H' L' ⟨oU i,sf v n⟩
  (Sx.ek (NW v n) oU (fun _=>sf v n) (fun i=>i+1) (fun i=>130 - i) (fun(_:Unit)=>iG v n=true) (fun _=>[]) (fun _=>[]) (fun _=>()) (Sx.ei (Sx.bB Tryz.f201 0) - 1) (Sx.atEnd Tryz.prog Tryz.f201 (fun u=>u=T) .ret) i):=by
 obtain⟨⟨h32,h128⟩,hv,hz⟩:=hi
 cases v with
 |true=>
  obtain rfl:=hv rfl
  have h0:iG true n=true:=by unfold iG;rw[decide_eq_true_eq,←fW (eV true)];intro j h1 h2;have h1:128≤j:=h1;omega
  have h1:([]:List (Nat×Sx.SV))=[]:=rfl
  have z2:([]:List Sx.Row)=[]:=rfl
  refine⟨[],[],?_⟩
  exact Eq.mp (by kernel_rfl) (Sx.t2 h0 h1 z2)
 |false=>
  by_cases hlt:i < 128
  ·have c5:Value.bool (decide ((i:Int) < 128))=.bool true:=gv (decide_eq_true (by omega))
   obtain⟨x,hx⟩:∃x,qZ n i=x:=⟨_,rfl⟩
   have c15:=fun W (_:ag [] w W)=>F6 false n i hlt W
   rw[hx]at c15
   have c12:Value.int .i64 (IntKind.i64.wrap ((i:Int)+1))=.int .i64 ((i+1:Nat):Int):=iw (gE (by omega) (by omega))
   cases hb:kq n i with
   |true=>
    have gB:Value.bool ((x:Int) !=0)=.bool true:=by rw[←hx];unfold qZ;rw[hb];rfl
    have z0:Value.bool false=T:=by
     rw[hT]
     congr 1
     symm
     unfold iG
     rw[decide_eq_false_iff_not,←fW (eV false)]
     intro h
     rw[h i h32 hlt]at hb
     cases hb
    refine⟨[(5,.is (.bool true)),(15,.call (.int .u8 (x:Int))),(16,.is (.bool true))],[],?_⟩
    exact Eq.mp (by kernel_rfl) (Sx.t2 c5 c15 (And.intro gB z0))
   |false=>
    have gB:Value.bool ((x:Int) !=0)=.bool false:=by rw[←hx];unfold qZ;rw[hb];rfl
    have h0:NW false n (i+1):=⟨⟨by omega,by omega⟩,(fun h=>by cases h),uM hz hb⟩
    have h1:130 - (i+1) < 130 - i:=by omega
    have h2:oU (i+1)=oU (i+1):=rfl
    have z3:sf false n=sf false n:=rfl
    refine⟨[(5,.is (.bool true)),(15,.call (.int .u8 (x:Int))),(16,.is (.bool false)),(12,.is (.int .i64 ((i+1:Nat):Int)))],[],?_⟩
    exact Eq.mp (by kernel_rfl) (Sx.t4 c5 c15 gB c12 (Sx.t2 h0 h1 (And.intro h2 z3)))
  ·have c5:Value.bool (decide ((i:Int) < 128))=.bool false:=gZ (decide_eq_false (by omega))
   obtain rfl:i=128:=by omega
   have h0:iG false n=true:=by unfold iG;rw[decide_eq_true_eq,←fW (eV false)];exact hz
   have h1:([]:List (Nat×Sx.SV))=[]:=rfl
   have z2:([]:List Sx.Row)=[]:=rfl
   refine⟨[(5,.is (.bool false))],[],?_⟩
   exact Eq.mp (by kernel_rfl) (Sx.t2 c5 h0 (And.intro h1 z2))
theorem JJ(v:Bool)(n:Nat)(w:World):Calls Tryz.prog 201 #[.agg (cx v n).toArray] w fun e w'=>e=.returned (.bool (iG v n))∧ag [] w w':=by
 have h0:NW v n 32:=⟨⟨by omega,by omega⟩,fun _=>rfl,fun j h1 h2=>by omega⟩
 have e1:oU 32=oU 32∧sf v n=sf v n:=⟨rfl,rfl⟩
 obtain⟨T,hT⟩:∃T,T=Value.bool (iG v n):=⟨_,rfl⟩
 have jA:=NV v n w T hT
 have z5f:Unit→iG v n=true→Value.bool true=T:=fun _ h=>by rw[hT,h]
 rw[←hT]
 refine Sx.aG (args:=[.agg (cx v n).toArray]) [] [.mk Nat 32 (NW v n) oU (fun _=>sf v n) (fun i=>i+1) (fun i=>130 - i) Unit (fun _=>iG v n=true) (fun _=>[]) (fun _=>[]) (fun _=>())] (by kernel_rfl) Tryz.func201 rfl (Nat.le_of_ble_eq_true rfl) ?_
 exact Eq.mp (by kernel_rfl) (Sx.t2 h0 e1 (And.intro jA (fun(x3:Unit) (hx4:iG v n=true)=>(z5f x3 hx4))))
theorem JG(v:Bool)(w:World):Calls Tryz.prog 202 #[.bool v] w fun e w'=>e=.returned (.int .i64 (wid v:Int))∧ag [] w w':=by
 cases v with
 |true=>
  have z0:Value.int .i64 128=.int .i64 (wid true:Int):=rfl
  refine Sx.aG (args:=[.bool true]) [] [] (by kernel_rfl) Tryz.func202 rfl (Nat.le_of_ble_eq_true rfl) ?_
  exact Eq.mp (by kernel_rfl) z0
 |false=>
  have z0:Value.int .i64 32=.int .i64 (wid false:Int):=rfl
  refine Sx.aG (args:=[.bool false]) [] [] (by kernel_rfl) Tryz.func202 rfl (Nat.le_of_ble_eq_true rfl) ?_
  exact Eq.mp (by kernel_rfl) z0
def sd(v:Bool)(n:Nat)(k:Int):List Sx.Row:=[⟨29,.aj (cV v n k)⟩]
def NS(n K i:Nat):Prop:=(K≤i∧i≤128)∧noBits n K i
theorem NR(v:Bool)(n K:Nat)(k:Int)(w:World)(T:Value)(hT:T=.bool (decide (cK n K=n)))(i:Nat)(hi:NS n K i):∃H' L',Sx.ex Tryz.prog 33 w (Sx.bB Tryz.f147 0) H' L' ⟨oU i,sd v n k⟩
  (Sx.ek (NS n K) oU (fun _=>sd v n k) (fun i=>i+1) (fun i=>130 - i) (fun(_:Unit)=>cK n K=n) (fun _=>[]) (fun _=>[]) (fun _=>()) (Sx.ei (Sx.bB Tryz.f147 0) - 1) (Sx.atEnd Tryz.prog Tryz.f147 (fun u=>u=T) .ret) i):=by
 obtain⟨⟨hK,h128⟩,hz⟩:=hi
 have key:=fW (n:=n) (k:=K) (by omega)
 by_cases hlt:i < 128
 ·have c25:Value.bool (decide ((i:Int) < 128))=.bool true:=gv (decide_eq_true (by omega))
  obtain⟨x,hx⟩:∃x,qZ n i=x:=⟨_,rfl⟩
  have c31:=fun W (_:ag [] w W)=>F6 v n i hlt W
  rw[hx]at c31
  have c27:Value.int .i64 (IntKind.i64.wrap ((i:Int)+1))=.int .i64 ((i+1:Nat):Int):=iw (gE (by omega) (by omega))
  cases hb:kq n i with
  |true=>
   have c32:Value.bool ((x:Int) !=0)=.bool true:=by rw[←hx];unfold qZ;rw[hb];rfl
   have z0:Value.bool false=T:=by
    rw[hT]
    congr 1
    symm
    rw[decide_eq_false_iff_not,←key]
    intro h
    rw[h i hK hlt]at hb
    cases hb
   refine⟨[(25,.is (.bool true)),(31,.call (.int .u8 (x:Int))),(32,.is (.bool true))],[],?_⟩
   exact Eq.mp (by kernel_rfl) (Sx.t2 c25 c31 (And.intro c32 z0))
  |false=>
   have c32:Value.bool ((x:Int) !=0)=.bool false:=by rw[←hx];unfold qZ;rw[hb];rfl
   have h0:NS n K (i+1):=⟨⟨by omega,by omega⟩,uM hz hb⟩
   have h1:130 - (i+1) < 130 - i:=by omega
   have h2:oU (i+1)=oU (i+1):=rfl
   have z3:sd v n k=sd v n k:=rfl
   refine⟨[(25,.is (.bool true)),(31,.call (.int .u8 (x:Int))),(32,.is (.bool false)),(27,.is (.int .i64 ((i+1:Nat):Int)))],[],?_⟩
   exact Eq.mp (by kernel_rfl) (Sx.t4 c25 c31 c32 c27 (Sx.t2 h0 h1 (And.intro h2 z3)))
 ·have c25:Value.bool (decide ((i:Int) < 128))=.bool false:=gZ (decide_eq_false (by omega))
  obtain rfl:i=128:=by omega
  have h0:cK n K=n:=key.1 hz
  have h1:([]:List (Nat×Sx.SV))=[]:=rfl
  have z2:([]:List Sx.Row)=[]:=rfl
  refine⟨[(25,.is (.bool false))],[],?_⟩
  exact Eq.mp (by kernel_rfl) (Sx.t2 c25 h0 (And.intro h1 z2))
theorem DP(v:Bool)(n:Nat)(k:Int):fA v n k=(iG v n&&(!decide (k < 0)&&(!decide (k > (wid v:Int))&&decide (cK n k.toNat=n)))):=by
 unfold fA iG
 by_cases h0:k < 0
 ·rw[decide_eq_false (by omega),decide_eq_true h0];simp
 by_cases h1:k > (wid v:Int)
 ·rw[decide_eq_false (p:=k≤(wid v:Int)) (by omega),decide_eq_true h1];simp
 rw[decide_eq_true (p:=0≤k) (by omega),decide_eq_true (p:=k≤(wid v:Int)) (by omega),decide_eq_false h0,decide_eq_false h1]
 by_cases h2:cK n k.toNat=n
 ·have h3:cK n (wid v)=n:=by
   rw[←fW (eV v)]
   have hw:=eV v
   have:=(fW (n:=n) (k:=k.toNat) (by omega)).2 h2
   exact fun j h1 h2=>this j (by omega) h2
  rw[decide_eq_true h2,decide_eq_true h3];rfl
 ·rw[decide_eq_false h2];simp
theorem Cf(v:Bool)(n:Nat)(k:Int)(w:World):Calls Tryz.prog 147 #[.agg (cV v n k).toArray] w fun e w'=>e=.returned (.bool (fA v n k))∧ag [] w w':=by
 have c6:=fun W (_:ag [] w W)=>JJ v n W
 have c19:=fun W (_:ag [] w W)=>JG v W
 rw[DP]
 cases ha:iG v n with
 |false=>
  rw[ha]at c6
  have z0:Value.bool false=.bool false:=rfl
  refine Sx.aG (args:=[.agg (cV v n k).toArray]) [(6,.call (.bool false))] [] (by kernel_rfl) Tryz.func147 rfl (Nat.le_of_ble_eq_true rfl) ?_
  exact Eq.mp (by kernel_rfl) (And.intro c6 z0)
 |true=>
  rw[ha]at c6
  cases hk:decide (k < 0)with
  |true=>
   have nM:Value.bool (decide (k < 0))=.bool true:=by rw[hk]
   have z0:Value.bool false=.bool false:=rfl
   refine Sx.aG (args:=[.agg (cV v n k).toArray]) [(6,.call (.bool true)),(11,.is (.bool true))] [] (by kernel_rfl) Tryz.func147 rfl (Nat.le_of_ble_eq_true rfl) ?_
   exact Eq.mp (by kernel_rfl) (Sx.t2 c6 nM z0)
  |false=>
   have nM:Value.bool (decide (k < 0))=.bool false:=by rw[hk]
   cases hg:decide (k > (wid v:Int))with
   |true=>
    have c20:Value.bool (decide (k > (wid v:Int)))=.bool true:=by rw[hg]
    have z0:Value.bool false=.bool false:=rfl
    refine Sx.aG (args:=[.agg (cV v n k).toArray]) [(6,.call (.bool true)),(11,.is (.bool false)),(19,.call (.int .i64 (wid v:Int))),(20,.is (.bool true))] [] (by kernel_rfl) Tryz.func147 rfl (Nat.le_of_ble_eq_true rfl) ?_
    exact Eq.mp (by kernel_rfl) (Sx.t4 c6 nM c19 c20 z0)
   |false=>
    have c20:Value.bool (decide (k > (wid v:Int)))=.bool false:=by rw[hg]
    have hk:=of_decide_eq_false hk
    have hg:=of_decide_eq_false hg
    have hw:=eV v
    obtain⟨K,rfl⟩:∃K:Nat,k=(K:Int):=⟨k.toNat,by omega⟩
    show Calls Tryz.prog 147 #[.agg (cV v n (K:Int)).toArray] w fun e w'=>e=.returned (.bool (decide (cK n K=n)))∧ag [] w w'
    have h0:NS n K K:=⟨⟨by omega,by omega⟩,fun j h1 h2=>by omega⟩
    have e1:oU K=oU K∧sd v n K=sd v n K:=⟨rfl,rfl⟩
    obtain⟨T,hT⟩:∃T,T=Value.bool (decide (cK n K=n)):=⟨_,rfl⟩
    have jA:=NR v n K K w T hT
    have z5f:Unit→cK n K=n→Value.bool true=T:=fun _ h=>by rw[hT,decide_eq_true h]
    rw[←hT]
    refine Sx.aG (args:=[.agg (cV v n (K:Int)).toArray]) [(6,.call (.bool true)),(11,.is (.bool false)),(19,.call (.int .i64 (wid v:Int))),(20,.is (.bool false))] [.mk Nat K (NS n K) oU (fun _=>sd v n K) (fun i=>i+1) (fun i=>130 - i) Unit (fun _=>cK n K=n) (fun _=>[]) (fun _=>[]) (fun _=>())] (by kernel_rfl) Tryz.func147 rfl (Nat.le_of_ble_eq_true rfl) ?_
    exact Eq.mp (by kernel_rfl) (Sx.t4 c6 nM c19 c20 (Sx.t2 h0 e1 (And.intro jA (fun(x3:Unit) (hx4:cK n K=n)=>(z5f x3 hx4)))))
end Go.Proofs.YtnncigmpcdehnaaGreatDoor
