import Derived.Test.YtnncigmpcdehnaaGreatDoorQf31
namespace Go.Proofs.YtnncigmpcdehnaaGreatDoor
set_option maxRecDepth 100000
open Go Go.RowKit Go.Lib Go.Sort _root_.Go.Proofs.Tryz
set_option maxRecDepth 100000
def Gq(m:Mt):List Bs:=[dt m.ff,pK m.src,pK m.dst,dc m.bb,dt m.sp,dt m.dp]
def yy(m:Mt):Nat→List Bs
 | 0=>[]
 |i+1=>yy m i++il m i
theorem P6(m:Mt):yy m 6=fY m:=by
 show []++il m 0++_++_++_++_++_=_
 rw[List.nil_append];rfl
theorem vy(k:Bs)(h:k∈yV):k.length≤5∧k≠[]:=by
 revert k
 decide
theorem yU(m:Mt):∀i < 6,∃k t,yV[i]?=some k∧(Gq m)[i]?=some t∧bH m i=[k,t]
 | 0,_=>⟨_,_,rfl,rfl,rfl⟩
 | 1,_=>⟨_,_,rfl,rfl,rfl⟩
 | 2,_=>⟨_,_,rfl,rfl,rfl⟩
 | 3,_=>⟨_,_,rfl,rfl,rfl⟩
 | 4,_=>⟨_,_,rfl,rfl,rfl⟩
 | 5,_=>⟨_,_,rfl,rfl,rfl⟩
theorem H8(m:Mt)(hm:m.Wf)(t:Bs)(h:t∈Gq m):t.length≤100000000:=by
 unfold Gq at h
 simp only[List.mem_cons,List.not_mem_nil,or_false]at h
 rcases h with rfl|rfl|rfl|rfl|rfl|rfl
 ·exact Nat.le_trans (gN _ hm.ff.1 hm.ff.2) (by omega)
 ·exact ki _
 ·exact ki _
 ·exact Nat.le_trans (rh _ hm.pr) (by omega)
 ·exact Nat.le_trans (gN _ hm.sp.1 hm.sp.2) (by omega)
 ·exact Nat.le_trans (gN _ hm.dp.1 hm.dp.2) (by omega)
def EY(s:Bs):Bs:=if s=[] then [] else s++[32]
theorem rG(ws:List Bs)(k t:Bs)(hw:ws≠[]):ao 32 (ws++[k,t])=ao 32 ws++[32]++k++[32]++t:=by
 induction ws with
 |nil=>exact absurd rfl hw
 |cons x r ih=>
  cases r with
  |nil=>simp[ao]
  |cons y r=>
   show x++32::ao 32 (y::r++[k,t])=(x++32::ao 32 (y::r))++[32]++k++[32]++t
   rw[ih (by simp)]
   simp
def j3(m:Mt)(i:Nat):Bs:=ao 32 (yy m i)
theorem EL(m:Mt):∀i≤6,j3 m i=[]→yy m i=[]
 | 0,_,_=>rfl
 |i+1,hi,h=>by
  obtain⟨k,t,hk,_,hf⟩:=yU m i (by omega)
  have hkn:=(vy k (List.mem_of_getElem? hk)).2
  show yy m i++il m i=[]
  have h:ao 32 (yy m i++il m i)=[]:=h
  unfold il at h ⊢
  cases hb:m.asks.testBit i with
  |false=>
   rw[hb]at h
   simp only[List.append_nil]at h ⊢
   exact EL m i (by omega) h
  |true=>
   rw[hb]at h
   simp only[hf]at h
   exfalso
   by_cases hw:yy m i=[]
   ·rw[hw]at h
    have h:k++32::t=[]:=h
    simp at h
   ·rw[rG _ _ _ hw]at h
    simp at h
theorem Au(m:Mt)(i:Nat)(hi:i < 6)(k t:Bs)(hk:yV[i]?=some k)(ht:(Gq m)[i]?=some t):j3 m (i+1)=if m.asks.testBit i=true then EY (j3 m i)++k++[32]++t else j3 m i:=by
 obtain⟨k',t',hk',ht',hf⟩:=yU m i hi
 rw[hk]at hk';rw[ht]at ht'
 injection hk' with hk';injection ht' with ht'
 subst hk';subst ht'
 show ao 32 (yy m i++il m i)=_
 unfold il
 cases hb:m.asks.testBit i with
 |false=>simp[j3]
 |true=>
  simp only[hf,if_true]
  unfold EY
  by_cases hw:yy m i=[]
  ·rw[show j3 m i=[] by unfold j3;rw[hw];rfl,hw,if_pos rfl]
   simp[ao]
  ·rw[rG _ _ _ hw,if_neg (fun h=>hw (EL m i (by omega) h))]
   rfl
theorem yz(m:Mt)(hm:m.Wf):∀i≤6,(j3 m i).length≤i*200000000
 | 0,_=>Nat.le_refl _
 |i+1,hi=>by
  obtain⟨k,t,hk,ht,_⟩:=yU m i (by omega)
  have h1:=yz m hm i (by omega)
  have h2:=(vy k (List.mem_of_getElem? hk)).1
  have h3:=H8 m hm t (List.mem_of_getElem? ht)
  rw[Au m i (by omega) k t hk ht,Nat.succ_mul]
  have hj:(EY (j3 m i)).length≤(j3 m i).length+1:=by
   unfold EY
   split
   ·exact Nat.zero_le _
   ·rw[List.length_append];exact Nat.le_refl _
  generalize i*200000000=N at h1 ⊢
  split
  ·simp only[List.length_append,List.length_cons,List.length_nil];omega
  ·omega
theorem Iv(x y:Operand)(a i:Nat)(hi:i≤8)(W:World):(do eqGuard .shr 5 x y (.int .u8 (a:Int)) (.int .i64 (i:Int)); binOp .shr 5 (.int .u8 (a:Int)) (.int .i64 (i:Int)):Sem Value).run prog W=.ok (.int .u8 ((a / 2^i:Nat):Int)) W:=by
 show(Op.shift .shr .u8 (a:Int) .i64 (i:Int)).run prog W=_
 unfold Op.shift
 rw[if_neg (by omega)]
 have h:min (i:Int).toNat IntKind.u8.bits=i:=by
  show min i 8=i
  omega
 show Result.ok (Value.int .u8 ((a:Int).fdiv (2^(min (i:Int).toNat IntKind.u8.bits)))) W=_
 rw[h,Int.fdiv_eq_ediv_of_nonneg _ (Int.pow_nonneg (by omega))]
 simp
theorem Fy(a i:Nat)(b:Bool)(hb:a.testBit i=b):Value.bool ((((a / 2^i:Nat):Int).tmod 2)==0)=.bool (!b):=by
 rw[←hb,Nat.testBit_eq_decide_div_mod_eq,show(((a / 2^i:Nat):Int).tmod 2)=((a / 2^i%2:Nat):Int)from rfl]
 congr 1
 rw[Bool.eq_iff_iff]
 simp only[beq_iff_eq,Bool.not_eq_true',decide_eq_false_iff_not]
 omega
theorem Ik{xs:List Bs}{i:Nat}{x:Bs}(h:xs[i]?=some x):(strs xs)[i]?=some (ab x):=by unfold strs;rw[List.getElem?_map,h];rfl
def CD(m:Mt)(i:Nat):List (Nat×Sx.SV):=[(1,.ptr 0 0),(7,.own 1),(8,.own 2),(9,.val (ab (j3 m i))),(10,.val (.int .i64 (i:Int)))]
def tU(m:Mt):List Sx.Row:=[⟨66,.ak m.cells⟩,⟨9,.own 1 6 (strs (Gq m))⟩,⟨9,.own 1 6 (strs yV)⟩]
theorem RX(m:Mt)(hm:m.Wf)(w:World)(i:Nat)(hi:i≤6):∃H' L',Sx.ex prog 69 w (Sx.aQ f89 0) H' L' ⟨CD m i,tU m⟩
  (Sx.dR (fun i=>i≤6) (CD m) (fun _=>tU m) (fun i=>i+1) (fun i=>8 - i) (fun(_:Unit)=>True) (fun _=>[((9:Nat),Sx.SV.val (ab (j3 m 6)))]) (fun _=>[]) (fun _=>()) (Sx.dM (Sx.aQ f89 0) - 1) (Sx.atEnd prog f89 (fun v=>v=ab (j3 m 6)) .ret) i):=by
 by_cases h6:i < 6
 ·obtain⟨k,t,hk,ht,_⟩:=yU m i h6
  have hn:=Au m i h6 k t hk ht
  have hl:=yz m hm i hi
  have lk:=(vy k (List.mem_of_getElem? hk)).1
  have lt:=H8 m hm t (List.mem_of_getElem? ht)
  have c43:=bT ((i:Int) < 6) (by omega)
  have c49:=fun W=>Iv (.tmp 47) (.tmp 48) m.asks i (by omega) W
  have c45:=my (i:=i) (by omega)
  have h0:i+1≤6:=h6
  have h1:8 - (i+1) < 8 - i:=by omega
  have z3:tU m=tU m:=rfl
  cases hb:m.asks.testBit i with
  |false=>
   have c51:=Fy _ _ _ hb
   have hn:j3 m (i+1)=j3 m i:=by rw[hn,hb];rfl
   have h2:∀s,s=j3 m (i+1)→([(1,.ptr 0 0),(7,.own 1),(8,.own 2),(9,.val (ab s)),(10,.val (.int .i64 ((i+1:Nat):Int)))]:List (Nat×Sx.SV))=CD m (i+1):=fun s h=>by rw[h];rfl
   have h2:=h2 _ hn.symm
   refine⟨[(43,.is (.bool true)),(49,.bin (.int .u8 ((m.asks / 2^i:Nat):Int))),(51,.is (.bool true)),(45,.is (.int .i64 ((i+1:Nat):Int)))],[],?_⟩
   exact Eq.mp (by kernel_rfl) (Sx.t4 c43 c49 c51 c45 (Sx.t2 h0 h1 (And.intro h2 z3)))
  |true=>
   have c51:=Fy _ _ _ hb
   have hn:j3 m (i+1)=EY (j3 m i)++k++[32]++t:=by rw[hn,hb];rfl
   have hj:(EY (j3 m i)).length≤(j3 m i).length+1:=by
    unfold EY
    split
    ·exact Nat.zero_le _
    ·rw[List.length_append];exact Nat.le_refl _
   have h2:∀s,s=j3 m (i+1)→([(1,.ptr 0 0),(7,.own 1),(8,.own 2),(9,.val (ab s)),(10,.val (.int .i64 ((i+1:Nat):Int)))]:List (Nat×Sx.SV))=CD m (i+1):=fun s h=>by rw[h];rfl
   have h2:=h2 _ hn.symm
   have hl2:(j3 m i).length≤1200000000:=Nat.le_trans hl (by omega)
   have c55:=fun W=>bq (.tmp 54) (.const (.string ⟨#[32]⟩)) (j3 m i) [32] (by show _+1≤_;omega) W
   have c59:(0:Int)≤(i:Int)∧(i:Int) < ((6:Nat):Int):=⟨by omega,by omega⟩
   have c65:=c59
   have c60:(strs yV)[(i:Int).toNat*1]?=some (ab k):=by rw[Nat.mul_one];exact Ik hk
   have c66:(strs (Gq m))[(i:Int).toNat*1]?=some (ab t):=by rw[Nat.mul_one];exact Ik ht
   have c61:=fun W=>bq (.tmp 56) (.tmp 60) (EY (j3 m i)) k (by omega) W
   have c62:=fun W=>bq (.tmp 61) (.const (.string ⟨#[32]⟩)) (EY (j3 m i)++k) [32] (by simp only[List.length_append,List.length_cons,List.length_nil];omega) W
   have c67:=fun W=>bq (.tmp 62) (.tmp 66) (EY (j3 m i)++k++[32]) t (by simp only[List.length_append,List.length_cons,List.length_nil];omega) W
   by_cases hz:j3 m i=[]
   ·have c53:=fun W=>(lQ (.tmp 52) (.const (ab [])) (j3 m i) [] W).trans (by rw[decide_eq_false (fun h=>h hz)])
    have ej:EY (j3 m i)=j3 m i:=by unfold EY;rw[if_pos hz,hz]
    rw[ej]at c61 c62 c67 h2
    refine⟨[(43,.is (.bool true)),(49,.bin (.int .u8 ((m.asks / 2^i:Nat):Int))),(51,.is (.bool false)),(53,.bin (.bool false)),(59,.ix),(60,.ld (ab k)),(61,.bin (ab (j3 m i++k))),(62,.bin (ab (j3 m i++k++[32]))),(65,.ix),(66,.ld (ab t)),(67,.bin (ab (j3 m i++k++[32]++t))),(45,.is (.int .i64 ((i+1:Nat):Int)))],[],?_⟩
    exact Eq.mp (by kernel_rfl) (Sx.t8 c43 c49 c51 c53 c59 c60 c61 c62 (Sx.t4 c65 c66 c67 c45 (Sx.t2 h0 h1 (And.intro h2 z3))))
   ·have c53:=fun W=>(lQ (.tmp 52) (.const (ab [])) (j3 m i) [] W).trans (by rw[decide_eq_true hz])
    have ej:EY (j3 m i)=j3 m i++[32]:=by unfold EY;rw[if_neg hz]
    rw[ej]at c61 c62 c67 h2
    refine⟨[(43,.is (.bool true)),(49,.bin (.int .u8 ((m.asks / 2^i:Nat):Int))),(51,.is (.bool false)),(53,.bin (.bool true)),(55,.bin (ab (j3 m i++[32]))),(59,.ix),(60,.ld (ab k)),(61,.bin (ab (j3 m i++[32]++k))),(62,.bin (ab (j3 m i++[32]++k++[32]))),(65,.ix),(66,.ld (ab t)),(67,.bin (ab (j3 m i++[32]++k++[32]++t))),(45,.is (.int .i64 ((i+1:Nat):Int)))],[],?_⟩
    exact Eq.mp (by kernel_rfl) (Sx.t8 c43 c49 c51 c53 c55 c59 c60 c61 (Sx.t8 c62 c65 c66 c67 c45 h0 h1 h2 z3))
 ·have c43:=bF ((i:Int) < 6) (by omega)
  obtain rfl:i=6:=by omega
  have h0:True:=trivial
  have h1:[((9:Nat),Sx.SV.val (ab (j3 m 6)))]=[((9:Nat),Sx.SV.val (ab (j3 m 6)))]:=rfl
  have z2:([]:List Sx.Row)=[]:=rfl
  refine⟨[(43,.is (.bool false))],[],?_⟩
  exact Eq.mp (by kernel_rfl) (Sx.t2 c43 h0 (And.intro h1 z2))
theorem rv(m:Mt)(ha:m.asks≠0):dQ m=j3 m 6:=by unfold dQ j3;rw[if_neg ha,P6]
theorem IJ(m:Mt)(hm:m.Wf)(w:World):Calls prog 89 #[j5 m] w (Rn w (ab (dQ m))):=by
 by_cases ha:m.asks=0
 ·have c13:Value.bool ((m.asks:Int)==0)=.bool true:=j4 (by rw[ha];rfl)
  have z0:Value.string ⟨#[97,110,121]⟩=ab (dQ m):=by unfold dQ;rw[if_pos ha];rfl
  refine Sx.aF (args:=[j5 m]) [(13,.is (.bool true))] [] (by kernel_rfl) func89 rfl (cn rfl) ?_
  exact Eq.mp (by kernel_rfl) (And.intro c13 z0)
 ·have c13:Value.bool ((m.asks:Int)==0)=.bool false:=ib (by rw[beq_eq_false_iff_ne];omega)
  have c17:=fun W (_:ai [] w W)=>yh m.src.v m.src.n m.src.k hm.sn W
  have c23:=fun W (_:ai [] w W)=>yh m.dst.v m.dst.n m.dst.k hm.dn W
  have c28:=fun W (_:ai [] w W)=>yi m.ff hm.ff.1 hm.ff.2 W
  have c33:=fun W (_:ai [] w W)=>IA m.bb hm.pr W
  have c36:=fun W (_:ai [] w W)=>yi m.sp hm.sp.1 hm.sp.2 W
  have c39:=fun W (_:ai [] w W)=>yi m.dp hm.dp.1 hm.dp.2 W
  have c41:=fun W (_:ai [] w W)=>F4 W
  have z0:Value.string ⟨(j3 m 6).toArray⟩=ab (dQ m):=by rw[rv m ha];rfl
  have z5:=z0
  rw[rv m ha]at z5 ⊢
  have h0:(0:Nat)≤6:=Nat.zero_le _
  have e1:CD m 0=CD m 0∧tU m=tU m:=⟨rfl,rfl⟩
  have jo:=RX m hm w
  refine Sx.aF (args:=[j5 m]) [(13,.is (.bool false)),(17,.call (.tuple #[ab (pK m.src),.int .i64 (dC m.src.v m.src.n m.src.k)])),(23,.call (.tuple #[ab (pK m.dst),.int .i64 (dC m.dst.v m.dst.n m.dst.k)])),(28,.call (ab (dt m.ff))),(33,.call (ab (dc m.bb))),(36,.call (ab (dt m.sp))),(39,.call (ab (dt m.dp))),(40,.iG 9 1),(41,.dS (.sl 9 1 6 (strs yV)))] [.mk Nat 0 (fun i=>i≤6) (CD m) (fun _=>tU m) (fun i=>i+1) (fun i=>8 - i) Unit (fun _=>True) (fun _=>[((9:Nat),Sx.SV.val (ab (j3 m 6)))]) (fun _=>[]) (fun _=>())] (by kernel_rfl) func89 rfl (cn rfl) ?_
  exact Eq.mp (by kernel_rfl) (Sx.t8 c13 c17 c23 c28 c33 c36 c39 c41 (Sx.t2 h0 e1 (And.intro jo (fun(x3:Unit) (hx4:True)=>z5))))
set_option maxRecDepth 100000
open Go Go.RowKit Go.Lib Go.Sort _root_.Go.Proofs.Tryz
set_option maxRecDepth 100000
def sP(n i:Nat):Nat:=if lC n i=true then 1 else 0
theorem Lf:∀x:Fin 256,bits .and .u8 (x.val:Int) 1=((x.val%2:Nat):Int):=by decide+kernel
theorem I2(v:Bool)(n i:Nat)(hi:i < 128)(w:World):Calls prog 203 #[.agg (cH v n).toArray,.int .i64 (i:Int)] w (Rn w (.int .u8 (sP n i:Int))):=by
 obtain⟨x,hx⟩:∃x,ah n (i / 8)=x:=⟨_,rfl⟩
 have hx2:x < 256:=by rw[←hx];exact a7 n _
 have c6:Value.int .i64 (IntKind.i64.wrap ((i:Int).tdiv 8))=.int .i64 ((i / 8:Nat):Int):=iw (by rw[show(i:Int).tdiv 8=((i / 8:Nat):Int)from rfl,sV (by omega) (by omega)])
 have c8:(0:Int)≤((i / 8:Nat):Int)∧((i / 8:Nat):Int) < 16:=⟨by omega,by omega⟩
 have c9:(cH v n)[0+1+((i / 8:Nat):Int).toNat*1]?=some (.int .u8 (x:Int)):=by
  rw[←hx,Nat.mul_one]
  exact zh v n (i / 8) (by omega)
 have oA:Value.int .i64 ((i:Int).tmod 8)=.int .i64 ((i%8:Nat):Int):=rfl
 have c12:Value.int .i64 (IntKind.i64.wrap (7 - ((i%8:Nat):Int)))=.int .i64 ((7 - i%8:Nat):Int):=iw (by rw[sV (by omega) (by omega)]; omega)
 have c13:=fun W=>Iv (.tmp 9) (.tmp 12) x (7 - i%8) (by omega) W
 have c14:Value.int .u8 (bits .and .u8 ((x / 2^(7 - i%8):Nat):Int) 1)=.int .u8 (sP n i:Int):=by
  have h:x / 2^(7 - i%8) < 256:=Nat.lt_of_le_of_lt (Nat.div_le_self _ _) hx2
  rw[Lf ⟨x / 2^(7 - i%8),h⟩]
  congr 2
  have:=BR n i hi
  rw[hx]at this
  unfold sP
  rw[←this]
  by_cases hb:x / 2^(7 - i%8)%2=1
  ·rw[decide_eq_true hb,if_pos rfl];exact hb
  ·rw[decide_eq_false hb,if_neg (by decide)]; show x / 2^(7 - i%8)%2=0; omega
 have z0:Value.int .u8 (sP n i:Int)=.int .u8 (sP n i:Int):=rfl
 refine Sx.aF (args:=[.agg (cH v n).toArray,.int .i64 (i:Int)]) [(6,.is (.int .i64 ((i / 8:Nat):Int))),(8,.ix),(9,.ld (.int .u8 (x:Int))),(11,.is (.int .i64 ((i%8:Nat):Int))),(12,.is (.int .i64 ((7 - i%8:Nat):Int))),(13,.bin (.int .u8 ((x / 2^(7 - i%8):Nat):Int))),(14,.is (.int .u8 (sP n i:Int)))] [] (by kernel_rfl) func203 rfl (cn rfl) ?_
 exact Eq.mp (by kernel_rfl) (Sx.t4 c6 c8 c9 oA (Sx.t2 c12 c13 (And.intro c14 z0)))
def noBits(n a b:Nat):Prop:=∀j,a≤j→j < b→lC n j=false
theorem xk{n a i:Nat}(h:noBits n a i)(hb:lC n i=false):noBits n a (i+1):=fun j h1 h2=>by
 by_cases hj:j=i
 ·rw[hj];exact hb
 ·exact h j h1 (by omega)
theorem gJ{n k:Nat}(hk:k≤128):noBits n k 128↔cS n k=n:=by
 rw[ot]
 constructor
 ·intro h j hj
  have:=h (127 - j) (by omega) (by omega)
  unfold lC at this
  rwa [show 127 - (127 - j)=j by omega]at this
 ·intro h j h1 h2
  exact h (127 - j) (by omega)
def qd(i:Nat):List (Nat×Sx.SV):=[(1,.ptr 0 0),(3,.val (.int .i64 (i:Int)))]
def uh(v:Bool)(n:Nat):List Sx.Row:=[⟨24,.ak (cH v n)⟩]
def Rw(v:Bool)(n i:Nat):Prop:=(32≤i∧i≤128)∧(v=true→i=32)∧noBits n 32 i
theorem Rv(v:Bool)(n:Nat)(w:World)(T:Value)(hT:T=.bool (jk v n))(i:Nat)(hi:Rw v n i):∃H' L',Sx.ex prog 17 w (Sx.aQ f201 0) H' L' ⟨qd i,uh v n⟩
  (Sx.dR (Rw v n) qd (fun _=>uh v n) (fun i=>i+1) (fun i=>130 - i) (fun(_:Unit)=>jk v n=true) (fun _=>[]) (fun _=>[]) (fun _=>()) (Sx.dM (Sx.aQ f201 0) - 1) (Sx.atEnd prog f201 (fun u=>u=T) .ret) i):=by
 obtain⟨⟨h32,h128⟩,hv,hz⟩:=hi
 cases v with
 |true=>
  obtain rfl:=hv rfl
  have h0:jk true n=true:=by unfold jk;rw[decide_eq_true_eq,←gJ (fA true)];intro j h1 h2;have h1:128≤j:=h1;omega
  have h1:([]:List (Nat×Sx.SV))=[]:=rfl
  have z2:([]:List Sx.Row)=[]:=rfl
  refine⟨[],[],?_⟩
  exact Eq.mp (by kernel_rfl) (Sx.t2 h0 h1 z2)
 |false=>
  by_cases hlt:i < 128
  ·have c5:=bT ((i:Int) < 128) (by omega)
   obtain⟨x,hx⟩:∃x,sP n i=x:=⟨_,rfl⟩
   have c15:=fun W (_:ai [] w W)=>I2 false n i hlt W
   rw[hx]at c15
   have c12:=my (i:=i) (by omega)
   cases hb:lC n i with
   |true=>
    have ir:Value.bool ((x:Int) !=0)=.bool true:=by rw[←hx];unfold sP;rw[hb];rfl
    have z0:Value.bool false=T:=by
     rw[hT]
     congr 1
     symm
     unfold jk
     rw[decide_eq_false_iff_not,←gJ (fA false)]
     intro h
     rw[h i h32 hlt]at hb
     cases hb
    refine⟨[(5,.is (.bool true)),(15,.call (.int .u8 (x:Int))),(16,.is (.bool true))],[],?_⟩
    exact Eq.mp (by kernel_rfl) (Sx.t2 c5 c15 (And.intro ir z0))
   |false=>
    have ir:Value.bool ((x:Int) !=0)=.bool false:=by rw[←hx];unfold sP;rw[hb];rfl
    have h0:Rw false n (i+1):=⟨⟨by omega,by omega⟩,(fun h=>by cases h),xk hz hb⟩
    have h1:130 - (i+1) < 130 - i:=by omega
    have h2:qd (i+1)=qd (i+1):=rfl
    have z3:uh false n=uh false n:=rfl
    refine⟨[(5,.is (.bool true)),(15,.call (.int .u8 (x:Int))),(16,.is (.bool false)),(12,.is (.int .i64 ((i+1:Nat):Int)))],[],?_⟩
    exact Eq.mp (by kernel_rfl) (Sx.t4 c5 c15 ir c12 (Sx.t2 h0 h1 (And.intro h2 z3)))
  ·have c5:=bF ((i:Int) < 128) (by omega)
   obtain rfl:i=128:=by omega
   have h0:jk false n=true:=by unfold jk;rw[decide_eq_true_eq,←gJ (fA false)];exact hz
   have h1:([]:List (Nat×Sx.SV))=[]:=rfl
   have z2:([]:List Sx.Row)=[]:=rfl
   refine⟨[(5,.is (.bool false))],[],?_⟩
   exact Eq.mp (by kernel_rfl) (Sx.t2 c5 h0 (And.intro h1 z2))
theorem MM(v:Bool)(n:Nat)(w:World):Calls prog 201 #[.agg (cH v n).toArray] w (Rn w (.bool (jk v n))):=by
 have h0:Rw v n 32:=⟨⟨by omega,by omega⟩,fun _=>rfl,fun j h1 h2=>by omega⟩
 have e1:qd 32=qd 32∧uh v n=uh v n:=⟨rfl,rfl⟩
 obtain⟨T,hT⟩:∃T,T=Value.bool (jk v n):=⟨_,rfl⟩
 have jo:=Rv v n w T hT
 have z5f:Unit→jk v n=true→Value.bool true=T:=fun _ h=>by rw[hT,h]
 rw[←hT]
 refine Sx.aF (args:=[.agg (cH v n).toArray]) [] [.mk Nat 32 (Rw v n) qd (fun _=>uh v n) (fun i=>i+1) (fun i=>130 - i) Unit (fun _=>jk v n=true) (fun _=>[]) (fun _=>[]) (fun _=>())] (by kernel_rfl) func201 rfl (cn rfl) ?_
 exact Eq.mp (by kernel_rfl) (Sx.t2 h0 e1 (And.intro jo (fun(x3:Unit) (hx4:jk v n=true)=>(z5f x3 hx4))))
theorem MJ(v:Bool)(w:World):Calls prog 202 #[.bool v] w (Rn w (.int .i64 (wid v:Int))):=by
 cases v with
 |true=>
  have z0:Value.int .i64 128=.int .i64 (wid true:Int):=rfl
  refine Sx.aF (args:=[.bool true]) [] [] (by kernel_rfl) func202 rfl (cn rfl) ?_
  exact Eq.mp (by kernel_rfl) z0
 |false=>
  have z0:Value.int .i64 32=.int .i64 (wid false:Int):=rfl
  refine Sx.aF (args:=[.bool false]) [] [] (by kernel_rfl) func202 rfl (cn rfl) ?_
  exact Eq.mp (by kernel_rfl) z0
def ug(v:Bool)(n:Nat)(k:Int):List Sx.Row:=[⟨29,.ak (dm v n k)⟩]
def Rr(n K i:Nat):Prop:=(K≤i∧i≤128)∧noBits n K i
theorem Rq(v:Bool)(n K:Nat)(k:Int)(w:World)(T:Value)(hT:T=.bool (decide (cS n K=n)))(i:Nat)(hi:Rr n K i):∃H' L',Sx.ex prog 33 w (Sx.aQ f147 0) H' L' ⟨qd i,ug v n k⟩
  (Sx.dR (Rr n K) qd (fun _=>ug v n k) (fun i=>i+1) (fun i=>130 - i) (fun(_:Unit)=>cS n K=n) (fun _=>[]) (fun _=>[]) (fun _=>()) (Sx.dM (Sx.aQ f147 0) - 1) (Sx.atEnd prog f147 (fun u=>u=T) .ret) i):=by
 obtain⟨⟨hK,h128⟩,hz⟩:=hi
 have key:=gJ (n:=n) (k:=K) (by omega)
 by_cases hlt:i < 128
 ·have c25:=bT ((i:Int) < 128) (by omega)
  obtain⟨x,hx⟩:∃x,sP n i=x:=⟨_,rfl⟩
  have c31:=fun W (_:ai [] w W)=>I2 v n i hlt W
  rw[hx]at c31
  have c27:=my (i:=i) (by omega)
  cases hb:lC n i with
  |true=>
   have c32:Value.bool ((x:Int) !=0)=.bool true:=by rw[←hx];unfold sP;rw[hb];rfl
   have z0:Value.bool false=T:=by
    rw[hT]
    congr 1
    symm
    rw[decide_eq_false_iff_not,←key]
    intro h
    rw[h i hK hlt]at hb
    cases hb
   refine⟨[(25,.is (.bool true)),(31,.call (.int .u8 (x:Int))),(32,.is (.bool true))],[],?_⟩
   exact Eq.mp (by kernel_rfl) (Sx.t2 c25 c31 (And.intro c32 z0))
  |false=>
   have c32:Value.bool ((x:Int) !=0)=.bool false:=by rw[←hx];unfold sP;rw[hb];rfl
   have h0:Rr n K (i+1):=⟨⟨by omega,by omega⟩,xk hz hb⟩
   have h1:130 - (i+1) < 130 - i:=by omega
   have h2:qd (i+1)=qd (i+1):=rfl
   have z3:ug v n k=ug v n k:=rfl
   refine⟨[(25,.is (.bool true)),(31,.call (.int .u8 (x:Int))),(32,.is (.bool false)),(27,.is (.int .i64 ((i+1:Nat):Int)))],[],?_⟩
   exact Eq.mp (by kernel_rfl) (Sx.t4 c25 c31 c32 c27 (Sx.t2 h0 h1 (And.intro h2 z3)))
 ·have c25:=bF ((i:Int) < 128) (by omega)
  obtain rfl:i=128:=by omega
  have h0:cS n K=n:=key.1 hz
  have h1:([]:List (Nat×Sx.SV))=[]:=rfl
  have z2:([]:List Sx.Row)=[]:=rfl
  refine⟨[(25,.is (.bool false))],[],?_⟩
  exact Eq.mp (by kernel_rfl) (Sx.t2 c25 h0 (And.intro h1 z2))
theorem Gj(v:Bool)(n:Nat)(k:Int):gh v n k=(jk v n&&(!decide (k < 0)&&(!decide (k > (wid v:Int))&&decide (cS n k.toNat=n)))):=by
 unfold gh jk
 by_cases h0:k < 0
 ·rw[decide_eq_false (by omega),decide_eq_true h0];simp
 by_cases h1:k > (wid v:Int)
 ·rw[decide_eq_false (p:=k≤(wid v:Int)) (by omega),decide_eq_true h1];simp
 rw[decide_eq_true (p:=0≤k) (by omega),decide_eq_true (p:=k≤(wid v:Int)) (by omega),decide_eq_false h0,decide_eq_false h1]
 by_cases h2:cS n k.toNat=n
 ·have h3:cS n (wid v)=n:=by
   rw[←gJ (fA v)]
   have hw:=fA v
   have:=(gJ (n:=n) (k:=k.toNat) (by omega)).2 h2
   exact fun j h1 h2=>this j (by omega) h2
  rw[decide_eq_true h2,decide_eq_true h3];rfl
 ·rw[decide_eq_false h2];simp
theorem Et(v:Bool)(n:Nat)(k:Int)(w:World):Calls prog 147 #[.agg (dm v n k).toArray] w (Rn w (.bool (gh v n k))):=by
 have c6:=fun W (_:ai [] w W)=>MM v n W
 have c19:=fun W (_:ai [] w W)=>MJ v W
 rw[Gj]
 cases ha:jk v n with
 |false=>
  rw[ha]at c6
  have z0:Value.bool false=.bool false:=rfl
  refine Sx.aF (args:=[.agg (dm v n k).toArray]) [(6,.call (.bool false))] [] (by kernel_rfl) func147 rfl (cn rfl) ?_
  exact Eq.mp (by kernel_rfl) (And.intro c6 z0)
 |true=>
  rw[ha]at c6
  cases hk:decide (k < 0)with
  |true=>
   have oA:Value.bool (decide (k < 0))=.bool true:=by rw[hk]
   have z0:Value.bool false=.bool false:=rfl
   refine Sx.aF (args:=[.agg (dm v n k).toArray]) [(6,.call (.bool true)),(11,.is (.bool true))] [] (by kernel_rfl) func147 rfl (cn rfl) ?_
   exact Eq.mp (by kernel_rfl) (Sx.t2 c6 oA z0)
  |false=>
   have oA:Value.bool (decide (k < 0))=.bool false:=by rw[hk]
   cases hg:decide (k > (wid v:Int))with
   |true=>
    have c20:Value.bool (decide (k > (wid v:Int)))=.bool true:=by rw[hg]
    have z0:Value.bool false=.bool false:=rfl
    refine Sx.aF (args:=[.agg (dm v n k).toArray]) [(6,.call (.bool true)),(11,.is (.bool false)),(19,.call (.int .i64 (wid v:Int))),(20,.is (.bool true))] [] (by kernel_rfl) func147 rfl (cn rfl) ?_
    exact Eq.mp (by kernel_rfl) (Sx.t4 c6 oA c19 c20 z0)
   |false=>
    have c20:Value.bool (decide (k > (wid v:Int)))=.bool false:=by rw[hg]
    have hk:=of_decide_eq_false hk
    have hg:=of_decide_eq_false hg
    have hw:=fA v
    obtain⟨K,rfl⟩:∃K:Nat,k=(K:Int):=⟨k.toNat,by omega⟩
    show Calls prog 147 #[.agg (dm v n (K:Int)).toArray] w (Rn w (.bool (decide (cS n K=n))))
    have h0:Rr n K K:=⟨⟨by omega,by omega⟩,fun j h1 h2=>by omega⟩
    have e1:qd K=qd K∧ug v n K=ug v n K:=⟨rfl,rfl⟩
    obtain⟨T,hT⟩:∃T,T=Value.bool (decide (cS n K=n)):=⟨_,rfl⟩
    have jo:=Rq v n K K w T hT
    have z5f:Unit→cS n K=n→Value.bool true=T:=fun _ h=>by rw[hT,decide_eq_true h]
    rw[←hT]
    refine Sx.aF (args:=[.agg (dm v n (K:Int)).toArray]) [(6,.call (.bool true)),(11,.is (.bool false)),(19,.call (.int .i64 (wid v:Int))),(20,.is (.bool false))] [.mk Nat K (Rr n K) qd (fun _=>ug v n K) (fun i=>i+1) (fun i=>130 - i) Unit (fun _=>cS n K=n) (fun _=>[]) (fun _=>[]) (fun _=>())] (by kernel_rfl) func147 rfl (cn rfl) ?_
    exact Eq.mp (by kernel_rfl) (Sx.t4 c6 oA c19 c20 (Sx.t2 h0 e1 (And.intro jo (fun(x3:Unit) (hx4:cS n K=n)=>(z5f x3 hx4)))))
end Go.Proofs.YtnncigmpcdehnaaGreatDoor
