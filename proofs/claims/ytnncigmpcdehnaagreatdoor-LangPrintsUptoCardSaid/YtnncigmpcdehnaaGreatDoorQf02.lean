import Derived.Lib.BitFns
import Derived.Lib.ItoaNum
import Derived.Lib.Join
import Derived.Lib.SplitLaws
namespace Go.Proofs.YtnncigmpcdehnaaGreatDoor
def ah(n i:Nat):Nat:=n / 2^(120 - 8*i)%256
def cS(n k:Nat):Nat:=n / 2^(128 - k)*2^(128 - k)
def fq(k i x:Nat):Nat:=if k≤8*i then 0 else if k < 8*i+8 then x / 2^(8*i+8 - k)*2^(8*i+8 - k)else x
theorem a7(n i:Nat):ah n i < 256:=Nat.mod_lt _ (by omega)
theorem iK(n i j:Nat):(ah n i).testBit j=(decide (j < 8)&&n.testBit (120 - 8*i+j)):=by
 unfold ah
 rw[show(256:Nat)=2^8 by rfl,Nat.testBit_mod_two_pow,Nat.testBit_div_two_pow,Nat.add_comm]
theorem eC(n k j:Nat):(cS n k).testBit j=(decide (128 - k≤j)&&n.testBit j):=by
 unfold cS
 rw[Nat.testBit_mul_two_pow,Nat.testBit_div_two_pow]
 by_cases h:128 - k≤j
 ·rw[show j - (128 - k)+(128 - k)=j by omega]
 ·simp[h]
theorem ll(n k i:Nat)(hi:i < 16)(hk:k≤128):ah (cS n k) i=fq k i (ah n i):=by
 apply Nat.eq_of_testBit_eq
 intro j
 rw[iK,eC]
 unfold fq
 by_cases h1:k≤8*i
 ·rw[if_pos h1,Nat.zero_testBit]
  by_cases h:j < 8
  ·have:¬(128 - k≤120 - 8*i+j):=by omega
   simp[this]
  ·simp[h]
 ·rw[if_neg h1]
  by_cases h2:k < 8*i+8
  ·rw[if_pos h2,Nat.testBit_mul_two_pow,Nat.testBit_div_two_pow]
   by_cases h3:8*i+8 - k≤j
   ·rw[show j - (8*i+8 - k)+(8*i+8 - k)=j by omega,iK]
    have:128 - k≤120 - 8*i+j:=by omega
    simp[h3,this]
   ·have:¬(128 - k≤120 - 8*i+j):=by omega
    simp[h3,this]
  ·rw[if_neg h2,iK]
   by_cases h:j < 8
   ·have:128 - k≤120 - 8*i+j:=by omega
    simp[this]
   ·simp[h]
theorem jZ{n m:Nat}(hn:n < 2^128)(hm:m < 2^128)(h:∀i,i < 16→ah n i=ah m i):n=m:=by
 apply Nat.eq_of_testBit_eq
 intro j
 by_cases hj:j < 128
 ·have h1:=h (15 - j / 8) (by omega)
  have h2:(ah n (15 - j / 8)).testBit (j%8)=(ah m (15 - j / 8)).testBit (j%8):=by rw[h1]
  rw[iK,iK]at h2
  have e:120 - 8*(15 - j / 8)+j%8=j:=by omega
  have l:j%8 < 8:=by omega
  rw[e]at h2
  simpa[l]using h2
 ·rw[Nat.testBit_lt_two_pow (Nat.lt_of_lt_of_le hn (Nat.pow_le_pow_right (by omega) (by omega))),Nat.testBit_lt_two_pow (Nat.lt_of_lt_of_le hm (Nat.pow_le_pow_right (by omega) (by omega)))]
theorem uQ(n k:Nat):cS n k≤n:=Nat.div_mul_le_self _ _
theorem Gt(n:Nat):cS n 128=n:=by simp[cS]
theorem uP(n a b:Nat):cS (cS n a) b=cS n (min a b):=by
 apply Nat.eq_of_testBit_eq
 intro j
 rw[eC,eC,eC,←Bool.and_assoc]
 congr 1
 by_cases h1:128 - a≤j<;>by_cases h2:128 - b≤j<;>simp[h1,h2]<;>omega
def Ek(n m k:Nat):Bool:=decide (n / 2^(128 - k)=m / 2^(128 - k))
theorem CA(n m k:Nat):Ek n m k=decide (cS n k=cS m k):=by
 unfold Ek cS
 have hp:0 < 2^(128 - k):=Nat.pos_of_ne_zero (by simp)
 by_cases h:n / 2^(128 - k)=m / 2^(128 - k)
 ·rw[decide_eq_true h,decide_eq_true (by rw[h])]
 ·rw[decide_eq_false h,decide_eq_false (fun h2=>h (Nat.eq_of_mul_eq_mul_right hp h2))]
theorem CB(n m k:Nat)(hn:n < 2^128)(hm:m < 2^128):Ek n m k=true↔∀j,128 - k≤j→j < 128→n.testBit j=m.testBit j:=by
 rw[CA,decide_eq_true_eq]
 constructor
 ·intro h j h1 h2
  have h3:(cS n k).testBit j=(cS m k).testBit j:=by rw[h]
  rw[eC,eC]at h3
  simpa[h1]using h3
 ·intro h
  apply Nat.eq_of_testBit_eq
  intro j
  rw[eC,eC]
  by_cases h1:128 - k≤j
  ·by_cases h2:j < 128
   ·rw[h j h1 h2]
   ·rw[Nat.testBit_lt_two_pow (Nat.lt_of_lt_of_le hn (Nat.pow_le_pow_right (by omega) (by omega))),Nat.testBit_lt_two_pow (Nat.lt_of_lt_of_le hm (Nat.pow_le_pow_right (by omega) (by omega)))]
  ·simp[h1]
def wid(v:Bool):Nat:=if v then 128 else 32
theorem fA(v:Bool):wid v≤128:=by cases v<;>decide
def jk(v:Bool)(n:Nat):Bool:=decide (cS n (wid v)=n)
def gh(v:Bool)(n:Nat)(k:Int):Bool:=decide (0≤k)&&decide (k≤wid v)&&decide (cS n k.toNat=n)
section Tree
variable{va vb:Bool}{a b ka kb:Nat}
theorem Ap(v:Bool)(n:Nat)(k:Nat)(h:k≤wid v):jk v (cS n k)=true:=by
 unfold jk;rw[decide_eq_true_eq,uP,Nat.min_eq_left h]
variable(n k m:Nat)
end Tree
theorem xO(f:Nat→Nat)(hf:∀i,f i < 256):∃n,n < 2^128∧∀i,i < 16→ah n i=f i:=by
 have key:∀j,j≤16→∃n,n < 2^(8*j)∧∀i,i < j→n / 2^(8*(j - 1 - i))%256=f i:=by
  intro j
  induction j with
  |zero=>intro _;exact⟨0,by decide,fun i hi=>by omega⟩
  |succ j ih=>
   intro hj
   obtain⟨n,hn,hb⟩:=ih (by omega)
   refine⟨256*n+f j,?_,fun i hi=>?_⟩
   ·have e:2^(8*(j+1))=256*2^(8*j):=by rw[show 8*(j+1)=8*j+8 by omega,Nat.pow_add];omega
    have:=hf j
    omega
   ·by_cases h:i=j
    ·subst h
     have:=hf i
     simp;omega
    ·have h2:=hb i (by omega)
     rw[show 8*(j+1 - 1 - i)=8+8*(j - 1 - i)by omega,Nat.pow_add,←Nat.div_div_eq_div_mul]
     rw[show(256*n+f j) / 2^8=n by have:=hf j; omega]
     exact h2
 obtain⟨n,hn,hb⟩:=key 16 (Nat.le_refl _)
 refine⟨n,hn,fun i hi=>?_⟩
 have:=hb i hi
 unfold ah
 rw[show 120 - 8*i=8*(16 - 1 - i)by omega]
 exact this
def sig(d:Nat):UInt8:=UInt8.ofNat (if d < 10 then 48+d else 87+d)
def tn(c:UInt8):Nat:=if c.toNat < 58 then c.toNat - 48 else c.toNat - 87
def aj(b u:Nat):List UInt8:=if _h:u < b∨b < 2 then [sig u] else aj b (u / b)++[sig (u%b)]
termination_by u
decreasing_by exact Nat.div_lt_self (by omega) (by omega)
theorem aW{b u:Nat}(h:u < b):aj b u=[sig u]:=by rw[aj,dif_pos (.inl h)]
theorem dE{b u:Nat}(hb:2≤b)(h:¬u < b):aj b u=aj b (u / b)++[sig (u%b)]:=by rw[aj,dif_neg (by omega)]
theorem Bx:∀d:Fin 16,tn (sig d.val)=d.val:=by decide
theorem qF{d:Nat}(h:d < 16):tn (sig d)=d:=Bx ⟨d,h⟩
theorem zT:∀d:Fin 16,(sig d.val).toNat=if d.val < 10 then 48+d.val else 87+d.val:=by decide
theorem iM{d:Nat}(h:d < 16):(sig d).toNat=if d < 10 then 48+d else 87+d:=zT ⟨d,h⟩
theorem nH(u:Nat):aj 10 u=Lib.decDigits u:=by
 induction u using Nat.strongRecOn with
 |_ u ih=>
  by_cases h:u < 10
  ·rw[aW h,Lib.decDigits,dif_pos h];unfold sig;rw[if_pos h]
  ·rw[dE (by omega) h,Lib.decDigits,dif_neg h,ih (u / 10) (by omega)]; unfold sig; rw[if_pos (by omega)]
theorem lz{b:Nat}(h2:2≤b):∀(u:Nat) (c:UInt8),c∈aj b u→∃d,d < b∧c=sig d:=by
 intro u
 induction u using Nat.strongRecOn with
 |_ u ih=>
  intro c hc
  by_cases h:u < b
  ·rw[aW h,List.mem_singleton]at hc;exact⟨u,h,hc⟩
  ·rw[dE h2 h,List.mem_append,List.mem_singleton]at hc
   rcases hc with hc|hc
   ·exact ih (u / b) (Nat.div_lt_self (by omega) (by omega)) c hc
   ·exact⟨u%b,Nat.mod_lt _ (by omega),hc⟩
theorem ml{b:Nat}(u:Nat):aj b u≠[]:=by
 rw[aj];split<;>simp
def oD(b:Nat)(l:List UInt8):Nat:=l.foldl (fun a c=>b*a+tn c) 0
theorem wI(b:Nat)(l:List UInt8)(c:UInt8):oD b (l++[c])=b*oD b l+tn c:=by simp[oD]
theorem jE{b:Nat}(h2:2≤b)(h16:b≤16)(u:Nat):oD b (aj b u)=u:=by
 induction u using Nat.strongRecOn with
 |_ u ih=>
  by_cases h:u < b
  ·rw[aW h];simp[oD,qF (by omega:u < 16)]
  ·rw[dE h2 h,wI,ih (u / b) (Nat.div_lt_self (by omega) (by omega)),qF (Nat.lt_of_lt_of_le (Nat.mod_lt _ (by omega)) h16)]
   exact Nat.div_add_mod u b
theorem Bw{b u v:Nat}(h2:2≤b)(h16:b≤16)(h:aj b u=aj b v):u=v:=by
 rw[←jE h2 h16 u,h,jE h2 h16]
theorem yT{b:Nat}(hb:1≤b)(l:List UInt8):∀a,a≤l.foldl (fun a c=>b*a+tn c) a:=by
 induction l with
 |nil=>intro a;exact Nat.le_refl _
 |cons c l ih=>
  intro a
  rw[List.foldl_cons]
  refine Nat.le_trans ?_ (ih _)
  have:1*a≤b*a:=Nat.mul_le_mul_right a hb
  omega
theorem HQ{b:Nat}(hb:1≤b)(l:List UInt8)(k:Nat):oD b (l.take k)≤oD b l:=by
 have h:oD b l=(l.drop k).foldl (fun a c=>b*a+tn c) (oD b (l.take k)):=by
  conv=>lhs;rw[←List.take_append_drop k l]
  simp only[oD,List.foldl_append]
 rw[h]
 exact yT hb _ _
theorem H3{b:Nat}(l:List UInt8)(k:Nat)(c:UInt8)(hc:l[k]?=some c):oD b (l.take (k+1))=b*oD b (l.take k)+tn c:=by
 rw[List.take_add_one,hc]
 exact wI b _ c
theorem gI{u:Nat}(h:u < 65536):(aj 16 u).length≤4:=by
 by_cases h1:u < 16
 ·rw[aW h1];simp
 ·rw[dE (by omega) h1]
  by_cases h2:u / 16 < 16
  ·rw[aW h2];simp
  ·rw[dE (by omega) h2]
   by_cases h3:u / 16 / 16 < 16
   ·rw[aW h3];simp
   ·rw[dE (by omega) h3,aW (by omega)];simp
theorem fO{u:Nat}(h:u < 1000):(aj 10 u).length≤3:=by
 by_cases h1:u < 10
 ·rw[aW h1];simp
 ·rw[dE (by omega) h1]
  by_cases h2:u / 10 < 10
  ·rw[aW h2];simp
  ·rw[dE (by omega) h2,aW (by omega)];simp
def Pm(c:UInt8):Prop:=c.toNat < 48∨c.toNat=58
theorem jC{b u:Nat}(h2:2≤b)(h16:b≤16){c:UInt8}(hc:Pm c):c∉aj b u:=by
 intro h
 obtain⟨d,hd,rfl⟩:=lz h2 u c h
 unfold Pm at hc
 rw[iM (by omega)]at hc
 split at hc<;>omega
def ao(c:UInt8):List (List UInt8)→List UInt8
 | []=>[]
 | [x]=>x
 |x::y::r=>x++c::ao c (y::r)
theorem nD(c:UInt8):∀xs,Lib.join xs [c]=ao c xs
 | []=>rfl
 | [x]=>Lib.join_one x [c]
 |x::y::r=>by
  rw[ao,←nD c (y::r),Lib.join_cons,Lib.join_cons]
  simp[Lib.joinTail]
def bR(c:UInt8):List UInt8→List (List UInt8)
 | []=>[[]]
 |x::l=>if x=c then []::bR c l else
  match bR c l with
  | []=>[[x]]
  |p::ps=>(x::p)::ps
theorem qZ(c:UInt8)(l:List UInt8):bR c l≠[]:=by
 cases l with
 |nil=>simp[bR]
 |cons x l=>
  unfold bR
  split
  ·simp
  ·split<;>simp
theorem mO(c:UInt8):∀l,c∉l→bR c l=[l]
 | [],_=>rfl
 |x::l,h=>by
  simp at h
  unfold bR
  rw[if_neg (fun e=>h.1 e.symm),mO c l h.2]
theorem lS(c:UInt8):∀(l m:List UInt8),c∉l→bR c (l++c::m)=l::bR c m
 | [],m,_=>by rw[List.nil_append,bR,if_pos rfl]
 |x::l,m,h=>by
  simp at h
  rw[List.cons_append,bR,if_neg (fun e=>h.1 e.symm),lS c l m h.2]
theorem sq(c:UInt8):∀l,ao c (bR c l)=l
 | []=>rfl
 |x::l=>by
  have ih:=sq c l
  unfold bR
  split
  ·rename_i h
   subst h
   obtain⟨p,ps,hp⟩:=List.exists_cons_of_ne_nil (qZ x l)
   rw[hp]at ih ⊢
   rw[ao,ih];rfl
  ·split
   ·rename_i h;exact absurd h (qZ c l)
   ·rename_i p ps hp
    rw[hp]at ih
    cases ps with
    |nil=>simp only[ao]at ih ⊢;rw[ih]
    |cons q qs=>simp only[ao]at ih ⊢;rw[←ih];rfl
theorem mN(c:UInt8):∀xs:List (List UInt8),xs≠[]→(∀x∈xs,c∉x)→bR c (ao c xs)=xs
 | [x],_,h=>mO c x (h x (by simp))
 |x::y::r,_,h=>by
  rw[ao,lS c x _ (h x (by simp)),mN c (y::r) (by simp) (fun z hz=>h z (by simp at hz ⊢;exact .inr hz))]
theorem zP(c:UInt8)(l:List UInt8)(k:Nat)(h:c∉l):Lib.splitK [c] 0 k l=[l]:=by
 cases k with
 |zero=>rfl
 |succ k=>
  unfold Lib.splitK
  have:Lib.index l [c] = -1:=by
   rcases Lib.index_spec l [c]with⟨h1,_⟩ | ⟨i,_,_,h3,_⟩
   ·exact h1
   ·exfalso
    unfold Lib.occAt at h3
    rw[List.isPrefixOf_iff_prefix]at h3
    obtain⟨t,ht⟩:=h3
    exact h (List.mem_of_mem_drop (i:=i) (by rw[←ht];simp))
  rw[this];rfl
theorem pq(c:UInt8)(l m:List UInt8)(h:c∉l):Lib.index (l++c::m) [c]=l.length:=by
 refine Lib.index_first (by simp) (by simp[Lib.occAt]) fun j hj=>?_
 rw[←Bool.not_eq_true]
 intro h3
 unfold Lib.occAt at h3
 rw[List.isPrefixOf_iff_prefix]at h3
 obtain⟨t,ht⟩:=h3
 rw[List.drop_append_of_le_length (by omega)]at ht
 cases hd:l.drop j with
 |nil=>rw[List.drop_eq_nil_iff]at hd;omega
 |cons y ys=>
  rw[hd]at ht
  simp at ht
  exact h (List.mem_of_mem_drop (i:=j) (by rw[hd,ht.1];simp))
theorem vA(c:UInt8):∀l:List UInt8,c∈l→∃a b,l=a++c::b∧c∉a
 |x::l,h=>by
  by_cases hx:x=c
  ·subst hx;exact⟨[],l,rfl,by simp⟩
  ·simp only[List.mem_cons]at h
   rcases h with h|h
   ·exact absurd h.symm hx
   ·obtain⟨a,b,rfl,ha⟩:=vA c l h
    exact⟨x::a,b,rfl,by simp[ha];exact fun e=>hx e.symm⟩
theorem tM:∀(n:Nat) (c:UInt8) (l:List UInt8),l.length≤n→Lib.split l [c]=bR c l
 | 0,c,l,h=>by
  have:l=[]:=List.eq_nil_of_length_eq_zero (by omega)
  subst this
  rfl
 |n+1,c,l,h=>by
  by_cases hc:c∈l
  ·obtain⟨a,b,rfl,ha⟩:=vA c l hc
   rw[lS c a b ha]
   have h1:=pq c a b ha
   have h2:Lib.count (a++c::b) [c]=1+Lib.count b [c]:=by
    rw[Lib.count_hit (by simp) h1]
    congr 2
    rw[show a++c::b=(a++[c])++b by simp]
    exact List.drop_left' (by simp)
   unfold Lib.split
   rw[h2,Nat.add_comm,Lib.splitK,h1]
   have h3:((a.length:Int) == -1)=false:=by rw[beq_eq_false_iff_ne]; omega
   rw[h3]
   simp only[Bool.false_eq_true,if_false,Int.toNat_natCast,Nat.add_zero]
   rw[List.take_left' rfl,show a++c::b=(a++[c])++b by simp,List.drop_left' (by simp)]
   congr 1
   exact tM n c b (by simp at h;omega)
  ·rw[mO c l hc]
   exact zP c l _ hc
def eu(n i:Nat):Nat:=ah n (2*i)*256+ah n (2*i+1)
def aL(n:Nat):List Nat:=[eu n 0,eu n 1,eu n 2,eu n 3,eu n 4,eu n 5,eu n 6,eu n 7]
theorem vo(n i:Nat):eu n i < 65536:=by
 have h1:=a7 n (2*i)
 have h2:=a7 n (2*i+1)
 unfold eu;omega
def ie:List Bool→Nat
 |true::l=>ie l+1
 |_=>0
theorem ye:∀l,ie l≤l.length
 | []=>Nat.le_refl _
 |true::l=>by have:=ye l;simp[ie];exact this
 |false::l=>by simp[ie]
def GO(z:List Bool):Nat→Nat→Nat→Nat→Nat×Nat
 | 0,_,f,t=>(f,t)
 |u+1,i,f,t=>if i < 8 then
   (if i+ie (z.drop i) - i > max (t - f) 1 then GO z u (max i (i+ie (z.drop i) - 1)+1) i (i+ie (z.drop i))else GO z u (max i (i+ie (z.drop i) - 1)+1) f t)
  else(f,t)
def gH(z:List Bool):Nat×Nat:=GO z 8 0 0 0
def F3(z:List Bool):Nat→Nat→Nat→Nat→Nat×Nat
 | 0,_,a,l=>(a,l)
 |u+1,i,a,l=>if ie (z.drop i) > l then F3 z u (i+1) i (ie (z.drop i))else F3 z u (i+1) a l
def jf(z:List Bool):Nat×Nat:=F3 z 8 0 0 0
theorem yR:∀z0 z1 z2 z3 z4 z5 z6 z7:Bool,
  gH [z0,z1,z2,z3,z4,z5,z6,z7]=(if 1 < (jf [z0,z1,z2,z3,z4,z5,z6,z7]).2 then((jf [z0,z1,z2,z3,z4,z5,z6,z7]).1,(jf [z0,z1,z2,z3,z4,z5,z6,z7]).1+(jf [z0,z1,z2,z3,z4,z5,z6,z7]).2)else(0,0))∧
  (jf [z0,z1,z2,z3,z4,z5,z6,z7]).1+(jf [z0,z1,z2,z3,z4,z5,z6,z7]).2≤8∧
  ((([z0,z1,z2,z3,z4,z5,z6,z7].take (gH [z0,z1,z2,z3,z4,z5,z6,z7]).2).drop (gH [z0,z1,z2,z3,z4,z5,z6,z7]).1).all id)=true:=by decide+kernel
def zs(l:List Nat):List Bool:=l.map (·==0)
def aR(l:List Nat):List UInt8:=ao 58 (l.map (aj 16))
def cM(l:List Nat):List UInt8:=
 if(gH (zs l)).1=(gH (zs l)).2 then aR l else aR (l.take (gH (zs l)).1)++(58::58::aR (l.drop (gH (zs l)).2))
def gb(n:Nat):List UInt8:=ao 46 [aj 10 (ah n 0),aj 10 (ah n 1),aj 10 (ah n 2),aj 10 (ah n 3)]
def fD(v:Bool)(n:Nat):List UInt8:=if v then cM (aL n)else gb n
def ei(a k i:Nat)(d:List UInt8):List UInt8:=
 (if 1 < k∧i=a then [58,58] else [])++(if 1 < k∧a≤i∧i < a+k then [] else(if 0 < i∧¬(1 < k∧i=a+k)then [58] else [])++d)
def cW(a k:Nat):List Nat→Nat→List UInt8
 | [],_=>[]
 |x::l,i=>ei a k i (aj 16 x)++cW a k l (i+1)
theorem Cr(x0 x1 x2 x3 x4 x5 x6 x7:Nat):∀(a k:Nat),1 < k→a+k≤8→cW a k [x0,x1,x2,x3,x4,x5,x6,x7] 0=aR ([x0,x1,x2,x3,x4,x5,x6,x7].take a)++(58::58::aR ([x0,x1,x2,x3,x4,x5,x6,x7].drop (a+k)))
 | 0,2,_,_=>by simp[cW,ei,aR,ao]
 | 0,3,_,_=>by simp[cW,ei,aR,ao]
 | 0,4,_,_=>by simp[cW,ei,aR,ao]
 | 0,5,_,_=>by simp[cW,ei,aR,ao]
 | 0,6,_,_=>by simp[cW,ei,aR,ao]
 | 0,7,_,_=>by simp[cW,ei,aR,ao]
 | 0,8,_,_=>by simp[cW,ei,aR,ao]
 | 1,2,_,_=>by simp[cW,ei,aR,ao]
 | 1,3,_,_=>by simp[cW,ei,aR,ao]
 | 1,4,_,_=>by simp[cW,ei,aR,ao]
 | 1,5,_,_=>by simp[cW,ei,aR,ao]
 | 1,6,_,_=>by simp[cW,ei,aR,ao]
 | 1,7,_,_=>by simp[cW,ei,aR,ao]
 | 2,2,_,_=>by simp[cW,ei,aR,ao]
 | 2,3,_,_=>by simp[cW,ei,aR,ao]
 | 2,4,_,_=>by simp[cW,ei,aR,ao]
 | 2,5,_,_=>by simp[cW,ei,aR,ao]
 | 2,6,_,_=>by simp[cW,ei,aR,ao]
 | 3,2,_,_=>by simp[cW,ei,aR,ao]
 | 3,3,_,_=>by simp[cW,ei,aR,ao]
 | 3,4,_,_=>by simp[cW,ei,aR,ao]
 | 3,5,_,_=>by simp[cW,ei,aR,ao]
 | 4,2,_,_=>by simp[cW,ei,aR,ao]
 | 4,3,_,_=>by simp[cW,ei,aR,ao]
 | 4,4,_,_=>by simp[cW,ei,aR,ao]
 | 5,2,_,_=>by simp[cW,ei,aR,ao]
 | 5,3,_,_=>by simp[cW,ei,aR,ao]
 | 6,2,_,_=>by simp[cW,ei,aR,ao]
 | 0,k+9,_,h=>by omega
 | 0,0,h,_=>by omega
 | 0,1,h,_=>by omega
 | 1,0,h,_=>by omega
 | 1,1,h,_=>by omega
 | 1,k+8,_,h=>by omega
 | 2,0,h,_=>by omega
 | 2,1,h,_=>by omega
 | 2,k+7,_,h=>by omega
 | 3,0,h,_=>by omega
 | 3,1,h,_=>by omega
 | 3,k+6,_,h=>by omega
 | 4,0,h,_=>by omega
 | 4,1,h,_=>by omega
 | 4,k+5,_,h=>by omega
 | 5,0,h,_=>by omega
 | 5,1,h,_=>by omega
 | 5,k+4,_,h=>by omega
 | 6,0,h,_=>by omega
 | 6,1,h,_=>by omega
 | 6,k+3,_,h=>by omega
 |a+7,k,h1,h2=>by omega
theorem Cs(x0 x1 x2 x3 x4 x5 x6 x7:Nat)(a k:Nat)(h:¬1 < k):cW a k [x0,x1,x2,x3,x4,x5,x6,x7] 0=aR [x0,x1,x2,x3,x4,x5,x6,x7]:=by
 simp[cW,ei,aR,ao,h]
theorem Ii(x0 x1 x2 x3 x4 x5 x6 x7:Nat):cW (jf (zs [x0,x1,x2,x3,x4,x5,x6,x7])).1 (jf (zs [x0,x1,x2,x3,x4,x5,x6,x7])).2 [x0,x1,x2,x3,x4,x5,x6,x7] 0=cM [x0,x1,x2,x3,x4,x5,x6,x7]:=by
 obtain⟨h1,h2,_⟩:=yR (x0==0) (x1==0) (x2==0) (x3==0) (x4==0) (x5==0) (x6==0) (x7==0)
 have hz:zs [x0,x1,x2,x3,x4,x5,x6,x7]=[x0==0,x1==0,x2==0,x3==0,x4==0,x5==0,x6==0,x7==0]:=rfl
 unfold cM
 rw[hz,h1]
 by_cases h:1 < (jf [x0==0,x1==0,x2==0,x3==0,x4==0,x5==0,x6==0,x7==0]).2
 ·rw[if_pos h,Cr _ _ _ _ _ _ _ _ _ _ h h2,if_neg (by simp only;omega)]
 ·rw[if_neg h,Cs _ _ _ _ _ _ _ _ _ _ h];rfl
theorem Ct(n:Nat):cW (jf (zs (aL n))).1 (jf (zs (aL n))).2 (aL n) 0=cM (aL n):=Ii _ _ _ _ _ _ _ _
theorem DB(u:Nat):(58:UInt8)∉aj 16 u:=jC (by omega) (by omega) (.inr (by decide))
theorem DA(u:Nat):(46:UInt8)∉aj 10 u:=jC (by omega) (by omega) (.inl (by decide))
theorem za(u:Nat):(58:UInt8)∉aj 10 u:=jC (by omega) (by omega) (.inr (by decide))
def NP(l:List UInt8):Prop:=∀j:Nat,l[j]?=some 58→∃c,l[j+1]?=some c∧c≠58
theorem sr(xs:List (List UInt8))(hn:xs≠[])(h:∀x∈xs,x≠[]∧(58:UInt8)∉x):∃c,(ao 58 xs)[0]?=some c∧c≠58:=by
 obtain⟨x,r,rfl⟩:=List.exists_cons_of_ne_nil hn
 obtain⟨h1,h2⟩:=h x (by simp)
 obtain⟨c,l,rfl⟩:=List.exists_cons_of_ne_nil h1
 refine⟨c,?_,fun e=>h2 (by simp[e])⟩
 cases r with
 |nil=>simp[ao]
 |cons y r=>simp[ao]
theorem A7:∀xs:List (List UInt8),(∀x∈xs,x≠[]∧(58:UInt8)∉x)→NP (ao 58 xs)
 | [],_=>by intro j hj;simp[ao]at hj
 | [x],h=>by
  intro j hj
  exact absurd (List.mem_of_getElem? hj) (h x (by simp)).2
 |x::y::r,h=>by
  intro j hj
  rw[ao]at hj ⊢
  have hr:∀z∈y::r,z≠[]∧(58:UInt8)∉z:=fun z hz=>h z (by simp at hz ⊢;exact .inr hz)
  by_cases h1:j < x.length
  ·rw[List.getElem?_append_left h1]at hj
   exact absurd (List.mem_of_getElem? hj) (h x (by simp)).2
  ·rw[List.getElem?_append_right (by omega)]at hj
   rw[List.getElem?_append_right (by omega)]
   by_cases h2:j=x.length
   ·rw[show j+1 - x.length=1 by omega]
    exact sr (y::r) (by simp) hr
   ·obtain⟨i,hi⟩:∃i,j - x.length=i+1:=⟨j - x.length - 1,by omega⟩
    rw[hi,List.getElem?_cons_succ]at hj
    rw[show j+1 - x.length=i+1+1 by omega,List.getElem?_cons_succ]
    exact A7 (y::r) hr i hj
theorem uD(s:List UInt8)(j:Nat):Lib.occAt s [58,58] j=true↔s[j]?=some 58∧s[j+1]?=some 58:=by
 unfold Lib.occAt
 rw[List.isPrefixOf_iff_prefix]
 constructor
 ·rintro⟨t,ht⟩
  have h0:(s.drop j)[0]?=some 58:=by rw[←ht];rfl
  have h1:(s.drop j)[1]?=some 58:=by rw[←ht];rfl
  rw[List.getElem?_drop]at h0 h1
  exact⟨h0,h1⟩
 ·rintro⟨h0,h1⟩
  refine⟨s.drop (j+2),?_⟩
  have e0:=(List.getElem?_eq_some_iff.1 h0)
  have e1:=(List.getElem?_eq_some_iff.1 h1)
  obtain⟨l0,e0⟩:=e0
  obtain⟨l1,e1⟩:=e1
  rw[List.drop_eq_getElem_cons l0,e0,List.drop_eq_getElem_cons l1,e1]
  rfl
theorem Dq(l m:List UInt8)(h:NP l):Lib.index (l++58::58::m) [58,58]=l.length:=by
 refine Lib.index_first (by simp) ((uD _ _).2 ?_) fun j hj=>?_
 ·rw[List.getElem?_append_right (by omega),List.getElem?_append_right (by omega)]
  rw[show l.length - l.length=0 by omega,show l.length+1 - l.length=1 by omega]
  exact⟨rfl,rfl⟩
 ·rw[←Bool.not_eq_true,uD]
  rintro⟨h0,h1⟩
  rw[List.getElem?_append_left hj]at h0
  obtain⟨c,hc,hn⟩:=h j h0
  have:j+1 < l.length:=(List.getElem?_eq_some_iff.1 hc).1
  rw[List.getElem?_append_left this,hc]at h1
  exact hn (by simpa using h1)
theorem yN(l:List UInt8)(h:NP l):Lib.index l [58,58] = -1:=by
 refine Lib.index_none fun j _=>?_
 rw[←Bool.not_eq_true,uD]
 rintro⟨h0,h1⟩
 obtain⟨c,hc,hn⟩:=h j h0
 rw[hc]at h1
 exact hn (by simpa using h1)
theorem uq(l:List Nat):∀x∈l.map (aj 16),x≠[]∧(58:UInt8)∉x:=by
 intro x hx
 rw[List.mem_map]at hx
 obtain⟨u,_,rfl⟩:=hx
 exact⟨ml u,DB u⟩
theorem A6(l:List Nat):NP (aR l):=A7 _ (uq l)
theorem A5(l:List Nat)(h:l≠[]):bR 58 (aR l)=l.map (aj 16):=mN 58 _ (by simpa using h) fun x hx=>(uq l x hx).2
theorem GH(l:List Nat):aR l=[]↔l=[]:=by
 constructor
 ·intro h
  by_cases hl:l=[]
  ·exact hl
  ·obtain⟨c,hc,_⟩:=sr (l.map (aj 16)) (by simpa using hl) (uq l)
   unfold aR at h
   rw[h]at hc;simp at hc
 ·intro h;subst h;rfl
theorem G0(l:List Nat):Lib.cut (cM l) [58,58]=if(gH (zs l)).1=(gH (zs l)).2 then(aR l,[],false)else(aR (l.take (gH (zs l)).1),aR (l.drop (gH (zs l)).2),true):=by
 unfold cM
 by_cases h:(gH (zs l)).1=(gH (zs l)).2
 ·rw[if_pos h,if_pos h]
  unfold Lib.cut
  rw[yN _ (A6 l)]
  rfl
 ·rw[if_neg h,if_neg h]
  unfold Lib.cut
  rw[Dq _ _ (A6 _),if_pos (by omega)]
  simp only[Int.toNat_natCast]
  rw[List.take_left' rfl]
  congr 2
  rw[show ∀a b:List UInt8,a++58::58::b=(a++[58,58])++b by simp]
  exact List.drop_left' (by simp)
theorem Gr(c:UInt8)(x y:List UInt8)(r:List (List UInt8)):c∈ao c (x::y::r):=by simp[ao]
theorem BE(x0 x1 x2 x3 x4 x5 x6 x7:Nat):(58:UInt8)∈cM [x0,x1,x2,x3,x4,x5,x6,x7]:=by
 unfold cM
 split
 ·exact Gr _ _ _ _
 ·simp
theorem DH(n:Nat):(58:UInt8)∈cM (aL n):=BE _ _ _ _ _ _ _ _
theorem fX{c d:UInt8}:∀{xs:List (List UInt8)},d∈ao c xs→d=c∨∃x∈xs,d∈x
 | [],h=>by simp[ao]at h
 | [x],h=>.inr ⟨x,by simp,h⟩
 |x::y::r,h=>by
  rw[ao,List.mem_append,List.mem_cons]at h
  rcases h with h|h|h
  ·exact .inr ⟨x,by simp,h⟩
  ·exact .inl h
  ·rcases fX h with h|⟨z,hz,h⟩
   ·exact .inl h
   ·exact .inr ⟨z,by simp at hz ⊢;exact .inr hz,h⟩
theorem BF(n:Nat):(58:UInt8)∉gb n:=by
 intro h
 rcases fX h with h|⟨x,hx,h⟩
 ·exact absurd h (by decide)
 ·simp at hx
  rcases hx with rfl|rfl|rfl|rfl<;>exact za _ h
theorem zO(n:Nat):bR 46 (gb n)=[aj 10 (ah n 0),aj 10 (ah n 1),aj 10 (ah n 2),aj 10 (ah n 3)]:=by
 refine mN 46 _ (by simp) fun x hx=>?_
 simp at hx
 rcases hx with rfl|rfl|rfl|rfl<;>exact DA _
theorem EF(s:List UInt8)(c:UInt8)(j:Nat):Lib.occAt s [c] j=true↔s[j]?=some c:=by
 unfold Lib.occAt
 rw[List.isPrefixOf_iff_prefix]
 constructor
 ·rintro⟨t,ht⟩
  have h0:(s.drop j)[0]?=some c:=by rw[←ht];rfl
  rwa [List.getElem?_drop]at h0
 ·intro h0
  obtain⟨l0,e0⟩:=List.getElem?_eq_some_iff.1 h0
  exact⟨s.drop (j+1),by rw[List.drop_eq_getElem_cons l0,e0];rfl⟩
theorem Bg(l:List Nat)(hl:l.length=8):(gH (zs l)).1≤(gH (zs l)).2∧(gH (zs l)).2≤8∧l.take (gH (zs l)).1++List.replicate (8 - (l.take (gH (zs l)).1).length - (l.drop (gH (zs l)).2).length) 0++l.drop (gH (zs l)).2=l:=by
 obtain⟨x0,x1,x2,x3,x4,x5,x6,x7,rfl⟩:∃x0 x1 x2 x3 x4 x5 x6 x7,l=[x0,x1,x2,x3,x4,x5,x6,x7]:=by
  match l,hl with
  | [x0,x1,x2,x3,x4,x5,x6,x7],_=>exact⟨_,_,_,_,_,_,_,_,rfl⟩
 obtain⟨h1,h2,h3⟩:=yR (x0==0) (x1==0) (x2==0) (x3==0) (x4==0) (x5==0) (x6==0) (x7==0)
 have hz:zs [x0,x1,x2,x3,x4,x5,x6,x7]=[x0==0,x1==0,x2==0,x3==0,x4==0,x5==0,x6==0,x7==0]:=rfl
 rw[←hz]at h1 h2 h3
 generalize hG:gH (zs [x0,x1,x2,x3,x4,x5,x6,x7])=G at*
 obtain⟨f,t⟩:=G
 have hft:f≤t∧t≤8:=by
  split at h1<;>simp only[Prod.mk.injEq]at h1<;>omega
 refine⟨hft.1,hft.2,?_⟩
 simp only at h3 ⊢
 have hmid:([x0,x1,x2,x3,x4,x5,x6,x7].take t).drop f=List.replicate (t - f) 0:=by
  apply List.eq_replicate_iff.2
  refine⟨by simp;omega,fun b hb=>?_⟩
  have h4:(b==0)=true:=by
   rw[List.all_eq_true]at h3
   refine h3 (b==0) ?_
   unfold zs
   rw[←List.map_take,←List.map_drop]
   exact List.mem_map.2 ⟨b,hb,rfl⟩
  simpa using h4
 have e:[x0,x1,x2,x3,x4,x5,x6,x7]=([x0,x1,x2,x3,x4,x5,x6,x7].take t).take f++([x0,x1,x2,x3,x4,x5,x6,x7].take t).drop f++[x0,x1,x2,x3,x4,x5,x6,x7].drop t:=by
  rw[List.take_append_drop,List.take_append_drop]
 conv=>rhs;rw[e]
 rw[hmid,List.take_take,Nat.min_eq_left hft.1]
 congr 3
 simp;omega
def gk(f:Nat→Nat)(k n:Nat):Nat→Nat:=fun j=>if j=k then n else f j
structure PX where
 v:Bool
 n:Nat
 k:Nat
 ok:gh v n k=true
 lt:n < 2^128
theorem PX.ext'{x y:PX}(h1:x.v=y.v)(h2:x.n=y.n)(h3:x.k=y.k):x=y:=by
 cases x;cases y;simp only at h1 h2 h3;subst h1 h2 h3;rfl
instance:Inhabited PX:=⟨⟨false,0,0,by decide,by decide⟩⟩
instance:DecidableEq PX:=fun x y=>decidable_of_iff (x.v=y.v∧x.n=y.n∧x.k=y.k) ⟨fun h=>PX.ext' h.1 h.2.1 h.2.2,fun h=>by subst h;exact⟨rfl,rfl,rfl⟩⟩
theorem PX.mask(x:PX):cS x.n x.k=x.n:=by
 have h:=x.ok
 unfold gh at h
 simp only[Bool.and_eq_true,decide_eq_true_eq,Int.toNat_natCast]at h
 exact h.2
theorem PX.Tl(x:PX):x.k≤wid x.v:=by
 have h:=x.ok
 unfold gh at h
 simp only[Bool.and_eq_true,decide_eq_true_eq]at h
 omega
theorem PX.jk(x:PX):jk x.v x.n=true:=by
 have:=Ap x.v x.n x.k x.Tl
 rwa [x.mask]at this
def PX.len(x:PX):Nat:=2^(128 - x.k)
def T7(v:Bool):Nat:=if v then 2^128 else 0
def PX.lo(x:PX):Nat:=T7 x.v+x.n
def PX.hi(x:PX):Nat:=x.lo+x.len
def lC(n i:Nat):Bool:=n.testBit (127 - i)
theorem BR(n i:Nat)(hi:i < 128):decide (ah n (i / 8) / 2^(7 - i%8)%2=1)=lC n i:=by
 have h:(ah n (i / 8)).testBit (7 - i%8)=lC n i:=by
  rw[iK,decide_eq_true (by omega),Bool.true_and]
  unfold lC
  congr 1
  omega
 rw[←h,Nat.testBit_eq_decide_div_mod_eq]
theorem Gn(v:Bool)(n:Nat)(hn:n < 2^128):jk v n=true↔∀i,wid v / 8≤i→i < 16→ah n i=0:=by
 have hw:=fA v
 have hd:wid v=8*(wid v / 8):=by cases v<;>rfl
 unfold jk
 rw[decide_eq_true_eq]
 constructor
 ·intro h i h1 h2
  have:=ll n (wid v) i h2 hw
  rw[h]at this
  rw[this]
  unfold fq
  rw[if_pos (by omega)]
 ·intro h
  refine jZ (Nat.lt_of_le_of_lt (uQ _ _) hn) hn fun i hi=>?_
  rw[ll n (wid v) i hi hw]
  unfold fq
  by_cases h1:wid v≤8*i
  ·rw[if_pos h1,h i (by omega) hi]
  ·rw[if_neg h1,if_neg (by omega)]
theorem ot(n k:Nat):cS n k=n↔∀j,j < 128 - k→n.testBit j=false:=by
 constructor
 ·intro h j hj
  have:=eC n k j
  rw[h,decide_eq_false (by omega),Bool.false_and]at this
  exact this
 ·intro h
  apply Nat.eq_of_testBit_eq
  intro j
  rw[eC]
  by_cases hj:128 - k≤j
  ·rw[decide_eq_true hj,Bool.true_and]
  ·rw[decide_eq_false hj,Bool.false_and,h j (by omega)]
theorem Gk(v:Bool)(n k:Nat)(hA:jk v n=true)(hk:k≤wid v):gh v n k=true↔∀i,k≤i→i < wid v→lC n i=false:=by
 have hw:=fA v
 unfold gh
 rw[decide_eq_true (by omega),decide_eq_true (by omega),Bool.true_and,Bool.true_and,decide_eq_true_eq,Int.toNat_natCast,ot]
 unfold jk at hA
 rw[decide_eq_true_eq,ot]at hA
 constructor
 ·intro h i h1 h2
  exact h (127 - i) (by omega)
 ·intro h j hj
  by_cases hj2:j < 128 - wid v
  ·exact hA j hj2
  ·have:=h (127 - j) (by omega) (by omega)
   unfold lC at this
   rwa [show 127 - (127 - j)=j by omega]at this
def Qu(n i:Nat):Nat:=n ^^^ (if lC n i then 2^(127 - i)else 0)
theorem KF(n i j:Nat):(Qu n i).testBit j=(n.testBit j&&!decide (j=127 - i)):=by
 unfold Qu lC
 rw[Nat.testBit_xor]
 by_cases h:j=127 - i
 ·subst h
  cases hb:n.testBit (127 - i)<;>simp[Nat.testBit_two_pow_self]
 ·rw[decide_eq_false h]
  split
  ·rw[Nat.testBit_two_pow_of_ne (fun e=>h e.symm)];simp
  ·simp
def Cut(n k m x:Nat):Prop:=∀j,x.testBit j=(n.testBit j&&!(decide (128 - m≤j)&&decide (j < 128 - k)))
theorem Cut.start(n k:Nat):Cut n k k n:=fun j=>by
 by_cases h:128 - k≤j
 ·rw[decide_eq_false (p:=j < 128 - k) (by omega)]; simp
 ·rw[decide_eq_false h];simp
theorem Cut.step{n k m x:Nat}(h:Cut n k m x)(hk:k≤m)(hm:m < 128):Cut n k (m+1) (Qu x m):=fun j=>by
 rw[KF,h j]
 by_cases h1:j=127 - m
 ·subst h1
  rw[decide_eq_true rfl,decide_eq_true (p:=128 - (m+1)≤127 - m) (by omega),decide_eq_true (p:=127 - m < 128 - k) (by omega)]; simp
 ·rw[decide_eq_false h1]
  by_cases h2:128 - m≤j
  ·rw[decide_eq_true h2,decide_eq_true (p:=128 - (m+1)≤j) (by omega)]; simp
  ·rw[decide_eq_false h2,decide_eq_false (p:=128 - (m+1)≤j) (by omega)]; simp
theorem Cut.fin{v:Bool}{n k x:Nat}(h:Cut n k (wid v) x)(hA:jk v n=true)(_:k≤wid v):x=cS n k:=by
 have hw:=fA v
 unfold jk at hA
 rw[decide_eq_true_eq,ot]at hA
 apply Nat.eq_of_testBit_eq
 intro j
 rw[h j,eC]
 by_cases h1:j < 128 - wid v
 ·rw[hA j h1];simp
 ·rw[decide_eq_true (p:=128 - wid v≤j) (by omega),Bool.true_and]
  by_cases h2:j < 128 - k
  ·rw[decide_eq_true h2,decide_eq_false (p:=128 - k≤j) (by omega)]; simp
  ·rw[decide_eq_false h2,decide_eq_true (p:=128 - k≤j) (by omega)]; simp
def Ll(n m i:Nat):Prop:=∀j,j < i→lC n j=lC m j
theorem Ll.fin{n m k:Nat}(hn:n < 2^128)(hm:m < 2^128)(hk:k≤128)(h:Ll n m k):Ek n m k=true:=by
 rw[CB n m k hn hm]
 intro j h1 h2
 have:=h (127 - j) (by omega)
 unfold lC at this
 rwa [show 127 - (127 - j)=j by omega]at this
end Go.Proofs.YtnncigmpcdehnaaGreatDoor
