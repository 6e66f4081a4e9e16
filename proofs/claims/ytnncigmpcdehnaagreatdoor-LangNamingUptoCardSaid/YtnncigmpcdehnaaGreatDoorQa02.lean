import Derived.Lib.BitFns
import Derived.Lib.ItoaNum
import Derived.Lib.Join
import Derived.Lib.SplitLaws
namespace Go.Proofs.YtnncigmpcdehnaaGreatDoor
def byteAt(n i:Nat):Nat:=n / 2^(120 - 8*i)%256
def maskN(n k:Nat):Nat:=n / 2^(128 - k)*2^(128 - k)
def maskB(k i x:Nat):Nat:=if k≤8*i then 0 else if k < 8*i+8 then x / 2^(8*i+8 - k)*2^(8*i+8 - k)else x
theorem byteAt_lt(n i:Nat):byteAt n i < 256:=Nat.mod_lt _ (by omega)
theorem byteAt_bit(n i j:Nat):(byteAt n i).testBit j=(decide (j < 8)&&n.testBit (120 - 8*i+j)):=by
 unfold byteAt
 rw[show(256:Nat)=2^8 by rfl,Nat.testBit_mod_two_pow,Nat.testBit_div_two_pow,Nat.add_comm]
theorem maskN_bit(n k j:Nat):(maskN n k).testBit j=(decide (128 - k≤j)&&n.testBit j):=by
 unfold maskN
 rw[Nat.testBit_mul_two_pow,Nat.testBit_div_two_pow]
 by_cases h:128 - k≤j
 ·rw[show j - (128 - k)+(128 - k)=j by omega]
 ·simp[h]
theorem mask_byte(n k i:Nat)(hi:i < 16)(hk:k≤128):byteAt (maskN n k) i=maskB k i (byteAt n i):=by
 apply Nat.eq_of_testBit_eq
 intro j
 rw[byteAt_bit,maskN_bit]
 unfold maskB
 by_cases h1:k≤8*i
 ·rw[if_pos h1,Nat.zero_testBit]
  by_cases h:j < 8
  ·have:¬(128 - k≤120 - 8*i+j):=by omega
   simp[this]
  ·simp[h]
 ·rw[if_neg h1]
  by_cases h2:k < 8*i+8
  ·rw[if_pos h2,Nat.testBit_mul_two_pow,Nat.testBit_div_two_pow]
   by_cases h3:8*i+8 - k≤j
   ·rw[show j - (8*i+8 - k)+(8*i+8 - k)=j by omega,byteAt_bit]
    have:128 - k≤120 - 8*i+j:=by omega
    simp[h3,this]
   ·have:¬(128 - k≤120 - 8*i+j):=by omega
    simp[h3,this]
  ·rw[if_neg h2,byteAt_bit]
   by_cases h:j < 8
   ·have:128 - k≤120 - 8*i+j:=by omega
    simp[this]
   ·simp[h]
theorem byteAt_inj{n m:Nat}(hn:n < 2^128)(hm:m < 2^128)(h:∀i,i < 16→byteAt n i=byteAt m i):n=m:=by
 apply Nat.eq_of_testBit_eq
 intro j
 by_cases hj:j < 128
 ·have h1:=h (15 - j / 8) (by omega)
  have h2:(byteAt n (15 - j / 8)).testBit (j%8)=(byteAt m (15 - j / 8)).testBit (j%8):=by rw[h1]
  rw[byteAt_bit,byteAt_bit]at h2
  have e:120 - 8*(15 - j / 8)+j%8=j:=by omega
  have l:j%8 < 8:=by omega
  rw[e]at h2
  simpa[l]using h2
 ·rw[Nat.testBit_lt_two_pow (Nat.lt_of_lt_of_le hn (Nat.pow_le_pow_right (by omega) (by omega))),Nat.testBit_lt_two_pow (Nat.lt_of_lt_of_le hm (Nat.pow_le_pow_right (by omega) (by omega)))]
theorem maskN_le(n k:Nat):maskN n k≤n:=Nat.div_mul_le_self _ _
theorem maskN_all(n:Nat):maskN n 128=n:=by simp[maskN]
theorem maskN_mask(n a b:Nat):maskN (maskN n a) b=maskN n (min a b):=by
 apply Nat.eq_of_testBit_eq
 intro j
 rw[maskN_bit,maskN_bit,maskN_bit,←Bool.and_assoc]
 congr 1
 by_cases h1:128 - a≤j<;>by_cases h2:128 - b≤j<;>simp[h1,h2]<;>omega
def sameK(n m k:Nat):Bool:=decide (n / 2^(128 - k)=m / 2^(128 - k))
theorem sameK_mask(n m k:Nat):sameK n m k=decide (maskN n k=maskN m k):=by
 unfold sameK maskN
 have hp:0 < 2^(128 - k):=Nat.pos_of_ne_zero (by simp)
 by_cases h:n / 2^(128 - k)=m / 2^(128 - k)
 ·rw[decide_eq_true h,decide_eq_true (by rw[h])]
 ·rw[decide_eq_false h,decide_eq_false (fun h2=>h (Nat.eq_of_mul_eq_mul_right hp h2))]
theorem sameK_bits(n m k:Nat)(hn:n < 2^128)(hm:m < 2^128):sameK n m k=true↔∀j,128 - k≤j→j < 128→n.testBit j=m.testBit j:=by
 rw[sameK_mask,decide_eq_true_eq]
 constructor
 ·intro h j h1 h2
  have h3:(maskN n k).testBit j=(maskN m k).testBit j:=by rw[h]
  rw[maskN_bit,maskN_bit]at h3
  simpa[h1]using h3
 ·intro h
  apply Nat.eq_of_testBit_eq
  intro j
  rw[maskN_bit,maskN_bit]
  by_cases h1:128 - k≤j
  ·by_cases h2:j < 128
   ·rw[h j h1 h2]
   ·rw[Nat.testBit_lt_two_pow (Nat.lt_of_lt_of_le hn (Nat.pow_le_pow_right (by omega) (by omega))),Nat.testBit_lt_two_pow (Nat.lt_of_lt_of_le hm (Nat.pow_le_pow_right (by omega) (by omega)))]
  ·simp[h1]
def wid(v:Bool):Nat:=if v then 128 else 32
theorem wid_le(v:Bool):wid v≤128:=by cases v<;>decide
def okA(v:Bool)(n:Nat):Bool:=decide (maskN n (wid v)=n)
def okP(v:Bool)(n:Nat)(k:Int):Bool:=decide (0≤k)&&decide (k≤wid v)&&decide (maskN n k.toNat=n)
section Tree
variable{va vb:Bool}{a b ka kb:Nat}
theorem okA_mask(v:Bool)(n:Nat)(k:Nat)(h:k≤wid v):okA v (maskN n k)=true:=by
 unfold okA;rw[decide_eq_true_eq,maskN_mask,Nat.min_eq_left h]
variable(n k m:Nat)
end Tree
theorem bytes_num(f:Nat→Nat)(hf:∀i,f i < 256):∃n,n < 2^128∧∀i,i < 16→byteAt n i=f i:=by
 have key:∀j,j≤16→∃n,n < 2^(8*j)∧∀i,i < j→n / 2^(8*(j - 1 - i))%256=f i:=by
  intro j
  induction j with
  |zero=>intro _;exact⟨0,by decide,fun i hi=>by omega⟩
  |succ j ih=>
   intro hj
   obtain⟨n,hn,hb⟩:=ih (by omega)
   refine⟨256*n+f j,?_,fun i hi=>?_⟩
   ·have e:2^(8*(j+1))=256*2^(8*j):=by rw[show 8*(j+1)=8*j+8 by omega,Nat.pow_add];omega
    have:=hf j
    omega
   ·by_cases h:i=j
    ·subst h
     have:=hf i
     simp;omega
    ·have h2:=hb i (by omega)
     rw[show 8*(j+1 - 1 - i)=8+8*(j - 1 - i)by omega,Nat.pow_add,←Nat.div_div_eq_div_mul]
     rw[show(256*n+f j) / 2^8=n by have:=hf j; omega]
     exact h2
 obtain⟨n,hn,hb⟩:=key 16 (Nat.le_refl _)
 refine⟨n,hn,fun i hi=>?_⟩
 have:=hb i hi
 unfold byteAt
 rw[show 120 - 8*i=8*(16 - 1 - i)by omega]
 exact this
def sig(d:Nat):UInt8:=UInt8.ofNat (if d < 10 then 48+d else 87+d)
def dig(c:UInt8):Nat:=if c.toNat < 58 then c.toNat - 48 else c.toNat - 87
def digs(b u:Nat):List UInt8:=if _h:u < b∨b < 2 then [sig u] else digs b (u / b)++[sig (u%b)]
termination_by u
decreasing_by exact Nat.div_lt_self (by omega) (by omega)
theorem digs_small{b u:Nat}(h:u < b):digs b u=[sig u]:=by rw[digs,dif_pos (.inl h)]
theorem digs_big{b u:Nat}(hb:2≤b)(h:¬u < b):digs b u=digs b (u / b)++[sig (u%b)]:=by rw[digs,dif_neg (by omega)]
theorem dig_sig_all:∀d:Fin 16,dig (sig d.val)=d.val:=by decide
theorem dig_sig{d:Nat}(h:d < 16):dig (sig d)=d:=dig_sig_all ⟨d,h⟩
theorem sig_num_all:∀d:Fin 16,(sig d.val).toNat=if d.val < 10 then 48+d.val else 87+d.val:=by decide
theorem sig_num{d:Nat}(h:d < 16):(sig d).toNat=if d < 10 then 48+d else 87+d:=sig_num_all ⟨d,h⟩
theorem digs_ten(u:Nat):digs 10 u=Lib.decDigits u:=by
 induction u using Nat.strongRecOn with
 |_ u ih=>
  by_cases h:u < 10
  ·rw[digs_small h,Lib.decDigits,dif_pos h];unfold sig;rw[if_pos h]
  ·rw[digs_big (by omega) h,Lib.decDigits,dif_neg h,ih (u / 10) (by omega)]; unfold sig; rw[if_pos (by omega)]
theorem digs_mem{b:Nat}(h2:2≤b):∀(u:Nat) (c:UInt8),c∈digs b u→∃d,d < b∧c=sig d:=by
 intro u
 induction u using Nat.strongRecOn with
 |_ u ih=>
  intro c hc
  by_cases h:u < b
  ·rw[digs_small h,List.mem_singleton]at hc;exact⟨u,h,hc⟩
  ·rw[digs_big h2 h,List.mem_append,List.mem_singleton]at hc
   rcases hc with hc|hc
   ·exact ih (u / b) (Nat.div_lt_self (by omega) (by omega)) c hc
   ·exact⟨u%b,Nat.mod_lt _ (by omega),hc⟩
theorem digs_ne{b:Nat}(u:Nat):digs b u≠[]:=by
 rw[digs];split<;>simp
def valB(b:Nat)(l:List UInt8):Nat:=l.foldl (fun a c=>b*a+dig c) 0
theorem valB_snoc(b:Nat)(l:List UInt8)(c:UInt8):valB b (l++[c])=b*valB b l+dig c:=by simp[valB]
theorem val_digs{b:Nat}(h2:2≤b)(h16:b≤16)(u:Nat):valB b (digs b u)=u:=by
 induction u using Nat.strongRecOn with
 |_ u ih=>
  by_cases h:u < b
  ·rw[digs_small h];simp[valB,dig_sig (by omega:u < 16)]
  ·rw[digs_big h2 h,valB_snoc,ih (u / b) (Nat.div_lt_self (by omega) (by omega)),dig_sig (Nat.lt_of_lt_of_le (Nat.mod_lt _ (by omega)) h16)]
   exact Nat.div_add_mod u b
theorem digs_inj{b u v:Nat}(h2:2≤b)(h16:b≤16)(h:digs b u=digs b v):u=v:=by
 rw[←val_digs h2 h16 u,h,val_digs h2 h16]
theorem fold_ge{b:Nat}(hb:1≤b)(l:List UInt8):∀a,a≤l.foldl (fun a c=>b*a+dig c) a:=by
 induction l with
 |nil=>intro a;exact Nat.le_refl _
 |cons c l ih=>
  intro a
  rw[List.foldl_cons]
  refine Nat.le_trans ?_ (ih _)
  have:1*a≤b*a:=Nat.mul_le_mul_right a hb
  omega
theorem val_take{b:Nat}(hb:1≤b)(l:List UInt8)(k:Nat):valB b (l.take k)≤valB b l:=by
 have h:valB b l=(l.drop k).foldl (fun a c=>b*a+dig c) (valB b (l.take k)):=by
  conv=>lhs;rw[←List.take_append_drop k l]
  simp only[valB,List.foldl_append]
 rw[h]
 exact fold_ge hb _ _
theorem val_next{b:Nat}(l:List UInt8)(k:Nat)(c:UInt8)(hc:l[k]?=some c):valB b (l.take (k+1))=b*valB b (l.take k)+dig c:=by
 rw[List.take_add_one,hc]
 exact valB_snoc b _ c
theorem digs16_len{u:Nat}(h:u < 65536):(digs 16 u).length≤4:=by
 by_cases h1:u < 16
 ·rw[digs_small h1];simp
 ·rw[digs_big (by omega) h1]
  by_cases h2:u / 16 < 16
  ·rw[digs_small h2];simp
  ·rw[digs_big (by omega) h2]
   by_cases h3:u / 16 / 16 < 16
   ·rw[digs_small h3];simp
   ·rw[digs_big (by omega) h3,digs_small (by omega)];simp
theorem digs10_len{u:Nat}(h:u < 1000):(digs 10 u).length≤3:=by
 by_cases h1:u < 10
 ·rw[digs_small h1];simp
 ·rw[digs_big (by omega) h1]
  by_cases h2:u / 10 < 10
  ·rw[digs_small h2];simp
  ·rw[digs_big (by omega) h2,digs_small (by omega)];simp
def NoSig(c:UInt8):Prop:=c.toNat < 48∨c.toNat=58
theorem digs_none{b u:Nat}(h2:2≤b)(h16:b≤16){c:UInt8}(hc:NoSig c):c∉digs b u:=by
 intro h
 obtain⟨d,hd,rfl⟩:=digs_mem h2 u c h
 unfold NoSig at hc
 rw[sig_num (by omega)]at hc
 split at hc<;>omega
def joinC(c:UInt8):List (List UInt8)→List UInt8
 | []=>[]
 | [x]=>x
 |x::y::r=>x++c::joinC c (y::r)
theorem joinC_eq(c:UInt8):∀xs,Lib.join xs [c]=joinC c xs
 | []=>rfl
 | [x]=>Lib.join_one x [c]
 |x::y::r=>by
  rw[joinC,←joinC_eq c (y::r),Lib.join_cons,Lib.join_cons]
  simp[Lib.joinTail]
def splitC(c:UInt8):List UInt8→List (List UInt8)
 | []=>[[]]
 |x::l=>if x=c then []::splitC c l else
  match splitC c l with
  | []=>[[x]]
  |p::ps=>(x::p)::ps
theorem splitC_ne(c:UInt8)(l:List UInt8):splitC c l≠[]:=by
 cases l with
 |nil=>simp[splitC]
 |cons x l=>
  unfold splitC
  split
  ·simp
  ·split<;>simp
theorem splitC_none(c:UInt8):∀l,c∉l→splitC c l=[l]
 | [],_=>rfl
 |x::l,h=>by
  simp at h
  unfold splitC
  rw[if_neg (fun e=>h.1 e.symm),splitC_none c l h.2]
theorem splitC_app(c:UInt8):∀(l m:List UInt8),c∉l→splitC c (l++c::m)=l::splitC c m
 | [],m,_=>by rw[List.nil_append,splitC,if_pos rfl]
 |x::l,m,h=>by
  simp at h
  rw[List.cons_append,splitC,if_neg (fun e=>h.1 e.symm),splitC_app c l m h.2]
theorem join_splitC(c:UInt8):∀l,joinC c (splitC c l)=l
 | []=>rfl
 |x::l=>by
  have ih:=join_splitC c l
  unfold splitC
  split
  ·rename_i h
   subst h
   obtain⟨p,ps,hp⟩:=List.exists_cons_of_ne_nil (splitC_ne x l)
   rw[hp]at ih ⊢
   rw[joinC,ih];rfl
  ·split
   ·rename_i h;exact absurd h (splitC_ne c l)
   ·rename_i p ps hp
    rw[hp]at ih
    cases ps with
    |nil=>simp only[joinC]at ih ⊢;rw[ih]
    |cons q qs=>simp only[joinC]at ih ⊢;rw[←ih];rfl
theorem split_joinC(c:UInt8):∀xs:List (List UInt8),xs≠[]→(∀x∈xs,c∉x)→splitC c (joinC c xs)=xs
 | [x],_,h=>splitC_none c x (h x (by simp))
 |x::y::r,_,h=>by
  rw[joinC,splitC_app c x _ (h x (by simp)),split_joinC c (y::r) (by simp) (fun z hz=>h z (by simp at hz ⊢;exact .inr hz))]
theorem splitK_none(c:UInt8)(l:List UInt8)(k:Nat)(h:c∉l):Lib.splitK [c] 0 k l=[l]:=by
 cases k with
 |zero=>rfl
 |succ k=>
  unfold Lib.splitK
  have:Lib.index l [c] = -1:=by
   rcases Lib.index_spec l [c]with⟨h1,_⟩ | ⟨i,_,_,h3,_⟩
   ·exact h1
   ·exfalso
    unfold Lib.occAt at h3
    rw[List.isPrefixOf_iff_prefix]at h3
    obtain⟨t,ht⟩:=h3
    exact h (List.mem_of_mem_drop (i:=i) (by rw[←ht];simp))
  rw[this];rfl
theorem index_sign(c:UInt8)(l m:List UInt8)(h:c∉l):Lib.index (l++c::m) [c]=l.length:=by
 refine Lib.index_first (by simp) (by simp[Lib.occAt]) fun j hj=>?_
 rw[←Bool.not_eq_true]
 intro h3
 unfold Lib.occAt at h3
 rw[List.isPrefixOf_iff_prefix]at h3
 obtain⟨t,ht⟩:=h3
 rw[List.drop_append_of_le_length (by omega)]at ht
 cases hd:l.drop j with
 |nil=>rw[List.drop_eq_nil_iff]at hd;omega
 |cons y ys=>
  rw[hd]at ht
  simp at ht
  exact h (List.mem_of_mem_drop (i:=j) (by rw[hd,ht.1];simp))
theorem first_of(c:UInt8):∀l:List UInt8,c∈l→∃a b,l=a++c::b∧c∉a
 |x::l,h=>by
  by_cases hx:x=c
  ·subst hx;exact⟨[],l,rfl,by simp⟩
  ·simp only[List.mem_cons]at h
   rcases h with h|h
   ·exact absurd h.symm hx
   ·obtain⟨a,b,rfl,ha⟩:=first_of c l h
    exact⟨x::a,b,rfl,by simp[ha];exact fun e=>hx e.symm⟩
theorem split_sign:∀(n:Nat) (c:UInt8) (l:List UInt8),l.length≤n→Lib.split l [c]=splitC c l
 | 0,c,l,h=>by
  have:l=[]:=List.eq_nil_of_length_eq_zero (by omega)
  subst this
  rfl
 |n+1,c,l,h=>by
  by_cases hc:c∈l
  ·obtain⟨a,b,rfl,ha⟩:=first_of c l hc
   rw[splitC_app c a b ha]
   have h1:=index_sign c a b ha
   have h2:Lib.count (a++c::b) [c]=1+Lib.count b [c]:=by
    rw[Lib.count_hit (by simp) h1]
    congr 2
    rw[show a++c::b=(a++[c])++b by simp]
    exact List.drop_left' (by simp)
   unfold Lib.split
   rw[h2,Nat.add_comm,Lib.splitK,h1]
   have h3:((a.length:Int) == -1)=false:=by rw[beq_eq_false_iff_ne]; omega
   rw[h3]
   simp only[Bool.false_eq_true,if_false,Int.toNat_natCast,Nat.add_zero]
   rw[List.take_left' rfl,show a++c::b=(a++[c])++b by simp,List.drop_left' (by simp)]
   congr 1
   exact split_sign n c b (by simp at h;omega)
  ·rw[splitC_none c l hc]
   exact splitK_none c l _ hc
def grp(n i:Nat):Nat:=byteAt n (2*i)*256+byteAt n (2*i+1)
def grps(n:Nat):List Nat:=[grp n 0,grp n 1,grp n 2,grp n 3,grp n 4,grp n 5,grp n 6,grp n 7]
theorem grp_lt(n i:Nat):grp n i < 65536:=by
 have h1:=byteAt_lt n (2*i)
 have h2:=byteAt_lt n (2*i+1)
 unfold grp;omega
def runZ:List Bool→Nat
 |true::l=>runZ l+1
 |_=>0
theorem runZ_le:∀l,runZ l≤l.length
 | []=>Nat.le_refl _
 |true::l=>by have:=runZ_le l;simp[runZ];exact this
 |false::l=>by simp[runZ]
def gapF(z:List Bool):Nat→Nat→Nat→Nat→Nat×Nat
 | 0,_,f,t=>(f,t)
 |u+1,i,f,t=>if i < 8 then
   (if i+runZ (z.drop i) - i > max (t - f) 1 then gapF z u (max i (i+runZ (z.drop i) - 1)+1) i (i+runZ (z.drop i))else gapF z u (max i (i+runZ (z.drop i) - 1)+1) f t)
  else(f,t)
def gapN(z:List Bool):Nat×Nat:=gapF z 8 0 0 0
def rowF(z:List Bool):Nat→Nat→Nat→Nat→Nat×Nat
 | 0,_,a,l=>(a,l)
 |u+1,i,a,l=>if runZ (z.drop i) > l then rowF z u (i+1) i (runZ (z.drop i))else rowF z u (i+1) a l
def rowN(z:List Bool):Nat×Nat:=rowF z 8 0 0 0
theorem gap_all:∀z0 z1 z2 z3 z4 z5 z6 z7:Bool,
  gapN [z0,z1,z2,z3,z4,z5,z6,z7]=(if 1 < (rowN [z0,z1,z2,z3,z4,z5,z6,z7]).2 then((rowN [z0,z1,z2,z3,z4,z5,z6,z7]).1,(rowN [z0,z1,z2,z3,z4,z5,z6,z7]).1+(rowN [z0,z1,z2,z3,z4,z5,z6,z7]).2)else(0,0))∧
  (rowN [z0,z1,z2,z3,z4,z5,z6,z7]).1+(rowN [z0,z1,z2,z3,z4,z5,z6,z7]).2≤8∧
  ((([z0,z1,z2,z3,z4,z5,z6,z7].take (gapN [z0,z1,z2,z3,z4,z5,z6,z7]).2).drop (gapN [z0,z1,z2,z3,z4,z5,z6,z7]).1).all id)=true:=by decide+kernel
def zs(l:List Nat):List Bool:=l.map (·==0)
def joinD(l:List Nat):List UInt8:=joinC 58 (l.map (digs 16))
def text6(l:List Nat):List UInt8:=
 if(gapN (zs l)).1=(gapN (zs l)).2 then joinD l else joinD (l.take (gapN (zs l)).1)++(58::58::joinD (l.drop (gapN (zs l)).2))
def text4(n:Nat):List UInt8:=joinC 46 [digs 10 (byteAt n 0),digs 10 (byteAt n 1),digs 10 (byteAt n 2),digs 10 (byteAt n 3)]
def textA(v:Bool)(n:Nat):List UInt8:=if v then text6 (grps n)else text4 n
theorem digs_colon(u:Nat):(58:UInt8)∉digs 16 u:=digs_none (by omega) (by omega) (.inr (by decide))
theorem digs_point(u:Nat):(46:UInt8)∉digs 10 u:=digs_none (by omega) (by omega) (.inl (by decide))
theorem digs_colon10(u:Nat):(58:UInt8)∉digs 10 u:=digs_none (by omega) (by omega) (.inr (by decide))
def NP(l:List UInt8):Prop:=∀j:Nat,l[j]?=some 58→∃c,l[j+1]?=some c∧c≠58
theorem joinC_first(xs:List (List UInt8))(hn:xs≠[])(h:∀x∈xs,x≠[]∧(58:UInt8)∉x):∃c,(joinC 58 xs)[0]?=some c∧c≠58:=by
 obtain⟨x,r,rfl⟩:=List.exists_cons_of_ne_nil hn
 obtain⟨h1,h2⟩:=h x (by simp)
 obtain⟨c,l,rfl⟩:=List.exists_cons_of_ne_nil h1
 refine⟨c,?_,fun e=>h2 (by simp[e])⟩
 cases r with
 |nil=>simp[joinC]
 |cons y r=>simp[joinC]
theorem joinC_np:∀xs:List (List UInt8),(∀x∈xs,x≠[]∧(58:UInt8)∉x)→NP (joinC 58 xs)
 | [],_=>by intro j hj;simp[joinC]at hj
 | [x],h=>by
  intro j hj
  exact absurd (List.mem_of_getElem? hj) (h x (by simp)).2
 |x::y::r,h=>by
  intro j hj
  rw[joinC]at hj ⊢
  have hr:∀z∈y::r,z≠[]∧(58:UInt8)∉z:=fun z hz=>h z (by simp at hz ⊢;exact .inr hz)
  by_cases h1:j < x.length
  ·rw[List.getElem?_append_left h1]at hj
   exact absurd (List.mem_of_getElem? hj) (h x (by simp)).2
  ·rw[List.getElem?_append_right (by omega)]at hj
   rw[List.getElem?_append_right (by omega)]
   by_cases h2:j=x.length
   ·rw[show j+1 - x.length=1 by omega]
    exact joinC_first (y::r) (by simp) hr
   ·obtain⟨i,hi⟩:∃i,j - x.length=i+1:=⟨j - x.length - 1,by omega⟩
    rw[hi,List.getElem?_cons_succ]at hj
    rw[show j+1 - x.length=i+1+1 by omega,List.getElem?_cons_succ]
    exact joinC_np (y::r) hr i hj
theorem occ_pair(s:List UInt8)(j:Nat):Lib.occAt s [58,58] j=true↔s[j]?=some 58∧s[j+1]?=some 58:=by
 unfold Lib.occAt
 rw[List.isPrefixOf_iff_prefix]
 constructor
 ·rintro⟨t,ht⟩
  have h0:(s.drop j)[0]?=some 58:=by rw[←ht];rfl
  have h1:(s.drop j)[1]?=some 58:=by rw[←ht];rfl
  rw[List.getElem?_drop]at h0 h1
  exact⟨h0,h1⟩
 ·rintro⟨h0,h1⟩
  refine⟨s.drop (j+2),?_⟩
  have e0:=(List.getElem?_eq_some_iff.1 h0)
  have e1:=(List.getElem?_eq_some_iff.1 h1)
  obtain⟨l0,e0⟩:=e0
  obtain⟨l1,e1⟩:=e1
  rw[List.drop_eq_getElem_cons l0,e0,List.drop_eq_getElem_cons l1,e1]
  rfl
theorem index_pair(l m:List UInt8)(h:NP l):Lib.index (l++58::58::m) [58,58]=l.length:=by
 refine Lib.index_first (by simp) ((occ_pair _ _).2 ?_) fun j hj=>?_
 ·rw[List.getElem?_append_right (by omega),List.getElem?_append_right (by omega)]
  rw[show l.length - l.length=0 by omega,show l.length+1 - l.length=1 by omega]
  exact⟨rfl,rfl⟩
 ·rw[←Bool.not_eq_true,occ_pair]
  rintro⟨h0,h1⟩
  rw[List.getElem?_append_left hj]at h0
  obtain⟨c,hc,hn⟩:=h j h0
  have:j+1 < l.length:=(List.getElem?_eq_some_iff.1 hc).1
  rw[List.getElem?_append_left this,hc]at h1
  exact hn (by simpa using h1)
theorem index_nopair(l:List UInt8)(h:NP l):Lib.index l [58,58] = -1:=by
 refine Lib.index_none fun j _=>?_
 rw[←Bool.not_eq_true,occ_pair]
 rintro⟨h0,h1⟩
 obtain⟨c,hc,hn⟩:=h j h0
 rw[hc]at h1
 exact hn (by simpa using h1)
theorem parts_ok(l:List Nat):∀x∈l.map (digs 16),x≠[]∧(58:UInt8)∉x:=by
 intro x hx
 rw[List.mem_map]at hx
 obtain⟨u,_,rfl⟩:=hx
 exact⟨digs_ne u,digs_colon u⟩
theorem joinD_np(l:List Nat):NP (joinD l):=joinC_np _ (parts_ok l)
theorem joinD_split(l:List Nat)(h:l≠[]):splitC 58 (joinD l)=l.map (digs 16):=split_joinC 58 _ (by simpa using h) fun x hx=>(parts_ok l x hx).2
theorem joinD_nil(l:List Nat):joinD l=[]↔l=[]:=by
 constructor
 ·intro h
  by_cases hl:l=[]
  ·exact hl
  ·obtain⟨c,hc,_⟩:=joinC_first (l.map (digs 16)) (by simpa using hl) (parts_ok l)
   unfold joinD at h
   rw[h]at hc;simp at hc
 ·intro h;subst h;rfl
theorem cut_text6(l:List Nat):Lib.cut (text6 l) [58,58]=if(gapN (zs l)).1=(gapN (zs l)).2 then(joinD l,[],false)else(joinD (l.take (gapN (zs l)).1),joinD (l.drop (gapN (zs l)).2),true):=by
 unfold text6
 by_cases h:(gapN (zs l)).1=(gapN (zs l)).2
 ·rw[if_pos h,if_pos h]
  unfold Lib.cut
  rw[index_nopair _ (joinD_np l)]
  rfl
 ·rw[if_neg h,if_neg h]
  unfold Lib.cut
  rw[index_pair _ _ (joinD_np _),if_pos (by omega)]
  simp only[Int.toNat_natCast]
  rw[List.take_left' rfl]
  congr 2
  rw[show ∀a b:List UInt8,a++58::58::b=(a++[58,58])++b by simp]
  exact List.drop_left' (by simp)
theorem mem_joinC(c:UInt8)(x y:List UInt8)(r:List (List UInt8)):c∈joinC c (x::y::r):=by simp[joinC]
theorem colon_text6(x0 x1 x2 x3 x4 x5 x6 x7:Nat):(58:UInt8)∈text6 [x0,x1,x2,x3,x4,x5,x6,x7]:=by
 unfold text6
 split
 ·exact mem_joinC _ _ _ _
 ·simp
theorem colon_grps(n:Nat):(58:UInt8)∈text6 (grps n):=colon_text6 _ _ _ _ _ _ _ _
theorem mem_of_joinC{c d:UInt8}:∀{xs:List (List UInt8)},d∈joinC c xs→d=c∨∃x∈xs,d∈x
 | [],h=>by simp[joinC]at h
 | [x],h=>.inr ⟨x,by simp,h⟩
 |x::y::r,h=>by
  rw[joinC,List.mem_append,List.mem_cons]at h
  rcases h with h|h|h
  ·exact .inr ⟨x,by simp,h⟩
  ·exact .inl h
  ·rcases mem_of_joinC h with h|⟨z,hz,h⟩
   ·exact .inl h
   ·exact .inr ⟨z,by simp at hz ⊢;exact .inr hz,h⟩
theorem colon_text4(n:Nat):(58:UInt8)∉text4 n:=by
 intro h
 rcases mem_of_joinC h with h|⟨x,hx,h⟩
 ·exact absurd h (by decide)
 ·simp at hx
  rcases hx with rfl|rfl|rfl|rfl<;>exact digs_colon10 _ h
theorem split_text4(n:Nat):splitC 46 (text4 n)=[digs 10 (byteAt n 0),digs 10 (byteAt n 1),digs 10 (byteAt n 2),digs 10 (byteAt n 3)]:=by
 refine split_joinC 46 _ (by simp) fun x hx=>?_
 simp at hx
 rcases hx with rfl|rfl|rfl|rfl<;>exact digs_point _
theorem occ_one(s:List UInt8)(c:UInt8)(j:Nat):Lib.occAt s [c] j=true↔s[j]?=some c:=by
 unfold Lib.occAt
 rw[List.isPrefixOf_iff_prefix]
 constructor
 ·rintro⟨t,ht⟩
  have h0:(s.drop j)[0]?=some c:=by rw[←ht];rfl
  rwa [List.getElem?_drop]at h0
 ·intro h0
  obtain⟨l0,e0⟩:=List.getElem?_eq_some_iff.1 h0
  exact⟨s.drop (j+1),by rw[List.drop_eq_getElem_cons l0,e0];rfl⟩
theorem fill_gap(l:List Nat)(hl:l.length=8):(gapN (zs l)).1≤(gapN (zs l)).2∧(gapN (zs l)).2≤8∧l.take (gapN (zs l)).1++List.replicate (8 - (l.take (gapN (zs l)).1).length - (l.drop (gapN (zs l)).2).length) 0++l.drop (gapN (zs l)).2=l:=by
 obtain⟨x0,x1,x2,x3,x4,x5,x6,x7,rfl⟩:∃x0 x1 x2 x3 x4 x5 x6 x7,l=[x0,x1,x2,x3,x4,x5,x6,x7]:=by
  match l,hl with
  | [x0,x1,x2,x3,x4,x5,x6,x7],_=>exact⟨_,_,_,_,_,_,_,_,rfl⟩
 obtain⟨h1,h2,h3⟩:=gap_all (x0==0) (x1==0) (x2==0) (x3==0) (x4==0) (x5==0) (x6==0) (x7==0)
 have hz:zs [x0,x1,x2,x3,x4,x5,x6,x7]=[x0==0,x1==0,x2==0,x3==0,x4==0,x5==0,x6==0,x7==0]:=rfl
 rw[←hz]at h1 h2 h3
 generalize hG:gapN (zs [x0,x1,x2,x3,x4,x5,x6,x7])=G at*
 obtain⟨f,t⟩:=G
 have hft:f≤t∧t≤8:=by
  split at h1<;>simp only[Prod.mk.injEq]at h1<;>omega
 refine⟨hft.1,hft.2,?_⟩
 simp only at h3 ⊢
 have hmid:([x0,x1,x2,x3,x4,x5,x6,x7].take t).drop f=List.replicate (t - f) 0:=by
  apply List.eq_replicate_iff.2
  refine⟨by simp;omega,fun b hb=>?_⟩
  have h4:(b==0)=true:=by
   rw[List.all_eq_true]at h3
   refine h3 (b==0) ?_
   unfold zs
   rw[←List.map_take,←List.map_drop]
   exact List.mem_map.2 ⟨b,hb,rfl⟩
  simpa using h4
 have e:[x0,x1,x2,x3,x4,x5,x6,x7]=([x0,x1,x2,x3,x4,x5,x6,x7].take t).take f++([x0,x1,x2,x3,x4,x5,x6,x7].take t).drop f++[x0,x1,x2,x3,x4,x5,x6,x7].drop t:=by
  rw[List.take_append_drop,List.take_append_drop]
 conv=>rhs;rw[e]
 rw[hmid,List.take_take,Nat.min_eq_left hft.1]
 congr 3
 simp;omega
def upd(f:Nat→Nat)(k n:Nat):Nat→Nat:=fun j=>if j=k then n else f j
structure PX where
 v:Bool
 n:Nat
 k:Nat
 ok:okP v n k=true
 lt:n < 2^128
theorem PX.ext'{x y:PX}(h1:x.v=y.v)(h2:x.n=y.n)(h3:x.k=y.k):x=y:=by
 cases x;cases y;simp only at h1 h2 h3;subst h1 h2 h3;rfl
instance:Inhabited PX:=⟨⟨false,0,0,by decide,by decide⟩⟩
instance:DecidableEq PX:=fun x y=>decidable_of_iff (x.v=y.v∧x.n=y.n∧x.k=y.k) ⟨fun h=>PX.ext' h.1 h.2.1 h.2.2,fun h=>by subst h;exact⟨rfl,rfl,rfl⟩⟩
theorem PX.mask(x:PX):maskN x.n x.k=x.n:=by
 have h:=x.ok
 unfold okP at h
 simp only[Bool.and_eq_true,decide_eq_true_eq,Int.toNat_natCast]at h
 exact h.2
theorem PX.k_le(x:PX):x.k≤wid x.v:=by
 have h:=x.ok
 unfold okP at h
 simp only[Bool.and_eq_true,decide_eq_true_eq]at h
 omega
theorem PX.okA(x:PX):okA x.v x.n=true:=by
 have:=okA_mask x.v x.n x.k x.k_le
 rwa [x.mask]at this
def PX.len(x:PX):Nat:=2^(128 - x.k)
def fam(v:Bool):Nat:=if v then 2^128 else 0
def PX.lo(x:PX):Nat:=fam x.v+x.n
def PX.hi(x:PX):Nat:=x.lo+x.len
def bitN(n i:Nat):Bool:=n.testBit (127 - i)
theorem mask_bits(n k:Nat):maskN n k=n↔∀j,j < 128 - k→n.testBit j=false:=by
 constructor
 ·intro h j hj
  have:=maskN_bit n k j
  rw[h,decide_eq_false (by omega),Bool.false_and]at this
  exact this
 ·intro h
  apply Nat.eq_of_testBit_eq
  intro j
  rw[maskN_bit]
  by_cases hj:128 - k≤j
  ·rw[decide_eq_true hj,Bool.true_and]
  ·rw[decide_eq_false hj,Bool.false_and,h j (by omega)]
def clrN(n i:Nat):Nat:=n ^^^ (if bitN n i then 2^(127 - i)else 0)
theorem clrN_bit(n i j:Nat):(clrN n i).testBit j=(n.testBit j&&!decide (j=127 - i)):=by
 unfold clrN bitN
 rw[Nat.testBit_xor]
 by_cases h:j=127 - i
 ·subst h
  cases hb:n.testBit (127 - i)<;>simp[Nat.testBit_two_pow_self]
 ·rw[decide_eq_false h]
  split
  ·rw[Nat.testBit_two_pow_of_ne (fun e=>h e.symm)];simp
  ·simp
def Cut(n k m x:Nat):Prop:=∀j,x.testBit j=(n.testBit j&&!(decide (128 - m≤j)&&decide (j < 128 - k)))
theorem Cut.start(n k:Nat):Cut n k k n:=fun j=>by
 by_cases h:128 - k≤j
 ·rw[decide_eq_false (p:=j < 128 - k) (by omega)]; simp
 ·rw[decide_eq_false h];simp
theorem Cut.step{n k m x:Nat}(h:Cut n k m x)(hk:k≤m)(hm:m < 128):Cut n k (m+1) (clrN x m):=fun j=>by
 rw[clrN_bit,h j]
 by_cases h1:j=127 - m
 ·subst h1
  rw[decide_eq_true rfl,decide_eq_true (p:=128 - (m+1)≤127 - m) (by omega),decide_eq_true (p:=127 - m < 128 - k) (by omega)]; simp
 ·rw[decide_eq_false h1]
  by_cases h2:128 - m≤j
  ·rw[decide_eq_true h2,decide_eq_true (p:=128 - (m+1)≤j) (by omega)]; simp
  ·rw[decide_eq_false h2,decide_eq_false (p:=128 - (m+1)≤j) (by omega)]; simp
theorem Cut.fin{v:Bool}{n k x:Nat}(h:Cut n k (wid v) x)(hA:okA v n=true)(_:k≤wid v):x=maskN n k:=by
 have hw:=wid_le v
 unfold okA at hA
 rw[decide_eq_true_eq,mask_bits]at hA
 apply Nat.eq_of_testBit_eq
 intro j
 rw[h j,maskN_bit]
 by_cases h1:j < 128 - wid v
 ·rw[hA j h1];simp
 ·rw[decide_eq_true (p:=128 - wid v≤j) (by omega),Bool.true_and]
  by_cases h2:j < 128 - k
  ·rw[decide_eq_true h2,decide_eq_false (p:=128 - k≤j) (by omega)]; simp
  ·rw[decide_eq_false h2,decide_eq_true (p:=128 - k≤j) (by omega)]; simp
def SameTo(n m i:Nat):Prop:=∀j,j < i→bitN n j=bitN m j
theorem SameTo.fin{n m k:Nat}(hn:n < 2^128)(hm:m < 2^128)(hk:k≤128)(h:SameTo n m k):sameK n m k=true:=by
 rw[sameK_bits n m k hn hm]
 intro j h1 h2
 have:=h (127 - j) (by omega)
 unfold bitN at this
 rwa [show 127 - (127 - j)=j by omega]at this
end Go.Proofs.YtnncigmpcdehnaaGreatDoor
