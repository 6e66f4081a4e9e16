import Derived.Lib.BitFns
import Derived.Lib.ItoaNum
import Derived.Lib.Join
import Derived.Lib.SplitLaws
namespace Go.Proofs.YtnncigmpcdehnaaGreatDoor
def ao(n i:Nat):Nat:=n / 2^(120 - 8*i)%256
def ey(n k:Nat):Nat:=n / 2^(128 - k)*2^(128 - k)
def ft(k i x:Nat):Nat:=if k≤8*i then 0 else if k < 8*i+8 then x / 2^(8*i+8 - k)*2^(8*i+8 - k)else x
theorem bR(n i:Nat):ao n i < 256:=Nat.mod_lt _ (by omega)
theorem jm(n i j:Nat):(ao n i).testBit j=(decide (j < 8)&&n.testBit (120 - 8*i+j)):=by
 unfold ao
 rw[show(256:Nat)=2^8 by rfl,Nat.testBit_mod_two_pow,Nat.testBit_div_two_pow,Nat.add_comm]
theorem dY(n k j:Nat):(ey n k).testBit j=(decide (128 - k≤j)&&n.testBit j):=by
 unfold ey
 rw[Nat.testBit_mul_two_pow,Nat.testBit_div_two_pow]
 by_cases h:128 - k≤j
 ·rw[show j - (128 - k)+(128 - k)=j by omega]
 ·simp[h]
theorem pT(n k i:Nat)(hi:i < 16)(hk:k≤128):ao (ey n k) i=ft k i (ao n i):=by
 apply Nat.eq_of_testBit_eq
 intro j
 rw[jm,dY]
 unfold ft
 by_cases h1:k≤8*i
 ·rw[if_pos h1,Nat.zero_testBit]
  by_cases h:j < 8
  ·have:¬(128 - k≤120 - 8*i+j):=by omega
   simp[this]
  ·simp[h]
 ·rw[if_neg h1]
  by_cases h2:k < 8*i+8
  ·rw[if_pos h2,Nat.testBit_mul_two_pow,Nat.testBit_div_two_pow]
   by_cases h3:8*i+8 - k≤j
   ·rw[show j - (8*i+8 - k)+(8*i+8 - k)=j by omega,jm]
    have:128 - k≤120 - 8*i+j:=by omega
    simp[h3,this]
   ·have:¬(128 - k≤120 - 8*i+j):=by omega
    simp[h3,this]
  ·rw[if_neg h2,jm]
   by_cases h:j < 8
   ·have:128 - k≤120 - 8*i+j:=by omega
    simp[this]
   ·simp[h]
theorem lg{n m:Nat}(hn:n < 2^128)(hm:m < 2^128)(h:∀i,i < 16→ao n i=ao m i):n=m:=by
 apply Nat.eq_of_testBit_eq
 intro j
 by_cases hj:j < 128
 ·have h1:=h (15 - j / 8) (by omega)
  have h2:(ao n (15 - j / 8)).testBit (j%8)=(ao m (15 - j / 8)).testBit (j%8):=by rw[h1]
  rw[jm,jm]at h2
  have e:120 - 8*(15 - j / 8)+j%8=j:=by omega
  have l:j%8 < 8:=by omega
  rw[e]at h2
  simpa[l]using h2
 ·rw[Nat.testBit_lt_two_pow (Nat.lt_of_lt_of_le hn (Nat.pow_le_pow_right (by omega) (by omega))),Nat.testBit_lt_two_pow (Nat.lt_of_lt_of_le hm (Nat.pow_le_pow_right (by omega) (by omega)))]
theorem xZ(n k:Nat):ey n k≤n:=Nat.div_mul_le_self _ _
theorem DT(n:Nat):ey n 128=n:=by simp[ey]
theorem AE(n a b:Nat):ey (ey n a) b=ey n (min a b):=by
 apply Nat.eq_of_testBit_eq
 intro j
 rw[dY,dY,dY,←Bool.and_assoc]
 congr 1
 by_cases h1:128 - a≤j<;>by_cases h2:128 - b≤j<;>simp[h1,h2]<;>omega
def BU(n m k:Nat):Bool:=decide (n / 2^(128 - k)=m / 2^(128 - k))
theorem z8(n m k:Nat):BU n m k=decide (ey n k=ey m k):=by
 unfold BU ey
 have hp:0 < 2^(128 - k):=Nat.pos_of_ne_zero (by simp)
 by_cases h:n / 2^(128 - k)=m / 2^(128 - k)
 ·rw[decide_eq_true h,decide_eq_true (by rw[h])]
 ·rw[decide_eq_false h,decide_eq_false (fun h2=>h (Nat.eq_of_mul_eq_mul_right hp h2))]
theorem Aa(n m k:Nat)(hn:n < 2^128)(hm:m < 2^128):BU n m k=true↔∀j,128 - k≤j→j < 128→n.testBit j=m.testBit j:=by
 rw[z8,decide_eq_true_eq]
 constructor
 ·intro h j h1 h2
  have h3:(ey n k).testBit j=(ey m k).testBit j:=by rw[h]
  rw[dY,dY]at h3
  simpa[h1]using h3
 ·intro h
  apply Nat.eq_of_testBit_eq
  intro j
  rw[dY,dY]
  by_cases h1:128 - k≤j
  ·by_cases h2:j < 128
   ·rw[h j h1 h2]
   ·rw[Nat.testBit_lt_two_pow (Nat.lt_of_lt_of_le hn (Nat.pow_le_pow_right (by omega) (by omega))),Nat.testBit_lt_two_pow (Nat.lt_of_lt_of_le hm (Nat.pow_le_pow_right (by omega) (by omega)))]
  ·simp[h1]
def wid(v:Bool):Nat:=if v then 128 else 32
theorem nF(v:Bool):wid v≤128:=by cases v<;>decide
def tW(v:Bool)(n:Nat):Bool:=decide (ey n (wid v)=n)
def gr(v:Bool)(n:Nat)(k:Int):Bool:=decide (0≤k)&&decide (k≤wid v)&&decide (ey n k.toNat=n)
section Tree
variable{va vb:Bool}{a b ka kb:Nat}
theorem xO(v:Bool)(n:Nat)(k:Nat)(h:k≤wid v):tW v (ey n k)=true:=by
 unfold tW;rw[decide_eq_true_eq,AE,Nat.min_eq_left h]
variable(n k m:Nat)
end Tree
theorem vg(f:Nat→Nat)(hf:∀i,f i < 256):∃n,n < 2^128∧∀i,i < 16→ao n i=f i:=by
 have key:∀j,j≤16→∃n,n < 2^(8*j)∧∀i,i < j→n / 2^(8*(j - 1 - i))%256=f i:=by
  intro j
  induction j with
  |zero=>intro _;exact⟨0,by decide,fun i hi=>by omega⟩
  |succ j ih=>
   intro hj
   obtain⟨n,hn,hb⟩:=ih (by omega)
   refine⟨256*n+f j,?_,fun i hi=>?_⟩
   ·have e:2^(8*(j+1))=256*2^(8*j):=by rw[show 8*(j+1)=8*j+8 by omega,Nat.pow_add];omega
    have:=hf j
    omega
   ·by_cases h:i=j
    ·subst h
     have:=hf i
     simp;omega
    ·have h2:=hb i (by omega)
     rw[show 8*(j+1 - 1 - i)=8+8*(j - 1 - i)by omega,Nat.pow_add,←Nat.div_div_eq_div_mul]
     rw[show(256*n+f j) / 2^8=n by have:=hf j; omega]
     exact h2
 obtain⟨n,hn,hb⟩:=key 16 (Nat.le_refl _)
 refine⟨n,hn,fun i hi=>?_⟩
 have:=hb i hi
 unfold ao
 rw[show 120 - 8*i=8*(16 - 1 - i)by omega]
 exact this
def sig(d:Nat):UInt8:=UInt8.ofNat (if d < 10 then 48+d else 87+d)
def qZ(c:UInt8):Nat:=if c.toNat < 58 then c.toNat - 48 else c.toNat - 87
def au(b u:Nat):List UInt8:=if _h:u < b∨b < 2 then [sig u] else au b (u / b)++[sig (u%b)]
termination_by u
decreasing_by exact Nat.div_lt_self (by omega) (by omega)
theorem bT{b u:Nat}(h:u < b):au b u=[sig u]:=by rw[au,dif_pos (.inl h)]
theorem eB{b u:Nat}(hb:2≤b)(h:¬u < b):au b u=au b (u / b)++[sig (u%b)]:=by rw[au,dif_neg (by omega)]
theorem yW:∀d:Fin 16,qZ (sig d.val)=d.val:=by decide
theorem oZ{d:Nat}(h:d < 16):qZ (sig d)=d:=yW ⟨d,h⟩
theorem xw:∀d:Fin 16,(sig d.val).toNat=if d.val < 10 then 48+d.val else 87+d.val:=by decide
theorem gR{d:Nat}(h:d < 16):(sig d).toNat=if d < 10 then 48+d else 87+d:=xw ⟨d,h⟩
theorem mo(u:Nat):au 10 u=Lib.decDigits u:=by
 induction u using Nat.strongRecOn with
 |_ u ih=>
  by_cases h:u < 10
  ·rw[bT h,Lib.decDigits,dif_pos h];unfold sig;rw[if_pos h]
  ·rw[eB (by omega) h,Lib.decDigits,dif_neg h,ih (u / 10) (by omega)]; unfold sig; rw[if_pos (by omega)]
theorem kn{b:Nat}(h2:2≤b):∀(u:Nat) (c:UInt8),c∈au b u→∃d,d < b∧c=sig d:=by
 intro u
 induction u using Nat.strongRecOn with
 |_ u ih=>
  intro c hc
  by_cases h:u < b
  ·rw[bT h,List.mem_singleton]at hc;exact⟨u,h,hc⟩
  ·rw[eB h2 h,List.mem_append,List.mem_singleton]at hc
   rcases hc with hc|hc
   ·exact ih (u / b) (Nat.div_lt_self (by omega) (by omega)) c hc
   ·exact⟨u%b,Nat.mod_lt _ (by omega),hc⟩
theorem nc{b:Nat}(u:Nat):au b u≠[]:=by
 rw[au];split<;>simp
def ni(b:Nat)(l:List UInt8):Nat:=l.foldl (fun a c=>b*a+qZ c) 0
theorem uh(b:Nat)(l:List UInt8)(c:UInt8):ni b (l++[c])=b*ni b l+qZ c:=by simp[ni]
theorem iT{b:Nat}(h2:2≤b)(h16:b≤16)(u:Nat):ni b (au b u)=u:=by
 induction u using Nat.strongRecOn with
 |_ u ih=>
  by_cases h:u < b
  ·rw[bT h];simp[ni,oZ (by omega:u < 16)]
  ·rw[eB h2 h,uh,ih (u / b) (Nat.div_lt_self (by omega) (by omega)),oZ (Nat.lt_of_lt_of_le (Nat.mod_lt _ (by omega)) h16)]
   exact Nat.div_add_mod u b
theorem yV{b u v:Nat}(h2:2≤b)(h16:b≤16)(h:au b u=au b v):u=v:=by
 rw[←iT h2 h16 u,h,iT h2 h16]
theorem wv{b:Nat}(hb:1≤b)(l:List UInt8):∀a,a≤l.foldl (fun a c=>b*a+qZ c) a:=by
 induction l with
 |nil=>intro a;exact Nat.le_refl _
 |cons c l ih=>
  intro a
  rw[List.foldl_cons]
  refine Nat.le_trans ?_ (ih _)
  have:1*a≤b*a:=Nat.mul_le_mul_right a hb
  omega
theorem EX{b:Nat}(hb:1≤b)(l:List UInt8)(k:Nat):ni b (l.take k)≤ni b l:=by
 have h:ni b l=(l.drop k).foldl (fun a c=>b*a+qZ c) (ni b (l.take k)):=by
  conv=>lhs;rw[←List.take_append_drop k l]
  simp only[ni,List.foldl_append]
 rw[h]
 exact wv hb _ _
theorem EY{b:Nat}(l:List UInt8)(k:Nat)(c:UInt8)(hc:l[k]?=some c):ni b (l.take (k+1))=b*ni b (l.take k)+qZ c:=by
 rw[List.take_add_one,hc]
 exact uh b _ c
theorem jh{u:Nat}(h:u < 65536):(au 16 u).length≤4:=by
 by_cases h1:u < 16
 ·rw[bT h1];simp
 ·rw[eB (by omega) h1]
  by_cases h2:u / 16 < 16
  ·rw[bT h2];simp
  ·rw[eB (by omega) h2]
   by_cases h3:u / 16 / 16 < 16
   ·rw[bT h3];simp
   ·rw[eB (by omega) h3,bT (by omega)];simp
theorem gM{u:Nat}(h:u < 1000):(au 10 u).length≤3:=by
 by_cases h1:u < 10
 ·rw[bT h1];simp
 ·rw[eB (by omega) h1]
  by_cases h2:u / 10 < 10
  ·rw[bT h2];simp
  ·rw[eB (by omega) h2,bT (by omega)];simp
def LS(c:UInt8):Prop:=c.toNat < 48∨c.toNat=58
theorem iR{b u:Nat}(h2:2≤b)(h16:b≤16){c:UInt8}(hc:LS c):c∉au b u:=by
 intro h
 obtain⟨d,hd,rfl⟩:=kn h2 u c h
 unfold LS at hc
 rw[gR (by omega)]at hc
 split at hc<;>omega
def aJ(c:UInt8):List (List UInt8)→List UInt8
 | []=>[]
 | [x]=>x
 |x::y::r=>x++c::aJ c (y::r)
theorem ma(c:UInt8):∀xs,Lib.join xs [c]=aJ c xs
 | []=>rfl
 | [x]=>Lib.join_one x [c]
 |x::y::r=>by
  rw[aJ,←ma c (y::r),Lib.join_cons,Lib.join_cons]
  simp[Lib.joinTail]
def bH(c:UInt8):List UInt8→List (List UInt8)
 | []=>[[]]
 |x::l=>if x=c then []::bH c l else
  match bH c l with
  | []=>[[x]]
  |p::ps=>(x::p)::ps
theorem pD(c:UInt8)(l:List UInt8):bH c l≠[]:=by
 cases l with
 |nil=>simp[bH]
 |cons x l=>
  unfold bH
  split
  ·simp
  ·split<;>simp
theorem lH(c:UInt8):∀l,c∉l→bH c l=[l]
 | [],_=>rfl
 |x::l,h=>by
  simp at h
  unfold bH
  rw[if_neg (fun e=>h.1 e.symm),lH c l h.2]
theorem kJ(c:UInt8):∀(l m:List UInt8),c∉l→bH c (l++c::m)=l::bH c m
 | [],m,_=>by rw[List.nil_append,bH,if_pos rfl]
 |x::l,m,h=>by
  simp at h
  rw[List.cons_append,bH,if_neg (fun e=>h.1 e.symm),kJ c l m h.2]
theorem qx(c:UInt8):∀l,aJ c (bH c l)=l
 | []=>rfl
 |x::l=>by
  have ih:=qx c l
  unfold bH
  split
  ·rename_i h
   subst h
   obtain⟨p,ps,hp⟩:=List.exists_cons_of_ne_nil (pD x l)
   rw[hp]at ih ⊢
   rw[aJ,ih];rfl
  ·split
   ·rename_i h;exact absurd h (pD c l)
   ·rename_i p ps hp
    rw[hp]at ih
    cases ps with
    |nil=>simp only[aJ]at ih ⊢;rw[ih]
    |cons q qs=>simp only[aJ]at ih ⊢;rw[←ih];rfl
theorem lG(c:UInt8):∀xs:List (List UInt8),xs≠[]→(∀x∈xs,c∉x)→bH c (aJ c xs)=xs
 | [x],_,h=>lH c x (h x (by simp))
 |x::y::r,_,h=>by
  rw[aJ,kJ c x _ (h x (by simp)),lG c (y::r) (by simp) (fun z hz=>h z (by simp at hz ⊢;exact .inr hz))]
theorem xr(c:UInt8)(l:List UInt8)(k:Nat)(h:c∉l):Lib.splitK [c] 0 k l=[l]:=by
 cases k with
 |zero=>rfl
 |succ k=>
  unfold Lib.splitK
  have:Lib.index l [c] = -1:=by
   rcases Lib.index_spec l [c]with⟨h1,_⟩ | ⟨i,_,_,h3,_⟩
   ·exact h1
   ·exfalso
    unfold Lib.occAt at h3
    rw[List.isPrefixOf_iff_prefix]at h3
    obtain⟨t,ht⟩:=h3
    exact h (List.mem_of_mem_drop (i:=i) (by rw[←ht];simp))
  rw[this];rfl
theorem nZ(c:UInt8)(l m:List UInt8)(h:c∉l):Lib.index (l++c::m) [c]=l.length:=by
 refine Lib.index_first (by simp) (by simp[Lib.occAt]) fun j hj=>?_
 rw[←Bool.not_eq_true]
 intro h3
 unfold Lib.occAt at h3
 rw[List.isPrefixOf_iff_prefix]at h3
 obtain⟨t,ht⟩:=h3
 rw[List.drop_append_of_le_length (by omega)]at ht
 cases hd:l.drop j with
 |nil=>rw[List.drop_eq_nil_iff]at hd;omega
 |cons y ys=>
  rw[hd]at ht
  simp at ht
  exact h (List.mem_of_mem_drop (i:=j) (by rw[hd,ht.1];simp))
theorem tj(c:UInt8):∀l:List UInt8,c∈l→∃a b,l=a++c::b∧c∉a
 |x::l,h=>by
  by_cases hx:x=c
  ·subst hx;exact⟨[],l,rfl,by simp⟩
  ·simp only[List.mem_cons]at h
   rcases h with h|h
   ·exact absurd h.symm hx
   ·obtain⟨a,b,rfl,ha⟩:=tj c l h
    exact⟨x::a,b,rfl,by simp[ha];exact fun e=>hx e.symm⟩
theorem rB:∀(n:Nat) (c:UInt8) (l:List UInt8),l.length≤n→Lib.split l [c]=bH c l
 | 0,c,l,h=>by
  have:l=[]:=List.eq_nil_of_length_eq_zero (by omega)
  subst this
  rfl
 |n+1,c,l,h=>by
  by_cases hc:c∈l
  ·obtain⟨a,b,rfl,ha⟩:=tj c l hc
   rw[kJ c a b ha]
   have h1:=nZ c a b ha
   have h2:Lib.count (a++c::b) [c]=1+Lib.count b [c]:=by
    rw[Lib.count_hit (by simp) h1]
    congr 2
    rw[show a++c::b=(a++[c])++b by simp]
    exact List.drop_left' (by simp)
   unfold Lib.split
   rw[h2,Nat.add_comm,Lib.splitK,h1]
   have h3:((a.length:Int) == -1)=false:=by rw[beq_eq_false_iff_ne]; omega
   rw[h3]
   simp only[Bool.false_eq_true,if_false,Int.toNat_natCast,Nat.add_zero]
   rw[List.take_left' rfl,show a++c::b=(a++[c])++b by simp,List.drop_left' (by simp)]
   congr 1
   exact rB n c b (by simp at h;omega)
  ·rw[lH c l hc]
   exact xr c l _ hc
def jq(n i:Nat):Nat:=ao n (2*i)*256+ao n (2*i+1)
def bK(n:Nat):List Nat:=[jq n 0,jq n 1,jq n 2,jq n 3,jq n 4,jq n 5,jq n 6,jq n 7]
theorem GZ(n i:Nat):jq n i < 65536:=by
 have h1:=bR n (2*i)
 have h2:=bR n (2*i+1)
 unfold jq;omega
def lM:List Bool→Nat
 |true::l=>lM l+1
 |_=>0
theorem BW:∀l,lM l≤l.length
 | []=>Nat.le_refl _
 |true::l=>by have:=BW l;simp[lM];exact this
 |false::l=>by simp[lM]
def Ee(z:List Bool):Nat→Nat→Nat→Nat→Nat×Nat
 | 0,_,f,t=>(f,t)
 |u+1,i,f,t=>if i < 8 then
   (if i+lM (z.drop i) - i > max (t - f) 1 then Ee z u (max i (i+lM (z.drop i) - 1)+1) i (i+lM (z.drop i))else Ee z u (max i (i+lM (z.drop i) - 1)+1) f t)
  else(f,t)
def fO(z:List Bool):Nat×Nat:=Ee z 8 0 0 0
def Ma(z:List Bool):Nat→Nat→Nat→Nat→Nat×Nat
 | 0,_,a,l=>(a,l)
 |u+1,i,a,l=>if lM (z.drop i) > l then Ma z u (i+1) i (lM (z.drop i))else Ma z u (i+1) a l
def Dz(z:List Bool):Nat×Nat:=Ma z 8 0 0 0
theorem Ku:∀z0 z1 z2 z3 z4 z5 z6 z7:Bool,
  fO [z0,z1,z2,z3,z4,z5,z6,z7]=(if 1 < (Dz [z0,z1,z2,z3,z4,z5,z6,z7]).2 then((Dz [z0,z1,z2,z3,z4,z5,z6,z7]).1,(Dz [z0,z1,z2,z3,z4,z5,z6,z7]).1+(Dz [z0,z1,z2,z3,z4,z5,z6,z7]).2)else(0,0))∧
  (Dz [z0,z1,z2,z3,z4,z5,z6,z7]).1+(Dz [z0,z1,z2,z3,z4,z5,z6,z7]).2≤8∧
  ((([z0,z1,z2,z3,z4,z5,z6,z7].take (fO [z0,z1,z2,z3,z4,z5,z6,z7]).2).drop (fO [z0,z1,z2,z3,z4,z5,z6,z7]).1).all id)=true:=by decide+kernel
def zs(l:List Nat):List Bool:=l.map (·==0)
def cV(l:List Nat):List UInt8:=aJ 58 (l.map (au 16))
def dx(l:List Nat):List UInt8:=
 if(fO (zs l)).1=(fO (zs l)).2 then cV l else cV (l.take (fO (zs l)).1)++(58::58::cV (l.drop (fO (zs l)).2))
def gB(n:Nat):List UInt8:=aJ 46 [au 10 (ao n 0),au 10 (ao n 1),au 10 (ao n 2),au 10 (ao n 3)]
def iW(v:Bool)(n:Nat):List UInt8:=if v then dx (bK n)else gB n
theorem A9(u:Nat):(58:UInt8)∉au 16 u:=iR (by omega) (by omega) (.inr (by decide))
theorem A8(u:Nat):(46:UInt8)∉au 10 u:=iR (by omega) (by omega) (.inl (by decide))
theorem wJ(u:Nat):(58:UInt8)∉au 10 u:=iR (by omega) (by omega) (.inr (by decide))
def NP(l:List UInt8):Prop:=∀j:Nat,l[j]?=some 58→∃c,l[j+1]?=some c∧c≠58
theorem qy(xs:List (List UInt8))(hn:xs≠[])(h:∀x∈xs,x≠[]∧(58:UInt8)∉x):∃c,(aJ 58 xs)[0]?=some c∧c≠58:=by
 obtain⟨x,r,rfl⟩:=List.exists_cons_of_ne_nil hn
 obtain⟨h1,h2⟩:=h x (by simp)
 obtain⟨c,l,rfl⟩:=List.exists_cons_of_ne_nil h1
 refine⟨c,?_,fun e=>h2 (by simp[e])⟩
 cases r with
 |nil=>simp[aJ]
 |cons y r=>simp[aJ]
theorem yA:∀xs:List (List UInt8),(∀x∈xs,x≠[]∧(58:UInt8)∉x)→NP (aJ 58 xs)
 | [],_=>by intro j hj;simp[aJ]at hj
 | [x],h=>by
  intro j hj
  exact absurd (List.mem_of_getElem? hj) (h x (by simp)).2
 |x::y::r,h=>by
  intro j hj
  rw[aJ]at hj ⊢
  have hr:∀z∈y::r,z≠[]∧(58:UInt8)∉z:=fun z hz=>h z (by simp at hz ⊢;exact .inr hz)
  by_cases h1:j < x.length
  ·rw[List.getElem?_append_left h1]at hj
   exact absurd (List.mem_of_getElem? hj) (h x (by simp)).2
  ·rw[List.getElem?_append_right (by omega)]at hj
   rw[List.getElem?_append_right (by omega)]
   by_cases h2:j=x.length
   ·rw[show j+1 - x.length=1 by omega]
    exact qy (y::r) (by simp) hr
   ·obtain⟨i,hi⟩:∃i,j - x.length=i+1:=⟨j - x.length - 1,by omega⟩
    rw[hi,List.getElem?_cons_succ]at hj
    rw[show j+1 - x.length=i+1+1 by omega,List.getElem?_cons_succ]
    exact yA (y::r) hr i hj
theorem so(s:List UInt8)(j:Nat):Lib.occAt s [58,58] j=true↔s[j]?=some 58∧s[j+1]?=some 58:=by
 unfold Lib.occAt
 rw[List.isPrefixOf_iff_prefix]
 constructor
 ·rintro⟨t,ht⟩
  have h0:(s.drop j)[0]?=some 58:=by rw[←ht];rfl
  have h1:(s.drop j)[1]?=some 58:=by rw[←ht];rfl
  rw[List.getElem?_drop]at h0 h1
  exact⟨h0,h1⟩
 ·rintro⟨h0,h1⟩
  refine⟨s.drop (j+2),?_⟩
  have e0:=(List.getElem?_eq_some_iff.1 h0)
  have e1:=(List.getElem?_eq_some_iff.1 h1)
  obtain⟨l0,e0⟩:=e0
  obtain⟨l1,e1⟩:=e1
  rw[List.drop_eq_getElem_cons l0,e0,List.drop_eq_getElem_cons l1,e1]
  rfl
theorem AQ(l m:List UInt8)(h:NP l):Lib.index (l++58::58::m) [58,58]=l.length:=by
 refine Lib.index_first (by simp) ((so _ _).2 ?_) fun j hj=>?_
 ·rw[List.getElem?_append_right (by omega),List.getElem?_append_right (by omega)]
  rw[show l.length - l.length=0 by omega,show l.length+1 - l.length=1 by omega]
  exact⟨rfl,rfl⟩
 ·rw[←Bool.not_eq_true,so]
  rintro⟨h0,h1⟩
  rw[List.getElem?_append_left hj]at h0
  obtain⟨c,hc,hn⟩:=h j h0
  have:j+1 < l.length:=(List.getElem?_eq_some_iff.1 hc).1
  rw[List.getElem?_append_left this,hc]at h1
  exact hn (by simpa using h1)
theorem wi(l:List UInt8)(h:NP l):Lib.index l [58,58] = -1:=by
 refine Lib.index_none fun j _=>?_
 rw[←Bool.not_eq_true,so]
 rintro⟨h0,h1⟩
 obtain⟨c,hc,hn⟩:=h j h0
 rw[hc]at h1
 exact hn (by simpa using h1)
theorem rZ(l:List Nat):∀x∈l.map (au 16),x≠[]∧(58:UInt8)∉x:=by
 intro x hx
 rw[List.mem_map]at hx
 obtain⟨u,_,rfl⟩:=hx
 exact⟨nc u,A9 u⟩
theorem yz(l:List Nat):NP (cV l):=yA _ (rZ l)
theorem yy(l:List Nat)(h:l≠[]):bH 58 (cV l)=l.map (au 16):=lG 58 _ (by simpa using h) fun x hx=>(rZ l x hx).2
theorem D3(l:List Nat):cV l=[]↔l=[]:=by
 constructor
 ·intro h
  by_cases hl:l=[]
  ·exact hl
  ·obtain⟨c,hc,_⟩:=qy (l.map (au 16)) (by simpa using hl) (rZ l)
   unfold cV at h
   rw[h]at hc;simp at hc
 ·intro h;subst h;rfl
theorem Em(l:List Nat):Lib.cut (dx l) [58,58]=if(fO (zs l)).1=(fO (zs l)).2 then(cV l,[],false)else(cV (l.take (fO (zs l)).1),cV (l.drop (fO (zs l)).2),true):=by
 unfold dx
 by_cases h:(fO (zs l)).1=(fO (zs l)).2
 ·rw[if_pos h,if_pos h]
  unfold Lib.cut
  rw[wi _ (yz l)]
  rfl
 ·rw[if_neg h,if_neg h]
  unfold Lib.cut
  rw[AQ _ _ (yz _),if_pos (by omega)]
  simp only[Int.toNat_natCast]
  rw[List.take_left' rfl]
  congr 2
  rw[show ∀a b:List UInt8,a++58::58::b=(a++[58,58])++b by simp]
  exact List.drop_left' (by simp)
theorem DQ(c:UInt8)(x y:List UInt8)(r:List (List UInt8)):c∈aJ c (x::y::r):=by simp[aJ]
theorem y8(x0 x1 x2 x3 x4 x5 x6 x7:Nat):(58:UInt8)∈dx [x0,x1,x2,x3,x4,x5,x6,x7]:=by
 unfold dx
 split
 ·exact DQ _ _ _ _
 ·simp
theorem Bd(n:Nat):(58:UInt8)∈dx (bK n):=y8 _ _ _ _ _ _ _ _
theorem fk{c d:UInt8}:∀{xs:List (List UInt8)},d∈aJ c xs→d=c∨∃x∈xs,d∈x
 | [],h=>by simp[aJ]at h
 | [x],h=>.inr ⟨x,by simp,h⟩
 |x::y::r,h=>by
  rw[aJ,List.mem_append,List.mem_cons]at h
  rcases h with h|h|h
  ·exact .inr ⟨x,by simp,h⟩
  ·exact .inl h
  ·rcases fk h with h|⟨z,hz,h⟩
   ·exact .inl h
   ·exact .inr ⟨z,by simp at hz ⊢;exact .inr hz,h⟩
theorem y9(n:Nat):(58:UInt8)∉gB n:=by
 intro h
 rcases fk h with h|⟨x,hx,h⟩
 ·exact absurd h (by decide)
 ·simp at hx
  rcases hx with rfl|rfl|rfl|rfl<;>exact wJ _ h
theorem xq(n:Nat):bH 46 (gB n)=[au 10 (ao n 0),au 10 (ao n 1),au 10 (ao n 2),au 10 (ao n 3)]:=by
 refine lG 46 _ (by simp) fun x hx=>?_
 simp at hx
 rcases hx with rfl|rfl|rfl|rfl<;>exact A8 _
theorem Cm(s:List UInt8)(c:UInt8)(j:Nat):Lib.occAt s [c] j=true↔s[j]?=some c:=by
 unfold Lib.occAt
 rw[List.isPrefixOf_iff_prefix]
 constructor
 ·rintro⟨t,ht⟩
  have h0:(s.drop j)[0]?=some c:=by rw[←ht];rfl
  rwa [List.getElem?_drop]at h0
 ·intro h0
  obtain⟨l0,e0⟩:=List.getElem?_eq_some_iff.1 h0
  exact⟨s.drop (j+1),by rw[List.drop_eq_getElem_cons l0,e0];rfl⟩
theorem yK(l:List Nat)(hl:l.length=8):(fO (zs l)).1≤(fO (zs l)).2∧(fO (zs l)).2≤8∧l.take (fO (zs l)).1++List.replicate (8 - (l.take (fO (zs l)).1).length - (l.drop (fO (zs l)).2).length) 0++l.drop (fO (zs l)).2=l:=by
 obtain⟨x0,x1,x2,x3,x4,x5,x6,x7,rfl⟩:∃x0 x1 x2 x3 x4 x5 x6 x7,l=[x0,x1,x2,x3,x4,x5,x6,x7]:=by
  match l,hl with
  | [x0,x1,x2,x3,x4,x5,x6,x7],_=>exact⟨_,_,_,_,_,_,_,_,rfl⟩
 obtain⟨h1,h2,h3⟩:=Ku (x0==0) (x1==0) (x2==0) (x3==0) (x4==0) (x5==0) (x6==0) (x7==0)
 have hz:zs [x0,x1,x2,x3,x4,x5,x6,x7]=[x0==0,x1==0,x2==0,x3==0,x4==0,x5==0,x6==0,x7==0]:=rfl
 rw[←hz]at h1 h2 h3
 generalize hG:fO (zs [x0,x1,x2,x3,x4,x5,x6,x7])=G at*
 obtain⟨f,t⟩:=G
 have hft:f≤t∧t≤8:=by
  split at h1<;>simp only[Prod.mk.injEq]at h1<;>omega
 refine⟨hft.1,hft.2,?_⟩
 simp only at h3 ⊢
 have hmid:([x0,x1,x2,x3,x4,x5,x6,x7].take t).drop f=List.replicate (t - f) 0:=by
  apply List.eq_replicate_iff.2
  refine⟨by simp;omega,fun b hb=>?_⟩
  have h4:(b==0)=true:=by
   rw[List.all_eq_true]at h3
   refine h3 (b==0) ?_
   unfold zs
   rw[←List.map_take,←List.map_drop]
   exact List.mem_map.2 ⟨b,hb,rfl⟩
  simpa using h4
 have e:[x0,x1,x2,x3,x4,x5,x6,x7]=([x0,x1,x2,x3,x4,x5,x6,x7].take t).take f++([x0,x1,x2,x3,x4,x5,x6,x7].take t).drop f++[x0,x1,x2,x3,x4,x5,x6,x7].drop t:=by
  rw[List.take_append_drop,List.take_append_drop]
 conv=>rhs;rw[e]
 rw[hmid,List.take_take,Nat.min_eq_left hft.1]
 congr 3
 simp;omega
def fS(f:Nat→Nat)(k n:Nat):Nat→Nat:=fun j=>if j=k then n else f j
structure PX where
 v:Bool
 n:Nat
 k:Nat
 ok:gr v n k=true
 lt:n < 2^128
theorem PX.ext'{x y:PX}(h1:x.v=y.v)(h2:x.n=y.n)(h3:x.k=y.k):x=y:=by
 cases x;cases y;simp only at h1 h2 h3;subst h1 h2 h3;rfl
instance:Inhabited PX:=⟨⟨false,0,0,by decide,by decide⟩⟩
instance:DecidableEq PX:=fun x y=>decidable_of_iff (x.v=y.v∧x.n=y.n∧x.k=y.k) ⟨fun h=>PX.ext' h.1 h.2.1 h.2.2,fun h=>by subst h;exact⟨rfl,rfl,rfl⟩⟩
theorem PX.mask(x:PX):ey x.n x.k=x.n:=by
 have h:=x.ok
 unfold gr at h
 simp only[Bool.and_eq_true,decide_eq_true_eq,Int.toNat_natCast]at h
 exact h.2
theorem PX.Pw(x:PX):x.k≤wid x.v:=by
 have h:=x.ok
 unfold gr at h
 simp only[Bool.and_eq_true,decide_eq_true_eq]at h
 omega
theorem PX.tW(x:PX):tW x.v x.n=true:=by
 have:=xO x.v x.n x.k x.Pw
 rwa [x.mask]at this
def PX.len(x:PX):Nat:=2^(128 - x.k)
def Qd(v:Bool):Nat:=if v then 2^128 else 0
def PX.lo(x:PX):Nat:=Qd x.v+x.n
def PX.hi(x:PX):Nat:=x.lo+x.len
def Ih(n i:Nat):Bool:=n.testBit (127 - i)
theorem DS(n k:Nat):ey n k=n↔∀j,j < 128 - k→n.testBit j=false:=by
 constructor
 ·intro h j hj
  have:=dY n k j
  rw[h,decide_eq_false (by omega),Bool.false_and]at this
  exact this
 ·intro h
  apply Nat.eq_of_testBit_eq
  intro j
  rw[dY]
  by_cases hj:128 - k≤j
  ·rw[decide_eq_true hj,Bool.true_and]
  ·rw[decide_eq_false hj,Bool.false_and,h j (by omega)]
def M0(n i:Nat):Nat:=n ^^^ (if Ih n i then 2^(127 - i)else 0)
theorem Hv(n i j:Nat):(M0 n i).testBit j=(n.testBit j&&!decide (j=127 - i)):=by
 unfold M0 Ih
 rw[Nat.testBit_xor]
 by_cases h:j=127 - i
 ·subst h
  cases hb:n.testBit (127 - i)<;>simp[Nat.testBit_two_pow_self]
 ·rw[decide_eq_false h]
  split
  ·rw[Nat.testBit_two_pow_of_ne (fun e=>h e.symm)];simp
  ·simp
def Cut(n k m x:Nat):Prop:=∀j,x.testBit j=(n.testBit j&&!(decide (128 - m≤j)&&decide (j < 128 - k)))
theorem Cut.start(n k:Nat):Cut n k k n:=fun j=>by
 by_cases h:128 - k≤j
 ·rw[decide_eq_false (p:=j < 128 - k) (by omega)]; simp
 ·rw[decide_eq_false h];simp
theorem Cut.step{n k m x:Nat}(h:Cut n k m x)(hk:k≤m)(hm:m < 128):Cut n k (m+1) (M0 x m):=fun j=>by
 rw[Hv,h j]
 by_cases h1:j=127 - m
 ·subst h1
  rw[decide_eq_true rfl,decide_eq_true (p:=128 - (m+1)≤127 - m) (by omega),decide_eq_true (p:=127 - m < 128 - k) (by omega)]; simp
 ·rw[decide_eq_false h1]
  by_cases h2:128 - m≤j
  ·rw[decide_eq_true h2,decide_eq_true (p:=128 - (m+1)≤j) (by omega)]; simp
  ·rw[decide_eq_false h2,decide_eq_false (p:=128 - (m+1)≤j) (by omega)]; simp
theorem Cut.fin{v:Bool}{n k x:Nat}(h:Cut n k (wid v) x)(hA:tW v n=true)(_:k≤wid v):x=ey n k:=by
 have hw:=nF v
 unfold tW at hA
 rw[decide_eq_true_eq,DS]at hA
 apply Nat.eq_of_testBit_eq
 intro j
 rw[h j,dY]
 by_cases h1:j < 128 - wid v
 ·rw[hA j h1];simp
 ·rw[decide_eq_true (p:=128 - wid v≤j) (by omega),Bool.true_and]
  by_cases h2:j < 128 - k
  ·rw[decide_eq_true h2,decide_eq_false (p:=128 - k≤j) (by omega)]; simp
  ·rw[decide_eq_false h2,decide_eq_true (p:=128 - k≤j) (by omega)]; simp
def IB(n m i:Nat):Prop:=∀j,j < i→Ih n j=Ih m j
theorem IB.fin{n m k:Nat}(hn:n < 2^128)(hm:m < 2^128)(hk:k≤128)(h:IB n m k):BU n m k=true:=by
 rw[Aa n m k hn hm]
 intro j h1 h2
 have:=h (127 - j) (by omega)
 unfold Ih at this
 rwa [show 127 - (127 - j)=j by omega]at this
end Go.Proofs.YtnncigmpcdehnaaGreatDoor
