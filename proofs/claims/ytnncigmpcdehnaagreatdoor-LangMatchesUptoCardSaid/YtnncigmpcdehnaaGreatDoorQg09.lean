import Derived.Test.YtnncigmpcdehnaaGreatDoorQg08
import Derived.Lib.AppendStr
import Derived.Lib.UnsafeStr
import Derived.Lib.Builder
import Derived.StillTailTactics
open List renaming mem_filterMap→WN,getElem?_eq_some_iff→WO,mem_singleton→WQ,length_append→WR,eq_nil_of_length_eq_zero→WV,mem_cons→W0,length_cons→W2,mem_cons_of_mem→W3,flatMap_cons→W6,length_take→W8,nil_append→Xa,length_nil→Xb,getElem?_eq_none_iff→Xf,map_cons→Xh,length_pos_iff→Xl,append_assoc→Xp,append_nil→Xq,drop_zero→Xs,map_map→Xu,map_id→Xv
open Go.Value renaming slice→WS,bool→WT,int→WX,string→W5,ownBlock→Xd
open Nat renaming le_refl→WU,add_zero→W7,beq→Xe,le_trans→Xj,eq_of_beq_eq_true→Xk,mul_one→Xm,add_mul→Xn,lt_of_lt_of_le→Xo,beq_eq→Xw
open Go.IntKind renaming i64→WW
open Bool renaming eq_false_iff→WY,eq_iff_iff→Xr
open And renaming intro→WZ
open Go.Instr renaming indexAt→W4,loadAt→Xt
open Eq renaming mp→Xc
namespace Go.Proofs.YtnncigmpcdehnaaGreatDoor
open Go.RowKit Go.Lib Go.Sort _root_.Go.Proofs.Tryz
structure ly(w:World):Prop where
 uB:dO w
 et:w.cell? ⟨0,0,none⟩=some (.iface 242 (.agg #[(pt 9 48)]))
theorem ly.aF{S:List Nat}{w w':World}(h:ly w)(hc:ai S w w')(hS:∀k∈S,9≤k):ly w':=
 ⟨h.uB.aF hc hS,(hc.cell (p:=⟨0,0,none⟩) (Xo (show 0 < 9 by omega) h.uB.low) (fun hk=>by have:=hS 0 hk;omega)).trans h.et⟩
def bw(s:Bs):List Bs:=bJ 10 s
theorem Oa(w:World)(s:Bs)(hs:s.length≤1100000)(hl:dO w):Calls prog 62 #[ae s,.string ⟨#[10]⟩] w (Sx.dM w (.sl 9 1 (bw s).length ((bw s).map ae))):=by refine(zn s 10 (by omega) w hl).mono ?_;rintro e w' ⟨rfl,rfl⟩;have hc:=gK 10 s;refine⟨_,rfl,⟨by simp,.inr ⟨w.heap.size,0,_,strs (bJ 10 s),rfl,aq.new w 9 (strs (bJ 10 s)).toArray,WU _,by unfold maxLen;omega,by simp[strs],?_⟩⟩,fun k hk=>(by cases hk;exact WU _),(ai.refl [] w).alloc _⟩;rw[Xs,List.take_of_length_le (by simp[strs,bw])];rfl
theorem R5{b:Sx.aV}{mem:List Sx.Row}{l:Bs}{cf cf':CF}{d i:Nat}(m:Nat)(hm:m=mem.length)(hlan:ly b.w)(hS9:∀k∈b.S,9≤k)(hl:l.length≤1100000)(qT:cf.ak.length≤1100000∧cf.af.length≤1100000∧cf.rules.length≤1100000∧cf.ag.length≤1100000∧cf.ab.length≤1100000)(hd:d≤1100000)
  (hr:xB (Sx.rowAt mem) none none 1 2 3 4 5 6 7 cf d) (hT:fm (aE true l) cf d=.ok cf' i) (W:World) (β:Sx.Env) (hS:Sx.eM b β W (Sx.rowAt mem) [1,2,3,4,5,6,7]) :
  Calls prog 64 (([.val (ae l),.ptr 1 0,.ptr 2 0]:List Sx.SV).map (Sx.SV.den β)).toArray W (Sx.br b β W (Sx.rowAt mem) m (VT none none [] 1 2 3 4 5 6 7 m cf' (dN (aE true l) d) .nilIface none)):=by
 subst hm;obtain⟨hat,hbd,hnd,hnew⟩:=MG hS hr (by simp) (by decide);have hC:U9 W (β 1) (β 2) cf d (lG β 3 4 5 6 7):=⟨hat,hbd,hnd,qT,hd,hlan.uB.aF hS.aF hS9,fun k hk=>by
  rcases hnew k hk with hx|hx
  ·exact hS9 k hx
  ·exact Xj hlan.uB.low hx⟩
 show Calls prog 64 #[ae l,.pointer (some ⟨β 1,0,none⟩),.pointer (some ⟨β 2,0,none⟩)] W _;refine(QN l hl hC).mono fun e w' hp=>?_;rcases hp with⟨cf2,i2,s',hT2,he,hcf,hb',hn',hf',hc⟩ | ⟨code,p,N,hT2,_⟩
 ·rw[hT]at hT2
  injection hT2 with h1 _;subst h1;exact .inl ⟨fun p hp=>(by cases hp),aJ β mem.length cf' s',P9 (X:=[]) hr (fun g hg=>(by cases hg)) (fun g hg=>(by cases hg)) he hcf hb' hn' (fun k hk=>(by cases hk)) (fun k hk=>by simpa using hf' k hk) (by simpa using hc)⟩
 ·rw[hT]at hT2;cases hT2
def UY(m:Nat)(code p:Nat):Sx.ct:=⟨[1,2,3,4,5,6,7],[],[1,2,3,4,5,6,7],[⟨105,.aj [.int .i64 (code:Int),.int .i64 (p:Int)]⟩],.kI 103 m 0,none⟩
theorem O7{b:Sx.aV}{mem:List Sx.Row}{l:Bs}{cf:CF}{d code p:Nat}(m:Nat)(hm:m=mem.length)(hlan:ly b.w)(hS9:∀k∈b.S,9≤k)(hl:l.length≤1100000)(qT:cf.ak.length≤1100000∧cf.af.length≤1100000∧cf.rules.length≤1100000∧cf.ag.length≤1100000∧cf.ab.length≤1100000)(hd:d≤1100000)
  (hr:xB (Sx.rowAt mem) none none 1 2 3 4 5 6 7 cf d) (hT:fm (aE true l) cf d=.no code p) (W:World) (β:Sx.Env) (hS:Sx.eM b β W (Sx.rowAt mem) [1,2,3,4,5,6,7]) :
  Calls prog 64 (([.val (ae l),.ptr 1 0,.ptr 2 0]:List Sx.SV).map (Sx.SV.den β)).toArray W (Sx.br b β W (Sx.rowAt mem) m (UY m code p)):=by
 obtain⟨hat,hbd,hnd,hnew⟩:=MG hS hr (by simp) (by decide);have hC:U9 W (β 1) (β 2) cf d (lG β 3 4 5 6 7):=⟨hat,hbd,hnd,qT,hd,hlan.uB.aF hS.aF hS9,fun k hk=>by
  rcases hnew k hk with hx|hx
  ·exact hS9 k hx
  ·exact Xj hlan.uB.low hx⟩
 show Calls prog 64 #[ae l,.pointer (some ⟨β 1,0,none⟩),.pointer (some ⟨β 2,0,none⟩)] W _;refine(QN l hl hC).mono fun e w' hp=>?_;rcases hp with⟨cf2,i2,s',hT2,_⟩ | ⟨code2,p2,N,hT2,he,hN,hB,hc⟩
 ·rw[hT]at hT2;cases hT2
 ·rw[hT]at hT2
  injection hT2 with h1 h2;subst h1 h2;refine .inl ⟨fun p hp=>(by cases hp),⟨fun i=>if i=m then N else β.b i,β.a,β.n,β.c⟩,fun i hi=>⟨by show _=if i=m then N else β.b i;rw[if_neg (by omega)],rfl,rfl,rfl⟩,?_,fun q hq=>(by cases hq),fun k r hk=>?_,fun k r x hk hx=>?_,fun k k' r r' x hk hk' _ _=>?_,hc.mono fun k hk=>.inl ?_⟩
  ·rw[he]
   show _=Ending.returned (.iface 103 (.pointer (some ⟨if m=m then N else β.b m,0,none⟩)));rw[if_pos rfl]
  ·match k,hk with
   | 0,hk=>cases hk;show aq w' (if m+0=m then N else β.b (m+0)) 105 _;rw[W7,if_pos rfl];exact hB
  ·match k,hk with
   | 0,hk=>cases hk;have hx:some (if m+0=m then N else β.b (m+0))=some x:=hx;rw[W7,if_pos rfl]at hx;cases hx;exact .inr hN
  ·match k,k',hk,hk' with
   | 0,0,_,_=>rfl
  ·show k∈([]++[1,2,3,4,5,6,7]).filterMap (Sx.b8 β (Sx.rowAt mem))
   have bk:∀{i:Nat} {r:Sx.Row} {k:Nat},Sx.rowAt mem i=some r→Sx.aB β i r=some k→Sx.b8 β (Sx.rowAt mem) i=some k:=fun {i r k} hi hk=>by unfold Sx.b8;rw[hi];exact hk
   rcases ek.1 hk with hx|hx|hx|hx|hx|hx|hx
   ·exact WN.2 ⟨1,by simp,bk hr.c (by rw[hx];exact xl)⟩
   ·exact WN.2 ⟨2,by simp,bk hr.d (by rw[hx];exact EW)⟩
   ·exact WN.2 ⟨3,by simp,bk hr.p hx⟩
   ·exact WN.2 ⟨4,by simp,bk hr.r hx⟩
   ·exact WN.2 ⟨5,by simp,bk hr.l hx⟩
   ·exact WN.2 ⟨6,by simp,bk hr.m hx⟩
   ·exact WN.2 ⟨7,by simp,bk hr.i hx⟩
theorem Qm{b:Sx.aV}{row:Nat→Option Sx.Row}{m k:Nat}(W:World)(β:Sx.Env)(_:Sx.eM b β W row []) :
  Calls prog 63 (([.val .nilIface,.kI 111 k 0]:List Sx.SV).map (Sx.SV.den β)).toArray W (Sx.br b β W row m ⟨[],[],[],[],.val (.bool false),none⟩):=
 (SM _ W).mono fun e w' ⟨he,hw⟩=>.inl ⟨fun p hp=>(by cases hp),β,Sx.dt (v:=.bool false) rfl rfl he (fun q hq=>by cases hq) (by rw[hw];exact ai.refl _ _)⟩
theorem G6{b:Sx.aV}{row:Nat→Option Sx.Row}{m k N:Nat}(hlan:ly b.w)(hS9:∀k∈b.S,9≤k)(hk:row k=some ⟨103,.aj [.pointer none]⟩)(W:World)(β:Sx.Env)(hS:Sx.eM b β W row [k]) :
  Calls prog 63 (([.kI 103 N 0,.kI 111 k 0]:List Sx.SV).map (Sx.SV.den β)).toArray W (Sx.br b β W row m ⟨[k],[(k,⟨103,.dC [.ptr N 0]⟩)],[],[],.val (.bool true),none⟩):=by
 have hB:aq W (β k) 103 [.pointer none]:=hS.held k (by simp) _ hk;refine(SN ⟨β N,0,none⟩ ⟨β k,0,none⟩ (.pointer none) W (hlan.aF hS.aF hS9).et (hB.cell_of rfl) (hB.frozen 0)).mono fun e w' ⟨he,hw⟩=>.inl ⟨fun p hp=>(by cases hp),β,Sx.dt (v:=.bool true) rfl rfl he (fun q hq=>?_) ?_⟩
 ·have hq:q=(k,⟨103,.dC [.ptr N 0]⟩):=WQ.1 hq
  subst hq;show aq w' (β k) 103 [.pointer (some ⟨β N,0,none⟩)];rw[hw];refine aq.q8 (cs:=[.pointer none]) ?_ 0 _;exact(((hB.aF ((ai.refl [] W).alloc _) (by simp)).aF ((ai.refl [] _).alloc _) (by simp)).aF ((ai.refl [] _).alloc _) (by simp)).aF ((ai.refl [] _).alloc _) (by simp)
 ·have ht:Sx.ct.dQ β row ⟨[k],[(k,⟨103,.dC [.ptr N 0]⟩)],[],[],.val (.bool true),none⟩=[β k]:=by
   have:Sx.b8 β row k=some (β k):=by unfold Sx.b8;rw[hk];rfl
   show([k]++[]).filterMap (Sx.b8 β row)=_;simp[this]
  rw[ht,hw];exact((((ai.refl _ W).alloc _).alloc _).alloc _ |>.alloc _).setCell (.inl (by simp)) _
open Go.RowKit Go.Lib Go.Sort
def qS(s:Bs)(b i:Nat):Bs:=(s.take i).drop b
theorem Kn{s:Bs}{b i:Nat}{c:UInt8}(h:s[i]?=some c)(hb:b≤i):qS s b (i+1)=qS s b i++[c]:=by have hl:=(WO.1 h).1;unfold qS;rw[List.take_add_one,h,List.drop_append_of_le_length (by rw[W8];omega)];rfl
theorem FX(s:Bs)(i:Nat):qS s i i=[]:=by unfold qS;rw[List.drop_eq_nil_iff,W8];omega
theorem Oi{s:Bs}{b i:Nat}(h:i≤s.length):(qS s b i).length=i - b:=by unfold qS;rw[List.length_drop,W8];omega
theorem o5{s:Bs}{b i:Nat}(h:i≤s.length)(hb:b≤i):qS s b i=[]↔¬b < i:=by rw[←List.length_eq_zero_iff,Oi h];omega
theorem drop_at{s:Bs}{i:Nat}{c:UInt8}(h:s[i]?=some c):s.drop i=c::s.drop (i+1):=by obtain⟨h1,rfl⟩:=WO.1 h;exact List.drop_eq_getElem_cons h1
def gE(s:Bs):Nat→List Bs×Nat
 | 0=>([],0)
 |i+1=>match s[i]? with
  |none=>gE s i
  |some c=>match decide (c=32∨c=9)with
   |false=>gE s i
   |true=>match decide ((gE s i).2 < i)with
    |true=>((gE s i).1++[qS s (gE s i).2 i],i+1)
    |false=>((gE s i).1,i+1)
theorem uJ(s:Bs):∀i,(gE s i).2≤i∧(gE s i).1.length≤i
 | 0=>⟨WU _,WU _⟩
 |i+1=>by
  have:=uJ s i;rw[gE];cases s[i]? with
  |none=>exact⟨by show(gE s i).2≤_;omega,by show(gE s i).1.length≤_;omega⟩
  |some c=>
   simp only;cases decide (c=32∨c=9)with
   |false=>exact⟨by show(gE s i).2≤_;omega,by show(gE s i).1.length≤_;omega⟩
   |true=>
    simp only;cases decide ((gE s i).2 < i)with
    |true=>exact⟨WU _,by show((gE s i).1++[_]).length≤_;rw[WR];show _+1≤_;omega⟩
    |false=>exact⟨WU _,by show(gE s i).1.length≤_;omega⟩
theorem FF(cm:Bool)(s:Bs):∀i,i≤s.length→(∀j < i,s[j]?=some 35→cm=false)→(gE s i).1++a7 cm (qS s (gE s i).2 i) (s.drop i)=aE cm s
 | 0,_,_=>by simp[gE,qS,aE]
 |i+1,hi,hj=>by
  have h1:=FF cm s i (by omega) (fun j h=>hj j (by omega));have hb:=(uJ s i).1;obtain⟨c,hc⟩:∃c,s[i]?=some c:=⟨s[i],List.getElem?_eq_getElem (by omega)⟩;have hcm:¬(cm=true∧c=35):=fun⟨h,h'⟩=>by have:=hj i (by omega) (by rw[hc,h']);rw[h]at this;cases this
  rw[drop_at hc,a7,if_neg hcm]at h1;rw[gE,hc];simp only;by_cases hbl:c=32∨c=9
  ·rw[if_pos hbl]at h1
   rw[decide_eq_true hbl];simp only;by_cases hlt:(gE s i).2 < i
   ·rw[if_neg (fun h=>(o5 (by omega) hb).1 h hlt)]at h1
    rw[decide_eq_true hlt];show((gE s i).1++[qS s (gE s i).2 i])++a7 cm (qS s (i+1) (i+1)) _=_;rw[←h1,FX];simp
   ·rw[if_pos ((o5 (by omega) hb).2 hlt)]at h1
    rw[decide_eq_false hlt];show(gE s i).1++a7 cm (qS s (i+1) (i+1)) _=_;rw[←h1,FX]
  ·rw[if_neg hbl]at h1
   rw[decide_eq_false hbl];show(gE s i).1++a7 cm (qS s (gE s i).2 (i+1)) _=_;rw[Kn hc hb,h1]
def Va(s:Bs)(i:Nat):List Bs:=match decide ((gE s i).2 < i)with
 |true=>(gE s i).1++[qS s (gE s i).2 i]
 |false=>(gE s i).1
theorem NT{cm:Bool}{s:Bs}{i:Nat}(hi:i≤s.length)(hj:∀j < i,s[j]?=some 35→cm=false)(he:i=s.length∨(cm=true∧s[i]?=some 35)):Va s i=aE cm s:=by
 have h1:=FF cm s i hi hj;have hb:=(uJ s i).1;have e:a7 cm (qS s (gE s i).2 i) (s.drop i)=if qS s (gE s i).2 i=[] then [] else [qS s (gE s i).2 i]:=by
  rcases he with rfl|⟨h,hc⟩
  ·rw[List.drop_length];rfl
  ·rw[drop_at hc,a7,if_pos ⟨h,rfl⟩]
 rw[e]at h1;unfold Va;by_cases hlt:(gE s i).2 < i
 ·rw[if_neg (fun h=>(o5 hi hb).1 h hlt)]at h1
  rw[decide_eq_true hlt];exact h1
 ·rw[if_pos ((o5 hi hb).2 hlt),Xq]at h1
  rw[decide_eq_false hlt];exact h1
open Go.RowKit Go.Lib Go.Sort
def L1(c:UInt8):Bool:=decide (48≤c.toNat∧c.toNat≤57)
theorem Ap{c:UInt8}(h:L1 c=true):c=sig (c.toNat - 48)∧lu c=c.toNat - 48∧lu c < 10:=by
 have h:48≤c.toNat∧c.toNat≤57:=of_decide_eq_true h;have hd:lu c=c.toNat - 48:=by unfold lu; rw[if_pos (by omega)]
 refine⟨?_,hd,by omega⟩;apply UInt8.toNat_inj.1;rw[eF (by omega),if_pos (by omega)];omega
theorem Of{d:Nat}(h:d < 10):L1 (sig d)=true:=by unfold L1;rw[decide_eq_true_iff,eF (by omega),if_pos h];omega
theorem Mz(u:Nat):∀c∈an 10 u,L1 c=true:=fun c hc=>by obtain⟨d,hd,rfl⟩:=gZ (by omega) u c hc;exact Of hd
theorem CB{l r:Bs}(h:l≠[]):(l++r).head?=l.head?:=by
 cases l with
 |nil=>exact absurd rfl h
 |cons a l=>rfl
theorem Jh:∀(u:Nat),(an 10 u).head?=some 48→u=0:=by
 intro u;induction u using Nat.strongRecOn with
 |_ u ih=>
  intro h;by_cases hu:u < 10
  ·rw[bp hu]at h
   have h:sig u=48:=Option.some.inj h;have h2:=eF (d:=u) (by omega);rw[h,if_pos hu]at h2;have:(48:UInt8).toNat=48:=rfl;omega
  ·rw[dK (by omega) hu,CB (iR _)]at h
   have:=ih (u / 10) (by omega) h;omega
theorem IG(t:Bs)(c:UInt8):cK (t++[c])=10*cK t+lu c:=sg 10 t c
theorem Jg{t:Bs}{c:UInt8}(ht:an 10 (cK t)=t)(h0:cK t≠0)(hc:L1 c=true):an 10 (cK (t++[c]))=t++[c]:=by obtain⟨h1,h2,h3⟩:=Ap hc;rw[IG,dK (by omega) (by omega),show(10*cK t+lu c) / 10=cK t by omega,show(10*cK t+lu c)%10=lu c by omega,ht,h2,←h1]
theorem w9:∀(n:Nat) (s:Bs),s.length=n+1→(∀c∈s,L1 c=true)→(s.head?=some 48→s=[48])→an 10 (cK s)=s
 | 0,s,hl,hd,_=>by
  obtain⟨c,rfl⟩:=List.length_eq_one_iff.1 hl;obtain⟨h1,h2,h3⟩:=Ap (hd c (by simp));have:cK [c]=lu c:=by show 10*0+lu c=_;omega
  rw[this,bp h3,h2,←h1]
 |n+1,s,hl,hd,hh=>by
  have hne:s≠[]:=fun h=>by rw[h]at hl;cases hl
  obtain⟨t,c,rfl⟩:∃t c,s=t++[c]:=⟨s.dropLast,s.getLast hne,(List.dropLast_concat_getLast hne).symm⟩;rw[WR,W2,Xb]at hl;have htn:t≠[]:=fun h=>by rw[h]at hl;simp at hl
  have hz:t.head?≠some 48:=fun h=>by
   have h1:=hh ((CB htn).trans h);have h2:(t++[c]).length=1:=by rw[h1];rfl
   have h3:=Xl.2 htn;rw[WR,W2,Xb]at h2;omega
  have ih:=w9 n t (by omega) (fun x hx=>hd x (by simp[hx])) (fun h=>absurd h hz);refine Jg ih (fun h0=>hz ?_) (hd c (by simp));rw[←ih,h0,bp (by omega)];rfl
theorem jQ{most:Nat}{s:Bs}:aM most s=true↔cK s≤most∧s≠[]∧(∀c∈s,L1 c=true)∧(s.head?=some 48→s=[48]):=by
 unfold aM;rw[Bool.and_eq_true,decide_eq_true_iff,decide_eq_true_iff];refine and_congr_right fun _=>⟨fun h=>⟨?_,?_,?_⟩,fun⟨h1,h2,h3⟩=>?_⟩
 ·rw[←h];exact iR _
 ·rw[←h];exact Mz _
 ·intro h0
  rw[←h]at h0;have:=Jh _ h0;rw[←h,this,bp (by omega)];rfl
 ·obtain⟨n,hn⟩:∃n,s.length=n+1:=⟨s.length - 1,by have:=Xl.2 h1; omega⟩
  exact w9 n s hn h2 h3
theorem II(most:Nat):aM most []=false:=by rw[WY];intro h;exact(jQ.1 h).2.1 rfl
theorem Ev{most:Nat}{s:Bs}(h0:s.head?=some 48)(h:s≠[48]):aM most s=false:=by rw[WY];intro hk;exact h ((jQ.1 hk).2.2.2 h0)
theorem IK{most:Nat}{s:Bs}{i:Nat}{c:UInt8}(hc:s[i]?=some c)(h:L1 c=false):aM most s=false:=by rw[WY];intro hk;have:=(jQ.1 hk).2.2.1 c (List.mem_of_getElem? hc);rw[h]at this;cases this
theorem IF(s:Bs)(k:Nat):cK (s.take k)≤cK s:=Bc (b:=10) (by omega) s k
theorem IH(s:Bs)(k:Nat)(c:UInt8)(hc:s[k]?=some c):cK (s.take (k+1))=10*cK (s.take k)+lu c:=Bd s k c hc
theorem IJ{most:Nat}{s:Bs}{k:Nat}(h:most < cK (s.take k)):aM most s=false:=by rw[WY];intro hk;have h1:=(jQ.1 hk).1;have h2:=IF s k;omega
set_option maxRecDepth 100000
open Go Go.RowKit Go.Lib Go.Sort _root_.Go.Proofs.Tryz
set_option maxRecDepth 100000
def fy(A:Option Go.Addr)(n c:Nat)(st:RS):List Value:=[.slice A n c,.int .i64 (st.at_:Int),.int .i64 (st.e:Int)]
structure pI(w:World)(S:List Nat)(g:Nat)(A:Option Go.Addr)(n c:Nat)(st:RS)(ws:List Bs):Prop where
 bO:aq w g 114 (fy A n c st)
 jw:A8 w S A n ws
 gS:g∈S
 le:st.at_≤n
 bd:n≤1100000
 eb:st.e≤1000
 sz:∀x∈ws,x.length≤100000000
theorem pI.at{w W:World}{S:List Nat}{g:Nat}{A:Option Go.Addr}{n c:Nat}{st st':RS}{ws:List Bs}(h:pI w S g A n c st ws)(hc:ai S w W)(hb:aq W g 114 (fy A n c st'))(hl:st'.at_≤n)(he:st'.e≤1000):pI W S g A n c st' ws:=
 ⟨hb,h.jw.aF hc,h.gS,hl,h.bd,he,h.sz⟩
def ju{α:Type}(g:Nat)(A:Option Go.Addr)(n c:Nat)(V:α→Value)(r:α×RS)(w:World)(e:Ending)(w':World):Prop:=e=.returned (V r.1)∧aq w' g 114 (fy A n c r.2)∧ai [g] w w'
def JG{α:Type}(g:Nat)(A:Option Go.Addr)(n c:Nat)(V:α→Value)(r:α×RS)(u:Sx.gA)(gl:List (Nat×TypeId×List Value)):Prop:=u=.val (V r.1)∧gl=[(g,114,fy A n c r.2)]
theorem fh{α:Type}{P:Program}{w:World}{f:FuncId}{fn:Func}{co:Code}{g:Nat}{A:Option Go.Addr}{n c:Nat}{st:RS}{V:α→Value}{r:α×RS}(rest:List Value)(hb:aq w g 114 (fy A n c st))(H:List (Nat×Sx.Hint))(L:List Sx.Loop)
  (hm:P.follows .mixedOrders=true) (hf:P.funcs[f]?=some fn) (hbd:fn.body=some co) (hn:(rest.length+1)≤fn.ntmps)
  (hx:Sx.ky P fn.ntmps ⟨w,[g],fun _ _=>False⟩ co H L ⟨Sx.mf 0 (.ptr 0 0::rest.map .val),Sx.pX [(g,114,fy A n c st)]⟩ (Sx.qJ P fn (JG g A n c V r))) :
  Calls P f (.pointer (some ⟨g,0,none⟩)::rest).toArray w (ju g A n c V r w):=by
 have h:=Sx.gz (args:=.ptr 0 0::rest.map .val) [(g,114,fy A n c st)] (by simpa using hb) (by simp) (fun _ _=>False) H L hm hf hbd (by simpa using hn) (by
  have:∀l:List Value,Sx.eA (Sx.SP 1) (l.map .val)=true:=fun l=>by
   induction l with
   |nil=>rfl
   |cons x l ih=>exact ih
  exact this rest) hx
 have e:(Sx.SV.ptr 0 0::rest.map .val).map (Sx.SV.den (Sx.wZ [(g,114,fy A n c st)]))=.pointer (some ⟨g,0,none⟩)::rest:=by rw[Xh,Xu];have:(Sx.SV.den (Sx.wZ [(g,114,fy A n c st)]) ∘ Sx.SV.val)=id:=rfl;rw[this,Xv];rfl
 rw[e]at h;refine h.mono fun _ _ hp=>?_;rcases hp with⟨u,gl,⟨h2,h3⟩,hp,hb⟩ | ⟨_,_,hf,_⟩
 ·subst h2 h3
  exact⟨hp.1,hb (g,114,fy A n c r.2) (by simp),hp.2⟩
 ·exact hf.elim
theorem RH{α:Type}{P:Program}{b:Sx.aV}{W:World}{f g i:Nat}{A:Option Go.Addr}{n c:Nat}{V:α→Value}{r:α×RS}{v:Value}{st':RS}{rest:List Value}(cs:Sx.Cells)(hc:cs.list=some (fy A n c st'))(hv:v=V r.1)(hs:st'=r.2)
  (h:Calls P f ((pt g 0)::rest).toArray W (ju g A n c V r W)) :
  Calls P f ((pt g 0)::rest).toArray W (Sx.qV b W ((pt g 0)::rest) (.de 0 i ⟨114,cs⟩ v)):=by
 subst hv hs;exact h.mono fun _ _ hp=>⟨g,_,rfl,hc,hp.1,hp.2.1,hp.2.2⟩
def Tn{α:Type}(_:α):Value:=.tuple #[]
theorem UL(e:Nat):WT ((e:Int)==0)=.bool (Xe e 0):=by congr 1;rw[Xr,beq_iff_eq,Xw];omega
theorem Wd(e:Nat):WT ((e:Int) !=0)=.bool (!Nat.beq e 0):=by
 have h:((e:Int)==0)=Xe e 0:=by rw[Xr,beq_iff_eq,Xw];omega
 show WT (!((e:Int)==0))=_;rw[h]
theorem F5{ws:List Bs}{st:RS}(h:Xe st.e 0=false):av ws st=([],st):=by unfold av;rw[h]
theorem F4{ws:List Bs}{st:RS}(h:Xe st.e 0=true):av ws st=(match ws[st.at_]? with|some x=>(x,⟨st.at_+1,0⟩)|none=>([],⟨st.at_,200⟩)):=by unfold av;rw[h];rfl
theorem jE{w:World}{S:List Nat}{g:Nat}{A:Option Go.Addr}{n c:Nat}{st:RS}{ws:List Bs}(h:pI w S g A n c st ws):Calls prog 132 #[.pointer (some ⟨g,0,none⟩)] w (ju g A n c ae (av ws st) w):=by
 have hlen:=h.jw.len;have hle:=h.le;have hbd:=h.bd;have hw:=h.jw.sub (S':=[g]) (fun x hx=>by rw[WQ.1 hx];exact h.gS);have c7:=Wd st.e;cases he:Xe st.e 0 with
 |false=>rw[F5 he];rw[he]at c7;have h0:Sx.gA.val (ae [])=.val (ae []):=rfl;have z1:[(g,114,fy A n c st)]=[(g,114,fy A n c st)]:=rfl;refine fh [] h.bO [(7,.is (.bool true))] [] (by kernel_rfl) func132 rfl (bU rfl) ?_;exact Xc (by kernel_rfl) (Sx.t2 c7 h0 z1)
 |true=>
  rw[F4 he];rw[he]at c7;cases hx:ws[st.at_]? with
  |none=>
   have hi:st.at_=n:=by have:=Xf.1 hx;omega
   have c17:=bT ((st.at_:Int)≥(n:Int)) (by omega);have h0:Sx.gA.val (ae [])=.val (ae []):=rfl;have z1:[(g,114,fy A n c ⟨st.at_,200⟩)]=[(g,114,fy A n c ⟨st.at_,200⟩)]:=rfl;refine fh [] h.bO [(7,.is (.bool false)),(17,.is (.bool true))] [] (by kernel_rfl) func132 rfl (bU rfl) ?_;exact Xc (by kernel_rfl) (Sx.t2 c7 c17 (WZ h0 z1))
  |some x=>
   have hi:st.at_ < n:=by rw[←hlen];exact(WO.1 hx).1
   obtain⟨p,hp1,hp2⟩:=hw.at (c:=c) hx;obtain⟨i,hie⟩:∃i,i=st.at_:=⟨_,rfl⟩;rw[←hie]at hi hp1;have c17:=bF ((i:Int)≥(n:Int)) (by omega);have c26:=mY (i:=i) (by omega);have c37:WX .i64 (WW.wrap (((i+1:Nat):Int) - 1))=.int .i64 (i:Int):=iw (by rw[jC (by omega) (by omega)]; omega);have c38:=fun W (_:ai [g] w W)=>hp1 W;have c39:=hp2;have h0:Sx.gA.val (ae x)=.val (ae x):=rfl;have z1:[(g,114,fy A n c ⟨i+1,0⟩)]=[(g,114,fy A n c ⟨i+1,0⟩)]:=rfl;have he0:st.e=0:=Xk he;have hst:st=⟨i,0⟩:=by cases st;simp only at he0 hie;rw[he0,hie]
   subst hst;refine fh [] h.bO [(7,.is (.bool false)),(17,.is (.bool false)),(26,.is (.int .i64 ((i+1:Nat):Int))),(37,.is (.int .i64 (i:Int))),(38,.any p),(39,.any (ae x))] [] (by kernel_rfl) func132 rfl (bU rfl) ?_;exact Xc (by kernel_rfl) (Sx.t4 c7 c17 c26 c37 (Sx.t2 c38 c39 (WZ h0 z1)))
theorem Ko{w:World}{S:List Nat}{g:Nat}{A:Option Go.Addr}{n c:Nat}{st:RS}{ws:List Bs}(h:pI w S g A n c st ws)(code:Nat)(h1:st.e=0→1≤st.at_):Calls prog 137 #[(pt g 0),.int .i64 (code:Int)] w (ju g A n c (Tn (α:=Unit)) ((),ee code st) w):=by
 have hle:=h.le;have hbd:=h.bd;have c8:=UL st.e;have h0:Sx.gA.val (.tuple #[])=.val (.tuple #[]):=rfl;unfold ee;cases he:Xe st.e 0 with
 |false=>rw[he]at c8;have z1:[(g,114,fy A n c st)]=[(g,114,fy A n c st)]:=rfl;refine fh [.int .i64 (code:Int)] h.bO [(8,.is (.bool false))] [] (by kernel_rfl) func137 rfl (bU rfl) ?_;exact Xc (by kernel_rfl) (Sx.t2 c8 h0 z1)
 |true=>rw[he]at c8;have h1:=h1 (Xk he);have c18:WX .i64 (WW.wrap ((st.at_:Int) - 1))=.int .i64 ((st.at_ - 1:Nat):Int):=iw (by rw[jC (by omega) (by omega)]; omega);have z1:[(g,114,fy A n c ⟨st.at_ - 1,code⟩)]=[(g,114,fy A n c ⟨st.at_ - 1,code⟩)]:=rfl;refine fh [.int .i64 (code:Int)] h.bO [(8,.is (.bool true)),(18,.is (.int .i64 ((st.at_ - 1:Nat):Int)))] [] (by kernel_rfl) func137 rfl (bU rfl) ?_;exact Xc (by kernel_rfl) (Sx.t2 c8 c18 (WZ h0 z1))
theorem KM{w:World}{S:List Nat}{g:Nat}{A:Option Go.Addr}{n c:Nat}{st:RS}{ws:List Bs}(h:pI w S g A n c st ws)(s:Bs):Calls prog 155 #[.pointer (some ⟨g,0,none⟩),ae s] w (ju g A n c (fun b=>.bool b) (pZ ws s st,st) w):=by
 have hlen:=h.jw.len;have hle:=h.le;have hbd:=h.bd;have hw:=h.jw.sub (S':=[g]) (fun x hx=>by rw[WQ.1 hx];exact h.gS);have c9:=UL st.e;have z1:[(g,114,fy A n c st)]=[(g,114,fy A n c st)]:=rfl;unfold pZ;cases he:Xe st.e 0 with
 |false=>
  rw[he]at c9;have h0:Sx.gA.val (.bool false)=.val (.bool (false&&decide (ws[st.at_]?=some s))):=by rw[Bool.false_and]
  refine fh [ae s] h.bO [(9,.is (.bool false))] [] (by kernel_rfl) func155 rfl (bU rfl) ?_;exact Xc (by kernel_rfl) (Sx.t2 c9 h0 z1)
 |true=>
  rw[he]at c9;cases hx:ws[st.at_]? with
  |none=>
   have hi:st.at_=n:=by have:=Xf.1 hx;omega
   have c20:=bF ((st.at_:Int) < (n:Int)) (by omega);have h0:Sx.gA.val (.bool false)=.val (.bool (true&&decide ((none:Option Bs)=some s))):=by simp
   refine fh [ae s] h.bO [(9,.is (.bool true)),(20,.is (.bool false))] [] (by kernel_rfl) func155 rfl (bU rfl) ?_;exact Xc (by kernel_rfl) (Sx.t2 c9 c20 (WZ h0 z1))
  |some x=>
   have hi:st.at_ < n:=by rw[←hlen];exact(WO.1 hx).1
   obtain⟨p,hp1,hp2⟩:=hw.at (c:=c) hx;have c20:=bT ((st.at_:Int) < (n:Int)) (by omega);have c31:=fun W (_:ai [g] w W)=>hp1 W;have c32:=hp2;have c34:=fun W=>eX (.tmp 32) (.tmp 33) x s _ rfl W;have h0:Sx.gA.val (.bool (decide (x=s)))=.val (.bool (true&&decide (some x=some s))):=by simp
   refine fh [ae s] h.bO [(9,.is (.bool true)),(20,.is (.bool true)),(31,.any p),(32,.any (ae x)),(34,.bin (.bool (decide (x=s))))] [] (by kernel_rfl) func155 rfl (bU rfl) ?_;exact Xc (by kernel_rfl) (Sx.t4 c9 c20 c31 c32 (Sx.t2 c34 h0 z1))
set_option maxRecDepth 100000
open Go Go.RowKit Go.Lib Go.Sort _root_.Go.Proofs.Tryz
set_option maxRecDepth 100000
section
variable{P:Program}(w:World)
theorem tZ(t u ty e:TypeId)(i:TypeInfo)(ht:P.underlying t=some (.slice e))(hu:P.underlying u=some .string)(hi:P.info? e=some i)(hz:i.zero=some (.int .u8 0))
  (hsize:i.size=1) (hby:i.bytes=1) (v:Value) (n:Nat) (xs:List Value) (hown:Own w e 1 v n xs) (s:ByteArray) (h63:n+s.size≤maxLen) (hbytes:n+s.size≤140737488355328) :
  ∃A' c' w',(Builtin.append_ #[t,u] ty #[v,.string s]).run P w=.ok (.slice A' (n+s.size) c') w'∧Own w' e 1 (.slice A' (n+s.size) c') (n+s.size) (xs++strCells s)∧ai v.ownBlock.toList w w'∧
   ((WS A' (n+s.size) c').ownBlock=v.ownBlock∨∃k,(WS A' (n+s.size) c').ownBlock=some k∧w.heap.size≤k):=by
 have hsmall:n+s.size≤9223372036854775807:=by simp only[maxLen]at h63;omega
 have hxl:xs.length=n:=by simpa using hown.1
 have hlen:(xs++strCells s).length=(n+s.size)*1:=by rw[WR,hxl,strCells_length,Xm]
 have grown:∀(old:Nat),old < n+s.size→∀(S:List Nat),
   Own (w.drew.alloc (.cells (xs.toArray++(strCells s).toArray++Builtin.zeroCells (WX .u8 0).cells (grownCap w (n+s.size) old e - (n+s.size))) e)) e 1
    (.slice (some ⟨w.heap.size,0,none⟩) (n+s.size) (grownCap w (n+s.size) old e)) (n+s.size) (xs++strCells s)∧
   ai S w (w.drew.alloc (.cells (xs.toArray++(strCells s).toArray++Builtin.zeroCells (WX .u8 0).cells (grownCap w (n+s.size) old e - (n+s.size))) e)):=by
  intro old ho S;have hge:=grownCap_ge w (n+s.size) old e;have hcm:grownCap w (n+s.size) old e≤maxLen:=grownCap_le_maxLen w (n+s.size) old e h63;refine⟨⟨hlen,.inr ⟨w.heap.size,0,_,_,rfl,aq.new w.drew e _,hge,hcm,?_,?_⟩⟩,(ai.refl S w).drew.alloc _⟩
  ·have hz1:(WX IntKind.u8 0).cells.size=1:=rfl
   simp only[Array.length_toList,Array.size_append,List.size_toArray,size_zeroCells,hz1,hxl,strCells_length];omega
  ·simp only[Array.toList_append,Xp,Xs]
   rw[←Xp,←hlen];exact List.take_left
 rcases hown.2 with⟨rfl,rfl⟩ | ⟨g,o,cap,L,rfl,hg,hnc,hcm,hcL,hxs⟩
 ·have hx:xs=[]:=WV hxl
  subst hx;by_cases hm:s.size=0
  ·have hn:strCells s=[]:=WV (by rw[strCells_length];exact hm)
   refine⟨none,0,w,?_,by rw[hm,hn];exact Own.nil w e 1,ai.refl _ _,.inl rfl⟩;have hf:=run_firstCells_string (P:=P) w 1 s;rw[hm]at hf;simp[Builtin.append_,run_underlying ht,run_underlying hu,sizeOf,typeInfo,hi,hsize,Builtin.lenOf,hm,hf]
  ·have hr:=run_append_nil_string (P:=P) w t u ty e i (.int .u8 0) ht hu hi hz s (by omega) (by omega) (by rw[hby];omega)
   have hgr:=grown 0 (by omega) (Xd (.slice none 0 0)).toList;simp only[Nat.zero_add,Xa,Array.empty_append]at hgr ⊢;have e1:(s.data.map fun b=>WX .u8 b.toNat)=(strCells s).toArray:=by apply Array.ext';simp[strCells]
   rw[e1]at hr;exact⟨_,_,_,hr,hgr.1,hgr.2,.inr ⟨_,rfl,WU _⟩⟩
 ·by_cases hroom:n+s.size≤cap
  ·have hst:=eG (P:=P) w (o+n) (strCells s) hg (by rw[strCells_length];omega) (strCells_oneCell s)
   have hf:=run_firstCells_string (P:=P) w 1 s;refine⟨some ⟨g,o,none⟩,cap,w.setRow g (splice L (o+n) (strCells s)).toArray,?_,⟨hlen,.inr ⟨g,o,cap,_,rfl,hg.row _,hroom,hcm,?_,?_⟩⟩,?_,.inl rfl⟩
   ·simp[Builtin.append_,run_underlying ht,run_underlying hu,sizeOf,typeInfo,hi,hsize,Builtin.lenOf,hroom,hf,Addr.add_lit,hst]
   ·rw[lf _ _ _ (by rw[strCells_length];omega)];exact hcL
   ·have h1:n+s.size=n+(strCells s).length:=by rw[strCells_length]
    rw[Xm,h1];exact tf L o n xs (strCells s) (by simpa using hxs) (by simpa using hown.1) (by rw[strCells_length];omega)
   ·exact(ai.refl _ _).setRow (.inl (by simp[Xd])) _
  ·have holds:∀j u,xs[j]?=some u→w.cell? ((⟨g,o,none⟩:Addr).add j)=some u:=hown.ko
   have hr:=run_append_grow_string (P:=P) w t u ty e i (.int .u8 0) ht hu hi hz ⟨g,o,none⟩ n cap xs (by rw[hsize];simpa using hxl) holds s (by omega) (by omega) (by rw[hby];exact growslice_fits (by omega) (by omega));have hgr:=grown cap (by omega) (Xd (.slice (some ⟨g,o,none⟩) n cap)).toList;exact⟨_,_,_,hr,hgr.1,hgr.2,.inr ⟨_,rfl,WU _⟩⟩
theorem qc{ops:Array Oper}{rest:List Oper}{o:Oper}{a:Act}{Q:Exit→Act→World→Prop}(hgd:o.guard=none)(s x:Operand)(t u:TypeId)
  (ho:o.op=.call { callee:=.builtin .append,args:=#[s,x],argTypes:=#[t,u] })
  (e:TypeId) (i:TypeInfo) (ht:P.underlying t=some (.slice e)) (hu:P.underlying u=some .string) (hi:P.info? e=some i) (hz:i.zero=some (.int .u8 0)) (hsize:i.size=1) (hby:i.bytes=1)
  (v:Value) (n:Nat) (xs:List Value) (hs:a.eval s=v) (hown:Own w e 1 v n xs) (l:ByteArray) (hx:a.eval x=.string l) (h63:n+l.size≤maxLen) (hbytes:n+l.size≤140737488355328)
  (h:∀A' c' w',Own w' e 1 (.slice A' (n+l.size) c') (n+l.size) (xs++strCells l)→ai v.ownBlock.toList w w'→
   ((WS A' (n+l.size) c').ownBlock=v.ownBlock∨∃k,(WS A' (n+l.size) c').ownBlock=some k∧w.heap.size≤k)→wpList P ops Q rest (a.put o.dst (.slice A' (n+l.size) c')) w'):wpList P ops Q (o::rest) a w:=
 wpList_plain hgd fun _ hK=>by obtain⟨A',c',w',hrun,h2,h3,h4⟩:=tZ (P:=P) w t u o.type e i ht hu hi hz hsize hby v n xs hown l h63 hbytes;unfold Oper.wp execOp;simp only[ho,resolve,invoke,builtin,Sem.run_bind,Sem.run_pure,Result.andThen_ok,List.map_toArray,Xh,List.map_nil,hs,hx,hrun];exact hK _ _ (h A' c' w' h2 h3 h4)
end
def Tr(p:Value)(A:Option Go.Addr)(n c:Nat)(e:Int):List Value:=[p,.slice A n c,.int .i64 e]
def pV(b:Bool)(g:Nat):Value:=.pointer (match b with
 |true=>some ⟨g,0,none⟩
 |false=>none)
def sb(l:Bs):List Value:=l.map fun b=>.int .u8 b.toNat
theorem Qd(l:Bs):strCells ⟨l.toArray⟩=sb l:=by simp[strCells,sb]
structure Tx(w:World)(g:Nat)(p:Bool)(A:Option Go.Addr)(c:Nat)(tx:Bs)(e:Int):Prop where
 bO:aq w g 132 (Tr (pV p g) A tx.length c e)
 own:Own w 5 1 (.slice A tx.length c) tx.length (sb tx)
theorem Hl{A:Option Go.Addr}{n c:Nat}:(WS A n c).ownBlock=A.map (·.block):=by cases A<;>rfl
theorem Tx.ne{w:World}{g:Nat}{p:Bool}{A:Option Go.Addr}{c:Nat}{tx:Bs}{e:Int}(h:Tx w g p A c tx e):(WS A tx.length c).ownBlock≠some g:=h.own.Ez h.bO (by decide)
def qY(g:Nat)(A:Option Go.Addr):List Nat:=g::(A.map (·.block)).toList
set_option maxHeartbeats 1100000 in
theorem MF(b:Nat)(w:World)(h0:w.cell? ⟨b,0,none⟩=some (.pointer (some ⟨b,0,none⟩))) :
  Calls prog 194 #[.pointer (some ⟨b,0,none⟩)] w fun e w'=>e=.returned (.tuple #[])∧w'=w:=by
 have hs:(prog.info? 130).map (·.size)=some 2:=by kernel_rfl
 obtain⟨j,hj,_⟩:=Option.map_eq_some_iff.1 hs;go_enter func194,ntmps194
 go_wp2
 rw[Lib.run_neq_ptr_same w _ underlying128 hj];go_wp2
 go_end0
 exact⟨rfl,rfl⟩
set_option maxHeartbeats 1100000 in
theorem Jm(b:Nat)(w:World)(h0:w.cell? ⟨b,0,none⟩=some (.pointer none))(hsh:w.shape? b=some (132,3))(hfz:w.frozen? ⟨b,0,none⟩=false) :
  Calls prog 194 #[.pointer (some ⟨b,0,none⟩)] w fun e w'=>e=.returned (.tuple #[])∧w'=w.setCell ⟨b,0,none⟩ (.pointer (some ⟨b,0,none⟩)):=by
 have hs:(prog.info? 130).map (·.size)=some 2:=by kernel_rfl
 obtain⟨j,hj,hjs⟩:=Option.map_eq_some_iff.1 hs;have hl:liesAt prog prog.depth 132 (3 / prog.cellsOf 132) 0 130 1=true:=by kernel_rfl
 go_enter func194,ntmps194
 go_wp2
 rw[Lib.run_to_unsafe w ⟨b,0,none⟩ underlying128 underlying188 hj (by rw[hjs];decide) hsh (Nat.zero_lt_succ 2)];simp only[Result.andThen];rw[Oper.upon_value];go_wp2
 rw[run_callFunc_extern func233 (by kernel_rfl) (by kernel_rfl) (by kernel_rfl) (e:=Extern.AbiNoEscape.same) (by kernel_rfl)];rw[Lib.run_noEscape];simp only[Result.andThen];rw[Oper.upon_value];go_wp2
 rw[Lib.run_from_unsafe w ⟨b,0,none⟩ underlying188 underlying128 hj hsh hl];simp only[Result.andThen];rw[Oper.upon_value];go_wp2
 go_end0
 exact⟨rfl,rfl⟩
theorem UQ{w:World}{g:Nat}{p:Bool}{A:Option Go.Addr}{c:Nat}{tx:Bs}{e:Int}(h:Tx w g p A c tx e) :
  Calls prog 194 #[.pointer (some ⟨g,0,none⟩)] w fun e' w'=>e'=.returned (.tuple #[])∧Tx w' g true A c tx e∧ai [g] w w':=by
 cases p with
 |false=>refine(Jm g w (h.bO.cell_of rfl) h.bO.shape (h.bO.frozen 0)).mono ?_;rintro e' w' ⟨rfl,rfl⟩;exact⟨rfl,⟨by simpa[Tr,pV]using h.bO.q8 0 (.pointer (some ⟨g,0,none⟩)),h.own.NO h.ne _⟩,(ai.refl _ w).setCell (.inl (by simp)) _⟩
 |true=>refine(MF g w (h.bO.cell_of rfl)).mono ?_;rintro e' w' ⟨rfl,rfl⟩;exact⟨rfl,h,ai.refl _ _⟩
def ng(g:Nat)(A:Option Go.Addr)(r:Value)(tx:Bs)(e:Int)(w:World)(e':Ending)(w':World):Prop:=
 ∃A' c',e'=.returned r∧Tx w' g true A' c' tx e∧ai (qY g A) w w'∧∀k,A'.map (·.block)=some k→A.map (·.block)=some k∨w.heap.size≤k
theorem L4:∃i,prog.info? 5=some i∧i.zero=some (.int .u8 0)∧i.size=1∧i.bytes=1:=info_parts (by kernel_rfl)
set_option maxHeartbeats 2000000 in
theorem NV{w:World}{g:Nat}{p:Bool}{A:Option Go.Addr}{c:Nat}{tx:Bs}{e:Int}(s:Bs)(h:Tx w g p A c tx e)(hs:tx.length+s.length≤140737488355328) :
  Calls prog 141 #[.pointer (some ⟨g,0,none⟩),.string ⟨s.toArray⟩] w (ng g A (.tuple #[.int .i64 (s.length:Int),.nilIface]) (tx++s) e w):=by
 obtain⟨i0,hi,hz0,hz1,hz2⟩:=L4;have hsz:(⟨s.toArray⟩:ByteArray).size=s.length:=by simp[ByteArray.size]
 have HC:=hid (UQ h);clear h;go_enter func141,ntmps141
 go_wp2_with (go_at_call 194;refine HC.out.mono ?_)
 rintro e1 w1 ⟨rfl,h1,hb1⟩;have c1:w1.cell? ⟨g,1,none⟩=some (.slice A tx.length c):=h1.bO.cell_of rfl;go_wp2_with (at_builtin;refine qc _ rfl _ _ 82 9 rfl 5 i0 underlying82 underlying9 hi hz0 hz1 hz2 _ _ _ rfl h1.own ⟨s.toArray⟩ rfl ?c3 ?c4 ?_)
 case c3=>rw[hsz];unfold maxLen;omega
 case c4=>rw[hsz];omega
 intro A' c' w2 hown' hchg hk;rw[Qd]at hown';have hb2:aq w2 g 132 (Tr (pV true g) A tx.length c e):=h1.bO.aF hchg (by intro hm;exact h1.ne (by simpa using hm));have d1:w2.cell? ⟨g,1,none⟩=some (.slice A tx.length c):=hb2.cell_of rfl;have f1:w2.frozen? ⟨g,1,none⟩=false:=hb2.frozen 1;go_wp2
 go_ret2
 refine⟨A',c',by simp,⟨?_,?_⟩,?_,?_⟩
 ·have:=hb2.q8 1 (.slice A' (tx.length+s.length) c')
  simpa[Tr]using this
 ·rw[WR,show sb (tx++s)=sb tx++sb s by simp[sb]]
  exact hown'.NO (hown'.Ez hb2 (by decide)) _
 ·have hb1':ai (qY g A) w w1:=hb1.mono fun k hk=>.inl (by simp at hk;simp[qY,hk])
  have h2':ai (qY g A) w1 w2:=hchg.mono fun k hk=>.inl (by unfold qY;rw[Hl]at hk;exact W3 _ hk);exact(hb1'.trans h2').setCell (.inl (by simp[qY])) _
 ·intro k hk'
  have hk2:(WS A' (tx.length+s.length) c').ownBlock=some k:=by rw[Hl];exact hk'
  rcases hk with hh|⟨j,hj,hj2⟩
  ·rw[hk2]at hh
   exact .inl (by rw[Hl]at hh;exact hh.symm)
  ·rw[hk2]at hj
   cases hj;exact .inr (Xj hb1.size hj2)
open Go.RowKit Go.Lib Go.Sort
def eP(s:Nat×Nat):Bs:=if s.1=s.2 then an 10 s.1 else an 10 s.1++45::an 10 s.2
def dR(n:Nat):Bs:=if n=6 then js else if n=17 then jH else an 10 n
def xI(p:Px):Bs:=j7 p.v p.n p.k
def bN(m:Mt)(k:Nat):List Bs:=match k with
 | 0=>[xN,eP m.fE]
 | 1=>[mW,xI m.src]
 | 2=>[oz,xI m.dst]
 | 3=>[fS,dR m.bc]
 | 4=>[iA,eP m.sp]
 |_=>[jt,eP m.dp]
def tB(m:Mt)(k:Nat):List Bs:=match m.asks.testBit k with
 |true=>bN m k
 |false=>[]
def kG(m:Mt):List Bs:=tB m 0++tB m 1++tB m 2++tB m 3++tB m 4++tB m 5
def lk(m:Mt):Bs:=if m.asks=0 then gD else ax 32 (kG m)
def Ld(m:Mt):Bs:=match aY m with
 |true=>lk m
 |false=>[]
def da(n:Int):Bs:=if n < 0 then 45::an 10 n.natAbs else an 10 n.toNat
def bj(act out:Int):List Bs:=if act=1 then [dI] else if act=2 then [nq] else if act=3 then [qz,da out] else if act=4 then [gW] else []
def dF(k s:Bs):List Bs:=if s=[] then [] else [k,s]
def eZ(r:Rl):List Bs:=[gV,r.name,Ld r.mt,yF]++bj r.act r.out++dF bY r.dE++dF bu r.cx
def eJ(n:Int):List Bs:=[lX,da n]
def fg(r:Rt):List Bs:=[dI,xI r.pf,da r.out]
def fj(m:Me):List Bs:=[bY,m.name,an 10 m.num,an 10 m.den,an 10 m.rV]
def dX(m:Mi):List Bs:=[bu,m.name,da m.out,da m.room]
def lx(d:Int):List Bs:=bD::bj d 0
def uF(cf:CF):List (List Bs):=cf.ak.map eJ++cf.af.map fg++cf.ag.map fj++cf.ab.map dX++cf.rules.map eZ++[lx cf.bA]
def jh(ws:List Bs):Bs:=ax 32 ws++[10]
def dB(l:List (List Bs)):Bs:=l.flatMap jh
def fT(cf:CF):Bs:=dB (uF cf)
def aW(is:Bool)(code e:Int):Int:=match is with
 |true=>e
 |false=>match decide (e=0)with
  |true=>code
  |false=>e
def Gf(e:Int)(n:Int):Int:=aW (decide (n≥0)) 2 e
def zG(e:Int)(r:Rt):Int:=aW (decide (r.out≥0)) 2 (aW (fW r.pf.v r.pf.n r.pf.k) 151 e)
def Ad(e:Int)(m:Me):Int:=aW (aS m.name) 201 e
def pv(e:Int)(m:Mi):Int:=aW (decide (m.out≥0)&&decide (m.room≥0)) 2 (aW (aS m.name) 201 e)
def oQ(act out:Int):Bool:=(decide (1≤act)&&decide (act≤4))&&(decide (out≥0)&&(decide (out=0)||decide (act=3)))
def ku(s:Bs):Bool:=decide (s=[])||aS s
def tm(e:Int)(r:Rl):Int:=aW (ku r.cx) 201 (aW (ku r.dE) 201 (aW (oQ r.act r.out) 2 (aW (aY r.mt) 190 (aW (aS r.name) 201 e))))
def MB(e:Int)(d:Int):Int:=aW (decide (d=1)||(decide (d=2)||decide (d=4))) 2 e
def xo(cf:CF):Int:=MB (cf.rules.foldl tm (cf.ab.foldl pv (cf.ag.foldl Ad (cf.af.foldl zG (cf.ak.foldl Gf 0))))) cf.bA
def xP(cf:CF):Int:=aW (decide ((fT cf).length≤65536)) 4 (xo cf)
def jn(cf:CF):Bs×Int:=if xP cf=0 then(fT cf,0)else([],xP cf)
def xV(c:UInt8):Prop:=c≠32∧c≠9∧c≠35∧c≠10
def eE(x:Bs):Prop:=x≠[]∧∀c∈x,xV c
theorem nF(cm:Bool)(r:Bs):∀(x cur:Bs),(∀c∈x,xV c)→a7 cm cur (x++r)=a7 cm (cur++x) r
 | [],cur,_=>by simp
 |c::x,cur,h=>by
  have hc:=h c (by simp);have e:a7 cm cur (c::(x++r))=a7 cm (cur++[c]) (x++r):=by
   rw[a7,if_neg (fun hh=>hc.2.2.1 hh.2),if_neg (fun hh=>by
    rcases hh with hh|hh
    ·exact hc.1 hh
    ·exact hc.2.1 hh)]
  rw[List.cons_append,e,nF cm r x (cur++[c]) (fun d hd=>h d (by simp[hd]))];simp
theorem zb(cm:Bool)(r cur:Bs)(hc:cur≠[]):a7 cm cur (32::r)=cur::a7 cm [] r:=by rw[a7,if_neg (fun hh=>absurd hh.2 (by decide)),if_pos (.inl rfl),if_neg hc]
theorem qd(cm:Bool):∀ws:List Bs,(∀x∈ws,eE x)→aE cm (ax 32 ws)=ws
 | [],_=>by simp[aE,ax,a7]
 | [x],h=>by have hx:=h x (by simp);have:=nF cm [] x [] hx.2;simp only[Xq,Xa]at this;show a7 cm [] x=[x];rw[this,a7,if_neg hx.1]
 |x::y::r,h=>by have hx:=h x (by simp);show a7 cm [] (x++32::ax 32 (y::r))=_;rw[nF cm _ x [] hx.2,Xa,zb cm _ x hx.1];congr 1;exact qd cm (y::r) fun z hz=>h z (W3 _ hz)
theorem Pc:∀ws:List Bs,(∀x∈ws,∀c∈x,xV c)→(10:UInt8)∉ax 32 ws:=fun ws h hm=>by
 rcases fO hm with h1|⟨x,hx,h1⟩
 ·exact absurd h1 (by decide)
 ·exact(h x hx _ h1).2.2.2 rfl
theorem tH:∀l:List (List Bs),(∀ws∈l,∀x∈ws,∀c∈x,xV c)→bw (dB l)=l.map (ax 32)++[[]]
 | [],_=>by simp[dB,bw,bJ]
 |ws::l,h=>by
  have ih:=tH l fun v hv=>h v (W3 _ hv);have e:dB (ws::l)=ax 32 ws++10::dB l:=by simp[dB,jh]
  unfold bw at ih ⊢;rw[e,mB 10 _ _ (Pc ws (h ws (by simp))),ih];rfl
theorem I0(c:UInt8)(x:Bs)(ws r:List Bs)(hw:ws≠[]):ax c (x::ax c ws::r)=ax c (x::(ws++r)):=by
 have aux:∀(ws r:List Bs),ws≠[]→ax c (ax c ws::r)=ax c (ws++r):=by
  intro ws;induction ws with
  |nil=>intro r h;exact absurd rfl h
  |cons a l ih=>
   intro r _;cases l with
   |nil=>rfl
   |cons b l=>
    have h1:=ih r (by simp);cases r with
    |nil=>simp[ax]
    |cons d r=>show(a++c::ax c (b::l))++c::ax c (d::r)=a++c::ax c (b::(l++d::r));have h1:ax c (b::l)++c::ax c (d::r)=ax c (b::(l++d::r)):=h1;rw[←h1];simp
 have h1:=aux ws r hw;obtain⟨a,l,rfl⟩:=List.exists_cons_of_ne_nil hw;show x++c::ax c (ax c (a::l)::r)=x++c::ax c (a::(l++r));rw[h1];rfl
set_option maxRecDepth 100000
open Go Go.RowKit Go.Lib Go.Sort _root_.Go.Proofs.Tryz
set_option maxRecDepth 100000
def jx(og:Option Nat)(cs:List Sx.SV):Sx.Row:=match og with
 |some g=>⟨132,.ji g cs⟩
 |none=>⟨132,.dC cs⟩
structure oR(row:Nat→Option Sx.Row)(i j:Nat)(og:Option Nat)(p:Bool)(tx:Bs)(e:Int):Prop where
 b:row i=some (jx og [.eB p i 0,.own j,.val (.int .i64 e)])
 o:row j=some ⟨5,.own 1 tx.length (sb tx)⟩
theorem mv{β:Sx.Env}{W:World}{i:Nat}{og:Option Nat}{cs:List Sx.SV}:Sx.aZ β W i (jx og cs)↔(∀g,og=some g→β i=g)∧aq W (β i) 132 (cs.map (Sx.SV.den β)):=by
 cases og with
 |none=>exact⟨fun h=>⟨fun g hg=>(by cases hg),h⟩,fun h=>h.2⟩
 |some g=>exact⟨fun h=>⟨fun g' hg=>by cases hg;exact h.1,h.2⟩,fun h=>⟨h.1 g rfl,h.2⟩⟩
theorem oX{β:Sx.Env}{i:Nat}{og:Option Nat}{cs:List Sx.SV}:Sx.aB β i (jx og cs)=some (β i):=by cases og<;>rfl
theorem qg{b:Sx.aV}{β:Sx.Env}{W:World}{row:Nat→Option Sx.Row}{gw:List Nat}{i j:Nat}{og:Option Nat}{p:Bool}{tx:Bs}{e:Int}(hS:Sx.eM b β W row gw)(h:oR row i j og p tx e)(hi:i∈gw)(hj:j∈gw) :
  Tx W (β i) p (β.a j) (β.c j) tx e∧∀g,og=some g→β i=g:=by
 have h1:=mv.1 (hS.held i hi _ h.b);have h2:β.n j=tx.length∧Own W 5 1 (.slice (β.a j) tx.length (β.c j)) tx.length (sb tx):=hS.held j hj _ h.o;refine⟨⟨?_,h2.2⟩,h1.1⟩;have hb:=h1.2;have e1:([Sx.SV.eB p i 0,.own j,.val (.int .i64 e)].map (Sx.SV.den β))=[pV p (β i),β.sl j,.int .i64 e]:=rfl;rw[e1]at hb;unfold Sx.Env.sl at hb;rw[h2.1]at hb;exact hb
def Be(X:List Nat)(i j m:Nat)(og:Option Nat)(tx:Bs)(e:Int)(v:Value):Sx.ct:=⟨i::j::X,[(i,jx og [.eB true i 0,.own m,.val (.int .i64 e)])],[j],[⟨5,.own 1 tx.length (sb tx)⟩],.val v,none⟩
def QA(β:Sx.Env)(m:Nat)(A:Option Go.Addr)(n c:Nat):Sx.Env:=⟨β.b,fun i=>if i=m then A else β.a i,fun i=>if i=m then n else β.n i,fun i=>if i=m then c else β.c i⟩
theorem uo{b:Sx.aV}{β:Sx.Env}{W w':World}{row:Nat→Option Sx.Row}{X:List Nat}{i j m:Nat}{og:Option Nat}{p:Bool}{tx tx':Bs}{e e':Int}{v:Value}{en:Ending}(h:oR row i j og p tx e)(_hi:i < m)(_hj:j < m)(hg:∀g,og=some g→β i=g)
  (hp:ng (β i) (β.a j) v tx' e' W en w'):Sx.br b β W row m (Be X i j m og tx' e' v) en w':=by
 obtain⟨A',c',he,ht,hc,hk⟩:=hp;refine .inl ⟨fun p hp=>(by cases hp),QA β m A' tx'.length c',fun k hk=>⟨rfl,?_,?_,?_⟩,he,fun q hq=>?_,fun k r hr=>?_,fun k r x hr hx=>?_,fun k k' r r' x hr hr' _ _=>?_,hc.mono fun k hk=>.inl ?_⟩
 ·show β.a k=if k=m then A' else β.a k
  rw[if_neg (by omega)]
 ·show β.n k=if k=m then tx'.length else β.n k
  rw[if_neg (by omega)]
 ·show β.c k=if k=m then c' else β.c k
  rw[if_neg (by omega)]
 ·have hq:q=(i,jx og [.eB true i 0,.own m,.val (.int .i64 e')]):=WQ.1 hq
  subst hq;refine mv.2 ⟨hg,?_⟩;show aq w' (β i) 132 [pV true (β i),.slice (if m=m then A' else β.a m) (if m=m then tx'.length else β.n m) (if m=m then c' else β.c m),.int .i64 e'];rw[if_pos rfl,if_pos rfl,if_pos rfl];exact ht.bO
 ·match k,hr with
  | 0,hr=>cases hr;show(if m+0=m then tx'.length else β.n (m+0))=tx'.length∧Own w' 5 1 (.slice (if m+0=m then A' else β.a (m+0)) tx'.length (if m+0=m then c' else β.c (m+0))) tx'.length (sb tx');rw[W7,if_pos rfl,if_pos rfl,if_pos rfl];exact⟨rfl,ht.own⟩
 ·match k,hr with
  | 0,hr=>
   cases hr;have hx:(if m+0=m then A' else β.a (m+0)).map (·.block)=some x:=hx;rw[W7,if_pos rfl]at hx;rcases hk x hx with h1|h1
   ·refine .inl (WN.2 ⟨j,by simp[Be],?_⟩)
    unfold Sx.b8;rw[h.o];exact h1
   ·exact .inr h1
 ·match k,k',hr,hr' with
  | 0,0,_,_=>rfl
 ·show k∈([i]++[j]).filterMap (Sx.b8 β row)
  rcases W0.1 hk with rfl|hk
  ·refine WN.2 ⟨i,by simp,?_⟩
   unfold Sx.b8;rw[h.b];exact oX
  ·refine WN.2 ⟨j,by simp,?_⟩
   unfold Sx.b8;rw[h.o];show(β.a j).map (·.block)=some k;simpa using hk
theorem N2{w:World}{g:Nat}{p:Bool}{A:Option Go.Addr}{c:Nat}{tx:Bs}{e:Int}(is:Bool)(code:Int)(h:Tx w g p A c tx e) :
  Calls prog 69 #[.pointer (some ⟨g,0,none⟩),.bool is,.int .i64 code] w fun e' w'=>e'=.returned (.tuple #[])∧Tx w' g p A c tx (aW is code e)∧ai [g] w w':=by
 have d1:w.cell? ⟨g,2,none⟩=some (.int .i64 e):=h.bO.cell_of rfl;have f1:w.frozen? ⟨g,2,none⟩=false:=h.bO.frozen 2;have hb2:=h.bO.q8 2 (.int .i64 code);have ho2:=h.own.NO (p:=⟨g,2,none⟩) h.ne (.int .i64 code);have HH:=hid h;clear h;cases is with
 |true=>
  go_enter func69,ntmps69
  go_wp2
  go_end0
  exact⟨rfl,HH.out,ai.refl _ _⟩
 |false=>
  by_cases he:e=0
  ·have hw:aW false code e=code:=by unfold aW;rw[decide_eq_true he]
   have hb:(e==0)=true:=by rw[he];rfl
   rw[hw];go_enter func69,ntmps69
   go_wp2
   go_end0
   exact⟨rfl,⟨by simpa[Tr]using hb2,ho2⟩,(ai.refl _ w).setCell (.inl (by simp)) _⟩
  ·have hw:aW false code e=e:=by unfold aW;rw[decide_eq_false he]
   have hb:(e==0)=false:=beq_eq_false_iff_ne.2 he;rw[hw];go_enter func69,ntmps69
   go_wp2
   go_end0
   exact⟨rfl,HH.out,ai.refl _ _⟩
def lB(X:List Nat)(i j:Nat)(og:Option Nat)(p:Bool)(e:Int):Sx.ct:=⟨i::j::X,[(i,jx og [.eB p i 0,.own j,.val (.int .i64 e)])],[],[],.val (.tuple #[]),none⟩
theorem sd{b:Sx.aV}{row:Nat→Option Sx.Row}{i j m:Nat}{og:Option Nat}{p:Bool}{tx:Bs}{e:Int}(is:Bool)(code:Int)(h:oR row i j og p tx e)(W:World)(β:Sx.Env)(hS:Sx.eM b β W row [i,j]) :
  Calls prog 69 (([.ptr i 0,.val (.bool is),.val (.int .i64 code)]:List Sx.SV).map (Sx.SV.den β)).toArray W (Sx.br b β W row m (lB [] i j og p (aW is code e))):=by
 obtain⟨ht,hg⟩:=qg hS h (by simp) (by simp);show Calls prog 69 #[.pointer (some ⟨β i,0,none⟩),.bool is,.int .i64 code] W _;refine(N2 is code ht).mono fun en w' ⟨he,ht',hc⟩=>.inl ⟨fun p hp=>(by cases hp),β,Sx.dt (v:=.tuple #[]) rfl rfl he (fun q hq=>?_) ?_⟩
 ·have hq:q=(i,jx og [.eB p i 0,.own j,.val (.int .i64 (aW is code e))]):=WQ.1 hq
  subst hq;refine mv.2 ⟨hg,?_⟩;have h2:β.n j=tx.length:=(hS.held j (by simp) _ h.o).1;show aq w' (β i) 132 [pV p (β i),.slice (β.a j) (β.n j) (β.c j),.int .i64 (aW is code e)];rw[h2];exact ht'.bO
 ·refine hc.mono fun k hk=>.inl ?_
  show k∈([i]++[]).filterMap (Sx.b8 β row);refine WN.2 ⟨i,by simp,?_⟩;unfold Sx.b8;rw[h.b,WQ.1 hk];exact oX
theorem Ux{w:World}{g:Nat}{p:Bool}{A:Option Go.Addr}{c:Nat}{tx:Bs}{e:Int}(h:Tx w g p A c tx e):Calls prog 76 #[.pointer (some ⟨g,0,none⟩)] w fun e' w'=>e'=.returned (.int .i64 (tx.length:Int))∧w'=w:=by
 have d1:w.cell? ⟨g,1,none⟩=some (.slice A tx.length c):=h.bO.cell_of rfl;clear h;go_enter func76,ntmps76
 go_wp2
 go_ret
 exact⟨rfl,rfl⟩
theorem Pn{P:Program}{e:TypeId}(hc:P.cellsOf e=1)(count o n:Nat)(hn:o+n≤count):liesAt P P.depth e count o e n=true:=by have hd:P.depth=(2*(P.types.size+Made.depth)+1)+1:=rfl;rw[hd];simp only[liesAt,Bool.or_eq_true];left;rw[hd];simp[rowAt,hc,sameLayout,Nat.mod_one];omega
theorem pM{P:Program}(w:World)(pt it ty e:TypeId)(hp:P.underlying pt=some (.pointer e))(hc:P.cellsOf e=1)(g o cells:Nat)(hsh:w.shape? g=some (e,cells))(l:List UInt8)(h0:l≠[])(hn:o+l.length≤cells)(h63:l.length≤9223372036854775807)
  (hcell:∀j x,l[j]?=some x→w.cell? ((⟨g,o,none⟩:Addr).add j)=some (.int .u8 x.toNat)) :
  (Builtin.unsafeString_ #[pt,it] ty #[.pointer (some ⟨g,o,none⟩),.int .i64 l.length]).run P w=.ok (.string ⟨l.toArray⟩) (w.freeze ⟨g,o,none⟩ l.length):=by
 have hl:l.length≠0:=by simpa using h0
 have hlb:=run_loadBytes (P:=P) w l ⟨g,o,none⟩ .empty hcell;have hlies:=Pn (P:=P) hc (cells / P.cellsOf e) o l.length (by rw[hc]; simpa using hn);have h63':¬(9223372036854775807:Int) < (l.length:Int):=by omega
 have hdef:Builtin.unsafeString_ #[pt,it] ty #[.pointer (some ⟨g,o,none⟩),.int .i64 l.length]=
   (do
    let n ←asInt (.int .i64 l.length)
    if n < 0 then runtimePanic (.error "unsafe.String: len out of range")
    if n > WW.max then unsupported (.unsafePointer "String: a length above the largest int")
    if n=0 then pure (.string .empty)
    else if ←variablesAt ⟨g,o,none⟩ (←elemOf pt) n.toNat then do
     let s ←loadBytes ⟨g,o,none⟩ .empty n.toNat
     freeze ⟨g,o,none⟩ n.toNat
     pure (.string s)
    else unsupported (.unsafePointer "String: not so many bytes at ptr")):=rfl
 rw[hdef];have hmax:WW.max=9223372036854775807:=rfl;have hneg:¬(l.length:Int) < 0:=by omega
 simp[asInt,asIntOf,hmax,h63',hneg,hl,variablesAt,hsh,elemOf,run_underlying hp,hlies,hlb]
set_option maxHeartbeats 1100000 in
theorem Ka{w:World}{g:Nat}{p:Bool}{A:Option Go.Addr}{c:Nat}{tx:Bs}{e:Int}(h:Tx w g p A c tx e)(h0:tx≠[]):Calls prog 77 #[.pointer (some ⟨g,0,none⟩)] w fun e' w'=>e'=.returned (ae tx)∧ai (qY g A) w w':=by
 have hl0:tx.length≠0:=by simpa using h0
 obtain⟨b,o,cap,L,hv,hb,hnc,hcm,hcl,htake⟩:∃b o cap L,WS A tx.length c=.slice (some ⟨b,o,none⟩) tx.length cap∧aq w b 5 L∧tx.length≤cap∧cap≤maxLen∧o+cap*1≤L.length∧(L.drop o).take (tx.length*1)=sb tx:=by
  rcases h.own.2 with⟨_,hz⟩ | ⟨b,o,cap,L,hv,r⟩
  ·exact absurd hz hl0
  ·exact⟨b,o,cap,L,hv,r⟩
 injection hv with hA _ hc;subst hA hc;have c1:w.drew.cell? ⟨g,1,none⟩=some (.slice (some ⟨b,o,none⟩) tx.length c):=h.bO.cell_of rfl;have hSD:(Builtin.unsafeSliceData_ #[82] 210 #[.slice (some ⟨b,o,none⟩) tx.length c]).run prog w.drew=.ok (.pointer (some ⟨b,o,none⟩)) w.drew:=run_unsafeSliceData_row _ _ _ _ _ _ (by omega);have hsh:w.drew.shape? b=some (5,L.length):=hb.shape;have hUS:(Builtin.unsafeString_ #[210,3] 9 #[.pointer (some ⟨b,o,none⟩),.int .i64 tx.length]).run prog w.drew=.ok (.string ⟨tx.toArray⟩) (w.drew.freeze ⟨b,o,none⟩ tx.length):=
  pM w.drew 210 3 9 5 underlying210 (by kernel_rfl) b o L.length hsh tx h0 (by omega) (by unfold maxLen at hcm;omega) fun j x hx=>by have:=h.own.ko j (.int .u8 x.toNat) (by simp[sb,hx]);exact this
 have hgb:ai (qY g (some ⟨b,o,none⟩)) w (w.drew.freeze ⟨b,o,none⟩ tx.length):=by have hf:=below_freeze (B:=0) (Below.drew (Below.refl 0 w)) (p:=⟨b,o,none⟩) (Nat.zero_le _) tx.length;refine⟨hf.os,hf.tape,hf.output,hf.size,fun k hk hS=>?_⟩;have hne:k≠b:=fun hh=>hS (by simp[qY,hh]);unfold World.freeze;rw[if_neg hl0];show(w.heap.modify b _)[k]?=_;rw[Array.getElem?_modify,if_neg (fun hh=>hne hh.symm)]
 have mixed:prog.follows .mixedOrders=true:=by kernel_rfl
 clear h hb;go_enter func77,ntmps77
 go_wp2
 go_region_o
 all_goals (go_wp2;go_ret;exact⟨rfl,hgb⟩)
set_option maxRecDepth 100000
open Go Go.RowKit Go.Lib Go.Sort _root_.Go.Proofs.Tryz
theorem Cu{w:World}{A:Option Go.Addr}{n c:Nat}{xs:List (List UInt8)}(h:Own w 9 1 (.slice A n c) n (strs xs))(sep:UInt8)(hN:n≤140737488355328)(hlen:(ax sep xs).length≤140737488355328) :
  Calls prog 87 #[.slice A n c,.string ⟨#[sep]⟩] w (Rn w (ae (ax sep xs))):=by
 have hl:xs.length=n:=by have:=h.len;simpa[strs]using this
 by_cases h0:n=0
 ·subst h0
  have:xs=[]:=WV hl;subst this;exact(Tryz.strings_Join_none A c ⟨#[sep]⟩ w).mono fun e w' ⟨h1,h2⟩=>⟨h1,by rw[h2];exact ai.refl _ _⟩
 ·obtain⟨g,o,c',hv,hnc,_,hg⟩:=h.some_ (by omega)
  injection hv with hA _ hc;subst hA hc;have hj:=Tryz.strings_Join g o c (xs.map fun l=>(⟨l.toArray⟩:ByteArray)) ⟨#[sep]⟩ w (fun j x hx=>by have:=h.ko j _ (FO hx);rwa [Lib.add_plain]at this) hg (by simpa[hl]using hN) (by simpa[hl]using hnc) (by rw[rS,show(⟨#[sep]⟩:ByteArray).data.toList=[sep]from rfl,oA];exact hlen);rw[rS,show(⟨#[sep]⟩:ByteArray).data.toList=[sep]from rfl,oA,List.length_map,hl]at hj;exact hj.mono fun e w' ⟨h1,h2⟩=>⟨h1,ai.dG h2⟩
def FM(g:Nat)(p:Bool)(tx:Bs)(e:Int):List Sx.Row:=[jx (some g) [.eB p 0 0,.own 1,.val (.int .i64 e)],⟨5,.own 1 tx.length (sb tx)⟩]
def Qt(g:Nat)(tx:Bs)(e:Int)(l:List Sx.SV)(mem:List Sx.Row):Prop:=
 ∃k,l=[]∧mem[0]?=some (jx (some g) [.eB true 0 0,.own k,.val (.int .i64 e)])∧mem[k]?=some ⟨5,.own 1 tx.length (sb tx)⟩
theorem ng.iy{g:Nat}{A:Option Go.Addr}{tx:Bs}{e:Int}{w:World}{en:Ending}{w':World}(h:Sx.dc ⟨w,qY g A,fun _ _=>False⟩ (Qt g tx e) en w'):ng g A (.tuple #[]) tx e w en w':=by
 rcases h with⟨β,l,mem,⟨k,rfl,h0,hk⟩,he,hR⟩ | ⟨_,_,hf,_⟩
 ·have r0:=mv.1 (hR.held 0 _ h0)
  have rk:β.n k=tx.length∧Own w' 5 1 (.slice (β.a k) tx.length (β.c k)) tx.length (sb tx):=hR.held k _ hk;have hg:β 0=g:=r0.1 g rfl;have hb:=r0.2;have e1:([Sx.SV.eB true 0 0,.own k,.val (.int .i64 e)].map (Sx.SV.den β))=[pV true (β 0),β.sl k,.int .i64 e]:=rfl;rw[e1,hg]at hb;unfold Sx.Env.sl at hb;rw[rk.1]at hb;refine⟨β.a k,β.c k,he,⟨hb,rk.2⟩,hR.aF,fun x hx=>?_⟩;rcases hR.new k _ x hk hx with h1|h1
  ·rcases W0.1 h1 with rfl|h1
   ·exact absurd (by rw[Hl];exact hx) (rk.2.Ez hb (show(5:Nat)≠132 by decide))
   ·exact .inl (by simpa using h1)
  ·exact .inr h1
 ·exact hf.elim
theorem FL{w:World}{f:FuncId}{fn:Func}{co:Code}{g:Nat}{p:Bool}{A:Option Go.Addr}{c:Nat}{tx tx':Bs}{e e':Int}(rest:List Value)(h:Tx w g p A c tx e)(H:List (Nat×Sx.Hint))(L:List Sx.Loop)
  (hm:prog.follows .mixedOrders=true) (hf:prog.funcs[f]?=some fn) (hb:fn.body=some co) (hn:(rest.length+1)≤fn.ntmps)
  (hx:Sx.ky prog fn.ntmps ⟨w,qY g A,fun _ _=>False⟩ co H L ⟨Sx.mf 0 (.ptr 0 0::rest.map .val),FM g p tx e⟩ (Sx.fM prog fn (Qt g tx' e'))) :
  Calls prog f (.pointer (some ⟨g,0,none⟩)::rest).toArray w (ng g A (.tuple #[]) tx' e' w):=by
 have hrows:Sx.Rows ⟨w,qY g A,fun _ _=>False⟩ (Sx.cV [.oN g 132 [.eB p 0 0,.own 1,.val (.int .i64 e)],.own 5 1 A tx.length c (sb tx)]) w (FM g p tx e):=by
  refine Sx.gM (w:=w) (S:=qY g A) (PP:=fun _ _=>False) (G:=[.oN g 132 [.eB p 0 0,.own 1,.val (.int .i64 e)],.own 5 1 A tx.length c (sb tx)]) (fun q hq=>?_) (fun q hq k hk=>?_) ?_
  ·rcases W0.1 hq with rfl|hq
   ·exact h.bO
   ·rw[WQ.1 hq];exact h.own
  ·rcases W0.1 hq with rfl|hq
   ·cases hk;simp[qY]
   ·rw[WQ.1 hq]at hk
    have hk:A.map (·.block)=some k:=hk;unfold qY;rw[hk];simp
  ·have:([Sx.kV.oN g 132 [.eB p 0 0,.own 1,.val (.int .i64 e)],.own 5 1 A tx.length c (sb tx)].filterMap Sx.kV.block)=[g]++(A.map (·.block)).toList:=by
    cases A<;>rfl
   rw[this,List.singleton_append,List.nodup_cons];refine⟨fun hm=>h.ne ?_,?_⟩
   ·rw[Hl];simpa using hm
   ·cases A<;>simp
 have:=Sx.b6 (args:=.ptr 0 0::rest.map .val) hrows H L hm hf hb (by simpa using hn) (by
  have:∀l:List Value,Sx.eA (Sx.xF 2) (l.map .val)=true:=fun l=>by
   induction l with
   |nil=>rfl
   |cons x l ih=>exact ih
  exact this rest) hx
 have ea:((.ptr 0 0::rest.map .val:List Sx.SV).map (Sx.SV.den (Sx.cV [.oN g 132 [.eB p 0 0,.own 1,.val (.int .i64 e)],.own 5 1 A tx.length c (sb tx)])))=.pointer (some ⟨g,0,none⟩)::rest:=by rw[Xh,Xu];have:(Sx.SV.den (Sx.cV [.oN g 132 [.eB p 0 0,.own 1,.val (.int .i64 e)],.own 5 1 A tx.length c (sb tx)]) ∘ Sx.SV.val)=id:=rfl;rw[this,Xv];rfl
 rw[ea]at this;exact this.mono fun en w' hp=>ng.iy hp
theorem Gz{w:World}{g:Nat}{p:Bool}{A B:Option Go.Addr}{c m cc:Nat}{tx:Bs}{e:Int}(ws:List Bs)(h:Tx w g p A c tx e)(hw:Own w 9 1 (.slice B m cc) m (strs ws))(hm:m≤1000000000)(hl:tx.length+(jh ws).length≤140737488355328) :
  Calls prog 70 #[.pointer (some ⟨g,0,none⟩),.slice B m cc] w (ng g A (.tuple #[]) (tx++jh ws) e w):=by
 have hS:∀k,(WS B m cc).ownBlock=some k→k∉qY g A:=fun k hk hm=>by
  rcases W0.1 hm with rfl|hm
  ·exact hw.Ez h.bO (by decide) hk
  ·exact hw.Lt h.own (by decide) k hk (by rw[Hl];simpa using hm)
 have hll:(jh ws).length=(ax 32 ws).length+1:=by simp[jh]
 have c8:=fun W (hW:ai (qY g A) w W)=>Cu (hw.aF hW hS) 32 (by omega) (by omega);have c9:=fun W=>cM (.tmp 8) (.const (.string ⟨#[10]⟩)) (ax 32 ws) [10] (by show(ax 32 ws).length+1≤_;omega) W;have c10:=fun W (β:Sx.Env) (hs:Sx.eM ⟨w,qY g A,fun _ _=>False⟩ β W (Sx.rowAt (FM g p tx e)) [0,1])=>(show Calls prog 141 (([.ptr 0 0,.val (ae (jh ws))]:List Sx.SV).map (Sx.SV.den β)).toArray W (Sx.br ⟨w,qY g A,fun _ _=>False⟩ β W (Sx.rowAt (FM g p tx e)) 2 (Be [] 0 1 2 (some g) (tx++jh ws) e (.tuple #[.int .i64 ((jh ws).length:Int),.nilIface])))from by obtain⟨ht,hg⟩:=qg (i:=0) (j:=1) (og:=some g) (p:=p) (tx:=tx) (e:=e) hs ⟨rfl,rfl⟩ (by simp) (by simp);show Calls prog 141 #[.pointer (some ⟨β 0,0,none⟩),ae (jh ws)] W _;exact(NV (jh ws) ht hl).mono fun en w' hp=>uo (i:=0) (j:=1) (m:=2) (p:=p) (tx:=tx) (e:=e) ⟨rfl,rfl⟩ (by omega) (by omega) hg hp);have z0:Qt g (tx++jh ws) e [] [jx (some g) [.eB true 0 0,.own 2,.val (.int .i64 e)],Sx.au,⟨5,.own 1 (tx++jh ws).length (sb (tx++jh ws))⟩]:=⟨2,rfl,rfl,rfl⟩;refine FL [.slice B m cc] h [(8,.call (ae (ax 32 ws))),(9,.bin (ae (jh ws))),(10,.ay (Be [] 0 1 2 (some g) (tx++jh ws) e (.tuple #[.int .i64 ((jh ws).length:Int),.nilIface])))] [] (by kernel_rfl) func70 rfl (bU rfl) ?_;exact Xc (by kernel_rfl) (Sx.t2 c8 c9 (WZ c10 z0))
set_option maxRecDepth 100000
open Go Go.RowKit Go.Lib Go.Sort _root_.Go.Proofs.Tryz
set_option maxRecDepth 100000
theorem LY(n:Int):Lib.itoa n=da n:=by unfold Lib.itoa da;rw[oF,oF]
theorem oB(n:Int)(h0 : -9223372036854775808≤n)(h1:n≤9223372036854775807)(w:World)(hl:dO w):Calls prog 71 #[.int .i64 n] w (Rn w (ae (da n))):=by refine(Tryz.strconv_Itoa n h0 h1 w hl.Vc).mono ?_;rintro e w' ⟨rfl,k,os,rfl⟩;exact⟨by rw[LY];rfl,((ai.refl [] w).drewN k).trans (ft ⟨⟨(w.drewN k).drawn,os⟩,rfl⟩)⟩
theorem lY(n:Nat):da (n:Int)=an 10 n:=by unfold da;rw[if_neg (by omega)];rfl
theorem jf(u:Nat)(h:u < 100000):(an 10 u).length≤5:=by
 have step:∀u:Nat,¬u < 10→(an 10 u).length=(an 10 (u / 10)).length+1:=fun u h=>by rw[dK (by omega) h]; simp
 have one:∀u:Nat,u < 10→(an 10 u).length=1:=fun u h=>by rw[bp h];rfl
 by_cases a:u < 10
 ·rw[one u a];omega
 rw[step u a];by_cases b:u / 10 < 10
 ·rw[one _ b];omega
 rw[step _ b];by_cases c:u / 10 / 10 < 10
 ·rw[one _ c];omega
 rw[step _ c];by_cases d:u / 10 / 10 / 10 < 10
 ·rw[one _ d];omega
 rw[step _ d,one _ (by omega)];omega
theorem D5(s:Nat×Nat)(h1:s.1≤65535)(h2:s.2≤65535)(w:World)(hl:dO w):Calls prog 85 #[gF s] w (Rn w (ae (eP s))):=by
 obtain⟨a,b⟩:=s;have h1:a≤65535:=h1;have h2:b≤65535:=h2;have c6:WX .i64 (WW.wrap (a:Int))=.int .i64 (a:Int):=iw (jC (by omega) (by omega));have c7:=fun W (hW:ai [] w W)=>(show Calls prog 71 #[.int .i64 (a:Int)] W (Rn W (ae (an 10 a)))from by rw[←lY];exact oB (a:Int) (by omega) (by omega) W (hl.dm hW));have la:=jf a (by omega);have lb:=jf b (by omega);by_cases he:a=b
 ·have c12:WT ((a:Int) !=(b:Int))=.bool false:=qa (by rw[he];simp)
  have hr:eP (a,b)=an 10 a:=by unfold eP;rw[if_pos he]
  rw[hr];have z0:W5 ⟨(an 10 a).toArray⟩=ae (an 10 a):=rfl;refine Sx.ao (args:=[gF (a,b)]) [(6,.is (.int .i64 (a:Int))),(7,.call (ae (an 10 a))),(12,.is (.bool false))] [] (by kernel_rfl) func85 rfl (bU rfl) ?_;exact Xc (by kernel_rfl) (Sx.t2 c6 c7 (WZ c12 z0))
 ·have c12:WT ((a:Int) !=(b:Int))=.bool true:=qI (by rw[bne_iff_ne];omega)
  have hr:eP (a,b)=an 10 a++([45]++an 10 b):=by unfold eP;rw[if_neg he];rfl
  rw[hr];have jM:WX .i64 (WW.wrap (b:Int))=.int .i64 (b:Int):=iw (jC (by omega) (by omega));have c17:=fun W (hW:ai [] w W)=>(show Calls prog 71 #[.int .i64 (b:Int)] W (Rn W (ae (an 10 b)))from by rw[←lY];exact oB (b:Int) (by omega) (by omega) W (hl.dm hW));have c18:=fun W=>cM (.const (.string ⟨#[45]⟩)) (.tmp 17) [45] (an 10 b) (by show 1+(an 10 b).length≤_;omega) W;have c19:=fun W=>cM (.tmp 13) (.tmp 18) (an 10 a) ([45]++an 10 b) (by simp only[WR,W2,Xb];omega) W;have z0:W5 ⟨(an 10 a++([45]++an 10 b)).toArray⟩=ae (an 10 a++([45]++an 10 b)):=rfl;refine Sx.ao (args:=[gF (a,b)]) [(6,.is (.int .i64 (a:Int))),(7,.call (ae (an 10 a))),(12,.is (.bool true)),(16,.is (.int .i64 (b:Int))),(17,.call (ae (an 10 b))),(18,.bin (ae ([45]++an 10 b))),(19,.bin (ae (an 10 a++([45]++an 10 b))))] [] (by kernel_rfl) func85 rfl (bU rfl) ?_;exact Xc (by kernel_rfl) (Sx.t4 c6 c7 c12 jM (Sx.t2 c17 c18 (WZ c19 z0)))
theorem OX(n:Nat)(h:n≤255)(w:World)(hl:dO w):Calls prog 86 #[.int .u8 (n:Int)] w (Rn w (ae (dR n))):=by
 by_cases h6:n=6
 ·have hr:dR n=js:=by unfold dR;rw[if_pos h6]
  rw[hr];have c5:WT ((n:Int)==6)=.bool true:=qI (by rw[h6];rfl);have z0:W5 ⟨#[116,99,112]⟩=ae js:=rfl;refine Sx.ao (args:=[.int .u8 (n:Int)]) [(5,.is (.bool true))] [] (by kernel_rfl) func86 rfl (bU rfl) ?_;exact Xc (by kernel_rfl) (WZ c5 z0)
 ·have c5:WT ((n:Int)==6)=.bool false:=qa (by rw[beq_eq_false_iff_ne];omega)
  by_cases h17:n=17
  ·have hr:dR n=jH:=by unfold dR;rw[if_neg h6,if_pos h17]
   rw[hr];have c7:WT ((n:Int)==17)=.bool true:=qI (by rw[h17];rfl);have z0:W5 ⟨#[117,100,112]⟩=ae jH:=rfl;refine Sx.ao (args:=[.int .u8 (n:Int)]) [(5,.is (.bool false)),(7,.is (.bool true))] [] (by kernel_rfl) func86 rfl (bU rfl) ?_;exact Xc (by kernel_rfl) (Sx.t2 c5 c7 z0)
  ·have hr:dR n=an 10 n:=by unfold dR;rw[if_neg h6,if_neg h17]
   rw[hr];have c7:WT ((n:Int)==17)=.bool false:=qa (by rw[beq_eq_false_iff_ne];omega);have c9:WX .i64 (WW.wrap (n:Int))=.int .i64 (n:Int):=iw (jC (by omega) (by omega));have c10:=fun W (hW:ai [] w W)=>(show Calls prog 71 #[.int .i64 (n:Int)] W (Rn W (ae (an 10 n)))from by rw[←lY];exact oB (n:Int) (by omega) (by omega) W (hl.dm hW));have z0:ae (an 10 n)=ae (an 10 n):=rfl;refine Sx.ao (args:=[.int .u8 (n:Int)]) [(5,.is (.bool false)),(7,.is (.bool false)),(9,.is (.int .i64 (n:Int))),(10,.call (ae (an 10 n)))] [] (by kernel_rfl) func86 rfl (bU rfl) ?_;exact Xc (by kernel_rfl) (Sx.t4 c5 c7 c9 c10 z0)
open Go Go.RowKit Go.Lib Go.Sort
def pT(w:World)(S:List Nat)(size:Nat)(s:Value)(n:Nat)(xs:List Value):Prop:=
 xs.length=n*size∧∃A c,s=.slice A n c∧(0 < n→∃g o,A=some ⟨g,o,none⟩∧g∉S∧g < w.heap.size∧∀(j:Nat) (u:Value),xs[j]?=some u→w.cell? ⟨g,o+j,none⟩=some u)
theorem pT.om{w:World}{S:List Nat}{T size n:Nat}{s:Value}{xs:List Value}(h:Own w T size s n xs)(hS:∀k,s.ownBlock=some k→k∉S):pT w S size s n xs:=by refine⟨h.len,?_⟩;obtain⟨A,c,rfl,_,_⟩:=h.form;refine⟨A,c,rfl,fun h0=>?_⟩;obtain⟨g,o,c',hv,_,_,hg⟩:=h.some_ h0;injection hv with h1 _ _;subst h1;exact⟨g,o,rfl,hS g rfl,hg,fun j u hu=>(Own.cell h hu).1⟩
theorem pT.aF{w w':World}{S:List Nat}{size n:Nat}{s:Value}{xs:List Value}(h:pT w S size s n xs)(hc:ai S w w'):pT w' S size s n xs:=by obtain⟨h1,A,c,h2,h3⟩:=h;refine⟨h1,A,c,h2,fun h0=>?_⟩;obtain⟨g,o,ha,hg,hl,hr⟩:=h3 h0;exact⟨g,o,ha,hg,Xo hl hc.size,fun j u hu=>(hc.cell (p:=⟨g,o+j,none⟩) hl hg).trans (hr j u hu)⟩
theorem pT.sub{w:World}{S S':List Nat}{size n:Nat}{s:Value}{xs:List Value}(h:pT w S size s n xs)(hs:∀k∈S',k∈S∨w.heap.size≤k):pT w S' size s n xs:=by
 obtain⟨h1,A,c,h2,h3⟩:=h;refine⟨h1,A,c,h2,fun h0=>?_⟩;obtain⟨g,o,ha,hg,hl,hr⟩:=h3 h0;exact⟨g,o,ha,fun hm=>by
  rcases hs g hm with h|h
  ·exact hg h
  ·omega,hl,hr⟩
theorem pT.form{w:World}{S:List Nat}{size n:Nat}{s:Value}{xs:List Value}(h:pT w S size s n xs):∃A c,s=.slice A n c:=let ⟨_,A,c,h,_⟩:=h;⟨A,c,h⟩
section
variable{P:Program}{w:World}{S:List Nat}{size n:Nat}{s:Value}
theorem re{t e:TypeId}{inf:TypeInfo}(hu:P.underlying t=some (.slice e))(hi:P.info? e=some inf)(g o n c i:Nat)(h:i < n)(W:World) :
  (W4 t (.slice (some ⟨g,o,none⟩) n c) (.int .i64 (i:Int))).run P W=.ok (.pointer (some ⟨g,o+i*inf.size,none⟩)) W:=by
 have hb:(0:Int)≤(i:Int)∧(i:Int) < (n:Int):=by omega
 simp[W4,run_underlying hu,asIntOf,h,sizeOf,typeInfo,hi,Addr.add_lit]
theorem pT.JN{t e:TypeId}{inf:TypeInfo}{d:TypeDesc}{α:Type}{f:α→List Value}(hf:∀x,(f x).length=size){L:List α}(h:pT w S size s n (L.flatMap f))(hu:P.underlying t=some (.slice e))(hi:P.info? e=some inf)(hs:inf.size=size)(hd:P.underlying e=some d)(hr:d.isRow=true)(h0:0 < size){i:Nat}{x:α}(hx:L[i]?=some x) :
  ∃p,(∀W,ai S w W→(W4 t s (.int .i64 (i:Int))).run P W=.ok p W)∧∀W,ai S w W→(Xt e p).run P W=.ok (.agg (f x).toArray) W:=by
 obtain⟨hl,A,c,rfl,h3⟩:=h;have hfl:∀l:List α,(l.flatMap f).length=l.length*size:=fun l=>by
  induction l with
  |nil=>simp
  |cons y r ih=>rw[W6,WR,hf,ih,W2,Xn];omega
 have hn:L.length=n:=by rw[hfl]at hl;exact Nat.eq_of_mul_eq_mul_right h0 hl
 have hin:i < n:=by rw[←hn];exact(WO.1 hx).1
 obtain⟨g,o,rfl,hg,hlt,hr2⟩:=h3 (by omega);refine⟨.pointer (some ⟨g,o+i*inf.size,none⟩),fun W _=>re hu hi g o n c i hin W,fun W hW=>?_⟩;have flat:∀{l:List α} {i c:Nat} {x:α},l[i]?=some x→c < size→(l.flatMap f)[i*size+c]?=(f x)[c]?:=by
  intro l;induction l with
  |nil=>intro i c x h _;simp at h
  |cons y r ih=>
   intro i c x h hc;cases i with
   |zero=>
    have h:y=x:=by simpa using h
    subst h;rw[W6,List.getElem?_append_left (by rw[hf];omega)];simp
   |succ i=>
    have e:(i+1)*size+c - size=i*size+c:=by rw[Xn]; omega
    rw[W6,List.getElem?_append_right (by rw[hf,Xn];omega),hf,e];exact ih (by simpa using h) hc
 refine run_loadAt_mid (P:=P) W g (o+i*inf.size) e (f x) d (fun j u hu=>?_) hd hr (by rw[hi];simp[hs,hf]);have hj:j < size:=by rw[←hf x];exact(WO.1 hu).1
 have:=hr2 (i*size+j) u (by rw[flat hx hj];exact hu);rw[hs,Nat.add_assoc];exact(hW.cell (p:=⟨g,o+(i*size+j),none⟩) hlt hg).trans this
theorem pT.Te{t e:TypeId}{inf:TypeInfo}{d:TypeDesc}{α:Type}{f:α→Value}{L:List α}(h:pT w S 1 s n (L.map f))(hu:P.underlying t=some (.slice e))(hi:P.info? e=some inf)(hs:inf.size=1)(hd:P.underlying e=some d)(hr:d.isRow=false){i:Nat}{x:α}(hx:L[i]?=some x) :
  ∃p,(∀W,ai S w W→(W4 t s (.int .i64 (i:Int))).run P W=.ok p W)∧∀W,ai S w W→(Xt e p).run P W=.ok (f x) W:=by
 obtain⟨hl,A,c,rfl,h3⟩:=h;have hn:L.length=n:=by simpa using hl
 have hin:i < n:=by rw[←hn];exact(WO.1 hx).1
 obtain⟨g,o,rfl,hg,hlt,hr2⟩:=h3 (by omega);refine⟨.pointer (some ⟨g,o+i*inf.size,none⟩),fun W _=>re hu hi g o n c i hin W,fun W hW=>?_⟩;have:=hr2 i (f x) (by rw[List.getElem?_map,hx];rfl);have hc:=(hW.cell (p:=⟨g,o+i,none⟩) hlt hg).trans this;rw[hs,Xm];have hagg:(isAgg e).run P W=.ok false W:=by unfold isAgg;rw[Sem.run_bind,run_underlying hd W];cases d<;>simp_all
 rw[Sx.q9];simp[loadVar,Sem.run_bind,hagg,load,Sem.run,hc]
end
end Go.Proofs.YtnncigmpcdehnaaGreatDoor
