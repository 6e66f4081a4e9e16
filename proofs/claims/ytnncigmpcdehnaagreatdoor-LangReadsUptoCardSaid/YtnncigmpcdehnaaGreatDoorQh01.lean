import Derived.WalkKit
import Derived.WalkSpells
import Derived.WalkLawsBesides
import Derived.ArgAppend
import Derived.Laws.CopyOwn
import Derived.Laws.OwnMore
import Derived.Deep.Draws
import Derived.Deep.RegionLaw
import Derived.Lib.AppendZeros
import Derived.Lib.Overlaps
import Derived.Lib.QuietBelow
import Derived.StillTail
import Derived.Deep.QuietTactic
import Derived.BigQuiet
import Derived.RegionTactic
import Derived.BigRegion
import Derived.Deep.LoopGhost
import Derived.Deep.MidRow
import Derived.Lib.BitFns
import Derived.Lib.ItoaNum
import Derived.Lib.Join
import Derived.Lib.SplitLaws
open Nat renaming lt_of_lt_of_le→Xy,eq_of_testBit_eq→Xz,testBit_lt_two_pow→XG,pow_le_pow_right→XH,le_refl→XI,testBit_div_two_pow→XQ,mul_le_mul_right→XS,strongRecOn→XZ,div_lt_self→X0,testBit_mul_two_pow→X3,le_trans→X6,add_mul→X9,mod_lt→Yc,min_eq_left→Ym,zero_add→Yu,add_comm→Yv,pow_add→Yw,min→Yx
open Go.Value renaming ownBlock→XA,slice→XF,bool→Yt
open List renaming eq_nil_of_length_eq_zero→XB,isPrefixOf_iff_prefix→XC,getElem?_append_right→XD,getElem?_eq_some_iff→XE,exists_cons_of_ne_nil→XJ,getElem?_drop→XL,getElem?_append_left→XM,drop_eq_getElem_cons→XN,take_append_drop→XR,drop_append_of_le_length→XU,cons_append→XV,foldl_cons→XX,drop_left'→XY,mem_cons→X1,getElem?_cons_succ→X2,mem_of_mem_drop→X7,mem_of_getElem?→X8,mem_singleton→Ya,append_assoc→Yb,length_take→Yd,length_cons→Ye,take_left'→Yg,nil_append→Yh,mem_append→Yi,length_set→Yj,append_nil→Yk,replicate→Yn,map_cons→Yp,mem_map→Yr,map_nil→Ys
open Int renaming toNat_natCast→XO
open Bool renaming true_and→XP,not_eq_true→XW,and_eq_true→Yf,false_and→Yo
open Go.Result renaming andThen_ok→XT
open Go.Sem renaming run_pure→X4,run_bind→X5
namespace Go.Proofs.YtnncigmpcdehnaaGreatDoor
open Go Go.RowKit
theorem Sx.t2{a b c:Prop}(xa:a)(xb:b)(xc:c):a∧b∧c:=⟨xa,xb,xc⟩
theorem Sx.t4{a b c d e:Prop}(xa:a)(xb:b)(xc:c)(xd:d)(xe:e):a∧b∧c∧d∧e:=⟨xa,xb,xc,xd,xe⟩
theorem Sx.t8{a b c d e f g h i:Prop}(xa:a)(xb:b)(xc:c)(xd:d)(xe:e)(xf:f)(xg:g)(xh:h)(xi:i):a∧b∧c∧d∧e∧f∧g∧h∧i:=⟨xa,xb,xc,xd,xe,xf,xg,xh,xi⟩
theorem hid{p:Prop}(h:p):Hid p:=h
def aw(w:World)(g:Nat)(t:TypeId)(cs:List Value):Prop:=w.heap[g]?=some (.cells cs.toArray t (0,0))
section
variable{w w':World}{g:Nat}{t:TypeId}{cs:List Value}
theorem aw.lt(h:aw w g t cs):g < w.heap.size:=by
 rcases Nat.lt_or_ge g w.heap.size with hlt|hge
 ·exact hlt
 ·unfold aw at h;rw[Array.getElem?_eq_none hge]at h;cases h
theorem aw.cell(h:aw w g t cs)(i:Nat):w.cell? ⟨g,i,none⟩=cs[i]?:=by have:=cell_of_row w g i cs.toArray t (0,0) h;simpa using this
theorem aw.cell_of(h:aw w g t cs){i:Nat}{v:Value}(hv:cs[i]?=some v):w.cell? ⟨g,i,none⟩=some v:=(h.cell i).trans hv
theorem aw.VU(h:aw w g t cs)(o:Nat):∀(j:Nat) (u:Value),(cs.drop o)[j]?=some u→w.cell? ((⟨g,o,none⟩:Addr).add j)=some u:=fun j u hu=>by rw[Addr.add_lit];exact h.cell_of (by rw[←hu,XL])
theorem aw.Eo(h:aw w g t cs):∀(j:Nat) (u:Value),cs[j]?=some u→w.cell? ((⟨g,0,none⟩:Addr).add j)=some u:=fun j u hu=>h.VU 0 j u (by simpa using hu)
theorem aw.frozen(h:aw w g t cs)(i:Nat):w.frozen? ⟨g,i,none⟩=false:=by unfold aw at h;simp[World.frozen?,h]
theorem aw.shape(h:aw w g t cs):w.shape? g=some (t,cs.length):=by unfold aw at h;simp[World.shape?,h]
theorem aw.new(w:World)(t:TypeId)(cs:Array Value):aw (w.alloc (.cells cs t)) w.heap.size t cs.toList:=by have:=heap_alloc_new w (.cells cs t);unfold aw;simpa using this
theorem aw.drewN(h:aw w g t cs)(n:Nat):aw (w.drewN n) g t cs:=h
theorem aw.alloc(h:aw w g t cs)(o:Obj):aw (w.alloc o) g t cs:=(Below.heap_alloc w o g h.lt).trans h
theorem aw.sh(h:aw w g t cs)(i:Nat)(u:Value):aw (w.setCell ⟨g,i,none⟩ u) g t (cs.set i u):=by unfold aw at h ⊢;simp[World.setCell,Array.getElem?_modify,h]
theorem aw.OU(h:aw w g t cs){p:Addr}(hp:g≠p.block)(u:Value):aw (w.setCell p u) g t cs:=(Below.heap_setCell w p u g hp).trans h
theorem aw.row(h:aw w g t cs)(L:List Value):aw (w.setRow g L.toArray) g t L:=setRow_heap w g _ _ t _ h
theorem aw.Hm{g':Nat}{t':TypeId}{cs':List Value}(h:aw w g t cs)(h':aw w g' t' cs')(hne:t≠t'):g≠g':=by rintro rfl;unfold aw at h h';rw[h]at h';injection h' with h';injection h' with _ ht;exact hne ht
end
structure ai(S:List Nat)(w w':World):Prop where
 os:w'.os=w.os
 tape:w'.tape=w.tape
 output:w'.output=w.output
 size:w.heap.size≤w'.heap.size
 block:∀k,k < w.heap.size→k∉S→w'.heap[k]?=w.heap[k]?
section
variable{S S':List Nat}{a w w':World}
theorem ai.refl(S:List Nat)(w:World):ai S w w:=⟨rfl,rfl,rfl,XI _,fun _ _ _=>rfl⟩
theorem ai.trans{b c:World}(h:ai S a b)(k:ai S b c):ai S a c:=
 ⟨k.os.trans h.os,k.tape.trans h.tape,k.output.trans h.output,X6 h.size k.size,fun i hi hS=>(k.block i (Xy hi h.size) hS).trans (h.block i hi hS)⟩
theorem ai.mono(h:ai S w w')(hS:∀k∈S,k∈S'∨w.heap.size≤k):ai S' w w':=
 ⟨h.os,h.tape,h.output,h.size,fun k hk hn=>h.block k hk (fun hm=>by rcases hS k hm with h1|h1;exact hn h1;omega)⟩
theorem ai.seq{b c:World}{T:List Nat}(h:ai S a b)(k:ai T b c)(hT:∀x∈T,x∈S∨a.heap.size≤x):ai S a c:=
 ⟨k.os.trans h.os,k.tape.trans h.tape,k.output.trans h.output,X6 h.size k.size,fun i hi hS=>(k.block i (Xy hi h.size) (fun hm=>by rcases hT i hm with h1|h1;exact hS h1;omega)).trans (h.block i hi hS)⟩
theorem ai.drewN(h:ai S a w)(n:Nat):ai S a (w.drewN n):=⟨h.os,h.tape,h.output,h.size,h.block⟩
theorem ai.drew(h:ai S a w):ai S a w.drew:=⟨h.os,h.tape,h.output,h.size,h.block⟩
theorem ai.alloc(h:ai S a w)(o:Obj):ai S a (w.alloc o):=
 ⟨h.os,h.tape,h.output,by have:=h.size;simp;omega,fun k hk hS=>(Below.heap_alloc w o k (by have:=h.size;omega)).trans (h.block k hk hS)⟩
theorem ai.setCell(h:ai S a w){p:Addr}(hp:p.block∈S∨a.heap.size≤p.block)(u:Value):ai S a (w.setCell p u):=
 ⟨h.os,h.tape,h.output,by have:=h.size;simp[World.setCell];omega,fun k hk hS=>(Below.heap_setCell w p u k (by rintro rfl;rcases hp with h1|h1;exact hS h1;omega)).trans (h.block k hk hS)⟩
theorem ai.setRow(h:ai S a w){g:Nat}(hp:g∈S∨a.heap.size≤g)(cs:Array Value):ai S a (w.setRow g cs):=
 ⟨h.os,h.tape,h.output,by have:=h.size;simp;omega,fun k hk hS=>(setRow_other w g k cs (by rintro rfl;rcases hp with h1|h1;exact hS h1;omega)).trans (h.block k hk hS)⟩
theorem ai.CN{row:Option Nat}(h:w.grownBy w' row):ai row.toList w w':=
 ⟨h.os,h.tape,h.output,h.size,fun k hk hS=>h.block k hk (fun e=>hS (by rw[←e];simp))⟩
theorem ai.below{B:Nat}(h:ai S w w')(hS:∀k∈S,B≤k)(hB:B≤w.heap.size):Below B w w':=
 ⟨h.os,h.tape,h.output,h.size,fun k hk=>h.block k (by omega) (fun hm=>by have:=hS k hm;omega)⟩
theorem ai.dZ(h:Below w.heap.size w w'):ai [] w w':=⟨h.os,h.tape,h.output,h.size,fun k hk _=>h.block k hk⟩
theorem aw.aJ{g:Nat}{t:TypeId}{cs:List Value}(h:aw w g t cs)(hc:ai S w w')(hg:g∉S):aw w' g t cs:=(hc.block g h.lt hg).trans h
theorem aw.below{B g:Nat}{t:TypeId}{cs:List Value}(h:aw w g t cs)(hb:Below B w w')(hg:g < B):aw w' g t cs:=(hb.block g hg).trans h
theorem ai.cell(hc:ai S w w'){p:Addr}(hp:p.block < w.heap.size)(hS:p.block∉S):w'.cell? p=w.cell? p:=World.cell?_of_block (w:=w) (hc.block _ hp hS)
end
def Own(w:World)(T:TypeId)(size:Nat)(v:Value)(n:Nat)(xs:List Value):Prop:=
 xs.length=n*size∧((v=.slice none 0 0∧n=0)∨
  ∃g o c L,v=.slice (some ⟨g,o,none⟩) n c∧aw w g T L∧n≤c∧c≤maxLen∧o+c*size≤L.length∧(L.drop o).take (n*size)=xs)
section
variable{w w':World}{T:TypeId}{size n:Nat}{v:Value}{xs:List Value}
theorem Own.nil(w:World)(T:TypeId)(size:Nat):Own w T size (.slice none 0 0) 0 []:=⟨by simp,.inl ⟨rfl,rfl⟩⟩
theorem Own.form(h:Own w T size v n xs):∃A c,v=.slice A n c∧n≤c∧c≤maxLen:=by
 rcases h.2 with⟨rfl,rfl⟩ | ⟨g,o,c,L,rfl,_,hn,hc,_⟩
 ·exact⟨none,0,rfl,XI _,by unfold maxLen;omega⟩
 ·exact⟨_,c,rfl,hn,hc⟩
theorem Own.len(h:Own w T size v n xs):xs.length=n*size:=h.1
theorem Own.My{base:Nat}(h:w.ownsRow base T size v n xs):Own w T size v n xs:=by
 refine⟨h.1,?_⟩;rcases h.2 with h0|⟨g,cap,cur,rfl,_,hg,hn,hm,hs,ht⟩
 ·exact .inl h0
 ·refine .inr ⟨g,0,cap,cur.toList,rfl,by simpa[aw]using hg,hn,hm,by simp[hs],by simpa using ht⟩
theorem Own.lt(h:Own w T size v n xs):∀k,v.ownBlock=some k→k < w.heap.size:=by
 intro k hk;rcases h.2 with⟨rfl,_⟩ | ⟨g,o,c,L,rfl,hg,_⟩
 ·simp[XA]at hk
 ·simp[XA]at hk
  subst hk;exact hg.lt
theorem Own.JR(h:Own w T size v n xs)(hk:∀k,v.ownBlock=some k→w'.heap[k]?=w.heap[k]?):Own w' T size v n xs:=by
 refine⟨h.1,?_⟩;rcases h.2 with h0|⟨g,o,c,L,rfl,hg,r⟩
 ·exact .inl h0
 ·exact .inr ⟨g,o,c,L,rfl,(hk g rfl).trans hg,r⟩
theorem Own.aJ{S:List Nat}(h:Own w T size v n xs)(hc:ai S w w')(hS:∀k,v.ownBlock=some k→k∉S):Own w' T size v n xs:=
 h.JR fun k hk=>hc.block k (h.lt k hk) (hS k hk)
theorem Own.alloc(h:Own w T size v n xs)(o:Obj):Own (w.alloc o) T size v n xs:=h.JR fun k hk=>Below.heap_alloc w o k (h.lt k hk)
theorem Own.drewN(h:Own w T size v n xs)(k:Nat):Own (w.drewN k) T size v n xs:=h
theorem Own.drew(h:Own w T size v n xs):Own w.drew T size v n xs:=h
theorem Own.OU(h:Own w T size v n xs){p:Addr}(hp:v.ownBlock≠some p.block)(u:Value):Own (w.setCell p u) T size v n xs:=
 h.JR fun k hk=>Below.heap_setCell w p u k (by rintro rfl;exact hp hk)
theorem Own.Hm{g:Nat}{t:TypeId}{cs:List Value}(h:Own w T size v n xs)(hg:aw w g t cs)(hne:T≠t):v.ownBlock≠some g:=by
 rcases h.2 with⟨rfl,_⟩ | ⟨g',o,c,L,rfl,hb,_⟩
 ·simp[XA]
 ·intro he
  have:g'=g:=by simpa[XA]using he
  subst this;exact aw.Hm hb hg hne rfl
theorem Own.MC{T':TypeId}{size' n':Nat}{v':Value}{xs':List Value}(h:Own w T size v n xs)(h':Own w T' size' v' n' xs')(hne:T≠T'):∀k,v.ownBlock=some k→v'.ownBlock≠some k:=by
 intro k hk;rcases h.2 with⟨rfl,_⟩ | ⟨g,o,c,L,rfl,hb,_⟩
 ·simp[XA]at hk
 ·have:g=k:=by simpa[XA]using hk
  subst this;exact h'.Hm hb (Ne.symm hne)
theorem Own.cell{a:Addr}{c:Nat}(h:Own w T size (.slice (some a) n c) n xs){j:Nat}{u:Value}(hu:xs[j]?=some u):w.cell? ⟨a.block,a.off+j,none⟩=some u∧w.frozen? ⟨a.block,a.off+j,none⟩=false∧a.spot=none:=by
 rcases h.2 with⟨h0,_⟩ | ⟨g,o,c',L,hv,hb,_,_,_,ht⟩
 ·cases h0
 ·injection hv with ha _ _
  injection ha with ha;subst ha;refine⟨hb.cell_of ?_,hb.frozen _,rfl⟩;rw[←ht,List.getElem?_take]at hu;split at hu
  ·rw[XL]at hu;exact hu
  ·cases hu
theorem Own.some_(h:Own w T size v n xs)(hn:0 < n):∃g o c,v=.slice (some ⟨g,o,none⟩) n c∧n≤c∧c≤maxLen∧g < w.heap.size:=by
 rcases h.2 with⟨_,h0⟩ | ⟨g,o,c,L,rfl,hb,h1,h2,_⟩
 ·omega
 ·exact⟨g,o,c,rfl,h1,h2,hb.lt⟩
theorem Own.lj{a:Addr}{c:Nat}(h:Own w T size (.slice (some a) n c) n xs):∀(j:Nat) (u:Value),xs[j]?=some u→w.cell? (a.add j)=some u:=by
 intro j u hu;have hc:=h.cell hu;unfold Addr.add;split
 ·rename_i hj;subst hj;have:=hc.1;have hs:=hc.2.2;cases a;simp_all
 ·exact hc.1
theorem Own.sh{g o c:Nat}(h:Own w T 1 (.slice (some ⟨g,o,none⟩) n c) n xs){j:Nat}(_hj:j < n)(u:Value):Own (w.setCell ⟨g,o+j,none⟩ u) T 1 (.slice (some ⟨g,o,none⟩) n c) n (xs.set j u):=by
 rcases h.2 with⟨h0,_⟩ | ⟨g',o',c',L,hv,hb,hn,hc,hL,ht⟩
 ·cases h0
 ·injection hv with e1 _ e3
  injection e1 with e1;injection e1 with e1 e2;subst e1;subst e2;subst e3;refine⟨by rw[Yj];exact h.1,.inr ⟨g,o,c,L.set (o+j) u,rfl,hb.sh _ u,hn,hc,by rw[Yj];exact hL,?_⟩⟩;rw[←ht,List.drop_set,if_neg (by omega),List.take_set,show o+j - o=j by omega]
theorem Own.Rv{g o c:Nat}(h:Own w T size (.slice (some ⟨g,o,none⟩) n c) n xs):∃L,aw w g T L:=by
 rcases h.2 with⟨h0,_⟩ | ⟨g',o',c',L,hv,hb,_⟩
 ·cases h0
 ·injection hv with e1 _ _
  injection e1 with e1;injection e1 with e1 _;subst e1;exact⟨L,hb⟩
end
theorem lZ{α:Type}(L:List α)(o:Nat)(cs:List α)(h:o+cs.length≤L.length):(splice L o cs).length=L.length:=length_splice L o cs h
theorem uj{α:Type}(L:List α)(o n:Nat)(xs cs:List α)(hx:(L.drop o).take n=xs)(hl:xs.length=n)(hf:o+n+cs.length≤L.length) :
  ((splice L (o+n) cs).drop o).take (n+cs.length)=xs++cs:=by
 have h1:L.take (o+n)=L.take o++xs:=by rw[←hx,List.take_add]
 have h2:(L.take o).length=o:=by rw[Yd];omega
 unfold splice;rw[h1,Yb,XU (by omega),List.drop_of_length_le (by omega),Yh];rw[←Yb,List.take_append_of_le_length (by simp;omega),List.take_of_length_le (by simp;omega)]
section
variable{P:Program}(w:World)
theorem ff{g:Nat}{t:TypeId}{L:List Value}(o:Nat)(vs:List Value)(hg:aw w g t L)(hf:o+vs.length≤L.length)(h1:∀v∈vs,v.oneCell'=true) :
  (storeCells ⟨g,o,none⟩ vs).run P w=.ok () (w.setRow g (splice L o vs).toArray):=by
 have h:=run_storeCells_at P g o t vs 0 L.toArray w hg (by simpa using hf) h1;rw[h];simp[splice]
theorem oN(t ty e:TypeId)(i:TypeInfo)(z:Value)(size bytes:Nat)(ht:P.underlying t=some (.slice e))(hi:P.info? e=some i)(hz:i.zero=some z)
  (hsize:i.size=size) (hby:i.bytes=bytes) (hzs:z.cells.size=size) (hsz:0 < size)
  (v:Value) (n:Nat) (xs:List Value) (hown:Own w e size v n xs)
  (a:Addr) (m c:Nat) (news:List Value) (hl:news.length=m*size) (hnews:∀j u,news[j]?=some u→w.cell? (a.add j)=some u) (h1:∀u∈news,u.oneCell'=true)
  (h63:n+m≤maxLen) (hbytes:(n+m)*bytes≤140737488355328) :
  ∃A' c' w',(Builtin.append_ #[t,t] ty #[v,.slice (some a) m c]).run P w=.ok (.slice A' (n+m) c') w'∧Own w' e size (.slice A' (n+m) c') (n+m) (xs++news)∧ai v.ownBlock.toList w w'∧
   ((XF A' (n+m) c').ownBlock=v.ownBlock∨∃k,(XF A' (n+m) c').ownBlock=some k∧w.heap.size≤k):=by
 have fin:∀(v':Value) (w':World),(Builtin.append_ #[t,t] ty #[v,.slice (some a) m c]).run P w=.ok v' w'→Own w' e size v' (n+m) (xs++news)→ai v.ownBlock.toList w w'→
   (v'.ownBlock=v.ownBlock∨∃k,v'.ownBlock=some k∧w.heap.size≤k)→∃A' c' w',(Builtin.append_ #[t,t] ty #[v,.slice (some a) m c]).run P w=.ok (.slice A' (n+m) c') w'∧Own w' e size (.slice A' (n+m) c') (n+m) (xs++news)∧ai v.ownBlock.toList w w'∧
   ((XF A' (n+m) c').ownBlock=v.ownBlock∨∃k,(XF A' (n+m) c').ownBlock=some k∧w.heap.size≤k):=by
  intro v' w' r1 r2 r3 r4;obtain⟨A',c',rfl,_,_⟩:=r2.form;exact⟨A',c',w',r1,r2,r3,r4⟩
 rcases hown.2 with⟨rfl,rfl⟩ | ⟨g,o,cap,L,rfl,hg,hnc,hcm,hcL,hxs⟩
 ·obtain rfl:xs=[]:=XB (by simpa using hown.1)
  obtain⟨v',w',hrun,r1,r2,r3⟩:=run_append_own (P:=P) w w.heap.size t ty e i z size bytes ht hi hz hsize hby hzs hsz (.slice none 0 0) 0 [] (World.ownsRow_nil w _ e size) a m c news hl hnews h1 h63 hbytes (XI _);refine fin v' w' hrun (Own.My r1) (ai.CN r2) ?_;cases hb:v'.ownBlock with
  |none=>exact .inl rfl
  |some k=>exact .inr ⟨k,rfl,(r1.lt k hb).1⟩
 ·by_cases hr:n+m≤cap
  ·have hml:n*size+m*size≤cap*size:=by rw[←X9];exact XS _ hr
   have hst:=ff (P:=P) w (o+n*size) news hg (by omega) h1;have hfc:=run_firstCells_some (P:=P) w size m a m c news hl hnews;refine fin (.slice (some ⟨g,o,none⟩) (n+m) cap) (w.setRow g (splice L (o+n*size) news).toArray) ?_ ⟨by rw[List.length_append,hown.1,hl,X9],.inr ⟨g,o,cap,_,rfl,hg.row _,hr,hcm,?_,?_⟩⟩ ?_ (.inl rfl)
   ·simp[Builtin.append_,run_underlying ht,sizeOf,typeInfo,hi,Builtin.lenOf,hr,hfc,Addr.add_lit,hsize,hst]
   ·rw[lZ _ _ _ (by omega)];exact hcL
   ·rw[X9,←hl];exact uj L o (n*size) xs news hxs hown.1 (by omega)
   ·exact(ai.refl _ _).setRow (.inl (by simp[XA])) _
  ·have holds:∀j u,xs[j]?=some u→w.cell? ((⟨g,o,none⟩:Addr).add j)=some u:=hown.lj
   obtain⟨v',w',hrun,r1,r2⟩:=run_append_arg_grows (P:=P) w t ty e i z size bytes ht hi hz hsize hby hzs hsz ⟨g,o,none⟩ n cap xs hown.1 holds a m c news hl hnews (by omega) h63 hbytes;refine fin v' w' hrun (Own.My r1) ((ai.CN r2).mono (by simp)) ?_;rcases r1.2 with⟨rfl,hnm⟩ | ⟨g',cap',cur,rfl,hb,_⟩
   ·omega
   ·exact .inr ⟨g',rfl,hb⟩
theorem yB{o:Oper}{a:Act}{K:Act→World→Prop}{Q:Exit→Act→World→Prop}(s x:Operand)(t:TypeId)
  (ho:o.op=.call { callee:=.builtin .append,args:=#[s,x],argTypes:=#[t,t] })
  (e:TypeId) (i:TypeInfo) (z:Value) (size bytes:Nat) (ht:P.underlying t=some (.slice e)) (hi:P.info? e=some i) (hz:i.zero=some z)
  (hsize:i.size=size) (hby:i.bytes=bytes) (hzs:z.cells.size=size) (hsz:0 < size)
  (v:Value) (n:Nat) (xs:List Value) (hs:a.eval s=v) (hown:Own w e size v n xs)
  (ad:Addr) (m c:Nat) (news:List Value) (hx:a.eval x=.slice (some ad) m c) (hl:news.length=m*size) (hnews:∀j u,news[j]?=some u→w.cell? (ad.add j)=some u) (h1:∀u∈news,u.oneCell'=true)
  (h63:n+m≤maxLen) (hbytes:(n+m)*bytes≤140737488355328)
  (h:∀A' c' w',Own w' e size (.slice A' (n+m) c') (n+m) (xs++news)→ai v.ownBlock.toList w w'→
   ((XF A' (n+m) c').ownBlock=v.ownBlock∨∃k,(XF A' (n+m) c').ownBlock=some k∧w.heap.size≤k)→K (a.put o.dst (.slice A' (n+m) c')) w'):o.wp P a w K Q:=by
 obtain⟨A',c',w',hrun,h2,h3,h4⟩:=oN (P:=P) w t o.type e i z size bytes ht hi hz hsize hby hzs hsz v n xs hown ad m c news hl hnews h1 h63 hbytes;unfold Oper.wp execOp;simp only[ho,resolve,invoke,builtin,X5,X4,XT,List.map_toArray,Yp,Ys,hs,hx,hrun];exact h A' c' w' h2 h3 h4
theorem ew{ops:Array Oper}{rest:List Oper}{o:Oper}{a:Act}{Q:Exit→Act→World→Prop}(hgd:o.guard=none)(s x:Operand)(t:TypeId)
  (ho:o.op=.call { callee:=.builtin .append,args:=#[s,x],argTypes:=#[t,t] })
  (e:TypeId) (i:TypeInfo) (z:Value) (size bytes:Nat) (ht:P.underlying t=some (.slice e)) (hi:P.info? e=some i) (hz:i.zero=some z)
  (hsize:i.size=size) (hby:i.bytes=bytes) (hzs:z.cells.size=size) (hsz:0 < size)
  (v:Value) (n:Nat) (xs:List Value) (hs:a.eval s=v) (hown:Own w e size v n xs)
  (ad:Addr) (m c:Nat) (news:List Value) (hx:a.eval x=.slice (some ad) m c) (hl:news.length=m*size) (hnews:∀j u,news[j]?=some u→w.cell? (ad.add j)=some u) (h1:∀u∈news,u.oneCell'=true)
  (h63:n+m≤maxLen) (hbytes:(n+m)*bytes≤140737488355328)
  (h:∀A' c' w',Own w' e size (.slice A' (n+m) c') (n+m) (xs++news)→ai v.ownBlock.toList w w'→
   ((XF A' (n+m) c').ownBlock=v.ownBlock∨∃k,(XF A' (n+m) c').ownBlock=some k∧w.heap.size≤k)→wpList P ops Q rest (a.put o.dst (.slice A' (n+m) c')) w'):wpList P ops Q (o::rest) a w:=
 wpList_plain hgd fun _ hK=>yB w s x t ho e i z size bytes ht hi hz hsize hby hzs hsz v n xs hs hown ad m c news hx hl hnews h1 h63 hbytes fun A' c' w' h2 h3 h4=>hK _ _ (h A' c' w' h2 h3 h4)
theorem Az(dT sT ty elem:TypeId)(size:Nat)(hu:P.underlying dT=some (.slice elem))(hs:(P.info? elem).map (·.size)=some size)
  (g o dLen dCap:Nat) (L:List Value) (t:TypeId) (hg:aw w g t L) (sp:Option Addr) (sLen sCap:Nat) (cs:List Value) (hn:cs.length=Yx sLen dLen*size)
  (hsrc:0 < cs.length→∃ad,sp=some ad∧∀j v,cs[j]?=some v→w.cell? (ad.add j)=some v) (hfit:o+cs.length≤L.length) (h1:∀v∈cs,v.oneCell'=true) :
  (Builtin.copy_ #[dT,sT] ty #[.slice (some ⟨g,o,none⟩) dLen dCap,.slice sp sLen sCap]).run P w=
   .ok (goInt (Yx sLen dLen)) (w.setRow g (splice L o cs).toArray):=by
 have hst:=ff (P:=P) w o cs hg hfit h1;have hfc:(Builtin.firstCells size (Yx sLen dLen) (.slice sp sLen sCap)).run P w=.ok cs.toArray w:=by
  by_cases h0:0 < cs.length
  ·obtain⟨ad,rfl,hc⟩:=hsrc h0
   exact run_firstCells_some (P:=P) w size _ ad _ _ cs hn hc
  ·obtain rfl:cs=[]:=XB (by omega)
   cases sp with
   |none=>simp[Builtin.firstCells]
   |some ad=>exact run_firstCells_some (P:=P) w size _ ad _ _ [] hn (by simp)
 cases hq:P.info? elem with
 |none=>simp[hq]at hs
 |some i=>
  have hi:i.size=size:=by simpa[hq]using hs
  simp[Builtin.copy_,run_underlying hu,Builtin.lenOf,sizeOf,typeInfo,hq,hi,hfc,hst]
end
theorem gn{P:Program}{ops:Array Oper}{Q:Exit→Act→World→Prop}{rest:List Oper}{a:Act}{w:World}{dst:Option Tmp}{args:Array Operand}{ats:Array TypeId}{ty:TypeId}{pos:String}{aft:Array Edge}{gd:Option (Nat×Bool)}
  (h:wpList P ops Q ({ dst:=dst,op:=.call { callee:=.builtin .append,args:=args,argTypes:=ats },type:=ty,pos:=pos,after:=aft,guard:=gd }::rest) a w) :
  wpList P ops Q ({ dst:=dst,op:=.call { callee:=.builtin .append,args:=args,argTypes:=ats },type:=ty,pos:=pos,after:=aft,guard:=gd }::rest) a w:=h
open Go Go.RowKit
section
variable{P:Program}(w:World)
theorem qE(t ty e:TypeId)(size:Nat)(ht:P.underlying t=some (.slice e))(hs:(P.info? e).map (·.size)=some size)
  (g o n c:Nat) (L:List Value) (T:TypeId) (hg:aw w g T L) (sp:Option Addr) (m sc:Nat) (news:List Value) (hl:news.length=m*size)
  (hsrc:0 < news.length→∃ad,sp=some ad∧∀j v,news[j]?=some v→w.cell? (ad.add j)=some v) (h1:∀v∈news,v.oneCell'=true) (hroom:n+m≤c) (hfit:o+n*size+news.length≤L.length) :
  (Builtin.append_ #[t,t] ty #[.slice (some ⟨g,o,none⟩) n c,.slice sp m sc]).run P w=.ok (.slice (some ⟨g,o,none⟩) (n+m) c) (w.setRow g (splice L (o+n*size) news).toArray):=by
 have hst:=ff (P:=P) w (o+n*size) news hg hfit h1;have hfc:(Builtin.firstCells size m (.slice sp m sc)).run P w=.ok news.toArray w:=by
  by_cases h0:0 < news.length
  ·obtain⟨ad,rfl,hc⟩:=hsrc h0
   exact run_firstCells_some (P:=P) w size _ ad _ _ news hl hc
  ·obtain rfl:news=[]:=XB (by omega)
   cases sp with
   |none=>simp[Builtin.firstCells]
   |some ad=>exact run_firstCells_some (P:=P) w size _ ad _ _ [] hl (by simp)
 cases hq:P.info? e with
 |none=>simp[hq]at hs
 |some i=>
  have hi:i.size=size:=by simpa[hq]using hs
  simp[Builtin.append_,run_underlying ht,sizeOf,typeInfo,hq,Builtin.lenOf,hroom,hfc,Addr.add_lit,hi,hst]
end
open Go Go.RowKit
theorem Own.made(w:World)(T:TypeId)(size n c:Nat)(cs:List Value)(hn:n≤c)(hm:c≤maxLen)(hl:cs.length=c*size):Own (w.alloc (.cells cs.toArray T)) T size (.slice (some ⟨w.heap.size,0,none⟩) n c) n (cs.take (n*size)):=by have hle:n*size≤c*size:=XS _ hn;exact⟨by rw[Yd];omega,.inr ⟨_,0,c,cs,rfl,by simpa using aw.new w T cs.toArray,hn,hm,by omega,by simp⟩⟩
open Go Go.Sort
section
variable{P:Program}{ops:Array Oper}{md:Region.Mode}{C:World→Prop}
end
open Go Go.RowKit Go.Lib Go.Sort
theorem pI{P:Program}{f:FuncId}{args:Array Value}{v:Value}(h:∀W,Calls P f args W fun e w'=>e=.returned v∧ai [] W w')(w:World)(d:Nat)(os:Array Obj) :
  Calls P f args (grow (redrawn w d) os) fun e w''=>e=.returned v∧∃p:Regrown,w''=grow (redrawn w p.d) p.os:=
 Calls.regrown_of ((h _).mono fun _ _ ⟨h1,h2⟩=>⟨h1,h2.below (by simp) (XI _)⟩)
theorem aw.ga(w:World)(t:TypeId)(cs:Array Value){g:Nat}(h:w.heap.size=g):aw (w.alloc (.cells cs t)) g t cs.toList:=by subst h;exact aw.new w t cs
theorem fV{w w':World}(h:∃p:Regrown,w'=grow (redrawn w p.d) p.os):ai [] w w':=by obtain⟨p,rfl⟩:=h;exact ai.dZ (below_regrown w p.d p.os)
theorem ai.Pp{a w:World}(h:ai [] a w){g:Nat}(hg:a.heap.size≤g)(i:Nat)(u:Value):ai [] a (w.setCell ⟨g,i,none⟩ u):=h.setCell (.inr hg) u
section
variable{P:Program}{ops:Array Oper}{C:World→Prop}
theorem nq{Q:Act→Prop}{a:Act}{o:Oper}{rest:List Oper}(hw:Region.wanted o (yielded ops a.tmps)=true)(ty:TypeId)(x:Operand)(ho:o.op=.load ty x)
  (b off:Nat) (hx:a.eval x=.pointer (some ⟨b,off,none⟩)) (cs:List Value) (d:TypeDesc) (hc:∀W,C W→W.rangeAt b off cs)
  (hu:P.underlying ty=some d) (hd:d.isRow=true) (hi:(P.info? ty).map (·.size)=some cs.length)
  (h:wpQuiet P ops C Q rest (a.put o.dst (.agg cs.toArray))):wpQuiet P ops C Q (o::rest) a:=by
 refine wpQuiet_step fun K hK=>?_;rw[if_pos hw];refine⟨_,fun W hW=>?_,hK _ h⟩;unfold Oper.quietAt execOp;simp only[ho,hx,Instr.loadAt,Instr.sureAddr,X5,X4,XT,run_loadVar_mid W b off ty cs d (hc W hW) hu hd hi];exact⟨rfl,rfl⟩
theorem ia{a:Act}{o:Oper}{K:Act→Prop}(ty:TypeId)(x:Operand)(ho:o.op=.load ty x)
  (b off:Nat) (hx:a.eval x=.pointer (some ⟨b,off,none⟩)) (cs:List Value) (d:TypeDesc) (hc:∀W,C W→W.rangeAt b off cs)
  (hu:P.underlying ty=some d) (hd:d.isRow=true) (hi:(P.info? ty).map (·.size)=some cs.length)
  (h:K (a.put o.dst (.agg cs.toArray))):o.quiet P a C K:=by
 refine⟨_,fun W hW=>?_,h⟩;unfold Oper.quietAt execOp;simp only[ho,hx,Instr.loadAt,Instr.sureAddr,X5,X4,XT,run_loadVar_mid W b off ty cs d (hc W hW) hu hd hi];exact⟨rfl,rfl⟩
theorem aw.qe{w:World}{g:Nat}{t:TypeId}{cs:List Value}(hb:aw w g t cs)(off:Nat)(ds:List Value)(hd:∀j v,ds[j]?=some v→cs[off+j]?=some v):∀W,(∃p:Regrown,W=grow (redrawn w p.d) p.os)→W.rangeAt g off ds:=by rintro W hW j v hv;exact(hb.aJ (fV hW) (by simp)).cell_of (hd j v hv)
theorem aw.wD{w:World}{g:Nat}{t:TypeId}{cs:List Value}(hb:aw w g t cs):∀W,(∃p:Regrown,W=grow (redrawn w p.d) p.os)→W.rangeAt g 0 cs:=
 hb.qe 0 cs fun j v hv=>by rw[Yu];exact hv
end
open Go.RowKit Go.Lib
structure Acc(w0 w:World)(T:TypeId)(size:Nat)(v:Value)(n:Nat)(xs:List Value):Prop where
 own:Own w T size v n xs
 new:∀k,v.ownBlock=some k→w0.heap.size≤k
 aJ:ai [] w0 w
theorem Acc.later{w0 w w':World}{T:TypeId}{size n:Nat}{v:Value}{xs:List Value}(h:Acc w0 w T size v n xs)(hc:ai [] w w'):Acc w0 w' T size v n xs:=
 ⟨h.own.aJ hc (by simp),h.new,h.aJ.trans hc⟩
theorem Acc.alloc{w0 w:World}{T:TypeId}{size n:Nat}{v:Value}{xs:List Value}(h:Acc w0 w T size v n xs)(o:Obj):Acc w0 (w.alloc o) T size v n xs:=h.later ((ai.refl [] w).alloc o)
theorem Acc.nil(w0:World)(T:TypeId)(size:Nat){w:World}(h:ai [] w0 w):Acc w0 w T size (.slice none 0 0) 0 []:=⟨Own.nil _ _ _,by simp[XA],h⟩
theorem Acc.append{w0 w w':World}{T:TypeId}{size n m:Nat}{v v':Value}{xs ys:List Value}(h:Acc w0 w T size v n xs)(ho:Own w' T size v' m ys)(hc:ai v.ownBlock.toList w w')
  (hb:v'.ownBlock=v.ownBlock∨∃k,v'.ownBlock=some k∧w.heap.size≤k):Acc w0 w' T size v' m ys:=by
 refine⟨ho,?_,h.aJ.seq hc ?_⟩
 ·intro k hk
  rcases hb with hb|⟨j,hj,hj2⟩
  ·exact h.new k (hb ▸ hk)
  ·rw[hj]at hk;injection hk with hk;have:=h.aJ.size;omega
 ·intro x hx
  have:=h.new x (by simpa using hx);exact .inr this
theorem Acc.JR{w0 w w':World}{T t:TypeId}{size n g:Nat}{v:Value}{xs cs:List Value}(h:Acc w0 w T size v n xs)(hc:ai v.ownBlock.toList w w')(hg:aw w g t cs)(hne:T≠t):aw w' g t cs:=
 hg.aJ hc (by intro hm;exact h.own.Hm hg hne (by simpa using hm))
theorem bT(p:Prop) [Decidable p](h:p):Yt (decide p)=.bool true:=by rw[decide_eq_true h]
theorem bF(p:Prop) [Decidable p](h:¬p):Yt (decide p)=.bool false:=by rw[decide_eq_false h]
theorem bN{a b:Nat}(h:Nat.ble a b=true):a≤b:=Nat.le_of_ble_eq_true h
abbrev pt(g o:Nat):Value:=.pointer (some ⟨g,o,none⟩)
abbrev Rn(w:World)(v:Value)(e:Ending)(w':World):Prop:=e=.returned v∧ai [] w w'
theorem mW{i:Nat}(h:i≤4611686018427387904):Value.int .i64 (IntKind.i64.wrap ((i:Int)+1))=.int .i64 ((i+1:Nat):Int):=by rw[IntWalk.i64_in _ (by omega)];rfl
def bA(b:Bool)(X T:Prop):Prop:=match b with
 |true=>T
 |false=>X∧T
theorem bA.mk{b:Bool}{X T:Prop}(hx:b=false→X)(ht:T):bA b X T:=by
 cases b
 ·exact⟨hx rfl,ht⟩
 ·exact ht
def jZ(b:Bool)(X Y:Prop):Prop:=match b with
 |true=>X
 |false=>Y
theorem jZ.mk{b:Bool}{X Y:Prop}(hx:b=true→X)(hy:b=false→Y):jZ b X Y:=by
 cases b
 ·exact hy rfl
 ·exact hx rfl
def ah(n i:Nat):Nat:=n / 2^(120 - 8*i)%256
def df(n k:Nat):Nat:=n / 2^(128 - k)*2^(128 - k)
def fR(k i x:Nat):Nat:=if k≤8*i then 0 else if k < 8*i+8 then x / 2^(8*i+8 - k)*2^(8*i+8 - k)else x
theorem ba(n i:Nat):ah n i < 256:=Yc _ (by omega)
theorem jn(n i j:Nat):(ah n i).testBit j=(decide (j < 8)&&n.testBit (120 - 8*i+j)):=by unfold ah;rw[show(256:Nat)=2^8 by rfl,Nat.testBit_mod_two_pow,XQ,Yv]
theorem eP(n k j:Nat):(df n k).testBit j=(decide (128 - k≤j)&&n.testBit j):=by
 unfold df;rw[X3,XQ];by_cases h:128 - k≤j
 ·rw[show j - (128 - k)+(128 - k)=j by omega]
 ·simp[h]
theorem mS(n k i:Nat)(hi:i < 16)(hk:k≤128):ah (df n k) i=fR k i (ah n i):=by
 apply Xz;intro j;rw[jn,eP];unfold fR;by_cases h1:k≤8*i
 ·rw[if_pos h1,Nat.zero_testBit]
  by_cases h:j < 8
  ·have:¬(128 - k≤120 - 8*i+j):=by omega
   simp[this]
  ·simp[h]
 ·rw[if_neg h1]
  by_cases h2:k < 8*i+8
  ·rw[if_pos h2,X3,XQ]
   by_cases h3:8*i+8 - k≤j
   ·rw[show j - (8*i+8 - k)+(8*i+8 - k)=j by omega,jn]
    have:128 - k≤120 - 8*i+j:=by omega
    simp[h3,this]
   ·have:¬(128 - k≤120 - 8*i+j):=by omega
    simp[h3,this]
  ·rw[if_neg h2,jn]
   by_cases h:j < 8
   ·have:128 - k≤120 - 8*i+j:=by omega
    simp[this]
   ·simp[h]
theorem lk{n m:Nat}(hn:n < 2^128)(hm:m < 2^128)(h:∀i,i < 16→ah n i=ah m i):n=m:=by
 apply Xz;intro j;by_cases hj:j < 128
 ·have h1:=h (15 - j / 8) (by omega)
  have h2:(ah n (15 - j / 8)).testBit (j%8)=(ah m (15 - j / 8)).testBit (j%8):=by rw[h1]
  rw[jn,jn]at h2;have e:120 - 8*(15 - j / 8)+j%8=j:=by omega
  have l:j%8 < 8:=by omega
  rw[e]at h2;simpa[l]using h2
 ·rw[XG (Xy hn (XH (by omega) (by omega))),XG (Xy hm (XH (by omega) (by omega)))]
theorem xm(n k:Nat):df n k≤n:=Nat.div_mul_le_self _ _
theorem JI(n:Nat):df n 128=n:=by simp[df]
theorem xl(n a b:Nat):df (df n a) b=df n (min a b):=by apply Xz;intro j;rw[eP,eP,eP,←Bool.and_assoc];congr 1;by_cases h1:128 - a≤j<;>by_cases h2:128 - b≤j<;>simp[h1,h2]<;>omega
def GQ(n m k:Nat):Bool:=decide (n / 2^(128 - k)=m / 2^(128 - k))
theorem EX(n m k:Nat):GQ n m k=decide (df n k=df m k):=by
 unfold GQ df;have hp:0 < 2^(128 - k):=Nat.pos_of_ne_zero (by simp);by_cases h:n / 2^(128 - k)=m / 2^(128 - k)
 ·rw[decide_eq_true h,decide_eq_true (by rw[h])]
 ·rw[decide_eq_false h,decide_eq_false (fun h2=>h (Nat.eq_of_mul_eq_mul_right hp h2))]
theorem EY(n m k:Nat)(hn:n < 2^128)(hm:m < 2^128):GQ n m k=true↔∀j,128 - k≤j→j < 128→n.testBit j=m.testBit j:=by
 rw[EX,decide_eq_true_eq];constructor
 ·intro h j h1 h2
  have h3:(df n k).testBit j=(df m k).testBit j:=by rw[h]
  rw[eP,eP]at h3;simpa[h1]using h3
 ·intro h
  apply Xz;intro j;rw[eP,eP];by_cases h1:128 - k≤j
  ·by_cases h2:j < 128
   ·rw[h j h1 h2]
   ·rw[XG (Xy hn (XH (by omega) (by omega))),XG (Xy hm (XH (by omega) (by omega)))]
  ·simp[h1]
def wid(v:Bool):Nat:=if v then 128 else 32
theorem fG(v:Bool):wid v≤128:=by cases v<;>decide
def jt(v:Bool)(n:Nat):Bool:=decide (df n (wid v)=n)
def gy(v:Bool)(n:Nat)(k:Int):Bool:=decide (0≤k)&&decide (k≤wid v)&&decide (df n k.toNat=n)
section Tree
variable{va vb:Bool}{a b ka kb:Nat}
theorem CM(v:Bool)(n:Nat)(k:Nat)(h:k≤wid v):jt v (df n k)=true:=by unfold jt;rw[decide_eq_true_eq,xl,Ym h]
variable(n k m:Nat)
end Tree
theorem Kn(f:Nat→Nat)(hf:∀i,f i < 256):∃n,n < 2^128∧∀i,i < 16→ah n i=f i:=by
 have key:∀j,j≤16→∃n,n < 2^(8*j)∧∀i,i < j→n / 2^(8*(j - 1 - i))%256=f i:=by
  intro j;induction j with
  |zero=>intro _;exact⟨0,by decide,fun i hi=>by omega⟩
  |succ j ih=>
   intro hj;obtain⟨n,hn,hb⟩:=ih (by omega);refine⟨256*n+f j,?_,fun i hi=>?_⟩
   ·have e:2^(8*(j+1))=256*2^(8*j):=by rw[show 8*(j+1)=8*j+8 by omega,Yw];omega
    have:=hf j;omega
   ·by_cases h:i=j
    ·subst h
     have:=hf i;simp;omega
    ·have h2:=hb i (by omega)
     rw[show 8*(j+1 - 1 - i)=8+8*(j - 1 - i)by omega,Yw,←Nat.div_div_eq_div_mul];rw[show(256*n+f j) / 2^8=n by have:=hf j; omega];exact h2
 obtain⟨n,hn,hb⟩:=key 16 (XI _);refine⟨n,hn,fun i hi=>?_⟩;have:=hb i hi;unfold ah;rw[show 120 - 8*i=8*(16 - 1 - i)by omega];exact this
def sig(d:Nat):UInt8:=UInt8.ofNat (if d < 10 then 48+d else 87+d)
def mq(c:UInt8):Nat:=if c.toNat < 58 then c.toNat - 48 else c.toNat - 87
def aq(b u:Nat):List UInt8:=if _h:u < b∨b < 2 then [sig u] else aq b (u / b)++[sig (u%b)]
termination_by u
decreasing_by exact X0 (by omega) (by omega)
theorem bh{b u:Nat}(h:u < b):aq b u=[sig u]:=by rw[aq,dif_pos (.inl h)]
theorem dQ{b u:Nat}(hb:2≤b)(h:¬u < b):aq b u=aq b (u / b)++[sig (u%b)]:=by rw[aq,dif_neg (by omega)]
theorem DS:∀d:Fin 16,mq (sig d.val)=d.val:=by decide
theorem nY{d:Nat}(h:d < 16):mq (sig d)=d:=DS ⟨d,h⟩
theorem Cm:∀d:Fin 16,(sig d.val).toNat=if d.val < 10 then 48+d.val else 87+d.val:=by decide
theorem fb{d:Nat}(h:d < 16):(sig d).toNat=if d < 10 then 48+d else 87+d:=Cm ⟨d,h⟩
theorem pG(u:Nat):aq 10 u=Lib.decDigits u:=by
 induction u using XZ with
 |_ u ih=>
  by_cases h:u < 10
  ·rw[bh h,Lib.decDigits,dif_pos h];unfold sig;rw[if_pos h]
  ·rw[dQ (by omega) h,Lib.decDigits,dif_neg h,ih (u / 10) (by omega)]; unfold sig; rw[if_pos (by omega)]
theorem iQ{b:Nat}(h2:2≤b):∀(u:Nat) (c:UInt8),c∈aq b u→∃d,d < b∧c=sig d:=by
 intro u;induction u using XZ with
 |_ u ih=>
  intro c hc;by_cases h:u < b
  ·rw[bh h,Ya]at hc;exact⟨u,h,hc⟩
  ·rw[dQ h2 h,Yi,Ya]at hc
   rcases hc with hc|hc
   ·exact ih (u / b) (X0 (by omega) (by omega)) c hc
   ·exact⟨u%b,Yc _ (by omega),hc⟩
theorem jz{b:Nat}(u:Nat):aq b u≠[]:=by rw[aq];split<;>simp
def qB(b:Nat)(l:List UInt8):Nat:=l.foldl (fun a c=>b*a+mq c) 0
theorem tm(b:Nat)(l:List UInt8)(c:UInt8):qB b (l++[c])=b*qB b l+mq c:=by simp[qB]
theorem iD{b:Nat}(h2:2≤b)(h16:b≤16)(u:Nat):qB b (aq b u)=u:=by
 induction u using XZ with
 |_ u ih=>
  by_cases h:u < b
  ·rw[bh h];simp[qB,nY (by omega:u < 16)]
  ·rw[dQ h2 h,tm,ih (u / b) (X0 (by omega) (by omega)),nY (Xy (Yc _ (by omega)) h16)]
   exact Nat.div_add_mod u b
theorem ya{b u v:Nat}(h2:2≤b)(h16:b≤16)(h:aq b u=aq b v):u=v:=by rw[←iD h2 h16 u,h,iD h2 h16]
theorem vt{b:Nat}(hb:1≤b)(l:List UInt8):∀a,a≤l.foldl (fun a c=>b*a+mq c) a:=by
 induction l with
 |nil=>intro a;exact XI _
 |cons c l ih=>intro a;rw[XX];refine X6 ?_ (ih _);have:1*a≤b*a:=XS a hb;omega
theorem BY{b:Nat}(hb:1≤b)(l:List UInt8)(k:Nat):qB b (l.take k)≤qB b l:=by
 have h:qB b l=(l.drop k).foldl (fun a c=>b*a+mq c) (qB b (l.take k)):=by
  conv=>lhs;rw[←XR k l]
  simp only[qB,List.foldl_append]
 rw[h];exact vt hb _ _
theorem BZ{b:Nat}(l:List UInt8)(k:Nat)(c:UInt8)(hc:l[k]?=some c):qB b (l.take (k+1))=b*qB b (l.take k)+mq c:=by rw[List.take_add_one,hc];exact tm b _ c
theorem fk{u:Nat}(h:u < 65536):(aq 16 u).length≤4:=by
 by_cases h1:u < 16
 ·rw[bh h1];simp
 ·rw[dQ (by omega) h1]
  by_cases h2:u / 16 < 16
  ·rw[bh h2];simp
  ·rw[dQ (by omega) h2]
   by_cases h3:u / 16 / 16 < 16
   ·rw[bh h3];simp
   ·rw[dQ (by omega) h3,bh (by omega)];simp
theorem gh{u:Nat}(h:u < 1000):(aq 10 u).length≤3:=by
 by_cases h1:u < 10
 ·rw[bh h1];simp
 ·rw[dQ (by omega) h1]
  by_cases h2:u / 10 < 10
  ·rw[bh h2];simp
  ·rw[dQ (by omega) h2,bh (by omega)];simp
def Ss(c:UInt8):Prop:=c.toNat < 48∨c.toNat=58
theorem jl{b u:Nat}(h2:2≤b)(h16:b≤16){c:UInt8}(hc:Ss c):c∉aq b u:=by intro h;obtain⟨d,hd,rfl⟩:=iQ h2 u c h;unfold Ss at hc;rw[fb (by omega)]at hc;split at hc<;>omega
def ay(c:UInt8):List (List UInt8)→List UInt8
 | []=>[]
 | [x]=>x
 |x::y::r=>x++c::ay c (y::r)
theorem pw(c:UInt8):∀xs,Lib.join xs [c]=ay c xs
 | []=>rfl
 | [x]=>Lib.join_one x [c]
 |x::y::r=>by rw[ay,←pw c (y::r),Lib.join_cons,Lib.join_cons];simp[Lib.joinTail]
def bH(c:UInt8):List UInt8→List (List UInt8)
 | []=>[[]]
 |x::l=>if x=c then []::bH c l else
  match bH c l with
  | []=>[[x]]
  |p::ps=>(x::p)::ps
theorem ts(c:UInt8)(l:List UInt8):bH c l≠[]:=by
 cases l with
 |nil=>simp[bH]
 |cons x l=>
  unfold bH;split
  ·simp
  ·split<;>simp
theorem lB(c:UInt8):∀l,c∉l→bH c l=[l]
 | [],_=>rfl
 |x::l,h=>by simp at h;unfold bH;rw[if_neg (fun e=>h.1 e.symm),lB c l h.2]
theorem kJ(c:UInt8):∀(l m:List UInt8),c∉l→bH c (l++c::m)=l::bH c m
 | [],m,_=>by rw[Yh,bH,if_pos rfl]
 |x::l,m,h=>by simp at h;rw[XV,bH,if_neg (fun e=>h.1 e.symm),kJ c l m h.2]
theorem uI(c:UInt8):∀l,ay c (bH c l)=l
 | []=>rfl
 |x::l=>by
  have ih:=uI c l;unfold bH;split
  ·rename_i h
   subst h;obtain⟨p,ps,hp⟩:=XJ (ts x l);rw[hp]at ih ⊢;rw[ay,ih];rfl
  ·split
   ·rename_i h;exact absurd h (ts c l)
   ·rename_i p ps hp
    rw[hp]at ih;cases ps with
    |nil=>simp only[ay]at ih ⊢;rw[ih]
    |cons q qs=>simp only[ay]at ih ⊢;rw[←ih];rfl
theorem oG(c:UInt8):∀xs:List (List UInt8),xs≠[]→(∀x∈xs,c∉x)→bH c (ay c xs)=xs
 | [x],_,h=>lB c x (h x (by simp))
 |x::y::r,_,h=>by rw[ay,kJ c x _ (h x (by simp)),oG c (y::r) (by simp) (fun z hz=>h z (by simp at hz ⊢;exact .inr hz))]
theorem Ci(c:UInt8)(l:List UInt8)(k:Nat)(h:c∉l):Lib.splitK [c] 0 k l=[l]:=by
 cases k with
 |zero=>rfl
 |succ k=>
  unfold Lib.splitK;have:Lib.index l [c] = -1:=by
   rcases Lib.index_spec l [c]with⟨h1,_⟩ | ⟨i,_,_,h3,_⟩
   ·exact h1
   ·exfalso
    unfold Lib.occAt at h3;rw[XC]at h3;obtain⟨t,ht⟩:=h3;exact h (X7 (i:=i) (by rw[←ht];simp))
  rw[this];rfl
theorem rH(c:UInt8)(l m:List UInt8)(h:c∉l):Lib.index (l++c::m) [c]=l.length:=by
 refine Lib.index_first (by simp) (by simp[Lib.occAt]) fun j hj=>?_;rw[←XW];intro h3;unfold Lib.occAt at h3;rw[XC]at h3;obtain⟨t,ht⟩:=h3;rw[XU (by omega)]at ht;cases hd:l.drop j with
 |nil=>rw[List.drop_eq_nil_iff]at hd;omega
 |cons y ys=>rw[hd]at ht;simp at ht;exact h (X7 (i:=j) (by rw[hd,ht.1];simp))
theorem xP(c:UInt8):∀l:List UInt8,c∈l→∃a b,l=a++c::b∧c∉a
 |x::l,h=>by
  by_cases hx:x=c
  ·subst hx;exact⟨[],l,rfl,by simp⟩
  ·simp only[X1]at h
   rcases h with h|h
   ·exact absurd h.symm hx
   ·obtain⟨a,b,rfl,ha⟩:=xP c l h
    exact⟨x::a,b,rfl,by simp[ha];exact fun e=>hx e.symm⟩
theorem vM:∀(n:Nat) (c:UInt8) (l:List UInt8),l.length≤n→Lib.split l [c]=bH c l
 | 0,c,l,h=>by have:l=[]:=XB (by omega);subst this;rfl
 |n+1,c,l,h=>by
  by_cases hc:c∈l
  ·obtain⟨a,b,rfl,ha⟩:=xP c l hc
   rw[kJ c a b ha];have h1:=rH c a b ha;have h2:Lib.count (a++c::b) [c]=1+Lib.count b [c]:=by rw[Lib.count_hit (by simp) h1];congr 2;rw[show a++c::b=(a++[c])++b by simp];exact XY (by simp)
   unfold Lib.split;rw[h2,Yv,Lib.splitK,h1];have h3:((a.length:Int) == -1)=false:=by rw[beq_eq_false_iff_ne]; omega
   rw[h3];simp only[Bool.false_eq_true,if_false,XO,Nat.add_zero];rw[Yg rfl,show a++c::b=(a++[c])++b by simp,XY (by simp)];congr 1;exact vM n c b (by simp at h;omega)
  ·rw[lB c l hc]
   exact Ci c l _ hc
def eE(n i:Nat):Nat:=ah n (2*i)*256+ah n (2*i+1)
def aP(n:Nat):List Nat:=[eE n 0,eE n 1,eE n 2,eE n 3,eE n 4,eE n 5,eE n 6,eE n 7]
theorem xF(n i:Nat):eE n i < 65536:=by have h1:=ba n (2*i);have h2:=ba n (2*i+1);unfold eE;omega
def iU:List Bool→Nat
 |true::l=>iU l+1
 |_=>0
theorem AA:∀l,iU l≤l.length
 | []=>XI _
 |true::l=>by have:=AA l;simp[iU];exact this
 |false::l=>by simp[iU]
def JZ(z:List Bool):Nat→Nat→Nat→Nat→Nat×Nat
 | 0,_,f,t=>(f,t)
 |u+1,i,f,t=>if i < 8 then
   (if i+iU (z.drop i) - i > max (t - f) 1 then JZ z u (max i (i+iU (z.drop i) - 1)+1) i (i+iU (z.drop i))else JZ z u (max i (i+iU (z.drop i) - 1)+1) f t)
  else(f,t)
def fK(z:List Bool):Nat×Nat:=JZ z 8 0 0 0
def I0(z:List Bool):Nat→Nat→Nat→Nat→Nat×Nat
 | 0,_,a,l=>(a,l)
 |u+1,i,a,l=>if iU (z.drop i) > l then I0 z u (i+1) i (iU (z.drop i))else I0 z u (i+1) a l
def jQ(z:List Bool):Nat×Nat:=I0 z 8 0 0 0
theorem Bn:∀z0 z1 z2 z3 z4 z5 z6 z7:Bool,
  fK [z0,z1,z2,z3,z4,z5,z6,z7]=(if 1 < (jQ [z0,z1,z2,z3,z4,z5,z6,z7]).2 then((jQ [z0,z1,z2,z3,z4,z5,z6,z7]).1,(jQ [z0,z1,z2,z3,z4,z5,z6,z7]).1+(jQ [z0,z1,z2,z3,z4,z5,z6,z7]).2)else(0,0))∧
  (jQ [z0,z1,z2,z3,z4,z5,z6,z7]).1+(jQ [z0,z1,z2,z3,z4,z5,z6,z7]).2≤8∧
  ((([z0,z1,z2,z3,z4,z5,z6,z7].take (fK [z0,z1,z2,z3,z4,z5,z6,z7]).2).drop (fK [z0,z1,z2,z3,z4,z5,z6,z7]).1).all id)=true:=by decide+kernel
def zs(l:List Nat):List Bool:=l.map (·==0)
def aU(l:List Nat):List UInt8:=ay 58 (l.map (aq 16))
def cK(l:List Nat):List UInt8:=
 if(fK (zs l)).1=(fK (zs l)).2 then aU l else aU (l.take (fK (zs l)).1)++(58::58::aU (l.drop (fK (zs l)).2))
def fq(n:Nat):List UInt8:=ay 46 [aq 10 (ah n 0),aq 10 (ah n 1),aq 10 (ah n 2),aq 10 (ah n 3)]
def eL(v:Bool)(n:Nat):List UInt8:=if v then cK (aP n)else fq n
def eK(a k i:Nat)(d:List UInt8):List UInt8:=
 (if 1 < k∧i=a then [58,58] else [])++(if 1 < k∧a≤i∧i < a+k then [] else(if 0 < i∧¬(1 < k∧i=a+k)then [58] else [])++d)
def dr(a k:Nat):List Nat→Nat→List UInt8
 | [],_=>[]
 |x::l,i=>eK a k i (aq 16 x)++dr a k l (i+1)
theorem EK(x0 x1 x2 x3 x4 x5 x6 x7:Nat):∀(a k:Nat),1 < k→a+k≤8→dr a k [x0,x1,x2,x3,x4,x5,x6,x7] 0=aU ([x0,x1,x2,x3,x4,x5,x6,x7].take a)++(58::58::aU ([x0,x1,x2,x3,x4,x5,x6,x7].drop (a+k)))
 | 0,2,_,_=>by simp[dr,eK,aU,ay]
 | 0,3,_,_=>by simp[dr,eK,aU,ay]
 | 0,4,_,_=>by simp[dr,eK,aU,ay]
 | 0,5,_,_=>by simp[dr,eK,aU,ay]
 | 0,6,_,_=>by simp[dr,eK,aU,ay]
 | 0,7,_,_=>by simp[dr,eK,aU,ay]
 | 0,8,_,_=>by simp[dr,eK,aU,ay]
 | 1,2,_,_=>by simp[dr,eK,aU,ay]
 | 1,3,_,_=>by simp[dr,eK,aU,ay]
 | 1,4,_,_=>by simp[dr,eK,aU,ay]
 | 1,5,_,_=>by simp[dr,eK,aU,ay]
 | 1,6,_,_=>by simp[dr,eK,aU,ay]
 | 1,7,_,_=>by simp[dr,eK,aU,ay]
 | 2,2,_,_=>by simp[dr,eK,aU,ay]
 | 2,3,_,_=>by simp[dr,eK,aU,ay]
 | 2,4,_,_=>by simp[dr,eK,aU,ay]
 | 2,5,_,_=>by simp[dr,eK,aU,ay]
 | 2,6,_,_=>by simp[dr,eK,aU,ay]
 | 3,2,_,_=>by simp[dr,eK,aU,ay]
 | 3,3,_,_=>by simp[dr,eK,aU,ay]
 | 3,4,_,_=>by simp[dr,eK,aU,ay]
 | 3,5,_,_=>by simp[dr,eK,aU,ay]
 | 4,2,_,_=>by simp[dr,eK,aU,ay]
 | 4,3,_,_=>by simp[dr,eK,aU,ay]
 | 4,4,_,_=>by simp[dr,eK,aU,ay]
 | 5,2,_,_=>by simp[dr,eK,aU,ay]
 | 5,3,_,_=>by simp[dr,eK,aU,ay]
 | 6,2,_,_=>by simp[dr,eK,aU,ay]
 | 0,k+9,_,h=>by omega
 | 0,0,h,_=>by omega
 | 0,1,h,_=>by omega
 | 1,0,h,_=>by omega
 | 1,1,h,_=>by omega
 | 1,k+8,_,h=>by omega
 | 2,0,h,_=>by omega
 | 2,1,h,_=>by omega
 | 2,k+7,_,h=>by omega
 | 3,0,h,_=>by omega
 | 3,1,h,_=>by omega
 | 3,k+6,_,h=>by omega
 | 4,0,h,_=>by omega
 | 4,1,h,_=>by omega
 | 4,k+5,_,h=>by omega
 | 5,0,h,_=>by omega
 | 5,1,h,_=>by omega
 | 5,k+4,_,h=>by omega
 | 6,0,h,_=>by omega
 | 6,1,h,_=>by omega
 | 6,k+3,_,h=>by omega
 |a+7,k,h1,h2=>by omega
theorem EL(x0 x1 x2 x3 x4 x5 x6 x7:Nat)(a k:Nat)(h:¬1 < k):dr a k [x0,x1,x2,x3,x4,x5,x6,x7] 0=aU [x0,x1,x2,x3,x4,x5,x6,x7]:=by simp[dr,eK,aU,ay,h]
theorem K6(x0 x1 x2 x3 x4 x5 x6 x7:Nat):dr (jQ (zs [x0,x1,x2,x3,x4,x5,x6,x7])).1 (jQ (zs [x0,x1,x2,x3,x4,x5,x6,x7])).2 [x0,x1,x2,x3,x4,x5,x6,x7] 0=cK [x0,x1,x2,x3,x4,x5,x6,x7]:=by
 obtain⟨h1,h2,_⟩:=Bn (x0==0) (x1==0) (x2==0) (x3==0) (x4==0) (x5==0) (x6==0) (x7==0);have hz:zs [x0,x1,x2,x3,x4,x5,x6,x7]=[x0==0,x1==0,x2==0,x3==0,x4==0,x5==0,x6==0,x7==0]:=rfl;unfold cK;rw[hz,h1];by_cases h:1 < (jQ [x0==0,x1==0,x2==0,x3==0,x4==0,x5==0,x6==0,x7==0]).2
 ·rw[if_pos h,EK _ _ _ _ _ _ _ _ _ _ h h2,if_neg (by simp only;omega)]
 ·rw[if_neg h,EL _ _ _ _ _ _ _ _ _ _ h];rfl
theorem EM(n:Nat):dr (jQ (zs (aP n))).1 (jQ (zs (aP n))).2 (aP n) 0=cK (aP n):=K6 _ _ _ _ _ _ _ _
theorem F5(u:Nat):(58:UInt8)∉aq 16 u:=jl (by omega) (by omega) (.inr (by decide))
theorem F4(u:Nat):(46:UInt8)∉aq 10 u:=jl (by omega) (by omega) (.inl (by decide))
theorem BC(u:Nat):(58:UInt8)∉aq 10 u:=jl (by omega) (by omega) (.inr (by decide))
def NP(l:List UInt8):Prop:=∀j:Nat,l[j]?=some 58→∃c,l[j+1]?=some c∧c≠58
theorem uJ(xs:List (List UInt8))(hn:xs≠[])(h:∀x∈xs,x≠[]∧(58:UInt8)∉x):∃c,(ay 58 xs)[0]?=some c∧c≠58:=by
 obtain⟨x,r,rfl⟩:=XJ hn;obtain⟨h1,h2⟩:=h x (by simp);obtain⟨c,l,rfl⟩:=XJ h1;refine⟨c,?_,fun e=>h2 (by simp[e])⟩;cases r with
 |nil=>simp[ay]
 |cons y r=>simp[ay]
theorem Dv:∀xs:List (List UInt8),(∀x∈xs,x≠[]∧(58:UInt8)∉x)→NP (ay 58 xs)
 | [],_=>by intro j hj;simp[ay]at hj
 | [x],h=>by intro j hj;exact absurd (X8 hj) (h x (by simp)).2
 |x::y::r,h=>by
  intro j hj;rw[ay]at hj ⊢;have hr:∀z∈y::r,z≠[]∧(58:UInt8)∉z:=fun z hz=>h z (by simp at hz ⊢;exact .inr hz);by_cases h1:j < x.length
  ·rw[XM h1]at hj
   exact absurd (X8 hj) (h x (by simp)).2
  ·rw[XD (by omega)]at hj
   rw[XD (by omega)];by_cases h2:j=x.length
   ·rw[show j+1 - x.length=1 by omega]
    exact uJ (y::r) (by simp) hr
   ·obtain⟨i,hi⟩:∃i,j - x.length=i+1:=⟨j - x.length - 1,by omega⟩
    rw[hi,X2]at hj;rw[show j+1 - x.length=i+1+1 by omega,X2];exact Dv (y::r) hr i hj
theorem wW(s:List UInt8)(j:Nat):Lib.occAt s [58,58] j=true↔s[j]?=some 58∧s[j+1]?=some 58:=by
 unfold Lib.occAt;rw[XC];constructor
 ·rintro⟨t,ht⟩
  have h0:(s.drop j)[0]?=some 58:=by rw[←ht];rfl
  have h1:(s.drop j)[1]?=some 58:=by rw[←ht];rfl
  rw[XL]at h0 h1;exact⟨h0,h1⟩
 ·rintro⟨h0,h1⟩
  refine⟨s.drop (j+2),?_⟩;have e0:=(XE.1 h0);have e1:=(XE.1 h1);obtain⟨l0,e0⟩:=e0;obtain⟨l1,e1⟩:=e1;rw[XN l0,e0,XN l1,e1];rfl
theorem FP(l m:List UInt8)(h:NP l):Lib.index (l++58::58::m) [58,58]=l.length:=by
 refine Lib.index_first (by simp) ((wW _ _).2 ?_) fun j hj=>?_
 ·rw[XD (by omega),XD (by omega)]
  rw[show l.length - l.length=0 by omega,show l.length+1 - l.length=1 by omega];exact⟨rfl,rfl⟩
 ·rw[←XW,wW]
  rintro⟨h0,h1⟩;rw[XM hj]at h0;obtain⟨c,hc,hn⟩:=h j h0;have:j+1 < l.length:=(XE.1 hc).1;rw[XM this,hc]at h1;exact hn (by simpa using h1)
theorem Bj(l:List UInt8)(h:NP l):Lib.index l [58,58] = -1:=by refine Lib.index_none fun j _=>?_;rw[←XW,wW];rintro⟨h0,h1⟩;obtain⟨c,hc,hn⟩:=h j h0;rw[hc]at h1;exact hn (by simpa using h1)
theorem wN(l:List Nat):∀x∈l.map (aq 16),x≠[]∧(58:UInt8)∉x:=by intro x hx;rw[Yr]at hx;obtain⟨u,_,rfl⟩:=hx;exact⟨jz u,F5 u⟩
theorem Du(l:List Nat):NP (aU l):=Dv _ (wN l)
theorem Dt(l:List Nat)(h:l≠[]):bH 58 (aU l)=l.map (aq 16):=oG 58 _ (by simpa using h) fun x hx=>(wN l x hx).2
theorem tS(l:List Nat):aU l=[]↔l=[]:=by
 constructor
 ·intro h
  by_cases hl:l=[]
  ·exact hl
  ·obtain⟨c,hc,_⟩:=uJ (l.map (aq 16)) (by simpa using hl) (wN l)
   unfold aU at h;rw[h]at hc;simp at hc
 ·intro h;subst h;rfl
theorem Af(l:List Nat):Lib.cut (cK l) [58,58]=if(fK (zs l)).1=(fK (zs l)).2 then(aU l,[],false)else(aU (l.take (fK (zs l)).1),aU (l.drop (fK (zs l)).2),true):=by
 unfold cK;by_cases h:(fK (zs l)).1=(fK (zs l)).2
 ·rw[if_pos h,if_pos h]
  unfold Lib.cut;rw[Bj _ (Du l)];rfl
 ·rw[if_neg h,if_neg h]
  unfold Lib.cut;rw[FP _ _ (Du _),if_pos (by omega)];simp only[XO];rw[Yg rfl];congr 2;rw[show ∀a b:List UInt8,a++58::58::b=(a++[58,58])++b by simp];exact XY (by simp)
theorem JG(c:UInt8)(x y:List UInt8)(r:List (List UInt8)):c∈ay c (x::y::r):=by simp[ay]
theorem DZ(x0 x1 x2 x3 x4 x5 x6 x7:Nat):(58:UInt8)∈cK [x0,x1,x2,x3,x4,x5,x6,x7]:=by
 unfold cK;split
 ·exact JG _ _ _ _
 ·simp
theorem yf(n:Nat):(58:UInt8)∈cK (aP n):=DZ _ _ _ _ _ _ _ _
theorem gw{c d:UInt8}:∀{xs:List (List UInt8)},d∈ay c xs→d=c∨∃x∈xs,d∈x
 | [],h=>by simp[ay]at h
 | [x],h=>.inr ⟨x,by simp,h⟩
 |x::y::r,h=>by
  rw[ay,Yi,X1]at h;rcases h with h|h|h
  ·exact .inr ⟨x,by simp,h⟩
  ·exact .inl h
  ·rcases gw h with h|⟨z,hz,h⟩
   ·exact .inl h
   ·exact .inr ⟨z,by simp at hz ⊢;exact .inr hz,h⟩
theorem D0(n:Nat):(58:UInt8)∉fq n:=by
 intro h;rcases gw h with h|⟨x,hx,h⟩
 ·exact absurd h (by decide)
 ·simp at hx
  rcases hx with rfl|rfl|rfl|rfl<;>exact BC _ h
theorem Ch(n:Nat):bH 46 (fq n)=[aq 10 (ah n 0),aq 10 (ah n 1),aq 10 (ah n 2),aq 10 (ah n 3)]:=by refine oG 46 _ (by simp) fun x hx=>?_;simp at hx;rcases hx with rfl|rfl|rfl|rfl<;>exact F4 _
theorem Hh(s:List UInt8)(c:UInt8)(j:Nat):Lib.occAt s [c] j=true↔s[j]?=some c:=by
 unfold Lib.occAt;rw[XC];constructor
 ·rintro⟨t,ht⟩
  have h0:(s.drop j)[0]?=some c:=by rw[←ht];rfl
  rwa [XL]at h0
 ·intro h0
  obtain⟨l0,e0⟩:=XE.1 h0;exact⟨s.drop (j+1),by rw[XN l0,e0];rfl⟩
theorem xS(l:List Nat)(hl:l.length=8):(fK (zs l)).1≤(fK (zs l)).2∧(fK (zs l)).2≤8∧l.take (fK (zs l)).1++Yn (8 - (l.take (fK (zs l)).1).length - (l.drop (fK (zs l)).2).length) 0++l.drop (fK (zs l)).2=l:=by
 obtain⟨x0,x1,x2,x3,x4,x5,x6,x7,rfl⟩:∃x0 x1 x2 x3 x4 x5 x6 x7,l=[x0,x1,x2,x3,x4,x5,x6,x7]:=by
  match l,hl with
  | [x0,x1,x2,x3,x4,x5,x6,x7],_=>exact⟨_,_,_,_,_,_,_,_,rfl⟩
 obtain⟨h1,h2,h3⟩:=Bn (x0==0) (x1==0) (x2==0) (x3==0) (x4==0) (x5==0) (x6==0) (x7==0);have hz:zs [x0,x1,x2,x3,x4,x5,x6,x7]=[x0==0,x1==0,x2==0,x3==0,x4==0,x5==0,x6==0,x7==0]:=rfl;rw[←hz]at h1 h2 h3;generalize hG:fK (zs [x0,x1,x2,x3,x4,x5,x6,x7])=G at*;obtain⟨f,t⟩:=G;have hft:f≤t∧t≤8:=by split at h1<;>simp only[Prod.mk.injEq]at h1<;>omega
 refine⟨hft.1,hft.2,?_⟩;simp only at h3 ⊢;have hmid:([x0,x1,x2,x3,x4,x5,x6,x7].take t).drop f=Yn (t - f) 0:=by
  apply List.eq_replicate_iff.2;refine⟨by simp;omega,fun b hb=>?_⟩;have h4:(b==0)=true:=by rw[List.all_eq_true]at h3;refine h3 (b==0) ?_;unfold zs;rw[←List.map_take,←List.map_drop];exact Yr.2 ⟨b,hb,rfl⟩
  simpa using h4
 have e:[x0,x1,x2,x3,x4,x5,x6,x7]=([x0,x1,x2,x3,x4,x5,x6,x7].take t).take f++([x0,x1,x2,x3,x4,x5,x6,x7].take t).drop f++[x0,x1,x2,x3,x4,x5,x6,x7].drop t:=by rw[XR,XR]
 conv=>rhs;rw[e]
 rw[hmid,List.take_take,Ym hft.1];congr 3;simp;omega
def dW(f:Nat→Nat)(k n:Nat):Nat→Nat:=fun j=>if j=k then n else f j
def dV:List UInt8→Nat→Nat→Bool→(Nat→Nat)→(Nat→Nat)×Bool
 | [],k,n,b,f=>if b=false∨255 < n∨3 < k then(f,false)else(dW f k n,decide (k+1=4))
 |c::l,k,n,b,f=>
  if c=46 then(if b=false∨255 < n∨3 < k then(f,false)else dV l (k+1) 0 false (dW f k n))
  else if c.toNat < 48∨57 < c.toNat∨255 < n then(f,false)else dV l k (10*n+(c.toNat - 48)) true f
theorem zU(r:List UInt8)(k:Nat)(f:Nat→Nat):∀(l:List UInt8) (n:Nat) (b:Bool),(∀c∈l,∃d,d < 10∧c=sig d)→l.foldl (fun a c=>10*a+mq c) n≤255→
  dV (l++r) k n b f=dV r k (l.foldl (fun a c=>10*a+mq c) n) (b||!l.isEmpty) f
 | [],n,b,_,_=>by simp
 |c::l,n,b,h,hn=>by
  obtain⟨d,hd,rfl⟩:=h c (by simp);have hs:=fb (d:=d) (by omega);rw[if_pos hd]at hs;have e46:sig d≠46:=fun e=>by rw[e]at hs;have:(46:UInt8).toNat=46:=(by decide);omega
  rw[XX]at hn;have h1:=vt (b:=10) (by omega) l (10*n+mq (sig d));rw[XV,dV,if_neg e46,if_neg (by omega)];have hd2:(sig d).toNat - 48=mq (sig d):=by rw[nY (by omega)]; omega
  rw[hd2,zU r k f l _ true (fun c hc=>h c (by simp[hc])) hn];simp
theorem sP(r:List UInt8)(k:Nat)(f:Nat→Nat)(u:Nat)(hu:u≤255):dV (aq 10 u++r) k 0 false f=dV r k u true f:=by
 have hv:(aq 10 u).foldl (fun a c=>10*a+mq c) 0=u:=iD (b:=10) (by omega) (by omega) u;rw[zU r k f (aq 10 u) 0 false (iQ (by omega) u) (by rw[hv];exact hu),hv];cases h:aq 10 u with
 |nil=>exact absurd h (jz u)
 |cons c l=>rfl
def Nq(n:Nat):Nat→Nat:=dW (dW (dW (dW (fun _=>0) 0 (ah n 0)) 1 (ah n 1)) 2 (ah n 2)) 3 (ah n 3)
theorem J0(n:Nat):dV (fq n) 0 0 false (fun _=>0)=(Nq n,true):=by
 have hb:∀i,ah n i≤255:=fun i=>by have:=ba n i;omega
 have hp:∀(l:List UInt8) (k u:Nat) (f:Nat→Nat),u≤255→k≤3→dV (46::l) k u true f=dV l (k+1) 0 false (dW f k u):=by intro l k u f h1 h2;rw[dV,if_pos rfl,if_neg (by simp;omega)]
 unfold fq;simp only[ay];rw[sP _ _ _ _ (hb 0),hp _ _ _ _ (hb 0) (by omega),sP _ _ _ _ (hb 1),hp _ _ _ _ (hb 1) (by omega),sP _ _ _ _ (hb 2),hp _ _ _ _ (hb 2) (by omega),
  ←Yk (aq 10 (ah n 3)),sP _ _ _ _ (hb 3)]
 rw[dV,if_neg (by have:=hb 3;simp;omega)];rfl
theorem rJ:∀(l:List UInt8) (k n:Nat) (b:Bool) (f:Nat→Nat),(58:UInt8)∈l→(dV l k n b f).2=false
 |c::l,k,n,b,f,h=>by
  unfold dV;have h58:(58:UInt8).toNat=58:=by decide
  split
  ·rename_i hc
   split
   ·rfl
   ·refine rJ l _ _ _ _ ?_
    rw[hc]at h;simpa using h
  ·split
   ·rfl
   ·rename_i h1 h2
    refine rJ l _ _ _ _ ?_;rw[X1]at h;rcases h with h|h
    ·subst h;omega
    ·exact h
def gJ(c:UInt8):Int:=if 48≤c.toNat∧c.toNat≤57 then(c.toNat:Int) - 48 else if 97≤c.toNat∧c.toNat≤102 then(c.toNat:Int) - 97+10 else -1
theorem Dx{d:Nat}(h:d < 16):gJ (sig d)=d:=by
 have:=fb h;unfold gJ;by_cases h1:d < 10
 ·rw[if_pos h1]at this;rw[if_pos (by omega)];omega
 ·rw[if_neg h1]at this;rw[if_neg (by omega),if_pos (by omega)];omega
def ow:List UInt8→Nat→Nat→List Nat→Option (List Nat)
 | [],n,m,out=>if m=0∨4 < m∨out.length=8 then none else some (out++[n])
 |c::l,n,m,out=>
  if c=58 then(if m=0∨4 < m∨out.length=8 then none else ow l 0 0 (out++[n]))
  else if gJ c < 0∨4 < m then none else ow l (16*n+(gJ c).toNat) (m+1) out
theorem zC(r:List UInt8)(out:List Nat):∀(l:List UInt8) (n m:Nat),(∀c∈l,∃d,d < 16∧c=sig d)→m+l.length≤4→
  ow (l++r) n m out=ow r (l.foldl (fun a c=>16*a+mq c) n) (m+l.length) out
 | [],n,m,_,_=>by simp
 |c::l,n,m,h,hm=>by
  obtain⟨d,hd,rfl⟩:=h c (by simp);have h58:sig d≠58:=fun e=>by
   have h1:=Dx hd;rw[e]at h1;have:gJ 58 = -1:=by decide
   omega
  rw[Ye]at hm;rw[XV,ow,if_neg h58,Dx hd,if_neg (by omega),zC r out l _ _ (fun c hc=>h c (by simp[hc])) (by omega),XX,nY hd,Ye];rw[show m+1+l.length=m+(l.length+1)by omega];rfl
theorem CQ(r:List UInt8)(out:List Nat)(u:Nat)(hu:u < 65536):∃m,0 < m∧m≤4∧ow (aq 16 u++r) 0 0 out=ow r u m out:=by
 have hv:(aq 16 u).foldl (fun a c=>16*a+mq c) 0=u:=iD (b:=16) (by omega) (by omega) u;refine⟨(aq 16 u).length,?_,fk hu,?_⟩
 ·exact List.length_pos_iff.2 (jz u)
 ·rw[zC r out (aq 16 u) 0 0 (iQ (by omega) u) (by have:=fk hu;omega),hv,Yu]
theorem zB:∀(l out:List Nat),l≠[]→(∀u∈l,u < 65536)→out.length+l.length≤8→ow (aU l) 0 0 out=some (out++l)
 | [u],out,_,h,hl=>by obtain⟨m,h1,h2,h3⟩:=CQ [] out u (h u (by simp));rw[Yk]at h3;unfold aU;simp only[Yp,Ys,ay];rw[h3,ow,if_neg (by simp at hl;omega)]
 |u::v::l,out,_,h,hl=>by obtain⟨m,h1,h2,h3⟩:=CQ (58::aU (v::l)) out u (h u (by simp));have e:aU (u::v::l)=aq 16 u++58::aU (v::l):=rfl;rw[e,h3,ow,if_pos rfl,if_neg (by simp at hl;omega),zB (v::l) (out++[u]) (by simp) (fun x hx=>h x (by simp at hx ⊢;exact .inr hx)) (by simp at hl ⊢;omega)];simp
def ja(s:List UInt8):Option (List Nat):=if s=[] then some [] else ow s 0 0 []
theorem rm(l:List Nat)(h:∀u∈l,u < 65536)(hl:l.length≤8):ja (aU l)=some l:=by
 unfold ja;by_cases h0:l=[]
 ·rw[if_pos ((tS l).2 h0),h0]
 ·rw[if_neg (fun e=>h0 ((tS l).1 e)),zB l [] h0 h (by simpa using hl)]
  simp
structure PX where
 v:Bool
 n:Nat
 k:Nat
 ok:gy v n k=true
 lt:n < 2^128
theorem PX.ext'{x y:PX}(h1:x.v=y.v)(h2:x.n=y.n)(h3:x.k=y.k):x=y:=by cases x;cases y;simp only at h1 h2 h3;subst h1 h2 h3;rfl
instance:Inhabited PX:=⟨⟨false,0,0,by decide,by decide⟩⟩
instance:DecidableEq PX:=fun x y=>decidable_of_iff (x.v=y.v∧x.n=y.n∧x.k=y.k) ⟨fun h=>PX.ext' h.1 h.2.1 h.2.2,fun h=>by subst h;exact⟨rfl,rfl,rfl⟩⟩
theorem PX.mask(x:PX):df x.n x.k=x.n:=by have h:=x.ok;unfold gy at h;simp only[Yf,decide_eq_true_eq,XO]at h;exact h.2
theorem PX.WE(x:PX):x.k≤wid x.v:=by have h:=x.ok;unfold gy at h;simp only[Yf,decide_eq_true_eq]at h;omega
theorem PX.jt(x:PX):jt x.v x.n=true:=by have:=CM x.v x.n x.k x.WE;rwa [x.mask]at this
def PX.len(x:PX):Nat:=2^(128 - x.k)
def Xr(v:Bool):Nat:=if v then 2^128 else 0
def PX.lo(x:PX):Nat:=Xr x.v+x.n
def PX.hi(x:PX):Nat:=x.lo+x.len
def nh(n i:Nat):Bool:=n.testBit (127 - i)
theorem Ec(n i:Nat)(hi:i < 128):decide (ah n (i / 8) / 2^(7 - i%8)%2=1)=nh n i:=by
 have h:(ah n (i / 8)).testBit (7 - i%8)=nh n i:=by rw[jn,decide_eq_true (by omega),XP];unfold nh;congr 1;omega
 rw[←h,Nat.testBit_eq_decide_div_mod_eq]
theorem Jw(v:Bool)(n:Nat)(hn:n < 2^128):jt v n=true↔∀i,wid v / 8≤i→i < 16→ah n i=0:=by
 have hw:=fG v;have hd:wid v=8*(wid v / 8):=by cases v<;>rfl
 unfold jt;rw[decide_eq_true_eq];constructor
 ·intro h i h1 h2
  have:=mS n (wid v) i h2 hw;rw[h]at this;rw[this];unfold fR;rw[if_pos (by omega)]
 ·intro h
  refine lk (Nat.lt_of_le_of_lt (xm _ _) hn) hn fun i hi=>?_;rw[mS n (wid v) i hi hw];unfold fR;by_cases h1:wid v≤8*i
  ·rw[if_pos h1,h i (by omega) hi]
  ·rw[if_neg h1,if_neg (by omega)]
theorem qo(n k:Nat):df n k=n↔∀j,j < 128 - k→n.testBit j=false:=by
 constructor
 ·intro h j hj
  have:=eP n k j;rw[h,decide_eq_false (by omega),Yo]at this;exact this
 ·intro h
  apply Xz;intro j;rw[eP];by_cases hj:128 - k≤j
  ·rw[decide_eq_true hj,XP]
  ·rw[decide_eq_false hj,Yo,h j (by omega)]
theorem Jt(v:Bool)(n k:Nat)(hA:jt v n=true)(hk:k≤wid v):gy v n k=true↔∀i,k≤i→i < wid v→nh n i=false:=by
 have hw:=fG v;unfold gy;rw[decide_eq_true (by omega),decide_eq_true (by omega),XP,XP,decide_eq_true_eq,XO,qo];unfold jt at hA;rw[decide_eq_true_eq,qo]at hA;constructor
 ·intro h i h1 h2
  exact h (127 - i) (by omega)
 ·intro h j hj
  by_cases hj2:j < 128 - wid v
  ·exact hA j hj2
  ·have:=h (127 - j) (by omega) (by omega)
   unfold nh at this;rwa [show 127 - (127 - j)=j by omega]at this
def TN(n i:Nat):Nat:=n ^^^ (if nh n i then 2^(127 - i)else 0)
theorem NM(n i j:Nat):(TN n i).testBit j=(n.testBit j&&!decide (j=127 - i)):=by
 unfold TN nh;rw[Nat.testBit_xor];by_cases h:j=127 - i
 ·subst h
  cases hb:n.testBit (127 - i)<;>simp[Nat.testBit_two_pow_self]
 ·rw[decide_eq_false h]
  split
  ·rw[Nat.testBit_two_pow_of_ne (fun e=>h e.symm)];simp
  ·simp
def Cut(n k m x:Nat):Prop:=∀j,x.testBit j=(n.testBit j&&!(decide (128 - m≤j)&&decide (j < 128 - k)))
theorem Cut.start(n k:Nat):Cut n k k n:=fun j=>by
 by_cases h:128 - k≤j
 ·rw[decide_eq_false (p:=j < 128 - k) (by omega)]; simp
 ·rw[decide_eq_false h];simp
theorem Cut.step{n k m x:Nat}(h:Cut n k m x)(hk:k≤m)(hm:m < 128):Cut n k (m+1) (TN x m):=fun j=>by
 rw[NM,h j];by_cases h1:j=127 - m
 ·subst h1
  rw[decide_eq_true rfl,decide_eq_true (p:=128 - (m+1)≤127 - m) (by omega),decide_eq_true (p:=127 - m < 128 - k) (by omega)]; simp
 ·rw[decide_eq_false h1]
  by_cases h2:128 - m≤j
  ·rw[decide_eq_true h2,decide_eq_true (p:=128 - (m+1)≤j) (by omega)]; simp
  ·rw[decide_eq_false h2,decide_eq_false (p:=128 - (m+1)≤j) (by omega)]; simp
theorem Cut.fin{v:Bool}{n k x:Nat}(h:Cut n k (wid v) x)(hA:jt v n=true)(_:k≤wid v):x=df n k:=by
 have hw:=fG v;unfold jt at hA;rw[decide_eq_true_eq,qo]at hA;apply Xz;intro j;rw[h j,eP];by_cases h1:j < 128 - wid v
 ·rw[hA j h1];simp
 ·rw[decide_eq_true (p:=128 - wid v≤j) (by omega),XP]
  by_cases h2:j < 128 - k
  ·rw[decide_eq_true h2,decide_eq_false (p:=128 - k≤j) (by omega)]; simp
  ·rw[decide_eq_false h2,decide_eq_true (p:=128 - k≤j) (by omega)]; simp
def Ox(n m i:Nat):Prop:=∀j,j < i→nh n j=nh m j
theorem Ox.fin{n m k:Nat}(hn:n < 2^128)(hm:m < 2^128)(hk:k≤128)(h:Ox n m k):GQ n m k=true:=by rw[EY n m k hn hm];intro j h1 h2;have:=h (127 - j) (by omega);unfold nh at this;rwa [show 127 - (127 - j)=j by omega]at this
end Go.Proofs.YtnncigmpcdehnaaGreatDoor
