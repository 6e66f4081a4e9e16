import Derived.WalkKit
import Derived.WalkSpells
import Derived.WalkLawsBesides
import Derived.ArgAppend
import Derived.Laws.CopyOwn
import Derived.Laws.OwnMore
import Derived.Deep.Draws
import Derived.Deep.RegionLaw
import Derived.Lib.AppendZeros
import Derived.Lib.Overlaps
import Derived.Lib.QuietBelow
import Derived.StillTail
import Derived.Deep.QuietTactic
import Derived.BigQuiet
import Derived.RegionTactic
import Derived.BigRegion
import Derived.Deep.LoopGhost
import Derived.Deep.MidRow
namespace Go.Proofs.YtnncigmpcdehnaaGreatDoor
open Go Go.RowKit
theorem Sx.t2{a b c:Prop}(xa:a)(xb:b)(xc:c):a∧b∧c:=⟨xa,xb,xc⟩
theorem Sx.t4{a b c d e:Prop}(xa:a)(xb:b)(xc:c)(xd:d)(xe:e):a∧b∧c∧d∧e:=⟨xa,xb,xc,xd,xe⟩
theorem Sx.t8{a b c d e f g h i:Prop}(xa:a)(xb:b)(xc:c)(xd:d)(xe:e)(xf:f)(xg:g)(xh:h)(xi:i):a∧b∧c∧d∧e∧f∧g∧h∧i:=⟨xa,xb,xc,xd,xe,xf,xg,xh,xi⟩
theorem hid{p:Prop}(h:p):Hid p:=h
def au(w:World)(g:Nat)(t:TypeId)(cs:List Value):Prop:=w.heap[g]?=some (.cells cs.toArray t (0,0))
section
variable{w w':World}{g:Nat}{t:TypeId}{cs:List Value}
theorem au.lt(h:au w g t cs):g < w.heap.size:=by
 rcases Nat.lt_or_ge g w.heap.size with hlt|hge
 ·exact hlt
 ·unfold au at h;rw[Array.getElem?_eq_none hge]at h;cases h
theorem au.cell(h:au w g t cs)(i:Nat):w.cell? ⟨g,i,none⟩=cs[i]?:=by
 have:=cell_of_row w g i cs.toArray t (0,0) h
 simpa using this
theorem au.cell_of(h:au w g t cs){i:Nat}{v:Value}(hv:cs[i]?=some v):w.cell? ⟨g,i,none⟩=some v:=(h.cell i).trans hv
theorem au.Sz(h:au w g t cs)(o:Nat):∀(j:Nat) (u:Value),(cs.drop o)[j]?=some u→w.cell? ((⟨g,o,none⟩:Addr).add j)=some u:=fun j u hu=>by
 rw[Addr.add_lit];exact h.cell_of (by rw[←hu,List.getElem?_drop])
theorem au.B8(h:au w g t cs):∀(j:Nat) (u:Value),cs[j]?=some u→w.cell? ((⟨g,0,none⟩:Addr).add j)=some u:=fun j u hu=>h.Sz 0 j u (by simpa using hu)
theorem au.frozen(h:au w g t cs)(i:Nat):w.frozen? ⟨g,i,none⟩=false:=by
 unfold au at h
 simp[World.frozen?,h]
theorem au.shape(h:au w g t cs):w.shape? g=some (t,cs.length):=by
 unfold au at h
 simp[World.shape?,h]
theorem au.new(w:World)(t:TypeId)(cs:Array Value):au (w.alloc (.cells cs t)) w.heap.size t cs.toList:=by
 have:=heap_alloc_new w (.cells cs t)
 unfold au
 simpa using this
theorem au.drewN(h:au w g t cs)(n:Nat):au (w.drewN n) g t cs:=h
theorem au.alloc(h:au w g t cs)(o:Obj):au (w.alloc o) g t cs:=(Below.heap_alloc w o g h.lt).trans h
theorem au.pU(h:au w g t cs)(i:Nat)(u:Value):au (w.setCell ⟨g,i,none⟩ u) g t (cs.set i u):=by
 unfold au at h ⊢
 simp[World.setCell,Array.getElem?_modify,h]
theorem au.LK(h:au w g t cs){p:Addr}(hp:g≠p.block)(u:Value):au (w.setCell p u) g t cs:=(Below.heap_setCell w p u g hp).trans h
theorem au.row(h:au w g t cs)(L:List Value):au (w.setRow g L.toArray) g t L:=setRow_heap w g _ _ t _ h
theorem au.EK{g':Nat}{t':TypeId}{cs':List Value}(h:au w g t cs)(h':au w g' t' cs')(hne:t≠t'):g≠g':=by
 rintro rfl
 unfold au at h h'
 rw[h]at h'
 injection h' with h'
 injection h' with _ ht
 exact hne ht
end
structure ai(S:List Nat)(w w':World):Prop where
 os:w'.os=w.os
 tape:w'.tape=w.tape
 output:w'.output=w.output
 size:w.heap.size≤w'.heap.size
 block:∀k,k < w.heap.size→k∉S→w'.heap[k]?=w.heap[k]?
section
variable{S S':List Nat}{a w w':World}
theorem ai.refl(S:List Nat)(w:World):ai S w w:=⟨rfl,rfl,rfl,Nat.le_refl _,fun _ _ _=>rfl⟩
theorem ai.trans{b c:World}(h:ai S a b)(k:ai S b c):ai S a c:=
 ⟨k.os.trans h.os,k.tape.trans h.tape,k.output.trans h.output,Nat.le_trans h.size k.size,fun i hi hS=>(k.block i (Nat.lt_of_lt_of_le hi h.size) hS).trans (h.block i hi hS)⟩
theorem ai.mono(h:ai S w w')(hS:∀k∈S,k∈S'∨w.heap.size≤k):ai S' w w':=
 ⟨h.os,h.tape,h.output,h.size,fun k hk hn=>h.block k hk (fun hm=>by rcases hS k hm with h1|h1;exact hn h1;omega)⟩
theorem ai.seq{b c:World}{T:List Nat}(h:ai S a b)(k:ai T b c)(hT:∀x∈T,x∈S∨a.heap.size≤x):ai S a c:=
 ⟨k.os.trans h.os,k.tape.trans h.tape,k.output.trans h.output,Nat.le_trans h.size k.size,fun i hi hS=>(k.block i (Nat.lt_of_lt_of_le hi h.size) (fun hm=>by rcases hT i hm with h1|h1;exact hS h1;omega)).trans (h.block i hi hS)⟩
theorem ai.drewN(h:ai S a w)(n:Nat):ai S a (w.drewN n):=⟨h.os,h.tape,h.output,h.size,h.block⟩
theorem ai.drew(h:ai S a w):ai S a w.drew:=⟨h.os,h.tape,h.output,h.size,h.block⟩
theorem ai.alloc(h:ai S a w)(o:Obj):ai S a (w.alloc o):=
 ⟨h.os,h.tape,h.output,by have:=h.size;simp;omega,fun k hk hS=>(Below.heap_alloc w o k (by have:=h.size;omega)).trans (h.block k hk hS)⟩
theorem ai.setCell(h:ai S a w){p:Addr}(hp:p.block∈S∨a.heap.size≤p.block)(u:Value):ai S a (w.setCell p u):=
 ⟨h.os,h.tape,h.output,by have:=h.size;simp[World.setCell];omega,fun k hk hS=>(Below.heap_setCell w p u k (by rintro rfl;rcases hp with h1|h1;exact hS h1;omega)).trans (h.block k hk hS)⟩
theorem ai.setRow(h:ai S a w){g:Nat}(hp:g∈S∨a.heap.size≤g)(cs:Array Value):ai S a (w.setRow g cs):=
 ⟨h.os,h.tape,h.output,by have:=h.size;simp;omega,fun k hk hS=>(setRow_other w g k cs (by rintro rfl;rcases hp with h1|h1;exact hS h1;omega)).trans (h.block k hk hS)⟩
theorem ai.Aq{row:Option Nat}(h:w.grownBy w' row):ai row.toList w w':=
 ⟨h.os,h.tape,h.output,h.size,fun k hk hS=>h.block k hk (fun e=>hS (by rw[←e];simp))⟩
theorem ai.below{B:Nat}(h:ai S w w')(hS:∀k∈S,B≤k)(hB:B≤w.heap.size):Below B w w':=
 ⟨h.os,h.tape,h.output,h.size,fun k hk=>h.block k (by omega) (fun hm=>by have:=hS k hm;omega)⟩
theorem ai.dO(h:Below w.heap.size w w'):ai [] w w':=⟨h.os,h.tape,h.output,h.size,fun k hk _=>h.block k hk⟩
theorem au.aG{g:Nat}{t:TypeId}{cs:List Value}(h:au w g t cs)(hc:ai S w w')(hg:g∉S):au w' g t cs:=(hc.block g h.lt hg).trans h
theorem au.below{B g:Nat}{t:TypeId}{cs:List Value}(h:au w g t cs)(hb:Below B w w')(hg:g < B):au w' g t cs:=(hb.block g hg).trans h
theorem ai.cell(hc:ai S w w'){p:Addr}(hp:p.block < w.heap.size)(hS:p.block∉S):w'.cell? p=w.cell? p:=World.cell?_of_block (w:=w) (hc.block _ hp hS)
end
def Own(w:World)(T:TypeId)(size:Nat)(v:Value)(n:Nat)(xs:List Value):Prop:=
 xs.length=n*size∧((v=.slice none 0 0∧n=0)∨
  ∃g o c L,v=.slice (some ⟨g,o,none⟩) n c∧au w g T L∧n≤c∧c≤maxLen∧o+c*size≤L.length∧(L.drop o).take (n*size)=xs)
section
variable{w w':World}{T:TypeId}{size n:Nat}{v:Value}{xs:List Value}
theorem Own.nil(w:World)(T:TypeId)(size:Nat):Own w T size (.slice none 0 0) 0 []:=⟨by simp,.inl ⟨rfl,rfl⟩⟩
theorem Own.form(h:Own w T size v n xs):∃A c,v=.slice A n c∧n≤c∧c≤maxLen:=by
 rcases h.2 with⟨rfl,rfl⟩ | ⟨g,o,c,L,rfl,_,hn,hc,_⟩
 ·exact⟨none,0,rfl,Nat.le_refl _,by unfold maxLen;omega⟩
 ·exact⟨_,c,rfl,hn,hc⟩
theorem Own.len(h:Own w T size v n xs):xs.length=n*size:=h.1
theorem Own.Jn{base:Nat}(h:w.ownsRow base T size v n xs):Own w T size v n xs:=by
 refine⟨h.1,?_⟩
 rcases h.2 with h0|⟨g,cap,cur,rfl,_,hg,hn,hm,hs,ht⟩
 ·exact .inl h0
 ·refine .inr ⟨g,0,cap,cur.toList,rfl,by simpa[au]using hg,hn,hm,by simp[hs],by simpa using ht⟩
theorem Own.lt(h:Own w T size v n xs):∀k,v.ownBlock=some k→k < w.heap.size:=by
 intro k hk
 rcases h.2 with⟨rfl,_⟩ | ⟨g,o,c,L,rfl,hg,_⟩
 ·simp[Value.ownBlock]at hk
 ·simp[Value.ownBlock]at hk
  subst hk
  exact hg.lt
theorem Own.GD(h:Own w T size v n xs)(hk:∀k,v.ownBlock=some k→w'.heap[k]?=w.heap[k]?):Own w' T size v n xs:=by
 refine⟨h.1,?_⟩
 rcases h.2 with h0|⟨g,o,c,L,rfl,hg,r⟩
 ·exact .inl h0
 ·exact .inr ⟨g,o,c,L,rfl,(hk g rfl).trans hg,r⟩
theorem Own.aG{S:List Nat}(h:Own w T size v n xs)(hc:ai S w w')(hS:∀k,v.ownBlock=some k→k∉S):Own w' T size v n xs:=
 h.GD fun k hk=>hc.block k (h.lt k hk) (hS k hk)
theorem Own.alloc(h:Own w T size v n xs)(o:Obj):Own (w.alloc o) T size v n xs:=h.GD fun k hk=>Below.heap_alloc w o k (h.lt k hk)
theorem Own.drewN(h:Own w T size v n xs)(k:Nat):Own (w.drewN k) T size v n xs:=h
theorem Own.drew(h:Own w T size v n xs):Own w.drew T size v n xs:=h
theorem Own.LK(h:Own w T size v n xs){p:Addr}(hp:v.ownBlock≠some p.block)(u:Value):Own (w.setCell p u) T size v n xs:=
 h.GD fun k hk=>Below.heap_setCell w p u k (by rintro rfl;exact hp hk)
theorem Own.EK{g:Nat}{t:TypeId}{cs:List Value}(h:Own w T size v n xs)(hg:au w g t cs)(hne:T≠t):v.ownBlock≠some g:=by
 rcases h.2 with⟨rfl,_⟩ | ⟨g',o,c,L,rfl,hb,_⟩
 ·simp[Value.ownBlock]
 ·intro he
  have:g'=g:=by simpa[Value.ownBlock]using he
  subst this
  exact au.EK hb hg hne rfl
theorem Own.Jq{T':TypeId}{size' n':Nat}{v':Value}{xs':List Value}(h:Own w T size v n xs)(h':Own w T' size' v' n' xs')(hne:T≠T'):∀k,v.ownBlock=some k→v'.ownBlock≠some k:=by
 intro k hk
 rcases h.2 with⟨rfl,_⟩ | ⟨g,o,c,L,rfl,hb,_⟩
 ·simp[Value.ownBlock]at hk
 ·have:g=k:=by simpa[Value.ownBlock]using hk
  subst this
  exact h'.EK hb (Ne.symm hne)
theorem Own.cell{a:Addr}{c:Nat}(h:Own w T size (.slice (some a) n c) n xs){j:Nat}{u:Value}(hu:xs[j]?=some u):w.cell? ⟨a.block,a.off+j,none⟩=some u∧w.frozen? ⟨a.block,a.off+j,none⟩=false∧a.spot=none:=by
 rcases h.2 with⟨h0,_⟩ | ⟨g,o,c',L,hv,hb,_,_,_,ht⟩
 ·cases h0
 ·injection hv with ha _ _
  injection ha with ha
  subst ha
  refine⟨hb.cell_of ?_,hb.frozen _,rfl⟩
  rw[←ht,List.getElem?_take]at hu
  split at hu
  ·rw[List.getElem?_drop]at hu;exact hu
  ·cases hu
theorem Own.some_(h:Own w T size v n xs)(hn:0 < n):∃g o c,v=.slice (some ⟨g,o,none⟩) n c∧n≤c∧c≤maxLen∧g < w.heap.size:=by
 rcases h.2 with⟨_,h0⟩ | ⟨g,o,c,L,rfl,hb,h1,h2,_⟩
 ·omega
 ·exact⟨g,o,c,rfl,h1,h2,hb.lt⟩
theorem Own.jX{a:Addr}{c:Nat}(h:Own w T size (.slice (some a) n c) n xs):∀(j:Nat) (u:Value),xs[j]?=some u→w.cell? (a.add j)=some u:=by
 intro j u hu
 have hc:=h.cell hu
 unfold Addr.add
 split
 ·rename_i hj;subst hj;have:=hc.1;have hs:=hc.2.2;cases a;simp_all
 ·exact hc.1
theorem Own.pU{g o c:Nat}(h:Own w T 1 (.slice (some ⟨g,o,none⟩) n c) n xs){j:Nat}(_hj:j < n)(u:Value):Own (w.setCell ⟨g,o+j,none⟩ u) T 1 (.slice (some ⟨g,o,none⟩) n c) n (xs.set j u):=by
 rcases h.2 with⟨h0,_⟩ | ⟨g',o',c',L,hv,hb,hn,hc,hL,ht⟩
 ·cases h0
 ·injection hv with e1 _ e3
  injection e1 with e1
  injection e1 with e1 e2
  subst e1;subst e2;subst e3
  refine⟨by rw[List.length_set];exact h.1,.inr ⟨g,o,c,L.set (o+j) u,rfl,hb.pU _ u,hn,hc,by rw[List.length_set];exact hL,?_⟩⟩
  rw[←ht,List.drop_set,if_neg (by omega),List.take_set,show o+j - o=j by omega]
theorem Own.Oj{g o c:Nat}(h:Own w T size (.slice (some ⟨g,o,none⟩) n c) n xs):∃L,au w g T L:=by
 rcases h.2 with⟨h0,_⟩ | ⟨g',o',c',L,hv,hb,_⟩
 ·cases h0
 ·injection hv with e1 _ _
  injection e1 with e1
  injection e1 with e1 _
  subst e1
  exact⟨L,hb⟩
end
theorem kN{α:Type}(L:List α)(o:Nat)(cs:List α)(h:o+cs.length≤L.length):(splice L o cs).length=L.length:=length_splice L o cs h
theorem rT{α:Type}(L:List α)(o n:Nat)(xs cs:List α)(hx:(L.drop o).take n=xs)(hl:xs.length=n)(hf:o+n+cs.length≤L.length) :
  ((splice L (o+n) cs).drop o).take (n+cs.length)=xs++cs:=by
 have h1:L.take (o+n)=L.take o++xs:=by rw[←hx,List.take_add]
 have h2:(L.take o).length=o:=by rw[List.length_take];omega
 unfold splice
 rw[h1,List.append_assoc,List.drop_append_of_le_length (by omega),List.drop_of_length_le (by omega),List.nil_append]
 rw[←List.append_assoc,List.take_append_of_le_length (by simp;omega),List.take_of_length_le (by simp;omega)]
section
variable{P:Program}(w:World)
theorem eK{g:Nat}{t:TypeId}{L:List Value}(o:Nat)(vs:List Value)(hg:au w g t L)(hf:o+vs.length≤L.length)(h1:∀v∈vs,v.oneCell'=true) :
  (storeCells ⟨g,o,none⟩ vs).run P w=.ok () (w.setRow g (splice L o vs).toArray):=by
 have h:=run_storeCells_at P g o t vs 0 L.toArray w hg (by simpa using hf) h1
 rw[h]
 simp[splice]
theorem mV(t ty e:TypeId)(i:TypeInfo)(z:Value)(size bytes:Nat)(ht:P.underlying t=some (.slice e))(hi:P.info? e=some i)(hz:i.zero=some z)
  (hsize:i.size=size) (hby:i.bytes=bytes) (hzs:z.cells.size=size) (hsz:0 < size)
  (v:Value) (n:Nat) (xs:List Value) (hown:Own w e size v n xs)
  (a:Addr) (m c:Nat) (news:List Value) (hl:news.length=m*size) (hnews:∀j u,news[j]?=some u→w.cell? (a.add j)=some u) (h1:∀u∈news,u.oneCell'=true)
  (h63:n+m≤maxLen) (hbytes:(n+m)*bytes≤140737488355328) :
  ∃A' c' w',(Builtin.append_ #[t,t] ty #[v,.slice (some a) m c]).run P w=.ok (.slice A' (n+m) c') w'∧Own w' e size (.slice A' (n+m) c') (n+m) (xs++news)∧ai v.ownBlock.toList w w'∧
   ((Value.slice A' (n+m) c').ownBlock=v.ownBlock∨∃k,(Value.slice A' (n+m) c').ownBlock=some k∧w.heap.size≤k):=by
 have fin:∀(v':Value) (w':World),(Builtin.append_ #[t,t] ty #[v,.slice (some a) m c]).run P w=.ok v' w'→Own w' e size v' (n+m) (xs++news)→ai v.ownBlock.toList w w'→
   (v'.ownBlock=v.ownBlock∨∃k,v'.ownBlock=some k∧w.heap.size≤k)→∃A' c' w',(Builtin.append_ #[t,t] ty #[v,.slice (some a) m c]).run P w=.ok (.slice A' (n+m) c') w'∧Own w' e size (.slice A' (n+m) c') (n+m) (xs++news)∧ai v.ownBlock.toList w w'∧
   ((Value.slice A' (n+m) c').ownBlock=v.ownBlock∨∃k,(Value.slice A' (n+m) c').ownBlock=some k∧w.heap.size≤k):=by
  intro v' w' r1 r2 r3 r4
  obtain⟨A',c',rfl,_,_⟩:=r2.form
  exact⟨A',c',w',r1,r2,r3,r4⟩
 rcases hown.2 with⟨rfl,rfl⟩ | ⟨g,o,cap,L,rfl,hg,hnc,hcm,hcL,hxs⟩
 ·obtain rfl:xs=[]:=List.eq_nil_of_length_eq_zero (by simpa using hown.1)
  obtain⟨v',w',hrun,r1,r2,r3⟩:=run_append_own (P:=P) w w.heap.size t ty e i z size bytes ht hi hz hsize hby hzs hsz (.slice none 0 0) 0 [] (World.ownsRow_nil w _ e size) a m c news hl hnews h1 h63 hbytes (Nat.le_refl _)
  refine fin v' w' hrun (Own.Jn r1) (ai.Aq r2) ?_
  cases hb:v'.ownBlock with
  |none=>exact .inl rfl
  |some k=>exact .inr ⟨k,rfl,(r1.lt k hb).1⟩
 ·by_cases hr:n+m≤cap
  ·have hml:n*size+m*size≤cap*size:=by rw[←Nat.add_mul];exact Nat.mul_le_mul_right _ hr
   have hst:=eK (P:=P) w (o+n*size) news hg (by omega) h1
   have hfc:=run_firstCells_some (P:=P) w size m a m c news hl hnews
   refine fin (.slice (some ⟨g,o,none⟩) (n+m) cap) (w.setRow g (splice L (o+n*size) news).toArray) ?_ ⟨by rw[List.length_append,hown.1,hl,Nat.add_mul],.inr ⟨g,o,cap,_,rfl,hg.row _,hr,hcm,?_,?_⟩⟩ ?_ (.inl rfl)
   ·simp[Builtin.append_,run_underlying ht,sizeOf,typeInfo,hi,Builtin.lenOf,hr,hfc,Addr.add_lit,hsize,hst]
   ·rw[kN _ _ _ (by omega)];exact hcL
   ·rw[Nat.add_mul,←hl];exact rT L o (n*size) xs news hxs hown.1 (by omega)
   ·exact(ai.refl _ _).setRow (.inl (by simp[Value.ownBlock])) _
  ·have holds:∀j u,xs[j]?=some u→w.cell? ((⟨g,o,none⟩:Addr).add j)=some u:=hown.jX
   obtain⟨v',w',hrun,r1,r2⟩:=run_append_arg_grows (P:=P) w t ty e i z size bytes ht hi hz hsize hby hzs hsz ⟨g,o,none⟩ n cap xs hown.1 holds a m c news hl hnews (by omega) h63 hbytes
   refine fin v' w' hrun (Own.Jn r1) ((ai.Aq r2).mono (by simp)) ?_
   rcases r1.2 with⟨rfl,hnm⟩ | ⟨g',cap',cur,rfl,hb,_⟩
   ·omega
   ·exact .inr ⟨g',rfl,hb⟩
theorem wi{o:Oper}{a:Act}{K:Act→World→Prop}{Q:Exit→Act→World→Prop}(s x:Operand)(t:TypeId)
  (ho:o.op=.call { callee:=.builtin .append,args:=#[s,x],argTypes:=#[t,t] })
  (e:TypeId) (i:TypeInfo) (z:Value) (size bytes:Nat) (ht:P.underlying t=some (.slice e)) (hi:P.info? e=some i) (hz:i.zero=some z)
  (hsize:i.size=size) (hby:i.bytes=bytes) (hzs:z.cells.size=size) (hsz:0 < size)
  (v:Value) (n:Nat) (xs:List Value) (hs:a.eval s=v) (hown:Own w e size v n xs)
  (ad:Addr) (m c:Nat) (news:List Value) (hx:a.eval x=.slice (some ad) m c) (hl:news.length=m*size) (hnews:∀j u,news[j]?=some u→w.cell? (ad.add j)=some u) (h1:∀u∈news,u.oneCell'=true)
  (h63:n+m≤maxLen) (hbytes:(n+m)*bytes≤140737488355328)
  (h:∀A' c' w',Own w' e size (.slice A' (n+m) c') (n+m) (xs++news)→ai v.ownBlock.toList w w'→
   ((Value.slice A' (n+m) c').ownBlock=v.ownBlock∨∃k,(Value.slice A' (n+m) c').ownBlock=some k∧w.heap.size≤k)→K (a.put o.dst (.slice A' (n+m) c')) w'):o.wp P a w K Q:=by
 obtain⟨A',c',w',hrun,h2,h3,h4⟩:=mV (P:=P) w t o.type e i z size bytes ht hi hz hsize hby hzs hsz v n xs hown ad m c news hl hnews h1 h63 hbytes
 unfold Oper.wp execOp
 simp only[ho,resolve,invoke,builtin,Sem.run_bind,Sem.run_pure,Result.andThen_ok,List.map_toArray,List.map_cons,List.map_nil,hs,hx,hrun]
 exact h A' c' w' h2 h3 h4
theorem dY{ops:Array Oper}{rest:List Oper}{o:Oper}{a:Act}{Q:Exit→Act→World→Prop}(hgd:o.guard=none)(s x:Operand)(t:TypeId)
  (ho:o.op=.call { callee:=.builtin .append,args:=#[s,x],argTypes:=#[t,t] })
  (e:TypeId) (i:TypeInfo) (z:Value) (size bytes:Nat) (ht:P.underlying t=some (.slice e)) (hi:P.info? e=some i) (hz:i.zero=some z)
  (hsize:i.size=size) (hby:i.bytes=bytes) (hzs:z.cells.size=size) (hsz:0 < size)
  (v:Value) (n:Nat) (xs:List Value) (hs:a.eval s=v) (hown:Own w e size v n xs)
  (ad:Addr) (m c:Nat) (news:List Value) (hx:a.eval x=.slice (some ad) m c) (hl:news.length=m*size) (hnews:∀j u,news[j]?=some u→w.cell? (ad.add j)=some u) (h1:∀u∈news,u.oneCell'=true)
  (h63:n+m≤maxLen) (hbytes:(n+m)*bytes≤140737488355328)
  (h:∀A' c' w',Own w' e size (.slice A' (n+m) c') (n+m) (xs++news)→ai v.ownBlock.toList w w'→
   ((Value.slice A' (n+m) c').ownBlock=v.ownBlock∨∃k,(Value.slice A' (n+m) c').ownBlock=some k∧w.heap.size≤k)→wpList P ops Q rest (a.put o.dst (.slice A' (n+m) c')) w'):wpList P ops Q (o::rest) a w:=
 wpList_plain hgd fun _ hK=>wi w s x t ho e i z size bytes ht hi hz hsize hby hzs hsz v n xs hs hown ad m c news hx hl hnews h1 h63 hbytes fun A' c' w' h2 h3 h4=>hK _ _ (h A' c' w' h2 h3 h4)
theorem yd(dT sT ty elem:TypeId)(size:Nat)(hu:P.underlying dT=some (.slice elem))(hs:(P.info? elem).map (·.size)=some size)
  (g o dLen dCap:Nat) (L:List Value) (t:TypeId) (hg:au w g t L) (sp:Option Addr) (sLen sCap:Nat) (cs:List Value) (hn:cs.length=Nat.min sLen dLen*size)
  (hsrc:0 < cs.length→∃ad,sp=some ad∧∀j v,cs[j]?=some v→w.cell? (ad.add j)=some v) (hfit:o+cs.length≤L.length) (h1:∀v∈cs,v.oneCell'=true) :
  (Builtin.copy_ #[dT,sT] ty #[.slice (some ⟨g,o,none⟩) dLen dCap,.slice sp sLen sCap]).run P w=
   .ok (goInt (Nat.min sLen dLen)) (w.setRow g (splice L o cs).toArray):=by
 have hst:=eK (P:=P) w o cs hg hfit h1
 have hfc:(Builtin.firstCells size (Nat.min sLen dLen) (.slice sp sLen sCap)).run P w=.ok cs.toArray w:=by
  by_cases h0:0 < cs.length
  ·obtain⟨ad,rfl,hc⟩:=hsrc h0
   exact run_firstCells_some (P:=P) w size _ ad _ _ cs hn hc
  ·obtain rfl:cs=[]:=List.eq_nil_of_length_eq_zero (by omega)
   cases sp with
   |none=>simp[Builtin.firstCells]
   |some ad=>exact run_firstCells_some (P:=P) w size _ ad _ _ [] hn (by simp)
 cases hq:P.info? elem with
 |none=>simp[hq]at hs
 |some i=>
  have hi:i.size=size:=by simpa[hq]using hs
  simp[Builtin.copy_,run_underlying hu,Builtin.lenOf,sizeOf,typeInfo,hq,hi,hfc,hst]
end
theorem fS{P:Program}{ops:Array Oper}{Q:Exit→Act→World→Prop}{rest:List Oper}{a:Act}{w:World}{dst:Option Tmp}{args:Array Operand}{ats:Array TypeId}{ty:TypeId}{pos:String}{aft:Array Edge}{gd:Option (Nat×Bool)}
  (h:wpList P ops Q ({ dst:=dst,op:=.call { callee:=.builtin .append,args:=args,argTypes:=ats },type:=ty,pos:=pos,after:=aft,guard:=gd }::rest) a w) :
  wpList P ops Q ({ dst:=dst,op:=.call { callee:=.builtin .append,args:=args,argTypes:=ats },type:=ty,pos:=pos,after:=aft,guard:=gd }::rest) a w:=h
open Go Go.RowKit
section
variable{P:Program}(w:World)
theorem oG(t ty e:TypeId)(size:Nat)(ht:P.underlying t=some (.slice e))(hs:(P.info? e).map (·.size)=some size)
  (g o n c:Nat) (L:List Value) (T:TypeId) (hg:au w g T L) (sp:Option Addr) (m sc:Nat) (news:List Value) (hl:news.length=m*size)
  (hsrc:0 < news.length→∃ad,sp=some ad∧∀j v,news[j]?=some v→w.cell? (ad.add j)=some v) (h1:∀v∈news,v.oneCell'=true) (hroom:n+m≤c) (hfit:o+n*size+news.length≤L.length) :
  (Builtin.append_ #[t,t] ty #[.slice (some ⟨g,o,none⟩) n c,.slice sp m sc]).run P w=.ok (.slice (some ⟨g,o,none⟩) (n+m) c) (w.setRow g (splice L (o+n*size) news).toArray):=by
 have hst:=eK (P:=P) w (o+n*size) news hg hfit h1
 have hfc:(Builtin.firstCells size m (.slice sp m sc)).run P w=.ok news.toArray w:=by
  by_cases h0:0 < news.length
  ·obtain⟨ad,rfl,hc⟩:=hsrc h0
   exact run_firstCells_some (P:=P) w size _ ad _ _ news hl hc
  ·obtain rfl:news=[]:=List.eq_nil_of_length_eq_zero (by omega)
   cases sp with
   |none=>simp[Builtin.firstCells]
   |some ad=>exact run_firstCells_some (P:=P) w size _ ad _ _ [] hl (by simp)
 cases hq:P.info? e with
 |none=>simp[hq]at hs
 |some i=>
  have hi:i.size=size:=by simpa[hq]using hs
  simp[Builtin.append_,run_underlying ht,sizeOf,typeInfo,hq,Builtin.lenOf,hroom,hfc,Addr.add_lit,hi,hst]
end
open Go Go.RowKit
theorem Own.made(w:World)(T:TypeId)(size n c:Nat)(cs:List Value)(hn:n≤c)(hm:c≤maxLen)(hl:cs.length=c*size):Own (w.alloc (.cells cs.toArray T)) T size (.slice (some ⟨w.heap.size,0,none⟩) n c) n (cs.take (n*size)):=by
 have hle:n*size≤c*size:=Nat.mul_le_mul_right _ hn
 exact⟨by rw[List.length_take];omega,.inr ⟨_,0,c,cs,rfl,by simpa using au.new w T cs.toArray,hn,hm,by omega,by simp⟩⟩
open Go Go.Sort
section
variable{P:Program}{ops:Array Oper}{md:Region.Mode}{C:World→Prop}
end
open Go Go.RowKit Go.Lib Go.Sort
theorem nI{P:Program}{f:FuncId}{args:Array Value}{v:Value}(h:∀W,Calls P f args W fun e w'=>e=.returned v∧ai [] W w')(w:World)(d:Nat)(os:Array Obj) :
  Calls P f args (grow (redrawn w d) os) fun e w''=>e=.returned v∧∃p:Regrown,w''=grow (redrawn w p.d) p.os:=
 Calls.regrown_of ((h _).mono fun _ _ ⟨h1,h2⟩=>⟨h1,h2.below (by simp) (Nat.le_refl _)⟩)
theorem au.fJ(w:World)(t:TypeId)(cs:Array Value){g:Nat}(h:w.heap.size=g):au (w.alloc (.cells cs t)) g t cs.toList:=by subst h;exact au.new w t cs
theorem fw{w w':World}(h:∃p:Regrown,w'=grow (redrawn w p.d) p.os):ai [] w w':=by
 obtain⟨p,rfl⟩:=h
 exact ai.dO (below_regrown w p.d p.os)
theorem ai.Mn{a w:World}(h:ai [] a w){g:Nat}(hg:a.heap.size≤g)(i:Nat)(u:Value):ai [] a (w.setCell ⟨g,i,none⟩ u):=h.setCell (.inr hg) u
section
variable{P:Program}{ops:Array Oper}{C:World→Prop}
theorem lH{Q:Act→Prop}{a:Act}{o:Oper}{rest:List Oper}(hw:Region.wanted o (yielded ops a.tmps)=true)(ty:TypeId)(x:Operand)(ho:o.op=.load ty x)
  (b off:Nat) (hx:a.eval x=.pointer (some ⟨b,off,none⟩)) (cs:List Value) (d:TypeDesc) (hc:∀W,C W→W.rangeAt b off cs)
  (hu:P.underlying ty=some d) (hd:d.isRow=true) (hi:(P.info? ty).map (·.size)=some cs.length)
  (h:wpQuiet P ops C Q rest (a.put o.dst (.agg cs.toArray))):wpQuiet P ops C Q (o::rest) a:=by
 refine wpQuiet_step fun K hK=>?_
 rw[if_pos hw]
 refine⟨_,fun W hW=>?_,hK _ h⟩
 unfold Oper.quietAt execOp
 simp only[ho,hx,Instr.loadAt,Instr.sureAddr,Sem.run_bind,Sem.run_pure,Result.andThen_ok,run_loadVar_mid W b off ty cs d (hc W hW) hu hd hi]
 exact⟨rfl,rfl⟩
theorem gD{a:Act}{o:Oper}{K:Act→Prop}(ty:TypeId)(x:Operand)(ho:o.op=.load ty x)
  (b off:Nat) (hx:a.eval x=.pointer (some ⟨b,off,none⟩)) (cs:List Value) (d:TypeDesc) (hc:∀W,C W→W.rangeAt b off cs)
  (hu:P.underlying ty=some d) (hd:d.isRow=true) (hi:(P.info? ty).map (·.size)=some cs.length)
  (h:K (a.put o.dst (.agg cs.toArray))):o.quiet P a C K:=by
 refine⟨_,fun W hW=>?_,h⟩
 unfold Oper.quietAt execOp
 simp only[ho,hx,Instr.loadAt,Instr.sureAddr,Sem.run_bind,Sem.run_pure,Result.andThen_ok,run_loadVar_mid W b off ty cs d (hc W hW) hu hd hi]
 exact⟨rfl,rfl⟩
theorem au.n6{w:World}{g:Nat}{t:TypeId}{cs:List Value}(hb:au w g t cs)(off:Nat)(ds:List Value)(hd:∀j v,ds[j]?=some v→cs[off+j]?=some v):∀W,(∃p:Regrown,W=grow (redrawn w p.d) p.os)→W.rangeAt g off ds:=by
 rintro W hW j v hv
 exact(hb.aG (fw hW) (by simp)).cell_of (hd j v hv)
theorem au.ue{w:World}{g:Nat}{t:TypeId}{cs:List Value}(hb:au w g t cs):∀W,(∃p:Regrown,W=grow (redrawn w p.d) p.os)→W.rangeAt g 0 cs:=
 hb.n6 0 cs fun j v hv=>by rw[Nat.zero_add];exact hv
end
open Go.RowKit Go.Lib
structure Acc(w0 w:World)(T:TypeId)(size:Nat)(v:Value)(n:Nat)(xs:List Value):Prop where
 own:Own w T size v n xs
 new:∀k,v.ownBlock=some k→w0.heap.size≤k
 aG:ai [] w0 w
theorem Acc.later{w0 w w':World}{T:TypeId}{size n:Nat}{v:Value}{xs:List Value}(h:Acc w0 w T size v n xs)(hc:ai [] w w'):Acc w0 w' T size v n xs:=
 ⟨h.own.aG hc (by simp),h.new,h.aG.trans hc⟩
theorem Acc.alloc{w0 w:World}{T:TypeId}{size n:Nat}{v:Value}{xs:List Value}(h:Acc w0 w T size v n xs)(o:Obj):Acc w0 (w.alloc o) T size v n xs:=h.later ((ai.refl [] w).alloc o)
theorem Acc.nil(w0:World)(T:TypeId)(size:Nat){w:World}(h:ai [] w0 w):Acc w0 w T size (.slice none 0 0) 0 []:=⟨Own.nil _ _ _,by simp[Value.ownBlock],h⟩
theorem Acc.append{w0 w w':World}{T:TypeId}{size n m:Nat}{v v':Value}{xs ys:List Value}(h:Acc w0 w T size v n xs)(ho:Own w' T size v' m ys)(hc:ai v.ownBlock.toList w w')
  (hb:v'.ownBlock=v.ownBlock∨∃k,v'.ownBlock=some k∧w.heap.size≤k):Acc w0 w' T size v' m ys:=by
 refine⟨ho,?_,h.aG.seq hc ?_⟩
 ·intro k hk
  rcases hb with hb|⟨j,hj,hj2⟩
  ·exact h.new k (hb ▸ hk)
  ·rw[hj]at hk;injection hk with hk;have:=h.aG.size;omega
 ·intro x hx
  have:=h.new x (by simpa using hx)
  exact .inr this
theorem Acc.GD{w0 w w':World}{T t:TypeId}{size n g:Nat}{v:Value}{xs cs:List Value}(h:Acc w0 w T size v n xs)(hc:ai v.ownBlock.toList w w')(hg:au w g t cs)(hne:T≠t):au w' g t cs:=
 hg.aG hc (by
  intro hm
  exact h.own.EK hg hne (by simpa using hm))
theorem bT(p:Prop) [Decidable p](h:p):Value.bool (decide p)=.bool true:=by rw[decide_eq_true h]
theorem bF(p:Prop) [Decidable p](h:¬p):Value.bool (decide p)=.bool false:=by rw[decide_eq_false h]
theorem cn{a b:Nat}(h:Nat.ble a b=true):a≤b:=Nat.le_of_ble_eq_true h
abbrev pt(g o:Nat):Value:=.pointer (some ⟨g,o,none⟩)
abbrev Rn(w:World)(v:Value)(e:Ending)(w':World):Prop:=e=.returned v∧ai [] w w'
theorem my{i:Nat}(h:i≤4611686018427387904):Value.int .i64 (IntKind.i64.wrap ((i:Int)+1))=.int .i64 ((i+1:Nat):Int):=by
 rw[IntWalk.i64_in _ (by omega)];rfl
end Go.Proofs.YtnncigmpcdehnaaGreatDoor
