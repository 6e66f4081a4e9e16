import Derived.WalkKit
import Derived.WalkSpells
import Derived.WalkLawsBesides
import Derived.ArgAppend
import Derived.Laws.CopyOwn
import Derived.Laws.OwnMore
import Derived.Deep.Draws
import Derived.Deep.RegionLaw
import Derived.Lib.AppendZeros
import Derived.Lib.Overlaps
import Derived.Lib.QuietBelow
import Derived.StillTail
import Derived.Deep.QuietTactic
import Derived.BigQuiet
import Derived.RegionTactic
import Derived.BigRegion
import Derived.Deep.LoopGhost
import Derived.Deep.MidRow
import Derived.Lib.BitFns
import Derived.Lib.ItoaNum
import Derived.Lib.Join
import Derived.Lib.SplitLaws
import Derived.Shelf.Strings.Builder1
import Derived.Shelf.Strings.Builder2
import Derived.Shelf.Strings.OnBuilder
import Derived.Shelf.Small.Bits
import Derived.Shelf.Small.Wraps
import Derived.Shelf.Strings.BuilderF
import Derived.Shelf.Strings.BuilderK
import Derived.Shelf.Strconv.Itoa0
import Derived.Shelf.Strconv.Itoa1
import Derived.Shelf.LaysM
import Derived.Shelf.Strconv.Itoa2
import Derived.Shelf.Strconv.Itoa3
import Derived.Shelf.Strconv.Clone
import Derived.Shelf.Strconv.SyntaxError
import Derived.Shelf.LaysC
import Derived.Shelf.Strconv.ToError
import Derived.Shelf.Strconv.Lower
import Derived.Shelf.Strconv.ParseUint10
import Derived.Shelf.Strconv.ParseUint10Empty
import Derived.Shelf.Strconv.ParseUint10Any
import Derived.Shelf.Strconv.RangeError
import Derived.Shelf.Strconv.ToErrorRange
import Derived.Shelf.Strconv.ParseUintEmpty
import Derived.Shelf.Strconv.ParseUint10b64
import Derived.Shelf.Strconv.ParseUint10b32
import Derived.Shelf.Strconv.ParseUint10b16
import Derived.Shelf.Strconv.ParseUint10b8
import Derived.Shelf.Strconv.ParseUint10At
import Derived.Ground.MpProg
import Derived.Shelf.Pu.ParseUintPublic10
import Derived.Shelf.Pu.ErrVarParseUint
import Derived.Shelf.Strings.Search1
import Derived.Shelf.Strings.Search2
import Derived.Shelf.Strings.Search3
import Derived.Shelf.Strings.Cut
import Derived.Shelf.Strings.Count
import Derived.Shelf.Strings.Shaped
import Derived.Shelf.Strings.Split
import Derived.Shelf.Strings.SplitShaped
import Derived.Shelf.Unicode.DecodeSlow
import Derived.Test.YtnncigmpcdehnaaGreatDoorProg
import Derived.Test.YtnncigmpcdehnaaGreatDoorRows
import Derived.DeepKeys
import Derived.Laws.BitsAllLaws
open List renaming getElem?_eq_some_iff→VE,getElem?_append_right→VF,eq_nil_of_length_eq_zero→VJ,isPrefixOf_iff_prefix→VL,getElem?_append_left→VM,drop_eq_getElem_cons→VN,exists_cons_of_ne_nil→VR,getElem?_drop→VS,take_of_length_le→VV,take_append_drop→VW,getElem?_eq_none→VX,drop_left'→VY,drop_append_of_le_length→Wh,take_left'→Wi,mapM_cons→Wl,range→Wm,map_cons→Wn,getElem?_cons_succ→Wo,mem_of_mem_drop→Wu,mem_of_getElem?→Wv,mem_singleton→Wz,append_assoc→WA,map_toArray→WE,length_take→WG,nil_append→WJ,mem_append→WK,length_set→WL,replicate→WR,mem_cons→WV,mapM_nil→WW,mem_map→Xa,map_nil→Xb
open Nat renaming lt_of_lt_of_le→VG,eq_of_testBit_eq→VH,le_refl→VK,testBit_lt_two_pow→VP,pow_le_pow_right→VQ,testBit_div_two_pow→VT,mul_le_mul_right→VZ,lt_of_le_of_lt→Wc,add_comm→Wg,strongRecOn→Wj,div_lt_self→Wk,testBit_mul_two_pow→Wp,zero_add→Ws,le_trans→Wt,div_mul_le_self→Wx,add_mul→Wy,mod_lt→WD,min_eq_left→WQ,reduceAdd→WZ,pow_add→Xd,min→Xe
open Go.Value renaming ownBlock→VI,slice→VO,formed→Wd,int→WC,oneCell'→WI,bool→Xc
open Bool renaming not_eq_true→VU,and_eq_true→WH,eq_iff_iff→WO,false_and→WU,true_and→WY
open Go.Instr renaming field→Wa,sureAddr→WN,loadAt→WX
open Go.Result renaming andThen_ok→Wb
open Int renaming toNat_natCast→We
open Go.Sem renaming run_pure→Wq,run_bind→Wr
open Go.IntKind renaming u8→Ww,signed→WB,bits→WM,min→WS,max→WT
namespace Go.Proofs.YtnncigmpcdehnaaGreatDoor
open Go Go.RowKit
theorem Sx.t2{a b c:Prop}(xa:a)(xb:b)(xc:c):a∧b∧c:=⟨xa,xb,xc⟩
theorem Sx.t4{a b c d e:Prop}(xa:a)(xb:b)(xc:c)(xd:d)(xe:e):a∧b∧c∧d∧e:=⟨xa,xb,xc,xd,xe⟩
theorem Sx.t8{a b c d e f g h i:Prop}(xa:a)(xb:b)(xc:c)(xd:d)(xe:e)(xf:f)(xg:g)(xh:h)(xi:i):a∧b∧c∧d∧e∧f∧g∧h∧i:=⟨xa,xb,xc,xd,xe,xf,xg,xh,xi⟩
theorem hid{p:Prop}(h:p):Hid p:=h
def aq(w:World)(g:Nat)(t:TypeId)(cs:List Value):Prop:=w.heap[g]?=some (.cells cs.toArray t (0,0))
section
variable{w w':World}{g:Nat}{t:TypeId}{cs:List Value}
theorem aq.lt(h:aq w g t cs):g < w.heap.size:=by
 rcases Nat.lt_or_ge g w.heap.size with hlt|hge
 ·exact hlt
 ·unfold aq at h;rw[Array.getElem?_eq_none hge]at h;cases h
theorem aq.cell(h:aq w g t cs)(i:Nat):w.cell? ⟨g,i,none⟩=cs[i]?:=by have:=cell_of_row w g i cs.toArray t (0,0) h;simpa using this
theorem aq.cell_of(h:aq w g t cs){i:Nat}{v:Value}(hv:cs[i]?=some v):w.cell? ⟨g,i,none⟩=some v:=(h.cell i).trans hv
theorem aq.TF(h:aq w g t cs)(o:Nat):∀(j:Nat) (u:Value),(cs.drop o)[j]?=some u→w.cell? ((⟨g,o,none⟩:Addr).add j)=some u:=fun j u hu=>by rw[Addr.add_lit];exact h.cell_of (by rw[←hu,VS])
theorem aq.BA(h:aq w g t cs):∀(j:Nat) (u:Value),cs[j]?=some u→w.cell? ((⟨g,0,none⟩:Addr).add j)=some u:=fun j u hu=>h.TF 0 j u (by simpa using hu)
theorem aq.frozen(h:aq w g t cs)(i:Nat):w.frozen? ⟨g,i,none⟩=false:=by unfold aq at h;simp[World.frozen?,h]
theorem aq.shape(h:aq w g t cs):w.shape? g=some (t,cs.length):=by unfold aq at h;simp[World.shape?,h]
theorem aq.new(w:World)(t:TypeId)(cs:Array Value):aq (w.alloc (.cells cs t)) w.heap.size t cs.toList:=by have:=heap_alloc_new w (.cells cs t);unfold aq;simpa using this
theorem aq.drewN(h:aq w g t cs)(n:Nat):aq (w.drewN n) g t cs:=h
theorem aq.alloc(h:aq w g t cs)(o:Obj):aq (w.alloc o) g t cs:=(Below.heap_alloc w o g h.lt).trans h
theorem aq.oW(h:aq w g t cs)(i:Nat)(u:Value):aq (w.setCell ⟨g,i,none⟩ u) g t (cs.set i u):=by unfold aq at h ⊢;simp[World.setCell,Array.getElem?_modify,h]
theorem aq.Mm(h:aq w g t cs){p:Addr}(hp:g≠p.block)(u:Value):aq (w.setCell p u) g t cs:=(Below.heap_setCell w p u g hp).trans h
theorem aq.row(h:aq w g t cs)(L:List Value):aq (w.setRow g L.toArray) g t L:=setRow_heap w g _ _ t _ h
theorem aq.Ez{g':Nat}{t':TypeId}{cs':List Value}(h:aq w g t cs)(h':aq w g' t' cs')(hne:t≠t'):g≠g':=by rintro rfl;unfold aq at h h';rw[h]at h';injection h' with h';injection h' with _ ht;exact hne ht
end
structure ah(S:List Nat)(w w':World):Prop where
 os:w'.os=w.os
 tape:w'.tape=w.tape
 output:w'.output=w.output
 size:w.heap.size≤w'.heap.size
 block:∀k,k < w.heap.size→k∉S→w'.heap[k]?=w.heap[k]?
section
variable{S S':List Nat}{a w w':World}
theorem ah.refl(S:List Nat)(w:World):ah S w w:=⟨rfl,rfl,rfl,VK _,fun _ _ _=>rfl⟩
theorem ah.trans{b c:World}(h:ah S a b)(k:ah S b c):ah S a c:=
 ⟨k.os.trans h.os,k.tape.trans h.tape,k.output.trans h.output,Wt h.size k.size,fun i hi hS=>(k.block i (VG hi h.size) hS).trans (h.block i hi hS)⟩
theorem ah.mono(h:ah S w w')(hS:∀k∈S,k∈S'∨w.heap.size≤k):ah S' w w':=
 ⟨h.os,h.tape,h.output,h.size,fun k hk hn=>h.block k hk (fun hm=>by rcases hS k hm with h1|h1;exact hn h1;omega)⟩
theorem ah.seq{b c:World}{T:List Nat}(h:ah S a b)(k:ah T b c)(hT:∀x∈T,x∈S∨a.heap.size≤x):ah S a c:=
 ⟨k.os.trans h.os,k.tape.trans h.tape,k.output.trans h.output,Wt h.size k.size,fun i hi hS=>(k.block i (VG hi h.size) (fun hm=>by rcases hT i hm with h1|h1;exact hS h1;omega)).trans (h.block i hi hS)⟩
theorem ah.drewN(h:ah S a w)(n:Nat):ah S a (w.drewN n):=⟨h.os,h.tape,h.output,h.size,h.block⟩
theorem ah.drew(h:ah S a w):ah S a w.drew:=⟨h.os,h.tape,h.output,h.size,h.block⟩
theorem ah.alloc(h:ah S a w)(o:Obj):ah S a (w.alloc o):=
 ⟨h.os,h.tape,h.output,by have:=h.size;simp;omega,fun k hk hS=>(Below.heap_alloc w o k (by have:=h.size;omega)).trans (h.block k hk hS)⟩
theorem ah.setCell(h:ah S a w){p:Addr}(hp:p.block∈S∨a.heap.size≤p.block)(u:Value):ah S a (w.setCell p u):=
 ⟨h.os,h.tape,h.output,by have:=h.size;simp[World.setCell];omega,fun k hk hS=>(Below.heap_setCell w p u k (by rintro rfl;rcases hp with h1|h1;exact hS h1;omega)).trans (h.block k hk hS)⟩
theorem ah.setRow(h:ah S a w){g:Nat}(hp:g∈S∨a.heap.size≤g)(cs:Array Value):ah S a (w.setRow g cs):=
 ⟨h.os,h.tape,h.output,by have:=h.size;simp;omega,fun k hk hS=>(setRow_other w g k cs (by rintro rfl;rcases hp with h1|h1;exact hS h1;omega)).trans (h.block k hk hS)⟩
theorem ah.zQ{row:Option Nat}(h:w.grownBy w' row):ah row.toList w w':=
 ⟨h.os,h.tape,h.output,h.size,fun k hk hS=>h.block k hk (fun e=>hS (by rw[←e];simp))⟩
theorem ah.below{B:Nat}(h:ah S w w')(hS:∀k∈S,B≤k)(hB:B≤w.heap.size):Below B w w':=
 ⟨h.os,h.tape,h.output,h.size,fun k hk=>h.block k (by omega) (fun hm=>by have:=hS k hm;omega)⟩
theorem ah.df(h:Below w.heap.size w w'):ah [] w w':=⟨h.os,h.tape,h.output,h.size,fun k hk _=>h.block k hk⟩
theorem aq.aD{g:Nat}{t:TypeId}{cs:List Value}(h:aq w g t cs)(hc:ah S w w')(hg:g∉S):aq w' g t cs:=(hc.block g h.lt hg).trans h
theorem aq.below{B g:Nat}{t:TypeId}{cs:List Value}(h:aq w g t cs)(hb:Below B w w')(hg:g < B):aq w' g t cs:=(hb.block g hg).trans h
theorem ah.cell(hc:ah S w w'){p:Addr}(hp:p.block < w.heap.size)(hS:p.block∉S):w'.cell? p=w.cell? p:=World.cell?_of_block (w:=w) (hc.block _ hp hS)
end
def Own(w:World)(T:TypeId)(size:Nat)(v:Value)(n:Nat)(xs:List Value):Prop:=
 xs.length=n*size∧((v=.slice none 0 0∧n=0)∨
  ∃g o c L,v=.slice (some ⟨g,o,none⟩) n c∧aq w g T L∧n≤c∧c≤maxLen∧o+c*size≤L.length∧(L.drop o).take (n*size)=xs)
section
variable{w w':World}{T:TypeId}{size n:Nat}{v:Value}{xs:List Value}
theorem Own.nil(w:World)(T:TypeId)(size:Nat):Own w T size (.slice none 0 0) 0 []:=⟨by simp,.inl ⟨rfl,rfl⟩⟩
theorem Own.form(h:Own w T size v n xs):∃A c,v=.slice A n c∧n≤c∧c≤maxLen:=by
 rcases h.2 with⟨rfl,rfl⟩ | ⟨g,o,c,L,rfl,_,hn,hc,_⟩
 ·exact⟨none,0,rfl,VK _,by unfold maxLen;omega⟩
 ·exact⟨_,c,rfl,hn,hc⟩
theorem Own.len(h:Own w T size v n xs):xs.length=n*size:=h.1
theorem Own.JI{base:Nat}(h:w.ownsRow base T size v n xs):Own w T size v n xs:=by
 refine⟨h.1,?_⟩;rcases h.2 with h0|⟨g,cap,cur,rfl,_,hg,hn,hm,hs,ht⟩
 ·exact .inl h0
 ·refine .inr ⟨g,0,cap,cur.toList,rfl,by simpa[aq]using hg,hn,hm,by simp[hs],by simpa using ht⟩
theorem Own.lt(h:Own w T size v n xs):∀k,v.ownBlock=some k→k < w.heap.size:=by
 intro k hk;rcases h.2 with⟨rfl,_⟩ | ⟨g,o,c,L,rfl,hg,_⟩
 ·simp[VI]at hk
 ·simp[VI]at hk
  subst hk;exact hg.lt
theorem Own.GF(h:Own w T size v n xs)(hk:∀k,v.ownBlock=some k→w'.heap[k]?=w.heap[k]?):Own w' T size v n xs:=by
 refine⟨h.1,?_⟩;rcases h.2 with h0|⟨g,o,c,L,rfl,hg,r⟩
 ·exact .inl h0
 ·exact .inr ⟨g,o,c,L,rfl,(hk g rfl).trans hg,r⟩
theorem Own.aD{S:List Nat}(h:Own w T size v n xs)(hc:ah S w w')(hS:∀k,v.ownBlock=some k→k∉S):Own w' T size v n xs:=
 h.GF fun k hk=>hc.block k (h.lt k hk) (hS k hk)
theorem Own.alloc(h:Own w T size v n xs)(o:Obj):Own (w.alloc o) T size v n xs:=h.GF fun k hk=>Below.heap_alloc w o k (h.lt k hk)
theorem Own.drewN(h:Own w T size v n xs)(k:Nat):Own (w.drewN k) T size v n xs:=h
theorem Own.drew(h:Own w T size v n xs):Own w.drew T size v n xs:=h
theorem Own.Mm(h:Own w T size v n xs){p:Addr}(hp:v.ownBlock≠some p.block)(u:Value):Own (w.setCell p u) T size v n xs:=
 h.GF fun k hk=>Below.heap_setCell w p u k (by rintro rfl;exact hp hk)
theorem Own.Ez{g:Nat}{t:TypeId}{cs:List Value}(h:Own w T size v n xs)(hg:aq w g t cs)(hne:T≠t):v.ownBlock≠some g:=by
 rcases h.2 with⟨rfl,_⟩ | ⟨g',o,c,L,rfl,hb,_⟩
 ·simp[VI]
 ·intro he
  have:g'=g:=by simpa[VI]using he
  subst this;exact aq.Ez hb hg hne rfl
theorem Own.JL{T':TypeId}{size' n':Nat}{v':Value}{xs':List Value}(h:Own w T size v n xs)(h':Own w T' size' v' n' xs')(hne:T≠T'):∀k,v.ownBlock=some k→v'.ownBlock≠some k:=by
 intro k hk;rcases h.2 with⟨rfl,_⟩ | ⟨g,o,c,L,rfl,hb,_⟩
 ·simp[VI]at hk
 ·have:g=k:=by simpa[VI]using hk
  subst this;exact h'.Ez hb (Ne.symm hne)
theorem Own.cell{a:Addr}{c:Nat}(h:Own w T size (.slice (some a) n c) n xs){j:Nat}{u:Value}(hu:xs[j]?=some u):w.cell? ⟨a.block,a.off+j,none⟩=some u∧w.frozen? ⟨a.block,a.off+j,none⟩=false∧a.spot=none:=by
 rcases h.2 with⟨h0,_⟩ | ⟨g,o,c',L,hv,hb,_,_,_,ht⟩
 ·cases h0
 ·injection hv with ha _ _
  injection ha with ha;subst ha;refine⟨hb.cell_of ?_,hb.frozen _,rfl⟩;rw[←ht,List.getElem?_take]at hu;split at hu
  ·rw[VS]at hu;exact hu
  ·cases hu
theorem Own.some_(h:Own w T size v n xs)(hn:0 < n):∃g o c,v=.slice (some ⟨g,o,none⟩) n c∧n≤c∧c≤maxLen∧g < w.heap.size:=by
 rcases h.2 with⟨_,h0⟩ | ⟨g,o,c,L,rfl,hb,h1,h2,_⟩
 ·omega
 ·exact⟨g,o,c,rfl,h1,h2,hb.lt⟩
theorem Own.ja{a:Addr}{c:Nat}(h:Own w T size (.slice (some a) n c) n xs):∀(j:Nat) (u:Value),xs[j]?=some u→w.cell? (a.add j)=some u:=by
 intro j u hu;have hc:=h.cell hu;unfold Addr.add;split
 ·rename_i hj;subst hj;have:=hc.1;have hs:=hc.2.2;cases a;simp_all
 ·exact hc.1
theorem Own.oW{g o c:Nat}(h:Own w T 1 (.slice (some ⟨g,o,none⟩) n c) n xs){j:Nat}(_hj:j < n)(u:Value):Own (w.setCell ⟨g,o+j,none⟩ u) T 1 (.slice (some ⟨g,o,none⟩) n c) n (xs.set j u):=by
 rcases h.2 with⟨h0,_⟩ | ⟨g',o',c',L,hv,hb,hn,hc,hL,ht⟩
 ·cases h0
 ·injection hv with e1 _ e3
  injection e1 with e1;injection e1 with e1 e2;subst e1;subst e2;subst e3;refine⟨by rw[WL];exact h.1,.inr ⟨g,o,c,L.set (o+j) u,rfl,hb.oW _ u,hn,hc,by rw[WL];exact hL,?_⟩⟩;rw[←ht,List.drop_set,if_neg (by omega),List.take_set,show o+j - o=j by omega]
theorem Own.OV{g o c:Nat}(h:Own w T size (.slice (some ⟨g,o,none⟩) n c) n xs):∃L,aq w g T L:=by
 rcases h.2 with⟨h0,_⟩ | ⟨g',o',c',L,hv,hb,_⟩
 ·cases h0
 ·injection hv with e1 _ _
  injection e1 with e1;injection e1 with e1 _;subst e1;exact⟨L,hb⟩
end
theorem jG{α:Type}(L:List α)(o:Nat)(cs:List α)(h:o+cs.length≤L.length):(splice L o cs).length=L.length:=length_splice L o cs h
theorem qM{α:Type}(L:List α)(o n:Nat)(xs cs:List α)(hx:(L.drop o).take n=xs)(hl:xs.length=n)(hf:o+n+cs.length≤L.length) :
  ((splice L (o+n) cs).drop o).take (n+cs.length)=xs++cs:=by
 have h1:L.take (o+n)=L.take o++xs:=by rw[←hx,List.take_add]
 have h2:(L.take o).length=o:=by rw[WG];omega
 unfold splice;rw[h1,WA,Wh (by omega),List.drop_of_length_le (by omega),WJ];rw[←WA,List.take_append_of_le_length (by simp;omega),VV (by simp;omega)]
section
variable{P:Program}(w:World)
theorem dW{g:Nat}{t:TypeId}{L:List Value}(o:Nat)(vs:List Value)(hg:aq w g t L)(hf:o+vs.length≤L.length)(h1:∀v∈vs,v.oneCell'=true) :
  (storeCells ⟨g,o,none⟩ vs).run P w=.ok () (w.setRow g (splice L o vs).toArray):=by
 have h:=run_storeCells_at P g o t vs 0 L.toArray w hg (by simpa using hf) h1;rw[h];simp[splice]
theorem lS(t ty e:TypeId)(i:TypeInfo)(z:Value)(size bytes:Nat)(ht:P.underlying t=some (.slice e))(hi:P.info? e=some i)(hz:i.zero=some z)
  (hsize:i.size=size) (hby:i.bytes=bytes) (hzs:z.cells.size=size) (hsz:0 < size)
  (v:Value) (n:Nat) (xs:List Value) (hown:Own w e size v n xs)
  (a:Addr) (m c:Nat) (news:List Value) (hl:news.length=m*size) (hnews:∀j u,news[j]?=some u→w.cell? (a.add j)=some u) (h1:∀u∈news,u.oneCell'=true)
  (h63:n+m≤maxLen) (hbytes:(n+m)*bytes≤140737488355328) :
  ∃A' c' w',(Builtin.append_ #[t,t] ty #[v,.slice (some a) m c]).run P w=.ok (.slice A' (n+m) c') w'∧Own w' e size (.slice A' (n+m) c') (n+m) (xs++news)∧ah v.ownBlock.toList w w'∧
   ((VO A' (n+m) c').ownBlock=v.ownBlock∨∃k,(VO A' (n+m) c').ownBlock=some k∧w.heap.size≤k):=by
 have fin:∀(v':Value) (w':World),(Builtin.append_ #[t,t] ty #[v,.slice (some a) m c]).run P w=.ok v' w'→Own w' e size v' (n+m) (xs++news)→ah v.ownBlock.toList w w'→
   (v'.ownBlock=v.ownBlock∨∃k,v'.ownBlock=some k∧w.heap.size≤k)→∃A' c' w',(Builtin.append_ #[t,t] ty #[v,.slice (some a) m c]).run P w=.ok (.slice A' (n+m) c') w'∧Own w' e size (.slice A' (n+m) c') (n+m) (xs++news)∧ah v.ownBlock.toList w w'∧
   ((VO A' (n+m) c').ownBlock=v.ownBlock∨∃k,(VO A' (n+m) c').ownBlock=some k∧w.heap.size≤k):=by
  intro v' w' r1 r2 r3 r4;obtain⟨A',c',rfl,_,_⟩:=r2.form;exact⟨A',c',w',r1,r2,r3,r4⟩
 rcases hown.2 with⟨rfl,rfl⟩ | ⟨g,o,cap,L,rfl,hg,hnc,hcm,hcL,hxs⟩
 ·obtain rfl:xs=[]:=VJ (by simpa using hown.1)
  obtain⟨v',w',hrun,r1,r2,r3⟩:=run_append_own (P:=P) w w.heap.size t ty e i z size bytes ht hi hz hsize hby hzs hsz (.slice none 0 0) 0 [] (World.ownsRow_nil w _ e size) a m c news hl hnews h1 h63 hbytes (VK _);refine fin v' w' hrun (Own.JI r1) (ah.zQ r2) ?_;cases hb:v'.ownBlock with
  |none=>exact .inl rfl
  |some k=>exact .inr ⟨k,rfl,(r1.lt k hb).1⟩
 ·by_cases hr:n+m≤cap
  ·have hml:n*size+m*size≤cap*size:=by rw[←Wy];exact VZ _ hr
   have hst:=dW (P:=P) w (o+n*size) news hg (by omega) h1;have hfc:=run_firstCells_some (P:=P) w size m a m c news hl hnews;refine fin (.slice (some ⟨g,o,none⟩) (n+m) cap) (w.setRow g (splice L (o+n*size) news).toArray) ?_ ⟨by rw[List.length_append,hown.1,hl,Wy],.inr ⟨g,o,cap,_,rfl,hg.row _,hr,hcm,?_,?_⟩⟩ ?_ (.inl rfl)
   ·simp[Builtin.append_,run_underlying ht,sizeOf,typeInfo,hi,Builtin.lenOf,hr,hfc,Addr.add_lit,hsize,hst]
   ·rw[jG _ _ _ (by omega)];exact hcL
   ·rw[Wy,←hl];exact qM L o (n*size) xs news hxs hown.1 (by omega)
   ·exact(ah.refl _ _).setRow (.inl (by simp[VI])) _
  ·have holds:∀j u,xs[j]?=some u→w.cell? ((⟨g,o,none⟩:Addr).add j)=some u:=hown.ja
   obtain⟨v',w',hrun,r1,r2⟩:=run_append_arg_grows (P:=P) w t ty e i z size bytes ht hi hz hsize hby hzs hsz ⟨g,o,none⟩ n cap xs hown.1 holds a m c news hl hnews (by omega) h63 hbytes;refine fin v' w' hrun (Own.JI r1) ((ah.zQ r2).mono (by simp)) ?_;rcases r1.2 with⟨rfl,hnm⟩ | ⟨g',cap',cur,rfl,hb,_⟩
   ·omega
   ·exact .inr ⟨g',rfl,hb⟩
theorem vm{o:Oper}{a:Act}{K:Act→World→Prop}{Q:Exit→Act→World→Prop}(s x:Operand)(t:TypeId)
  (ho:o.op=.call { callee:=.builtin .append,args:=#[s,x],argTypes:=#[t,t] })
  (e:TypeId) (i:TypeInfo) (z:Value) (size bytes:Nat) (ht:P.underlying t=some (.slice e)) (hi:P.info? e=some i) (hz:i.zero=some z)
  (hsize:i.size=size) (hby:i.bytes=bytes) (hzs:z.cells.size=size) (hsz:0 < size)
  (v:Value) (n:Nat) (xs:List Value) (hs:a.eval s=v) (hown:Own w e size v n xs)
  (ad:Addr) (m c:Nat) (news:List Value) (hx:a.eval x=.slice (some ad) m c) (hl:news.length=m*size) (hnews:∀j u,news[j]?=some u→w.cell? (ad.add j)=some u) (h1:∀u∈news,u.oneCell'=true)
  (h63:n+m≤maxLen) (hbytes:(n+m)*bytes≤140737488355328)
  (h:∀A' c' w',Own w' e size (.slice A' (n+m) c') (n+m) (xs++news)→ah v.ownBlock.toList w w'→
   ((VO A' (n+m) c').ownBlock=v.ownBlock∨∃k,(VO A' (n+m) c').ownBlock=some k∧w.heap.size≤k)→K (a.put o.dst (.slice A' (n+m) c')) w'):o.wp P a w K Q:=by
 obtain⟨A',c',w',hrun,h2,h3,h4⟩:=lS (P:=P) w t o.type e i z size bytes ht hi hz hsize hby hzs hsz v n xs hown ad m c news hl hnews h1 h63 hbytes;unfold Oper.wp execOp;simp only[ho,resolve,invoke,builtin,Wr,Wq,Wb,WE,Wn,Xb,hs,hx,hrun];exact h A' c' w' h2 h3 h4
theorem dz{ops:Array Oper}{rest:List Oper}{o:Oper}{a:Act}{Q:Exit→Act→World→Prop}(hgd:o.guard=none)(s x:Operand)(t:TypeId)
  (ho:o.op=.call { callee:=.builtin .append,args:=#[s,x],argTypes:=#[t,t] })
  (e:TypeId) (i:TypeInfo) (z:Value) (size bytes:Nat) (ht:P.underlying t=some (.slice e)) (hi:P.info? e=some i) (hz:i.zero=some z)
  (hsize:i.size=size) (hby:i.bytes=bytes) (hzs:z.cells.size=size) (hsz:0 < size)
  (v:Value) (n:Nat) (xs:List Value) (hs:a.eval s=v) (hown:Own w e size v n xs)
  (ad:Addr) (m c:Nat) (news:List Value) (hx:a.eval x=.slice (some ad) m c) (hl:news.length=m*size) (hnews:∀j u,news[j]?=some u→w.cell? (ad.add j)=some u) (h1:∀u∈news,u.oneCell'=true)
  (h63:n+m≤maxLen) (hbytes:(n+m)*bytes≤140737488355328)
  (h:∀A' c' w',Own w' e size (.slice A' (n+m) c') (n+m) (xs++news)→ah v.ownBlock.toList w w'→
   ((VO A' (n+m) c').ownBlock=v.ownBlock∨∃k,(VO A' (n+m) c').ownBlock=some k∧w.heap.size≤k)→wpList P ops Q rest (a.put o.dst (.slice A' (n+m) c')) w'):wpList P ops Q (o::rest) a w:=
 wpList_plain hgd fun _ hK=>vm w s x t ho e i z size bytes ht hi hz hsize hby hzs hsz v n xs hs hown ad m c news hx hl hnews h1 h63 hbytes fun A' c' w' h2 h3 h4=>hK _ _ (h A' c' w' h2 h3 h4)
theorem xB(dT sT ty elem:TypeId)(size:Nat)(hu:P.underlying dT=some (.slice elem))(hs:(P.info? elem).map (·.size)=some size)
  (g o dLen dCap:Nat) (L:List Value) (t:TypeId) (hg:aq w g t L) (sp:Option Addr) (sLen sCap:Nat) (cs:List Value) (hn:cs.length=Xe sLen dLen*size)
  (hsrc:0 < cs.length→∃ad,sp=some ad∧∀j v,cs[j]?=some v→w.cell? (ad.add j)=some v) (hfit:o+cs.length≤L.length) (h1:∀v∈cs,v.oneCell'=true) :
  (Builtin.copy_ #[dT,sT] ty #[.slice (some ⟨g,o,none⟩) dLen dCap,.slice sp sLen sCap]).run P w=
   .ok (goInt (Xe sLen dLen)) (w.setRow g (splice L o cs).toArray):=by
 have hst:=dW (P:=P) w o cs hg hfit h1;have hfc:(Builtin.firstCells size (Xe sLen dLen) (.slice sp sLen sCap)).run P w=.ok cs.toArray w:=by
  by_cases h0:0 < cs.length
  ·obtain⟨ad,rfl,hc⟩:=hsrc h0
   exact run_firstCells_some (P:=P) w size _ ad _ _ cs hn hc
  ·obtain rfl:cs=[]:=VJ (by omega)
   cases sp with
   |none=>simp[Builtin.firstCells]
   |some ad=>exact run_firstCells_some (P:=P) w size _ ad _ _ [] hn (by simp)
 cases hq:P.info? elem with
 |none=>simp[hq]at hs
 |some i=>
  have hi:i.size=size:=by simpa[hq]using hs
  simp[Builtin.copy_,run_underlying hu,Builtin.lenOf,sizeOf,typeInfo,hq,hi,hfc,hst]
end
theorem eW{P:Program}{ops:Array Oper}{Q:Exit→Act→World→Prop}{rest:List Oper}{a:Act}{w:World}{dst:Option Tmp}{args:Array Operand}{ats:Array TypeId}{ty:TypeId}{pos:String}{aft:Array Edge}{gd:Option (Nat×Bool)}
  (h:wpList P ops Q ({ dst:=dst,op:=.call { callee:=.builtin .append,args:=args,argTypes:=ats },type:=ty,pos:=pos,after:=aft,guard:=gd }::rest) a w) :
  wpList P ops Q ({ dst:=dst,op:=.call { callee:=.builtin .append,args:=args,argTypes:=ats },type:=ty,pos:=pos,after:=aft,guard:=gd }::rest) a w:=h
open Go Go.RowKit
section
variable{P:Program}(w:World)
theorem nG(t ty e:TypeId)(size:Nat)(ht:P.underlying t=some (.slice e))(hs:(P.info? e).map (·.size)=some size)
  (g o n c:Nat) (L:List Value) (T:TypeId) (hg:aq w g T L) (sp:Option Addr) (m sc:Nat) (news:List Value) (hl:news.length=m*size)
  (hsrc:0 < news.length→∃ad,sp=some ad∧∀j v,news[j]?=some v→w.cell? (ad.add j)=some v) (h1:∀v∈news,v.oneCell'=true) (hroom:n+m≤c) (hfit:o+n*size+news.length≤L.length) :
  (Builtin.append_ #[t,t] ty #[.slice (some ⟨g,o,none⟩) n c,.slice sp m sc]).run P w=.ok (.slice (some ⟨g,o,none⟩) (n+m) c) (w.setRow g (splice L (o+n*size) news).toArray):=by
 have hst:=dW (P:=P) w (o+n*size) news hg hfit h1;have hfc:(Builtin.firstCells size m (.slice sp m sc)).run P w=.ok news.toArray w:=by
  by_cases h0:0 < news.length
  ·obtain⟨ad,rfl,hc⟩:=hsrc h0
   exact run_firstCells_some (P:=P) w size _ ad _ _ news hl hc
  ·obtain rfl:news=[]:=VJ (by omega)
   cases sp with
   |none=>simp[Builtin.firstCells]
   |some ad=>exact run_firstCells_some (P:=P) w size _ ad _ _ [] hl (by simp)
 cases hq:P.info? e with
 |none=>simp[hq]at hs
 |some i=>
  have hi:i.size=size:=by simpa[hq]using hs
  simp[Builtin.append_,run_underlying ht,sizeOf,typeInfo,hq,Builtin.lenOf,hroom,hfc,Addr.add_lit,hi,hst]
end
open Go Go.RowKit
theorem Own.made(w:World)(T:TypeId)(size n c:Nat)(cs:List Value)(hn:n≤c)(hm:c≤maxLen)(hl:cs.length=c*size):Own (w.alloc (.cells cs.toArray T)) T size (.slice (some ⟨w.heap.size,0,none⟩) n c) n (cs.take (n*size)):=by have hle:n*size≤c*size:=VZ _ hn;exact⟨by rw[WG];omega,.inr ⟨_,0,c,cs,rfl,by simpa using aq.new w T cs.toArray,hn,hm,by omega,by simp⟩⟩
open Go Go.Sort
section
variable{P:Program}{ops:Array Oper}{md:Region.Mode}{C:World→Prop}
end
open Go Go.RowKit Go.Lib Go.Sort
theorem yy{P:Program}{f:FuncId}{args:Array Value}{v:Value}(h:∀W,Calls P f args W fun e w'=>e=.returned v∧ah [] W w')(w:World)(d:Nat)(os:Array Obj) :
  Calls P f args (grow (redrawn w d) os) fun e w''=>e=.returned v∧∃p:Regrown,w''=grow (redrawn w p.d) p.os:=
 Calls.regrown_of ((h _).mono fun _ _ ⟨h1,h2⟩=>⟨h1,h2.below (by simp) (VK _)⟩)
theorem aq.eO(w:World)(t:TypeId)(cs:Array Value){g:Nat}(h:w.heap.size=g):aq (w.alloc (.cells cs t)) g t cs.toList:=by subst h;exact aq.new w t cs
theorem gH{w w':World}(h:∃p:Regrown,w'=grow (redrawn w p.d) p.os):ah [] w w':=by obtain⟨p,rfl⟩:=h;exact ah.df (below_regrown w p.d p.os)
theorem ah.MQ{a w:World}(h:ah [] a w){g:Nat}(hg:a.heap.size≤g)(i:Nat)(u:Value):ah [] a (w.setCell ⟨g,i,none⟩ u):=h.setCell (.inr hg) u
section
variable{P:Program}{ops:Array Oper}{C:World→Prop}
theorem kA{Q:Act→Prop}{a:Act}{o:Oper}{rest:List Oper}(hw:Region.wanted o (yielded ops a.tmps)=true)(ty:TypeId)(x:Operand)(ho:o.op=.load ty x)
  (b off:Nat) (hx:a.eval x=.pointer (some ⟨b,off,none⟩)) (cs:List Value) (d:TypeDesc) (hc:∀W,C W→W.rangeAt b off cs)
  (hu:P.underlying ty=some d) (hd:d.isRow=true) (hi:(P.info? ty).map (·.size)=some cs.length)
  (h:wpQuiet P ops C Q rest (a.put o.dst (.agg cs.toArray))):wpQuiet P ops C Q (o::rest) a:=by
 refine wpQuiet_step fun K hK=>?_;rw[if_pos hw];refine⟨_,fun W hW=>?_,hK _ h⟩;unfold Oper.quietAt execOp;simp only[ho,hx,WX,WN,Wr,Wq,Wb,run_loadVar_mid W b off ty cs d (hc W hW) hu hd hi];exact⟨rfl,rfl⟩
theorem oh{a:Act}{o:Oper}{K:Act→Prop}(ty:TypeId)(x:Operand)(ho:o.op=.load ty x)
  (b off:Nat) (hx:a.eval x=.pointer (some ⟨b,off,none⟩)) (cs:List Value) (d:TypeDesc) (hc:∀W,C W→W.rangeAt b off cs)
  (hu:P.underlying ty=some d) (hd:d.isRow=true) (hi:(P.info? ty).map (·.size)=some cs.length)
  (h:K (a.put o.dst (.agg cs.toArray))):o.quiet P a C K:=by
 refine⟨_,fun W hW=>?_,h⟩;unfold Oper.quietAt execOp;simp only[ho,hx,WX,WN,Wr,Wq,Wb,run_loadVar_mid W b off ty cs d (hc W hW) hu hd hi];exact⟨rfl,rfl⟩
theorem aq.ni{w:World}{g:Nat}{t:TypeId}{cs:List Value}(hb:aq w g t cs)(off:Nat)(ds:List Value)(hd:∀j v,ds[j]?=some v→cs[off+j]?=some v):∀W,(∃p:Regrown,W=grow (redrawn w p.d) p.os)→W.rangeAt g off ds:=by rintro W hW j v hv;exact(hb.aD (gH hW) (by simp)).cell_of (hd j v hv)
theorem aq.sY{w:World}{g:Nat}{t:TypeId}{cs:List Value}(hb:aq w g t cs):∀W,(∃p:Regrown,W=grow (redrawn w p.d) p.os)→W.rangeAt g 0 cs:=
 hb.ni 0 cs fun j v hv=>by rw[Ws];exact hv
end
open Go.RowKit Go.Lib
structure Acc(w0 w:World)(T:TypeId)(size:Nat)(v:Value)(n:Nat)(xs:List Value):Prop where
 own:Own w T size v n xs
 new:∀k,v.ownBlock=some k→w0.heap.size≤k
 aD:ah [] w0 w
theorem Acc.later{w0 w w':World}{T:TypeId}{size n:Nat}{v:Value}{xs:List Value}(h:Acc w0 w T size v n xs)(hc:ah [] w w'):Acc w0 w' T size v n xs:=
 ⟨h.own.aD hc (by simp),h.new,h.aD.trans hc⟩
theorem Acc.alloc{w0 w:World}{T:TypeId}{size n:Nat}{v:Value}{xs:List Value}(h:Acc w0 w T size v n xs)(o:Obj):Acc w0 (w.alloc o) T size v n xs:=h.later ((ah.refl [] w).alloc o)
theorem Acc.nil(w0:World)(T:TypeId)(size:Nat){w:World}(h:ah [] w0 w):Acc w0 w T size (.slice none 0 0) 0 []:=⟨Own.nil _ _ _,by simp[VI],h⟩
theorem Acc.append{w0 w w':World}{T:TypeId}{size n m:Nat}{v v':Value}{xs ys:List Value}(h:Acc w0 w T size v n xs)(ho:Own w' T size v' m ys)(hc:ah v.ownBlock.toList w w')
  (hb:v'.ownBlock=v.ownBlock∨∃k,v'.ownBlock=some k∧w.heap.size≤k):Acc w0 w' T size v' m ys:=by
 refine⟨ho,?_,h.aD.seq hc ?_⟩
 ·intro k hk
  rcases hb with hb|⟨j,hj,hj2⟩
  ·exact h.new k (hb ▸ hk)
  ·rw[hj]at hk;injection hk with hk;have:=h.aD.size;omega
 ·intro x hx
  have:=h.new x (by simpa using hx);exact .inr this
theorem Acc.GF{w0 w w':World}{T t:TypeId}{size n g:Nat}{v:Value}{xs cs:List Value}(h:Acc w0 w T size v n xs)(hc:ah v.ownBlock.toList w w')(hg:aq w g t cs)(hne:T≠t):aq w' g t cs:=
 hg.aD hc (by intro hm;exact h.own.Ez hg hne (by simpa using hm))
theorem bT(p:Prop) [Decidable p](h:p):Xc (decide p)=.bool true:=by rw[decide_eq_true h]
theorem bF(p:Prop) [Decidable p](h:¬p):Xc (decide p)=.bool false:=by rw[decide_eq_false h]
theorem dR{a b:Nat}(h:Nat.ble a b=true):a≤b:=Nat.le_of_ble_eq_true h
abbrev pt(g o:Nat):Value:=.pointer (some ⟨g,o,none⟩)
abbrev Rn(w:World)(v:Value)(e:Ending)(w':World):Prop:=e=.returned v∧ah [] w w'
theorem uh{i:Nat}(h:i≤4611686018427387904):WC .i64 (IntKind.i64.wrap ((i:Int)+1))=.int .i64 ((i+1:Nat):Int):=by rw[IntWalk.i64_in _ (by omega)];rfl
def dt(b:Bool)(X T:Prop):Prop:=match b with
 |true=>T
 |false=>X∧T
theorem dt.mk{b:Bool}{X T:Prop}(hx:b=false→X)(ht:T):dt b X T:=by
 cases b
 ·exact⟨hx rfl,ht⟩
 ·exact ht
def ir(b:Bool)(X Y:Prop):Prop:=match b with
 |true=>X
 |false=>Y
theorem ir.mk{b:Bool}{X Y:Prop}(hx:b=true→X)(hy:b=false→Y):ir b X Y:=by
 cases b
 ·exact hy rfl
 ·exact hx rfl
def an(n i:Nat):Nat:=n / 2^(120 - 8*i)%256
def ei(n k:Nat):Nat:=n / 2^(128 - k)*2^(128 - k)
def fi(k i x:Nat):Nat:=if k≤8*i then 0 else if k < 8*i+8 then x / 2^(8*i+8 - k)*2^(8*i+8 - k)else x
theorem bH(n i:Nat):an n i < 256:=WD _ (by omega)
theorem jb(n i j:Nat):(an n i).testBit j=(decide (j < 8)&&n.testBit (120 - 8*i+j)):=by unfold an;rw[show(256:Nat)=2^8 by rfl,Nat.testBit_mod_two_pow,VT,Wg]
theorem dO(n k j:Nat):(ei n k).testBit j=(decide (128 - k≤j)&&n.testBit j):=by
 unfold ei;rw[Wp,VT];by_cases h:128 - k≤j
 ·rw[show j - (128 - k)+(128 - k)=j by omega]
 ·simp[h]
theorem qw(n k i:Nat)(hi:i < 16)(hk:k≤128):an (ei n k) i=fi k i (an n i):=by
 apply VH;intro j;rw[jb,dO];unfold fi;by_cases h1:k≤8*i
 ·rw[if_pos h1,Nat.zero_testBit]
  by_cases h:j < 8
  ·have:¬(128 - k≤120 - 8*i+j):=by omega
   simp[this]
  ·simp[h]
 ·rw[if_neg h1]
  by_cases h2:k < 8*i+8
  ·rw[if_pos h2,Wp,VT]
   by_cases h3:8*i+8 - k≤j
   ·rw[show j - (8*i+8 - k)+(8*i+8 - k)=j by omega,jb]
    have:128 - k≤120 - 8*i+j:=by omega
    simp[h3,this]
   ·have:¬(128 - k≤120 - 8*i+j):=by omega
    simp[h3,this]
  ·rw[if_neg h2,jb]
   by_cases h:j < 8
   ·have:128 - k≤120 - 8*i+j:=by omega
    simp[this]
   ·simp[h]
theorem lq{n m:Nat}(hn:n < 2^128)(hm:m < 2^128)(h:∀i,i < 16→an n i=an m i):n=m:=by
 apply VH;intro j;by_cases hj:j < 128
 ·have h1:=h (15 - j / 8) (by omega)
  have h2:(an n (15 - j / 8)).testBit (j%8)=(an m (15 - j / 8)).testBit (j%8):=by rw[h1]
  rw[jb,jb]at h2;have e:120 - 8*(15 - j / 8)+j%8=j:=by omega
  have l:j%8 < 8:=by omega
  rw[e]at h2;simpa[l]using h2
 ·rw[VP (VG hn (VQ (by omega) (by omega))),VP (VG hm (VQ (by omega) (by omega)))]
theorem zW(n k:Nat):ei n k≤n:=Wx _ _
theorem Gw(n:Nat):ei n 128=n:=by simp[ei]
theorem CC(n a b:Nat):ei (ei n a) b=ei n (min a b):=by apply VH;intro j;rw[dO,dO,dO,←Bool.and_assoc];congr 1;by_cases h1:128 - a≤j<;>by_cases h2:128 - b≤j<;>simp[h1,h2]<;>omega
def Ea(n m k:Nat):Bool:=decide (n / 2^(128 - k)=m / 2^(128 - k))
theorem Cf(n m k:Nat):Ea n m k=decide (ei n k=ei m k):=by
 unfold Ea ei;have hp:0 < 2^(128 - k):=Nat.pos_of_ne_zero (by simp);by_cases h:n / 2^(128 - k)=m / 2^(128 - k)
 ·rw[decide_eq_true h,decide_eq_true (by rw[h])]
 ·rw[decide_eq_false h,decide_eq_false (fun h2=>h (Nat.eq_of_mul_eq_mul_right hp h2))]
theorem Cg(n m k:Nat)(hn:n < 2^128)(hm:m < 2^128):Ea n m k=true↔∀j,128 - k≤j→j < 128→n.testBit j=m.testBit j:=by
 rw[Cf,decide_eq_true_eq];constructor
 ·intro h j h1 h2
  have h3:(ei n k).testBit j=(ei m k).testBit j:=by rw[h]
  rw[dO,dO]at h3;simpa[h1]using h3
 ·intro h
  apply VH;intro j;rw[dO,dO];by_cases h1:128 - k≤j
  ·by_cases h2:j < 128
   ·rw[h j h1 h2]
   ·rw[VP (VG hn (VQ (by omega) (by omega))),VP (VG hm (VQ (by omega) (by omega)))]
  ·simp[h1]
def wid(v:Bool):Nat:=if v then 128 else 32
theorem nU(v:Bool):wid v≤128:=by cases v<;>decide
def vr(v:Bool)(n:Nat):Bool:=decide (ei n (wid v)=n)
def gv(v:Bool)(n:Nat)(k:Int):Bool:=decide (0≤k)&&decide (k≤wid v)&&decide (ei n k.toNat=n)
section Tree
variable{va vb:Bool}{a b ka kb:Nat}
theorem zP(v:Bool)(n:Nat)(k:Nat)(h:k≤wid v):vr v (ei n k)=true:=by unfold vr;rw[decide_eq_true_eq,CC,WQ h]
variable(n k m:Nat)
end Tree
theorem Hp(f:Nat→Nat)(hf:∀i,f i < 256):∃n,n < 2^128∧∀i,i < 16→an n i=f i:=by
 have key:∀j,j≤16→∃n,n < 2^(8*j)∧∀i,i < j→n / 2^(8*(j - 1 - i))%256=f i:=by
  intro j;induction j with
  |zero=>intro _;exact⟨0,by decide,fun i hi=>by omega⟩
  |succ j ih=>
   intro hj;obtain⟨n,hn,hb⟩:=ih (by omega);refine⟨256*n+f j,?_,fun i hi=>?_⟩
   ·have e:2^(8*(j+1))=256*2^(8*j):=by rw[show 8*(j+1)=8*j+8 by omega,Xd];omega
    have:=hf j;omega
   ·by_cases h:i=j
    ·subst h
     have:=hf i;simp;omega
    ·have h2:=hb i (by omega)
     rw[show 8*(j+1 - 1 - i)=8+8*(j - 1 - i)by omega,Xd,←Nat.div_div_eq_div_mul];rw[show(256*n+f j) / 2^8=n by have:=hf j; omega];exact h2
 obtain⟨n,hn,hb⟩:=key 16 (VK _);refine⟨n,hn,fun i hi=>?_⟩;have:=hb i hi;unfold an;rw[show 120 - 8*i=8*(16 - 1 - i)by omega];exact this
def sig(d:Nat):UInt8:=UInt8.ofNat (if d < 10 then 48+d else 87+d)
def nB(c:UInt8):Nat:=if c.toNat < 58 then c.toNat - 48 else c.toNat - 87
def ao(b u:Nat):List UInt8:=if _h:u < b∨b < 2 then [sig u] else ao b (u / b)++[sig (u%b)]
termination_by u
decreasing_by exact Wk (by omega) (by omega)
theorem aX{b u:Nat}(h:u < b):ao b u=[sig u]:=by rw[ao,dif_pos (.inl h)]
theorem dB{b u:Nat}(hb:2≤b)(h:¬u < b):ao b u=ao b (u / b)++[sig (u%b)]:=by rw[ao,dif_neg (by omega)]
theorem AU:∀d:Fin 16,nB (sig d.val)=d.val:=by decide
theorem pT{d:Nat}(h:d < 16):nB (sig d)=d:=AU ⟨d,h⟩
theorem zr:∀d:Fin 16,(sig d.val).toNat=if d.val < 10 then 48+d.val else 87+d.val:=by decide
theorem eZ{d:Nat}(h:d < 16):(sig d).toNat=if d < 10 then 48+d else 87+d:=zr ⟨d,h⟩
theorem mD(u:Nat):ao 10 u=Lib.decDigits u:=by
 induction u using Wj with
 |_ u ih=>
  by_cases h:u < 10
  ·rw[aX h,Lib.decDigits,dif_pos h];unfold sig;rw[if_pos h]
  ·rw[dB (by omega) h,Lib.decDigits,dif_neg h,ih (u / 10) (by omega)]; unfold sig; rw[if_pos (by omega)]
theorem iW{b:Nat}(h2:2≤b):∀(u:Nat) (c:UInt8),c∈ao b u→∃d,d < b∧c=sig d:=by
 intro u;induction u using Wj with
 |_ u ih=>
  intro c hc;by_cases h:u < b
  ·rw[aX h,Wz]at hc;exact⟨u,h,hc⟩
  ·rw[dB h2 h,WK,Wz]at hc
   rcases hc with hc|hc
   ·exact ih (u / b) (Wk (by omega) (by omega)) c hc
   ·exact⟨u%b,WD _ (by omega),hc⟩
theorem js{b:Nat}(u:Nat):ao b u≠[]:=by rw[ao];split<;>simp
def nE(b:Nat)(l:List UInt8):Nat:=l.foldl (fun a c=>b*a+nB c) 0
theorem qf(b:Nat)(l:List UInt8)(c:UInt8):nE b (l++[c])=b*nE b l+nB c:=by simp[nE]
theorem iF{b:Nat}(h2:2≤b)(h16:b≤16)(u:Nat):nE b (ao b u)=u:=by
 induction u using Wj with
 |_ u ih=>
  by_cases h:u < b
  ·rw[aX h];simp[nE,pT (by omega:u < 16)]
  ·rw[dB h2 h,qf,ih (u / b) (Wk (by omega) (by omega)),pT (VG (WD _ (by omega)) h16)]
   exact Nat.div_add_mod u b
theorem AT{b u v:Nat}(h2:2≤b)(h16:b≤16)(h:ao b u=ao b v):u=v:=by rw[←iF h2 h16 u,h,iF h2 h16]
theorem yk{b:Nat}(hb:1≤b)(l:List UInt8):∀a,a≤l.foldl (fun a c=>b*a+nB c) a:=by
 induction l with
 |nil=>intro a;exact VK _
 |cons c l ih=>intro a;rw[List.foldl_cons];refine Wt ?_ (ih _);have:1*a≤b*a:=VZ a hb;omega
theorem Ir{b:Nat}(hb:1≤b)(l:List UInt8)(k:Nat):nE b (l.take k)≤nE b l:=by
 have h:nE b l=(l.drop k).foldl (fun a c=>b*a+nB c) (nE b (l.take k)):=by
  conv=>lhs;rw[←VW k l]
  simp only[nE,List.foldl_append]
 rw[h];exact yk hb _ _
theorem Is{b:Nat}(l:List UInt8)(k:Nat)(c:UInt8)(hc:l[k]?=some c):nE b (l.take (k+1))=b*nE b (l.take k)+nB c:=by rw[List.take_add_one,hc];exact qf b _ c
theorem iX{u:Nat}(h:u < 65536):(ao 16 u).length≤4:=by
 by_cases h1:u < 16
 ·rw[aX h1];simp
 ·rw[dB (by omega) h1]
  by_cases h2:u / 16 < 16
  ·rw[aX h2];simp
  ·rw[dB (by omega) h2]
   by_cases h3:u / 16 / 16 < 16
   ·rw[aX h3];simp
   ·rw[dB (by omega) h3,aX (by omega)];simp
theorem gA{u:Nat}(h:u < 1000):(ao 10 u).length≤3:=by
 by_cases h1:u < 10
 ·rw[aX h1];simp
 ·rw[dB (by omega) h1]
  by_cases h2:u / 10 < 10
  ·rw[aX h2];simp
  ·rw[dB (by omega) h2,aX (by omega)];simp
def Qa(c:UInt8):Prop:=c.toNat < 48∨c.toNat=58
theorem iD{b u:Nat}(h2:2≤b)(h16:b≤16){c:UInt8}(hc:Qa c):c∉ao b u:=by intro h;obtain⟨d,hd,rfl⟩:=iW h2 u c h;unfold Qa at hc;rw[eZ (by omega)]at hc;split at hc<;>omega
def aE(c:UInt8):List (List UInt8)→List UInt8
 | []=>[]
 | [x]=>x
 |x::y::r=>x++c::aE c (y::r)
theorem mw(c:UInt8):∀xs,Lib.join xs [c]=aE c xs
 | []=>rfl
 | [x]=>Lib.join_one x [c]
 |x::y::r=>by rw[aE,←mw c (y::r),Lib.join_cons,Lib.join_cons];simp[Lib.joinTail]
def aU(c:UInt8):List UInt8→List (List UInt8)
 | []=>[[]]
 |x::l=>if x=c then []::aU c l else
  match aU c l with
  | []=>[[x]]
  |p::ps=>(x::p)::ps
theorem mZ(c:UInt8)(l:List UInt8):aU c l≠[]:=by
 cases l with
 |nil=>simp[aU]
 |cons x l=>
  unfold aU;split
  ·simp
  ·split<;>simp
theorem ji(c:UInt8):∀l,c∉l→aU c l=[l]
 | [],_=>rfl
 |x::l,h=>by simp at h;unfold aU;rw[if_neg (fun e=>h.1 e.symm),ji c l h.2]
theorem gr(c:UInt8):∀(l m:List UInt8),c∉l→aU c (l++c::m)=l::aU c m
 | [],m,_=>by rw[WJ,aU,if_pos rfl]
 |x::l,m,h=>by simp at h;rw[List.cons_append,aU,if_neg (fun e=>h.1 e.symm),gr c l m h.2]
theorem rh(c:UInt8):∀l,aE c (aU c l)=l
 | []=>rfl
 |x::l=>by
  have ih:=rh c l;unfold aU;split
  ·rename_i h
   subst h;obtain⟨p,ps,hp⟩:=VR (mZ x l);rw[hp]at ih ⊢;rw[aE,ih];rfl
  ·split
   ·rename_i h;exact absurd h (mZ c l)
   ·rename_i p ps hp
    rw[hp]at ih;cases ps with
    |nil=>simp only[aE]at ih ⊢;rw[ih]
    |cons q qs=>simp only[aE]at ih ⊢;rw[←ih];rfl
theorem lN(c:UInt8):∀xs:List (List UInt8),xs≠[]→(∀x∈xs,c∉x)→aU c (aE c xs)=xs
 | [x],_,h=>ji c x (h x (by simp))
 |x::y::r,_,h=>by rw[aE,gr c x _ (h x (by simp)),lN c (y::r) (by simp) (fun z hz=>h z (by simp at hz ⊢;exact .inr hz))]
theorem zj(c:UInt8)(l:List UInt8)(k:Nat)(h:c∉l):Lib.splitK [c] 0 k l=[l]:=by
 cases k with
 |zero=>rfl
 |succ k=>
  unfold Lib.splitK;have:Lib.index l [c] = -1:=by
   rcases Lib.index_spec l [c]with⟨h1,_⟩ | ⟨i,_,_,h3,_⟩
   ·exact h1
   ·exfalso
    unfold Lib.occAt at h3;rw[VL]at h3;obtain⟨t,ht⟩:=h3;exact h (Wu (i:=i) (by rw[←ht];simp))
  rw[this];rfl
theorem oB(c:UInt8)(l m:List UInt8)(h:c∉l):Lib.index (l++c::m) [c]=l.length:=by
 refine Lib.index_first (by simp) (by simp[Lib.occAt]) fun j hj=>?_;rw[←VU];intro h3;unfold Lib.occAt at h3;rw[VL]at h3;obtain⟨t,ht⟩:=h3;rw[Wh (by omega)]at ht;cases hd:l.drop j with
 |nil=>rw[List.drop_eq_nil_iff]at hd;omega
 |cons y ys=>rw[hd]at ht;simp at ht;exact h (Wu (i:=j) (by rw[hd,ht.1];simp))
theorem uC(c:UInt8):∀l:List UInt8,c∈l→∃a b,l=a++c::b∧c∉a
 |x::l,h=>by
  by_cases hx:x=c
  ·subst hx;exact⟨[],l,rfl,by simp⟩
  ·simp only[WV]at h
   rcases h with h|h
   ·exact absurd h.symm hx
   ·obtain⟨a,b,rfl,ha⟩:=uC c l h
    exact⟨x::a,b,rfl,by simp[ha];exact fun e=>hx e.symm⟩
theorem sD:∀(n:Nat) (c:UInt8) (l:List UInt8),l.length≤n→Lib.split l [c]=aU c l
 | 0,c,l,h=>by have:l=[]:=VJ (by omega);subst this;rfl
 |n+1,c,l,h=>by
  by_cases hc:c∈l
  ·obtain⟨a,b,rfl,ha⟩:=uC c l hc
   rw[gr c a b ha];have h1:=oB c a b ha;have h2:Lib.count (a++c::b) [c]=1+Lib.count b [c]:=by rw[Lib.count_hit (by simp) h1];congr 2;rw[show a++c::b=(a++[c])++b by simp];exact VY (by simp)
   unfold Lib.split;rw[h2,Wg,Lib.splitK,h1];have h3:((a.length:Int) == -1)=false:=by rw[beq_eq_false_iff_ne]; omega
   rw[h3];simp only[Bool.false_eq_true,if_false,We,Nat.add_zero];rw[Wi rfl,show a++c::b=(a++[c])++b by simp,VY (by simp)];congr 1;exact sD n c b (by simp at h;omega)
  ·rw[ji c l hc]
   exact zj c l _ hc
def je(n i:Nat):Nat:=an n (2*i)*256+an n (2*i+1)
def bD(n:Nat):List Nat:=[je n 0,je n 1,je n 2,je n 3,je n 4,je n 5,je n 6,je n 7]
theorem Ky(n i:Nat):je n i < 65536:=by have h1:=bH n (2*i);have h2:=bH n (2*i+1);unfold je;omega
def lT:List Bool→Nat
 |true::l=>lT l+1
 |_=>0
theorem Ec:∀l,lT l≤l.length
 | []=>VK _
 |true::l=>by have:=Ec l;simp[lT];exact this
 |false::l=>by simp[lT]
def GP(z:List Bool):Nat→Nat→Nat→Nat→Nat×Nat
 | 0,_,f,t=>(f,t)
 |u+1,i,f,t=>if i < 8 then
   (if i+lT (z.drop i) - i > max (t - f) 1 then GP z u (max i (i+lT (z.drop i) - 1)+1) i (i+lT (z.drop i))else GP z u (max i (i+lT (z.drop i) - 1)+1) f t)
  else(f,t)
def fG(z:List Bool):Nat×Nat:=GP z 8 0 0 0
def Qp(z:List Bool):Nat→Nat→Nat→Nat→Nat×Nat
 | 0,_,a,l=>(a,l)
 |u+1,i,a,l=>if lT (z.drop i) > l then Qp z u (i+1) i (lT (z.drop i))else Qp z u (i+1) a l
def FO(z:List Bool):Nat×Nat:=Qp z 8 0 0 0
theorem Oo:∀z0 z1 z2 z3 z4 z5 z6 z7:Bool,
  fG [z0,z1,z2,z3,z4,z5,z6,z7]=(if 1 < (FO [z0,z1,z2,z3,z4,z5,z6,z7]).2 then((FO [z0,z1,z2,z3,z4,z5,z6,z7]).1,(FO [z0,z1,z2,z3,z4,z5,z6,z7]).1+(FO [z0,z1,z2,z3,z4,z5,z6,z7]).2)else(0,0))∧
  (FO [z0,z1,z2,z3,z4,z5,z6,z7]).1+(FO [z0,z1,z2,z3,z4,z5,z6,z7]).2≤8∧
  ((([z0,z1,z2,z3,z4,z5,z6,z7].take (fG [z0,z1,z2,z3,z4,z5,z6,z7]).2).drop (fG [z0,z1,z2,z3,z4,z5,z6,z7]).1).all id)=true:=by decide+kernel
def zs(l:List Nat):List Bool:=l.map (·==0)
def cH(l:List Nat):List UInt8:=aE 58 (l.map (ao 16))
def db(l:List Nat):List UInt8:=
 if(fG (zs l)).1=(fG (zs l)).2 then cH l else cH (l.take (fG (zs l)).1)++(58::58::cH (l.drop (fG (zs l)).2))
def gk(n:Nat):List UInt8:=aE 46 [ao 10 (an n 0),ao 10 (an n 1),ao 10 (an n 2),ao 10 (an n 3)]
def iI(v:Bool)(n:Nat):List UInt8:=if v then db (bD n)else gk n
theorem Dg(u:Nat):(58:UInt8)∉ao 16 u:=iD (by omega) (by omega) (.inr (by decide))
theorem Df(u:Nat):(46:UInt8)∉ao 10 u:=iD (by omega) (by omega) (.inl (by decide))
theorem yw(u:Nat):(58:UInt8)∉ao 10 u:=iD (by omega) (by omega) (.inr (by decide))
def NP(l:List UInt8):Prop:=∀j:Nat,l[j]?=some 58→∃c,l[j+1]?=some c∧c≠58
theorem ri(xs:List (List UInt8))(hn:xs≠[])(h:∀x∈xs,x≠[]∧(58:UInt8)∉x):∃c,(aE 58 xs)[0]?=some c∧c≠58:=by
 obtain⟨x,r,rfl⟩:=VR hn;obtain⟨h1,h2⟩:=h x (by simp);obtain⟨c,l,rfl⟩:=VR h1;refine⟨c,?_,fun e=>h2 (by simp[e])⟩;cases r with
 |nil=>simp[aE]
 |cons y r=>simp[aE]
theorem Au:∀xs:List (List UInt8),(∀x∈xs,x≠[]∧(58:UInt8)∉x)→NP (aE 58 xs)
 | [],_=>by intro j hj;simp[aE]at hj
 | [x],h=>by intro j hj;exact absurd (Wv hj) (h x (by simp)).2
 |x::y::r,h=>by
  intro j hj;rw[aE]at hj ⊢;have hr:∀z∈y::r,z≠[]∧(58:UInt8)∉z:=fun z hz=>h z (by simp at hz ⊢;exact .inr hz);by_cases h1:j < x.length
  ·rw[VM h1]at hj
   exact absurd (Wv hj) (h x (by simp)).2
  ·rw[VF (by omega)]at hj
   rw[VF (by omega)];by_cases h2:j=x.length
   ·rw[show j+1 - x.length=1 by omega]
    exact ri (y::r) (by simp) hr
   ·obtain⟨i,hi⟩:∃i,j - x.length=i+1:=⟨j - x.length - 1,by omega⟩
    rw[hi,Wo]at hj;rw[show j+1 - x.length=i+1+1 by omega,Wo];exact Au (y::r) hr i hj
theorem tF(s:List UInt8)(j:Nat):Lib.occAt s [58,58] j=true↔s[j]?=some 58∧s[j+1]?=some 58:=by
 unfold Lib.occAt;rw[VL];constructor
 ·rintro⟨t,ht⟩
  have h0:(s.drop j)[0]?=some 58:=by rw[←ht];rfl
  have h1:(s.drop j)[1]?=some 58:=by rw[←ht];rfl
  rw[VS]at h0 h1;exact⟨h0,h1⟩
 ·rintro⟨h0,h1⟩
  refine⟨s.drop (j+2),?_⟩;have e0:=(VE.1 h0);have e1:=(VE.1 h1);obtain⟨l0,e0⟩:=e0;obtain⟨l1,e1⟩:=e1;rw[VN l0,e0,VN l1,e1];rfl
theorem CR(l m:List UInt8)(h:NP l):Lib.index (l++58::58::m) [58,58]=l.length:=by
 refine Lib.index_first (by simp) ((tF _ _).2 ?_) fun j hj=>?_
 ·rw[VF (by omega),VF (by omega)]
  rw[show l.length - l.length=0 by omega,show l.length+1 - l.length=1 by omega];exact⟨rfl,rfl⟩
 ·rw[←VU,tF]
  rintro⟨h0,h1⟩;rw[VM hj]at h0;obtain⟨c,hc,hn⟩:=h j h0;have:j+1 < l.length:=(VE.1 hc).1;rw[VM this,hc]at h1;exact hn (by simpa using h1)
theorem yf(l:List UInt8)(h:NP l):Lib.index l [58,58] = -1:=by refine Lib.index_none fun j _=>?_;rw[←VU,tF];rintro⟨h0,h1⟩;obtain⟨c,hc,hn⟩:=h j h0;rw[hc]at h1;exact hn (by simpa using h1)
theorem tn(l:List Nat):∀x∈l.map (ao 16),x≠[]∧(58:UInt8)∉x:=by intro x hx;rw[Xa]at hx;obtain⟨u,_,rfl⟩:=hx;exact⟨js u,Dg u⟩
theorem At(l:List Nat):NP (cH l):=Au _ (tn l)
theorem As(l:List Nat)(h:l≠[]):aU 58 (cH l)=l.map (ao 16):=lN 58 _ (by simpa using h) fun x hx=>(tn l x hx).2
theorem GI(l:List Nat):cH l=[]↔l=[]:=by
 constructor
 ·intro h
  by_cases hl:l=[]
  ·exact hl
  ·obtain⟨c,hc,_⟩:=ri (l.map (ao 16)) (by simpa using hl) (tn l)
   unfold cH at h;rw[h]at hc;simp at hc
 ·intro h;subst h;rfl
theorem Hb(l:List Nat):Lib.cut (db l) [58,58]=if(fG (zs l)).1=(fG (zs l)).2 then(cH l,[],false)else(cH (l.take (fG (zs l)).1),cH (l.drop (fG (zs l)).2),true):=by
 unfold db;by_cases h:(fG (zs l)).1=(fG (zs l)).2
 ·rw[if_pos h,if_pos h]
  unfold Lib.cut;rw[yf _ (At l)];rfl
 ·rw[if_neg h,if_neg h]
  unfold Lib.cut;rw[CR _ _ (At _),if_pos (by omega)];simp only[We];rw[Wi rfl];congr 2;rw[show ∀a b:List UInt8,a++58::58::b=(a++[58,58])++b by simp];exact VY (by simp)
theorem Gs(c:UInt8)(x y:List UInt8)(r:List (List UInt8)):c∈aE c (x::y::r):=by simp[aE]
theorem Ba(x0 x1 x2 x3 x4 x5 x6 x7:Nat):(58:UInt8)∈db [x0,x1,x2,x3,x4,x5,x6,x7]:=by
 unfold db;split
 ·exact Gs _ _ _ _
 ·simp
theorem Dk(n:Nat):(58:UInt8)∈db (bD n):=Ba _ _ _ _ _ _ _ _
theorem fe{c d:UInt8}:∀{xs:List (List UInt8)},d∈aE c xs→d=c∨∃x∈xs,d∈x
 | [],h=>by simp[aE]at h
 | [x],h=>.inr ⟨x,by simp,h⟩
 |x::y::r,h=>by
  rw[aE,WK,WV]at h;rcases h with h|h|h
  ·exact .inr ⟨x,by simp,h⟩
  ·exact .inl h
  ·rcases fe h with h|⟨z,hz,h⟩
   ·exact .inl h
   ·exact .inr ⟨z,by simp at hz ⊢;exact .inr hz,h⟩
theorem Bb(n:Nat):(58:UInt8)∉gk n:=by
 intro h;rcases fe h with h|⟨x,hx,h⟩
 ·exact absurd h (by decide)
 ·simp at hx
  rcases hx with rfl|rfl|rfl|rfl<;>exact yw _ h
theorem zi(n:Nat):aU 46 (gk n)=[ao 10 (an n 0),ao 10 (an n 1),ao 10 (an n 2),ao 10 (an n 3)]:=by refine lN 46 _ (by simp) fun x hx=>?_;simp at hx;rcases hx with rfl|rfl|rfl|rfl<;>exact Df _
theorem Eu(s:List UInt8)(c:UInt8)(j:Nat):Lib.occAt s [c] j=true↔s[j]?=some c:=by
 unfold Lib.occAt;rw[VL];constructor
 ·rintro⟨t,ht⟩
  have h0:(s.drop j)[0]?=some c:=by rw[←ht];rfl
  rwa [VS]at h0
 ·intro h0
  obtain⟨l0,e0⟩:=VE.1 h0;exact⟨s.drop (j+1),by rw[VN l0,e0];rfl⟩
theorem AH(l:List Nat)(hl:l.length=8):(fG (zs l)).1≤(fG (zs l)).2∧(fG (zs l)).2≤8∧l.take (fG (zs l)).1++WR (8 - (l.take (fG (zs l)).1).length - (l.drop (fG (zs l)).2).length) 0++l.drop (fG (zs l)).2=l:=by
 obtain⟨x0,x1,x2,x3,x4,x5,x6,x7,rfl⟩:∃x0 x1 x2 x3 x4 x5 x6 x7,l=[x0,x1,x2,x3,x4,x5,x6,x7]:=by
  match l,hl with
  | [x0,x1,x2,x3,x4,x5,x6,x7],_=>exact⟨_,_,_,_,_,_,_,_,rfl⟩
 obtain⟨h1,h2,h3⟩:=Oo (x0==0) (x1==0) (x2==0) (x3==0) (x4==0) (x5==0) (x6==0) (x7==0);have hz:zs [x0,x1,x2,x3,x4,x5,x6,x7]=[x0==0,x1==0,x2==0,x3==0,x4==0,x5==0,x6==0,x7==0]:=rfl;rw[←hz]at h1 h2 h3;generalize hG:fG (zs [x0,x1,x2,x3,x4,x5,x6,x7])=G at*;obtain⟨f,t⟩:=G;have hft:f≤t∧t≤8:=by split at h1<;>simp only[Prod.mk.injEq]at h1<;>omega
 refine⟨hft.1,hft.2,?_⟩;simp only at h3 ⊢;have hmid:([x0,x1,x2,x3,x4,x5,x6,x7].take t).drop f=WR (t - f) 0:=by
  apply List.eq_replicate_iff.2;refine⟨by simp;omega,fun b hb=>?_⟩;have h4:(b==0)=true:=by rw[List.all_eq_true]at h3;refine h3 (b==0) ?_;unfold zs;rw[←List.map_take,←List.map_drop];exact Xa.2 ⟨b,hb,rfl⟩
  simpa using h4
 have e:[x0,x1,x2,x3,x4,x5,x6,x7]=([x0,x1,x2,x3,x4,x5,x6,x7].take t).take f++([x0,x1,x2,x3,x4,x5,x6,x7].take t).drop f++[x0,x1,x2,x3,x4,x5,x6,x7].drop t:=by rw[VW,VW]
 conv=>rhs;rw[e]
 rw[hmid,List.take_take,WQ hft.1];congr 3;simp;omega
def fI(f:Nat→Nat)(k n:Nat):Nat→Nat:=fun j=>if j=k then n else f j
structure PX where
 v:Bool
 n:Nat
 k:Nat
 ok:gv v n k=true
 lt:n < 2^128
theorem PX.ext'{x y:PX}(h1:x.v=y.v)(h2:x.n=y.n)(h3:x.k=y.k):x=y:=by cases x;cases y;simp only at h1 h2 h3;subst h1 h2 h3;rfl
instance:Inhabited PX:=⟨⟨false,0,0,by decide,by decide⟩⟩
instance:DecidableEq PX:=fun x y=>decidable_of_iff (x.v=y.v∧x.n=y.n∧x.k=y.k) ⟨fun h=>PX.ext' h.1 h.2.1 h.2.2,fun h=>by subst h;exact⟨rfl,rfl,rfl⟩⟩
theorem PX.mask(x:PX):ei x.n x.k=x.n:=by have h:=x.ok;unfold gv at h;simp only[WH,decide_eq_true_eq,We]at h;exact h.2
theorem PX.UB(x:PX):x.k≤wid x.v:=by have h:=x.ok;unfold gv at h;simp only[WH,decide_eq_true_eq]at h;omega
theorem PX.vr(x:PX):vr x.v x.n=true:=by have:=zP x.v x.n x.k x.UB;rwa [x.mask]at this
def PX.len(x:PX):Nat:=2^(128 - x.k)
def Vv(v:Bool):Nat:=if v then 2^128 else 0
def PX.lo(x:PX):Nat:=Vv x.v+x.n
def PX.hi(x:PX):Nat:=x.lo+x.len
def Lq(n i:Nat):Bool:=n.testBit (127 - i)
theorem Gv(n k:Nat):ei n k=n↔∀j,j < 128 - k→n.testBit j=false:=by
 constructor
 ·intro h j hj
  have:=dO n k j;rw[h,decide_eq_false (by omega),WU]at this;exact this
 ·intro h
  apply VH;intro j;rw[dO];by_cases hj:128 - k≤j
  ·rw[decide_eq_true hj,WY]
  ·rw[decide_eq_false hj,WU,h j (by omega)]
def Rr(n i:Nat):Nat:=n ^^^ (if Lq n i then 2^(127 - i)else 0)
theorem KX(n i j:Nat):(Rr n i).testBit j=(n.testBit j&&!decide (j=127 - i)):=by
 unfold Rr Lq;rw[Nat.testBit_xor];by_cases h:j=127 - i
 ·subst h
  cases hb:n.testBit (127 - i)<;>simp[Nat.testBit_two_pow_self]
 ·rw[decide_eq_false h]
  split
  ·rw[Nat.testBit_two_pow_of_ne (fun e=>h e.symm)];simp
  ·simp
def Cut(n k m x:Nat):Prop:=∀j,x.testBit j=(n.testBit j&&!(decide (128 - m≤j)&&decide (j < 128 - k)))
theorem Cut.start(n k:Nat):Cut n k k n:=fun j=>by
 by_cases h:128 - k≤j
 ·rw[decide_eq_false (p:=j < 128 - k) (by omega)]; simp
 ·rw[decide_eq_false h];simp
theorem Cut.step{n k m x:Nat}(h:Cut n k m x)(hk:k≤m)(hm:m < 128):Cut n k (m+1) (Rr x m):=fun j=>by
 rw[KX,h j];by_cases h1:j=127 - m
 ·subst h1
  rw[decide_eq_true rfl,decide_eq_true (p:=128 - (m+1)≤127 - m) (by omega),decide_eq_true (p:=127 - m < 128 - k) (by omega)]; simp
 ·rw[decide_eq_false h1]
  by_cases h2:128 - m≤j
  ·rw[decide_eq_true h2,decide_eq_true (p:=128 - (m+1)≤j) (by omega)]; simp
  ·rw[decide_eq_false h2,decide_eq_false (p:=128 - (m+1)≤j) (by omega)]; simp
theorem Cut.fin{v:Bool}{n k x:Nat}(h:Cut n k (wid v) x)(hA:vr v n=true)(_:k≤wid v):x=ei n k:=by
 have hw:=nU v;unfold vr at hA;rw[decide_eq_true_eq,Gv]at hA;apply VH;intro j;rw[h j,dO];by_cases h1:j < 128 - wid v
 ·rw[hA j h1];simp
 ·rw[decide_eq_true (p:=128 - wid v≤j) (by omega),WY]
  by_cases h2:j < 128 - k
  ·rw[decide_eq_true h2,decide_eq_false (p:=128 - k≤j) (by omega)]; simp
  ·rw[decide_eq_false h2,decide_eq_true (p:=128 - k≤j) (by omega)]; simp
def LL(n m i:Nat):Prop:=∀j,j < i→Lq n j=Lq m j
theorem LL.fin{n m k:Nat}(hn:n < 2^128)(hm:m < 2^128)(hk:k≤128)(h:LL n m k):Ea n m k=true:=by rw[Cg n m k hn hm];intro j h1 h2;have:=h (127 - j) (by omega);unfold Lq at this;rwa [show 127 - (127 - j)=j by omega]at this
end Go.Proofs.YtnncigmpcdehnaaGreatDoor
namespace Go.Proofs
open Go.Shelf
def Tryz.re:Go.Shelf.Ren:=⟨fun | 156=>87 | 165=>145 | 166=>141 | 169=>77 | 240=>194 | 241=>200 | 276=>233 | 277=>238|n=>n,fun | 31=>70 | 9=>9 | 3=>3 | 4=>4 | 0=>0 | 20=>20 | 72=>130 | 76=>208 | 70=>128 | 37=>82 | 75=>48 | 127=>210 | 164=>188 | 5=>5 | 80=>139|n=>n,fun|n=>n⟩
theorem Tryz.EJ:Go.Proofs.Lays.n156 Tryz.prog Tryz.re:={
 mixed:=by kernel_rfl
 f156:=Tryz.func87.trans (congrArg some (by kernel_rfl))
 f165:=Tryz.func145.trans (congrArg some (by kernel_rfl))
 f166:=Tryz.func141.trans (congrArg some (by kernel_rfl))
 f169:=Tryz.func77.trans (congrArg some (by kernel_rfl))
 f240:=Tryz.func194.trans (congrArg some (by kernel_rfl))
 f241:=Tryz.func200.trans (congrArg some (by kernel_rfl))
 f276:=Tryz.func233.trans (congrArg some (by kernel_rfl))
 f277:=Tryz.func238.trans (congrArg some (by kernel_rfl))
 t0:=Tryz.underlying0
 a0:=Tryz.isAgg0
 z0:=Tryz.sizeOf0
 v0:=Tryz.zeroValue0
 t3:=Tryz.underlying3
 a3:=Tryz.isAgg3
 z3:=Tryz.sizeOf3
 v3:=Tryz.zeroValue3
 t4:=Tryz.underlying4
 a4:=Tryz.isAgg4
 z4:=Tryz.sizeOf4
 v4:=Tryz.zeroValue4
 t9:=Tryz.underlying9
 a9:=Tryz.isAgg9
 z9:=Tryz.sizeOf9
 v9:=Tryz.zeroValue9
 t20:=Tryz.underlying20
 a20:=Tryz.isAgg20
 z20:=Tryz.sizeOf20
 v20:=Tryz.zeroValue20
 t31:=Tryz.underlying70
 a31:=Tryz.isAgg70
 z31:=Tryz.sizeOf70
 v31:=Tryz.zeroValue70
 t37:=Tryz.underlying82
 a37:=Tryz.isAgg82
 z37:=Tryz.sizeOf82
 v37:=Tryz.zeroValue82
 t70:=Tryz.underlying128
 a70:=Tryz.isAgg128
 z70:=Tryz.sizeOf128
 v70:=Tryz.zeroValue128
 t72:=Tryz.underlying130
 a72:=Tryz.isAgg130
 z72:=Tryz.sizeOf130
 v72:=Tryz.zeroValue130
 t75:=Tryz.underlying48
 a75:=Tryz.isAgg48
 z75:=Tryz.sizeOf48
 v75:=Tryz.zeroValue48
 t76:=Tryz.underlying208
 a76:=Tryz.isAgg208
 z76:=Tryz.sizeOf208
 v76:=Tryz.zeroValue208
 t127:=Tryz.underlying210
 a127:=Tryz.isAgg210
 z127:=Tryz.sizeOf210
 v127:=Tryz.zeroValue210
 t164:=Tryz.underlying188
 a164:=Tryz.isAgg188
 z164:=Tryz.sizeOf188
 v164:=Tryz.zeroValue188 }
theorem Tryz.jB:Builder.Extra Tryz.prog Tryz.re:={
 sizeBuilder:=by kernel_rfl
 liesBuilder:=by kernel_rfl
 t5:=Tryz.underlying5
 a5:=Tryz.isAgg5
 z5:=Tryz.sizeOf5
 v5:=Tryz.zeroValue5
 infoByte:=by kernel_rfl
 cellsByte:=by kernel_rfl
 sizeByte:=by kernel_rfl
 neB5:=by decide }
open Go.RowKit in
theorem Tryz.strings_Join_none(a:Option Addr)(c:Nat)(sep:ByteArray)(w:World) :
  Calls Tryz.prog 87 #[.slice a 0 c,.string sep] w fun e w'=>e=.returned (.string ⟨#[]⟩)∧w'=w:=Any.strings_Join_none Tryz.EJ Tryz.jB a c sep w
open Go.RowKit in
theorem Tryz.strings_Join(bk o c:Nat)(xs:List ByteArray)(sep:ByteArray)(w:World)(hcells:∀(j:Nat) x,xs[j]?=some x→w.cell? ⟨bk,o+j,none⟩=some (.string x))(hbk:bk < w.heap.size)(hN:xs.length≤140737488355328)(hcap:xs.length≤c)(hlen:(Lib.join (xs.map (·.data.toList)) sep.data.toList).length≤140737488355328) :
  Calls Tryz.prog 87 #[.slice (some ⟨bk,o,none⟩) xs.length c,.string sep] w fun e w'=>e=.returned (.string ⟨(Lib.join (xs.map (·.data.toList)) sep.data.toList).toArray⟩)∧Below w.heap.size w w':=Any.strings_Join Tryz.EJ Tryz.jB bk o c xs sep w hcells hbk hN hcap hlen
def Tryz.Ah:Go.Shelf.Ren:=⟨fun | 283=>196|n=>n,fun | 3=>3 | 9=>9 | 4=>4|n=>n,fun|n=>n⟩
theorem Tryz.NX:Go.Proofs.Lays.n283 Tryz.prog Tryz.Ah:={
 mixed:=by kernel_rfl
 f283:=Tryz.func196.trans (congrArg some (by kernel_rfl))
 t3:=Tryz.underlying3
 a3:=Tryz.isAgg3
 z3:=Tryz.sizeOf3
 v3:=Tryz.zeroValue3
 t4:=Tryz.underlying4
 a4:=Tryz.isAgg4
 z4:=Tryz.sizeOf4
 v4:=Tryz.zeroValue4
 t9:=Tryz.underlying9
 a9:=Tryz.isAgg9
 z9:=Tryz.sizeOf9
 v9:=Tryz.zeroValue9 }
open Go.Lib in
theorem Tryz.internal_strconv_small(i:Nat)(h:i < 100)(w:World) :
  Calls Tryz.prog 196 #[.int .i64 i] w fun e w'=>e=.returned (.string ⟨(Lib.decDigits i).toArray⟩)∧w'=w:=Any.internal_strconv_small Tryz.NX i h w
def Tryz.xZ:Go.Shelf.Ren:=⟨fun | 284=>197 | 129=>175 | 317=>234 | 318=>235|n=>n,fun | 53=>89 | 3=>3 | 212=>285 | 0=>0 | 4=>4 | 46=>178 | 5=>5 | 9=>9|n=>n,fun | 17=>2|n=>n⟩
theorem Tryz.Ki:Go.Proofs.LaysM.n284 Tryz.prog Tryz.xZ:={
 mixed:=by kernel_rfl
 f129:=Tryz.func175.trans (congrArg some (by kernel_rfl))
 f284:=Tryz.func197.trans (congrArg some (by kernel_rfl))
 f317:=Tryz.func234.trans (congrArg some (by kernel_rfl))
 f318:=Tryz.func235.trans (congrArg some (by kernel_rfl))
 t0:=Tryz.underlying0
 a0:=Tryz.isAgg0
 z0:=Tryz.sizeOf0
 v0:=Tryz.zeroValue0
 t3:=Tryz.underlying3
 a3:=Tryz.isAgg3
 z3:=Tryz.sizeOf3
 v3:=Tryz.zeroValue3
 t4:=Tryz.underlying4
 a4:=Tryz.isAgg4
 z4:=Tryz.sizeOf4
 v4:=Tryz.zeroValue4
 t5:=Tryz.underlying5
 a5:=Tryz.isAgg5
 z5:=Tryz.sizeOf5
 v5:=Tryz.zeroValue5
 t9:=Tryz.underlying9
 a9:=Tryz.isAgg9
 z9:=Tryz.sizeOf9
 v9:=Tryz.zeroValue9
 t46:=Tryz.underlying178
 a46:=Tryz.isAgg178
 z46:=Tryz.sizeOf178
 v46:=Tryz.zeroValue178
 t53:=Tryz.underlying89
 a53:=Tryz.isAgg89
 z53:=Tryz.sizeOf89
 v53:=Tryz.zeroValue89
 t212:=Tryz.underlying285
 a212:=Tryz.isAgg285
 z212:=Tryz.sizeOf285
 v212:=Tryz.zeroValue285
 g17:=by kernel_rfl
 i0:=by kernel_rfl
 i3:=by kernel_rfl
 i4:=by kernel_rfl
 i5:=by kernel_rfl
 i9:=by kernel_rfl
 i46:=by kernel_rfl
 i53:=by kernel_rfl
 i212:=by kernel_rfl
 m17:=by kernel_rfl }
open Go.Lib in
theorem Tryz.internal_strconv_numDigits(u:Nat)(h1:1≤u)(h2:u < 18446744073709551616)(w:World)(htab:Lib.TabIs Tryz.prog w "internal/strconv.uint64pow10" .u64 Lib.pow10Tab) :
  Calls Tryz.prog 197 #[.int .u64 u] w fun e w'=>e=.returned (.int .i64 (Lib.nDigits u))∧w'=w:=Any.internal_strconv_numDigits Tryz.Ki u h1 h2 w htab
def Tryz.Ag:Go.Shelf.Ren:=⟨fun | 285=>198|n=>n,fun | 37=>82 | 53=>89 | 3=>3 | 4=>4 | 51=>236 | 9=>9 | 5=>5 | 0=>0|n=>n,fun|n=>n⟩
theorem Tryz.NW:Go.Proofs.Lays.n285 Tryz.prog Tryz.Ag:={
 mixed:=by kernel_rfl
 f285:=Tryz.func198.trans (congrArg some (by kernel_rfl))
 t0:=Tryz.underlying0
 a0:=Tryz.isAgg0
 z0:=Tryz.sizeOf0
 v0:=Tryz.zeroValue0
 t3:=Tryz.underlying3
 a3:=Tryz.isAgg3
 z3:=Tryz.sizeOf3
 v3:=Tryz.zeroValue3
 t4:=Tryz.underlying4
 a4:=Tryz.isAgg4
 z4:=Tryz.sizeOf4
 v4:=Tryz.zeroValue4
 t5:=Tryz.underlying5
 a5:=Tryz.isAgg5
 z5:=Tryz.sizeOf5
 v5:=Tryz.zeroValue5
 t9:=Tryz.underlying9
 a9:=Tryz.isAgg9
 z9:=Tryz.sizeOf9
 v9:=Tryz.zeroValue9
 t37:=Tryz.underlying82
 a37:=Tryz.isAgg82
 z37:=Tryz.sizeOf82
 v37:=Tryz.zeroValue82
 t51:=Tryz.underlying236
 a51:=Tryz.isAgg236
 z51:=Tryz.sizeOf236
 v51:=Tryz.zeroValue236
 t53:=Tryz.underlying89
 a53:=Tryz.isAgg89
 z53:=Tryz.sizeOf89
 v53:=Tryz.zeroValue89 }
open Go.RowKit Go.Sort Go.Lib in
theorem Tryz.internal_strconv_formatBase10(bY off cap:Nat)(u:Nat)(d:Array UInt8)(w:World)(hH:Holds (fun(b:UInt8)=>WC .u8 (b.toNat:Int)) w bY off d)(hu:u < 10^d.size)(hu64:u < 18446744073709551616)(hsz:d.size < 4611686018427387904) :
  Calls Tryz.prog 198 #[.slice (some ⟨bY,off,none⟩) d.size cap,.int .u64 u] w fun e w'=>e=.returned (.tuple #[])∧∃(n v':Nat) (dk:Array UInt8),w'=(putRow (fun(b:UInt8)=>WC .u8 (b.toNat:Int)) w bY off dk).drewN n∧FmtInv d.size u 0 v' dk:=Any.internal_strconv_formatBase10 Tryz.NW bY off cap u d w hH hu hu64 hsz
def Tryz.ya:Go.Shelf.Ren:=⟨fun | 171=>71 | 243=>142 | 246=>195 | 283=>196 | 284=>197 | 285=>198 | 286=>199 | 129=>175 | 317=>234 | 318=>235 | 319=>236 | 320=>237 | 337=>246 | 338=>247|n=>n,fun | 3=>3 | 9=>9 | 2=>2 | 4=>4 | 171=>261 | 0=>0 | 53=>89 | 37=>82 | 5=>5 | 173=>263 | 212=>285 | 51=>236 | 20=>20 | 213=>286 | 46=>178 | 232=>303 | 233=>304|n=>n,fun | 17=>2 | 18=>7 | 19=>8|n=>n⟩
theorem Tryz.Kj:Go.Proofs.LaysM.n171 Tryz.prog Tryz.ya:={
 mixed:=by kernel_rfl
 f129:=Tryz.func175.trans (congrArg some (by kernel_rfl))
 f171:=Tryz.func71.trans (congrArg some (by kernel_rfl))
 f243:=Tryz.func142.trans (congrArg some (by kernel_rfl))
 f246:=Tryz.func195.trans (congrArg some (by kernel_rfl))
 f283:=Tryz.func196.trans (congrArg some (by kernel_rfl))
 f284:=Tryz.func197.trans (congrArg some (by kernel_rfl))
 f285:=Tryz.func198.trans (congrArg some (by kernel_rfl))
 f286:=Tryz.func199.trans (congrArg some (by kernel_rfl))
 f317:=Tryz.func234.trans (congrArg some (by kernel_rfl))
 f318:=Tryz.func235.trans (congrArg some (by kernel_rfl))
 f319:=Tryz.func236.trans (congrArg some (by kernel_rfl))
 f320:=Tryz.func237.trans (congrArg some (by kernel_rfl))
 f337:=Tryz.func246.trans (congrArg some (by kernel_rfl))
 f338:=Tryz.func247.trans (congrArg some (by kernel_rfl))
 t0:=Tryz.underlying0
 a0:=Tryz.isAgg0
 z0:=Tryz.sizeOf0
 v0:=Tryz.zeroValue0
 t2:=Tryz.underlying2
 a2:=Tryz.isAgg2
 z2:=Tryz.sizeOf2
 v2:=Tryz.zeroValue2
 t3:=Tryz.underlying3
 a3:=Tryz.isAgg3
 z3:=Tryz.sizeOf3
 v3:=Tryz.zeroValue3
 t4:=Tryz.underlying4
 a4:=Tryz.isAgg4
 z4:=Tryz.sizeOf4
 v4:=Tryz.zeroValue4
 t5:=Tryz.underlying5
 a5:=Tryz.isAgg5
 z5:=Tryz.sizeOf5
 v5:=Tryz.zeroValue5
 t9:=Tryz.underlying9
 a9:=Tryz.isAgg9
 z9:=Tryz.sizeOf9
 v9:=Tryz.zeroValue9
 t20:=Tryz.underlying20
 a20:=Tryz.isAgg20
 z20:=Tryz.sizeOf20
 v20:=Tryz.zeroValue20
 t37:=Tryz.underlying82
 a37:=Tryz.isAgg82
 z37:=Tryz.sizeOf82
 v37:=Tryz.zeroValue82
 t46:=Tryz.underlying178
 a46:=Tryz.isAgg178
 z46:=Tryz.sizeOf178
 v46:=Tryz.zeroValue178
 t51:=Tryz.underlying236
 a51:=Tryz.isAgg236
 z51:=Tryz.sizeOf236
 v51:=Tryz.zeroValue236
 t53:=Tryz.underlying89
 a53:=Tryz.isAgg89
 z53:=Tryz.sizeOf89
 v53:=Tryz.zeroValue89
 t171:=Tryz.underlying261
 a171:=Tryz.isAgg261
 z171:=Tryz.sizeOf261
 v171:=Tryz.zeroValue261
 t173:=Tryz.underlying263
 a173:=Tryz.isAgg263
 z173:=Tryz.sizeOf263
 v173:=Tryz.zeroValue263
 t212:=Tryz.underlying285
 a212:=Tryz.isAgg285
 z212:=Tryz.sizeOf285
 v212:=Tryz.zeroValue285
 t213:=Tryz.underlying286
 a213:=Tryz.isAgg286
 z213:=Tryz.sizeOf286
 t232:=Tryz.underlying303
 a232:=Tryz.isAgg303
 z232:=Tryz.sizeOf303
 v232:=Tryz.zeroValue303
 t233:=Tryz.underlying304
 a233:=Tryz.isAgg304
 z233:=Tryz.sizeOf304
 v233:=Tryz.zeroValue304
 g17:=by kernel_rfl
 g18:=by kernel_rfl
 g19:=by kernel_rfl
 i0:=by kernel_rfl
 i2:=by kernel_rfl
 i3:=by kernel_rfl
 i4:=by kernel_rfl
 i5:=by kernel_rfl
 i9:=by kernel_rfl
 i20:=by kernel_rfl
 i37:=by kernel_rfl
 i46:=by kernel_rfl
 i51:=by kernel_rfl
 i53:=by kernel_rfl
 i171:=by kernel_rfl
 i173:=by kernel_rfl
 i212:=by kernel_rfl
 i232:=by kernel_rfl
 i233:=by kernel_rfl
 m17:=by kernel_rfl
 m18:=by kernel_rfl
 m19:=by kernel_rfl }
open Go.RowKit Go.Sort Go.Lib in
theorem Tryz.strconv_Itoa(n:Int)(h0 : -9223372036854775808≤n)(h1:n≤9223372036854775807)(w:World)(htab:Lib.TabIs Tryz.prog w "internal/strconv.uint64pow10" .u64 Lib.pow10Tab) :
  Calls Tryz.prog 71 #[.int .i64 n] w fun e w'=>e=.returned (.string ⟨(Lib.itoa n).toArray⟩)∧∃k os,w'=grow (w.drewN k) os:=Any.strconv_Itoa Tryz.Kj n h0 h1 w htab
def Tryz.yb:Go.Shelf.Ren:=⟨fun | 245=>164 | 279=>218 | 280=>219 | 281=>220 | 282=>221 | 316=>241 | 171=>71 | 205=>242 | 243=>142 | 246=>195 | 283=>196 | 284=>197 | 285=>198 | 286=>199 | 129=>175 | 317=>234 | 318=>235 | 319=>236 | 320=>237 | 337=>246 | 338=>247|n=>n,fun | 9=>9 | 3=>3 | 75=>48 | 167=>270 | 4=>4 | 168=>272 | 210=>292 | 37=>82 | 0=>0 | 127=>210 | 145=>298 | 143=>296 | 2=>2 | 171=>261 | 53=>89 | 5=>5 | 173=>263 | 212=>285 | 51=>236 | 20=>20 | 213=>286 | 46=>178 | 232=>303 | 233=>304 | 80=>139|n=>n,fun | 15=>3 | 16=>4 | 17=>2 | 18=>7 | 19=>8|n=>n⟩
theorem Tryz.Ad:Go.Proofs.LaysC.n245 Tryz.prog Tryz.yb:={
 mixed:=by kernel_rfl
 f129:=Tryz.func175.trans (congrArg some (by kernel_rfl))
 f171:=Tryz.func71.trans (congrArg some (by kernel_rfl))
 f205:=Tryz.func242.trans (congrArg some (by kernel_rfl))
 f243:=Tryz.func142.trans (congrArg some (by kernel_rfl))
 f245:=Tryz.func164.trans (congrArg some (by kernel_rfl))
 f246:=Tryz.func195.trans (congrArg some (by kernel_rfl))
 f279:=Tryz.func218.trans (congrArg some (by kernel_rfl))
 f280:=Tryz.func219.trans (congrArg some (by kernel_rfl))
 f281:=Tryz.func220.trans (congrArg some (by kernel_rfl))
 f282:=Tryz.func221.trans (congrArg some (by kernel_rfl))
 f283:=Tryz.func196.trans (congrArg some (by kernel_rfl))
 f284:=Tryz.func197.trans (congrArg some (by kernel_rfl))
 f285:=Tryz.func198.trans (congrArg some (by kernel_rfl))
 f286:=Tryz.func199.trans (congrArg some (by kernel_rfl))
 f316:=Tryz.func241.trans (congrArg some (by kernel_rfl))
 f317:=Tryz.func234.trans (congrArg some (by kernel_rfl))
 f318:=Tryz.func235.trans (congrArg some (by kernel_rfl))
 f319:=Tryz.func236.trans (congrArg some (by kernel_rfl))
 f320:=Tryz.func237.trans (congrArg some (by kernel_rfl))
 f337:=Tryz.func246.trans (congrArg some (by kernel_rfl))
 f338:=Tryz.func247.trans (congrArg some (by kernel_rfl))
 t0:=Tryz.underlying0
 a0:=Tryz.isAgg0
 z0:=Tryz.sizeOf0
 v0:=Tryz.zeroValue0
 t2:=Tryz.underlying2
 a2:=Tryz.isAgg2
 z2:=Tryz.sizeOf2
 v2:=Tryz.zeroValue2
 t3:=Tryz.underlying3
 a3:=Tryz.isAgg3
 z3:=Tryz.sizeOf3
 v3:=Tryz.zeroValue3
 t4:=Tryz.underlying4
 a4:=Tryz.isAgg4
 z4:=Tryz.sizeOf4
 v4:=Tryz.zeroValue4
 t5:=Tryz.underlying5
 a5:=Tryz.isAgg5
 z5:=Tryz.sizeOf5
 v5:=Tryz.zeroValue5
 t9:=Tryz.underlying9
 a9:=Tryz.isAgg9
 z9:=Tryz.sizeOf9
 v9:=Tryz.zeroValue9
 t20:=Tryz.underlying20
 a20:=Tryz.isAgg20
 z20:=Tryz.sizeOf20
 v20:=Tryz.zeroValue20
 t37:=Tryz.underlying82
 a37:=Tryz.isAgg82
 z37:=Tryz.sizeOf82
 v37:=Tryz.zeroValue82
 t46:=Tryz.underlying178
 a46:=Tryz.isAgg178
 z46:=Tryz.sizeOf178
 v46:=Tryz.zeroValue178
 t51:=Tryz.underlying236
 a51:=Tryz.isAgg236
 z51:=Tryz.sizeOf236
 v51:=Tryz.zeroValue236
 t53:=Tryz.underlying89
 a53:=Tryz.isAgg89
 z53:=Tryz.sizeOf89
 v53:=Tryz.zeroValue89
 t75:=Tryz.underlying48
 a75:=Tryz.isAgg48
 z75:=Tryz.sizeOf48
 v75:=Tryz.zeroValue48
 t127:=Tryz.underlying210
 a127:=Tryz.isAgg210
 z127:=Tryz.sizeOf210
 v127:=Tryz.zeroValue210
 t143:=Tryz.underlying296
 a143:=Tryz.isAgg296
 z143:=Tryz.sizeOf296
 v143:=Tryz.zeroValue296
 t145:=Tryz.underlying298
 a145:=Tryz.isAgg298
 z145:=Tryz.sizeOf298
 v145:=Tryz.zeroValue298
 t167:=Tryz.underlying270
 a167:=Tryz.isAgg270
 z167:=Tryz.sizeOf270
 v167:=Tryz.zeroValue270
 t168:=Tryz.underlying272
 a168:=Tryz.isAgg272
 z168:=Tryz.sizeOf272
 v168:=Tryz.zeroValue272
 t171:=Tryz.underlying261
 a171:=Tryz.isAgg261
 z171:=Tryz.sizeOf261
 v171:=Tryz.zeroValue261
 t173:=Tryz.underlying263
 a173:=Tryz.isAgg263
 z173:=Tryz.sizeOf263
 v173:=Tryz.zeroValue263
 t210:=Tryz.underlying292
 a210:=Tryz.isAgg292
 z210:=Tryz.sizeOf292
 v210:=Tryz.zeroValue292
 t212:=Tryz.underlying285
 a212:=Tryz.isAgg285
 z212:=Tryz.sizeOf285
 v212:=Tryz.zeroValue285
 t213:=Tryz.underlying286
 a213:=Tryz.isAgg286
 z213:=Tryz.sizeOf286
 t232:=Tryz.underlying303
 a232:=Tryz.isAgg303
 z232:=Tryz.sizeOf303
 v232:=Tryz.zeroValue303
 t233:=Tryz.underlying304
 a233:=Tryz.isAgg304
 z233:=Tryz.sizeOf304
 v233:=Tryz.zeroValue304
 g15:=by kernel_rfl
 g16:=by kernel_rfl
 g17:=by kernel_rfl
 g18:=by kernel_rfl
 g19:=by kernel_rfl
 t80:=Tryz.underlying139
 a80:=Tryz.isAgg139
 z80:=Tryz.sizeOf139
 v80:=Tryz.zeroValue139
 i0:=by kernel_rfl
 i2:=by kernel_rfl
 i3:=by kernel_rfl
 i4:=by kernel_rfl
 i5:=by kernel_rfl
 i9:=by kernel_rfl
 i20:=by kernel_rfl
 i37:=by kernel_rfl
 i46:=by kernel_rfl
 i51:=by kernel_rfl
 i53:=by kernel_rfl
 i75:=by kernel_rfl
 i80:=by kernel_rfl
 i127:=by kernel_rfl
 i143:=by kernel_rfl
 i145:=by kernel_rfl
 i167:=by kernel_rfl
 i168:=by kernel_rfl
 i171:=by kernel_rfl
 i173:=by kernel_rfl
 i210:=by kernel_rfl
 i212:=by kernel_rfl
 i232:=by kernel_rfl
 i233:=by kernel_rfl
 m15:=by kernel_rfl
 m16:=by kernel_rfl
 m17:=by kernel_rfl
 m18:=by kernel_rfl
 m19:=by kernel_rfl
 c0:=by kernel_rfl
 c2:=by kernel_rfl
 c3:=by kernel_rfl
 c4:=by kernel_rfl
 c5:=by kernel_rfl
 c9:=by kernel_rfl
 c20:=by kernel_rfl
 c37:=by kernel_rfl
 c46:=by kernel_rfl
 c51:=by kernel_rfl
 c53:=by kernel_rfl
 c75:=by kernel_rfl
 c80:=by kernel_rfl
 c127:=by kernel_rfl
 c143:=by kernel_rfl
 c145:=by kernel_rfl
 c167:=by kernel_rfl
 c168:=by kernel_rfl
 c171:=by kernel_rfl
 c173:=by kernel_rfl
 c210:=by kernel_rfl
 c212:=by kernel_rfl
 c213:=by kernel_rfl
 c232:=by kernel_rfl
 c233:=by kernel_rfl }
open Go.RowKit in
theorem Tryz.strconv_toError_syntax(fn s:ByteArray)(base bits:Int)(ev:Value)(w:World)(hlim:s.size≤281474976710656)(hv:w.cell? ⟨3,0,none⟩=some ev)(hev:ev=.nilIface∨∃te pe,ev=.iface te pe) :
  Calls Tryz.prog 164 #[.string fn,.string s,.int .i64 base,.int .i64 bits,.iface 270 (.int .i64 2)] w fun e w'=>∃N,e=.returned (.iface 272 (.pointer (some ⟨N,0,none⟩)))∧w.heap.size≤N∧w'.heap[N]?=some (.cells #[.string fn,.string s,ev] 292 (0,0))∧Below w.heap.size w w':=Any.strconv_toError_syntax Tryz.Ad fn s base bits ev w hlim hv hev
def Tryz.Ae:Go.Shelf.Ren:=⟨fun | 321=>216|n=>n,fun | 5=>5|n=>n,fun|n=>n⟩
theorem Tryz.NV:Go.Proofs.Lays.n321 Tryz.prog Tryz.Ae:={
 mixed:=by kernel_rfl
 f321:=Tryz.func216.trans (congrArg some (by kernel_rfl))
 t5:=Tryz.underlying5
 a5:=Tryz.isAgg5
 z5:=Tryz.sizeOf5
 v5:=Tryz.zeroValue5 }
open Go.RowKit in
theorem Tryz.internal_strconv_lower(c:Int)(w:World) :
  Calls Tryz.prog 216 #[.int .u8 c] w fun e w'=>e=.returned (.int .u8 (bits .or .u8 c 32))∧w'=w:=Any.internal_strconv_lower Tryz.NV c w
def Tryz.Af:Go.Shelf.Ren:=⟨fun | 287=>163 | 321=>216 | 322=>217|n=>n,fun | 9=>9 | 3=>3 | 53=>89 | 75=>48 | 4=>4 | 167=>270 | 5=>5 | 46=>178 | 37=>82 | 0=>0 | 21=>21 | 80=>139|n=>n,fun|n=>n⟩
theorem Tryz.EI:Go.Proofs.Lays.n287 Tryz.prog Tryz.Af:={
 mixed:=by kernel_rfl
 f287:=Tryz.func163.trans (congrArg some (by kernel_rfl))
 f321:=Tryz.func216.trans (congrArg some (by kernel_rfl))
 f322:=Tryz.func217.trans (congrArg some (by kernel_rfl))
 t0:=Tryz.underlying0
 a0:=Tryz.isAgg0
 z0:=Tryz.sizeOf0
 v0:=Tryz.zeroValue0
 t3:=Tryz.underlying3
 a3:=Tryz.isAgg3
 z3:=Tryz.sizeOf3
 v3:=Tryz.zeroValue3
 t4:=Tryz.underlying4
 a4:=Tryz.isAgg4
 z4:=Tryz.sizeOf4
 v4:=Tryz.zeroValue4
 t5:=Tryz.underlying5
 a5:=Tryz.isAgg5
 z5:=Tryz.sizeOf5
 v5:=Tryz.zeroValue5
 t9:=Tryz.underlying9
 a9:=Tryz.isAgg9
 z9:=Tryz.sizeOf9
 v9:=Tryz.zeroValue9
 t21:=Tryz.underlying21
 a21:=Tryz.isAgg21
 z21:=Tryz.sizeOf21
 v21:=Tryz.zeroValue21
 t37:=Tryz.underlying82
 a37:=Tryz.isAgg82
 z37:=Tryz.sizeOf82
 v37:=Tryz.zeroValue82
 t46:=Tryz.underlying178
 a46:=Tryz.isAgg178
 z46:=Tryz.sizeOf178
 v46:=Tryz.zeroValue178
 t53:=Tryz.underlying89
 a53:=Tryz.isAgg89
 z53:=Tryz.sizeOf89
 v53:=Tryz.zeroValue89
 t75:=Tryz.underlying48
 a75:=Tryz.isAgg48
 z75:=Tryz.sizeOf48
 v75:=Tryz.zeroValue48
 t167:=Tryz.underlying270
 a167:=Tryz.isAgg270
 z167:=Tryz.sizeOf270
 v167:=Tryz.zeroValue270 }
open Go.RowKit in
theorem Tryz.strconv_toError_range(fn s:ByteArray)(base bits:Int)(ev:Value)(w:World)(hlim:s.size≤281474976710656)(hv:w.cell? ⟨4,0,none⟩=some ev)(hev:ev=.nilIface∨∃te pe,ev=.iface te pe) :
  Calls Tryz.prog 164 #[.string fn,.string s,.int .i64 base,.int .i64 bits,.iface 270 (.int .i64 1)] w fun e w'=>∃N,e=.returned (.iface 272 (.pointer (some ⟨N,0,none⟩)))∧w.heap.size≤N∧w'.heap[N]?=some (.cells #[.string fn,.string s,ev] 292 (0,0))∧Below w.heap.size w w':=Any.strconv_toError_range Tryz.Ad fn s base bits ev w hlim hv hev
open Go.RowKit in
theorem Tryz.internal_strconv_ParseUint_empty(base bits:Int)(w:World) :
  Calls Tryz.prog 163 #[.string ⟨#[]⟩,.int .i64 base,.int .i64 bits] w fun e w'=>e=.returned (.tuple #[.int .u64 0,.iface 270 (.int .i64 2)])∧w'=w:=Any.internal_strconv_ParseUint_empty Tryz.EI base bits w
open Go.RowKit in
theorem Tryz.internal_strconv_ParseUint_10_b64(t:ByteArray)(hne:t.size≠0)(hmax:t.size≤9223372036854775806)(w:World) :
  Calls Tryz.prog 163 #[.string t,.int .i64 10,.int .i64 64] w fun e w'=>e=.returned (Lib.uintTuple 270 (Lib.parseUint10 0 t.data.toList))∧w'=Lib.bytesWorld w 5 t:=Any.internal_strconv_ParseUint_10_b64 Tryz.EI t hne hmax w
def Tryz.Ak:Go.Shelf.Ren:=⟨fun | 144=>43 | 143=>99 | 219=>161 | 217=>212 | 225=>213 | 224=>214 | 267=>215 | 266=>239 | 314=>240|n=>n,fun | 9=>9 | 4=>4 | 3=>3 | 5=>5 | 46=>178 | 146=>288 | 51=>236|n=>n,fun | 1=>1|n=>n⟩
theorem Tryz.Oa:Go.Proofs.Lays.n144 Tryz.prog Tryz.Ak:={
 mixed:=by kernel_rfl
 f143:=Tryz.func99.trans (congrArg some (by kernel_rfl))
 f144:=Tryz.func43.trans (congrArg some (by kernel_rfl))
 f217:=Tryz.func212.trans (congrArg some (by kernel_rfl))
 f219:=Tryz.func161.trans (congrArg some (by kernel_rfl))
 f224:=Tryz.func214.trans (congrArg some (by kernel_rfl))
 f225:=Tryz.func213.trans (congrArg some (by kernel_rfl))
 f266:=Tryz.func239.trans (congrArg some (by kernel_rfl))
 f267:=Tryz.func215.trans (congrArg some (by kernel_rfl))
 f314:=Tryz.func240.trans (congrArg some (by kernel_rfl))
 t3:=Tryz.underlying3
 a3:=Tryz.isAgg3
 z3:=Tryz.sizeOf3
 v3:=Tryz.zeroValue3
 t4:=Tryz.underlying4
 a4:=Tryz.isAgg4
 z4:=Tryz.sizeOf4
 v4:=Tryz.zeroValue4
 t5:=Tryz.underlying5
 a5:=Tryz.isAgg5
 z5:=Tryz.sizeOf5
 v5:=Tryz.zeroValue5
 t9:=Tryz.underlying9
 a9:=Tryz.isAgg9
 z9:=Tryz.sizeOf9
 v9:=Tryz.zeroValue9
 t46:=Tryz.underlying178
 a46:=Tryz.isAgg178
 z46:=Tryz.sizeOf178
 v46:=Tryz.zeroValue178
 t51:=Tryz.underlying236
 a51:=Tryz.isAgg236
 z51:=Tryz.sizeOf236
 v51:=Tryz.zeroValue236
 t146:=Tryz.underlying288
 a146:=Tryz.isAgg288
 z146:=Tryz.sizeOf288
 v146:=Tryz.zeroValue288
 g1:=by kernel_rfl }
open Go.RowKit Go.Lib in
theorem Tryz.strings_Contains_one(s:ByteArray)(c:UInt8)(w:World) :
  Calls Tryz.prog 43 #[.string s,.string ⟨#[c]⟩] w fun e w'=>e=.returned (.bool (decide (0≤Lib.indexByte s.data.toList c)))∧w'=w:=Any.strings_Contains_one Tryz.Oa s c w
def Tryz.Aj:Go.Shelf.Ren:=⟨fun | 145=>48 | 220=>105 | 219=>161 | 217=>212 | 225=>213 | 224=>214 | 267=>215 | 266=>239 | 314=>240|n=>n,fun | 9=>9 | 4=>4 | 59=>87 | 3=>3 | 5=>5 | 46=>178 | 146=>288 | 51=>236|n=>n,fun | 1=>1|n=>n⟩
theorem Tryz.NZ:Go.Proofs.Lays.n145 Tryz.prog Tryz.Aj:={
 mixed:=by kernel_rfl
 f145:=Tryz.func48.trans (congrArg some (by kernel_rfl))
 f217:=Tryz.func212.trans (congrArg some (by kernel_rfl))
 f219:=Tryz.func161.trans (congrArg some (by kernel_rfl))
 f220:=Tryz.func105.trans (congrArg some (by kernel_rfl))
 f224:=Tryz.func214.trans (congrArg some (by kernel_rfl))
 f225:=Tryz.func213.trans (congrArg some (by kernel_rfl))
 f266:=Tryz.func239.trans (congrArg some (by kernel_rfl))
 f267:=Tryz.func215.trans (congrArg some (by kernel_rfl))
 f314:=Tryz.func240.trans (congrArg some (by kernel_rfl))
 t3:=Tryz.underlying3
 a3:=Tryz.isAgg3
 z3:=Tryz.sizeOf3
 v3:=Tryz.zeroValue3
 t4:=Tryz.underlying4
 a4:=Tryz.isAgg4
 z4:=Tryz.sizeOf4
 v4:=Tryz.zeroValue4
 t5:=Tryz.underlying5
 a5:=Tryz.isAgg5
 z5:=Tryz.sizeOf5
 v5:=Tryz.zeroValue5
 t9:=Tryz.underlying9
 a9:=Tryz.isAgg9
 z9:=Tryz.sizeOf9
 v9:=Tryz.zeroValue9
 t46:=Tryz.underlying178
 a46:=Tryz.isAgg178
 z46:=Tryz.sizeOf178
 v46:=Tryz.zeroValue178
 t51:=Tryz.underlying236
 a51:=Tryz.isAgg236
 z51:=Tryz.sizeOf236
 v51:=Tryz.zeroValue236
 t59:=Tryz.underlying87
 a59:=Tryz.isAgg87
 z59:=Tryz.sizeOf87
 v59:=Tryz.zeroValue87
 t146:=Tryz.underlying288
 a146:=Tryz.isAgg288
 z146:=Tryz.sizeOf288
 v146:=Tryz.zeroValue288
 g1:=by kernel_rfl }
open Go.RowKit Go.Lib in
theorem Tryz.strings_Cut(s sep:ByteArray)(m:Int)(w:World)(hs:s.size < 4294967281)(hm:w.cell? ⟨1,0,none⟩=some (.int .i64 m)) :
  Calls Tryz.prog 48 #[.string s,.string sep] w fun e w'=>e=.returned (.tuple #[.string ⟨(Lib.cut s.data.toList sep.data.toList).1.toArray⟩,.string ⟨(Lib.cut s.data.toList sep.data.toList).2.1.toArray⟩,.bool (Lib.cut s.data.toList sep.data.toList).2.2])∧∃n,w'=w.drewN n:=Any.strings_Cut Tryz.NZ s sep m w hs hm
def Tryz.Ai:Go.Shelf.Ren:=⟨fun | 146=>62 | 221=>125 | 268=>182 | 138=>183 | 143=>99 | 195=>229 | 197=>230 | 218=>231 | 219=>161 | 260=>245 | 217=>212 | 225=>213 | 224=>214 | 267=>215 | 266=>239 | 314=>240|n=>n,fun | 9=>9 | 31=>70 | 3=>3 | 4=>4 | 0=>0 | 105=>281 | 21=>21 | 5=>5 | 46=>178 | 119=>299 | 139=>302 | 138=>301 | 146=>288 | 51=>236|n=>n,fun | 1=>1 | 3=>5 | 4=>6|n=>n⟩
theorem Tryz.NY:Go.Proofs.Lays.n146 Tryz.prog Tryz.Ai:={
 mixed:=by kernel_rfl
 f138:=Tryz.func183.trans (congrArg some (by kernel_rfl))
 f143:=Tryz.func99.trans (congrArg some (by kernel_rfl))
 f146:=Tryz.func62.trans (congrArg some (by kernel_rfl))
 f195:=Tryz.func229.trans (congrArg some (by kernel_rfl))
 f197:=Tryz.func230.trans (congrArg some (by kernel_rfl))
 f217:=Tryz.func212.trans (congrArg some (by kernel_rfl))
 f218:=Tryz.func231.trans (congrArg some (by kernel_rfl))
 f219:=Tryz.func161.trans (congrArg some (by kernel_rfl))
 f221:=Tryz.func125.trans (congrArg some (by kernel_rfl))
 f224:=Tryz.func214.trans (congrArg some (by kernel_rfl))
 f225:=Tryz.func213.trans (congrArg some (by kernel_rfl))
 f260:=Tryz.func245.trans (congrArg some (by kernel_rfl))
 f266:=Tryz.func239.trans (congrArg some (by kernel_rfl))
 f267:=Tryz.func215.trans (congrArg some (by kernel_rfl))
 f268:=Tryz.func182.trans (congrArg some (by kernel_rfl))
 f314:=Tryz.func240.trans (congrArg some (by kernel_rfl))
 t0:=Tryz.underlying0
 a0:=Tryz.isAgg0
 z0:=Tryz.sizeOf0
 v0:=Tryz.zeroValue0
 t3:=Tryz.underlying3
 a3:=Tryz.isAgg3
 z3:=Tryz.sizeOf3
 v3:=Tryz.zeroValue3
 t4:=Tryz.underlying4
 a4:=Tryz.isAgg4
 z4:=Tryz.sizeOf4
 v4:=Tryz.zeroValue4
 t5:=Tryz.underlying5
 a5:=Tryz.isAgg5
 z5:=Tryz.sizeOf5
 v5:=Tryz.zeroValue5
 t9:=Tryz.underlying9
 a9:=Tryz.isAgg9
 z9:=Tryz.sizeOf9
 v9:=Tryz.zeroValue9
 t21:=Tryz.underlying21
 a21:=Tryz.isAgg21
 z21:=Tryz.sizeOf21
 v21:=Tryz.zeroValue21
 t31:=Tryz.underlying70
 a31:=Tryz.isAgg70
 z31:=Tryz.sizeOf70
 v31:=Tryz.zeroValue70
 t46:=Tryz.underlying178
 a46:=Tryz.isAgg178
 z46:=Tryz.sizeOf178
 v46:=Tryz.zeroValue178
 t51:=Tryz.underlying236
 a51:=Tryz.isAgg236
 z51:=Tryz.sizeOf236
 v51:=Tryz.zeroValue236
 t105:=Tryz.underlying281
 a105:=Tryz.isAgg281
 z105:=Tryz.sizeOf281
 v105:=Tryz.zeroValue281
 t119:=Tryz.underlying299
 a119:=Tryz.isAgg299
 z119:=Tryz.sizeOf299
 t138:=Tryz.underlying301
 a138:=Tryz.isAgg301
 z138:=Tryz.sizeOf301
 v138:=Tryz.zeroValue301
 t139:=Tryz.underlying302
 a139:=Tryz.isAgg302
 z139:=Tryz.sizeOf302
 v139:=Tryz.zeroValue302
 t146:=Tryz.underlying288
 a146:=Tryz.isAgg288
 z146:=Tryz.sizeOf288
 v146:=Tryz.zeroValue288
 g1:=by kernel_rfl
 g3:=by kernel_rfl
 g4:=by kernel_rfl }
open Go.RowKit Go.Lib in
theorem Tryz.strings_Split(s sep:ByteArray)(m:Int)(w:World)(hs:s.size < 4294967281)(hm:w.cell? ⟨1,0,none⟩=some (.int .i64 m))(h1:1≤sep.size) :
  Calls Tryz.prog 62 #[.string s,.string sep] w fun e w'=>e=.returned (.slice (some ⟨w.heap.size,0,none⟩) (Lib.countB s sep+1) (Lib.countB s sep+1))∧w'=w.alloc (.cells ((Lib.splitB sep 0 (Lib.countB s sep) s).map Value.string).toArray 9):=Any.strings_Split Tryz.NY (by kernel_rfl) s sep m w hs hm h1
end Go.Proofs
namespace Go.Proofs.YtnncigmpcdehnaaGreatDoor
set_option maxRecDepth 100000
open Go.RowKit Go.Lib _root_.Go.Proofs.Tryz
set_option maxRecDepth 100000
def az(v:Bool)(f:Nat→Nat):List Value:=.bool v::(Wm 16).map (fun j=>.int .u8 (f j:Int))
theorem ay(v:Bool)(f:Nat→Nat):(az v f).length=17:=by simp[az]
theorem qH(v:Bool)(f:Nat→Nat):(az v f)[0]?=some (.bool v):=rfl
theorem cR(v:Bool)(f:Nat→Nat)(i:Nat)(hi:i < 16):(az v f)[1+i]?=some (.int .u8 (f i:Int)):=by rw[Wg];simp[az,hi]
set_option maxHeartbeats 1000000 in
theorem vC(v:Bool)(f:Nat→Nat)(w:World) :
  Calls prog 107 #[.agg (az v f).toArray] w fun e w'=>e=.returned (.int .i64 (wid v:Nat))∧ah [] w w':=by
 have b0:=aq.new w 24 (az v f).toArray;have c0:=b0.cell_of (i:=0) (v:=.bool v) rfl;have fin:=hid ((ah.refl [] w).alloc (.cells (az v f).toArray 24));cases v
 ·go_enter func107,ntmps107
  go_wp2
  go_ret
  exact⟨rfl,fin.out⟩
 ·go_enter func107,ntmps107
  go_wp2
  go_ret
  exact⟨rfl,fin.out⟩
theorem kK:(prog.info? 24).map (·.size)=some 17:=by kernel_rfl
theorem vx{ops:Array Oper}{rest:List Oper}{o:Oper}{a:Act}{w:World}{Q:Exit→Act→World→Prop}(hgd:o.guard=none)(x:Operand)(ho:o.op=.load 24 x)
  (g:Nat) (hx:a.eval x=.pointer (some ⟨g,0,none⟩)) (t:TypeId) (v:Bool) (f:Nat→Nat) (hb:aq w g t (az v f))
  (h:wpList prog ops Q rest (a.put o.dst (.agg (az v f).toArray)) w):wpList prog ops Q (o::rest) a w:=
 wpList_load_row hgd 24 x ho g hx t _ (0,0) _ hb underlying24 rfl (kK.trans (by simp[az])) h
theorem HQ(v:Bool)(f:Nat→Nat):(az v f).toArray.all (·.oneCell')=true:=by simp[az,WI]
theorem jF{ops:Array Oper}{rest:List Oper}{o:Oper}{a:Act}{w:World}{Q:Exit→Act→World→Prop}(hgd:o.guard=none)(x y:Operand)(ho:o.op=.store 24 x y)
  (g:Nat) (v:Bool) (f:Nat→Nat) (hx:a.eval x=.pointer (some ⟨g,0,none⟩)) (hy:a.eval y=.agg (az v f).toArray) (t:TypeId) (old:List Value) (hb:aq w g t old) (hl:old.length=17)
  (h:wpList prog ops Q rest (a.put o.dst undef) (w.setRow g (az v f).toArray)):wpList prog ops Q (o::rest) a w:=
 wpList_store_row hgd 24 x y ho g _ hx hy t old.toArray hb (kK.trans (by simp[az])) (by simp[az,hl]) (HQ v f) h
theorem Uk{fn:Func}{p:Tmp}(h:fn.results=#[.cell p 24])(tmps:Array Value)(w:World)(g:Nat)(v:Bool)(f:Nat→Nat)(t:TypeId)
  (hp:tmps.getD p undef=.pointer (some ⟨g,0,none⟩)) (hb:aq w g t (az v f)):(results fn tmps).run prog w=.ok (.agg (az v f).toArray) w:=
 results_cell_row h tmps w g t _ (0,0) _ hp hb underlying24 rfl (kK.trans (by simp[az]))
theorem pZ(v:Bool){f g:Nat→Nat}(h:∀j,j < 16→f j=g j):az v f=az v g:=by unfold az;congr 1;exact List.map_congr_left fun j hj=>by rw[h j (by simpa using hj)]
def kj(K:Nat)(f:Nat→Nat)(i j:Nat):Nat:=if j < i then fi K j (f j)else f j
theorem uZ(v:Bool)(f g:Nat→Nat)(i x:Nat)(hg:g i=x)(he:∀j,j < 16→j≠i→g j=f j):(az v f).set (1+i) (.int .u8 (x:Int))=az v g:=by
 apply List.ext_getElem?;intro j;rw[List.getElem?_set,ay];by_cases h1:1+i=j
 ·subst h1
  rw[if_pos rfl];by_cases hi:i < 16
  ·rw[cR v g i hi,if_pos (by omega),hg]
  ·rw[if_neg (by omega),VX (by rw[ay];omega)]
 ·rw[if_neg h1]
  cases j with
  |zero=>rfl
  |succ j=>
   rw[Wg j 1];by_cases hj:j < 16
   ·rw[cR v f j hj,cR v g j hj,he j hj (by omega)]
   ·rw[VX (by rw[ay];omega),VX (by rw[ay];omega)]
theorem JP{K i x:Nat}{f:Nat→Nat}(h:fi K i (f i)=x):kj K f (i+1) i=x:=by unfold kj;rw[if_pos (by omega),h]
theorem JO(K:Nat)(f:Nat→Nat)(i j:Nat)(_:j < 16)(hj:j≠i):kj K f (i+1) j=kj K f i j:=by
 unfold kj;by_cases h:j < i
 ·rw[if_pos h,if_pos (by omega)]
 ·rw[if_neg h,if_neg (by omega)]
theorem Bx:∀(x:Fin 256) (s:Fin 8),bits BinOp.and Ww (x.val:Int) (255*2^s.val%256)=((x.val / 2^s.val*2^s.val:Nat):Int):=by decide +kernel
theorem Pd(x s:Nat)(hx:x < 256)(hs:s < 8):bits BinOp.and Ww (x:Int) (255*2^s%256)=((x / 2^s*2^s:Nat):Int):=Bx ⟨x,hx⟩ ⟨s,hs⟩
set_option maxHeartbeats 2000000 in
theorem tR(v:Bool)(f:Nat→Nat)(K:Nat)(hf:∀j,f j < 256)(hK:K≤128)(w:World) :
  Calls prog 108 #[.agg (az v f).toArray,.int .i64 K] w fun e w'=>e=.returned (.agg (az v fun j=>fi K j (f j)).toArray)∧ah [] w w':=by
 have HS:=hid (show aq ((w.alloc (.cells (az v f).toArray 24)).alloc (.cells (az false fun _=>0).toArray 24)) w.heap.size 24 (az v (kj K f 0))from(aq.new w 24 (az v f).toArray).alloc _);have HR:=hid (show aq ((w.alloc (.cells (az v f).toArray 24)).alloc (.cells (az false fun _=>0).toArray 24)) (w.heap.size+1) 24 (az false fun _=>0)from aq.eO _ 24 (az false fun _=>0).toArray (by simp));have HC:=hid (((ah.refl [] w).alloc (.cells (az v f).toArray 24)).alloc (.cells (az false fun _=>0).toArray 24));go_enter func108,ntmps108
 go_wp2
 go_loopw [7] (fun iv wr=>∃i:Nat,i≤16∧iv=.int .i64 i∧aq wr w.heap.size 24 (az v (kj K f i))∧aq wr (w.heap.size+1) 24 (az false fun _=>0)∧ah [] w wr) (fun iv _=>16 - (RowKit.intOf iv).toNat)
 case atStart=>exact⟨0,by omega,rfl,HS.out,HR.out,HC.out⟩
 case round=>
  obtain⟨i,hi,rfl,hS,hR,hC⟩:=hrel;by_cases hlt:(i:Int) < 16
  ·have i0:(0:Int)≤(i:Int):=by omega
   have c1:=hS.cell_of (cR v (kj K f i) i (by omega));have f1:=hS.frozen (1+i);by_cases h1:(K:Int) - 8*(i:Int)≤0
   ·go_wp2
    go_roundw
    case measure=>simp[RowKit.intOf];omega
    case rel=>refine⟨i+1,by omega,by go_num,?_,hR.Mm (by simp) _,hC.MQ (VK _) _ _⟩;have hs:=hS.oW (1+i) (.int .u8 0);have e:=uZ v (kj K f i) (kj K f (i+1)) i 0 (JP (by unfold fi;rw[if_pos (by omega)])) (JO K f i);exact e ▸ hs
   ·by_cases h2:(K:Int) - 8*(i:Int) < 8
    ·obtain⟨s,hs⟩:∃s:Nat,s=8*i+8 - K:=⟨_,rfl⟩
     have es:(8:Int) - ((K:Int) - 8*(i:Int))=(s:Int):=by omega
     have s0:(0:Int)≤(s:Int):=by omega
     go_wp2
     go_region
     go_wp2
     go_roundw
     case measure=>simp[RowKit.intOf];omega
     case rel=>
      refine⟨i+1,by omega,by go_num,?_,(hR.Mm (by simp) _).drewN 1,(hC.MQ (VK _) _ _).drew⟩;have hv:bits BinOp.and Ww (kj K f i i:Int) (255*2^(8*i+8 - K)%256)=((fi K i (f i):Nat):Int):=by rw[show kj K f i i=f i by unfold kj; rw[if_neg (by omega)],Pd (f i) (8*i+8 - K) (hf i) (by omega)];unfold fi;rw[if_neg (by omega),if_pos (by omega)]
      rw[hv];have hs:=hS.oW (1+i) (.int .u8 ((fi K i (f i):Nat):Int));have e:=uZ v (kj K f i) (kj K f (i+1)) i _ (JP rfl) (JO K f i);exact(e ▸ hs).drewN 1
    ·go_wp2
     go_roundw
     case measure=>simp[RowKit.intOf];omega
     case rel=>
      refine⟨i+1,by omega,by go_num,?_,hR,hC⟩;rwa [pZ v (f:=kj K f i) (g:=kj K f (i+1)) (fun j _=>by
       unfold kj;by_cases h:j < i
       ·rw[if_pos h,if_pos (by omega)]
       ·rw[if_neg h]
        by_cases h3:j=i
        ·subst h3;rw[if_pos (by omega)];unfold fi;rw[if_neg (by omega),if_neg (by omega)]
        ·rw[if_neg (by omega)])]at hS
  ·have hi16:i=16:=by omega
   subst hi16;go_wp2_with (first | (refine vx rfl _ rfl w.heap.size rfl 24 v _ hS ?_) | (refine jF rfl _ _ rfl (w.heap.size+1) v _ rfl rfl 24 _ hR (ay _ _) ?_))
   refine bodyPost_ret (Uk rfl _ _ (w.heap.size+1) v (fun j=>fi K j (f j)) 24 rfl ?_) rfl ⟨rfl,hC.setRow (.inr (by omega)) _⟩;have hs:=hR.row (az v (kj K f 16));rwa [pZ v (f:=kj K f 16) (g:=fun j=>fi K j (f j)) (fun j hj=>if_pos hj)]at hs
open Go.RowKit Go.Lib Go.Sort
def gf(f:Nat→Nat):List Value:=(Wm 16).map (fun j=>.int .u8 (f j:Int))
def Hr(f:Nat→Nat):List Lit:=(Wm 16).map (fun j=>.int .u8 (f j:Int))
def lR(f g:Nat→Nat):Bool:=(Wm 16).all fun j=>f j==g j
theorem iu(f g:Nat→Nat):lR f g=true↔∀j,j < 16→f j=g j:=by simp[lR]
theorem Fj(f g:Nat→Nat):Hr f=Hr g↔lR f g=true:=by
 rw[iu];unfold Hr;rw[List.map_inj_left];constructor
 ·intro h j hj
  have:=h j (by simpa using hj);injection this with _ h2;omega
 ·intro h j hj
  rw[h j (by simpa using hj)]
theorem zX{α β:Type}(g:α→Option β)(h:α→β):∀l:List α,(∀x∈l,g x=some (h x))→l.mapM g=some (l.map h)
 | [],_=>by simp
 |x::l,H=>by rw[Wl,H x (by simp),zX g h l (fun y hy=>H y (by simp[hy]))];rfl
theorem AF{α β:Type}(h:α→β):∀l:List α,(l.map fun x=>[h x]).flatten=l.map h
 | []=>rfl
 |x::l=>by rw[Wn,List.flatten_cons,AF h l];rfl
theorem Ux(d x:Nat)(hx:x < 256):prog.keyLits (d+1) 5 [.int .u8 (x:Int)]=some [.int .u8 (x:Int)]:=by
 have hw:(Lit.int .u8 (x:Int)).wf=true:=by simp[Lit.wf,WS,WT,WB,WM];omega
 simp[Program.keyLits,underlying5,hw]
theorem Rv:prog.cellsOf 5=1:=by kernel_rfl
theorem sd:prog.cellsOf 22=16:=by kernel_rfl
theorem Li(f:Nat→Nat)(i:Nat)(hi:i < 16):((gf f).drop (i*1)).take 1=[.int .u8 (f i:Int)]:=by
 rw[Nat.mul_one];have:(gf f)[i]?=some (.int .u8 (f i:Int)):=by simp[gf,hi]
 have hl:i < (gf f).length:=by simp[gf];omega
 rw[VN hl];rw[List.getElem?_eq_getElem hl]at this;injection this with this;rw[this];rfl
theorem CJ(d:Nat)(f:Nat→Nat)(hf:∀j,f j < 256):prog.keyLits (d+2) 22 (gf f)=some (Hr f):=by unfold Program.keyLits;rw[underlying22];simp only;rw[if_pos (by rw[sd];simp[gf]),zX _ (fun i=>[Lit.int .u8 (f i:Int)]) _ (fun i hi=>by rw[Rv,Li f i (by simpa using hi)];exact Ux d _ (hf i)),Option.map_some,AF];rfl
theorem To(f g:Nat→Nat)(hf:∀j,f j < 256)(hg:∀j,g j < 256)(W:World):(Op.equalIn 10000 22 (.agg (gf f).toArray) (.agg (gf g).toArray)).run prog W=.ok (lR f g) W:=by
 obtain⟨r,h1,h2⟩:=run_equalIn_deep (P:=prog) 9995 5 22 (by kernel_rfl) W 5 5 (.agg (gf f).toArray) (.agg (gf g).toArray) _ _ (by simp[Wd,underlying22,sd,gf]) (by simp[Wd,underlying22,sd,gf]) (CJ 3 f hf) (CJ 3 g hg);simp only[WZ]at h1;rw[Fj]at h2;have e:r=lR f g:=by revert h2;cases r<;>cases lR f g<;>simp
 rw[h1,e]
theorem Hz(v:Bool)(f:Nat→Nat):(az v f).toArray.extract 1 17=(gf f).toArray:=by apply Array.toList_inj.1;simp[az,gf,VV]
theorem IM:(prog.info? 22).map (·.size)=some 16:=by kernel_rfl
theorem jw(f:Nat→Nat):(gf f).length=16:=by simp[gf]
theorem EP(x y:Operand)(a b:Array Value)(W:World):(eqGuard .neq 22 x y (.agg a) (.agg b)).run prog W=.ok () W:=by kernel_rfl
theorem EW(v:Bool)(f:Nat→Nat)(W:World):(Wa 24 (.agg (az v f).toArray) 1).run prog W=.ok (.agg (gf f).toArray) W:=by
 have h:(Wa 24 (.agg (az v f).toArray) 1).run prog W=.ok (.agg ((az v f).toArray.extract 1 17)) W:=by kernel_rfl
 rw[h,Hz]
theorem wS(v:Bool)(f:Nat→Nat)(W:World):(Wa 24 (.agg (az v f).toArray) 0).run prog W=.ok (.bool v) W:=by kernel_rfl
theorem Ni{w:World}{g:Nat}{t:TypeId}{v:Bool}{f:Nat→Nat}(hb:aq w g t (az v f)):∀W,(∃p:Regrown,W=grow (redrawn w p.d) p.os)→W.rangeAt g 1 (gf f):=
 hb.ni 1 (gf f) fun j x hx=>by
  have hj:j < 16:=by have:=(VE.1 hx).1;rwa [jw]at this
  rw[cR v f j hj];rw[←hx];simp[gf,hj]
attribute [local go_sem] EP EW wS
theorem JX(k i x:Nat):fi k i x≤x:=by
 unfold fi;by_cases h:k≤8*i
 ·rw[if_pos h];exact Nat.zero_le _
 ·rw[if_neg h]
  by_cases h2:k < 8*i+8
  ·rw[if_pos h2];exact Wx _ _
  ·rw[if_neg h2];exact VK _
set_option maxHeartbeats 2000000 in
theorem vA(v:Bool)(f:Nat→Nat)(hf:∀j,f j < 256)(w:World) :
  Calls prog 109 #[.agg (az v f).toArray] w fun e w'=>e=.returned (.int .i64 (if lR (fun j=>fi (wid v) j (f j)) f then 0 else 150))∧ah [] w w':=by
 have HB:=hid (aq.new w 24 (az v f).toArray);have HC:=hid ((ah.refl [] w).alloc (.cells (az v f).toArray 24));have HW:=hid (yy (vC v f));have HM:=hid (yy (tR v f (wid v) hf (nU v)));have hE:=To (fun j=>fi (wid v) j (f j)) f (fun j=>Wc (JX _ _ _) (hf j)) hf;obtain⟨b,hb⟩:∃b,b=lR (fun j=>fi (wid v) j (f j)) f:=⟨_,rfl⟩;rw[←hb]at hE;rw[←hb];clear hb;go_enter func109,ntmps109
 go_wp2
 obtain⟨w1,hw1⟩:∃w1,w1=w.alloc (.cells (az v f).toArray 24):=⟨_,rfl⟩;rw[←hw1];have B1:aq w1 w.heap.size 24 (az v f):=by rw[hw1];exact HB.out
 have C1:ah [] w w1:=by rw[hw1];exact HC.out
 clear hw1 HB HC;have R0:=B1.sY;have R1:=Ni B1;refine wp_region_quiet_below (by kernel_rfl) (by kernel_rfl) ?_;refine kA rfl 24 _ rfl w.heap.size 0 rfl (az v f) _ R0 underlying24 rfl (kK.trans (by rw[ay])) ?_;refine kA rfl 24 _ rfl w.heap.size 0 rfl (az v f) _ R0 underlying24 rfl (kK.trans (by rw[ay])) ?_;repeat (first|refine kA rfl 22 _ rfl w.heap.size 1 rfl (gf f) _ R1 underlying22 rfl (IM.trans (by rw[jw])) ?_|go_big_quiet_step ((first | (go_at_call 107;with_reducible exact HW.out _ _ _) | (go_at_call 108;with_reducible exact HM.out _ _ _)))|quiet_step ((first | (go_at_call 107;with_reducible exact HW.out _ _ _) | (go_at_call 108;with_reducible exact HM.out _ _ _))))
 refine wpQuiet_nil ?_;intro w3 hw3;have C3:=gH hw3;clear hw3 R0 R1;have fin:=hid (C1.trans C3);cases b
 ·go_wp2
  go_ret
  exact⟨rfl,fin.out⟩
 ·go_wp2
  go_ret
  exact⟨rfl,fin.out⟩
def eA(v:Bool)(n:Nat):List Value:=az v (an n)
theorem ed(v:Bool)(n:Nat):(eA v n).length=17:=ay v _
theorem oc{n m:Nat}(hn:n < 2^128)(hm:m < 2^128):lR (an n) (an m)=decide (n=m):=by
 by_cases h:n=m
 ·rw[decide_eq_true h,h];exact(iu _ _).2 fun _ _=>rfl
 ·rw[decide_eq_false h]
  rw[←VU,iu];exact fun q=>h (lq hn hm q)
theorem vL{n k:Nat}(hn:n < 2^128)(hk:k≤128):lR (fun j=>fi k j (an n j)) (an n)=decide (ei n k=n):=by rw[←oc (Wc (zW n k) hn) hn];rw[WO,iu,iu];exact⟨fun h j hj=>by rw[qw n k j hj hk];exact h j hj,fun h j hj=>by rw[←qw n k j hj hk];exact h j hj⟩
theorem LF(v:Bool)(n k:Nat)(hk:k≤128):az v (fun j=>fi k j (an n j))=eA v (ei n k):=
 pZ v fun j hj=>(qw n k j hj hk).symm
theorem Mw(v:Bool)(n:Nat)(w:World):Calls prog 107 #[.agg (eA v n).toArray] w (Rn w (.int .i64 (wid v:Nat))):=vC v _ w
theorem JW(v:Bool)(n K:Nat)(hK:K≤128)(w:World):Calls prog 108 #[.agg (eA v n).toArray,.int .i64 K] w (Rn w (.agg (eA v (ei n K)).toArray)):=by have h:=tR v (an n) K (bH n) hK w;rwa [LF v n K hK]at h
def pR(v:Bool)(n:Nat):Int:=if vr v n then 0 else 150
theorem mG(v:Bool)(n:Nat)(hn:n < 2^128)(w:World):Calls prog 109 #[.agg (eA v n).toArray] w (Rn w (.int .i64 (pR v n))):=by have h:=vA v (an n) (bH n) w;rwa [vL hn (nU v)]at h
open Go.RowKit Go.Lib Go.Sort
def ep(v:Bool)(n:Nat)(k:Int):List Value:=eA v n++[.int .i64 k]
theorem eL(v:Bool)(n:Nat)(k:Int):(ep v n k).length=18:=by simp[ep,ed]
theorem xK(v:Bool)(n:Nat)(k:Int)(j:Nat)(x:Value)(h:(eA v n)[j]?=some x):(ep v n k)[j]?=some x:=by unfold ep;rw[VM (VE.1 h).1,h]
theorem ph(v:Bool)(n:Nat)(k:Int):(ep v n k)[17]?=some (.int .i64 k):=by unfold ep;rw[VF (by rw[ed];omega),ed];rfl
theorem Pf(v:Bool)(n j:Nat)(x:Value)(h:(gf (an n))[j]?=some x):(eA v n)[1+j]?=some x:=by
 have hj:j < 16:=by have:=(VE.1 h).1;rwa [jw]at this
 unfold eA;rw[cR v _ j hj,←h];simp[gf,hj]
theorem xy:(prog.info? 29).map (·.size)=some 18:=by kernel_rfl
theorem Jv(v:Bool)(n:Nat)(k:Int):(ep v n k).toArray.all (·.oneCell')=true:=by simp[ep,eA,az,WI]
structure UR(w:World)(g:Nat)(v:Bool)(n:Nat)(k:Int):Prop where
 whole:∀W,(∃p:Regrown,W=grow (redrawn w p.d) p.os)→W.rangeAt g 0 (ep v n k)
 eA:∀W,(∃p:Regrown,W=grow (redrawn w p.d) p.os)→W.rangeAt g 0 (eA v n)
 Vx:∀W,(∃p:Regrown,W=grow (redrawn w p.d) p.os)→W.rangeAt g 1 (gf (an n))
theorem aq.SO{w:World}{g:Nat}{t:TypeId}{v:Bool}{n:Nat}{k:Int}(hb:aq w g t (ep v n k)):UR w g v n k:=
 ⟨hb.sY,hb.ni 0 _ (fun j x hx=>by rw[Ws];exact xK v n k j x hx),hb.ni 1 _ (fun j x hx=>xK v n k _ x (Pf v n j x hx))⟩
def fH(v:Bool)(n:Nat)(k:Int):Int:=if gv v n k then 0 else 151
theorem KJ(v:Bool)(n:Nat)(W:World):(Wa 24 (.agg (eA v n).toArray) 1).run prog W=.ok (.agg (gf (an n)).toArray) W:=EW v _ W
theorem CW(v:Bool)(n:Nat)(W:World):(Wa 24 (.agg (eA v n).toArray) 0).run prog W=.ok (.bool v) W:=wS v _ W
attribute [local go_sem] EP KJ CW
set_option maxHeartbeats 2000000 in
theorem sb(v:Bool)(n:Nat)(k:Int)(hn:n < 2^128)(w:World) :
  Calls prog 50 #[.agg (ep v n k).toArray] w fun e w'=>e=.returned (.int .i64 (fH v n k))∧ah [] w w':=by
 have HB:=hid (aq.new w 29 (ep v n k).toArray);have HC:=hid ((ah.refl [] w).alloc (.cells (ep v n k).toArray 29));have HW:=hid (yy (Mw v n));have hw128:=nU v;by_cases h1:k < 0
 ·have fin:fH v n k=151:=by unfold fH gv;rw[decide_eq_false (by omega)];rfl
  have FIN:=hid fin;clear fin;go_enter func50,ntmps50
  go_wp2
  obtain⟨w1,hw1⟩:∃w1,w1=w.alloc (.cells (ep v n k).toArray 29):=⟨_,rfl⟩;rw[←hw1];have B1:aq w1 w.heap.size 29 (ep v n k):=by rw[hw1];exact HB.out
  have C1:ah [] w w1:=by rw[hw1];exact HC.out
  clear hw1 HB HC;have ck:=cell_regrown (B1.cell_of (ph v n k));refine wp_region_quiet_below (by kernel_rfl) (by kernel_rfl) ?_;repeat (first|go_big_quiet_step (fail)|quiet_step (fail))
  refine wpQuiet_nil ?_;intro w3 hw3;have C3:=gH hw3;clear hw3 ck;have HF:=hid (C1.trans C3);go_wp2
  rw[FIN.out];go_ret
  exact⟨rfl,HF.out⟩
 ·obtain⟨K,rfl⟩:∃K:Nat,k=(K:Int):=⟨k.toNat,by omega⟩
  have d1:decide ((K:Int) < 0)=false:=decide_eq_false (by omega);by_cases h2:(wid v:Int) < (K:Int)
  ·have d2:decide (wid v < K)=true:=decide_eq_true (by omega)
   have fin:fH v n K=151:=by unfold fH gv;rw[decide_eq_false (p:=(K:Int)≤(wid v:Int)) (by omega)];simp
   have FIN:=hid fin;clear fin hw128;go_enter func50,ntmps50
   go_wp2
   obtain⟨w1,hw1⟩:∃w1,w1=w.alloc (.cells (ep v n K).toArray 29):=⟨_,rfl⟩;rw[←hw1];have B1:aq w1 w.heap.size 29 (ep v n K):=by rw[hw1];exact HB.out
   have C1:ah [] w w1:=by rw[hw1];exact HC.out
   clear hw1 HB HC;have ck:=cell_regrown (B1.cell_of (ph v n K));have R:=B1.SO;refine wp_region_quiet_below (by kernel_rfl) (by kernel_rfl) ?_;repeat (first | (go_big_quiet_want;refine oh 24 _ rfl w.heap.size 0 rfl (eA v n) _ R.eA underlying24 rfl (kK.trans (by rw[ed])) ?_;go_big_quiet_on)|go_big_quiet_step ((go_at_call 107;with_reducible exact HW.out _ _ _))|quiet_step ((go_at_call 107;with_reducible exact HW.out _ _ _)))
   refine wpQuiet_nil ?_;intro w3 hw3;have C3:=gH hw3;clear hw3 ck R;have HF:=hid (C1.trans C3);go_wp2
   rw[FIN.out];go_ret
   exact⟨rfl,HF.out⟩
  ·have d2:decide (wid v < K)=false:=decide_eq_false (by omega)
   obtain⟨b,hb⟩:∃b,b=decide (ei n K=n):=⟨_,rfl⟩;have fin:fH v n K=if b then 0 else 151:=by unfold fH gv;rw[decide_eq_true (p:=(K:Int)≤(wid v:Int)) (by omega),hb];simp
   have FIN:=hid fin;have HM:=hid (yy (JW v n K (by omega)));have hE:=To (an (ei n K)) (an n) (bH _) (bH _);rw[oc (Wc (zW n K) hn) hn,←hb]at hE;clear hb;clear fin hw128;go_enter func50,ntmps50
   go_wp2
   obtain⟨w1,hw1⟩:∃w1,w1=w.alloc (.cells (ep v n K).toArray 29):=⟨_,rfl⟩;rw[←hw1];have B1:aq w1 w.heap.size 29 (ep v n K):=by rw[hw1];exact HB.out
   have C1:ah [] w w1:=by rw[hw1];exact HC.out
   clear hw1 HB HC;have ck:=cell_regrown (B1.cell_of (ph v n K));have R:=B1.SO;refine wp_region_quiet_below (by kernel_rfl) (by kernel_rfl) ?_;repeat (first | (go_big_quiet_want;refine oh 24 _ rfl w.heap.size 0 rfl (eA v n) _ R.eA underlying24 rfl (kK.trans (by rw[ed])) ?_;go_big_quiet_on) | (go_big_quiet_want;refine oh 22 _ rfl w.heap.size 1 rfl (gf (an n)) _ R.Vx underlying22 rfl (IM.trans (by rw[jw])) ?_;go_big_quiet_on)|go_big_quiet_step ((first | (go_at_call 107;with_reducible exact HW.out _ _ _) | (go_at_call 108;with_reducible exact HM.out _ _ _)))|quiet_step ((first | (go_at_call 107;with_reducible exact HW.out _ _ _) | (go_at_call 108;with_reducible exact HM.out _ _ _))))
   refine wpQuiet_nil ?_;intro w3 hw3;have C3:=gH hw3;clear hw3 ck R;have HF:=hid (C1.trans C3);cases b
   ·go_wp2
    rw[FIN.out];go_ret
    exact⟨rfl,HF.out⟩
   ·go_wp2
    rw[FIN.out];go_ret
    exact⟨rfl,HF.out⟩
open Go.RowKit Go.Lib Go.Sort
theorem QU{ops:Array Oper}{rest:List Oper}{o:Oper}{a:Act}{w:World}{Q:Exit→Act→World→Prop}(hgd:o.guard=none)(x:Operand)(ho:o.op=.load 29 x)
  (g:Nat) (hx:a.eval x=.pointer (some ⟨g,0,none⟩)) (t:TypeId) (v:Bool) (n:Nat) (k:Int) (hb:aq w g t (ep v n k))
  (h:wpList prog ops Q rest (a.put o.dst (.agg (ep v n k).toArray)) w):wpList prog ops Q (o::rest) a w:=
 wpList_load_row hgd 29 x ho g hx t _ (0,0) _ hb underlying29 rfl (xy.trans (by simp[eL])) h
theorem Fw{ops:Array Oper}{rest:List Oper}{o:Oper}{a:Act}{w:World}{Q:Exit→Act→World→Prop}(hgd:o.guard=none)(x y:Operand)(ho:o.op=.store 29 x y)
  (g:Nat) (v:Bool) (n:Nat) (k:Int) (hx:a.eval x=.pointer (some ⟨g,0,none⟩)) (hy:a.eval y=.agg (ep v n k).toArray) (t:TypeId) (old:List Value) (hb:aq w g t old) (hl:old.length=18)
  (h:wpList prog ops Q rest (a.put o.dst undef) (w.setRow g (ep v n k).toArray)):wpList prog ops Q (o::rest) a w:=
 wpList_store_row hgd 29 x y ho g _ hx hy t old.toArray hb (xy.trans (by simp[eL])) (by simp[eL,hl]) (Jv v n k) h
theorem ib{ops:Array Oper}{rest:List Oper}{o:Oper}{a:Act}{w:World}{Q:Exit→Act→World→Prop}(hgd:o.guard=none)(x:Operand)(ho:o.op=.load 24 x)
  (g:Nat) (hx:a.eval x=.pointer (some ⟨g,0,none⟩)) (t:TypeId) (v:Bool) (n:Nat) (hb:aq w g t (eA v n))
  (h:wpList prog ops Q rest (a.put o.dst (.agg (eA v n).toArray)) w):wpList prog ops Q (o::rest) a w:=vx hgd x ho g hx t v (an n) hb h
def gR:Array Value:=#[.bool false,.int .u8 0,.int .u8 0,.int .u8 0,.int .u8 0,.int .u8 0,.int .u8 0,.int .u8 0,.int .u8 0,.int .u8 0,.int .u8 0,.int .u8 0,.int .u8 0,.int .u8 0,.int .u8 0,.int .u8 0,.int .u8 0,.int .i64 0]
theorem Mq:gR=(ep false 0 0).toArray:=by kernel_rfl
theorem IJ{ops:Array Oper}{rest:List Oper}{o:Oper}{a:Act}{w:World}{Q:Exit→Act→World→Prop}(hgd:o.guard=none)(x y:Operand)(ho:o.op=.store 29 x y)
  (g:Nat) (hx:a.eval x=.pointer (some ⟨g,0,none⟩)) (hy:a.eval y=.agg gR) (t:TypeId) (old:List Value) (hb:aq w g t old) (hl:old.length=18)
  (h:wpList prog ops Q rest (a.put o.dst undef) (w.setRow g (ep false 0 0).toArray)):wpList prog ops Q (o::rest) a w:=
 Fw hgd x y ho g false 0 0 hx (by rw[hy,Mq]) t old hb hl h
theorem Ee{fn:Func}{p q:Tmp}(h:fn.results=#[.cell p 29,.tmp q])(tmps:Array Value)(w:World)(g:Nat)(v:Bool)(n:Nat)(k:Int)(t:TypeId)(u:Value)
  (hp:tmps.getD p undef=.pointer (some ⟨g,0,none⟩)) (hq:tmps.getD q undef=u) (hb:aq w g t (ep v n k)):(results fn tmps).run prog w=.ok (.tuple #[.agg (ep v n k).toArray,u]) w:=by
 have hp':tmps[p]?.getD undef=.pointer (some ⟨g,0,none⟩):=by simpa using hp
 have hq':tmps[q]?.getD undef=u:=by simpa using hq
 simp[results,h,hp',hq',asAddr,run_loadVar_row w g t 29 _ (0,0) _ hb underlying29 rfl (xy.trans (by simp[eL]))]
theorem OT(v:Bool)(n:Nat)(k:Int):prog.built 29 [(0,.agg (eA v n).toArray),(1,.int .i64 k)]=some (ep v n k).toArray:=by kernel_rfl
theorem OX{ops:Array Oper}{rest:List Oper}{o:Oper}{a:Act}{w:World}{Q:Exit→Act→World→Prop}(hg:o.guard=none)(x y:Operand)(ho:o.op=.build 29 #[(0,x),(1,y)])(v:Bool)(n:Nat)(k:Int)
  (hx:a.eval x=.agg (eA v n).toArray) (hy:a.eval y=.int .i64 k) (h:wpList prog ops Q rest (a.put o.dst (.agg (ep v n k).toArray)) w):wpList prog ops Q (o::rest) a w:=by
 have e:prog.built 29 ((#[(0,x),(1,y)]:Array (Nat×Operand)).map fun(i,z)=>(i,a.eval z)).toList=some (ep v n k).toArray:=by simp only[WE,Wn,Xb,hx,hy];exact OT v n k
 refine wpList_build hg 29 _ ho (by rw[e];rfl) ?_;rw[e];exact h
open Go.RowKit Go.Lib Go.Sort
def LY(w:World)(g o n:Nat):Prop:=∀j,j < 16→w.cell? ⟨g,o+j,none⟩=some (.int .u8 (an n j:Int))
theorem LY.aD{w w':World}{g o n:Nat}(h:LY w g o n)(hc:ah [] w w'):LY w' g o n:=fun j hj=>by have hl:=block_lt_of_cell (h j hj);rw[hc.cell hl (by simp)];exact h j hj
open Go.RowKit Go.Lib Go.Sort
open Go.RowKit Go.Lib Go.Sort
theorem PJ{ops:Array Oper}{rest:List Oper}{o:Oper}{a:Act}{w:World}{Q:Exit→Act→World→Prop}(hgd:Region.wanted o (yielded ops a.tmps)=true)(x:Operand)(ho:o.op=.load 29 x)
  (g:Nat) (hx:a.eval x=.pointer (some ⟨g,0,none⟩)) (t:TypeId) (v:Bool) (n:Nat) (k:Int) (hb:aq w g t (ep v n k))
  (h:wpList prog ops Q rest (a.put o.dst (.agg (ep v n k).toArray)) w):wpList prog ops Q (o::rest) a w:=by
 unfold wpList;rw[if_pos hgd];exact .inl (wp_load_row 29 x ho g hx t _ (0,0) _ hb underlying29 rfl (xy.trans (by simp[eL])) h)
theorem Te{ops:Array Oper}{rest:List Oper}{o:Oper}{a:Act}{w:World}{Q:Exit→Act→World→Prop}(hgd:Region.wanted o (yielded ops a.tmps)=true)(x:Operand)(ho:o.op=.load 24 x)
  (g:Nat) (hx:a.eval x=.pointer (some ⟨g,0,none⟩)) (t:TypeId) (v:Bool) (n:Nat) (k:Int) (hb:aq w g t (ep v n k))
  (h:wpList prog ops Q rest (a.put o.dst (.agg (eA v n).toArray)) w):wpList prog ops Q (o::rest) a w:=by
 unfold wpList;rw[if_pos hgd];exact .inl (wp_load_mid 24 x ho g 0 hx (eA v n) _ (fun j y hy=>hb.cell_of (by rw[Ws];exact xK v n k j y hy)) underlying24 rfl (kK.trans (by rw[ed])) h)
theorem Td{ops:Array Oper}{rest:List Oper}{o:Oper}{a:Act}{w:World}{Q:Exit→Act→World→Prop}(hgd:o.guard=none)(x:Operand)(ho:o.op=.load 24 x)
  (g:Nat) (hx:a.eval x=.pointer (some ⟨g,0,none⟩)) (t:TypeId) (v:Bool) (n:Nat) (k:Int) (hb:aq w g t (ep v n k))
  (h:wpList prog ops Q rest (a.put o.dst (.agg (eA v n).toArray)) w):wpList prog ops Q (o::rest) a w:=
 Te (by unfold Region.wanted;rw[hgd]) x ho g hx t v n k hb h
open Go.RowKit Go.Lib Go.Sort
open Go.RowKit Go.Lib Go.Sort
def CK(v:Bool)(n:Nat):List Lit:=.bool v::Hr (an n)
def NR(v:Bool)(n:Nat)(k:Int):List Lit:=CK v n++[.int .i64 k]
theorem NS(v v':Bool)(n m:Nat)(hn:n < 2^128)(hm:m < 2^128):CK v n=CK v' m↔v=v'∧n=m:=by
 unfold CK;rw[List.cons.injEq,Fj,oc hn hm,decide_eq_true_eq];constructor
 ·rintro⟨h1,h2⟩
  injection h1 with h1;exact⟨h1,h2⟩
 ·rintro⟨rfl,rfl⟩
  exact⟨rfl,rfl⟩
theorem Ab(v:Bool)(n:Nat):(CK v n).length=17:=by simp[CK,Hr]
theorem NQ(v v':Bool)(n m:Nat)(k j:Int)(hn:n < 2^128)(hm:m < 2^128):NR v n k=NR v' m j↔v=v'∧n=m∧k=j:=by
 unfold NR;constructor
 ·intro h
  obtain⟨h1,h2⟩:=List.append_inj h (by rw[Ab,Ab]);obtain⟨h3,h4⟩:=(NS v v' n m hn hm).1 h1;injection h2 with h2;injection h2 with _ h2;exact⟨h3,h4,h2⟩
 ·rintro⟨rfl,rfl,rfl⟩
  rfl
theorem Fh:prog.cellsOf 24=17:=by kernel_rfl
theorem yA:prog.cellsOf 29=18:=by kernel_rfl
theorem Rw:prog.cellsOf 4=1:=by kernel_rfl
theorem Rx:prog.cellsOf 3=1:=by kernel_rfl
theorem Uy(d:Nat)(v:Bool):prog.keyLits (d+1) 4 [.bool v]=some [.bool v]:=by simp[Program.keyLits,underlying4]
theorem Uz(d:Nat)(k:Int)(h0 : -9223372036854775808≤k)(h1:k≤9223372036854775807):prog.keyLits (d+1) 3 [.int .i64 k]=some [.int .i64 k]:=by
 have hw:(Lit.int .i64 k).wf=true:=by simp[Lit.wf,WS,WT,WB,WM];omega
 simp[Program.keyLits,underlying3,hw]
theorem LG(v:Bool)(n:Nat):((eA v n).drop 1).take 16=gf (an n):=by unfold eA az gf;rw[List.drop_one,List.tail_cons,VV (by simp)]
theorem QQ(d:Nat)(v:Bool)(n:Nat):prog.keyLits (d+3) 24 (eA v n)=some (CK v n):=by have h1:=Uy (d+1) v;have h2:=CJ d (an n) (bH n);have h3:=LG v n;have h4:((eA v n).drop 0).take 1=[.bool v]:=rfl;unfold Program.keyLits;rw[underlying24];simp only;rw[if_pos ⟨by rw[Fh,ed],by simp⟩];simp only[Wl,WW,Rw,sd,h3,h4,h1,h2];rfl
theorem Kc(d:Nat)(v:Bool)(n:Nat)(k:Int)(h0 : -9223372036854775808≤k)(h1:k≤9223372036854775807):prog.keyLits (d+4) 29 (ep v n k)=some (NR v n k):=by
 have e1:=QQ d v n;have e2:=Uz (d+2) k h0 h1;have e3:((ep v n k).drop 0).take 17=eA v n:=by unfold ep;rw[List.drop_zero,Wi (ed v n)]
 have e4:((ep v n k).drop 17).take 1=[.int .i64 k]:=by unfold ep;rw[VY (ed v n)];rfl
 unfold Program.keyLits;rw[underlying29];simp only;rw[if_pos ⟨by rw[yA,eL],by simp⟩];simp only[Wl,WW,Fh,Rx,e1,e2,e3,e4];rfl
theorem UH(v v':Bool)(n m:Nat)(k j:Int)(hn:n < 2^128)(hm:m < 2^128)(hk : -9223372036854775808≤k∧k≤9223372036854775807)(hj : -9223372036854775808≤j∧j≤9223372036854775807)(W:World):(Op.equalIn 10000 29 (.agg (ep v n k).toArray) (.agg (ep v' m j).toArray)).run prog W=.ok (decide (v=v'∧n=m∧k=j)) W:=by
 obtain⟨r,h1,h2⟩:=run_equalIn_deep (P:=prog) 9995 5 29 (by kernel_rfl) W 5 5 (.agg (ep v n k).toArray) (.agg (ep v' m j).toArray) _ _ (by simp[Wd,underlying29,yA,eL]) (by simp[Wd,underlying29,yA,eL]) (Kc 1 v n k hk.1 hk.2) (Kc 1 v' m j hj.1 hj.2);simp only[WZ]at h1;rw[NQ v v' n m k j hn hm]at h2;have e:r=decide (v=v'∧n=m∧k=j):=by rw[WO,h2,decide_eq_true_eq]
 rw[h1,e]
theorem Oj(op:BinOp)(x y:Operand)(a b:Array Value)(W:World):(eqGuard op 29 x y (.agg a) (.agg b)).run prog W=.ok () W:=by cases op<;>kernel_rfl
end Go.Proofs.YtnncigmpcdehnaaGreatDoor
