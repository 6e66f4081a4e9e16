import Derived.Test.YtnncigmpcdehnaaGreatDoorQc09
import Derived.Test.YtnncigmpcdehnaaGreatDoorQc11
import Derived.Lib.OthersKept
import Derived.Laws.RangeAny
import Derived.Deep.CutRange
namespace Go.Proofs.YtnncigmpcdehnaaGreatDoor
open Go.RowKit Go.Lib Go.Sort
def Cq(i:Nat)(c:UInt8):Bool:=(decide (97≤c.toNat)&&decide (c.toNat≤122))||(decide (0 < i)&&(decide (48≤c.toNat)&&decide (c.toNat≤57)||decide (c.toNat=45)||decide (c.toNat=95)))
def aG(l:List UInt8):Bool:=decide (1≤l.length)&&decide (l.length≤16)&&(List.range l.length).all fun i=>Cq i (l[i]?.getD 0)
theorem j7{l:List UInt8}{i:Nat}{c:UInt8}(h:l[i]?=some c)(hc:Cq i c=false):aG l=false:=by
 have hlt:i < l.length:=(List.getElem?_eq_some_iff.1 h).1
 unfold aG
 rw[Bool.and_eq_false_iff]
 right
 rw[List.all_eq_false]
 exact⟨i,List.mem_range.2 hlt,by rw[h];simpa using hc⟩
theorem DP{l:List UInt8}(h1:1≤l.length)(h2:l.length≤16)(h:∀i c,l[i]?=some c→Cq i c=true):aG l=true:=by
 unfold aG
 rw[decide_eq_true h1,decide_eq_true h2,Bool.true_and,Bool.true_and,List.all_eq_true]
 intro i hi
 have hlt:=List.mem_range.1 hi
 rw[List.getElem?_eq_getElem hlt]
 exact h i _ (List.getElem?_eq_getElem hlt)
theorem JX{i:Nat}{c:UInt8}{x:Int}(hx:x=(c.toNat:Int))(h1:97≤x)(h2:x≤122):Cq i c=true:=by
 unfold Cq
 rw[decide_eq_true (show 97≤c.toNat by omega),decide_eq_true (show c.toNat≤122 by omega)]
 rfl
theorem vO{i:Nat}{c:UInt8}{x:Int}(hx:x=(c.toNat:Int))(hi:0 < i)(h:(48≤x∧x≤57)∨x=45∨x=95):Cq i c=true:=by
 unfold Cq
 rw[decide_eq_true hi]
 rcases h with⟨h1,h2⟩ | h|h
 ·rw[decide_eq_true (show 48≤c.toNat by omega),decide_eq_true (show c.toNat≤57 by omega)];simp
 ·rw[decide_eq_true (show c.toNat=45 by omega)];simp
 ·rw[decide_eq_true (show c.toNat=95 by omega)];simp
theorem uH{i:Nat}{c:UInt8}{x:Int}(hx:x=(c.toNat:Int))(h1:¬(97≤x∧x≤122))(h2:¬(0 < i∧((48≤x∧x≤57)∨x=45∨x=95))):Cq i c=false:=by
 unfold Cq
 apply Bool.eq_false_iff.2
 intro h
 simp only[Bool.or_eq_true,Bool.and_eq_true,decide_eq_true_eq]at h
 omega
theorem Jr(s:ByteArray)(pos:Nat)(h:pos < s.size):((s[pos]'h).toNat < 128∧Utf8.decode s pos=((s[pos]'h).toNat,1))∨(128≤(s[pos]'h).toNat∧128≤(Utf8.decode s pos).1):=by
 by_cases ha:(s[pos]'h).toNat < 128
 ·exact .inl ⟨ha,decode_ascii s pos h ha⟩
 ·exact .inr ⟨by omega,(decode_high s pos h (by omega)).1⟩
set_option maxRecDepth 100000
open Go.RowKit Go.Lib Go.Sort
def wZ(code at_:Int)(w:World)(chain:List PanicEntry)(w':World):Prop:=
 ∃N,chain=[{ v:=.iface 103 (.pointer (some ⟨N,0,none⟩)),recovered:=false }]∧w.heap.size≤N∧aq w' N 105 [.int .i64 code,.int .i64 at_]
set_option maxHeartbeats 4000000 in
theorem mg(lp:Value)(code at_:Int)(w:World):Calls Tryz.prog 94 #[lp,.int .i64 code,.int .i64 at_] w fun e w'=>∃chain,e=.panicked chain∧wZ code at_ w chain w'∧ah [] w w':=by
 go_enter Tryz.func94,Tryz.ntmps94
 go_wp2
 refine⟨rfl,_,rfl,⟨w.heap.size,rfl,Nat.le_refl _,?_⟩,(ah.refl [] w).alloc _⟩
 exact aq.new w 105 #[.int .i64 code,.int .i64 at_]
open Go.RowKit Go.Lib Go.Sort
theorem Dq(s:ByteArray)(lo hi:Nat)(h:lo≤hi)(h2:hi≤s.size)(W:World):(Instr.sliceAt 9 (.string s) (some (.int .i64 lo)) (some (.int .i64 hi)) none).run Tryz.prog W=.ok (.string (s.extract lo hi)) W:=by
 simp[Instr.sliceAt,run_underlying Tryz.underlying9,Instr.slice,Instr.sliceBounds,Instr.sliceBound,asIntOf,h,h2]
theorem vr(x y:Operand)(a b:List UInt8)(h:a.length+b.length≤9000000000000000000)(W:World):(do eqGuard .add 9 x y (.string ⟨a.toArray⟩) (.string ⟨b.toArray⟩);binOp .add 9 (.string ⟨a.toArray⟩) (.string ⟨b.toArray⟩):Sem Value).run Tryz.prog W=.ok (.string ⟨(a++b).toArray⟩) W:=by
 have e:¬(((⟨a.toArray⟩:ByteArray).size+(⟨b.toArray⟩:ByteArray).size:Nat):Int) > IntKind.i64.max:=by
  have:IntKind.i64.max=9223372036854775807:=by decide
  rw[this]
  simp[ByteArray.size]
  omega
 show(Op.stringOp .add (⟨a.toArray⟩) (⟨b.toArray⟩)).run Tryz.prog W=_
 unfold Op.stringOp
 simp only[if_neg e]
 show Result.ok (Value.string (⟨a.toArray⟩++⟨b.toArray⟩)) W=_
 congr 2
theorem iw{a b:Int}(h:a=b):Value.int .i64 a=.int .i64 b:=by rw[h]
theorem jR{a:Int}(h0 : -9223372036854775808≤a)(h1:a≤9223372036854775807):IntKind.i64.wrap a=a:=IntWalk.i64_in _ ⟨h0,h1⟩
theorem bz{a b:Bool}(h:a=b):Value.bool a=.bool b:=by rw[h]
section
variable{v:Bool}{n:Nat}{w:World}{Kr:Sx.St→Prop}
end
section
variable{n a k:Nat}{w:World}{Kr:Sx.St→Prop}
end
open Go.RowKit Go.Lib Go.Sort
def u8(c:UInt8):Value:=.int .u8 (c.toNat:Int)
theorem gA(s:List UInt8)(i:Nat)(c:UInt8)(h:s[i]?=some c)(W:World):(Instr.index 9 (.string ⟨s.toArray⟩) (.int .i64 (i:Int))).run Tryz.prog W=.ok (u8 c) W:=by
 obtain⟨hlt,hc⟩:=List.getElem?_eq_some_iff.1 h
 rw[run_index_string W 9 ⟨s.toArray⟩ .i64 (i:Int) Tryz.underlying9,dif_pos ⟨by omega,by simpa[ByteArray.size]using hlt⟩]
 subst hc
 simp[u8,ByteArray.getElem_eq_getElem_data]
theorem jD(s:List UInt8):Value.int .i64 (((⟨s.toArray⟩:ByteArray).size:Nat):Int)=.int .i64 (s.length:Int):=iw (by simp[ByteArray.size])
theorem gF{b:Bool}(h:b=true):Value.bool b=.bool true:=by rw[h]
theorem iB{b:Bool}(h:b=false):Value.bool b=.bool false:=by rw[h]
set_option maxRecDepth 100000
open Go.RowKit Go.Lib Go.Sort
theorem wZ.up{code at_:Int}{w W w':World}{chain:List PanicEntry}(h:wZ code at_ W chain w')(hs:w.heap.size≤W.heap.size):wZ code at_ w chain w':=by
 obtain⟨N,h1,h2,h3⟩:=h
 exact⟨N,h1,Nat.le_trans hs h2,h3⟩
theorem jb{P:Program}{f:FuncId}{args:Array Value}{b:Sx.a7}{W:World}{vs:List Value}{ps:List (Nat×Nat)}(h:Calls P f args W fun e w'=>∃chain,e=.panicked chain∧b.PP chain w'∧ah [] W w'):Calls P f args W (Sx.ue b W vs (.DJ ps)):=
 h.mono fun _ _ ⟨ch,he,hp,hc⟩=>⟨ch,[],he,hp,hc,fun _ hx=>by cases hx⟩
theorem I0(g:Nat)(ws:Value)(at_ code:Int)(w:World)(hb:aq w g 154 [ws,.int .i64 at_]):Calls Tryz.prog 191 #[.pointer (some ⟨g,0,none⟩),.bool false,.int .i64 code] w (Sx.gk ⟨w,[g],wZ code at_ w⟩ fun _ _=>False):=by
 have c14:=fun W (hW:ah [g] w W) (_:aq W g 154 [ws,.int .i64 at_])=>jb (b:=⟨w,[g],wZ code at_ w⟩) (vs:=[.pointer (some ⟨g,0,none⟩),.int .i64 code,.int .i64 at_]) (ps:=[(0,0)]) ((mg (.pointer (some ⟨g,0,none⟩)) code at_ W).mono fun _ _ ⟨ch,he,hf,hc⟩=>⟨ch,he,hf.up hW.size,hc⟩)
 have z0:=trivial
 refine Sx.gP (args:=[.ptr 0 0,.val (.bool false),.val (.int .i64 code)]) [(g,154,[ws,.int .i64 at_])] (by simpa using hb) (by simp) (wZ code at_ w) [(14,.jk)] [] (by kernel_rfl) Tryz.func191 rfl (Nat.le_of_ble_eq_true rfl) rfl ?_
 exact Eq.mp (by kernel_rfl) (And.intro c14 z0)
theorem EW(lp:Value)(code:Int)(w:World):Calls Tryz.prog 191 #[lp,.bool true,.int .i64 code] w fun e w'=>e=.returned (.tuple #[])∧ah [] w w':=by
 have z0:Value.tuple #[]=.tuple #[]:=rfl
 refine Sx.eC (args:=[lp,.bool true,.int .i64 code]) [] [] (by kernel_rfl) Tryz.func191 rfl (Nat.le_of_ble_eq_true rfl) ?_
 exact Eq.mp (by kernel_rfl) z0
def cW(A:Option Go.Addr)(n c:Nat)(at_:Nat):List Value:=[.slice A n c,.int .i64 (at_:Int)]
theorem JZ(g:Nat)(A:Option Go.Addr)(n c:Nat)(hn:n≤1000000)(w:World)(hb:aq w g 154 (cW A n c n)):Calls Tryz.prog 154 #[.pointer (some ⟨g,0,none⟩)] w (Sx.gk ⟨w,[g],wZ 200 ((n:Int)+1) w⟩ fun _ _=>False):=by
 have c12:Value.bool ((n:Int)==(n:Int))=.bool true:=gF (by simp)
 have c18:Value.int .i64 (IntKind.i64.wrap ((n:Int)+1))=.int .i64 ((n:Int)+1):=iw (jR (by omega) (by omega))
 have c19:=fun W (hW:ah [g] w W) (_:aq W g 154 (cW A n c n))=>jb (b:=⟨w,[g],wZ 200 ((n:Int)+1) w⟩) (vs:=[.pointer (some ⟨g,0,none⟩),.int .i64 200,.int .i64 ((n:Int)+1)]) (ps:=[(0,0)]) ((mg (.pointer (some ⟨g,0,none⟩)) 200 ((n:Int)+1) W).mono fun _ _ ⟨ch,he,hf,hc⟩=>⟨ch,he,hf.up hW.size,hc⟩)
 have z0:=trivial
 refine Sx.gP (args:=[.ptr 0 0]) [(g,154,cW A n c n)] (by simpa using hb) (by simp) (wZ 200 ((n:Int)+1) w) [(12,.is (.bool true)),(18,.is (.int .i64 ((n:Int)+1))),(19,.jk)] [] (by kernel_rfl) Tryz.func154 rfl (Nat.le_of_ble_eq_true rfl) rfl ?_
 exact Eq.mp (by kernel_rfl) (Sx.t2 c12 c18 (And.intro c19 z0))
open Go Go.RowKit Go.Lib Go.Sort
theorem Js{P:Program}{t:TypeId}{b off:Nat}{d:TypeDesc}{v:Value}(hu:P.underlying t=some d)(hd:d.isRow=false){W:World}(hc:W.cell? ⟨b,off,none⟩=some v) :
  (Instr.loadAt t (.pointer (some ⟨b,off,none⟩))).run P W=.ok v W:=by
 have hagg:(isAgg t).run P W=.ok false W:=by
  unfold isAgg
  rw[Sem.run_bind,run_underlying hu W]
  cases d<;>simp_all
 rw[Sx.oD]
 simp[loadVar,Sem.run_bind,hagg,load,Sem.run,hc]
theorem Dt{P:Program}{s:TypeId}{fields:Array Field}{f:Nat}{fd:Field}{k b off:Nat}(hu:P.underlying s=some (.struct fields))(hf:fields[f]?=some fd)(hk:(P.info? fd.type).map (·.size)=some (k+1))(W:World) :
  (Instr.fieldAt s (.pointer (some ⟨b,off,none⟩)) f).run P W=.ok (.pointer (some ⟨b,off+fd.offset,none⟩)) W:=by
 cases hq:P.info? fd.type with
 |none=>rw[hq]at hk;cases hk
 |some inf=>
  rw[hq]at hk
  have hk:inf.size=k+1:=by simpa using hk
  simp[Instr.fieldAt,run_underlying hu,hf,Instr.sureAddr,fieldPlace,sizeOf,typeInfo,hq,hk,Addr.add_lit]
set_option maxRecDepth 100000
open Go.RowKit Go.Lib Go.Sort
structure zG(w:World)(S:List Nat)(A:Option Go.Addr)(n:Nat)(ws:List (List UInt8)):Prop where
 len:ws.length=n
 row:0 < n→∃b o,A=some ⟨b,o,none⟩∧b∉S∧b < w.heap.size∧∀(j:Nat) (x:List UInt8),ws[j]?=some x→w.cell? ⟨b,o+j,none⟩=some (.string ⟨x.toArray⟩)
theorem zG.az{w w':World}{S:List Nat}{A:Option Go.Addr}{n:Nat}{ws:List (List UInt8)}(h:zG w S A n ws)(hc:ah S w w'):zG w' S A n ws:=
 ⟨h.len,fun h0=>by
  obtain⟨b,o,h1,h2,h3,h4⟩:=h.row h0
  exact⟨b,o,h1,h2,Nat.lt_of_lt_of_le h3 hc.size,fun j x hx=>(hc.cell (p:=⟨b,o+j,none⟩) h3 h2).trans (h4 j x hx)⟩⟩
theorem zG.sub{w:World}{S S':List Nat}{A:Option Go.Addr}{n:Nat}{ws:List (List UInt8)}(h:zG w S A n ws)(hs:∀x∈S',x∈S):zG w S' A n ws:=
 ⟨h.len,fun h0=>by
  obtain⟨b,o,h1,h2,h3,h4⟩:=h.row h0
  exact⟨b,o,h1,fun hb=>h2 (hs b hb),h3,h4⟩⟩
theorem zG.cons{w w':World}{S:List Nat}{A:Option Go.Addr}{n x:Nat}{ws:List (List UInt8)}(h:zG w S A n ws)(hc:ah S w w')(hx:w.heap.size≤x):zG w' (x::S) A n ws:=
 ⟨h.len,fun h0=>by
  obtain⟨b,o,h1,h2,h3,h4⟩:=h.row h0
  refine⟨b,o,h1,fun hb=>?_,Nat.lt_of_lt_of_le h3 hc.size,fun j y hy=>(hc.cell (p:=⟨b,o+j,none⟩) h3 h2).trans (h4 j y hy)⟩
  rcases List.mem_cons.1 hb with rfl|hb
  ·omega
  ·exact h2 hb⟩
theorem zG.at{w:World}{S:List Nat}{A:Option Go.Addr}{n c:Nat}{ws:List (List UInt8)}(h:zG w S A n ws){i:Nat}{x:List UInt8}(hx:ws[i]?=some x) :
  ∃p,(∀W,(Instr.indexAt 70 (.slice A n c) (.int .i64 (i:Int))).run Tryz.prog W=.ok p W)∧∀W,ah S w W→(Instr.loadAt 9 p).run Tryz.prog W=.ok (.string ⟨x.toArray⟩) W:=by
 have hi:i < n:=by rw[←h.len];exact(List.getElem?_eq_some_iff.1 hx).1
 obtain⟨b,o,rfl,hb,_,hr⟩:=h.row (by omega)
 refine⟨.pointer (some ⟨b,o+i,none⟩),fun W=>?_,fun W hW=>?_⟩
 ·have hs:(Tryz.prog.info? 9).map (·.size)=some 1:=by kernel_rfl
  cases hq:Tryz.prog.info? 9 with
  |none=>rw[hq]at hs;cases hs
  |some inf=>
   rw[hq]at hs
   have hs:inf.size=1:=by simpa using hs
   simp[Instr.indexAt,run_underlying Tryz.underlying70,asIntOf,hi,sizeOf,typeInfo,hq,hs,Addr.add_lit]
 ·obtain⟨_,_,h1,_,_,h4⟩:=(h.az hW).row (by omega)
  injection h1 with h1
  injection h1 with h1 h2 h3
  subst h1 h2
  exact Js Tryz.underlying9 rfl (h4 i x hx)
end Go.Proofs.YtnncigmpcdehnaaGreatDoor
